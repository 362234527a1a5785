/-
  The walk of the law OpenKnown.
-/
import Derived.Test.YthafedmlbialiaaDoorE8
import Derived.Test.YthafedmlbialiaaDoorE2
import Derived.Test.YthafedmlbialiaaDoorD5
namespace Go.Proofs.YthafedmlbialiaaDoor
open Go.RowKit Go.Proofs.YthafedmlbialiaaDoorW.PrintWords Go.Proofs.YthafedmlbialiaaDoorW.PrintLast Go.Proofs.YthafedmlbialiaaDoorW.PrintMore
set_option linter.unusedVariables false
set_option linter.unusedSimpArgs false

theorem made6R (W : World) (n : Nat) (hn : n ≤ 1000) : (Kd.int .u8).R 5 (W.alloc (.cells (madeCells #[.int .u8 0] n) 5)) W.heap.size (fun _ => True) (.slice (some ⟨W.heap.size, 0, none⟩) n n) (List.replicate n 0) := by
  have h := own_made W W.heap.size 5 .u8 n (Nat.le_refl _) (by omega)
  refine Kd.R_of_own ?_ (fun _ _ => trivial)
  rw [List.length_replicate]
  exact h
/-- make([]byte, n), as the walk meets it. -/
theorem mk86 (n : Nat) (hn : n ≤ 1000) (z : Array Value) (hz : madeCells #[.int .u8 0] n = z) : ∀ W : World, (Instr.makeSlice 22 (.int .i64 (n : Int)) (.int .i64 (n : Int))).run Tryd.prog W = .ok (.slice (some ⟨W.heap.size, 0, none⟩) n n) (W.alloc (.cells z 5)) := by
  intro W
  rw [← hz]
  exact print_make (P := Tryd.prog) 22 5 .u8 1 Tryd.underlying22 info5 (by decide) n (by omega) W
theorem lit6_C61 (W : World) (xs : List PA.S61) (cs : List Value) (h : Reps (PA.k61.K W) 2 xs cs) (hl : xs.length ≤ 1000) : PA.k61.C (W.alloc (.cells cs.toArray 61)) (some ⟨W.heap.size, 0, none⟩) xs.length xs := by
  have h0 := OwnRow.lit (e := 61) W W.heap.size h (Nat.le_refl _) (by omega)
  obtain ⟨A, c, he, _, hr⟩ := OwnRow.reads h0
  injection he with h1 h2 h3
  rw [← h1] at hr
  exact ReadsRow.imp_ hr (Below.refl _ _) (fun p c hp => PA.k61.K_below (below_alloc (Below.refl _ _) _) hp)
theorem kcap6 (W : World) (cd : Int) (ys : List Int) {A : Option Addr} {c : Nat} (hl : ys.length ≤ c) (h : (Kd.int .u8).C W A ys.length ys) : PA.k61.K W ⟨cd, ys⟩ [.int .u8 cd, .slice A ys.length c] := PA.k61_mk W ⟨cd, ys⟩ hl h
theorem wf6_of {l : List PA.S61} (h : ∀ x, x ∈ l → x.f1.length ≤ 260 ∧ ∀ b, b ∈ x.f1 → 0 ≤ b ∧ b < 256) : CapsWf l := fun x hx => ⟨by have := (h x hx).1; omega, (h x hx).2⟩
def NS6 (u v : Value) : List (Tmp × Value) := [(46, u), (47, .agg #[.int .u8 0, u]), (48, v), (49, .agg #[.int .u8 0, v])]
def oA : List PA.S61 := [⟨1, [0, 2, 0, 1]⟩]
def kE : List PA.S61 := [⟨0, List.replicate 253 0⟩, ⟨0, List.replicate 9 0⟩]
theorem kE_put : oPut 0 0 0 0 kE = ([], 3) := by kernel_rfl
theorem kE_len : (capsBytes kE).1.length ≤ 255 := by rw [show capsBytes kE = ([], 3) by kernel_rfl]; decide
theorem kF_put : oPut 0 0 0 0 [⟨0, List.replicate 254 0⟩] = ([], 1) := by kernel_rfl
theorem kF_len : (capsBytes [⟨0, List.replicate 254 0⟩]).1.length ≤ 255 := by rw [show capsBytes [⟨0, List.replicate 254 0⟩] = ([], 1) by kernel_rfl]; decide
def ob : List Int := [4, 253, 233, 0, 180, 192, 0, 2, 1, 16, 2, 14, 1, 4, 0, 1, 0, 1, 2, 0, 65, 4, 0, 0, 253, 233]
theorem ob_put : oPut 4 65001 180 3221225985 (ours 65001) = (ob, 0) := by kernel_rfl
theorem ob_len : (capsBytes (ours 65001)).1.length ≤ 255 := by rw [show (capsBytes (ours 65001)).1.length = 16 by kernel_rfl]; decide
theorem og9 : oGet [4, 253, 233, 0, 180, 192, 0, 2, 1] = (.zero, 2, 0, []) := by kernel_rfl
theorem og4 : oGet [4, 0, 1, 0, 0, 0, 0, 0, 1, 2, 1, 0] = (.zero, 2, 4, []) := by kernel_rfl
theorem og0 : oGet [4, 0, 1, 0, 0, 0, 0, 0, 1, 2, 2, 1] = (.zero, 2, 0, []) := by kernel_rfl
theorem ours_short : shortOf 65001 = 65001 := rfl
/-! ### The closures -/
/-- What a closure that changes an OPEN makes of its block. -/
def Chg (f : Nat) (cap : Array Value) (w0 : World) (A : Option Addr) (n c : Nat) (an hold id : Int) (A' : Option Addr) (n' c' : Nat) : Prop :=
  ∀ w M, w0.heap.size ≤ M → Below w0.heap.size w0 w → Bk41 w M 4 65001 180 3221225985 A n c →
    Calls Tryd.prog f (#[.pointer (some ⟨M, 0, none⟩)] ++ cap) w fun e w' => e = .returned (.tuple #[]) ∧ Bk41 w' M 4 an hold id A' n' c' ∧ Below M w w'
set_option maxHeartbeats 1600000
theorem chg47 (w0 : World) (A : Option Addr) (n c : Nat) : Chg 47 #[] w0 A n c 65001 180 3221225985 A n c := by
  intro w M hM hB hb
  show Calls Tryd.prog 47 #[.pointer (some ⟨M, 0, none⟩)] w _
  go_enter Tryd.func47, Tryd.ntmps47
  go_wp2
  go_end0
  exact ⟨rfl, hb, Below.refl _ _⟩
theorem chg48 (w0 : World) (A : Option Addr) (n c : Nat) : Chg 48 #[] w0 A n c 9 180 3221225985 A n c := by
  intro w M hM hB hb
  show Calls Tryd.prog 48 #[.pointer (some ⟨M, 0, none⟩)] w _
  have c0 := blk_cell hb 1
  have f0 := blk_frozen hb 1
  simp at c0
  have h1 := blk_put hb 1 (.int .u16 9) rfl
  have b1 := (Below.refl M w).setCell (p := ⟨M, 1, none⟩) (Nat.le_refl _) (.int .u16 9)
  go_enter Tryd.func48, Tryd.ntmps48
  go_wp2
  go_end0
  exact ⟨rfl, h1, b1⟩
theorem chg49 (w0 : World) (A : Option Addr) (n c : Nat) : Chg 49 #[] w0 A n c 65001 180 0 A n c := by
  intro w M hM hB hb
  show Calls Tryd.prog 49 #[.pointer (some ⟨M, 0, none⟩)] w _
  have c0 := blk_cell hb 3
  have f0 := blk_frozen hb 3
  simp at c0
  have h1 := blk_put hb 3 (.int .u32 0) rfl
  have b1 := (Below.refl M w).setCell (p := ⟨M, 3, none⟩) (Nat.le_refl _) (.int .u32 0)
  go_enter Tryd.func49, Tryd.ntmps49
  go_wp2
  go_end0
  exact ⟨rfl, h1, b1⟩
theorem chg50 (w0 : World) (A : Option Addr) (n c : Nat) : Chg 50 #[] w0 A n c 65001 180 3758096385 A n c := by
  intro w M hM hB hb
  show Calls Tryd.prog 50 #[.pointer (some ⟨M, 0, none⟩)] w _
  have c0 := blk_cell hb 3
  have f0 := blk_frozen hb 3
  simp at c0
  have h1 := blk_put hb 3 (.int .u32 3758096385) rfl
  have b1 := (Below.refl M w).setCell (p := ⟨M, 3, none⟩) (Nat.le_refl _) (.int .u32 3758096385)
  go_enter Tryd.func50, Tryd.ntmps50
  go_wp2
  go_end0
  exact ⟨rfl, h1, b1⟩
theorem chg51 (w0 : World) (A : Option Addr) (n c : Nat) : Chg 51 #[] w0 A n c 65001 2 3221225985 A n c := by
  intro w M hM hB hb
  show Calls Tryd.prog 51 #[.pointer (some ⟨M, 0, none⟩)] w _
  have c0 := blk_cell hb 2
  have f0 := blk_frozen hb 2
  simp at c0
  have h1 := blk_put hb 2 (.int .u16 2) rfl
  have b1 := (Below.refl M w).setCell (p := ⟨M, 2, none⟩) (Nat.le_refl _) (.int .u16 2)
  go_enter Tryd.func51, Tryd.ntmps51
  go_wp2
  go_end0
  exact ⟨rfl, h1, b1⟩
theorem chg52 (w0 : World) (A : Option Addr) (n c : Nat) : Chg 52 #[] w0 A n c 65001 0 3221225985 A n c := by
  intro w M hM hB hb
  show Calls Tryd.prog 52 #[.pointer (some ⟨M, 0, none⟩)] w _
  have c0 := blk_cell hb 2
  have f0 := blk_frozen hb 2
  simp at c0
  have h1 := blk_put hb 2 (.int .u16 0) rfl
  have b1 := (Below.refl M w).setCell (p := ⟨M, 2, none⟩) (Nat.le_refl _) (.int .u16 0)
  go_enter Tryd.func52, Tryd.ntmps52
  go_wp2
  go_end0
  exact ⟨rfl, h1, b1⟩
theorem chg53 (w0 : World) (A : Option Addr) (n c : Nat) : Chg 53 #[] w0 A n c 65001 3 3221225985 A n c := by
  intro w M hM hB hb
  show Calls Tryd.prog 53 #[.pointer (some ⟨M, 0, none⟩)] w _
  have c0 := blk_cell hb 2
  have f0 := blk_frozen hb 2
  simp at c0
  have h1 := blk_put hb 2 (.int .u16 3) rfl
  have b1 := (Below.refl M w).setCell (p := ⟨M, 2, none⟩) (Nat.le_refl _) (.int .u16 3)
  go_enter Tryd.func53, Tryd.ntmps53
  go_wp2
  go_end0
  exact ⟨rfl, h1, b1⟩
theorem chg55 (w0 : World) (A : Option Addr) (n c : Nat) : Chg 55 #[] w0 A n c 65001 180 3221225985 none 0 0 := by
  intro w M hM hB hb
  show Calls Tryd.prog 55 #[.pointer (some ⟨M, 0, none⟩)] w _
  have c0 := blk_cell hb 4
  have f0 := blk_frozen hb 4
  simp at c0
  have h1 := blk_put hb 4 (.slice none 0 0) rfl
  have b1 := (Below.refl M w).setCell (p := ⟨M, 4, none⟩) (Nat.le_refl _) (.slice none 0 0)
  go_enter Tryd.func55, Tryd.ntmps55
  go_wp2
  go_end0
  exact ⟨rfl, h1, b1⟩
theorem chg54 (w0 : World) (A : Option Addr) (n c T : Nat) (hT : T < w0.heap.size) (A' : Option Addr) (n' c' : Nat) (ht : w0.cell? ⟨T, 0, none⟩ = some (.slice A' n' c')) :
    Chg 54 #[.pointer (some ⟨T, 0, none⟩)] w0 A n c 65001 180 3221225985 A' n' c' := by
  intro w M hM hB hb
  show Calls Tryd.prog 54 #[.pointer (some ⟨M, 0, none⟩), .pointer (some ⟨T, 0, none⟩)] w _
  have c1 := blk_cell hb 1
  have f1 := blk_frozen hb 1
  have c4 := blk_cell hb 4
  have f4 := blk_frozen hb 4
  simp at c1 c4
  have ht' := (hB.cell (p := ⟨T, 0, none⟩) hT).trans ht
  have hne : T ≠ M := by omega
  have h1 := blk_put (blk_put (blk_drew hb) 1 (.int .u16 65001) rfl) 4 (.slice A' n' c') rfl
  have h2 := blk_put (blk_put (blk_drew hb) 4 (.slice A' n' c') rfl) 1 (.int .u16 65001) rfl
  have b1 := ((below_drew (Below.refl M w)).setCell (p := ⟨M, 1, none⟩) (Nat.le_refl _) (.int .u16 65001)).setCell (p := ⟨M, 4, none⟩) (Nat.le_refl _) (.slice A' n' c')
  have b2 := ((below_drew (Below.refl M w)).setCell (p := ⟨M, 4, none⟩) (Nat.le_refl _) (.slice A' n' c')).setCell (p := ⟨M, 1, none⟩) (Nat.le_refl _) (.int .u16 65001)
  have X := Aside0.mk (And.intro (And.intro h1 b1) (And.intro h2 b2))
  clear h1 h2 b1 b2 hb hB
  go_enter Tryd.func54, Tryd.ntmps54
  go_wp2
  go_region
  all_goals (go_end0; first | exact ⟨rfl, X.out.1.1, X.out.1.2⟩ | exact ⟨rfl, X.out.2.1, X.out.2.2⟩)

/-- What check hands back. -/
def chkRes (an hold id : Int) (l : List PA.S61) : Int := if (oCheck an hold id l 65001 9 false).1 = 2 then (oCheck an hold id l 65001 9 false).2.1 else 0
set_option maxRecDepth 100000 in
theorem check_calls (w : World) (hU : GlobU w) (hO : GlobO w) (T : Nat) (A : Option Addr) (n c : Nat) (hT : Bk41 w T 4 65001 180 3221225985 A n c) (f : Nat) (cap : Array Value) (an hold id : Int) (A' : Option Addr) (c' : Nat) (l : List PA.S61)
    (hch : Chg f cap w A n c an hold id A' l.length c') (fn : Func) (hf : Tryd.prog.funcs[f]? = some fn) (hname : (fn.name == "runtime.NumGoroutine") = false) (hb : fn.body.isSome = true)
    (hC : PA.k61.C w A' l.length l) (hl : l.length ≤ 140737488351232) (hwf : CapsWf l) (ha : 0 ≤ an ∧ an < 65536) (r : Int) (hr : chkRes an hold id l = r) :
    Calls Tryd.prog 46 #[.func (.func f) #[] cap, .pointer (some ⟨T, 0, none⟩)] w fun e w' => e = .returned (.int .u8 r) ∧ Below w.heap.size w w' := by
  have c0 := blk_cell hT 0
  have c1 := blk_cell hT 1
  have c2 := blk_cell hT 2
  have c3 := blk_cell hT 3
  have c4 := blk_cell hT 4
  simp at c0 c1 c2 c3 c4
  have hM := blk_new w (.cells #[.int .u8 4, .int .u16 65001, .int .u16 180, .int .u32 3221225985, .slice A n c] 41)
  have HB := below_alloc (Below.refl w.heap.size w) (.cells #[.int .u8 4, .int .u16 65001, .int .u16 180, .int .u32 3221225985, .slice A n c] 41)
  have H1 := hch _ w.heap.size (Nat.le_refl _) HB hM
  have hrun := enters_ (P := Tryd.prog) hf hname hb (#[.pointer (some ⟨w.heap.size, 0, none⟩)] ++ cap) (w.alloc (.cells #[.int .u8 4, .int .u16 65001, .int .u16 180, .int .u32 3221225985, .slice A n c] 41))
  have HR := Aside0.mk hr
  clear hr hch hT hM hf hname hb
  go_enter Tryd.func46, Tryd.ntmps46
  go_wp2_with fail
  refine H1.mono ?_
  rintro e w1 ⟨rfl, hM, hb⟩
  replace HB := HB.trans hb
  clear hb H1 c0 c1 c2 c3 c4 hrun
  have x0 := blk_cell hM 0
  have x1 := blk_cell hM 1
  have x2 := blk_cell hM 2
  have x3 := blk_cell hM 3
  have x4 := blk_cell hM 4
  simp at x0 x1 x2 x3 x4
  obtain ⟨f0, f1, d, hck⟩ : ∃ f0 f1 d, oCheck an hold id l 65001 9 false = (f0, f1, d) := ⟨_, _, _, rfl⟩
  have H2 := oCheck_calls w1 (hU.below HB) (hO.below HB) A' c' l (Kd.C_below hC HB) hl hwf 4 an hold id ha 65001 9 false f0 f1 d hck
  have hq : (if f0 = 2 then f1 else 0) = r := by
    have h := HR.out
    unfold chkRes at h
    rw [hck] at h
    exact h
  clear HR hck
  go_wp2_with fail
  refine H2.mono ?_
  rintro e w2 ⟨D, dc, rfl, _, _, hb⟩
  replace HB := HB.trans (hb.mono HB.size)
  clear hb H2 hM x0 x1 x2 x3 x4
  have hF := FB.new w2 f0 f1
  have hb := below_alloc (Below.refl w2.heap.size w2) (.cells #[.int .u8 f0, .int .u8 f1] 26)
  replace HB := HB.trans (hb.mono HB.size)
  clear hb
  have y0 := hF.c0
  have y1 := hF.c1
  by_cases h2 : f0 = 2
  · rw [if_pos h2] at hq
    subst hq
    have n2 : (f0 != 2) = false := by simp [h2]
    clear h2
    go_wp2
    go_ret
    exact ⟨rfl, HB⟩
  · rw [if_neg h2] at hq
    subst hq
    have n2 : (f0 != 2) = true := by simp [h2]
    clear h2
    go_wp2
    go_ret
    exact ⟨rfl, HB⟩
theorem kc47 : chkRes 65001 180 3221225985 (ours 65001) = 0 := by kernel_rfl
theorem kc48 : chkRes 9 180 3221225985 (ours 65001) = 2 := by kernel_rfl
theorem kc49 : chkRes 65001 180 0 (ours 65001) = 3 := by kernel_rfl
theorem kc50 : chkRes 65001 180 3758096385 (ours 65001) = 3 := by kernel_rfl
theorem kc51 : chkRes 65001 2 3221225985 (ours 65001) = 6 := by kernel_rfl
theorem kc52 : chkRes 65001 0 3221225985 (ours 65001) = 0 := by kernel_rfl
theorem kc53 : chkRes 65001 3 3221225985 (ours 65001) = 0 := by kernel_rfl
theorem kc54 : chkRes 65001 180 3221225985 [⟨1, [0, 2, 0, 1]⟩] = 7 := by kernel_rfl
theorem kc55 : chkRes 65001 180 3221225985 [] = 0 := by kernel_rfl
theorem koc7 : oCheck 7 0 1 [⟨1, [0, 2, 0, 1]⟩] 7 0 false = (2, 7, [1, 4, 0, 1, 0, 1]) := by kernel_rfl
theorem ob_str : strOfNums ob = ⟨#[4, 253, 233, 0, 180, 192, 0, 2, 1, 16, 2, 14, 1, 4, 0, 1, 0, 1, 2, 0, 65, 4, 0, 0, 253, 233]⟩ := by kernel_rfl
theorem od_str : strOfNums [1, 4, 0, 1, 0, 1] = ⟨#[1, 4, 0, 1, 0, 1]⟩ := by kernel_rfl
set_option maxHeartbeats 40000000 in
set_option maxRecDepth 100000 in
theorem OpenKnown_walk (w : World) (hG : GlobC w) (hU : GlobU w) (hO : GlobO w) :
    Calls Tryd.prog 13 #[] w fun e w' => e = .returned (.bool true) ∧ Below w.heap.size w w' := by
  obtain ⟨z253, hz253⟩ : ∃ z, madeCells #[.int .u8 0] 253 = z := ⟨_, rfl⟩
  have mk253 : ∀ W : World, (Instr.makeSlice 22 (.int .i64 253) (.int .i64 253)).run Tryd.prog W = .ok (.slice (some ⟨W.heap.size, 0, none⟩) 253 253) (W.alloc (.cells z253 5)) := mk86 253 (by decide) z253 hz253
  have H253 := Aside0.mk (show ∀ W : World, (Kd.int .u8).C (W.alloc (.cells z253 5)) (some ⟨W.heap.size, 0, none⟩) 253 (List.replicate 253 0) from by
    intro W
    have h := (rowC (made6R W 253 (by decide))).1
    rw [List.length_replicate, hz253] at h
    exact h)
  clear hz253
  obtain ⟨z9, hz9⟩ : ∃ z, madeCells #[.int .u8 0] 9 = z := ⟨_, rfl⟩
  have mk9 : ∀ W : World, (Instr.makeSlice 22 (.int .i64 9) (.int .i64 9)).run Tryd.prog W = .ok (.slice (some ⟨W.heap.size, 0, none⟩) 9 9) (W.alloc (.cells z9 5)) := mk86 9 (by decide) z9 hz9
  have H9 := Aside0.mk (show ∀ W : World, (Kd.int .u8).C (W.alloc (.cells z9 5)) (some ⟨W.heap.size, 0, none⟩) 9 (List.replicate 9 0) from by
    intro W
    have h := (rowC (made6R W 9 (by decide))).1
    rw [List.length_replicate, hz9] at h
    exact h)
  clear hz9
  obtain ⟨z254, hz254⟩ : ∃ z, madeCells #[.int .u8 0] 254 = z := ⟨_, rfl⟩
  have mk254 : ∀ W : World, (Instr.makeSlice 22 (.int .i64 254) (.int .i64 254)).run Tryd.prog W = .ok (.slice (some ⟨W.heap.size, 0, none⟩) 254 254) (W.alloc (.cells z254 5)) := mk86 254 (by decide) z254 hz254
  have H254 := Aside0.mk (show ∀ W : World, (Kd.int .u8).C (W.alloc (.cells z254 5)) (some ⟨W.heap.size, 0, none⟩) 254 (List.replicate 254 0) from by
    intro W
    have h := (rowC (made6R W 254 (by decide))).1
    rw [List.length_replicate, hz254] at h
    exact h)
  clear hz254
  have hmf : ∀ (fn : Fn) (first cap : Array Value) (w : World), (Instr.makeFunc fn first cap).run Tryd.prog w = .ok (.func fn first cap) w := fun _ _ _ _ => rfl
  have HO := oOurs_calls w hU 65001 180 3221225985 (by decide) (by decide)
  rw [ours_short] at HO
  have T1 := Aside0.mk ob_put
  have T2 := Aside0.mk ob_len
  have T3 := Aside0.mk (show (ours 65001).length ≤ 1000000 by decide)
  have T4 := Aside0.mk (ours_wf0 65001)
  have k47 := Aside0.mk kc47
  have k48 := Aside0.mk kc48
  have k49 := Aside0.mk kc49
  have k50 := Aside0.mk kc50
  have k51 := Aside0.mk kc51
  have k52 := Aside0.mk kc52
  have k53 := Aside0.mk kc53
  generalize ours 65001 = os at *
  go_enter Tryd.func13, Tryd.ntmps13
  go_wp2_with fail
  refine HO.mono ?_
  rintro e w1 ⟨A1, c1, rfl, hC1, hc1, HB⟩
  clear HO
  have hM : Bk41 _ _ 4 65001 180 3221225985 A1 os.length c1 := blk_new w1 (.cells #[.int .u8 4, .int .u16 65001, .int .u16 180, .int .u32 3221225985, .slice A1 os.length c1] 41)
  have hb := below_alloc (Below.refl w1.heap.size w1) (.cells #[.int .u8 4, .int .u16 65001, .int .u16 180, .int .u32 3221225985, .slice A1 os.length c1] 41)
  replace HB := HB.trans (hb.mono HB.size)
  replace hC1 := Kd.C_below hC1 hb
  obtain ⟨g1, hg1⟩ : ∃ g, w1.heap.size = g := ⟨_, rfl⟩
  rw [hg1] at hM
  have x0 := blk_cell hM 0
  have x1 := blk_cell hM 1
  have x2 := blk_cell hM 2
  have x3 := blk_cell hM 3
  have x4 := blk_cell hM 4
  simp at x0 x1 x2 x3 x4
  have H2 := oPut_calls _ A1 c1 os hC1 hc1 T3.out 4 65001 180 3221225985 (by decide) (by decide) (by decide) T2.out
  rw [T1.out] at H2
  dsimp only at H2
  clear hb
  go_upto_region 2 with fail
  rw [hg1] at *
  generalize w1.alloc (.cells #[.int .u8 4, .int .u16 65001, .int .u16 180, .int .u32 3221225985, .slice A1 os.length c1] 41) = w1a at *
  clear hg1
  go_wp2_with fail
  refine H2.mono ?_
  rintro e w2 ⟨v2, rfl, hv2, hb⟩
  replace HB := HB.trans (hb.mono HB.size)
  replace hM := blk_below hM hb
  replace hC1 := Kd.C_below hC1 hb
  obtain ⟨A2, c2, rfl, hl2, hC2⟩ := Kd.R_reads hv2
  have hcv := Kd.C_string (P := Tryd.prog) (A := A2) (c := c2) Tryd.underlying22 Tryd.underlying5 Tryd.underlying9 hC2
  rw [ob_str] at hcv
  clear hb H2 hv2 x0 x1 x2 x3 x4
  go_upto_region 7 with fail
  have hCo : (Kd.int .u8).C (w2.alloc (.cells #[.int .u8 0, .int .u8 2, .int .u8 0, .int .u8 1] 5)) (some ⟨w2.heap.size, 0, none⟩) 4 [0, 2, 0, 1] := litC (litR w2 5 .u8 [0, 2, 0, 1] (by decide))
  have hOA := lit6_C61 (w2.alloc (.cells #[.int .u8 0, .int .u8 2, .int .u8 0, .int .u8 1] 5)) [⟨1, [0, 2, 0, 1]⟩] [.int .u8 1, .slice (some ⟨w2.heap.size, 0, none⟩) 4 4] (Reps.c2 (kcap6 _ 1 [0, 2, 0, 1] (Nat.le_refl 4) hCo) (Reps.none _ _)) (by decide)
  rw [show (w2.alloc (.cells #[.int .u8 0, .int .u8 2, .int .u8 0, .int .u8 1] 5)).heap.size = w2.heap.size + 1 by simp] at hOA
  have hT5 := blk_new ((w2.alloc (.cells #[.int .u8 0, .int .u8 2, .int .u8 0, .int .u8 1] 5)).alloc (.cells #[.int .u8 1, .slice (some ⟨w2.heap.size, 0, none⟩) 4 4] 61)) (.cells #[.slice (some ⟨w2.heap.size + 1, 0, none⟩) 1 1] 24)
  rw [show ((w2.alloc (.cells #[.int .u8 0, .int .u8 2, .int .u8 0, .int .u8 1] 5)).alloc (.cells #[.int .u8 1, .slice (some ⟨w2.heap.size, 0, none⟩) 4 4] 61)).heap.size = w2.heap.size + 2 by simp] at hT5
  have hb := below_alloc (below_alloc (below_alloc (Below.refl w2.heap.size w2) (.cells #[.int .u8 0, .int .u8 2, .int .u8 0, .int .u8 1] 5)) (.cells #[.int .u8 1, .slice (some ⟨w2.heap.size, 0, none⟩) 4 4] 61)) (.cells #[.slice (some ⟨w2.heap.size + 1, 0, none⟩) 1 1] 24)
  replace HB := HB.trans (hb.mono HB.size)
  replace hM := blk_below hM hb
  replace hC1 := Kd.C_below hC1 hb
  replace hC2 := Kd.C_below hC2 hb
  replace hOA := Kd.C_alloc hOA (.cells #[.slice (some ⟨w2.heap.size + 1, 0, none⟩) 1 1] 24)
  clear hCo hcv hb
  generalize ((w2.alloc (.cells #[.int .u8 0, .int .u8 2, .int .u8 0, .int .u8 1] 5)).alloc (.cells #[.int .u8 1, .slice (some ⟨w2.heap.size, 0, none⟩) 4 4] 61)).alloc (.cells #[.slice (some ⟨w2.heap.size + 1, 0, none⟩) 1 1] 24) = w3 at *
  generalize w2.heap.size = g2 at *
  have x0 := blk_cell hT5 0
  simp at x0
  have H3 := oCheck_calls w3 (hU.below HB) (hO.below HB) (some ⟨g2 + 1, 0, none⟩) 1 [⟨1, [0, 2, 0, 1]⟩] hOA (by decide) (wf6_of (by intro x hx; simp at hx; subst hx; exact ⟨by simp, by intro b hb; simp at hb; omega⟩)) 0 7 0 1 (by decide) 7 0 false _ _ _ koc7
  go_wp2_with fail
  refine H3.mono ?_
  rintro e w4 ⟨D4, d4, rfl, hD4, hd4, hb⟩
  replace HB := HB.trans (hb.mono HB.size)
  replace hM := blk_below hM hb
  replace hC1 := Kd.C_below hC1 hb
  replace hC2 := Kd.C_below hC2 hb
  replace hOA := Kd.C_below hOA hb
  replace hT5 := blk_below hT5 hb
  clear hb H3 x0
  have hb := below_alloc (Below.refl w4.heap.size w4) (.cells #[.int .u8 2, .int .u8 7] 26)
  replace HB := HB.trans (hb.mono HB.size)
  replace hM := blk_below hM hb
  replace hC1 := Kd.C_below hC1 hb
  replace hC2 := Kd.C_below hC2 hb
  replace hOA := Kd.C_below hOA hb
  replace hT5 := blk_below hT5 hb
  replace hD4 := Kd.C_below hD4 hb
  clear hb
  go_upto_region 8 with fail
  generalize w4.alloc (.cells #[.int .u8 2, .int .u8 7] 26) = w5 at *
  refine start_ (n := 12) (S := fun _ => True) (ds := []) #[false, false, false, false, false, false, false, false, false, false, false, false] (by kernel_rfl) rfl rfl trivial (fun _ => ?_)
  refine join_ (σ := Value × Value) 8 #[true, true, true, true, false, false, false, false, false, false, false, false] (fun s => NS6 s.1 s.2) (fun s w' => (∃ g1, s.1 = .slice (some ⟨g1, 0, none⟩) 253 253 ∧ (Kd.int .u8).C w' (some ⟨g1, 0, none⟩) 253 (List.replicate 253 0)) ∧ (∃ g2, s.2 = .slice (some ⟨g2, 0, none⟩) 9 9 ∧ (Kd.int .u8).C w' (some ⟨g2, 0, none⟩) 9 (List.replicate 9 0)) ∧ Below w5.heap.size w5 w') ?_ (fun hJ => ?_)
  rotate_left
  · refine two_ (i := 0) (j := 2) (Ni := some 46) (Nj := some 48) #[true, false, false, false, false, false, false, false, false, false, false, false] #[false, false, true, false, false, false, false, false, false, false, false, false] rfl rfl rfl rfl (by kernel_rfl) (by decide) (by decide) (fun K hK => ?_) (fun K hK => ?_)
    · refine value_ (w1 := ?_) (v := ?_) (by rfl) rfl ?_ ?_
      rotate_left 2
      · go_simp
        constructor
        · rfl
        · rfl
      refine hK.out _ _ trivial (fun _ => ?_)
      clear hK K
      refine norm_ (a' := ?_) ?_ ?_
      rotate_left
      · show Act.put _ (some 46) _ = _
        simp only [Act.put, List.setIfInBounds_toArray, List.set_cons_zero, List.set_cons_succ, i64_w, i32_w]
        rfl
      refine pure_ (i := 1) (N := (some 47)) (v := ?_) (a' := ?_) #[true, true, false, false, false, false, false, false, false, false, false, false] rfl rfl (by kernel_rfl) (fun _ _ _ h => h) (Or.inl ⟨by rfl, ?_⟩) ?_ ?_
      rotate_left
      · intro w'
        go_simp
        with_reducible rfl
      rotate_left
      · simp only [Act.put, List.setIfInBounds_toArray, List.set_cons_zero, List.set_cons_succ, i64_w, i32_w]
        rfl
      refine one_ (i := 2) (N := (some 48)) #[true, true, true, false, false, false, false, false, false, false, false, false] rfl rfl (by kernel_rfl) (by decide) (fun K hK => ?_)
      refine value_ (w1 := ?_) (v := ?_) (by rfl) rfl ?_ ?_
      rotate_left 2
      · go_simp
        constructor
        · rfl
        · rfl
      refine hK.out _ _ (trivial) (fun hHeld => ?_)
      clear hK K
      refine norm_ (a' := ?_) ?_ ?_
      rotate_left
      · show Act.put _ (some 48) _ = _
        simp only [Act.put, List.setIfInBounds_toArray, List.set_cons_zero, List.set_cons_succ, i64_w, i32_w]
        rfl
      refine pure_ (i := 3) (N := (some 49)) (v := ?_) (a' := ?_) #[true, true, true, true, false, false, false, false, false, false, false, false] rfl rfl (by kernel_rfl) (fun _ _ _ h => h) (Or.inl ⟨by rfl, ?_⟩) ?_ ?_
      rotate_left
      · intro w'
        go_simp
        with_reducible rfl
      rotate_left
      · simp only [Act.put, List.setIfInBounds_toArray, List.set_cons_zero, List.set_cons_succ, i64_w, i32_w]
        rfl
      have hb0 := below_drew (Below.refl w5.heap.size w5)
      have k1 := Kd.C_alloc (H253.out w5.drew) (.cells z9 5)
      have k2 := H9.out (w5.drew.alloc (.cells z253 5))
      rw [show (w5.drew.alloc (.cells z253 5)).heap.size = w5.drew.heap.size + 1 by simp] at k2
      refine norm_ (a' := putAll _ (NS6 (.slice (some ⟨w5.drew.heap.size, 0, none⟩) 253 253) (.slice (some ⟨w5.drew.heap.size + 1, 0, none⟩) 9 9))) ?_ (hJ (_, _) _ ⟨⟨_, rfl, k1⟩, ⟨_, rfl, k2⟩, below_alloc (below_alloc hb0 _) _⟩)
      simp only [putAll, NS6, Act.put, List.setIfInBounds_toArray, List.set_cons_zero, List.set_cons_succ]
      rfl
    · refine value_ (w1 := ?_) (v := ?_) (by rfl) rfl ?_ ?_
      rotate_left 2
      · go_simp
        constructor
        · rfl
        · rfl
      refine hK.out _ _ trivial (fun _ => ?_)
      clear hK K
      refine norm_ (a' := ?_) ?_ ?_
      rotate_left
      · show Act.put _ (some 48) _ = _
        simp only [Act.put, List.setIfInBounds_toArray, List.set_cons_zero, List.set_cons_succ, i64_w, i32_w]
        rfl
      refine pure_ (i := 3) (N := (some 49)) (v := ?_) (a' := ?_) #[false, false, true, true, false, false, false, false, false, false, false, false] rfl rfl (by kernel_rfl) (fun _ _ _ h => h) (Or.inl ⟨by rfl, ?_⟩) ?_ ?_
      rotate_left
      · intro w'
        go_simp
        with_reducible rfl
      rotate_left
      · simp only [Act.put, List.setIfInBounds_toArray, List.set_cons_zero, List.set_cons_succ, i64_w, i32_w]
        rfl
      refine one_ (i := 0) (N := (some 46)) #[true, false, true, true, false, false, false, false, false, false, false, false] rfl rfl (by kernel_rfl) (by decide) (fun K hK => ?_)
      refine value_ (w1 := ?_) (v := ?_) (by rfl) rfl ?_ ?_
      rotate_left 2
      · go_simp
        constructor
        · rfl
        · rfl
      refine hK.out _ _ (trivial) (fun hHeld => ?_)
      clear hK K
      refine norm_ (a' := ?_) ?_ ?_
      rotate_left
      · show Act.put _ (some 46) _ = _
        simp only [Act.put, List.setIfInBounds_toArray, List.set_cons_zero, List.set_cons_succ, i64_w, i32_w]
        rfl
      refine pure_ (i := 1) (N := (some 47)) (v := ?_) (a' := ?_) #[true, true, true, true, false, false, false, false, false, false, false, false] rfl rfl (by kernel_rfl) (fun _ _ _ h => h) (Or.inl ⟨by rfl, ?_⟩) ?_ ?_
      rotate_left
      · intro w'
        go_simp
        with_reducible rfl
      rotate_left
      · simp only [Act.put, List.setIfInBounds_toArray, List.set_cons_zero, List.set_cons_succ, i64_w, i32_w]
        rfl
      have hb0 := below_drew (Below.refl w5.heap.size w5)
      have k1 := Kd.C_alloc (H9.out w5.drew) (.cells z253 5)
      have k2 := H253.out (w5.drew.alloc (.cells z9 5))
      rw [show (w5.drew.alloc (.cells z9 5)).heap.size = w5.drew.heap.size + 1 by simp] at k2
      refine norm_ (a' := putAll _ (NS6 (.slice (some ⟨w5.drew.heap.size + 1, 0, none⟩) 253 253) (.slice (some ⟨w5.drew.heap.size, 0, none⟩) 9 9))) ?_ (hJ (_, _) _ ⟨⟨_, rfl, k2⟩, ⟨_, rfl, k1⟩, below_alloc (below_alloc hb0 _) _⟩)
      simp only [putAll, NS6, Act.put, List.setIfInBounds_toArray, List.set_cons_zero, List.set_cons_succ]
      rfl
  rintro ⟨u1, u2⟩ w6 ⟨⟨q1, rfl, hk1⟩, ⟨q2, rfl, hk2⟩, hb⟩
  refine norm_ (a' := ?_) ?_ ?_
  rotate_left
  · simp only [putAll, NS6, Act.put, List.setIfInBounds_toArray, List.set_cons_zero, List.set_cons_succ]
    rfl
  refine one_ (i := 4) (N := (some 50)) #[true, true, true, true, true, false, false, false, false, false, false, false] rfl rfl (by kernel_rfl) (by decide) (fun K hK => ?_)
  refine value_ (w1 := ?_) (v := ?_) (by rfl) rfl ?_ ?_
  rotate_left 2
  · go_simp
    constructor
    · rfl
    · rfl
  refine hK.out _ _ (trivial) (fun hHeld => ?_)
  clear hK K
  refine norm_ (a' := ?_) ?_ ?_
  rotate_left
  · show Act.put _ (some 50) _ = _
    simp only [Act.put, List.setIfInBounds_toArray, List.set_cons_zero, List.set_cons_succ, i64_w, i32_w]
    rfl
  refine pure_ (i := 5) (N := (some 51)) (v := ?_) (a' := ?_) #[true, true, true, true, true, true, false, false, false, false, false, false] rfl rfl (by kernel_rfl) (fun _ _ _ h => h) (Or.inl ⟨by rfl, ?_⟩) ?_ ?_
  rotate_left
  · intro w'
    go_simp
    with_reducible rfl
  rotate_left
  · simp only [Act.put, List.setIfInBounds_toArray, List.set_cons_zero, List.set_cons_succ, i64_w, i32_w]
    rfl
  have hL2 := lit6_C61 w6 kE [.int .u8 0, .slice (some ⟨q1, 0, none⟩) 253 253, .int .u8 0, .slice (some ⟨q2, 0, none⟩) 9 9] (Reps.c2 (kcap6 w6 0 (List.replicate 253 0) (Nat.le_of_eq (List.length_replicate ..)) (by rw [List.length_replicate]; exact hk1)) (Reps.c2 (kcap6 w6 0 (List.replicate 9 0) (Nat.le_of_eq (List.length_replicate ..)) (by rw [List.length_replicate]; exact hk2)) (Reps.none _ _))) (by decide)
  have hb2 := below_alloc (Below.refl w6.heap.size w6) (.cells #[.int .u8 0, .slice (some ⟨q1, 0, none⟩) 253 253, .int .u8 0, .slice (some ⟨q2, 0, none⟩) 9 9] 61)
  replace hb := hb.trans (hb2.mono hb.size)
  have H := oPut_calls _ (some ⟨w6.heap.size, 0, none⟩) 2 kE hL2 (by decide) (by decide) 0 0 0 0 (by decide) (by decide) (by decide) kE_len
  rw [kE_put] at H
  dsimp only at H
  refine one_ (i := 6) (N := (some 52)) #[true, true, true, true, true, true, true, false, false, false, false, false] rfl rfl (by kernel_rfl) (by decide) (fun K hK => ?_)
  refine goes_ Tryd.func41 (by kernel_rfl) rfl #[.agg #[.int .u8 0, .int .u16 0, .int .u16 0, .int .u32 0, .slice (some ⟨w6.heap.size, 0, none⟩) 2 2]] (by rfl) rfl rfl (by simp [Act.eval]) ?_
  refine (H).mono ?_
  rintro e w7 ⟨v7, rfl, hv7, hb7⟩
  replace hb := hb.trans (hb7.mono hb.size)
  obtain ⟨A7, c7, rfl, _, _⟩ := Kd.R_reads hv7
  clear hb2 hb7 hL2 hv7 H
  refine ⟨_, rfl, ?_⟩
  refine hK.out _ _ (trivial) (fun hHeld => ?_)
  clear hK K
  refine norm_ (a' := ?_) ?_ ?_
  rotate_left
  · show Act.put _ (some 52) _ = _
    simp only [Act.put, List.setIfInBounds_toArray, List.set_cons_zero, List.set_cons_succ, i64_w, i32_w]
    rfl
  refine pure_ (i := 7) (N := (some 45)) (v := ?_) (a' := ?_) #[true, true, true, true, true, true, true, true, false, false, false, false] rfl rfl (by kernel_rfl) (fun _ _ _ h => h) (Or.inl ⟨by rfl, ?_⟩) ?_ ?_
  rotate_left
  · intro w'
    go_simp
    with_reducible rfl
  rotate_left
  · simp only [Act.put, List.setIfInBounds_toArray, List.set_cons_zero, List.set_cons_succ, i64_w, i32_w]
    rfl
  refine pure_ (i := 8) (N := (some 53)) (v := ?_) (a' := ?_) #[true, true, true, true, true, true, true, true, true, false, false, false] rfl rfl (by kernel_rfl) (fun _ _ _ h => h) (Or.inl ⟨by rfl, ?_⟩) ?_ ?_
  rotate_left
  · intro w'
    go_simp
    with_reducible rfl
  rotate_left
  · simp only [Act.put, List.setIfInBounds_toArray, List.set_cons_zero, List.set_cons_succ, i64_w, i32_w]
    rfl
  refine pure_ (i := 9) (N := (some 54)) (v := ?_) (a' := ?_) #[true, true, true, true, true, true, true, true, true, true, false, false] rfl rfl (by kernel_rfl) (fun _ _ _ h => h) (Or.inl ⟨by rfl, ?_⟩) ?_ ?_
  rotate_left
  · intro w'
    go_simp
    with_reducible rfl
  rotate_left
  · simp only [Act.put, List.setIfInBounds_toArray, List.set_cons_zero, List.set_cons_succ, i64_w, i32_w]
    rfl
  refine pure_ (i := 10) (N := (some 8)) (v := ?_) (a' := ?_) #[true, true, true, true, true, true, true, true, true, true, true, false] rfl rfl (by kernel_rfl) (fun _ _ _ h => h) (Or.inl ⟨by rfl, ?_⟩) ?_ ?_
  rotate_left
  · intro w'
    go_simp
    with_reducible rfl
  rotate_left
  · simp only [Act.put, List.setIfInBounds_toArray, List.set_cons_zero, List.set_cons_succ, i64_w, i32_w]
    rfl
  refine pure_ (i := 11) (N := (some 9)) (v := ?_) (a' := ?_) #[true, true, true, true, true, true, true, true, true, true, true, true] rfl rfl (by kernel_rfl) (fun _ _ _ h => h) (Or.inl ⟨by rfl, ?_⟩) ?_ ?_
  rotate_left
  · intro w'
    go_simp
    with_reducible rfl
  rotate_left
  · simp only [Act.put, List.setIfInBounds_toArray, List.set_cons_zero, List.set_cons_succ, i64_w, i32_w]
    rfl
  refine done_ (by kernel_rfl) ?_
  replace HB := HB.trans (hb.mono HB.size)
  replace hM := blk_below hM hb
  replace hC1 := Kd.C_below hC1 hb
  replace hC2 := Kd.C_below hC2 hb
  replace hOA := Kd.C_below hOA hb
  replace hT5 := blk_below hT5 hb
  replace hD4 := Kd.C_below hD4 hb
  clear hb hk1 hk2 H253 H9 mk253 mk9
  have hz := H254.out w7
  have hL := lit6_C61 _ [⟨0, List.replicate 254 0⟩] [.int .u8 0, .slice (some ⟨w7.heap.size, 0, none⟩) 254 254] (Reps.c2 (kcap6 _ 0 (List.replicate 254 0) (Nat.le_of_eq (List.length_replicate ..)) (by rw [List.length_replicate]; exact hz)) (Reps.none _ _)) (by decide)
  rw [show (w7.alloc (.cells z254 5)).heap.size = w7.heap.size + 1 by simp] at hL
  have hb := below_alloc (Below.refl w7.heap.size w7) (.cells z254 5)
  replace HB := HB.trans (hb.mono HB.size)
  replace hM := blk_below hM hb
  replace hC1 := Kd.C_below hC1 hb
  replace hC2 := Kd.C_below hC2 hb
  replace hOA := Kd.C_below hOA hb
  replace hT5 := blk_below hT5 hb
  replace hD4 := Kd.C_below hD4 hb
  clear hb
  have hb := below_alloc (Below.refl (w7.alloc (.cells z254 5)).heap.size (w7.alloc (.cells z254 5))) (.cells #[.int .u8 0, .slice (some ⟨w7.heap.size, 0, none⟩) 254 254] 61)
  replace HB := HB.trans (hb.mono HB.size)
  replace hM := blk_below hM hb
  replace hC1 := Kd.C_below hC1 hb
  replace hC2 := Kd.C_below hC2 hb
  replace hOA := Kd.C_below hOA hb
  replace hT5 := blk_below hT5 hb
  replace hD4 := Kd.C_below hD4 hb
  clear hb
  have H := oPut_calls _ (some ⟨w7.heap.size + 1, 0, none⟩) 1 [⟨0, List.replicate 254 0⟩] hL (by decide) (by decide) 0 0 0 0 (by decide) (by decide) (by decide) kF_len
  rw [kF_put] at H
  dsimp only at H
  go_wp2_with fail
  refine (H).mono ?_
  rintro e w8 ⟨v8, rfl, hv8, hb⟩
  replace HB := HB.trans (hb.mono HB.size)
  replace hM := blk_below hM hb
  replace hC1 := Kd.C_below hC1 hb
  replace hC2 := Kd.C_below hC2 hb
  replace hOA := Kd.C_below hOA hb
  replace hT5 := blk_below hT5 hb
  replace hD4 := Kd.C_below hD4 hb
  obtain ⟨A8, c8, rfl, _, _⟩ := Kd.R_reads hv8
  clear hb hv8 H hL hz H254 mk254
  obtain ⟨hcut, hC9, hl9, _⟩ := cutN 9 _ A2 c2 ob hC2 hl2 9 (.inr ⟨by decide, rfl⟩)
  rw [show ob.take 9 = [4, 253, 233, 0, 180, 192, 0, 2, 1] from rfl] at hcut hC9
  have H := oGet_calls _ (hG.below HB) (hO.below HB) A2 c2 [4, 253, 233, 0, 180, 192, 0, 2, 1] (hC9) (by decide) (by decide) _ _ _ _ og9
  go_wp2_with fail
  refine (H).mono ?_
  rintro e w9 ⟨A9, c9, D9, d9, rfl, _, _, _, _, hb⟩
  replace HB := HB.trans (hb.mono HB.size)
  replace hM := blk_below hM hb
  replace hC1 := Kd.C_below hC1 hb
  replace hC2 := Kd.C_below hC2 hb
  replace hOA := Kd.C_below hOA hb
  replace hT5 := blk_below hT5 hb
  replace hD4 := Kd.C_below hD4 hb
  clear hb H
  have hb := below_alloc (Below.refl w9.heap.size w9) (.cells #[.int .u8 OpenP.zero.ver, .int .u16 OpenP.zero.an, .int .u16 OpenP.zero.hold, .int .u32 OpenP.zero.id, .slice A9 OpenP.zero.caps.length c9] 41)
  replace HB := HB.trans (hb.mono HB.size)
  replace hM := blk_below hM hb
  replace hC1 := Kd.C_below hC1 hb
  replace hC2 := Kd.C_below hC2 hb
  replace hOA := Kd.C_below hOA hb
  replace hT5 := blk_below hT5 hb
  replace hD4 := Kd.C_below hD4 hb
  clear hb
  have hF9 := FB.new (w9.alloc (.cells #[.int .u8 OpenP.zero.ver, .int .u16 OpenP.zero.an, .int .u16 OpenP.zero.hold, .int .u32 OpenP.zero.id, .slice A9 OpenP.zero.caps.length c9] 41)) 2 0
  rw [show (w9.alloc (.cells #[.int .u8 OpenP.zero.ver, .int .u16 OpenP.zero.an, .int .u16 OpenP.zero.hold, .int .u32 OpenP.zero.id, .slice A9 OpenP.zero.caps.length c9] 41)).heap.size = w9.heap.size + 1 by simp] at hF9
  have hb := below_alloc (Below.refl (w9.alloc (.cells #[.int .u8 OpenP.zero.ver, .int .u16 OpenP.zero.an, .int .u16 OpenP.zero.hold, .int .u32 OpenP.zero.id, .slice A9 OpenP.zero.caps.length c9] 41)).heap.size (w9.alloc (.cells #[.int .u8 OpenP.zero.ver, .int .u16 OpenP.zero.an, .int .u16 OpenP.zero.hold, .int .u32 OpenP.zero.id, .slice A9 OpenP.zero.caps.length c9] 41))) (.cells #[.int .u8 2, .int .u8 0] 26)
  replace HB := HB.trans (hb.mono HB.size)
  replace hM := blk_below hM hb
  replace hC1 := Kd.C_below hC1 hb
  replace hC2 := Kd.C_below hC2 hb
  replace hOA := Kd.C_below hOA hb
  replace hT5 := blk_below hT5 hb
  replace hD4 := Kd.C_below hD4 hb
  clear hb
  have hL := litC (litR ((w9.alloc (.cells #[.int .u8 OpenP.zero.ver, .int .u16 OpenP.zero.an, .int .u16 OpenP.zero.hold, .int .u32 OpenP.zero.id, .slice A9 OpenP.zero.caps.length c9] 41)).alloc (.cells #[.int .u8 2, .int .u8 0] 26)) 5 .u8 [4, 0, 1, 0, 0, 0, 0, 0, 1, 2, 1, 0] (by decide))
  rw [show ((w9.alloc (.cells #[.int .u8 OpenP.zero.ver, .int .u16 OpenP.zero.an, .int .u16 OpenP.zero.hold, .int .u32 OpenP.zero.id, .slice A9 OpenP.zero.caps.length c9] 41)).alloc (.cells #[.int .u8 2, .int .u8 0] 26)).heap.size = w9.heap.size + 2 by simp] at hL
  have hb := below_alloc (Below.refl ((w9.alloc (.cells #[.int .u8 OpenP.zero.ver, .int .u16 OpenP.zero.an, .int .u16 OpenP.zero.hold, .int .u32 OpenP.zero.id, .slice A9 OpenP.zero.caps.length c9] 41)).alloc (.cells #[.int .u8 2, .int .u8 0] 26)).heap.size ((w9.alloc (.cells #[.int .u8 OpenP.zero.ver, .int .u16 OpenP.zero.an, .int .u16 OpenP.zero.hold, .int .u32 OpenP.zero.id, .slice A9 OpenP.zero.caps.length c9] 41)).alloc (.cells #[.int .u8 2, .int .u8 0] 26))) (.cells (nums .u8 [4, 0, 1, 0, 0, 0, 0, 0, 1, 2, 1, 0]).toArray 5)
  replace HB := HB.trans (hb.mono HB.size)
  replace hM := blk_below hM hb
  replace hC1 := Kd.C_below hC1 hb
  replace hC2 := Kd.C_below hC2 hb
  replace hOA := Kd.C_below hOA hb
  replace hT5 := blk_below hT5 hb
  replace hD4 := Kd.C_below hD4 hb
  replace hF9 := hF9.below hb
  clear hb
  have H := oGet_calls _ (hG.below HB) (hO.below HB) (some ⟨w9.heap.size + 2, 0, none⟩) 12 [4, 0, 1, 0, 0, 0, 0, 0, 1, 2, 1, 0] (hL) (by decide) (by decide) _ _ _ _ og4
  go_wp2_with fail
  refine (H).mono ?_
  rintro e w10 ⟨A10, c10, D10, d10, rfl, _, _, _, _, hb⟩
  replace HB := HB.trans (hb.mono HB.size)
  replace hM := blk_below hM hb
  replace hC1 := Kd.C_below hC1 hb
  replace hC2 := Kd.C_below hC2 hb
  replace hOA := Kd.C_below hOA hb
  replace hT5 := blk_below hT5 hb
  replace hD4 := Kd.C_below hD4 hb
  replace hF9 := hF9.below hb
  clear hb H
  have hb := below_alloc (Below.refl w10.heap.size w10) (.cells #[.int .u8 OpenP.zero.ver, .int .u16 OpenP.zero.an, .int .u16 OpenP.zero.hold, .int .u32 OpenP.zero.id, .slice A10 OpenP.zero.caps.length c10] 41)
  replace HB := HB.trans (hb.mono HB.size)
  replace hM := blk_below hM hb
  replace hC1 := Kd.C_below hC1 hb
  replace hC2 := Kd.C_below hC2 hb
  replace hOA := Kd.C_below hOA hb
  replace hT5 := blk_below hT5 hb
  replace hD4 := Kd.C_below hD4 hb
  replace hF9 := hF9.below hb
  clear hb
  have hF10 := FB.new (w10.alloc (.cells #[.int .u8 OpenP.zero.ver, .int .u16 OpenP.zero.an, .int .u16 OpenP.zero.hold, .int .u32 OpenP.zero.id, .slice A10 OpenP.zero.caps.length c10] 41)) 2 4
  rw [show (w10.alloc (.cells #[.int .u8 OpenP.zero.ver, .int .u16 OpenP.zero.an, .int .u16 OpenP.zero.hold, .int .u32 OpenP.zero.id, .slice A10 OpenP.zero.caps.length c10] 41)).heap.size = w10.heap.size + 1 by simp] at hF10
  have hb := below_alloc (Below.refl (w10.alloc (.cells #[.int .u8 OpenP.zero.ver, .int .u16 OpenP.zero.an, .int .u16 OpenP.zero.hold, .int .u32 OpenP.zero.id, .slice A10 OpenP.zero.caps.length c10] 41)).heap.size (w10.alloc (.cells #[.int .u8 OpenP.zero.ver, .int .u16 OpenP.zero.an, .int .u16 OpenP.zero.hold, .int .u32 OpenP.zero.id, .slice A10 OpenP.zero.caps.length c10] 41))) (.cells #[.int .u8 2, .int .u8 4] 26)
  replace HB := HB.trans (hb.mono HB.size)
  replace hM := blk_below hM hb
  replace hC1 := Kd.C_below hC1 hb
  replace hC2 := Kd.C_below hC2 hb
  replace hOA := Kd.C_below hOA hb
  replace hT5 := blk_below hT5 hb
  replace hD4 := Kd.C_below hD4 hb
  replace hF9 := hF9.below hb
  clear hb
  have hL := litC (litR ((w10.alloc (.cells #[.int .u8 OpenP.zero.ver, .int .u16 OpenP.zero.an, .int .u16 OpenP.zero.hold, .int .u32 OpenP.zero.id, .slice A10 OpenP.zero.caps.length c10] 41)).alloc (.cells #[.int .u8 2, .int .u8 4] 26)) 5 .u8 [4, 0, 1, 0, 0, 0, 0, 0, 1, 2, 2, 1] (by decide))
  rw [show ((w10.alloc (.cells #[.int .u8 OpenP.zero.ver, .int .u16 OpenP.zero.an, .int .u16 OpenP.zero.hold, .int .u32 OpenP.zero.id, .slice A10 OpenP.zero.caps.length c10] 41)).alloc (.cells #[.int .u8 2, .int .u8 4] 26)).heap.size = w10.heap.size + 2 by simp] at hL
  have hb := below_alloc (Below.refl ((w10.alloc (.cells #[.int .u8 OpenP.zero.ver, .int .u16 OpenP.zero.an, .int .u16 OpenP.zero.hold, .int .u32 OpenP.zero.id, .slice A10 OpenP.zero.caps.length c10] 41)).alloc (.cells #[.int .u8 2, .int .u8 4] 26)).heap.size ((w10.alloc (.cells #[.int .u8 OpenP.zero.ver, .int .u16 OpenP.zero.an, .int .u16 OpenP.zero.hold, .int .u32 OpenP.zero.id, .slice A10 OpenP.zero.caps.length c10] 41)).alloc (.cells #[.int .u8 2, .int .u8 4] 26))) (.cells (nums .u8 [4, 0, 1, 0, 0, 0, 0, 0, 1, 2, 2, 1]).toArray 5)
  replace HB := HB.trans (hb.mono HB.size)
  replace hM := blk_below hM hb
  replace hC1 := Kd.C_below hC1 hb
  replace hC2 := Kd.C_below hC2 hb
  replace hOA := Kd.C_below hOA hb
  replace hT5 := blk_below hT5 hb
  replace hD4 := Kd.C_below hD4 hb
  replace hF9 := hF9.below hb
  replace hF10 := hF10.below hb
  clear hb
  have H := oGet_calls _ (hG.below HB) (hO.below HB) (some ⟨w10.heap.size + 2, 0, none⟩) 12 [4, 0, 1, 0, 0, 0, 0, 0, 1, 2, 2, 1] (hL) (by decide) (by decide) _ _ _ _ og0
  go_wp2_with fail
  refine (H).mono ?_
  rintro e w11 ⟨A11, c11, D11, d11, rfl, _, _, _, _, hb⟩
  replace HB := HB.trans (hb.mono HB.size)
  replace hM := blk_below hM hb
  replace hC1 := Kd.C_below hC1 hb
  replace hC2 := Kd.C_below hC2 hb
  replace hOA := Kd.C_below hOA hb
  replace hT5 := blk_below hT5 hb
  replace hD4 := Kd.C_below hD4 hb
  replace hF9 := hF9.below hb
  replace hF10 := hF10.below hb
  clear hb H
  have hb := below_alloc (Below.refl w11.heap.size w11) (.cells #[.int .u8 OpenP.zero.ver, .int .u16 OpenP.zero.an, .int .u16 OpenP.zero.hold, .int .u32 OpenP.zero.id, .slice A11 OpenP.zero.caps.length c11] 41)
  replace HB := HB.trans (hb.mono HB.size)
  replace hM := blk_below hM hb
  replace hC1 := Kd.C_below hC1 hb
  replace hC2 := Kd.C_below hC2 hb
  replace hOA := Kd.C_below hOA hb
  replace hT5 := blk_below hT5 hb
  replace hD4 := Kd.C_below hD4 hb
  replace hF9 := hF9.below hb
  replace hF10 := hF10.below hb
  clear hb
  have hF11 := FB.new (w11.alloc (.cells #[.int .u8 OpenP.zero.ver, .int .u16 OpenP.zero.an, .int .u16 OpenP.zero.hold, .int .u32 OpenP.zero.id, .slice A11 OpenP.zero.caps.length c11] 41)) 2 0
  rw [show (w11.alloc (.cells #[.int .u8 OpenP.zero.ver, .int .u16 OpenP.zero.an, .int .u16 OpenP.zero.hold, .int .u32 OpenP.zero.id, .slice A11 OpenP.zero.caps.length c11] 41)).heap.size = w11.heap.size + 1 by simp] at hF11
  have hb := below_alloc (Below.refl (w11.alloc (.cells #[.int .u8 OpenP.zero.ver, .int .u16 OpenP.zero.an, .int .u16 OpenP.zero.hold, .int .u32 OpenP.zero.id, .slice A11 OpenP.zero.caps.length c11] 41)).heap.size (w11.alloc (.cells #[.int .u8 OpenP.zero.ver, .int .u16 OpenP.zero.an, .int .u16 OpenP.zero.hold, .int .u32 OpenP.zero.id, .slice A11 OpenP.zero.caps.length c11] 41))) (.cells #[.int .u8 2, .int .u8 0] 26)
  replace HB := HB.trans (hb.mono HB.size)
  replace hM := blk_below hM hb
  replace hC1 := Kd.C_below hC1 hb
  replace hC2 := Kd.C_below hC2 hb
  replace hOA := Kd.C_below hOA hb
  replace hT5 := blk_below hT5 hb
  replace hD4 := Kd.C_below hD4 hb
  replace hF9 := hF9.below hb
  replace hF10 := hF10.below hb
  clear hb
  go_wp2_with fail
  refine (check_calls _ (hU.below HB) (hO.below HB) g1 A1 os.length c1 hM 47 #[] 65001 180 3221225985 A1 c1 os (chg47 _ A1 os.length c1) Tryd.f47 Tryd.func47 rfl rfl hC1 (Nat.le_trans T3.out (by decide)) T4.out (by decide) 0 k47.out).mono ?_
  rintro e w12 ⟨rfl, hb⟩
  replace HB := HB.trans (hb.mono HB.size)
  replace hM := blk_below hM hb
  replace hC1 := Kd.C_below hC1 hb
  replace hC2 := Kd.C_below hC2 hb
  replace hOA := Kd.C_below hOA hb
  replace hT5 := blk_below hT5 hb
  replace hD4 := Kd.C_below hD4 hb
  replace hF9 := hF9.below hb
  replace hF10 := hF10.below hb
  replace hF11 := hF11.below hb
  clear hb 
  go_wp2_with fail
  refine (check_calls _ (hU.below HB) (hO.below HB) g1 A1 os.length c1 hM 48 #[] 9 180 3221225985 A1 c1 os (chg48 _ A1 os.length c1) Tryd.f48 Tryd.func48 rfl rfl hC1 (Nat.le_trans T3.out (by decide)) T4.out (by decide) 2 k48.out).mono ?_
  rintro e w13 ⟨rfl, hb⟩
  replace HB := HB.trans (hb.mono HB.size)
  replace hM := blk_below hM hb
  replace hC1 := Kd.C_below hC1 hb
  replace hC2 := Kd.C_below hC2 hb
  replace hOA := Kd.C_below hOA hb
  replace hT5 := blk_below hT5 hb
  replace hD4 := Kd.C_below hD4 hb
  replace hF9 := hF9.below hb
  replace hF10 := hF10.below hb
  replace hF11 := hF11.below hb
  clear hb 
  go_wp2_with fail
  refine (check_calls _ (hU.below HB) (hO.below HB) g1 A1 os.length c1 hM 49 #[] 65001 180 0 A1 c1 os (chg49 _ A1 os.length c1) Tryd.f49 Tryd.func49 rfl rfl hC1 (Nat.le_trans T3.out (by decide)) T4.out (by decide) 3 k49.out).mono ?_
  rintro e w14 ⟨rfl, hb⟩
  replace HB := HB.trans (hb.mono HB.size)
  replace hM := blk_below hM hb
  replace hC1 := Kd.C_below hC1 hb
  replace hC2 := Kd.C_below hC2 hb
  replace hOA := Kd.C_below hOA hb
  replace hT5 := blk_below hT5 hb
  replace hD4 := Kd.C_below hD4 hb
  replace hF9 := hF9.below hb
  replace hF10 := hF10.below hb
  replace hF11 := hF11.below hb
  clear hb 
  go_wp2_with fail
  refine (check_calls _ (hU.below HB) (hO.below HB) g1 A1 os.length c1 hM 50 #[] 65001 180 3758096385 A1 c1 os (chg50 _ A1 os.length c1) Tryd.f50 Tryd.func50 rfl rfl hC1 (Nat.le_trans T3.out (by decide)) T4.out (by decide) 3 k50.out).mono ?_
  rintro e w15 ⟨rfl, hb⟩
  replace HB := HB.trans (hb.mono HB.size)
  replace hM := blk_below hM hb
  replace hC1 := Kd.C_below hC1 hb
  replace hC2 := Kd.C_below hC2 hb
  replace hOA := Kd.C_below hOA hb
  replace hT5 := blk_below hT5 hb
  replace hD4 := Kd.C_below hD4 hb
  replace hF9 := hF9.below hb
  replace hF10 := hF10.below hb
  replace hF11 := hF11.below hb
  clear hb 
  go_wp2_with fail
  refine (check_calls _ (hU.below HB) (hO.below HB) g1 A1 os.length c1 hM 51 #[] 65001 2 3221225985 A1 c1 os (chg51 _ A1 os.length c1) Tryd.f51 Tryd.func51 rfl rfl hC1 (Nat.le_trans T3.out (by decide)) T4.out (by decide) 6 k51.out).mono ?_
  rintro e w16 ⟨rfl, hb⟩
  replace HB := HB.trans (hb.mono HB.size)
  replace hM := blk_below hM hb
  replace hC1 := Kd.C_below hC1 hb
  replace hC2 := Kd.C_below hC2 hb
  replace hOA := Kd.C_below hOA hb
  replace hT5 := blk_below hT5 hb
  replace hD4 := Kd.C_below hD4 hb
  replace hF9 := hF9.below hb
  replace hF10 := hF10.below hb
  replace hF11 := hF11.below hb
  clear hb 
  go_wp2_with fail
  refine (check_calls _ (hU.below HB) (hO.below HB) g1 A1 os.length c1 hM 52 #[] 65001 0 3221225985 A1 c1 os (chg52 _ A1 os.length c1) Tryd.f52 Tryd.func52 rfl rfl hC1 (Nat.le_trans T3.out (by decide)) T4.out (by decide) 0 k52.out).mono ?_
  rintro e w17 ⟨rfl, hb⟩
  replace HB := HB.trans (hb.mono HB.size)
  replace hM := blk_below hM hb
  replace hC1 := Kd.C_below hC1 hb
  replace hC2 := Kd.C_below hC2 hb
  replace hOA := Kd.C_below hOA hb
  replace hT5 := blk_below hT5 hb
  replace hD4 := Kd.C_below hD4 hb
  replace hF9 := hF9.below hb
  replace hF10 := hF10.below hb
  replace hF11 := hF11.below hb
  clear hb 
  go_wp2_with fail
  refine (check_calls _ (hU.below HB) (hO.below HB) g1 A1 os.length c1 hM 53 #[] 65001 3 3221225985 A1 c1 os (chg53 _ A1 os.length c1) Tryd.f53 Tryd.func53 rfl rfl hC1 (Nat.le_trans T3.out (by decide)) T4.out (by decide) 0 k53.out).mono ?_
  rintro e w18 ⟨rfl, hb⟩
  replace HB := HB.trans (hb.mono HB.size)
  replace hM := blk_below hM hb
  replace hC1 := Kd.C_below hC1 hb
  replace hC2 := Kd.C_below hC2 hb
  replace hOA := Kd.C_below hOA hb
  replace hT5 := blk_below hT5 hb
  replace hD4 := Kd.C_below hD4 hb
  replace hF9 := hF9.below hb
  replace hF10 := hF10.below hb
  replace hF11 := hF11.below hb
  clear hb 
  have x0 := blk_cell hT5 0
  simp at x0
  go_wp2_with fail
  refine (check_calls _ (hU.below HB) (hO.below HB) g1 A1 os.length c1 hM 54 #[.pointer (some ⟨g2 + 2, 0, none⟩)] 65001 180 3221225985 (some ⟨g2 + 1, 0, none⟩) 1 [⟨1, [0, 2, 0, 1]⟩] (chg54 _ A1 os.length c1 (g2 + 2) (blk_lt hT5) _ 1 1 x0) Tryd.f54 Tryd.func54 rfl rfl hOA (by decide) (wf6_of (by intro x hx; simp at hx; subst hx; exact ⟨by simp, by intro b hb; simp at hb; omega⟩)) (by decide) 7 kc54).mono ?_
  rintro e w19 ⟨rfl, hb⟩
  replace HB := HB.trans (hb.mono HB.size)
  replace hM := blk_below hM hb
  replace hC1 := Kd.C_below hC1 hb
  replace hC2 := Kd.C_below hC2 hb
  replace hOA := Kd.C_below hOA hb
  replace hT5 := blk_below hT5 hb
  replace hD4 := Kd.C_below hD4 hb
  replace hF9 := hF9.below hb
  replace hF10 := hF10.below hb
  replace hF11 := hF11.below hb
  clear hb x0
  go_wp2_with fail
  refine (check_calls _ (hU.below HB) (hO.below HB) g1 A1 os.length c1 hM 55 #[] 65001 180 3221225985 none 0 [] (chg55 _ A1 os.length c1) Tryd.f55 Tryd.func55 rfl rfl (Kd.C_nil _ _) (by decide) (by intro x hx; cases hx) (by decide) 0 kc55).mono ?_
  rintro e w20 ⟨rfl, hb⟩
  replace HB := HB.trans (hb.mono HB.size)
  replace hM := blk_below hM hb
  replace hC1 := Kd.C_below hC1 hb
  replace hC2 := Kd.C_below hC2 hb
  replace hOA := Kd.C_below hOA hb
  replace hT5 := blk_below hT5 hb
  replace hD4 := Kd.C_below hD4 hb
  replace hF9 := hF9.below hb
  replace hF10 := hF10.below hb
  replace hF11 := hF11.below hb
  clear hb 
  have hcv := Kd.C_string (P := Tryd.prog) (A := D4) (c := d4) Tryd.underlying22 Tryd.underlying5 Tryd.underlying9 hD4
  rw [od_str] at hcv
  simp only [List.length_cons, List.length_nil, Nat.reduceAdd, Nat.zero_add] at hcv
  have hF9a := hF9.c0
  have hF9b := hF9.c1
  have hF10a := hF10.c0
  have hF10b := hF10.c1
  have hF11a := hF11.c0
  have hF11b := hF11.c1
  go_wp2_with fail
  refine (tells_calls _ (hG.below HB) (hU.below HB) (hO.below HB)).mono ?_
  rintro e wz ⟨rfl, hb⟩
  replace HB := HB.trans (hb.mono HB.size)
  go_wp2
  go_ret
  exact ⟨rfl, HB⟩
end Go.Proofs.YthafedmlbialiaaDoor
