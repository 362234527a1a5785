/-
  bytes.Clone, and what the document's examples say (consulatelaw05.wakes).
-/
import Derived.Test.YthafedmlbialiaaDoorC3
namespace Go.Proofs.YthafedmlbialiaaDoor
open Go.RowKit Go.Proofs.YthafedmlbialiaaDoorW.PrintWords Go.Proofs.YthafedmlbialiaaDoorW.PrintLast Go.Proofs.YthafedmlbialiaaDoorW.PrintMore
set_option linter.unusedVariables false
set_option linter.unusedSimpArgs false

set_option maxHeartbeats 400000 in
theorem BClone_calls (w : World) (B : Nat) (A : Option Addr) (c : Nat) (xs : List Int) (hB : B ≤ w.heap.size) (hC : (Kd.int .u8).C w A xs.length xs) (hl : xs.length ≤ 140737488351232) :
    Calls Tryd.prog 14 #[.slice A xs.length c] w fun e w' => ∃ v, e = .returned v ∧ (Kd.int .u8).R 5 w' B (fun _ => True) v xs ∧ Below w.heap.size w w' := by
  have hq := fun (w1 : World) => Lib.run_eql_slice_nil (P := Tryd.prog) w1 22 5 A xs.length c 0 0 Tryd.underlying22
  cases A with
  | none =>
    have h0 : xs = [] := by
      have h2 := hC.2.2
      rcases Nat.eq_zero_or_pos xs.length with h | h
      · exact List.eq_nil_of_length_eq_zero h
      · obtain ⟨ad, he, _⟩ := h2 h
        cases he
    subst h0
    clear hl hC hB hq
    have hq := fun (w1 : World) => Lib.run_eql_slice_nil_nil (P := Tryd.prog) w1 (t := 22) (e := 5) 0 c Tryd.underlying22
    show Calls Tryd.prog 14 #[.slice none 0 c] w _
    go_enter Tryd.func14, Tryd.ntmps14
    go_wp2
    go_ret
    exact ⟨_, rfl, Kd.R_nil _ _ _ _ _, Below.refl _ _⟩
  | some ad =>
    have hb : Below w.heap.size w (w.alloc (.cells #[] 5)) := below_alloc (Below.refl _ _) _
    have hb2 : Below B w (w.alloc (.cells #[] 5)) := hb.mono hB
    have hR : (Kd.int .u8).R 5 (w.alloc (.cells #[] 5)) w.heap.size (fun _ => True) (.slice (some ⟨w.heap.size, 0, none⟩) 0 0) [] := by
      have h := World.ownsRow_lit (base := w.heap.size) (e := 5) (size := 1) w #[] 0 (Nat.le_refl _) (by simp [maxLen]) (by simp)
      exact ⟨fun _ _ => trivial, [], (show World.ownsRow _ _ _ 1 _ _ _ by simpa using h), ⟨by simp, fun j p hj => by simp at hj⟩⟩
    go_enter Tryd.func14, Tryd.ntmps14
    go_wp2_with (at_builtin; refine Kd.R_append_rows (Kd.int .u8) (w0 := w) w.heap.size rfl _ _ 22 5 (.int .u8 0) 1 rfl Tryd.underlying22 info5 rfl (by decide) (by decide) (.slice (some ⟨w.heap.size, 0, none⟩) 0 0) [] xs (some ad) xs.length c (fun _ => True) (fun _ => False) rfl rfl hR (Kd.C_below hC hb) ?_ (fun _ h => h.elim) (fun _ _ => trivial) hb (by simp) (by simp; omega) ?_)
    · intro x cs h
      exact h
    · intro v1 w1 hR1 hb1 _ _
      go_wp2
      go_ret
      exact ⟨_, rfl, Kd.R_lower hR1 hB, hb1⟩


/-- A literal of bytes in its new block. -/
theorem lit5 (w : World) (xs : List Int) (hl : xs.length ≤ 140737488351232) : (Kd.int .u8).C (w.alloc (.cells (nums .u8 xs).toArray 5)) (some ⟨w.heap.size, 0, none⟩) xs.length xs := by
  have h := own_lit w 0 5 .u8 xs (Nat.zero_le _) (by omega)
  obtain ⟨A, c, he, hr⟩ := own_reads h
  injection he with h1 h2 h3
  subst h1
  exact Kd.C_of_reads (enc := Value.int .u8) (d := (0 : Int)) hr

theorem wk1 : capsRead.f 20 [2, 2, 2, 0] = some ([⟨2, []⟩], 0, 0) := by kernel_rfl
theorem wk2 : capsRead.f 20 [2, 6, 65, 4, 0, 1, 0, 0] = some ([⟨65, [0, 1, 0, 0]⟩], 0, 0) := by kernel_rfl
theorem wk3 : capsRead.f 20 [1, 0] = some ([], 2, 4) := by kernel_rfl
theorem wk4 : capsRead.f 20 [2, 2, 2] = some ([], 2, 0) := by kernel_rfl
theorem wk5 : capsRead.f 20 [2, 1, 2] = some ([], 2, 0) := by kernel_rfl
theorem wk6 : capsNumber [⟨65, [0, 1, 0, 0]⟩] = (65536, true) := by kernel_rfl
theorem wk7 : capsRefreshes [⟨2, []⟩] = true := by kernel_rfl

/-- caps.Read of a literal. -/
theorem wk_step (xs : List Int) (l : List PA.S61) (f0 f1 : Int) (hx : capsRead.f 20 xs = some (l, f0, f1)) (hl : xs.length ≤ 140737488351232) (hb : ∀ x, x ∈ xs → 0 ≤ x ∧ x < 256) (w0 W : World) (hG : GlobC w0) (hB : Below w0.heap.size w0 W) (b : Nat) (hbb : W.heap.size = b) :
    Calls Tryd.prog 15 #[.slice (some ⟨b, 0, none⟩) xs.length xs.length] (W.alloc (.cells (nums .u8 xs).toArray 5)) fun e w' => ∃ A c, e = .returned (.tuple #[.slice A l.length c, .agg #[.int .u8 f0, .int .u8 f1]]) ∧ PA.k61.C w' A l.length l ∧ Below W.heap.size W w' := by
  subst hbb
  have b1 := below_alloc (Below.refl W.heap.size W) (.cells (nums .u8 xs).toArray 5)
  refine (capsRead_calls 20 _ _ xs _ _ _ _ ((hG.below hB).below b1) (lit5 W xs hl) hl hb hx).mono fun e w' ⟨v, he, hR, hb'⟩ => ?_
  obtain ⟨A, c, rfl, _, hC⟩ := Kd.R_reads hR
  exact ⟨A, c, he, hC, b1.trans (hb'.mono b1.size)⟩

/-- A fault's block, kept. -/
def FB (w : World) (b : Nat) (x y : Int) : Prop := w.heap[b]? = some (.cells #[.int .u8 x, .int .u8 y] 26 (0, 0))
theorem FB.below {w w' : World} {b : Nat} {x y : Int} (h : FB w b x y) (hb : Below w.heap.size w w') : FB w' b x y := blk_below h hb
theorem FB.new (w : World) (x y : Int) : FB (w.alloc (.cells #[.int .u8 x, .int .u8 y] 26)) w.heap.size x y := blk_new _ _
theorem FB.c0 {w : World} {b : Nat} {x y : Int} (h : FB w b x y) : w.cell? ⟨b, 0, none⟩ = some (.int .u8 x) := (blk_cell h 0).trans rfl
theorem FB.c1 {w : World} {b : Nat} {x y : Int} (h : FB w b x y) : w.cell? ⟨b, 1, none⟩ = some (.int .u8 y) := (blk_cell h 1).trans rfl

set_option maxHeartbeats 4000000 in
set_option maxRecDepth 100000 in
theorem wakes_calls (w : World) (hG : GlobC w) :
    Calls Tryd.prog 20 #[] w fun e w' => e = .returned (.bool true) ∧ Below w.heap.size w w' := by
  have hGw := Aside0.mk hG
  clear hG
  go_enter Tryd.func20, Tryd.ntmps20
  go_wp2_with fail
  refine (wk_step [2, 2, 2, 0] _ _ _ wk1 (by decide) (by decide) w w hGw.out (Below.refl _ _) _ rfl).mono ?_
  rintro e w1 ⟨A1, c1, rfl, hC1, hb⟩
  have HB := hb
  clear hb
  go_wp2_with fail
  have hF1 := FB.new w1 0 0
  have hb := below_alloc (Below.refl w1.heap.size w1) (.cells #[.int .u8 0, .int .u8 0] 26)
  replace HB := HB.trans (hb.mono HB.size)
  replace hC1 := Kd.C_below hC1 hb
  refine (wk_step [2, 6, 65, 4, 0, 1, 0, 0] _ _ _ wk2 (by decide) (by decide) w _ hGw.out HB (w1.heap.size + 1) (by simp)).mono ?_
  clear hb
  rintro e w2 ⟨A2, c2, rfl, hC2, hb⟩
  replace HB := HB.trans (hb.mono HB.size)
  replace hF1 := hF1.below hb
  replace hC1 := Kd.C_below hC1 hb
  clear hb
  go_wp2_with fail
  have hF2 := FB.new w2 0 0
  have hb := below_alloc (Below.refl w2.heap.size w2) (.cells #[.int .u8 0, .int .u8 0] 26)
  replace HB := HB.trans (hb.mono HB.size)
  replace hF1 := hF1.below hb
  replace hC1 := Kd.C_below hC1 hb
  replace hC2 := Kd.C_below hC2 hb
  refine (Number_calls _ A2 c2 _ hC2 (by decide) (by
    intro x hx
    rw [List.mem_singleton.1 hx]
    exact ⟨by decide, by decide⟩) _ _ wk6).mono ?_
  clear hb hC2
  rintro e w3 ⟨rfl, hb⟩
  replace HB := HB.trans (hb.mono HB.size)
  replace hF1 := hF1.below hb
  replace hF2 := hF2.below hb
  replace hC1 := Kd.C_below hC1 hb
  clear hb
  go_wp2_with fail
  refine (wk_step [1, 0] _ _ _ wk3 (by decide) (by decide) w _ hGw.out HB _ rfl).mono ?_
  rintro e w4 ⟨A4, c4, rfl, hC4, hb⟩
  replace HB := HB.trans (hb.mono HB.size)
  replace hF1 := hF1.below hb
  replace hF2 := hF2.below hb
  replace hC1 := Kd.C_below hC1 hb
  clear hb hC4
  go_wp2_with fail
  have hF3 := FB.new w4 2 4
  have hb := below_alloc (Below.refl w4.heap.size w4) (.cells #[.int .u8 2, .int .u8 4] 26)
  replace HB := HB.trans (hb.mono HB.size)
  replace hF1 := hF1.below hb
  replace hF2 := hF2.below hb
  replace hC1 := Kd.C_below hC1 hb
  clear hb
  refine (wk_step [2, 2, 2] _ _ _ wk4 (by decide) (by decide) w _ hGw.out HB _ (by simp)).mono ?_
  rintro e w5 ⟨A5, c5, rfl, hC5, hb⟩
  replace HB := HB.trans (hb.mono HB.size)
  replace hF1 := hF1.below hb
  replace hF2 := hF2.below hb
  replace hF3 := hF3.below hb
  replace hC1 := Kd.C_below hC1 hb
  clear hb hC5
  go_wp2_with fail
  have hF4 := FB.new w5 2 0
  have hb := below_alloc (Below.refl w5.heap.size w5) (.cells #[.int .u8 2, .int .u8 0] 26)
  replace HB := HB.trans (hb.mono HB.size)
  replace hF1 := hF1.below hb
  replace hF2 := hF2.below hb
  replace hF3 := hF3.below hb
  replace hC1 := Kd.C_below hC1 hb
  clear hb
  refine (wk_step [2, 1, 2] _ _ _ wk5 (by decide) (by decide) w _ hGw.out HB _ (by simp)).mono ?_
  rintro e w6 ⟨A6, c6, rfl, hC6, hb⟩
  replace HB := HB.trans (hb.mono HB.size)
  replace hF1 := hF1.below hb
  replace hF2 := hF2.below hb
  replace hF3 := hF3.below hb
  replace hF4 := hF4.below hb
  replace hC1 := Kd.C_below hC1 hb
  clear hb hC6
  have hF5 := FB.new w6 2 0
  have hb := below_alloc (Below.refl w6.heap.size w6) (.cells #[.int .u8 2, .int .u8 0] 26)
  have g0 := (hF1.below hb).c0
  have g1 := (hF1.below hb).c1
  have e0 : ∀ W, (binOp .eql 26 (.agg #[.int .u8 0, .int .u8 0]) (.agg #[.int .u8 0, .int .u8 0])).run Tryd.prog W = .ok (.bool true) W := fun _ => by kernel_rfl
  go_wp2_with fail
  replace HB := HB.trans (hb.mono HB.size)
  replace hF1 := hF1.below hb
  replace hF2 := hF2.below hb
  replace hF3 := hF3.below hb
  replace hF4 := hF4.below hb
  replace hC1 := Kd.C_below hC1 hb
  clear hb g0 g1
  have hr := Refreshes_calls _ A1 c1 _ hC1 (by decide)
  rw [wk7] at hr
  refine hr.mono ?_
  clear hr
  rintro e w7 ⟨rfl, hb⟩
  replace HB := HB.trans (hb.mono HB.size)
  have g20 := (hF2.below hb).c0
  have g21 := (hF2.below hb).c1
  have g30 := (hF3.below hb).c0
  have g31 := (hF3.below hb).c1
  have g40 := (hF4.below hb).c0
  have g41 := (hF4.below hb).c1
  have g50 := (hF5.below hb).c0
  have g51 := (hF5.below hb).c1
  have e1 : ∀ W, (binOp .eql 26 (.agg #[.int .u8 2, .int .u8 4]) (.agg #[.int .u8 2, .int .u8 4])).run Tryd.prog W = .ok (.bool true) W := fun _ => by kernel_rfl
  have e2 : ∀ W, (binOp .eql 26 (.agg #[.int .u8 2, .int .u8 0]) (.agg #[.int .u8 2, .int .u8 0])).run Tryd.prog W = .ok (.bool true) W := fun _ => by kernel_rfl
  clear hF1 hF2 hF3 hF4 hF5 hC1 hb
  go_wp2
  go_ret
  exact ⟨rfl, HB⟩
end Go.Proofs.YthafedmlbialiaaDoor
