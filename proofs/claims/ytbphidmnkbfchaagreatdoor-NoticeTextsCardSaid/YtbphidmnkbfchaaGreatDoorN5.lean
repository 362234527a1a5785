/-
  The walks of notice's Read, at a notification and a refresh.
-/
import Derived.Test.YtbphidmnkbfchaaGreatDoorN4
import Derived.Test.YtbphidmnkbfchaaGreatDoorP5
namespace Go.Proofs.YtbphidmnkbfchaaGreatDoor
open Go.RowKit Go.Proofs.YtbphidmnkbfchaaGreatDoorW.PrintWords Go.Proofs.YtbphidmnkbfchaaGreatDoorW.PrintLast Go.Proofs.YtbphidmnkbfchaaGreatDoorW.PrintMore
set_option linter.unusedVariables false
set_option linter.unusedSimpArgs false

/-! ### Whole variables -/
theorem wpList_load_run {P : Program} {ops : Array Oper} {rest : List Oper} {o : Oper} {a : Act} {w : World} {Q : Exit → Act → World → Prop} (hgd : o.guard = none) (ty : TypeId) (x : Operand) (ho : o.op = .load ty x)
    (p : Value) (hx : a.eval x = p) (v : Value) (hrun : (Instr.loadAt ty p).run P w = .ok v w) (h : wpList P ops Q rest (a.put o.dst v) w) : wpList P ops Q (o :: rest) a w :=
  wpList_plain hgd fun _ hK => by
    unfold Oper.wp execOp
    simp only [ho, hx, Sem.run_bind, hrun, Result.andThen_ok]
    exact hK _ _ h
theorem wpList_store_run {P : Program} {ops : Array Oper} {rest : List Oper} {o : Oper} {a : Act} {w : World} {Q : Exit → Act → World → Prop} (hgd : o.guard = none) (ty : TypeId) (x y : Operand) (ho : o.op = .store ty x y)
    (p v : Value) (hx : a.eval x = p) (hy : a.eval y = v) (W : World) (hrun : (Instr.storeAt ty p v).run P w = .ok () W) (h : wpList P ops Q rest (a.put o.dst undef) W) : wpList P ops Q (o :: rest) a w :=
  wpList_plain hgd fun _ hK => by
    unfold Oper.wp execOp
    simp only [ho, hx, hy, Sem.run_bind, hrun, Result.andThen_ok]
    exact hK _ _ h
theorem ld_row {W : World} {g t ty : Nat} {cs : Array Value} {fs : Array Field} (hg : W.heap[g]? = some (.cells cs t (0, 0))) (hu : Tryz.prog.underlying ty = some (.struct fs)) (hi : (Tryz.prog.info? ty).map (·.size) = some cs.size) :
    (Instr.loadAt ty (.pointer (some ⟨g, 0, none⟩))).run Tryz.prog W = .ok (.agg cs) W := by
  simp only [Instr.loadAt, Instr.sureAddr, Sem.run_bind, Sem.run_pure, Result.andThen_ok, run_loadVar_row W g t ty cs (0, 0) (.struct fs) hg hu rfl hi]
theorem st_row {W : World} {g t ty : Nat} {old cells : Array Value} (hg : W.heap[g]? = some (.cells old t (0, 0))) (hi : (Tryz.prog.info? ty).map (·.size) = some cells.size) (hs : old.size = cells.size) (h1 : cells.all (·.oneCell') = true) :
    ∃ W', (Instr.storeAt ty (.pointer (some ⟨g, 0, none⟩)) (.agg cells)).run Tryz.prog W = .ok () W' ∧ W'.heap[g]? = some (.cells cells t (0, 0)) ∧ (∀ k, k ≠ g → W'.heap[k]? = W.heap[k]?) ∧ (∀ B a, Below B a W → B ≤ g → Below B a W') ∧ ∀ B, B ≤ g → KT B [t] W W' := by
  have hr := run_storeVar_row (P := Tryz.prog) W g t ty old cells hg hi ?_ ?_
  · refine ⟨W.setRow g cells, ?_, setRow_heap W g old cells t (0, 0) hg, fun k hk => setRow_other W g k cells hk, fun B a hb hB => below_setRow hb hB cells, fun B hB => ⟨rfl, rfl, rfl, by simp [World.setRow], fun k hk hkk => setRow_other W g k cells (fun e => ?_)⟩⟩
    rotate_left
    · subst e
      rcases hkk with hkk | hkk
      · omega
      · exact hkk t ⟨_, _, hg⟩ (by simp)
    simp only [Instr.storeAt, Instr.sureAddr, Sem.run_bind, Sem.run_pure, Result.andThen_ok, hr]
  · exact hs
  · exact h1
theorem blk_belowM {M g : Nat} {w w' : World} {o : Obj} (h : w.heap[g]? = some o) (hb : Below M w w') (hg : g < M) : w'.heap[g]? = some o := (hb.block g hg).trans h
theorem IsR.set_far {w : World} {B g : Nat} {r : Rdr} {M t : Nat} {cs : Array Value} (h : IsR w B g r) (hM : w.heap[M]? = some (.cells cs t (0, 0))) (ht : t ≠ 175 ∧ t ≠ 5 ∧ t ≠ 3) (i : Nat) (v : Value) : IsR (w.setCell ⟨M, i, none⟩ v) B g r := by
  obtain ⟨bv, ev, hg, hB, hb, he, ok⟩ := h
  exact ⟨bv, ev, blk_far hg (p := ⟨M, i, none⟩) (blk_ne hg hM ht.1.symm) v, hB, Kd.R_set hb hM (by intro q hq; rcases List.mem_cons.1 hq with rfl | hq; exact ht.2.1.symm; exact (List.not_mem_nil hq).elim) i v, Kd.R_set he hM (by intro q hq; rcases List.mem_cons.1 hq with rfl | hq; exact ht.2.2.symm; exact (List.not_mem_nil hq).elim) i v, ok⟩

set_option maxHeartbeats 4000000 in
set_option maxRecDepth 100000 in
theorem rd3_calls (w : World) (M : Nat) (c0 c1 c2 c3 c4 c5 c6 c7 c8 c9 c10 c11 c12 c13 c14 c15 c16 c17 c18 c19 c20 c21 c22 c23 c24 c25 c26 : Value) (hM : w.heap[M]? = some (.cells #[c0, c1, c2, c3, c4, c5, c6, c7, c8, c9, c10, c11, c12, c13, c14, c15, c16, c17, c18, c19, c20, c21, c22, c23, c24, c25, c26] 48 (0, 0))) (A : Option Addr) (c : Nat) (x y : Int) (s : List Int) (hC : (Kd.int .u8).C w A (x :: y :: s).length (x :: y :: s)) (hl : (x :: y :: s).length ≤ 100000) (hb : ∀ z, z ∈ x :: y :: s → 0 ≤ z ∧ z < 256) (f1 f2 f3 : Bool) :
    Calls Tryz.prog 81 #[.pointer (some ⟨M, 0, none⟩), .slice A (x :: y :: s).length c, .agg #[.bool f1, .bool f2, .bool f3]] w fun e w' => ∃ v, e = .returned (.agg #[.int .u8 0, .int .u8 0, .slice none 0 0]) ∧ (Kd.int .u8).R 5 w' w.heap.size (fun _ => True) v s ∧ w'.heap[M]? = some (.cells #[c0, c1, c2, c3, c4, c5, c6, c7, c8, c9, c10, c11, c12, c13, c14, c15, c16, c17, c18, c19, c20, c21, .int .u8 x, .int .u8 y, v, c25, c26] 48 (0, 0)) ∧ Below M w w' := by
  have hlt := blk_lt hM
  have HB := below_alloc (Below.refl w.heap.size w) (.cells #[.bool f1, .bool f2, .bool f3] 50)
  have HB2 := below_alloc HB (.cells #[.int .u8 0, .int .u8 0, .slice none 0 0] 44)
  have hZ := blk_new (w.alloc (.cells #[.bool f1, .bool f2, .bool f3] 50)) (.cells #[.int .u8 0, .int .u8 0, .slice none 0 0] 44)
  rw [show (w.alloc (.cells #[.bool f1, .bool f2, .bool f3] 50)).heap.size = w.heap.size + 1 by simp] at hZ
  have hne : M ≠ w.heap.size + 1 := by omega
  replace hM := blk_below hM HB2
  replace hC := Kd.C_below hC HB2
  clear HB
  obtain ⟨wa, hwa⟩ : ∃ wa, (w.alloc (.cells #[.bool f1, .bool f2, .bool f3] 50)).alloc (.cells #[.int .u8 0, .int .u8 0, .slice none 0 0] 44) = wa := ⟨_, rfl⟩
  rw [hwa] at hM hC HB2 hZ
  have hH := Aside0.mk (New_calls wa A c (x :: y :: s) hC (by omega) hb)
  generalize hlen : (x :: y :: s).length = n at *
  clear hlen hl
  go_enter Tryz.func81, Tryz.ntmps81
  go_wp2_with fail
  refine hH.out.mono ?_
  clear hwa
  rintro e w1 ⟨g, rfl, hR, hb1⟩
  have sz0 := HB2.size
  have sz1 := hb1.size
  have B1 := HB2.trans (hb1.mono HB2.size)
  replace hM := blk_below hM hb1
  replace hZ := blk_below hZ hb1
  clear hb1 hC HB2 hH
  go_wp2_with fail
  refine (RByte_on hR (Rdr.new_on (x :: y :: s))).mono ?_
  rintro e w2 ⟨rfl, hR2, ho2, k2⟩
  replace B1 := B1.trans ((k2.below sz1).mono sz0)
  have sz2 := Nat.le_trans sz1 k2.size
  replace hM := blk_kt hM k2 (by decide)
  replace hZ := blk_kt hZ k2 (by decide)
  clear k2 hR
  go_wp2_with fail
  refine (RByte_on hR2 ho2).mono ?_
  rintro e w3 ⟨rfl, hR3, ho3, k3⟩
  replace B1 := B1.trans ((k3.below sz2).mono sz0)
  have sz3 := Nat.le_trans sz2 k3.size
  replace hM := blk_kt hM k3 (by decide)
  replace hZ := blk_kt hZ k3 (by decide)
  clear k3 hR2 ho2
  go_wp2_with fail
  refine (Rest_on hR3 ho3).mono ?_
  rintro e w4 ⟨v, rfl, hv, k4⟩
  replace B1 := B1.trans ((k4.below sz3).mono sz0)
  replace hM := blk_kt hM k4 (by decide)
  replace hZ := blk_kt hZ k4 (by decide)
  obtain ⟨A4, cc4, rfl⟩ := Kd.R_slice hv
  have sz4 := Nat.le_trans sz3 k4.size
  clear k4 hR3 ho3
  have q0 := blk_cell hM 22
  have q1 := blk_cell hM 23
  have q2 := blk_cell hM 24
  have f0 := blk_frozen hM 22
  have f1 := blk_frozen hM 23
  have f2 := blk_frozen hM 24
  have z0 := blk_cell hZ 0
  have z1 := blk_cell hZ 1
  have z2 := blk_cell hZ 2
  have y0 := blk_frozen hZ 0
  have y1 := blk_frozen hZ 1
  have y2 := blk_frozen hZ 2
  simp at q0 q1 q2 z0 z1 z2
  clear sz1 sz2 sz3
  go_wp2_with fail
  have m0 := blk_put hM 22 (.int .u8 x) rfl
  have m1 := blk_put m0 23 (.int .u8 y) rfl
  have m2 := blk_put m1 24 (.slice A4 s.length cc4) rfl
  have t0 := blk_far hZ (p := ⟨M, 22, none⟩) (Ne.symm hne) (.int .u8 x)
  have t1 := blk_far t0 (p := ⟨M, 23, none⟩) (Ne.symm hne) (.int .u8 y)
  have t2 := blk_far t1 (p := ⟨M, 24, none⟩) (Ne.symm hne) (.slice A4 s.length cc4)
  have u0 := blk_put t2 0 (.int .u8 0) rfl
  have u1 := blk_put u0 1 (.int .u8 0) rfl
  have u2 := blk_put u1 2 (.slice none 0 0) rfl
  have n0 := blk_far m2 (p := ⟨w.heap.size + 1, 0, none⟩) hne (.int .u8 0)
  have n1 := blk_far n0 (p := ⟨w.heap.size + 1, 1, none⟩) hne (.int .u8 0)
  have n2 := blk_far n1 (p := ⟨w.heap.size + 1, 2, none⟩) hne (.slice none 0 0)
  have hr := (Kd.R_set (Kd.R_set (Kd.R_set (Kd.R_set (Kd.R_set (Kd.R_set hv hM (by decide) 22 (.int .u8 x)) m0 (by decide) 23 (.int .u8 y)) m1 (by decide) 24 (.slice A4 s.length cc4)) t2 (by decide) 0 (.int .u8 0)) u0 (by decide) 1 (.int .u8 0)) u1 (by decide) 2 (.slice none 0 0))
  have hbb := (((((((B1.mono (Nat.le_of_lt hlt)).setCell (p := ⟨M, 22, none⟩) (Nat.le_refl _) (.int .u8 x)).setCell (p := ⟨M, 23, none⟩) (Nat.le_refl _) (.int .u8 y)).setCell (p := ⟨M, 24, none⟩) (Nat.le_refl _) (.slice A4 s.length cc4)).setCell (p := ⟨w.heap.size + 1, 0, none⟩) (Nat.le_succ_of_le (Nat.le_of_lt hlt)) (.int .u8 0)).setCell (p := ⟨w.heap.size + 1, 1, none⟩) (Nat.le_succ_of_le (Nat.le_of_lt hlt)) (.int .u8 0)).setCell (p := ⟨w.heap.size + 1, 2, none⟩) (Nat.le_succ_of_le (Nat.le_of_lt hlt)) (.slice none 0 0))
  have e0 := blk_cell u2 0
  have e1 := blk_cell u2 1
  have e2 := blk_cell u2 2
  simp at e0 e1 e2
  exact bodyPost_ret (v := .agg #[.int .u8 0, .int .u8 0, .slice none 0 0]) (by simp [results, Tryz.results81, go_sem, e0, e1, e2]) rfl ⟨_, rfl, Kd.R_lower hr sz0, n2, hbb⟩

set_option maxHeartbeats 4000000 in
set_option maxRecDepth 100000 in
theorem rd5_calls (w : World) (M : Nat) (c0 c1 c2 c3 c4 c5 c6 c7 c8 c9 c10 c11 c12 c13 c14 c15 c16 c17 c18 c19 c20 c21 c22 c23 c24 c25 c26 : Value) (hM : w.heap[M]? = some (.cells #[c0, c1, c2, c3, c4, c5, c6, c7, c8, c9, c10, c11, c12, c13, c14, c15, c16, c17, c18, c19, c20, c21, c22, c23, c24, c25, c26] 48 (0, 0))) (A : Option Addr) (c : Nat) (a b z y : Int) (s : List Int) (hC : (Kd.int .u8).C w A (a :: b :: z :: y :: s).length (a :: b :: z :: y :: s)) (hl : (a :: b :: z :: y :: s).length ≤ 100000) (hb : ∀ q, q ∈ a :: b :: z :: y :: s → 0 ≤ q ∧ q < 256) (f1 f2 f3 : Bool) :
    Calls Tryz.prog 83 #[.pointer (some ⟨M, 0, none⟩), .slice A (a :: b :: z :: y :: s).length c, .agg #[.bool f1, .bool f2, .bool f3]] w fun e w' => e = .returned (.agg #[.int .u8 0, .int .u8 0, .slice none 0 0]) ∧ w'.heap[M]? = some (.cells #[c0, c1, c2, c3, c4, c5, c6, c7, c8, c9, c10, c11, c12, c13, c14, c15, c16, c17, c18, c19, c20, c21, c22, c23, c24, .int .u16 (a * 256 + b), .int .u8 y] 48 (0, 0)) ∧ Below M w w' := by
  have ha := hb a (by simp)
  have hbb0 := hb b (by simp)
  have hlt := blk_lt hM
  have HB := below_alloc (Below.refl w.heap.size w) (.cells #[.bool f1, .bool f2, .bool f3] 50)
  have HB2 := below_alloc HB (.cells #[.int .u8 0, .int .u8 0, .slice none 0 0] 44)
  have hZ := blk_new (w.alloc (.cells #[.bool f1, .bool f2, .bool f3] 50)) (.cells #[.int .u8 0, .int .u8 0, .slice none 0 0] 44)
  rw [show (w.alloc (.cells #[.bool f1, .bool f2, .bool f3] 50)).heap.size = w.heap.size + 1 by simp] at hZ
  have hne : M ≠ w.heap.size + 1 := by omega
  replace hM := blk_below hM HB2
  replace hC := Kd.C_below hC HB2
  clear HB
  obtain ⟨wa, hwa⟩ : ∃ wa, (w.alloc (.cells #[.bool f1, .bool f2, .bool f3] 50)).alloc (.cells #[.int .u8 0, .int .u8 0, .slice none 0 0] 44) = wa := ⟨_, rfl⟩
  rw [hwa] at hM hC HB2 hZ
  have hH := Aside0.mk (New_calls wa A c (a :: b :: z :: y :: s) hC (by omega) hb)
  generalize hlen : (a :: b :: z :: y :: s).length = n at *
  clear hlen hl
  go_enter Tryz.func83, Tryz.ntmps83
  go_wp2_with fail
  refine hH.out.mono ?_
  clear hwa
  rintro e w1 ⟨g, rfl, hR, hb1⟩
  have sz0 := HB2.size
  have sz1 := hb1.size
  have B1 := HB2.trans (hb1.mono HB2.size)
  replace hM := blk_below hM hb1
  replace hZ := blk_below hZ hb1
  clear hb1 hC HB2 hH
  go_wp2_with fail
  refine (RTwo_on hR (Rdr.new_on (a :: b :: z :: y :: s)) ha hbb0).mono ?_
  rintro e w2 ⟨rfl, hR2, ho2, k2⟩
  replace B1 := B1.trans ((k2.below sz1).mono sz0)
  have sz2 := Nat.le_trans sz1 k2.size
  replace hM := blk_kt hM k2 (by decide)
  replace hZ := blk_kt hZ k2 (by decide)
  clear k2 hR
  have q0 := blk_cell hM 25
  have f0 := blk_frozen hM 25
  simp at q0
  have hM2 := blk_put hM 25 (.int .u16 (a * 256 + b)) rfl
  have hZ2 := blk_far hZ (p := ⟨M, 25, none⟩) (Ne.symm hne) (.int .u16 (a * 256 + b))
  have B2 := (B1.mono (Nat.le_of_lt hlt)).setCell (p := ⟨M, 25, none⟩) (Nat.le_refl _) (.int .u16 (a * 256 + b))
  have hR2' := IsR.set_far hR2 hM (by decide) 25 (.int .u16 (a * 256 + b))
  have sz2' : wa.heap.size ≤ (w2.setCell ⟨M, 25, none⟩ (.int .u16 (a * 256 + b))).heap.size := by simpa using sz2
  have KEEP := Aside0.mk (And.intro hM2 (And.intro hZ2 (And.intro B2 (And.intro hR2' sz2'))))
  clear hM2 hZ2 B2 hR2' sz2'
  go_wp2_with fail
  obtain ⟨hM2, hZ2, B2, hR2', sz2'⟩ := KEEP.out
  clear KEEP q0 f0 hM hZ B1 hR2
  generalize w2.setCell ⟨M, 25, none⟩ (.int .u16 (a * 256 + b)) = w3 at *
  refine (RByte_on hR2' ho2).mono ?_
  rintro e w4 ⟨rfl, hR4, ho4, k4⟩
  replace B2 := B2.trans ((k4.below sz2').mono (Nat.le_trans (Nat.le_of_lt hlt) sz0))
  have sz4 := Nat.le_trans sz2' k4.size
  replace hM2 := blk_kt hM2 k4 (by decide)
  replace hZ2 := blk_kt hZ2 k4 (by decide)
  clear k4 hR2' ho2
  go_wp2_with fail
  refine (RByte_on hR4 ho4).mono ?_
  rintro e w5 ⟨rfl, hR5, ho5, k5⟩
  replace B2 := B2.trans ((k5.below sz4).mono (Nat.le_trans (Nat.le_of_lt hlt) sz0))
  replace hM2 := blk_kt hM2 k5 (by decide)
  replace hZ2 := blk_kt hZ2 k5 (by decide)
  clear k5 hR4 ho4 hR5 ho5
  have q0 := blk_cell hM2 26
  have f0 := blk_frozen hM2 26
  have z0 := blk_cell hZ2 0
  have z1 := blk_cell hZ2 1
  have z2 := blk_cell hZ2 2
  have y0 := blk_frozen hZ2 0
  have y1 := blk_frozen hZ2 1
  have y2 := blk_frozen hZ2 2
  simp at q0 z0 z1 z2
  go_wp2_with fail
  have m0 := blk_put hM2 26 (.int .u8 y) rfl
  have t0 := blk_far hZ2 (p := ⟨M, 26, none⟩) (Ne.symm hne) (.int .u8 y)
  have u0 := blk_put t0 0 (.int .u8 0) rfl
  have u1 := blk_put u0 1 (.int .u8 0) rfl
  have u2 := blk_put u1 2 (.slice none 0 0) rfl
  have n0 := blk_far m0 (p := ⟨w.heap.size + 1, 0, none⟩) hne (.int .u8 0)
  have n1 := blk_far n0 (p := ⟨w.heap.size + 1, 1, none⟩) hne (.int .u8 0)
  have n2 := blk_far n1 (p := ⟨w.heap.size + 1, 2, none⟩) hne (.slice none 0 0)
  have hbb := ((((B2.setCell (p := ⟨M, 26, none⟩) (Nat.le_refl _) (.int .u8 y)).setCell (p := ⟨w.heap.size + 1, 0, none⟩) (Nat.le_succ_of_le (Nat.le_of_lt hlt)) (.int .u8 0)).setCell (p := ⟨w.heap.size + 1, 1, none⟩) (Nat.le_succ_of_le (Nat.le_of_lt hlt)) (.int .u8 0)).setCell (p := ⟨w.heap.size + 1, 2, none⟩) (Nat.le_succ_of_le (Nat.le_of_lt hlt)) (.slice none 0 0))
  have e0 := blk_cell u2 0
  have e1 := blk_cell u2 1
  have e2 := blk_cell u2 2
  simp at e0 e1 e2
  exact bodyPost_ret (v := .agg #[.int .u8 0, .int .u8 0, .slice none 0 0]) (by simp [results, Tryz.results83, go_sem, e0, e1, e2]) rfl ⟨rfl, n2, hbb⟩
end Go.Proofs.YtbphidmnkbfchaaGreatDoor
