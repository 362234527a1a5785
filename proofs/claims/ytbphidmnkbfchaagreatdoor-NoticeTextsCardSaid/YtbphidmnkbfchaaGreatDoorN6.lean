/-
  The walks of notice's Read, at a notification and a refresh.
-/
import Derived.Test.YtbphidmnkbfchaaGreatDoorN5
namespace Go.Proofs.YtbphidmnkbfchaaGreatDoor
open Go.RowKit Go.Proofs.YtbphidmnkbfchaaGreatDoorW.PrintWords Go.Proofs.YtbphidmnkbfchaaGreatDoorW.PrintLast Go.Proofs.YtbphidmnkbfchaaGreatDoorW.PrintMore
set_option linter.unusedVariables false
set_option linter.unusedSimpArgs false

theorem wpList_val {P : Program} {ops : Array Oper} {rest : List Oper} {o : Oper} {a : Act} {w W : World} {Q : Exit → Act → World → Prop} (hgd : o.guard = none) (v : Value) (hrun : (execOp a.eval o).run P w = .ok (.value v) W) (h : wpList P ops Q rest (a.put o.dst v) W) : wpList P ops Q (o :: rest) a w :=
  wpList_plain hgd fun _ hK => by
    unfold Oper.wp
    rw [hrun, Oper.upon_value]
    exact hK _ _ h
theorem wpList_build_run {P : Program} {ops : Array Oper} {rest : List Oper} {o : Oper} {a : Act} {w : World} {Q : Exit → Act → World → Prop} (hgd : o.guard = none) (t : TypeId) (parts : Array (Nat × Operand)) (ho : o.op = .build t parts)
    (ps : Array (Nat × Value)) (hp : parts.map (fun (i, x) => (i, a.eval x)) = ps) (v : Value) (hrun : (Instr.build t ps).run P w = .ok v w) (h : wpList P ops Q rest (a.put o.dst v) w) : wpList P ops Q (o :: rest) a w :=
  wpList_plain hgd fun _ hK => by
    unfold Oper.wp execOp
    simp only [ho, hp, Sem.run_bind, hrun, Result.andThen_ok]
    exact hK _ _ h
theorem rowC {α : Type} {d : Kd α} {e B n c : Nat} {w : World} {ok : Nat → Prop} {A : Option Addr} {xs : List α} (h : d.R e w B ok (.slice A n c) xs) : d.C w A xs.length xs ∧ xs.length ≤ c ∧ n = xs.length := by
  obtain ⟨A', c', he, hl, hC⟩ := Kd.R_reads h
  injection he with h1 h2 h3
  subst h1 h3
  exact ⟨hC, hl, h2⟩

set_option maxHeartbeats 8000000 in
set_option maxRecDepth 100000 in
theorem Read3_calls (w : World) (hG : GlobN w) (A : Option Addr) (c : Nat) (x y : Int) (s : List Int) (hC : (Kd.int .u8).C w A (x :: y :: s).length (x :: y :: s)) (hl : (x :: y :: s).length ≤ 4077) (hb : ∀ q, q ∈ x :: y :: s → 0 ≤ q ∧ q < 256) (f1 f2 f3 : Bool) :
    Calls Tryz.prog 9 #[.agg #[.int .u8 3, .slice A (x :: y :: s).length c], .agg #[.bool f1, .bool f2, .bool f3]] w fun e w' => ∃ A5 c5, e = .returned (.tuple #[.agg #[.int .u8 3, .int .u8 0, .int .u16 0, .int .u16 0, .int .u32 0, .slice none 0 0, .slice none 0 0, .int .u32 0, .int .u8 0, .slice none 0 0, .int .u32 0, .int .u32 0, .int .u32 0, .int .u32 0, .int .u32 0, .slice none 0 0, .slice none 0 0, .int .u32 0, .int .u32 0, .slice none 0 0, .slice none 0 0, .int .i64 0, .int .u8 x, .int .u8 y, .slice A5 s.length c5, .int .u16 0, .int .u8 0], .agg #[.int .u8 0, .int .u8 0, .slice none 0 0]]) ∧ (Kd.int .u8).C w' A5 s.length s ∧ s.length ≤ c5 ∧ Below w.heap.size w w' := by
  have hFB := Aside0.mk (fun (W : World) (hB : Below w.heap.size w W) => FBytes_ok W (hG.below hB) 3 (by omega) A c (x :: y :: s) (Kd.C_below hC hB) 21 4096 rfl rfl (by have := hl; simp only [List.length_cons] at this ⊢; omega) (by have := hl; simp only [List.length_cons] at this ⊢; omega) (by have := hl; simp only [List.length_cons] at this ⊢; omega))
  have c1 := below_alloc (Below.refl w.heap.size w) (.cells #[.int .u8 3, .slice A (x :: y :: s).length c] 59)
  have c2 := below_alloc c1 (.cells #[.bool f1, .bool f2, .bool f3] 50)
  have c3 := below_alloc c2 (.cells #[.int .u8 0, .int .u8 0, .int .u16 0, .int .u16 0, .int .u32 0, .slice none 0 0, .slice none 0 0, .int .u32 0, .int .u8 0, .slice none 0 0, .int .u32 0, .int .u32 0, .int .u32 0, .int .u32 0, .int .u32 0, .slice none 0 0, .slice none 0 0, .int .u32 0, .int .u32 0, .slice none 0 0, .slice none 0 0, .int .i64 0, .int .u8 0, .int .u8 0, .slice none 0 0, .int .u16 0, .int .u8 0] 48)
  have HB := below_alloc c3 (.cells #[.int .u8 0, .int .u8 0, .slice none 0 0] 44)
  have hm := blk_new w (.cells #[.int .u8 3, .slice A (x :: y :: s).length c] 59)
  have hs := blk_new (w.alloc (.cells #[.int .u8 3, .slice A (x :: y :: s).length c] 59)) (.cells #[.bool f1, .bool f2, .bool f3] 50)
  have ho := blk_new ((w.alloc (.cells #[.int .u8 3, .slice A (x :: y :: s).length c] 59)).alloc (.cells #[.bool f1, .bool f2, .bool f3] 50)) (.cells #[.int .u8 0, .int .u8 0, .int .u16 0, .int .u16 0, .int .u32 0, .slice none 0 0, .slice none 0 0, .int .u32 0, .int .u8 0, .slice none 0 0, .int .u32 0, .int .u32 0, .int .u32 0, .int .u32 0, .int .u32 0, .slice none 0 0, .slice none 0 0, .int .u32 0, .int .u32 0, .slice none 0 0, .slice none 0 0, .int .i64 0, .int .u8 0, .int .u8 0, .slice none 0 0, .int .u16 0, .int .u8 0] 48)
  have hn := blk_new (((w.alloc (.cells #[.int .u8 3, .slice A (x :: y :: s).length c] 59)).alloc (.cells #[.bool f1, .bool f2, .bool f3] 50)).alloc (.cells #[.int .u8 0, .int .u8 0, .int .u16 0, .int .u16 0, .int .u32 0, .slice none 0 0, .slice none 0 0, .int .u32 0, .int .u8 0, .slice none 0 0, .int .u32 0, .int .u32 0, .int .u32 0, .int .u32 0, .int .u32 0, .slice none 0 0, .slice none 0 0, .int .u32 0, .int .u32 0, .slice none 0 0, .slice none 0 0, .int .i64 0, .int .u8 0, .int .u8 0, .slice none 0 0, .int .u16 0, .int .u8 0] 48)) (.cells #[.int .u8 0, .int .u8 0, .slice none 0 0] 44)
  replace hm := blk_alloc (blk_alloc (blk_alloc hm (.cells #[.bool f1, .bool f2, .bool f3] 50)) (.cells #[.int .u8 0, .int .u8 0, .int .u16 0, .int .u16 0, .int .u32 0, .slice none 0 0, .slice none 0 0, .int .u32 0, .int .u8 0, .slice none 0 0, .int .u32 0, .int .u32 0, .int .u32 0, .int .u32 0, .int .u32 0, .slice none 0 0, .slice none 0 0, .int .u32 0, .int .u32 0, .slice none 0 0, .slice none 0 0, .int .i64 0, .int .u8 0, .int .u8 0, .slice none 0 0, .int .u16 0, .int .u8 0] 48)) (.cells #[.int .u8 0, .int .u8 0, .slice none 0 0] 44)
  replace hs := blk_alloc (blk_alloc hs (.cells #[.int .u8 0, .int .u8 0, .int .u16 0, .int .u16 0, .int .u32 0, .slice none 0 0, .slice none 0 0, .int .u32 0, .int .u8 0, .slice none 0 0, .int .u32 0, .int .u32 0, .int .u32 0, .int .u32 0, .int .u32 0, .slice none 0 0, .slice none 0 0, .int .u32 0, .int .u32 0, .slice none 0 0, .slice none 0 0, .int .i64 0, .int .u8 0, .int .u8 0, .slice none 0 0, .int .u16 0, .int .u8 0] 48)) (.cells #[.int .u8 0, .int .u8 0, .slice none 0 0] 44)
  replace ho := blk_alloc ho (.cells #[.int .u8 0, .int .u8 0, .slice none 0 0] 44)
  have e1 : (w.alloc (.cells #[.int .u8 3, .slice A (x :: y :: s).length c] 59)).heap.size = w.heap.size + 1 := by simp
  have e2 : ((w.alloc (.cells #[.int .u8 3, .slice A (x :: y :: s).length c] 59)).alloc (.cells #[.bool f1, .bool f2, .bool f3] 50)).heap.size = w.heap.size + 2 := by simp
  have e3 : (((w.alloc (.cells #[.int .u8 3, .slice A (x :: y :: s).length c] 59)).alloc (.cells #[.bool f1, .bool f2, .bool f3] 50)).alloc (.cells #[.int .u8 0, .int .u8 0, .int .u16 0, .int .u16 0, .int .u32 0, .slice none 0 0, .slice none 0 0, .int .u32 0, .int .u8 0, .slice none 0 0, .int .u32 0, .int .u32 0, .int .u32 0, .int .u32 0, .int .u32 0, .slice none 0 0, .slice none 0 0, .int .u32 0, .int .u32 0, .slice none 0 0, .slice none 0 0, .int .i64 0, .int .u8 0, .int .u8 0, .slice none 0 0, .int .u16 0, .int .u8 0] 48)).heap.size = w.heap.size + 3 := by simp
  rw [e1] at hs
  rw [e2] at ho
  rw [e3] at hn
  clear e1 e2 e3
  clear c1 c2 c3
  generalize hlen : (x :: y :: s).length = n at *
  have hlenA := Aside0.mk hlen
  replace hl := Aside0.mk hl
  clear hlen
  go_enter Tryz.func9, Tryz.ntmps9
  go_upto_region 1 with fail
  generalize (((w.alloc (.cells #[.int .u8 3, .slice A n c] 59)).alloc (.cells #[.bool f1, .bool f2, .bool f3] 50)).alloc (.cells #[.int .u8 0, .int .u8 0, .int .u16 0, .int .u16 0, .int .u32 0, .slice none 0 0, .slice none 0 0, .int .u32 0, .int .u8 0, .slice none 0 0, .int .u32 0, .int .u32 0, .int .u32 0, .int .u32 0, .int .u32 0, .slice none 0 0, .slice none 0 0, .int .u32 0, .int .u32 0, .slice none 0 0, .slice none 0 0, .int .i64 0, .int .u8 0, .int .u8 0, .slice none 0 0, .int .u16 0, .int .u8 0] 48)).alloc (.cells #[.int .u8 0, .int .u8 0, .slice none 0 0] 44) = wa at *
  refine start_ (n := 9) (S := fun w' => w'.heap[w.heap.size]? = some (.cells #[.int .u8 3, .slice A n c] 59 (0, 0))) (ds := []) #[false, false, false, false, false, false, false, false, false] (by kernel_rfl) rfl rfl (hm) (fun hHeld => ?_)
  replace HB := below_drew HB
  replace hm := blk_drew hm
  replace hs := blk_drew hs
  replace ho := blk_drew ho
  replace hn := blk_drew hn
  generalize wa.drew = wb at *
  refine pure_ (i := 1) (N := (some 15)) (v := ?_) (a' := ?_) #[false, true, false, false, false, false, false, false, false] rfl rfl (by kernel_rfl) (fun _ _ _ h => h) (Or.inl ⟨by rfl, ?_⟩) ?_ ?_
  rotate_left
  · intro w'
    go_simp
    with_reducible rfl
  rotate_left
  · simp only [Act.put, List.setIfInBounds_toArray, List.set_cons_zero, List.set_cons_succ, i64_w, i32_w]
    rfl
  refine take_ (i := 2) (N := (some 16)) (v := ?_) (a' := ?_) #[false, true, true, false, false, false, false, false, false] rfl rfl (by kernel_rfl) (fun _ _ _ h => h) (Or.inl ⟨by rfl, ?_⟩) hHeld ?_ ?_
  rotate_left
  · rintro w' s0
    have q := blk_cell s0 0; simp at q
    go_simp
    with_reducible rfl
  rotate_left
  · simp only [Act.put, List.setIfInBounds_toArray, List.set_cons_zero, List.set_cons_succ, i64_w, i32_w]
    rfl
  refine one_ (i := 0) (N := (some 14)) #[true, true, true, false, false, false, false, false, false] rfl rfl (by kernel_rfl) (by decide) (fun K hK => ?_)
  refine goes_ Tryz.func31 (by kernel_rfl) rfl #[] (by rfl) rfl rfl (by simp [Act.eval]) ?_
  refine (reads_calls wb).mono ?_
  rintro e w2 ⟨rfl, hmap, hb2⟩
  replace HB := HB.trans (hb2.mono HB.size)
  replace hs := blk_below hs hb2
  replace ho := blk_below ho hb2
  replace hn := blk_below hn hb2
  have hm2 := blk_below hm hb2
  have HL : (Instr.lookup 111 (.map (some wb.heap.size)) (.int .u8 3) true).run Tryz.prog w2 = .ok (.tuple #[.func (.func 81) #[] #[], .bool true]) w2 := look_run und111 Tryz.underlying5 (.int .u8 3) (fv 81) 2 (by simp [MapKept.IsKey]) hmap rfl
  refine ⟨_, rfl, ?_⟩
  refine hK.out _ _ (hm2) (fun hHeld => ?_)
  clear hK K
  refine norm_ (a' := ?_) ?_ ?_
  rotate_left
  · show Act.put _ (some 14) _ = _
    simp only [Act.put, List.setIfInBounds_toArray, List.set_cons_zero, List.set_cons_succ, i64_w, i32_w]
    rfl
  refine one_ (i := 3) (N := (some 17)) #[true, true, true, true, false, false, false, false, false] rfl rfl (by kernel_rfl) (by decide) (fun K hK => ?_)
  refine value_ (w1 := ?_) (v := ?_) (by rfl) rfl ?_ ?_
  rotate_left 2
  · go_simp
    constructor
    · rfl
    · rfl
  refine hK.out _ _ (hm2) (fun hHeld => ?_)
  clear hK K
  refine norm_ (a' := ?_) ?_ ?_
  rotate_left
  · show Act.put _ (some 17) _ = _
    simp only [Act.put, List.setIfInBounds_toArray, List.set_cons_zero, List.set_cons_succ, i64_w, i32_w]
    rfl
  refine pure_ (i := 4) (N := (some 13)) (v := ?_) (a' := ?_) #[true, true, true, true, true, false, false, false, false] rfl rfl (by kernel_rfl) (fun _ _ _ h => h) (Or.inl ⟨by rfl, ?_⟩) ?_ ?_
  rotate_left
  · intro w'
    go_simp
    with_reducible rfl
  rotate_left
  · simp only [Act.put, List.setIfInBounds_toArray, List.set_cons_zero, List.set_cons_succ, i64_w, i32_w]
    rfl
  refine pure_ (i := 5) (N := (some 18)) (v := ?_) (a' := ?_) #[true, true, true, true, true, true, false, false, false] rfl rfl (by kernel_rfl) (fun _ _ _ h => h) (Or.inl ⟨by rfl, ?_⟩) ?_ ?_
  rotate_left
  · intro w'
    go_simp
    with_reducible rfl
  rotate_left
  · simp only [Act.put, List.setIfInBounds_toArray, List.set_cons_zero, List.set_cons_succ, i64_w, i32_w]
    rfl
  refine pure_ (i := 6) (N := (some 19)) (v := ?_) (a' := ?_) #[true, true, true, true, true, true, true, false, false] rfl rfl (by kernel_rfl) (fun _ _ _ h => h) (Or.inl ⟨by rfl, ?_⟩) ?_ ?_
  rotate_left
  · intro w'
    go_simp
    with_reducible rfl
  rotate_left
  · simp only [Act.put, List.setIfInBounds_toArray, List.set_cons_zero, List.set_cons_succ, i64_w, i32_w]
    rfl
  refine pure_ (i := 7) (N := (some 6)) (v := ?_) (a' := ?_) #[true, true, true, true, true, true, true, true, false] rfl rfl (by kernel_rfl) (fun _ _ _ h => h) (Or.inl ⟨by rfl, ?_⟩) ?_ ?_
  rotate_left
  · intro w'
    go_simp
    with_reducible rfl
  rotate_left
  · simp only [Act.put, List.setIfInBounds_toArray, List.set_cons_zero, List.set_cons_succ, i64_w, i32_w]
    rfl
  refine pure_ (i := 8) (N := (some 7)) (v := ?_) (a' := ?_) #[true, true, true, true, true, true, true, true, true] rfl rfl (by kernel_rfl) (fun _ _ _ h => h) (Or.inl ⟨by rfl, ?_⟩) ?_ ?_
  rotate_left
  · intro w'
    go_simp
    with_reducible rfl
  rotate_left
  · simp only [Act.put, List.setIfInBounds_toArray, List.set_cons_zero, List.set_cons_succ, i64_w, i32_w]
    rfl
  refine done_ (by kernel_rfl) ?_
  clear HL hmap hb2 hm
  have q0 := blk_cell hm2 0
  have q1 := blk_cell hm2 1
  simp at q0 q1
  go_wp2_with fail
  refine (hFB.out w2 HB).mono ?_
  rintro e w3 ⟨v3, rfl, hv3, hb3⟩
  obtain ⟨A3, c3, rfl⟩ := Kd.R_slice hv3
  replace HB := HB.trans (hb3.mono HB.size)
  replace hm2 := blk_below hm2 hb3
  replace hs := blk_below hs hb3
  replace ho := blk_below ho hb3
  replace hn := blk_below hn hb3
  have lm := blk_lt hm2
  have ls := blk_lt hs
  have lo := blk_lt ho
  have ln := blk_lt hn
  clear hb3 hv3 q0 q1 hFB
  have p0 := blk_cell hm2 0
  have p1 := blk_cell hm2 1
  simp at p0 p1
  have hO0 := blk_new w3 (.cells #[.int .u8 0, .int .u8 0, .int .u16 0, .int .u16 0, .int .u32 0, .slice none 0 0, .slice none 0 0, .int .u32 0, .int .u8 0, .slice none 0 0, .int .u32 0, .int .u32 0, .int .u32 0, .int .u32 0, .int .u32 0, .slice none 0 0, .slice none 0 0, .int .u32 0, .int .u32 0, .slice none 0 0, .slice none 0 0, .int .i64 0, .int .u8 0, .int .u8 0, .slice none 0 0, .int .u16 0, .int .u8 0] 48)
  have hb4 := below_alloc (Below.refl w3.heap.size w3) (.cells #[.int .u8 0, .int .u8 0, .int .u16 0, .int .u16 0, .int .u32 0, .slice none 0 0, .slice none 0 0, .int .u32 0, .int .u8 0, .slice none 0 0, .int .u32 0, .int .u32 0, .int .u32 0, .int .u32 0, .int .u32 0, .slice none 0 0, .slice none 0 0, .int .u32 0, .int .u32 0, .slice none 0 0, .slice none 0 0, .int .i64 0, .int .u8 0, .int .u8 0, .slice none 0 0, .int .u16 0, .int .u8 0] 48)
  obtain ⟨w4, hst, hO, _, hbl, _⟩ := st_row (ty := 48) hO0 (cells := #[.int .u8 3, .int .u8 0, .int .u16 0, .int .u16 0, .int .u32 0, .slice none 0 0, .slice none 0 0, .int .u32 0, .int .u8 0, .slice none 0 0, .int .u32 0, .int .u32 0, .int .u32 0, .int .u32 0, .int .u32 0, .slice none 0 0, .slice none 0 0, .int .u32 0, .int .u32 0, .slice none 0 0, .slice none 0 0, .int .i64 0, .int .u8 0, .int .u8 0, .slice none 0 0, .int .u16 0, .int .u8 0]) (by kernel_rfl) rfl (by first | kernel_rfl | simp [Value.oneCell'])
  replace hb4 := hbl _ _ hb4 (Nat.le_refl _)
  replace HB := HB.trans (hb4.mono HB.size)
  replace hm2 := blk_below hm2 hb4
  replace hs := blk_below hs hb4
  replace ho := blk_below ho hb4
  replace hn := blk_below hn hb4
  have hO2 := hO
  have H := rd3_calls w4 w3.heap.size (.int .u8 3) (.int .u8 0) (.int .u16 0) (.int .u16 0) (.int .u32 0) (.slice none 0 0) (.slice none 0 0) (.int .u32 0) (.int .u8 0) (.slice none 0 0) (.int .u32 0) (.int .u32 0) (.int .u32 0) (.int .u32 0) (.int .u32 0) (.slice none 0 0) (.slice none 0 0) (.int .u32 0) (.int .u32 0) (.slice none 0 0) (.slice none 0 0) (.int .i64 0) (.int .u8 0) (.int .u8 0) (.slice none 0 0) (.int .u16 0) (.int .u8 0) hO A c x y s (Kd.C_below (by rw [hlenA.out]; exact hC) HB) (by rw [hlenA.out]; have := hl.out; omega) hb f1 f2 f3
  rw [hlenA.out] at H
  have q0 := blk_cell hm2 0
  have q1 := blk_cell hm2 1
  have s0 := blk_cell hs 0
  have s1 := blk_cell hs 1
  have s2 := blk_cell hs 2
  simp at q0 q1 s0 s1 s2
  clear hb4 hbl hO0
  have hbd : ∀ W : World, (Instr.build 48 #[(0, .int .u8 3)]).run Tryz.prog W = .ok (.agg #[.int .u8 3, .int .u8 0, .int .u16 0, .int .u16 0, .int .u32 0, .slice none 0 0, .slice none 0 0, .int .u32 0, .int .u8 0, .slice none 0 0, .int .u32 0, .int .u32 0, .int .u32 0, .int .u32 0, .int .u32 0, .slice none 0 0, .slice none 0 0, .int .u32 0, .int .u32 0, .slice none 0 0, .slice none 0 0, .int .i64 0, .int .u8 0, .int .u8 0, .slice none 0 0, .int .u16 0, .int .u8 0]) W := fun _ => by kernel_rfl
  go_upto_region 8 with fail
  refine wp_region_lit ?_
  refine wpList_val rfl (.pointer (some ⟨w.heap.size, 0, none⟩)) (W := w3) (by go_simp) ?_
  refine wpList_val rfl (.int .u8 3) (W := w3) (by go_simp) ?_
  refine wpList_build_run rfl 48 #[(0, .tmp 50)] rfl #[(0, .int .u8 3)] (by simp [Act.put, Act.eval]) _ (hbd _) ?_
  refine wpList_val rfl (.pointer (some ⟨w3.heap.size, 0, none⟩)) (W := _) (by go_simp; rfl) ?_
  refine wpList_store_run rfl 48 (.tmp 11) (.tmp 51) rfl _ _ rfl rfl _ hst ?_
  refine wpList_nil ?_
  clear hst hbd
  go_wp2_with fail
  refine H.mono ?_
  rintro e w5 ⟨v5, rfl, hv5, hM5, hb5⟩
  obtain ⟨A5, c5, rfl⟩ := Kd.R_slice hv5
  have hz3 : w.heap.size ≤ w3.heap.size := Nat.le_of_lt lm
  replace HB := HB.trans (hb5.mono hz3)
  replace ho := blk_belowM ho hb5 lo
  replace hn := blk_belowM hn hb5 ln
  clear hb5 hm2 hs q0 q1 s0 s1 s2 p0 p1 H hO hO2 hHeld
  have hM6 := blk_alloc hM5 (.cells #[.int .u8 0, .int .u8 0, .slice none 0 0] 44)
  have ho6 := blk_alloc ho (.cells #[.int .u8 0, .int .u8 0, .slice none 0 0] 44)
  have hn6 := blk_alloc hn (.cells #[.int .u8 0, .int .u8 0, .slice none 0 0] 44)
  have hb6 := below_alloc (Below.refl w5.heap.size w5) (.cells #[.int .u8 0, .int .u8 0, .slice none 0 0] 44)
  replace HB := HB.trans (hb6.mono HB.size)
  replace hv5 := Kd.R_below hv5 hb6
  clear hb6 hM5 ho hn
  go_upto_region 12 with fail
  generalize w5.alloc (.cells #[.int .u8 0, .int .u8 0, .slice none 0 0] 44) = w6 at *
  have hld := ld_row (ty := 48) hM6 Tryz.underlying48 (by kernel_rfl)
  obtain ⟨w7, hst7, ho7, hot7, hbl7, hkt7⟩ := st_row (ty := 48) ho6 (cells := #[.int .u8 3, .int .u8 0, .int .u16 0, .int .u16 0, .int .u32 0, .slice none 0 0, .slice none 0 0, .int .u32 0, .int .u8 0, .slice none 0 0, .int .u32 0, .int .u32 0, .int .u32 0, .int .u32 0, .int .u32 0, .slice none 0 0, .slice none 0 0, .int .u32 0, .int .u32 0, .slice none 0 0, .slice none 0 0, .int .i64 0, .int .u8 x, .int .u8 y, .slice A5 s.length c5, .int .u16 0, .int .u8 0]) (by kernel_rfl) rfl (by first | kernel_rfl | simp [Value.oneCell'])
  have hn7 := (hot7 (w.heap.size + 1 + 1 + 1) (by omega)).trans hn6
  replace HB := hbl7 _ _ HB (by omega)
  replace hv5 := R_kt hv5 (hkt7 _ (Nat.zero_le _)) (by decide)
  obtain ⟨w8, hst8, hn8, hot8, hbl8, hkt8⟩ := st_row (ty := 44) hn7 (cells := #[.int .u8 0, .int .u8 0, .slice none 0 0]) (by kernel_rfl) rfl (by first | kernel_rfl | simp [Value.oneCell'])
  have ho8 := (hot8 (w.heap.size + 1 + 1) (by omega)).trans ho7
  replace HB := hbl8 _ _ HB (by omega)
  replace hv5 := R_kt hv5 (hkt8 _ (Nat.zero_le _)) (by decide)
  have hvv := Aside0.mk (rowC hv5)
  clear hv5
  have hbd : ∀ W : World, (Instr.build 44 #[]).run Tryz.prog W = .ok (.agg #[.int .u8 0, .int .u8 0, .slice none 0 0]) W := fun _ => by kernel_rfl
  have hl1 := run_loadVar_row (P := Tryz.prog) w8 (w.heap.size + 1 + 1) 48 48 #[.int .u8 3, .int .u8 0, .int .u16 0, .int .u16 0, .int .u32 0, .slice none 0 0, .slice none 0 0, .int .u32 0, .int .u8 0, .slice none 0 0, .int .u32 0, .int .u32 0, .int .u32 0, .int .u32 0, .int .u32 0, .slice none 0 0, .slice none 0 0, .int .u32 0, .int .u32 0, .slice none 0 0, .slice none 0 0, .int .i64 0, .int .u8 x, .int .u8 y, .slice A5 s.length c5, .int .u16 0, .int .u8 0] (0, 0) _ ho8 Tryz.underlying48 rfl (by kernel_rfl)
  have hl2 := run_loadVar_row (P := Tryz.prog) w8 (w.heap.size + 1 + 1 + 1) 44 44 #[.int .u8 0, .int .u8 0, .slice none 0 0] (0, 0) _ hn8 Tryz.underlying44 rfl (by kernel_rfl)
  clear ho6 hn6 ho7 hn7 hot7 hbl7 hot8 hbl8 ho8 hn8 hkt7 hkt8
  refine wp_region_lit ?_
  refine wpList_load_run rfl 48 (.tmp 11) rfl _ rfl _ hld ?_
  refine wpList_build_run rfl 44 #[] rfl #[] (by simp) _ (hbd _) ?_
  refine wpList_store_run rfl 48 (.tmp 4) (.tmp 63) rfl _ _ rfl rfl _ hst7 ?_
  refine wpList_store_run rfl 44 (.tmp 5) (.tmp 64) rfl _ _ rfl rfl _ hst8 ?_
  refine wpList_nil ?_
  clear hld hbd hst7 hst8 hM6
  go_wp2_with fail
  exact bodyPost_ret (v := .tuple #[.agg #[.int .u8 3, .int .u8 0, .int .u16 0, .int .u16 0, .int .u32 0, .slice none 0 0, .slice none 0 0, .int .u32 0, .int .u8 0, .slice none 0 0, .int .u32 0, .int .u32 0, .int .u32 0, .int .u32 0, .int .u32 0, .slice none 0 0, .slice none 0 0, .int .u32 0, .int .u32 0, .slice none 0 0, .slice none 0 0, .int .i64 0, .int .u8 x, .int .u8 y, .slice A5 s.length c5, .int .u16 0, .int .u8 0], .agg #[.int .u8 0, .int .u8 0, .slice none 0 0]]) (by simp [results, Tryz.results9, asAddr, Act.put, hl1, hl2]) rfl ⟨A5, c5, rfl, hvv.out.1, hvv.out.2.1, HB⟩
end Go.Proofs.YtbphidmnkbfchaaGreatDoor
