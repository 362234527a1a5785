/-
  The walks of a writer's methods, third part: a hold.
-/
import Derived.Test.YthafedmlbialiaaDoorV0
namespace Go.Proofs.YthafedmlbialiaaDoor
open Go.RowKit Go.Proofs.YthafedmlbialiaaDoorW.PrintWords Go.Proofs.YthafedmlbialiaaDoorW.PrintLast Go.Proofs.YthafedmlbialiaaDoorW.PrintMore
set_option linter.unusedVariables false
set_option linter.unusedSimpArgs false

theorem info134 : (Tryd.prog.info? 134).map (fun i => (i.zero, i.size, i.bytes)) = some (some (.agg #[.int .i64 0, .int .i64 0]), 2, 16) := by kernel_rfl

/-- A place is held for a number. -/
def Wtr.hold (x : Wtr) (n : Nat) : Wtr := if x.e = 0 then { x with b := x.b ++ List.replicate n 0, holds := x.holds ++ [⟨x.b.length, n⟩] } else x

set_option maxHeartbeats 1600000 in
set_option maxRecDepth 100000 in
theorem Hold1_calls (w : World) (B g : Nat) (x : Wtr) (h : IsW w B g x) (hl : x.b.length + 2 ≤ 140737488351232) (hl2 : x.holds.length < 4398046511104) :
    Calls Tryd.prog 77 #[.pointer (some ⟨g, 0, none⟩), .int .i64 1] w fun e w' => e = .returned (.pointer (some ⟨g, 0, none⟩)) ∧ IsW w' B g (x.hold 1) ∧ KT B wts w w' := by
  have hc := fails_calls w B g x false 1 h
  rw [show x.fails false 1 = x from if_neg (by simp)] at hc
  by_cases h0 : x.e = 0
  · have n0 : (x.e != 0) = false := by simp [h0]
    have hr : x.hold 1 = { x with b := x.b ++ List.replicate 1 0, holds := x.holds ++ [⟨x.b.length, 1⟩] } := if_pos h0
    rw [hr]
    clear hr
    go_enter Tryd.func77, Tryd.ntmps77
    go_wp2_with fail
    refine hc.mono ?_
    rintro e w1 ⟨rfl, h1, k1⟩
    obtain ⟨bv, hv, hg, hB, hb, hh⟩ := id h1
    obtain ⟨A, c, rfl, hlc, hC⟩ := Kd.R_reads hb
    obtain ⟨A1, c1, rfl, hlc1, hC1⟩ := Kd.R_reads hh
    have c0 := (blk_cell hg 0)
    have c1' := (blk_cell hg 1)
    simp at c0 c1'
    clear hc h hC hC1 h1
    go_wp2_with fail
    refine start_ (n := 17) (S := fun w' => w'.cell? ⟨g, 0, none⟩ = some (.slice A x.b.length c) ∧ w'.cell? ⟨g, 1, none⟩ = some (.slice A1 x.holds.length c1)) (ds := [13, 16]) #[false, false, false, false, false, false, false, false, false, false, false, false, false, false, false, false, false] (by kernel_rfl) rfl rfl (⟨c0, c1'⟩) (fun hHeld => ?_)
    replace hg := blk_drew hg
    replace hb := Kd.R_drew hb
    replace hh := Kd.R_drew hh
    replace k1 := k1.drew
    generalize w1.drew = w2 at *
    refine pure_ (i := 0) (N := (some 14)) (v := ?_) (a' := ?_) #[true, false, false, false, false, false, false, false, false, false, false, false, false, false, false, false, false] rfl rfl (by kernel_rfl) (fun _ _ _ h => h) (Or.inl ⟨by rfl, ?_⟩) ?_ ?_
    rotate_left
    · intro w'
      go_simp
      with_reducible rfl
    rotate_left
    · simp only [Act.put, List.setIfInBounds_toArray, List.set_cons_zero, List.set_cons_succ, i64_w, i32_w]
      rfl
    refine pure_ (i := 1) (N := (some 15)) (v := ?_) (a' := ?_) #[true, true, false, false, false, false, false, false, false, false, false, false, false, false, false, false, false] rfl rfl (by kernel_rfl) (fun _ _ _ h => h) (Or.inl ⟨by rfl, ?_⟩) ?_ ?_
    rotate_left
    · intro w'
      go_simp
      with_reducible rfl
    rotate_left
    · simp only [Act.put, List.setIfInBounds_toArray, List.set_cons_zero, List.set_cons_succ, i64_w, i32_w]
      rfl
    refine pure_ (i := 2) (N := (some 16)) (v := ?_) (a' := ?_) #[true, true, true, false, false, false, false, false, false, false, false, false, false, false, false, false, false] rfl rfl (by kernel_rfl) (fun _ _ _ h => h) (Or.inl ⟨by rfl, ?_⟩) ?_ ?_
    rotate_left
    · intro w'
      go_simp
      with_reducible rfl
    rotate_left
    · simp only [Act.put, List.setIfInBounds_toArray, List.set_cons_zero, List.set_cons_succ, i64_w, i32_w]
      rfl
    refine pure_ (i := 3) (N := (some 17)) (v := ?_) (a' := ?_) #[true, true, true, true, false, false, false, false, false, false, false, false, false, false, false, false, false] rfl rfl (by kernel_rfl) (fun _ _ _ h => h) (Or.inl ⟨by rfl, ?_⟩) ?_ ?_
    rotate_left
    · intro w'
      go_simp
      with_reducible rfl
    rotate_left
    · simp only [Act.put, List.setIfInBounds_toArray, List.set_cons_zero, List.set_cons_succ, i64_w, i32_w]
      rfl
    refine take_ (i := 4) (N := (some 18)) (v := ?_) (a' := ?_) #[true, true, true, true, true, false, false, false, false, false, false, false, false, false, false, false, false] rfl rfl (by kernel_rfl) (fun _ _ _ h => h) (Or.inl ⟨by rfl, ?_⟩) hHeld ?_ ?_
    rotate_left
    · rintro w' ⟨s0, s1⟩
      go_simp
      with_reducible rfl
    rotate_left
    · simp only [Act.put, List.setIfInBounds_toArray, List.set_cons_zero, List.set_cons_succ, i64_w, i32_w]
      rfl
    refine pure_ (i := 5) (N := (some 19)) (v := ?_) (a' := ?_) #[true, true, true, true, true, true, false, false, false, false, false, false, false, false, false, false, false] rfl rfl (by kernel_rfl) (fun _ _ _ h => h) (Or.inl ⟨by rfl, ?_⟩) ?_ ?_
    rotate_left
    · intro w'
      go_simp
      with_reducible rfl
    rotate_left
    · simp only [Act.put, List.setIfInBounds_toArray, List.set_cons_zero, List.set_cons_succ, i64_w, i32_w]
      rfl
    refine pure_ (i := 6) (N := (some 20)) (v := ?_) (a' := ?_) #[true, true, true, true, true, true, true, false, false, false, false, false, false, false, false, false, false] rfl rfl (by kernel_rfl) (fun _ _ _ h => h) (Or.inl ⟨by rfl, ?_⟩) ?_ ?_
    rotate_left
    · intro w'
      go_simp
      with_reducible rfl
    rotate_left
    · simp only [Act.put, List.setIfInBounds_toArray, List.set_cons_zero, List.set_cons_succ, i64_w, i32_w]
      rfl
    refine pure_ (i := 7) (N := (some 21)) (v := ?_) (a' := ?_) #[true, true, true, true, true, true, true, true, false, false, false, false, false, false, false, false, false] rfl rfl (by kernel_rfl) (fun _ _ _ h => h) (Or.inl ⟨by rfl, ?_⟩) ?_ ?_
    rotate_left
    · intro w'
      go_simp
      with_reducible rfl
    rotate_left
    · simp only [Act.put, List.setIfInBounds_toArray, List.set_cons_zero, List.set_cons_succ, i64_w, i32_w]
      rfl
    refine take_ (i := 8) (N := (some 22)) (v := ?_) (a' := ?_) #[true, true, true, true, true, true, true, true, true, false, false, false, false, false, false, false, false] rfl rfl (by kernel_rfl) (fun _ _ _ h => h) (Or.inl ⟨by rfl, ?_⟩) hHeld ?_ ?_
    rotate_left
    · rintro w' ⟨s0, s1⟩
      go_simp
      with_reducible rfl
    rotate_left
    · simp only [Act.put, List.setIfInBounds_toArray, List.set_cons_zero, List.set_cons_succ, i64_w, i32_w]
      rfl
    refine pure_ (i := 9) (N := (some 23)) (v := ?_) (a' := ?_) #[true, true, true, true, true, true, true, true, true, true, false, false, false, false, false, false, false] rfl rfl (by kernel_rfl) (fun _ _ _ h => h) (Or.inl ⟨by rfl, ?_⟩) ?_ ?_
    rotate_left
    · intro w'
      go_simp
      with_reducible rfl
    rotate_left
    · simp only [Act.put, List.setIfInBounds_toArray, List.set_cons_zero, List.set_cons_succ, i64_w, i32_w]
      rfl
    refine pure_ (i := 10) (N := (some 24)) (v := ?_) (a' := ?_) #[true, true, true, true, true, true, true, true, true, true, true, false, false, false, false, false, false] rfl rfl (by kernel_rfl) (fun _ _ _ h => h) (Or.inl ⟨by rfl, ?_⟩) ?_ ?_
    rotate_left
    · intro w'
      go_simp
      with_reducible rfl
    rotate_left
    · simp only [Act.put, List.setIfInBounds_toArray, List.set_cons_zero, List.set_cons_succ, i64_w, i32_w]
      rfl
    refine pure_ (i := 11) (N := (some 25)) (v := ?_) (a' := ?_) #[true, true, true, true, true, true, true, true, true, true, true, true, false, false, false, false, false] rfl rfl (by kernel_rfl) (fun _ _ _ h => h) (Or.inl ⟨by rfl, ?_⟩) ?_ ?_
    rotate_left
    · intro w'
      go_simp
      with_reducible rfl
    rotate_left
    · simp only [Act.put, List.setIfInBounds_toArray, List.set_cons_zero, List.set_cons_succ, i64_w, i32_w]
      rfl
    refine one_ (i := 12) (N := (some 26)) #[true, true, true, true, true, true, true, true, true, true, true, true, true, false, false, false, false] rfl rfl (by kernel_rfl) (by decide) (fun K hK => ?_)
    refine value_ (w1 := ?_) (v := ?_) (by rfl) rfl ?_ ?_
    rotate_left 2
    · go_simp
      constructor
      · rfl
      · rfl
    refine hK.out _ _ (⟨cell_alloc hHeld.1 _, cell_alloc hHeld.2 _⟩) (fun hHeld => ?_)
    clear hK K
    refine norm_ (a' := ?_) ?_ ?_
    rotate_left
    · show Act.put _ (some 26) _ = _
      simp only [Act.put, List.setIfInBounds_toArray, List.set_cons_zero, List.set_cons_succ, i64_w, i32_w]
      rfl
    refine last_ (i := 13) (N := (some 27)) #[true, true, true, true, true, true, true, true, true, true, true, true, true, true, false, false, false] rfl rfl (by kernel_rfl) (by decide) (fun K hK => ?_)
    refine Kd.R_append_step PA.k134 (w0 := w2) B (by rfl) (.tmp 18) (.tmp 26) 129 134 (.agg #[.int .i64 0, .int .i64 0]) 16 rfl Tryd.underlying129 info134 rfl (by decide) (by decide) (.slice A1 x.holds.length c1) x.holds (⟨x.b.length, 1⟩ : PA.S134) [.int .i64 x.b.length, .int .i64 1] (fun _ => True) (fun _ => False) rfl rfl (PA.k134_mkM _ _ _ ⟨x.b.length, 1⟩) (fun _ h => h.elim) (fun _ _ => trivial) hh (Below.refl _ _) (by have := blk_lt hg; omega) (by omega) ?_
    intro v1 w3 hR1 _ hg1 _
    obtain ⟨A3, c3, rfl⟩ := Kd.R_slice hR1
    have hgx := blk_grown hg hg1 (Kd.R_ne hh hg (by decide))
    have hbx := Kd.R_over hb hh (by decide) hg1
    have kx := KT.grown (ts := wts) k1 hg1 (fun k hk => ⟨Kd.R_base hh k hk, 134, by simp [wts], R_tyB hh k hk⟩)
    clear hg1 hHeld hh hg hb k1
    have f1 := (blk_frozen hgx 1)
    have c1' := (blk_cell hgx 1)
    simp at c1'
    have hs : (x.holds ++ [(⟨x.b.length, 1⟩ : PA.S134)]).length = x.holds.length + 1 := by simp
    rw [hs] at hR1 ⊢
    refine hK.out _ _ ?_
    clear hK K
    refine norm_ (a' := ?_) ?_ ?_
    rotate_left
    · show Act.put _ (some 27) _ = _
      simp only [Act.put, List.setIfInBounds_toArray, List.set_cons_zero, List.set_cons_succ, i64_w, i32_w]
      rfl
    refine pure_ (i := 14) (N := (some 28)) (v := ?_) (a' := ?_) #[true, true, true, true, true, true, true, true, true, true, true, true, true, true, true, false, false] rfl rfl (by kernel_rfl) (fun _ _ _ h => h) (Or.inl ⟨by rfl, ?_⟩) ?_ ?_
    rotate_left
    · intro w'
      go_simp
      with_reducible rfl
    rotate_left
    · simp only [Act.put, List.setIfInBounds_toArray, List.set_cons_zero, List.set_cons_succ, i64_w, i32_w]
      rfl
    refine pure_ (i := 15) (N := (some 29)) (v := ?_) (a' := ?_) #[true, true, true, true, true, true, true, true, true, true, true, true, true, true, true, true, false] rfl rfl (by kernel_rfl) (fun _ _ _ h => h) (Or.inl ⟨by rfl, ?_⟩) ?_ ?_
    rotate_left
    · intro w'
      go_simp
      with_reducible rfl
    rotate_left
    · simp only [Act.put, List.setIfInBounds_toArray, List.set_cons_zero, List.set_cons_succ, i64_w, i32_w]
      rfl
    refine last_ (i := 16) (N := none) #[true, true, true, true, true, true, true, true, true, true, true, true, true, true, true, true, true] rfl rfl (by kernel_rfl) (by decide) (fun K hK => ?_)
    refine skip_ (w1 := ?_) (by rfl) rfl ?_ ?_
    rotate_left
    · go_simp
      with_reducible rfl
    refine hK.out _ _ ?_
    clear hK K
    refine done_ (by kernel_rfl) ?_

    have hW : IsW (w3.setCell ⟨g, 1, none⟩ (.slice A3 (x.holds.length + 1) c3)) B g { x with holds := x.holds ++ [⟨x.b.length, 1⟩] } := by
      exact ⟨_, _, blk_put hgx 1 _ (by simp), hB, Kd.R_set hbx hgx (by decide) 1 _, Kd.R_set hR1 hgx (by decide) 1 _⟩
    have kw := kx.setCell (p := ⟨g, 1, none⟩) hB ⟨_, _, hgx⟩ (by simp [wts]) (.slice A3 (x.holds.length + 1) c3)
    clear hgx hbx kx hR1 f1 hHeld c0 c1' hs
    generalize w3.setCell ⟨g, 1, none⟩ (.slice A3 (x.holds.length + 1) c3) = w4 at *
    have hmk : (Instr.makeSlice 22 (.int .i64 1) (.int .i64 1)).run Tryd.prog w4 = .ok (.slice (some ⟨w4.heap.size, 0, none⟩) 1 1) (w4.alloc (.cells #[.int .u8 0] 5)) :=
      (print_make (P := Tryd.prog) 22 5 .u8 1 rfl info5 (by decide) 1 (by decide) w4).trans (by rw [show madeCells #[Value.int .u8 0] 1 = #[.int .u8 0] from by kernel_rfl])
    have hb := WByte_calls (w4.alloc (.cells #[.int .u8 0] 5)) B g _ (hW.below (below_alloc (Below.refl _ _) _)) (some ⟨w4.heap.size, 0, none⟩) 1 (List.replicate 1 0) (litC (litR w4 5 .u8 (List.replicate 1 0) (by simp))) (by simp; omega)
    rw [show ({ x with holds := x.holds ++ [⟨x.b.length, 1⟩] } : Wtr).bytes (List.replicate 1 0) = { x with b := x.b ++ List.replicate 1 0, holds := x.holds ++ [⟨x.b.length, 1⟩] } from if_pos h0] at hb
    go_wp2_with fail
    refine hb.mono ?_
    rintro e w5 ⟨rfl, hW5, k5⟩
    have kz := (kw.alloc (.cells #[.int .u8 0] 5)).trans k5
    clear hb hW kw k5 hmk
    go_wp2
    go_ret
    exact ⟨rfl, hW5, kz⟩
  · have n0 : (x.e != 0) = true := by simp [h0]
    have hr : x.hold 1 = x := if_neg h0
    rw [hr]
    clear hr h0
    go_enter Tryd.func77, Tryd.ntmps77
    go_wp2_with fail
    refine hc.mono ?_
    rintro e w1 ⟨rfl, h1, k1⟩
    go_wp2
    go_ret
    exact ⟨rfl, h1, k1⟩

set_option maxHeartbeats 1600000 in
set_option maxRecDepth 100000 in
theorem Hold2_calls (w : World) (B g : Nat) (x : Wtr) (h : IsW w B g x) (hl : x.b.length + 2 ≤ 140737488351232) (hl2 : x.holds.length < 4398046511104) :
    Calls Tryd.prog 77 #[.pointer (some ⟨g, 0, none⟩), .int .i64 2] w fun e w' => e = .returned (.pointer (some ⟨g, 0, none⟩)) ∧ IsW w' B g (x.hold 2) ∧ KT B wts w w' := by
  have hc := fails_calls w B g x false 1 h
  rw [show x.fails false 1 = x from if_neg (by simp)] at hc
  by_cases h0 : x.e = 0
  · have n0 : (x.e != 0) = false := by simp [h0]
    have hr : x.hold 2 = { x with b := x.b ++ List.replicate 2 0, holds := x.holds ++ [⟨x.b.length, 2⟩] } := if_pos h0
    rw [hr]
    clear hr
    go_enter Tryd.func77, Tryd.ntmps77
    go_wp2_with fail
    refine hc.mono ?_
    rintro e w1 ⟨rfl, h1, k1⟩
    obtain ⟨bv, hv, hg, hB, hb, hh⟩ := id h1
    obtain ⟨A, c, rfl, hlc, hC⟩ := Kd.R_reads hb
    obtain ⟨A1, c1, rfl, hlc1, hC1⟩ := Kd.R_reads hh
    have c0 := (blk_cell hg 0)
    have c1' := (blk_cell hg 1)
    simp at c0 c1'
    clear hc h hC hC1 h1
    go_wp2_with fail
    refine start_ (n := 17) (S := fun w' => w'.cell? ⟨g, 0, none⟩ = some (.slice A x.b.length c) ∧ w'.cell? ⟨g, 1, none⟩ = some (.slice A1 x.holds.length c1)) (ds := [13, 16]) #[false, false, false, false, false, false, false, false, false, false, false, false, false, false, false, false, false] (by kernel_rfl) rfl rfl (⟨c0, c1'⟩) (fun hHeld => ?_)
    replace hg := blk_drew hg
    replace hb := Kd.R_drew hb
    replace hh := Kd.R_drew hh
    replace k1 := k1.drew
    generalize w1.drew = w2 at *
    refine pure_ (i := 0) (N := (some 14)) (v := ?_) (a' := ?_) #[true, false, false, false, false, false, false, false, false, false, false, false, false, false, false, false, false] rfl rfl (by kernel_rfl) (fun _ _ _ h => h) (Or.inl ⟨by rfl, ?_⟩) ?_ ?_
    rotate_left
    · intro w'
      go_simp
      with_reducible rfl
    rotate_left
    · simp only [Act.put, List.setIfInBounds_toArray, List.set_cons_zero, List.set_cons_succ, i64_w, i32_w]
      rfl
    refine pure_ (i := 1) (N := (some 15)) (v := ?_) (a' := ?_) #[true, true, false, false, false, false, false, false, false, false, false, false, false, false, false, false, false] rfl rfl (by kernel_rfl) (fun _ _ _ h => h) (Or.inl ⟨by rfl, ?_⟩) ?_ ?_
    rotate_left
    · intro w'
      go_simp
      with_reducible rfl
    rotate_left
    · simp only [Act.put, List.setIfInBounds_toArray, List.set_cons_zero, List.set_cons_succ, i64_w, i32_w]
      rfl
    refine pure_ (i := 2) (N := (some 16)) (v := ?_) (a' := ?_) #[true, true, true, false, false, false, false, false, false, false, false, false, false, false, false, false, false] rfl rfl (by kernel_rfl) (fun _ _ _ h => h) (Or.inl ⟨by rfl, ?_⟩) ?_ ?_
    rotate_left
    · intro w'
      go_simp
      with_reducible rfl
    rotate_left
    · simp only [Act.put, List.setIfInBounds_toArray, List.set_cons_zero, List.set_cons_succ, i64_w, i32_w]
      rfl
    refine pure_ (i := 3) (N := (some 17)) (v := ?_) (a' := ?_) #[true, true, true, true, false, false, false, false, false, false, false, false, false, false, false, false, false] rfl rfl (by kernel_rfl) (fun _ _ _ h => h) (Or.inl ⟨by rfl, ?_⟩) ?_ ?_
    rotate_left
    · intro w'
      go_simp
      with_reducible rfl
    rotate_left
    · simp only [Act.put, List.setIfInBounds_toArray, List.set_cons_zero, List.set_cons_succ, i64_w, i32_w]
      rfl
    refine take_ (i := 4) (N := (some 18)) (v := ?_) (a' := ?_) #[true, true, true, true, true, false, false, false, false, false, false, false, false, false, false, false, false] rfl rfl (by kernel_rfl) (fun _ _ _ h => h) (Or.inl ⟨by rfl, ?_⟩) hHeld ?_ ?_
    rotate_left
    · rintro w' ⟨s0, s1⟩
      go_simp
      with_reducible rfl
    rotate_left
    · simp only [Act.put, List.setIfInBounds_toArray, List.set_cons_zero, List.set_cons_succ, i64_w, i32_w]
      rfl
    refine pure_ (i := 5) (N := (some 19)) (v := ?_) (a' := ?_) #[true, true, true, true, true, true, false, false, false, false, false, false, false, false, false, false, false] rfl rfl (by kernel_rfl) (fun _ _ _ h => h) (Or.inl ⟨by rfl, ?_⟩) ?_ ?_
    rotate_left
    · intro w'
      go_simp
      with_reducible rfl
    rotate_left
    · simp only [Act.put, List.setIfInBounds_toArray, List.set_cons_zero, List.set_cons_succ, i64_w, i32_w]
      rfl
    refine pure_ (i := 6) (N := (some 20)) (v := ?_) (a' := ?_) #[true, true, true, true, true, true, true, false, false, false, false, false, false, false, false, false, false] rfl rfl (by kernel_rfl) (fun _ _ _ h => h) (Or.inl ⟨by rfl, ?_⟩) ?_ ?_
    rotate_left
    · intro w'
      go_simp
      with_reducible rfl
    rotate_left
    · simp only [Act.put, List.setIfInBounds_toArray, List.set_cons_zero, List.set_cons_succ, i64_w, i32_w]
      rfl
    refine pure_ (i := 7) (N := (some 21)) (v := ?_) (a' := ?_) #[true, true, true, true, true, true, true, true, false, false, false, false, false, false, false, false, false] rfl rfl (by kernel_rfl) (fun _ _ _ h => h) (Or.inl ⟨by rfl, ?_⟩) ?_ ?_
    rotate_left
    · intro w'
      go_simp
      with_reducible rfl
    rotate_left
    · simp only [Act.put, List.setIfInBounds_toArray, List.set_cons_zero, List.set_cons_succ, i64_w, i32_w]
      rfl
    refine take_ (i := 8) (N := (some 22)) (v := ?_) (a' := ?_) #[true, true, true, true, true, true, true, true, true, false, false, false, false, false, false, false, false] rfl rfl (by kernel_rfl) (fun _ _ _ h => h) (Or.inl ⟨by rfl, ?_⟩) hHeld ?_ ?_
    rotate_left
    · rintro w' ⟨s0, s1⟩
      go_simp
      with_reducible rfl
    rotate_left
    · simp only [Act.put, List.setIfInBounds_toArray, List.set_cons_zero, List.set_cons_succ, i64_w, i32_w]
      rfl
    refine pure_ (i := 9) (N := (some 23)) (v := ?_) (a' := ?_) #[true, true, true, true, true, true, true, true, true, true, false, false, false, false, false, false, false] rfl rfl (by kernel_rfl) (fun _ _ _ h => h) (Or.inl ⟨by rfl, ?_⟩) ?_ ?_
    rotate_left
    · intro w'
      go_simp
      with_reducible rfl
    rotate_left
    · simp only [Act.put, List.setIfInBounds_toArray, List.set_cons_zero, List.set_cons_succ, i64_w, i32_w]
      rfl
    refine pure_ (i := 10) (N := (some 24)) (v := ?_) (a' := ?_) #[true, true, true, true, true, true, true, true, true, true, true, false, false, false, false, false, false] rfl rfl (by kernel_rfl) (fun _ _ _ h => h) (Or.inl ⟨by rfl, ?_⟩) ?_ ?_
    rotate_left
    · intro w'
      go_simp
      with_reducible rfl
    rotate_left
    · simp only [Act.put, List.setIfInBounds_toArray, List.set_cons_zero, List.set_cons_succ, i64_w, i32_w]
      rfl
    refine pure_ (i := 11) (N := (some 25)) (v := ?_) (a' := ?_) #[true, true, true, true, true, true, true, true, true, true, true, true, false, false, false, false, false] rfl rfl (by kernel_rfl) (fun _ _ _ h => h) (Or.inl ⟨by rfl, ?_⟩) ?_ ?_
    rotate_left
    · intro w'
      go_simp
      with_reducible rfl
    rotate_left
    · simp only [Act.put, List.setIfInBounds_toArray, List.set_cons_zero, List.set_cons_succ, i64_w, i32_w]
      rfl
    refine one_ (i := 12) (N := (some 26)) #[true, true, true, true, true, true, true, true, true, true, true, true, true, false, false, false, false] rfl rfl (by kernel_rfl) (by decide) (fun K hK => ?_)
    refine value_ (w1 := ?_) (v := ?_) (by rfl) rfl ?_ ?_
    rotate_left 2
    · go_simp
      constructor
      · rfl
      · rfl
    refine hK.out _ _ (⟨cell_alloc hHeld.1 _, cell_alloc hHeld.2 _⟩) (fun hHeld => ?_)
    clear hK K
    refine norm_ (a' := ?_) ?_ ?_
    rotate_left
    · show Act.put _ (some 26) _ = _
      simp only [Act.put, List.setIfInBounds_toArray, List.set_cons_zero, List.set_cons_succ, i64_w, i32_w]
      rfl
    refine last_ (i := 13) (N := (some 27)) #[true, true, true, true, true, true, true, true, true, true, true, true, true, true, false, false, false] rfl rfl (by kernel_rfl) (by decide) (fun K hK => ?_)
    refine Kd.R_append_step PA.k134 (w0 := w2) B (by rfl) (.tmp 18) (.tmp 26) 129 134 (.agg #[.int .i64 0, .int .i64 0]) 16 rfl Tryd.underlying129 info134 rfl (by decide) (by decide) (.slice A1 x.holds.length c1) x.holds (⟨x.b.length, 2⟩ : PA.S134) [.int .i64 x.b.length, .int .i64 2] (fun _ => True) (fun _ => False) rfl rfl (PA.k134_mkM _ _ _ ⟨x.b.length, 2⟩) (fun _ h => h.elim) (fun _ _ => trivial) hh (Below.refl _ _) (by have := blk_lt hg; omega) (by omega) ?_
    intro v1 w3 hR1 _ hg1 _
    obtain ⟨A3, c3, rfl⟩ := Kd.R_slice hR1
    have hgx := blk_grown hg hg1 (Kd.R_ne hh hg (by decide))
    have hbx := Kd.R_over hb hh (by decide) hg1
    have kx := KT.grown (ts := wts) k1 hg1 (fun k hk => ⟨Kd.R_base hh k hk, 134, by simp [wts], R_tyB hh k hk⟩)
    clear hg1 hHeld hh hg hb k1
    have f1 := (blk_frozen hgx 1)
    have c1' := (blk_cell hgx 1)
    simp at c1'
    have hs : (x.holds ++ [(⟨x.b.length, 2⟩ : PA.S134)]).length = x.holds.length + 1 := by simp
    rw [hs] at hR1 ⊢
    refine hK.out _ _ ?_
    clear hK K
    refine norm_ (a' := ?_) ?_ ?_
    rotate_left
    · show Act.put _ (some 27) _ = _
      simp only [Act.put, List.setIfInBounds_toArray, List.set_cons_zero, List.set_cons_succ, i64_w, i32_w]
      rfl
    refine pure_ (i := 14) (N := (some 28)) (v := ?_) (a' := ?_) #[true, true, true, true, true, true, true, true, true, true, true, true, true, true, true, false, false] rfl rfl (by kernel_rfl) (fun _ _ _ h => h) (Or.inl ⟨by rfl, ?_⟩) ?_ ?_
    rotate_left
    · intro w'
      go_simp
      with_reducible rfl
    rotate_left
    · simp only [Act.put, List.setIfInBounds_toArray, List.set_cons_zero, List.set_cons_succ, i64_w, i32_w]
      rfl
    refine pure_ (i := 15) (N := (some 29)) (v := ?_) (a' := ?_) #[true, true, true, true, true, true, true, true, true, true, true, true, true, true, true, true, false] rfl rfl (by kernel_rfl) (fun _ _ _ h => h) (Or.inl ⟨by rfl, ?_⟩) ?_ ?_
    rotate_left
    · intro w'
      go_simp
      with_reducible rfl
    rotate_left
    · simp only [Act.put, List.setIfInBounds_toArray, List.set_cons_zero, List.set_cons_succ, i64_w, i32_w]
      rfl
    refine last_ (i := 16) (N := none) #[true, true, true, true, true, true, true, true, true, true, true, true, true, true, true, true, true] rfl rfl (by kernel_rfl) (by decide) (fun K hK => ?_)
    refine skip_ (w1 := ?_) (by rfl) rfl ?_ ?_
    rotate_left
    · go_simp
      with_reducible rfl
    refine hK.out _ _ ?_
    clear hK K
    refine done_ (by kernel_rfl) ?_

    have hW : IsW (w3.setCell ⟨g, 1, none⟩ (.slice A3 (x.holds.length + 1) c3)) B g { x with holds := x.holds ++ [⟨x.b.length, 2⟩] } := by
      exact ⟨_, _, blk_put hgx 1 _ (by simp), hB, Kd.R_set hbx hgx (by decide) 1 _, Kd.R_set hR1 hgx (by decide) 1 _⟩
    have kw := kx.setCell (p := ⟨g, 1, none⟩) hB ⟨_, _, hgx⟩ (by simp [wts]) (.slice A3 (x.holds.length + 1) c3)
    clear hgx hbx kx hR1 f1 hHeld c0 c1' hs
    generalize w3.setCell ⟨g, 1, none⟩ (.slice A3 (x.holds.length + 1) c3) = w4 at *
    have hmk : (Instr.makeSlice 22 (.int .i64 2) (.int .i64 2)).run Tryd.prog w4 = .ok (.slice (some ⟨w4.heap.size, 0, none⟩) 2 2) (w4.alloc (.cells #[.int .u8 0, .int .u8 0] 5)) :=
      (print_make (P := Tryd.prog) 22 5 .u8 1 rfl info5 (by decide) 2 (by decide) w4).trans (by rw [show madeCells #[Value.int .u8 0] 2 = #[.int .u8 0, .int .u8 0] from by kernel_rfl])
    have hb := WByte_calls (w4.alloc (.cells #[.int .u8 0, .int .u8 0] 5)) B g _ (hW.below (below_alloc (Below.refl _ _) _)) (some ⟨w4.heap.size, 0, none⟩) 2 (List.replicate 2 0) (litC (litR w4 5 .u8 (List.replicate 2 0) (by simp))) (by simp; omega)
    rw [show ({ x with holds := x.holds ++ [⟨x.b.length, 2⟩] } : Wtr).bytes (List.replicate 2 0) = { x with b := x.b ++ List.replicate 2 0, holds := x.holds ++ [⟨x.b.length, 2⟩] } from if_pos h0] at hb
    go_wp2_with fail
    refine hb.mono ?_
    rintro e w5 ⟨rfl, hW5, k5⟩
    have kz := (kw.alloc (.cells #[.int .u8 0, .int .u8 0] 5)).trans k5
    clear hb hW kw k5 hmk
    go_wp2
    go_ret
    exact ⟨rfl, hW5, kz⟩
  · have n0 : (x.e != 0) = true := by simp [h0]
    have hr : x.hold 2 = x := if_neg h0
    rw [hr]
    clear hr h0
    go_enter Tryd.func77, Tryd.ntmps77
    go_wp2_with fail
    refine hc.mono ?_
    rintro e w1 ⟨rfl, h1, k1⟩
    go_wp2
    go_ret
    exact ⟨rfl, h1, k1⟩
end Go.Proofs.YthafedmlbialiaaDoor
