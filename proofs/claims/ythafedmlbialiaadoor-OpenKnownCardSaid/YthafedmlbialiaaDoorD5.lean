/-
  The walk of law05.few.
-/
import Derived.Test.YthafedmlbialiaaDoorD0
import Derived.Test.YthafedmlbialiaaDoorC1
namespace Go.Proofs.YthafedmlbialiaaDoor
open Go.RowKit Go.Proofs.YthafedmlbialiaaDoorW.PrintWords Go.Proofs.YthafedmlbialiaaDoorW.PrintLast Go.Proofs.YthafedmlbialiaaDoorW.PrintMore
set_option linter.unusedVariables false
set_option linter.unusedSimpArgs false

/-- 'b[:min(len(b), N)]'. -/
theorem cutN (N : Nat) (w : World) (A : Option Addr) (c : Nat) (xs : List Int) (hC : (Kd.int .u8).C w A xs.length xs) (hc : xs.length ≤ c) (m : Int) (hm : (xs.length ≤ N ∧ m = xs.length) ∨ (N < xs.length ∧ m = N)) :
    (∀ W : World, (Instr.slice 22 (.slice A xs.length c) none (some (.int .i64 m)) none).run Tryd.prog W = .ok (.slice A (xs.take N).length c) W) ∧ (Kd.int .u8).C w A (xs.take N).length (xs.take N) ∧ (xs.take N).length ≤ c ∧ (xs.take N).length ≤ N := by
  obtain ⟨i0, hi0, _, hsz, _⟩ := info_parts info5
  have hcut := cut_to (P := Tryd.prog) 22 5 .i64 Tryd.underlying22 hi0 A xs.length c m (by omega) (by omega) hc
  have e : m.toNat = (xs.take N).length := by rw [List.length_take]; omega
  rw [e] at hcut
  have e2 : xs.take (min N xs.length) = xs.take N := List.take_eq_take_min.symm
  refine ⟨hcut, ?_, by rw [List.length_take]; omega, by rw [List.length_take]; omega⟩
  have h3 := Kd.C_take hC (m := min N xs.length) (by omega)
  rw [e2] at h3
  exact h3

def few (l : List PA.S61) : List PA.S61 := (l.take 20).map fun x => ⟨x.f0, x.f1.take 260⟩
theorem few_snoc {l : List PA.S61} {k : Nat} (hk : k < l.length) (h : k < 20) : few (l.take (k + 1)) = few (l.take k) ++ [⟨l[k].f0, l[k].f1.take 260⟩] := by
  unfold few
  rw [List.take_take, List.take_take, show min 20 (k + 1) = k + 1 by omega, show min 20 k = k by omega, List.take_succ_eq_append_getElem hk, List.map_append]
  rfl
theorem few_same {l : List PA.S61} {k : Nat} (h : 20 ≤ k) : few (l.take (k + 1)) = few (l.take k) := by
  unfold few
  rw [List.take_take, List.take_take, show min 20 (k + 1) = 20 by omega, show min 20 k = 20 by omega]
theorem few_all (l : List PA.S61) : few (l.take l.length) = few l := by rw [List.take_length]
theorem few_len (l : List PA.S61) : (few l).length ≤ 20 := by simp [few]; omega

set_option maxHeartbeats 4000000 in
set_option maxRecDepth 100000 in
theorem few_calls (w : World) (A : Option Addr) (c : Nat) (l : List PA.S61) (hC : PA.k61.C w A l.length l) (hl : l.length ≤ 140737488351232) :
    Calls Tryd.prog 34 #[.slice A l.length c] w fun e w' => ∃ v, e = .returned v ∧ PA.k61.R 61 w' w.heap.size (fun _ => True) v (few l) ∧ Below w.heap.size w w' := by
  go_enter Tryd.func34, Tryd.ntmps34
  go_wp2_with fail
  go_loopw [3, 8] (fun v i w' => ∃ k : Nat, k ≤ l.length ∧ i = .int .i64 k ∧ PA.k61.R 61 w' w.heap.size (fun _ => True) v (few (l.take k)) ∧ Below w.heap.size w w') (fun _ i _ => l.length - (intOf i).toNat)
  case atStart => exact ⟨0, Nat.zero_le _, rfl, Kd.R_nil _ _ _ _ _, Below.refl _ _⟩
  case round =>
    obtain ⟨k, hk, rfl, hR, hb⟩ := hrel
    by_cases hlt : k < l.length
    · obtain ⟨ad, A1, c1, rfl, q0, q1, hl1, hC1⟩ := PA.at_T61 (Kd.C_below hC hb) (k : Int) (by omega) (by omega)
      rw [Int.toNat_natCast] at q0 q1
      have hx : PA.rd_T61 l (k : Int) = l[k] := by rw [PA.rd_T61, Int.toNat_natCast, List.getD_eq_getElem?_getD, List.getElem?_eq_getElem hlt]; rfl
      rw [hx] at q0 q1 hl1 hC1
      have hsn := few_snoc hlt
      obtain ⟨x, hxe⟩ : ∃ x, l[k] = x := ⟨_, rfl⟩
      rw [hxe] at q0 q1 hl1 hC1 hsn
      have HSN := Aside0.mk hsn
      have HSS := Aside0.mk (few_same (l := l) (k := k))
      have HFL := Aside0.mk (few_len (l.take k))
      clear hx hxe hsn
      by_cases h20 : k < 20
      · have d1 : decide ((k : Int) < 20) = true := decide_eq_true (by omega)
        have hs := HSN.out h20
        have HS := Aside0.mk hs
        clear hs h20
        obtain ⟨mi, hmi⟩ : ∃ m : Int, (x.f1.length ≤ 260 ∧ m = x.f1.length) ∨ (260 < x.f1.length ∧ m = 260) := by
          by_cases h : x.f1.length ≤ 260
          · exact ⟨_, .inl ⟨h, rfl⟩⟩
          · exact ⟨_, .inr ⟨by omega, rfl⟩⟩
        obtain ⟨hcut, hCy, hyc, hyl⟩ := cutN 260 wr A1 c1 x.f1 hC1 hl1 mi hmi
        obtain ⟨ys, hys⟩ : ∃ ys, x.f1.take 260 = ys := ⟨_, rfl⟩
        rw [hys] at hcut hCy hyc hyl HS
        clear hys HSN HSS
        go_upto_region 6 with fail
        have hM := blk_new wr (.cells #[.int .u8 x.f0, .slice A1 x.f1.length c1] 61)
        replace hR := Kd.R_alloc hR (.cells #[.int .u8 x.f0, .slice A1 x.f1.length c1] 61)
        replace hb := below_alloc hb (.cells #[.int .u8 x.f0, .slice A1 x.f1.length c1] 61)
        replace hCy := Kd.C_alloc hCy (.cells #[.int .u8 x.f0, .slice A1 x.f1.length c1] 61)
        clear q0 q1 hC1 hl1
        generalize wr.alloc (.cells #[.int .u8 x.f0, .slice A1 x.f1.length c1] 61) = wr3 at *
        generalize wr.heap.size = m at *
        have b0 := blk_cell hM 0
        have b1 := blk_cell hM 1
        simp at b0 b1
        obtain ⟨hif, hmi2⟩ : (if 260 < (x.f1.length : Int) then (260 : Int) else x.f1.length) = mi ∧ mi ≤ 260 := by
          rcases hmi with ⟨hm1, rfl⟩ | ⟨hm1, rfl⟩
          · exact ⟨if_neg (by omega), by omega⟩
          · exact ⟨if_pos (by omega), by omega⟩
        clear hmi
        focus
          go_wp2_with fail
          refine start_ (n := 15) (S := fun w' => w'.cell? ⟨m, 0, none⟩ = some (.int .u8 x.f0) ∧ w'.cell? ⟨m, 1, none⟩ = some (.slice A1 x.f1.length c1)) (ds := [13]) #[false, false, false, false, false, false, false, false, false, false, false, false, false, false, false] (by kernel_rfl) rfl rfl (⟨b0, b1⟩) (fun hHeld => ?_)
          replace hR := Kd.R_drew hR
          replace hb := below_drew hb
          replace hCy := Kd.C_drew hCy
          generalize wr3.drew = w4 at *
          refine pure_ (i := 0) (N := (some 15)) (v := ?_) (a' := ?_) #[true, false, false, false, false, false, false, false, false, false, false, false, false, false, false] rfl rfl (by kernel_rfl) (fun _ _ _ h => h) (Or.inl ⟨by rfl, ?_⟩) ?_ ?_
          rotate_left
          · intro w'
            go_simp
            with_reducible rfl
          rotate_left
          · simp only [Act.put, List.setIfInBounds_toArray, List.set_cons_zero, List.set_cons_succ, i64_w, i32_w]
            rfl
          refine pure_ (i := 1) (N := (some 16)) (v := ?_) (a' := ?_) #[true, true, false, false, false, false, false, false, false, false, false, false, false, false, false] rfl rfl (by kernel_rfl) (fun _ _ _ h => h) (Or.inl ⟨by rfl, ?_⟩) ?_ ?_
          rotate_left
          · intro w'
            go_simp
            with_reducible rfl
          rotate_left
          · simp only [Act.put, List.setIfInBounds_toArray, List.set_cons_zero, List.set_cons_succ, i64_w, i32_w]
            rfl
          refine take_ (i := 2) (N := (some 17)) (v := ?_) (a' := ?_) #[true, true, true, false, false, false, false, false, false, false, false, false, false, false, false] rfl rfl (by kernel_rfl) (fun _ _ _ h => h) (Or.inl ⟨by rfl, ?_⟩) hHeld ?_ ?_
          rotate_left
          · rintro w' ⟨s0, s1⟩
            go_simp
            with_reducible rfl
          rotate_left
          · simp only [Act.put, List.setIfInBounds_toArray, List.set_cons_zero, List.set_cons_succ, i64_w, i32_w]
            rfl
          refine pure_ (i := 3) (N := (some 18)) (v := ?_) (a' := ?_) #[true, true, true, true, false, false, false, false, false, false, false, false, false, false, false] rfl rfl (by kernel_rfl) (fun _ _ _ h => h) (Or.inl ⟨by rfl, ?_⟩) ?_ ?_
          rotate_left
          · intro w'
            go_simp
            with_reducible rfl
          rotate_left
          · simp only [Act.put, List.setIfInBounds_toArray, List.set_cons_zero, List.set_cons_succ, i64_w, i32_w]
            rfl
          refine take_ (i := 4) (N := (some 19)) (v := ?_) (a' := ?_) #[true, true, true, true, true, false, false, false, false, false, false, false, false, false, false] rfl rfl (by kernel_rfl) (fun _ _ _ h => h) (Or.inl ⟨by rfl, ?_⟩) hHeld ?_ ?_
          rotate_left
          · rintro w' ⟨s0, s1⟩
            go_simp
            with_reducible rfl
          rotate_left
          · simp only [Act.put, List.setIfInBounds_toArray, List.set_cons_zero, List.set_cons_succ, i64_w, i32_w]
            rfl
          refine pure_ (i := 5) (N := (some 20)) (v := ?_) (a' := ?_) #[true, true, true, true, true, true, false, false, false, false, false, false, false, false, false] rfl rfl (by kernel_rfl) (fun _ _ _ h => h) (Or.inl ⟨by rfl, ?_⟩) ?_ ?_
          rotate_left
          · intro w'
            go_simp
            with_reducible rfl
          rotate_left
          · simp only [Act.put, List.setIfInBounds_toArray, List.set_cons_zero, List.set_cons_succ, i64_w, i32_w]
            rfl
          refine take_ (i := 6) (N := (some 21)) (v := ?_) (a' := ?_) #[true, true, true, true, true, true, true, false, false, false, false, false, false, false, false] rfl rfl (by kernel_rfl) (fun _ _ _ h => h) (Or.inl ⟨by rfl, ?_⟩) hHeld ?_ ?_
          rotate_left
          · rintro w' ⟨s0, s1⟩
            go_simp
            with_reducible rfl
          rotate_left
          · simp only [Act.put, List.setIfInBounds_toArray, List.set_cons_zero, List.set_cons_succ, i64_w, i32_w]
            rfl
          refine pure_ (i := 7) (N := (some 22)) (v := ?_) (a' := ?_) #[true, true, true, true, true, true, true, true, false, false, false, false, false, false, false] rfl rfl (by kernel_rfl) (fun _ _ _ h => h) (Or.inl ⟨by rfl, ?_⟩) ?_ ?_
          rotate_left
          · intro w'
            go_simp
            with_reducible rfl
          rotate_left
          · simp only [Act.put, List.setIfInBounds_toArray, List.set_cons_zero, List.set_cons_succ, i64_w, i32_w]
            rfl
          refine pure_ (i := 8) (N := (some 23)) (v := ?_) (a' := ?_) #[true, true, true, true, true, true, true, true, true, false, false, false, false, false, false] rfl rfl (by kernel_rfl) (fun _ _ _ h => h) (Or.inl ⟨by rfl, ?_⟩) ?_ ?_
          rotate_left
          · intro w'
            go_simp
            with_reducible rfl
          rotate_left
          · simp only [Act.put, List.setIfInBounds_toArray, List.set_cons_zero, List.set_cons_succ, i64_w, i32_w]
            rfl
          refine pure_ (i := 9) (N := (some 24)) (v := ?_) (a' := ?_) #[true, true, true, true, true, true, true, true, true, true, false, false, false, false, false] rfl rfl (by kernel_rfl) (fun _ _ _ h => h) (Or.inl ⟨by rfl, ?_⟩) ?_ ?_
          rotate_left
          · intro w'
            go_simp
            with_reducible rfl
          rotate_left
          · simp only [Act.put, List.setIfInBounds_toArray, List.set_cons_zero, List.set_cons_succ, i64_w, i32_w]
            rfl
          refine one_ (i := 10) (N := (some 25)) #[true, true, true, true, true, true, true, true, true, true, true, false, false, false, false] rfl rfl (by kernel_rfl) (by decide) (fun K hK => ?_)
          refine goes_ Tryd.func14 (by kernel_rfl) rfl #[.slice A1 ys.length c1] (by rfl) rfl rfl (by simp [Act.eval]) ?_
          refine (BClone_calls _ w.heap.size A1 c1 ys hb.size hCy (by omega)).mono ?_
          rintro e w5 ⟨v5, rfl, hv5, hb5'⟩
          obtain ⟨A5, c5, rfl⟩ := Kd.R_slice hv5
          have hR5 := Kd.R_below hR hb5'
          have hb5 := hb.trans (hb5'.mono hb.size)
          have q0' := pw_cell_below hb5' hHeld.1
          have q1' := pw_cell_below hb5' hHeld.2
          refine ⟨_, rfl, ?_⟩
          refine hK.out _ _ (⟨q0', q1'⟩) (fun hHeld => ?_)
          clear hK K
          refine norm_ (a' := ?_) ?_ ?_
          rotate_left
          · show Act.put _ (some 25) _ = _
            simp only [Act.put, List.setIfInBounds_toArray, List.set_cons_zero, List.set_cons_succ, i64_w, i32_w]
            rfl
          refine pure_ (i := 11) (N := (some 26)) (v := ?_) (a' := ?_) #[true, true, true, true, true, true, true, true, true, true, true, true, false, false, false] rfl rfl (by kernel_rfl) (fun _ _ _ h => h) (Or.inl ⟨by rfl, ?_⟩) ?_ ?_
          rotate_left
          · intro w'
            go_simp
            with_reducible rfl
          rotate_left
          · simp only [Act.put, List.setIfInBounds_toArray, List.set_cons_zero, List.set_cons_succ, i64_w, i32_w]
            rfl
          refine one_ (i := 12) (N := (some 27)) #[true, true, true, true, true, true, true, true, true, true, true, true, true, false, false] rfl rfl (by kernel_rfl) (by decide) (fun K hK => ?_)
          refine value_ (w1 := ?_) (v := ?_) (by rfl) rfl ?_ ?_
          rotate_left 2
          · go_simp
            constructor
            · rfl
            · rfl
          refine hK.out _ _ (⟨cell_alloc hHeld.1 _, cell_alloc hHeld.2 _⟩) (fun hHeld => ?_)
          clear hK K
          refine norm_ (a' := ?_) ?_ ?_
          rotate_left
          · show Act.put _ (some 27) _ = _
            simp only [Act.put, List.setIfInBounds_toArray, List.set_cons_zero, List.set_cons_succ, i64_w, i32_w]
            rfl
          refine last_ (i := 13) (N := (some 28)) #[true, true, true, true, true, true, true, true, true, true, true, true, true, true, false] rfl rfl (by kernel_rfl) (by decide) (fun K hK => ?_)
          refine Kd.R_append_step PA.k61 (w0 := w) w.heap.size (by rfl) (.tmp 15) (.tmp 27) 24 61 (.agg #[(.int .u8 0), (.slice none 0 0)]) 32 rfl Tryd.underlying24 PA.info61 rfl (by decide) (by decide) u3 (few (l.take k)) (⟨x.f0, ys⟩ : PA.S61) [.int .u8 x.f0, .slice A5 ys.length c5] (fun _ => True) (fun k => True ∧ some k ≠ u3.ownBlock) rfl rfl (PA.k61_mkM _ _ _ ⟨x.f0, ys⟩ (R_apart hv5 hR5 (by decide))) (fun _ h => ⟨trivial, h.2⟩) (fun _ _ => trivial) hR5 hb5 hb5.size (by have := HFL.out; omega) ?_
          intro v6 w7 hR7 hb7 _ _
          refine hK.out _ _ ?_
          clear hK K
          refine norm_ (a' := ?_) ?_ ?_
          rotate_left
          · show Act.put _ (some 28) _ = _
            simp only [Act.put, List.setIfInBounds_toArray, List.set_cons_zero, List.set_cons_succ, i64_w, i32_w]
            rfl
          refine pure_ (i := 14) (N := (some 3)) (v := ?_) (a' := ?_) #[true, true, true, true, true, true, true, true, true, true, true, true, true, true, true] rfl rfl (by kernel_rfl) (fun _ _ _ h => h) (Or.inl ⟨by rfl, ?_⟩) ?_ ?_
          rotate_left
          · intro w'
            go_simp
            with_reducible rfl
          rotate_left
          · simp only [Act.put, List.setIfInBounds_toArray, List.set_cons_zero, List.set_cons_succ, i64_w, i32_w]
            rfl
          refine done_ (by kernel_rfl) ?_
          have hsl : (few (l.take k) ++ [⟨x.f0, ys⟩] : List PA.S61) = few (l.take (k + 1)) := HS.out.symm
          rw [hsl] at hR7
          clear hHeld q0' q1' hv5 hR5 hb5 hb5' hR hb hcut hCy b0 b1 hsl
          go_wp2
          exact ⟨⟨k + 1, by omega, by simp, hR7, hb7⟩, by simp [intOf]; omega⟩
      · have d1 : decide ((k : Int) < 20) = false := decide_eq_false (by omega)
        have hs := HSS.out (by omega)
        have HS := Aside0.mk hs
        clear hs h20
        replace hR := Kd.R_alloc hR (.cells #[.int .u8 x.f0, .slice A1 x.f1.length c1] 61)
        replace hb := below_alloc hb (.cells #[.int .u8 x.f0, .slice A1 x.f1.length c1] 61)
        go_wp2
        exact ⟨⟨k + 1, by omega, by simp, by rw [HS.out]; exact hR, hb⟩, by simp [intOf]; omega⟩
    · have hke : k = l.length := by omega
      subst hke
      rw [few_all] at hR
      go_wp2
      go_ret
      exact ⟨_, rfl, hR, hb⟩
end Go.Proofs.YthafedmlbialiaaDoor
