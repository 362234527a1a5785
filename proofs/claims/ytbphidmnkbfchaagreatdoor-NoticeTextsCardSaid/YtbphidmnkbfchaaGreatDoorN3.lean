/-
  The walk of a message's Bytes.
-/
import Derived.Test.YtbphidmnkbfchaaGreatDoorN2
namespace Go.Proofs.YtbphidmnkbfchaaGreatDoor
open Go.RowKit Go.Proofs.YtbphidmnkbfchaaGreatDoorW.PrintWords Go.Proofs.YtbphidmnkbfchaaGreatDoorW.PrintLast Go.Proofs.YtbphidmnkbfchaaGreatDoorW.PrintMore
set_option linter.unusedVariables false
set_option linter.unusedSimpArgs false

theorem bytes0 (b ys : List Int) : (⟨b, [], 0⟩ : Wtr).bytes ys = ⟨b ++ ys, [], 0⟩ := if_pos rfl
theorem blkC {w : World} {g : Nat} {x : Int} (h : w.heap[g]? = some (.cells #[.int .u8 x] 5 (0, 0))) : (Kd.int .u8).C w (some ⟨g, 0, none⟩) 1 [x] := by
  refine Kd.C_of_reads (enc := Value.int .u8) (d := (0 : Int)) ⟨rfl, by simp, fun _ => ⟨_, rfl, fun j hj => ?_⟩⟩
  obtain rfl : j = 0 := by omega
  exact (blk_cell h 0).trans rfl
/-- A message's bytes. -/
def frB (ty : Int) (xs : List Int) : List Int := [] ++ List.replicate 16 255 ++ twos [19 + (xs.length : Int)] ++ [ty] ++ xs
theorem typed_calls (w : World) (k : Nat) (h : 1 ≤ k ∧ k ≤ 5) : Calls Tryz.prog 49 #[.int .u8 k] w fun e w' => e = .returned (.bool true) ∧ w = w' := by
  have d1 : decide ((k : Int) ≥ 1) = true := decide_eq_true (by omega)
  have d2 : decide (1 ≤ (k : Int)) = true := decide_eq_true (by omega)
  have d3 : decide ((k : Int) ≤ 5) = true := decide_eq_true (by omega)
  have d4 : decide (1 ≤ k) = true := decide_eq_true (by omega)
  have d5 : decide (k ≤ 5) = true := decide_eq_true (by omega)
  clear h
  go_enter Tryz.func49, Tryz.ntmps49
  go_wp2
  go_ret
  exact ⟨rfl, rfl⟩
theorem lit255 (w : World) : (Kd.int .u8).C (w.alloc (.cells #[.int .u8 255] 5)) (some ⟨w.heap.size, 0, none⟩) 1 [255] := litC (litR w 5 .u8 [255] (by decide))
def frB.T7 : Bool × List (List Nat × List Nat) := (true, [([], []), ([], []), ([0, 1, 0], [0, 1]), ([], []), ([3], [3]), ([4], [4]), ([2, 5, 2], [2, 5]), ([], []), ([7], [7]), ([8], [8]), ([6, 9, 6], [6, 9]), ([], []), ([11], [11]), ([10, 12, 10], [10, 12]), ([13, 13], [13]), ([14], [14]), ([14], [14]), ([15, 14, 0, 1, 2, 3, 4, 5, 6, 7, 8, 9, 10, 11, 12, 13, 14, 15, 16], [15]), ([16, 17, 0, 1, 2, 3, 4, 5, 6, 7, 8, 9, 10, 11, 12, 13, 14, 15, 16, 17], [16])])
def frB.B7 : List Nat := [0, 0, 3, 0, 8, 24, 63, 0, 128, 384, 1023, 0, 2048, 8191, 16383, 32767, 32767, 131071, 262143]
set_option maxRecDepth 100000 in
theorem frB.tab7 : rtab .any (opsOf Tryz.f22 7) = frB.T7 := by kernel_rfl
set_option maxRecDepth 100000 in
theorem frB.bits7 : waitsOk frB.T7.2 frB.B7 = true := by kernel_rfl

set_option maxHeartbeats 40000000 in
set_option maxRecDepth 100000 in
theorem FBytes_ok (w : World) (hG : GlobN w) (k : Nat) (hk : 1 ≤ k ∧ k ≤ 5) (A : Option Addr) (c : Nat) (xs : List Int) (hC : (Kd.int .u8).C w A xs.length xs) (lo hi : Int) (hlo : lens.getD (k * 2) 0 = lo) (hhi : lens.getD (k * 2 + 1) 0 = hi)
    (h1 : lo ≤ 19 + (xs.length : Int)) (h2 : 19 + (xs.length : Int) ≤ hi) (h3 : 19 + (xs.length : Int) ≤ 4096) :
    Calls Tryz.prog 22 #[.agg #[.int .u8 k, .slice A xs.length c]] w fun e w' => ∃ v, e = .returned (.tuple #[v, .int .i64 0]) ∧ (Kd.int .u8).R 5 w' w.heap.size (fun _ => True) v (frB k xs) ∧ Below w.heap.size w w' := by
  have ht := Aside0.mk (fun w => typed_calls w k hk)
  have hcl := hG.ln (k * 2) (by omega)
  have hch := hG.ln (k * 2 + 1) (by omega)
  rw [hlo] at hcl
  rw [hhi] at hch
  have hk0 : (0 : Int) ≤ (k : Int) := by omega
  have hk6 : (k : Int) < 6 := by omega
  have g1 : ¬ 19 + (xs.length : Int) < lo := by omega
  have g2 : ¬ 19 + (xs.length : Int) > hi := by omega
  have g4 : ¬ 19 + (xs.length : Int) > 4096 := by omega
  have d1 : decide (19 + (xs.length : Int) < lo) = false := decide_eq_false g1
  have d2 : decide (hi < 19 + (xs.length : Int)) = false := decide_eq_false g2
  have d4 : decide (4096 < 19 + (xs.length : Int)) = false := decide_eq_false g4
  have hw1 : IntKind.i64.wrap (19 + (xs.length : Int)) = 19 + (xs.length : Int) := IntWalk.i64_in _ (by omega)
  have hw2 : IntKind.u16.wrap (19 + (xs.length : Int)) = 19 + (xs.length : Int) := IntWalk.u16_in _ (by omega)
  have hm := blk_new w (.cells #[.int .u8 k, .slice A xs.length c] 59)
  have HB := below_alloc (Below.refl w.heap.size w) (.cells #[.int .u8 k, .slice A xs.length c] 59)
  have q0 := blk_cell hm 0
  have q1 := blk_cell hm 1
  simp at q0 q1
  replace hcl := pw_cell_below HB hcl
  replace hch := pw_cell_below HB hch
  clear hlo hhi g1 g2 g4
  go_enter Tryz.func22, Tryz.ntmps22
  go_wp2_with (go_at_call 49; refine (ht.out _).mono ?_; rintro e w1 ⟨rfl, rfl⟩)
  have hlit := lit255 (w.alloc (.cells #[.int .u8 k, .slice A xs.length c] 59))
  rw [show (w.alloc (.cells #[.int .u8 k, .slice A xs.length c] 59)).heap.size = w.heap.size + 1 by simp] at hlit
  have hb := below_alloc (Below.refl _ (w.alloc (.cells #[.int .u8 k, .slice A xs.length c] 59))) (.cells #[.int .u8 255] 5)
  replace HB := HB.trans (hb.mono HB.size)
  replace hm := blk_below hm hb
  have hCb := Kd.C_below hC HB
  clear hb hcl hch d1 d2 d4 hk0 hk6 ht q0 q1
  refine (Repeat_calls _ (some ⟨w.heap.size + 1, 0, none⟩) 1 hlit).mono ?_
  rintro e w2 ⟨v5, rfl, hv5, hb⟩
  replace HB := HB.trans (hb.mono HB.size)
  replace hm := blk_below hm hb
  replace hCb := Kd.C_below hCb hb
  obtain ⟨A5, c5, rfl, hl5, hCa⟩ := Kd.R_reads hv5
  simp only [List.length_replicate] at hCa
  clear hb hv5 hlit
  have hnn : ∀ y, y ∈ [19 + (xs.length : Int)] → 0 ≤ y ∧ y < 65536 := by
    intro y hy
    rw [List.mem_singleton.1 hy]
    omega
  have hxl : xs.length ≤ 4077 := by omega
  clear hw1 h1 h2 h3 hC
  go_upto_region 7 with fail
  generalize hty : (k : Int) = ty at hm ⊢
  generalize hnq : 19 + (xs.length : Int) = nn at hw2 hnn ⊢
  have HTY := Aside0.mk hty
  have HNN := Aside0.mk hnq
  clear hty hnq
  refine start_ (n := 19) (S := fun w' => w'.heap[w.heap.size]? = some (.cells #[.int .u8 ty, .slice A xs.length c] 59 (0, 0))) (ds := []) #[false, false, false, false, false, false, false, false, false, false, false, false, false, false, false, false, false, false, false] (by kernel_rfl) rfl rfl (hm) (fun hHeld => ?_)
  refine with_tabW frB.tab7 frB.bits7 (fun HT_ HW_ => ?_)
  replace HB := below_drew HB
  replace hm := blk_drew hm
  replace hCb := Kd.C_drew hCb
  replace hCa := Kd.C_drew hCa
  generalize w2.drew = w4 at *
  refine pure_ (i := 1) (N := (some 47)) (v := ?_) (a' := ?_) #[false, true, false, false, false, false, false, false, false, false, false, false, false, false, false, false, false, false, false] rfl rfl (any_of HT_.out (by kernel_rfl)) (fun _ _ _ h => h) (Or.inl ⟨by rfl, ?_⟩) ?_ ?_
  rotate_left
  · intro w'
    go_simp
    with_reducible rfl
  rotate_left
  · simp only [Act.put, List.setIfInBounds_toArray, List.set_cons_zero, List.set_cons_succ, i64_w, i32_w]
    rfl
  refine pure_ (i := 3) (N := (some 49)) (v := ?_) (a' := ?_) #[false, true, false, true, false, false, false, false, false, false, false, false, false, false, false, false, false, false, false] rfl rfl (any_of HT_.out (by kernel_rfl)) (fun _ _ _ h => h) (Or.inl ⟨by rfl, ?_⟩) ?_ ?_
  rotate_left
  · intro w'
    go_simp
    with_reducible rfl
  rotate_left
  · simp only [Act.put, List.setIfInBounds_toArray, List.set_cons_zero, List.set_cons_succ, i64_w, i32_w]
    rfl
  refine pure_ (i := 4) (N := (some 50)) (v := ?_) (a' := ?_) #[false, true, false, true, true, false, false, false, false, false, false, false, false, false, false, false, false, false, false] rfl rfl (any_of HT_.out (by kernel_rfl)) (fun _ _ _ h => h) (Or.inl ⟨by rfl, ?_⟩) ?_ ?_
  rotate_left
  · intro w'
    go_simp
    with_reducible rfl
  rotate_left
  · simp only [Act.put, List.setIfInBounds_toArray, List.set_cons_zero, List.set_cons_succ, i64_w, i32_w]
    rfl
  refine pure_ (i := 7) (N := (some 53)) (v := ?_) (a' := ?_) #[false, true, false, true, true, false, false, true, false, false, false, false, false, false, false, false, false, false, false] rfl rfl (any_of HT_.out (by kernel_rfl)) (fun _ _ _ h => h) (Or.inl ⟨by rfl, ?_⟩) ?_ ?_
  rotate_left
  · intro w'
    go_simp
    with_reducible rfl
  rotate_left
  · simp only [Act.put, List.setIfInBounds_toArray, List.set_cons_zero, List.set_cons_succ, i64_w, i32_w]
    rfl
  refine take_ (i := 8) (N := (some 54)) (v := ?_) (a' := ?_) #[false, true, false, true, true, false, false, true, true, false, false, false, false, false, false, false, false, false, false] rfl rfl (take_ofW HT_.out HW_.out (by kernel_rfl)) (fun _ _ _ h => h) (Or.inl ⟨by rfl, ?_⟩) hHeld ?_ ?_
  rotate_left
  · rintro w' s0
    have q := blk_cell s0 0; simp at q
    go_simp
    with_reducible rfl
  rotate_left
  · simp only [Act.put, List.setIfInBounds_toArray, List.set_cons_zero, List.set_cons_succ, i64_w, i32_w]
    rfl
  refine pure_ (i := 11) (N := (some 57)) (v := ?_) (a' := ?_) #[false, true, false, true, true, false, false, true, true, false, false, true, false, false, false, false, false, false, false] rfl rfl (any_of HT_.out (by kernel_rfl)) (fun _ _ _ h => h) (Or.inl ⟨by rfl, ?_⟩) ?_ ?_
  rotate_left
  · intro w'
    go_simp
    with_reducible rfl
  rotate_left
  · simp only [Act.put, List.setIfInBounds_toArray, List.set_cons_zero, List.set_cons_succ, i64_w, i32_w]
    rfl
  refine take_ (i := 12) (N := (some 58)) (v := ?_) (a' := ?_) #[false, true, false, true, true, false, false, true, true, false, false, true, true, false, false, false, false, false, false] rfl rfl (take_ofW HT_.out HW_.out (by kernel_rfl)) (fun _ _ _ h => h) (Or.inl ⟨by rfl, ?_⟩) hHeld ?_ ?_
  rotate_left
  · rintro w' s0
    have q := blk_cell s0 1; simp at q
    go_simp
    with_reducible rfl
  rotate_left
  · simp only [Act.put, List.setIfInBounds_toArray, List.set_cons_zero, List.set_cons_succ, i64_w, i32_w]
    rfl
  refine join_ (σ := Nat × Nat × Nat) 5 #[true, true, true, true, true, true, true, true, true, true, true, true, true, true, false, false, false, false, false] (fun s => [(46, .pointer (some ⟨s.2.2, 0, none⟩)), (48, .pointer (some ⟨s.2.2, 0, none⟩)), (51, .slice (some ⟨s.1, 0, none⟩) 1 1), (52, .pointer (some ⟨s.2.2, 0, none⟩)), (55, .slice (some ⟨s.2.1, 0, none⟩) 1 1), (56, .pointer (some ⟨s.2.2, 0, none⟩)), (59, .pointer (some ⟨s.2.2, 0, none⟩))]) (fun s W => Below w4.heap.size w4 W ∧ W.heap[w.heap.size]? = some (.cells #[.int .u8 ty, .slice A xs.length c] 59 (0, 0)) ∧ IsF W w4.heap.size s.2.2 s.2.1 ⟨((((([] : List Int) ++ List.replicate 16 255) ++ twos [nn]) ++ [ty]) ++ xs), [], 0⟩) ?_ (fun Jab1c2de => ?_)
  · rintro ⟨b1, b2, g⟩ W ⟨hB, hm, hG⟩
    refine norm_ (a' := ?_) ?_ ?_
    rotate_left
    · simp only [putAll, Act.put, List.setIfInBounds_toArray, List.set_cons_zero, List.set_cons_succ]
      rfl
    refine one_ (i := 14) (N := some 60) #[true, true, true, true, true, true, true, true, true, true, true, true, true, true, true, false, false, false, false] rfl rfl (one_of HT_.out (by kernel_rfl)) (by decide) (fun K hK => ?_)
    refine goes_ Tryz.func30 (by kernel_rfl) rfl #[.pointer (some ⟨g, 0, none⟩)] (by rfl) rfl rfl (by simp [Act.eval]) ?_
    refine (WDone_calls W w4.heap.size g ⟨((((([] : List Int) ++ List.replicate 16 255) ++ twos [nn]) ++ [ty]) ++ xs), [], 0⟩ hG.isW rfl rfl (by simp [twos, two]; try omega)).mono ?_
    rintro e W2 ⟨v, rfl, hv, hb⟩
    refine ⟨_, rfl, ?_⟩
    refine hK.out _ _ (blk_below hm hb) (fun _ => ?_)
    clear hK K
    refine norm_ (a' := ?_) ?_ ?_
    rotate_left
    · show Act.put _ (some 60) _ = _
      simp only [Act.put, List.setIfInBounds_toArray, List.set_cons_zero, List.set_cons_succ, i64_w, i32_w]
      rfl
    refine pure_ (i := 15) (N := (some 61)) (v := ?_) (a' := ?_) #[true, true, true, true, true, true, true, true, true, true, true, true, true, true, true, true, false, false, false] rfl rfl (any_of HT_.out (by kernel_rfl)) (fun _ _ _ h => h) (Or.inl ⟨by rfl, ?_⟩) ?_ ?_
    rotate_left
    · intro w'
      go_simp
      with_reducible rfl
    rotate_left
    · simp only [Act.put, List.setIfInBounds_toArray, List.set_cons_zero, List.set_cons_succ, i64_w, i32_w]
      rfl
    refine pure_ (i := 16) (N := (some 62)) (v := ?_) (a' := ?_) #[true, true, true, true, true, true, true, true, true, true, true, true, true, true, true, true, true, false, false] rfl rfl (any_of HT_.out (by kernel_rfl)) (fun _ _ _ h => h) (Or.inl ⟨by rfl, ?_⟩) ?_ ?_
    rotate_left
    · intro w'
      go_simp
      with_reducible rfl
    rotate_left
    · simp only [Act.put, List.setIfInBounds_toArray, List.set_cons_zero, List.set_cons_succ, i64_w, i32_w]
      rfl
    refine pure_ (i := 17) (N := (some 2)) (v := ?_) (a' := ?_) #[true, true, true, true, true, true, true, true, true, true, true, true, true, true, true, true, true, true, false] rfl rfl (any_of HT_.out (by kernel_rfl)) (fun _ _ _ h => h) (Or.inl ⟨by rfl, ?_⟩) ?_ ?_
    rotate_left
    · intro w'
      go_simp
      with_reducible rfl
    rotate_left
    · simp only [Act.put, List.setIfInBounds_toArray, List.set_cons_zero, List.set_cons_succ, i64_w, i32_w]
      rfl
    refine pure_ (i := 18) (N := (some 3)) (v := ?_) (a' := ?_) #[true, true, true, true, true, true, true, true, true, true, true, true, true, true, true, true, true, true, true] rfl rfl (any_of HT_.out (by kernel_rfl)) (fun _ _ _ h => h) (Or.inl ⟨by rfl, ?_⟩) ?_ ?_
    rotate_left
    · intro w'
      go_simp
      with_reducible rfl
    rotate_left
    · simp only [Act.put, List.setIfInBounds_toArray, List.set_cons_zero, List.set_cons_succ, i64_w, i32_w]
      rfl
    refine done_ (done_of HT_.out (by kernel_rfl)) ?_
    
    go_wp2
    exact bodyPost_ret (v := .tuple #[v, .int .i64 0]) (by simp [results, Tryz.results22, go_sem]) rfl ⟨v, rfl, (by unfold frB; rw [HTY.out, HNN.out]; exact Kd.R_lower hv (Nat.le_trans HB.size hB.size)), HB.trans ((hB.trans (hb.mono hB.size)).mono HB.size)⟩
  refine join_ (σ := Nat × Nat × Nat) 6 #[true, true, true, true, true, true, true, true, true, true, true, true, true, false, false, false, false, false, false] (fun s => [(46, .pointer (some ⟨s.2.2, 0, none⟩)), (48, .pointer (some ⟨s.2.2, 0, none⟩)), (51, .slice (some ⟨s.1, 0, none⟩) 1 1), (52, .pointer (some ⟨s.2.2, 0, none⟩)), (55, .slice (some ⟨s.2.1, 0, none⟩) 1 1), (56, .pointer (some ⟨s.2.2, 0, none⟩))]) (fun s W => Below w4.heap.size w4 W ∧ W.heap[w.heap.size]? = some (.cells #[.int .u8 ty, .slice A xs.length c] 59 (0, 0)) ∧ IsF W w4.heap.size s.2.2 s.2.1 ⟨(((([] : List Int) ++ List.replicate 16 255) ++ twos [nn]) ++ [ty]), [], 0⟩) ?_ (fun Jab1c2d => ?_)
  · rintro ⟨b1, b2, g⟩ W ⟨hB, hm, hG⟩
    refine norm_ (a' := ?_) ?_ ?_
    rotate_left
    · simp only [putAll, Act.put, List.setIfInBounds_toArray, List.set_cons_zero, List.set_cons_succ]
      rfl
    refine one_ (i := 13) (N := some 59) #[true, true, true, true, true, true, true, true, true, true, true, true, true, true, false, false, false, false, false] rfl rfl (one_of HT_.out (by kernel_rfl)) (by decide) (fun K hK => ?_)
    refine goes_ Tryz.func28 (by kernel_rfl) rfl #[.pointer (some ⟨g, 0, none⟩), .slice A xs.length c] (by rfl) rfl rfl (by simp [Act.eval]) ?_
    have H := FByte_calls W w4.heap.size g b2 ⟨(((([] : List Int) ++ List.replicate 16 255) ++ twos [nn]) ++ [ty]), [], 0⟩ hG rfl A c xs (Kd.C_below hCb hB) (by simp [twos, two]; try omega)
    rw [bytes0] at H
    refine H.mono ?_
    rintro e W2 ⟨rfl, hG2, hk, hkp⟩
    refine ⟨_, rfl, ?_⟩
    refine hK.out _ _ (blk_kt hm hk (by decide)) (fun _ => ?_)
    clear hK K H
    refine norm_ ?_ (Jab1c2de (b1, b2, g) _ ⟨below_kt (Nat.le_refl _) hB hk, blk_kt hm hk (by decide), hG2⟩)
    simp only [putAll, Act.put, List.setIfInBounds_toArray, List.set_cons_zero, List.set_cons_succ]
    try rfl
  refine join_ (σ := Nat × Nat × Nat) 7 #[true, true, true, true, true, true, true, true, true, true, false, true, true, false, false, false, false, false, false] (fun s => [(46, .pointer (some ⟨s.2.2, 0, none⟩)), (48, .pointer (some ⟨s.2.2, 0, none⟩)), (51, .slice (some ⟨s.1, 0, none⟩) 1 1), (52, .pointer (some ⟨s.2.2, 0, none⟩)), (55, .slice (some ⟨s.2.1, 0, none⟩) 1 1)]) (fun s W => Below w4.heap.size w4 W ∧ W.heap[w.heap.size]? = some (.cells #[.int .u8 ty, .slice A xs.length c] 59 (0, 0)) ∧ IsF W w4.heap.size s.2.2 s.2.1 ⟨((([] : List Int) ++ List.replicate 16 255) ++ twos [nn]), [], 0⟩ ∧ W.heap[s.2.1]? = some (.cells #[.int .u8 ty] 5 (0, 0))) ?_ (fun Jab1c2 => ?_)
  · rintro ⟨b1, b2, g⟩ W ⟨hB, hm, hG, f2⟩
    refine norm_ (a' := ?_) ?_ ?_
    rotate_left
    · simp only [putAll, Act.put, List.setIfInBounds_toArray, List.set_cons_zero, List.set_cons_succ]
      rfl
    refine one_ (i := 10) (N := some 56) #[true, true, true, true, true, true, true, true, true, true, true, true, true, false, false, false, false, false, false] rfl rfl (one_of HT_.out (by kernel_rfl)) (by decide) (fun K hK => ?_)
    refine goes_ Tryz.func28 (by kernel_rfl) rfl #[.pointer (some ⟨g, 0, none⟩), .slice (some ⟨b2, 0, none⟩) 1 1] (by rfl) rfl rfl (by simp [Act.eval]) ?_
    have H := FByte_calls W w4.heap.size g b2 ⟨((([] : List Int) ++ List.replicate 16 255) ++ twos [nn]), [], 0⟩ hG rfl (some ⟨b2, 0, none⟩) 1 [ty] (blkC f2) (by simp [twos, two]; try omega)
    rw [bytes0] at H
    refine H.mono ?_
    rintro e W2 ⟨rfl, hG2, hk, hkp⟩
    refine ⟨_, rfl, ?_⟩
    refine hK.out _ _ (blk_kt hm hk (by decide)) (fun _ => ?_)
    clear hK K H
    refine norm_ ?_ (Jab1c2d (b1, b2, g) _ ⟨below_kt (Nat.le_refl _) hB hk, blk_kt hm hk (by decide), hG2⟩)
    simp only [putAll, Act.put, List.setIfInBounds_toArray, List.set_cons_zero, List.set_cons_succ]
    try rfl
  refine join_ (σ := Nat × Nat × Nat) 8 #[true, true, true, true, true, true, true, true, true, false, false, true, true, false, false, false, false, false, false] (fun s => [(46, .pointer (some ⟨s.2.2, 0, none⟩)), (48, .pointer (some ⟨s.2.2, 0, none⟩)), (51, .slice (some ⟨s.1, 0, none⟩) 1 1), (52, .pointer (some ⟨s.2.2, 0, none⟩))]) (fun s W => Below w4.heap.size w4 W ∧ W.heap[w.heap.size]? = some (.cells #[.int .u8 ty, .slice A xs.length c] 59 (0, 0)) ∧ IsF W w4.heap.size s.2.2 w.heap.size ⟨((([] : List Int) ++ List.replicate 16 255) ++ twos [nn]), [], 0⟩) ?_ (fun Jab1c => ?_)
  · rintro ⟨b1, b2, g⟩ W ⟨hB, hm, hG⟩
    refine norm_ (a' := ?_) ?_ ?_
    rotate_left
    · simp only [putAll, Act.put, List.setIfInBounds_toArray, List.set_cons_zero, List.set_cons_succ]
      rfl
    refine one_ (i := 9) (N := some 55) #[true, true, true, true, true, true, true, true, true, true, false, true, true, false, false, false, false, false, false] rfl rfl (one_of HT_.out (by kernel_rfl)) (by decide) (fun K hK => ?_)
    refine value_ (w1 := ?_) (v := ?_) (by rfl) rfl ?_ ?_
    rotate_left 2
    · go_simp
      constructor
      · rfl
      · rfl
    have hb := below_alloc (Below.refl W.heap.size W) (.cells #[.int .u8 ty] 5)
    refine hK.out _ _ (blk_below hm hb) (fun _ => ?_)
    clear hK K
    refine norm_ ?_ (Jab1c2 (b1, W.heap.size, g) _ ⟨hB.trans (hb.mono hB.size), blk_below hm hb, hG.fresh _, blk_new W (.cells #[.int .u8 ty] 5)⟩)
    simp only [putAll, Act.put, List.setIfInBounds_toArray, List.set_cons_zero, List.set_cons_succ]
    try rfl
  refine join_ (σ := Nat × Nat × Nat) 8 #[true, true, true, true, true, true, false, true, true, true, false, true, true, false, false, false, false, false, false] (fun s => [(46, .pointer (some ⟨s.2.2, 0, none⟩)), (48, .pointer (some ⟨s.2.2, 0, none⟩)), (51, .slice (some ⟨s.1, 0, none⟩) 1 1), (55, .slice (some ⟨s.2.1, 0, none⟩) 1 1)]) (fun s W => Below w4.heap.size w4 W ∧ W.heap[w.heap.size]? = some (.cells #[.int .u8 ty, .slice A xs.length c] 59 (0, 0)) ∧ IsF W w4.heap.size s.2.2 s.2.1 ⟨(([] : List Int) ++ List.replicate 16 255), [], 0⟩ ∧ (Kd.int .u16).R 22 W w4.heap.size (fun _ => True) (.slice (some ⟨s.1, 0, none⟩) 1 1) [nn] ∧ W.heap[s.2.1]? = some (.cells #[.int .u8 ty] 5 (0, 0))) ?_ (fun Jab12 => ?_)
  · rintro ⟨b1, b2, g⟩ W ⟨hB, hm, hG, f1, f2⟩
    refine norm_ (a' := ?_) ?_ ?_
    rotate_left
    · simp only [putAll, Act.put, List.setIfInBounds_toArray, List.set_cons_zero, List.set_cons_succ]
      rfl
    refine one_ (i := 6) (N := some 52) #[true, true, true, true, true, true, true, true, true, true, false, true, true, false, false, false, false, false, false] rfl rfl (one_of HT_.out (by kernel_rfl)) (by decide) (fun K hK => ?_)
    refine goes_ Tryz.func65 (by kernel_rfl) rfl #[.pointer (some ⟨g, 0, none⟩), .slice (some ⟨b1, 0, none⟩) 1 1] (by rfl) rfl rfl (by simp [Act.eval]) ?_
    have H := FTwo_calls W w4.heap.size g b2 ⟨(([] : List Int) ++ List.replicate 16 255), [], 0⟩ hG rfl (some ⟨b1, 0, none⟩) 1 [nn] hnn (by simp [twos, two]; try omega) (fun w' hk => litC (R_kt f1 hk (by decide)))
    rw [bytes0] at H
    refine H.mono ?_
    rintro e W2 ⟨rfl, hG2, hk, hkp⟩
    refine ⟨_, rfl, ?_⟩
    refine hK.out _ _ (blk_kt hm hk (by decide)) (fun _ => ?_)
    clear hK K H
    refine norm_ ?_ (Jab1c2 (b1, b2, g) _ ⟨below_kt (Nat.le_refl _) hB hk, blk_kt hm hk (by decide), hG2, hkp.trans f2⟩)
    simp only [putAll, Act.put, List.setIfInBounds_toArray, List.set_cons_zero, List.set_cons_succ]
    try rfl
  refine join_ (σ := Nat × Nat × Nat) 9 #[true, true, true, true, true, true, false, true, true, false, false, true, true, false, false, false, false, false, false] (fun s => [(46, .pointer (some ⟨s.2.2, 0, none⟩)), (48, .pointer (some ⟨s.2.2, 0, none⟩)), (51, .slice (some ⟨s.1, 0, none⟩) 1 1)]) (fun s W => Below w4.heap.size w4 W ∧ W.heap[w.heap.size]? = some (.cells #[.int .u8 ty, .slice A xs.length c] 59 (0, 0)) ∧ IsF W w4.heap.size s.2.2 w.heap.size ⟨(([] : List Int) ++ List.replicate 16 255), [], 0⟩ ∧ (Kd.int .u16).R 22 W w4.heap.size (fun _ => True) (.slice (some ⟨s.1, 0, none⟩) 1 1) [nn]) ?_ (fun Jab1 => ?_)
  · rintro ⟨b1, b2, g⟩ W ⟨hB, hm, hG, f1⟩
    refine norm_ (a' := ?_) ?_ ?_
    rotate_left
    · simp only [putAll, Act.put, List.setIfInBounds_toArray, List.set_cons_zero, List.set_cons_succ]
      rfl
    refine two_ (i := 6) (j := 9) (Ni := some 52) (Nj := some 55) #[true, true, true, true, true, true, true, true, true, false, false, true, true, false, false, false, false, false, false] #[true, true, true, true, true, true, false, true, true, true, false, true, true, false, false, false, false, false, false] rfl rfl  rfl rfl  (two_of HT_.out (by kernel_rfl)) (by decide) (by decide)  (fun K hK => ?_) (fun K hK => ?_) 
    · refine goes_ Tryz.func65 (by kernel_rfl) rfl #[.pointer (some ⟨g, 0, none⟩), .slice (some ⟨b1, 0, none⟩) 1 1] (by rfl) rfl rfl (by simp [Act.eval]) ?_
      have H := FTwo_calls W w4.heap.size g w.heap.size ⟨(([] : List Int) ++ List.replicate 16 255), [], 0⟩ hG rfl (some ⟨b1, 0, none⟩) 1 [nn] hnn (by simp [twos, two]; try omega) (fun w' hk => litC (R_kt f1 hk (by decide)))
      rw [bytes0] at H
      refine H.mono ?_
      rintro e W2 ⟨rfl, hG2, hk, hkp⟩
      refine ⟨_, rfl, ?_⟩
      refine hK.out _ _ (blk_kt hm hk (by decide)) (fun _ => ?_)
      clear hK K H
      refine norm_ ?_ (Jab1c (b1, b2, g) _ ⟨below_kt (Nat.le_refl _) hB hk, blk_kt hm hk (by decide), hG2⟩)
      simp only [putAll, Act.put, List.setIfInBounds_toArray, List.set_cons_zero, List.set_cons_succ]
      try rfl
    · refine value_ (w1 := ?_) (v := ?_) (by rfl) rfl ?_ ?_
      rotate_left 2
      · go_simp
        constructor
        · rfl
        · rfl
      have hb := below_alloc (Below.refl W.heap.size W) (.cells #[.int .u8 ty] 5)
      refine hK.out _ _ (blk_below hm hb) (fun _ => ?_)
      clear hK K
      refine norm_ ?_ (Jab12 (b1, W.heap.size, g) _ ⟨hB.trans (hb.mono hB.size), blk_below hm hb, hG.fresh _, Kd.R_below f1 hb, blk_new W (.cells #[.int .u8 ty] 5)⟩)
      simp only [putAll, Act.put, List.setIfInBounds_toArray, List.set_cons_zero, List.set_cons_succ]
      try rfl
  refine join_ (σ := Nat × Nat × Nat) 9 #[true, true, true, true, true, false, false, true, true, true, false, true, true, false, false, false, false, false, false] (fun s => [(46, .pointer (some ⟨s.2.2, 0, none⟩)), (48, .pointer (some ⟨s.2.2, 0, none⟩)), (55, .slice (some ⟨s.2.1, 0, none⟩) 1 1)]) (fun s W => Below w4.heap.size w4 W ∧ W.heap[w.heap.size]? = some (.cells #[.int .u8 ty, .slice A xs.length c] 59 (0, 0)) ∧ IsF W w4.heap.size s.2.2 s.2.1 ⟨(([] : List Int) ++ List.replicate 16 255), [], 0⟩ ∧ W.heap[s.2.1]? = some (.cells #[.int .u8 ty] 5 (0, 0))) ?_ (fun Jab2 => ?_)
  · rintro ⟨b1, b2, g⟩ W ⟨hB, hm, hG, f2⟩
    refine norm_ (a' := ?_) ?_ ?_
    rotate_left
    · simp only [putAll, Act.put, List.setIfInBounds_toArray, List.set_cons_zero, List.set_cons_succ]
      rfl
    refine one_ (i := 5) (N := some 51) #[true, true, true, true, true, true, false, true, true, true, false, true, true, false, false, false, false, false, false] rfl rfl (one_of HT_.out (by kernel_rfl)) (by decide) (fun K hK => ?_)
    refine value_ (w1 := ?_) (v := ?_) (by rfl) rfl ?_ ?_
    rotate_left 2
    · go_simp
      constructor
      · rfl
      · rfl
    have hb := below_alloc (Below.refl W.heap.size W) (.cells #[.int .u16 nn] 22)
    refine hK.out _ _ (blk_below hm hb) (fun _ => ?_)
    clear hK K
    refine norm_ ?_ (Jab12 (W.heap.size, b2, g) _ ⟨hB.trans (hb.mono hB.size), blk_below hm hb, hG.below hb, Kd.R_lower (litR W 22 .u16 [nn] (by simp)) hB.size, blk_below f2 hb⟩)
    simp only [putAll, Act.put, List.setIfInBounds_toArray, List.set_cons_zero, List.set_cons_succ]
    try rfl
  refine join_ (σ := Nat × Nat × Nat) 9 #[true, true, false, true, true, true, false, true, true, true, false, true, true, false, false, false, false, false, false] (fun s => [(46, .pointer (some ⟨s.2.2, 0, none⟩)), (51, .slice (some ⟨s.1, 0, none⟩) 1 1), (55, .slice (some ⟨s.2.1, 0, none⟩) 1 1)]) (fun s W => Below w4.heap.size w4 W ∧ W.heap[w.heap.size]? = some (.cells #[.int .u8 ty, .slice A xs.length c] 59 (0, 0)) ∧ IsF W w4.heap.size s.2.2 s.2.1 ⟨([] : List Int), [], 0⟩ ∧ (Kd.int .u16).R 22 W w4.heap.size (fun _ => True) (.slice (some ⟨s.1, 0, none⟩) 1 1) [nn] ∧ W.heap[s.2.1]? = some (.cells #[.int .u8 ty] 5 (0, 0))) ?_ (fun Ja12 => ?_)
  · rintro ⟨b1, b2, g⟩ W ⟨hB, hm, hG, f1, f2⟩
    refine norm_ (a' := ?_) ?_ ?_
    rotate_left
    · simp only [putAll, Act.put, List.setIfInBounds_toArray, List.set_cons_zero, List.set_cons_succ]
      rfl
    refine one_ (i := 2) (N := some 48) #[true, true, true, true, true, true, false, true, true, true, false, true, true, false, false, false, false, false, false] rfl rfl (one_of HT_.out (by kernel_rfl)) (by decide) (fun K hK => ?_)
    refine goes_ Tryz.func28 (by kernel_rfl) rfl #[.pointer (some ⟨g, 0, none⟩), .slice A5 16 c5] (by rfl) rfl rfl (by simp [Act.eval]) ?_
    have H := FByte_calls W w4.heap.size g b2 ⟨([] : List Int), [], 0⟩ hG rfl A5 c5 (List.replicate 16 255) (Kd.C_below hCa hB) (by simp [twos, two]; try omega)
    rw [bytes0] at H
    refine H.mono ?_
    rintro e W2 ⟨rfl, hG2, hk, hkp⟩
    refine ⟨_, rfl, ?_⟩
    refine hK.out _ _ (blk_kt hm hk (by decide)) (fun _ => ?_)
    clear hK K H
    refine norm_ ?_ (Jab12 (b1, b2, g) _ ⟨below_kt (Nat.le_refl _) hB hk, blk_kt hm hk (by decide), hG2, R_kt f1 hk (by decide), hkp.trans f2⟩)
    simp only [putAll, Act.put, List.setIfInBounds_toArray, List.set_cons_zero, List.set_cons_succ]
    try rfl
  refine join_ (σ := Nat × Nat × Nat) 10 #[true, true, true, true, true, false, false, true, true, false, false, true, true, false, false, false, false, false, false] (fun s => [(46, .pointer (some ⟨s.2.2, 0, none⟩)), (48, .pointer (some ⟨s.2.2, 0, none⟩))]) (fun s W => Below w4.heap.size w4 W ∧ W.heap[w.heap.size]? = some (.cells #[.int .u8 ty, .slice A xs.length c] 59 (0, 0)) ∧ IsF W w4.heap.size s.2.2 w.heap.size ⟨(([] : List Int) ++ List.replicate 16 255), [], 0⟩) ?_ (fun Jab => ?_)
  · rintro ⟨b1, b2, g⟩ W ⟨hB, hm, hG⟩
    refine norm_ (a' := ?_) ?_ ?_
    rotate_left
    · simp only [putAll, Act.put, List.setIfInBounds_toArray, List.set_cons_zero, List.set_cons_succ]
      rfl
    refine two_ (i := 5) (j := 9) (Ni := some 51) (Nj := some 55) #[true, true, true, true, true, true, false, true, true, false, false, true, true, false, false, false, false, false, false] #[true, true, true, true, true, false, false, true, true, true, false, true, true, false, false, false, false, false, false] rfl rfl  rfl rfl  (two_of HT_.out (by kernel_rfl)) (by decide) (by decide)  (fun K hK => ?_) (fun K hK => ?_) 
    · refine value_ (w1 := ?_) (v := ?_) (by rfl) rfl ?_ ?_
      rotate_left 2
      · go_simp
        constructor
        · rfl
        · rfl
      have hb := below_alloc (Below.refl W.heap.size W) (.cells #[.int .u16 nn] 22)
      refine hK.out _ _ (blk_below hm hb) (fun _ => ?_)
      clear hK K
      refine norm_ ?_ (Jab1 (W.heap.size, b2, g) _ ⟨hB.trans (hb.mono hB.size), blk_below hm hb, hG.below hb, Kd.R_lower (litR W 22 .u16 [nn] (by simp)) hB.size⟩)
      simp only [putAll, Act.put, List.setIfInBounds_toArray, List.set_cons_zero, List.set_cons_succ]
      try rfl
    · refine value_ (w1 := ?_) (v := ?_) (by rfl) rfl ?_ ?_
      rotate_left 2
      · go_simp
        constructor
        · rfl
        · rfl
      have hb := below_alloc (Below.refl W.heap.size W) (.cells #[.int .u8 ty] 5)
      refine hK.out _ _ (blk_below hm hb) (fun _ => ?_)
      clear hK K
      refine norm_ ?_ (Jab2 (b1, W.heap.size, g) _ ⟨hB.trans (hb.mono hB.size), blk_below hm hb, hG.fresh _, blk_new W (.cells #[.int .u8 ty] 5)⟩)
      simp only [putAll, Act.put, List.setIfInBounds_toArray, List.set_cons_zero, List.set_cons_succ]
      try rfl
  refine join_ (σ := Nat × Nat × Nat) 10 #[true, true, false, true, true, true, false, true, true, false, false, true, true, false, false, false, false, false, false] (fun s => [(46, .pointer (some ⟨s.2.2, 0, none⟩)), (51, .slice (some ⟨s.1, 0, none⟩) 1 1)]) (fun s W => Below w4.heap.size w4 W ∧ W.heap[w.heap.size]? = some (.cells #[.int .u8 ty, .slice A xs.length c] 59 (0, 0)) ∧ IsF W w4.heap.size s.2.2 w.heap.size ⟨([] : List Int), [], 0⟩ ∧ (Kd.int .u16).R 22 W w4.heap.size (fun _ => True) (.slice (some ⟨s.1, 0, none⟩) 1 1) [nn]) ?_ (fun Ja1 => ?_)
  · rintro ⟨b1, b2, g⟩ W ⟨hB, hm, hG, f1⟩
    refine norm_ (a' := ?_) ?_ ?_
    rotate_left
    · simp only [putAll, Act.put, List.setIfInBounds_toArray, List.set_cons_zero, List.set_cons_succ]
      rfl
    refine two_ (i := 2) (j := 9) (Ni := some 48) (Nj := some 55) #[true, true, true, true, true, true, false, true, true, false, false, true, true, false, false, false, false, false, false] #[true, true, false, true, true, true, false, true, true, true, false, true, true, false, false, false, false, false, false] rfl rfl  rfl rfl  (two_of HT_.out (by kernel_rfl)) (by decide) (by decide)  (fun K hK => ?_) (fun K hK => ?_) 
    · refine goes_ Tryz.func28 (by kernel_rfl) rfl #[.pointer (some ⟨g, 0, none⟩), .slice A5 16 c5] (by rfl) rfl rfl (by simp [Act.eval]) ?_
      have H := FByte_calls W w4.heap.size g w.heap.size ⟨([] : List Int), [], 0⟩ hG rfl A5 c5 (List.replicate 16 255) (Kd.C_below hCa hB) (by simp [twos, two]; try omega)
      rw [bytes0] at H
      refine H.mono ?_
      rintro e W2 ⟨rfl, hG2, hk, hkp⟩
      refine ⟨_, rfl, ?_⟩
      refine hK.out _ _ (blk_kt hm hk (by decide)) (fun _ => ?_)
      clear hK K H
      refine norm_ ?_ (Jab1 (b1, b2, g) _ ⟨below_kt (Nat.le_refl _) hB hk, blk_kt hm hk (by decide), hG2, R_kt f1 hk (by decide)⟩)
      simp only [putAll, Act.put, List.setIfInBounds_toArray, List.set_cons_zero, List.set_cons_succ]
      try rfl
    · refine value_ (w1 := ?_) (v := ?_) (by rfl) rfl ?_ ?_
      rotate_left 2
      · go_simp
        constructor
        · rfl
        · rfl
      have hb := below_alloc (Below.refl W.heap.size W) (.cells #[.int .u8 ty] 5)
      refine hK.out _ _ (blk_below hm hb) (fun _ => ?_)
      clear hK K
      refine norm_ ?_ (Ja12 (b1, W.heap.size, g) _ ⟨hB.trans (hb.mono hB.size), blk_below hm hb, hG.fresh _, Kd.R_below f1 hb, blk_new W (.cells #[.int .u8 ty] 5)⟩)
      simp only [putAll, Act.put, List.setIfInBounds_toArray, List.set_cons_zero, List.set_cons_succ]
      try rfl
  refine join_ (σ := Nat × Nat × Nat) 10 #[true, true, false, true, true, false, false, true, true, true, false, true, true, false, false, false, false, false, false] (fun s => [(46, .pointer (some ⟨s.2.2, 0, none⟩)), (55, .slice (some ⟨s.2.1, 0, none⟩) 1 1)]) (fun s W => Below w4.heap.size w4 W ∧ W.heap[w.heap.size]? = some (.cells #[.int .u8 ty, .slice A xs.length c] 59 (0, 0)) ∧ IsF W w4.heap.size s.2.2 s.2.1 ⟨([] : List Int), [], 0⟩ ∧ W.heap[s.2.1]? = some (.cells #[.int .u8 ty] 5 (0, 0))) ?_ (fun Ja2 => ?_)
  · rintro ⟨b1, b2, g⟩ W ⟨hB, hm, hG, f2⟩
    refine norm_ (a' := ?_) ?_ ?_
    rotate_left
    · simp only [putAll, Act.put, List.setIfInBounds_toArray, List.set_cons_zero, List.set_cons_succ]
      rfl
    refine two_ (i := 2) (j := 5) (Ni := some 48) (Nj := some 51) #[true, true, true, true, true, false, false, true, true, true, false, true, true, false, false, false, false, false, false] #[true, true, false, true, true, true, false, true, true, true, false, true, true, false, false, false, false, false, false] rfl rfl  rfl rfl  (two_of HT_.out (by kernel_rfl)) (by decide) (by decide)  (fun K hK => ?_) (fun K hK => ?_) 
    · refine goes_ Tryz.func28 (by kernel_rfl) rfl #[.pointer (some ⟨g, 0, none⟩), .slice A5 16 c5] (by rfl) rfl rfl (by simp [Act.eval]) ?_
      have H := FByte_calls W w4.heap.size g b2 ⟨([] : List Int), [], 0⟩ hG rfl A5 c5 (List.replicate 16 255) (Kd.C_below hCa hB) (by simp [twos, two]; try omega)
      rw [bytes0] at H
      refine H.mono ?_
      rintro e W2 ⟨rfl, hG2, hk, hkp⟩
      refine ⟨_, rfl, ?_⟩
      refine hK.out _ _ (blk_kt hm hk (by decide)) (fun _ => ?_)
      clear hK K H
      refine norm_ ?_ (Jab2 (b1, b2, g) _ ⟨below_kt (Nat.le_refl _) hB hk, blk_kt hm hk (by decide), hG2, hkp.trans f2⟩)
      simp only [putAll, Act.put, List.setIfInBounds_toArray, List.set_cons_zero, List.set_cons_succ]
      try rfl
    · refine value_ (w1 := ?_) (v := ?_) (by rfl) rfl ?_ ?_
      rotate_left 2
      · go_simp
        constructor
        · rfl
        · rfl
      have hb := below_alloc (Below.refl W.heap.size W) (.cells #[.int .u16 nn] 22)
      refine hK.out _ _ (blk_below hm hb) (fun _ => ?_)
      clear hK K
      refine norm_ ?_ (Ja12 (W.heap.size, b2, g) _ ⟨hB.trans (hb.mono hB.size), blk_below hm hb, hG.below hb, Kd.R_lower (litR W 22 .u16 [nn] (by simp)) hB.size, blk_below f2 hb⟩)
      simp only [putAll, Act.put, List.setIfInBounds_toArray, List.set_cons_zero, List.set_cons_succ]
      try rfl
  refine join_ (σ := Nat × Nat × Nat) 10 #[false, true, false, true, true, true, false, true, true, true, false, true, true, false, false, false, false, false, false] (fun s => [(51, .slice (some ⟨s.1, 0, none⟩) 1 1), (55, .slice (some ⟨s.2.1, 0, none⟩) 1 1)]) (fun s W => Below w4.heap.size w4 W ∧ W.heap[w.heap.size]? = some (.cells #[.int .u8 ty, .slice A xs.length c] 59 (0, 0)) ∧ (Kd.int .u16).R 22 W w4.heap.size (fun _ => True) (.slice (some ⟨s.1, 0, none⟩) 1 1) [nn] ∧ W.heap[s.2.1]? = some (.cells #[.int .u8 ty] 5 (0, 0))) ?_ (fun J12 => ?_)
  · rintro ⟨b1, b2, g⟩ W ⟨hB, hm, f1, f2⟩
    refine norm_ (a' := ?_) ?_ ?_
    rotate_left
    · simp only [putAll, Act.put, List.setIfInBounds_toArray, List.set_cons_zero, List.set_cons_succ]
      rfl
    refine one_ (i := 0) (N := some 46) #[true, true, false, true, true, true, false, true, true, true, false, true, true, false, false, false, false, false, false] rfl rfl (one_of HT_.out (by kernel_rfl)) (by decide) (fun K hK => ?_)
    refine goes_ Tryz.func26 (by kernel_rfl) rfl #[] (by rfl) rfl rfl (by simp [Act.eval]) ?_
    refine (Lay_calls W).mono ?_
    rintro e W2 ⟨rfl, hL, hb⟩
    refine ⟨_, rfl, ?_⟩
    refine hK.out _ _ (blk_below hm hb) (fun _ => ?_)
    clear hK K
    refine norm_ ?_ (Ja12 (b1, b2, W.heap.size) _ ⟨hB.trans (hb.mono hB.size), blk_below hm hb, IsF.elder hL hB.size (blk_lt f2), Kd.R_below f1 hb, blk_below f2 hb⟩)
    simp only [putAll, Act.put, List.setIfInBounds_toArray, List.set_cons_zero, List.set_cons_succ]
    try rfl
  refine join_ (σ := Nat × Nat × Nat) 11 #[true, true, false, true, true, false, false, true, true, false, false, true, true, false, false, false, false, false, false] (fun s => [(46, .pointer (some ⟨s.2.2, 0, none⟩))]) (fun s W => Below w4.heap.size w4 W ∧ W.heap[w.heap.size]? = some (.cells #[.int .u8 ty, .slice A xs.length c] 59 (0, 0)) ∧ IsF W w4.heap.size s.2.2 w.heap.size ⟨([] : List Int), [], 0⟩) ?_ (fun Ja => ?_)
  · rintro ⟨b1, b2, g⟩ W ⟨hB, hm, hG⟩
    refine norm_ (a' := ?_) ?_ ?_
    rotate_left
    · simp only [putAll, Act.put, List.setIfInBounds_toArray, List.set_cons_zero, List.set_cons_succ]
      rfl
    refine three_ (i := 2) (j := 5) (k := 9) (Ni := some 48) (Nj := some 51) (Nk := some 55) #[true, true, true, true, true, false, false, true, true, false, false, true, true, false, false, false, false, false, false] #[true, true, false, true, true, true, false, true, true, false, false, true, true, false, false, false, false, false, false] #[true, true, false, true, true, false, false, true, true, true, false, true, true, false, false, false, false, false, false] rfl rfl rfl  rfl rfl rfl  (three_of HT_.out (by kernel_rfl)) (by decide) (by decide) (by decide)  (fun K hK => ?_) (fun K hK => ?_) (fun K hK => ?_) 
    · refine goes_ Tryz.func28 (by kernel_rfl) rfl #[.pointer (some ⟨g, 0, none⟩), .slice A5 16 c5] (by rfl) rfl rfl (by simp [Act.eval]) ?_
      have H := FByte_calls W w4.heap.size g w.heap.size ⟨([] : List Int), [], 0⟩ hG rfl A5 c5 (List.replicate 16 255) (Kd.C_below hCa hB) (by simp [twos, two]; try omega)
      rw [bytes0] at H
      refine H.mono ?_
      rintro e W2 ⟨rfl, hG2, hk, hkp⟩
      refine ⟨_, rfl, ?_⟩
      refine hK.out _ _ (blk_kt hm hk (by decide)) (fun _ => ?_)
      clear hK K H
      refine norm_ ?_ (Jab (b1, b2, g) _ ⟨below_kt (Nat.le_refl _) hB hk, blk_kt hm hk (by decide), hG2⟩)
      simp only [putAll, Act.put, List.setIfInBounds_toArray, List.set_cons_zero, List.set_cons_succ]
      try rfl
    · refine value_ (w1 := ?_) (v := ?_) (by rfl) rfl ?_ ?_
      rotate_left 2
      · go_simp
        constructor
        · rfl
        · rfl
      have hb := below_alloc (Below.refl W.heap.size W) (.cells #[.int .u16 nn] 22)
      refine hK.out _ _ (blk_below hm hb) (fun _ => ?_)
      clear hK K
      refine norm_ ?_ (Ja1 (W.heap.size, b2, g) _ ⟨hB.trans (hb.mono hB.size), blk_below hm hb, hG.below hb, Kd.R_lower (litR W 22 .u16 [nn] (by simp)) hB.size⟩)
      simp only [putAll, Act.put, List.setIfInBounds_toArray, List.set_cons_zero, List.set_cons_succ]
      try rfl
    · refine value_ (w1 := ?_) (v := ?_) (by rfl) rfl ?_ ?_
      rotate_left 2
      · go_simp
        constructor
        · rfl
        · rfl
      have hb := below_alloc (Below.refl W.heap.size W) (.cells #[.int .u8 ty] 5)
      refine hK.out _ _ (blk_below hm hb) (fun _ => ?_)
      clear hK K
      refine norm_ ?_ (Ja2 (b1, W.heap.size, g) _ ⟨hB.trans (hb.mono hB.size), blk_below hm hb, hG.fresh _, blk_new W (.cells #[.int .u8 ty] 5)⟩)
      simp only [putAll, Act.put, List.setIfInBounds_toArray, List.set_cons_zero, List.set_cons_succ]
      try rfl
  refine join_ (σ := Nat × Nat × Nat) 11 #[false, true, false, true, true, true, false, true, true, false, false, true, true, false, false, false, false, false, false] (fun s => [(51, .slice (some ⟨s.1, 0, none⟩) 1 1)]) (fun s W => Below w4.heap.size w4 W ∧ W.heap[w.heap.size]? = some (.cells #[.int .u8 ty, .slice A xs.length c] 59 (0, 0)) ∧ (Kd.int .u16).R 22 W w4.heap.size (fun _ => True) (.slice (some ⟨s.1, 0, none⟩) 1 1) [nn]) ?_ (fun J1 => ?_)
  · rintro ⟨b1, b2, g⟩ W ⟨hB, hm, f1⟩
    refine norm_ (a' := ?_) ?_ ?_
    rotate_left
    · simp only [putAll, Act.put, List.setIfInBounds_toArray, List.set_cons_zero, List.set_cons_succ]
      rfl
    refine two_ (i := 0) (j := 9) (Ni := some 46) (Nj := some 55) #[true, true, false, true, true, true, false, true, true, false, false, true, true, false, false, false, false, false, false] #[false, true, false, true, true, true, false, true, true, true, false, true, true, false, false, false, false, false, false] rfl rfl  rfl rfl  (two_of HT_.out (by kernel_rfl)) (by decide) (by decide)  (fun K hK => ?_) (fun K hK => ?_) 
    · refine goes_ Tryz.func26 (by kernel_rfl) rfl #[] (by rfl) rfl rfl (by simp [Act.eval]) ?_
      refine (Lay_calls W).mono ?_
      rintro e W2 ⟨rfl, hL, hb⟩
      refine ⟨_, rfl, ?_⟩
      refine hK.out _ _ (blk_below hm hb) (fun _ => ?_)
      clear hK K
      refine norm_ ?_ (Ja1 (b1, b2, W.heap.size) _ ⟨hB.trans (hb.mono hB.size), blk_below hm hb, IsF.elder hL hB.size (blk_lt hm), Kd.R_below f1 hb⟩)
      simp only [putAll, Act.put, List.setIfInBounds_toArray, List.set_cons_zero, List.set_cons_succ]
      try rfl
    · refine value_ (w1 := ?_) (v := ?_) (by rfl) rfl ?_ ?_
      rotate_left 2
      · go_simp
        constructor
        · rfl
        · rfl
      have hb := below_alloc (Below.refl W.heap.size W) (.cells #[.int .u8 ty] 5)
      refine hK.out _ _ (blk_below hm hb) (fun _ => ?_)
      clear hK K
      refine norm_ ?_ (J12 (b1, W.heap.size, g) _ ⟨hB.trans (hb.mono hB.size), blk_below hm hb, Kd.R_below f1 hb, blk_new W (.cells #[.int .u8 ty] 5)⟩)
      simp only [putAll, Act.put, List.setIfInBounds_toArray, List.set_cons_zero, List.set_cons_succ]
      try rfl
  refine join_ (σ := Nat × Nat × Nat) 11 #[false, true, false, true, true, false, false, true, true, true, false, true, true, false, false, false, false, false, false] (fun s => [(55, .slice (some ⟨s.2.1, 0, none⟩) 1 1)]) (fun s W => Below w4.heap.size w4 W ∧ W.heap[w.heap.size]? = some (.cells #[.int .u8 ty, .slice A xs.length c] 59 (0, 0)) ∧ W.heap[s.2.1]? = some (.cells #[.int .u8 ty] 5 (0, 0))) ?_ (fun J2 => ?_)
  · rintro ⟨b1, b2, g⟩ W ⟨hB, hm, f2⟩
    refine norm_ (a' := ?_) ?_ ?_
    rotate_left
    · simp only [putAll, Act.put, List.setIfInBounds_toArray, List.set_cons_zero, List.set_cons_succ]
      rfl
    refine two_ (i := 0) (j := 5) (Ni := some 46) (Nj := some 51) #[true, true, false, true, true, false, false, true, true, true, false, true, true, false, false, false, false, false, false] #[false, true, false, true, true, true, false, true, true, true, false, true, true, false, false, false, false, false, false] rfl rfl  rfl rfl  (two_of HT_.out (by kernel_rfl)) (by decide) (by decide)  (fun K hK => ?_) (fun K hK => ?_) 
    · refine goes_ Tryz.func26 (by kernel_rfl) rfl #[] (by rfl) rfl rfl (by simp [Act.eval]) ?_
      refine (Lay_calls W).mono ?_
      rintro e W2 ⟨rfl, hL, hb⟩
      refine ⟨_, rfl, ?_⟩
      refine hK.out _ _ (blk_below hm hb) (fun _ => ?_)
      clear hK K
      refine norm_ ?_ (Ja2 (b1, b2, W.heap.size) _ ⟨hB.trans (hb.mono hB.size), blk_below hm hb, IsF.elder hL hB.size (blk_lt f2), blk_below f2 hb⟩)
      simp only [putAll, Act.put, List.setIfInBounds_toArray, List.set_cons_zero, List.set_cons_succ]
      try rfl
    · refine value_ (w1 := ?_) (v := ?_) (by rfl) rfl ?_ ?_
      rotate_left 2
      · go_simp
        constructor
        · rfl
        · rfl
      have hb := below_alloc (Below.refl W.heap.size W) (.cells #[.int .u16 nn] 22)
      refine hK.out _ _ (blk_below hm hb) (fun _ => ?_)
      clear hK K
      refine norm_ ?_ (J12 (W.heap.size, b2, g) _ ⟨hB.trans (hb.mono hB.size), blk_below hm hb, Kd.R_lower (litR W 22 .u16 [nn] (by simp)) hB.size, blk_below f2 hb⟩)
      simp only [putAll, Act.put, List.setIfInBounds_toArray, List.set_cons_zero, List.set_cons_succ]
      try rfl
  refine join_ (σ := Nat × Nat × Nat) 12 #[false, true, false, true, true, false, false, true, true, false, false, true, true, false, false, false, false, false, false] (fun s => []) (fun s W => Below w4.heap.size w4 W ∧ W.heap[w.heap.size]? = some (.cells #[.int .u8 ty, .slice A xs.length c] 59 (0, 0))) ?_ (fun J => ?_)
  · rintro ⟨b1, b2, g⟩ W ⟨hB, hm⟩
    refine norm_ (a' := ?_) ?_ ?_
    rotate_left
    · simp only [putAll, Act.put, List.setIfInBounds_toArray, List.set_cons_zero, List.set_cons_succ]
      rfl
    refine three_ (i := 0) (j := 5) (k := 9) (Ni := some 46) (Nj := some 51) (Nk := some 55) #[true, true, false, true, true, false, false, true, true, false, false, true, true, false, false, false, false, false, false] #[false, true, false, true, true, true, false, true, true, false, false, true, true, false, false, false, false, false, false] #[false, true, false, true, true, false, false, true, true, true, false, true, true, false, false, false, false, false, false] rfl rfl rfl  rfl rfl rfl  (three_of HT_.out (by kernel_rfl)) (by decide) (by decide) (by decide)  (fun K hK => ?_) (fun K hK => ?_) (fun K hK => ?_) 
    · refine goes_ Tryz.func26 (by kernel_rfl) rfl #[] (by rfl) rfl rfl (by simp [Act.eval]) ?_
      refine (Lay_calls W).mono ?_
      rintro e W2 ⟨rfl, hL, hb⟩
      refine ⟨_, rfl, ?_⟩
      refine hK.out _ _ (blk_below hm hb) (fun _ => ?_)
      clear hK K
      refine norm_ ?_ (Ja (b1, b2, W.heap.size) _ ⟨hB.trans (hb.mono hB.size), blk_below hm hb, IsF.elder hL hB.size (blk_lt hm)⟩)
      simp only [putAll, Act.put, List.setIfInBounds_toArray, List.set_cons_zero, List.set_cons_succ]
      try rfl
    · refine value_ (w1 := ?_) (v := ?_) (by rfl) rfl ?_ ?_
      rotate_left 2
      · go_simp
        constructor
        · rfl
        · rfl
      have hb := below_alloc (Below.refl W.heap.size W) (.cells #[.int .u16 nn] 22)
      refine hK.out _ _ (blk_below hm hb) (fun _ => ?_)
      clear hK K
      refine norm_ ?_ (J1 (W.heap.size, b2, g) _ ⟨hB.trans (hb.mono hB.size), blk_below hm hb, Kd.R_lower (litR W 22 .u16 [nn] (by simp)) hB.size⟩)
      simp only [putAll, Act.put, List.setIfInBounds_toArray, List.set_cons_zero, List.set_cons_succ]
      try rfl
    · refine value_ (w1 := ?_) (v := ?_) (by rfl) rfl ?_ ?_
      rotate_left 2
      · go_simp
        constructor
        · rfl
        · rfl
      have hb := below_alloc (Below.refl W.heap.size W) (.cells #[.int .u8 ty] 5)
      refine hK.out _ _ (blk_below hm hb) (fun _ => ?_)
      clear hK K
      refine norm_ ?_ (J2 (b1, W.heap.size, g) _ ⟨hB.trans (hb.mono hB.size), blk_below hm hb, blk_new W (.cells #[.int .u8 ty] 5)⟩)
      simp only [putAll, Act.put, List.setIfInBounds_toArray, List.set_cons_zero, List.set_cons_succ]
      try rfl
  exact J (0, 0, 0) _ ⟨Below.refl _ _, hm⟩
end Go.Proofs.YtbphidmnkbfchaaGreatDoor
