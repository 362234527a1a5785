/-
  The walk of open's Put.
-/
import Derived.Test.YthafedmlbialiaaDoorV0
import Derived.Test.YthafedmlbialiaaDoorD0
namespace Go.Proofs.YthafedmlbialiaaDoor
open Go.RowKit Go.Proofs.YthafedmlbialiaaDoorW.PrintWords Go.Proofs.YthafedmlbialiaaDoorW.PrintLast Go.Proofs.YthafedmlbialiaaDoorW.PrintMore
set_option linter.unusedVariables false
set_option linter.unusedSimpArgs false

theorem bytes0 (b ys : List Int) : (⟨b, [], 0⟩ : Wtr).bytes ys = ⟨b ++ ys, [], 0⟩ := if_pos rfl
theorem blkC {w : World} {g : Nat} {x : Int} (h : w.heap[g]? = some (.cells #[.int .u8 x] 5 (0, 0))) : (Kd.int .u8).C w (some ⟨g, 0, none⟩) 1 [x] := by
  refine Kd.C_of_reads (enc := Value.int .u8) (d := (0 : Int)) ⟨rfl, by simp, fun _ => ⟨_, rfl, fun j hj => ?_⟩⟩
  obtain rfl : j = 0 := by omega
  exact (blk_cell h 0).trans rfl
/-- Put. -/
def oPut (ver an hold id : Int) (l : List PA.S61) : List Int × Int :=
  if (capsBytes l).2 = 0 then ([] ++ [ver] ++ twos [an, hold] ++ fours [id] ++ [((capsBytes l).1.length : Int)] ++ (capsBytes l).1, 0) else ([], (capsBytes l).2)
def oPut.T4 : Bool × List (List Nat × List Nat) := (true, [([], []), ([], []), ([1], [1]), ([2], [2]), ([0, 3, 0], [0, 3]), ([], []), ([5], [5]), ([], []), ([7], [7]), ([6, 8], [6, 8]), ([4, 9, 4], [4, 9]), ([], []), ([11], [11]), ([12], [12]), ([10, 13, 10], [10, 13]), ([], []), ([15], [15]), ([16], [16]), ([17], [17]), ([14, 18, 14], [14, 18]), ([], []), ([19, 20, 19], [19, 20]), ([21, 21], [21]), ([22], [22]), ([22], [22]), ([23, 22, 0, 1, 2, 3, 4, 5, 6, 7, 8, 9, 10, 11, 12, 13, 14, 15, 16, 17, 18, 19, 20, 21, 22, 23, 24], [23]), ([24, 25, 0, 1, 2, 3, 4, 5, 6, 7, 8, 9, 10, 11, 12, 13, 14, 15, 16, 17, 18, 19, 20, 21, 22, 23, 24, 25], [24])])
def oPut.B4 : List Nat := [0, 0, 2, 6, 15, 0, 32, 0, 128, 480, 1023, 0, 2048, 6144, 16383, 0, 32768, 98304, 229376, 524287, 0, 2097151, 4194303, 8388607, 8388607, 33554431, 67108863]
set_option maxRecDepth 100000 in
theorem oPut.tab4 : rtab .any (opsOf Tryd.f41 4) = oPut.T4 := by kernel_rfl
set_option maxRecDepth 100000 in
theorem oPut.bits4 : waitsOk oPut.T4.2 oPut.B4 = true := by kernel_rfl

set_option maxHeartbeats 40000000 in
set_option maxRecDepth 100000 in
theorem oPut_calls (w : World) (A : Option Addr) (c : Nat) (l : List PA.S61) (hC : PA.k61.C w A l.length l) (hlc : l.length ≤ c) (hl : l.length ≤ 1000000) (ver an hold id : Int) (ha : 0 ≤ an ∧ an < 65536) (hh : 0 ≤ hold ∧ hold < 65536) (hi : 0 ≤ id ∧ id < 4294967296)
    (hlen : (capsBytes l).1.length ≤ 255) :
    Calls Tryd.prog 41 #[.agg #[.int .u8 ver, .int .u16 an, .int .u16 hold, .int .u32 id, .slice A l.length c]] w fun e w' => ∃ v, e = .returned (.tuple #[v, .int .i64 (oPut ver an hold id l).2]) ∧ (Kd.int .u8).R 5 w' w.heap.size (fun _ => True) v (oPut ver an hold id l).1 ∧ Below w.heap.size w w' := by
  have han : ∀ y, y ∈ [an, hold] → 0 ≤ y ∧ y < 65536 := by
    intro y hy
    simp at hy
    rcases hy with rfl | rfl
    · exact ha
    · exact hh
  have hid : ∀ y, y ∈ [id] → 0 ≤ y ∧ y < 4294967296 := by
    intro y hy
    rw [List.mem_singleton.1 hy]
    exact hi
  have hm := blk_new w (.cells #[.int .u8 ver, .int .u16 an, .int .u16 hold, .int .u32 id, .slice A l.length c] 41)
  have HB := below_alloc (Below.refl w.heap.size w) (.cells #[.int .u8 ver, .int .u16 an, .int .u16 hold, .int .u32 id, .slice A l.length c] 41)
  have HC := Aside0.mk (Bytes_calls _ A c l (Kd.C_below hC HB) hlc hl)
  have c4 := blk_cell hm 4
  unfold oPut
  generalize hcb : capsBytes l = cb at *
  obtain ⟨bs, e0⟩ := cb
  clear hC
  by_cases he : e0 = 0
  · subst he
    rw [if_pos rfl]
    go_enter Tryd.func41, Tryd.ntmps41
    go_wp2_with fail
    refine HC.out.mono ?_
    rintro e w2 ⟨v4, rfl, hv4, hb⟩
    replace HB := HB.trans (hb.mono HB.size)
    replace hm := blk_below hm hb
    obtain ⟨A4, c4, rfl, hl4, hCb⟩ := Kd.R_reads hv4
    replace hlen : bs.length ≤ 255 := hlen
    have hw8 : IntKind.u8.wrap (bs.length : Int) = bs.length := IntWalk.u8_in _ (by omega)
    have hm8 : (bs.length : Int) % 256 = bs.length := by omega
    clear hb hv4 HC
    go_upto_region 4 with fail
    refine start_ (n := 27) (S := fun w' => w'.heap[w.heap.size]? = some (.cells #[.int .u8 ver, .int .u16 an, .int .u16 hold, .int .u32 id, .slice A l.length c] 41 (0, 0))) (ds := []) #[false, false, false, false, false, false, false, false, false, false, false, false, false, false, false, false, false, false, false, false, false, false, false, false, false, false, false] (by kernel_rfl) rfl rfl (hm) (fun hHeld => ?_)
    refine with_tabW oPut.tab4 oPut.bits4 (fun HT_ HW_ => ?_)
    replace HB := below_drew HB
    replace hm := blk_drew hm
    replace hCb := Kd.C_drew hCb
    generalize w2.drew = w4 at *
    refine pure_ (i := 1) (N := (some 16)) (v := ?_) (a' := ?_) #[false, true, false, false, false, false, false, false, false, false, false, false, false, false, false, false, false, false, false, false, false, false, false, false, false, false, false] rfl rfl (any_of HT_.out (by kernel_rfl)) (fun _ _ _ h => h) (Or.inl ⟨by rfl, ?_⟩) ?_ ?_
    rotate_left
    · intro w'
      go_simp
      with_reducible rfl
    rotate_left
    · simp only [Act.put, List.setIfInBounds_toArray, List.set_cons_zero, List.set_cons_succ, i64_w, i32_w]
      rfl
    refine take_ (i := 2) (N := (some 17)) (v := ?_) (a' := ?_) #[false, true, true, false, false, false, false, false, false, false, false, false, false, false, false, false, false, false, false, false, false, false, false, false, false, false, false] rfl rfl (take_ofW HT_.out HW_.out (by kernel_rfl)) (fun _ _ _ h => h) (Or.inl ⟨by rfl, ?_⟩) hHeld ?_ ?_
    rotate_left
    · rintro w' s0
      have q := blk_cell s0 0; simp at q
      go_simp
      with_reducible rfl
    rotate_left
    · simp only [Act.put, List.setIfInBounds_toArray, List.set_cons_zero, List.set_cons_succ, i64_w, i32_w]
      rfl
    refine pure_ (i := 5) (N := (some 20)) (v := ?_) (a' := ?_) #[false, true, true, false, false, true, false, false, false, false, false, false, false, false, false, false, false, false, false, false, false, false, false, false, false, false, false] rfl rfl (any_of HT_.out (by kernel_rfl)) (fun _ _ _ h => h) (Or.inl ⟨by rfl, ?_⟩) ?_ ?_
    rotate_left
    · intro w'
      go_simp
      with_reducible rfl
    rotate_left
    · simp only [Act.put, List.setIfInBounds_toArray, List.set_cons_zero, List.set_cons_succ, i64_w, i32_w]
      rfl
    refine take_ (i := 6) (N := (some 21)) (v := ?_) (a' := ?_) #[false, true, true, false, false, true, true, false, false, false, false, false, false, false, false, false, false, false, false, false, false, false, false, false, false, false, false] rfl rfl (take_ofW HT_.out HW_.out (by kernel_rfl)) (fun _ _ _ h => h) (Or.inl ⟨by rfl, ?_⟩) hHeld ?_ ?_
    rotate_left
    · rintro w' s0
      have q := blk_cell s0 1; simp at q
      go_simp
      with_reducible rfl
    rotate_left
    · simp only [Act.put, List.setIfInBounds_toArray, List.set_cons_zero, List.set_cons_succ, i64_w, i32_w]
      rfl
    refine pure_ (i := 7) (N := (some 22)) (v := ?_) (a' := ?_) #[false, true, true, false, false, true, true, true, false, false, false, false, false, false, false, false, false, false, false, false, false, false, false, false, false, false, false] rfl rfl (any_of HT_.out (by kernel_rfl)) (fun _ _ _ h => h) (Or.inl ⟨by rfl, ?_⟩) ?_ ?_
    rotate_left
    · intro w'
      go_simp
      with_reducible rfl
    rotate_left
    · simp only [Act.put, List.setIfInBounds_toArray, List.set_cons_zero, List.set_cons_succ, i64_w, i32_w]
      rfl
    refine take_ (i := 8) (N := (some 23)) (v := ?_) (a' := ?_) #[false, true, true, false, false, true, true, true, true, false, false, false, false, false, false, false, false, false, false, false, false, false, false, false, false, false, false] rfl rfl (take_ofW HT_.out HW_.out (by kernel_rfl)) (fun _ _ _ h => h) (Or.inl ⟨by rfl, ?_⟩) hHeld ?_ ?_
    rotate_left
    · rintro w' s0
      have q := blk_cell s0 2; simp at q
      go_simp
      with_reducible rfl
    rotate_left
    · simp only [Act.put, List.setIfInBounds_toArray, List.set_cons_zero, List.set_cons_succ, i64_w, i32_w]
      rfl
    refine pure_ (i := 11) (N := (some 26)) (v := ?_) (a' := ?_) #[false, true, true, false, false, true, true, true, true, false, false, true, false, false, false, false, false, false, false, false, false, false, false, false, false, false, false] rfl rfl (any_of HT_.out (by kernel_rfl)) (fun _ _ _ h => h) (Or.inl ⟨by rfl, ?_⟩) ?_ ?_
    rotate_left
    · intro w'
      go_simp
      with_reducible rfl
    rotate_left
    · simp only [Act.put, List.setIfInBounds_toArray, List.set_cons_zero, List.set_cons_succ, i64_w, i32_w]
      rfl
    refine take_ (i := 12) (N := (some 27)) (v := ?_) (a' := ?_) #[false, true, true, false, false, true, true, true, true, false, false, true, true, false, false, false, false, false, false, false, false, false, false, false, false, false, false] rfl rfl (take_ofW HT_.out HW_.out (by kernel_rfl)) (fun _ _ _ h => h) (Or.inl ⟨by rfl, ?_⟩) hHeld ?_ ?_
    rotate_left
    · rintro w' s0
      have q := blk_cell s0 3; simp at q
      go_simp
      with_reducible rfl
    rotate_left
    · simp only [Act.put, List.setIfInBounds_toArray, List.set_cons_zero, List.set_cons_succ, i64_w, i32_w]
      rfl
    refine pure_ (i := 15) (N := (some 30)) (v := ?_) (a' := ?_) #[false, true, true, false, false, true, true, true, true, false, false, true, true, false, false, true, false, false, false, false, false, false, false, false, false, false, false] rfl rfl (any_of HT_.out (by kernel_rfl)) (fun _ _ _ h => h) (Or.inl ⟨by rfl, ?_⟩) ?_ ?_
    rotate_left
    · intro w'
      go_simp
      with_reducible rfl
    rotate_left
    · simp only [Act.put, List.setIfInBounds_toArray, List.set_cons_zero, List.set_cons_succ, i64_w, i32_w]
      rfl
    refine pure_ (i := 16) (N := (some 31)) (v := ?_) (a' := ?_) #[false, true, true, false, false, true, true, true, true, false, false, true, true, false, false, true, true, false, false, false, false, false, false, false, false, false, false] rfl rfl (any_of HT_.out (by kernel_rfl)) (fun _ _ _ h => h) (Or.inl ⟨by rfl, ?_⟩) ?_ ?_
    rotate_left
    · intro w'
      go_simp
      with_reducible rfl
    rotate_left
    · simp only [Act.put, List.setIfInBounds_toArray, List.set_cons_zero, List.set_cons_succ, i64_w, i32_w]
      rfl
    refine pure_ (i := 17) (N := (some 32)) (v := ?_) (a' := ?_) #[false, true, true, false, false, true, true, true, true, false, false, true, true, false, false, true, true, true, false, false, false, false, false, false, false, false, false] rfl rfl (any_of HT_.out (by kernel_rfl)) (fun _ _ _ h => h) (Or.inl ⟨by rfl, ?_⟩) ?_ ?_
    rotate_left
    · intro w'
      go_simp
      with_reducible rfl
    rotate_left
    · simp only [Act.put, List.setIfInBounds_toArray, List.set_cons_zero, List.set_cons_succ, i64_w, i32_w]
      rfl
    refine pure_ (i := 20) (N := (some 35)) (v := ?_) (a' := ?_) #[false, true, true, false, false, true, true, true, true, false, false, true, true, false, false, true, true, true, false, false, true, false, false, false, false, false, false] rfl rfl (any_of HT_.out (by kernel_rfl)) (fun _ _ _ h => h) (Or.inl ⟨by rfl, ?_⟩) ?_ ?_
    rotate_left
    · intro w'
      go_simp
      with_reducible rfl
    rotate_left
    · simp only [Act.put, List.setIfInBounds_toArray, List.set_cons_zero, List.set_cons_succ, i64_w, i32_w]
      rfl
    refine join_ (σ := Nat × Nat × Nat × Nat × Nat) 5 #[true, true, true, true, true, true, true, true, true, true, true, true, true, true, true, true, true, true, true, true, true, true, false, false, false, false, false] (fun s => [(15, .pointer (some ⟨s.2.2.2.2, 0, none⟩)), (18, .slice (some ⟨s.1, 0, none⟩) 1 1), (19, .pointer (some ⟨s.2.2.2.2, 0, none⟩)), (24, .slice (some ⟨s.2.1, 0, none⟩) 2 2), (25, .pointer (some ⟨s.2.2.2.2, 0, none⟩)), (28, .slice (some ⟨s.2.2.1, 0, none⟩) 1 1), (29, .pointer (some ⟨s.2.2.2.2, 0, none⟩)), (33, .slice (some ⟨s.2.2.2.1, 0, none⟩) 1 1), (34, .pointer (some ⟨s.2.2.2.2, 0, none⟩)), (36, .pointer (some ⟨s.2.2.2.2, 0, none⟩))]) (fun s W => Below w4.heap.size w4 W ∧ W.heap[w.heap.size]? = some (.cells #[.int .u8 ver, .int .u16 an, .int .u16 hold, .int .u32 id, .slice A l.length c] 41 (0, 0)) ∧ IsF W w4.heap.size s.2.2.2.2 s.2.2.2.1 ⟨(((((([] : List Int) ++ [ver]) ++ twos [an, hold]) ++ fours [id]) ++ [(bs.length : Int)]) ++ bs), [], 0⟩) ?_ (fun Ja1b2c3d4ef => ?_)
    · rintro ⟨b1, b2, b3, b4, g⟩ W ⟨hB, hm, hG⟩
      refine norm_ (a' := ?_) ?_ ?_
      rotate_left
      · simp only [putAll, Act.put, List.setIfInBounds_toArray, List.set_cons_zero, List.set_cons_succ]
        rfl
      refine one_ (i := 22) (N := some 37) #[true, true, true, true, true, true, true, true, true, true, true, true, true, true, true, true, true, true, true, true, true, true, true, false, false, false, false] rfl rfl (one_of HT_.out (by kernel_rfl)) (by decide) (fun K hK => ?_)
      refine goes_ Tryd.func80 (by kernel_rfl) rfl #[.pointer (some ⟨g, 0, none⟩)] (by rfl) rfl rfl (by simp [Act.eval]) ?_
      refine (WDone_calls W w4.heap.size g ⟨(((((([] : List Int) ++ [ver]) ++ twos [an, hold]) ++ fours [id]) ++ [(bs.length : Int)]) ++ bs), [], 0⟩ hG.isW rfl rfl (by simp [twos, two, fours, four]; try omega)).mono ?_
      rintro e W2 ⟨v, rfl, hv, hb⟩
      refine ⟨_, rfl, ?_⟩
      refine hK.out _ _ (blk_below hm hb) (fun _ => ?_)
      clear hK K
      refine norm_ (a' := ?_) ?_ ?_
      rotate_left
      · show Act.put _ (some 37) _ = _
        simp only [Act.put, List.setIfInBounds_toArray, List.set_cons_zero, List.set_cons_succ, i64_w, i32_w]
        rfl
      refine pure_ (i := 23) (N := (some 38)) (v := ?_) (a' := ?_) #[true, true, true, true, true, true, true, true, true, true, true, true, true, true, true, true, true, true, true, true, true, true, true, true, false, false, false] rfl rfl (any_of HT_.out (by kernel_rfl)) (fun _ _ _ h => h) (Or.inl ⟨by rfl, ?_⟩) ?_ ?_
      rotate_left
      · intro w'
        go_simp
        with_reducible rfl
      rotate_left
      · simp only [Act.put, List.setIfInBounds_toArray, List.set_cons_zero, List.set_cons_succ, i64_w, i32_w]
        rfl
      refine pure_ (i := 24) (N := (some 39)) (v := ?_) (a' := ?_) #[true, true, true, true, true, true, true, true, true, true, true, true, true, true, true, true, true, true, true, true, true, true, true, true, true, false, false] rfl rfl (any_of HT_.out (by kernel_rfl)) (fun _ _ _ h => h) (Or.inl ⟨by rfl, ?_⟩) ?_ ?_
      rotate_left
      · intro w'
        go_simp
        with_reducible rfl
      rotate_left
      · simp only [Act.put, List.setIfInBounds_toArray, List.set_cons_zero, List.set_cons_succ, i64_w, i32_w]
        rfl
      refine pure_ (i := 25) (N := (some 2)) (v := ?_) (a' := ?_) #[true, true, true, true, true, true, true, true, true, true, true, true, true, true, true, true, true, true, true, true, true, true, true, true, true, true, false] rfl rfl (any_of HT_.out (by kernel_rfl)) (fun _ _ _ h => h) (Or.inl ⟨by rfl, ?_⟩) ?_ ?_
      rotate_left
      · intro w'
        go_simp
        with_reducible rfl
      rotate_left
      · simp only [Act.put, List.setIfInBounds_toArray, List.set_cons_zero, List.set_cons_succ, i64_w, i32_w]
        rfl
      refine pure_ (i := 26) (N := (some 3)) (v := ?_) (a' := ?_) #[true, true, true, true, true, true, true, true, true, true, true, true, true, true, true, true, true, true, true, true, true, true, true, true, true, true, true] rfl rfl (any_of HT_.out (by kernel_rfl)) (fun _ _ _ h => h) (Or.inl ⟨by rfl, ?_⟩) ?_ ?_
      rotate_left
      · intro w'
        go_simp
        with_reducible rfl
      rotate_left
      · simp only [Act.put, List.setIfInBounds_toArray, List.set_cons_zero, List.set_cons_succ, i64_w, i32_w]
        rfl
      refine done_ (done_of HT_.out (by kernel_rfl)) ?_
      
      go_wp2
      exact bodyPost_ret (v := .tuple #[v, .int .i64 0]) (by simp [results, Tryd.results41, go_sem]) rfl ⟨v, rfl, Kd.R_lower hv (Nat.le_trans HB.size hB.size), HB.trans ((hB.trans (hb.mono hB.size)).mono HB.size)⟩
    refine join_ (σ := Nat × Nat × Nat × Nat × Nat) 6 #[true, true, true, true, true, true, true, true, true, true, true, true, true, true, true, true, true, true, true, true, true, false, false, false, false, false, false] (fun s => [(15, .pointer (some ⟨s.2.2.2.2, 0, none⟩)), (18, .slice (some ⟨s.1, 0, none⟩) 1 1), (19, .pointer (some ⟨s.2.2.2.2, 0, none⟩)), (24, .slice (some ⟨s.2.1, 0, none⟩) 2 2), (25, .pointer (some ⟨s.2.2.2.2, 0, none⟩)), (28, .slice (some ⟨s.2.2.1, 0, none⟩) 1 1), (29, .pointer (some ⟨s.2.2.2.2, 0, none⟩)), (33, .slice (some ⟨s.2.2.2.1, 0, none⟩) 1 1), (34, .pointer (some ⟨s.2.2.2.2, 0, none⟩))]) (fun s W => Below w4.heap.size w4 W ∧ W.heap[w.heap.size]? = some (.cells #[.int .u8 ver, .int .u16 an, .int .u16 hold, .int .u32 id, .slice A l.length c] 41 (0, 0)) ∧ IsF W w4.heap.size s.2.2.2.2 s.2.2.2.1 ⟨((((([] : List Int) ++ [ver]) ++ twos [an, hold]) ++ fours [id]) ++ [(bs.length : Int)]), [], 0⟩) ?_ (fun Ja1b2c3d4e => ?_)
    · rintro ⟨b1, b2, b3, b4, g⟩ W ⟨hB, hm, hG⟩
      refine norm_ (a' := ?_) ?_ ?_
      rotate_left
      · simp only [putAll, Act.put, List.setIfInBounds_toArray, List.set_cons_zero, List.set_cons_succ]
        rfl
      refine one_ (i := 21) (N := some 36) #[true, true, true, true, true, true, true, true, true, true, true, true, true, true, true, true, true, true, true, true, true, true, false, false, false, false, false] rfl rfl (one_of HT_.out (by kernel_rfl)) (by decide) (fun K hK => ?_)
      refine goes_ Tryd.func76 (by kernel_rfl) rfl #[.pointer (some ⟨g, 0, none⟩), .slice A4 bs.length c4] (by rfl) rfl rfl (by simp [Act.eval]) ?_
      have H := FByte_calls W w4.heap.size g b4 ⟨((((([] : List Int) ++ [ver]) ++ twos [an, hold]) ++ fours [id]) ++ [(bs.length : Int)]), [], 0⟩ hG rfl A4 c4 bs (Kd.C_below hCb hB) (by simp [twos, two, fours, four]; try omega)
      rw [bytes0] at H
      refine H.mono ?_
      rintro e W2 ⟨rfl, hG2, hk, hkp⟩
      refine ⟨_, rfl, ?_⟩
      refine hK.out _ _ (blk_kt hm hk (by decide)) (fun _ => ?_)
      clear hK K H
      refine norm_ ?_ (Ja1b2c3d4ef (b1, b2, b3, b4, g) _ ⟨below_kt (Nat.le_refl _) hB hk, blk_kt hm hk (by decide), hG2⟩)
      simp only [putAll, Act.put, List.setIfInBounds_toArray, List.set_cons_zero, List.set_cons_succ]
      try rfl
    refine join_ (σ := Nat × Nat × Nat × Nat × Nat) 7 #[true, true, true, true, true, true, true, true, true, true, true, true, true, true, true, true, true, true, true, false, true, false, false, false, false, false, false] (fun s => [(15, .pointer (some ⟨s.2.2.2.2, 0, none⟩)), (18, .slice (some ⟨s.1, 0, none⟩) 1 1), (19, .pointer (some ⟨s.2.2.2.2, 0, none⟩)), (24, .slice (some ⟨s.2.1, 0, none⟩) 2 2), (25, .pointer (some ⟨s.2.2.2.2, 0, none⟩)), (28, .slice (some ⟨s.2.2.1, 0, none⟩) 1 1), (29, .pointer (some ⟨s.2.2.2.2, 0, none⟩)), (33, .slice (some ⟨s.2.2.2.1, 0, none⟩) 1 1)]) (fun s W => Below w4.heap.size w4 W ∧ W.heap[w.heap.size]? = some (.cells #[.int .u8 ver, .int .u16 an, .int .u16 hold, .int .u32 id, .slice A l.length c] 41 (0, 0)) ∧ IsF W w4.heap.size s.2.2.2.2 s.2.2.2.1 ⟨(((([] : List Int) ++ [ver]) ++ twos [an, hold]) ++ fours [id]), [], 0⟩ ∧ W.heap[s.2.2.2.1]? = some (.cells #[.int .u8 (bs.length : Int)] 5 (0, 0))) ?_ (fun Ja1b2c3d4 => ?_)
    · rintro ⟨b1, b2, b3, b4, g⟩ W ⟨hB, hm, hG, f4⟩
      refine norm_ (a' := ?_) ?_ ?_
      rotate_left
      · simp only [putAll, Act.put, List.setIfInBounds_toArray, List.set_cons_zero, List.set_cons_succ]
        rfl
      refine one_ (i := 19) (N := some 34) #[true, true, true, true, true, true, true, true, true, true, true, true, true, true, true, true, true, true, true, true, true, false, false, false, false, false, false] rfl rfl (one_of HT_.out (by kernel_rfl)) (by decide) (fun K hK => ?_)
      refine goes_ Tryd.func76 (by kernel_rfl) rfl #[.pointer (some ⟨g, 0, none⟩), .slice (some ⟨b4, 0, none⟩) 1 1] (by rfl) rfl rfl (by simp [Act.eval]) ?_
      have H := FByte_calls W w4.heap.size g b4 ⟨(((([] : List Int) ++ [ver]) ++ twos [an, hold]) ++ fours [id]), [], 0⟩ hG rfl (some ⟨b4, 0, none⟩) 1 [(bs.length : Int)] (blkC f4) (by simp [twos, two, fours, four]; try omega)
      rw [bytes0] at H
      refine H.mono ?_
      rintro e W2 ⟨rfl, hG2, hk, hkp⟩
      refine ⟨_, rfl, ?_⟩
      refine hK.out _ _ (blk_kt hm hk (by decide)) (fun _ => ?_)
      clear hK K H
      refine norm_ ?_ (Ja1b2c3d4e (b1, b2, b3, b4, g) _ ⟨below_kt (Nat.le_refl _) hB hk, blk_kt hm hk (by decide), hG2⟩)
      simp only [putAll, Act.put, List.setIfInBounds_toArray, List.set_cons_zero, List.set_cons_succ]
      try rfl
    refine join_ (σ := Nat × Nat × Nat × Nat × Nat) 8 #[true, true, true, true, true, true, true, true, true, true, true, true, true, true, true, true, true, true, false, false, true, false, false, false, false, false, false] (fun s => [(15, .pointer (some ⟨s.2.2.2.2, 0, none⟩)), (18, .slice (some ⟨s.1, 0, none⟩) 1 1), (19, .pointer (some ⟨s.2.2.2.2, 0, none⟩)), (24, .slice (some ⟨s.2.1, 0, none⟩) 2 2), (25, .pointer (some ⟨s.2.2.2.2, 0, none⟩)), (28, .slice (some ⟨s.2.2.1, 0, none⟩) 1 1), (29, .pointer (some ⟨s.2.2.2.2, 0, none⟩))]) (fun s W => Below w4.heap.size w4 W ∧ W.heap[w.heap.size]? = some (.cells #[.int .u8 ver, .int .u16 an, .int .u16 hold, .int .u32 id, .slice A l.length c] 41 (0, 0)) ∧ IsF W w4.heap.size s.2.2.2.2 w.heap.size ⟨(((([] : List Int) ++ [ver]) ++ twos [an, hold]) ++ fours [id]), [], 0⟩) ?_ (fun Ja1b2c3d => ?_)
    · rintro ⟨b1, b2, b3, b4, g⟩ W ⟨hB, hm, hG⟩
      refine norm_ (a' := ?_) ?_ ?_
      rotate_left
      · simp only [putAll, Act.put, List.setIfInBounds_toArray, List.set_cons_zero, List.set_cons_succ]
        rfl
      refine one_ (i := 18) (N := some 33) #[true, true, true, true, true, true, true, true, true, true, true, true, true, true, true, true, true, true, true, false, true, false, false, false, false, false, false] rfl rfl (one_of HT_.out (by kernel_rfl)) (by decide) (fun K hK => ?_)
      refine value_ (w1 := ?_) (v := ?_) (by rfl) rfl ?_ ?_
      rotate_left 2
      · go_simp
        constructor
        · rfl
        · rfl
      have hb := below_alloc (Below.refl W.heap.size W) (.cells #[.int .u8 (bs.length : Int)] 5)
      refine hK.out _ _ (blk_below hm hb) (fun _ => ?_)
      clear hK K
      refine norm_ ?_ (Ja1b2c3d4 (b1, b2, b3, W.heap.size, g) _ ⟨hB.trans (hb.mono hB.size), blk_below hm hb, hG.fresh _, blk_new W (.cells #[.int .u8 (bs.length : Int)] 5)⟩)
      simp only [putAll, Act.put, List.setIfInBounds_toArray, List.set_cons_zero, List.set_cons_succ]
      try rfl
    refine join_ (σ := Nat × Nat × Nat × Nat × Nat) 8 #[true, true, true, true, true, true, true, true, true, true, true, true, true, true, false, true, true, true, true, false, true, false, false, false, false, false, false] (fun s => [(15, .pointer (some ⟨s.2.2.2.2, 0, none⟩)), (18, .slice (some ⟨s.1, 0, none⟩) 1 1), (19, .pointer (some ⟨s.2.2.2.2, 0, none⟩)), (24, .slice (some ⟨s.2.1, 0, none⟩) 2 2), (25, .pointer (some ⟨s.2.2.2.2, 0, none⟩)), (28, .slice (some ⟨s.2.2.1, 0, none⟩) 1 1), (33, .slice (some ⟨s.2.2.2.1, 0, none⟩) 1 1)]) (fun s W => Below w4.heap.size w4 W ∧ W.heap[w.heap.size]? = some (.cells #[.int .u8 ver, .int .u16 an, .int .u16 hold, .int .u32 id, .slice A l.length c] 41 (0, 0)) ∧ IsF W w4.heap.size s.2.2.2.2 s.2.2.2.1 ⟨((([] : List Int) ++ [ver]) ++ twos [an, hold]), [], 0⟩ ∧ (Kd.int .u32).R 38 W w4.heap.size (fun _ => True) (.slice (some ⟨s.2.2.1, 0, none⟩) 1 1) [id] ∧ W.heap[s.2.2.2.1]? = some (.cells #[.int .u8 (bs.length : Int)] 5 (0, 0))) ?_ (fun Ja1b2c34 => ?_)
    · rintro ⟨b1, b2, b3, b4, g⟩ W ⟨hB, hm, hG, f3, f4⟩
      refine norm_ (a' := ?_) ?_ ?_
      rotate_left
      · simp only [putAll, Act.put, List.setIfInBounds_toArray, List.set_cons_zero, List.set_cons_succ]
        rfl
      refine one_ (i := 14) (N := some 29) #[true, true, true, true, true, true, true, true, true, true, true, true, true, true, true, true, true, true, true, false, true, false, false, false, false, false, false] rfl rfl (one_of HT_.out (by kernel_rfl)) (by decide) (fun K hK => ?_)
      refine goes_ Tryd.func87 (by kernel_rfl) rfl #[.pointer (some ⟨g, 0, none⟩), .slice (some ⟨b3, 0, none⟩) 1 1] (by rfl) rfl rfl (by simp [Act.eval]) ?_
      have H := FFour_calls W w4.heap.size g b4 ⟨((([] : List Int) ++ [ver]) ++ twos [an, hold]), [], 0⟩ hG rfl (some ⟨b3, 0, none⟩) 1 [id] hid (by simp [twos, two, fours, four]; try omega) (fun w' hk => litC (R_kt f3 hk (by decide)))
      rw [bytes0] at H
      refine H.mono ?_
      rintro e W2 ⟨rfl, hG2, hk, hkp⟩
      refine ⟨_, rfl, ?_⟩
      refine hK.out _ _ (blk_kt hm hk (by decide)) (fun _ => ?_)
      clear hK K H
      refine norm_ ?_ (Ja1b2c3d4 (b1, b2, b3, b4, g) _ ⟨below_kt (Nat.le_refl _) hB hk, blk_kt hm hk (by decide), hG2, hkp.trans f4⟩)
      simp only [putAll, Act.put, List.setIfInBounds_toArray, List.set_cons_zero, List.set_cons_succ]
      try rfl
    refine join_ (σ := Nat × Nat × Nat × Nat × Nat) 9 #[true, true, true, true, true, true, true, true, true, true, true, true, true, true, false, true, true, true, false, false, true, false, false, false, false, false, false] (fun s => [(15, .pointer (some ⟨s.2.2.2.2, 0, none⟩)), (18, .slice (some ⟨s.1, 0, none⟩) 1 1), (19, .pointer (some ⟨s.2.2.2.2, 0, none⟩)), (24, .slice (some ⟨s.2.1, 0, none⟩) 2 2), (25, .pointer (some ⟨s.2.2.2.2, 0, none⟩)), (28, .slice (some ⟨s.2.2.1, 0, none⟩) 1 1)]) (fun s W => Below w4.heap.size w4 W ∧ W.heap[w.heap.size]? = some (.cells #[.int .u8 ver, .int .u16 an, .int .u16 hold, .int .u32 id, .slice A l.length c] 41 (0, 0)) ∧ IsF W w4.heap.size s.2.2.2.2 w.heap.size ⟨((([] : List Int) ++ [ver]) ++ twos [an, hold]), [], 0⟩ ∧ (Kd.int .u32).R 38 W w4.heap.size (fun _ => True) (.slice (some ⟨s.2.2.1, 0, none⟩) 1 1) [id]) ?_ (fun Ja1b2c3 => ?_)
    · rintro ⟨b1, b2, b3, b4, g⟩ W ⟨hB, hm, hG, f3⟩
      refine norm_ (a' := ?_) ?_ ?_
      rotate_left
      · simp only [putAll, Act.put, List.setIfInBounds_toArray, List.set_cons_zero, List.set_cons_succ]
        rfl
      refine two_ (i := 14) (j := 18) (Ni := some 29) (Nj := some 33) #[true, true, true, true, true, true, true, true, true, true, true, true, true, true, true, true, true, true, false, false, true, false, false, false, false, false, false] #[true, true, true, true, true, true, true, true, true, true, true, true, true, true, false, true, true, true, true, false, true, false, false, false, false, false, false] rfl rfl  rfl rfl  (two_of HT_.out (by kernel_rfl)) (by decide) (by decide)  (fun K hK => ?_) (fun K hK => ?_) 
      · refine goes_ Tryd.func87 (by kernel_rfl) rfl #[.pointer (some ⟨g, 0, none⟩), .slice (some ⟨b3, 0, none⟩) 1 1] (by rfl) rfl rfl (by simp [Act.eval]) ?_
        have H := FFour_calls W w4.heap.size g w.heap.size ⟨((([] : List Int) ++ [ver]) ++ twos [an, hold]), [], 0⟩ hG rfl (some ⟨b3, 0, none⟩) 1 [id] hid (by simp [twos, two, fours, four]; try omega) (fun w' hk => litC (R_kt f3 hk (by decide)))
        rw [bytes0] at H
        refine H.mono ?_
        rintro e W2 ⟨rfl, hG2, hk, hkp⟩
        refine ⟨_, rfl, ?_⟩
        refine hK.out _ _ (blk_kt hm hk (by decide)) (fun _ => ?_)
        clear hK K H
        refine norm_ ?_ (Ja1b2c3d (b1, b2, b3, b4, g) _ ⟨below_kt (Nat.le_refl _) hB hk, blk_kt hm hk (by decide), hG2⟩)
        simp only [putAll, Act.put, List.setIfInBounds_toArray, List.set_cons_zero, List.set_cons_succ]
        try rfl
      · refine value_ (w1 := ?_) (v := ?_) (by rfl) rfl ?_ ?_
        rotate_left 2
        · go_simp
          constructor
          · rfl
          · rfl
        have hb := below_alloc (Below.refl W.heap.size W) (.cells #[.int .u8 (bs.length : Int)] 5)
        refine hK.out _ _ (blk_below hm hb) (fun _ => ?_)
        clear hK K
        refine norm_ ?_ (Ja1b2c34 (b1, b2, b3, W.heap.size, g) _ ⟨hB.trans (hb.mono hB.size), blk_below hm hb, hG.fresh _, Kd.R_below f3 hb, blk_new W (.cells #[.int .u8 (bs.length : Int)] 5)⟩)
        simp only [putAll, Act.put, List.setIfInBounds_toArray, List.set_cons_zero, List.set_cons_succ]
        try rfl
    refine join_ (σ := Nat × Nat × Nat × Nat × Nat) 9 #[true, true, true, true, true, true, true, true, true, true, true, true, true, false, false, true, true, true, true, false, true, false, false, false, false, false, false] (fun s => [(15, .pointer (some ⟨s.2.2.2.2, 0, none⟩)), (18, .slice (some ⟨s.1, 0, none⟩) 1 1), (19, .pointer (some ⟨s.2.2.2.2, 0, none⟩)), (24, .slice (some ⟨s.2.1, 0, none⟩) 2 2), (25, .pointer (some ⟨s.2.2.2.2, 0, none⟩)), (33, .slice (some ⟨s.2.2.2.1, 0, none⟩) 1 1)]) (fun s W => Below w4.heap.size w4 W ∧ W.heap[w.heap.size]? = some (.cells #[.int .u8 ver, .int .u16 an, .int .u16 hold, .int .u32 id, .slice A l.length c] 41 (0, 0)) ∧ IsF W w4.heap.size s.2.2.2.2 s.2.2.2.1 ⟨((([] : List Int) ++ [ver]) ++ twos [an, hold]), [], 0⟩ ∧ W.heap[s.2.2.2.1]? = some (.cells #[.int .u8 (bs.length : Int)] 5 (0, 0))) ?_ (fun Ja1b2c4 => ?_)
    · rintro ⟨b1, b2, b3, b4, g⟩ W ⟨hB, hm, hG, f4⟩
      refine norm_ (a' := ?_) ?_ ?_
      rotate_left
      · simp only [putAll, Act.put, List.setIfInBounds_toArray, List.set_cons_zero, List.set_cons_succ]
        rfl
      refine one_ (i := 13) (N := some 28) #[true, true, true, true, true, true, true, true, true, true, true, true, true, true, false, true, true, true, true, false, true, false, false, false, false, false, false] rfl rfl (one_of HT_.out (by kernel_rfl)) (by decide) (fun K hK => ?_)
      refine value_ (w1 := ?_) (v := ?_) (by rfl) rfl ?_ ?_
      rotate_left 2
      · go_simp
        constructor
        · rfl
        · rfl
      have hb := below_alloc (Below.refl W.heap.size W) (.cells #[.int .u32 id] 38)
      refine hK.out _ _ (blk_below hm hb) (fun _ => ?_)
      clear hK K
      refine norm_ ?_ (Ja1b2c34 (b1, b2, W.heap.size, b4, g) _ ⟨hB.trans (hb.mono hB.size), blk_below hm hb, hG.below hb, Kd.R_lower (litR W 38 .u32 [id] (by simp)) hB.size, blk_below f4 hb⟩)
      simp only [putAll, Act.put, List.setIfInBounds_toArray, List.set_cons_zero, List.set_cons_succ]
      try rfl
    refine join_ (σ := Nat × Nat × Nat × Nat × Nat) 9 #[true, true, true, true, true, true, true, true, true, true, false, true, true, true, false, true, true, true, true, false, true, false, false, false, false, false, false] (fun s => [(15, .pointer (some ⟨s.2.2.2.2, 0, none⟩)), (18, .slice (some ⟨s.1, 0, none⟩) 1 1), (19, .pointer (some ⟨s.2.2.2.2, 0, none⟩)), (24, .slice (some ⟨s.2.1, 0, none⟩) 2 2), (28, .slice (some ⟨s.2.2.1, 0, none⟩) 1 1), (33, .slice (some ⟨s.2.2.2.1, 0, none⟩) 1 1)]) (fun s W => Below w4.heap.size w4 W ∧ W.heap[w.heap.size]? = some (.cells #[.int .u8 ver, .int .u16 an, .int .u16 hold, .int .u32 id, .slice A l.length c] 41 (0, 0)) ∧ IsF W w4.heap.size s.2.2.2.2 s.2.2.2.1 ⟨(([] : List Int) ++ [ver]), [], 0⟩ ∧ (Kd.int .u16).R 37 W w4.heap.size (fun _ => True) (.slice (some ⟨s.2.1, 0, none⟩) 2 2) [an, hold] ∧ (Kd.int .u32).R 38 W w4.heap.size (fun _ => True) (.slice (some ⟨s.2.2.1, 0, none⟩) 1 1) [id] ∧ W.heap[s.2.2.2.1]? = some (.cells #[.int .u8 (bs.length : Int)] 5 (0, 0))) ?_ (fun Ja1b234 => ?_)
    · rintro ⟨b1, b2, b3, b4, g⟩ W ⟨hB, hm, hG, f2, f3, f4⟩
      refine norm_ (a' := ?_) ?_ ?_
      rotate_left
      · simp only [putAll, Act.put, List.setIfInBounds_toArray, List.set_cons_zero, List.set_cons_succ]
        rfl
      refine one_ (i := 10) (N := some 25) #[true, true, true, true, true, true, true, true, true, true, true, true, true, true, false, true, true, true, true, false, true, false, false, false, false, false, false] rfl rfl (one_of HT_.out (by kernel_rfl)) (by decide) (fun K hK => ?_)
      refine goes_ Tryd.func86 (by kernel_rfl) rfl #[.pointer (some ⟨g, 0, none⟩), .slice (some ⟨b2, 0, none⟩) 2 2] (by rfl) rfl rfl (by simp [Act.eval]) ?_
      have H := FTwo_calls W w4.heap.size g b4 ⟨(([] : List Int) ++ [ver]), [], 0⟩ hG rfl (some ⟨b2, 0, none⟩) 2 [an, hold] han (by simp [twos, two, fours, four]; try omega) (fun w' hk => litC (R_kt f2 hk (by decide)))
      rw [bytes0] at H
      refine H.mono ?_
      rintro e W2 ⟨rfl, hG2, hk, hkp⟩
      refine ⟨_, rfl, ?_⟩
      refine hK.out _ _ (blk_kt hm hk (by decide)) (fun _ => ?_)
      clear hK K H
      refine norm_ ?_ (Ja1b2c34 (b1, b2, b3, b4, g) _ ⟨below_kt (Nat.le_refl _) hB hk, blk_kt hm hk (by decide), hG2, R_kt f3 hk (by decide), hkp.trans f4⟩)
      simp only [putAll, Act.put, List.setIfInBounds_toArray, List.set_cons_zero, List.set_cons_succ]
      try rfl
    refine join_ (σ := Nat × Nat × Nat × Nat × Nat) 10 #[true, true, true, true, true, true, true, true, true, true, true, true, true, false, false, true, true, true, false, false, true, false, false, false, false, false, false] (fun s => [(15, .pointer (some ⟨s.2.2.2.2, 0, none⟩)), (18, .slice (some ⟨s.1, 0, none⟩) 1 1), (19, .pointer (some ⟨s.2.2.2.2, 0, none⟩)), (24, .slice (some ⟨s.2.1, 0, none⟩) 2 2), (25, .pointer (some ⟨s.2.2.2.2, 0, none⟩))]) (fun s W => Below w4.heap.size w4 W ∧ W.heap[w.heap.size]? = some (.cells #[.int .u8 ver, .int .u16 an, .int .u16 hold, .int .u32 id, .slice A l.length c] 41 (0, 0)) ∧ IsF W w4.heap.size s.2.2.2.2 w.heap.size ⟨((([] : List Int) ++ [ver]) ++ twos [an, hold]), [], 0⟩) ?_ (fun Ja1b2c => ?_)
    · rintro ⟨b1, b2, b3, b4, g⟩ W ⟨hB, hm, hG⟩
      refine norm_ (a' := ?_) ?_ ?_
      rotate_left
      · simp only [putAll, Act.put, List.setIfInBounds_toArray, List.set_cons_zero, List.set_cons_succ]
        rfl
      refine two_ (i := 13) (j := 18) (Ni := some 28) (Nj := some 33) #[true, true, true, true, true, true, true, true, true, true, true, true, true, true, false, true, true, true, false, false, true, false, false, false, false, false, false] #[true, true, true, true, true, true, true, true, true, true, true, true, true, false, false, true, true, true, true, false, true, false, false, false, false, false, false] rfl rfl  rfl rfl  (two_of HT_.out (by kernel_rfl)) (by decide) (by decide)  (fun K hK => ?_) (fun K hK => ?_) 
      · refine value_ (w1 := ?_) (v := ?_) (by rfl) rfl ?_ ?_
        rotate_left 2
        · go_simp
          constructor
          · rfl
          · rfl
        have hb := below_alloc (Below.refl W.heap.size W) (.cells #[.int .u32 id] 38)
        refine hK.out _ _ (blk_below hm hb) (fun _ => ?_)
        clear hK K
        refine norm_ ?_ (Ja1b2c3 (b1, b2, W.heap.size, b4, g) _ ⟨hB.trans (hb.mono hB.size), blk_below hm hb, hG.below hb, Kd.R_lower (litR W 38 .u32 [id] (by simp)) hB.size⟩)
        simp only [putAll, Act.put, List.setIfInBounds_toArray, List.set_cons_zero, List.set_cons_succ]
        try rfl
      · refine value_ (w1 := ?_) (v := ?_) (by rfl) rfl ?_ ?_
        rotate_left 2
        · go_simp
          constructor
          · rfl
          · rfl
        have hb := below_alloc (Below.refl W.heap.size W) (.cells #[.int .u8 (bs.length : Int)] 5)
        refine hK.out _ _ (blk_below hm hb) (fun _ => ?_)
        clear hK K
        refine norm_ ?_ (Ja1b2c4 (b1, b2, b3, W.heap.size, g) _ ⟨hB.trans (hb.mono hB.size), blk_below hm hb, hG.fresh _, blk_new W (.cells #[.int .u8 (bs.length : Int)] 5)⟩)
        simp only [putAll, Act.put, List.setIfInBounds_toArray, List.set_cons_zero, List.set_cons_succ]
        try rfl
    refine join_ (σ := Nat × Nat × Nat × Nat × Nat) 10 #[true, true, true, true, true, true, true, true, true, true, false, true, true, true, false, true, true, true, false, false, true, false, false, false, false, false, false] (fun s => [(15, .pointer (some ⟨s.2.2.2.2, 0, none⟩)), (18, .slice (some ⟨s.1, 0, none⟩) 1 1), (19, .pointer (some ⟨s.2.2.2.2, 0, none⟩)), (24, .slice (some ⟨s.2.1, 0, none⟩) 2 2), (28, .slice (some ⟨s.2.2.1, 0, none⟩) 1 1)]) (fun s W => Below w4.heap.size w4 W ∧ W.heap[w.heap.size]? = some (.cells #[.int .u8 ver, .int .u16 an, .int .u16 hold, .int .u32 id, .slice A l.length c] 41 (0, 0)) ∧ IsF W w4.heap.size s.2.2.2.2 w.heap.size ⟨(([] : List Int) ++ [ver]), [], 0⟩ ∧ (Kd.int .u16).R 37 W w4.heap.size (fun _ => True) (.slice (some ⟨s.2.1, 0, none⟩) 2 2) [an, hold] ∧ (Kd.int .u32).R 38 W w4.heap.size (fun _ => True) (.slice (some ⟨s.2.2.1, 0, none⟩) 1 1) [id]) ?_ (fun Ja1b23 => ?_)
    · rintro ⟨b1, b2, b3, b4, g⟩ W ⟨hB, hm, hG, f2, f3⟩
      refine norm_ (a' := ?_) ?_ ?_
      rotate_left
      · simp only [putAll, Act.put, List.setIfInBounds_toArray, List.set_cons_zero, List.set_cons_succ]
        rfl
      refine two_ (i := 10) (j := 18) (Ni := some 25) (Nj := some 33) #[true, true, true, true, true, true, true, true, true, true, true, true, true, true, false, true, true, true, false, false, true, false, false, false, false, false, false] #[true, true, true, true, true, true, true, true, true, true, false, true, true, true, false, true, true, true, true, false, true, false, false, false, false, false, false] rfl rfl  rfl rfl  (two_of HT_.out (by kernel_rfl)) (by decide) (by decide)  (fun K hK => ?_) (fun K hK => ?_) 
      · refine goes_ Tryd.func86 (by kernel_rfl) rfl #[.pointer (some ⟨g, 0, none⟩), .slice (some ⟨b2, 0, none⟩) 2 2] (by rfl) rfl rfl (by simp [Act.eval]) ?_
        have H := FTwo_calls W w4.heap.size g w.heap.size ⟨(([] : List Int) ++ [ver]), [], 0⟩ hG rfl (some ⟨b2, 0, none⟩) 2 [an, hold] han (by simp [twos, two, fours, four]; try omega) (fun w' hk => litC (R_kt f2 hk (by decide)))
        rw [bytes0] at H
        refine H.mono ?_
        rintro e W2 ⟨rfl, hG2, hk, hkp⟩
        refine ⟨_, rfl, ?_⟩
        refine hK.out _ _ (blk_kt hm hk (by decide)) (fun _ => ?_)
        clear hK K H
        refine norm_ ?_ (Ja1b2c3 (b1, b2, b3, b4, g) _ ⟨below_kt (Nat.le_refl _) hB hk, blk_kt hm hk (by decide), hG2, R_kt f3 hk (by decide)⟩)
        simp only [putAll, Act.put, List.setIfInBounds_toArray, List.set_cons_zero, List.set_cons_succ]
        try rfl
      · refine value_ (w1 := ?_) (v := ?_) (by rfl) rfl ?_ ?_
        rotate_left 2
        · go_simp
          constructor
          · rfl
          · rfl
        have hb := below_alloc (Below.refl W.heap.size W) (.cells #[.int .u8 (bs.length : Int)] 5)
        refine hK.out _ _ (blk_below hm hb) (fun _ => ?_)
        clear hK K
        refine norm_ ?_ (Ja1b234 (b1, b2, b3, W.heap.size, g) _ ⟨hB.trans (hb.mono hB.size), blk_below hm hb, hG.fresh _, Kd.R_below f2 hb, Kd.R_below f3 hb, blk_new W (.cells #[.int .u8 (bs.length : Int)] 5)⟩)
        simp only [putAll, Act.put, List.setIfInBounds_toArray, List.set_cons_zero, List.set_cons_succ]
        try rfl
    refine join_ (σ := Nat × Nat × Nat × Nat × Nat) 10 #[true, true, true, true, true, true, true, true, true, true, false, true, true, false, false, true, true, true, true, false, true, false, false, false, false, false, false] (fun s => [(15, .pointer (some ⟨s.2.2.2.2, 0, none⟩)), (18, .slice (some ⟨s.1, 0, none⟩) 1 1), (19, .pointer (some ⟨s.2.2.2.2, 0, none⟩)), (24, .slice (some ⟨s.2.1, 0, none⟩) 2 2), (33, .slice (some ⟨s.2.2.2.1, 0, none⟩) 1 1)]) (fun s W => Below w4.heap.size w4 W ∧ W.heap[w.heap.size]? = some (.cells #[.int .u8 ver, .int .u16 an, .int .u16 hold, .int .u32 id, .slice A l.length c] 41 (0, 0)) ∧ IsF W w4.heap.size s.2.2.2.2 s.2.2.2.1 ⟨(([] : List Int) ++ [ver]), [], 0⟩ ∧ (Kd.int .u16).R 37 W w4.heap.size (fun _ => True) (.slice (some ⟨s.2.1, 0, none⟩) 2 2) [an, hold] ∧ W.heap[s.2.2.2.1]? = some (.cells #[.int .u8 (bs.length : Int)] 5 (0, 0))) ?_ (fun Ja1b24 => ?_)
    · rintro ⟨b1, b2, b3, b4, g⟩ W ⟨hB, hm, hG, f2, f4⟩
      refine norm_ (a' := ?_) ?_ ?_
      rotate_left
      · simp only [putAll, Act.put, List.setIfInBounds_toArray, List.set_cons_zero, List.set_cons_succ]
        rfl
      refine two_ (i := 10) (j := 13) (Ni := some 25) (Nj := some 28) #[true, true, true, true, true, true, true, true, true, true, true, true, true, false, false, true, true, true, true, false, true, false, false, false, false, false, false] #[true, true, true, true, true, true, true, true, true, true, false, true, true, true, false, true, true, true, true, false, true, false, false, false, false, false, false] rfl rfl  rfl rfl  (two_of HT_.out (by kernel_rfl)) (by decide) (by decide)  (fun K hK => ?_) (fun K hK => ?_) 
      · refine goes_ Tryd.func86 (by kernel_rfl) rfl #[.pointer (some ⟨g, 0, none⟩), .slice (some ⟨b2, 0, none⟩) 2 2] (by rfl) rfl rfl (by simp [Act.eval]) ?_
        have H := FTwo_calls W w4.heap.size g b4 ⟨(([] : List Int) ++ [ver]), [], 0⟩ hG rfl (some ⟨b2, 0, none⟩) 2 [an, hold] han (by simp [twos, two, fours, four]; try omega) (fun w' hk => litC (R_kt f2 hk (by decide)))
        rw [bytes0] at H
        refine H.mono ?_
        rintro e W2 ⟨rfl, hG2, hk, hkp⟩
        refine ⟨_, rfl, ?_⟩
        refine hK.out _ _ (blk_kt hm hk (by decide)) (fun _ => ?_)
        clear hK K H
        refine norm_ ?_ (Ja1b2c4 (b1, b2, b3, b4, g) _ ⟨below_kt (Nat.le_refl _) hB hk, blk_kt hm hk (by decide), hG2, hkp.trans f4⟩)
        simp only [putAll, Act.put, List.setIfInBounds_toArray, List.set_cons_zero, List.set_cons_succ]
        try rfl
      · refine value_ (w1 := ?_) (v := ?_) (by rfl) rfl ?_ ?_
        rotate_left 2
        · go_simp
          constructor
          · rfl
          · rfl
        have hb := below_alloc (Below.refl W.heap.size W) (.cells #[.int .u32 id] 38)
        refine hK.out _ _ (blk_below hm hb) (fun _ => ?_)
        clear hK K
        refine norm_ ?_ (Ja1b234 (b1, b2, W.heap.size, b4, g) _ ⟨hB.trans (hb.mono hB.size), blk_below hm hb, hG.below hb, Kd.R_below f2 hb, Kd.R_lower (litR W 38 .u32 [id] (by simp)) hB.size, blk_below f4 hb⟩)
        simp only [putAll, Act.put, List.setIfInBounds_toArray, List.set_cons_zero, List.set_cons_succ]
        try rfl
    refine join_ (σ := Nat × Nat × Nat × Nat × Nat) 10 #[true, true, true, true, true, true, true, true, true, false, false, true, true, true, false, true, true, true, true, false, true, false, false, false, false, false, false] (fun s => [(15, .pointer (some ⟨s.2.2.2.2, 0, none⟩)), (18, .slice (some ⟨s.1, 0, none⟩) 1 1), (19, .pointer (some ⟨s.2.2.2.2, 0, none⟩)), (28, .slice (some ⟨s.2.2.1, 0, none⟩) 1 1), (33, .slice (some ⟨s.2.2.2.1, 0, none⟩) 1 1)]) (fun s W => Below w4.heap.size w4 W ∧ W.heap[w.heap.size]? = some (.cells #[.int .u8 ver, .int .u16 an, .int .u16 hold, .int .u32 id, .slice A l.length c] 41 (0, 0)) ∧ IsF W w4.heap.size s.2.2.2.2 s.2.2.2.1 ⟨(([] : List Int) ++ [ver]), [], 0⟩ ∧ (Kd.int .u32).R 38 W w4.heap.size (fun _ => True) (.slice (some ⟨s.2.2.1, 0, none⟩) 1 1) [id] ∧ W.heap[s.2.2.2.1]? = some (.cells #[.int .u8 (bs.length : Int)] 5 (0, 0))) ?_ (fun Ja1b34 => ?_)
    · rintro ⟨b1, b2, b3, b4, g⟩ W ⟨hB, hm, hG, f3, f4⟩
      refine norm_ (a' := ?_) ?_ ?_
      rotate_left
      · simp only [putAll, Act.put, List.setIfInBounds_toArray, List.set_cons_zero, List.set_cons_succ]
        rfl
      refine one_ (i := 9) (N := some 24) #[true, true, true, true, true, true, true, true, true, true, false, true, true, true, false, true, true, true, true, false, true, false, false, false, false, false, false] rfl rfl (one_of HT_.out (by kernel_rfl)) (by decide) (fun K hK => ?_)
      refine value_ (w1 := ?_) (v := ?_) (by rfl) rfl ?_ ?_
      rotate_left 2
      · go_simp
        constructor
        · rfl
        · rfl
      have hb := below_alloc (Below.refl W.heap.size W) (.cells #[.int .u16 an, .int .u16 hold] 37)
      refine hK.out _ _ (blk_below hm hb) (fun _ => ?_)
      clear hK K
      refine norm_ ?_ (Ja1b234 (b1, W.heap.size, b3, b4, g) _ ⟨hB.trans (hb.mono hB.size), blk_below hm hb, hG.below hb, Kd.R_lower (litR W 37 .u16 [an, hold] (by simp)) hB.size, Kd.R_below f3 hb, blk_below f4 hb⟩)
      simp only [putAll, Act.put, List.setIfInBounds_toArray, List.set_cons_zero, List.set_cons_succ]
      try rfl
    refine join_ (σ := Nat × Nat × Nat × Nat × Nat) 10 #[true, true, true, true, false, true, true, true, true, true, false, true, true, true, false, true, true, true, true, false, true, false, false, false, false, false, false] (fun s => [(15, .pointer (some ⟨s.2.2.2.2, 0, none⟩)), (18, .slice (some ⟨s.1, 0, none⟩) 1 1), (24, .slice (some ⟨s.2.1, 0, none⟩) 2 2), (28, .slice (some ⟨s.2.2.1, 0, none⟩) 1 1), (33, .slice (some ⟨s.2.2.2.1, 0, none⟩) 1 1)]) (fun s W => Below w4.heap.size w4 W ∧ W.heap[w.heap.size]? = some (.cells #[.int .u8 ver, .int .u16 an, .int .u16 hold, .int .u32 id, .slice A l.length c] 41 (0, 0)) ∧ IsF W w4.heap.size s.2.2.2.2 s.2.2.2.1 ⟨([] : List Int), [], 0⟩ ∧ (Kd.int .u8).C W (some ⟨s.1, 0, none⟩) 1 [ver] ∧ (Kd.int .u16).R 37 W w4.heap.size (fun _ => True) (.slice (some ⟨s.2.1, 0, none⟩) 2 2) [an, hold] ∧ (Kd.int .u32).R 38 W w4.heap.size (fun _ => True) (.slice (some ⟨s.2.2.1, 0, none⟩) 1 1) [id] ∧ W.heap[s.2.2.2.1]? = some (.cells #[.int .u8 (bs.length : Int)] 5 (0, 0))) ?_ (fun Ja1234 => ?_)
    · rintro ⟨b1, b2, b3, b4, g⟩ W ⟨hB, hm, hG, f1, f2, f3, f4⟩
      refine norm_ (a' := ?_) ?_ ?_
      rotate_left
      · simp only [putAll, Act.put, List.setIfInBounds_toArray, List.set_cons_zero, List.set_cons_succ]
        rfl
      refine one_ (i := 4) (N := some 19) #[true, true, true, true, true, true, true, true, true, true, false, true, true, true, false, true, true, true, true, false, true, false, false, false, false, false, false] rfl rfl (one_of HT_.out (by kernel_rfl)) (by decide) (fun K hK => ?_)
      refine goes_ Tryd.func76 (by kernel_rfl) rfl #[.pointer (some ⟨g, 0, none⟩), .slice (some ⟨b1, 0, none⟩) 1 1] (by rfl) rfl rfl (by simp [Act.eval]) ?_
      have H := FByte_calls W w4.heap.size g b4 ⟨([] : List Int), [], 0⟩ hG rfl (some ⟨b1, 0, none⟩) 1 [ver] f1 (by simp [twos, two, fours, four]; try omega)
      rw [bytes0] at H
      refine H.mono ?_
      rintro e W2 ⟨rfl, hG2, hk, hkp⟩
      refine ⟨_, rfl, ?_⟩
      refine hK.out _ _ (blk_kt hm hk (by decide)) (fun _ => ?_)
      clear hK K H
      refine norm_ ?_ (Ja1b234 (b1, b2, b3, b4, g) _ ⟨below_kt (Nat.le_refl _) hB hk, blk_kt hm hk (by decide), hG2, R_kt f2 hk (by decide), R_kt f3 hk (by decide), hkp.trans f4⟩)
      simp only [putAll, Act.put, List.setIfInBounds_toArray, List.set_cons_zero, List.set_cons_succ]
      try rfl
    refine join_ (σ := Nat × Nat × Nat × Nat × Nat) 11 #[true, true, true, true, true, true, true, true, true, true, false, true, true, false, false, true, true, true, false, false, true, false, false, false, false, false, false] (fun s => [(15, .pointer (some ⟨s.2.2.2.2, 0, none⟩)), (18, .slice (some ⟨s.1, 0, none⟩) 1 1), (19, .pointer (some ⟨s.2.2.2.2, 0, none⟩)), (24, .slice (some ⟨s.2.1, 0, none⟩) 2 2)]) (fun s W => Below w4.heap.size w4 W ∧ W.heap[w.heap.size]? = some (.cells #[.int .u8 ver, .int .u16 an, .int .u16 hold, .int .u32 id, .slice A l.length c] 41 (0, 0)) ∧ IsF W w4.heap.size s.2.2.2.2 w.heap.size ⟨(([] : List Int) ++ [ver]), [], 0⟩ ∧ (Kd.int .u16).R 37 W w4.heap.size (fun _ => True) (.slice (some ⟨s.2.1, 0, none⟩) 2 2) [an, hold]) ?_ (fun Ja1b2 => ?_)
    · rintro ⟨b1, b2, b3, b4, g⟩ W ⟨hB, hm, hG, f2⟩
      refine norm_ (a' := ?_) ?_ ?_
      rotate_left
      · simp only [putAll, Act.put, List.setIfInBounds_toArray, List.set_cons_zero, List.set_cons_succ]
        rfl
      refine three_ (i := 10) (j := 13) (k := 18) (Ni := some 25) (Nj := some 28) (Nk := some 33) #[true, true, true, true, true, true, true, true, true, true, true, true, true, false, false, true, true, true, false, false, true, false, false, false, false, false, false] #[true, true, true, true, true, true, true, true, true, true, false, true, true, true, false, true, true, true, false, false, true, false, false, false, false, false, false] #[true, true, true, true, true, true, true, true, true, true, false, true, true, false, false, true, true, true, true, false, true, false, false, false, false, false, false] rfl rfl rfl  rfl rfl rfl  (three_of HT_.out (by kernel_rfl)) (by decide) (by decide) (by decide)  (fun K hK => ?_) (fun K hK => ?_) (fun K hK => ?_) 
      · refine goes_ Tryd.func86 (by kernel_rfl) rfl #[.pointer (some ⟨g, 0, none⟩), .slice (some ⟨b2, 0, none⟩) 2 2] (by rfl) rfl rfl (by simp [Act.eval]) ?_
        have H := FTwo_calls W w4.heap.size g w.heap.size ⟨(([] : List Int) ++ [ver]), [], 0⟩ hG rfl (some ⟨b2, 0, none⟩) 2 [an, hold] han (by simp [twos, two, fours, four]; try omega) (fun w' hk => litC (R_kt f2 hk (by decide)))
        rw [bytes0] at H
        refine H.mono ?_
        rintro e W2 ⟨rfl, hG2, hk, hkp⟩
        refine ⟨_, rfl, ?_⟩
        refine hK.out _ _ (blk_kt hm hk (by decide)) (fun _ => ?_)
        clear hK K H
        refine norm_ ?_ (Ja1b2c (b1, b2, b3, b4, g) _ ⟨below_kt (Nat.le_refl _) hB hk, blk_kt hm hk (by decide), hG2⟩)
        simp only [putAll, Act.put, List.setIfInBounds_toArray, List.set_cons_zero, List.set_cons_succ]
        try rfl
      · refine value_ (w1 := ?_) (v := ?_) (by rfl) rfl ?_ ?_
        rotate_left 2
        · go_simp
          constructor
          · rfl
          · rfl
        have hb := below_alloc (Below.refl W.heap.size W) (.cells #[.int .u32 id] 38)
        refine hK.out _ _ (blk_below hm hb) (fun _ => ?_)
        clear hK K
        refine norm_ ?_ (Ja1b23 (b1, b2, W.heap.size, b4, g) _ ⟨hB.trans (hb.mono hB.size), blk_below hm hb, hG.below hb, Kd.R_below f2 hb, Kd.R_lower (litR W 38 .u32 [id] (by simp)) hB.size⟩)
        simp only [putAll, Act.put, List.setIfInBounds_toArray, List.set_cons_zero, List.set_cons_succ]
        try rfl
      · refine value_ (w1 := ?_) (v := ?_) (by rfl) rfl ?_ ?_
        rotate_left 2
        · go_simp
          constructor
          · rfl
          · rfl
        have hb := below_alloc (Below.refl W.heap.size W) (.cells #[.int .u8 (bs.length : Int)] 5)
        refine hK.out _ _ (blk_below hm hb) (fun _ => ?_)
        clear hK K
        refine norm_ ?_ (Ja1b24 (b1, b2, b3, W.heap.size, g) _ ⟨hB.trans (hb.mono hB.size), blk_below hm hb, hG.fresh _, Kd.R_below f2 hb, blk_new W (.cells #[.int .u8 (bs.length : Int)] 5)⟩)
        simp only [putAll, Act.put, List.setIfInBounds_toArray, List.set_cons_zero, List.set_cons_succ]
        try rfl
    refine join_ (σ := Nat × Nat × Nat × Nat × Nat) 11 #[true, true, true, true, true, true, true, true, true, false, false, true, true, true, false, true, true, true, false, false, true, false, false, false, false, false, false] (fun s => [(15, .pointer (some ⟨s.2.2.2.2, 0, none⟩)), (18, .slice (some ⟨s.1, 0, none⟩) 1 1), (19, .pointer (some ⟨s.2.2.2.2, 0, none⟩)), (28, .slice (some ⟨s.2.2.1, 0, none⟩) 1 1)]) (fun s W => Below w4.heap.size w4 W ∧ W.heap[w.heap.size]? = some (.cells #[.int .u8 ver, .int .u16 an, .int .u16 hold, .int .u32 id, .slice A l.length c] 41 (0, 0)) ∧ IsF W w4.heap.size s.2.2.2.2 w.heap.size ⟨(([] : List Int) ++ [ver]), [], 0⟩ ∧ (Kd.int .u32).R 38 W w4.heap.size (fun _ => True) (.slice (some ⟨s.2.2.1, 0, none⟩) 1 1) [id]) ?_ (fun Ja1b3 => ?_)
    · rintro ⟨b1, b2, b3, b4, g⟩ W ⟨hB, hm, hG, f3⟩
      refine norm_ (a' := ?_) ?_ ?_
      rotate_left
      · simp only [putAll, Act.put, List.setIfInBounds_toArray, List.set_cons_zero, List.set_cons_succ]
        rfl
      refine two_ (i := 9) (j := 18) (Ni := some 24) (Nj := some 33) #[true, true, true, true, true, true, true, true, true, true, false, true, true, true, false, true, true, true, false, false, true, false, false, false, false, false, false] #[true, true, true, true, true, true, true, true, true, false, false, true, true, true, false, true, true, true, true, false, true, false, false, false, false, false, false] rfl rfl  rfl rfl  (two_of HT_.out (by kernel_rfl)) (by decide) (by decide)  (fun K hK => ?_) (fun K hK => ?_) 
      · refine value_ (w1 := ?_) (v := ?_) (by rfl) rfl ?_ ?_
        rotate_left 2
        · go_simp
          constructor
          · rfl
          · rfl
        have hb := below_alloc (Below.refl W.heap.size W) (.cells #[.int .u16 an, .int .u16 hold] 37)
        refine hK.out _ _ (blk_below hm hb) (fun _ => ?_)
        clear hK K
        refine norm_ ?_ (Ja1b23 (b1, W.heap.size, b3, b4, g) _ ⟨hB.trans (hb.mono hB.size), blk_below hm hb, hG.below hb, Kd.R_lower (litR W 37 .u16 [an, hold] (by simp)) hB.size, Kd.R_below f3 hb⟩)
        simp only [putAll, Act.put, List.setIfInBounds_toArray, List.set_cons_zero, List.set_cons_succ]
        try rfl
      · refine value_ (w1 := ?_) (v := ?_) (by rfl) rfl ?_ ?_
        rotate_left 2
        · go_simp
          constructor
          · rfl
          · rfl
        have hb := below_alloc (Below.refl W.heap.size W) (.cells #[.int .u8 (bs.length : Int)] 5)
        refine hK.out _ _ (blk_below hm hb) (fun _ => ?_)
        clear hK K
        refine norm_ ?_ (Ja1b34 (b1, b2, b3, W.heap.size, g) _ ⟨hB.trans (hb.mono hB.size), blk_below hm hb, hG.fresh _, Kd.R_below f3 hb, blk_new W (.cells #[.int .u8 (bs.length : Int)] 5)⟩)
        simp only [putAll, Act.put, List.setIfInBounds_toArray, List.set_cons_zero, List.set_cons_succ]
        try rfl
    refine join_ (σ := Nat × Nat × Nat × Nat × Nat) 11 #[true, true, true, true, true, true, true, true, true, false, false, true, true, false, false, true, true, true, true, false, true, false, false, false, false, false, false] (fun s => [(15, .pointer (some ⟨s.2.2.2.2, 0, none⟩)), (18, .slice (some ⟨s.1, 0, none⟩) 1 1), (19, .pointer (some ⟨s.2.2.2.2, 0, none⟩)), (33, .slice (some ⟨s.2.2.2.1, 0, none⟩) 1 1)]) (fun s W => Below w4.heap.size w4 W ∧ W.heap[w.heap.size]? = some (.cells #[.int .u8 ver, .int .u16 an, .int .u16 hold, .int .u32 id, .slice A l.length c] 41 (0, 0)) ∧ IsF W w4.heap.size s.2.2.2.2 s.2.2.2.1 ⟨(([] : List Int) ++ [ver]), [], 0⟩ ∧ W.heap[s.2.2.2.1]? = some (.cells #[.int .u8 (bs.length : Int)] 5 (0, 0))) ?_ (fun Ja1b4 => ?_)
    · rintro ⟨b1, b2, b3, b4, g⟩ W ⟨hB, hm, hG, f4⟩
      refine norm_ (a' := ?_) ?_ ?_
      rotate_left
      · simp only [putAll, Act.put, List.setIfInBounds_toArray, List.set_cons_zero, List.set_cons_succ]
        rfl
      refine two_ (i := 9) (j := 13) (Ni := some 24) (Nj := some 28) #[true, true, true, true, true, true, true, true, true, true, false, true, true, false, false, true, true, true, true, false, true, false, false, false, false, false, false] #[true, true, true, true, true, true, true, true, true, false, false, true, true, true, false, true, true, true, true, false, true, false, false, false, false, false, false] rfl rfl  rfl rfl  (two_of HT_.out (by kernel_rfl)) (by decide) (by decide)  (fun K hK => ?_) (fun K hK => ?_) 
      · refine value_ (w1 := ?_) (v := ?_) (by rfl) rfl ?_ ?_
        rotate_left 2
        · go_simp
          constructor
          · rfl
          · rfl
        have hb := below_alloc (Below.refl W.heap.size W) (.cells #[.int .u16 an, .int .u16 hold] 37)
        refine hK.out _ _ (blk_below hm hb) (fun _ => ?_)
        clear hK K
        refine norm_ ?_ (Ja1b24 (b1, W.heap.size, b3, b4, g) _ ⟨hB.trans (hb.mono hB.size), blk_below hm hb, hG.below hb, Kd.R_lower (litR W 37 .u16 [an, hold] (by simp)) hB.size, blk_below f4 hb⟩)
        simp only [putAll, Act.put, List.setIfInBounds_toArray, List.set_cons_zero, List.set_cons_succ]
        try rfl
      · refine value_ (w1 := ?_) (v := ?_) (by rfl) rfl ?_ ?_
        rotate_left 2
        · go_simp
          constructor
          · rfl
          · rfl
        have hb := below_alloc (Below.refl W.heap.size W) (.cells #[.int .u32 id] 38)
        refine hK.out _ _ (blk_below hm hb) (fun _ => ?_)
        clear hK K
        refine norm_ ?_ (Ja1b34 (b1, b2, W.heap.size, b4, g) _ ⟨hB.trans (hb.mono hB.size), blk_below hm hb, hG.below hb, Kd.R_lower (litR W 38 .u32 [id] (by simp)) hB.size, blk_below f4 hb⟩)
        simp only [putAll, Act.put, List.setIfInBounds_toArray, List.set_cons_zero, List.set_cons_succ]
        try rfl
    refine join_ (σ := Nat × Nat × Nat × Nat × Nat) 11 #[true, true, true, true, false, true, true, true, true, true, false, true, true, true, false, true, true, true, false, false, true, false, false, false, false, false, false] (fun s => [(15, .pointer (some ⟨s.2.2.2.2, 0, none⟩)), (18, .slice (some ⟨s.1, 0, none⟩) 1 1), (24, .slice (some ⟨s.2.1, 0, none⟩) 2 2), (28, .slice (some ⟨s.2.2.1, 0, none⟩) 1 1)]) (fun s W => Below w4.heap.size w4 W ∧ W.heap[w.heap.size]? = some (.cells #[.int .u8 ver, .int .u16 an, .int .u16 hold, .int .u32 id, .slice A l.length c] 41 (0, 0)) ∧ IsF W w4.heap.size s.2.2.2.2 w.heap.size ⟨([] : List Int), [], 0⟩ ∧ (Kd.int .u8).C W (some ⟨s.1, 0, none⟩) 1 [ver] ∧ (Kd.int .u16).R 37 W w4.heap.size (fun _ => True) (.slice (some ⟨s.2.1, 0, none⟩) 2 2) [an, hold] ∧ (Kd.int .u32).R 38 W w4.heap.size (fun _ => True) (.slice (some ⟨s.2.2.1, 0, none⟩) 1 1) [id]) ?_ (fun Ja123 => ?_)
    · rintro ⟨b1, b2, b3, b4, g⟩ W ⟨hB, hm, hG, f1, f2, f3⟩
      refine norm_ (a' := ?_) ?_ ?_
      rotate_left
      · simp only [putAll, Act.put, List.setIfInBounds_toArray, List.set_cons_zero, List.set_cons_succ]
        rfl
      refine two_ (i := 4) (j := 18) (Ni := some 19) (Nj := some 33) #[true, true, true, true, true, true, true, true, true, true, false, true, true, true, false, true, true, true, false, false, true, false, false, false, false, false, false] #[true, true, true, true, false, true, true, true, true, true, false, true, true, true, false, true, true, true, true, false, true, false, false, false, false, false, false] rfl rfl  rfl rfl  (two_of HT_.out (by kernel_rfl)) (by decide) (by decide)  (fun K hK => ?_) (fun K hK => ?_) 
      · refine goes_ Tryd.func76 (by kernel_rfl) rfl #[.pointer (some ⟨g, 0, none⟩), .slice (some ⟨b1, 0, none⟩) 1 1] (by rfl) rfl rfl (by simp [Act.eval]) ?_
        have H := FByte_calls W w4.heap.size g w.heap.size ⟨([] : List Int), [], 0⟩ hG rfl (some ⟨b1, 0, none⟩) 1 [ver] f1 (by simp [twos, two, fours, four]; try omega)
        rw [bytes0] at H
        refine H.mono ?_
        rintro e W2 ⟨rfl, hG2, hk, hkp⟩
        refine ⟨_, rfl, ?_⟩
        refine hK.out _ _ (blk_kt hm hk (by decide)) (fun _ => ?_)
        clear hK K H
        refine norm_ ?_ (Ja1b23 (b1, b2, b3, b4, g) _ ⟨below_kt (Nat.le_refl _) hB hk, blk_kt hm hk (by decide), hG2, R_kt f2 hk (by decide), R_kt f3 hk (by decide)⟩)
        simp only [putAll, Act.put, List.setIfInBounds_toArray, List.set_cons_zero, List.set_cons_succ]
        try rfl
      · refine value_ (w1 := ?_) (v := ?_) (by rfl) rfl ?_ ?_
        rotate_left 2
        · go_simp
          constructor
          · rfl
          · rfl
        have hb := below_alloc (Below.refl W.heap.size W) (.cells #[.int .u8 (bs.length : Int)] 5)
        refine hK.out _ _ (blk_below hm hb) (fun _ => ?_)
        clear hK K
        refine norm_ ?_ (Ja1234 (b1, b2, b3, W.heap.size, g) _ ⟨hB.trans (hb.mono hB.size), blk_below hm hb, hG.fresh _, Kd.C_below f1 hb, Kd.R_below f2 hb, Kd.R_below f3 hb, blk_new W (.cells #[.int .u8 (bs.length : Int)] 5)⟩)
        simp only [putAll, Act.put, List.setIfInBounds_toArray, List.set_cons_zero, List.set_cons_succ]
        try rfl
    refine join_ (σ := Nat × Nat × Nat × Nat × Nat) 11 #[true, true, true, true, false, true, true, true, true, true, false, true, true, false, false, true, true, true, true, false, true, false, false, false, false, false, false] (fun s => [(15, .pointer (some ⟨s.2.2.2.2, 0, none⟩)), (18, .slice (some ⟨s.1, 0, none⟩) 1 1), (24, .slice (some ⟨s.2.1, 0, none⟩) 2 2), (33, .slice (some ⟨s.2.2.2.1, 0, none⟩) 1 1)]) (fun s W => Below w4.heap.size w4 W ∧ W.heap[w.heap.size]? = some (.cells #[.int .u8 ver, .int .u16 an, .int .u16 hold, .int .u32 id, .slice A l.length c] 41 (0, 0)) ∧ IsF W w4.heap.size s.2.2.2.2 s.2.2.2.1 ⟨([] : List Int), [], 0⟩ ∧ (Kd.int .u8).C W (some ⟨s.1, 0, none⟩) 1 [ver] ∧ (Kd.int .u16).R 37 W w4.heap.size (fun _ => True) (.slice (some ⟨s.2.1, 0, none⟩) 2 2) [an, hold] ∧ W.heap[s.2.2.2.1]? = some (.cells #[.int .u8 (bs.length : Int)] 5 (0, 0))) ?_ (fun Ja124 => ?_)
    · rintro ⟨b1, b2, b3, b4, g⟩ W ⟨hB, hm, hG, f1, f2, f4⟩
      refine norm_ (a' := ?_) ?_ ?_
      rotate_left
      · simp only [putAll, Act.put, List.setIfInBounds_toArray, List.set_cons_zero, List.set_cons_succ]
        rfl
      refine two_ (i := 4) (j := 13) (Ni := some 19) (Nj := some 28) #[true, true, true, true, true, true, true, true, true, true, false, true, true, false, false, true, true, true, true, false, true, false, false, false, false, false, false] #[true, true, true, true, false, true, true, true, true, true, false, true, true, true, false, true, true, true, true, false, true, false, false, false, false, false, false] rfl rfl  rfl rfl  (two_of HT_.out (by kernel_rfl)) (by decide) (by decide)  (fun K hK => ?_) (fun K hK => ?_) 
      · refine goes_ Tryd.func76 (by kernel_rfl) rfl #[.pointer (some ⟨g, 0, none⟩), .slice (some ⟨b1, 0, none⟩) 1 1] (by rfl) rfl rfl (by simp [Act.eval]) ?_
        have H := FByte_calls W w4.heap.size g b4 ⟨([] : List Int), [], 0⟩ hG rfl (some ⟨b1, 0, none⟩) 1 [ver] f1 (by simp [twos, two, fours, four]; try omega)
        rw [bytes0] at H
        refine H.mono ?_
        rintro e W2 ⟨rfl, hG2, hk, hkp⟩
        refine ⟨_, rfl, ?_⟩
        refine hK.out _ _ (blk_kt hm hk (by decide)) (fun _ => ?_)
        clear hK K H
        refine norm_ ?_ (Ja1b24 (b1, b2, b3, b4, g) _ ⟨below_kt (Nat.le_refl _) hB hk, blk_kt hm hk (by decide), hG2, R_kt f2 hk (by decide), hkp.trans f4⟩)
        simp only [putAll, Act.put, List.setIfInBounds_toArray, List.set_cons_zero, List.set_cons_succ]
        try rfl
      · refine value_ (w1 := ?_) (v := ?_) (by rfl) rfl ?_ ?_
        rotate_left 2
        · go_simp
          constructor
          · rfl
          · rfl
        have hb := below_alloc (Below.refl W.heap.size W) (.cells #[.int .u32 id] 38)
        refine hK.out _ _ (blk_below hm hb) (fun _ => ?_)
        clear hK K
        refine norm_ ?_ (Ja1234 (b1, b2, W.heap.size, b4, g) _ ⟨hB.trans (hb.mono hB.size), blk_below hm hb, hG.below hb, Kd.C_below f1 hb, Kd.R_below f2 hb, Kd.R_lower (litR W 38 .u32 [id] (by simp)) hB.size, blk_below f4 hb⟩)
        simp only [putAll, Act.put, List.setIfInBounds_toArray, List.set_cons_zero, List.set_cons_succ]
        try rfl
    refine join_ (σ := Nat × Nat × Nat × Nat × Nat) 11 #[true, true, true, true, false, true, true, true, true, false, false, true, true, true, false, true, true, true, true, false, true, false, false, false, false, false, false] (fun s => [(15, .pointer (some ⟨s.2.2.2.2, 0, none⟩)), (18, .slice (some ⟨s.1, 0, none⟩) 1 1), (28, .slice (some ⟨s.2.2.1, 0, none⟩) 1 1), (33, .slice (some ⟨s.2.2.2.1, 0, none⟩) 1 1)]) (fun s W => Below w4.heap.size w4 W ∧ W.heap[w.heap.size]? = some (.cells #[.int .u8 ver, .int .u16 an, .int .u16 hold, .int .u32 id, .slice A l.length c] 41 (0, 0)) ∧ IsF W w4.heap.size s.2.2.2.2 s.2.2.2.1 ⟨([] : List Int), [], 0⟩ ∧ (Kd.int .u8).C W (some ⟨s.1, 0, none⟩) 1 [ver] ∧ (Kd.int .u32).R 38 W w4.heap.size (fun _ => True) (.slice (some ⟨s.2.2.1, 0, none⟩) 1 1) [id] ∧ W.heap[s.2.2.2.1]? = some (.cells #[.int .u8 (bs.length : Int)] 5 (0, 0))) ?_ (fun Ja134 => ?_)
    · rintro ⟨b1, b2, b3, b4, g⟩ W ⟨hB, hm, hG, f1, f3, f4⟩
      refine norm_ (a' := ?_) ?_ ?_
      rotate_left
      · simp only [putAll, Act.put, List.setIfInBounds_toArray, List.set_cons_zero, List.set_cons_succ]
        rfl
      refine two_ (i := 4) (j := 9) (Ni := some 19) (Nj := some 24) #[true, true, true, true, true, true, true, true, true, false, false, true, true, true, false, true, true, true, true, false, true, false, false, false, false, false, false] #[true, true, true, true, false, true, true, true, true, true, false, true, true, true, false, true, true, true, true, false, true, false, false, false, false, false, false] rfl rfl  rfl rfl  (two_of HT_.out (by kernel_rfl)) (by decide) (by decide)  (fun K hK => ?_) (fun K hK => ?_) 
      · refine goes_ Tryd.func76 (by kernel_rfl) rfl #[.pointer (some ⟨g, 0, none⟩), .slice (some ⟨b1, 0, none⟩) 1 1] (by rfl) rfl rfl (by simp [Act.eval]) ?_
        have H := FByte_calls W w4.heap.size g b4 ⟨([] : List Int), [], 0⟩ hG rfl (some ⟨b1, 0, none⟩) 1 [ver] f1 (by simp [twos, two, fours, four]; try omega)
        rw [bytes0] at H
        refine H.mono ?_
        rintro e W2 ⟨rfl, hG2, hk, hkp⟩
        refine ⟨_, rfl, ?_⟩
        refine hK.out _ _ (blk_kt hm hk (by decide)) (fun _ => ?_)
        clear hK K H
        refine norm_ ?_ (Ja1b34 (b1, b2, b3, b4, g) _ ⟨below_kt (Nat.le_refl _) hB hk, blk_kt hm hk (by decide), hG2, R_kt f3 hk (by decide), hkp.trans f4⟩)
        simp only [putAll, Act.put, List.setIfInBounds_toArray, List.set_cons_zero, List.set_cons_succ]
        try rfl
      · refine value_ (w1 := ?_) (v := ?_) (by rfl) rfl ?_ ?_
        rotate_left 2
        · go_simp
          constructor
          · rfl
          · rfl
        have hb := below_alloc (Below.refl W.heap.size W) (.cells #[.int .u16 an, .int .u16 hold] 37)
        refine hK.out _ _ (blk_below hm hb) (fun _ => ?_)
        clear hK K
        refine norm_ ?_ (Ja1234 (b1, W.heap.size, b3, b4, g) _ ⟨hB.trans (hb.mono hB.size), blk_below hm hb, hG.below hb, Kd.C_below f1 hb, Kd.R_lower (litR W 37 .u16 [an, hold] (by simp)) hB.size, Kd.R_below f3 hb, blk_below f4 hb⟩)
        simp only [putAll, Act.put, List.setIfInBounds_toArray, List.set_cons_zero, List.set_cons_succ]
        try rfl
    refine join_ (σ := Nat × Nat × Nat × Nat × Nat) 11 #[true, true, true, false, false, true, true, true, true, true, false, true, true, true, false, true, true, true, true, false, true, false, false, false, false, false, false] (fun s => [(15, .pointer (some ⟨s.2.2.2.2, 0, none⟩)), (24, .slice (some ⟨s.2.1, 0, none⟩) 2 2), (28, .slice (some ⟨s.2.2.1, 0, none⟩) 1 1), (33, .slice (some ⟨s.2.2.2.1, 0, none⟩) 1 1)]) (fun s W => Below w4.heap.size w4 W ∧ W.heap[w.heap.size]? = some (.cells #[.int .u8 ver, .int .u16 an, .int .u16 hold, .int .u32 id, .slice A l.length c] 41 (0, 0)) ∧ IsF W w4.heap.size s.2.2.2.2 s.2.2.2.1 ⟨([] : List Int), [], 0⟩ ∧ (Kd.int .u16).R 37 W w4.heap.size (fun _ => True) (.slice (some ⟨s.2.1, 0, none⟩) 2 2) [an, hold] ∧ (Kd.int .u32).R 38 W w4.heap.size (fun _ => True) (.slice (some ⟨s.2.2.1, 0, none⟩) 1 1) [id] ∧ W.heap[s.2.2.2.1]? = some (.cells #[.int .u8 (bs.length : Int)] 5 (0, 0))) ?_ (fun Ja234 => ?_)
    · rintro ⟨b1, b2, b3, b4, g⟩ W ⟨hB, hm, hG, f2, f3, f4⟩
      refine norm_ (a' := ?_) ?_ ?_
      rotate_left
      · simp only [putAll, Act.put, List.setIfInBounds_toArray, List.set_cons_zero, List.set_cons_succ]
        rfl
      refine one_ (i := 3) (N := some 18) #[true, true, true, true, false, true, true, true, true, true, false, true, true, true, false, true, true, true, true, false, true, false, false, false, false, false, false] rfl rfl (one_of HT_.out (by kernel_rfl)) (by decide) (fun K hK => ?_)
      refine value_ (w1 := ?_) (v := ?_) (by rfl) rfl ?_ ?_
      rotate_left 2
      · go_simp
        constructor
        · rfl
        · rfl
      have hb := below_alloc (Below.refl W.heap.size W) (.cells #[.int .u8 ver] 5)
      refine hK.out _ _ (blk_below hm hb) (fun _ => ?_)
      clear hK K
      refine norm_ ?_ (Ja1234 (W.heap.size, b2, b3, b4, g) _ ⟨hB.trans (hb.mono hB.size), blk_below hm hb, hG.below hb, litC (litR W 5 .u8 [ver] (by simp)), Kd.R_below f2 hb, Kd.R_below f3 hb, blk_below f4 hb⟩)
      simp only [putAll, Act.put, List.setIfInBounds_toArray, List.set_cons_zero, List.set_cons_succ]
      try rfl
    refine join_ (σ := Nat × Nat × Nat × Nat × Nat) 11 #[false, true, true, true, false, true, true, true, true, true, false, true, true, true, false, true, true, true, true, false, true, false, false, false, false, false, false] (fun s => [(18, .slice (some ⟨s.1, 0, none⟩) 1 1), (24, .slice (some ⟨s.2.1, 0, none⟩) 2 2), (28, .slice (some ⟨s.2.2.1, 0, none⟩) 1 1), (33, .slice (some ⟨s.2.2.2.1, 0, none⟩) 1 1)]) (fun s W => Below w4.heap.size w4 W ∧ W.heap[w.heap.size]? = some (.cells #[.int .u8 ver, .int .u16 an, .int .u16 hold, .int .u32 id, .slice A l.length c] 41 (0, 0)) ∧ (Kd.int .u8).C W (some ⟨s.1, 0, none⟩) 1 [ver] ∧ (Kd.int .u16).R 37 W w4.heap.size (fun _ => True) (.slice (some ⟨s.2.1, 0, none⟩) 2 2) [an, hold] ∧ (Kd.int .u32).R 38 W w4.heap.size (fun _ => True) (.slice (some ⟨s.2.2.1, 0, none⟩) 1 1) [id] ∧ W.heap[s.2.2.2.1]? = some (.cells #[.int .u8 (bs.length : Int)] 5 (0, 0))) ?_ (fun J1234 => ?_)
    · rintro ⟨b1, b2, b3, b4, g⟩ W ⟨hB, hm, f1, f2, f3, f4⟩
      refine norm_ (a' := ?_) ?_ ?_
      rotate_left
      · simp only [putAll, Act.put, List.setIfInBounds_toArray, List.set_cons_zero, List.set_cons_succ]
        rfl
      refine one_ (i := 0) (N := some 15) #[true, true, true, true, false, true, true, true, true, true, false, true, true, true, false, true, true, true, true, false, true, false, false, false, false, false, false] rfl rfl (one_of HT_.out (by kernel_rfl)) (by decide) (fun K hK => ?_)
      refine goes_ Tryd.func75 (by kernel_rfl) rfl #[] (by rfl) rfl rfl (by simp [Act.eval]) ?_
      refine (Lay_calls W).mono ?_
      rintro e W2 ⟨rfl, hL, hb⟩
      refine ⟨_, rfl, ?_⟩
      refine hK.out _ _ (blk_below hm hb) (fun _ => ?_)
      clear hK K
      refine norm_ ?_ (Ja1234 (b1, b2, b3, b4, W.heap.size) _ ⟨hB.trans (hb.mono hB.size), blk_below hm hb, IsF.elder hL hB.size (blk_lt f4), Kd.C_below f1 hb, Kd.R_below f2 hb, Kd.R_below f3 hb, blk_below f4 hb⟩)
      simp only [putAll, Act.put, List.setIfInBounds_toArray, List.set_cons_zero, List.set_cons_succ]
      try rfl
    refine join_ (σ := Nat × Nat × Nat × Nat × Nat) 12 #[true, true, true, true, true, true, true, true, true, false, false, true, true, false, false, true, true, true, false, false, true, false, false, false, false, false, false] (fun s => [(15, .pointer (some ⟨s.2.2.2.2, 0, none⟩)), (18, .slice (some ⟨s.1, 0, none⟩) 1 1), (19, .pointer (some ⟨s.2.2.2.2, 0, none⟩))]) (fun s W => Below w4.heap.size w4 W ∧ W.heap[w.heap.size]? = some (.cells #[.int .u8 ver, .int .u16 an, .int .u16 hold, .int .u32 id, .slice A l.length c] 41 (0, 0)) ∧ IsF W w4.heap.size s.2.2.2.2 w.heap.size ⟨(([] : List Int) ++ [ver]), [], 0⟩) ?_ (fun Ja1b => ?_)
    · rintro ⟨b1, b2, b3, b4, g⟩ W ⟨hB, hm, hG⟩
      refine norm_ (a' := ?_) ?_ ?_
      rotate_left
      · simp only [putAll, Act.put, List.setIfInBounds_toArray, List.set_cons_zero, List.set_cons_succ]
        rfl
      refine three_ (i := 9) (j := 13) (k := 18) (Ni := some 24) (Nj := some 28) (Nk := some 33) #[true, true, true, true, true, true, true, true, true, true, false, true, true, false, false, true, true, true, false, false, true, false, false, false, false, false, false] #[true, true, true, true, true, true, true, true, true, false, false, true, true, true, false, true, true, true, false, false, true, false, false, false, false, false, false] #[true, true, true, true, true, true, true, true, true, false, false, true, true, false, false, true, true, true, true, false, true, false, false, false, false, false, false] rfl rfl rfl  rfl rfl rfl  (three_of HT_.out (by kernel_rfl)) (by decide) (by decide) (by decide)  (fun K hK => ?_) (fun K hK => ?_) (fun K hK => ?_) 
      · refine value_ (w1 := ?_) (v := ?_) (by rfl) rfl ?_ ?_
        rotate_left 2
        · go_simp
          constructor
          · rfl
          · rfl
        have hb := below_alloc (Below.refl W.heap.size W) (.cells #[.int .u16 an, .int .u16 hold] 37)
        refine hK.out _ _ (blk_below hm hb) (fun _ => ?_)
        clear hK K
        refine norm_ ?_ (Ja1b2 (b1, W.heap.size, b3, b4, g) _ ⟨hB.trans (hb.mono hB.size), blk_below hm hb, hG.below hb, Kd.R_lower (litR W 37 .u16 [an, hold] (by simp)) hB.size⟩)
        simp only [putAll, Act.put, List.setIfInBounds_toArray, List.set_cons_zero, List.set_cons_succ]
        try rfl
      · refine value_ (w1 := ?_) (v := ?_) (by rfl) rfl ?_ ?_
        rotate_left 2
        · go_simp
          constructor
          · rfl
          · rfl
        have hb := below_alloc (Below.refl W.heap.size W) (.cells #[.int .u32 id] 38)
        refine hK.out _ _ (blk_below hm hb) (fun _ => ?_)
        clear hK K
        refine norm_ ?_ (Ja1b3 (b1, b2, W.heap.size, b4, g) _ ⟨hB.trans (hb.mono hB.size), blk_below hm hb, hG.below hb, Kd.R_lower (litR W 38 .u32 [id] (by simp)) hB.size⟩)
        simp only [putAll, Act.put, List.setIfInBounds_toArray, List.set_cons_zero, List.set_cons_succ]
        try rfl
      · refine value_ (w1 := ?_) (v := ?_) (by rfl) rfl ?_ ?_
        rotate_left 2
        · go_simp
          constructor
          · rfl
          · rfl
        have hb := below_alloc (Below.refl W.heap.size W) (.cells #[.int .u8 (bs.length : Int)] 5)
        refine hK.out _ _ (blk_below hm hb) (fun _ => ?_)
        clear hK K
        refine norm_ ?_ (Ja1b4 (b1, b2, b3, W.heap.size, g) _ ⟨hB.trans (hb.mono hB.size), blk_below hm hb, hG.fresh _, blk_new W (.cells #[.int .u8 (bs.length : Int)] 5)⟩)
        simp only [putAll, Act.put, List.setIfInBounds_toArray, List.set_cons_zero, List.set_cons_succ]
        try rfl
    refine join_ (σ := Nat × Nat × Nat × Nat × Nat) 12 #[true, true, true, true, false, true, true, true, true, true, false, true, true, false, false, true, true, true, false, false, true, false, false, false, false, false, false] (fun s => [(15, .pointer (some ⟨s.2.2.2.2, 0, none⟩)), (18, .slice (some ⟨s.1, 0, none⟩) 1 1), (24, .slice (some ⟨s.2.1, 0, none⟩) 2 2)]) (fun s W => Below w4.heap.size w4 W ∧ W.heap[w.heap.size]? = some (.cells #[.int .u8 ver, .int .u16 an, .int .u16 hold, .int .u32 id, .slice A l.length c] 41 (0, 0)) ∧ IsF W w4.heap.size s.2.2.2.2 w.heap.size ⟨([] : List Int), [], 0⟩ ∧ (Kd.int .u8).C W (some ⟨s.1, 0, none⟩) 1 [ver] ∧ (Kd.int .u16).R 37 W w4.heap.size (fun _ => True) (.slice (some ⟨s.2.1, 0, none⟩) 2 2) [an, hold]) ?_ (fun Ja12 => ?_)
    · rintro ⟨b1, b2, b3, b4, g⟩ W ⟨hB, hm, hG, f1, f2⟩
      refine norm_ (a' := ?_) ?_ ?_
      rotate_left
      · simp only [putAll, Act.put, List.setIfInBounds_toArray, List.set_cons_zero, List.set_cons_succ]
        rfl
      refine three_ (i := 4) (j := 13) (k := 18) (Ni := some 19) (Nj := some 28) (Nk := some 33) #[true, true, true, true, true, true, true, true, true, true, false, true, true, false, false, true, true, true, false, false, true, false, false, false, false, false, false] #[true, true, true, true, false, true, true, true, true, true, false, true, true, true, false, true, true, true, false, false, true, false, false, false, false, false, false] #[true, true, true, true, false, true, true, true, true, true, false, true, true, false, false, true, true, true, true, false, true, false, false, false, false, false, false] rfl rfl rfl  rfl rfl rfl  (three_of HT_.out (by kernel_rfl)) (by decide) (by decide) (by decide)  (fun K hK => ?_) (fun K hK => ?_) (fun K hK => ?_) 
      · refine goes_ Tryd.func76 (by kernel_rfl) rfl #[.pointer (some ⟨g, 0, none⟩), .slice (some ⟨b1, 0, none⟩) 1 1] (by rfl) rfl rfl (by simp [Act.eval]) ?_
        have H := FByte_calls W w4.heap.size g w.heap.size ⟨([] : List Int), [], 0⟩ hG rfl (some ⟨b1, 0, none⟩) 1 [ver] f1 (by simp [twos, two, fours, four]; try omega)
        rw [bytes0] at H
        refine H.mono ?_
        rintro e W2 ⟨rfl, hG2, hk, hkp⟩
        refine ⟨_, rfl, ?_⟩
        refine hK.out _ _ (blk_kt hm hk (by decide)) (fun _ => ?_)
        clear hK K H
        refine norm_ ?_ (Ja1b2 (b1, b2, b3, b4, g) _ ⟨below_kt (Nat.le_refl _) hB hk, blk_kt hm hk (by decide), hG2, R_kt f2 hk (by decide)⟩)
        simp only [putAll, Act.put, List.setIfInBounds_toArray, List.set_cons_zero, List.set_cons_succ]
        try rfl
      · refine value_ (w1 := ?_) (v := ?_) (by rfl) rfl ?_ ?_
        rotate_left 2
        · go_simp
          constructor
          · rfl
          · rfl
        have hb := below_alloc (Below.refl W.heap.size W) (.cells #[.int .u32 id] 38)
        refine hK.out _ _ (blk_below hm hb) (fun _ => ?_)
        clear hK K
        refine norm_ ?_ (Ja123 (b1, b2, W.heap.size, b4, g) _ ⟨hB.trans (hb.mono hB.size), blk_below hm hb, hG.below hb, Kd.C_below f1 hb, Kd.R_below f2 hb, Kd.R_lower (litR W 38 .u32 [id] (by simp)) hB.size⟩)
        simp only [putAll, Act.put, List.setIfInBounds_toArray, List.set_cons_zero, List.set_cons_succ]
        try rfl
      · refine value_ (w1 := ?_) (v := ?_) (by rfl) rfl ?_ ?_
        rotate_left 2
        · go_simp
          constructor
          · rfl
          · rfl
        have hb := below_alloc (Below.refl W.heap.size W) (.cells #[.int .u8 (bs.length : Int)] 5)
        refine hK.out _ _ (blk_below hm hb) (fun _ => ?_)
        clear hK K
        refine norm_ ?_ (Ja124 (b1, b2, b3, W.heap.size, g) _ ⟨hB.trans (hb.mono hB.size), blk_below hm hb, hG.fresh _, Kd.C_below f1 hb, Kd.R_below f2 hb, blk_new W (.cells #[.int .u8 (bs.length : Int)] 5)⟩)
        simp only [putAll, Act.put, List.setIfInBounds_toArray, List.set_cons_zero, List.set_cons_succ]
        try rfl
    refine join_ (σ := Nat × Nat × Nat × Nat × Nat) 12 #[true, true, true, true, false, true, true, true, true, false, false, true, true, true, false, true, true, true, false, false, true, false, false, false, false, false, false] (fun s => [(15, .pointer (some ⟨s.2.2.2.2, 0, none⟩)), (18, .slice (some ⟨s.1, 0, none⟩) 1 1), (28, .slice (some ⟨s.2.2.1, 0, none⟩) 1 1)]) (fun s W => Below w4.heap.size w4 W ∧ W.heap[w.heap.size]? = some (.cells #[.int .u8 ver, .int .u16 an, .int .u16 hold, .int .u32 id, .slice A l.length c] 41 (0, 0)) ∧ IsF W w4.heap.size s.2.2.2.2 w.heap.size ⟨([] : List Int), [], 0⟩ ∧ (Kd.int .u8).C W (some ⟨s.1, 0, none⟩) 1 [ver] ∧ (Kd.int .u32).R 38 W w4.heap.size (fun _ => True) (.slice (some ⟨s.2.2.1, 0, none⟩) 1 1) [id]) ?_ (fun Ja13 => ?_)
    · rintro ⟨b1, b2, b3, b4, g⟩ W ⟨hB, hm, hG, f1, f3⟩
      refine norm_ (a' := ?_) ?_ ?_
      rotate_left
      · simp only [putAll, Act.put, List.setIfInBounds_toArray, List.set_cons_zero, List.set_cons_succ]
        rfl
      refine three_ (i := 4) (j := 9) (k := 18) (Ni := some 19) (Nj := some 24) (Nk := some 33) #[true, true, true, true, true, true, true, true, true, false, false, true, true, true, false, true, true, true, false, false, true, false, false, false, false, false, false] #[true, true, true, true, false, true, true, true, true, true, false, true, true, true, false, true, true, true, false, false, true, false, false, false, false, false, false] #[true, true, true, true, false, true, true, true, true, false, false, true, true, true, false, true, true, true, true, false, true, false, false, false, false, false, false] rfl rfl rfl  rfl rfl rfl  (three_of HT_.out (by kernel_rfl)) (by decide) (by decide) (by decide)  (fun K hK => ?_) (fun K hK => ?_) (fun K hK => ?_) 
      · refine goes_ Tryd.func76 (by kernel_rfl) rfl #[.pointer (some ⟨g, 0, none⟩), .slice (some ⟨b1, 0, none⟩) 1 1] (by rfl) rfl rfl (by simp [Act.eval]) ?_
        have H := FByte_calls W w4.heap.size g w.heap.size ⟨([] : List Int), [], 0⟩ hG rfl (some ⟨b1, 0, none⟩) 1 [ver] f1 (by simp [twos, two, fours, four]; try omega)
        rw [bytes0] at H
        refine H.mono ?_
        rintro e W2 ⟨rfl, hG2, hk, hkp⟩
        refine ⟨_, rfl, ?_⟩
        refine hK.out _ _ (blk_kt hm hk (by decide)) (fun _ => ?_)
        clear hK K H
        refine norm_ ?_ (Ja1b3 (b1, b2, b3, b4, g) _ ⟨below_kt (Nat.le_refl _) hB hk, blk_kt hm hk (by decide), hG2, R_kt f3 hk (by decide)⟩)
        simp only [putAll, Act.put, List.setIfInBounds_toArray, List.set_cons_zero, List.set_cons_succ]
        try rfl
      · refine value_ (w1 := ?_) (v := ?_) (by rfl) rfl ?_ ?_
        rotate_left 2
        · go_simp
          constructor
          · rfl
          · rfl
        have hb := below_alloc (Below.refl W.heap.size W) (.cells #[.int .u16 an, .int .u16 hold] 37)
        refine hK.out _ _ (blk_below hm hb) (fun _ => ?_)
        clear hK K
        refine norm_ ?_ (Ja123 (b1, W.heap.size, b3, b4, g) _ ⟨hB.trans (hb.mono hB.size), blk_below hm hb, hG.below hb, Kd.C_below f1 hb, Kd.R_lower (litR W 37 .u16 [an, hold] (by simp)) hB.size, Kd.R_below f3 hb⟩)
        simp only [putAll, Act.put, List.setIfInBounds_toArray, List.set_cons_zero, List.set_cons_succ]
        try rfl
      · refine value_ (w1 := ?_) (v := ?_) (by rfl) rfl ?_ ?_
        rotate_left 2
        · go_simp
          constructor
          · rfl
          · rfl
        have hb := below_alloc (Below.refl W.heap.size W) (.cells #[.int .u8 (bs.length : Int)] 5)
        refine hK.out _ _ (blk_below hm hb) (fun _ => ?_)
        clear hK K
        refine norm_ ?_ (Ja134 (b1, b2, b3, W.heap.size, g) _ ⟨hB.trans (hb.mono hB.size), blk_below hm hb, hG.fresh _, Kd.C_below f1 hb, Kd.R_below f3 hb, blk_new W (.cells #[.int .u8 (bs.length : Int)] 5)⟩)
        simp only [putAll, Act.put, List.setIfInBounds_toArray, List.set_cons_zero, List.set_cons_succ]
        try rfl
    refine join_ (σ := Nat × Nat × Nat × Nat × Nat) 12 #[true, true, true, true, false, true, true, true, true, false, false, true, true, false, false, true, true, true, true, false, true, false, false, false, false, false, false] (fun s => [(15, .pointer (some ⟨s.2.2.2.2, 0, none⟩)), (18, .slice (some ⟨s.1, 0, none⟩) 1 1), (33, .slice (some ⟨s.2.2.2.1, 0, none⟩) 1 1)]) (fun s W => Below w4.heap.size w4 W ∧ W.heap[w.heap.size]? = some (.cells #[.int .u8 ver, .int .u16 an, .int .u16 hold, .int .u32 id, .slice A l.length c] 41 (0, 0)) ∧ IsF W w4.heap.size s.2.2.2.2 s.2.2.2.1 ⟨([] : List Int), [], 0⟩ ∧ (Kd.int .u8).C W (some ⟨s.1, 0, none⟩) 1 [ver] ∧ W.heap[s.2.2.2.1]? = some (.cells #[.int .u8 (bs.length : Int)] 5 (0, 0))) ?_ (fun Ja14 => ?_)
    · rintro ⟨b1, b2, b3, b4, g⟩ W ⟨hB, hm, hG, f1, f4⟩
      refine norm_ (a' := ?_) ?_ ?_
      rotate_left
      · simp only [putAll, Act.put, List.setIfInBounds_toArray, List.set_cons_zero, List.set_cons_succ]
        rfl
      refine three_ (i := 4) (j := 9) (k := 13) (Ni := some 19) (Nj := some 24) (Nk := some 28) #[true, true, true, true, true, true, true, true, true, false, false, true, true, false, false, true, true, true, true, false, true, false, false, false, false, false, false] #[true, true, true, true, false, true, true, true, true, true, false, true, true, false, false, true, true, true, true, false, true, false, false, false, false, false, false] #[true, true, true, true, false, true, true, true, true, false, false, true, true, true, false, true, true, true, true, false, true, false, false, false, false, false, false] rfl rfl rfl  rfl rfl rfl  (three_of HT_.out (by kernel_rfl)) (by decide) (by decide) (by decide)  (fun K hK => ?_) (fun K hK => ?_) (fun K hK => ?_) 
      · refine goes_ Tryd.func76 (by kernel_rfl) rfl #[.pointer (some ⟨g, 0, none⟩), .slice (some ⟨b1, 0, none⟩) 1 1] (by rfl) rfl rfl (by simp [Act.eval]) ?_
        have H := FByte_calls W w4.heap.size g b4 ⟨([] : List Int), [], 0⟩ hG rfl (some ⟨b1, 0, none⟩) 1 [ver] f1 (by simp [twos, two, fours, four]; try omega)
        rw [bytes0] at H
        refine H.mono ?_
        rintro e W2 ⟨rfl, hG2, hk, hkp⟩
        refine ⟨_, rfl, ?_⟩
        refine hK.out _ _ (blk_kt hm hk (by decide)) (fun _ => ?_)
        clear hK K H
        refine norm_ ?_ (Ja1b4 (b1, b2, b3, b4, g) _ ⟨below_kt (Nat.le_refl _) hB hk, blk_kt hm hk (by decide), hG2, hkp.trans f4⟩)
        simp only [putAll, Act.put, List.setIfInBounds_toArray, List.set_cons_zero, List.set_cons_succ]
        try rfl
      · refine value_ (w1 := ?_) (v := ?_) (by rfl) rfl ?_ ?_
        rotate_left 2
        · go_simp
          constructor
          · rfl
          · rfl
        have hb := below_alloc (Below.refl W.heap.size W) (.cells #[.int .u16 an, .int .u16 hold] 37)
        refine hK.out _ _ (blk_below hm hb) (fun _ => ?_)
        clear hK K
        refine norm_ ?_ (Ja124 (b1, W.heap.size, b3, b4, g) _ ⟨hB.trans (hb.mono hB.size), blk_below hm hb, hG.below hb, Kd.C_below f1 hb, Kd.R_lower (litR W 37 .u16 [an, hold] (by simp)) hB.size, blk_below f4 hb⟩)
        simp only [putAll, Act.put, List.setIfInBounds_toArray, List.set_cons_zero, List.set_cons_succ]
        try rfl
      · refine value_ (w1 := ?_) (v := ?_) (by rfl) rfl ?_ ?_
        rotate_left 2
        · go_simp
          constructor
          · rfl
          · rfl
        have hb := below_alloc (Below.refl W.heap.size W) (.cells #[.int .u32 id] 38)
        refine hK.out _ _ (blk_below hm hb) (fun _ => ?_)
        clear hK K
        refine norm_ ?_ (Ja134 (b1, b2, W.heap.size, b4, g) _ ⟨hB.trans (hb.mono hB.size), blk_below hm hb, hG.below hb, Kd.C_below f1 hb, Kd.R_lower (litR W 38 .u32 [id] (by simp)) hB.size, blk_below f4 hb⟩)
        simp only [putAll, Act.put, List.setIfInBounds_toArray, List.set_cons_zero, List.set_cons_succ]
        try rfl
    refine join_ (σ := Nat × Nat × Nat × Nat × Nat) 12 #[true, true, true, false, false, true, true, true, true, true, false, true, true, true, false, true, true, true, false, false, true, false, false, false, false, false, false] (fun s => [(15, .pointer (some ⟨s.2.2.2.2, 0, none⟩)), (24, .slice (some ⟨s.2.1, 0, none⟩) 2 2), (28, .slice (some ⟨s.2.2.1, 0, none⟩) 1 1)]) (fun s W => Below w4.heap.size w4 W ∧ W.heap[w.heap.size]? = some (.cells #[.int .u8 ver, .int .u16 an, .int .u16 hold, .int .u32 id, .slice A l.length c] 41 (0, 0)) ∧ IsF W w4.heap.size s.2.2.2.2 w.heap.size ⟨([] : List Int), [], 0⟩ ∧ (Kd.int .u16).R 37 W w4.heap.size (fun _ => True) (.slice (some ⟨s.2.1, 0, none⟩) 2 2) [an, hold] ∧ (Kd.int .u32).R 38 W w4.heap.size (fun _ => True) (.slice (some ⟨s.2.2.1, 0, none⟩) 1 1) [id]) ?_ (fun Ja23 => ?_)
    · rintro ⟨b1, b2, b3, b4, g⟩ W ⟨hB, hm, hG, f2, f3⟩
      refine norm_ (a' := ?_) ?_ ?_
      rotate_left
      · simp only [putAll, Act.put, List.setIfInBounds_toArray, List.set_cons_zero, List.set_cons_succ]
        rfl
      refine two_ (i := 3) (j := 18) (Ni := some 18) (Nj := some 33) #[true, true, true, true, false, true, true, true, true, true, false, true, true, true, false, true, true, true, false, false, true, false, false, false, false, false, false] #[true, true, true, false, false, true, true, true, true, true, false, true, true, true, false, true, true, true, true, false, true, false, false, false, false, false, false] rfl rfl  rfl rfl  (two_of HT_.out (by kernel_rfl)) (by decide) (by decide)  (fun K hK => ?_) (fun K hK => ?_) 
      · refine value_ (w1 := ?_) (v := ?_) (by rfl) rfl ?_ ?_
        rotate_left 2
        · go_simp
          constructor
          · rfl
          · rfl
        have hb := below_alloc (Below.refl W.heap.size W) (.cells #[.int .u8 ver] 5)
        refine hK.out _ _ (blk_below hm hb) (fun _ => ?_)
        clear hK K
        refine norm_ ?_ (Ja123 (W.heap.size, b2, b3, b4, g) _ ⟨hB.trans (hb.mono hB.size), blk_below hm hb, hG.below hb, litC (litR W 5 .u8 [ver] (by simp)), Kd.R_below f2 hb, Kd.R_below f3 hb⟩)
        simp only [putAll, Act.put, List.setIfInBounds_toArray, List.set_cons_zero, List.set_cons_succ]
        try rfl
      · refine value_ (w1 := ?_) (v := ?_) (by rfl) rfl ?_ ?_
        rotate_left 2
        · go_simp
          constructor
          · rfl
          · rfl
        have hb := below_alloc (Below.refl W.heap.size W) (.cells #[.int .u8 (bs.length : Int)] 5)
        refine hK.out _ _ (blk_below hm hb) (fun _ => ?_)
        clear hK K
        refine norm_ ?_ (Ja234 (b1, b2, b3, W.heap.size, g) _ ⟨hB.trans (hb.mono hB.size), blk_below hm hb, hG.fresh _, Kd.R_below f2 hb, Kd.R_below f3 hb, blk_new W (.cells #[.int .u8 (bs.length : Int)] 5)⟩)
        simp only [putAll, Act.put, List.setIfInBounds_toArray, List.set_cons_zero, List.set_cons_succ]
        try rfl
    refine join_ (σ := Nat × Nat × Nat × Nat × Nat) 12 #[true, true, true, false, false, true, true, true, true, true, false, true, true, false, false, true, true, true, true, false, true, false, false, false, false, false, false] (fun s => [(15, .pointer (some ⟨s.2.2.2.2, 0, none⟩)), (24, .slice (some ⟨s.2.1, 0, none⟩) 2 2), (33, .slice (some ⟨s.2.2.2.1, 0, none⟩) 1 1)]) (fun s W => Below w4.heap.size w4 W ∧ W.heap[w.heap.size]? = some (.cells #[.int .u8 ver, .int .u16 an, .int .u16 hold, .int .u32 id, .slice A l.length c] 41 (0, 0)) ∧ IsF W w4.heap.size s.2.2.2.2 s.2.2.2.1 ⟨([] : List Int), [], 0⟩ ∧ (Kd.int .u16).R 37 W w4.heap.size (fun _ => True) (.slice (some ⟨s.2.1, 0, none⟩) 2 2) [an, hold] ∧ W.heap[s.2.2.2.1]? = some (.cells #[.int .u8 (bs.length : Int)] 5 (0, 0))) ?_ (fun Ja24 => ?_)
    · rintro ⟨b1, b2, b3, b4, g⟩ W ⟨hB, hm, hG, f2, f4⟩
      refine norm_ (a' := ?_) ?_ ?_
      rotate_left
      · simp only [putAll, Act.put, List.setIfInBounds_toArray, List.set_cons_zero, List.set_cons_succ]
        rfl
      refine two_ (i := 3) (j := 13) (Ni := some 18) (Nj := some 28) #[true, true, true, true, false, true, true, true, true, true, false, true, true, false, false, true, true, true, true, false, true, false, false, false, false, false, false] #[true, true, true, false, false, true, true, true, true, true, false, true, true, true, false, true, true, true, true, false, true, false, false, false, false, false, false] rfl rfl  rfl rfl  (two_of HT_.out (by kernel_rfl)) (by decide) (by decide)  (fun K hK => ?_) (fun K hK => ?_) 
      · refine value_ (w1 := ?_) (v := ?_) (by rfl) rfl ?_ ?_
        rotate_left 2
        · go_simp
          constructor
          · rfl
          · rfl
        have hb := below_alloc (Below.refl W.heap.size W) (.cells #[.int .u8 ver] 5)
        refine hK.out _ _ (blk_below hm hb) (fun _ => ?_)
        clear hK K
        refine norm_ ?_ (Ja124 (W.heap.size, b2, b3, b4, g) _ ⟨hB.trans (hb.mono hB.size), blk_below hm hb, hG.below hb, litC (litR W 5 .u8 [ver] (by simp)), Kd.R_below f2 hb, blk_below f4 hb⟩)
        simp only [putAll, Act.put, List.setIfInBounds_toArray, List.set_cons_zero, List.set_cons_succ]
        try rfl
      · refine value_ (w1 := ?_) (v := ?_) (by rfl) rfl ?_ ?_
        rotate_left 2
        · go_simp
          constructor
          · rfl
          · rfl
        have hb := below_alloc (Below.refl W.heap.size W) (.cells #[.int .u32 id] 38)
        refine hK.out _ _ (blk_below hm hb) (fun _ => ?_)
        clear hK K
        refine norm_ ?_ (Ja234 (b1, b2, W.heap.size, b4, g) _ ⟨hB.trans (hb.mono hB.size), blk_below hm hb, hG.below hb, Kd.R_below f2 hb, Kd.R_lower (litR W 38 .u32 [id] (by simp)) hB.size, blk_below f4 hb⟩)
        simp only [putAll, Act.put, List.setIfInBounds_toArray, List.set_cons_zero, List.set_cons_succ]
        try rfl
    refine join_ (σ := Nat × Nat × Nat × Nat × Nat) 12 #[true, true, true, false, false, true, true, true, true, false, false, true, true, true, false, true, true, true, true, false, true, false, false, false, false, false, false] (fun s => [(15, .pointer (some ⟨s.2.2.2.2, 0, none⟩)), (28, .slice (some ⟨s.2.2.1, 0, none⟩) 1 1), (33, .slice (some ⟨s.2.2.2.1, 0, none⟩) 1 1)]) (fun s W => Below w4.heap.size w4 W ∧ W.heap[w.heap.size]? = some (.cells #[.int .u8 ver, .int .u16 an, .int .u16 hold, .int .u32 id, .slice A l.length c] 41 (0, 0)) ∧ IsF W w4.heap.size s.2.2.2.2 s.2.2.2.1 ⟨([] : List Int), [], 0⟩ ∧ (Kd.int .u32).R 38 W w4.heap.size (fun _ => True) (.slice (some ⟨s.2.2.1, 0, none⟩) 1 1) [id] ∧ W.heap[s.2.2.2.1]? = some (.cells #[.int .u8 (bs.length : Int)] 5 (0, 0))) ?_ (fun Ja34 => ?_)
    · rintro ⟨b1, b2, b3, b4, g⟩ W ⟨hB, hm, hG, f3, f4⟩
      refine norm_ (a' := ?_) ?_ ?_
      rotate_left
      · simp only [putAll, Act.put, List.setIfInBounds_toArray, List.set_cons_zero, List.set_cons_succ]
        rfl
      refine two_ (i := 3) (j := 9) (Ni := some 18) (Nj := some 24) #[true, true, true, true, false, true, true, true, true, false, false, true, true, true, false, true, true, true, true, false, true, false, false, false, false, false, false] #[true, true, true, false, false, true, true, true, true, true, false, true, true, true, false, true, true, true, true, false, true, false, false, false, false, false, false] rfl rfl  rfl rfl  (two_of HT_.out (by kernel_rfl)) (by decide) (by decide)  (fun K hK => ?_) (fun K hK => ?_) 
      · refine value_ (w1 := ?_) (v := ?_) (by rfl) rfl ?_ ?_
        rotate_left 2
        · go_simp
          constructor
          · rfl
          · rfl
        have hb := below_alloc (Below.refl W.heap.size W) (.cells #[.int .u8 ver] 5)
        refine hK.out _ _ (blk_below hm hb) (fun _ => ?_)
        clear hK K
        refine norm_ ?_ (Ja134 (W.heap.size, b2, b3, b4, g) _ ⟨hB.trans (hb.mono hB.size), blk_below hm hb, hG.below hb, litC (litR W 5 .u8 [ver] (by simp)), Kd.R_below f3 hb, blk_below f4 hb⟩)
        simp only [putAll, Act.put, List.setIfInBounds_toArray, List.set_cons_zero, List.set_cons_succ]
        try rfl
      · refine value_ (w1 := ?_) (v := ?_) (by rfl) rfl ?_ ?_
        rotate_left 2
        · go_simp
          constructor
          · rfl
          · rfl
        have hb := below_alloc (Below.refl W.heap.size W) (.cells #[.int .u16 an, .int .u16 hold] 37)
        refine hK.out _ _ (blk_below hm hb) (fun _ => ?_)
        clear hK K
        refine norm_ ?_ (Ja234 (b1, W.heap.size, b3, b4, g) _ ⟨hB.trans (hb.mono hB.size), blk_below hm hb, hG.below hb, Kd.R_lower (litR W 37 .u16 [an, hold] (by simp)) hB.size, Kd.R_below f3 hb, blk_below f4 hb⟩)
        simp only [putAll, Act.put, List.setIfInBounds_toArray, List.set_cons_zero, List.set_cons_succ]
        try rfl
    refine join_ (σ := Nat × Nat × Nat × Nat × Nat) 12 #[false, true, true, true, false, true, true, true, true, true, false, true, true, true, false, true, true, true, false, false, true, false, false, false, false, false, false] (fun s => [(18, .slice (some ⟨s.1, 0, none⟩) 1 1), (24, .slice (some ⟨s.2.1, 0, none⟩) 2 2), (28, .slice (some ⟨s.2.2.1, 0, none⟩) 1 1)]) (fun s W => Below w4.heap.size w4 W ∧ W.heap[w.heap.size]? = some (.cells #[.int .u8 ver, .int .u16 an, .int .u16 hold, .int .u32 id, .slice A l.length c] 41 (0, 0)) ∧ (Kd.int .u8).C W (some ⟨s.1, 0, none⟩) 1 [ver] ∧ (Kd.int .u16).R 37 W w4.heap.size (fun _ => True) (.slice (some ⟨s.2.1, 0, none⟩) 2 2) [an, hold] ∧ (Kd.int .u32).R 38 W w4.heap.size (fun _ => True) (.slice (some ⟨s.2.2.1, 0, none⟩) 1 1) [id]) ?_ (fun J123 => ?_)
    · rintro ⟨b1, b2, b3, b4, g⟩ W ⟨hB, hm, f1, f2, f3⟩
      refine norm_ (a' := ?_) ?_ ?_
      rotate_left
      · simp only [putAll, Act.put, List.setIfInBounds_toArray, List.set_cons_zero, List.set_cons_succ]
        rfl
      refine two_ (i := 0) (j := 18) (Ni := some 15) (Nj := some 33) #[true, true, true, true, false, true, true, true, true, true, false, true, true, true, false, true, true, true, false, false, true, false, false, false, false, false, false] #[false, true, true, true, false, true, true, true, true, true, false, true, true, true, false, true, true, true, true, false, true, false, false, false, false, false, false] rfl rfl  rfl rfl  (two_of HT_.out (by kernel_rfl)) (by decide) (by decide)  (fun K hK => ?_) (fun K hK => ?_) 
      · refine goes_ Tryd.func75 (by kernel_rfl) rfl #[] (by rfl) rfl rfl (by simp [Act.eval]) ?_
        refine (Lay_calls W).mono ?_
        rintro e W2 ⟨rfl, hL, hb⟩
        refine ⟨_, rfl, ?_⟩
        refine hK.out _ _ (blk_below hm hb) (fun _ => ?_)
        clear hK K
        refine norm_ ?_ (Ja123 (b1, b2, b3, b4, W.heap.size) _ ⟨hB.trans (hb.mono hB.size), blk_below hm hb, IsF.elder hL hB.size (blk_lt hm), Kd.C_below f1 hb, Kd.R_below f2 hb, Kd.R_below f3 hb⟩)
        simp only [putAll, Act.put, List.setIfInBounds_toArray, List.set_cons_zero, List.set_cons_succ]
        try rfl
      · refine value_ (w1 := ?_) (v := ?_) (by rfl) rfl ?_ ?_
        rotate_left 2
        · go_simp
          constructor
          · rfl
          · rfl
        have hb := below_alloc (Below.refl W.heap.size W) (.cells #[.int .u8 (bs.length : Int)] 5)
        refine hK.out _ _ (blk_below hm hb) (fun _ => ?_)
        clear hK K
        refine norm_ ?_ (J1234 (b1, b2, b3, W.heap.size, g) _ ⟨hB.trans (hb.mono hB.size), blk_below hm hb, Kd.C_below f1 hb, Kd.R_below f2 hb, Kd.R_below f3 hb, blk_new W (.cells #[.int .u8 (bs.length : Int)] 5)⟩)
        simp only [putAll, Act.put, List.setIfInBounds_toArray, List.set_cons_zero, List.set_cons_succ]
        try rfl
    refine join_ (σ := Nat × Nat × Nat × Nat × Nat) 12 #[false, true, true, true, false, true, true, true, true, true, false, true, true, false, false, true, true, true, true, false, true, false, false, false, false, false, false] (fun s => [(18, .slice (some ⟨s.1, 0, none⟩) 1 1), (24, .slice (some ⟨s.2.1, 0, none⟩) 2 2), (33, .slice (some ⟨s.2.2.2.1, 0, none⟩) 1 1)]) (fun s W => Below w4.heap.size w4 W ∧ W.heap[w.heap.size]? = some (.cells #[.int .u8 ver, .int .u16 an, .int .u16 hold, .int .u32 id, .slice A l.length c] 41 (0, 0)) ∧ (Kd.int .u8).C W (some ⟨s.1, 0, none⟩) 1 [ver] ∧ (Kd.int .u16).R 37 W w4.heap.size (fun _ => True) (.slice (some ⟨s.2.1, 0, none⟩) 2 2) [an, hold] ∧ W.heap[s.2.2.2.1]? = some (.cells #[.int .u8 (bs.length : Int)] 5 (0, 0))) ?_ (fun J124 => ?_)
    · rintro ⟨b1, b2, b3, b4, g⟩ W ⟨hB, hm, f1, f2, f4⟩
      refine norm_ (a' := ?_) ?_ ?_
      rotate_left
      · simp only [putAll, Act.put, List.setIfInBounds_toArray, List.set_cons_zero, List.set_cons_succ]
        rfl
      refine two_ (i := 0) (j := 13) (Ni := some 15) (Nj := some 28) #[true, true, true, true, false, true, true, true, true, true, false, true, true, false, false, true, true, true, true, false, true, false, false, false, false, false, false] #[false, true, true, true, false, true, true, true, true, true, false, true, true, true, false, true, true, true, true, false, true, false, false, false, false, false, false] rfl rfl  rfl rfl  (two_of HT_.out (by kernel_rfl)) (by decide) (by decide)  (fun K hK => ?_) (fun K hK => ?_) 
      · refine goes_ Tryd.func75 (by kernel_rfl) rfl #[] (by rfl) rfl rfl (by simp [Act.eval]) ?_
        refine (Lay_calls W).mono ?_
        rintro e W2 ⟨rfl, hL, hb⟩
        refine ⟨_, rfl, ?_⟩
        refine hK.out _ _ (blk_below hm hb) (fun _ => ?_)
        clear hK K
        refine norm_ ?_ (Ja124 (b1, b2, b3, b4, W.heap.size) _ ⟨hB.trans (hb.mono hB.size), blk_below hm hb, IsF.elder hL hB.size (blk_lt f4), Kd.C_below f1 hb, Kd.R_below f2 hb, blk_below f4 hb⟩)
        simp only [putAll, Act.put, List.setIfInBounds_toArray, List.set_cons_zero, List.set_cons_succ]
        try rfl
      · refine value_ (w1 := ?_) (v := ?_) (by rfl) rfl ?_ ?_
        rotate_left 2
        · go_simp
          constructor
          · rfl
          · rfl
        have hb := below_alloc (Below.refl W.heap.size W) (.cells #[.int .u32 id] 38)
        refine hK.out _ _ (blk_below hm hb) (fun _ => ?_)
        clear hK K
        refine norm_ ?_ (J1234 (b1, b2, W.heap.size, b4, g) _ ⟨hB.trans (hb.mono hB.size), blk_below hm hb, Kd.C_below f1 hb, Kd.R_below f2 hb, Kd.R_lower (litR W 38 .u32 [id] (by simp)) hB.size, blk_below f4 hb⟩)
        simp only [putAll, Act.put, List.setIfInBounds_toArray, List.set_cons_zero, List.set_cons_succ]
        try rfl
    refine join_ (σ := Nat × Nat × Nat × Nat × Nat) 12 #[false, true, true, true, false, true, true, true, true, false, false, true, true, true, false, true, true, true, true, false, true, false, false, false, false, false, false] (fun s => [(18, .slice (some ⟨s.1, 0, none⟩) 1 1), (28, .slice (some ⟨s.2.2.1, 0, none⟩) 1 1), (33, .slice (some ⟨s.2.2.2.1, 0, none⟩) 1 1)]) (fun s W => Below w4.heap.size w4 W ∧ W.heap[w.heap.size]? = some (.cells #[.int .u8 ver, .int .u16 an, .int .u16 hold, .int .u32 id, .slice A l.length c] 41 (0, 0)) ∧ (Kd.int .u8).C W (some ⟨s.1, 0, none⟩) 1 [ver] ∧ (Kd.int .u32).R 38 W w4.heap.size (fun _ => True) (.slice (some ⟨s.2.2.1, 0, none⟩) 1 1) [id] ∧ W.heap[s.2.2.2.1]? = some (.cells #[.int .u8 (bs.length : Int)] 5 (0, 0))) ?_ (fun J134 => ?_)
    · rintro ⟨b1, b2, b3, b4, g⟩ W ⟨hB, hm, f1, f3, f4⟩
      refine norm_ (a' := ?_) ?_ ?_
      rotate_left
      · simp only [putAll, Act.put, List.setIfInBounds_toArray, List.set_cons_zero, List.set_cons_succ]
        rfl
      refine two_ (i := 0) (j := 9) (Ni := some 15) (Nj := some 24) #[true, true, true, true, false, true, true, true, true, false, false, true, true, true, false, true, true, true, true, false, true, false, false, false, false, false, false] #[false, true, true, true, false, true, true, true, true, true, false, true, true, true, false, true, true, true, true, false, true, false, false, false, false, false, false] rfl rfl  rfl rfl  (two_of HT_.out (by kernel_rfl)) (by decide) (by decide)  (fun K hK => ?_) (fun K hK => ?_) 
      · refine goes_ Tryd.func75 (by kernel_rfl) rfl #[] (by rfl) rfl rfl (by simp [Act.eval]) ?_
        refine (Lay_calls W).mono ?_
        rintro e W2 ⟨rfl, hL, hb⟩
        refine ⟨_, rfl, ?_⟩
        refine hK.out _ _ (blk_below hm hb) (fun _ => ?_)
        clear hK K
        refine norm_ ?_ (Ja134 (b1, b2, b3, b4, W.heap.size) _ ⟨hB.trans (hb.mono hB.size), blk_below hm hb, IsF.elder hL hB.size (blk_lt f4), Kd.C_below f1 hb, Kd.R_below f3 hb, blk_below f4 hb⟩)
        simp only [putAll, Act.put, List.setIfInBounds_toArray, List.set_cons_zero, List.set_cons_succ]
        try rfl
      · refine value_ (w1 := ?_) (v := ?_) (by rfl) rfl ?_ ?_
        rotate_left 2
        · go_simp
          constructor
          · rfl
          · rfl
        have hb := below_alloc (Below.refl W.heap.size W) (.cells #[.int .u16 an, .int .u16 hold] 37)
        refine hK.out _ _ (blk_below hm hb) (fun _ => ?_)
        clear hK K
        refine norm_ ?_ (J1234 (b1, W.heap.size, b3, b4, g) _ ⟨hB.trans (hb.mono hB.size), blk_below hm hb, Kd.C_below f1 hb, Kd.R_lower (litR W 37 .u16 [an, hold] (by simp)) hB.size, Kd.R_below f3 hb, blk_below f4 hb⟩)
        simp only [putAll, Act.put, List.setIfInBounds_toArray, List.set_cons_zero, List.set_cons_succ]
        try rfl
    refine join_ (σ := Nat × Nat × Nat × Nat × Nat) 12 #[false, true, true, false, false, true, true, true, true, true, false, true, true, true, false, true, true, true, true, false, true, false, false, false, false, false, false] (fun s => [(24, .slice (some ⟨s.2.1, 0, none⟩) 2 2), (28, .slice (some ⟨s.2.2.1, 0, none⟩) 1 1), (33, .slice (some ⟨s.2.2.2.1, 0, none⟩) 1 1)]) (fun s W => Below w4.heap.size w4 W ∧ W.heap[w.heap.size]? = some (.cells #[.int .u8 ver, .int .u16 an, .int .u16 hold, .int .u32 id, .slice A l.length c] 41 (0, 0)) ∧ (Kd.int .u16).R 37 W w4.heap.size (fun _ => True) (.slice (some ⟨s.2.1, 0, none⟩) 2 2) [an, hold] ∧ (Kd.int .u32).R 38 W w4.heap.size (fun _ => True) (.slice (some ⟨s.2.2.1, 0, none⟩) 1 1) [id] ∧ W.heap[s.2.2.2.1]? = some (.cells #[.int .u8 (bs.length : Int)] 5 (0, 0))) ?_ (fun J234 => ?_)
    · rintro ⟨b1, b2, b3, b4, g⟩ W ⟨hB, hm, f2, f3, f4⟩
      refine norm_ (a' := ?_) ?_ ?_
      rotate_left
      · simp only [putAll, Act.put, List.setIfInBounds_toArray, List.set_cons_zero, List.set_cons_succ]
        rfl
      refine two_ (i := 0) (j := 3) (Ni := some 15) (Nj := some 18) #[true, true, true, false, false, true, true, true, true, true, false, true, true, true, false, true, true, true, true, false, true, false, false, false, false, false, false] #[false, true, true, true, false, true, true, true, true, true, false, true, true, true, false, true, true, true, true, false, true, false, false, false, false, false, false] rfl rfl  rfl rfl  (two_of HT_.out (by kernel_rfl)) (by decide) (by decide)  (fun K hK => ?_) (fun K hK => ?_) 
      · refine goes_ Tryd.func75 (by kernel_rfl) rfl #[] (by rfl) rfl rfl (by simp [Act.eval]) ?_
        refine (Lay_calls W).mono ?_
        rintro e W2 ⟨rfl, hL, hb⟩
        refine ⟨_, rfl, ?_⟩
        refine hK.out _ _ (blk_below hm hb) (fun _ => ?_)
        clear hK K
        refine norm_ ?_ (Ja234 (b1, b2, b3, b4, W.heap.size) _ ⟨hB.trans (hb.mono hB.size), blk_below hm hb, IsF.elder hL hB.size (blk_lt f4), Kd.R_below f2 hb, Kd.R_below f3 hb, blk_below f4 hb⟩)
        simp only [putAll, Act.put, List.setIfInBounds_toArray, List.set_cons_zero, List.set_cons_succ]
        try rfl
      · refine value_ (w1 := ?_) (v := ?_) (by rfl) rfl ?_ ?_
        rotate_left 2
        · go_simp
          constructor
          · rfl
          · rfl
        have hb := below_alloc (Below.refl W.heap.size W) (.cells #[.int .u8 ver] 5)
        refine hK.out _ _ (blk_below hm hb) (fun _ => ?_)
        clear hK K
        refine norm_ ?_ (J1234 (W.heap.size, b2, b3, b4, g) _ ⟨hB.trans (hb.mono hB.size), blk_below hm hb, litC (litR W 5 .u8 [ver] (by simp)), Kd.R_below f2 hb, Kd.R_below f3 hb, blk_below f4 hb⟩)
        simp only [putAll, Act.put, List.setIfInBounds_toArray, List.set_cons_zero, List.set_cons_succ]
        try rfl
    refine join_ (σ := Nat × Nat × Nat × Nat × Nat) 13 #[true, true, true, true, false, true, true, true, true, false, false, true, true, false, false, true, true, true, false, false, true, false, false, false, false, false, false] (fun s => [(15, .pointer (some ⟨s.2.2.2.2, 0, none⟩)), (18, .slice (some ⟨s.1, 0, none⟩) 1 1)]) (fun s W => Below w4.heap.size w4 W ∧ W.heap[w.heap.size]? = some (.cells #[.int .u8 ver, .int .u16 an, .int .u16 hold, .int .u32 id, .slice A l.length c] 41 (0, 0)) ∧ IsF W w4.heap.size s.2.2.2.2 w.heap.size ⟨([] : List Int), [], 0⟩ ∧ (Kd.int .u8).C W (some ⟨s.1, 0, none⟩) 1 [ver]) ?_ (fun Ja1 => ?_)
    · rintro ⟨b1, b2, b3, b4, g⟩ W ⟨hB, hm, hG, f1⟩
      refine norm_ (a' := ?_) ?_ ?_
      rotate_left
      · simp only [putAll, Act.put, List.setIfInBounds_toArray, List.set_cons_zero, List.set_cons_succ]
        rfl
      refine four_ (i := 4) (j := 9) (k := 13) (m := 18) (Ni := some 19) (Nj := some 24) (Nk := some 28) (Nm := some 33) #[true, true, true, true, true, true, true, true, true, false, false, true, true, false, false, true, true, true, false, false, true, false, false, false, false, false, false] #[true, true, true, true, false, true, true, true, true, true, false, true, true, false, false, true, true, true, false, false, true, false, false, false, false, false, false] #[true, true, true, true, false, true, true, true, true, false, false, true, true, true, false, true, true, true, false, false, true, false, false, false, false, false, false] #[true, true, true, true, false, true, true, true, true, false, false, true, true, false, false, true, true, true, true, false, true, false, false, false, false, false, false] rfl rfl rfl rfl  rfl rfl rfl rfl  (four_of HT_.out (by kernel_rfl)) (by decide) (by decide) (by decide) (by decide)  (fun K hK => ?_) (fun K hK => ?_) (fun K hK => ?_) (fun K hK => ?_) 
      · refine goes_ Tryd.func76 (by kernel_rfl) rfl #[.pointer (some ⟨g, 0, none⟩), .slice (some ⟨b1, 0, none⟩) 1 1] (by rfl) rfl rfl (by simp [Act.eval]) ?_
        have H := FByte_calls W w4.heap.size g w.heap.size ⟨([] : List Int), [], 0⟩ hG rfl (some ⟨b1, 0, none⟩) 1 [ver] f1 (by simp [twos, two, fours, four]; try omega)
        rw [bytes0] at H
        refine H.mono ?_
        rintro e W2 ⟨rfl, hG2, hk, hkp⟩
        refine ⟨_, rfl, ?_⟩
        refine hK.out _ _ (blk_kt hm hk (by decide)) (fun _ => ?_)
        clear hK K H
        refine norm_ ?_ (Ja1b (b1, b2, b3, b4, g) _ ⟨below_kt (Nat.le_refl _) hB hk, blk_kt hm hk (by decide), hG2⟩)
        simp only [putAll, Act.put, List.setIfInBounds_toArray, List.set_cons_zero, List.set_cons_succ]
        try rfl
      · refine value_ (w1 := ?_) (v := ?_) (by rfl) rfl ?_ ?_
        rotate_left 2
        · go_simp
          constructor
          · rfl
          · rfl
        have hb := below_alloc (Below.refl W.heap.size W) (.cells #[.int .u16 an, .int .u16 hold] 37)
        refine hK.out _ _ (blk_below hm hb) (fun _ => ?_)
        clear hK K
        refine norm_ ?_ (Ja12 (b1, W.heap.size, b3, b4, g) _ ⟨hB.trans (hb.mono hB.size), blk_below hm hb, hG.below hb, Kd.C_below f1 hb, Kd.R_lower (litR W 37 .u16 [an, hold] (by simp)) hB.size⟩)
        simp only [putAll, Act.put, List.setIfInBounds_toArray, List.set_cons_zero, List.set_cons_succ]
        try rfl
      · refine value_ (w1 := ?_) (v := ?_) (by rfl) rfl ?_ ?_
        rotate_left 2
        · go_simp
          constructor
          · rfl
          · rfl
        have hb := below_alloc (Below.refl W.heap.size W) (.cells #[.int .u32 id] 38)
        refine hK.out _ _ (blk_below hm hb) (fun _ => ?_)
        clear hK K
        refine norm_ ?_ (Ja13 (b1, b2, W.heap.size, b4, g) _ ⟨hB.trans (hb.mono hB.size), blk_below hm hb, hG.below hb, Kd.C_below f1 hb, Kd.R_lower (litR W 38 .u32 [id] (by simp)) hB.size⟩)
        simp only [putAll, Act.put, List.setIfInBounds_toArray, List.set_cons_zero, List.set_cons_succ]
        try rfl
      · refine value_ (w1 := ?_) (v := ?_) (by rfl) rfl ?_ ?_
        rotate_left 2
        · go_simp
          constructor
          · rfl
          · rfl
        have hb := below_alloc (Below.refl W.heap.size W) (.cells #[.int .u8 (bs.length : Int)] 5)
        refine hK.out _ _ (blk_below hm hb) (fun _ => ?_)
        clear hK K
        refine norm_ ?_ (Ja14 (b1, b2, b3, W.heap.size, g) _ ⟨hB.trans (hb.mono hB.size), blk_below hm hb, hG.fresh _, Kd.C_below f1 hb, blk_new W (.cells #[.int .u8 (bs.length : Int)] 5)⟩)
        simp only [putAll, Act.put, List.setIfInBounds_toArray, List.set_cons_zero, List.set_cons_succ]
        try rfl
    refine join_ (σ := Nat × Nat × Nat × Nat × Nat) 13 #[true, true, true, false, false, true, true, true, true, true, false, true, true, false, false, true, true, true, false, false, true, false, false, false, false, false, false] (fun s => [(15, .pointer (some ⟨s.2.2.2.2, 0, none⟩)), (24, .slice (some ⟨s.2.1, 0, none⟩) 2 2)]) (fun s W => Below w4.heap.size w4 W ∧ W.heap[w.heap.size]? = some (.cells #[.int .u8 ver, .int .u16 an, .int .u16 hold, .int .u32 id, .slice A l.length c] 41 (0, 0)) ∧ IsF W w4.heap.size s.2.2.2.2 w.heap.size ⟨([] : List Int), [], 0⟩ ∧ (Kd.int .u16).R 37 W w4.heap.size (fun _ => True) (.slice (some ⟨s.2.1, 0, none⟩) 2 2) [an, hold]) ?_ (fun Ja2 => ?_)
    · rintro ⟨b1, b2, b3, b4, g⟩ W ⟨hB, hm, hG, f2⟩
      refine norm_ (a' := ?_) ?_ ?_
      rotate_left
      · simp only [putAll, Act.put, List.setIfInBounds_toArray, List.set_cons_zero, List.set_cons_succ]
        rfl
      refine three_ (i := 3) (j := 13) (k := 18) (Ni := some 18) (Nj := some 28) (Nk := some 33) #[true, true, true, true, false, true, true, true, true, true, false, true, true, false, false, true, true, true, false, false, true, false, false, false, false, false, false] #[true, true, true, false, false, true, true, true, true, true, false, true, true, true, false, true, true, true, false, false, true, false, false, false, false, false, false] #[true, true, true, false, false, true, true, true, true, true, false, true, true, false, false, true, true, true, true, false, true, false, false, false, false, false, false] rfl rfl rfl  rfl rfl rfl  (three_of HT_.out (by kernel_rfl)) (by decide) (by decide) (by decide)  (fun K hK => ?_) (fun K hK => ?_) (fun K hK => ?_) 
      · refine value_ (w1 := ?_) (v := ?_) (by rfl) rfl ?_ ?_
        rotate_left 2
        · go_simp
          constructor
          · rfl
          · rfl
        have hb := below_alloc (Below.refl W.heap.size W) (.cells #[.int .u8 ver] 5)
        refine hK.out _ _ (blk_below hm hb) (fun _ => ?_)
        clear hK K
        refine norm_ ?_ (Ja12 (W.heap.size, b2, b3, b4, g) _ ⟨hB.trans (hb.mono hB.size), blk_below hm hb, hG.below hb, litC (litR W 5 .u8 [ver] (by simp)), Kd.R_below f2 hb⟩)
        simp only [putAll, Act.put, List.setIfInBounds_toArray, List.set_cons_zero, List.set_cons_succ]
        try rfl
      · refine value_ (w1 := ?_) (v := ?_) (by rfl) rfl ?_ ?_
        rotate_left 2
        · go_simp
          constructor
          · rfl
          · rfl
        have hb := below_alloc (Below.refl W.heap.size W) (.cells #[.int .u32 id] 38)
        refine hK.out _ _ (blk_below hm hb) (fun _ => ?_)
        clear hK K
        refine norm_ ?_ (Ja23 (b1, b2, W.heap.size, b4, g) _ ⟨hB.trans (hb.mono hB.size), blk_below hm hb, hG.below hb, Kd.R_below f2 hb, Kd.R_lower (litR W 38 .u32 [id] (by simp)) hB.size⟩)
        simp only [putAll, Act.put, List.setIfInBounds_toArray, List.set_cons_zero, List.set_cons_succ]
        try rfl
      · refine value_ (w1 := ?_) (v := ?_) (by rfl) rfl ?_ ?_
        rotate_left 2
        · go_simp
          constructor
          · rfl
          · rfl
        have hb := below_alloc (Below.refl W.heap.size W) (.cells #[.int .u8 (bs.length : Int)] 5)
        refine hK.out _ _ (blk_below hm hb) (fun _ => ?_)
        clear hK K
        refine norm_ ?_ (Ja24 (b1, b2, b3, W.heap.size, g) _ ⟨hB.trans (hb.mono hB.size), blk_below hm hb, hG.fresh _, Kd.R_below f2 hb, blk_new W (.cells #[.int .u8 (bs.length : Int)] 5)⟩)
        simp only [putAll, Act.put, List.setIfInBounds_toArray, List.set_cons_zero, List.set_cons_succ]
        try rfl
    refine join_ (σ := Nat × Nat × Nat × Nat × Nat) 13 #[true, true, true, false, false, true, true, true, true, false, false, true, true, true, false, true, true, true, false, false, true, false, false, false, false, false, false] (fun s => [(15, .pointer (some ⟨s.2.2.2.2, 0, none⟩)), (28, .slice (some ⟨s.2.2.1, 0, none⟩) 1 1)]) (fun s W => Below w4.heap.size w4 W ∧ W.heap[w.heap.size]? = some (.cells #[.int .u8 ver, .int .u16 an, .int .u16 hold, .int .u32 id, .slice A l.length c] 41 (0, 0)) ∧ IsF W w4.heap.size s.2.2.2.2 w.heap.size ⟨([] : List Int), [], 0⟩ ∧ (Kd.int .u32).R 38 W w4.heap.size (fun _ => True) (.slice (some ⟨s.2.2.1, 0, none⟩) 1 1) [id]) ?_ (fun Ja3 => ?_)
    · rintro ⟨b1, b2, b3, b4, g⟩ W ⟨hB, hm, hG, f3⟩
      refine norm_ (a' := ?_) ?_ ?_
      rotate_left
      · simp only [putAll, Act.put, List.setIfInBounds_toArray, List.set_cons_zero, List.set_cons_succ]
        rfl
      refine three_ (i := 3) (j := 9) (k := 18) (Ni := some 18) (Nj := some 24) (Nk := some 33) #[true, true, true, true, false, true, true, true, true, false, false, true, true, true, false, true, true, true, false, false, true, false, false, false, false, false, false] #[true, true, true, false, false, true, true, true, true, true, false, true, true, true, false, true, true, true, false, false, true, false, false, false, false, false, false] #[true, true, true, false, false, true, true, true, true, false, false, true, true, true, false, true, true, true, true, false, true, false, false, false, false, false, false] rfl rfl rfl  rfl rfl rfl  (three_of HT_.out (by kernel_rfl)) (by decide) (by decide) (by decide)  (fun K hK => ?_) (fun K hK => ?_) (fun K hK => ?_) 
      · refine value_ (w1 := ?_) (v := ?_) (by rfl) rfl ?_ ?_
        rotate_left 2
        · go_simp
          constructor
          · rfl
          · rfl
        have hb := below_alloc (Below.refl W.heap.size W) (.cells #[.int .u8 ver] 5)
        refine hK.out _ _ (blk_below hm hb) (fun _ => ?_)
        clear hK K
        refine norm_ ?_ (Ja13 (W.heap.size, b2, b3, b4, g) _ ⟨hB.trans (hb.mono hB.size), blk_below hm hb, hG.below hb, litC (litR W 5 .u8 [ver] (by simp)), Kd.R_below f3 hb⟩)
        simp only [putAll, Act.put, List.setIfInBounds_toArray, List.set_cons_zero, List.set_cons_succ]
        try rfl
      · refine value_ (w1 := ?_) (v := ?_) (by rfl) rfl ?_ ?_
        rotate_left 2
        · go_simp
          constructor
          · rfl
          · rfl
        have hb := below_alloc (Below.refl W.heap.size W) (.cells #[.int .u16 an, .int .u16 hold] 37)
        refine hK.out _ _ (blk_below hm hb) (fun _ => ?_)
        clear hK K
        refine norm_ ?_ (Ja23 (b1, W.heap.size, b3, b4, g) _ ⟨hB.trans (hb.mono hB.size), blk_below hm hb, hG.below hb, Kd.R_lower (litR W 37 .u16 [an, hold] (by simp)) hB.size, Kd.R_below f3 hb⟩)
        simp only [putAll, Act.put, List.setIfInBounds_toArray, List.set_cons_zero, List.set_cons_succ]
        try rfl
      · refine value_ (w1 := ?_) (v := ?_) (by rfl) rfl ?_ ?_
        rotate_left 2
        · go_simp
          constructor
          · rfl
          · rfl
        have hb := below_alloc (Below.refl W.heap.size W) (.cells #[.int .u8 (bs.length : Int)] 5)
        refine hK.out _ _ (blk_below hm hb) (fun _ => ?_)
        clear hK K
        refine norm_ ?_ (Ja34 (b1, b2, b3, W.heap.size, g) _ ⟨hB.trans (hb.mono hB.size), blk_below hm hb, hG.fresh _, Kd.R_below f3 hb, blk_new W (.cells #[.int .u8 (bs.length : Int)] 5)⟩)
        simp only [putAll, Act.put, List.setIfInBounds_toArray, List.set_cons_zero, List.set_cons_succ]
        try rfl
    refine join_ (σ := Nat × Nat × Nat × Nat × Nat) 13 #[true, true, true, false, false, true, true, true, true, false, false, true, true, false, false, true, true, true, true, false, true, false, false, false, false, false, false] (fun s => [(15, .pointer (some ⟨s.2.2.2.2, 0, none⟩)), (33, .slice (some ⟨s.2.2.2.1, 0, none⟩) 1 1)]) (fun s W => Below w4.heap.size w4 W ∧ W.heap[w.heap.size]? = some (.cells #[.int .u8 ver, .int .u16 an, .int .u16 hold, .int .u32 id, .slice A l.length c] 41 (0, 0)) ∧ IsF W w4.heap.size s.2.2.2.2 s.2.2.2.1 ⟨([] : List Int), [], 0⟩ ∧ W.heap[s.2.2.2.1]? = some (.cells #[.int .u8 (bs.length : Int)] 5 (0, 0))) ?_ (fun Ja4 => ?_)
    · rintro ⟨b1, b2, b3, b4, g⟩ W ⟨hB, hm, hG, f4⟩
      refine norm_ (a' := ?_) ?_ ?_
      rotate_left
      · simp only [putAll, Act.put, List.setIfInBounds_toArray, List.set_cons_zero, List.set_cons_succ]
        rfl
      refine three_ (i := 3) (j := 9) (k := 13) (Ni := some 18) (Nj := some 24) (Nk := some 28) #[true, true, true, true, false, true, true, true, true, false, false, true, true, false, false, true, true, true, true, false, true, false, false, false, false, false, false] #[true, true, true, false, false, true, true, true, true, true, false, true, true, false, false, true, true, true, true, false, true, false, false, false, false, false, false] #[true, true, true, false, false, true, true, true, true, false, false, true, true, true, false, true, true, true, true, false, true, false, false, false, false, false, false] rfl rfl rfl  rfl rfl rfl  (three_of HT_.out (by kernel_rfl)) (by decide) (by decide) (by decide)  (fun K hK => ?_) (fun K hK => ?_) (fun K hK => ?_) 
      · refine value_ (w1 := ?_) (v := ?_) (by rfl) rfl ?_ ?_
        rotate_left 2
        · go_simp
          constructor
          · rfl
          · rfl
        have hb := below_alloc (Below.refl W.heap.size W) (.cells #[.int .u8 ver] 5)
        refine hK.out _ _ (blk_below hm hb) (fun _ => ?_)
        clear hK K
        refine norm_ ?_ (Ja14 (W.heap.size, b2, b3, b4, g) _ ⟨hB.trans (hb.mono hB.size), blk_below hm hb, hG.below hb, litC (litR W 5 .u8 [ver] (by simp)), blk_below f4 hb⟩)
        simp only [putAll, Act.put, List.setIfInBounds_toArray, List.set_cons_zero, List.set_cons_succ]
        try rfl
      · refine value_ (w1 := ?_) (v := ?_) (by rfl) rfl ?_ ?_
        rotate_left 2
        · go_simp
          constructor
          · rfl
          · rfl
        have hb := below_alloc (Below.refl W.heap.size W) (.cells #[.int .u16 an, .int .u16 hold] 37)
        refine hK.out _ _ (blk_below hm hb) (fun _ => ?_)
        clear hK K
        refine norm_ ?_ (Ja24 (b1, W.heap.size, b3, b4, g) _ ⟨hB.trans (hb.mono hB.size), blk_below hm hb, hG.below hb, Kd.R_lower (litR W 37 .u16 [an, hold] (by simp)) hB.size, blk_below f4 hb⟩)
        simp only [putAll, Act.put, List.setIfInBounds_toArray, List.set_cons_zero, List.set_cons_succ]
        try rfl
      · refine value_ (w1 := ?_) (v := ?_) (by rfl) rfl ?_ ?_
        rotate_left 2
        · go_simp
          constructor
          · rfl
          · rfl
        have hb := below_alloc (Below.refl W.heap.size W) (.cells #[.int .u32 id] 38)
        refine hK.out _ _ (blk_below hm hb) (fun _ => ?_)
        clear hK K
        refine norm_ ?_ (Ja34 (b1, b2, W.heap.size, b4, g) _ ⟨hB.trans (hb.mono hB.size), blk_below hm hb, hG.below hb, Kd.R_lower (litR W 38 .u32 [id] (by simp)) hB.size, blk_below f4 hb⟩)
        simp only [putAll, Act.put, List.setIfInBounds_toArray, List.set_cons_zero, List.set_cons_succ]
        try rfl
    refine join_ (σ := Nat × Nat × Nat × Nat × Nat) 13 #[false, true, true, true, false, true, true, true, true, true, false, true, true, false, false, true, true, true, false, false, true, false, false, false, false, false, false] (fun s => [(18, .slice (some ⟨s.1, 0, none⟩) 1 1), (24, .slice (some ⟨s.2.1, 0, none⟩) 2 2)]) (fun s W => Below w4.heap.size w4 W ∧ W.heap[w.heap.size]? = some (.cells #[.int .u8 ver, .int .u16 an, .int .u16 hold, .int .u32 id, .slice A l.length c] 41 (0, 0)) ∧ (Kd.int .u8).C W (some ⟨s.1, 0, none⟩) 1 [ver] ∧ (Kd.int .u16).R 37 W w4.heap.size (fun _ => True) (.slice (some ⟨s.2.1, 0, none⟩) 2 2) [an, hold]) ?_ (fun J12 => ?_)
    · rintro ⟨b1, b2, b3, b4, g⟩ W ⟨hB, hm, f1, f2⟩
      refine norm_ (a' := ?_) ?_ ?_
      rotate_left
      · simp only [putAll, Act.put, List.setIfInBounds_toArray, List.set_cons_zero, List.set_cons_succ]
        rfl
      refine three_ (i := 0) (j := 13) (k := 18) (Ni := some 15) (Nj := some 28) (Nk := some 33) #[true, true, true, true, false, true, true, true, true, true, false, true, true, false, false, true, true, true, false, false, true, false, false, false, false, false, false] #[false, true, true, true, false, true, true, true, true, true, false, true, true, true, false, true, true, true, false, false, true, false, false, false, false, false, false] #[false, true, true, true, false, true, true, true, true, true, false, true, true, false, false, true, true, true, true, false, true, false, false, false, false, false, false] rfl rfl rfl  rfl rfl rfl  (three_of HT_.out (by kernel_rfl)) (by decide) (by decide) (by decide)  (fun K hK => ?_) (fun K hK => ?_) (fun K hK => ?_) 
      · refine goes_ Tryd.func75 (by kernel_rfl) rfl #[] (by rfl) rfl rfl (by simp [Act.eval]) ?_
        refine (Lay_calls W).mono ?_
        rintro e W2 ⟨rfl, hL, hb⟩
        refine ⟨_, rfl, ?_⟩
        refine hK.out _ _ (blk_below hm hb) (fun _ => ?_)
        clear hK K
        refine norm_ ?_ (Ja12 (b1, b2, b3, b4, W.heap.size) _ ⟨hB.trans (hb.mono hB.size), blk_below hm hb, IsF.elder hL hB.size (blk_lt hm), Kd.C_below f1 hb, Kd.R_below f2 hb⟩)
        simp only [putAll, Act.put, List.setIfInBounds_toArray, List.set_cons_zero, List.set_cons_succ]
        try rfl
      · refine value_ (w1 := ?_) (v := ?_) (by rfl) rfl ?_ ?_
        rotate_left 2
        · go_simp
          constructor
          · rfl
          · rfl
        have hb := below_alloc (Below.refl W.heap.size W) (.cells #[.int .u32 id] 38)
        refine hK.out _ _ (blk_below hm hb) (fun _ => ?_)
        clear hK K
        refine norm_ ?_ (J123 (b1, b2, W.heap.size, b4, g) _ ⟨hB.trans (hb.mono hB.size), blk_below hm hb, Kd.C_below f1 hb, Kd.R_below f2 hb, Kd.R_lower (litR W 38 .u32 [id] (by simp)) hB.size⟩)
        simp only [putAll, Act.put, List.setIfInBounds_toArray, List.set_cons_zero, List.set_cons_succ]
        try rfl
      · refine value_ (w1 := ?_) (v := ?_) (by rfl) rfl ?_ ?_
        rotate_left 2
        · go_simp
          constructor
          · rfl
          · rfl
        have hb := below_alloc (Below.refl W.heap.size W) (.cells #[.int .u8 (bs.length : Int)] 5)
        refine hK.out _ _ (blk_below hm hb) (fun _ => ?_)
        clear hK K
        refine norm_ ?_ (J124 (b1, b2, b3, W.heap.size, g) _ ⟨hB.trans (hb.mono hB.size), blk_below hm hb, Kd.C_below f1 hb, Kd.R_below f2 hb, blk_new W (.cells #[.int .u8 (bs.length : Int)] 5)⟩)
        simp only [putAll, Act.put, List.setIfInBounds_toArray, List.set_cons_zero, List.set_cons_succ]
        try rfl
    refine join_ (σ := Nat × Nat × Nat × Nat × Nat) 13 #[false, true, true, true, false, true, true, true, true, false, false, true, true, true, false, true, true, true, false, false, true, false, false, false, false, false, false] (fun s => [(18, .slice (some ⟨s.1, 0, none⟩) 1 1), (28, .slice (some ⟨s.2.2.1, 0, none⟩) 1 1)]) (fun s W => Below w4.heap.size w4 W ∧ W.heap[w.heap.size]? = some (.cells #[.int .u8 ver, .int .u16 an, .int .u16 hold, .int .u32 id, .slice A l.length c] 41 (0, 0)) ∧ (Kd.int .u8).C W (some ⟨s.1, 0, none⟩) 1 [ver] ∧ (Kd.int .u32).R 38 W w4.heap.size (fun _ => True) (.slice (some ⟨s.2.2.1, 0, none⟩) 1 1) [id]) ?_ (fun J13 => ?_)
    · rintro ⟨b1, b2, b3, b4, g⟩ W ⟨hB, hm, f1, f3⟩
      refine norm_ (a' := ?_) ?_ ?_
      rotate_left
      · simp only [putAll, Act.put, List.setIfInBounds_toArray, List.set_cons_zero, List.set_cons_succ]
        rfl
      refine three_ (i := 0) (j := 9) (k := 18) (Ni := some 15) (Nj := some 24) (Nk := some 33) #[true, true, true, true, false, true, true, true, true, false, false, true, true, true, false, true, true, true, false, false, true, false, false, false, false, false, false] #[false, true, true, true, false, true, true, true, true, true, false, true, true, true, false, true, true, true, false, false, true, false, false, false, false, false, false] #[false, true, true, true, false, true, true, true, true, false, false, true, true, true, false, true, true, true, true, false, true, false, false, false, false, false, false] rfl rfl rfl  rfl rfl rfl  (three_of HT_.out (by kernel_rfl)) (by decide) (by decide) (by decide)  (fun K hK => ?_) (fun K hK => ?_) (fun K hK => ?_) 
      · refine goes_ Tryd.func75 (by kernel_rfl) rfl #[] (by rfl) rfl rfl (by simp [Act.eval]) ?_
        refine (Lay_calls W).mono ?_
        rintro e W2 ⟨rfl, hL, hb⟩
        refine ⟨_, rfl, ?_⟩
        refine hK.out _ _ (blk_below hm hb) (fun _ => ?_)
        clear hK K
        refine norm_ ?_ (Ja13 (b1, b2, b3, b4, W.heap.size) _ ⟨hB.trans (hb.mono hB.size), blk_below hm hb, IsF.elder hL hB.size (blk_lt hm), Kd.C_below f1 hb, Kd.R_below f3 hb⟩)
        simp only [putAll, Act.put, List.setIfInBounds_toArray, List.set_cons_zero, List.set_cons_succ]
        try rfl
      · refine value_ (w1 := ?_) (v := ?_) (by rfl) rfl ?_ ?_
        rotate_left 2
        · go_simp
          constructor
          · rfl
          · rfl
        have hb := below_alloc (Below.refl W.heap.size W) (.cells #[.int .u16 an, .int .u16 hold] 37)
        refine hK.out _ _ (blk_below hm hb) (fun _ => ?_)
        clear hK K
        refine norm_ ?_ (J123 (b1, W.heap.size, b3, b4, g) _ ⟨hB.trans (hb.mono hB.size), blk_below hm hb, Kd.C_below f1 hb, Kd.R_lower (litR W 37 .u16 [an, hold] (by simp)) hB.size, Kd.R_below f3 hb⟩)
        simp only [putAll, Act.put, List.setIfInBounds_toArray, List.set_cons_zero, List.set_cons_succ]
        try rfl
      · refine value_ (w1 := ?_) (v := ?_) (by rfl) rfl ?_ ?_
        rotate_left 2
        · go_simp
          constructor
          · rfl
          · rfl
        have hb := below_alloc (Below.refl W.heap.size W) (.cells #[.int .u8 (bs.length : Int)] 5)
        refine hK.out _ _ (blk_below hm hb) (fun _ => ?_)
        clear hK K
        refine norm_ ?_ (J134 (b1, b2, b3, W.heap.size, g) _ ⟨hB.trans (hb.mono hB.size), blk_below hm hb, Kd.C_below f1 hb, Kd.R_below f3 hb, blk_new W (.cells #[.int .u8 (bs.length : Int)] 5)⟩)
        simp only [putAll, Act.put, List.setIfInBounds_toArray, List.set_cons_zero, List.set_cons_succ]
        try rfl
    refine join_ (σ := Nat × Nat × Nat × Nat × Nat) 13 #[false, true, true, true, false, true, true, true, true, false, false, true, true, false, false, true, true, true, true, false, true, false, false, false, false, false, false] (fun s => [(18, .slice (some ⟨s.1, 0, none⟩) 1 1), (33, .slice (some ⟨s.2.2.2.1, 0, none⟩) 1 1)]) (fun s W => Below w4.heap.size w4 W ∧ W.heap[w.heap.size]? = some (.cells #[.int .u8 ver, .int .u16 an, .int .u16 hold, .int .u32 id, .slice A l.length c] 41 (0, 0)) ∧ (Kd.int .u8).C W (some ⟨s.1, 0, none⟩) 1 [ver] ∧ W.heap[s.2.2.2.1]? = some (.cells #[.int .u8 (bs.length : Int)] 5 (0, 0))) ?_ (fun J14 => ?_)
    · rintro ⟨b1, b2, b3, b4, g⟩ W ⟨hB, hm, f1, f4⟩
      refine norm_ (a' := ?_) ?_ ?_
      rotate_left
      · simp only [putAll, Act.put, List.setIfInBounds_toArray, List.set_cons_zero, List.set_cons_succ]
        rfl
      refine three_ (i := 0) (j := 9) (k := 13) (Ni := some 15) (Nj := some 24) (Nk := some 28) #[true, true, true, true, false, true, true, true, true, false, false, true, true, false, false, true, true, true, true, false, true, false, false, false, false, false, false] #[false, true, true, true, false, true, true, true, true, true, false, true, true, false, false, true, true, true, true, false, true, false, false, false, false, false, false] #[false, true, true, true, false, true, true, true, true, false, false, true, true, true, false, true, true, true, true, false, true, false, false, false, false, false, false] rfl rfl rfl  rfl rfl rfl  (three_of HT_.out (by kernel_rfl)) (by decide) (by decide) (by decide)  (fun K hK => ?_) (fun K hK => ?_) (fun K hK => ?_) 
      · refine goes_ Tryd.func75 (by kernel_rfl) rfl #[] (by rfl) rfl rfl (by simp [Act.eval]) ?_
        refine (Lay_calls W).mono ?_
        rintro e W2 ⟨rfl, hL, hb⟩
        refine ⟨_, rfl, ?_⟩
        refine hK.out _ _ (blk_below hm hb) (fun _ => ?_)
        clear hK K
        refine norm_ ?_ (Ja14 (b1, b2, b3, b4, W.heap.size) _ ⟨hB.trans (hb.mono hB.size), blk_below hm hb, IsF.elder hL hB.size (blk_lt f4), Kd.C_below f1 hb, blk_below f4 hb⟩)
        simp only [putAll, Act.put, List.setIfInBounds_toArray, List.set_cons_zero, List.set_cons_succ]
        try rfl
      · refine value_ (w1 := ?_) (v := ?_) (by rfl) rfl ?_ ?_
        rotate_left 2
        · go_simp
          constructor
          · rfl
          · rfl
        have hb := below_alloc (Below.refl W.heap.size W) (.cells #[.int .u16 an, .int .u16 hold] 37)
        refine hK.out _ _ (blk_below hm hb) (fun _ => ?_)
        clear hK K
        refine norm_ ?_ (J124 (b1, W.heap.size, b3, b4, g) _ ⟨hB.trans (hb.mono hB.size), blk_below hm hb, Kd.C_below f1 hb, Kd.R_lower (litR W 37 .u16 [an, hold] (by simp)) hB.size, blk_below f4 hb⟩)
        simp only [putAll, Act.put, List.setIfInBounds_toArray, List.set_cons_zero, List.set_cons_succ]
        try rfl
      · refine value_ (w1 := ?_) (v := ?_) (by rfl) rfl ?_ ?_
        rotate_left 2
        · go_simp
          constructor
          · rfl
          · rfl
        have hb := below_alloc (Below.refl W.heap.size W) (.cells #[.int .u32 id] 38)
        refine hK.out _ _ (blk_below hm hb) (fun _ => ?_)
        clear hK K
        refine norm_ ?_ (J134 (b1, b2, W.heap.size, b4, g) _ ⟨hB.trans (hb.mono hB.size), blk_below hm hb, Kd.C_below f1 hb, Kd.R_lower (litR W 38 .u32 [id] (by simp)) hB.size, blk_below f4 hb⟩)
        simp only [putAll, Act.put, List.setIfInBounds_toArray, List.set_cons_zero, List.set_cons_succ]
        try rfl
    refine join_ (σ := Nat × Nat × Nat × Nat × Nat) 13 #[false, true, true, false, false, true, true, true, true, true, false, true, true, true, false, true, true, true, false, false, true, false, false, false, false, false, false] (fun s => [(24, .slice (some ⟨s.2.1, 0, none⟩) 2 2), (28, .slice (some ⟨s.2.2.1, 0, none⟩) 1 1)]) (fun s W => Below w4.heap.size w4 W ∧ W.heap[w.heap.size]? = some (.cells #[.int .u8 ver, .int .u16 an, .int .u16 hold, .int .u32 id, .slice A l.length c] 41 (0, 0)) ∧ (Kd.int .u16).R 37 W w4.heap.size (fun _ => True) (.slice (some ⟨s.2.1, 0, none⟩) 2 2) [an, hold] ∧ (Kd.int .u32).R 38 W w4.heap.size (fun _ => True) (.slice (some ⟨s.2.2.1, 0, none⟩) 1 1) [id]) ?_ (fun J23 => ?_)
    · rintro ⟨b1, b2, b3, b4, g⟩ W ⟨hB, hm, f2, f3⟩
      refine norm_ (a' := ?_) ?_ ?_
      rotate_left
      · simp only [putAll, Act.put, List.setIfInBounds_toArray, List.set_cons_zero, List.set_cons_succ]
        rfl
      refine three_ (i := 0) (j := 3) (k := 18) (Ni := some 15) (Nj := some 18) (Nk := some 33) #[true, true, true, false, false, true, true, true, true, true, false, true, true, true, false, true, true, true, false, false, true, false, false, false, false, false, false] #[false, true, true, true, false, true, true, true, true, true, false, true, true, true, false, true, true, true, false, false, true, false, false, false, false, false, false] #[false, true, true, false, false, true, true, true, true, true, false, true, true, true, false, true, true, true, true, false, true, false, false, false, false, false, false] rfl rfl rfl  rfl rfl rfl  (three_of HT_.out (by kernel_rfl)) (by decide) (by decide) (by decide)  (fun K hK => ?_) (fun K hK => ?_) (fun K hK => ?_) 
      · refine goes_ Tryd.func75 (by kernel_rfl) rfl #[] (by rfl) rfl rfl (by simp [Act.eval]) ?_
        refine (Lay_calls W).mono ?_
        rintro e W2 ⟨rfl, hL, hb⟩
        refine ⟨_, rfl, ?_⟩
        refine hK.out _ _ (blk_below hm hb) (fun _ => ?_)
        clear hK K
        refine norm_ ?_ (Ja23 (b1, b2, b3, b4, W.heap.size) _ ⟨hB.trans (hb.mono hB.size), blk_below hm hb, IsF.elder hL hB.size (blk_lt hm), Kd.R_below f2 hb, Kd.R_below f3 hb⟩)
        simp only [putAll, Act.put, List.setIfInBounds_toArray, List.set_cons_zero, List.set_cons_succ]
        try rfl
      · refine value_ (w1 := ?_) (v := ?_) (by rfl) rfl ?_ ?_
        rotate_left 2
        · go_simp
          constructor
          · rfl
          · rfl
        have hb := below_alloc (Below.refl W.heap.size W) (.cells #[.int .u8 ver] 5)
        refine hK.out _ _ (blk_below hm hb) (fun _ => ?_)
        clear hK K
        refine norm_ ?_ (J123 (W.heap.size, b2, b3, b4, g) _ ⟨hB.trans (hb.mono hB.size), blk_below hm hb, litC (litR W 5 .u8 [ver] (by simp)), Kd.R_below f2 hb, Kd.R_below f3 hb⟩)
        simp only [putAll, Act.put, List.setIfInBounds_toArray, List.set_cons_zero, List.set_cons_succ]
        try rfl
      · refine value_ (w1 := ?_) (v := ?_) (by rfl) rfl ?_ ?_
        rotate_left 2
        · go_simp
          constructor
          · rfl
          · rfl
        have hb := below_alloc (Below.refl W.heap.size W) (.cells #[.int .u8 (bs.length : Int)] 5)
        refine hK.out _ _ (blk_below hm hb) (fun _ => ?_)
        clear hK K
        refine norm_ ?_ (J234 (b1, b2, b3, W.heap.size, g) _ ⟨hB.trans (hb.mono hB.size), blk_below hm hb, Kd.R_below f2 hb, Kd.R_below f3 hb, blk_new W (.cells #[.int .u8 (bs.length : Int)] 5)⟩)
        simp only [putAll, Act.put, List.setIfInBounds_toArray, List.set_cons_zero, List.set_cons_succ]
        try rfl
    refine join_ (σ := Nat × Nat × Nat × Nat × Nat) 13 #[false, true, true, false, false, true, true, true, true, true, false, true, true, false, false, true, true, true, true, false, true, false, false, false, false, false, false] (fun s => [(24, .slice (some ⟨s.2.1, 0, none⟩) 2 2), (33, .slice (some ⟨s.2.2.2.1, 0, none⟩) 1 1)]) (fun s W => Below w4.heap.size w4 W ∧ W.heap[w.heap.size]? = some (.cells #[.int .u8 ver, .int .u16 an, .int .u16 hold, .int .u32 id, .slice A l.length c] 41 (0, 0)) ∧ (Kd.int .u16).R 37 W w4.heap.size (fun _ => True) (.slice (some ⟨s.2.1, 0, none⟩) 2 2) [an, hold] ∧ W.heap[s.2.2.2.1]? = some (.cells #[.int .u8 (bs.length : Int)] 5 (0, 0))) ?_ (fun J24 => ?_)
    · rintro ⟨b1, b2, b3, b4, g⟩ W ⟨hB, hm, f2, f4⟩
      refine norm_ (a' := ?_) ?_ ?_
      rotate_left
      · simp only [putAll, Act.put, List.setIfInBounds_toArray, List.set_cons_zero, List.set_cons_succ]
        rfl
      refine three_ (i := 0) (j := 3) (k := 13) (Ni := some 15) (Nj := some 18) (Nk := some 28) #[true, true, true, false, false, true, true, true, true, true, false, true, true, false, false, true, true, true, true, false, true, false, false, false, false, false, false] #[false, true, true, true, false, true, true, true, true, true, false, true, true, false, false, true, true, true, true, false, true, false, false, false, false, false, false] #[false, true, true, false, false, true, true, true, true, true, false, true, true, true, false, true, true, true, true, false, true, false, false, false, false, false, false] rfl rfl rfl  rfl rfl rfl  (three_of HT_.out (by kernel_rfl)) (by decide) (by decide) (by decide)  (fun K hK => ?_) (fun K hK => ?_) (fun K hK => ?_) 
      · refine goes_ Tryd.func75 (by kernel_rfl) rfl #[] (by rfl) rfl rfl (by simp [Act.eval]) ?_
        refine (Lay_calls W).mono ?_
        rintro e W2 ⟨rfl, hL, hb⟩
        refine ⟨_, rfl, ?_⟩
        refine hK.out _ _ (blk_below hm hb) (fun _ => ?_)
        clear hK K
        refine norm_ ?_ (Ja24 (b1, b2, b3, b4, W.heap.size) _ ⟨hB.trans (hb.mono hB.size), blk_below hm hb, IsF.elder hL hB.size (blk_lt f4), Kd.R_below f2 hb, blk_below f4 hb⟩)
        simp only [putAll, Act.put, List.setIfInBounds_toArray, List.set_cons_zero, List.set_cons_succ]
        try rfl
      · refine value_ (w1 := ?_) (v := ?_) (by rfl) rfl ?_ ?_
        rotate_left 2
        · go_simp
          constructor
          · rfl
          · rfl
        have hb := below_alloc (Below.refl W.heap.size W) (.cells #[.int .u8 ver] 5)
        refine hK.out _ _ (blk_below hm hb) (fun _ => ?_)
        clear hK K
        refine norm_ ?_ (J124 (W.heap.size, b2, b3, b4, g) _ ⟨hB.trans (hb.mono hB.size), blk_below hm hb, litC (litR W 5 .u8 [ver] (by simp)), Kd.R_below f2 hb, blk_below f4 hb⟩)
        simp only [putAll, Act.put, List.setIfInBounds_toArray, List.set_cons_zero, List.set_cons_succ]
        try rfl
      · refine value_ (w1 := ?_) (v := ?_) (by rfl) rfl ?_ ?_
        rotate_left 2
        · go_simp
          constructor
          · rfl
          · rfl
        have hb := below_alloc (Below.refl W.heap.size W) (.cells #[.int .u32 id] 38)
        refine hK.out _ _ (blk_below hm hb) (fun _ => ?_)
        clear hK K
        refine norm_ ?_ (J234 (b1, b2, W.heap.size, b4, g) _ ⟨hB.trans (hb.mono hB.size), blk_below hm hb, Kd.R_below f2 hb, Kd.R_lower (litR W 38 .u32 [id] (by simp)) hB.size, blk_below f4 hb⟩)
        simp only [putAll, Act.put, List.setIfInBounds_toArray, List.set_cons_zero, List.set_cons_succ]
        try rfl
    refine join_ (σ := Nat × Nat × Nat × Nat × Nat) 13 #[false, true, true, false, false, true, true, true, true, false, false, true, true, true, false, true, true, true, true, false, true, false, false, false, false, false, false] (fun s => [(28, .slice (some ⟨s.2.2.1, 0, none⟩) 1 1), (33, .slice (some ⟨s.2.2.2.1, 0, none⟩) 1 1)]) (fun s W => Below w4.heap.size w4 W ∧ W.heap[w.heap.size]? = some (.cells #[.int .u8 ver, .int .u16 an, .int .u16 hold, .int .u32 id, .slice A l.length c] 41 (0, 0)) ∧ (Kd.int .u32).R 38 W w4.heap.size (fun _ => True) (.slice (some ⟨s.2.2.1, 0, none⟩) 1 1) [id] ∧ W.heap[s.2.2.2.1]? = some (.cells #[.int .u8 (bs.length : Int)] 5 (0, 0))) ?_ (fun J34 => ?_)
    · rintro ⟨b1, b2, b3, b4, g⟩ W ⟨hB, hm, f3, f4⟩
      refine norm_ (a' := ?_) ?_ ?_
      rotate_left
      · simp only [putAll, Act.put, List.setIfInBounds_toArray, List.set_cons_zero, List.set_cons_succ]
        rfl
      refine three_ (i := 0) (j := 3) (k := 9) (Ni := some 15) (Nj := some 18) (Nk := some 24) #[true, true, true, false, false, true, true, true, true, false, false, true, true, true, false, true, true, true, true, false, true, false, false, false, false, false, false] #[false, true, true, true, false, true, true, true, true, false, false, true, true, true, false, true, true, true, true, false, true, false, false, false, false, false, false] #[false, true, true, false, false, true, true, true, true, true, false, true, true, true, false, true, true, true, true, false, true, false, false, false, false, false, false] rfl rfl rfl  rfl rfl rfl  (three_of HT_.out (by kernel_rfl)) (by decide) (by decide) (by decide)  (fun K hK => ?_) (fun K hK => ?_) (fun K hK => ?_) 
      · refine goes_ Tryd.func75 (by kernel_rfl) rfl #[] (by rfl) rfl rfl (by simp [Act.eval]) ?_
        refine (Lay_calls W).mono ?_
        rintro e W2 ⟨rfl, hL, hb⟩
        refine ⟨_, rfl, ?_⟩
        refine hK.out _ _ (blk_below hm hb) (fun _ => ?_)
        clear hK K
        refine norm_ ?_ (Ja34 (b1, b2, b3, b4, W.heap.size) _ ⟨hB.trans (hb.mono hB.size), blk_below hm hb, IsF.elder hL hB.size (blk_lt f4), Kd.R_below f3 hb, blk_below f4 hb⟩)
        simp only [putAll, Act.put, List.setIfInBounds_toArray, List.set_cons_zero, List.set_cons_succ]
        try rfl
      · refine value_ (w1 := ?_) (v := ?_) (by rfl) rfl ?_ ?_
        rotate_left 2
        · go_simp
          constructor
          · rfl
          · rfl
        have hb := below_alloc (Below.refl W.heap.size W) (.cells #[.int .u8 ver] 5)
        refine hK.out _ _ (blk_below hm hb) (fun _ => ?_)
        clear hK K
        refine norm_ ?_ (J134 (W.heap.size, b2, b3, b4, g) _ ⟨hB.trans (hb.mono hB.size), blk_below hm hb, litC (litR W 5 .u8 [ver] (by simp)), Kd.R_below f3 hb, blk_below f4 hb⟩)
        simp only [putAll, Act.put, List.setIfInBounds_toArray, List.set_cons_zero, List.set_cons_succ]
        try rfl
      · refine value_ (w1 := ?_) (v := ?_) (by rfl) rfl ?_ ?_
        rotate_left 2
        · go_simp
          constructor
          · rfl
          · rfl
        have hb := below_alloc (Below.refl W.heap.size W) (.cells #[.int .u16 an, .int .u16 hold] 37)
        refine hK.out _ _ (blk_below hm hb) (fun _ => ?_)
        clear hK K
        refine norm_ ?_ (J234 (b1, W.heap.size, b3, b4, g) _ ⟨hB.trans (hb.mono hB.size), blk_below hm hb, Kd.R_lower (litR W 37 .u16 [an, hold] (by simp)) hB.size, Kd.R_below f3 hb, blk_below f4 hb⟩)
        simp only [putAll, Act.put, List.setIfInBounds_toArray, List.set_cons_zero, List.set_cons_succ]
        try rfl
    refine join_ (σ := Nat × Nat × Nat × Nat × Nat) 14 #[true, true, true, false, false, true, true, true, true, false, false, true, true, false, false, true, true, true, false, false, true, false, false, false, false, false, false] (fun s => [(15, .pointer (some ⟨s.2.2.2.2, 0, none⟩))]) (fun s W => Below w4.heap.size w4 W ∧ W.heap[w.heap.size]? = some (.cells #[.int .u8 ver, .int .u16 an, .int .u16 hold, .int .u32 id, .slice A l.length c] 41 (0, 0)) ∧ IsF W w4.heap.size s.2.2.2.2 w.heap.size ⟨([] : List Int), [], 0⟩) ?_ (fun Ja => ?_)
    · rintro ⟨b1, b2, b3, b4, g⟩ W ⟨hB, hm, hG⟩
      refine norm_ (a' := ?_) ?_ ?_
      rotate_left
      · simp only [putAll, Act.put, List.setIfInBounds_toArray, List.set_cons_zero, List.set_cons_succ]
        rfl
      refine four_ (i := 3) (j := 9) (k := 13) (m := 18) (Ni := some 18) (Nj := some 24) (Nk := some 28) (Nm := some 33) #[true, true, true, true, false, true, true, true, true, false, false, true, true, false, false, true, true, true, false, false, true, false, false, false, false, false, false] #[true, true, true, false, false, true, true, true, true, true, false, true, true, false, false, true, true, true, false, false, true, false, false, false, false, false, false] #[true, true, true, false, false, true, true, true, true, false, false, true, true, true, false, true, true, true, false, false, true, false, false, false, false, false, false] #[true, true, true, false, false, true, true, true, true, false, false, true, true, false, false, true, true, true, true, false, true, false, false, false, false, false, false] rfl rfl rfl rfl  rfl rfl rfl rfl  (four_of HT_.out (by kernel_rfl)) (by decide) (by decide) (by decide) (by decide)  (fun K hK => ?_) (fun K hK => ?_) (fun K hK => ?_) (fun K hK => ?_) 
      · refine value_ (w1 := ?_) (v := ?_) (by rfl) rfl ?_ ?_
        rotate_left 2
        · go_simp
          constructor
          · rfl
          · rfl
        have hb := below_alloc (Below.refl W.heap.size W) (.cells #[.int .u8 ver] 5)
        refine hK.out _ _ (blk_below hm hb) (fun _ => ?_)
        clear hK K
        refine norm_ ?_ (Ja1 (W.heap.size, b2, b3, b4, g) _ ⟨hB.trans (hb.mono hB.size), blk_below hm hb, hG.below hb, litC (litR W 5 .u8 [ver] (by simp))⟩)
        simp only [putAll, Act.put, List.setIfInBounds_toArray, List.set_cons_zero, List.set_cons_succ]
        try rfl
      · refine value_ (w1 := ?_) (v := ?_) (by rfl) rfl ?_ ?_
        rotate_left 2
        · go_simp
          constructor
          · rfl
          · rfl
        have hb := below_alloc (Below.refl W.heap.size W) (.cells #[.int .u16 an, .int .u16 hold] 37)
        refine hK.out _ _ (blk_below hm hb) (fun _ => ?_)
        clear hK K
        refine norm_ ?_ (Ja2 (b1, W.heap.size, b3, b4, g) _ ⟨hB.trans (hb.mono hB.size), blk_below hm hb, hG.below hb, Kd.R_lower (litR W 37 .u16 [an, hold] (by simp)) hB.size⟩)
        simp only [putAll, Act.put, List.setIfInBounds_toArray, List.set_cons_zero, List.set_cons_succ]
        try rfl
      · refine value_ (w1 := ?_) (v := ?_) (by rfl) rfl ?_ ?_
        rotate_left 2
        · go_simp
          constructor
          · rfl
          · rfl
        have hb := below_alloc (Below.refl W.heap.size W) (.cells #[.int .u32 id] 38)
        refine hK.out _ _ (blk_below hm hb) (fun _ => ?_)
        clear hK K
        refine norm_ ?_ (Ja3 (b1, b2, W.heap.size, b4, g) _ ⟨hB.trans (hb.mono hB.size), blk_below hm hb, hG.below hb, Kd.R_lower (litR W 38 .u32 [id] (by simp)) hB.size⟩)
        simp only [putAll, Act.put, List.setIfInBounds_toArray, List.set_cons_zero, List.set_cons_succ]
        try rfl
      · refine value_ (w1 := ?_) (v := ?_) (by rfl) rfl ?_ ?_
        rotate_left 2
        · go_simp
          constructor
          · rfl
          · rfl
        have hb := below_alloc (Below.refl W.heap.size W) (.cells #[.int .u8 (bs.length : Int)] 5)
        refine hK.out _ _ (blk_below hm hb) (fun _ => ?_)
        clear hK K
        refine norm_ ?_ (Ja4 (b1, b2, b3, W.heap.size, g) _ ⟨hB.trans (hb.mono hB.size), blk_below hm hb, hG.fresh _, blk_new W (.cells #[.int .u8 (bs.length : Int)] 5)⟩)
        simp only [putAll, Act.put, List.setIfInBounds_toArray, List.set_cons_zero, List.set_cons_succ]
        try rfl
    refine join_ (σ := Nat × Nat × Nat × Nat × Nat) 14 #[false, true, true, true, false, true, true, true, true, false, false, true, true, false, false, true, true, true, false, false, true, false, false, false, false, false, false] (fun s => [(18, .slice (some ⟨s.1, 0, none⟩) 1 1)]) (fun s W => Below w4.heap.size w4 W ∧ W.heap[w.heap.size]? = some (.cells #[.int .u8 ver, .int .u16 an, .int .u16 hold, .int .u32 id, .slice A l.length c] 41 (0, 0)) ∧ (Kd.int .u8).C W (some ⟨s.1, 0, none⟩) 1 [ver]) ?_ (fun J1 => ?_)
    · rintro ⟨b1, b2, b3, b4, g⟩ W ⟨hB, hm, f1⟩
      refine norm_ (a' := ?_) ?_ ?_
      rotate_left
      · simp only [putAll, Act.put, List.setIfInBounds_toArray, List.set_cons_zero, List.set_cons_succ]
        rfl
      refine four_ (i := 0) (j := 9) (k := 13) (m := 18) (Ni := some 15) (Nj := some 24) (Nk := some 28) (Nm := some 33) #[true, true, true, true, false, true, true, true, true, false, false, true, true, false, false, true, true, true, false, false, true, false, false, false, false, false, false] #[false, true, true, true, false, true, true, true, true, true, false, true, true, false, false, true, true, true, false, false, true, false, false, false, false, false, false] #[false, true, true, true, false, true, true, true, true, false, false, true, true, true, false, true, true, true, false, false, true, false, false, false, false, false, false] #[false, true, true, true, false, true, true, true, true, false, false, true, true, false, false, true, true, true, true, false, true, false, false, false, false, false, false] rfl rfl rfl rfl  rfl rfl rfl rfl  (four_of HT_.out (by kernel_rfl)) (by decide) (by decide) (by decide) (by decide)  (fun K hK => ?_) (fun K hK => ?_) (fun K hK => ?_) (fun K hK => ?_) 
      · refine goes_ Tryd.func75 (by kernel_rfl) rfl #[] (by rfl) rfl rfl (by simp [Act.eval]) ?_
        refine (Lay_calls W).mono ?_
        rintro e W2 ⟨rfl, hL, hb⟩
        refine ⟨_, rfl, ?_⟩
        refine hK.out _ _ (blk_below hm hb) (fun _ => ?_)
        clear hK K
        refine norm_ ?_ (Ja1 (b1, b2, b3, b4, W.heap.size) _ ⟨hB.trans (hb.mono hB.size), blk_below hm hb, IsF.elder hL hB.size (blk_lt hm), Kd.C_below f1 hb⟩)
        simp only [putAll, Act.put, List.setIfInBounds_toArray, List.set_cons_zero, List.set_cons_succ]
        try rfl
      · refine value_ (w1 := ?_) (v := ?_) (by rfl) rfl ?_ ?_
        rotate_left 2
        · go_simp
          constructor
          · rfl
          · rfl
        have hb := below_alloc (Below.refl W.heap.size W) (.cells #[.int .u16 an, .int .u16 hold] 37)
        refine hK.out _ _ (blk_below hm hb) (fun _ => ?_)
        clear hK K
        refine norm_ ?_ (J12 (b1, W.heap.size, b3, b4, g) _ ⟨hB.trans (hb.mono hB.size), blk_below hm hb, Kd.C_below f1 hb, Kd.R_lower (litR W 37 .u16 [an, hold] (by simp)) hB.size⟩)
        simp only [putAll, Act.put, List.setIfInBounds_toArray, List.set_cons_zero, List.set_cons_succ]
        try rfl
      · refine value_ (w1 := ?_) (v := ?_) (by rfl) rfl ?_ ?_
        rotate_left 2
        · go_simp
          constructor
          · rfl
          · rfl
        have hb := below_alloc (Below.refl W.heap.size W) (.cells #[.int .u32 id] 38)
        refine hK.out _ _ (blk_below hm hb) (fun _ => ?_)
        clear hK K
        refine norm_ ?_ (J13 (b1, b2, W.heap.size, b4, g) _ ⟨hB.trans (hb.mono hB.size), blk_below hm hb, Kd.C_below f1 hb, Kd.R_lower (litR W 38 .u32 [id] (by simp)) hB.size⟩)
        simp only [putAll, Act.put, List.setIfInBounds_toArray, List.set_cons_zero, List.set_cons_succ]
        try rfl
      · refine value_ (w1 := ?_) (v := ?_) (by rfl) rfl ?_ ?_
        rotate_left 2
        · go_simp
          constructor
          · rfl
          · rfl
        have hb := below_alloc (Below.refl W.heap.size W) (.cells #[.int .u8 (bs.length : Int)] 5)
        refine hK.out _ _ (blk_below hm hb) (fun _ => ?_)
        clear hK K
        refine norm_ ?_ (J14 (b1, b2, b3, W.heap.size, g) _ ⟨hB.trans (hb.mono hB.size), blk_below hm hb, Kd.C_below f1 hb, blk_new W (.cells #[.int .u8 (bs.length : Int)] 5)⟩)
        simp only [putAll, Act.put, List.setIfInBounds_toArray, List.set_cons_zero, List.set_cons_succ]
        try rfl
    refine join_ (σ := Nat × Nat × Nat × Nat × Nat) 14 #[false, true, true, false, false, true, true, true, true, true, false, true, true, false, false, true, true, true, false, false, true, false, false, false, false, false, false] (fun s => [(24, .slice (some ⟨s.2.1, 0, none⟩) 2 2)]) (fun s W => Below w4.heap.size w4 W ∧ W.heap[w.heap.size]? = some (.cells #[.int .u8 ver, .int .u16 an, .int .u16 hold, .int .u32 id, .slice A l.length c] 41 (0, 0)) ∧ (Kd.int .u16).R 37 W w4.heap.size (fun _ => True) (.slice (some ⟨s.2.1, 0, none⟩) 2 2) [an, hold]) ?_ (fun J2 => ?_)
    · rintro ⟨b1, b2, b3, b4, g⟩ W ⟨hB, hm, f2⟩
      refine norm_ (a' := ?_) ?_ ?_
      rotate_left
      · simp only [putAll, Act.put, List.setIfInBounds_toArray, List.set_cons_zero, List.set_cons_succ]
        rfl
      refine four_ (i := 0) (j := 3) (k := 13) (m := 18) (Ni := some 15) (Nj := some 18) (Nk := some 28) (Nm := some 33) #[true, true, true, false, false, true, true, true, true, true, false, true, true, false, false, true, true, true, false, false, true, false, false, false, false, false, false] #[false, true, true, true, false, true, true, true, true, true, false, true, true, false, false, true, true, true, false, false, true, false, false, false, false, false, false] #[false, true, true, false, false, true, true, true, true, true, false, true, true, true, false, true, true, true, false, false, true, false, false, false, false, false, false] #[false, true, true, false, false, true, true, true, true, true, false, true, true, false, false, true, true, true, true, false, true, false, false, false, false, false, false] rfl rfl rfl rfl  rfl rfl rfl rfl  (four_of HT_.out (by kernel_rfl)) (by decide) (by decide) (by decide) (by decide)  (fun K hK => ?_) (fun K hK => ?_) (fun K hK => ?_) (fun K hK => ?_) 
      · refine goes_ Tryd.func75 (by kernel_rfl) rfl #[] (by rfl) rfl rfl (by simp [Act.eval]) ?_
        refine (Lay_calls W).mono ?_
        rintro e W2 ⟨rfl, hL, hb⟩
        refine ⟨_, rfl, ?_⟩
        refine hK.out _ _ (blk_below hm hb) (fun _ => ?_)
        clear hK K
        refine norm_ ?_ (Ja2 (b1, b2, b3, b4, W.heap.size) _ ⟨hB.trans (hb.mono hB.size), blk_below hm hb, IsF.elder hL hB.size (blk_lt hm), Kd.R_below f2 hb⟩)
        simp only [putAll, Act.put, List.setIfInBounds_toArray, List.set_cons_zero, List.set_cons_succ]
        try rfl
      · refine value_ (w1 := ?_) (v := ?_) (by rfl) rfl ?_ ?_
        rotate_left 2
        · go_simp
          constructor
          · rfl
          · rfl
        have hb := below_alloc (Below.refl W.heap.size W) (.cells #[.int .u8 ver] 5)
        refine hK.out _ _ (blk_below hm hb) (fun _ => ?_)
        clear hK K
        refine norm_ ?_ (J12 (W.heap.size, b2, b3, b4, g) _ ⟨hB.trans (hb.mono hB.size), blk_below hm hb, litC (litR W 5 .u8 [ver] (by simp)), Kd.R_below f2 hb⟩)
        simp only [putAll, Act.put, List.setIfInBounds_toArray, List.set_cons_zero, List.set_cons_succ]
        try rfl
      · refine value_ (w1 := ?_) (v := ?_) (by rfl) rfl ?_ ?_
        rotate_left 2
        · go_simp
          constructor
          · rfl
          · rfl
        have hb := below_alloc (Below.refl W.heap.size W) (.cells #[.int .u32 id] 38)
        refine hK.out _ _ (blk_below hm hb) (fun _ => ?_)
        clear hK K
        refine norm_ ?_ (J23 (b1, b2, W.heap.size, b4, g) _ ⟨hB.trans (hb.mono hB.size), blk_below hm hb, Kd.R_below f2 hb, Kd.R_lower (litR W 38 .u32 [id] (by simp)) hB.size⟩)
        simp only [putAll, Act.put, List.setIfInBounds_toArray, List.set_cons_zero, List.set_cons_succ]
        try rfl
      · refine value_ (w1 := ?_) (v := ?_) (by rfl) rfl ?_ ?_
        rotate_left 2
        · go_simp
          constructor
          · rfl
          · rfl
        have hb := below_alloc (Below.refl W.heap.size W) (.cells #[.int .u8 (bs.length : Int)] 5)
        refine hK.out _ _ (blk_below hm hb) (fun _ => ?_)
        clear hK K
        refine norm_ ?_ (J24 (b1, b2, b3, W.heap.size, g) _ ⟨hB.trans (hb.mono hB.size), blk_below hm hb, Kd.R_below f2 hb, blk_new W (.cells #[.int .u8 (bs.length : Int)] 5)⟩)
        simp only [putAll, Act.put, List.setIfInBounds_toArray, List.set_cons_zero, List.set_cons_succ]
        try rfl
    refine join_ (σ := Nat × Nat × Nat × Nat × Nat) 14 #[false, true, true, false, false, true, true, true, true, false, false, true, true, true, false, true, true, true, false, false, true, false, false, false, false, false, false] (fun s => [(28, .slice (some ⟨s.2.2.1, 0, none⟩) 1 1)]) (fun s W => Below w4.heap.size w4 W ∧ W.heap[w.heap.size]? = some (.cells #[.int .u8 ver, .int .u16 an, .int .u16 hold, .int .u32 id, .slice A l.length c] 41 (0, 0)) ∧ (Kd.int .u32).R 38 W w4.heap.size (fun _ => True) (.slice (some ⟨s.2.2.1, 0, none⟩) 1 1) [id]) ?_ (fun J3 => ?_)
    · rintro ⟨b1, b2, b3, b4, g⟩ W ⟨hB, hm, f3⟩
      refine norm_ (a' := ?_) ?_ ?_
      rotate_left
      · simp only [putAll, Act.put, List.setIfInBounds_toArray, List.set_cons_zero, List.set_cons_succ]
        rfl
      refine four_ (i := 0) (j := 3) (k := 9) (m := 18) (Ni := some 15) (Nj := some 18) (Nk := some 24) (Nm := some 33) #[true, true, true, false, false, true, true, true, true, false, false, true, true, true, false, true, true, true, false, false, true, false, false, false, false, false, false] #[false, true, true, true, false, true, true, true, true, false, false, true, true, true, false, true, true, true, false, false, true, false, false, false, false, false, false] #[false, true, true, false, false, true, true, true, true, true, false, true, true, true, false, true, true, true, false, false, true, false, false, false, false, false, false] #[false, true, true, false, false, true, true, true, true, false, false, true, true, true, false, true, true, true, true, false, true, false, false, false, false, false, false] rfl rfl rfl rfl  rfl rfl rfl rfl  (four_of HT_.out (by kernel_rfl)) (by decide) (by decide) (by decide) (by decide)  (fun K hK => ?_) (fun K hK => ?_) (fun K hK => ?_) (fun K hK => ?_) 
      · refine goes_ Tryd.func75 (by kernel_rfl) rfl #[] (by rfl) rfl rfl (by simp [Act.eval]) ?_
        refine (Lay_calls W).mono ?_
        rintro e W2 ⟨rfl, hL, hb⟩
        refine ⟨_, rfl, ?_⟩
        refine hK.out _ _ (blk_below hm hb) (fun _ => ?_)
        clear hK K
        refine norm_ ?_ (Ja3 (b1, b2, b3, b4, W.heap.size) _ ⟨hB.trans (hb.mono hB.size), blk_below hm hb, IsF.elder hL hB.size (blk_lt hm), Kd.R_below f3 hb⟩)
        simp only [putAll, Act.put, List.setIfInBounds_toArray, List.set_cons_zero, List.set_cons_succ]
        try rfl
      · refine value_ (w1 := ?_) (v := ?_) (by rfl) rfl ?_ ?_
        rotate_left 2
        · go_simp
          constructor
          · rfl
          · rfl
        have hb := below_alloc (Below.refl W.heap.size W) (.cells #[.int .u8 ver] 5)
        refine hK.out _ _ (blk_below hm hb) (fun _ => ?_)
        clear hK K
        refine norm_ ?_ (J13 (W.heap.size, b2, b3, b4, g) _ ⟨hB.trans (hb.mono hB.size), blk_below hm hb, litC (litR W 5 .u8 [ver] (by simp)), Kd.R_below f3 hb⟩)
        simp only [putAll, Act.put, List.setIfInBounds_toArray, List.set_cons_zero, List.set_cons_succ]
        try rfl
      · refine value_ (w1 := ?_) (v := ?_) (by rfl) rfl ?_ ?_
        rotate_left 2
        · go_simp
          constructor
          · rfl
          · rfl
        have hb := below_alloc (Below.refl W.heap.size W) (.cells #[.int .u16 an, .int .u16 hold] 37)
        refine hK.out _ _ (blk_below hm hb) (fun _ => ?_)
        clear hK K
        refine norm_ ?_ (J23 (b1, W.heap.size, b3, b4, g) _ ⟨hB.trans (hb.mono hB.size), blk_below hm hb, Kd.R_lower (litR W 37 .u16 [an, hold] (by simp)) hB.size, Kd.R_below f3 hb⟩)
        simp only [putAll, Act.put, List.setIfInBounds_toArray, List.set_cons_zero, List.set_cons_succ]
        try rfl
      · refine value_ (w1 := ?_) (v := ?_) (by rfl) rfl ?_ ?_
        rotate_left 2
        · go_simp
          constructor
          · rfl
          · rfl
        have hb := below_alloc (Below.refl W.heap.size W) (.cells #[.int .u8 (bs.length : Int)] 5)
        refine hK.out _ _ (blk_below hm hb) (fun _ => ?_)
        clear hK K
        refine norm_ ?_ (J34 (b1, b2, b3, W.heap.size, g) _ ⟨hB.trans (hb.mono hB.size), blk_below hm hb, Kd.R_below f3 hb, blk_new W (.cells #[.int .u8 (bs.length : Int)] 5)⟩)
        simp only [putAll, Act.put, List.setIfInBounds_toArray, List.set_cons_zero, List.set_cons_succ]
        try rfl
    refine join_ (σ := Nat × Nat × Nat × Nat × Nat) 14 #[false, true, true, false, false, true, true, true, true, false, false, true, true, false, false, true, true, true, true, false, true, false, false, false, false, false, false] (fun s => [(33, .slice (some ⟨s.2.2.2.1, 0, none⟩) 1 1)]) (fun s W => Below w4.heap.size w4 W ∧ W.heap[w.heap.size]? = some (.cells #[.int .u8 ver, .int .u16 an, .int .u16 hold, .int .u32 id, .slice A l.length c] 41 (0, 0)) ∧ W.heap[s.2.2.2.1]? = some (.cells #[.int .u8 (bs.length : Int)] 5 (0, 0))) ?_ (fun J4 => ?_)
    · rintro ⟨b1, b2, b3, b4, g⟩ W ⟨hB, hm, f4⟩
      refine norm_ (a' := ?_) ?_ ?_
      rotate_left
      · simp only [putAll, Act.put, List.setIfInBounds_toArray, List.set_cons_zero, List.set_cons_succ]
        rfl
      refine four_ (i := 0) (j := 3) (k := 9) (m := 13) (Ni := some 15) (Nj := some 18) (Nk := some 24) (Nm := some 28) #[true, true, true, false, false, true, true, true, true, false, false, true, true, false, false, true, true, true, true, false, true, false, false, false, false, false, false] #[false, true, true, true, false, true, true, true, true, false, false, true, true, false, false, true, true, true, true, false, true, false, false, false, false, false, false] #[false, true, true, false, false, true, true, true, true, true, false, true, true, false, false, true, true, true, true, false, true, false, false, false, false, false, false] #[false, true, true, false, false, true, true, true, true, false, false, true, true, true, false, true, true, true, true, false, true, false, false, false, false, false, false] rfl rfl rfl rfl  rfl rfl rfl rfl  (four_of HT_.out (by kernel_rfl)) (by decide) (by decide) (by decide) (by decide)  (fun K hK => ?_) (fun K hK => ?_) (fun K hK => ?_) (fun K hK => ?_) 
      · refine goes_ Tryd.func75 (by kernel_rfl) rfl #[] (by rfl) rfl rfl (by simp [Act.eval]) ?_
        refine (Lay_calls W).mono ?_
        rintro e W2 ⟨rfl, hL, hb⟩
        refine ⟨_, rfl, ?_⟩
        refine hK.out _ _ (blk_below hm hb) (fun _ => ?_)
        clear hK K
        refine norm_ ?_ (Ja4 (b1, b2, b3, b4, W.heap.size) _ ⟨hB.trans (hb.mono hB.size), blk_below hm hb, IsF.elder hL hB.size (blk_lt f4), blk_below f4 hb⟩)
        simp only [putAll, Act.put, List.setIfInBounds_toArray, List.set_cons_zero, List.set_cons_succ]
        try rfl
      · refine value_ (w1 := ?_) (v := ?_) (by rfl) rfl ?_ ?_
        rotate_left 2
        · go_simp
          constructor
          · rfl
          · rfl
        have hb := below_alloc (Below.refl W.heap.size W) (.cells #[.int .u8 ver] 5)
        refine hK.out _ _ (blk_below hm hb) (fun _ => ?_)
        clear hK K
        refine norm_ ?_ (J14 (W.heap.size, b2, b3, b4, g) _ ⟨hB.trans (hb.mono hB.size), blk_below hm hb, litC (litR W 5 .u8 [ver] (by simp)), blk_below f4 hb⟩)
        simp only [putAll, Act.put, List.setIfInBounds_toArray, List.set_cons_zero, List.set_cons_succ]
        try rfl
      · refine value_ (w1 := ?_) (v := ?_) (by rfl) rfl ?_ ?_
        rotate_left 2
        · go_simp
          constructor
          · rfl
          · rfl
        have hb := below_alloc (Below.refl W.heap.size W) (.cells #[.int .u16 an, .int .u16 hold] 37)
        refine hK.out _ _ (blk_below hm hb) (fun _ => ?_)
        clear hK K
        refine norm_ ?_ (J24 (b1, W.heap.size, b3, b4, g) _ ⟨hB.trans (hb.mono hB.size), blk_below hm hb, Kd.R_lower (litR W 37 .u16 [an, hold] (by simp)) hB.size, blk_below f4 hb⟩)
        simp only [putAll, Act.put, List.setIfInBounds_toArray, List.set_cons_zero, List.set_cons_succ]
        try rfl
      · refine value_ (w1 := ?_) (v := ?_) (by rfl) rfl ?_ ?_
        rotate_left 2
        · go_simp
          constructor
          · rfl
          · rfl
        have hb := below_alloc (Below.refl W.heap.size W) (.cells #[.int .u32 id] 38)
        refine hK.out _ _ (blk_below hm hb) (fun _ => ?_)
        clear hK K
        refine norm_ ?_ (J34 (b1, b2, W.heap.size, b4, g) _ ⟨hB.trans (hb.mono hB.size), blk_below hm hb, Kd.R_lower (litR W 38 .u32 [id] (by simp)) hB.size, blk_below f4 hb⟩)
        simp only [putAll, Act.put, List.setIfInBounds_toArray, List.set_cons_zero, List.set_cons_succ]
        try rfl
    refine join_ (σ := Nat × Nat × Nat × Nat × Nat) 15 #[false, true, true, false, false, true, true, true, true, false, false, true, true, false, false, true, true, true, false, false, true, false, false, false, false, false, false] (fun s => []) (fun s W => Below w4.heap.size w4 W ∧ W.heap[w.heap.size]? = some (.cells #[.int .u8 ver, .int .u16 an, .int .u16 hold, .int .u32 id, .slice A l.length c] 41 (0, 0))) ?_ (fun J => ?_)
    · rintro ⟨b1, b2, b3, b4, g⟩ W ⟨hB, hm⟩
      refine norm_ (a' := ?_) ?_ ?_
      rotate_left
      · simp only [putAll, Act.put, List.setIfInBounds_toArray, List.set_cons_zero, List.set_cons_succ]
        rfl
      refine five_ (i := 0) (j := 3) (k := 9) (m := 13) (n := 18) (Ni := some 15) (Nj := some 18) (Nk := some 24) (Nm := some 28) (Nn := some 33) #[true, true, true, false, false, true, true, true, true, false, false, true, true, false, false, true, true, true, false, false, true, false, false, false, false, false, false] #[false, true, true, true, false, true, true, true, true, false, false, true, true, false, false, true, true, true, false, false, true, false, false, false, false, false, false] #[false, true, true, false, false, true, true, true, true, true, false, true, true, false, false, true, true, true, false, false, true, false, false, false, false, false, false] #[false, true, true, false, false, true, true, true, true, false, false, true, true, true, false, true, true, true, false, false, true, false, false, false, false, false, false] #[false, true, true, false, false, true, true, true, true, false, false, true, true, false, false, true, true, true, true, false, true, false, false, false, false, false, false] rfl rfl rfl rfl rfl  rfl rfl rfl rfl rfl  (five_of HT_.out (by kernel_rfl)) (by decide) (by decide) (by decide) (by decide) (by decide)  (fun K hK => ?_) (fun K hK => ?_) (fun K hK => ?_) (fun K hK => ?_) (fun K hK => ?_) 
      · refine goes_ Tryd.func75 (by kernel_rfl) rfl #[] (by rfl) rfl rfl (by simp [Act.eval]) ?_
        refine (Lay_calls W).mono ?_
        rintro e W2 ⟨rfl, hL, hb⟩
        refine ⟨_, rfl, ?_⟩
        refine hK.out _ _ (blk_below hm hb) (fun _ => ?_)
        clear hK K
        refine norm_ ?_ (Ja (b1, b2, b3, b4, W.heap.size) _ ⟨hB.trans (hb.mono hB.size), blk_below hm hb, IsF.elder hL hB.size (blk_lt hm)⟩)
        simp only [putAll, Act.put, List.setIfInBounds_toArray, List.set_cons_zero, List.set_cons_succ]
        try rfl
      · refine value_ (w1 := ?_) (v := ?_) (by rfl) rfl ?_ ?_
        rotate_left 2
        · go_simp
          constructor
          · rfl
          · rfl
        have hb := below_alloc (Below.refl W.heap.size W) (.cells #[.int .u8 ver] 5)
        refine hK.out _ _ (blk_below hm hb) (fun _ => ?_)
        clear hK K
        refine norm_ ?_ (J1 (W.heap.size, b2, b3, b4, g) _ ⟨hB.trans (hb.mono hB.size), blk_below hm hb, litC (litR W 5 .u8 [ver] (by simp))⟩)
        simp only [putAll, Act.put, List.setIfInBounds_toArray, List.set_cons_zero, List.set_cons_succ]
        try rfl
      · refine value_ (w1 := ?_) (v := ?_) (by rfl) rfl ?_ ?_
        rotate_left 2
        · go_simp
          constructor
          · rfl
          · rfl
        have hb := below_alloc (Below.refl W.heap.size W) (.cells #[.int .u16 an, .int .u16 hold] 37)
        refine hK.out _ _ (blk_below hm hb) (fun _ => ?_)
        clear hK K
        refine norm_ ?_ (J2 (b1, W.heap.size, b3, b4, g) _ ⟨hB.trans (hb.mono hB.size), blk_below hm hb, Kd.R_lower (litR W 37 .u16 [an, hold] (by simp)) hB.size⟩)
        simp only [putAll, Act.put, List.setIfInBounds_toArray, List.set_cons_zero, List.set_cons_succ]
        try rfl
      · refine value_ (w1 := ?_) (v := ?_) (by rfl) rfl ?_ ?_
        rotate_left 2
        · go_simp
          constructor
          · rfl
          · rfl
        have hb := below_alloc (Below.refl W.heap.size W) (.cells #[.int .u32 id] 38)
        refine hK.out _ _ (blk_below hm hb) (fun _ => ?_)
        clear hK K
        refine norm_ ?_ (J3 (b1, b2, W.heap.size, b4, g) _ ⟨hB.trans (hb.mono hB.size), blk_below hm hb, Kd.R_lower (litR W 38 .u32 [id] (by simp)) hB.size⟩)
        simp only [putAll, Act.put, List.setIfInBounds_toArray, List.set_cons_zero, List.set_cons_succ]
        try rfl
      · refine value_ (w1 := ?_) (v := ?_) (by rfl) rfl ?_ ?_
        rotate_left 2
        · go_simp
          constructor
          · rfl
          · rfl
        have hb := below_alloc (Below.refl W.heap.size W) (.cells #[.int .u8 (bs.length : Int)] 5)
        refine hK.out _ _ (blk_below hm hb) (fun _ => ?_)
        clear hK K
        refine norm_ ?_ (J4 (b1, b2, b3, W.heap.size, g) _ ⟨hB.trans (hb.mono hB.size), blk_below hm hb, blk_new W (.cells #[.int .u8 (bs.length : Int)] 5)⟩)
        simp only [putAll, Act.put, List.setIfInBounds_toArray, List.set_cons_zero, List.set_cons_succ]
        try rfl
    exact J (0, 0, 0, 0, 0) _ ⟨Below.refl _ _, hm⟩
  · rw [if_neg he]
    have n0 : (e0 != 0) = true := bne_iff_ne.2 he
    go_enter Tryd.func41, Tryd.ntmps41
    go_wp2_with fail
    refine HC.out.mono ?_
    rintro e w2 ⟨v4, rfl, hv4, hb⟩
    replace HB := HB.trans (hb.mono HB.size)
    obtain ⟨A4, c4, rfl, hl4, hCb⟩ := Kd.R_reads hv4
    go_wp2
    exact bodyPost_ret (v := .tuple #[.slice none 0 0, .int .i64 e0]) (by simp [results, Tryd.results41, go_sem]) rfl ⟨_, rfl, Kd.R_nil _ _ _ _ _, HB⟩
end Go.Proofs.YthafedmlbialiaaDoor
