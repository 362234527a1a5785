/-
  The walks of a reader's methods, fourth part: blocks.
-/
import Derived.Test.YthafedmlbialiaaDoorR2
namespace Go.Proofs.YthafedmlbialiaaDoor
open Go.RowKit Go.Proofs.YthafedmlbialiaaDoorW.PrintWords Go.Proofs.YthafedmlbialiaaDoorW.PrintLast Go.Proofs.YthafedmlbialiaaDoorW.PrintMore
set_option linter.unusedVariables false
set_option linter.unusedSimpArgs false

theorem Rdr.Ok.opened {r : Rdr} (ok : r.Ok) {n : Int} (h0 : 0 ≤ n) (h1 : n ≤ r.left) (he : r.e = 0) (hf : r.ends.length < 1000000) : ({ r with ends := r.ends ++ [r.at_ + n] } : Rdr).Ok := by
  have hm := ok.took h0 h1 he
  refine ⟨ok.len, by simp, ok.lo, ?_, ?_, by simp; omega, ok.byte⟩
  · intro x hx
    rcases List.mem_append.1 hx with hx | hx
    · exact ok.hi x hx
    · rw [List.mem_singleton.1 hx]
      exact ⟨by show r.at_ ≤ _; omega, Int.le_trans (hm.hi _ ok.last_mem).1 (ok.hi _ ok.last_mem).2⟩
  · refine List.pairwise_append.2 ⟨ok.down, by simp, fun x hx y hy => ?_⟩
    rw [List.mem_singleton.1 hy]
    exact (hm.hi x hx).1

/-- A block of n bytes is opened. -/
def Rdr.opened (r : Rdr) (n : Int) : Rdr := if (r.has n).e = 0 then { r with ends := r.ends ++ [r.at_ + n] } else r.has n

set_option maxHeartbeats 1600000 in
set_option maxRecDepth 100000 in
theorem Open_calls (w : World) (B g : Nat) (r : Rdr) (n : Int) (h : IsR w B g r) (hf : r.ends.length < 1000000) :
    Calls Tryd.prog 59 #[.pointer (some ⟨g, 0, none⟩), .int .i64 n] w fun e w' => e = .returned (.tuple #[]) ∧ IsR w' B g (r.opened n) ∧ KT B [121, 3] w w' := by
  by_cases h0 : (r.has n).e = 0
  case neg =>
    have n0 : ((r.has n).e == 0) = false := by simp [h0]
    have hr : r.opened n = r.has n := if_neg h0
    rw [hr]
    clear h0 hr
    go_enter Tryd.func59, Tryd.ntmps59
    go_wp2_with fail
    refine (has_calls _ B g r n h).mono ?_
    rintro e w1 ⟨rfl, h1, k1⟩
    go_wp2
    go_end0
    exact ⟨rfl, h1, k1.mono (Nat.le_refl _) (by simp)⟩
  case pos =>
    have n0 : ((r.has n).e == 0) = true := by simp [h0]
    have hr : r.opened n = { r with ends := r.ends ++ [r.at_ + n] } := if_pos h0
    obtain ⟨hh, he0, hn0, hn1⟩ := Rdr.has_zero n h0
    rw [hr]
    have hc := has_calls w B g r n h
    rw [hh] at hc n0
    have ok := h.ok
    have hbd := ok.left_bd
    have hlo := ok.lo
    have hlen := ok.len
    have hhi := (ok.hi _ ok.last_mem)
    have hle : r.at_ + n ≤ r.b.length := by
      unfold Rdr.left at hn1
      rw [if_pos he0] at hn1
      omega
    have s1 : IntKind.i64.wrap (r.at_ + n) = r.at_ + n := IntWalk.i64_in _ (by omega)
    have ok2 := ok.opened hn0 hn1 he0 hf
    clear hr hh h0 he0
    go_enter Tryd.func59, Tryd.ntmps59
    go_wp2_with fail
    refine hc.mono ?_
    rintro e w1 ⟨rfl, h1, k1⟩
    obtain ⟨bv, ev, hg, hB, hb, he, _⟩ := id h1
    obtain ⟨A, c, rfl, hlc, hC⟩ := Kd.R_reads he
    have c2 := (blk_cell hg 2)
    have c1 := (blk_cell hg 1)
    have f2 := (blk_frozen hg 2)
    simp at c2 c1
    go_wp2_with fail
    refine start_ (n := 16) (S := fun w' => w'.cell? ⟨g, 2, none⟩ = some (.slice A r.ends.length c) ∧ w'.cell? ⟨g, 1, none⟩ = some (.int .i64 r.at_)) (ds := [12, 15]) #[false, false, false, false, false, false, false, false, false, false, false, false, false, false, false, false] (by kernel_rfl) rfl rfl (⟨c2, c1⟩) (fun hHeld => ?_)
    replace hg := blk_drew hg
    replace he := Kd.R_drew he
    replace hb := Kd.R_drew hb
    replace k1 := k1.drew
    generalize w1.drew = w2 at hg he hb k1 hHeld ⊢
    have hsz := Nat.lt_of_le_of_lt hB (blk_lt hg)
    refine pure_ (i := 0) (N := (some 7)) (v := ?_) (a' := ?_) #[true, false, false, false, false, false, false, false, false, false, false, false, false, false, false, false] rfl rfl (by kernel_rfl) (fun _ _ _ h => h) (Or.inl ⟨by rfl, ?_⟩) ?_ ?_
    rotate_left
    · intro w'
      go_simp
      with_reducible rfl
    rotate_left
    · simp only [Act.put, List.setIfInBounds_toArray, List.set_cons_zero, List.set_cons_succ, i64_w, i32_w]
      rfl
    refine pure_ (i := 1) (N := (some 8)) (v := ?_) (a' := ?_) #[true, true, false, false, false, false, false, false, false, false, false, false, false, false, false, false] rfl rfl (by kernel_rfl) (fun _ _ _ h => h) (Or.inl ⟨by rfl, ?_⟩) ?_ ?_
    rotate_left
    · intro w'
      go_simp
      with_reducible rfl
    rotate_left
    · simp only [Act.put, List.setIfInBounds_toArray, List.set_cons_zero, List.set_cons_succ, i64_w, i32_w]
      rfl
    refine pure_ (i := 2) (N := (some 9)) (v := ?_) (a' := ?_) #[true, true, true, false, false, false, false, false, false, false, false, false, false, false, false, false] rfl rfl (by kernel_rfl) (fun _ _ _ h => h) (Or.inl ⟨by rfl, ?_⟩) ?_ ?_
    rotate_left
    · intro w'
      go_simp
      with_reducible rfl
    rotate_left
    · simp only [Act.put, List.setIfInBounds_toArray, List.set_cons_zero, List.set_cons_succ, i64_w, i32_w]
      rfl
    refine pure_ (i := 3) (N := (some 10)) (v := ?_) (a' := ?_) #[true, true, true, true, false, false, false, false, false, false, false, false, false, false, false, false] rfl rfl (by kernel_rfl) (fun _ _ _ h => h) (Or.inl ⟨by rfl, ?_⟩) ?_ ?_
    rotate_left
    · intro w'
      go_simp
      with_reducible rfl
    rotate_left
    · simp only [Act.put, List.setIfInBounds_toArray, List.set_cons_zero, List.set_cons_succ, i64_w, i32_w]
      rfl
    refine take_ (i := 4) (N := (some 11)) (v := ?_) (a' := ?_) #[true, true, true, true, true, false, false, false, false, false, false, false, false, false, false, false] rfl rfl (by kernel_rfl) (fun _ _ _ h => h) (Or.inl ⟨by rfl, ?_⟩) hHeld ?_ ?_
    rotate_left
    · rintro w' ⟨s0, s1⟩
      go_simp
      with_reducible rfl
    rotate_left
    · simp only [Act.put, List.setIfInBounds_toArray, List.set_cons_zero, List.set_cons_succ, i64_w, i32_w]
      rfl
    refine pure_ (i := 5) (N := (some 12)) (v := ?_) (a' := ?_) #[true, true, true, true, true, true, false, false, false, false, false, false, false, false, false, false] rfl rfl (by kernel_rfl) (fun _ _ _ h => h) (Or.inl ⟨by rfl, ?_⟩) ?_ ?_
    rotate_left
    · intro w'
      go_simp
      with_reducible rfl
    rotate_left
    · simp only [Act.put, List.setIfInBounds_toArray, List.set_cons_zero, List.set_cons_succ, i64_w, i32_w]
      rfl
    refine pure_ (i := 6) (N := (some 13)) (v := ?_) (a' := ?_) #[true, true, true, true, true, true, true, false, false, false, false, false, false, false, false, false] rfl rfl (by kernel_rfl) (fun _ _ _ h => h) (Or.inl ⟨by rfl, ?_⟩) ?_ ?_
    rotate_left
    · intro w'
      go_simp
      with_reducible rfl
    rotate_left
    · simp only [Act.put, List.setIfInBounds_toArray, List.set_cons_zero, List.set_cons_succ, i64_w, i32_w]
      rfl
    refine pure_ (i := 7) (N := (some 14)) (v := ?_) (a' := ?_) #[true, true, true, true, true, true, true, true, false, false, false, false, false, false, false, false] rfl rfl (by kernel_rfl) (fun _ _ _ h => h) (Or.inl ⟨by rfl, ?_⟩) ?_ ?_
    rotate_left
    · intro w'
      go_simp
      with_reducible rfl
    rotate_left
    · simp only [Act.put, List.setIfInBounds_toArray, List.set_cons_zero, List.set_cons_succ, i64_w, i32_w]
      rfl
    refine take_ (i := 8) (N := (some 15)) (v := ?_) (a' := ?_) #[true, true, true, true, true, true, true, true, true, false, false, false, false, false, false, false] rfl rfl (by kernel_rfl) (fun _ _ _ h => h) (Or.inl ⟨by rfl, ?_⟩) hHeld ?_ ?_
    rotate_left
    · rintro w' ⟨s0, s1⟩
      go_simp
      with_reducible rfl
    rotate_left
    · simp only [Act.put, List.setIfInBounds_toArray, List.set_cons_zero, List.set_cons_succ, i64_w, i32_w]
      rfl
    refine pure_ (i := 9) (N := (some 16)) (v := ?_) (a' := ?_) #[true, true, true, true, true, true, true, true, true, true, false, false, false, false, false, false] rfl rfl (by kernel_rfl) (fun _ _ _ h => h) (Or.inl ⟨by rfl, ?_⟩) ?_ ?_
    rotate_left
    · intro w'
      go_simp
      with_reducible rfl
    rotate_left
    · simp only [Act.put, List.setIfInBounds_toArray, List.set_cons_zero, List.set_cons_succ, i64_w, i32_w]
      rfl
    refine pure_ (i := 10) (N := (some 17)) (v := ?_) (a' := ?_) #[true, true, true, true, true, true, true, true, true, true, true, false, false, false, false, false] rfl rfl (by kernel_rfl) (fun _ _ _ h => h) (Or.inl ⟨by rfl, ?_⟩) ?_ ?_
    rotate_left
    · intro w'
      go_simp
      with_reducible rfl
    rotate_left
    · simp only [Act.put, List.setIfInBounds_toArray, List.set_cons_zero, List.set_cons_succ, i64_w, i32_w]
      rfl
    refine one_ (i := 11) (N := (some 18)) #[true, true, true, true, true, true, true, true, true, true, true, true, false, false, false, false] rfl rfl (by kernel_rfl) (by decide) (fun K hK => ?_)
    refine value_ (w1 := ?_) (v := ?_) (by rfl) rfl ?_ ?_
    rotate_left 2
    · go_simp
      constructor
      · rfl
      · rfl
    refine hK.out _ _ (⟨cell_alloc hHeld.1 _, cell_alloc hHeld.2 _⟩) (fun hHeld => ?_)
    clear hK K
    refine norm_ (a' := ?_) ?_ ?_
    rotate_left
    · show Act.put _ (some 18) _ = _
      simp only [Act.put, List.setIfInBounds_toArray, List.set_cons_zero, List.set_cons_succ, i64_w, i32_w]
      rfl
    refine last_ (i := 12) (N := (some 19)) #[true, true, true, true, true, true, true, true, true, true, true, true, true, false, false, false] rfl rfl (by kernel_rfl) (by decide) (fun K hK => ?_)
    refine Kd.R_append_step (Kd.int .i64) (w0 := w2) B (by rfl) (.tmp 11) (.tmp 18) 119 3 (.int .i64 0) 8 rfl Tryd.underlying119 info3 rfl (by decide) (by omega) (.slice A r.ends.length c) r.ends (r.at_ + n) [.int .i64 (r.at_ + n)] (fun _ => True) (fun _ => False) rfl rfl rfl (fun _ h => h.elim) (fun _ _ => trivial) he (Below.refl _ _) (by omega) (by omega) ?_
    intro ev1 w3 he1 _ hg1 _
    obtain ⟨A3, c3, rfl⟩ := Kd.R_slice he1
    have hgx := blk_grown hg hg1 (Kd.R_ne he hg (by decide))
    have hbx := Kd.R_over hb he (by decide) hg1
    have kx := KT.grown (ts := [121, 3]) (k1.mono (Nat.le_refl _) (by simp)) hg1 (fun k hk => ⟨Kd.R_base he k hk, 3, by simp, R_tyB he k hk⟩)
    clear hg1 hHeld he hg hb k1
    have f2 := (blk_frozen hgx 2)
    have c2 := (blk_cell hgx 2)
    simp at c2
    refine hK.out _ _ ?_
    clear hK K
    refine norm_ (a' := ?_) ?_ ?_
    rotate_left
    · show Act.put _ (some 19) _ = _
      simp only [Act.put, List.setIfInBounds_toArray, List.set_cons_zero, List.set_cons_succ, i64_w, i32_w]
      rfl
    refine pure_ (i := 13) (N := (some 20)) (v := ?_) (a' := ?_) #[true, true, true, true, true, true, true, true, true, true, true, true, true, true, false, false] rfl rfl (by kernel_rfl) (fun _ _ _ h => h) (Or.inl ⟨by rfl, ?_⟩) ?_ ?_
    rotate_left
    · intro w'
      go_simp
      with_reducible rfl
    rotate_left
    · simp only [Act.put, List.setIfInBounds_toArray, List.set_cons_zero, List.set_cons_succ, i64_w, i32_w]
      rfl
    refine pure_ (i := 14) (N := (some 21)) (v := ?_) (a' := ?_) #[true, true, true, true, true, true, true, true, true, true, true, true, true, true, true, false] rfl rfl (by kernel_rfl) (fun _ _ _ h => h) (Or.inl ⟨by rfl, ?_⟩) ?_ ?_
    rotate_left
    · intro w'
      go_simp
      with_reducible rfl
    rotate_left
    · simp only [Act.put, List.setIfInBounds_toArray, List.set_cons_zero, List.set_cons_succ, i64_w, i32_w]
      rfl
    refine last_ (i := 15) (N := none) #[true, true, true, true, true, true, true, true, true, true, true, true, true, true, true, true] rfl rfl (by kernel_rfl) (by decide) (fun K hK => ?_)
    refine skip_ (w1 := ?_) (by rfl) rfl ?_ ?_
    rotate_left
    · go_simp
      with_reducible rfl
    refine hK.out _ _ ?_
    clear hK K
    refine done_ (by kernel_rfl) ?_
    go_end0
    refine ⟨rfl, ?_, ?_⟩
    · exact ⟨bv, _, blk_put hgx 2 _ (by simp), hB, Kd.R_set hbx hgx (by decide) 2 _, Kd.R_set he1 hgx (by decide) 2 _, ok2⟩
    · exact kx.setCell hB ⟨_, _, hgx⟩ (by simp) _

/-- Is a block open? Else ErrUse is noted. -/
def Rdr.within (r : Rdr) : Rdr := if r.ends.length = 1 then r.fail 26 else r

set_option maxHeartbeats 800000 in
theorem within_calls (w : World) (B g : Nat) (r : Rdr) (h : IsR w B g r) :
    Calls Tryd.prog 90 #[.pointer (some ⟨g, 0, none⟩)] w fun e w' => e = .returned (.bool (r.within.e == 0)) ∧ IsR w' B g r.within ∧ KT B [121] w w' := by
  by_cases hl : r.ends.length = 1
  · have n0 : (((r.ends.length : Int) - 1) == 0) = true := by simp [hl]
    have hh : r.within = r.fail 26 := if_pos hl
    rw [hh]
    clear hl hh
    go_enter Tryd.func90, Tryd.ntmps90
    go_wp2_with fail
    refine (Deep_calls _ B g r h).mono ?_
    rintro e w1 ⟨rfl, rfl⟩
    go_wp2_with fail
    refine (Fail_calls _ B g r 26 h).mono ?_
    rintro e w1 ⟨rfl, h1, k1⟩
    go_wp2_with (go_at_call 60; refine (Err_calls _ B g _ h1).mono ?_; rintro e w' ⟨rfl, rfl⟩)
    go_ret
    exact ⟨rfl, h1, k1⟩
  · have n0 : (((r.ends.length : Int) - 1) == 0) = false := by
      rw [beq_eq_false_iff_ne]
      omega
    have hh : r.within = r := if_neg hl
    rw [hh]
    clear hl hh
    go_enter Tryd.func90, Tryd.ntmps90
    go_wp2_with fail
    refine (Deep_calls _ B g r h).mono ?_
    rintro e w1 ⟨rfl, rfl⟩
    go_wp2_with (go_at_call 60; refine (Err_calls _ B g _ h).mono ?_; rintro e w' ⟨rfl, rfl⟩)
    go_ret
    exact ⟨rfl, h, KT.refl _ _ _⟩

/-- What Close notes. -/
def Rdr.shutE (r : Rdr) : Rdr := if r.within.e = 0 ∧ 0 < r.within.left then r.within.fail 5 else r.within
/-- The innermost block is closed. -/
def Rdr.closed (r : Rdr) : Rdr := if r.shutE.e = 0 then { r.shutE with ends := r.shutE.ends.dropLast } else r.shutE

theorem Rdr.fail_e {r : Rdr} {x : Int} (hx : x ≠ 0) : (r.fail x).e ≠ 0 := by
  unfold Rdr.fail
  split <;> assumption
theorem Rdr.shutE_zero {r : Rdr} (h : r.shutE.e = 0) : r.shutE = r ∧ r.ends.length ≠ 1 ∧ r.e = 0 ∧ r.left ≤ 0 := by
  unfold Rdr.shutE at h ⊢
  split at h
  · exact absurd h (Rdr.fail_e (by decide))
  · rename_i h1
    rw [if_neg h1]
    by_cases hl : r.ends.length = 1
    · have hh : r.within = r.fail 26 := if_pos hl
      rw [hh] at h
      exact absurd h (Rdr.fail_e (by decide))
    · have hh : r.within = r := if_neg hl
      rw [hh] at h h1 ⊢
      exact ⟨rfl, hl, h, by omega⟩

/-- The first part of Close. -/
theorem Rdr.Ok.closed {r : Rdr} (ok : r.Ok) (hl : r.ends.length ≠ 1) : ({ r with ends := r.ends.take (r.ends.length - 1) } : Rdr).Ok := by
  have hn := ok.nn
  refine ⟨ok.len, ?_, ok.lo, fun x hx => ok.hi x (List.mem_of_mem_take hx), ok.down.sublist (List.take_sublist _ _), ?_, ok.byte⟩
  · show 0 < (r.ends.take (r.ends.length - 1)).length
    rw [List.length_take]
    omega
  · show (r.ends.take (r.ends.length - 1)).length ≤ _
    rw [List.length_take]
    have := ok.few
    omega

set_option maxHeartbeats 1600000 in
set_option maxRecDepth 100000 in
theorem Close_calls (w : World) (B g : Nat) (r : Rdr) (h : IsR w B g r) :
    Calls Tryd.prog 62 #[.pointer (some ⟨g, 0, none⟩)] w fun e w' => e = .returned (.tuple #[]) ∧ IsR w' B g r.closed ∧ KT B [121] w w' := by
  by_cases h0 : r.shutE.e = 0
  case neg =>
    have hc : r.closed = r.shutE := if_neg h0
    have n0 : (r.shutE.e == 0) = false := by simp [h0]
    rw [hc]
    by_cases hw : r.within.e = 0
    · have n1 : (r.within.e == 0) = true := by simp [hw]
      by_cases hp : 0 < r.within.left
      · have n2 : decide (0 < r.within.left) = true := decide_eq_true hp
        have hs : r.shutE = r.within.fail 5 := if_pos ⟨hw, hp⟩
        rw [hs] at n0 ⊢
        clear h0 hc hw hp hs
        go_enter Tryd.func62, Tryd.ntmps62
        go_wp2_with fail
        refine (within_calls _ B g r h).mono ?_
        rintro e w1 ⟨rfl, h1, k1⟩
        go_wp2_with fail
        refine (Left_calls _ B g _ h1).mono ?_
        rintro e w2 ⟨rfl, hd⟩
        have h2 := h1.drawn hd
        have k2 : KT B [121] w w2 := k1.trans (.drawn hd)
        go_wp2_with fail
        refine (Fail_calls _ B g _ 5 h2).mono ?_
        rintro e w3 ⟨rfl, h3, k3⟩
        go_wp2_with (go_at_call 60; refine (Err_calls _ B g _ h3).mono ?_; rintro e w' ⟨rfl, rfl⟩)
        go_end0
        exact ⟨rfl, h3, k2.trans k3⟩
      · exact absurd hw (by rwa [show r.shutE = r.within from if_neg (by rintro ⟨_, h⟩; exact hp h)] at h0)
    · have n1 : (r.within.e == 0) = false := by simp [hw]
      have hs : r.shutE = r.within := if_neg (by rintro ⟨h, _⟩; exact hw h)
      rw [hs] at n0 ⊢
      clear h0 hc hw hs
      go_enter Tryd.func62, Tryd.ntmps62
      go_wp2_with fail
      refine (within_calls _ B g r h).mono ?_
      rintro e w1 ⟨rfl, h1, k1⟩
      go_wp2_with (go_at_call 60; refine (Err_calls _ B g _ h1).mono ?_; rintro e w' ⟨rfl, rfl⟩)
      go_end0
      exact ⟨rfl, h1, k1⟩
  case pos =>
  obtain ⟨hs, hl, he0, hlf⟩ := Rdr.shutE_zero h0
  have hc : r.closed = { r with ends := r.ends.take (r.ends.length - 1) } := by
    rw [Rdr.closed, if_pos h0, hs, List.dropLast_eq_take]
  rw [hc]
  have hwi : r.within = r := if_neg hl
  have hwc := within_calls w B g r h
  rw [hwi] at hwc
  have ok := h.ok
  have ok2 := ok.closed hl
  have hn := ok.nn
  have hfew := ok.few
  have n0 : (r.e == 0) = true := by simp [he0]
  have n2 : decide (0 < r.left) = false := decide_eq_false (by omega)
  have i1 : (1 : Int) ≤ r.ends.length := by omega
  have s1 : IntKind.i64.wrap ((r.ends.length : Int) - 1) = (r.ends.length : Int) - 1 := IntWalk.i64_in _ (by omega)
  clear h0 hs hl he0 hlf hc hwi
  go_enter Tryd.func62, Tryd.ntmps62
  go_wp2_with fail
  refine hwc.mono ?_
  rintro e w1 ⟨rfl, h1, k1⟩
  go_wp2_with fail
  refine (Left_calls _ B g _ h1).mono ?_
  rintro e w2 ⟨rfl, hd⟩
  replace h1 := h1.drawn hd
  replace k1 : KT B [121] w w2 := k1.trans (.drawn hd)
  clear hd hwc
  go_wp2_with (go_at_call 60; refine (Err_calls _ B g _ h1).mono ?_; rintro e w' ⟨rfl, rfl⟩)
  obtain ⟨bv, ev, hg, hB, hb, he, _⟩ := id h1
  obtain ⟨A, c, rfl, hlc, hC⟩ := Kd.R_reads he
  have c2 := (blk_cell hg 2)
  simp at c2
  obtain ⟨i0, hi0, _, hsz0, _⟩ := info_parts info3
  have hcut := cut_to (P := Tryd.prog) 119 3 .i64 Tryd.underlying119 hi0 A r.ends.length c ((r.ends.length : Int) - 1) (by omega) (by omega) hlc
  rw [show ((r.ends.length : Int) - 1).toNat = r.ends.length - 1 by omega] at hcut
  refine start_ (n := 15) (S := fun w' => w'.cell? ⟨g, 2, none⟩ = some (.slice A r.ends.length c)) (ds := [14]) #[false, false, false, false, false, false, false, false, false, false, false, false, false, false, false] (by kernel_rfl) rfl rfl (c2) (fun hHeld => ?_)
  replace hg := blk_drew hg
  replace he := Kd.R_drew he
  replace hb := Kd.R_drew hb
  replace k1 := k1.drew
  generalize w2.drew = w3 at hg he hb k1 hHeld ⊢
  have f2 := (blk_frozen hg 2)
  have c2 := (blk_cell hg 2)
  simp at c2
  refine pure_ (i := 0) (N := (some 14)) (v := ?_) (a' := ?_) #[true, false, false, false, false, false, false, false, false, false, false, false, false, false, false] rfl rfl (by kernel_rfl) (fun _ _ _ h => h) (Or.inl ⟨by rfl, ?_⟩) ?_ ?_
  rotate_left
  · intro w'
    go_simp
    with_reducible rfl
  rotate_left
  · simp only [Act.put, List.setIfInBounds_toArray, List.set_cons_zero, List.set_cons_succ, i64_w, i32_w]
    rfl
  refine pure_ (i := 1) (N := (some 15)) (v := ?_) (a' := ?_) #[true, true, false, false, false, false, false, false, false, false, false, false, false, false, false] rfl rfl (by kernel_rfl) (fun _ _ _ h => h) (Or.inl ⟨by rfl, ?_⟩) ?_ ?_
  rotate_left
  · intro w'
    go_simp
    with_reducible rfl
  rotate_left
  · simp only [Act.put, List.setIfInBounds_toArray, List.set_cons_zero, List.set_cons_succ, i64_w, i32_w]
    rfl
  refine pure_ (i := 2) (N := (some 16)) (v := ?_) (a' := ?_) #[true, true, true, false, false, false, false, false, false, false, false, false, false, false, false] rfl rfl (by kernel_rfl) (fun _ _ _ h => h) (Or.inl ⟨by rfl, ?_⟩) ?_ ?_
  rotate_left
  · intro w'
    go_simp
    with_reducible rfl
  rotate_left
  · simp only [Act.put, List.setIfInBounds_toArray, List.set_cons_zero, List.set_cons_succ, i64_w, i32_w]
    rfl
  refine pure_ (i := 3) (N := (some 17)) (v := ?_) (a' := ?_) #[true, true, true, true, false, false, false, false, false, false, false, false, false, false, false] rfl rfl (by kernel_rfl) (fun _ _ _ h => h) (Or.inl ⟨by rfl, ?_⟩) ?_ ?_
  rotate_left
  · intro w'
    go_simp
    with_reducible rfl
  rotate_left
  · simp only [Act.put, List.setIfInBounds_toArray, List.set_cons_zero, List.set_cons_succ, i64_w, i32_w]
    rfl
  refine take_ (i := 4) (N := (some 18)) (v := ?_) (a' := ?_) #[true, true, true, true, true, false, false, false, false, false, false, false, false, false, false] rfl rfl (by kernel_rfl) (fun _ _ _ h => h) (Or.inl ⟨by rfl, ?_⟩) hHeld ?_ ?_
  rotate_left
  · rintro w' s0
    go_simp
    with_reducible rfl
  rotate_left
  · simp only [Act.put, List.setIfInBounds_toArray, List.set_cons_zero, List.set_cons_succ, i64_w, i32_w]
    rfl
  refine pure_ (i := 5) (N := (some 19)) (v := ?_) (a' := ?_) #[true, true, true, true, true, true, false, false, false, false, false, false, false, false, false] rfl rfl (by kernel_rfl) (fun _ _ _ h => h) (Or.inl ⟨by rfl, ?_⟩) ?_ ?_
  rotate_left
  · intro w'
    go_simp
    with_reducible rfl
  rotate_left
  · simp only [Act.put, List.setIfInBounds_toArray, List.set_cons_zero, List.set_cons_succ, i64_w, i32_w]
    rfl
  refine pure_ (i := 6) (N := (some 20)) (v := ?_) (a' := ?_) #[true, true, true, true, true, true, true, false, false, false, false, false, false, false, false] rfl rfl (by kernel_rfl) (fun _ _ _ h => h) (Or.inl ⟨by rfl, ?_⟩) ?_ ?_
  rotate_left
  · intro w'
    go_simp
    with_reducible rfl
  rotate_left
  · simp only [Act.put, List.setIfInBounds_toArray, List.set_cons_zero, List.set_cons_succ, i64_w, i32_w]
    rfl
  refine pure_ (i := 7) (N := (some 21)) (v := ?_) (a' := ?_) #[true, true, true, true, true, true, true, true, false, false, false, false, false, false, false] rfl rfl (by kernel_rfl) (fun _ _ _ h => h) (Or.inl ⟨by rfl, ?_⟩) ?_ ?_
  rotate_left
  · intro w'
    go_simp
    with_reducible rfl
  rotate_left
  · simp only [Act.put, List.setIfInBounds_toArray, List.set_cons_zero, List.set_cons_succ, i64_w, i32_w]
    rfl
  refine take_ (i := 8) (N := (some 22)) (v := ?_) (a' := ?_) #[true, true, true, true, true, true, true, true, true, false, false, false, false, false, false] rfl rfl (by kernel_rfl) (fun _ _ _ h => h) (Or.inl ⟨by rfl, ?_⟩) hHeld ?_ ?_
  rotate_left
  · rintro w' s0
    go_simp
    with_reducible rfl
  rotate_left
  · simp only [Act.put, List.setIfInBounds_toArray, List.set_cons_zero, List.set_cons_succ, i64_w, i32_w]
    rfl
  refine pure_ (i := 9) (N := (some 23)) (v := ?_) (a' := ?_) #[true, true, true, true, true, true, true, true, true, true, false, false, false, false, false] rfl rfl (by kernel_rfl) (fun _ _ _ h => h) (Or.inl ⟨by rfl, ?_⟩) ?_ ?_
  rotate_left
  · intro w'
    go_simp
    with_reducible rfl
  rotate_left
  · simp only [Act.put, List.setIfInBounds_toArray, List.set_cons_zero, List.set_cons_succ, i64_w, i32_w]
    rfl
  refine pure_ (i := 10) (N := (some 24)) (v := ?_) (a' := ?_) #[true, true, true, true, true, true, true, true, true, true, true, false, false, false, false] rfl rfl (by kernel_rfl) (fun _ _ _ h => h) (Or.inl ⟨by rfl, ?_⟩) ?_ ?_
  rotate_left
  · intro w'
    go_simp
    with_reducible rfl
  rotate_left
  · simp only [Act.put, List.setIfInBounds_toArray, List.set_cons_zero, List.set_cons_succ, i64_w, i32_w]
    rfl
  refine pure_ (i := 11) (N := (some 25)) (v := ?_) (a' := ?_) #[true, true, true, true, true, true, true, true, true, true, true, true, false, false, false] rfl rfl (by kernel_rfl) (fun _ _ _ h => h) (Or.inl ⟨by rfl, ?_⟩) ?_ ?_
  rotate_left
  · intro w'
    go_simp
    with_reducible rfl
  rotate_left
  · simp only [Act.put, List.setIfInBounds_toArray, List.set_cons_zero, List.set_cons_succ, i64_w, i32_w]
    rfl
  refine pure_ (i := 12) (N := (some 26)) (v := ?_) (a' := ?_) #[true, true, true, true, true, true, true, true, true, true, true, true, true, false, false] rfl rfl (by kernel_rfl) (fun _ _ _ h => h) (Or.inl ⟨by rfl, ?_⟩) ?_ ?_
  rotate_left
  · intro w'
    go_simp
    with_reducible rfl
  rotate_left
  · simp only [Act.put, List.setIfInBounds_toArray, List.set_cons_zero, List.set_cons_succ, i64_w, i32_w]
    rfl
  refine pure_ (i := 13) (N := (some 27)) (v := ?_) (a' := ?_) #[true, true, true, true, true, true, true, true, true, true, true, true, true, true, false] rfl rfl (by kernel_rfl) (fun _ _ _ h => h) (Or.inl ⟨by rfl, ?_⟩) ?_ ?_
  rotate_left
  · intro w'
    go_simp
    with_reducible rfl
  rotate_left
  · simp only [Act.put, List.setIfInBounds_toArray, List.set_cons_zero, List.set_cons_succ, i64_w, i32_w]
    rfl
  refine last_ (i := 14) (N := none) #[true, true, true, true, true, true, true, true, true, true, true, true, true, true, true] rfl rfl (by kernel_rfl) (by decide) (fun K hK => ?_)
  refine skip_ (w1 := ?_) (by rfl) rfl ?_ ?_
  rotate_left
  · go_simp
    with_reducible rfl
  refine hK.out _ _ ?_
  clear hK K
  refine done_ (by kernel_rfl) ?_
  go_end0
  refine ⟨rfl, ?_, ?_⟩
  · exact ⟨bv, _, blk_put hg 2 _ (by simp), hB, Kd.R_set hb hg (by decide) 2 _, Kd.R_set (Kd.R_take he (Nat.sub_le _ _)) hg (by decide) 2 _, ok2⟩
  · exact k1.setCell hB ⟨_, _, hg⟩ (by simp) _
end Go.Proofs.YthafedmlbialiaaDoor
