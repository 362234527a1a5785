/-
  The walks of a writer's methods, fourth part: a hold of one byte is filled; what is done.
-/
import Derived.Test.YthafedmlbialiaaDoorV2
import Derived.StillTailTactics
import Derived.BigQuiet
namespace Go.Proofs.YthafedmlbialiaaDoor
open Go.RowKit Go.Proofs.YthafedmlbialiaaDoorW.PrintWords Go.Proofs.YthafedmlbialiaaDoorW.PrintLast Go.Proofs.YthafedmlbialiaaDoorW.PrintMore
set_option linter.unusedVariables false
set_option linter.unusedSimpArgs false

set_option maxHeartbeats 800000 in
theorem failsNo_calls (w : World) (B g : Nat) (x : Wtr) (e : Int) (h : IsW w B g x) :
    Calls Tryd.prog 97 #[.pointer (some ⟨g, 0, none⟩), .bool false, .int .i64 e] w fun en w' => en = .returned (.bool (x.e != 0)) ∧ w = w' := by
  by_cases h0 : x.e = 0
  · have n0 : (x.e == 0) = true := by simp [h0]
    clear h0
    go_enter Tryd.func97, Tryd.ntmps97
    go_wp2_with fail
    refine (WErr_calls _ B g x h).mono ?_
    rintro en w' ⟨rfl, rfl⟩
    go_wp2_with fail
    refine (WErr_calls _ B g _ h).mono ?_
    rintro en w' ⟨rfl, rfl⟩
    go_wp2
    go_ret
    exact ⟨rfl, rfl⟩
  · have n0 : (x.e == 0) = false := by simp [h0]
    clear h0
    go_enter Tryd.func97, Tryd.ntmps97
    go_wp2_with fail
    refine (WErr_calls _ B g x h).mono ?_
    rintro en w' ⟨rfl, rfl⟩
    go_wp2_with fail
    refine (WErr_calls _ B g _ h).mono ?_
    rintro en w' ⟨rfl, rfl⟩
    go_wp2
    go_ret
    exact ⟨rfl, rfl⟩

set_option maxHeartbeats 1600000 in
set_option maxRecDepth 100000 in
theorem Fill1_calls (w : World) (B g : Nat) (x : Wtr) (h : IsW w B g x) (h0 : x.e = 0) (hs : List PA.S134) (a : Nat) (hx : x.holds = hs ++ [⟨a, 1⟩]) (ha : a + 1 ≤ x.b.length) (hn : x.b.length - a - 1 < 256) (hl : x.b.length ≤ 140737488351232) (hl2 : hs.length < 4398046511104) :
    Calls Tryd.prog 79 #[.pointer (some ⟨g, 0, none⟩)] w fun e w' => e = .returned (.pointer (some ⟨g, 0, none⟩)) ∧ IsW w' B g { x with b := x.b.set a ((x.b.length - a - 1 : Nat) : Int), holds := hs } ∧ KT B wts w w' := by
  have hk : x.holds.length = hs.length + 1 := by rw [hx]; simp
  have n0 : (x.e != 0) = false := by simp [h0]
  have n1 : (x.e == 0) = true := by simp [h0]
  have n2 : (((hs.length : Int) + 1) == 0) = false := by
    rw [beq_eq_false_iff_ne]
    omega
  have HX := Aside0.mk hx
  have H0 := Aside0.mk h0
  clear hx h0
  obtain ⟨bv, hv, hg, hB, hb, hh⟩ := id h
  obtain ⟨A, c, rfl, hlc, hC⟩ := Kd.R_reads hb
  obtain ⟨A1, c1, rfl, hlc1, hC1⟩ := Kd.R_reads hh
  rw [hk] at hC1 hg hh
  have c0 := (blk_cell hg 0)
  have c1' := (blk_cell hg 1)
  simp at c0 c1'
  obtain ⟨ad, rfl, q0, q1⟩ := PA.at_T134 hC1 (hs.length : Int) (by omega) (by omega)
  have hz : PA.rd_T134 x.holds (hs.length : Int) = ⟨a, 1⟩ := by
    rw [HX.out, PA.rd_T134, Int.toNat_natCast]
    simp
  rw [hz] at q0 q1
  simp only [Int.toNat_natCast] at q0 q1
  clear hz
  go_enter Tryd.func79, Tryd.ntmps79
  go_wp2_with fail
  refine (WErr_calls _ B g x h).mono ?_
  rintro en w' ⟨rfl, rfl⟩
  go_wp2_with fail
  refine (failsNo_calls _ B g x 26 h).mono ?_
  rintro e w1 ⟨rfl, rfl⟩
  go_upto_region 5 with fail
  have hM := blk_new w (.cells #[.int .i64 (a : Int), .int .i64 1] 134)
  have h2 : IsW (w.alloc (.cells #[.int .i64 (a : Int), .int .i64 1] 134)) B g x := h.below (below_alloc (Below.refl _ _) _)
  have k2 : KT B wts w (w.alloc (.cells #[.int .i64 (a : Int), .int .i64 1] 134)) := (KT.refl _ _ _).alloc _
  have hg2 := blk_below hg (below_alloc (Below.refl _ _) (.cells #[.int .i64 (a : Int), .int .i64 1] 134))
  have hb2 := Kd.R_alloc hb (.cells #[.int .i64 (a : Int), .int .i64 1] 134)
  have hh2 := Kd.R_alloc hh (.cells #[.int .i64 (a : Int), .int .i64 1] 134)
  have hne : w.heap.size ≠ g := by have := blk_lt hg; omega
  have hgl := blk_lt hg
  clear q0 q1 c0 c1' hg hb hh hC hC1 h
  generalize w.alloc (.cells #[.int .i64 (a : Int), .int .i64 1] 134) = w2 at *
  generalize w.heap.size = m at *
  have c0 := (blk_cell hg2 0)
  have c1' := (blk_cell hg2 1)
  have m0 := (blk_cell hM 0)
  have m1 := (blk_cell hM 1)
  simp at c0 c1' m0 m1
  obtain ⟨p, hp⟩ : ∃ p : Nat, x.b.length = a + 1 + p := ⟨x.b.length - (a + 1), by omega⟩
  have hq : x.b.length - a - 1 = p := by omega
  rw [hq] at hn
  have s1 : IntKind.i64.wrap ((x.b.length : Int) - a) = 1 + p := by rw [IntWalk.i64_in _ (by omega)]; omega
  have s2 : IntKind.i64.wrap ((1 : Int) + p - 1) = p := by rw [IntWalk.i64_in _ (by omega)]; omega
  have s3 : IntKind.u8.wrap (p : Int) = p := IntWalk.u8_in _ (by omega)
  have d1 : decide ((p : Int) ≥ 256) = false := decide_eq_false (by omega)
  have d2 : decide (256 ≤ (p : Int)) = false := decide_eq_false (by omega)
  have HP := Aside0.mk hp
  have HQ := Aside0.mk hq
  have i1 : (a : Int) < x.b.length := by omega
  have i2 : a < x.b.length := by omega
  clear hp hq
  go_wp2_with fail
  go_quiet (fail)
  replace hg2 := blk_drewN hg2 nq
  replace hM := blk_drewN hM nq
  replace hb2 := Kd.R_drewN hb2 nq
  replace hh2 := Kd.R_drewN hh2 nq
  replace k2 := k2.drewN nq
  replace h2 : IsW (w2.drewN nq) B g x := h2
  clear c0 c1' m0 m1 s1 s2
  generalize w2.drewN nq = w3 at *
  have c0 := (blk_cell hg2 0)
  have c1' := (blk_cell hg2 1)
  have m0 := (blk_cell hM 0)
  have m1 := (blk_cell hM 1)
  simp at c0 c1' m0 m1
  go_wp2_with fail
  refine (failsNo_calls _ B g x 3 h2).mono ?_
  rintro e w4 ⟨rfl, rfl⟩
  go_wp2_with fail
  have hne2 := Kd.R_ne hb2 hg2 (by decide)
  obtain ⟨gb, cb, hcb, hgb, hgl2, cells, hcells⟩ := Kd.R_form hb2 (by have := HP.out; omega)
  injection hcb with q1 q2 q3
  subst q1 q3
  have hap := R_apart hh2 hb2 (by decide)
  have ht := Kd.R_putg hb2 (a : Int) (p : Int)
  rw [Int.toNat_natCast] at ht
  obtain ⟨hset, hgs⟩ := ht
  have hcl := Kd.R_celln 0 hb2 (a : Int) (by omega) i1
  rw [Int.toNat_natCast] at hcl
  go_loopw [5, 6] (fun n k w' => (k = .int .i64 0 ∧ n = .int .i64 p ∧ w' = w3) ∨ (k = .int .i64 (-1) ∧ w' = (w3.setCell ⟨gb, a, none⟩ (.int .u8 p)).drew)) (fun _ k _ => (intOf k + 1).toNat)
  case atStart => exact .inl ⟨rfl, rfl, rfl⟩
  case round =>
    rcases hrel with ⟨rfl, rfl, rfl⟩ | ⟨rfl, rfl⟩
    · obtain ⟨hc1, hc2⟩ := hcl
      clear m1
      go_wp2_with fail
      go_region
      go_wp2
      exact ⟨.inr ⟨rfl, trivial⟩, by simp [intOf]⟩
    · have hk5 := (k2.grown hgs (fun k hq => ⟨by injection hq with hq; omega, 5, by simp [wts], by injection hq with hq; subst hq; exact ⟨_, _, hcells⟩⟩)).drew
      have hg5 := blk_drew (blk_grown hg2 hgs hne2)
      have hh5 := Kd.R_drew (Kd.R_grown hap hgs (fun k hk => hk.2))
      replace hset := Kd.R_drew hset
      generalize (w3.setCell ⟨gb, a, none⟩ (.int .u8 p)).drew = w5 at *
      have f1 := blk_frozen hg5 1
      have c1x := blk_cell hg5 1
      simp at c1x
      go_wp2
      go_ret
      rw [HQ.out]
      have hlen : (x.b.set a (p : Int)).length = x.b.length := by simp
      have htk := Kd.R_take hh5 (m := hs.length) (by omega)
      rw [HX.out, List.take_left' rfl] at htk
      refine ⟨rfl, ⟨_, _, blk_put hg5 1 _ (by simp), hB, Kd.R_set hset hg5 (by decide) 1 _, Kd.R_mono (Kd.R_set htk hg5 (by decide) 1 _) (fun _ _ => trivial)⟩, hk5.setCell hB ⟨_, _, hg5⟩ (by simp [wts]) _⟩

set_option maxHeartbeats 1600000 in
set_option maxRecDepth 100000 in
theorem WDone_calls (w : World) (B g : Nat) (x : Wtr) (h : IsW w B g x) (h0 : x.e = 0) (hh0 : x.holds = []) (hl : x.b.length ≤ 140737488351232) :
    Calls Tryd.prog 80 #[.pointer (some ⟨g, 0, none⟩)] w fun e w' => ∃ v, e = .returned (.tuple #[v, .int .i64 0]) ∧ (Kd.int .u8).R 5 w' w.heap.size (fun _ => True) v x.b ∧ Below w.heap.size w w' := by
  have n0 : (x.e != 0) = false := by simp [h0]
  have hk : x.holds.length = 0 := by rw [hh0]; rfl
  obtain ⟨bv, hv, hg, hB, hb, hh⟩ := id h
  obtain ⟨A, c, rfl, hlc, hC⟩ := Kd.R_reads hb
  obtain ⟨A1, c1, rfl, hlc1, hC1⟩ := Kd.R_reads hh
  rw [hk] at hg
  have c0 := (blk_cell hg 0)
  have c1' := (blk_cell hg 1)
  simp at c0 c1'
  clear h0 hh0
  go_enter Tryd.func80, Tryd.ntmps80
  go_wp2_with fail
  refine (WErr_calls _ B g x h).mono ?_
  rintro en w' ⟨rfl, rfl⟩
  go_wp2_with fail
  refine (Clone_calls w w.heap.size A c x.b (Nat.le_refl _) hC hl).mono ?_
  clear c0 c1'
  rintro e w1 ⟨v, rfl, hv, hb1⟩
  go_wp2
  exact bodyPost_ret (v := .tuple #[v, .int .i64 0]) (by simp [results, Tryd.results80, go_sem]) rfl ⟨v, rfl, hv, hb1⟩
end Go.Proofs.YthafedmlbialiaaDoor
