/-
  The walk of the law CapsReads.
-/
import Derived.Test.YthafedmlbialiaaDoorP2
import Derived.Test.YthafedmlbialiaaDoorC4
namespace Go.Proofs.YthafedmlbialiaaDoor
open Go.RowKit Go.Proofs.YthafedmlbialiaaDoorW.PrintWords Go.Proofs.YthafedmlbialiaaDoorW.PrintLast Go.Proofs.YthafedmlbialiaaDoorW.PrintMore
set_option linter.unusedVariables false
set_option linter.unusedSimpArgs false

/-- 'b[:min(len(b), 300)]'. -/
theorem cut300 (w : World) (A : Option Addr) (c : Nat) (xs : List Int) (hC : (Kd.int .u8).C w A xs.length xs) (hc : xs.length ≤ c) (m : Int) (hm : (xs.length ≤ 300 ∧ m = xs.length) ∨ (300 < xs.length ∧ m = 300)) :
    (∀ W : World, (Instr.slice 22 (.slice A xs.length c) none (some (.int .i64 m)) none).run Tryd.prog W = .ok (.slice A (xs.take 300).length c) W) ∧ (Kd.int .u8).C w A (xs.take 300).length (xs.take 300) ∧ (xs.take 300).length ≤ c ∧ (xs.take 300).length ≤ 300 := by
  obtain ⟨i0, hi0, _, hsz, _⟩ := info_parts info5
  have hcut := cut_to (P := Tryd.prog) 22 5 .i64 Tryd.underlying22 hi0 A xs.length c m (by omega) (by omega) hc
  have e : m.toNat = (xs.take 300).length := by rw [List.length_take]; omega
  rw [e] at hcut
  have h2 := Kd.C_take hC (m := (xs.take 300).length) (by rw [List.length_take]; omega)
  rw [List.length_take, Nat.min_comm, ← List.length_take] at h2
  have e2 : xs.take (min 300 xs.length) = xs.take 300 := List.take_eq_take_min.symm
  refine ⟨hcut, ?_, by rw [List.length_take]; omega, by rw [List.length_take]; omega⟩
  have h3 := Kd.C_take hC (m := min 300 xs.length) (by omega)
  rw [e2] at h3
  exact h3

set_option maxHeartbeats 1000000 in
set_option maxRecDepth 100000 in
theorem CapsReads_walk (w : World) (hG : GlobC w) (A : Option Addr) (c : Nat) (xs : List Int) (hC : (Kd.int .u8).C w A xs.length xs) (hc : xs.length ≤ c) (hl : xs.length ≤ 140737488351232) (hb : ∀ x, x ∈ xs → 0 ≤ x ∧ x < 256) :
    Calls Tryd.prog 3 #[.slice A xs.length c] w fun e w' => e = .returned (.bool true) ∧ Below w.heap.size w w' := by
  have hby : ∀ x, x ∈ xs.take 300 → 0 ≤ x ∧ x < 256 := fun x hx => hb x (List.mem_of_mem_take hx)
  obtain ⟨m, hm⟩ : ∃ m : Int, (xs.length ≤ 300 ∧ m = xs.length) ∨ (300 < xs.length ∧ m = 300) := by
    by_cases h : xs.length ≤ 300
    · exact ⟨_, .inl ⟨h, rfl⟩⟩
    · exact ⟨_, .inr ⟨by omega, rfl⟩⟩
  obtain ⟨hcut, hCy, hyc, hyl⟩ := cut300 w A c xs hC hc m hm
  have hrd0 := capsRead_of (xs.take 300) (fun x hx => (hby x hx).1) (by omega)
  have hrf0 := ref_of (xs.take 300) hby (by omega)
  have hln := capsOut_len ((xs.take 300).length + 1) (xs.take 300)
  have her := capsOut_err ((xs.take 300).length + 1) (xs.take 300)
  generalize capsOut ((xs.take 300).length + 1) (xs.take 300) = ans at hrd0 hrf0 hln her
  generalize hys : xs.take 300 = ys at *
  obtain ⟨l, f0, f1, hrd, hrf, hll, hf0, hf0', hf1, hf1'⟩ : ∃ l f0 f1, capsRead.f (ys.length + 1) ys = some (l, f0, f1) ∧ PA.consulateref05_Read.f (2 * ys.length + 2) ys = some (l.map cap99, f0, f1) ∧ l.length ≤ 300 ∧ 0 ≤ f0 ∧ f0 < 256 ∧ 0 ≤ f1 ∧ f1 < 256 := by
    cases ans with
    | error x => exact ⟨[], 2, x, hrd0, hrf0, by simp, by omega, by omega, by have := her x rfl; omega, by have := her x rfl; omega⟩
    | ok l => exact ⟨l, 0, 0, by simpa [capsAns] using hrd0, by simpa [refAns] using hrf0, by have := hln l rfl; omega, by omega, by omega, by omega, by omega⟩
  clear her hln hrd0 hrf0 ans
  have hof := of_of l (by omega)
  have hsm := same_of (l.map cap99) (by rw [List.length_map]; omega)
  generalize l.map cap99 = l9 at hrf hof hsm
  have R3 := Aside0.mk hof
  have R4 := Aside0.mk hsm
  have R1 := Aside0.mk hrd
  have R2 := Aside0.mk hrf
  have HB := Aside0.mk hby
  have HM := Aside0.mk hm
  clear hrd hrf hby hb hys hC hof hsm
  rcases hm with ⟨hm1, rfl⟩ | ⟨hm1, rfl⟩
  all_goals
    go_enter Tryd.func3, Tryd.ntmps3
    go_wp2_with fail
    refine (BClone_calls w w.heap.size A c ys (Nat.le_refl _) hCy (by omega)).mono ?_
    rintro e w1 ⟨v1, rfl, hv1, hb⟩
    have HB1 := hb
    obtain ⟨A1, c1, rfl, hc1, hC1⟩ := Kd.R_reads hv1
    replace hCy := Kd.C_below hCy hb
    clear hb hv1
    go_wp2_with fail
    refine (capsRead_calls _ A1 c1 ys l f0 f1 w1 (hG.below HB1) hC1 (by omega) HB.out R1.out).mono ?_
    rintro e w2 ⟨v2, rfl, hv2, hb⟩
    replace HB1 := HB1.trans (hb.mono HB1.size)
    obtain ⟨A2, c2, rfl, hc2, hC2⟩ := Kd.R_reads hv2
    replace hCy := Kd.C_below hCy hb
    replace hC1 := Kd.C_below hC1 hb
    clear hb hv2
    go_wp2_with fail
    have hF := FB.new w2 f0 f1
    have hb := below_alloc (Below.refl w2.heap.size w2) (.cells #[.int .u8 f0, .int .u8 f1] 26)
    replace HB1 := HB1.trans (hb.mono HB1.size)
    replace hCy := Kd.C_below hCy hb
    replace hC1 := Kd.C_below hC1 hb
    replace hC2 := Kd.C_below hC2 hb
    clear hb
    have hh := PA.consulateref05_Read.calls (2 * ys.length + 2) _ A c ys l9 f0 f1 _ (Kd.V_mk hyc (Kd.C_F (Kd.heap_int .u8) hCy)) R2.out
    refine hh.mono ?_
    clear hh
    rintro e w3 ⟨v3, rfl, hv3, hb⟩
    replace HB1 := HB1.trans (hb.mono HB1.size)
    obtain ⟨A3, c3, rfl, hc3, hC3⟩ := Kd.N_reads hv3
    replace hCy := Kd.C_below hCy hb
    replace hC1 := Kd.C_below hC1 hb
    replace hC2 := Kd.C_below hC2 hb
    replace hF := hF.below hb
    clear hb hv3
    go_wp2_with fail
    have hh := PA.consulatelaw05_of.calls (l.length + 1) (fun k => k < w3.heap.size) A2 c2 l l9 w3 (Kd.V_mk hc2 (Kd.C_F PA.k61_heap hC2)) R3.out
    refine hh.mono ?_
    clear hh
    rintro e w4 ⟨v4, rfl, hv4, hb⟩
    replace HB1 := HB1.trans (hb.mono HB1.size)
    obtain ⟨A4, c4, rfl, hc4, hC4⟩ := Kd.N_reads hv4
    replace hCy := Kd.C_below hCy hb
    replace hC1 := Kd.C_below hC1 hb
    replace hC3 := Kd.C_below hC3 hb
    replace hF := hF.below hb
    clear hb hv4 hC2
    go_wp2_with fail
    have hh := PA.consulatelaw05_same.calls (l9.length + 1) A4 c4 l9 A3 c3 l9 true w4 hC4 hc4 hC3 hc3 R4.out
    refine hh.mono ?_
    clear hh
    rintro e w5 ⟨rfl, hd⟩
    have hb := Drawn0.below hd
    replace HB1 := HB1.trans (hb.mono HB1.size)
    replace hCy := Kd.C_below hCy hb
    replace hC1 := Kd.C_below hC1 hb
    replace hF := hF.below hb
    clear hb hd hC4 hC3
    have g0 := hF.c0
    have g1 := hF.c1
    clear hF R1 R2 HM
    go_wp2_with fail
    have hh := PA.bytes_Equal.calls A1 c1 ys A c ys true w5 hC1 hc1 hCy hyc (equal_of ys)
    refine hh.mono ?_
    clear hh
    rintro e w6 ⟨rfl, hd⟩
    have hb := Drawn0.below hd
    replace HB1 := HB1.trans (hb.mono HB1.size)
    clear hb hd hC1 hCy g0 g1
    go_wp2_with fail
    refine (wakes_calls _ (hG.below HB1)).mono ?_
    rintro e w7 ⟨rfl, hb⟩
    replace HB1 := HB1.trans (hb.mono HB1.size)
    go_wp2
    go_ret
    exact ⟨rfl, HB1⟩
end Go.Proofs.YthafedmlbialiaaDoor
