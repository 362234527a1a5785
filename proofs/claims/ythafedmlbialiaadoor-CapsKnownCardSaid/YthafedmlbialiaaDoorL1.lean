/-
  The walk of the law CapsTells.
-/
import Derived.Test.YthafedmlbialiaaDoorP3
import Derived.Test.YthafedmlbialiaaDoorC2
namespace Go.Proofs.YthafedmlbialiaaDoor
open Go.RowKit Go.Proofs.YthafedmlbialiaaDoorW.PrintWords Go.Proofs.YthafedmlbialiaaDoorW.PrintLast Go.Proofs.YthafedmlbialiaaDoorW.PrintMore
set_option linter.unusedVariables false
set_option linter.unusedSimpArgs false

theorem few_wf {l : List PA.S61} (h : ∀ x, x ∈ l → ∀ b, b ∈ x.f1 → 0 ≤ b ∧ b < 256) : CapsWf (few l) := by
  intro x hx
  unfold few at hx
  rw [List.mem_map] at hx
  obtain ⟨y, hy, rfl⟩ := hx
  have h1 := h y (List.mem_of_mem_take hy)
  exact ⟨by show (y.f1.take 260).length ≤ _; rw [List.length_take]; omega, fun b hb => h1 b (List.mem_of_mem_take hb)⟩

set_option maxHeartbeats 4000000 in
set_option maxRecDepth 100000 in
theorem CapsTells_walk (w : World) (hG : GlobC w) (hU : GlobU w) (A : Option Addr) (c : Nat) (l : List PA.S61) (hC : PA.k61.C w A l.length l) (hl : l.length ≤ 140737488351232) (hwf : ∀ x, x ∈ l → ∀ b, b ∈ x.f1 → 0 ≤ b ∧ b < 256) (n : Int) (h0 : 0 ≤ n) (h1 : n < 4294967296) :
    Calls Tryd.prog 9 #[.slice A l.length c, .int .u32 n] w fun e w' => e = .returned (.bool true) ∧ Below w.heap.size w w' := by
  have hF := Aside0.mk (few_calls w A c l hC hl)
  have hW := few_wf hwf
  have hL := few_len l
  generalize few l = m at *
  obtain ⟨m9, hm9⟩ : ∃ m9, m.map cap99 = m9 := ⟨_, rfl⟩
  have hof := of_of m (by omega)
  have hby := ref_bytes m (by omega)
  have hnu := ref_number m (by omega) hW m.length 0 (by omega) (by omega) (m.length + 1) (by omega)
  have hre := ref_refreshes m (by omega) m.length 0 (by omega) (by omega) (m.length + 1) (by omega)
  have hip := ref_ipv4 m (by omega) m.length 0 (by omega) (by omega) (m.length + 1) (by omega) false
  rw [List.drop_zero] at hnu hre hip
  have hipe : ((found (fun x => x.f0 == 1 && isUni x.f1) m).2 || !(false || (found (fun x => x.f0 == 1 && isAny x.f1) m).2)) = capsIPv4 m := by
    unfold capsIPv4
    rw [Bool.false_or, Bool.or_comm]
  rw [hipe] at hip
  rw [hm9] at hof hby hnu hre hip
  have hou := ref_ours n h0 h1
  have hof2 := of_of (ours n) (by simp [ours])
  have hsm := same_of ((ours n).map cap99) (by simp [ours])
  have hBy := fun w A c hC hlc => Bytes_calls w A c m hC hlc (by omega)
  have hOu := fun w hU => Ours_calls w hU n h0 h1
  obtain ⟨⟨bs, be⟩, hbe⟩ : ∃ p, capsBytes m = p := ⟨_, rfl⟩
  obtain ⟨⟨nn, nis⟩, hnn⟩ : ∃ p, capsNumber m = p := ⟨_, rfl⟩
  rw [hbe] at hby hBy
  rw [hnn] at hnu
  have hbl : bs.length ≤ 140737488351232 := by
    have h := hbe
    unfold capsBytes at h
    split at h
    · injection h with h1 h2; subst h1; simp
    · split at h
      · injection h with h1 h2; subst h1; simp
      · rename_i h3
        injection h with h1 h2; subst h1; omega
  generalize (ours n) = os at *
  obtain ⟨os9, hos9⟩ : ∃ os9, os.map cap99 = os9 := ⟨_, rfl⟩
  rw [hos9] at hou hof2 hsm
  have R1 := Aside0.mk hof
  have R2 := Aside0.mk hby
  have R3 := Aside0.mk hnu
  have R4 := Aside0.mk hre
  have R5 := Aside0.mk hip
  have R6 := Aside0.mk hou
  have R7 := Aside0.mk hof2
  have R8 := Aside0.mk hsm
  have R9 := Aside0.mk hBy
  have R10 := Aside0.mk hOu
  have R11 := Aside0.mk hnn
  have R12 := Aside0.mk hW
  clear hof hby hnu hre hip hou hof2 hsm hBy hOu hnn hW hm9 hos9 hbe hipe hwf hC
  generalize hq1 : capsRefreshes m = qr at *
  generalize hq2 : capsIPv4 m = qi at *
  have Q1 := Aside0.mk hq1
  have Q2 := Aside0.mk hq2
  clear hq1 hq2
  go_enter Tryd.func9, Tryd.ntmps9
  go_wp2_with fail
  refine hF.out.mono ?_
  rintro e w1 ⟨v1, rfl, hv1, HB⟩
  obtain ⟨A1, c1, rfl, hc1, hC1⟩ := Kd.R_reads hv1
  clear hF hv1
  go_wp2_with fail
  refine (PA.consulatelaw05_of.calls (m.length + 1) (fun k => k < w1.heap.size) A1 c1 m m9 w1 (Kd.V_mk hc1 (Kd.C_F PA.k61_heap hC1)) R1.out).mono ?_
  rintro e w2 ⟨v2, rfl, hv2, hb⟩
  replace HB := HB.trans (hb.mono HB.size)
  obtain ⟨A2, c2, rfl, hc2, hC2⟩ := Kd.N_reads hv2
  replace hC1 := Kd.C_below hC1 hb
  clear hb hv2
  go_wp2_with fail
  refine (R9.out w2 A1 c1 hC1 hc1).mono ?_
  rintro e w3 ⟨v3, rfl, hv3, hb⟩
  replace HB := HB.trans (hb.mono HB.size)
  obtain ⟨A3, c3, rfl, hc3, hC3⟩ := Kd.R_reads hv3
  replace hC1 := Kd.C_below hC1 hb
  replace hC2 := Kd.C_below hC2 hb
  clear hb hv3
  go_wp2_with fail
  refine (PA.consulateref05_Bytes.calls (2 * m.length + 2) A2 c2 m9 bs be w3 hC2 hc2 R2.out).mono ?_
  rintro e w4 ⟨v4, rfl, hv4, hb⟩
  replace HB := HB.trans (hb.mono HB.size)
  obtain ⟨A4, c4, rfl, hc4, hC4⟩ := Kd.R_reads hv4
  replace hC1 := Kd.C_below hC1 hb
  replace hC2 := Kd.C_below hC2 hb
  replace hC3 := Kd.C_below hC3 hb
  clear hb hv4
  go_wp2_with fail
  refine (Number_calls w4 A1 c1 m hC1 (by omega) R12.out nn nis R11.out).mono ?_
  rintro e w5 ⟨rfl, hb⟩
  replace HB := HB.trans (hb.mono HB.size)
  replace hC1 := Kd.C_below hC1 hb
  replace hC2 := Kd.C_below hC2 hb
  replace hC3 := Kd.C_below hC3 hb
  replace hC4 := Kd.C_below hC4 hb
  clear hb
  go_wp2_with fail
  refine (PA.consulateref05_Number.calls (m.length + 1) A2 c2 m9 nn nis w5 hC2 hc2 R3.out).mono ?_
  rintro e w6 ⟨rfl, hd⟩
  have hb := Drawn0.below hd
  replace HB := HB.trans (hb.mono HB.size)
  replace hC1 := Kd.C_below hC1 hb
  replace hC2 := Kd.C_below hC2 hb
  replace hC3 := Kd.C_below hC3 hb
  replace hC4 := Kd.C_below hC4 hb
  clear hb hd
  go_wp2_with fail
  refine (PA.bytes_Equal.calls A3 c3 bs A4 c4 bs true w6 hC3 hc3 hC4 hc4 (equal_of bs)).mono ?_
  rintro e w7 ⟨rfl, hd⟩
  have hb := Drawn0.below hd
  replace HB := HB.trans (hb.mono HB.size)
  replace hC1 := Kd.C_below hC1 hb
  replace hC2 := Kd.C_below hC2 hb
  clear hb hd hC3 hC4
  go_wp2_with fail
  have hrf := Refreshes_calls w7 A1 c1 m hC1 (by omega)
  rw [Q1.out] at hrf
  refine hrf.mono ?_
  clear hrf
  rintro e w8 ⟨rfl, hb⟩
  replace HB := HB.trans (hb.mono HB.size)
  replace hC1 := Kd.C_below hC1 hb
  replace hC2 := Kd.C_below hC2 hb
  clear hb
  go_wp2_with fail
  refine (PA.consulateref05_Refreshes.calls (m.length + 1) A2 c2 m9 qr w8 hC2 hc2 R4.out).mono ?_
  rintro e w9 ⟨rfl, hd⟩
  have hb := Drawn0.below hd
  replace HB := HB.trans (hb.mono HB.size)
  replace hC1 := Kd.C_below hC1 hb
  replace hC2 := Kd.C_below hC2 hb
  clear hb hd
  go_wp2_with fail
  have hrf := IPv4_calls w9 (hU.below HB) A1 c1 m hC1 (by omega)
  rw [Q2.out] at hrf
  refine hrf.mono ?_
  clear hrf
  rintro e w10 ⟨rfl, hb⟩
  replace HB := HB.trans (hb.mono HB.size)
  replace hC2 := Kd.C_below hC2 hb
  clear hb hC1
  go_wp2_with fail
  refine (PA.consulateref05_IPv4.calls (m.length + 1) A2 c2 m9 qi w10 hC2 hc2 R5.out).mono ?_
  rintro e w11 ⟨rfl, hd⟩
  have hb := Drawn0.below hd
  replace HB := HB.trans (hb.mono HB.size)
  clear hb hd hC2
  go_wp2_with fail
  refine (R10.out w11 (hU.below HB)).mono ?_
  rintro e w12 ⟨v5, rfl, hv5, hb⟩
  replace HB := HB.trans (hb.mono HB.size)
  obtain ⟨A5, c5, rfl, hc5, hC5⟩ := Kd.R_reads hv5
  clear hb hv5
  go_wp2_with fail
  refine (PA.consulatelaw05_of.calls (os.length + 1) (fun k => k < w12.heap.size) A5 c5 os os9 w12 (Kd.V_mk hc5 (Kd.C_F PA.k61_heap hC5)) R7.out).mono ?_
  rintro e w13 ⟨v6, rfl, hv6, hb⟩
  replace HB := HB.trans (hb.mono HB.size)
  obtain ⟨A6, c6, rfl, hc6, hC6⟩ := Kd.N_reads hv6
  clear hb hv6 hC5
  go_wp2_with fail
  refine (PA.consulateref05_Ours.calls n os9 w13 R6.out).mono ?_
  rintro e w14 ⟨v7, rfl, hv7, hb⟩
  replace HB := HB.trans (hb.mono HB.size)
  obtain ⟨A7, c7, rfl, hc7, hC7⟩ := Kd.N_reads hv7
  replace hC6 := Kd.C_below hC6 hb
  clear hb hv7
  go_wp2_with fail
  refine (PA.consulatelaw05_same.calls (os9.length + 1) A6 c6 os9 A7 c7 os9 true w14 hC6 hc6 hC7 hc7 R8.out).mono ?_
  rintro e w15 ⟨rfl, hd⟩
  have hb := Drawn0.below hd
  replace HB := HB.trans (hb.mono HB.size)
  clear hb hd hC6 hC7
  go_wp2_with fail
  refine (wakes_calls _ (hG.below HB)).mono ?_
  rintro e w16 ⟨rfl, hb⟩
  replace HB := HB.trans (hb.mono HB.size)
  go_wp2
  go_ret
  exact ⟨rfl, HB⟩
end Go.Proofs.YthafedmlbialiaaDoor
