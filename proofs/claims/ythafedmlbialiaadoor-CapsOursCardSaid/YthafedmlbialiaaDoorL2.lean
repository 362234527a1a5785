/-
  The walk of the law CapsOurs.
-/
import Derived.Test.YthafedmlbialiaaDoorL1
namespace Go.Proofs.YthafedmlbialiaaDoor
open Go.RowKit Go.Proofs.YthafedmlbialiaaDoorW.PrintWords Go.Proofs.YthafedmlbialiaaDoorW.PrintLast Go.Proofs.YthafedmlbialiaaDoorW.PrintMore
set_option linter.unusedVariables false
set_option linter.unusedSimpArgs false

theorem found_append {p : PA.S61 → Bool} {l m : List PA.S61} {x : PA.S61} (h : found p l = (x, true)) : found p (l ++ m) = (x, true) := by
  unfold found at h ⊢
  rw [List.find?_append]
  cases hf : l.find? p with
  | none => rw [hf] at h; injection h with _ h; cases h
  | some y => rw [hf] at h; exact h
theorem ours_65 (n : Int) : found (fun x => x.f0 == 65 && isFour x.f1) (ours n) = (⟨65, [n / 16777216 % 256, n / 65536 % 256, n / 256 % 256, n % 256]⟩, true) := rfl
theorem ours_2 (n : Int) : found (fun x => x.f0 == 2 && isNone x.f1) (ours n) = (⟨2, []⟩, true) := rfl
theorem ours_1 (n : Int) : found (fun x => x.f0 == 1 && isUni x.f1) (ours n) = (⟨1, [0, 1, 0, 1]⟩, true) := rfl
theorem ours_number (n : Int) (h0 : 0 ≤ n) (h1 : n < 4294967296) (m : List PA.S61) : capsNumber (ours n ++ m) = (n, true) := by
  unfold capsNumber
  rw [found_append (ours_65 n)]
  show (acc32 ((Rdr.new [n / 16777216 % 256, n / 65536 % 256, n / 256 % 256, n % 256]).taken 4), true) = (n, true)
  rw [acc4 _ _ _ _ (by omega) (by omega) (by omega) (by omega)]
  congr 1
  omega
theorem ours_refreshes (n : Int) (m : List PA.S61) : capsRefreshes (ours n ++ m) = true := by
  unfold capsRefreshes
  rw [found_append (ours_2 n)]
theorem ours_ipv4 (n : Int) (m : List PA.S61) : capsIPv4 (ours n ++ m) = true := by
  unfold capsIPv4
  rw [found_append (ours_1 n), Bool.or_true]
def oursB (n : Int) : List Int := [2, 14, 1, 4, 0, 1, 0, 1, 2, 0, 65, 4, n / 16777216 % 256, n / 65536 % 256, n / 256 % 256, n % 256]
theorem ours_bytes (n : Int) : capsBytes (ours n) = (oursB n, 0) := rfl
theorem ours_read (n : Int) (h0 : 0 ≤ n) : capsRead.f 17 (oursB n) = some (ours n, 0, 0) := by
  have h := capsRead_of (oursB n) (by intro x hx; simp [oursB] at hx; omega) (by simp [oursB])
  exact h
theorem ours_wf (n : Int) : CapsWf (ours n) := by
  intro x hx
  simp [ours] at hx
  rcases hx with rfl | rfl | rfl
  · exact ⟨by simp, by simp⟩
  · exact ⟨by simp, by simp⟩
  · exact ⟨by simp, by intro b hb; simp at hb; omega⟩
theorem wf_append {l m : List PA.S61} (h1 : CapsWf l) (h2 : CapsWf m) : CapsWf (l ++ m) := by
  intro x hx
  rcases List.mem_append.1 hx with hx | hx
  · exact h1 x hx
  · exact h2 x hx

set_option maxHeartbeats 4000000 in
set_option maxRecDepth 100000 in
theorem CapsOurs_walk (w : World) (hG : GlobC w) (hU : GlobU w) (A : Option Addr) (c : Nat) (l : List PA.S61) (hC : PA.k61.C w A l.length l) (hl : l.length ≤ 140737488351232) (hwf : ∀ x, x ∈ l → ∀ b, b ∈ x.f1 → 0 ≤ b ∧ b < 256) (n : Int) (h0 : 0 ≤ n) (h1 : n < 4294967296) :
    Calls Tryd.prog 10 #[.int .u32 n, .slice A l.length c] w fun e w' => e = .returned (.bool true) ∧ Below w.heap.size w w' := by
  have hn0 : n / 16777216 % 256 = n / 16777216 := by omega
  have R0 := Aside0.mk (fun w1 hC1 => few_calls w1 A c l hC1 hl)
  have R1 := Aside0.mk (fun w hU => Ours_calls w hU n h0 h1)
  have hW := wf_append (ours_wf n) (few_wf hwf)
  have R3 := Aside0.mk (few_len l)
  have R4 := Aside0.mk (ours_number n h0 h1 (few l))
  have R5 := Aside0.mk (ours_refreshes n (few l))
  have R6 := Aside0.mk (ours_ipv4 n (few l))
  have R7 := Aside0.mk (show capsNumber (ours n) = (n, true) by have h := ours_number n h0 h1 []; rw [List.append_nil] at h; exact h)
  have R8 := Aside0.mk (show capsRefreshes (ours n) = true by have h := ours_refreshes n []; rw [List.append_nil] at h; exact h)
  have R9 := Aside0.mk (show capsIPv4 (ours n) = true by have h := ours_ipv4 n []; rw [List.append_nil] at h; exact h)
  have R10 := Aside0.mk (fun w A c hC hlc => Bytes_calls w A c (ours n) hC hlc (by simp [ours]))
  rw [ours_bytes] at R10
  have hrd := ours_read n h0
  have hbb : ∀ x, x ∈ oursB n → 0 ≤ x ∧ x < 256 := by intro x hx; simp [oursB] at hx; omega
  have R12 := Aside0.mk (show oursB n = [2, 14, 1, 4, 0, 1, 0, 1, 2, 0, 65, 4, n / 16777216, n / 65536 % 256, n / 256 % 256, n % 256] by unfold oursB; rw [hn0])
  have R13 := Aside0.mk (of_of (ours n) (by simp [ours]))
  have R14 := Aside0.mk (same_of ((ours n).map cap99) (by simp [ours]))
  have R15 := Aside0.mk (ours_wf n)
  have R16 := Aside0.mk (show (ours n).length = 3 from rfl)
  have R17 := Aside0.mk (show (oursB n).length = 16 from rfl)
  generalize oursB n = bs at *
  generalize ours n = os at *
  generalize few l = m at *
  generalize os.map cap99 = os9 at *
  obtain ⟨al, hal⟩ : ∃ al, os ++ m = al := ⟨_, rfl⟩
  rw [hal] at R4 R5 R6 hW
  have RA := Aside0.mk hal
  clear hal
  have R11 := Aside0.mk hrd
  have R18 := Aside0.mk hbb
  have R2 := Aside0.mk hW
  have HB := Below.refl w.heap.size w
  have R19 := Aside0.mk hC
  clear hrd hbb hW hwf hn0 hC
  go_enter Tryd.func10, Tryd.ntmps10
  go_wp2_with fail
  refine (R1.out w hU).mono ?_
  rintro e w1 ⟨v5, rfl, hv5, hb⟩
  replace HB := HB.trans (hb.mono HB.size)
  replace hv5 := R_elder hv5
  clear hb
  go_wp2_with fail
  have hb1s := HB.size
  refine (R1.out w1 (hU.below HB)).mono ?_
  rintro e w2 ⟨v6, rfl, hv6, hb⟩
  replace HB := HB.trans (hb.mono HB.size)
  replace hv5 := Kd.R_below hv5 hb
  have HBx := Aside0.mk hb1s
  have HS := Aside0.mk (Kd.R_lt hv6)
  have HS2 := Aside0.mk (Kd.R_base hv6)
  clear hb hb1s
  go_wp2_with fail
  have HB2 := Aside0.mk HB.size
  refine (R0.out w2 (Kd.C_below R19.out HB)).mono ?_
  rintro e w3 ⟨v7, rfl, hv7, hb⟩
  replace HB := HB.trans (hb.mono HB.size)
  replace hv5 := Kd.R_below hv5 hb
  replace hv6 := Kd.R_below hv6 hb
  obtain ⟨A6, c6, rfl⟩ := Kd.R_slice hv6
  obtain ⟨A7, c7, rfl⟩ := Kd.R_slice hv7
  clear hb
  go_wp2_with (at_builtin; refine Kd.N_append_rows PA.k61 (w0 := w) w.heap.size rfl (.tmp 18) (.tmp 20) 24 61 (.agg #[(.int .u8 0), (.slice none 0 0)]) 32 rfl Tryd.underlying24 PA.info61 rfl (by decide) (by decide) (.slice A6 os.length c6) os m A7 m.length c7 (fun _ => True) (fun k => w2.heap.size ≤ k) rfl rfl (Kd.R_N (Kd.R_lower hv6 HBx.out)) (Kd.R_F (Kd.R_mono (Kd.R_bound hv7) (fun k hk => hk.2.1))) (fun k hk => ⟨trivial, fun e => by have := HS.out k e.symm; omega⟩) (fun _ _ => trivial) HB HB.size (by have := R16.out; have := R3.out; omega) ?_)
  intro v8 w4 hN hb8 hg8 _
  replace hv5 := Kd.R_grown hv5 hg8 (fun k hk e => by have := HS2.out k e.symm; have := hk.2; omega)
  rw [RA.out] at hN
  obtain ⟨A5, c5, rfl, hc5, hC5⟩ := Kd.R_reads hv5
  obtain ⟨A8, c8, rfl, hc8, hC8⟩ := Kd.N_reads hN
  replace HB := hb8
  clear hb8 hg8 hN hv5 hv6 hv7 HS HS2
  have hll : al.length ≤ 140737488351232 := by rw [← RA.out, List.length_append]; have := R16.out; have := R3.out; omega
  have R20 := Aside0.mk hll
  have R21 := Aside0.mk hC5
  have R22 := Aside0.mk hC8
  have R23 := Aside0.mk HB
  clear hll hC5 hC8
  have hix0 : ∀ W : World, (Instr.index 78 (.agg #[.slice A5 os.length c5, .slice A8 al.length c8]) (.int .i64 0)).run Tryd.prog W = .ok (.slice A5 os.length c5) W := fun _ => by kernel_rfl
  have hix1 : ∀ W : World, (Instr.index 78 (.agg #[.slice A5 os.length c5, .slice A8 al.length c8]) (.int .i64 1)).run Tryd.prog W = .ok (.slice A8 al.length c8) W := fun _ => by kernel_rfl
  go_wp2_with fail
  go_loopw [25] (fun i w' => (i = .int .i64 0 ∨ i = .int .i64 1 ∨ i = .int .i64 2) ∧ Below w4.heap.size w4 w') (fun i _ => 2 - (intOf i).toNat)
  case atStart => exact ⟨.inl rfl, Below.refl _ _⟩
  case round =>
    obtain ⟨hi, hb0⟩ := hrel
    have hG1 := hU.below (R23.out.trans (hb0.mono R23.out.size))
    rcases hi with rfl | rfl | rfl
    · have hC5 := Kd.C_below R21.out hb0
      have HB := hb0
      go_wp2_with fail
      refine (Number_calls wr A5 c5 os hC5 (by have := R16.out; omega) R15.out n true R7.out).mono ?_
      rintro e w5 ⟨rfl, hb⟩
      replace HB := HB.trans (hb.mono HB.size)
      replace hC5 := Kd.C_below hC5 hb
      replace hG1 := hG1.below hb
      clear hb
      go_wp2_with fail
      have hcl := Refreshes_calls w5 A5 c5 os hC5 (by have := R16.out; omega)
      rw [R8.out] at hcl
      refine (hcl).mono ?_
      rintro e w6 ⟨rfl, hb⟩
      replace HB := HB.trans (hb.mono HB.size)
      replace hC5 := Kd.C_below hC5 hb
      replace hG1 := hG1.below hb
      clear hb hcl
      go_wp2_with fail
      have hcl := IPv4_calls w6 hG1 A5 c5 os hC5 (by have := R16.out; omega)
      rw [R9.out] at hcl
      refine (hcl).mono ?_
      rintro e w7 ⟨rfl, hb⟩
      replace HB := HB.trans (hb.mono HB.size)
      replace hC5 := Kd.C_below hC5 hb
      replace hG1 := hG1.below hb
      clear hb hcl
      clear hC5 hG1
      go_wp2
      exact ⟨⟨.inr (.inl rfl), HB⟩, by simp [intOf]⟩
    · have hC5 := Kd.C_below R22.out hb0
      have HB := hb0
      go_wp2_with fail
      refine (Number_calls wr A8 c8 al hC5 (R20.out) R2.out n true R4.out).mono ?_
      rintro e w5 ⟨rfl, hb⟩
      replace HB := HB.trans (hb.mono HB.size)
      replace hC5 := Kd.C_below hC5 hb
      replace hG1 := hG1.below hb
      clear hb
      go_wp2_with fail
      have hcl := Refreshes_calls w5 A8 c8 al hC5 (R20.out)
      rw [R5.out] at hcl
      refine (hcl).mono ?_
      rintro e w6 ⟨rfl, hb⟩
      replace HB := HB.trans (hb.mono HB.size)
      replace hC5 := Kd.C_below hC5 hb
      replace hG1 := hG1.below hb
      clear hb hcl
      go_wp2_with fail
      have hcl := IPv4_calls w6 hG1 A8 c8 al hC5 (R20.out)
      rw [R6.out] at hcl
      refine (hcl).mono ?_
      rintro e w7 ⟨rfl, hb⟩
      replace HB := HB.trans (hb.mono HB.size)
      replace hC5 := Kd.C_below hC5 hb
      replace hG1 := hG1.below hb
      clear hb hcl
      clear hC5 hG1
      go_wp2
      exact ⟨⟨.inr (.inr rfl), HB⟩, by simp [intOf]⟩
    · have HB := R23.out.trans (hb0.mono R23.out.size)
      have hC5 := Kd.C_below R21.out hb0
      clear hG1 hb0
      go_wp2_with fail
      refine (R10.out wr A5 c5 hC5 hc5).mono ?_
      rintro e w5 ⟨v9, rfl, hv9, hb⟩
      replace HB := HB.trans (hb.mono HB.size)
      replace hC5 := Kd.C_below hC5 hb
      obtain ⟨A9, c9, rfl, hc9, hC9⟩ := Kd.R_reads hv9
      clear hb hv9
      go_wp2_with fail
      refine (capsRead_calls 17 A9 c9 bs os 0 0 w5 (hG.below HB) hC9 (by have := R17.out; omega) R18.out R11.out).mono ?_
      rintro e w6 ⟨v10, rfl, hv10, hb⟩
      replace HB := HB.trans (hb.mono HB.size)
      replace hC5 := Kd.C_below hC5 hb
      replace hC9 := Kd.C_below hC9 hb
      obtain ⟨A10, c10, rfl, hc10, hC10⟩ := Kd.R_reads hv10
      clear hb hv10
      go_wp2_with fail
      have hF := FB.new w6 0 0
      have hb := below_alloc (Below.refl w6.heap.size w6) (.cells #[.int .u8 0, .int .u8 0] 26)
      replace HB := HB.trans (hb.mono HB.size)
      replace hC5 := Kd.C_below hC5 hb
      replace hC9 := Kd.C_below hC9 hb
      replace hC10 := Kd.C_below hC10 hb
      clear hb
      have g0 := hF.c0
      have g1 := hF.c1
      generalize w6.alloc (.cells #[.int .u8 0, .int .u8 0] 26) = w7 at *
      go_wp2_with fail
      refine (PA.consulatelaw05_of.calls (os.length + 1) (fun k => k < w7.heap.size) A10 c10 os os9 w7 (Kd.V_mk hc10 (Kd.C_F PA.k61_heap hC10)) R13.out).mono ?_
      rintro e w8 ⟨v11, rfl, hv11, hb⟩
      replace HB := HB.trans (hb.mono HB.size)
      replace hC5 := Kd.C_below hC5 hb
      replace hC9 := Kd.C_below hC9 hb
      obtain ⟨A11, c11, rfl, hc11, hC11⟩ := Kd.N_reads hv11
      clear hb hv11 hC10
      go_wp2_with fail
      refine (PA.consulatelaw05_of.calls (os.length + 1) (fun k => k < w8.heap.size) A5 c5 os os9 w8 (Kd.V_mk hc5 (Kd.C_F PA.k61_heap hC5)) R13.out).mono ?_
      rintro e w9 ⟨v12, rfl, hv12, hb⟩
      replace HB := HB.trans (hb.mono HB.size)
      replace hC9 := Kd.C_below hC9 hb
      replace hC11 := Kd.C_below hC11 hb
      obtain ⟨A12, c12, rfl, hc12, hC12⟩ := Kd.N_reads hv12
      clear hb hv12 hC5
      go_wp2_with fail
      refine (PA.consulatelaw05_same.calls (os9.length + 1) A11 c11 os9 A12 c12 os9 true w9 hC11 hc11 hC12 hc12 R14.out).mono ?_
      rintro e w10 ⟨rfl, hd⟩
      have hb := Drawn0.below hd
      replace HB := HB.trans (hb.mono HB.size)
      replace hC9 := Kd.C_below hC9 hb
      clear hb hd hC11 hC12
      go_wp2_with fail
      have hR := litR w10 5 .u8 [2, 14, 1, 4, 0, 1, 0, 1, 2, 0, 65, 4, n / 16777216, n / 65536 % 256, n / 256 % 256, n % 256] (by simp)
      have hb1 := below_alloc (Below.refl w10.heap.size w10) (.cells (nums .u8 [2, 14, 1, 4, 0, 1, 0, 1, 2, 0, 65, 4, n / 16777216, n / 65536 % 256, n / 256 % 256, n % 256]).toArray 5)
      refine (PA.bytes_Equal.calls A9 c9 bs (some ⟨w10.heap.size, 0, none⟩) 16 [2, 14, 1, 4, 0, 1, 0, 1, 2, 0, 65, 4, n / 16777216, n / 65536 % 256, n / 256 % 256, n % 256] true _ (Kd.C_below hC9 hb1) hc9 (litC hR) (Nat.le_refl _) (by rw [R12.out]; exact equal_of _)).mono ?_
      rintro e w11 ⟨rfl, hd⟩
      have hb := hb1.trans ((Drawn0.below hd).mono hb1.size)
      replace HB := HB.trans (hb.mono HB.size)
      clear hb hb1 hd hR hC9
      go_wp2_with fail
      refine (wakes_calls w11 (hG.below HB)).mono ?_
      rintro e w12 ⟨rfl, hb⟩
      replace HB := HB.trans (hb.mono HB.size)
      clear hb
      go_wp2
      go_ret
      exact ⟨rfl, HB⟩
end Go.Proofs.YthafedmlbialiaaDoor
