/-
  The walks of caps.IPv4, caps.Ours.
-/
import Derived.Test.YthafedmlbialiaaDoorD2
import Derived.ChangeKeysEq
namespace Go.Proofs.YthafedmlbialiaaDoor
open Go.RowKit Go.Proofs.YthafedmlbialiaaDoorW.PrintWords Go.Proofs.YthafedmlbialiaaDoorW.PrintLast Go.Proofs.YthafedmlbialiaaDoorW.PrintMore
set_option linter.unusedVariables false
set_option linter.unusedSimpArgs false

/-- IPv4's family, as start-up lays it. -/
structure GlobU (w : World) : Prop where
  u0 : w.cell? ⟨4, 0, none⟩ = some (.int .u8 0)
  u1 : w.cell? ⟨4, 1, none⟩ = some (.int .u8 1)
  u2 : w.cell? ⟨4, 2, none⟩ = some (.int .u8 0)
  u3 : w.cell? ⟨4, 3, none⟩ = some (.int .u8 1)
theorem GlobU.below {w w' : World} (h : GlobU w) (hb : Below w.heap.size w w') : GlobU w' :=
  ⟨pw_cell_below hb h.u0, pw_cell_below hb h.u1, pw_cell_below hb h.u2, pw_cell_below hb h.u3⟩

def isUni (ys : List Int) : Bool := ys == [0, 1, 0, 1]

theorem und116 : Tryd.prog.underlying 116 = some (.array 4 5) := by kernel_rfl
theorem item_step {W : World} {d : Nat} {xs ys : Array Value} {is : List Nat} {i : Nat} {a b : Int} {r : Bool} (ha : (part 5 xs (i * 1)).run Tryd.prog W = .ok (.int .u8 a) W) (hb : (part 5 ys (i * 1)).run Tryd.prog W = .ok (.int .u8 b) W)
    (h : (Op.eqItems (d + 1) 5 1 xs ys is).run Tryd.prog W = .ok r W) : (Op.eqItems (d + 1) 5 1 xs ys (i :: is)).run Tryd.prog W = .ok (a == b && r) W := by
  rw [Op.eqItems]
  simp only [Sem.run_bind, ha, hb, Result.andThen_ok, run_equalIn_int W d 5 .u8 .u8 a b Tryd.underlying5]
  cases a == b
  · simp
  · simpa using h
theorem eq4 (W : World) (a b c d p q r s : Int) : (Op.equalIn 10000 116 (.agg #[.int .u8 a, .int .u8 b, .int .u8 c, .int .u8 d]) (.agg #[.int .u8 p, .int .u8 q, .int .u8 r, .int .u8 s])).run Tryd.prog W = .ok (a == p && (b == q && (c == r && (d == s && true)))) W := by
  obtain ⟨i0, hi0, _⟩ := info_parts info5
  rw [show (10000 : Nat) = 9999 + 1 from rfl, run_equalIn_array W 9999 _ _ und116 hi0, show Tryd.prog.cellsOf 5 = 1 from by kernel_rfl, show List.range 4 = [0, 1, 2, 3] from rfl]
  refine item_step (d := 9998) (by kernel_rfl) (by kernel_rfl) (item_step (by kernel_rfl) (by kernel_rfl) (item_step (by kernel_rfl) (by kernel_rfl) (item_step (by kernel_rfl) (by kernel_rfl) ?_)))
  simp [Op.eqItems]

set_option maxHeartbeats 1600000 in
set_option maxRecDepth 100000 in
theorem asks84 : Asks 84 isUni GlobU :=
  ⟨fun h hb => h.below hb, fun _ _ => by kernel_rfl, fun w A c ys hU hC hl => by
    by_cases h4 : ys.length = 4
    · match ys, h4 with
      | [y0, y1, y2, y3], _ =>
        obtain ⟨u0, u1, u2, u3⟩ := hU
        obtain ⟨ad, rfl, q0⟩ := Kd.at_int hC 0 (by omega) (by simp)
        obtain ⟨ad1, he1, q1⟩ := Kd.at_int hC 1 (by omega) (by simp)
        obtain ⟨ad2, he2, q2⟩ := Kd.at_int hC 2 (by omega) (by simp)
        obtain ⟨ad3, he3, q3⟩ := Kd.at_int hC 3 (by omega) (by simp)
        injection he1 with he1
        injection he2 with he2
        injection he3 with he3
        subst he1 he2 he3
        simp [rd] at q0 q1 q2 q3
        simp [Addr.add] at q0 q1 q2 q3
        have heq : ∀ W : World, (Op.equalIn 10000 116 (.agg #[.int .u8 y0, .int .u8 y1, .int .u8 y2, .int .u8 y3]) (.agg #[.int .u8 0, .int .u8 1, .int .u8 0, .int .u8 1])).run Tryd.prog W = .ok (isUni [y0, y1, y2, y3]) W := fun W => eq4 W _ _ _ _ _ _ _ _
        generalize isUni [y0, y1, y2, y3] = bo at *
        have hat : ∀ W : World, (Instr.arrayAt 116 (.slice (some ad) 4 c)).run Tryd.prog W = .ok (.pointer (some ad)) W := fun _ => by kernel_rfl
        go_enter Tryd.func84, Tryd.ntmps84
        go_wp2_with fail
        go_quiet (fail)
        go_wp2
        go_ret
        exact ⟨rfl, ⟨_, rfl⟩⟩
    · have n0 : ((ys.length : Int) == 4) = false := by
        rw [beq_eq_false_iff_ne]
        omega
      have e : isUni ys = false := by
        unfold isUni
        rw [beq_eq_false_iff_ne]
        intro h
        rw [h] at h4
        exact h4 rfl
      rw [e]
      clear e h4 hU
      go_enter Tryd.func84, Tryd.ntmps84
      go_wp2_with fail
      go_quiet (fail)
      go_wp2
      go_ret
      exact ⟨rfl, ⟨_, rfl⟩⟩⟩

def capsIPv4 (l : List PA.S61) : Bool := !(found (fun x => x.f0 == 1 && isAny x.f1) l).2 || (found (fun x => x.f0 == 1 && isUni x.f1) l).2

set_option maxHeartbeats 1600000 in
set_option maxRecDepth 100000 in
theorem IPv4_calls (w : World) (hU : GlobU w) (A : Option Addr) (c : Nat) (l : List PA.S61) (hC : PA.k61.C w A l.length l) (hl : l.length ≤ 140737488351232) :
    Calls Tryd.prog 31 #[.slice A l.length c] w fun e w' => e = .returned (.bool (capsIPv4 l)) ∧ Below w.heap.size w w' := by
  obtain ⟨x, is, hx⟩ : ∃ x is, found (fun x => x.f0 == 1 && isAny x.f1) l = (x, is) := ⟨_, _, rfl⟩
  obtain ⟨x2, is2, hx2⟩ : ∃ x is, found (fun x => x.f0 == 1 && isUni x.f1) l = (x, is) := ⟨_, _, rfl⟩
  have hcall := find_calls 83 isAny (fun _ => True) asks83 1 w trivial A c l hC hl x is hx
  have hcall2 := fun w2 hU2 hC2 => find_calls 84 isUni GlobU asks84 1 w2 hU2 A c l hC2 hl x2 is2 hx2
  rw [show capsIPv4 l = (!is || is2) by rw [capsIPv4, hx, hx2]]
  have HC := Aside0.mk hcall
  have HC2 := Aside0.mk hcall2
  clear hcall hcall2 hx hx2
  go_enter Tryd.func31, Tryd.ntmps31
  go_wp2_with fail
  refine HC.out.mono ?_
  rintro e w1 ⟨A1, c1, rfl, hC1, hl1, hb1⟩
  have hb2 := hb1.trans ((below_alloc (Below.refl _ _) (.cells #[.int .u8 x.f0, .slice A1 x.f1.length c1] 61)).mono hb1.size)
  have HB2 := Aside0.mk hb2
  clear HC hb2 hb1
  cases is with
  | true =>
    go_wp2_with fail
    refine (HC2.out _ (hU.below HB2.out) (Kd.C_below hC HB2.out)).mono ?_
    rintro e w3 ⟨A3, c3, rfl, hC3, hl3, hb3⟩
    have hb4 := HB2.out.trans (hb3.mono HB2.out.size)
    have hb5 := hb4.trans ((below_alloc (Below.refl _ _) (.cells #[.int .u8 x2.f0, .slice A3 x2.f1.length c3] 61)).mono hb4.size)
    have HB5 := Aside0.mk hb5
    clear hb3 hb4 hb5
    go_wp2
    go_ret
    exact ⟨rfl, HB5.out⟩
  | false =>
    go_wp2_with fail
    refine (HC2.out _ (hU.below HB2.out) (Kd.C_below hC HB2.out)).mono ?_
    rintro e w3 ⟨A3, c3, rfl, hC3, hl3, hb3⟩
    have hb4 := HB2.out.trans (hb3.mono HB2.out.size)
    have hb5 := hb4.trans ((below_alloc (Below.refl _ _) (.cells #[.int .u8 x2.f0, .slice A3 x2.f1.length c3] 61)).mono hb4.size)
    have HB5 := Aside0.mk hb5
    clear hb3 hb4 hb5
    go_wp2
    go_ret
    exact ⟨rfl, HB5.out⟩

/-- A list written out, in new memory. -/
theorem R_litW {α : Type} (d : Kd α) {W : World} {B e : Nat} {xs : List α} {inner : List Value} {okp : Nat → Prop} (hrep : Reps (d.M W B okp) d.sz xs inner) (hB : B ≤ W.heap.size) (hm : xs.length ≤ 9223372036854775807) :
    d.R e (W.alloc (.cells inner.toArray e)) B (fun _ => True) (.slice (some ⟨W.heap.size, 0, none⟩) xs.length xs.length) xs := by
  refine ⟨fun k hk => trivial, inner, ?_, ?_⟩
  · have h2 := World.ownsRow_lit (base := B) (e := e) (size := d.sz) W inner.toArray xs.length hB (by simpa [maxLen] using hm) (by simpa using hrep.1)
    simpa using h2
  · refine hrep.imp_ (fun p c hp => Kd.M_mono d (fun k hk => ⟨trivial, fun he => ?_⟩) (Kd.M_below (Kd.M_bound d hp) (below_alloc (Below.refl _ _) _)))
    have h3 : k = W.heap.size := by simpa [Value.ownBlock] using he
    have := hk.2.2.1
    omega

def ours (n : Int) : List PA.S61 := [⟨1, [0, 1, 0, 1]⟩, ⟨2, []⟩, ⟨65, [n / 16777216 % 256, n / 65536 % 256, n / 256 % 256, n % 256]⟩]

set_option maxHeartbeats 1600000 in
set_option maxRecDepth 100000 in
theorem Ours_calls (w : World) (hU : GlobU w) (n : Int) (h0 : 0 ≤ n) (h1 : n < 4294967296) :
    Calls Tryd.prog 32 #[.int .u32 n] w fun e w' => ∃ v, e = .returned v ∧ PA.k61.R 61 w' w.heap.size (fun _ => True) v (ours n) ∧ Below w.heap.size w w' := by
  have hC : (Kd.int .u8).C w (some ⟨4, 0, none⟩) [0, 1, 0, 1].length [0, 1, 0, 1] := by
    refine Kd.C_of_reads (enc := Value.int .u8) (d := (0 : Int)) ⟨rfl, by simp [maxLen], fun _ => ⟨_, rfl, fun j hj => ?_⟩⟩
    match j, hj with
    | 0, _ => exact hU.u0
    | 1, _ => exact hU.u1
    | 2, _ => exact hU.u2
    | 3, _ => exact hU.u3
    | j + 4, hj => simp at hj; omega
  have hcl := Clone_calls w w.heap.size (some ⟨4, 0, none⟩) 4 [0, 1, 0, 1] (Nat.le_refl _) hC (by simp)
  have HCL := Aside0.mk hcl
  clear hcl hC
  go_enter Tryd.func32, Tryd.ntmps32
  go_wp2_with fail
  refine HCL.out.mono ?_
  rintro e w1 ⟨v1, rfl, hv1, hb1⟩
  clear HCL
  obtain ⟨A1, c1, rfl⟩ := Kd.R_slice hv1
  have hn : n / 16777216 % 256 = n / 16777216 := by omega
  have hr4 := R_litW (Kd.int .u8) (W := w1) (B := w.heap.size) (e := 5) (xs := [n / 16777216, n / 65536 % 256, n / 256 % 256, n % 256]) (inner := nums .u8 [n / 16777216, n / 65536 % 256, n / 256 % 256, n % 256]) (okp := fun _ => True) (Reps.one rfl (Reps.one rfl (Reps.one rfl (Reps.one rfl (Reps.none _ _))))) hb1.size (by simp)
  have hv2 := Kd.R_alloc hv1 (.cells (nums .u8 [n / 16777216, n / 65536 % 256, n / 256 % 256, n % 256]).toArray 5)
  have hb2 := below_alloc hb1 (.cells (nums .u8 [n / 16777216, n / 65536 % 256, n / 256 % 256, n % 256]).toArray 5)
  have HR := Aside0.mk hr4
  have HV := Aside0.mk hv2
  have HB := Aside0.mk hb2
  have HN := Aside0.mk hn
  clear hr4 hv2 hb2 hv1 hb1 hn
  go_wp2
  go_ret
  have hm := R_litW PA.k61 (B := w.heap.size) (e := 61) (xs := ours n) (okp := fun _ => True) (Reps.c2 (PA.k61_mkM _ _ _ ⟨1, [0, 1, 0, 1]⟩ HV.out) (Reps.c2 (PA.k61_mkM _ _ _ ⟨2, []⟩ (Kd.R_nil _ _ _ _ _)) (Reps.c2 (PA.k61_mkM _ _ _ ⟨65, [n / 16777216 % 256, n / 65536 % 256, n / 256 % 256, n % 256]⟩ (by rw [HN.out]; exact HR.out)) (Reps.none _ _)))) HB.out.size (by simp [ours])
  rw [show (w1.alloc (.cells (nums .u8 [n / 16777216, n / 65536 % 256, n / 256 % 256, n % 256]).toArray 5)).heap.size = w1.heap.size + 1 by simp] at hm
  exact ⟨_, rfl, hm, below_alloc HB.out _⟩
end Go.Proofs.YthafedmlbialiaaDoor
