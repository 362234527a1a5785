/-
  The walk of caps.Bytes.
-/
import Derived.Test.YthafedmlbialiaaDoorD0
import Derived.BigQuiet
namespace Go.Proofs.YthafedmlbialiaaDoor
open Go.RowKit Go.Proofs.YthafedmlbialiaaDoorW.PrintWords Go.Proofs.YthafedmlbialiaaDoorW.PrintLast Go.Proofs.YthafedmlbialiaaDoorW.PrintMore
set_option linter.unusedVariables false
set_option linter.unusedSimpArgs false

theorem Wtr.bytes_z (b : List Int) (hs : List PA.S134) (l : List Int) : (⟨b, hs, 0⟩ : Wtr).bytes l = ⟨b ++ l, hs, 0⟩ := if_pos rfl
theorem Wtr.hold_z (b : List Int) (hs : List PA.S134) (n : Nat) : (⟨b, hs, 0⟩ : Wtr).hold n = ⟨b ++ List.replicate n 0, hs ++ [⟨b.length, n⟩], 0⟩ := if_pos rfl
theorem Wtr.hold_z1 (b : List Int) (hs : List PA.S134) : (⟨b, hs, 0⟩ : Wtr).hold 1 = ⟨b ++ [0], hs ++ [⟨b.length, 1⟩], 0⟩ := if_pos rfl
theorem WLen_quiet {w : World} {B g : Nat} {x : Wtr} (h : IsW w B g x) (n : Nat) : Calls Tryd.prog 78 #[.pointer (some ⟨g, 0, none⟩)] (w.drewN n) fun e w'' => e = .returned (.int .i64 (x.b.length : Int)) ∧ ∃ m, w'' = w.drewN m :=
  (WLen_calls (w.drewN n) B g x h).mono fun _ _ ⟨he, hw⟩ => ⟨he, n, hw.symm⟩
/-- A slice's length. -/
def vlen : Value → Nat
  | .slice _ n _ => n
  | _ => 0
/-- The list that is left lies in the caller's memory. -/
structure Rest61 (w : World) (v : Value) (l : List PA.S61) : Prop where
  is : ∃ A c, v = .slice A l.length c ∧ PA.k61.C w A l.length l ∧ l.length ≤ c
  fit : ∀ x, x ∈ l → tooLong x = false
/-- Between parameters. -/
def Outer61 (w : World) (g : Nat) (res : List Int) (M : Nat) (v : Value) (w' : World) : Prop :=
  ∃ l out, Rest61 w v l ∧ IsW w' w.heap.size g ⟨out, [], 0⟩ ∧ KT w.heap.size wts w w' ∧ packs out [] l = res ∧ out.length + 257 * l.length ≤ M
/-- In a parameter. -/
def Inner61 (w : World) (g : Nat) (out : List Int) (l0 : List PA.S61) (res : List Int) (M : Nat) (v : Value) (w' : World) : Prop :=
  ∃ l one, Rest61 w v l ∧ IsW w' w.heap.size g ⟨out ++ [2] ++ [0] ++ one, [⟨out.length + 1, 1⟩], 0⟩ ∧ KT w.heap.size wts w w' ∧ packs out one l = res ∧ one.length ≤ 255 ∧
    ((one = [] ∧ l = l0) ∨ (one ≠ [] ∧ l.length < l0.length ∧ out.length + one.length + 2 + 257 * l.length ≤ M))

set_option maxHeartbeats 4000000 in
set_option maxRecDepth 100000 in
theorem Bytes_calls (w : World) (A : Option Addr) (c : Nat) (l : List PA.S61) (hC : PA.k61.C w A l.length l) (hlc : l.length ≤ c) (hl : l.length ≤ 1000000) :
    Calls Tryd.prog 29 #[.slice A l.length c] w fun e w' => ∃ v, e = .returned (.tuple #[v, .int .i64 (capsBytes l).2]) ∧ (Kd.int .u8).R 5 w' w.heap.size (fun _ => True) v (capsBytes l).1 ∧ Below w.heap.size w w' := by
  cases hL : l.any tooLong with
  | true =>
    have hr : capsBytes l = ([], 1) := by unfold capsBytes; rw [if_pos hL]
    rw [hr]
    have hc := Contains_calls w A c l hC (by omega)
    rw [hL] at hc
    have HC := Aside0.mk hc
    clear hr hL hc
    go_enter Tryd.func29, Tryd.ntmps29
    go_wp2_with fail
    refine HC.out.mono ?_
    rintro e w1 ⟨rfl, hb⟩
    go_wp2
    exact bodyPost_ret (v := .tuple #[.slice none 0 0, .int .i64 1]) (by simp [results, Tryd.results29, go_sem]) rfl ⟨_, rfl, Kd.R_nil _ _ _ _ _, hb⟩
  | false =>
    obtain ⟨res, hres⟩ : ∃ res, packs [] [] l = res := ⟨_, rfl⟩
    have hr : capsBytes l = if 255 < res.length then ([], 3) else (res, 0) := by unfold capsBytes; rw [hL, hres, if_neg (by simp)]
    obtain ⟨fb, fe, hfe⟩ : ∃ fb fe, (if 255 < res.length then (([] : List Int), (3 : Int)) else (res, 0)) = (fb, fe) := ⟨_, _, rfl⟩
    rw [hr, hfe]
    have HF := Aside0.mk hfe
    clear hfe
    have hfit : ∀ x, x ∈ l → tooLong x = false := fun x hx => by simpa using List.any_eq_false.1 hL x hx
    have hc := Contains_calls w A c l hC (by omega)
    rw [hL] at hc
    have HC := Aside0.mk hc
    obtain ⟨M, hM⟩ : ∃ M, 257 * l.length = M := ⟨_, rfl⟩
    have hst : ∀ w2, Below w.heap.size w w2 → ∀ g, IsW w2 g g ⟨[], [], 0⟩ → w.heap.size ≤ g → Outer61 w g res M (.slice A l.length c) w2 := fun w2 hb g hW hg =>
      ⟨l, [], ⟨⟨A, c, rfl, hC, hlc⟩, hfit⟩, hW.lower hg, KT.of_below hb, hres, by simp; omega⟩
    have hMM : M ≤ 257000000 := by omega
    have HST := Aside0.mk hst
    clear hr hL hc hres hfit hst hC hlc hM
    go_enter Tryd.func29, Tryd.ntmps29
    go_wp2_with fail
    refine HC.out.mono ?_
    rintro e w1 ⟨rfl, hb⟩
    go_wp2_with fail
    refine (Lay_calls w1).mono ?_
    rintro e w2 ⟨rfl, hW, hb2⟩
    have ho := HST.out w2 (hb.trans (hb2.mono hb.size)) _ hW hb.size
    clear HST HC hb hb2 hW
    generalize w1.heap.size = g at *
    go_wp2_with fail
    go_loopw [0] (fun v w' => Outer61 w g res M v w') (fun v _ => vlen v)
    case atStart => exact ho
    case round =>
      clear ho
      obtain ⟨l1, out, hRest, hW, hk, hres, hM⟩ := hrel
      obtain ⟨⟨A1, c1, rfl, hC, hlc⟩, hfit⟩ := hRest
      by_cases hl0 : l1 = []
      · subst hl0
        have hro : out = res := by rw [← hres]; rfl
        subst hro
        have hB3 : out.length ≤ 257000000 := by simp at hM; omega
        have hbw : Below w.heap.size w wr := hk.below (Nat.le_refl _)
        clear hC hlc hM hfit hres
        by_cases h255 : 255 < out.length
        · have d1 : decide ((out.length : Int) > 255) = true := decide_eq_true (by omega)
          have d2 : decide (255 < (out.length : Int)) = true := decide_eq_true (by omega)
          have hf := HF.out
          rw [if_pos h255] at hf
          injection hf with hf1 hf2
          subst hf1 hf2
          clear h255 HF
          go_wp2_with fail
          refine (WLen_calls wr w.heap.size g _ hW).mono ?_
          rintro e w3 ⟨rfl, rfl⟩
          go_wp2
          exact bodyPost_ret (v := .tuple #[.slice none 0 0, .int .i64 3]) (by simp [results, Tryd.results29, go_sem]) rfl ⟨_, rfl, Kd.R_nil _ _ _ _ _, hbw⟩
        · have d1 : decide ((out.length : Int) > 255) = false := decide_eq_false (by omega)
          have d2 : decide (255 < (out.length : Int)) = false := decide_eq_false (by omega)
          have hf := HF.out
          rw [if_neg h255] at hf
          injection hf with hf1 hf2
          subst hf1 hf2
          clear h255 HF
          go_wp2_with fail
          refine (WLen_calls wr w.heap.size g _ hW).mono ?_
          rintro e w3 ⟨rfl, rfl⟩
          go_wp2_with fail
          refine (WDone_calls wr w.heap.size g _ hW rfl rfl (by simp; omega)).mono ?_
          rintro e w3 ⟨v, rfl, hv, hb3⟩
          go_wp2
          exact bodyPost_ret (v := .tuple #[v, .int .i64 0]) (by simp [results, Tryd.results29, go_sem]) rfl ⟨_, rfl, Kd.R_lower hv hbw.size, hbw.trans (hb3.mono hbw.size)⟩
      · have hpos : 0 < l1.length := List.length_pos_iff.2 hl0
        have d0 : decide ((l1.length : Int) > 0) = true := decide_eq_true (by omega)
        have d00 : decide (0 < (l1.length : Int)) = true := decide_eq_true (by omega)
        have d000 : decide (0 < l1.length) = true := decide_eq_true hpos
        have hB1 : out.length + 257 ≤ 257000000 := by omega
        have hrest : Rest61 w (.slice A1 l1.length c1) l1 := ⟨⟨A1, c1, rfl, hC, hlc⟩, hfit⟩
        have HRES := Aside0.mk hres
        have HM := Aside0.mk hM
        have HL0 := Aside0.mk hl0
        have HP0 := Aside0.mk hpos
        clear hC hlc hfit hres hM hl0 hpos
        go_wp2_with fail
        refine (WByte_calls _ w.heap.size g _ (hW.below (below_alloc (Below.refl _ _) _)) _ _ [2] (litC (litR wr 5 .u8 [2] (by simp))) (by simp; omega)).mono ?_
        rintro e w3 ⟨rfl, hW3, hk3'⟩
        have hk3 := (hk.alloc (.cells #[.int .u8 2] 5)).trans hk3'
        rw [Wtr.bytes_z] at hW3
        clear hW hk hk3'
        go_wp2_with fail
        refine (Hold1_calls _ w.heap.size g _ hW3 (by simp; omega) (by simp)).mono ?_
        rintro e w4 ⟨rfl, hW4, hk4'⟩
        have hk4 := hk3.trans hk4'
        rw [Wtr.hold_z] at hW4
        clear hW3 hk3 hk4'
        have hin : Inner61 w g out l1 res M (.slice A1 l1.length c1) w4 := by
          refine ⟨l1, [], hrest, ?_, hk4, HRES.out, by simp, .inl ⟨rfl, rfl⟩⟩
          have he : out ++ [2] ++ List.replicate 1 0 = out ++ [2] ++ [0] ++ [] := by simp
          rw [← he]
          have he2 : ([] : List PA.S134) ++ [⟨((out ++ [2]).length : Int), 1⟩] = [⟨(out.length : Int) + 1, 1⟩] := by simp
          simpa [he2] using hW4
        have hfrom : out ++ [2] ++ List.replicate 1 0 = out ++ [2] ++ [0] := rfl
        rw [hfrom] at hW4
        have HLn : Aside0 ((out ++ [2] ++ [0]).length = out.length + 2) := ⟨by simp⟩
        generalize out ++ [2] ++ [0] = b0 at hW4 HLn
        go_wp2_with fail
        refine (WLen_calls w4 w.heap.size g _ hW4).mono ?_
        rintro e w5 ⟨rfl, rfl⟩
        clear hW4 hk4
        go_wp2_with fail
        go_loopw [0] (fun v w' => Inner61 w g out l1 res M v w') (fun v _ => vlen v)
        case atStart => exact hin
        case round =>
          clear hin d0 d00 d000 hrest hMM
          obtain ⟨l2, one, hRest, hW, hk, hres, h1len, hcase⟩ := hrel
          have HREST := Aside0.mk hRest
          obtain ⟨⟨A2, c2, rfl, hC, hlc⟩, hfit⟩ := hRest
          have hexit : (∀ x l', l2 = x :: l' → 255 < one.length + 2 + x.f1.length) → l2.length < l1.length ∧ packs (shutP out one) [] l2 = res ∧ (shutP out one).length + 257 * l2.length ≤ M := by
            intro hx
            rcases hcase with ⟨rfl, rfl⟩ | ⟨h1, h2, h3⟩
            · exfalso
              cases l2 with
              | nil => exact HL0.out rfl
              | cons x l' =>
                have h4 := hx x l' rfl
                have h5 := hfit x (by simp)
                rw [tooLong, decide_eq_false_iff_not] at h5
                simp at h4
                omega
            · exact ⟨h2, by rw [packs_shut h1 hfit hx]; exact hres, by rw [shutP_len]; omega⟩
          have hstep : ∀ x l3, l2 = x :: l3 → one.length + 2 + x.f1.length ≤ 255 → packs out (one ++ capB x) l3 = res ∧ (one ++ capB x).length ≤ 255 ∧ one ++ capB x ≠ [] ∧ l3.length < l1.length ∧ out.length + (one ++ capB x).length + 2 + 257 * l3.length ≤ M := by
            rintro x l3 rfl hx
            refine ⟨by rw [← packs_fit hx]; exact hres, by rw [List.length_append, capB_len]; omega, by simp [capB], ?_⟩
            rw [List.length_append, capB_len]
            rcases hcase with ⟨rfl, rfl⟩ | ⟨h1, h2, h3⟩
            · have := HM.out
              simp at this ⊢
              simp at hx
              omega
            · simp at h2 h3
              constructor <;> omega
          have HEX := Aside0.mk hexit
          have HST := Aside0.mk hstep
          have HFIT := Aside0.mk hfit
          clear hexit hstep hcase hres hfit
          have HB2 : Aside0 ((out ++ [2] ++ [0] ++ one).length = out.length + 2 + one.length) := ⟨by simp; omega⟩
          obtain ⟨b, hbe⟩ : ∃ b, out ++ [2] ++ [0] ++ one = b := ⟨_, rfl⟩
          have HBl := Aside0.mk hbe
          rw [hbe] at hW HB2
          clear hbe
          cases l2 with
          | nil =>
            have hx := HEX.out (fun x l' h => by cases h)
            have HX := Aside0.mk hx
            clear hx hC hlc
            go_wp2_with fail
            go_quiet (fail)
            replace hk := hk.drewN nq
            replace hW : IsW (wr.drewN nq) w.heap.size g _ := hW
            generalize wr.drewN nq = w5 at *
            go_wp2_with fail
            refine (Fill1_calls w5 w.heap.size g _ hW rfl [] (out.length + 1) (by simp) (by have := HB2.out; simp; omega) (by have := HB2.out; simp; omega) (by have := HB2.out; simp; omega) (by simp)).mono ?_
            rintro e w6 ⟨rfl, hW6, hk6'⟩
            have hk6 := hk.trans hk6'
            have hsh : b.set (out.length + 1) ((b.length - (out.length + 1) - 1 : Nat) : Int) = shutP out one := by rw [← HBl.out, fill_n, fill_at]; rfl
            have hW7 : IsW w6 w.heap.size g ⟨shutP out one, [], 0⟩ := by rw [← hsh]; exact hW6
            clear hW6 hk6' hsh hW hk
            go_wp2
            exact ⟨⟨_, shutP out one, HREST.out, hW7, hk6, HX.out.2.1, HX.out.2.2⟩, HX.out.1⟩
          | cons x l3 =>
            have hx253 := HFIT.out x (by simp)
            rw [tooLong, decide_eq_false_iff_not] at hx253
            obtain ⟨ad, A3, c3, had, q0w, q1w, hl3, hCx⟩ := PA.at_T61 hC 0 (by omega) (by rw [List.length_cons]; omega)
            subst had
            simp [PA.rd_T61] at q0w q1w hl3 hCx
            have had0 : ad.add 0 = ad := by simp [Addr.add]
            rw [had0] at q0w q1w
            clear had0
            have q0 := pw_cell_below (hk.below (Nat.le_refl _)) q0w
            have q1 := pw_cell_below (hk.below (Nat.le_refl _)) q1w
            have s1 : IntKind.i64.wrap ((b.length : Int) - b0.length) = one.length := by
              have h1 := HB2.out
              have h2 := HLn.out
              rw [IntWalk.i64_in _ (by omega)]
              omega
            have s2 : IntKind.i64.wrap ((one.length : Int) + 2) = one.length + 2 := IntWalk.i64_in _ (by omega)
            have s3 : IntKind.i64.wrap ((one.length : Int) + 2 + x.f1.length) = one.length + 2 + x.f1.length := IntWalk.i64_in _ (by omega)
            by_cases hft : one.length + 2 + x.f1.length ≤ 255
            · have d1 : decide ((one.length : Int) + 2 + x.f1.length ≤ 255) = true := decide_eq_true (by omega)
              obtain ⟨i0, hi0, _, hsz, _⟩ := info_parts PA.info61
              have hcut := cut_from (P := Tryd.prog) 24 61 .i64 Tryd.underlying24 hi0 2 hsz (some ad) (l3.length + 1) c2 1 (by omega) (by omega)
              have hC3 := Kd.C_drop (m := 1) (c := c2) hC (by simp) hlc
              rw [List.drop_succ_cons, List.drop_zero] at hC3
              obtain ⟨A4, hA4⟩ : ∃ A4, (if c2 = (1 : Int).toNat then some ad else (some ad).map (·.add ((1 : Int).toNat * 2))) = A4 := ⟨_, rfl⟩
              replace hC3 : PA.k61.C w A4 l3.length l3 := by rw [← hA4]; exact hC3
              rw [hA4] at hcut
              have hl4 : l3.length ≤ c2 - 1 := by simp at hlc; omega
              have hrest2 : Rest61 w (.slice A4 l3.length (c2 - 1)) l3 := ⟨⟨A4, c2 - 1, rfl, hC3, hl4⟩, fun y hy => HFIT.out y (by simp [hy])⟩
              have HREST2 := Aside0.mk hrest2
              have HF2 := Aside0.mk hft
              have hs := HST.out x l3 rfl hft
              have HS := Aside0.mk hs
              have HX253 := Aside0.mk hx253
              clear hA4 hC3 hC hlc hl4 hi0 hsz hrest2 hft hs HST HEX hx253
              go_wp2_with fail
              go_quiet (exact WLen_quiet hW _)
              replace hk := hk.drewN nq
              replace hW : IsW (wr.drewN nq) w.heap.size g _ := hW
              replace q0 : (wr.drewN nq).cell? ad = some (.int .u8 x.f0) := q0
              replace q1 : (wr.drewN nq).cell? ⟨ad.block, ad.off + 1, none⟩ = some (.slice A3 x.f1.length c3) := q1
              generalize wr.drewN nq = wr2 at *
              clear s1 s2 s3 d1
              go_wp2_with fail
              refine start_ (n := 14) (S := fun w' => w'.cell? ad = some (.int .u8 x.f0) ∧ w'.cell? ⟨ad.block, ad.off + 1, none⟩ = some (.slice A3 x.f1.length c3)) (ds := []) #[false, false, false, false, false, false, false, false, false, false, false, false, false, false] (by kernel_rfl) rfl rfl (⟨q0, q1⟩) (fun hHeld => ?_)
              replace hW : IsW wr2.drew w.heap.size g _ := hW
              replace hk := hk.drew
              generalize wr2.drew = w2 at *
              refine pure_ (i := 0) (N := (some 37)) (v := ?_) (a' := ?_) #[true, false, false, false, false, false, false, false, false, false, false, false, false, false] rfl rfl (by kernel_rfl) (fun _ _ _ h => h) (Or.inl ⟨by rfl, ?_⟩) ?_ ?_
              rotate_left
              · intro w'
                go_simp
                with_reducible rfl
              rotate_left
              · simp only [Act.put, List.setIfInBounds_toArray, List.set_cons_zero, List.set_cons_succ, i64_w, i32_w]
                rfl
              refine pure_ (i := 1) (N := (some 38)) (v := ?_) (a' := ?_) #[true, true, false, false, false, false, false, false, false, false, false, false, false, false] rfl rfl (by kernel_rfl) (fun _ _ _ h => h) (Or.inl ⟨by rfl, ?_⟩) ?_ ?_
              rotate_left
              · intro w'
                go_simp
                with_reducible rfl
              rotate_left
              · simp only [Act.put, List.setIfInBounds_toArray, List.set_cons_zero, List.set_cons_succ, i64_w, i32_w]
                rfl
              refine pure_ (i := 2) (N := (some 39)) (v := ?_) (a' := ?_) #[true, true, true, false, false, false, false, false, false, false, false, false, false, false] rfl rfl (by kernel_rfl) (fun _ _ _ h => h) (Or.inl ⟨by rfl, ?_⟩) ?_ ?_
              rotate_left
              · intro w'
                go_simp
                with_reducible rfl
              rotate_left
              · simp only [Act.put, List.setIfInBounds_toArray, List.set_cons_zero, List.set_cons_succ, i64_w, i32_w]
                rfl
              refine pure_ (i := 3) (N := (some 40)) (v := ?_) (a' := ?_) #[true, true, true, true, false, false, false, false, false, false, false, false, false, false] rfl rfl (by kernel_rfl) (fun _ _ _ h => h) (Or.inl ⟨by rfl, ?_⟩) ?_ ?_
              rotate_left
              · intro w'
                go_simp
                with_reducible rfl
              rotate_left
              · simp only [Act.put, List.setIfInBounds_toArray, List.set_cons_zero, List.set_cons_succ, i64_w, i32_w]
                rfl
              refine take_ (i := 4) (N := (some 41)) (v := ?_) (a' := ?_) #[true, true, true, true, true, false, false, false, false, false, false, false, false, false] rfl rfl (by kernel_rfl) (fun _ _ _ h => h) (Or.inl ⟨by rfl, ?_⟩) hHeld ?_ ?_
              rotate_left
              · rintro w' ⟨s0, s1⟩
                go_simp
                with_reducible rfl
              rotate_left
              · simp only [Act.put, List.setIfInBounds_toArray, List.set_cons_zero, List.set_cons_succ, i64_w, i32_w]
                rfl
              refine pure_ (i := 8) (N := (some 45)) (v := ?_) (a' := ?_) #[true, true, true, true, true, false, false, false, true, false, false, false, false, false] rfl rfl (by kernel_rfl) (fun _ _ _ h => h) (Or.inl ⟨by rfl, ?_⟩) ?_ ?_
              rotate_left
              · intro w'
                go_simp
                with_reducible rfl
              rotate_left
              · simp only [Act.put, List.setIfInBounds_toArray, List.set_cons_zero, List.set_cons_succ, i64_w, i32_w]
                rfl
              refine pure_ (i := 9) (N := (some 46)) (v := ?_) (a' := ?_) #[true, true, true, true, true, false, false, false, true, true, false, false, false, false] rfl rfl (by kernel_rfl) (fun _ _ _ h => h) (Or.inl ⟨by rfl, ?_⟩) ?_ ?_
              rotate_left
              · intro w'
                go_simp
                with_reducible rfl
              rotate_left
              · simp only [Act.put, List.setIfInBounds_toArray, List.set_cons_zero, List.set_cons_succ, i64_w, i32_w]
                rfl
              refine pure_ (i := 10) (N := (some 47)) (v := ?_) (a' := ?_) #[true, true, true, true, true, false, false, false, true, true, true, false, false, false] rfl rfl (by kernel_rfl) (fun _ _ _ h => h) (Or.inl ⟨by rfl, ?_⟩) ?_ ?_
              rotate_left
              · intro w'
                go_simp
                with_reducible rfl
              rotate_left
              · simp only [Act.put, List.setIfInBounds_toArray, List.set_cons_zero, List.set_cons_succ, i64_w, i32_w]
                rfl
              refine take_ (i := 11) (N := (some 48)) (v := ?_) (a' := ?_) #[true, true, true, true, true, false, false, false, true, true, true, true, false, false] rfl rfl (by kernel_rfl) (fun _ _ _ h => h) (Or.inl ⟨by rfl, ?_⟩) hHeld ?_ ?_
              rotate_left
              · rintro w' ⟨s0, s1⟩
                go_simp
                with_reducible rfl
              rotate_left
              · simp only [Act.put, List.setIfInBounds_toArray, List.set_cons_zero, List.set_cons_succ, i64_w, i32_w]
                rfl
              refine one_ (i := 5) (N := (some 42)) #[true, true, true, true, true, true, false, false, true, true, true, true, false, false] rfl rfl (by kernel_rfl) (by decide) (fun K hK => ?_)
              refine value_ (w1 := ?_) (v := ?_) (by rfl) rfl ?_ ?_
              rotate_left 2
              · go_simp
                constructor
                · rfl
                · rfl
              refine hK.out _ _ (⟨cell_alloc hHeld.1 _, cell_alloc hHeld.2 _⟩) (fun hHeld => ?_)
              clear hK K
              refine norm_ (a' := ?_) ?_ ?_
              rotate_left
              · show Act.put _ (some 42) _ = _
                simp only [Act.put, List.setIfInBounds_toArray, List.set_cons_zero, List.set_cons_succ, i64_w, i32_w]
                rfl
              refine one_ (i := 6) (N := (some 43)) #[true, true, true, true, true, true, true, false, true, true, true, true, false, false] rfl rfl (by kernel_rfl) (by decide) (fun K hK => ?_)
              refine goes_ Tryd.func76 (by kernel_rfl) rfl #[.pointer (some ⟨g, 0, none⟩), .slice (some ⟨w2.heap.size, 0, none⟩) 1 1] (by rfl) rfl rfl (by simp [Act.eval]) ?_
              refine (WByte_calls _ w.heap.size g _ (hW.below (below_alloc (Below.refl _ _) _)) _ _ [x.f0] (litC (litR w2 5 .u8 [x.f0] (by simp))) (by have := HB2.out; have := HX253.out; have := HF2.out; simp; omega)).mono ?_
              rintro e w3 ⟨rfl, hW3, hk3'⟩
              have hk3 := (hk.alloc (.cells #[.int .u8 x.f0] 5)).trans hk3'
              rw [Wtr.bytes_z] at hW3
              refine ⟨_, rfl, ?_⟩
              refine hK.out _ _ (⟨pw_cell_below (hk3.below (Nat.le_refl _)) q0w, pw_cell_below (hk3.below (Nat.le_refl _)) q1w⟩) (fun hHeld => ?_)
              clear hK K
              refine norm_ (a' := ?_) ?_ ?_
              rotate_left
              · show Act.put _ (some 43) _ = _
                simp only [Act.put, List.setIfInBounds_toArray, List.set_cons_zero, List.set_cons_succ, i64_w, i32_w]
                rfl
              refine one_ (i := 7) (N := (some 44)) #[true, true, true, true, true, true, true, true, true, true, true, true, false, false] rfl rfl (by kernel_rfl) (by decide) (fun K hK => ?_)
              refine goes_ Tryd.func77 (by kernel_rfl) rfl #[.pointer (some ⟨g, 0, none⟩), .int .i64 1] (by rfl) rfl rfl (by simp [Act.eval]) ?_
              refine (Hold1_calls _ w.heap.size g _ hW3 (by have := HB2.out; have := HX253.out; have := HF2.out; simp; omega) (by simp)).mono ?_
              rintro e w4 ⟨rfl, hW4, hk4'⟩
              have hk4 := hk3.trans hk4'
              rw [Wtr.hold_z1] at hW4
              refine ⟨_, rfl, ?_⟩
              refine hK.out _ _ (⟨pw_cell_below (hk4.below (Nat.le_refl _)) q0w, pw_cell_below (hk4.below (Nat.le_refl _)) q1w⟩) (fun hHeld => ?_)
              clear hK K
              refine norm_ (a' := ?_) ?_ ?_
              rotate_left
              · show Act.put _ (some 44) _ = _
                simp only [Act.put, List.setIfInBounds_toArray, List.set_cons_zero, List.set_cons_succ, i64_w, i32_w]
                rfl
              refine one_ (i := 12) (N := (some 49)) #[true, true, true, true, true, true, true, true, true, true, true, true, true, false] rfl rfl (by kernel_rfl) (by decide) (fun K hK => ?_)
              refine goes_ Tryd.func76 (by kernel_rfl) rfl #[.pointer (some ⟨g, 0, none⟩), .slice A3 x.f1.length c3] (by rfl) rfl rfl (by simp [Act.eval]) ?_
              refine (WByte_calls _ w.heap.size g _ hW4 A3 c3 x.f1 (Kd.C_below hCx (hk4.below (Nat.le_refl _))) (by have := HB2.out; have := HX253.out; have := HF2.out; simp; omega)).mono ?_
              rintro e w5 ⟨rfl, hW5, hk5'⟩
              have hk5 := hk4.trans hk5'
              rw [Wtr.bytes_z] at hW5
              refine ⟨_, rfl, ?_⟩
              refine hK.out _ _ (⟨pw_cell_below (hk5.below (Nat.le_refl _)) q0w, pw_cell_below (hk5.below (Nat.le_refl _)) q1w⟩) (fun hHeld => ?_)
              clear hK K
              refine norm_ (a' := ?_) ?_ ?_
              rotate_left
              · show Act.put _ (some 49) _ = _
                simp only [Act.put, List.setIfInBounds_toArray, List.set_cons_zero, List.set_cons_succ, i64_w, i32_w]
                rfl
              refine one_ (i := 13) (N := (some 50)) #[true, true, true, true, true, true, true, true, true, true, true, true, true, true] rfl rfl (by kernel_rfl) (by decide) (fun K hK => ?_)
              refine goes_ Tryd.func79 (by kernel_rfl) rfl #[.pointer (some ⟨g, 0, none⟩)] (by rfl) rfl rfl (by simp [Act.eval]) ?_
              refine (Fill1_calls _ w.heap.size g _ hW5 rfl [⟨out.length + 1, 1⟩] (b.length + 1) (by simp) (by simp; omega) (by rw [fill_n]; have := HF2.out; omega) (by have := HB2.out; have := HX253.out; have := HF2.out; simp; omega) (by simp)).mono ?_
              rintro e w6 ⟨rfl, hW6, hk6'⟩
              have hk6 := hk5.trans hk6'
              refine ⟨_, rfl, ?_⟩
              refine hK.out _ _ (⟨pw_cell_below (hk6.below (Nat.le_refl _)) q0w, pw_cell_below (hk6.below (Nat.le_refl _)) q1w⟩) (fun hHeld => ?_)
              clear hK K
              refine norm_ (a' := ?_) ?_ ?_
              rotate_left
              · show Act.put _ (some 50) _ = _
                simp only [Act.put, List.setIfInBounds_toArray, List.set_cons_zero, List.set_cons_succ, i64_w, i32_w]
                rfl
              refine done_ (by kernel_rfl) ?_

              have hW7 : IsW w6 w.heap.size g ⟨out ++ [2] ++ [0] ++ (one ++ capB x), [⟨out.length + 1, 1⟩], 0⟩ := by
                have hs : (b ++ [x.f0] ++ [0] ++ x.f1).set (b.length + 1) (((b ++ [x.f0] ++ [0] ++ x.f1).length - (b.length + 1) - 1 : Nat) : Int) = out ++ [2] ++ [0] ++ (one ++ capB x) := by
                  rw [fill_n, fill_at, ← HBl.out]
                  simp [capB]
                rw [← hs]
                exact hW6
              clear hW3 hW4 hW5 hW6 hk hk3 hk4 hk5 hk3' hk4' hk5' hk6' hHeld hW q0 q1 q0w q1w hCx
              go_wp2
              exact ⟨⟨l3, one ++ capB x, HREST2.out, hW7, hk6, HS.out.1, HS.out.2.1, .inr ⟨HS.out.2.2.1, HS.out.2.2.2⟩⟩, by simp [vlen]⟩
            · have d1 : decide ((one.length : Int) + 2 + x.f1.length ≤ 255) = false := decide_eq_false (by omega)
              have hx := HEX.out (fun x' l' h => by injection h with h1 h2; subst h1; omega)
              have HX := Aside0.mk hx
              clear hx hC hlc
              go_wp2_with fail
              go_quiet (exact WLen_quiet hW _)
              replace hk := hk.drewN nq
              replace hW : IsW (wr.drewN nq) w.heap.size g _ := hW
              clear q0 q1 q0w q1w s1 s2 s3 hCx
              generalize wr.drewN nq = w5 at *
              go_wp2_with fail
              refine (Fill1_calls w5 w.heap.size g _ hW rfl [] (out.length + 1) (by simp) (by have := HB2.out; simp; omega) (by have := HB2.out; simp; omega) (by have := HB2.out; simp; omega) (by simp)).mono ?_
              rintro e w6 ⟨rfl, hW6, hk6'⟩
              have hk6 := hk.trans hk6'
              have hsh : b.set (out.length + 1) ((b.length - (out.length + 1) - 1 : Nat) : Int) = shutP out one := by rw [← HBl.out, fill_n, fill_at]; rfl
              have hW7 : IsW w6 w.heap.size g ⟨shutP out one, [], 0⟩ := by rw [← hsh]; exact hW6
              clear hW6 hk6' hsh hW hk
              go_wp2
              exact ⟨⟨_, shutP out one, HREST.out, hW7, hk6, HX.out.2.1, HX.out.2.2⟩, HX.out.1⟩
end Go.Proofs.YthafedmlbialiaaDoor
