/-
  The walk of caps.Bytes, first part: the question.
-/
import Derived.Test.YthafedmlbialiaaDoorV0
import Derived.BigQuiet
import Derived.ChangeKeysEq
namespace Go.Proofs.YthafedmlbialiaaDoor
open Go.RowKit Go.Proofs.YthafedmlbialiaaDoorW.PrintWords Go.Proofs.YthafedmlbialiaaDoorW.PrintLast Go.Proofs.YthafedmlbialiaaDoorW.PrintMore
set_option linter.unusedVariables false
set_option linter.unusedSimpArgs false

/-- A capability's value is too long. -/
def tooLong (x : PA.S61) : Bool := decide (253 < (x.f1.length : Int))

set_option maxHeartbeats 800000 in
set_option maxRecDepth 100000 in
theorem long1_calls (x : PA.S61) (w : World) (A : Option Addr) (c : Nat) :
    Calls Tryd.prog 74 #[.agg #[.int .u8 x.f0, .slice A x.f1.length c]] w fun e w' => e = .returned (.bool (tooLong x)) ∧ Below w.heap.size w w' := by
  have hb := below_alloc (Below.refl w.heap.size w) (.cells #[.int .u8 x.f0, .slice A x.f1.length c] 61)
  go_enter Tryd.func74, Tryd.ntmps74
  go_wp2
  go_ret
  exact ⟨rfl, hb⟩

set_option maxHeartbeats 1600000 in
set_option maxRecDepth 100000 in
theorem IndexLong_calls (w : World) (A : Option Addr) (c : Nat) (l : List PA.S61) (hC : PA.k61.C w A l.length l) (hl : l.length ≤ 140737488351232) :
    Calls Tryd.prog 95 #[.slice A l.length c, .func (.func 74) #[] #[]] w fun e w' => e = .returned (.int .i64 (idxOf tooLong l)) ∧ Below w.heap.size w w' := by
  obtain ⟨p, hp⟩ : ∃ p : PA.S61 → Bool, tooLong = p := ⟨_, rfl⟩
  rw [hp]
  have HP := Aside0.mk hp
  clear hp
  go_enter Tryd.func95, Tryd.ntmps95
  go_wp2_with fail
  go_loopw [5, 8] (fun a i w' => ∃ k : Nat, k ≤ l.length ∧ i = .int .i64 k ∧ Aside0 (∀ j (hj : j < k) (hl : j < l.length), p l[j] = false) ∧ Aside0 (Below w.heap.size w w')) (fun _ i _ => l.length - (intOf i).toNat)
  case atStart => exact ⟨0, Nat.zero_le _, rfl, ⟨fun j hj => by omega⟩, ⟨Below.refl _ _⟩⟩
  case round =>
    obtain ⟨k, hk, rfl, hno, hb⟩ := hrel
    by_cases hlt : k < l.length
    · obtain ⟨ad, A1, c1, rfl, q0, q1, hl1, hC1⟩ := PA.at_T61 (Kd.C_below hC hb.out) (k : Int) (by omega) (by omega)
      rw [Int.toNat_natCast] at q0 q1
      have hx : PA.rd_T61 l (k : Int) = l[k] := by rw [PA.rd_T61, Int.toNat_natCast, List.getD_eq_getElem?_getD, List.getElem?_eq_getElem hlt]; rfl
      rw [hx] at q0 q1 hl1 hC1
      obtain ⟨x, hxe⟩ : ∃ x, l[k] = x := ⟨_, rfl⟩
      rw [hxe] at q0 q1 hl1 hC1
      have HX := Aside0.mk hxe
      clear hx hxe
      have hcall := long1_calls x wr A1 c1
      have hpx : tooLong x = p x := by rw [← HP.out]
      rw [hpx] at hcall
      have HC := Aside0.mk hcall
      clear hcall hpx
      go_wp2_with fail
      refine HC.out.mono ?_
      rintro e w2 ⟨rfl, hb2⟩
      have hb3 : Below w.heap.size w w2 := hb.out.trans (hb2.mono hb.out.size)
      have HB3 := Aside0.mk hb3
      clear hb2 hb3
      cases hpx : p x with
      | true =>
        have hi : idxOf p l = k := idxOf_some hlt (by rw [HX.out]; exact hpx) (fun j hj => hno.out j hj (by omega))
        have HIX := Aside0.mk hi
        clear hpx hi
        go_wp2
        go_ret
        exact ⟨congrArg (fun z => Ending.returned (.int .i64 z)) HIX.out.symm, HB3.out⟩
      | false =>
        have hno2 := Aside0.mk (show ∀ j (hj : j < k + 1) (hl : j < l.length), p l[j] = false from fun j hj hl => by
          by_cases hjk : j < k
          · exact hno.out j hjk hl
          · obtain rfl : j = k := by omega
            rw [HX.out]; exact hpx)
        clear hpx hno
        go_wp2
        go_roundw
        case rel => exact ⟨k + 1, by omega, by go_num, hno2, HB3⟩
        case measure => simp [intOf]; omega
    · have hke : k = l.length := by omega
      have hi : idxOf p l = -1 := idxOf_none (fun x hx => by
        obtain ⟨j, hj, rfl⟩ := List.getElem_of_mem hx
        exact hno.out j (by omega) hj)
      have HIX := Aside0.mk hi
      have hge : l.length ≤ k := by omega
      clear hke hi hno
      go_wp2
      go_ret
      exact ⟨congrArg (fun z => Ending.returned (.int .i64 z)) HIX.out.symm, hb.out⟩


set_option maxHeartbeats 800000 in
set_option maxRecDepth 100000 in
theorem Contains_calls (w : World) (A : Option Addr) (c : Nat) (l : List PA.S61) (hC : PA.k61.C w A l.length l) (hl : l.length ≤ 140737488351232) :
    Calls Tryd.prog 73 #[.slice A l.length c, .func (.func 74) #[] #[]] w fun e w' => e = .returned (.bool (l.any tooLong)) ∧ Below w.heap.size w w' := by
  have hi : decide (0 ≤ idxOf tooLong l) = l.any tooLong := by
    rcases hf : l.findIdx? tooLong with _ | k
    · have h1 : idxOf tooLong l = -1 := by unfold idxOf; rw [hf]
      have h2 : l.any tooLong = false := by
        rw [List.any_eq_false]
        intro x hx
        have := List.findIdx?_eq_none_iff.1 hf x hx
        simp [this]
      rw [h1, h2]
      rfl
    · have h1 : idxOf tooLong l = k := by unfold idxOf; rw [hf]
      obtain ⟨hk, hp, _⟩ := List.findIdx?_eq_some_iff_getElem.1 hf
      have h2 : l.any tooLong = true := List.any_eq_true.2 ⟨_, List.getElem_mem hk, hp⟩
      rw [h1, h2]
      exact decide_eq_true (by omega)
  have HI := Aside0.mk hi
  clear hi
  obtain ⟨ix, hix⟩ : ∃ ix, idxOf tooLong l = ix := ⟨_, rfl⟩
  have hc := IndexLong_calls w A c l hC hl
  rw [hix] at HI hc
  have HC := Aside0.mk hc
  clear hc hix
  go_enter Tryd.func73, Tryd.ntmps73
  go_wp2_with fail
  refine HC.out.mono ?_
  rintro e w1 ⟨rfl, hb⟩
  go_wp2
  go_ret
  rw [← HI.out]
  exact ⟨by simp, hb⟩

/-- A capability's bytes. -/
def capB (x : PA.S61) : List Int := x.f0 :: (x.f1.length : Int) :: x.f1
theorem capB_len (x : PA.S61) : (capB x).length = x.f1.length + 2 := rfl
theorem capB_ne (x : PA.S61) : capB x ≠ [] := by simp [capB]
/-- A parameter is closed behind others. -/
def shutP (out one : List Int) : List Int := out ++ 2 :: (one.length : Int) :: one
theorem shutP_len (out one : List Int) : (shutP out one).length = out.length + one.length + 2 := by simp [shutP]; omega
/-- Capabilities go into parameters, each as long as they fit. -/
def packs : List Int → List Int → List PA.S61 → List Int
  | out, one, [] => if one = [] then out else shutP out one
  | out, one, x :: l => if 255 < one.length + 2 + x.f1.length then packs (shutP out one) (capB x) l else packs out (one ++ capB x) l
def capsBytes (l : List PA.S61) : List Int × Int :=
  if l.any tooLong then ([], 1) else if 255 < (packs [] [] l).length then ([], 3) else (packs [] [] l, 0)

theorem packs_fit {out one : List Int} {x : PA.S61} {l : List PA.S61} (h : one.length + 2 + x.f1.length ≤ 255) : packs out one (x :: l) = packs out (one ++ capB x) l := if_neg (by omega)
/-- Closing ahead of one that doesn't fit, or at the end, changes nothing. -/
theorem packs_shut {out one : List Int} {l : List PA.S61} (h1 : one ≠ []) (hl : ∀ x, x ∈ l → tooLong x = false) (h : ∀ x l', l = x :: l' → 255 < one.length + 2 + x.f1.length) : packs (shutP out one) [] l = packs out one l := by
  cases l with
  | nil => simp [packs, h1]
  | cons x l' =>
    have hx := hl x (by simp)
    rw [tooLong, decide_eq_false_iff_not] at hx
    rw [packs_fit (by simp; omega), packs, if_pos (h x l' rfl), List.nil_append]
theorem fill_at (P v : List Int) (c n : Int) : (P ++ [c] ++ [0] ++ v).set (P.length + 1) n = P ++ c :: n :: v := by
  rw [List.append_assoc, List.append_assoc, List.set_append_right _ _ (by omega)]
  simp
theorem fill_n (P v : List Int) (c : Int) : (P ++ [c] ++ [0] ++ v).length - (P.length + 1) - 1 = v.length := by simp; omega

theorem Wtr.bytes_z (b : List Int) (hs : List PA.S134) (l : List Int) : (⟨b, hs, 0⟩ : Wtr).bytes l = ⟨b ++ l, hs, 0⟩ := if_pos rfl
theorem Wtr.hold_z (b : List Int) (hs : List PA.S134) (n : Nat) : (⟨b, hs, 0⟩ : Wtr).hold n = ⟨b ++ List.replicate n 0, hs ++ [⟨b.length, n⟩], 0⟩ := if_pos rfl
theorem Wtr.hold_z1 (b : List Int) (hs : List PA.S134) : (⟨b, hs, 0⟩ : Wtr).hold 1 = ⟨b ++ [0], hs ++ [⟨b.length, 1⟩], 0⟩ := if_pos rfl
theorem WLen_quiet {w : World} {B g : Nat} {x : Wtr} (h : IsW w B g x) (n : Nat) : Calls Tryd.prog 78 #[.pointer (some ⟨g, 0, none⟩)] (w.drewN n) fun e w'' => e = .returned (.int .i64 (x.b.length : Int)) ∧ ∃ m, w'' = w.drewN m :=
  (WLen_calls (w.drewN n) B g x h).mono fun _ _ ⟨he, hw⟩ => ⟨he, n, hw.symm⟩
/-- A slice's length. -/
def vlen : Value → Nat
  | .slice _ n _ => n
  | _ => 0
/-- The list that is left lies in the caller's memory. -/
structure Rest61 (w : World) (v : Value) (l : List PA.S61) : Prop where
  is : ∃ A c, v = .slice A l.length c ∧ PA.k61.C w A l.length l ∧ l.length ≤ c
  fit : ∀ x, x ∈ l → tooLong x = false
/-- Between parameters. -/
def Outer61 (w : World) (g : Nat) (res : List Int) (M : Nat) (v : Value) (w' : World) : Prop :=
  ∃ l out, Rest61 w v l ∧ IsW w' w.heap.size g ⟨out, [], 0⟩ ∧ KT w.heap.size wts w w' ∧ packs out [] l = res ∧ out.length + 257 * l.length ≤ M
/-- In a parameter. -/
def Inner61 (w : World) (g : Nat) (out : List Int) (l0 : List PA.S61) (res : List Int) (M : Nat) (v : Value) (w' : World) : Prop :=
  ∃ l one, Rest61 w v l ∧ IsW w' w.heap.size g ⟨out ++ [2] ++ [0] ++ one, [⟨out.length + 1, 1⟩], 0⟩ ∧ KT w.heap.size wts w w' ∧ packs out one l = res ∧ one.length ≤ 255 ∧
    ((one = [] ∧ l = l0) ∨ (one ≠ [] ∧ l.length < l0.length ∧ out.length + one.length + 2 + 257 * l.length ≤ M))

set_option maxHeartbeats 4000000 in
set_option maxRecDepth 100000 in
theorem Bytes_calls (w : World) (A : Option Addr) (c : Nat) (l : List PA.S61) (hC : PA.k61.C w A l.length l) (hlc : l.length ≤ c) (hl : l.length ≤ 1000000) :
    Calls Tryd.prog 29 #[.slice A l.length c] w fun e w' => ∃ v, e = .returned (.tuple #[v, .int .i64 (capsBytes l).2]) ∧ (Kd.int .u8).R 5 w' w.heap.size (fun _ => True) v (capsBytes l).1 ∧ Below w.heap.size w w' := by
  cases hL : l.any tooLong with
  | true =>
    have hr : capsBytes l = ([], 1) := by unfold capsBytes; rw [if_pos hL]
    rw [hr]
    have hc := Contains_calls w A c l hC (by omega)
    rw [hL] at hc
    have HC := Aside0.mk hc
    clear hr hL hc
    go_enter Tryd.func29, Tryd.ntmps29
    go_wp2_with fail
    refine HC.out.mono ?_
    rintro e w1 ⟨rfl, hb⟩
    go_wp2
    exact bodyPost_ret (v := .tuple #[.slice none 0 0, .int .i64 1]) (by simp [results, Tryd.results29, go_sem]) rfl ⟨_, rfl, Kd.R_nil _ _ _ _ _, hb⟩
  | false =>
    obtain ⟨res, hres⟩ : ∃ res, packs [] [] l = res := ⟨_, rfl⟩
    have hr : capsBytes l = if 255 < res.length then ([], 3) else (res, 0) := by unfold capsBytes; rw [hL, hres, if_neg (by simp)]
    obtain ⟨fb, fe, hfe⟩ : ∃ fb fe, (if 255 < res.length then (([] : List Int), (3 : Int)) else (res, 0)) = (fb, fe) := ⟨_, _, rfl⟩
    rw [hr, hfe]
    have HF := Aside0.mk hfe
    clear hfe
    have hfit : ∀ x, x ∈ l → tooLong x = false := fun x hx => by simpa using List.any_eq_false.1 hL x hx
    have hc := Contains_calls w A c l hC (by omega)
    rw [hL] at hc
    have HC := Aside0.mk hc
    obtain ⟨M, hM⟩ : ∃ M, 257 * l.length = M := ⟨_, rfl⟩
    have hst : ∀ w2, Below w.heap.size w w2 → ∀ g, IsW w2 g g ⟨[], [], 0⟩ → w.heap.size ≤ g → Outer61 w g res M (.slice A l.length c) w2 := fun w2 hb g hW hg =>
      ⟨l, [], ⟨⟨A, c, rfl, hC, hlc⟩, hfit⟩, hW.lower hg, KT.of_below hb, hres, by simp; omega⟩
    have hMM : M ≤ 257000000 := by omega
    have HST := Aside0.mk hst
    clear hr hL hc hres hfit hst hC hlc hM
    go_enter Tryd.func29, Tryd.ntmps29
    go_wp2_with fail
    refine HC.out.mono ?_
    rintro e w1 ⟨rfl, hb⟩
    go_wp2_with fail
    refine (Lay_calls w1).mono ?_
    rintro e w2 ⟨rfl, hW, hb2⟩
    have ho := HST.out w2 (hb.trans (hb2.mono hb.size)) _ hW hb.size
    clear HST HC hb hb2 hW
    generalize w1.heap.size = g at *
    go_wp2_with fail
    go_loopw [0] (fun v w' => Outer61 w g res M v w') (fun v _ => vlen v)
    case atStart => exact ho
    case round =>
      clear ho
      obtain ⟨l1, out, hRest, hW, hk, hres, hM⟩ := hrel
      obtain ⟨⟨A1, c1, rfl, hC, hlc⟩, hfit⟩ := hRest
      by_cases hl0 : l1 = []
      · subst hl0
        have hro : out = res := by rw [← hres]; rfl
        subst hro
        have hB3 : out.length ≤ 257000000 := by simp at hM; omega
        have hbw : Below w.heap.size w wr := hk.below (Nat.le_refl _)
        clear hC hlc hM hfit hres
        by_cases h255 : 255 < out.length
        · have d1 : decide ((out.length : Int) > 255) = true := decide_eq_true (by omega)
          have d2 : decide (255 < (out.length : Int)) = true := decide_eq_true (by omega)
          have hf := HF.out
          rw [if_pos h255] at hf
          injection hf with hf1 hf2
          subst hf1 hf2
          clear h255 HF
          go_wp2_with fail
          refine (WLen_calls wr w.heap.size g _ hW).mono ?_
          rintro e w3 ⟨rfl, rfl⟩
          go_wp2
          exact bodyPost_ret (v := .tuple #[.slice none 0 0, .int .i64 3]) (by simp [results, Tryd.results29, go_sem]) rfl ⟨_, rfl, Kd.R_nil _ _ _ _ _, hbw⟩
        · have d1 : decide ((out.length : Int) > 255) = false := decide_eq_false (by omega)
          have d2 : decide (255 < (out.length : Int)) = false := decide_eq_false (by omega)
          have hf := HF.out
          rw [if_neg h255] at hf
          injection hf with hf1 hf2
          subst hf1 hf2
          clear h255 HF
          go_wp2_with fail
          refine (WLen_calls wr w.heap.size g _ hW).mono ?_
          rintro e w3 ⟨rfl, rfl⟩
          go_wp2_with fail
          refine (WDone_calls wr w.heap.size g _ hW rfl rfl (by simp; omega)).mono ?_
          rintro e w3 ⟨v, rfl, hv, hb3⟩
          go_wp2
          exact bodyPost_ret (v := .tuple #[v, .int .i64 0]) (by simp [results, Tryd.results29, go_sem]) rfl ⟨_, rfl, Kd.R_lower hv hbw.size, hbw.trans (hb3.mono hbw.size)⟩
      · have hpos : 0 < l1.length := List.length_pos_iff.2 hl0
        have d0 : decide ((l1.length : Int) > 0) = true := decide_eq_true (by omega)
        have d00 : decide (0 < (l1.length : Int)) = true := decide_eq_true (by omega)
        have d000 : decide (0 < l1.length) = true := decide_eq_true hpos
        have hB1 : out.length + 257 ≤ 257000000 := by omega
        have hrest : Rest61 w (.slice A1 l1.length c1) l1 := ⟨⟨A1, c1, rfl, hC, hlc⟩, hfit⟩
        have HRES := Aside0.mk hres
        have HM := Aside0.mk hM
        have HL0 := Aside0.mk hl0
        have HP0 := Aside0.mk hpos
        clear hC hlc hfit hres hM hl0 hpos
        go_wp2_with fail
        refine (WByte_calls _ w.heap.size g _ (hW.below (below_alloc (Below.refl _ _) _)) _ _ [2] (litC (litR wr 5 .u8 [2] (by simp))) (by simp; omega)).mono ?_
        rintro e w3 ⟨rfl, hW3, hk3'⟩
        have hk3 := (hk.alloc (.cells #[.int .u8 2] 5)).trans hk3'
        rw [Wtr.bytes_z] at hW3
        clear hW hk hk3'
        go_wp2_with fail
        refine (Hold1_calls _ w.heap.size g _ hW3 (by simp; omega) (by simp)).mono ?_
        rintro e w4 ⟨rfl, hW4, hk4'⟩
        have hk4 := hk3.trans hk4'
        rw [Wtr.hold_z] at hW4
        clear hW3 hk3 hk4'
        have hin : Inner61 w g out l1 res M (.slice A1 l1.length c1) w4 := by
          refine ⟨l1, [], hrest, ?_, hk4, HRES.out, by simp, .inl ⟨rfl, rfl⟩⟩
          have he : out ++ [2] ++ List.replicate 1 0 = out ++ [2] ++ [0] ++ [] := by simp
          rw [← he]
          have he2 : ([] : List PA.S134) ++ [⟨((out ++ [2]).length : Int), 1⟩] = [⟨(out.length : Int) + 1, 1⟩] := by simp
          simpa [he2] using hW4
        have hfrom : out ++ [2] ++ List.replicate 1 0 = out ++ [2] ++ [0] := rfl
        rw [hfrom] at hW4
        have HLn : Aside0 ((out ++ [2] ++ [0]).length = out.length + 2) := ⟨by simp⟩
        generalize out ++ [2] ++ [0] = b0 at hW4 HLn
        go_wp2_with fail
        refine (WLen_calls w4 w.heap.size g _ hW4).mono ?_
        rintro e w5 ⟨rfl, rfl⟩
        clear hW4 hk4
        go_wp2_with fail
        go_loopw [0] (fun v w' => Inner61 w g out l1 res M v w') (fun v _ => vlen v)
        case atStart => exact hin
        case round =>
          clear hin d0 d00 d000 hrest hMM
          obtain ⟨l2, one, hRest, hW, hk, hres, h1len, hcase⟩ := hrel
          have HREST := Aside0.mk hRest
          obtain ⟨⟨A2, c2, rfl, hC, hlc⟩, hfit⟩ := hRest
          have hexit : (∀ x l', l2 = x :: l' → 255 < one.length + 2 + x.f1.length) → l2.length < l1.length ∧ packs (shutP out one) [] l2 = res ∧ (shutP out one).length + 257 * l2.length ≤ M := by
            intro hx
            rcases hcase with ⟨rfl, rfl⟩ | ⟨h1, h2, h3⟩
            · exfalso
              cases l2 with
              | nil => exact HL0.out rfl
              | cons x l' =>
                have h4 := hx x l' rfl
                have h5 := hfit x (by simp)
                rw [tooLong, decide_eq_false_iff_not] at h5
                simp at h4
                omega
            · exact ⟨h2, by rw [packs_shut h1 hfit hx]; exact hres, by rw [shutP_len]; omega⟩
          have hstep : ∀ x l3, l2 = x :: l3 → one.length + 2 + x.f1.length ≤ 255 → packs out (one ++ capB x) l3 = res ∧ (one ++ capB x).length ≤ 255 ∧ one ++ capB x ≠ [] ∧ l3.length < l1.length ∧ out.length + (one ++ capB x).length + 2 + 257 * l3.length ≤ M := by
            rintro x l3 rfl hx
            refine ⟨by rw [← packs_fit hx]; exact hres, by rw [List.length_append, capB_len]; omega, by simp [capB], ?_⟩
            rw [List.length_append, capB_len]
            rcases hcase with ⟨rfl, rfl⟩ | ⟨h1, h2, h3⟩
            · have := HM.out
              simp at this ⊢
              simp at hx
              omega
            · simp at h2 h3
              constructor <;> omega
          have HEX := Aside0.mk hexit
          have HST := Aside0.mk hstep
          have HFIT := Aside0.mk hfit
          clear hexit hstep hcase hres hfit
          have HB2 : Aside0 ((out ++ [2] ++ [0] ++ one).length = out.length + 2 + one.length) := ⟨by simp; omega⟩
          obtain ⟨b, hbe⟩ : ∃ b, out ++ [2] ++ [0] ++ one = b := ⟨_, rfl⟩
          have HBl := Aside0.mk hbe
          rw [hbe] at hW HB2
          clear hbe
          cases l2 with
          | nil =>
            have hx := HEX.out (fun x l' h => by cases h)
            have HX := Aside0.mk hx
            clear hx hC hlc
            go_wp2_with fail
            go_quiet (fail)
            replace hk := hk.drewN nq
            replace hW : IsW (wr.drewN nq) w.heap.size g _ := hW
            generalize wr.drewN nq = w5 at *
            go_wp2_with fail
            refine (Fill1_calls w5 w.heap.size g _ hW rfl [] (out.length + 1) (by simp) (by have := HB2.out; simp; omega) (by have := HB2.out; simp; omega) (by have := HB2.out; simp; omega) (by simp)).mono ?_
            rintro e w6 ⟨rfl, hW6, hk6'⟩
            have hk6 := hk.trans hk6'
            have hsh : b.set (out.length + 1) ((b.length - (out.length + 1) - 1 : Nat) : Int) = shutP out one := by rw [← HBl.out, fill_n, fill_at]; rfl
            have hW7 : IsW w6 w.heap.size g ⟨shutP out one, [], 0⟩ := by rw [← hsh]; exact hW6
            clear hW6 hk6' hsh hW hk
            go_wp2
            exact ⟨⟨_, shutP out one, HREST.out, hW7, hk6, HX.out.2.1, HX.out.2.2⟩, HX.out.1⟩
          | cons x l3 =>
            have hx253 := HFIT.out x (by simp)
            rw [tooLong, decide_eq_false_iff_not] at hx253
            obtain ⟨ad, A3, c3, had, q0w, q1w, hl3, hCx⟩ := PA.at_T61 hC 0 (by omega) (by rw [List.length_cons]; omega)
            subst had
            simp [PA.rd_T61] at q0w q1w hl3 hCx
            have had0 : ad.add 0 = ad := by simp [Addr.add]
            rw [had0] at q0w q1w
            clear had0
            have q0 := pw_cell_below (hk.below (Nat.le_refl _)) q0w
            have q1 := pw_cell_below (hk.below (Nat.le_refl _)) q1w
            have s1 : IntKind.i64.wrap ((b.length : Int) - b0.length) = one.length := by
              have h1 := HB2.out
              have h2 := HLn.out
              rw [IntWalk.i64_in _ (by omega)]
              omega
            have s2 : IntKind.i64.wrap ((one.length : Int) + 2) = one.length + 2 := IntWalk.i64_in _ (by omega)
            have s3 : IntKind.i64.wrap ((one.length : Int) + 2 + x.f1.length) = one.length + 2 + x.f1.length := IntWalk.i64_in _ (by omega)
            by_cases hft : one.length + 2 + x.f1.length ≤ 255
            · have d1 : decide ((one.length : Int) + 2 + x.f1.length ≤ 255) = true := decide_eq_true (by omega)
              obtain ⟨i0, hi0, _, hsz, _⟩ := info_parts PA.info61
              have hcut := cut_from (P := Tryd.prog) 24 61 .i64 Tryd.underlying24 hi0 2 hsz (some ad) (l3.length + 1) c2 1 (by omega) (by omega)
              have hC3 := Kd.C_drop (m := 1) (c := c2) hC (by simp) hlc
              rw [List.drop_succ_cons, List.drop_zero] at hC3
              obtain ⟨A4, hA4⟩ : ∃ A4, (if c2 = (1 : Int).toNat then some ad else (some ad).map (·.add ((1 : Int).toNat * 2))) = A4 := ⟨_, rfl⟩
              replace hC3 : PA.k61.C w A4 l3.length l3 := by rw [← hA4]; exact hC3
              rw [hA4] at hcut
              have hl4 : l3.length ≤ c2 - 1 := by simp at hlc; omega
              have hrest2 : Rest61 w (.slice A4 l3.length (c2 - 1)) l3 := ⟨⟨A4, c2 - 1, rfl, hC3, hl4⟩, fun y hy => HFIT.out y (by simp [hy])⟩
              have HREST2 := Aside0.mk hrest2
              have HF2 := Aside0.mk hft
              have hs := HST.out x l3 rfl hft
              have HS := Aside0.mk hs
              have HX253 := Aside0.mk hx253
              clear hA4 hC3 hC hlc hl4 hi0 hsz hrest2 hft hs HST HEX hx253
              go_wp2_with fail
              go_quiet (exact WLen_quiet hW _)
              replace hk := hk.drewN nq
              replace hW : IsW (wr.drewN nq) w.heap.size g _ := hW
              replace q0 : (wr.drewN nq).cell? ad = some (.int .u8 x.f0) := q0
              replace q1 : (wr.drewN nq).cell? ⟨ad.block, ad.off + 1, none⟩ = some (.slice A3 x.f1.length c3) := q1
              generalize wr.drewN nq = wr2 at *
              clear s1 s2 s3 d1
              go_wp2_with fail
              refine start_ (n := 14) (S := fun w' => w'.cell? ad = some (.int .u8 x.f0) ∧ w'.cell? ⟨ad.block, ad.off + 1, none⟩ = some (.slice A3 x.f1.length c3)) (ds := []) #[false, false, false, false, false, false, false, false, false, false, false, false, false, false] (by kernel_rfl) rfl rfl (⟨q0, q1⟩) (fun hHeld => ?_)
              replace hW : IsW wr2.drew w.heap.size g _ := hW
              replace hk := hk.drew
              generalize wr2.drew = w2 at *
              refine pure_ (i := 0) (N := (some 37)) (v := ?_) (a' := ?_) #[true, false, false, false, false, false, false, false, false, false, false, false, false, false] rfl rfl (by kernel_rfl) (fun _ _ _ h => h) (Or.inl ⟨by rfl, ?_⟩) ?_ ?_
              rotate_left
              · intro w'
                go_simp
                with_reducible rfl
              rotate_left
              · simp only [Act.put, List.setIfInBounds_toArray, List.set_cons_zero, List.set_cons_succ, i64_w, i32_w]
                rfl
              refine pure_ (i := 1) (N := (some 38)) (v := ?_) (a' := ?_) #[true, true, false, false, false, false, false, false, false, false, false, false, false, false] rfl rfl (by kernel_rfl) (fun _ _ _ h => h) (Or.inl ⟨by rfl, ?_⟩) ?_ ?_
              rotate_left
              · intro w'
                go_simp
                with_reducible rfl
              rotate_left
              · simp only [Act.put, List.setIfInBounds_toArray, List.set_cons_zero, List.set_cons_succ, i64_w, i32_w]
                rfl
              refine pure_ (i := 2) (N := (some 39)) (v := ?_) (a' := ?_) #[true, true, true, false, false, false, false, false, false, false, false, false, false, false] rfl rfl (by kernel_rfl) (fun _ _ _ h => h) (Or.inl ⟨by rfl, ?_⟩) ?_ ?_
              rotate_left
              · intro w'
                go_simp
                with_reducible rfl
              rotate_left
              · simp only [Act.put, List.setIfInBounds_toArray, List.set_cons_zero, List.set_cons_succ, i64_w, i32_w]
                rfl
              refine pure_ (i := 3) (N := (some 40)) (v := ?_) (a' := ?_) #[true, true, true, true, false, false, false, false, false, false, false, false, false, false] rfl rfl (by kernel_rfl) (fun _ _ _ h => h) (Or.inl ⟨by rfl, ?_⟩) ?_ ?_
              rotate_left
              · intro w'
                go_simp
                with_reducible rfl
              rotate_left
              · simp only [Act.put, List.setIfInBounds_toArray, List.set_cons_zero, List.set_cons_succ, i64_w, i32_w]
                rfl
              refine take_ (i := 4) (N := (some 41)) (v := ?_) (a' := ?_) #[true, true, true, true, true, false, false, false, false, false, false, false, false, false] rfl rfl (by kernel_rfl) (fun _ _ _ h => h) (Or.inl ⟨by rfl, ?_⟩) hHeld ?_ ?_
              rotate_left
              · rintro w' ⟨s0, s1⟩
                go_simp
                with_reducible rfl
              rotate_left
              · simp only [Act.put, List.setIfInBounds_toArray, List.set_cons_zero, List.set_cons_succ, i64_w, i32_w]
                rfl
              refine pure_ (i := 8) (N := (some 45)) (v := ?_) (a' := ?_) #[true, true, true, true, true, false, false, false, true, false, false, false, false, false] rfl rfl (by kernel_rfl) (fun _ _ _ h => h) (Or.inl ⟨by rfl, ?_⟩) ?_ ?_
              rotate_left
              · intro w'
                go_simp
                with_reducible rfl
              rotate_left
              · simp only [Act.put, List.setIfInBounds_toArray, List.set_cons_zero, List.set_cons_succ, i64_w, i32_w]
                rfl
              refine pure_ (i := 9) (N := (some 46)) (v := ?_) (a' := ?_) #[true, true, true, true, true, false, false, false, true, true, false, false, false, false] rfl rfl (by kernel_rfl) (fun _ _ _ h => h) (Or.inl ⟨by rfl, ?_⟩) ?_ ?_
              rotate_left
              · intro w'
                go_simp
                with_reducible rfl
              rotate_left
              · simp only [Act.put, List.setIfInBounds_toArray, List.set_cons_zero, List.set_cons_succ, i64_w, i32_w]
                rfl
              refine pure_ (i := 10) (N := (some 47)) (v := ?_) (a' := ?_) #[true, true, true, true, true, false, false, false, true, true, true, false, false, false] rfl rfl (by kernel_rfl) (fun _ _ _ h => h) (Or.inl ⟨by rfl, ?_⟩) ?_ ?_
              rotate_left
              · intro w'
                go_simp
                with_reducible rfl
              rotate_left
              · simp only [Act.put, List.setIfInBounds_toArray, List.set_cons_zero, List.set_cons_succ, i64_w, i32_w]
                rfl
              refine take_ (i := 11) (N := (some 48)) (v := ?_) (a' := ?_) #[true, true, true, true, true, false, false, false, true, true, true, true, false, false] rfl rfl (by kernel_rfl) (fun _ _ _ h => h) (Or.inl ⟨by rfl, ?_⟩) hHeld ?_ ?_
              rotate_left
              · rintro w' ⟨s0, s1⟩
                go_simp
                with_reducible rfl
              rotate_left
              · simp only [Act.put, List.setIfInBounds_toArray, List.set_cons_zero, List.set_cons_succ, i64_w, i32_w]
                rfl
              refine one_ (i := 5) (N := (some 42)) #[true, true, true, true, true, true, false, false, true, true, true, true, false, false] rfl rfl (by kernel_rfl) (by decide) (fun K hK => ?_)
              refine value_ (w1 := ?_) (v := ?_) (by rfl) rfl ?_ ?_
              rotate_left 2
              · go_simp
                constructor
                · rfl
                · rfl
              refine hK.out _ _ (⟨cell_alloc hHeld.1 _, cell_alloc hHeld.2 _⟩) (fun hHeld => ?_)
              clear hK K
              refine norm_ (a' := ?_) ?_ ?_
              rotate_left
              · show Act.put _ (some 42) _ = _
                simp only [Act.put, List.setIfInBounds_toArray, List.set_cons_zero, List.set_cons_succ, i64_w, i32_w]
                rfl
              refine one_ (i := 6) (N := (some 43)) #[true, true, true, true, true, true, true, false, true, true, true, true, false, false] rfl rfl (by kernel_rfl) (by decide) (fun K hK => ?_)
              refine goes_ Tryd.func76 (by kernel_rfl) rfl #[.pointer (some ⟨g, 0, none⟩), .slice (some ⟨w2.heap.size, 0, none⟩) 1 1] (by rfl) rfl rfl (by simp [Act.eval]) ?_
              refine (WByte_calls _ w.heap.size g _ (hW.below (below_alloc (Below.refl _ _) _)) _ _ [x.f0] (litC (litR w2 5 .u8 [x.f0] (by simp))) (by have := HB2.out; have := HX253.out; have := HF2.out; simp; omega)).mono ?_
              rintro e w3 ⟨rfl, hW3, hk3'⟩
              have hk3 := (hk.alloc (.cells #[.int .u8 x.f0] 5)).trans hk3'
              rw [Wtr.bytes_z] at hW3
              refine ⟨_, rfl, ?_⟩
              refine hK.out _ _ (⟨pw_cell_below (hk3.below (Nat.le_refl _)) q0w, pw_cell_below (hk3.below (Nat.le_refl _)) q1w⟩) (fun hHeld => ?_)
              clear hK K
              refine norm_ (a' := ?_) ?_ ?_
              rotate_left
              · show Act.put _ (some 43) _ = _
                simp only [Act.put, List.setIfInBounds_toArray, List.set_cons_zero, List.set_cons_succ, i64_w, i32_w]
                rfl
              refine one_ (i := 7) (N := (some 44)) #[true, true, true, true, true, true, true, true, true, true, true, true, false, false] rfl rfl (by kernel_rfl) (by decide) (fun K hK => ?_)
              refine goes_ Tryd.func77 (by kernel_rfl) rfl #[.pointer (some ⟨g, 0, none⟩), .int .i64 1] (by rfl) rfl rfl (by simp [Act.eval]) ?_
              refine (Hold1_calls _ w.heap.size g _ hW3 (by have := HB2.out; have := HX253.out; have := HF2.out; simp; omega) (by simp)).mono ?_
              rintro e w4 ⟨rfl, hW4, hk4'⟩
              have hk4 := hk3.trans hk4'
              rw [Wtr.hold_z1] at hW4
              refine ⟨_, rfl, ?_⟩
              refine hK.out _ _ (⟨pw_cell_below (hk4.below (Nat.le_refl _)) q0w, pw_cell_below (hk4.below (Nat.le_refl _)) q1w⟩) (fun hHeld => ?_)
              clear hK K
              refine norm_ (a' := ?_) ?_ ?_
              rotate_left
              · show Act.put _ (some 44) _ = _
                simp only [Act.put, List.setIfInBounds_toArray, List.set_cons_zero, List.set_cons_succ, i64_w, i32_w]
                rfl
              refine one_ (i := 12) (N := (some 49)) #[true, true, true, true, true, true, true, true, true, true, true, true, true, false] rfl rfl (by kernel_rfl) (by decide) (fun K hK => ?_)
              refine goes_ Tryd.func76 (by kernel_rfl) rfl #[.pointer (some ⟨g, 0, none⟩), .slice A3 x.f1.length c3] (by rfl) rfl rfl (by simp [Act.eval]) ?_
              refine (WByte_calls _ w.heap.size g _ hW4 A3 c3 x.f1 (Kd.C_below hCx (hk4.below (Nat.le_refl _))) (by have := HB2.out; have := HX253.out; have := HF2.out; simp; omega)).mono ?_
              rintro e w5 ⟨rfl, hW5, hk5'⟩
              have hk5 := hk4.trans hk5'
              rw [Wtr.bytes_z] at hW5
              refine ⟨_, rfl, ?_⟩
              refine hK.out _ _ (⟨pw_cell_below (hk5.below (Nat.le_refl _)) q0w, pw_cell_below (hk5.below (Nat.le_refl _)) q1w⟩) (fun hHeld => ?_)
              clear hK K
              refine norm_ (a' := ?_) ?_ ?_
              rotate_left
              · show Act.put _ (some 49) _ = _
                simp only [Act.put, List.setIfInBounds_toArray, List.set_cons_zero, List.set_cons_succ, i64_w, i32_w]
                rfl
              refine one_ (i := 13) (N := (some 50)) #[true, true, true, true, true, true, true, true, true, true, true, true, true, true] rfl rfl (by kernel_rfl) (by decide) (fun K hK => ?_)
              refine goes_ Tryd.func79 (by kernel_rfl) rfl #[.pointer (some ⟨g, 0, none⟩)] (by rfl) rfl rfl (by simp [Act.eval]) ?_
              refine (Fill1_calls _ w.heap.size g _ hW5 rfl [⟨out.length + 1, 1⟩] (b.length + 1) (by simp) (by simp; omega) (by rw [fill_n]; have := HF2.out; omega) (by have := HB2.out; have := HX253.out; have := HF2.out; simp; omega) (by simp)).mono ?_
              rintro e w6 ⟨rfl, hW6, hk6'⟩
              have hk6 := hk5.trans hk6'
              refine ⟨_, rfl, ?_⟩
              refine hK.out _ _ (⟨pw_cell_below (hk6.below (Nat.le_refl _)) q0w, pw_cell_below (hk6.below (Nat.le_refl _)) q1w⟩) (fun hHeld => ?_)
              clear hK K
              refine norm_ (a' := ?_) ?_ ?_
              rotate_left
              · show Act.put _ (some 50) _ = _
                simp only [Act.put, List.setIfInBounds_toArray, List.set_cons_zero, List.set_cons_succ, i64_w, i32_w]
                rfl
              refine done_ (by kernel_rfl) ?_

              have hW7 : IsW w6 w.heap.size g ⟨out ++ [2] ++ [0] ++ (one ++ capB x), [⟨out.length + 1, 1⟩], 0⟩ := by
                have hs : (b ++ [x.f0] ++ [0] ++ x.f1).set (b.length + 1) (((b ++ [x.f0] ++ [0] ++ x.f1).length - (b.length + 1) - 1 : Nat) : Int) = out ++ [2] ++ [0] ++ (one ++ capB x) := by
                  rw [fill_n, fill_at, ← HBl.out]
                  simp [capB]
                rw [← hs]
                exact hW6
              clear hW3 hW4 hW5 hW6 hk hk3 hk4 hk5 hk3' hk4' hk5' hk6' hHeld hW q0 q1 q0w q1w hCx
              go_wp2
              exact ⟨⟨l3, one ++ capB x, HREST2.out, hW7, hk6, HS.out.1, HS.out.2.1, .inr ⟨HS.out.2.2.1, HS.out.2.2.2⟩⟩, by simp [vlen]⟩
            · have d1 : decide ((one.length : Int) + 2 + x.f1.length ≤ 255) = false := decide_eq_false (by omega)
              have hx := HEX.out (fun x' l' h => by injection h with h1 h2; subst h1; omega)
              have HX := Aside0.mk hx
              clear hx hC hlc
              go_wp2_with fail
              go_quiet (exact WLen_quiet hW _)
              replace hk := hk.drewN nq
              replace hW : IsW (wr.drewN nq) w.heap.size g _ := hW
              clear q0 q1 q0w q1w s1 s2 s3 hCx
              generalize wr.drewN nq = w5 at *
              go_wp2_with fail
              refine (Fill1_calls w5 w.heap.size g _ hW rfl [] (out.length + 1) (by simp) (by have := HB2.out; simp; omega) (by have := HB2.out; simp; omega) (by have := HB2.out; simp; omega) (by simp)).mono ?_
              rintro e w6 ⟨rfl, hW6, hk6'⟩
              have hk6 := hk.trans hk6'
              have hsh : b.set (out.length + 1) ((b.length - (out.length + 1) - 1 : Nat) : Int) = shutP out one := by rw [← HBl.out, fill_n, fill_at]; rfl
              have hW7 : IsW w6 w.heap.size g ⟨shutP out one, [], 0⟩ := by rw [← hsh]; exact hW6
              clear hW6 hk6' hsh hW hk
              go_wp2
              exact ⟨⟨_, shutP out one, HREST.out, hW7, hk6, HX.out.2.1, HX.out.2.2⟩, HX.out.1⟩

/-- IPv4's family, as start-up lays it. -/
structure GlobU (w : World) : Prop where
  u0 : w.cell? ⟨4, 0, none⟩ = some (.int .u8 0)
  u1 : w.cell? ⟨4, 1, none⟩ = some (.int .u8 1)
  u2 : w.cell? ⟨4, 2, none⟩ = some (.int .u8 0)
  u3 : w.cell? ⟨4, 3, none⟩ = some (.int .u8 1)
theorem GlobU.below {w w' : World} (h : GlobU w) (hb : Below w.heap.size w w') : GlobU w' :=
  ⟨pw_cell_below hb h.u0, pw_cell_below hb h.u1, pw_cell_below hb h.u2, pw_cell_below hb h.u3⟩

def isUni (ys : List Int) : Bool := ys == [0, 1, 0, 1]

theorem und116 : Tryd.prog.underlying 116 = some (.array 4 5) := by kernel_rfl
theorem item_step {W : World} {d : Nat} {xs ys : Array Value} {is : List Nat} {i : Nat} {a b : Int} {r : Bool} (ha : (part 5 xs (i * 1)).run Tryd.prog W = .ok (.int .u8 a) W) (hb : (part 5 ys (i * 1)).run Tryd.prog W = .ok (.int .u8 b) W)
    (h : (Op.eqItems (d + 1) 5 1 xs ys is).run Tryd.prog W = .ok r W) : (Op.eqItems (d + 1) 5 1 xs ys (i :: is)).run Tryd.prog W = .ok (a == b && r) W := by
  rw [Op.eqItems]
  simp only [Sem.run_bind, ha, hb, Result.andThen_ok, run_equalIn_int W d 5 .u8 .u8 a b Tryd.underlying5]
  cases a == b
  · simp
  · simpa using h
theorem eq4 (W : World) (a b c d p q r s : Int) : (Op.equalIn 10000 116 (.agg #[.int .u8 a, .int .u8 b, .int .u8 c, .int .u8 d]) (.agg #[.int .u8 p, .int .u8 q, .int .u8 r, .int .u8 s])).run Tryd.prog W = .ok (a == p && (b == q && (c == r && (d == s && true)))) W := by
  obtain ⟨i0, hi0, _⟩ := info_parts info5
  rw [show (10000 : Nat) = 9999 + 1 from rfl, run_equalIn_array W 9999 _ _ und116 hi0, show Tryd.prog.cellsOf 5 = 1 from by kernel_rfl, show List.range 4 = [0, 1, 2, 3] from rfl]
  refine item_step (d := 9998) (by kernel_rfl) (by kernel_rfl) (item_step (by kernel_rfl) (by kernel_rfl) (item_step (by kernel_rfl) (by kernel_rfl) (item_step (by kernel_rfl) (by kernel_rfl) ?_)))
  simp [Op.eqItems]

set_option maxHeartbeats 1600000 in
set_option maxRecDepth 100000 in
theorem asks84 : Asks 84 isUni GlobU :=
  ⟨fun h hb => h.below hb, fun _ _ => by kernel_rfl, fun w A c ys hU hC hl => by
    by_cases h4 : ys.length = 4
    · match ys, h4 with
      | [y0, y1, y2, y3], _ =>
        obtain ⟨u0, u1, u2, u3⟩ := hU
        obtain ⟨ad, rfl, q0⟩ := Kd.at_int hC 0 (by omega) (by simp)
        obtain ⟨ad1, he1, q1⟩ := Kd.at_int hC 1 (by omega) (by simp)
        obtain ⟨ad2, he2, q2⟩ := Kd.at_int hC 2 (by omega) (by simp)
        obtain ⟨ad3, he3, q3⟩ := Kd.at_int hC 3 (by omega) (by simp)
        injection he1 with he1
        injection he2 with he2
        injection he3 with he3
        subst he1 he2 he3
        simp [rd] at q0 q1 q2 q3
        simp [Addr.add] at q0 q1 q2 q3
        have heq : ∀ W : World, (Op.equalIn 10000 116 (.agg #[.int .u8 y0, .int .u8 y1, .int .u8 y2, .int .u8 y3]) (.agg #[.int .u8 0, .int .u8 1, .int .u8 0, .int .u8 1])).run Tryd.prog W = .ok (isUni [y0, y1, y2, y3]) W := fun W => eq4 W _ _ _ _ _ _ _ _
        generalize isUni [y0, y1, y2, y3] = bo at *
        have hat : ∀ W : World, (Instr.arrayAt 116 (.slice (some ad) 4 c)).run Tryd.prog W = .ok (.pointer (some ad)) W := fun _ => by kernel_rfl
        go_enter Tryd.func84, Tryd.ntmps84
        go_wp2_with fail
        go_quiet (fail)
        go_wp2
        go_ret
        exact ⟨rfl, ⟨_, rfl⟩⟩
    · have n0 : ((ys.length : Int) == 4) = false := by
        rw [beq_eq_false_iff_ne]
        omega
      have e : isUni ys = false := by
        unfold isUni
        rw [beq_eq_false_iff_ne]
        intro h
        rw [h] at h4
        exact h4 rfl
      rw [e]
      clear e h4 hU
      go_enter Tryd.func84, Tryd.ntmps84
      go_wp2_with fail
      go_quiet (fail)
      go_wp2
      go_ret
      exact ⟨rfl, ⟨_, rfl⟩⟩⟩

def capsIPv4 (l : List PA.S61) : Bool := !(found (fun x => x.f0 == 1 && isAny x.f1) l).2 || (found (fun x => x.f0 == 1 && isUni x.f1) l).2

set_option maxHeartbeats 1600000 in
set_option maxRecDepth 100000 in
theorem IPv4_calls (w : World) (hU : GlobU w) (A : Option Addr) (c : Nat) (l : List PA.S61) (hC : PA.k61.C w A l.length l) (hl : l.length ≤ 140737488351232) :
    Calls Tryd.prog 31 #[.slice A l.length c] w fun e w' => e = .returned (.bool (capsIPv4 l)) ∧ Below w.heap.size w w' := by
  obtain ⟨x, is, hx⟩ : ∃ x is, found (fun x => x.f0 == 1 && isAny x.f1) l = (x, is) := ⟨_, _, rfl⟩
  obtain ⟨x2, is2, hx2⟩ : ∃ x is, found (fun x => x.f0 == 1 && isUni x.f1) l = (x, is) := ⟨_, _, rfl⟩
  have hcall := find_calls 83 isAny (fun _ => True) asks83 1 w trivial A c l hC hl x is hx
  have hcall2 := fun w2 hU2 hC2 => find_calls 84 isUni GlobU asks84 1 w2 hU2 A c l hC2 hl x2 is2 hx2
  rw [show capsIPv4 l = (!is || is2) by rw [capsIPv4, hx, hx2]]
  have HC := Aside0.mk hcall
  have HC2 := Aside0.mk hcall2
  clear hcall hcall2 hx hx2
  go_enter Tryd.func31, Tryd.ntmps31
  go_wp2_with fail
  refine HC.out.mono ?_
  rintro e w1 ⟨A1, c1, rfl, hC1, hl1, hb1⟩
  have hb2 := hb1.trans ((below_alloc (Below.refl _ _) (.cells #[.int .u8 x.f0, .slice A1 x.f1.length c1] 61)).mono hb1.size)
  have HB2 := Aside0.mk hb2
  clear HC hb2 hb1
  cases is with
  | true =>
    go_wp2_with fail
    refine (HC2.out _ (hU.below HB2.out) (Kd.C_below hC HB2.out)).mono ?_
    rintro e w3 ⟨A3, c3, rfl, hC3, hl3, hb3⟩
    have hb4 := HB2.out.trans (hb3.mono HB2.out.size)
    have hb5 := hb4.trans ((below_alloc (Below.refl _ _) (.cells #[.int .u8 x2.f0, .slice A3 x2.f1.length c3] 61)).mono hb4.size)
    have HB5 := Aside0.mk hb5
    clear hb3 hb4 hb5
    go_wp2
    go_ret
    exact ⟨rfl, HB5.out⟩
  | false =>
    go_wp2_with fail
    refine (HC2.out _ (hU.below HB2.out) (Kd.C_below hC HB2.out)).mono ?_
    rintro e w3 ⟨A3, c3, rfl, hC3, hl3, hb3⟩
    have hb4 := HB2.out.trans (hb3.mono HB2.out.size)
    have hb5 := hb4.trans ((below_alloc (Below.refl _ _) (.cells #[.int .u8 x2.f0, .slice A3 x2.f1.length c3] 61)).mono hb4.size)
    have HB5 := Aside0.mk hb5
    clear hb3 hb4 hb5
    go_wp2
    go_ret
    exact ⟨rfl, HB5.out⟩

/-- A list written out, in new memory. -/
theorem R_litW {α : Type} (d : Kd α) {W : World} {B e : Nat} {xs : List α} {inner : List Value} {okp : Nat → Prop} (hrep : Reps (d.M W B okp) d.sz xs inner) (hB : B ≤ W.heap.size) (hm : xs.length ≤ 9223372036854775807) :
    d.R e (W.alloc (.cells inner.toArray e)) B (fun _ => True) (.slice (some ⟨W.heap.size, 0, none⟩) xs.length xs.length) xs := by
  refine ⟨fun k hk => trivial, inner, ?_, ?_⟩
  · have h2 := World.ownsRow_lit (base := B) (e := e) (size := d.sz) W inner.toArray xs.length hB (by simpa [maxLen] using hm) (by simpa using hrep.1)
    simpa using h2
  · refine hrep.imp_ (fun p c hp => Kd.M_mono d (fun k hk => ⟨trivial, fun he => ?_⟩) (Kd.M_below (Kd.M_bound d hp) (below_alloc (Below.refl _ _) _)))
    have h3 : k = W.heap.size := by simpa [Value.ownBlock] using he
    have := hk.2.2.1
    omega

def ours (n : Int) : List PA.S61 := [⟨1, [0, 1, 0, 1]⟩, ⟨2, []⟩, ⟨65, [n / 16777216 % 256, n / 65536 % 256, n / 256 % 256, n % 256]⟩]

set_option maxHeartbeats 1600000 in
set_option maxRecDepth 100000 in
theorem Ours_calls (w : World) (hU : GlobU w) (n : Int) (h0 : 0 ≤ n) (h1 : n < 4294967296) :
    Calls Tryd.prog 32 #[.int .u32 n] w fun e w' => ∃ v, e = .returned v ∧ PA.k61.R 61 w' w.heap.size (fun _ => True) v (ours n) ∧ Below w.heap.size w w' := by
  have hC : (Kd.int .u8).C w (some ⟨4, 0, none⟩) [0, 1, 0, 1].length [0, 1, 0, 1] := by
    refine Kd.C_of_reads (enc := Value.int .u8) (d := (0 : Int)) ⟨rfl, by simp [maxLen], fun _ => ⟨_, rfl, fun j hj => ?_⟩⟩
    match j, hj with
    | 0, _ => exact hU.u0
    | 1, _ => exact hU.u1
    | 2, _ => exact hU.u2
    | 3, _ => exact hU.u3
    | j + 4, hj => simp at hj; omega
  have hcl := Clone_calls w w.heap.size (some ⟨4, 0, none⟩) 4 [0, 1, 0, 1] (Nat.le_refl _) hC (by simp)
  have HCL := Aside0.mk hcl
  clear hcl hC
  go_enter Tryd.func32, Tryd.ntmps32
  go_wp2_with fail
  refine HCL.out.mono ?_
  rintro e w1 ⟨v1, rfl, hv1, hb1⟩
  clear HCL
  obtain ⟨A1, c1, rfl⟩ := Kd.R_slice hv1
  have hn : n / 16777216 % 256 = n / 16777216 := by omega
  have hr4 := R_litW (Kd.int .u8) (W := w1) (B := w.heap.size) (e := 5) (xs := [n / 16777216, n / 65536 % 256, n / 256 % 256, n % 256]) (inner := nums .u8 [n / 16777216, n / 65536 % 256, n / 256 % 256, n % 256]) (okp := fun _ => True) (Reps.one rfl (Reps.one rfl (Reps.one rfl (Reps.one rfl (Reps.none _ _))))) hb1.size (by simp)
  have hv2 := Kd.R_alloc hv1 (.cells (nums .u8 [n / 16777216, n / 65536 % 256, n / 256 % 256, n % 256]).toArray 5)
  have hb2 := below_alloc hb1 (.cells (nums .u8 [n / 16777216, n / 65536 % 256, n / 256 % 256, n % 256]).toArray 5)
  have HR := Aside0.mk hr4
  have HV := Aside0.mk hv2
  have HB := Aside0.mk hb2
  have HN := Aside0.mk hn
  clear hr4 hv2 hb2 hv1 hb1 hn
  go_wp2
  go_ret
  have hm := R_litW PA.k61 (B := w.heap.size) (e := 61) (xs := ours n) (okp := fun _ => True) (Reps.c2 (PA.k61_mkM _ _ _ ⟨1, [0, 1, 0, 1]⟩ HV.out) (Reps.c2 (PA.k61_mkM _ _ _ ⟨2, []⟩ (Kd.R_nil _ _ _ _ _)) (Reps.c2 (PA.k61_mkM _ _ _ ⟨65, [n / 16777216 % 256, n / 65536 % 256, n / 256 % 256, n % 256]⟩ (by rw [HN.out]; exact HR.out)) (Reps.none _ _)))) HB.out.size (by simp [ours])
  rw [show (w1.alloc (.cells (nums .u8 [n / 16777216, n / 65536 % 256, n / 256 % 256, n % 256]).toArray 5)).heap.size = w1.heap.size + 1 by simp] at hm
  exact ⟨_, rfl, hm, below_alloc HB.out _⟩

theorem rowC {α : Type} {d : Kd α} {e B n c : Nat} {w : World} {ok : Nat → Prop} {A : Option Addr} {xs : List α} (h : d.R e w B ok (.slice A n c) xs) : d.C w A xs.length xs ∧ xs.length ≤ c ∧ n = xs.length := by
  obtain ⟨A', c', he, hl, hC⟩ := Kd.R_reads h
  injection he with h1 h2 h3
  subst h1 h3
  exact ⟨hC, hl, h2⟩
/-- A row of one capability, just made. -/
theorem lit_one (w : World) (cd : Int) (ys : List Int) (hl : ys.length ≤ 140737488351232) :
    PA.k61.C ((w.alloc (.cells (nums .u8 ys).toArray 5)).alloc (.cells #[.int .u8 cd, .slice (some ⟨w.heap.size, 0, none⟩) ys.length ys.length] 61)) (some ⟨w.heap.size + 1, 0, none⟩) 1 [⟨cd, ys⟩] := by
  have h4 := litR w 5 .u8 ys hl
  have hm := R_litW PA.k61 (W := w.alloc (.cells (nums .u8 ys).toArray 5)) (B := w.heap.size) (e := 61) (xs := [⟨cd, ys⟩]) (okp := fun _ => True) (Reps.c2 (PA.k61_mkM _ _ _ ⟨cd, ys⟩ h4) (Reps.none _ _)) (by simp) (by simp)
  rw [show (w.alloc (.cells (nums .u8 ys).toArray 5)).heap.size = w.heap.size + 1 by simp] at hm
  exact (rowC hm).1
/-- A row of two, the second without a value. -/
theorem lit_two (w : World) (cd ce : Int) (ys : List Int) (hl : ys.length ≤ 140737488351232) :
    PA.k61.C ((w.alloc (.cells (nums .u8 ys).toArray 5)).alloc (.cells #[.int .u8 cd, .slice (some ⟨w.heap.size, 0, none⟩) ys.length ys.length, .int .u8 ce, .slice none 0 0] 61)) (some ⟨w.heap.size + 1, 0, none⟩) 2 [⟨cd, ys⟩, ⟨ce, []⟩] := by
  have h4 := litR w 5 .u8 ys hl
  have hm := R_litW PA.k61 (W := w.alloc (.cells (nums .u8 ys).toArray 5)) (B := w.heap.size) (e := 61) (xs := [⟨cd, ys⟩, ⟨ce, []⟩]) (okp := fun _ => True) (Reps.c2 (PA.k61_mkM _ _ _ ⟨cd, ys⟩ h4) (Reps.c2 (PA.k61_mkM _ _ _ ⟨ce, []⟩ (Kd.R_nil _ _ _ _ _)) (Reps.none _ _))) (by simp) (by simp)
  rw [show (w.alloc (.cells (nums .u8 ys).toArray 5)).heap.size = w.heap.size + 1 by simp] at hm
  exact (rowC hm).1
theorem below_two (w : World) (o1 o2 : Obj) : Below w.heap.size w ((w.alloc o1).alloc o2) := below_alloc (below_alloc (Below.refl _ _) _) _

end Go.Proofs.YthafedmlbialiaaDoor
