/-
  The walk of caps.Bytes, first part: the question.
-/
import Derived.Test.YthafedmlbialiaaDoorV0
namespace Go.Proofs.YthafedmlbialiaaDoor
open Go.RowKit Go.Proofs.YthafedmlbialiaaDoorW.PrintWords Go.Proofs.YthafedmlbialiaaDoorW.PrintLast Go.Proofs.YthafedmlbialiaaDoorW.PrintMore
set_option linter.unusedVariables false
set_option linter.unusedSimpArgs false

/-- A capability's value is too long. -/
def tooLong (x : PA.S61) : Bool := decide (253 < (x.f1.length : Int))

set_option maxHeartbeats 800000 in
set_option maxRecDepth 100000 in
theorem long1_calls (x : PA.S61) (w : World) (A : Option Addr) (c : Nat) :
    Calls Tryd.prog 74 #[.agg #[.int .u8 x.f0, .slice A x.f1.length c]] w fun e w' => e = .returned (.bool (tooLong x)) ∧ Below w.heap.size w w' := by
  have hb := below_alloc (Below.refl w.heap.size w) (.cells #[.int .u8 x.f0, .slice A x.f1.length c] 61)
  go_enter Tryd.func74, Tryd.ntmps74
  go_wp2
  go_ret
  exact ⟨rfl, hb⟩

set_option maxHeartbeats 1600000 in
set_option maxRecDepth 100000 in
theorem IndexLong_calls (w : World) (A : Option Addr) (c : Nat) (l : List PA.S61) (hC : PA.k61.C w A l.length l) (hl : l.length ≤ 140737488351232) :
    Calls Tryd.prog 95 #[.slice A l.length c, .func (.func 74) #[] #[]] w fun e w' => e = .returned (.int .i64 (idxOf tooLong l)) ∧ Below w.heap.size w w' := by
  obtain ⟨p, hp⟩ : ∃ p : PA.S61 → Bool, tooLong = p := ⟨_, rfl⟩
  rw [hp]
  have HP := Aside0.mk hp
  clear hp
  go_enter Tryd.func95, Tryd.ntmps95
  go_wp2_with fail
  go_loopw [5, 8] (fun a i w' => ∃ k : Nat, k ≤ l.length ∧ i = .int .i64 k ∧ Aside0 (∀ j (hj : j < k) (hl : j < l.length), p l[j] = false) ∧ Aside0 (Below w.heap.size w w')) (fun _ i _ => l.length - (intOf i).toNat)
  case atStart => exact ⟨0, Nat.zero_le _, rfl, ⟨fun j hj => by omega⟩, ⟨Below.refl _ _⟩⟩
  case round =>
    obtain ⟨k, hk, rfl, hno, hb⟩ := hrel
    by_cases hlt : k < l.length
    · obtain ⟨ad, A1, c1, rfl, q0, q1, hl1, hC1⟩ := PA.at_T61 (Kd.C_below hC hb.out) (k : Int) (by omega) (by omega)
      rw [Int.toNat_natCast] at q0 q1
      have hx : PA.rd_T61 l (k : Int) = l[k] := by rw [PA.rd_T61, Int.toNat_natCast, List.getD_eq_getElem?_getD, List.getElem?_eq_getElem hlt]; rfl
      rw [hx] at q0 q1 hl1 hC1
      obtain ⟨x, hxe⟩ : ∃ x, l[k] = x := ⟨_, rfl⟩
      rw [hxe] at q0 q1 hl1 hC1
      have HX := Aside0.mk hxe
      clear hx hxe
      have hcall := long1_calls x wr A1 c1
      have hpx : tooLong x = p x := by rw [← HP.out]
      rw [hpx] at hcall
      have HC := Aside0.mk hcall
      clear hcall hpx
      go_wp2_with fail
      refine HC.out.mono ?_
      rintro e w2 ⟨rfl, hb2⟩
      have hb3 : Below w.heap.size w w2 := hb.out.trans (hb2.mono hb.out.size)
      have HB3 := Aside0.mk hb3
      clear hb2 hb3
      cases hpx : p x with
      | true =>
        have hi : idxOf p l = k := idxOf_some hlt (by rw [HX.out]; exact hpx) (fun j hj => hno.out j hj (by omega))
        have HIX := Aside0.mk hi
        clear hpx hi
        go_wp2
        go_ret
        exact ⟨congrArg (fun z => Ending.returned (.int .i64 z)) HIX.out.symm, HB3.out⟩
      | false =>
        have hno2 := Aside0.mk (show ∀ j (hj : j < k + 1) (hl : j < l.length), p l[j] = false from fun j hj hl => by
          by_cases hjk : j < k
          · exact hno.out j hjk hl
          · obtain rfl : j = k := by omega
            rw [HX.out]; exact hpx)
        clear hpx hno
        go_wp2
        go_roundw
        case rel => exact ⟨k + 1, by omega, by go_num, hno2, HB3⟩
        case measure => simp [intOf]; omega
    · have hke : k = l.length := by omega
      have hi : idxOf p l = -1 := idxOf_none (fun x hx => by
        obtain ⟨j, hj, rfl⟩ := List.getElem_of_mem hx
        exact hno.out j (by omega) hj)
      have HIX := Aside0.mk hi
      have hge : l.length ≤ k := by omega
      clear hke hi hno
      go_wp2
      go_ret
      exact ⟨congrArg (fun z => Ending.returned (.int .i64 z)) HIX.out.symm, hb.out⟩


set_option maxHeartbeats 800000 in
set_option maxRecDepth 100000 in
theorem Contains_calls (w : World) (A : Option Addr) (c : Nat) (l : List PA.S61) (hC : PA.k61.C w A l.length l) (hl : l.length ≤ 140737488351232) :
    Calls Tryd.prog 73 #[.slice A l.length c, .func (.func 74) #[] #[]] w fun e w' => e = .returned (.bool (l.any tooLong)) ∧ Below w.heap.size w w' := by
  have hi : decide (0 ≤ idxOf tooLong l) = l.any tooLong := by
    rcases hf : l.findIdx? tooLong with _ | k
    · have h1 : idxOf tooLong l = -1 := by unfold idxOf; rw [hf]
      have h2 : l.any tooLong = false := by
        rw [List.any_eq_false]
        intro x hx
        have := List.findIdx?_eq_none_iff.1 hf x hx
        simp [this]
      rw [h1, h2]
      rfl
    · have h1 : idxOf tooLong l = k := by unfold idxOf; rw [hf]
      obtain ⟨hk, hp, _⟩ := List.findIdx?_eq_some_iff_getElem.1 hf
      have h2 : l.any tooLong = true := List.any_eq_true.2 ⟨_, List.getElem_mem hk, hp⟩
      rw [h1, h2]
      exact decide_eq_true (by omega)
  have HI := Aside0.mk hi
  clear hi
  obtain ⟨ix, hix⟩ : ∃ ix, idxOf tooLong l = ix := ⟨_, rfl⟩
  have hc := IndexLong_calls w A c l hC hl
  rw [hix] at HI hc
  have HC := Aside0.mk hc
  clear hc hix
  go_enter Tryd.func73, Tryd.ntmps73
  go_wp2_with fail
  refine HC.out.mono ?_
  rintro e w1 ⟨rfl, hb⟩
  go_wp2
  go_ret
  rw [← HI.out]
  exact ⟨by simp, hb⟩

/-- A capability's bytes. -/
def capB (x : PA.S61) : List Int := x.f0 :: (x.f1.length : Int) :: x.f1
theorem capB_len (x : PA.S61) : (capB x).length = x.f1.length + 2 := rfl
theorem capB_ne (x : PA.S61) : capB x ≠ [] := by simp [capB]
/-- A parameter is closed behind others. -/
def shutP (out one : List Int) : List Int := out ++ 2 :: (one.length : Int) :: one
theorem shutP_len (out one : List Int) : (shutP out one).length = out.length + one.length + 2 := by simp [shutP]; omega
/-- Capabilities go into parameters, each as long as they fit. -/
def packs : List Int → List Int → List PA.S61 → List Int
  | out, one, [] => if one = [] then out else shutP out one
  | out, one, x :: l => if 255 < one.length + 2 + x.f1.length then packs (shutP out one) (capB x) l else packs out (one ++ capB x) l
def capsBytes (l : List PA.S61) : List Int × Int :=
  if l.any tooLong then ([], 1) else if 255 < (packs [] [] l).length then ([], 3) else (packs [] [] l, 0)

theorem packs_fit {out one : List Int} {x : PA.S61} {l : List PA.S61} (h : one.length + 2 + x.f1.length ≤ 255) : packs out one (x :: l) = packs out (one ++ capB x) l := if_neg (by omega)
/-- Closing ahead of one that doesn't fit, or at the end, changes nothing. -/
theorem packs_shut {out one : List Int} {l : List PA.S61} (h1 : one ≠ []) (hl : ∀ x, x ∈ l → tooLong x = false) (h : ∀ x l', l = x :: l' → 255 < one.length + 2 + x.f1.length) : packs (shutP out one) [] l = packs out one l := by
  cases l with
  | nil => simp [packs, h1]
  | cons x l' =>
    have hx := hl x (by simp)
    rw [tooLong, decide_eq_false_iff_not] at hx
    rw [packs_fit (by simp; omega), packs, if_pos (h x l' rfl), List.nil_append]
theorem fill_at (P v : List Int) (c n : Int) : (P ++ [c] ++ [0] ++ v).set (P.length + 1) n = P ++ c :: n :: v := by
  rw [List.append_assoc, List.append_assoc, List.set_append_right _ _ (by omega)]
  simp
theorem fill_n (P v : List Int) (c : Int) : (P ++ [c] ++ [0] ++ v).length - (P.length + 1) - 1 = v.length := by simp; omega
end Go.Proofs.YthafedmlbialiaaDoor
