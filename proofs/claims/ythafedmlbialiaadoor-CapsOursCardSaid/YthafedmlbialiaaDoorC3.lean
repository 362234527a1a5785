/-
  The walks of caps.Number and caps.Refreshes.
-/
import Derived.Test.YthafedmlbialiaaDoorC2
namespace Go.Proofs.YthafedmlbialiaaDoor
open Go.RowKit Go.Proofs.YthafedmlbialiaaDoorW.PrintWords Go.Proofs.YthafedmlbialiaaDoorW.PrintLast Go.Proofs.YthafedmlbialiaaDoorW.PrintMore
set_option linter.unusedVariables false
set_option linter.unusedSimpArgs false

def isFour (ys : List Int) : Bool := (ys.length : Int) == 4
def isNone (ys : List Int) : Bool := (ys.length : Int) == 0
def isAny (_ : List Int) : Bool := true

set_option maxHeartbeats 400000 in
theorem asks82 : Asks 82 isFour (fun _ => True) :=
  ⟨fun _ _ => trivial, fun _ _ => by kernel_rfl, fun w A c ys _ hC hl => by
    have e : isFour ys = ((ys.length : Int) == 4) := rfl
    rw [e]
    clear e
    go_enter Tryd.func82, Tryd.ntmps82
    go_wp2
    go_ret
    exact ⟨rfl, Drawn0.refl w⟩⟩
set_option maxHeartbeats 400000 in
theorem asks85 : Asks 85 isNone (fun _ => True) :=
  ⟨fun _ _ => trivial, fun _ _ => by kernel_rfl, fun w A c ys _ hC hl => by
    have e : isNone ys = ((ys.length : Int) == 0) := rfl
    rw [e]
    clear e
    go_enter Tryd.func85, Tryd.ntmps85
    go_wp2
    go_ret
    exact ⟨rfl, Drawn0.refl w⟩⟩
set_option maxHeartbeats 400000 in
theorem asks83 : Asks 83 isAny (fun _ => True) :=
  ⟨fun _ _ => trivial, fun _ _ => by kernel_rfl, fun w A c ys _ hC hl => by
    go_enter Tryd.func83, Tryd.ntmps83
    go_wp2
    go_ret
    exact ⟨rfl, Drawn0.refl w⟩⟩

/-- Values are bytes. -/
def CapsWf (l : List PA.S61) : Prop := ∀ x, x ∈ l → x.f1.length ≤ 140737488351232 ∧ ∀ b, b ∈ x.f1 → 0 ≤ b ∧ b < 256
theorem found_mem {p : PA.S61 → Bool} {l : List PA.S61} {x : PA.S61} (h : found p l = (x, true)) : x ∈ l := by
  unfold found at h
  split at h
  · rename_i y hy
    injection h with h
    subst h
    exact List.mem_of_find?_eq_some hy
  · injection h with _ h
    cases h

def capsNumber (l : List PA.S61) : Int × Bool := match found (fun x => x.f0 == 65 && isFour x.f1) l with
  | (x, true) => (acc32 ((Rdr.new x.f1).taken 4), true)
  | (_, false) => (0, false)
def capsRefreshes (l : List PA.S61) : Bool := (found (fun x => x.f0 == 2 && isNone x.f1) l).2

set_option maxHeartbeats 1600000 in
set_option maxRecDepth 100000 in
theorem Refreshes_calls (w : World) (A : Option Addr) (c : Nat) (l : List PA.S61) (hC : PA.k61.C w A l.length l) (hl : l.length ≤ 140737488351232) :
    Calls Tryd.prog 33 #[.slice A l.length c] w fun e w' => e = .returned (.bool (capsRefreshes l)) ∧ Below w.heap.size w w' := by
  obtain ⟨x, is, hx⟩ : ∃ x is, found (fun x => x.f0 == 2 && isNone x.f1) l = (x, is) := ⟨_, _, rfl⟩
  have hcall := find_calls 85 isNone (fun _ => True) asks85 2 w trivial A c l hC hl x is hx
  rw [show capsRefreshes l = is by rw [capsRefreshes, hx]]
  have HC := Aside0.mk hcall
  clear hcall hx
  go_enter Tryd.func33, Tryd.ntmps33
  go_wp2_with fail
  refine HC.out.mono ?_
  rintro e w1 ⟨A1, c1, rfl, hC1, hl1, hb1⟩
  go_wp2
  go_ret
  exact ⟨rfl, hb1.trans ((below_alloc (Below.refl _ _) _).mono hb1.size)⟩

set_option maxHeartbeats 1600000 in
set_option maxRecDepth 100000 in
theorem Number_calls (w : World) (A : Option Addr) (c : Nat) (l : List PA.S61) (hC : PA.k61.C w A l.length l) (hl : l.length ≤ 140737488351232) (hwf : CapsWf l) (n : Int) (is : Bool) (hn : capsNumber l = (n, is)) :
    Calls Tryd.prog 30 #[.slice A l.length c] w fun e w' => e = .returned (.tuple #[.int .u32 n, .bool is]) ∧ Below w.heap.size w w' := by
  obtain ⟨x, is', hx⟩ : ∃ x is, found (fun x => x.f0 == 65 && isFour x.f1) l = (x, is) := ⟨_, _, rfl⟩
  have hcall := find_calls 82 isFour (fun _ => True) asks82 65 w trivial A c l hC hl x is' hx
  have HC := Aside0.mk hcall
  unfold capsNumber at hn
  rw [hx] at hn
  cases is' with
  | false =>
    injection hn with h1 h2
    subst h1 h2
    clear hcall hx
    go_enter Tryd.func30, Tryd.ntmps30
    go_wp2_with fail
    refine HC.out.mono ?_
    rintro e w1 ⟨A1, c1, rfl, hC1, hl1, hb1⟩
    go_wp2
    go_ret2
    exact ⟨rfl, hb1.trans ((below_alloc (Below.refl _ _) _).mono hb1.size)⟩
  | true =>
    injection hn with h1 h2
    subst h1 h2
    have hw := hwf x (found_mem hx)
    have HW := Aside0.mk hw
    clear hcall hx hw
    obtain ⟨n, hne⟩ : ∃ n, acc32 ((Rdr.new x.f1).taken 4) = n := ⟨_, rfl⟩
    rw [hne]
    have HN := Aside0.mk hne
    clear hne
    go_enter Tryd.func30, Tryd.ntmps30
    go_wp2_with fail
    refine HC.out.mono ?_
    rintro e w1 ⟨A1, c1, rfl, hC1, hl1, hb1⟩
    have hb2 := below_alloc (Below.refl w1.heap.size w1) (.cells #[.int .u8 x.f0, .slice A1 x.f1.length c1] 61)
    have hbx := blk_new w1 (.cells #[.int .u8 x.f0, .slice A1 x.f1.length c1] 61)
    have q1 := blk_cell hbx 1
    simp at q1
    clear hbx
    go_wp2_with fail
    refine (New_calls _ A1 c1 x.f1 (Kd.C_below hC1 hb2) HW.out.1 HW.out.2).mono ?_
    rintro e w3 ⟨g, rfl, hR, hb3⟩
    go_wp2_with fail
    refine (RFour_calls _ _ g _ hR).mono ?_
    rintro e w4 ⟨rfl, hR4, k4⟩
    rw [HN.out]
    have hsz := hb1.size
    have hsz2 : w1.heap.size ≤ (w1.alloc (.cells #[.int .u8 x.f0, .slice A1 x.f1.length c1] 61)).heap.size := hb2.size
    have hB : Below w.heap.size w w4 := hb1.trans ((hb2.mono hsz).trans ((hb3.mono (by omega)).trans ((k4.below hb3.size).mono (by omega))))
    go_wp2
    go_ret2
    exact ⟨rfl, hB⟩
end Go.Proofs.YthafedmlbialiaaDoor
