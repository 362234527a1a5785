/-
  The walks of a reader's methods.
-/
import Derived.Test.YthafedmlbialiaaDoorA0
namespace Go.Proofs.YthafedmlbialiaaDoor
open Go.RowKit Go.Proofs.YthafedmlbialiaaDoorW.PrintWords Go.Proofs.YthafedmlbialiaaDoorW.PrintLast Go.Proofs.YthafedmlbialiaaDoorW.PrintMore

/-- A reader's fields. -/
structure Rdr where
  b : List Int
  at_ : Int
  ends : List Int
  e : Int

/-- What holds of every reader that New made. -/
structure Rdr.Ok (r : Rdr) : Prop where
  len : r.b.length ≤ 140737488351232
  nn : 0 < r.ends.length
  lo : 0 ≤ r.at_
  hi : ∀ x, x ∈ r.ends → r.at_ ≤ x ∧ x ≤ r.b.length
  down : r.ends.Pairwise (fun x y => y ≤ x)
  few : r.ends.length ≤ 1000000
  byte : ∀ x, x ∈ r.b → 0 ≤ x ∧ x < 256

/-- Block g is the reader r, all of whose memory is from B on. -/
def IsR (w : World) (B g : Nat) (r : Rdr) : Prop :=
  ∃ bv ev, w.heap[g]? = some (.cells #[bv, .int .i64 r.at_, ev, .int .i64 r.e] 121 (0, 0)) ∧ B ≤ g ∧
    (Kd.int .u8).R 5 w B (fun _ => True) bv r.b ∧ (Kd.int .i64).R 3 w B (fun _ => True) ev r.ends ∧ r.Ok

set_option maxHeartbeats 400000 in
theorem Err_calls (w : World) (B g : Nat) (r : Rdr) (h : IsR w B g r) :
    Calls Tryd.prog 60 #[.pointer (some ⟨g, 0, none⟩)] w fun e w' => e = .returned (.int .i64 r.e) ∧ w = w' := by
  obtain ⟨bv, ev, hg, hB, hb, he, ok⟩ := h
  obtain ⟨A, c, rfl, hl, hC⟩ := Kd.R_reads he
  have c2 := (blk_cell hg 2)
  have c3 := (blk_cell hg 3)
  simp at c2 c3
  have n0 : ((r.ends.length : Int) == 0) = false := beq_eq_false_iff_ne.2 (by have := ok.nn; omega)
  go_enter Tryd.func60, Tryd.ntmps60
  go_wp2
  go_ret
  exact ⟨rfl, rfl⟩

set_option maxHeartbeats 400000 in
theorem Left_err (w : World) (B g : Nat) (r : Rdr) (h : IsR w B g r) (he : r.e ≠ 0) :
    Calls Tryd.prog 57 #[.pointer (some ⟨g, 0, none⟩)] w fun e w' => e = .returned (.int .i64 0) ∧ w = w' := by
  have n0 : (r.e != 0) = true := by simp [he]
  clear he
  go_enter Tryd.func57, Tryd.ntmps57
  go_wp2_with (go_at_call 60; refine (Err_calls _ B g r h).mono ?_; rintro e w' ⟨rfl, rfl⟩)
  go_ret
  exact ⟨rfl, rfl⟩

/-- Where the innermost block ends. -/
def Rdr.last (r : Rdr) : Int := r.ends.getLastD 0
/-- How many bytes are left. -/
def Rdr.left (r : Rdr) : Int := if r.e = 0 then r.last - r.at_ else 0

theorem Rdr.Ok.last {r : Rdr} (h : r.Ok) : r.ends.getD (r.ends.length - 1) 0 = r.last := by
  have := h.nn
  rw [Rdr.last, List.getLastD_eq_getLast?, List.getLast?_eq_getElem?, List.getD_eq_getElem?_getD]
theorem Rdr.Ok.last_mem {r : Rdr} (h : r.Ok) : r.last ∈ r.ends := by
  rw [← h.last, List.getD_eq_getElem?_getD, List.getElem?_eq_getElem (by have := h.nn; omega)]
  exact List.getElem_mem _

set_option maxHeartbeats 400000 in
theorem Left_calls (w : World) (B g : Nat) (r : Rdr) (h : IsR w B g r) :
    Calls Tryd.prog 57 #[.pointer (some ⟨g, 0, none⟩)] w fun e w' => e = .returned (.int .i64 r.left) ∧ Drawn0 w w' := by
  by_cases h0 : r.e = 0
  case neg => exact (Left_err w B g r h h0).mono fun e w' ⟨h1, h2⟩ => ⟨by rw [h1, Rdr.left, if_neg h0], h2 ▸ Drawn0.refl w⟩
  have hE := fun w1 (hw : w1 = w) => Err_calls w1 B g r (hw ▸ h)
  obtain ⟨bv, ev, hg, hB, hb, he, ok⟩ := h
  obtain ⟨cap, gg, rfl, _, _, _⟩ : ∃ cap gg, ev = .slice (some ⟨gg, 0, none⟩) r.ends.length cap ∧ True ∧ True ∧ True := by
    obtain ⟨gg, cap, rfl, _⟩ := Kd.R_form he ok.nn
    exact ⟨cap, gg, rfl, trivial, trivial, trivial⟩
  have c2 := (blk_cell hg 2)
  have c1 := (blk_cell hg 1)
  simp at c2 c1
  have hl := Rdr.Ok.last ok
  have hm := ok.hi _ ok.last_mem
  have hn := ok.nn
  have hbl := ok.len
  have hlo := ok.lo
  obtain ⟨c, hcl, hM, hcc, _⟩ := Kd.R_elem he 0 ((r.ends.length : Int) - 1) (by omega) (by omega)
  have hc3 := hcc 0 (.int .i64 (r.last)) (by
    rw [show ((r.ends.length : Int) - 1).toNat = r.ends.length - 1 by omega, hl] at hM
    rw [show c = _ from hM]; rfl)
  have hsz : (Kd.int IntKind.i64).sz = 1 := rfl
  rw [hsz, Nat.mul_one, Nat.add_zero, show ((r.ends.length : Int) - 1).toNat = r.ends.length - 1 by omega] at hc3
  have n0 : (r.e != 0) = false := by simp [h0]
  have s1 : IntKind.i64.wrap ((r.ends.length : Int) - 1) = (r.ends.length : Int) - 1 := IntWalk.i64_in _ (by have := ok.few; omega)
  have s2 : IntKind.i64.wrap (r.last - r.at_) = r.last - r.at_ := IntWalk.i64_in _ (by omega)
  have i0 : (0 : Int) ≤ (r.ends.length : Int) - 1 := by omega
  have i1 : (r.ends.length : Int) - 1 < (r.ends.length : Int) := by omega
  have i2 : (1 : Int) ≤ (r.ends.length : Int) := by omega
  have i3 : 1 ≤ r.ends.length := by omega
  clear hl
  go_enter Tryd.func57, Tryd.ntmps57
  go_wp2_with (go_at_call 60; refine (hE _ rfl).mono ?_; rintro e w' ⟨rfl, rfl⟩)
  go_quiet (fail)
  go_wp2
  go_ret
  exact ⟨by rw [Rdr.left, if_pos h0]; rfl, ⟨⟨_, rfl⟩⟩⟩

/-- An error is noted. -/
def Rdr.fail (r : Rdr) (x : Int) : Rdr := if r.e = 0 then { r with e := x } else r

theorem Rdr.Ok.of_e {r : Rdr} (h : r.Ok) (x : Int) : ({ r with e := x } : Rdr).Ok := ⟨h.len, h.nn, h.lo, h.hi, h.down, h.few, h.byte⟩
theorem IsR.set_e {w : World} {B g : Nat} {r : Rdr} (h : IsR w B g r) (x : Int) : IsR (w.setCell ⟨g, 3, none⟩ (.int .i64 x)) B g { r with e := x } := by
  obtain ⟨bv, ev, hg, hB, hb, he, ok⟩ := h
  exact ⟨bv, ev, blk_put hg 3 _ (by simp), hB, Kd.R_set hb hg (by decide) 3 _, Kd.R_set he hg (by decide) 3 _, ok.of_e x⟩
theorem IsR.ty {w : World} {B g : Nat} {r : Rdr} (h : IsR w B g r) : TyB w g 121 := by
  obtain ⟨bv, ev, hg, _⟩ := h
  exact ⟨_, _, hg⟩
theorem IsR.ge {w : World} {B g : Nat} {r : Rdr} (h : IsR w B g r) : B ≤ g := by
  obtain ⟨bv, ev, hg, hB, _⟩ := h
  exact hB
theorem IsR.ok {w : World} {B g : Nat} {r : Rdr} (h : IsR w B g r) : r.Ok := by
  obtain ⟨bv, ev, hg, hB, _, _, ok⟩ := h
  exact ok
theorem IsR.drawn {w w' : World} {B g : Nat} {r : Rdr} (h : IsR w B g r) (hd : Drawn0 w w') : IsR w' B g r := by
  obtain ⟨n, rfl⟩ := hd.out
  exact h
theorem IsR.below {w w' : World} {B g : Nat} {r : Rdr} (h : IsR w B g r) (hd : Below w.heap.size w w') : IsR w' B g r := by
  obtain ⟨bv, ev, hg, hB, hb, he, ok⟩ := h
  exact ⟨bv, ev, blk_below hg hd, hB, Kd.R_below hb hd, Kd.R_below he hd, ok⟩
theorem KT.drawn {B : Nat} {ts : List Nat} {w w' : World} (hd : Drawn0 w w') : KT B ts w w' := by
  obtain ⟨n, rfl⟩ := hd.out
  exact (KT.refl _ _ _).drewN n

set_option maxHeartbeats 400000 in
theorem Fail_calls (w : World) (B g : Nat) (r : Rdr) (x : Int) (h : IsR w B g r) :
    Calls Tryd.prog 91 #[.pointer (some ⟨g, 0, none⟩), .int .i64 x] w fun e w' => e = .returned (.tuple #[]) ∧ IsR w' B g (r.fail x) ∧ KT B [121] w w' := by
  by_cases h0 : r.e = 0
  · have n0 : (r.e == 0) = true := by simp [h0]
    have hs : IsR (w.setCell ⟨g, 3, none⟩ (.int .i64 x)) B g (r.fail x) := by rw [Rdr.fail, if_pos h0]; exact h.set_e x
    have hk : KT B [121] w (w.setCell ⟨g, 3, none⟩ (.int .i64 x)) := (KT.refl _ _ _).setCell h.ge h.ty (by simp) _
    obtain ⟨bv, ev, hg, _⟩ := id h
    have c3 := (blk_cell hg 3)
    have f3 := (blk_frozen hg 3)
    simp at c3
    clear h0
    go_enter Tryd.func91, Tryd.ntmps91
    go_wp2_with (go_at_call 60; refine (Err_calls _ B g r h).mono ?_; rintro e w' ⟨rfl, rfl⟩)
    go_end0
    exact ⟨rfl, hs, hk⟩
  · have n0 : (r.e == 0) = false := by simp [h0]
    have hs : IsR w B g (r.fail x) := by rw [Rdr.fail, if_neg h0]; exact h
    clear h0
    go_enter Tryd.func91, Tryd.ntmps91
    go_wp2_with (go_at_call 60; refine (Err_calls _ B g r h).mono ?_; rintro e w' ⟨rfl, rfl⟩)
    go_end0
    exact ⟨rfl, hs, KT.refl _ _ _⟩

/-- May n bytes be taken? Else ErrShort is noted. -/
def Rdr.has (r : Rdr) (n : Int) : Rdr := if n < 0 ∨ r.left < n then r.fail 4 else r

theorem Rdr.Ok.left_bd {r : Rdr} (h : r.Ok) : 0 ≤ r.left ∧ r.left ≤ r.b.length := by
  have := h.hi _ h.last_mem
  have := h.lo
  unfold Rdr.left
  split <;> omega

set_option maxHeartbeats 800000 in
theorem has_calls (w : World) (B g : Nat) (r : Rdr) (n : Int) (h : IsR w B g r) :
    Calls Tryd.prog 89 #[.pointer (some ⟨g, 0, none⟩), .int .i64 n] w fun e w' => e = .returned (.bool ((r.has n).e == 0)) ∧ IsR w' B g (r.has n) ∧ KT B [121] w w' := by
  by_cases hn : n < 0
  · have n0 : decide (n < 0) = true := decide_eq_true hn
    have hh : r.has n = r.fail 4 := by rw [Rdr.has, if_pos (.inl hn)]
    rw [hh]
    clear hn hh
    go_enter Tryd.func89, Tryd.ntmps89
    go_wp2_with fail
    refine (Fail_calls _ B g r 4 h).mono ?_
    rintro e w1 ⟨rfl, h1, k1⟩
    go_wp2_with (go_at_call 60; refine (Err_calls _ B g _ h1).mono ?_; rintro e w' ⟨rfl, rfl⟩)
    go_ret
    exact ⟨rfl, h1, k1⟩
  · have n0 : decide (n < 0) = false := decide_eq_false hn
    by_cases hl : r.left < n
    · have n1 : decide (r.left < n) = true := decide_eq_true hl
      have hh : r.has n = r.fail 4 := by rw [Rdr.has, if_pos (.inr hl)]
      rw [hh]
      clear hn hl hh
      go_enter Tryd.func89, Tryd.ntmps89
      go_wp2_with fail
      refine (Left_calls _ B g r h).mono ?_
      rintro e w1 ⟨rfl, hd⟩
      have h1 := h.drawn hd
      have k1 : KT B [121] w w1 := .drawn hd
      go_wp2_with fail
      refine (Fail_calls _ B g r 4 h1).mono ?_
      rintro e w2 ⟨rfl, h2, k2⟩
      go_wp2_with (go_at_call 60; refine (Err_calls _ B g _ h2).mono ?_; rintro e w' ⟨rfl, rfl⟩)
      go_ret
      exact ⟨rfl, h2, k1.trans k2⟩
    · have n1 : decide (r.left < n) = false := decide_eq_false hl
      have hh : r.has n = r := by rw [Rdr.has, if_neg (by omega)]
      rw [hh]
      clear hn hl hh
      go_enter Tryd.func89, Tryd.ntmps89
      go_wp2_with fail
      refine (Left_calls _ B g r h).mono ?_
      rintro e w1 ⟨rfl, hd⟩
      have h1 := h.drawn hd
      have k1 : KT B [121] w w1 := .drawn hd
      go_wp2_with (go_at_call 60; refine (Err_calls _ B g _ h1).mono ?_; rintro e w' ⟨rfl, rfl⟩)
      go_ret
      exact ⟨rfl, h1, k1⟩

set_option maxHeartbeats 400000 in
theorem Deep_calls (w : World) (B g : Nat) (r : Rdr) (h : IsR w B g r) :
    Calls Tryd.prog 99 #[.pointer (some ⟨g, 0, none⟩)] w fun e w' => e = .returned (.int .i64 ((r.ends.length : Int) - 1)) ∧ w = w' := by
  obtain ⟨bv, ev, hg, hB, hb, he, ok⟩ := h
  obtain ⟨A, c, rfl, hl, hC⟩ := Kd.R_reads he
  have c2 := (blk_cell hg 2)
  simp at c2
  have hn := ok.nn
  have hf := ok.few
  go_enter Tryd.func99, Tryd.ntmps99
  go_wp2
  go_ret
  exact ⟨rfl, rfl⟩
end Go.Proofs.YthafedmlbialiaaDoor
