/-
  The walks of a reader's methods.
-/
import Derived.Test.YtbphidmnkbfchaaGreatDoorA0
import Derived.WalkSpells
import Derived.Lib.SliceRun
import Derived.Lib.BufferMore
import Derived.StillTailTactics
import Derived.Test.YtbphidmnkbfchaaGreatDoorPAx0
namespace Go.Proofs.YtbphidmnkbfchaaGreatDoor
open Go.RowKit Go.Proofs.YtbphidmnkbfchaaGreatDoorW.PrintWords Go.Proofs.YtbphidmnkbfchaaGreatDoorW.PrintLast Go.Proofs.YtbphidmnkbfchaaGreatDoorW.PrintMore
set_option linter.unusedVariables false
set_option linter.unusedSimpArgs false

/-- A reader's fields. -/
structure Rdr where
  b : List Int
  at_ : Int
  ends : List Int
  e : Int

/-- What holds of every reader that New made. -/
structure Rdr.Ok (r : Rdr) : Prop where
  len : r.b.length ≤ 140737488351232
  nn : 0 < r.ends.length
  lo : 0 ≤ r.at_
  hi : ∀ x, x ∈ r.ends → r.at_ ≤ x ∧ x ≤ r.b.length
  down : r.ends.Pairwise (fun x y => y ≤ x)
  few : r.ends.length ≤ 1000000
  byte : ∀ x, x ∈ r.b → 0 ≤ x ∧ x < 256

/-- Block g is the reader r, all of whose memory is from B on. -/
def IsR (w : World) (B g : Nat) (r : Rdr) : Prop :=
  ∃ bv ev, w.heap[g]? = some (.cells #[bv, .int .i64 r.at_, ev, .int .i64 r.e] 175 (0, 0)) ∧ B ≤ g ∧
    (Kd.int .u8).R 5 w B (fun _ => True) bv r.b ∧ (Kd.int .i64).R 3 w B (fun _ => True) ev r.ends ∧ r.Ok

set_option maxHeartbeats 400000 in
theorem Err_calls (w : World) (B g : Nat) (r : Rdr) (h : IsR w B g r) :
    Calls Tryz.prog 36 #[.pointer (some ⟨g, 0, none⟩)] w fun e w' => e = .returned (.int .i64 r.e) ∧ w = w' := by
  obtain ⟨bv, ev, hg, hB, hb, he, ok⟩ := h
  obtain ⟨A, c, rfl, hl, hC⟩ := Kd.R_reads he
  have c2 := (blk_cell hg 2)
  have c3 := (blk_cell hg 3)
  simp at c2 c3
  have n0 : ((r.ends.length : Int) == 0) = false := beq_eq_false_iff_ne.2 (by have := ok.nn; omega)
  go_enter Tryz.func36, Tryz.ntmps36
  go_wp2
  go_ret
  exact ⟨rfl, rfl⟩

set_option maxHeartbeats 400000 in
theorem Left_err (w : World) (B g : Nat) (r : Rdr) (h : IsR w B g r) (he : r.e ≠ 0) :
    Calls Tryz.prog 92 #[.pointer (some ⟨g, 0, none⟩)] w fun e w' => e = .returned (.int .i64 0) ∧ w = w' := by
  have n0 : (r.e != 0) = true := by simp [he]
  clear he
  go_enter Tryz.func92, Tryz.ntmps92
  go_wp2_with (go_at_call 36; refine (Err_calls _ B g r h).mono ?_; rintro e w' ⟨rfl, rfl⟩)
  go_ret
  exact ⟨rfl, rfl⟩

/-- Where the innermost block ends. -/
def Rdr.last (r : Rdr) : Int := r.ends.getLastD 0
/-- How many bytes are left. -/
def Rdr.left (r : Rdr) : Int := if r.e = 0 then r.last - r.at_ else 0

theorem Rdr.Ok.last {r : Rdr} (h : r.Ok) : r.ends.getD (r.ends.length - 1) 0 = r.last := by
  have := h.nn
  rw [Rdr.last, List.getLastD_eq_getLast?, List.getLast?_eq_getElem?, List.getD_eq_getElem?_getD]
theorem Rdr.Ok.last_mem {r : Rdr} (h : r.Ok) : r.last ∈ r.ends := by
  rw [← h.last, List.getD_eq_getElem?_getD, List.getElem?_eq_getElem (by have := h.nn; omega)]
  exact List.getElem_mem _

set_option maxHeartbeats 400000 in
theorem Left_calls (w : World) (B g : Nat) (r : Rdr) (h : IsR w B g r) :
    Calls Tryz.prog 92 #[.pointer (some ⟨g, 0, none⟩)] w fun e w' => e = .returned (.int .i64 r.left) ∧ Drawn0 w w' := by
  by_cases h0 : r.e = 0
  case neg => exact (Left_err w B g r h h0).mono fun e w' ⟨h1, h2⟩ => ⟨by rw [h1, Rdr.left, if_neg h0], h2 ▸ Drawn0.refl w⟩
  have hE := fun w1 (hw : w1 = w) => Err_calls w1 B g r (hw ▸ h)
  obtain ⟨bv, ev, hg, hB, hb, he, ok⟩ := h
  obtain ⟨cap, gg, rfl, _, _, _⟩ : ∃ cap gg, ev = .slice (some ⟨gg, 0, none⟩) r.ends.length cap ∧ True ∧ True ∧ True := by
    obtain ⟨gg, cap, rfl, _⟩ := Kd.R_form he ok.nn
    exact ⟨cap, gg, rfl, trivial, trivial, trivial⟩
  have c2 := (blk_cell hg 2)
  have c1 := (blk_cell hg 1)
  simp at c2 c1
  have hl := Rdr.Ok.last ok
  have hm := ok.hi _ ok.last_mem
  have hn := ok.nn
  have hbl := ok.len
  have hlo := ok.lo
  obtain ⟨c, hcl, hM, hcc, _⟩ := Kd.R_elem he 0 ((r.ends.length : Int) - 1) (by omega) (by omega)
  have hc3 := hcc 0 (.int .i64 (r.last)) (by
    rw [show ((r.ends.length : Int) - 1).toNat = r.ends.length - 1 by omega, hl] at hM
    rw [show c = _ from hM]; rfl)
  have hsz : (Kd.int IntKind.i64).sz = 1 := rfl
  rw [hsz, Nat.mul_one, Nat.add_zero, show ((r.ends.length : Int) - 1).toNat = r.ends.length - 1 by omega] at hc3
  have n0 : (r.e != 0) = false := by simp [h0]
  have s1 : IntKind.i64.wrap ((r.ends.length : Int) - 1) = (r.ends.length : Int) - 1 := IntWalk.i64_in _ (by have := ok.few; omega)
  have s2 : IntKind.i64.wrap (r.last - r.at_) = r.last - r.at_ := IntWalk.i64_in _ (by omega)
  have i0 : (0 : Int) ≤ (r.ends.length : Int) - 1 := by omega
  have i1 : (r.ends.length : Int) - 1 < (r.ends.length : Int) := by omega
  have i2 : (1 : Int) ≤ (r.ends.length : Int) := by omega
  have i3 : 1 ≤ r.ends.length := by omega
  clear hl
  go_enter Tryz.func92, Tryz.ntmps92
  go_wp2_with (go_at_call 36; refine (hE _ rfl).mono ?_; rintro e w' ⟨rfl, rfl⟩)
  go_quiet (fail)
  go_wp2
  go_ret
  exact ⟨by rw [Rdr.left, if_pos h0]; rfl, ⟨⟨_, rfl⟩⟩⟩

/-- An error is noted. -/
def Rdr.fail (r : Rdr) (x : Int) : Rdr := if r.e = 0 then { r with e := x } else r

theorem Rdr.Ok.of_e {r : Rdr} (h : r.Ok) (x : Int) : ({ r with e := x } : Rdr).Ok := ⟨h.len, h.nn, h.lo, h.hi, h.down, h.few, h.byte⟩
theorem IsR.set_e {w : World} {B g : Nat} {r : Rdr} (h : IsR w B g r) (x : Int) : IsR (w.setCell ⟨g, 3, none⟩ (.int .i64 x)) B g { r with e := x } := by
  obtain ⟨bv, ev, hg, hB, hb, he, ok⟩ := h
  exact ⟨bv, ev, blk_put hg 3 _ (by simp), hB, Kd.R_set hb hg (by decide) 3 _, Kd.R_set he hg (by decide) 3 _, ok.of_e x⟩
theorem IsR.ty {w : World} {B g : Nat} {r : Rdr} (h : IsR w B g r) : TyB w g 175 := by
  obtain ⟨bv, ev, hg, _⟩ := h
  exact ⟨_, _, hg⟩
theorem IsR.ge {w : World} {B g : Nat} {r : Rdr} (h : IsR w B g r) : B ≤ g := by
  obtain ⟨bv, ev, hg, hB, _⟩ := h
  exact hB
theorem IsR.ok {w : World} {B g : Nat} {r : Rdr} (h : IsR w B g r) : r.Ok := by
  obtain ⟨bv, ev, hg, hB, _, _, ok⟩ := h
  exact ok
theorem IsR.drawn {w w' : World} {B g : Nat} {r : Rdr} (h : IsR w B g r) (hd : Drawn0 w w') : IsR w' B g r := by
  obtain ⟨n, rfl⟩ := hd.out
  exact h
theorem IsR.below {w w' : World} {B g : Nat} {r : Rdr} (h : IsR w B g r) (hd : Below w.heap.size w w') : IsR w' B g r := by
  obtain ⟨bv, ev, hg, hB, hb, he, ok⟩ := h
  exact ⟨bv, ev, blk_below hg hd, hB, Kd.R_below hb hd, Kd.R_below he hd, ok⟩
theorem KT.drawn {B : Nat} {ts : List Nat} {w w' : World} (hd : Drawn0 w w') : KT B ts w w' := by
  obtain ⟨n, rfl⟩ := hd.out
  exact (KT.refl _ _ _).drewN n

set_option maxHeartbeats 400000 in
theorem Fail_calls (w : World) (B g : Nat) (r : Rdr) (x : Int) (h : IsR w B g r) :
    Calls Tryz.prog 133 #[.pointer (some ⟨g, 0, none⟩), .int .i64 x] w fun e w' => e = .returned (.tuple #[]) ∧ IsR w' B g (r.fail x) ∧ KT B [175] w w' := by
  by_cases h0 : r.e = 0
  · have n0 : (r.e == 0) = true := by simp [h0]
    have hs : IsR (w.setCell ⟨g, 3, none⟩ (.int .i64 x)) B g (r.fail x) := by rw [Rdr.fail, if_pos h0]; exact h.set_e x
    have hk : KT B [175] w (w.setCell ⟨g, 3, none⟩ (.int .i64 x)) := (KT.refl _ _ _).setCell h.ge h.ty (by simp) _
    obtain ⟨bv, ev, hg, _⟩ := id h
    have c3 := (blk_cell hg 3)
    have f3 := (blk_frozen hg 3)
    simp at c3
    clear h0
    go_enter Tryz.func133, Tryz.ntmps133
    go_wp2_with (go_at_call 36; refine (Err_calls _ B g r h).mono ?_; rintro e w' ⟨rfl, rfl⟩)
    go_end0
    exact ⟨rfl, hs, hk⟩
  · have n0 : (r.e == 0) = false := by simp [h0]
    have hs : IsR w B g (r.fail x) := by rw [Rdr.fail, if_neg h0]; exact h
    clear h0
    go_enter Tryz.func133, Tryz.ntmps133
    go_wp2_with (go_at_call 36; refine (Err_calls _ B g r h).mono ?_; rintro e w' ⟨rfl, rfl⟩)
    go_end0
    exact ⟨rfl, hs, KT.refl _ _ _⟩

/-- May n bytes be taken? Else ErrShort is noted. -/
def Rdr.has (r : Rdr) (n : Int) : Rdr := if n < 0 ∨ r.left < n then r.fail 4 else r

theorem Rdr.Ok.left_bd {r : Rdr} (h : r.Ok) : 0 ≤ r.left ∧ r.left ≤ r.b.length := by
  have := h.hi _ h.last_mem
  have := h.lo
  unfold Rdr.left
  split <;> omega

set_option maxHeartbeats 800000 in
theorem has_calls (w : World) (B g : Nat) (r : Rdr) (n : Int) (h : IsR w B g r) :
    Calls Tryz.prog 84 #[.pointer (some ⟨g, 0, none⟩), .int .i64 n] w fun e w' => e = .returned (.bool ((r.has n).e == 0)) ∧ IsR w' B g (r.has n) ∧ KT B [175] w w' := by
  by_cases hn : n < 0
  · have n0 : decide (n < 0) = true := decide_eq_true hn
    have hh : r.has n = r.fail 4 := by rw [Rdr.has, if_pos (.inl hn)]
    rw [hh]
    clear hn hh
    go_enter Tryz.func84, Tryz.ntmps84
    go_wp2_with fail
    refine (Fail_calls _ B g r 4 h).mono ?_
    rintro e w1 ⟨rfl, h1, k1⟩
    go_wp2_with (go_at_call 36; refine (Err_calls _ B g _ h1).mono ?_; rintro e w' ⟨rfl, rfl⟩)
    go_ret
    exact ⟨rfl, h1, k1⟩
  · have n0 : decide (n < 0) = false := decide_eq_false hn
    by_cases hl : r.left < n
    · have n1 : decide (r.left < n) = true := decide_eq_true hl
      have hh : r.has n = r.fail 4 := by rw [Rdr.has, if_pos (.inr hl)]
      rw [hh]
      clear hn hl hh
      go_enter Tryz.func84, Tryz.ntmps84
      go_wp2_with fail
      refine (Left_calls _ B g r h).mono ?_
      rintro e w1 ⟨rfl, hd⟩
      have h1 := h.drawn hd
      have k1 : KT B [175] w w1 := .drawn hd
      go_wp2_with fail
      refine (Fail_calls _ B g r 4 h1).mono ?_
      rintro e w2 ⟨rfl, h2, k2⟩
      go_wp2_with (go_at_call 36; refine (Err_calls _ B g _ h2).mono ?_; rintro e w' ⟨rfl, rfl⟩)
      go_ret
      exact ⟨rfl, h2, k1.trans k2⟩
    · have n1 : decide (r.left < n) = false := decide_eq_false hl
      have hh : r.has n = r := by rw [Rdr.has, if_neg (by omega)]
      rw [hh]
      clear hn hl hh
      go_enter Tryz.func84, Tryz.ntmps84
      go_wp2_with fail
      refine (Left_calls _ B g r h).mono ?_
      rintro e w1 ⟨rfl, hd⟩
      have h1 := h.drawn hd
      have k1 : KT B [175] w w1 := .drawn hd
      go_wp2_with (go_at_call 36; refine (Err_calls _ B g _ h1).mono ?_; rintro e w' ⟨rfl, rfl⟩)
      go_ret
      exact ⟨rfl, h1, k1⟩

set_option maxHeartbeats 400000 in
theorem Deep_calls (w : World) (B g : Nat) (r : Rdr) (h : IsR w B g r) :
    Calls Tryz.prog 293 #[.pointer (some ⟨g, 0, none⟩)] w fun e w' => e = .returned (.int .i64 ((r.ends.length : Int) - 1)) ∧ w = w' := by
  obtain ⟨bv, ev, hg, hB, hb, he, ok⟩ := h
  obtain ⟨A, c, rfl, hl, hC⟩ := Kd.R_reads he
  have c2 := (blk_cell hg 2)
  simp at c2
  have hn := ok.nn
  have hf := ok.few
  go_enter Tryz.func293, Tryz.ntmps293
  go_wp2
  go_ret
  exact ⟨rfl, rfl⟩

theorem info5 : (Tryz.prog.info? 5).map (fun i => (i.zero, i.size, i.bytes)) = some (some (.int .u8 0), 1, 1) := by kernel_rfl
theorem info3 : (Tryz.prog.info? 3).map (fun i => (i.zero, i.size, i.bytes)) = some (some (.int .i64 0), 1, 8) := by kernel_rfl

set_option maxHeartbeats 400000 in
theorem Clone_calls (w : World) (B : Nat) (A : Option Addr) (c : Nat) (xs : List Int) (hB : B ≤ w.heap.size) (hC : (Kd.int .u8).C w A xs.length xs) (hl : xs.length ≤ 140737488351232) :
    Calls Tryz.prog 51 #[.slice A xs.length c] w fun e w' => ∃ v, e = .returned v ∧ (Kd.int .u8).R 5 w' B (fun _ => True) v xs ∧ Below w.heap.size w w' := by
  have hq := fun (w1 : World) => Lib.run_eql_slice_nil (P := Tryz.prog) w1 42 5 A xs.length c 0 0 Tryz.underlying42
  cases A with
  | none =>
    have h0 : xs = [] := by
      have h2 := hC.2.2
      rcases Nat.eq_zero_or_pos xs.length with h | h
      · exact List.eq_nil_of_length_eq_zero h
      · obtain ⟨ad, he, _⟩ := h2 h
        cases he
    subst h0
    clear hl hC hB hq
    have hq := fun (w1 : World) => Lib.run_eql_slice_nil_nil (P := Tryz.prog) w1 (t := 42) (e := 5) 0 c Tryz.underlying42
    show Calls Tryz.prog 51 #[.slice none 0 c] w _
    go_enter Tryz.func51, Tryz.ntmps51
    go_wp2
    go_ret
    exact ⟨_, rfl, Kd.R_nil _ _ _ _ _, Below.refl _ _⟩
  | some ad =>
    have hb : Below w.heap.size w (w.alloc (.cells #[] 5)) := below_alloc (Below.refl _ _) _
    have hb2 : Below B w (w.alloc (.cells #[] 5)) := hb.mono hB
    have hR : (Kd.int .u8).R 5 (w.alloc (.cells #[] 5)) w.heap.size (fun _ => True) (.slice (some ⟨w.heap.size, 0, none⟩) 0 0) [] := by
      have h := World.ownsRow_lit (base := w.heap.size) (e := 5) (size := 1) w #[] 0 (Nat.le_refl _) (by simp [maxLen]) (by simp)
      exact ⟨fun _ _ => trivial, [], (show World.ownsRow _ _ _ 1 _ _ _ by simpa using h), ⟨by simp, fun j p hj => by simp at hj⟩⟩
    go_enter Tryz.func51, Tryz.ntmps51
    go_wp2_with (at_builtin; refine Kd.R_append_rows (Kd.int .u8) (w0 := w) w.heap.size rfl _ _ 42 5 (.int .u8 0) 1 rfl Tryz.underlying42 info5 rfl (by decide) (by decide) (.slice (some ⟨w.heap.size, 0, none⟩) 0 0) [] xs (some ad) xs.length c (fun _ => True) (fun _ => False) rfl rfl hR (Kd.C_below hC hb) ?_ (fun _ h => h.elim) (fun _ _ => trivial) hb (by simp) (by simp; omega) ?_)
    · intro x cs h
      exact h
    · intro v1 w1 hR1 hb1 _ _
      go_wp2
      go_ret
      exact ⟨_, rfl, Kd.R_lower hR1 hB, hb1⟩

/-- The bytes that are taken. -/
def Rdr.taken (r : Rdr) (n : Int) : List Int := if (r.has n).e = 0 then (r.b.take (r.at_ + n).toNat).drop r.at_.toNat else []
/-- The reader behind them. -/
def Rdr.took (r : Rdr) (n : Int) : Rdr := if (r.has n).e = 0 then { r with at_ := r.at_ + n } else r.has n

theorem Rdr.has_zero {r : Rdr} (n : Int) (h : (r.has n).e = 0) : r.has n = r ∧ r.e = 0 ∧ 0 ≤ n ∧ n ≤ r.left := by
  unfold Rdr.has at h ⊢
  split at h
  · exfalso
    unfold Rdr.fail at h
    split at h
    · simp at h
    · contradiction
  · rename_i h1
    rw [if_neg h1]
    exact ⟨rfl, h, by omega, by omega⟩
theorem Rdr.Ok.took {r : Rdr} (ok : r.Ok) {n : Int} (h0 : 0 ≤ n) (h1 : n ≤ r.left) (he : r.e = 0) : ({ r with at_ := r.at_ + n } : Rdr).Ok := by
  refine ⟨ok.len, ok.nn, ?_, ?_, ok.down, ok.few, ok.byte⟩
  · have := ok.lo
    show 0 ≤ r.at_ + n
    omega
  · intro x hx
    have hl : r.last ≤ x := by
      have hne : r.ends ≠ [] := fun e => by rw [e] at hx; cases hx
      have hd := ok.down
      have hsp : r.ends = r.ends.dropLast ++ [r.last] := by
        have := (List.dropLast_concat_getLast hne).symm
        rw [Rdr.last, List.getLastD_eq_getLast?, List.getLast?_eq_some_getLast hne]
        exact this
      rw [hsp] at hd hx
      rcases List.mem_append.1 hx with h | h
      · exact (List.pairwise_append.1 hd).2.2 x h _ (by simp)
      · rw [List.mem_singleton.1 h]
        exact Int.le_refl _
    have := ok.hi x hx
    unfold Rdr.left at h1
    rw [if_pos he] at h1
    exact ⟨show r.at_ + n ≤ x by omega, this.2⟩
theorem IsR.set_at {w : World} {B g : Nat} {r : Rdr} (h : IsR w B g r) (x : Int) (ok : ({ r with at_ := x } : Rdr).Ok) : IsR (w.setCell ⟨g, 1, none⟩ (.int .i64 x)) B g { r with at_ := x } := by
  obtain ⟨bv, ev, hg, hB, hb, he, _⟩ := h
  exact ⟨bv, ev, blk_put hg 1 _ (by simp), hB, Kd.R_set hb hg (by decide) 1 _, Kd.R_set he hg (by decide) 1 _, ok⟩

set_option maxHeartbeats 1600000 in
set_option maxRecDepth 100000 in
theorem Take_calls (w : World) (B g : Nat) (r : Rdr) (n : Int) (h : IsR w B g r) :
    Calls Tryz.prog 34 #[.pointer (some ⟨g, 0, none⟩), .int .i64 n] w fun e w' => ∃ v, e = .returned v ∧ (Kd.int .u8).R 5 w' B (fun _ => True) v (r.taken n) ∧ IsR w' B g (r.took n) ∧ KT B [175] w w' := by
  by_cases h0 : (r.has n).e = 0
  case neg =>
    have n0 : ((r.has n).e == 0) = false := by simp [h0]
    have ht : r.taken n = [] := if_neg h0
    have hr : r.took n = r.has n := if_neg h0
    rw [ht, hr]
    clear h0 ht hr
    go_enter Tryz.func34, Tryz.ntmps34
    go_wp2_with fail
    refine (has_calls _ B g r n h).mono ?_
    rintro e w1 ⟨rfl, h1, k1⟩
    go_wp2
    go_ret
    exact ⟨_, rfl, Kd.R_nil _ _ _ _ _, h1, k1⟩
  case pos =>
    have n0 : ((r.has n).e == 0) = true := by simp [h0]
    have ht : r.taken n = (r.b.take (r.at_ + n).toNat).drop r.at_.toNat := if_pos h0
    have hr : r.took n = { r with at_ := r.at_ + n } := if_pos h0
    obtain ⟨hh, he0, hn0, hn1⟩ := Rdr.has_zero n h0
    rw [ht, hr]
    have hc := has_calls w B g r n h
    rw [hh] at hc n0
    have ok := h.ok
    have ok2 := ok.took hn0 hn1 he0
    have hbd := ok.left_bd
    have hlo := ok.lo
    have hlen := ok.len
    have hhi := (ok.hi _ ok.last_mem)
    have hle : r.at_ + n ≤ r.b.length := by
      unfold Rdr.left at hn1
      rw [if_pos he0] at hn1
      omega
    have hyl : ((r.b.take (r.at_ + n).toNat).drop r.at_.toNat).length = (r.at_ + n).toNat - r.at_.toNat := by rw [List.length_drop, List.length_take]; omega
    obtain ⟨ys, hys⟩ : ∃ ys, (r.b.take (r.at_ + n).toNat).drop r.at_.toNat = ys := ⟨_, rfl⟩
    rw [hys] at hyl ⊢
    have HY := Aside0.mk hys
    have HL := Aside0.mk hyl
    clear ht hr hh h0 he0 hys hyl
    go_enter Tryz.func34, Tryz.ntmps34
    go_wp2_with fail
    refine hc.mono ?_
    rintro e w1 ⟨rfl, h1, k1⟩
    have h2 := h1.set_at (r.at_ + n) ok2
    have k2 : KT B [175] w (w1.setCell ⟨g, 1, none⟩ (.int .i64 (r.at_ + n))) := k1.setCell h1.ge h1.ty (by simp) _
    obtain ⟨bv, ev, hg, hB, hb, he, _⟩ := id h1
    obtain ⟨A, c, rfl, hlc, hC⟩ := Kd.R_reads hb
    have c0 := (blk_cell hg 0)
    have c1 := (blk_cell hg 1)
    have f1 := (blk_frozen hg 1)
    simp at c0 c1
    go_wp2_with fail
    generalize w1.setCell ⟨g, 1, none⟩ (.int .i64 (r.at_ + n)) = w2 at h2 k2 ⊢
    clear hC c0 c1 f1 hg hb he hlc A c ev
    obtain ⟨bv, ev, hg, hB, hb, he, _⟩ := id h2
    obtain ⟨A, c, rfl, hlc, hC⟩ := Kd.R_reads hb
    have c0 := (blk_cell hg 0)
    have c1 := (blk_cell hg 1)
    simp at c0 c1
    have hlc : r.b.length ≤ c := hlc
    have s1 : IntKind.i64.wrap r.at_ = r.at_ := IntWalk.i64_in _ (by omega)
    obtain ⟨i0, hi0, _, hsz, _⟩ := info_parts info5
    have hcut := cut_mid (P := Tryz.prog) 42 5 .i64 .i64 Tryz.underlying42 hi0 1 hsz A r.b.length c r.at_ (r.at_ + n) hlo (by omega) hle hlc
    have hC2 := Kd.C_mid (lo := r.at_.toNat) (hi := (r.at_ + n).toNat) (c := c) (xs := r.b) hC (by omega) (by omega) hlc
    rw [← HL.out] at hcut
    rw [HY.out] at hC2
    obtain ⟨A2, hA2⟩ : ∃ A2, (if c = r.at_.toNat then A else A.map (·.add (r.at_.toNat * 1))) = A2 := ⟨_, rfl⟩
    obtain ⟨c2, hc2⟩ : ∃ c2, c - r.at_.toNat = c2 := ⟨_, rfl⟩
    replace hC2 : (Kd.int .u8).C w2 A2 ys.length ys := by rw [← hA2]; exact hC2
    rw [hA2, hc2] at hcut
    have hyn : ys.length ≤ 140737488351232 := by have := HL.out; omega
    clear hA2 hc2 hlc hC
    go_still_tail 15, (by kernel_rfl)
    change wpList _ _ _ _ _ w2.drew
    have h3 : IsR w2.drew B g _ := h2
    have k3 := k2.drew
    replace hC2 := Kd.C_drew hC2
    clear c0 c1 hg hb he h2 k2 hcut
    generalize w2.drew = w3 at h3 k3 hC2 ⊢
    go_wp2_with fail
    refine (Clone_calls w3 w3.heap.size A2 c2 ys (Nat.le_refl _) hC2 hyn).mono ?_
    rintro e w4 ⟨v, rfl, hv, hb4⟩
    go_wp2
    go_ret
    have hsz3 : B ≤ w3.heap.size := by
      obtain ⟨_, _, hg, hB, _⟩ := h3
      have := blk_lt hg
      omega
    exact ⟨_, rfl, Kd.R_lower hv hsz3, h3.below hb4, k3.trans (.of_below hb4)⟩

theorem taken_byte (r : Rdr) (n : Int) (h : r.Ok) : ∀ x, x ∈ r.taken n → 0 ≤ x ∧ x < 256 := by
  intro x hx
  unfold Rdr.taken at hx
  split at hx
  · exact h.byte x (List.mem_of_mem_take (List.mem_of_mem_drop hx))
  · cases hx

theorem wrap_u16 (n : Int) : IntKind.u16.wrap n = n % 65536 := by simp [IntKind.wrap, IntKind.bits, IntKind.signed]
theorem or8 (a c : Int) (_ : 0 ≤ a) (h0 : 0 ≤ c) (h1 : c < 256) : bits .or .u8 (a * 128 % 256 * 2 % 256) c = a * 256 % 256 + c := by
  have h : a * 128 % 256 * 2 % 256 = 0 := by omega
  have h2 : a * 256 % 256 = 0 := by omega
  rw [h, h2]
  exact bits_join .u8 8 (by decide) wraps_u8 8 0 c (by omega) (by omega) (by omega) h0 h1 h1
theorem or16 (a c : Int) (_ : 0 ≤ a) (h0 : 0 ≤ c) (h1 : c < 256) : bits .or .u16 (IntKind.u16.wrap (IntKind.u16.wrap (a * 128) * 2)) (IntKind.u16.wrap c) = a * 256 % 65536 + c := by
  have h : IntKind.u16.wrap (IntKind.u16.wrap (a * 128) * 2) = a * 256 % 65536 := by rw [wrap_u16, wrap_u16]; omega
  have h2 : IntKind.u16.wrap c = c := by rw [wrap_u16]; omega
  rw [h, h2]
  exact bits_join .u16 16 (by decide) (fun n h0 h1 => by rw [wrap_u16]; omega) 8 (a * 256 % 65536) c (by omega) (by omega) (by omega) h0 h1 (by omega)
theorem or32 (a c : Int) (_ : 0 ≤ a) (h0 : 0 ≤ c) (h1 : c < 256) : bits .or .u32 (a * 128 % 4294967296 * 2 % 4294967296) (c % 4294967296) = a * 256 % 4294967296 + c := by
  have h : a * 128 % 4294967296 * 2 % 4294967296 = a * 256 % 4294967296 := by omega
  have h2 : c % 4294967296 = c := by omega
  rw [h, h2]
  exact bits_join .u32 32 (by decide) (fun n h0 h1 => by rw [IntKind.wrap_u32]; omega) 8 (a * 256 % 4294967296) c (by omega) (by omega) (by omega) h0 h1 (by omega)

/-- The number of bytes, the highest first, as u8 holds it. -/
def acc8 (l : List Int) : Int := l.foldl (fun n c => n * 256 % 256 + c) 0
theorem acc8_snoc (l : List Int) (c : Int) : acc8 (l ++ [c]) = acc8 l * 256 % 256 + c := by simp [acc8]
theorem acc8_bd0 (l : List Int) : ∀ a : Int, 0 ≤ a → a < 256 → (∀ x, x ∈ l → 0 ≤ x ∧ x < 256) → 0 ≤ l.foldl (fun n c => n * 256 % 256 + c) a ∧ l.foldl (fun n c => n * 256 % 256 + c) a < 256 := by
  induction l with
  | nil => intro a h0 h1 _; exact ⟨h0, h1⟩
  | cons c l ih =>
    intro a h0 h1 h
    have hc := h c (by simp)
    show 0 ≤ l.foldl _ (a * 256 % 256 + c) ∧ l.foldl _ (a * 256 % 256 + c) < 256
    exact ih (a * 256 % 256 + c) (by omega) (by omega) (fun x hx => h x (by simp [hx]))
theorem acc8_bd (l : List Int) (h : ∀ x, x ∈ l → 0 ≤ x ∧ x < 256) : 0 ≤ acc8 l ∧ acc8 l < 256 := acc8_bd0 l 0 (by omega) (by omega) h

set_option maxHeartbeats 800000 in
set_option maxRecDepth 100000 in
theorem number8_calls (w : World) (B g : Nat) (r : Rdr) (n : Int) (h : IsR w B g r) :
    Calls Tryz.prog 105 #[.pointer (some ⟨g, 0, none⟩), .int .i64 n] w fun e w' => e = .returned (.int .u8 (acc8 (r.taken n))) ∧ IsR w' B g (r.took n) ∧ KT B [175] w w' := by
  have hby := taken_byte r n h.ok
  have ht := Take_calls w B g r n h
  obtain ⟨ys, hys⟩ : ∃ ys, r.taken n = ys := ⟨_, rfl⟩
  rw [hys] at hby ht ⊢
  have HB := Aside0.mk hby
  clear hys hby
  go_enter Tryz.func105, Tryz.ntmps105
  go_wp2_with fail
  refine ht.mono ?_
  rintro e w1 ⟨v, rfl, hv, h1, k1⟩
  clear ht
  obtain ⟨A, c, rfl, hlc, hC⟩ := Kd.R_reads hv
  clear hv
  have hmax := Kd.C_max hC
  go_wp2_with fail
  go_loop [5, 7, 12] (fun a b i => ∃ k : Nat, k ≤ ys.length ∧ i = .int .i64 k ∧ a = .int .u8 (acc8 (ys.take k))) (fun _ _ i => ys.length - (intOf i).toNat)
  case atStart => exact ⟨0, Nat.zero_le _, rfl, rfl⟩
  case round =>
    obtain ⟨k, hk, rfl, rfl⟩ := hrel
    by_cases hlt : k < ys.length
    · obtain ⟨ad, rfl, hcell⟩ := Kd.at_int hC (k : Int) (by omega) (by omega)
      rw [Int.toNat_natCast] at hcell
      go_wp2
      have hx : rd ys (k : Int) = ys[k] := by rw [rd, Int.toNat_natCast, List.getD_eq_getElem?_getD, List.getElem?_eq_getElem hlt]; rfl
      have hr := HB.out _ (List.getElem_mem hlt)
      have ha := acc8_bd (ys.take k) (fun x hx => HB.out x (List.mem_of_mem_take hx))
      have hs : acc8 (ys.take (k + 1)) = acc8 (ys.take k) * 256 % 256 + ys[k] := by
        rw [List.take_succ_eq_append_getElem hlt, acc8_snoc]
      go_round
      case rel => exact ⟨k + 1, by omega, by go_num, by rw [hs, hx]; exact congrArg (Value.int IntKind.u8) (or8 _ _ ha.1 hr.1 hr.2)⟩
      case measure => simp [intOf]; omega
    · have hke : k = ys.length := by omega
      subst hke
      rw [List.take_length]
      go_wp2
      go_ret
      exact ⟨rfl, h1, k1⟩

/-- The number of bytes, the highest first, as u16 holds it. -/
def acc16 (l : List Int) : Int := l.foldl (fun n c => n * 256 % 65536 + c) 0
theorem acc16_snoc (l : List Int) (c : Int) : acc16 (l ++ [c]) = acc16 l * 256 % 65536 + c := by simp [acc16]
theorem acc16_bd0 (l : List Int) : ∀ a : Int, 0 ≤ a → a < 65536 → (∀ x, x ∈ l → 0 ≤ x ∧ x < 256) → 0 ≤ l.foldl (fun n c => n * 256 % 65536 + c) a ∧ l.foldl (fun n c => n * 256 % 65536 + c) a < 65536 := by
  induction l with
  | nil => intro a h0 h1 _; exact ⟨h0, h1⟩
  | cons c l ih =>
    intro a h0 h1 h
    have hc := h c (by simp)
    show 0 ≤ l.foldl _ (a * 256 % 65536 + c) ∧ l.foldl _ (a * 256 % 65536 + c) < 65536
    exact ih (a * 256 % 65536 + c) (by omega) (by omega) (fun x hx => h x (by simp [hx]))
theorem acc16_bd (l : List Int) (h : ∀ x, x ∈ l → 0 ≤ x ∧ x < 256) : 0 ≤ acc16 l ∧ acc16 l < 65536 := acc16_bd0 l 0 (by omega) (by omega) h

set_option maxHeartbeats 800000 in
set_option maxRecDepth 100000 in
theorem number16_calls (w : World) (B g : Nat) (r : Rdr) (n : Int) (h : IsR w B g r) :
    Calls Tryz.prog 85 #[.pointer (some ⟨g, 0, none⟩), .int .i64 n] w fun e w' => e = .returned (.int .u16 (acc16 (r.taken n))) ∧ IsR w' B g (r.took n) ∧ KT B [175] w w' := by
  have hby := taken_byte r n h.ok
  have ht := Take_calls w B g r n h
  obtain ⟨ys, hys⟩ : ∃ ys, r.taken n = ys := ⟨_, rfl⟩
  rw [hys] at hby ht ⊢
  have HB := Aside0.mk hby
  clear hys hby
  go_enter Tryz.func85, Tryz.ntmps85
  go_wp2_with fail
  refine ht.mono ?_
  rintro e w1 ⟨v, rfl, hv, h1, k1⟩
  clear ht
  obtain ⟨A, c, rfl, hlc, hC⟩ := Kd.R_reads hv
  clear hv
  have hmax := Kd.C_max hC
  go_wp2_with fail
  go_loop [5, 7, 12] (fun a b i => ∃ k : Nat, k ≤ ys.length ∧ i = .int .i64 k ∧ a = .int .u16 (acc16 (ys.take k))) (fun _ _ i => ys.length - (intOf i).toNat)
  case atStart => exact ⟨0, Nat.zero_le _, rfl, rfl⟩
  case round =>
    obtain ⟨k, hk, rfl, rfl⟩ := hrel
    by_cases hlt : k < ys.length
    · obtain ⟨ad, rfl, hcell⟩ := Kd.at_int hC (k : Int) (by omega) (by omega)
      rw [Int.toNat_natCast] at hcell
      go_wp2
      have hx : rd ys (k : Int) = ys[k] := by rw [rd, Int.toNat_natCast, List.getD_eq_getElem?_getD, List.getElem?_eq_getElem hlt]; rfl
      have hr := HB.out _ (List.getElem_mem hlt)
      have ha := acc16_bd (ys.take k) (fun x hx => HB.out x (List.mem_of_mem_take hx))
      have hs : acc16 (ys.take (k + 1)) = acc16 (ys.take k) * 256 % 65536 + ys[k] := by
        rw [List.take_succ_eq_append_getElem hlt, acc16_snoc]
      go_round
      case rel => exact ⟨k + 1, by omega, by go_num, by rw [hs, hx]; exact congrArg (Value.int IntKind.u16) (or16 _ _ ha.1 hr.1 hr.2)⟩
      case measure => simp [intOf]; omega
    · have hke : k = ys.length := by omega
      subst hke
      rw [List.take_length]
      go_wp2
      go_ret
      exact ⟨rfl, h1, k1⟩

/-- The number of bytes, the highest first, as u32 holds it. -/
def acc32 (l : List Int) : Int := l.foldl (fun n c => n * 256 % 4294967296 + c) 0
theorem acc32_snoc (l : List Int) (c : Int) : acc32 (l ++ [c]) = acc32 l * 256 % 4294967296 + c := by simp [acc32]
theorem acc32_bd0 (l : List Int) : ∀ a : Int, 0 ≤ a → a < 4294967296 → (∀ x, x ∈ l → 0 ≤ x ∧ x < 256) → 0 ≤ l.foldl (fun n c => n * 256 % 4294967296 + c) a ∧ l.foldl (fun n c => n * 256 % 4294967296 + c) a < 4294967296 := by
  induction l with
  | nil => intro a h0 h1 _; exact ⟨h0, h1⟩
  | cons c l ih =>
    intro a h0 h1 h
    have hc := h c (by simp)
    show 0 ≤ l.foldl _ (a * 256 % 4294967296 + c) ∧ l.foldl _ (a * 256 % 4294967296 + c) < 4294967296
    exact ih (a * 256 % 4294967296 + c) (by omega) (by omega) (fun x hx => h x (by simp [hx]))
theorem acc32_bd (l : List Int) (h : ∀ x, x ∈ l → 0 ≤ x ∧ x < 256) : 0 ≤ acc32 l ∧ acc32 l < 4294967296 := acc32_bd0 l 0 (by omega) (by omega) h

set_option maxHeartbeats 800000 in
set_option maxRecDepth 100000 in
theorem number32_calls (w : World) (B g : Nat) (r : Rdr) (n : Int) (h : IsR w B g r) :
    Calls Tryz.prog 204 #[.pointer (some ⟨g, 0, none⟩), .int .i64 n] w fun e w' => e = .returned (.int .u32 (acc32 (r.taken n))) ∧ IsR w' B g (r.took n) ∧ KT B [175] w w' := by
  have hby := taken_byte r n h.ok
  have ht := Take_calls w B g r n h
  obtain ⟨ys, hys⟩ : ∃ ys, r.taken n = ys := ⟨_, rfl⟩
  rw [hys] at hby ht ⊢
  have HB := Aside0.mk hby
  clear hys hby
  go_enter Tryz.func204, Tryz.ntmps204
  go_wp2_with fail
  refine ht.mono ?_
  rintro e w1 ⟨v, rfl, hv, h1, k1⟩
  clear ht
  obtain ⟨A, c, rfl, hlc, hC⟩ := Kd.R_reads hv
  clear hv
  have hmax := Kd.C_max hC
  go_wp2_with fail
  go_loop [5, 7, 12] (fun a b i => ∃ k : Nat, k ≤ ys.length ∧ i = .int .i64 k ∧ a = .int .u32 (acc32 (ys.take k))) (fun _ _ i => ys.length - (intOf i).toNat)
  case atStart => exact ⟨0, Nat.zero_le _, rfl, rfl⟩
  case round =>
    obtain ⟨k, hk, rfl, rfl⟩ := hrel
    by_cases hlt : k < ys.length
    · obtain ⟨ad, rfl, hcell⟩ := Kd.at_int hC (k : Int) (by omega) (by omega)
      rw [Int.toNat_natCast] at hcell
      go_wp2
      have hx : rd ys (k : Int) = ys[k] := by rw [rd, Int.toNat_natCast, List.getD_eq_getElem?_getD, List.getElem?_eq_getElem hlt]; rfl
      have hr := HB.out _ (List.getElem_mem hlt)
      have ha := acc32_bd (ys.take k) (fun x hx => HB.out x (List.mem_of_mem_take hx))
      have hs : acc32 (ys.take (k + 1)) = acc32 (ys.take k) * 256 % 4294967296 + ys[k] := by
        rw [List.take_succ_eq_append_getElem hlt, acc32_snoc]
      go_round
      case rel => exact ⟨k + 1, by omega, by go_num, by rw [hs, hx]; exact congrArg (Value.int IntKind.u32) (or32 _ _ ha.1 hr.1 hr.2)⟩
      case measure => simp [intOf]; omega
    · have hke : k = ys.length := by omega
      subst hke
      rw [List.take_length]
      go_wp2
      go_ret
      exact ⟨rfl, h1, k1⟩

set_option maxHeartbeats 400000 in
theorem RByte_calls (w : World) (B g : Nat) (r : Rdr) (h : IsR w B g r) :
    Calls Tryz.prog 48 #[.pointer (some ⟨g, 0, none⟩)] w fun e w' => e = .returned (.int .u8 (acc8 (r.taken 1))) ∧ IsR w' B g (r.took 1) ∧ KT B [175] w w' := by
  go_enter Tryz.func48, Tryz.ntmps48
  go_wp2_with fail
  refine (number8_calls w B g r 1 h).mono ?_
  rintro e w1 ⟨rfl, h1, k1⟩
  go_wp2
  go_ret
  exact ⟨rfl, h1, k1⟩

set_option maxHeartbeats 400000 in
theorem RTwo_calls (w : World) (B g : Nat) (r : Rdr) (h : IsR w B g r) :
    Calls Tryz.prog 35 #[.pointer (some ⟨g, 0, none⟩)] w fun e w' => e = .returned (.int .u16 (acc16 (r.taken 2))) ∧ IsR w' B g (r.took 2) ∧ KT B [175] w w' := by
  go_enter Tryz.func35, Tryz.ntmps35
  go_wp2_with fail
  refine (number16_calls w B g r 2 h).mono ?_
  rintro e w1 ⟨rfl, h1, k1⟩
  go_wp2
  go_ret
  exact ⟨rfl, h1, k1⟩

set_option maxHeartbeats 400000 in
theorem RFour_calls (w : World) (B g : Nat) (r : Rdr) (h : IsR w B g r) :
    Calls Tryz.prog 131 #[.pointer (some ⟨g, 0, none⟩)] w fun e w' => e = .returned (.int .u32 (acc32 (r.taken 4))) ∧ IsR w' B g (r.took 4) ∧ KT B [175] w w' := by
  go_enter Tryz.func131, Tryz.ntmps131
  go_wp2_with fail
  refine (number32_calls w B g r 4 h).mono ?_
  rintro e w1 ⟨rfl, h1, k1⟩
  go_wp2
  go_ret
  exact ⟨rfl, h1, k1⟩

set_option maxHeartbeats 400000 in
theorem Rest_calls (w : World) (B g : Nat) (r : Rdr) (h : IsR w B g r) :
    Calls Tryz.prog 39 #[.pointer (some ⟨g, 0, none⟩)] w fun e w' => ∃ v, e = .returned v ∧ (Kd.int .u8).R 5 w' B (fun _ => True) v (r.taken r.left) ∧ IsR w' B g (r.took r.left) ∧ KT B [175] w w' := by
  go_enter Tryz.func39, Tryz.ntmps39
  go_wp2_with fail
  refine (Left_calls w B g r h).mono ?_
  rintro e w1 ⟨rfl, hd⟩
  have h1 := h.drawn hd
  have k1 : KT B [175] w w1 := .drawn hd
  go_wp2_with fail
  refine (Take_calls w1 B g r r.left h1).mono ?_
  rintro e w2 ⟨v, rfl, hv, h2, k2⟩
  go_wp2
  go_ret
  exact ⟨v, rfl, hv, h2, k1.trans k2⟩

theorem Rdr.Ok.opened {r : Rdr} (ok : r.Ok) {n : Int} (h0 : 0 ≤ n) (h1 : n ≤ r.left) (he : r.e = 0) (hf : r.ends.length < 1000000) : ({ r with ends := r.ends ++ [r.at_ + n] } : Rdr).Ok := by
  have hm := ok.took h0 h1 he
  refine ⟨ok.len, by simp, ok.lo, ?_, ?_, by simp; omega, ok.byte⟩
  · intro x hx
    rcases List.mem_append.1 hx with hx | hx
    · exact ok.hi x hx
    · rw [List.mem_singleton.1 hx]
      exact ⟨by show r.at_ ≤ _; omega, Int.le_trans (hm.hi _ ok.last_mem).1 (ok.hi _ ok.last_mem).2⟩
  · refine List.pairwise_append.2 ⟨ok.down, by simp, fun x hx y hy => ?_⟩
    rw [List.mem_singleton.1 hy]
    exact (hm.hi x hx).1

/-- A block of n bytes is opened. -/
def Rdr.opened (r : Rdr) (n : Int) : Rdr := if (r.has n).e = 0 then { r with ends := r.ends ++ [r.at_ + n] } else r.has n

set_option maxHeartbeats 1600000 in
set_option maxRecDepth 100000 in
theorem Open_calls (w : World) (B g : Nat) (r : Rdr) (n : Int) (h : IsR w B g r) (hf : r.ends.length < 1000000) :
    Calls Tryz.prog 205 #[.pointer (some ⟨g, 0, none⟩), .int .i64 n] w fun e w' => e = .returned (.tuple #[]) ∧ IsR w' B g (r.opened n) ∧ KT B [175, 3] w w' := by
  by_cases h0 : (r.has n).e = 0
  case neg =>
    have n0 : ((r.has n).e == 0) = false := by simp [h0]
    have hr : r.opened n = r.has n := if_neg h0
    rw [hr]
    clear h0 hr
    go_enter Tryz.func205, Tryz.ntmps205
    go_wp2_with fail
    refine (has_calls _ B g r n h).mono ?_
    rintro e w1 ⟨rfl, h1, k1⟩
    go_wp2
    go_end0
    exact ⟨rfl, h1, k1.mono (Nat.le_refl _) (by simp)⟩
  case pos =>
    have n0 : ((r.has n).e == 0) = true := by simp [h0]
    have hr : r.opened n = { r with ends := r.ends ++ [r.at_ + n] } := if_pos h0
    obtain ⟨hh, he0, hn0, hn1⟩ := Rdr.has_zero n h0
    rw [hr]
    have hc := has_calls w B g r n h
    rw [hh] at hc n0
    have ok := h.ok
    have hbd := ok.left_bd
    have hlo := ok.lo
    have hlen := ok.len
    have hhi := (ok.hi _ ok.last_mem)
    have hle : r.at_ + n ≤ r.b.length := by
      unfold Rdr.left at hn1
      rw [if_pos he0] at hn1
      omega
    have s1 : IntKind.i64.wrap (r.at_ + n) = r.at_ + n := IntWalk.i64_in _ (by omega)
    have ok2 := ok.opened hn0 hn1 he0 hf
    clear hr hh h0 he0
    go_enter Tryz.func205, Tryz.ntmps205
    go_wp2_with fail
    refine hc.mono ?_
    rintro e w1 ⟨rfl, h1, k1⟩
    obtain ⟨bv, ev, hg, hB, hb, he, _⟩ := id h1
    obtain ⟨A, c, rfl, hlc, hC⟩ := Kd.R_reads he
    have c2 := (blk_cell hg 2)
    have c1 := (blk_cell hg 1)
    have f2 := (blk_frozen hg 2)
    simp at c2 c1
    go_wp2_with fail
    refine start_ (n := 16) (S := fun w' => w'.cell? ⟨g, 2, none⟩ = some (.slice A r.ends.length c) ∧ w'.cell? ⟨g, 1, none⟩ = some (.int .i64 r.at_)) (ds := [12, 15]) #[false, false, false, false, false, false, false, false, false, false, false, false, false, false, false, false] (by kernel_rfl) rfl rfl (⟨c2, c1⟩) (fun hHeld => ?_)
    replace hg := blk_drew hg
    replace he := Kd.R_drew he
    replace hb := Kd.R_drew hb
    replace k1 := k1.drew
    generalize w1.drew = w2 at hg he hb k1 hHeld ⊢
    have hsz := Nat.lt_of_le_of_lt hB (blk_lt hg)
    refine pure_ (i := 0) (N := (some 7)) (v := ?_) (a' := ?_) #[true, false, false, false, false, false, false, false, false, false, false, false, false, false, false, false] rfl rfl (by kernel_rfl) (fun _ _ _ h => h) (Or.inl ⟨by rfl, ?_⟩) ?_ ?_
    rotate_left
    · intro w'
      go_simp
      with_reducible rfl
    rotate_left
    · simp only [Act.put, List.setIfInBounds_toArray, List.set_cons_zero, List.set_cons_succ, i64_w, i32_w]
      rfl
    refine pure_ (i := 1) (N := (some 8)) (v := ?_) (a' := ?_) #[true, true, false, false, false, false, false, false, false, false, false, false, false, false, false, false] rfl rfl (by kernel_rfl) (fun _ _ _ h => h) (Or.inl ⟨by rfl, ?_⟩) ?_ ?_
    rotate_left
    · intro w'
      go_simp
      with_reducible rfl
    rotate_left
    · simp only [Act.put, List.setIfInBounds_toArray, List.set_cons_zero, List.set_cons_succ, i64_w, i32_w]
      rfl
    refine pure_ (i := 2) (N := (some 9)) (v := ?_) (a' := ?_) #[true, true, true, false, false, false, false, false, false, false, false, false, false, false, false, false] rfl rfl (by kernel_rfl) (fun _ _ _ h => h) (Or.inl ⟨by rfl, ?_⟩) ?_ ?_
    rotate_left
    · intro w'
      go_simp
      with_reducible rfl
    rotate_left
    · simp only [Act.put, List.setIfInBounds_toArray, List.set_cons_zero, List.set_cons_succ, i64_w, i32_w]
      rfl
    refine pure_ (i := 3) (N := (some 10)) (v := ?_) (a' := ?_) #[true, true, true, true, false, false, false, false, false, false, false, false, false, false, false, false] rfl rfl (by kernel_rfl) (fun _ _ _ h => h) (Or.inl ⟨by rfl, ?_⟩) ?_ ?_
    rotate_left
    · intro w'
      go_simp
      with_reducible rfl
    rotate_left
    · simp only [Act.put, List.setIfInBounds_toArray, List.set_cons_zero, List.set_cons_succ, i64_w, i32_w]
      rfl
    refine take_ (i := 4) (N := (some 11)) (v := ?_) (a' := ?_) #[true, true, true, true, true, false, false, false, false, false, false, false, false, false, false, false] rfl rfl (by kernel_rfl) (fun _ _ _ h => h) (Or.inl ⟨by rfl, ?_⟩) hHeld ?_ ?_
    rotate_left
    · rintro w' ⟨s0, s1⟩
      go_simp
      with_reducible rfl
    rotate_left
    · simp only [Act.put, List.setIfInBounds_toArray, List.set_cons_zero, List.set_cons_succ, i64_w, i32_w]
      rfl
    refine pure_ (i := 5) (N := (some 12)) (v := ?_) (a' := ?_) #[true, true, true, true, true, true, false, false, false, false, false, false, false, false, false, false] rfl rfl (by kernel_rfl) (fun _ _ _ h => h) (Or.inl ⟨by rfl, ?_⟩) ?_ ?_
    rotate_left
    · intro w'
      go_simp
      with_reducible rfl
    rotate_left
    · simp only [Act.put, List.setIfInBounds_toArray, List.set_cons_zero, List.set_cons_succ, i64_w, i32_w]
      rfl
    refine pure_ (i := 6) (N := (some 13)) (v := ?_) (a' := ?_) #[true, true, true, true, true, true, true, false, false, false, false, false, false, false, false, false] rfl rfl (by kernel_rfl) (fun _ _ _ h => h) (Or.inl ⟨by rfl, ?_⟩) ?_ ?_
    rotate_left
    · intro w'
      go_simp
      with_reducible rfl
    rotate_left
    · simp only [Act.put, List.setIfInBounds_toArray, List.set_cons_zero, List.set_cons_succ, i64_w, i32_w]
      rfl
    refine pure_ (i := 7) (N := (some 14)) (v := ?_) (a' := ?_) #[true, true, true, true, true, true, true, true, false, false, false, false, false, false, false, false] rfl rfl (by kernel_rfl) (fun _ _ _ h => h) (Or.inl ⟨by rfl, ?_⟩) ?_ ?_
    rotate_left
    · intro w'
      go_simp
      with_reducible rfl
    rotate_left
    · simp only [Act.put, List.setIfInBounds_toArray, List.set_cons_zero, List.set_cons_succ, i64_w, i32_w]
      rfl
    refine take_ (i := 8) (N := (some 15)) (v := ?_) (a' := ?_) #[true, true, true, true, true, true, true, true, true, false, false, false, false, false, false, false] rfl rfl (by kernel_rfl) (fun _ _ _ h => h) (Or.inl ⟨by rfl, ?_⟩) hHeld ?_ ?_
    rotate_left
    · rintro w' ⟨s0, s1⟩
      go_simp
      with_reducible rfl
    rotate_left
    · simp only [Act.put, List.setIfInBounds_toArray, List.set_cons_zero, List.set_cons_succ, i64_w, i32_w]
      rfl
    refine pure_ (i := 9) (N := (some 16)) (v := ?_) (a' := ?_) #[true, true, true, true, true, true, true, true, true, true, false, false, false, false, false, false] rfl rfl (by kernel_rfl) (fun _ _ _ h => h) (Or.inl ⟨by rfl, ?_⟩) ?_ ?_
    rotate_left
    · intro w'
      go_simp
      with_reducible rfl
    rotate_left
    · simp only [Act.put, List.setIfInBounds_toArray, List.set_cons_zero, List.set_cons_succ, i64_w, i32_w]
      rfl
    refine pure_ (i := 10) (N := (some 17)) (v := ?_) (a' := ?_) #[true, true, true, true, true, true, true, true, true, true, true, false, false, false, false, false] rfl rfl (by kernel_rfl) (fun _ _ _ h => h) (Or.inl ⟨by rfl, ?_⟩) ?_ ?_
    rotate_left
    · intro w'
      go_simp
      with_reducible rfl
    rotate_left
    · simp only [Act.put, List.setIfInBounds_toArray, List.set_cons_zero, List.set_cons_succ, i64_w, i32_w]
      rfl
    refine one_ (i := 11) (N := (some 18)) #[true, true, true, true, true, true, true, true, true, true, true, true, false, false, false, false] rfl rfl (by kernel_rfl) (by decide) (fun K hK => ?_)
    refine value_ (w1 := ?_) (v := ?_) (by rfl) rfl ?_ ?_
    rotate_left 2
    · go_simp
      constructor
      · rfl
      · rfl
    refine hK.out _ _ (⟨cell_alloc hHeld.1 _, cell_alloc hHeld.2 _⟩) (fun hHeld => ?_)
    clear hK K
    refine norm_ (a' := ?_) ?_ ?_
    rotate_left
    · show Act.put _ (some 18) _ = _
      simp only [Act.put, List.setIfInBounds_toArray, List.set_cons_zero, List.set_cons_succ, i64_w, i32_w]
      rfl
    refine last_ (i := 12) (N := (some 19)) #[true, true, true, true, true, true, true, true, true, true, true, true, true, false, false, false] rfl rfl (by kernel_rfl) (by decide) (fun K hK => ?_)
    refine Kd.R_append_step (Kd.int .i64) (w0 := w2) B (by rfl) (.tmp 11) (.tmp 18) 173 3 (.int .i64 0) 8 rfl Tryz.underlying173 info3 rfl (by decide) (by omega) (.slice A r.ends.length c) r.ends (r.at_ + n) [.int .i64 (r.at_ + n)] (fun _ => True) (fun _ => False) rfl rfl rfl (fun _ h => h.elim) (fun _ _ => trivial) he (Below.refl _ _) (by omega) (by omega) ?_
    intro ev1 w3 he1 _ hg1 _
    obtain ⟨A3, c3, rfl⟩ := Kd.R_slice he1
    have hgx := blk_grown hg hg1 (Kd.R_ne he hg (by decide))
    have hbx := Kd.R_over hb he (by decide) hg1
    have kx := KT.grown (ts := [175, 3]) (k1.mono (Nat.le_refl _) (by simp)) hg1 (fun k hk => ⟨Kd.R_base he k hk, 3, by simp, R_tyB he k hk⟩)
    clear hg1 hHeld he hg hb k1
    have f2 := (blk_frozen hgx 2)
    have c2 := (blk_cell hgx 2)
    simp at c2
    refine hK.out _ _ ?_
    clear hK K
    refine norm_ (a' := ?_) ?_ ?_
    rotate_left
    · show Act.put _ (some 19) _ = _
      simp only [Act.put, List.setIfInBounds_toArray, List.set_cons_zero, List.set_cons_succ, i64_w, i32_w]
      rfl
    refine pure_ (i := 13) (N := (some 20)) (v := ?_) (a' := ?_) #[true, true, true, true, true, true, true, true, true, true, true, true, true, true, false, false] rfl rfl (by kernel_rfl) (fun _ _ _ h => h) (Or.inl ⟨by rfl, ?_⟩) ?_ ?_
    rotate_left
    · intro w'
      go_simp
      with_reducible rfl
    rotate_left
    · simp only [Act.put, List.setIfInBounds_toArray, List.set_cons_zero, List.set_cons_succ, i64_w, i32_w]
      rfl
    refine pure_ (i := 14) (N := (some 21)) (v := ?_) (a' := ?_) #[true, true, true, true, true, true, true, true, true, true, true, true, true, true, true, false] rfl rfl (by kernel_rfl) (fun _ _ _ h => h) (Or.inl ⟨by rfl, ?_⟩) ?_ ?_
    rotate_left
    · intro w'
      go_simp
      with_reducible rfl
    rotate_left
    · simp only [Act.put, List.setIfInBounds_toArray, List.set_cons_zero, List.set_cons_succ, i64_w, i32_w]
      rfl
    refine last_ (i := 15) (N := none) #[true, true, true, true, true, true, true, true, true, true, true, true, true, true, true, true] rfl rfl (by kernel_rfl) (by decide) (fun K hK => ?_)
    refine skip_ (w1 := ?_) (by rfl) rfl ?_ ?_
    rotate_left
    · go_simp
      with_reducible rfl
    refine hK.out _ _ ?_
    clear hK K
    refine done_ (by kernel_rfl) ?_
    go_end0
    refine ⟨rfl, ?_, ?_⟩
    · exact ⟨bv, _, blk_put hgx 2 _ (by simp), hB, Kd.R_set hbx hgx (by decide) 2 _, Kd.R_set he1 hgx (by decide) 2 _, ok2⟩
    · exact kx.setCell hB ⟨_, _, hgx⟩ (by simp) _

/-- Is a block open? Else ErrUse is noted. -/
def Rdr.within (r : Rdr) : Rdr := if r.ends.length = 1 then r.fail 26 else r

set_option maxHeartbeats 800000 in
theorem within_calls (w : World) (B g : Nat) (r : Rdr) (h : IsR w B g r) :
    Calls Tryz.prog 259 #[.pointer (some ⟨g, 0, none⟩)] w fun e w' => e = .returned (.bool (r.within.e == 0)) ∧ IsR w' B g r.within ∧ KT B [175] w w' := by
  by_cases hl : r.ends.length = 1
  · have n0 : (((r.ends.length : Int) - 1) == 0) = true := by simp [hl]
    have hh : r.within = r.fail 26 := if_pos hl
    rw [hh]
    clear hl hh
    go_enter Tryz.func259, Tryz.ntmps259
    go_wp2_with fail
    refine (Deep_calls _ B g r h).mono ?_
    rintro e w1 ⟨rfl, rfl⟩
    go_wp2_with fail
    refine (Fail_calls _ B g r 26 h).mono ?_
    rintro e w1 ⟨rfl, h1, k1⟩
    go_wp2_with (go_at_call 36; refine (Err_calls _ B g _ h1).mono ?_; rintro e w' ⟨rfl, rfl⟩)
    go_ret
    exact ⟨rfl, h1, k1⟩
  · have n0 : (((r.ends.length : Int) - 1) == 0) = false := by
      rw [beq_eq_false_iff_ne]
      omega
    have hh : r.within = r := if_neg hl
    rw [hh]
    clear hl hh
    go_enter Tryz.func259, Tryz.ntmps259
    go_wp2_with fail
    refine (Deep_calls _ B g r h).mono ?_
    rintro e w1 ⟨rfl, rfl⟩
    go_wp2_with (go_at_call 36; refine (Err_calls _ B g _ h).mono ?_; rintro e w' ⟨rfl, rfl⟩)
    go_ret
    exact ⟨rfl, h, KT.refl _ _ _⟩

/-- What Close notes. -/
def Rdr.shutE (r : Rdr) : Rdr := if r.within.e = 0 ∧ 0 < r.within.left then r.within.fail 5 else r.within
/-- The innermost block is closed. -/
def Rdr.closed (r : Rdr) : Rdr := if r.shutE.e = 0 then { r.shutE with ends := r.shutE.ends.dropLast } else r.shutE

theorem Rdr.fail_e {r : Rdr} {x : Int} (hx : x ≠ 0) : (r.fail x).e ≠ 0 := by
  unfold Rdr.fail
  split <;> assumption
theorem Rdr.shutE_zero {r : Rdr} (h : r.shutE.e = 0) : r.shutE = r ∧ r.ends.length ≠ 1 ∧ r.e = 0 ∧ r.left ≤ 0 := by
  unfold Rdr.shutE at h ⊢
  split at h
  · exact absurd h (Rdr.fail_e (by decide))
  · rename_i h1
    rw [if_neg h1]
    by_cases hl : r.ends.length = 1
    · have hh : r.within = r.fail 26 := if_pos hl
      rw [hh] at h
      exact absurd h (Rdr.fail_e (by decide))
    · have hh : r.within = r := if_neg hl
      rw [hh] at h h1 ⊢
      exact ⟨rfl, hl, h, by omega⟩

/-- The first part of Close. -/
theorem Rdr.Ok.closed {r : Rdr} (ok : r.Ok) (hl : r.ends.length ≠ 1) : ({ r with ends := r.ends.take (r.ends.length - 1) } : Rdr).Ok := by
  have hn := ok.nn
  refine ⟨ok.len, ?_, ok.lo, fun x hx => ok.hi x (List.mem_of_mem_take hx), ok.down.sublist (List.take_sublist _ _), ?_, ok.byte⟩
  · show 0 < (r.ends.take (r.ends.length - 1)).length
    rw [List.length_take]
    omega
  · show (r.ends.take (r.ends.length - 1)).length ≤ _
    rw [List.length_take]
    have := ok.few
    omega

set_option maxHeartbeats 1600000 in
set_option maxRecDepth 100000 in
theorem Close_calls (w : World) (B g : Nat) (r : Rdr) (h : IsR w B g r) :
    Calls Tryz.prog 206 #[.pointer (some ⟨g, 0, none⟩)] w fun e w' => e = .returned (.tuple #[]) ∧ IsR w' B g r.closed ∧ KT B [175] w w' := by
  by_cases h0 : r.shutE.e = 0
  case neg =>
    have hc : r.closed = r.shutE := if_neg h0
    have n0 : (r.shutE.e == 0) = false := by simp [h0]
    rw [hc]
    by_cases hw : r.within.e = 0
    · have n1 : (r.within.e == 0) = true := by simp [hw]
      by_cases hp : 0 < r.within.left
      · have n2 : decide (0 < r.within.left) = true := decide_eq_true hp
        have hs : r.shutE = r.within.fail 5 := if_pos ⟨hw, hp⟩
        rw [hs] at n0 ⊢
        clear h0 hc hw hp hs
        go_enter Tryz.func206, Tryz.ntmps206
        go_wp2_with fail
        refine (within_calls _ B g r h).mono ?_
        rintro e w1 ⟨rfl, h1, k1⟩
        go_wp2_with fail
        refine (Left_calls _ B g _ h1).mono ?_
        rintro e w2 ⟨rfl, hd⟩
        have h2 := h1.drawn hd
        have k2 : KT B [175] w w2 := k1.trans (.drawn hd)
        go_wp2_with fail
        refine (Fail_calls _ B g _ 5 h2).mono ?_
        rintro e w3 ⟨rfl, h3, k3⟩
        go_wp2_with (go_at_call 36; refine (Err_calls _ B g _ h3).mono ?_; rintro e w' ⟨rfl, rfl⟩)
        go_end0
        exact ⟨rfl, h3, k2.trans k3⟩
      · exact absurd hw (by rwa [show r.shutE = r.within from if_neg (by rintro ⟨_, h⟩; exact hp h)] at h0)
    · have n1 : (r.within.e == 0) = false := by simp [hw]
      have hs : r.shutE = r.within := if_neg (by rintro ⟨h, _⟩; exact hw h)
      rw [hs] at n0 ⊢
      clear h0 hc hw hs
      go_enter Tryz.func206, Tryz.ntmps206
      go_wp2_with fail
      refine (within_calls _ B g r h).mono ?_
      rintro e w1 ⟨rfl, h1, k1⟩
      go_wp2_with (go_at_call 36; refine (Err_calls _ B g _ h1).mono ?_; rintro e w' ⟨rfl, rfl⟩)
      go_end0
      exact ⟨rfl, h1, k1⟩
  case pos =>
  obtain ⟨hs, hl, he0, hlf⟩ := Rdr.shutE_zero h0
  have hc : r.closed = { r with ends := r.ends.take (r.ends.length - 1) } := by
    rw [Rdr.closed, if_pos h0, hs, List.dropLast_eq_take]
  rw [hc]
  have hwi : r.within = r := if_neg hl
  have hwc := within_calls w B g r h
  rw [hwi] at hwc
  have ok := h.ok
  have ok2 := ok.closed hl
  have hn := ok.nn
  have hfew := ok.few
  have n0 : (r.e == 0) = true := by simp [he0]
  have n2 : decide (0 < r.left) = false := decide_eq_false (by omega)
  have i1 : (1 : Int) ≤ r.ends.length := by omega
  have s1 : IntKind.i64.wrap ((r.ends.length : Int) - 1) = (r.ends.length : Int) - 1 := IntWalk.i64_in _ (by omega)
  clear h0 hs hl he0 hlf hc hwi
  go_enter Tryz.func206, Tryz.ntmps206
  go_wp2_with fail
  refine hwc.mono ?_
  rintro e w1 ⟨rfl, h1, k1⟩
  go_wp2_with fail
  refine (Left_calls _ B g _ h1).mono ?_
  rintro e w2 ⟨rfl, hd⟩
  replace h1 := h1.drawn hd
  replace k1 : KT B [175] w w2 := k1.trans (.drawn hd)
  clear hd hwc
  go_wp2_with (go_at_call 36; refine (Err_calls _ B g _ h1).mono ?_; rintro e w' ⟨rfl, rfl⟩)
  obtain ⟨bv, ev, hg, hB, hb, he, _⟩ := id h1
  obtain ⟨A, c, rfl, hlc, hC⟩ := Kd.R_reads he
  have c2 := (blk_cell hg 2)
  simp at c2
  obtain ⟨i0, hi0, _, hsz0, _⟩ := info_parts info3
  have hcut := cut_to (P := Tryz.prog) 173 3 .i64 Tryz.underlying173 hi0 A r.ends.length c ((r.ends.length : Int) - 1) (by omega) (by omega) hlc
  rw [show ((r.ends.length : Int) - 1).toNat = r.ends.length - 1 by omega] at hcut
  refine start_ (n := 15) (S := fun w' => w'.cell? ⟨g, 2, none⟩ = some (.slice A r.ends.length c)) (ds := [14]) #[false, false, false, false, false, false, false, false, false, false, false, false, false, false, false] (by kernel_rfl) rfl rfl (c2) (fun hHeld => ?_)
  replace hg := blk_drew hg
  replace he := Kd.R_drew he
  replace hb := Kd.R_drew hb
  replace k1 := k1.drew
  generalize w2.drew = w3 at hg he hb k1 hHeld ⊢
  have f2 := (blk_frozen hg 2)
  have c2 := (blk_cell hg 2)
  simp at c2
  refine pure_ (i := 0) (N := (some 14)) (v := ?_) (a' := ?_) #[true, false, false, false, false, false, false, false, false, false, false, false, false, false, false] rfl rfl (by kernel_rfl) (fun _ _ _ h => h) (Or.inl ⟨by rfl, ?_⟩) ?_ ?_
  rotate_left
  · intro w'
    go_simp
    with_reducible rfl
  rotate_left
  · simp only [Act.put, List.setIfInBounds_toArray, List.set_cons_zero, List.set_cons_succ, i64_w, i32_w]
    rfl
  refine pure_ (i := 1) (N := (some 15)) (v := ?_) (a' := ?_) #[true, true, false, false, false, false, false, false, false, false, false, false, false, false, false] rfl rfl (by kernel_rfl) (fun _ _ _ h => h) (Or.inl ⟨by rfl, ?_⟩) ?_ ?_
  rotate_left
  · intro w'
    go_simp
    with_reducible rfl
  rotate_left
  · simp only [Act.put, List.setIfInBounds_toArray, List.set_cons_zero, List.set_cons_succ, i64_w, i32_w]
    rfl
  refine pure_ (i := 2) (N := (some 16)) (v := ?_) (a' := ?_) #[true, true, true, false, false, false, false, false, false, false, false, false, false, false, false] rfl rfl (by kernel_rfl) (fun _ _ _ h => h) (Or.inl ⟨by rfl, ?_⟩) ?_ ?_
  rotate_left
  · intro w'
    go_simp
    with_reducible rfl
  rotate_left
  · simp only [Act.put, List.setIfInBounds_toArray, List.set_cons_zero, List.set_cons_succ, i64_w, i32_w]
    rfl
  refine pure_ (i := 3) (N := (some 17)) (v := ?_) (a' := ?_) #[true, true, true, true, false, false, false, false, false, false, false, false, false, false, false] rfl rfl (by kernel_rfl) (fun _ _ _ h => h) (Or.inl ⟨by rfl, ?_⟩) ?_ ?_
  rotate_left
  · intro w'
    go_simp
    with_reducible rfl
  rotate_left
  · simp only [Act.put, List.setIfInBounds_toArray, List.set_cons_zero, List.set_cons_succ, i64_w, i32_w]
    rfl
  refine take_ (i := 4) (N := (some 18)) (v := ?_) (a' := ?_) #[true, true, true, true, true, false, false, false, false, false, false, false, false, false, false] rfl rfl (by kernel_rfl) (fun _ _ _ h => h) (Or.inl ⟨by rfl, ?_⟩) hHeld ?_ ?_
  rotate_left
  · rintro w' s0
    go_simp
    with_reducible rfl
  rotate_left
  · simp only [Act.put, List.setIfInBounds_toArray, List.set_cons_zero, List.set_cons_succ, i64_w, i32_w]
    rfl
  refine pure_ (i := 5) (N := (some 19)) (v := ?_) (a' := ?_) #[true, true, true, true, true, true, false, false, false, false, false, false, false, false, false] rfl rfl (by kernel_rfl) (fun _ _ _ h => h) (Or.inl ⟨by rfl, ?_⟩) ?_ ?_
  rotate_left
  · intro w'
    go_simp
    with_reducible rfl
  rotate_left
  · simp only [Act.put, List.setIfInBounds_toArray, List.set_cons_zero, List.set_cons_succ, i64_w, i32_w]
    rfl
  refine pure_ (i := 6) (N := (some 20)) (v := ?_) (a' := ?_) #[true, true, true, true, true, true, true, false, false, false, false, false, false, false, false] rfl rfl (by kernel_rfl) (fun _ _ _ h => h) (Or.inl ⟨by rfl, ?_⟩) ?_ ?_
  rotate_left
  · intro w'
    go_simp
    with_reducible rfl
  rotate_left
  · simp only [Act.put, List.setIfInBounds_toArray, List.set_cons_zero, List.set_cons_succ, i64_w, i32_w]
    rfl
  refine pure_ (i := 7) (N := (some 21)) (v := ?_) (a' := ?_) #[true, true, true, true, true, true, true, true, false, false, false, false, false, false, false] rfl rfl (by kernel_rfl) (fun _ _ _ h => h) (Or.inl ⟨by rfl, ?_⟩) ?_ ?_
  rotate_left
  · intro w'
    go_simp
    with_reducible rfl
  rotate_left
  · simp only [Act.put, List.setIfInBounds_toArray, List.set_cons_zero, List.set_cons_succ, i64_w, i32_w]
    rfl
  refine take_ (i := 8) (N := (some 22)) (v := ?_) (a' := ?_) #[true, true, true, true, true, true, true, true, true, false, false, false, false, false, false] rfl rfl (by kernel_rfl) (fun _ _ _ h => h) (Or.inl ⟨by rfl, ?_⟩) hHeld ?_ ?_
  rotate_left
  · rintro w' s0
    go_simp
    with_reducible rfl
  rotate_left
  · simp only [Act.put, List.setIfInBounds_toArray, List.set_cons_zero, List.set_cons_succ, i64_w, i32_w]
    rfl
  refine pure_ (i := 9) (N := (some 23)) (v := ?_) (a' := ?_) #[true, true, true, true, true, true, true, true, true, true, false, false, false, false, false] rfl rfl (by kernel_rfl) (fun _ _ _ h => h) (Or.inl ⟨by rfl, ?_⟩) ?_ ?_
  rotate_left
  · intro w'
    go_simp
    with_reducible rfl
  rotate_left
  · simp only [Act.put, List.setIfInBounds_toArray, List.set_cons_zero, List.set_cons_succ, i64_w, i32_w]
    rfl
  refine pure_ (i := 10) (N := (some 24)) (v := ?_) (a' := ?_) #[true, true, true, true, true, true, true, true, true, true, true, false, false, false, false] rfl rfl (by kernel_rfl) (fun _ _ _ h => h) (Or.inl ⟨by rfl, ?_⟩) ?_ ?_
  rotate_left
  · intro w'
    go_simp
    with_reducible rfl
  rotate_left
  · simp only [Act.put, List.setIfInBounds_toArray, List.set_cons_zero, List.set_cons_succ, i64_w, i32_w]
    rfl
  refine pure_ (i := 11) (N := (some 25)) (v := ?_) (a' := ?_) #[true, true, true, true, true, true, true, true, true, true, true, true, false, false, false] rfl rfl (by kernel_rfl) (fun _ _ _ h => h) (Or.inl ⟨by rfl, ?_⟩) ?_ ?_
  rotate_left
  · intro w'
    go_simp
    with_reducible rfl
  rotate_left
  · simp only [Act.put, List.setIfInBounds_toArray, List.set_cons_zero, List.set_cons_succ, i64_w, i32_w]
    rfl
  refine pure_ (i := 12) (N := (some 26)) (v := ?_) (a' := ?_) #[true, true, true, true, true, true, true, true, true, true, true, true, true, false, false] rfl rfl (by kernel_rfl) (fun _ _ _ h => h) (Or.inl ⟨by rfl, ?_⟩) ?_ ?_
  rotate_left
  · intro w'
    go_simp
    with_reducible rfl
  rotate_left
  · simp only [Act.put, List.setIfInBounds_toArray, List.set_cons_zero, List.set_cons_succ, i64_w, i32_w]
    rfl
  refine pure_ (i := 13) (N := (some 27)) (v := ?_) (a' := ?_) #[true, true, true, true, true, true, true, true, true, true, true, true, true, true, false] rfl rfl (by kernel_rfl) (fun _ _ _ h => h) (Or.inl ⟨by rfl, ?_⟩) ?_ ?_
  rotate_left
  · intro w'
    go_simp
    with_reducible rfl
  rotate_left
  · simp only [Act.put, List.setIfInBounds_toArray, List.set_cons_zero, List.set_cons_succ, i64_w, i32_w]
    rfl
  refine last_ (i := 14) (N := none) #[true, true, true, true, true, true, true, true, true, true, true, true, true, true, true] rfl rfl (by kernel_rfl) (by decide) (fun K hK => ?_)
  refine skip_ (w1 := ?_) (by rfl) rfl ?_ ?_
  rotate_left
  · go_simp
    with_reducible rfl
  refine hK.out _ _ ?_
  clear hK K
  refine done_ (by kernel_rfl) ?_
  go_end0
  refine ⟨rfl, ?_, ?_⟩
  · exact ⟨bv, _, blk_put hg 2 _ (by simp), hB, Kd.R_set hb hg (by decide) 2 _, Kd.R_set (Kd.R_take he (Nat.sub_le _ _)) hg (by decide) 2 _, ok2⟩
  · exact k1.setCell hB ⟨_, _, hg⟩ (by simp) _

theorem IsR.lower {w : World} {B B' g : Nat} {r : Rdr} (h : IsR w B g r) (hB : B' ≤ B) : IsR w B' g r := by
  obtain ⟨bv, ev, hg, hb, h1, h2, ok⟩ := h
  exact ⟨bv, ev, hg, Nat.le_trans hB hb, Kd.R_lower h1 hB, Kd.R_lower h2 hB, ok⟩
/-- What turns no reader. -/
theorem IsR.kt {w w' : World} {B B' g : Nat} {r : Rdr} {ts : List Nat} (h : IsR w B g r) (hk : KT B' ts w w') (h1 : 175 ∉ ts) (h2 : 5 ∉ ts) (h3 : 3 ∉ ts) : IsR w' B g r := by
  obtain ⟨bv, ev, hg, hb, hv, he, ok⟩ := h
  exact ⟨bv, ev, blk_kt hg hk h1, hb, R_kt hv hk (fun q hq => by rw [List.mem_singleton.1 hq]; exact h2), R_kt he hk (fun q hq => by rw [List.mem_singleton.1 hq]; exact h3), ok⟩

/-- A reader of bytes. -/
def Rdr.new (b : List Int) : Rdr := ⟨b, 0, [(b.length : Int)], 0⟩
theorem Rdr.new_ok (b : List Int) (hl : b.length ≤ 140737488351232) (hb : ∀ x, x ∈ b → 0 ≤ x ∧ x < 256) : (Rdr.new b).Ok :=
  ⟨hl, by simp [Rdr.new], Int.le_refl _, fun x hx => by
    rw [List.mem_singleton.1 hx]
    show (0 : Int) ≤ _ ∧ _
    exact ⟨Int.natCast_nonneg _, Int.le_refl _⟩, by simp [Rdr.new], by simp [Rdr.new], hb⟩

theorem New_calls (w : World) (A : Option Addr) (c : Nat) (xs : List Int) (hC : (Kd.int .u8).C w A xs.length xs) (hl : xs.length ≤ 140737488351232) (hb : ∀ x, x ∈ xs → 0 ≤ x ∧ x < 256) :
    Calls Tryz.prog 33 #[.slice A xs.length c] w fun e w' => ∃ g, e = .returned (.pointer (some ⟨g, 0, none⟩)) ∧ IsR w' w.heap.size g (Rdr.new xs) ∧ Below w.heap.size w w' := by
  have hok := Rdr.new_ok xs hl hb
  go_enter Tryz.func33, Tryz.ntmps33
  go_wp2_with fail
  refine (Clone_calls w w.heap.size A c xs (Nat.le_refl _) hC hl).mono ?_
  rintro e w1 ⟨v, rfl, hv, hb1⟩
  obtain ⟨A1, c1, rfl⟩ := Kd.R_slice hv
  go_wp2_with fail
  go_ret
  have hs := hb1.size
  have b2 : Below w1.heap.size w1 (w1.alloc (.cells #[.int .i64 (xs.length : Int)] 3)) := below_alloc (Below.refl _ _) _
  have hr := World.ownsRow_lit (base := w.heap.size) (e := 3) (size := 1) w1 #[.int .i64 (xs.length : Int)] 1 hs (by simp [maxLen]) (by simp)
  have hR : (Kd.int .i64).R 3 (w1.alloc (.cells #[.int .i64 (xs.length : Int)] 3)) w.heap.size (fun _ => True) (.slice (some ⟨w1.heap.size, 0, none⟩) 1 1) [(xs.length : Int)] := by
    refine ⟨fun _ _ => trivial, [.int .i64 (xs.length : Int)], (show World.ownsRow _ _ _ 1 _ _ _ by simpa using hr), ⟨rfl, fun j p hj => ?_⟩⟩
    rcases j with _ | j
    · simp at hj
      subst hj
      rfl
    · simp at hj
  refine ⟨w1.heap.size + 1, rfl, ⟨.slice A1 xs.length c1, .slice (some ⟨w1.heap.size, 0, none⟩) 1 1, ?_, by omega, Kd.R_alloc (Kd.R_alloc hv _) _, Kd.R_alloc hR _, hok⟩, hb1.trans ((b2.mono hs).trans ((below_alloc (Below.refl _ _) _).mono (by simp; omega)))⟩
  have h := blk_new (w1.alloc (.cells #[.int .i64 (xs.length : Int)] 3)) (.cells #[.slice A1 xs.length c1, .int .i64 0, .slice (some ⟨w1.heap.size, 0, none⟩) 1 1, .int .i64 0] 175)
  rw [show (w1.alloc (.cells #[.int .i64 (xs.length : Int)] 3)).heap.size = w1.heap.size + 1 by simp] at h
  exact h

/-- The capabilities of one parameter: the reader behind them, and the list. -/
def capsRead.l1 : Nat → Rdr → List PA.S152 → Option (Rdr × List PA.S152)
  | 0, _, _ => none
  | k + 1, r, l =>
    if 0 < r.left then
      if l.length < 4398046511104 then
        capsRead.l1 k (((r.took 1).took 1).took (acc8 ((r.took 1).taken 1))) (l ++ [⟨acc8 (r.taken 1), ((r.took 1).took 1).taken (acc8 ((r.took 1).taken 1))⟩])
      else none
    else some (r, l)
/-- The parameter's block is opened. -/
def capsRead.op (r : Rdr) : Rdr := ((r.took 1).took 1).opened (acc8 ((r.took 1).taken 1))
/-- Parameter by parameter. -/
def capsRead.l0 : Nat → Rdr → List PA.S152 → Option (List PA.S152 × Int × Int)
  | 0, _, _ => none
  | k + 1, r, l =>
    if 0 < r.left then
      if ((r.took 1).took 1).ends.length < 1000000 then
        if (capsRead.op r).e = 0 ∧ acc8 (r.taken 1) ≠ 2 then some ([], 2, 4)
        else (capsRead.l1 k (capsRead.op r) l).bind fun p => capsRead.l0 k p.1.closed p.2
      else none
    else if r.e = 0 then some (l, 0, 0) else some ([], 2, 0)
/-- caps.Read. -/
def capsRead.f (k : Nat) (b : List Int) : Option (List PA.S152 × Int × Int) := capsRead.l0 k (Rdr.new b) []
end Go.Proofs.YtbphidmnkbfchaaGreatDoor
