/-
  The walks of a writer's methods.
-/
import Derived.Test.YtbphidmnkbfchaaGreatDoorR0
import Derived.StillTailTactics
import Derived.BigQuiet
namespace Go.Proofs.YtbphidmnkbfchaaGreatDoor
open Go.RowKit Go.Proofs.YtbphidmnkbfchaaGreatDoorW.PrintWords Go.Proofs.YtbphidmnkbfchaaGreatDoorW.PrintLast Go.Proofs.YtbphidmnkbfchaaGreatDoorW.PrintMore
set_option linter.unusedVariables false
set_option linter.unusedSimpArgs false

/-- A writer's fields (made by Lay). -/
structure Wtr where
  b : List Int
  holds : List PA.S170
  e : Int
/-- What a writer may turn. -/
def wts : List Nat := [167, 170, 5]
/-- Block g is the writer x, all of whose memory is from B on. -/
def IsW (w : World) (B g : Nat) (x : Wtr) : Prop :=
  ∃ bv hv, w.heap[g]? = some (.cells #[bv, hv, .int .i64 x.e, .bool true] 167 (0, 0)) ∧ B ≤ g ∧
    (Kd.int .u8).R 5 w B (fun _ => True) bv x.b ∧ PA.k170.R 170 w B (fun _ => True) hv x.holds
theorem IsW.ty {w : World} {B g : Nat} {x : Wtr} (h : IsW w B g x) : TyB w g 167 := by
  obtain ⟨bv, hv, hg, _⟩ := h
  exact ⟨_, _, hg⟩
theorem IsW.ge {w : World} {B g : Nat} {x : Wtr} (h : IsW w B g x) : B ≤ g := by
  obtain ⟨bv, hv, hg, hB, _⟩ := h
  exact hB
theorem IsW.drawn {w w' : World} {B g : Nat} {x : Wtr} (h : IsW w B g x) (hd : Drawn0 w w') : IsW w' B g x := by
  obtain ⟨n, rfl⟩ := hd.out
  exact h
theorem IsW.below {w w' : World} {B g : Nat} {x : Wtr} (h : IsW w B g x) (hd : Below w.heap.size w w') : IsW w' B g x := by
  obtain ⟨bv, ev, hg, hB, hb, he⟩ := h
  exact ⟨bv, ev, blk_below hg hd, hB, Kd.R_below hb hd, Kd.R_below he hd⟩
theorem IsW.lower {w : World} {B B' g : Nat} {x : Wtr} (h : IsW w B g x) (hB : B' ≤ B) : IsW w B' g x := by
  obtain ⟨bv, ev, hg, hb, h1, h2⟩ := h
  exact ⟨bv, ev, hg, Nat.le_trans hB hb, Kd.R_lower h1 hB, Kd.R_lower h2 hB⟩
theorem IsW.lt {w : World} {B g : Nat} {x : Wtr} (h : IsW w B g x) : B < w.heap.size := by
  obtain ⟨bv, ev, hg, hb, h1, h2⟩ := h
  exact Nat.lt_of_le_of_lt hb (blk_lt hg)
theorem IsW.set_e {w : World} {B g : Nat} {x : Wtr} (h : IsW w B g x) (e : Int) : IsW (w.setCell ⟨g, 2, none⟩ (.int .i64 e)) B g { x with e := e } := by
  obtain ⟨bv, hv, hg, hB, hb, hh⟩ := h
  exact ⟨bv, hv, blk_put hg 2 _ (by simp), hB, Kd.R_set hb hg (by decide) 2 _, Kd.R_set hh hg (by decide) 2 _⟩
theorem IsW.kset {w : World} {B g : Nat} {x : Wtr} (h : IsW w B g x) (i : Nat) (u : Value) : KT B wts w (w.setCell ⟨g, i, none⟩ u) :=
  (KT.refl _ _ _).setCell h.ge h.ty (by simp [wts]) _

set_option maxHeartbeats 400000 in
theorem Lay_calls (w : World) :
    Calls Tryz.prog 26 #[] w fun e w' => e = .returned (.pointer (some ⟨w.heap.size, 0, none⟩)) ∧ IsW w' w.heap.size w.heap.size ⟨[], [], 0⟩ ∧ Below w.heap.size w w' := by
  go_enter Tryz.func26, Tryz.ntmps26
  go_wp2
  go_ret
  exact ⟨rfl, ⟨_, _, blk_new _ _, Nat.le_refl _, Kd.R_nil _ _ _ _ _, Kd.R_nil _ _ _ _ _⟩, below_alloc (Below.refl _ _) _⟩

set_option maxHeartbeats 400000 in
theorem WErr_calls (w : World) (B g : Nat) (x : Wtr) (h : IsW w B g x) :
    Calls Tryz.prog 77 #[.pointer (some ⟨g, 0, none⟩)] w fun e w' => e = .returned (.int .i64 x.e) ∧ w = w' := by
  obtain ⟨bv, hv, hg, hB, hb, hh⟩ := h
  have c2 := (blk_cell hg 2)
  have c3 := (blk_cell hg 3)
  simp at c2 c3
  go_enter Tryz.func77, Tryz.ntmps77
  go_wp2
  go_ret
  exact ⟨rfl, rfl⟩

set_option maxHeartbeats 400000 in
theorem WLen_calls (w : World) (B g : Nat) (x : Wtr) (h : IsW w B g x) :
    Calls Tryz.prog 176 #[.pointer (some ⟨g, 0, none⟩)] w fun e w' => e = .returned (.int .i64 (x.b.length : Int)) ∧ w = w' := by
  obtain ⟨bv, hv, hg, hB, hb, hh⟩ := h
  obtain ⟨A, c, rfl, hl, hC⟩ := Kd.R_reads hb
  have c0 := (blk_cell hg 0)
  simp at c0
  go_enter Tryz.func176, Tryz.ntmps176
  go_wp2
  go_ret
  exact ⟨rfl, rfl⟩

/-- An error is noted, if something is so. -/
def Wtr.fails (x : Wtr) (is : Bool) (e : Int) : Wtr := if x.e = 0 ∧ is = true then { x with e := e } else x

set_option maxHeartbeats 800000 in
theorem fails_calls (w : World) (B g : Nat) (x : Wtr) (is : Bool) (e : Int) (h : IsW w B g x) :
    Calls Tryz.prog 76 #[.pointer (some ⟨g, 0, none⟩), .bool is, .int .i64 e] w fun en w' => en = .returned (.bool ((x.fails is e).e != 0)) ∧ IsW w' B g (x.fails is e) ∧ KT B wts w w' := by
  by_cases h0 : x.e = 0
  · have n0 : (x.e == 0) = true := by simp [h0]
    cases is with
    | true =>
      have hs : IsW (w.setCell ⟨g, 2, none⟩ (.int .i64 e)) B g (x.fails true e) := by rw [Wtr.fails, if_pos ⟨h0, rfl⟩]; exact h.set_e e
      have hk := h.kset 2 (.int .i64 e)
      obtain ⟨bv, hv, hg, _⟩ := id h
      have c2 := (blk_cell hg 2)
      have f2 := (blk_frozen hg 2)
      simp at c2
      clear h0 hg
      go_enter Tryz.func76, Tryz.ntmps76
      go_wp2_with fail
      refine (WErr_calls _ B g x h).mono ?_
      rintro en w' ⟨rfl, rfl⟩
      go_wp2_with fail
      refine (WErr_calls _ B g _ hs).mono ?_
      rintro en w' ⟨rfl, rfl⟩
      go_wp2
      go_ret
      exact ⟨rfl, hs, hk⟩
    | false =>
      have hs : x.fails false e = x := if_neg (by simp)
      rw [hs]
      clear h0 hs
      go_enter Tryz.func76, Tryz.ntmps76
      go_wp2_with fail
      refine (WErr_calls _ B g x h).mono ?_
      rintro en w' ⟨rfl, rfl⟩
      go_wp2_with fail
      refine (WErr_calls _ B g _ h).mono ?_
      rintro en w' ⟨rfl, rfl⟩
      go_wp2
      go_ret
      exact ⟨rfl, h, KT.refl _ _ _⟩
  · have n0 : (x.e == 0) = false := by simp [h0]
    have hs : x.fails is e = x := if_neg (fun h => h0 h.1)
    rw [hs]
    clear h0 hs
    go_enter Tryz.func76, Tryz.ntmps76
    go_wp2_with fail
    refine (WErr_calls _ B g x h).mono ?_
    rintro en w' ⟨rfl, rfl⟩
    go_wp2_with fail
    refine (WErr_calls _ B g _ h).mono ?_
    rintro en w' ⟨rfl, rfl⟩
    go_wp2
    go_ret
    exact ⟨rfl, h, KT.refl _ _ _⟩

/-- Bytes are laid. -/
def Wtr.bytes (x : Wtr) (l : List Int) : Wtr := if x.e = 0 then { x with b := x.b ++ l } else x

set_option maxHeartbeats 800000 in
set_option maxRecDepth 100000 in
theorem WByte_calls (w : World) (B g : Nat) (x : Wtr) (h : IsW w B g x) (A : Option Addr) (c : Nat) (ys : List Int) (hC : (Kd.int .u8).C w A ys.length ys) (hl : x.b.length + ys.length ≤ 140737488351232) :
    Calls Tryz.prog 28 #[.pointer (some ⟨g, 0, none⟩), .slice A ys.length c] w fun e w' => e = .returned (.pointer (some ⟨g, 0, none⟩)) ∧ IsW w' B g (x.bytes ys) ∧ KT B wts w w' := by
  by_cases h0 : x.e = 0
  · have n0 : (x.e == 0) = true := by simp [h0]
    have hr : x.bytes ys = { x with b := x.b ++ ys } := if_pos h0
    rw [hr]
    clear h0 hr
    go_enter Tryz.func28, Tryz.ntmps28
    go_wp2_with fail
    refine (WErr_calls _ B g x h).mono ?_
    rintro en w' ⟨rfl, rfl⟩
    have hBs := h.lt
    obtain ⟨bv, hv, hg, hB, hb, hh⟩ := h
    obtain ⟨A1, c1, rfl, hl1, hC1⟩ := Kd.R_reads hb
    have c0 := (blk_cell hg 0)
    simp at c0
    go_wp2_with (at_builtin; refine Kd.R_append_rows (Kd.int .u8) (w0 := w) B rfl (.tmp 12) (.tmp 13) 42 5 (.int .u8 0) 1 rfl Tryz.underlying42 info5 rfl (by decide) (by decide) (.slice A1 x.b.length c1) x.b ys A ys.length c (fun _ => True) (fun _ => False) rfl rfl hb hC (fun _ _ h => h) (fun _ h => h.elim) (fun _ _ => trivial) (Below.refl _ _) (by omega) (by omega) ?_)
    intro v1 w1 hR1 hb1 hg1 _
    obtain ⟨A2, c2, rfl⟩ := Kd.R_slice hR1
    have hgx := blk_grown hg hg1 (Kd.R_ne hb hg (by decide))
    have hhx := Kd.R_over hh hb (by decide) hg1
    have kx : KT B wts w w1 := KT.grown (KT.refl _ _ _) hg1 (fun k hk => ⟨Kd.R_base hb k hk, 5, by simp [wts], R_tyB hb k hk⟩)
    have c0' := (blk_cell hgx 0)
    have f0 := (blk_frozen hgx 0)
    simp at c0'
    clear c0 hg hb hh hg1 hC hC1
    go_wp2
    go_ret
    refine ⟨rfl, ⟨_, hv, blk_put hgx 0 _ (by simp), hB, Kd.R_set hR1 hgx (by decide) 0 _, Kd.R_set hhx hgx (by decide) 0 _⟩, kx.setCell hB ⟨_, _, hgx⟩ (by simp [wts]) _⟩
  · have n0 : (x.e == 0) = false := by simp [h0]
    have hr : x.bytes ys = x := if_neg h0
    rw [hr]
    clear h0 hr
    go_enter Tryz.func28, Tryz.ntmps28
    go_wp2_with fail
    refine (WErr_calls _ B g x h).mono ?_
    rintro en w' ⟨rfl, rfl⟩
    go_wp2
    go_ret
    exact ⟨rfl, h, KT.refl _ _ _⟩

/-- The bytes of a number of two bytes. -/
def two (n : Int) : List Int := [n / 256, n % 256]
def twos (l : List Int) : List Int := l.flatMap two
theorem twos_len (l : List Int) : (twos l).length = 2 * l.length := by
  induction l with
  | nil => rfl
  | cons a l ih => simp [twos, two] at ih ⊢; omega
theorem twos_snoc (l : List Int) (n : Int) : twos (l ++ [n]) = twos l ++ two n := by simp [twos]
theorem Wtr.bytes_bytes (x : Wtr) (l l' : List Int) : (x.bytes l).bytes l' = x.bytes (l ++ l') := by
  unfold Wtr.bytes
  by_cases h : x.e = 0
  · rw [if_pos h, if_pos h, if_pos h, List.append_assoc]
  · rw [if_neg h, if_neg h]
    rw [if_neg h]
theorem Wtr.bytes_nil (x : Wtr) : x.bytes [] = x := by
  unfold Wtr.bytes
  split
  · simp
  · rfl
theorem Wtr.bytes_len (x : Wtr) (l : List Int) : (x.bytes l).b.length ≤ x.b.length + l.length := by
  unfold Wtr.bytes
  split
  · simp
  · omega

/-- A literal of bytes in its new block. -/
theorem lit5 (w : World) (xs : List Int) (hl : xs.length ≤ 140737488351232) : (Kd.int .u8).C (w.alloc (.cells (nums .u8 xs).toArray 5)) (some ⟨w.heap.size, 0, none⟩) xs.length xs := by
  have h := own_lit w 0 5 .u8 xs (Nat.zero_le _) (by omega)
  obtain ⟨A, c, he, hr⟩ := own_reads h
  injection he with h1 h2 h3
  subst h1
  exact Kd.C_of_reads (enc := Value.int .u8) (d := (0 : Int)) hr


set_option maxHeartbeats 1600000 in
set_option maxRecDepth 100000 in
theorem WTwo_calls (w : World) (B g : Nat) (x : Wtr) (h : IsW w B g x) (A : Option Addr) (c : Nat) (ys : List Int) (hC : (Kd.int .u16).C w A ys.length ys) (hby : ∀ y, y ∈ ys → 0 ≤ y ∧ y < 65536) (hl : x.b.length + 2 * ys.length ≤ 140737488351232)
    (hfar : ∀ w', KT B wts w w' → (Kd.int .u16).C w' A ys.length ys) :
    Calls Tryz.prog 65 #[.pointer (some ⟨g, 0, none⟩), .slice A ys.length c] w fun e w' => e = .returned (.pointer (some ⟨g, 0, none⟩)) ∧ IsW w' B g (x.bytes (twos ys)) ∧ KT B wts w w' := by
  have HB := Aside0.mk hby
  have HF := Aside0.mk hfar
  clear hby hfar
  have h0 : IsW w B g (x.bytes (twos (ys.take 0))) := by rw [List.take_zero, show twos [] = [] from rfl, Wtr.bytes_nil]; exact h
  go_enter Tryz.func65, Tryz.ntmps65
  go_wp2_with fail
  go_loopw [6, 9] (fun a i w' => ∃ k : Nat, k ≤ ys.length ∧ i = .int .i64 k ∧ IsW w' B g (x.bytes (twos (ys.take k))) ∧ KT B wts w w') (fun _ i _ => ys.length - (intOf i).toNat)
  case atStart => exact ⟨0, Nat.zero_le _, rfl, h0, KT.refl _ _ _⟩
  case round =>
    clear h0
    obtain ⟨k, hk, rfl, hW, hk1⟩ := hrel
    by_cases hlt : k < ys.length
    · obtain ⟨ad, rfl, hcell⟩ := Kd.at_int (HF.out _ hk1) (k : Int) (by omega) (by omega)
      rw [Int.toNat_natCast] at hcell
      have hx : rd ys (k : Int) = ys[k] := by rw [rd, Int.toNat_natCast, List.getD_eq_getElem?_getD, List.getElem?_eq_getElem hlt]; rfl
      have hs : twos (ys.take (k + 1)) = twos (ys.take k) ++ two ys[k] := by
        rw [List.take_succ_eq_append_getElem hlt, twos_snoc]
      have hr := HB.out _ (List.getElem_mem hlt)
      rw [hx] at hcell
      obtain ⟨n, hn⟩ : ∃ n, ys[k] = n := ⟨_, rfl⟩
      rw [hn] at hcell hs hr
      have HS := Aside0.mk hs
      clear hs hx hn
      go_wp2_with fail
      have hb := WByte_calls (wr.alloc (.cells #[.int .u8 (n / 256), .int .u8 (n % 256)] 5)) B g (x.bytes (twos (ys.take k))) (hW.below (below_alloc (Below.refl _ _) _)) (some ⟨wr.heap.size, 0, none⟩) 2 [n / 256, n % 256] (lit5 wr [n / 256, n % 256] (by simp)) (by
        have h1 := x.bytes_len (twos (ys.take k))
        rw [twos_len, List.length_take] at h1
        have h2 : [n / 256, n % 256].length = 2 := rfl
        omega)
      rw [Wtr.bytes_bytes, show [n / 256, n % 256] = two n from rfl, ← HS.out] at hb
      refine hb.mono ?_
      rintro e w1 ⟨rfl, hW1, hk2⟩
      have hK := (hk1.alloc (.cells #[.int .u8 (n / 256), .int .u8 (n % 256)] 5)).trans hk2
      clear hb hcell
      go_wp2
      exact ⟨⟨k + 1, by omega, by simp, hW1, hK⟩, by simp [intOf]; omega⟩
    · have hke : k = ys.length := by omega
      subst hke
      rw [List.take_length] at hW
      go_wp2
      go_ret
      exact ⟨rfl, hW, hk1⟩
/-- A list of numbers, just made. -/
theorem litR (w : World) (e : Nat) (k : IntKind) (xs : List Int) (hl : xs.length ≤ 140737488351232) : (Kd.int k).R e (w.alloc (.cells (nums k xs).toArray e)) w.heap.size (fun _ => True) (.slice (some ⟨w.heap.size, 0, none⟩) xs.length xs.length) xs :=
  Kd.R_of_own (own_lit w w.heap.size e k xs (Nat.le_refl _) (by omega)) (fun _ _ => trivial)
theorem litC {w : World} {e B : Nat} {k : IntKind} {g n c : Nat} {xs : List Int} {ok : Nat → Prop} (h : (Kd.int k).R e w B ok (.slice (some ⟨g, 0, none⟩) n c) xs) : (Kd.int k).C w (some ⟨g, 0, none⟩) n xs := by
  obtain ⟨A, c', he, hl, hC⟩ := Kd.R_reads h
  injection he with h1 h2 h3
  subst h1 h2
  exact hC

/-- The bytes of a number of four bytes. -/
def four (n : Int) : List Int := twos [n / 65536, n % 65536]
def fours (l : List Int) : List Int := l.flatMap four
theorem fours_len (l : List Int) : (fours l).length = 4 * l.length := by
  induction l with
  | nil => rfl
  | cons a l ih => simp [fours, four, twos, two] at ih ⊢; omega
theorem fours_snoc (l : List Int) (n : Int) : fours (l ++ [n]) = fours l ++ four n := by simp [fours]

set_option maxHeartbeats 1600000 in
set_option maxRecDepth 100000 in
theorem WFour_calls (w : World) (B g : Nat) (x : Wtr) (h : IsW w B g x) (A : Option Addr) (c : Nat) (ys : List Int) (hC : (Kd.int .u32).C w A ys.length ys) (hby : ∀ y, y ∈ ys → 0 ≤ y ∧ y < 4294967296) (hl : x.b.length + 4 * ys.length ≤ 140737488351232)
    (hfar : ∀ w', KT B wts w w' → (Kd.int .u32).C w' A ys.length ys) :
    Calls Tryz.prog 115 #[.pointer (some ⟨g, 0, none⟩), .slice A ys.length c] w fun e w' => e = .returned (.pointer (some ⟨g, 0, none⟩)) ∧ IsW w' B g (x.bytes (fours ys)) ∧ KT B wts w w' := by
  have HB := Aside0.mk hby
  have HF := Aside0.mk hfar
  clear hby hfar
  have h0 : IsW w B g (x.bytes (fours (ys.take 0))) := by rw [List.take_zero, show fours [] = [] from rfl, Wtr.bytes_nil]; exact h
  go_enter Tryz.func115, Tryz.ntmps115
  go_wp2_with fail
  go_loopw [6, 9] (fun a i w' => ∃ k : Nat, k ≤ ys.length ∧ i = .int .i64 k ∧ IsW w' B g (x.bytes (fours (ys.take k))) ∧ KT B wts w w') (fun _ i _ => ys.length - (intOf i).toNat)
  case atStart => exact ⟨0, Nat.zero_le _, rfl, h0, KT.refl _ _ _⟩
  case round =>
    clear h0
    obtain ⟨k, hk, rfl, hW, hk1⟩ := hrel
    by_cases hlt : k < ys.length
    · obtain ⟨ad, rfl, hcell⟩ := Kd.at_int (HF.out _ hk1) (k : Int) (by omega) (by omega)
      rw [Int.toNat_natCast] at hcell
      have hx : rd ys (k : Int) = ys[k] := by rw [rd, Int.toNat_natCast, List.getD_eq_getElem?_getD, List.getElem?_eq_getElem hlt]; rfl
      have hs : fours (ys.take (k + 1)) = fours (ys.take k) ++ four ys[k] := by
        rw [List.take_succ_eq_append_getElem hlt, fours_snoc]
      have hr := HB.out _ (List.getElem_mem hlt)
      rw [hx] at hcell
      obtain ⟨n, hn⟩ : ∃ n, ys[k] = n := ⟨_, rfl⟩
      rw [hn] at hcell hs hr
      have HS := Aside0.mk hs
      clear hs hx hn
      go_wp2_with fail
      have hR := litR wr 22 .u16 [n / 65536, n % 65536] (by simp)
      have hb := WTwo_calls (wr.alloc (.cells #[.int .u16 (n / 65536), .int .u16 (n % 65536)] 22)) B g (x.bytes (fours (ys.take k))) (hW.below (below_alloc (Below.refl _ _) _)) (some ⟨wr.heap.size, 0, none⟩) 2 [n / 65536, n % 65536] (litC hR) (by
        intro y hy
        simp at hy
        omega) (by
        have h1 := x.bytes_len (fours (ys.take k))
        rw [fours_len, List.length_take] at h1
        have h2 : [n / 65536, n % 65536].length = 2 := rfl
        omega) (fun w' hk => litC (R_kt hR hk (by decide)))
      rw [Wtr.bytes_bytes, show twos [n / 65536, n % 65536] = four n from rfl, ← HS.out] at hb
      refine hb.mono ?_
      rintro e w1 ⟨rfl, hW1, hk2⟩
      have hK := (hk1.alloc (.cells #[.int .u16 (n / 65536), .int .u16 (n % 65536)] 22)).trans hk2
      clear hb hcell hR
      go_wp2
      exact ⟨⟨k + 1, by omega, by simp, hW1, hK⟩, by simp [intOf]; omega⟩
    · have hke : k = ys.length := by omega
      subst hke
      rw [List.take_length] at hW
      go_wp2
      go_ret
      exact ⟨rfl, hW, hk1⟩

theorem info170 : (Tryz.prog.info? 170).map (fun i => (i.zero, i.size, i.bytes)) = some (some (.agg #[.int .i64 0, .int .i64 0]), 2, 16) := by kernel_rfl

/-- A place is held for a number. -/
def Wtr.hold (x : Wtr) (n : Nat) : Wtr := if x.e = 0 then { x with b := x.b ++ List.replicate n 0, holds := x.holds ++ [⟨x.b.length, n⟩] } else x

set_option maxHeartbeats 1600000 in
set_option maxRecDepth 100000 in
theorem Hold1_calls (w : World) (B g : Nat) (x : Wtr) (h : IsW w B g x) (hl : x.b.length + 2 ≤ 140737488351232) (hl2 : x.holds.length < 4398046511104) :
    Calls Tryz.prog 27 #[.pointer (some ⟨g, 0, none⟩), .int .i64 1] w fun e w' => e = .returned (.pointer (some ⟨g, 0, none⟩)) ∧ IsW w' B g (x.hold 1) ∧ KT B wts w w' := by
  have hc := fails_calls w B g x false 1 h
  rw [show x.fails false 1 = x from if_neg (by simp)] at hc
  by_cases h0 : x.e = 0
  · have n0 : (x.e != 0) = false := by simp [h0]
    have hr : x.hold 1 = { x with b := x.b ++ List.replicate 1 0, holds := x.holds ++ [⟨x.b.length, 1⟩] } := if_pos h0
    rw [hr]
    clear hr
    go_enter Tryz.func27, Tryz.ntmps27
    go_wp2_with fail
    refine hc.mono ?_
    rintro e w1 ⟨rfl, h1, k1⟩
    obtain ⟨bv, hv, hg, hB, hb, hh⟩ := id h1
    obtain ⟨A, c, rfl, hlc, hC⟩ := Kd.R_reads hb
    obtain ⟨A1, c1, rfl, hlc1, hC1⟩ := Kd.R_reads hh
    have c0 := (blk_cell hg 0)
    have c1' := (blk_cell hg 1)
    simp at c0 c1'
    clear hc h hC hC1 h1
    go_wp2_with fail
    refine start_ (n := 17) (S := fun w' => w'.cell? ⟨g, 0, none⟩ = some (.slice A x.b.length c) ∧ w'.cell? ⟨g, 1, none⟩ = some (.slice A1 x.holds.length c1)) (ds := [13, 16]) #[false, false, false, false, false, false, false, false, false, false, false, false, false, false, false, false, false] (by kernel_rfl) rfl rfl (⟨c0, c1'⟩) (fun hHeld => ?_)
    replace hg := blk_drew hg
    replace hb := Kd.R_drew hb
    replace hh := Kd.R_drew hh
    replace k1 := k1.drew
    generalize w1.drew = w2 at *
    refine pure_ (i := 0) (N := (some 14)) (v := ?_) (a' := ?_) #[true, false, false, false, false, false, false, false, false, false, false, false, false, false, false, false, false] rfl rfl (by kernel_rfl) (fun _ _ _ h => h) (Or.inl ⟨by rfl, ?_⟩) ?_ ?_
    rotate_left
    · intro w'
      go_simp
      with_reducible rfl
    rotate_left
    · simp only [Act.put, List.setIfInBounds_toArray, List.set_cons_zero, List.set_cons_succ, i64_w, i32_w]
      rfl
    refine pure_ (i := 1) (N := (some 15)) (v := ?_) (a' := ?_) #[true, true, false, false, false, false, false, false, false, false, false, false, false, false, false, false, false] rfl rfl (by kernel_rfl) (fun _ _ _ h => h) (Or.inl ⟨by rfl, ?_⟩) ?_ ?_
    rotate_left
    · intro w'
      go_simp
      with_reducible rfl
    rotate_left
    · simp only [Act.put, List.setIfInBounds_toArray, List.set_cons_zero, List.set_cons_succ, i64_w, i32_w]
      rfl
    refine pure_ (i := 2) (N := (some 16)) (v := ?_) (a' := ?_) #[true, true, true, false, false, false, false, false, false, false, false, false, false, false, false, false, false] rfl rfl (by kernel_rfl) (fun _ _ _ h => h) (Or.inl ⟨by rfl, ?_⟩) ?_ ?_
    rotate_left
    · intro w'
      go_simp
      with_reducible rfl
    rotate_left
    · simp only [Act.put, List.setIfInBounds_toArray, List.set_cons_zero, List.set_cons_succ, i64_w, i32_w]
      rfl
    refine pure_ (i := 3) (N := (some 17)) (v := ?_) (a' := ?_) #[true, true, true, true, false, false, false, false, false, false, false, false, false, false, false, false, false] rfl rfl (by kernel_rfl) (fun _ _ _ h => h) (Or.inl ⟨by rfl, ?_⟩) ?_ ?_
    rotate_left
    · intro w'
      go_simp
      with_reducible rfl
    rotate_left
    · simp only [Act.put, List.setIfInBounds_toArray, List.set_cons_zero, List.set_cons_succ, i64_w, i32_w]
      rfl
    refine take_ (i := 4) (N := (some 18)) (v := ?_) (a' := ?_) #[true, true, true, true, true, false, false, false, false, false, false, false, false, false, false, false, false] rfl rfl (by kernel_rfl) (fun _ _ _ h => h) (Or.inl ⟨by rfl, ?_⟩) hHeld ?_ ?_
    rotate_left
    · rintro w' ⟨s0, s1⟩
      go_simp
      with_reducible rfl
    rotate_left
    · simp only [Act.put, List.setIfInBounds_toArray, List.set_cons_zero, List.set_cons_succ, i64_w, i32_w]
      rfl
    refine pure_ (i := 5) (N := (some 19)) (v := ?_) (a' := ?_) #[true, true, true, true, true, true, false, false, false, false, false, false, false, false, false, false, false] rfl rfl (by kernel_rfl) (fun _ _ _ h => h) (Or.inl ⟨by rfl, ?_⟩) ?_ ?_
    rotate_left
    · intro w'
      go_simp
      with_reducible rfl
    rotate_left
    · simp only [Act.put, List.setIfInBounds_toArray, List.set_cons_zero, List.set_cons_succ, i64_w, i32_w]
      rfl
    refine pure_ (i := 6) (N := (some 20)) (v := ?_) (a' := ?_) #[true, true, true, true, true, true, true, false, false, false, false, false, false, false, false, false, false] rfl rfl (by kernel_rfl) (fun _ _ _ h => h) (Or.inl ⟨by rfl, ?_⟩) ?_ ?_
    rotate_left
    · intro w'
      go_simp
      with_reducible rfl
    rotate_left
    · simp only [Act.put, List.setIfInBounds_toArray, List.set_cons_zero, List.set_cons_succ, i64_w, i32_w]
      rfl
    refine pure_ (i := 7) (N := (some 21)) (v := ?_) (a' := ?_) #[true, true, true, true, true, true, true, true, false, false, false, false, false, false, false, false, false] rfl rfl (by kernel_rfl) (fun _ _ _ h => h) (Or.inl ⟨by rfl, ?_⟩) ?_ ?_
    rotate_left
    · intro w'
      go_simp
      with_reducible rfl
    rotate_left
    · simp only [Act.put, List.setIfInBounds_toArray, List.set_cons_zero, List.set_cons_succ, i64_w, i32_w]
      rfl
    refine take_ (i := 8) (N := (some 22)) (v := ?_) (a' := ?_) #[true, true, true, true, true, true, true, true, true, false, false, false, false, false, false, false, false] rfl rfl (by kernel_rfl) (fun _ _ _ h => h) (Or.inl ⟨by rfl, ?_⟩) hHeld ?_ ?_
    rotate_left
    · rintro w' ⟨s0, s1⟩
      go_simp
      with_reducible rfl
    rotate_left
    · simp only [Act.put, List.setIfInBounds_toArray, List.set_cons_zero, List.set_cons_succ, i64_w, i32_w]
      rfl
    refine pure_ (i := 9) (N := (some 23)) (v := ?_) (a' := ?_) #[true, true, true, true, true, true, true, true, true, true, false, false, false, false, false, false, false] rfl rfl (by kernel_rfl) (fun _ _ _ h => h) (Or.inl ⟨by rfl, ?_⟩) ?_ ?_
    rotate_left
    · intro w'
      go_simp
      with_reducible rfl
    rotate_left
    · simp only [Act.put, List.setIfInBounds_toArray, List.set_cons_zero, List.set_cons_succ, i64_w, i32_w]
      rfl
    refine pure_ (i := 10) (N := (some 24)) (v := ?_) (a' := ?_) #[true, true, true, true, true, true, true, true, true, true, true, false, false, false, false, false, false] rfl rfl (by kernel_rfl) (fun _ _ _ h => h) (Or.inl ⟨by rfl, ?_⟩) ?_ ?_
    rotate_left
    · intro w'
      go_simp
      with_reducible rfl
    rotate_left
    · simp only [Act.put, List.setIfInBounds_toArray, List.set_cons_zero, List.set_cons_succ, i64_w, i32_w]
      rfl
    refine pure_ (i := 11) (N := (some 25)) (v := ?_) (a' := ?_) #[true, true, true, true, true, true, true, true, true, true, true, true, false, false, false, false, false] rfl rfl (by kernel_rfl) (fun _ _ _ h => h) (Or.inl ⟨by rfl, ?_⟩) ?_ ?_
    rotate_left
    · intro w'
      go_simp
      with_reducible rfl
    rotate_left
    · simp only [Act.put, List.setIfInBounds_toArray, List.set_cons_zero, List.set_cons_succ, i64_w, i32_w]
      rfl
    refine one_ (i := 12) (N := (some 26)) #[true, true, true, true, true, true, true, true, true, true, true, true, true, false, false, false, false] rfl rfl (by kernel_rfl) (by decide) (fun K hK => ?_)
    refine value_ (w1 := ?_) (v := ?_) (by rfl) rfl ?_ ?_
    rotate_left 2
    · go_simp
      constructor
      · rfl
      · rfl
    refine hK.out _ _ (⟨cell_alloc hHeld.1 _, cell_alloc hHeld.2 _⟩) (fun hHeld => ?_)
    clear hK K
    refine norm_ (a' := ?_) ?_ ?_
    rotate_left
    · show Act.put _ (some 26) _ = _
      simp only [Act.put, List.setIfInBounds_toArray, List.set_cons_zero, List.set_cons_succ, i64_w, i32_w]
      rfl
    refine last_ (i := 13) (N := (some 27)) #[true, true, true, true, true, true, true, true, true, true, true, true, true, true, false, false, false] rfl rfl (by kernel_rfl) (by decide) (fun K hK => ?_)
    refine Kd.R_append_step PA.k170 (w0 := w2) B (by rfl) (.tmp 18) (.tmp 26) 165 170 (.agg #[.int .i64 0, .int .i64 0]) 16 rfl Tryz.underlying165 info170 rfl (by decide) (by decide) (.slice A1 x.holds.length c1) x.holds (⟨x.b.length, 1⟩ : PA.S170) [.int .i64 x.b.length, .int .i64 1] (fun _ => True) (fun _ => False) rfl rfl (PA.k170_mkM _ _ _ ⟨x.b.length, 1⟩) (fun _ h => h.elim) (fun _ _ => trivial) hh (Below.refl _ _) (by have := blk_lt hg; omega) (by omega) ?_
    intro v1 w3 hR1 _ hg1 _
    obtain ⟨A3, c3, rfl⟩ := Kd.R_slice hR1
    have hgx := blk_grown hg hg1 (Kd.R_ne hh hg (by decide))
    have hbx := Kd.R_over hb hh (by decide) hg1
    have kx := KT.grown (ts := wts) k1 hg1 (fun k hk => ⟨Kd.R_base hh k hk, 170, by simp [wts], R_tyB hh k hk⟩)
    clear hg1 hHeld hh hg hb k1
    have f1 := (blk_frozen hgx 1)
    have c1' := (blk_cell hgx 1)
    simp at c1'
    have hs : (x.holds ++ [(⟨x.b.length, 1⟩ : PA.S170)]).length = x.holds.length + 1 := by simp
    rw [hs] at hR1 ⊢
    refine hK.out _ _ ?_
    clear hK K
    refine norm_ (a' := ?_) ?_ ?_
    rotate_left
    · show Act.put _ (some 27) _ = _
      simp only [Act.put, List.setIfInBounds_toArray, List.set_cons_zero, List.set_cons_succ, i64_w, i32_w]
      rfl
    refine pure_ (i := 14) (N := (some 28)) (v := ?_) (a' := ?_) #[true, true, true, true, true, true, true, true, true, true, true, true, true, true, true, false, false] rfl rfl (by kernel_rfl) (fun _ _ _ h => h) (Or.inl ⟨by rfl, ?_⟩) ?_ ?_
    rotate_left
    · intro w'
      go_simp
      with_reducible rfl
    rotate_left
    · simp only [Act.put, List.setIfInBounds_toArray, List.set_cons_zero, List.set_cons_succ, i64_w, i32_w]
      rfl
    refine pure_ (i := 15) (N := (some 29)) (v := ?_) (a' := ?_) #[true, true, true, true, true, true, true, true, true, true, true, true, true, true, true, true, false] rfl rfl (by kernel_rfl) (fun _ _ _ h => h) (Or.inl ⟨by rfl, ?_⟩) ?_ ?_
    rotate_left
    · intro w'
      go_simp
      with_reducible rfl
    rotate_left
    · simp only [Act.put, List.setIfInBounds_toArray, List.set_cons_zero, List.set_cons_succ, i64_w, i32_w]
      rfl
    refine last_ (i := 16) (N := none) #[true, true, true, true, true, true, true, true, true, true, true, true, true, true, true, true, true] rfl rfl (by kernel_rfl) (by decide) (fun K hK => ?_)
    refine skip_ (w1 := ?_) (by rfl) rfl ?_ ?_
    rotate_left
    · go_simp
      with_reducible rfl
    refine hK.out _ _ ?_
    clear hK K
    refine done_ (by kernel_rfl) ?_

    have hW : IsW (w3.setCell ⟨g, 1, none⟩ (.slice A3 (x.holds.length + 1) c3)) B g { x with holds := x.holds ++ [⟨x.b.length, 1⟩] } := by
      exact ⟨_, _, blk_put hgx 1 _ (by simp), hB, Kd.R_set hbx hgx (by decide) 1 _, Kd.R_set hR1 hgx (by decide) 1 _⟩
    have kw := kx.setCell (p := ⟨g, 1, none⟩) hB ⟨_, _, hgx⟩ (by simp [wts]) (.slice A3 (x.holds.length + 1) c3)
    clear hgx hbx kx hR1 f1 hHeld c0 c1' hs
    generalize w3.setCell ⟨g, 1, none⟩ (.slice A3 (x.holds.length + 1) c3) = w4 at *
    have hmk : (Instr.makeSlice 42 (.int .i64 1) (.int .i64 1)).run Tryz.prog w4 = .ok (.slice (some ⟨w4.heap.size, 0, none⟩) 1 1) (w4.alloc (.cells #[.int .u8 0] 5)) :=
      (print_make (P := Tryz.prog) 42 5 .u8 1 rfl info5 (by decide) 1 (by decide) w4).trans (by rw [show madeCells #[Value.int .u8 0] 1 = #[.int .u8 0] from by kernel_rfl])
    have hb := WByte_calls (w4.alloc (.cells #[.int .u8 0] 5)) B g _ (hW.below (below_alloc (Below.refl _ _) _)) (some ⟨w4.heap.size, 0, none⟩) 1 (List.replicate 1 0) (litC (litR w4 5 .u8 (List.replicate 1 0) (by simp))) (by simp; omega)
    rw [show ({ x with holds := x.holds ++ [⟨x.b.length, 1⟩] } : Wtr).bytes (List.replicate 1 0) = { x with b := x.b ++ List.replicate 1 0, holds := x.holds ++ [⟨x.b.length, 1⟩] } from if_pos h0] at hb
    go_wp2_with fail
    refine hb.mono ?_
    rintro e w5 ⟨rfl, hW5, k5⟩
    have kz := (kw.alloc (.cells #[.int .u8 0] 5)).trans k5
    clear hb hW kw k5 hmk
    go_wp2
    go_ret
    exact ⟨rfl, hW5, kz⟩
  · have n0 : (x.e != 0) = true := by simp [h0]
    have hr : x.hold 1 = x := if_neg h0
    rw [hr]
    clear hr h0
    go_enter Tryz.func27, Tryz.ntmps27
    go_wp2_with fail
    refine hc.mono ?_
    rintro e w1 ⟨rfl, h1, k1⟩
    go_wp2
    go_ret
    exact ⟨rfl, h1, k1⟩

set_option maxHeartbeats 1600000 in
set_option maxRecDepth 100000 in
theorem Hold2_calls (w : World) (B g : Nat) (x : Wtr) (h : IsW w B g x) (hl : x.b.length + 2 ≤ 140737488351232) (hl2 : x.holds.length < 4398046511104) :
    Calls Tryz.prog 27 #[.pointer (some ⟨g, 0, none⟩), .int .i64 2] w fun e w' => e = .returned (.pointer (some ⟨g, 0, none⟩)) ∧ IsW w' B g (x.hold 2) ∧ KT B wts w w' := by
  have hc := fails_calls w B g x false 1 h
  rw [show x.fails false 1 = x from if_neg (by simp)] at hc
  by_cases h0 : x.e = 0
  · have n0 : (x.e != 0) = false := by simp [h0]
    have hr : x.hold 2 = { x with b := x.b ++ List.replicate 2 0, holds := x.holds ++ [⟨x.b.length, 2⟩] } := if_pos h0
    rw [hr]
    clear hr
    go_enter Tryz.func27, Tryz.ntmps27
    go_wp2_with fail
    refine hc.mono ?_
    rintro e w1 ⟨rfl, h1, k1⟩
    obtain ⟨bv, hv, hg, hB, hb, hh⟩ := id h1
    obtain ⟨A, c, rfl, hlc, hC⟩ := Kd.R_reads hb
    obtain ⟨A1, c1, rfl, hlc1, hC1⟩ := Kd.R_reads hh
    have c0 := (blk_cell hg 0)
    have c1' := (blk_cell hg 1)
    simp at c0 c1'
    clear hc h hC hC1 h1
    go_wp2_with fail
    refine start_ (n := 17) (S := fun w' => w'.cell? ⟨g, 0, none⟩ = some (.slice A x.b.length c) ∧ w'.cell? ⟨g, 1, none⟩ = some (.slice A1 x.holds.length c1)) (ds := [13, 16]) #[false, false, false, false, false, false, false, false, false, false, false, false, false, false, false, false, false] (by kernel_rfl) rfl rfl (⟨c0, c1'⟩) (fun hHeld => ?_)
    replace hg := blk_drew hg
    replace hb := Kd.R_drew hb
    replace hh := Kd.R_drew hh
    replace k1 := k1.drew
    generalize w1.drew = w2 at *
    refine pure_ (i := 0) (N := (some 14)) (v := ?_) (a' := ?_) #[true, false, false, false, false, false, false, false, false, false, false, false, false, false, false, false, false] rfl rfl (by kernel_rfl) (fun _ _ _ h => h) (Or.inl ⟨by rfl, ?_⟩) ?_ ?_
    rotate_left
    · intro w'
      go_simp
      with_reducible rfl
    rotate_left
    · simp only [Act.put, List.setIfInBounds_toArray, List.set_cons_zero, List.set_cons_succ, i64_w, i32_w]
      rfl
    refine pure_ (i := 1) (N := (some 15)) (v := ?_) (a' := ?_) #[true, true, false, false, false, false, false, false, false, false, false, false, false, false, false, false, false] rfl rfl (by kernel_rfl) (fun _ _ _ h => h) (Or.inl ⟨by rfl, ?_⟩) ?_ ?_
    rotate_left
    · intro w'
      go_simp
      with_reducible rfl
    rotate_left
    · simp only [Act.put, List.setIfInBounds_toArray, List.set_cons_zero, List.set_cons_succ, i64_w, i32_w]
      rfl
    refine pure_ (i := 2) (N := (some 16)) (v := ?_) (a' := ?_) #[true, true, true, false, false, false, false, false, false, false, false, false, false, false, false, false, false] rfl rfl (by kernel_rfl) (fun _ _ _ h => h) (Or.inl ⟨by rfl, ?_⟩) ?_ ?_
    rotate_left
    · intro w'
      go_simp
      with_reducible rfl
    rotate_left
    · simp only [Act.put, List.setIfInBounds_toArray, List.set_cons_zero, List.set_cons_succ, i64_w, i32_w]
      rfl
    refine pure_ (i := 3) (N := (some 17)) (v := ?_) (a' := ?_) #[true, true, true, true, false, false, false, false, false, false, false, false, false, false, false, false, false] rfl rfl (by kernel_rfl) (fun _ _ _ h => h) (Or.inl ⟨by rfl, ?_⟩) ?_ ?_
    rotate_left
    · intro w'
      go_simp
      with_reducible rfl
    rotate_left
    · simp only [Act.put, List.setIfInBounds_toArray, List.set_cons_zero, List.set_cons_succ, i64_w, i32_w]
      rfl
    refine take_ (i := 4) (N := (some 18)) (v := ?_) (a' := ?_) #[true, true, true, true, true, false, false, false, false, false, false, false, false, false, false, false, false] rfl rfl (by kernel_rfl) (fun _ _ _ h => h) (Or.inl ⟨by rfl, ?_⟩) hHeld ?_ ?_
    rotate_left
    · rintro w' ⟨s0, s1⟩
      go_simp
      with_reducible rfl
    rotate_left
    · simp only [Act.put, List.setIfInBounds_toArray, List.set_cons_zero, List.set_cons_succ, i64_w, i32_w]
      rfl
    refine pure_ (i := 5) (N := (some 19)) (v := ?_) (a' := ?_) #[true, true, true, true, true, true, false, false, false, false, false, false, false, false, false, false, false] rfl rfl (by kernel_rfl) (fun _ _ _ h => h) (Or.inl ⟨by rfl, ?_⟩) ?_ ?_
    rotate_left
    · intro w'
      go_simp
      with_reducible rfl
    rotate_left
    · simp only [Act.put, List.setIfInBounds_toArray, List.set_cons_zero, List.set_cons_succ, i64_w, i32_w]
      rfl
    refine pure_ (i := 6) (N := (some 20)) (v := ?_) (a' := ?_) #[true, true, true, true, true, true, true, false, false, false, false, false, false, false, false, false, false] rfl rfl (by kernel_rfl) (fun _ _ _ h => h) (Or.inl ⟨by rfl, ?_⟩) ?_ ?_
    rotate_left
    · intro w'
      go_simp
      with_reducible rfl
    rotate_left
    · simp only [Act.put, List.setIfInBounds_toArray, List.set_cons_zero, List.set_cons_succ, i64_w, i32_w]
      rfl
    refine pure_ (i := 7) (N := (some 21)) (v := ?_) (a' := ?_) #[true, true, true, true, true, true, true, true, false, false, false, false, false, false, false, false, false] rfl rfl (by kernel_rfl) (fun _ _ _ h => h) (Or.inl ⟨by rfl, ?_⟩) ?_ ?_
    rotate_left
    · intro w'
      go_simp
      with_reducible rfl
    rotate_left
    · simp only [Act.put, List.setIfInBounds_toArray, List.set_cons_zero, List.set_cons_succ, i64_w, i32_w]
      rfl
    refine take_ (i := 8) (N := (some 22)) (v := ?_) (a' := ?_) #[true, true, true, true, true, true, true, true, true, false, false, false, false, false, false, false, false] rfl rfl (by kernel_rfl) (fun _ _ _ h => h) (Or.inl ⟨by rfl, ?_⟩) hHeld ?_ ?_
    rotate_left
    · rintro w' ⟨s0, s1⟩
      go_simp
      with_reducible rfl
    rotate_left
    · simp only [Act.put, List.setIfInBounds_toArray, List.set_cons_zero, List.set_cons_succ, i64_w, i32_w]
      rfl
    refine pure_ (i := 9) (N := (some 23)) (v := ?_) (a' := ?_) #[true, true, true, true, true, true, true, true, true, true, false, false, false, false, false, false, false] rfl rfl (by kernel_rfl) (fun _ _ _ h => h) (Or.inl ⟨by rfl, ?_⟩) ?_ ?_
    rotate_left
    · intro w'
      go_simp
      with_reducible rfl
    rotate_left
    · simp only [Act.put, List.setIfInBounds_toArray, List.set_cons_zero, List.set_cons_succ, i64_w, i32_w]
      rfl
    refine pure_ (i := 10) (N := (some 24)) (v := ?_) (a' := ?_) #[true, true, true, true, true, true, true, true, true, true, true, false, false, false, false, false, false] rfl rfl (by kernel_rfl) (fun _ _ _ h => h) (Or.inl ⟨by rfl, ?_⟩) ?_ ?_
    rotate_left
    · intro w'
      go_simp
      with_reducible rfl
    rotate_left
    · simp only [Act.put, List.setIfInBounds_toArray, List.set_cons_zero, List.set_cons_succ, i64_w, i32_w]
      rfl
    refine pure_ (i := 11) (N := (some 25)) (v := ?_) (a' := ?_) #[true, true, true, true, true, true, true, true, true, true, true, true, false, false, false, false, false] rfl rfl (by kernel_rfl) (fun _ _ _ h => h) (Or.inl ⟨by rfl, ?_⟩) ?_ ?_
    rotate_left
    · intro w'
      go_simp
      with_reducible rfl
    rotate_left
    · simp only [Act.put, List.setIfInBounds_toArray, List.set_cons_zero, List.set_cons_succ, i64_w, i32_w]
      rfl
    refine one_ (i := 12) (N := (some 26)) #[true, true, true, true, true, true, true, true, true, true, true, true, true, false, false, false, false] rfl rfl (by kernel_rfl) (by decide) (fun K hK => ?_)
    refine value_ (w1 := ?_) (v := ?_) (by rfl) rfl ?_ ?_
    rotate_left 2
    · go_simp
      constructor
      · rfl
      · rfl
    refine hK.out _ _ (⟨cell_alloc hHeld.1 _, cell_alloc hHeld.2 _⟩) (fun hHeld => ?_)
    clear hK K
    refine norm_ (a' := ?_) ?_ ?_
    rotate_left
    · show Act.put _ (some 26) _ = _
      simp only [Act.put, List.setIfInBounds_toArray, List.set_cons_zero, List.set_cons_succ, i64_w, i32_w]
      rfl
    refine last_ (i := 13) (N := (some 27)) #[true, true, true, true, true, true, true, true, true, true, true, true, true, true, false, false, false] rfl rfl (by kernel_rfl) (by decide) (fun K hK => ?_)
    refine Kd.R_append_step PA.k170 (w0 := w2) B (by rfl) (.tmp 18) (.tmp 26) 165 170 (.agg #[.int .i64 0, .int .i64 0]) 16 rfl Tryz.underlying165 info170 rfl (by decide) (by decide) (.slice A1 x.holds.length c1) x.holds (⟨x.b.length, 2⟩ : PA.S170) [.int .i64 x.b.length, .int .i64 2] (fun _ => True) (fun _ => False) rfl rfl (PA.k170_mkM _ _ _ ⟨x.b.length, 2⟩) (fun _ h => h.elim) (fun _ _ => trivial) hh (Below.refl _ _) (by have := blk_lt hg; omega) (by omega) ?_
    intro v1 w3 hR1 _ hg1 _
    obtain ⟨A3, c3, rfl⟩ := Kd.R_slice hR1
    have hgx := blk_grown hg hg1 (Kd.R_ne hh hg (by decide))
    have hbx := Kd.R_over hb hh (by decide) hg1
    have kx := KT.grown (ts := wts) k1 hg1 (fun k hk => ⟨Kd.R_base hh k hk, 170, by simp [wts], R_tyB hh k hk⟩)
    clear hg1 hHeld hh hg hb k1
    have f1 := (blk_frozen hgx 1)
    have c1' := (blk_cell hgx 1)
    simp at c1'
    have hs : (x.holds ++ [(⟨x.b.length, 2⟩ : PA.S170)]).length = x.holds.length + 1 := by simp
    rw [hs] at hR1 ⊢
    refine hK.out _ _ ?_
    clear hK K
    refine norm_ (a' := ?_) ?_ ?_
    rotate_left
    · show Act.put _ (some 27) _ = _
      simp only [Act.put, List.setIfInBounds_toArray, List.set_cons_zero, List.set_cons_succ, i64_w, i32_w]
      rfl
    refine pure_ (i := 14) (N := (some 28)) (v := ?_) (a' := ?_) #[true, true, true, true, true, true, true, true, true, true, true, true, true, true, true, false, false] rfl rfl (by kernel_rfl) (fun _ _ _ h => h) (Or.inl ⟨by rfl, ?_⟩) ?_ ?_
    rotate_left
    · intro w'
      go_simp
      with_reducible rfl
    rotate_left
    · simp only [Act.put, List.setIfInBounds_toArray, List.set_cons_zero, List.set_cons_succ, i64_w, i32_w]
      rfl
    refine pure_ (i := 15) (N := (some 29)) (v := ?_) (a' := ?_) #[true, true, true, true, true, true, true, true, true, true, true, true, true, true, true, true, false] rfl rfl (by kernel_rfl) (fun _ _ _ h => h) (Or.inl ⟨by rfl, ?_⟩) ?_ ?_
    rotate_left
    · intro w'
      go_simp
      with_reducible rfl
    rotate_left
    · simp only [Act.put, List.setIfInBounds_toArray, List.set_cons_zero, List.set_cons_succ, i64_w, i32_w]
      rfl
    refine last_ (i := 16) (N := none) #[true, true, true, true, true, true, true, true, true, true, true, true, true, true, true, true, true] rfl rfl (by kernel_rfl) (by decide) (fun K hK => ?_)
    refine skip_ (w1 := ?_) (by rfl) rfl ?_ ?_
    rotate_left
    · go_simp
      with_reducible rfl
    refine hK.out _ _ ?_
    clear hK K
    refine done_ (by kernel_rfl) ?_

    have hW : IsW (w3.setCell ⟨g, 1, none⟩ (.slice A3 (x.holds.length + 1) c3)) B g { x with holds := x.holds ++ [⟨x.b.length, 2⟩] } := by
      exact ⟨_, _, blk_put hgx 1 _ (by simp), hB, Kd.R_set hbx hgx (by decide) 1 _, Kd.R_set hR1 hgx (by decide) 1 _⟩
    have kw := kx.setCell (p := ⟨g, 1, none⟩) hB ⟨_, _, hgx⟩ (by simp [wts]) (.slice A3 (x.holds.length + 1) c3)
    clear hgx hbx kx hR1 f1 hHeld c0 c1' hs
    generalize w3.setCell ⟨g, 1, none⟩ (.slice A3 (x.holds.length + 1) c3) = w4 at *
    have hmk : (Instr.makeSlice 42 (.int .i64 2) (.int .i64 2)).run Tryz.prog w4 = .ok (.slice (some ⟨w4.heap.size, 0, none⟩) 2 2) (w4.alloc (.cells #[.int .u8 0, .int .u8 0] 5)) :=
      (print_make (P := Tryz.prog) 42 5 .u8 1 rfl info5 (by decide) 2 (by decide) w4).trans (by rw [show madeCells #[Value.int .u8 0] 2 = #[.int .u8 0, .int .u8 0] from by kernel_rfl])
    have hb := WByte_calls (w4.alloc (.cells #[.int .u8 0, .int .u8 0] 5)) B g _ (hW.below (below_alloc (Below.refl _ _) _)) (some ⟨w4.heap.size, 0, none⟩) 2 (List.replicate 2 0) (litC (litR w4 5 .u8 (List.replicate 2 0) (by simp))) (by simp; omega)
    rw [show ({ x with holds := x.holds ++ [⟨x.b.length, 2⟩] } : Wtr).bytes (List.replicate 2 0) = { x with b := x.b ++ List.replicate 2 0, holds := x.holds ++ [⟨x.b.length, 2⟩] } from if_pos h0] at hb
    go_wp2_with fail
    refine hb.mono ?_
    rintro e w5 ⟨rfl, hW5, k5⟩
    have kz := (kw.alloc (.cells #[.int .u8 0, .int .u8 0] 5)).trans k5
    clear hb hW kw k5 hmk
    go_wp2
    go_ret
    exact ⟨rfl, hW5, kz⟩
  · have n0 : (x.e != 0) = true := by simp [h0]
    have hr : x.hold 2 = x := if_neg h0
    rw [hr]
    clear hr h0
    go_enter Tryz.func27, Tryz.ntmps27
    go_wp2_with fail
    refine hc.mono ?_
    rintro e w1 ⟨rfl, h1, k1⟩
    go_wp2
    go_ret
    exact ⟨rfl, h1, k1⟩

set_option maxHeartbeats 800000 in
theorem failsNo_calls (w : World) (B g : Nat) (x : Wtr) (e : Int) (h : IsW w B g x) :
    Calls Tryz.prog 76 #[.pointer (some ⟨g, 0, none⟩), .bool false, .int .i64 e] w fun en w' => en = .returned (.bool (x.e != 0)) ∧ w = w' := by
  by_cases h0 : x.e = 0
  · have n0 : (x.e == 0) = true := by simp [h0]
    clear h0
    go_enter Tryz.func76, Tryz.ntmps76
    go_wp2_with fail
    refine (WErr_calls _ B g x h).mono ?_
    rintro en w' ⟨rfl, rfl⟩
    go_wp2_with fail
    refine (WErr_calls _ B g _ h).mono ?_
    rintro en w' ⟨rfl, rfl⟩
    go_wp2
    go_ret
    exact ⟨rfl, rfl⟩
  · have n0 : (x.e == 0) = false := by simp [h0]
    clear h0
    go_enter Tryz.func76, Tryz.ntmps76
    go_wp2_with fail
    refine (WErr_calls _ B g x h).mono ?_
    rintro en w' ⟨rfl, rfl⟩
    go_wp2_with fail
    refine (WErr_calls _ B g _ h).mono ?_
    rintro en w' ⟨rfl, rfl⟩
    go_wp2
    go_ret
    exact ⟨rfl, rfl⟩

set_option maxHeartbeats 1600000 in
set_option maxRecDepth 100000 in
theorem Fill1_calls (w : World) (B g : Nat) (x : Wtr) (h : IsW w B g x) (h0 : x.e = 0) (hs : List PA.S170) (a : Nat) (hx : x.holds = hs ++ [⟨a, 1⟩]) (ha : a + 1 ≤ x.b.length) (hn : x.b.length - a - 1 < 256) (hl : x.b.length ≤ 140737488351232) (hl2 : hs.length < 4398046511104) :
    Calls Tryz.prog 29 #[.pointer (some ⟨g, 0, none⟩)] w fun e w' => e = .returned (.pointer (some ⟨g, 0, none⟩)) ∧ IsW w' B g { x with b := x.b.set a ((x.b.length - a - 1 : Nat) : Int), holds := hs } ∧ KT B wts w w' := by
  have hk : x.holds.length = hs.length + 1 := by rw [hx]; simp
  have n0 : (x.e != 0) = false := by simp [h0]
  have n1 : (x.e == 0) = true := by simp [h0]
  have n2 : (((hs.length : Int) + 1) == 0) = false := by
    rw [beq_eq_false_iff_ne]
    omega
  have HX := Aside0.mk hx
  have H0 := Aside0.mk h0
  clear hx h0
  obtain ⟨bv, hv, hg, hB, hb, hh⟩ := id h
  obtain ⟨A, c, rfl, hlc, hC⟩ := Kd.R_reads hb
  obtain ⟨A1, c1, rfl, hlc1, hC1⟩ := Kd.R_reads hh
  rw [hk] at hC1 hg hh
  have c0 := (blk_cell hg 0)
  have c1' := (blk_cell hg 1)
  simp at c0 c1'
  obtain ⟨ad, rfl, q0, q1⟩ := PA.at_T170 hC1 (hs.length : Int) (by omega) (by omega)
  have hz : PA.rd_T170 x.holds (hs.length : Int) = ⟨a, 1⟩ := by
    rw [HX.out, PA.rd_T170, Int.toNat_natCast]
    simp
  rw [hz] at q0 q1
  simp only [Int.toNat_natCast] at q0 q1
  clear hz
  go_enter Tryz.func29, Tryz.ntmps29
  go_wp2_with fail
  refine (WErr_calls _ B g x h).mono ?_
  rintro en w' ⟨rfl, rfl⟩
  go_wp2_with fail
  refine (failsNo_calls _ B g x 26 h).mono ?_
  rintro e w1 ⟨rfl, rfl⟩
  go_upto_region 5 with fail
  have hM := blk_new w (.cells #[.int .i64 (a : Int), .int .i64 1] 170)
  have h2 : IsW (w.alloc (.cells #[.int .i64 (a : Int), .int .i64 1] 170)) B g x := h.below (below_alloc (Below.refl _ _) _)
  have k2 : KT B wts w (w.alloc (.cells #[.int .i64 (a : Int), .int .i64 1] 170)) := (KT.refl _ _ _).alloc _
  have hg2 := blk_below hg (below_alloc (Below.refl _ _) (.cells #[.int .i64 (a : Int), .int .i64 1] 170))
  have hb2 := Kd.R_alloc hb (.cells #[.int .i64 (a : Int), .int .i64 1] 170)
  have hh2 := Kd.R_alloc hh (.cells #[.int .i64 (a : Int), .int .i64 1] 170)
  have hne : w.heap.size ≠ g := by have := blk_lt hg; omega
  have hgl := blk_lt hg
  clear q0 q1 c0 c1' hg hb hh hC hC1 h
  generalize w.alloc (.cells #[.int .i64 (a : Int), .int .i64 1] 170) = w2 at *
  generalize w.heap.size = m at *
  have c0 := (blk_cell hg2 0)
  have c1' := (blk_cell hg2 1)
  have m0 := (blk_cell hM 0)
  have m1 := (blk_cell hM 1)
  simp at c0 c1' m0 m1
  obtain ⟨p, hp⟩ : ∃ p : Nat, x.b.length = a + 1 + p := ⟨x.b.length - (a + 1), by omega⟩
  have hq : x.b.length - a - 1 = p := by omega
  rw [hq] at hn
  have s1 : IntKind.i64.wrap ((x.b.length : Int) - a) = 1 + p := by rw [IntWalk.i64_in _ (by omega)]; omega
  have s2 : IntKind.i64.wrap ((1 : Int) + p - 1) = p := by rw [IntWalk.i64_in _ (by omega)]; omega
  have s3 : IntKind.u8.wrap (p : Int) = p := IntWalk.u8_in _ (by omega)
  have d1 : decide ((p : Int) ≥ 256) = false := decide_eq_false (by omega)
  have d2 : decide (256 ≤ (p : Int)) = false := decide_eq_false (by omega)
  have HP := Aside0.mk hp
  have HQ := Aside0.mk hq
  have i1 : (a : Int) < x.b.length := by omega
  have i2 : a < x.b.length := by omega
  clear hp hq
  go_wp2_with fail
  go_quiet (fail)
  replace hg2 := blk_drewN hg2 nq
  replace hM := blk_drewN hM nq
  replace hb2 := Kd.R_drewN hb2 nq
  replace hh2 := Kd.R_drewN hh2 nq
  replace k2 := k2.drewN nq
  replace h2 : IsW (w2.drewN nq) B g x := h2
  clear c0 c1' m0 m1 s1 s2
  generalize w2.drewN nq = w3 at *
  have c0 := (blk_cell hg2 0)
  have c1' := (blk_cell hg2 1)
  have m0 := (blk_cell hM 0)
  have m1 := (blk_cell hM 1)
  simp at c0 c1' m0 m1
  go_wp2_with fail
  refine (failsNo_calls _ B g x 3 h2).mono ?_
  rintro e w4 ⟨rfl, rfl⟩
  go_wp2_with fail
  have hne2 := Kd.R_ne hb2 hg2 (by decide)
  obtain ⟨gb, cb, hcb, hgb, hgl2, cells, hcells⟩ := Kd.R_form hb2 (by have := HP.out; omega)
  injection hcb with q1 q2 q3
  subst q1 q3
  have hap := R_apart hh2 hb2 (by decide)
  have ht := Kd.R_putg hb2 (a : Int) (p : Int)
  rw [Int.toNat_natCast] at ht
  obtain ⟨hset, hgs⟩ := ht
  have hcl := Kd.R_celln 0 hb2 (a : Int) (by omega) i1
  rw [Int.toNat_natCast] at hcl
  go_loopw [5, 6] (fun n k w' => (k = .int .i64 0 ∧ n = .int .i64 p ∧ w' = w3) ∨ (k = .int .i64 (-1) ∧ w' = (w3.setCell ⟨gb, a, none⟩ (.int .u8 p)).drew)) (fun _ k _ => (intOf k + 1).toNat)
  case atStart => exact .inl ⟨rfl, rfl, rfl⟩
  case round =>
    rcases hrel with ⟨rfl, rfl, rfl⟩ | ⟨rfl, rfl⟩
    · obtain ⟨hc1, hc2⟩ := hcl
      clear m1
      go_wp2_with fail
      go_region
      go_wp2
      exact ⟨.inr ⟨rfl, trivial⟩, by simp [intOf]⟩
    · have hk5 := (k2.grown hgs (fun k hq => ⟨by injection hq with hq; omega, 5, by simp [wts], by injection hq with hq; subst hq; exact ⟨_, _, hcells⟩⟩)).drew
      have hg5 := blk_drew (blk_grown hg2 hgs hne2)
      have hh5 := Kd.R_drew (Kd.R_grown hap hgs (fun k hk => hk.2))
      replace hset := Kd.R_drew hset
      generalize (w3.setCell ⟨gb, a, none⟩ (.int .u8 p)).drew = w5 at *
      have f1 := blk_frozen hg5 1
      have c1x := blk_cell hg5 1
      simp at c1x
      go_wp2
      go_ret
      rw [HQ.out]
      have hlen : (x.b.set a (p : Int)).length = x.b.length := by simp
      have htk := Kd.R_take hh5 (m := hs.length) (by omega)
      rw [HX.out, List.take_left' rfl] at htk
      refine ⟨rfl, ⟨_, _, blk_put hg5 1 _ (by simp), hB, Kd.R_set hset hg5 (by decide) 1 _, Kd.R_mono (Kd.R_set htk hg5 (by decide) 1 _) (fun _ _ => trivial)⟩, hk5.setCell hB ⟨_, _, hg5⟩ (by simp [wts]) _⟩

set_option maxHeartbeats 1600000 in
set_option maxRecDepth 100000 in
theorem WDone_calls (w : World) (B g : Nat) (x : Wtr) (h : IsW w B g x) (h0 : x.e = 0) (hh0 : x.holds = []) (hl : x.b.length ≤ 140737488351232) :
    Calls Tryz.prog 30 #[.pointer (some ⟨g, 0, none⟩)] w fun e w' => ∃ v, e = .returned (.tuple #[v, .int .i64 0]) ∧ (Kd.int .u8).R 5 w' w.heap.size (fun _ => True) v x.b ∧ Below w.heap.size w w' := by
  have n0 : (x.e != 0) = false := by simp [h0]
  have hk : x.holds.length = 0 := by rw [hh0]; rfl
  obtain ⟨bv, hv, hg, hB, hb, hh⟩ := id h
  obtain ⟨A, c, rfl, hlc, hC⟩ := Kd.R_reads hb
  obtain ⟨A1, c1, rfl, hlc1, hC1⟩ := Kd.R_reads hh
  rw [hk] at hg
  have c0 := (blk_cell hg 0)
  have c1' := (blk_cell hg 1)
  simp at c0 c1'
  clear h0 hh0
  go_enter Tryz.func30, Tryz.ntmps30
  go_wp2_with fail
  refine (WErr_calls _ B g x h).mono ?_
  rintro en w' ⟨rfl, rfl⟩
  go_wp2_with fail
  refine (Clone_calls w w.heap.size A c x.b (Nat.le_refl _) hC hl).mono ?_
  clear c0 c1'
  rintro e w1 ⟨v, rfl, hv, hb1⟩
  go_wp2
  exact bodyPost_ret (v := .tuple #[v, .int .i64 0]) (by simp [results, Tryz.results30, go_sem]) rfl ⟨v, rfl, hv, hb1⟩

/-- Block g is the writer x, all of whose memory is from B on; h is none of its blocks. -/
def IsF (w : World) (B g h : Nat) (x : Wtr) : Prop :=
  ∃ bv hv, w.heap[g]? = some (.cells #[bv, hv, .int .i64 x.e, .bool true] 167 (0, 0)) ∧ B ≤ g ∧
    (Kd.int .u8).R 5 w B (fun k => k ≠ h) bv x.b ∧ PA.k170.R 170 w B (fun _ => True) hv x.holds ∧ g ≠ h ∧ h < w.heap.size
theorem IsF.isW {w : World} {B g h : Nat} {x : Wtr} (hF : IsF w B g h x) : IsW w B g x := by
  obtain ⟨bv, hv, hg, hB, hb, hh, _, _⟩ := hF
  exact ⟨bv, hv, hg, hB, Kd.R_mono hb (fun _ _ => trivial), hh⟩
theorem IsF.below {w w' : World} {B g h : Nat} {x : Wtr} (hF : IsF w B g h x) (hd : Below w.heap.size w w') : IsF w' B g h x := by
  obtain ⟨bv, hv, hg, hB, hb, hh, hne, hlt⟩ := hF
  exact ⟨bv, hv, blk_below hg hd, hB, Kd.R_below hb hd, Kd.R_below hh hd, hne, Nat.lt_of_lt_of_le hlt hd.size⟩
/-- An elder block is none of a new writer's. -/
theorem IsF.elder {w : World} {B B' g h : Nat} {x : Wtr} (hW : IsW w B g x) (hB' : B' ≤ B) (hlt : h < B) : IsF w B' g h x := by
  obtain ⟨bv, hv, hg, hB, hb, hh⟩ := hW
  refine ⟨bv, hv, hg, Nat.le_trans hB' hB, Kd.R_lower (Kd.R_mono (Kd.R_far1 hb rfl (g := h) ?_) (fun _ hk => hk.2)) hB', Kd.R_lower hh hB', by omega, Nat.lt_of_lt_of_le hlt (Nat.le_of_lt (Nat.lt_of_le_of_lt hB (blk_lt hg)))⟩
  intro e
  have := Kd.R_base hb h e.symm
  omega
/-- A block just made is none of the writer's. -/
theorem IsF.fresh {w : World} {B g h : Nat} {x : Wtr} (hF : IsF w B g h x) (o : Obj) : IsF (w.alloc o) B g w.heap.size x := by
  obtain ⟨bv, hv, hg, hB, hb, hh, hne, hlt⟩ := hF
  have hlg := blk_lt hg
  exact ⟨bv, hv, blk_below hg (below_alloc (Below.refl _ _) o), hB, Kd.R_alloc (Kd.R_mono (Kd.R_bound hb) (fun k hk => by have := hk.2; omega)) o, Kd.R_alloc hh o, by omega, by simp⟩

set_option maxHeartbeats 800000 in
set_option maxRecDepth 100000 in
theorem FByte_calls (w : World) (B g h : Nat) (x : Wtr) (hF : IsF w B g h x) (h0 : x.e = 0) (A : Option Addr) (c : Nat) (ys : List Int) (hC : (Kd.int .u8).C w A ys.length ys) (hl : x.b.length + ys.length ≤ 140737488351232) :
    Calls Tryz.prog 28 #[.pointer (some ⟨g, 0, none⟩), .slice A ys.length c] w fun e w' => e = .returned (.pointer (some ⟨g, 0, none⟩)) ∧ IsF w' B g h (x.bytes ys) ∧ KT B wts w w' ∧ w'.heap[h]? = w.heap[h]? := by
  have n0 : (x.e == 0) = true := by simp [h0]
  have hr : x.bytes ys = { x with b := x.b ++ ys } := if_pos h0
  rw [hr]
  clear h0 hr
  have hW := hF.isW
  go_enter Tryz.func28, Tryz.ntmps28
  go_wp2_with fail
  refine (WErr_calls _ B g x hW).mono ?_
  rintro en w' ⟨rfl, rfl⟩
  have hBs := hW.lt
  obtain ⟨bv, hv, hg, hB, hb, hh, hne, hlt⟩ := hF
  obtain ⟨A1, c1, rfl, hl1, hC1⟩ := Kd.R_reads hb
  have c0 := (blk_cell hg 0)
  simp at c0
  go_wp2_with (at_builtin; refine Kd.R_append_rows (Kd.int .u8) (w0 := w) B rfl (.tmp 12) (.tmp 13) 42 5 (.int .u8 0) 1 rfl Tryz.underlying42 info5 rfl (by decide) (by decide) (.slice A1 x.b.length c1) x.b ys A ys.length c (fun k => k ≠ h) (fun _ => False) rfl rfl hb hC (fun _ _ h => h) (fun _ h => h.elim) (fun k hk => Nat.ne_of_gt (Nat.lt_of_lt_of_le hlt hk)) (Below.refl _ _) (by omega) (by omega) ?_)
  intro v1 w1 hR1 hb1 hg1 _
  obtain ⟨A2, c2, rfl⟩ := Kd.R_slice hR1
  have hgx := blk_grown hg hg1 (Kd.R_ne hb hg (by decide))
  have hhx := Kd.R_over hh hb (by decide) hg1
  have kx : KT B wts w w1 := KT.grown (KT.refl _ _ _) hg1 (fun k hk => ⟨Kd.R_base hb k hk, 5, by simp [wts], R_tyB hb k hk⟩)
  have keep : w1.heap[h]? = w.heap[h]? := hg1.block h hlt (fun e => hb.1 h e.symm rfl)
  have c0' := (blk_cell hgx 0)
  have f0 := (blk_frozen hgx 0)
  simp at c0'
  clear c0 hg hb hh hC hC1
  go_wp2
  go_ret
  have hsz : w.heap.size ≤ w1.heap.size := kx.size
  refine ⟨rfl, ⟨_, hv, blk_put hgx 0 _ (by simp), hB, Kd.R_set hR1 hgx (by decide) 0 _, Kd.R_set hhx hgx (by decide) 0 _, hne, by simp; omega⟩, kx.setCell hB ⟨_, _, hgx⟩ (by simp [wts]) _, (Below.heap_setCell w1 ⟨g, 0, none⟩ _ h (fun e => hne e.symm)).trans keep⟩

set_option maxHeartbeats 1600000 in
set_option maxRecDepth 100000 in
theorem FTwo_calls (w : World) (B g h : Nat) (x : Wtr) (hF : IsF w B g h x) (hz : x.e = 0) (A : Option Addr) (c : Nat) (ys : List Int) (hby : ∀ y, y ∈ ys → 0 ≤ y ∧ y < 65536) (hl : x.b.length + 2 * ys.length ≤ 140737488351232)
    (hfar : ∀ w', KT B wts w w' → (Kd.int .u16).C w' A ys.length ys) :
    Calls Tryz.prog 65 #[.pointer (some ⟨g, 0, none⟩), .slice A ys.length c] w fun e w' => e = .returned (.pointer (some ⟨g, 0, none⟩)) ∧ IsF w' B g h (x.bytes (twos ys)) ∧ KT B wts w w' ∧ w'.heap[h]? = w.heap[h]? := by
  have HB := Aside0.mk hby
  have HF := Aside0.mk hfar
  have hze : ∀ l, (x.bytes l).e = 0 := fun l => by unfold Wtr.bytes; rw [if_pos hz]; exact hz
  have HZ := Aside0.mk hze
  clear hby hfar hze hz
  have h0 : IsF w B g h (x.bytes (twos (ys.take 0))) := by rw [List.take_zero, show twos [] = [] from rfl, Wtr.bytes_nil]; exact hF
  go_enter Tryz.func65, Tryz.ntmps65
  go_wp2_with fail
  go_loopw [6, 9] (fun a i w' => ∃ k : Nat, k ≤ ys.length ∧ i = .int .i64 k ∧ IsF w' B g h (x.bytes (twos (ys.take k))) ∧ KT B wts w w' ∧ Aside0 (w'.heap[h]? = w.heap[h]?)) (fun _ i _ => ys.length - (intOf i).toNat)
  case atStart => exact ⟨0, Nat.zero_le _, rfl, h0, KT.refl _ _ _, ⟨rfl⟩⟩
  case round =>
    clear h0
    obtain ⟨k, hk, rfl, hW, hk1, hkeep⟩ := hrel
    by_cases hlt : k < ys.length
    · obtain ⟨ad, rfl, hcell⟩ := Kd.at_int (HF.out _ hk1) (k : Int) (by omega) (by omega)
      rw [Int.toNat_natCast] at hcell
      have hx : rd ys (k : Int) = ys[k] := by rw [rd, Int.toNat_natCast, List.getD_eq_getElem?_getD, List.getElem?_eq_getElem hlt]; rfl
      have hs : twos (ys.take (k + 1)) = twos (ys.take k) ++ two ys[k] := by
        rw [List.take_succ_eq_append_getElem hlt, twos_snoc]
      have hr := HB.out _ (List.getElem_mem hlt)
      rw [hx] at hcell
      obtain ⟨n, hn⟩ : ∃ n, ys[k] = n := ⟨_, rfl⟩
      rw [hn] at hcell hs hr
      have HS := Aside0.mk hs
      clear hs hx hn
      go_wp2_with fail
      have hlh : h < wr.heap.size := by obtain ⟨_, _, _, _, _, _, _, h7⟩ := hW; exact h7
      have hb := FByte_calls (wr.alloc (.cells #[.int .u8 (n / 256), .int .u8 (n % 256)] 5)) B g h (x.bytes (twos (ys.take k))) (hW.below (below_alloc (Below.refl _ _) _)) (HZ.out _) (some ⟨wr.heap.size, 0, none⟩) 2 [n / 256, n % 256] (lit5 wr [n / 256, n % 256] (by simp)) (by
        have h1 := x.bytes_len (twos (ys.take k))
        rw [twos_len, List.length_take] at h1
        have h2 : [n / 256, n % 256].length = 2 := rfl
        omega)
      rw [Wtr.bytes_bytes, show [n / 256, n % 256] = two n from rfl, ← HS.out] at hb
      refine hb.mono ?_
      rintro e w1 ⟨rfl, hW1, hk2, hkp⟩
      have hK := (hk1.alloc (.cells #[.int .u8 (n / 256), .int .u8 (n % 256)] 5)).trans hk2
      have hkp2 := Aside0.mk (hkp.trans ((Below.heap_alloc wr _ h hlh).trans hkeep.out))
      clear hb hcell hkp
      go_wp2
      exact ⟨⟨k + 1, by omega, by simp, hW1, hK, hkp2⟩, by simp [intOf]; omega⟩
    · have hke : k = ys.length := by omega
      subst hke
      rw [List.take_length] at hW
      go_wp2
      go_ret
      exact ⟨rfl, hW, hk1, hkeep.out⟩

set_option maxHeartbeats 1600000 in
set_option maxRecDepth 100000 in
theorem FFour_calls (w : World) (B g h : Nat) (x : Wtr) (hF : IsF w B g h x) (hz : x.e = 0) (A : Option Addr) (c : Nat) (ys : List Int) (hby : ∀ y, y ∈ ys → 0 ≤ y ∧ y < 4294967296) (hl : x.b.length + 4 * ys.length ≤ 140737488351232)
    (hfar : ∀ w', KT B wts w w' → (Kd.int .u32).C w' A ys.length ys) :
    Calls Tryz.prog 115 #[.pointer (some ⟨g, 0, none⟩), .slice A ys.length c] w fun e w' => e = .returned (.pointer (some ⟨g, 0, none⟩)) ∧ IsF w' B g h (x.bytes (fours ys)) ∧ KT B wts w w' ∧ w'.heap[h]? = w.heap[h]? := by
  have HB := Aside0.mk hby
  have HF := Aside0.mk hfar
  have hze : ∀ l, (x.bytes l).e = 0 := fun l => by unfold Wtr.bytes; rw [if_pos hz]; exact hz
  have HZ := Aside0.mk hze
  clear hby hfar hze hz
  have h0 : IsF w B g h (x.bytes (fours (ys.take 0))) := by rw [List.take_zero, show fours [] = [] from rfl, Wtr.bytes_nil]; exact hF
  go_enter Tryz.func115, Tryz.ntmps115
  go_wp2_with fail
  go_loopw [6, 9] (fun a i w' => ∃ k : Nat, k ≤ ys.length ∧ i = .int .i64 k ∧ IsF w' B g h (x.bytes (fours (ys.take k))) ∧ KT B wts w w' ∧ Aside0 (w'.heap[h]? = w.heap[h]?)) (fun _ i _ => ys.length - (intOf i).toNat)
  case atStart => exact ⟨0, Nat.zero_le _, rfl, h0, KT.refl _ _ _, ⟨rfl⟩⟩
  case round =>
    clear h0
    obtain ⟨k, hk, rfl, hW, hk1, hkeep⟩ := hrel
    by_cases hlt : k < ys.length
    · obtain ⟨ad, rfl, hcell⟩ := Kd.at_int (HF.out _ hk1) (k : Int) (by omega) (by omega)
      rw [Int.toNat_natCast] at hcell
      have hx : rd ys (k : Int) = ys[k] := by rw [rd, Int.toNat_natCast, List.getD_eq_getElem?_getD, List.getElem?_eq_getElem hlt]; rfl
      have hs : fours (ys.take (k + 1)) = fours (ys.take k) ++ four ys[k] := by
        rw [List.take_succ_eq_append_getElem hlt, fours_snoc]
      have hr := HB.out _ (List.getElem_mem hlt)
      rw [hx] at hcell
      obtain ⟨n, hn⟩ : ∃ n, ys[k] = n := ⟨_, rfl⟩
      rw [hn] at hcell hs hr
      have HS := Aside0.mk hs
      clear hs hx hn
      go_wp2_with fail
      have hlh : h < wr.heap.size := by obtain ⟨_, _, _, _, _, _, _, h7⟩ := hW; exact h7
      have hR := litR wr 22 .u16 [n / 65536, n % 65536] (by simp)
      have hb := FTwo_calls (wr.alloc (.cells #[.int .u16 (n / 65536), .int .u16 (n % 65536)] 22)) B g h (x.bytes (fours (ys.take k))) (hW.below (below_alloc (Below.refl _ _) _)) (HZ.out _) (some ⟨wr.heap.size, 0, none⟩) 2 [n / 65536, n % 65536] (by
        intro y hy
        simp at hy
        omega) (by
        have h1 := x.bytes_len (fours (ys.take k))
        rw [fours_len, List.length_take] at h1
        have h2 : [n / 65536, n % 65536].length = 2 := rfl
        omega) (fun w' hk => litC (R_kt hR hk (by decide)))
      rw [Wtr.bytes_bytes, show twos [n / 65536, n % 65536] = four n from rfl, ← HS.out] at hb
      refine hb.mono ?_
      rintro e w1 ⟨rfl, hW1, hk2, hkp⟩
      have hK := (hk1.alloc (.cells #[.int .u16 (n / 65536), .int .u16 (n % 65536)] 22)).trans hk2
      have hkp2 := Aside0.mk (hkp.trans ((Below.heap_alloc wr _ h hlh).trans hkeep.out))
      clear hb hcell hR hkp
      go_wp2
      exact ⟨⟨k + 1, by omega, by simp, hW1, hK, hkp2⟩, by simp [intOf]; omega⟩
    · have hke : k = ys.length := by omega
      subst hke
      rw [List.take_length] at hW
      go_wp2
      go_ret
      exact ⟨rfl, hW, hk1, hkeep.out⟩
end Go.Proofs.YtbphidmnkbfchaaGreatDoor
