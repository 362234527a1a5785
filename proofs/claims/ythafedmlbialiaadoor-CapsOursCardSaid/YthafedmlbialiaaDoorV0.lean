/-
  The walks of a writer's methods.
-/
import Derived.Test.YthafedmlbialiaaDoorC3
import Derived.Test.YthafedmlbialiaaDoorC4
namespace Go.Proofs.YthafedmlbialiaaDoor
open Go.RowKit Go.Proofs.YthafedmlbialiaaDoorW.PrintWords Go.Proofs.YthafedmlbialiaaDoorW.PrintLast Go.Proofs.YthafedmlbialiaaDoorW.PrintMore
set_option linter.unusedVariables false
set_option linter.unusedSimpArgs false

/-- A writer's fields (made by Lay). -/
structure Wtr where
  b : List Int
  holds : List PA.S134
  e : Int
/-- What a writer may turn. -/
def wts : List Nat := [131, 134, 5]
/-- Block g is the writer x, all of whose memory is from B on. -/
def IsW (w : World) (B g : Nat) (x : Wtr) : Prop :=
  ∃ bv hv, w.heap[g]? = some (.cells #[bv, hv, .int .i64 x.e, .bool true] 131 (0, 0)) ∧ B ≤ g ∧
    (Kd.int .u8).R 5 w B (fun _ => True) bv x.b ∧ PA.k134.R 134 w B (fun _ => True) hv x.holds
theorem IsW.ty {w : World} {B g : Nat} {x : Wtr} (h : IsW w B g x) : TyB w g 131 := by
  obtain ⟨bv, hv, hg, _⟩ := h
  exact ⟨_, _, hg⟩
theorem IsW.ge {w : World} {B g : Nat} {x : Wtr} (h : IsW w B g x) : B ≤ g := by
  obtain ⟨bv, hv, hg, hB, _⟩ := h
  exact hB
theorem IsW.drawn {w w' : World} {B g : Nat} {x : Wtr} (h : IsW w B g x) (hd : Drawn0 w w') : IsW w' B g x := by
  obtain ⟨n, rfl⟩ := hd.out
  exact h
theorem IsW.below {w w' : World} {B g : Nat} {x : Wtr} (h : IsW w B g x) (hd : Below w.heap.size w w') : IsW w' B g x := by
  obtain ⟨bv, ev, hg, hB, hb, he⟩ := h
  exact ⟨bv, ev, blk_below hg hd, hB, Kd.R_below hb hd, Kd.R_below he hd⟩
theorem IsW.lower {w : World} {B B' g : Nat} {x : Wtr} (h : IsW w B g x) (hB : B' ≤ B) : IsW w B' g x := by
  obtain ⟨bv, ev, hg, hb, h1, h2⟩ := h
  exact ⟨bv, ev, hg, Nat.le_trans hB hb, Kd.R_lower h1 hB, Kd.R_lower h2 hB⟩
theorem IsW.lt {w : World} {B g : Nat} {x : Wtr} (h : IsW w B g x) : B < w.heap.size := by
  obtain ⟨bv, ev, hg, hb, h1, h2⟩ := h
  exact Nat.lt_of_le_of_lt hb (blk_lt hg)
theorem IsW.set_e {w : World} {B g : Nat} {x : Wtr} (h : IsW w B g x) (e : Int) : IsW (w.setCell ⟨g, 2, none⟩ (.int .i64 e)) B g { x with e := e } := by
  obtain ⟨bv, hv, hg, hB, hb, hh⟩ := h
  exact ⟨bv, hv, blk_put hg 2 _ (by simp), hB, Kd.R_set hb hg (by decide) 2 _, Kd.R_set hh hg (by decide) 2 _⟩
theorem IsW.kset {w : World} {B g : Nat} {x : Wtr} (h : IsW w B g x) (i : Nat) (u : Value) : KT B wts w (w.setCell ⟨g, i, none⟩ u) :=
  (KT.refl _ _ _).setCell h.ge h.ty (by simp [wts]) _

set_option maxHeartbeats 400000 in
theorem Lay_calls (w : World) :
    Calls Tryd.prog 75 #[] w fun e w' => e = .returned (.pointer (some ⟨w.heap.size, 0, none⟩)) ∧ IsW w' w.heap.size w.heap.size ⟨[], [], 0⟩ ∧ Below w.heap.size w w' := by
  go_enter Tryd.func75, Tryd.ntmps75
  go_wp2
  go_ret
  exact ⟨rfl, ⟨_, _, blk_new _ _, Nat.le_refl _, Kd.R_nil _ _ _ _ _, Kd.R_nil _ _ _ _ _⟩, below_alloc (Below.refl _ _) _⟩

set_option maxHeartbeats 400000 in
theorem WErr_calls (w : World) (B g : Nat) (x : Wtr) (h : IsW w B g x) :
    Calls Tryd.prog 96 #[.pointer (some ⟨g, 0, none⟩)] w fun e w' => e = .returned (.int .i64 x.e) ∧ w = w' := by
  obtain ⟨bv, hv, hg, hB, hb, hh⟩ := h
  have c2 := (blk_cell hg 2)
  have c3 := (blk_cell hg 3)
  simp at c2 c3
  go_enter Tryd.func96, Tryd.ntmps96
  go_wp2
  go_ret
  exact ⟨rfl, rfl⟩

set_option maxHeartbeats 400000 in
theorem WLen_calls (w : World) (B g : Nat) (x : Wtr) (h : IsW w B g x) :
    Calls Tryd.prog 78 #[.pointer (some ⟨g, 0, none⟩)] w fun e w' => e = .returned (.int .i64 (x.b.length : Int)) ∧ w = w' := by
  obtain ⟨bv, hv, hg, hB, hb, hh⟩ := h
  obtain ⟨A, c, rfl, hl, hC⟩ := Kd.R_reads hb
  have c0 := (blk_cell hg 0)
  simp at c0
  go_enter Tryd.func78, Tryd.ntmps78
  go_wp2
  go_ret
  exact ⟨rfl, rfl⟩

/-- An error is noted, if something is so. -/
def Wtr.fails (x : Wtr) (is : Bool) (e : Int) : Wtr := if x.e = 0 ∧ is = true then { x with e := e } else x

set_option maxHeartbeats 800000 in
theorem fails_calls (w : World) (B g : Nat) (x : Wtr) (is : Bool) (e : Int) (h : IsW w B g x) :
    Calls Tryd.prog 97 #[.pointer (some ⟨g, 0, none⟩), .bool is, .int .i64 e] w fun en w' => en = .returned (.bool ((x.fails is e).e != 0)) ∧ IsW w' B g (x.fails is e) ∧ KT B wts w w' := by
  by_cases h0 : x.e = 0
  · have n0 : (x.e == 0) = true := by simp [h0]
    cases is with
    | true =>
      have hs : IsW (w.setCell ⟨g, 2, none⟩ (.int .i64 e)) B g (x.fails true e) := by rw [Wtr.fails, if_pos ⟨h0, rfl⟩]; exact h.set_e e
      have hk := h.kset 2 (.int .i64 e)
      obtain ⟨bv, hv, hg, _⟩ := id h
      have c2 := (blk_cell hg 2)
      have f2 := (blk_frozen hg 2)
      simp at c2
      clear h0 hg
      go_enter Tryd.func97, Tryd.ntmps97
      go_wp2_with fail
      refine (WErr_calls _ B g x h).mono ?_
      rintro en w' ⟨rfl, rfl⟩
      go_wp2_with fail
      refine (WErr_calls _ B g _ hs).mono ?_
      rintro en w' ⟨rfl, rfl⟩
      go_wp2
      go_ret
      exact ⟨rfl, hs, hk⟩
    | false =>
      have hs : x.fails false e = x := if_neg (by simp)
      rw [hs]
      clear h0 hs
      go_enter Tryd.func97, Tryd.ntmps97
      go_wp2_with fail
      refine (WErr_calls _ B g x h).mono ?_
      rintro en w' ⟨rfl, rfl⟩
      go_wp2_with fail
      refine (WErr_calls _ B g _ h).mono ?_
      rintro en w' ⟨rfl, rfl⟩
      go_wp2
      go_ret
      exact ⟨rfl, h, KT.refl _ _ _⟩
  · have n0 : (x.e == 0) = false := by simp [h0]
    have hs : x.fails is e = x := if_neg (fun h => h0 h.1)
    rw [hs]
    clear h0 hs
    go_enter Tryd.func97, Tryd.ntmps97
    go_wp2_with fail
    refine (WErr_calls _ B g x h).mono ?_
    rintro en w' ⟨rfl, rfl⟩
    go_wp2_with fail
    refine (WErr_calls _ B g _ h).mono ?_
    rintro en w' ⟨rfl, rfl⟩
    go_wp2
    go_ret
    exact ⟨rfl, h, KT.refl _ _ _⟩

/-- Bytes are laid. -/
def Wtr.bytes (x : Wtr) (l : List Int) : Wtr := if x.e = 0 then { x with b := x.b ++ l } else x

set_option maxHeartbeats 800000 in
set_option maxRecDepth 100000 in
theorem WByte_calls (w : World) (B g : Nat) (x : Wtr) (h : IsW w B g x) (A : Option Addr) (c : Nat) (ys : List Int) (hC : (Kd.int .u8).C w A ys.length ys) (hl : x.b.length + ys.length ≤ 140737488351232) :
    Calls Tryd.prog 76 #[.pointer (some ⟨g, 0, none⟩), .slice A ys.length c] w fun e w' => e = .returned (.pointer (some ⟨g, 0, none⟩)) ∧ IsW w' B g (x.bytes ys) ∧ KT B wts w w' := by
  by_cases h0 : x.e = 0
  · have n0 : (x.e == 0) = true := by simp [h0]
    have hr : x.bytes ys = { x with b := x.b ++ ys } := if_pos h0
    rw [hr]
    clear h0 hr
    go_enter Tryd.func76, Tryd.ntmps76
    go_wp2_with fail
    refine (WErr_calls _ B g x h).mono ?_
    rintro en w' ⟨rfl, rfl⟩
    have hBs := h.lt
    obtain ⟨bv, hv, hg, hB, hb, hh⟩ := h
    obtain ⟨A1, c1, rfl, hl1, hC1⟩ := Kd.R_reads hb
    have c0 := (blk_cell hg 0)
    simp at c0
    go_wp2_with (at_builtin; refine Kd.R_append_rows (Kd.int .u8) (w0 := w) B rfl (.tmp 12) (.tmp 13) 22 5 (.int .u8 0) 1 rfl Tryd.underlying22 info5 rfl (by decide) (by decide) (.slice A1 x.b.length c1) x.b ys A ys.length c (fun _ => True) (fun _ => False) rfl rfl hb hC (fun _ _ h => h) (fun _ h => h.elim) (fun _ _ => trivial) (Below.refl _ _) (by omega) (by omega) ?_)
    intro v1 w1 hR1 hb1 hg1 _
    obtain ⟨A2, c2, rfl⟩ := Kd.R_slice hR1
    have hgx := blk_grown hg hg1 (Kd.R_ne hb hg (by decide))
    have hhx := Kd.R_over hh hb (by decide) hg1
    have kx : KT B wts w w1 := KT.grown (KT.refl _ _ _) hg1 (fun k hk => ⟨Kd.R_base hb k hk, 5, by simp [wts], R_tyB hb k hk⟩)
    have c0' := (blk_cell hgx 0)
    have f0 := (blk_frozen hgx 0)
    simp at c0'
    clear c0 hg hb hh hg1 hC hC1
    go_wp2
    go_ret
    refine ⟨rfl, ⟨_, hv, blk_put hgx 0 _ (by simp), hB, Kd.R_set hR1 hgx (by decide) 0 _, Kd.R_set hhx hgx (by decide) 0 _⟩, kx.setCell hB ⟨_, _, hgx⟩ (by simp [wts]) _⟩
  · have n0 : (x.e == 0) = false := by simp [h0]
    have hr : x.bytes ys = x := if_neg h0
    rw [hr]
    clear h0 hr
    go_enter Tryd.func76, Tryd.ntmps76
    go_wp2_with fail
    refine (WErr_calls _ B g x h).mono ?_
    rintro en w' ⟨rfl, rfl⟩
    go_wp2
    go_ret
    exact ⟨rfl, h, KT.refl _ _ _⟩

/-- The bytes of a number of two bytes. -/
def two (n : Int) : List Int := [n / 256, n % 256]
def twos (l : List Int) : List Int := l.flatMap two
theorem twos_len (l : List Int) : (twos l).length = 2 * l.length := by
  induction l with
  | nil => rfl
  | cons a l ih => simp [twos, two] at ih ⊢; omega
theorem twos_snoc (l : List Int) (n : Int) : twos (l ++ [n]) = twos l ++ two n := by simp [twos]
theorem Wtr.bytes_bytes (x : Wtr) (l l' : List Int) : (x.bytes l).bytes l' = x.bytes (l ++ l') := by
  unfold Wtr.bytes
  by_cases h : x.e = 0
  · rw [if_pos h, if_pos h, if_pos h, List.append_assoc]
  · rw [if_neg h, if_neg h]
    rw [if_neg h]
theorem Wtr.bytes_nil (x : Wtr) : x.bytes [] = x := by
  unfold Wtr.bytes
  split
  · simp
  · rfl
theorem Wtr.bytes_len (x : Wtr) (l : List Int) : (x.bytes l).b.length ≤ x.b.length + l.length := by
  unfold Wtr.bytes
  split
  · simp
  · omega

set_option maxHeartbeats 1600000 in
set_option maxRecDepth 100000 in
theorem WTwo_calls (w : World) (B g : Nat) (x : Wtr) (h : IsW w B g x) (A : Option Addr) (c : Nat) (ys : List Int) (hC : (Kd.int .u16).C w A ys.length ys) (hby : ∀ y, y ∈ ys → 0 ≤ y ∧ y < 65536) (hl : x.b.length + 2 * ys.length ≤ 140737488351232)
    (hfar : ∀ w', KT B wts w w' → (Kd.int .u16).C w' A ys.length ys) :
    Calls Tryd.prog 86 #[.pointer (some ⟨g, 0, none⟩), .slice A ys.length c] w fun e w' => e = .returned (.pointer (some ⟨g, 0, none⟩)) ∧ IsW w' B g (x.bytes (twos ys)) ∧ KT B wts w w' := by
  have HB := Aside0.mk hby
  have HF := Aside0.mk hfar
  clear hby hfar
  have h0 : IsW w B g (x.bytes (twos (ys.take 0))) := by rw [List.take_zero, show twos [] = [] from rfl, Wtr.bytes_nil]; exact h
  go_enter Tryd.func86, Tryd.ntmps86
  go_wp2_with fail
  go_loopw [6, 9] (fun a i w' => ∃ k : Nat, k ≤ ys.length ∧ i = .int .i64 k ∧ IsW w' B g (x.bytes (twos (ys.take k))) ∧ KT B wts w w') (fun _ i _ => ys.length - (intOf i).toNat)
  case atStart => exact ⟨0, Nat.zero_le _, rfl, h0, KT.refl _ _ _⟩
  case round =>
    clear h0
    obtain ⟨k, hk, rfl, hW, hk1⟩ := hrel
    by_cases hlt : k < ys.length
    · obtain ⟨ad, rfl, hcell⟩ := Kd.at_int (HF.out _ hk1) (k : Int) (by omega) (by omega)
      rw [Int.toNat_natCast] at hcell
      have hx : rd ys (k : Int) = ys[k] := by rw [rd, Int.toNat_natCast, List.getD_eq_getElem?_getD, List.getElem?_eq_getElem hlt]; rfl
      have hs : twos (ys.take (k + 1)) = twos (ys.take k) ++ two ys[k] := by
        rw [List.take_succ_eq_append_getElem hlt, twos_snoc]
      have hr := HB.out _ (List.getElem_mem hlt)
      rw [hx] at hcell
      obtain ⟨n, hn⟩ : ∃ n, ys[k] = n := ⟨_, rfl⟩
      rw [hn] at hcell hs hr
      have HS := Aside0.mk hs
      clear hs hx hn
      go_wp2_with fail
      have hb := WByte_calls (wr.alloc (.cells #[.int .u8 (n / 256), .int .u8 (n % 256)] 5)) B g (x.bytes (twos (ys.take k))) (hW.below (below_alloc (Below.refl _ _) _)) (some ⟨wr.heap.size, 0, none⟩) 2 [n / 256, n % 256] (lit5 wr [n / 256, n % 256] (by simp)) (by
        have h1 := x.bytes_len (twos (ys.take k))
        rw [twos_len, List.length_take] at h1
        have h2 : [n / 256, n % 256].length = 2 := rfl
        omega)
      rw [Wtr.bytes_bytes, show [n / 256, n % 256] = two n from rfl, ← HS.out] at hb
      refine hb.mono ?_
      rintro e w1 ⟨rfl, hW1, hk2⟩
      have hK := (hk1.alloc (.cells #[.int .u8 (n / 256), .int .u8 (n % 256)] 5)).trans hk2
      clear hb hcell
      go_wp2
      exact ⟨⟨k + 1, by omega, by simp, hW1, hK⟩, by simp [intOf]; omega⟩
    · have hke : k = ys.length := by omega
      subst hke
      rw [List.take_length] at hW
      go_wp2
      go_ret
      exact ⟨rfl, hW, hk1⟩
/-- A list of numbers, just made. -/
theorem litR (w : World) (e : Nat) (k : IntKind) (xs : List Int) (hl : xs.length ≤ 140737488351232) : (Kd.int k).R e (w.alloc (.cells (nums k xs).toArray e)) w.heap.size (fun _ => True) (.slice (some ⟨w.heap.size, 0, none⟩) xs.length xs.length) xs :=
  Kd.R_of_own (own_lit w w.heap.size e k xs (Nat.le_refl _) (by omega)) (fun _ _ => trivial)
theorem litC {w : World} {e B : Nat} {k : IntKind} {g n c : Nat} {xs : List Int} {ok : Nat → Prop} (h : (Kd.int k).R e w B ok (.slice (some ⟨g, 0, none⟩) n c) xs) : (Kd.int k).C w (some ⟨g, 0, none⟩) n xs := by
  obtain ⟨A, c', he, hl, hC⟩ := Kd.R_reads h
  injection he with h1 h2 h3
  subst h1 h2
  exact hC

/-- The bytes of a number of four bytes. -/
def four (n : Int) : List Int := twos [n / 65536, n % 65536]
def fours (l : List Int) : List Int := l.flatMap four
theorem fours_len (l : List Int) : (fours l).length = 4 * l.length := by
  induction l with
  | nil => rfl
  | cons a l ih => simp [fours, four, twos, two] at ih ⊢; omega
theorem fours_snoc (l : List Int) (n : Int) : fours (l ++ [n]) = fours l ++ four n := by simp [fours]

set_option maxHeartbeats 1600000 in
set_option maxRecDepth 100000 in
theorem WFour_calls (w : World) (B g : Nat) (x : Wtr) (h : IsW w B g x) (A : Option Addr) (c : Nat) (ys : List Int) (hC : (Kd.int .u32).C w A ys.length ys) (hby : ∀ y, y ∈ ys → 0 ≤ y ∧ y < 4294967296) (hl : x.b.length + 4 * ys.length ≤ 140737488351232)
    (hfar : ∀ w', KT B wts w w' → (Kd.int .u32).C w' A ys.length ys) :
    Calls Tryd.prog 87 #[.pointer (some ⟨g, 0, none⟩), .slice A ys.length c] w fun e w' => e = .returned (.pointer (some ⟨g, 0, none⟩)) ∧ IsW w' B g (x.bytes (fours ys)) ∧ KT B wts w w' := by
  have HB := Aside0.mk hby
  have HF := Aside0.mk hfar
  clear hby hfar
  have h0 : IsW w B g (x.bytes (fours (ys.take 0))) := by rw [List.take_zero, show fours [] = [] from rfl, Wtr.bytes_nil]; exact h
  go_enter Tryd.func87, Tryd.ntmps87
  go_wp2_with fail
  go_loopw [6, 9] (fun a i w' => ∃ k : Nat, k ≤ ys.length ∧ i = .int .i64 k ∧ IsW w' B g (x.bytes (fours (ys.take k))) ∧ KT B wts w w') (fun _ i _ => ys.length - (intOf i).toNat)
  case atStart => exact ⟨0, Nat.zero_le _, rfl, h0, KT.refl _ _ _⟩
  case round =>
    clear h0
    obtain ⟨k, hk, rfl, hW, hk1⟩ := hrel
    by_cases hlt : k < ys.length
    · obtain ⟨ad, rfl, hcell⟩ := Kd.at_int (HF.out _ hk1) (k : Int) (by omega) (by omega)
      rw [Int.toNat_natCast] at hcell
      have hx : rd ys (k : Int) = ys[k] := by rw [rd, Int.toNat_natCast, List.getD_eq_getElem?_getD, List.getElem?_eq_getElem hlt]; rfl
      have hs : fours (ys.take (k + 1)) = fours (ys.take k) ++ four ys[k] := by
        rw [List.take_succ_eq_append_getElem hlt, fours_snoc]
      have hr := HB.out _ (List.getElem_mem hlt)
      rw [hx] at hcell
      obtain ⟨n, hn⟩ : ∃ n, ys[k] = n := ⟨_, rfl⟩
      rw [hn] at hcell hs hr
      have HS := Aside0.mk hs
      clear hs hx hn
      go_wp2_with fail
      have hR := litR wr 37 .u16 [n / 65536, n % 65536] (by simp)
      have hb := WTwo_calls (wr.alloc (.cells #[.int .u16 (n / 65536), .int .u16 (n % 65536)] 37)) B g (x.bytes (fours (ys.take k))) (hW.below (below_alloc (Below.refl _ _) _)) (some ⟨wr.heap.size, 0, none⟩) 2 [n / 65536, n % 65536] (litC hR) (by
        intro y hy
        simp at hy
        omega) (by
        have h1 := x.bytes_len (fours (ys.take k))
        rw [fours_len, List.length_take] at h1
        have h2 : [n / 65536, n % 65536].length = 2 := rfl
        omega) (fun w' hk => litC (R_kt hR hk (by decide)))
      rw [Wtr.bytes_bytes, show twos [n / 65536, n % 65536] = four n from rfl, ← HS.out] at hb
      refine hb.mono ?_
      rintro e w1 ⟨rfl, hW1, hk2⟩
      have hK := (hk1.alloc (.cells #[.int .u16 (n / 65536), .int .u16 (n % 65536)] 37)).trans hk2
      clear hb hcell hR
      go_wp2
      exact ⟨⟨k + 1, by omega, by simp, hW1, hK⟩, by simp [intOf]; omega⟩
    · have hke : k = ys.length := by omega
      subst hke
      rw [List.take_length] at hW
      go_wp2
      go_ret
      exact ⟨rfl, hW, hk1⟩
end Go.Proofs.YthafedmlbialiaaDoor
