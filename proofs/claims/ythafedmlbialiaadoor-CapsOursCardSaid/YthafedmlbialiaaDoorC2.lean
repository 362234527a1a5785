/-
  The walks of caps' questions: find, Number, Refreshes, IPv4.
-/
import Derived.Test.YthafedmlbialiaaDoorC1
import Derived.Laws.EntriesVeiled
namespace Go.Proofs.YthafedmlbialiaaDoor
open Go.RowKit Go.Proofs.YthafedmlbialiaaDoorW.PrintWords Go.Proofs.YthafedmlbialiaaDoorW.PrintLast Go.Proofs.YthafedmlbialiaaDoorW.PrintMore
set_option linter.unusedVariables false
set_option linter.unusedSimpArgs false

/-- A question on a value, asked of a function: what it answers, in whatever world that keeps I. -/
structure Asks (fv : Nat) (q : List Int → Bool) (I : World → Prop) : Prop where
  keep : ∀ {w w' : World}, I w → Below w.heap.size w w' → I w'
  enter : ∀ (args : Array Value) (w : World), (callFunc fv args).run Tryd.prog w = .ok (.enter fv args) w
  call : ∀ (w : World) (A : Option Addr) (c : Nat) (ys : List Int), I w → (Kd.int .u8).C w A ys.length ys → ys.length ≤ c →
    Calls Tryd.prog fv #[.slice A ys.length c] w fun e w' => e = .returned (.bool (q ys)) ∧ Drawn0 w w'

/-- The captured code and function in their blocks. -/
structure Capt (fv : Nat) (cd : Int) (b : Nat) (w : World) : Prop where
  code : w.cell? ⟨b, 0, none⟩ = some (.int .u8 cd)
  func : w.cell? ⟨b + 1, 0, none⟩ = some (.func (.func fv) #[] #[])
theorem Capt.below {fv : Nat} {cd : Int} {b : Nat} {w w' : World} (h : Capt fv cd b w) (hb : Below w.heap.size w w') : Capt fv cd b w' := ⟨pw_cell_below hb h.code, pw_cell_below hb h.func⟩

set_option maxHeartbeats 800000 in
set_option maxRecDepth 100000 in
theorem find1_calls (fv : Nat) (q : List Int → Bool) (I : World → Prop) (hq : Asks fv q I) (x : PA.S61) (cd : Int) (b : Nat) (w : World) (hI : I w) (hc : Capt fv cd b w) (A : Option Addr) (c : Nat) (hC : (Kd.int .u8).C w A x.f1.length x.f1) (hl : x.f1.length ≤ c) :
    Calls Tryd.prog 98 #[.agg #[.int .u8 x.f0, .slice A x.f1.length c], .pointer (some ⟨b, 0, none⟩), .pointer (some ⟨b + 1, 0, none⟩)] w fun e w' => e = .returned (.bool (x.f0 == cd && q x.f1)) ∧ Below w.heap.size w w' := by
  have HQ := Aside0.mk hq
  clear hq
  have hb := below_alloc (Below.refl w.heap.size w) (.cells #[.int .u8 x.f0, .slice A x.f1.length c] 61)
  have hc2 := hc.below hb
  have c0 := hc2.code
  have c1 := hc2.func
  obtain ⟨x0, x1⟩ := x
  dsimp only at *
  by_cases h0 : x0 = cd
  · have n0 : (x0 == cd) = true := by simp [h0]
    rw [n0]
    simp only [Bool.true_and]
    clear h0
    have hcall := HQ.out.call _ A c x1 (HQ.out.keep hI hb) (Kd.C_below hC hb) hl
    have HC := Aside0.mk hcall
    have hen := HQ.out.enter
    clear hcall
    go_enter Tryd.func98, Tryd.ntmps98
    go_wp2_with fail
    refine HC.out.mono ?_
    rintro e w1 ⟨rfl, hd⟩
    have hb1 := hb.trans (Drawn0.below hd |>.mono (by simp))
    go_wp2
    go_ret
    exact ⟨rfl, hb1⟩
  · have n0 : (x0 == cd) = false := by simp [h0]
    rw [n0]
    simp only [Bool.false_and]
    clear h0
    go_enter Tryd.func98, Tryd.ntmps98
    go_wp2
    go_ret
    exact ⟨rfl, hb⟩

/-- Where the first one is of which p holds; -1 without one. -/
def idxOf (p : PA.S61 → Bool) (l : List PA.S61) : Int := match l.findIdx? p with
  | some i => i
  | none => -1
theorem idxOf_none {p : PA.S61 → Bool} {l : List PA.S61} (h : ∀ x, x ∈ l → p x = false) : idxOf p l = -1 := by
  unfold idxOf
  rw [List.findIdx?_eq_none_iff.2 h]
theorem idxOf_some {p : PA.S61 → Bool} {l : List PA.S61} {k : Nat} (hk : k < l.length) (hp : p l[k] = true) (h : ∀ j (hj : j < k), p (l[j]'(by omega)) = false) : idxOf p l = k := by
  unfold idxOf
  rw [List.findIdx?_eq_some_iff_getElem.2 ⟨hk, hp, fun j hj => by rw [h j hj]; simp⟩]

set_option maxHeartbeats 1600000 in
set_option maxRecDepth 100000 in
theorem IndexFunc_calls (fv : Nat) (q : List Int → Bool) (I : World → Prop) (hq : Asks fv q I) (cd : Int) (b : Nat) (w : World) (hI : I w) (hc : Capt fv cd b w) (A : Option Addr) (c : Nat) (l : List PA.S61) (hC : PA.k61.C w A l.length l) (hl : l.length ≤ 140737488351232) :
    Calls Tryd.prog 95 #[.slice A l.length c, .func (.func 98) #[] #[.pointer (some ⟨b, 0, none⟩), .pointer (some ⟨b + 1, 0, none⟩)]] w fun e w' => e = .returned (.int .i64 (idxOf (fun x => x.f0 == cd && q x.f1) l)) ∧ Below w.heap.size w w' := by
  have HQ := Aside0.mk hq
  have HI := Aside0.mk hI
  clear hq hI
  obtain ⟨p, hp⟩ : ∃ p : PA.S61 → Bool, (fun x => x.f0 == cd && q x.f1) = p := ⟨_, rfl⟩
  rw [hp]
  have HP := Aside0.mk hp
  clear hp
  go_enter Tryd.func95, Tryd.ntmps95
  go_wp2_with fail
  go_loopw [5, 8] (fun a i w' => ∃ k : Nat, k ≤ l.length ∧ i = .int .i64 k ∧ Aside0 (∀ j (hj : j < k) (hl : j < l.length), p l[j] = false) ∧ Aside0 (Below w.heap.size w w')) (fun _ i _ => l.length - (intOf i).toNat)
  case atStart => exact ⟨0, Nat.zero_le _, rfl, ⟨fun j hj => by omega⟩, ⟨Below.refl _ _⟩⟩
  case round =>
    obtain ⟨k, hk, rfl, hno, hb⟩ := hrel
    by_cases hlt : k < l.length
    · obtain ⟨ad, A1, c1, rfl, q0, q1, hl1, hC1⟩ := PA.at_T61 (Kd.C_below hC hb.out) (k : Int) (by omega) (by omega)
      rw [Int.toNat_natCast] at q0 q1
      have hx : PA.rd_T61 l (k : Int) = l[k] := by rw [PA.rd_T61, Int.toNat_natCast, List.getD_eq_getElem?_getD, List.getElem?_eq_getElem hlt]; rfl
      rw [hx] at q0 q1 hl1 hC1
      obtain ⟨x, hxe⟩ : ∃ x, l[k] = x := ⟨_, rfl⟩
      rw [hxe] at q0 q1 hl1 hC1
      have HX := Aside0.mk hxe
      clear hx hxe
      have hI2 := HQ.out.keep HI.out hb.out
      have hc2 := hc.below hb.out
      have hcall := find1_calls fv q I HQ.out x cd b wr hI2 hc2 A1 c1 hC1 hl1
      have hpx : (x.f0 == cd && q x.f1) = p x := by rw [← HP.out]
      rw [hpx] at hcall
      have HC := Aside0.mk hcall
      clear hcall hpx
      go_wp2_with fail
      refine HC.out.mono ?_
      rintro e w2 ⟨rfl, hb2⟩
      have hb3 : Below w.heap.size w w2 := hb.out.trans (hb2.mono hb.out.size)
      have HB3 := Aside0.mk hb3
      clear hb2 hb3
      cases hpx : p x with
      | true =>
        have hi : idxOf p l = k := idxOf_some hlt (by rw [HX.out]; exact hpx) (fun j hj => hno.out j hj (by omega))
        have HIX := Aside0.mk hi
        clear hpx hi
        go_wp2
        go_ret
        exact ⟨congrArg (fun z => Ending.returned (.int .i64 z)) HIX.out.symm, HB3.out⟩
      | false =>
        have hno2 := Aside0.mk (show ∀ j (hj : j < k + 1) (hl : j < l.length), p l[j] = false from fun j hj hl => by
          by_cases hjk : j < k
          · exact hno.out j hjk hl
          · obtain rfl : j = k := by omega
            rw [HX.out]; exact hpx)
        clear hpx hno
        go_wp2
        go_roundw
        case rel => exact ⟨k + 1, by omega, by go_num, hno2, HB3⟩
        case measure => simp [intOf]; omega
    · have hke : k = l.length := by omega
      have hi : idxOf p l = -1 := idxOf_none (fun x hx => by
        obtain ⟨j, hj, rfl⟩ := List.getElem_of_mem hx
        exact hno.out j (by omega) hj)
      have HIX := Aside0.mk hi
      have hge : l.length ≤ k := by omega
      clear hke hi hno
      go_wp2
      go_ret
      exact ⟨congrArg (fun z => Ending.returned (.int .i64 z)) HIX.out.symm, hb.out⟩

/-- The first one of which p holds. -/
def found (p : PA.S61 → Bool) (l : List PA.S61) : PA.S61 × Bool := match l.find? p with
  | some x => (x, true)
  | none => (⟨0, []⟩, false)
theorem found_idx (p : PA.S61 → Bool) (l : List PA.S61) : (idxOf p l = -1 ∧ found p l = (⟨0, []⟩, false)) ∨ ∃ k, ∃ h : k < l.length, idxOf p l = k ∧ found p l = (l[k], true) := by
  unfold idxOf found
  cases h : l.findIdx? p with
  | none =>
    left
    rw [List.find?_eq_none.2 (fun x hx => by rw [List.findIdx?_eq_none_iff.1 h x hx]; simp)]
    exact ⟨rfl, rfl⟩
  | some k =>
    right
    obtain ⟨hk, hp, hn⟩ := List.findIdx?_eq_some_iff_getElem.1 h
    refine ⟨k, hk, rfl, ?_⟩
    have : l.find? p = some l[k] := by
      rw [List.find?_eq_some_iff_getElem]
      exact ⟨hp, k, hk, rfl, fun j hj => by have := hn j hj; simpa using this⟩
    rw [this]

set_option maxHeartbeats 1600000 in
set_option maxRecDepth 100000 in
theorem find_calls (fv : Nat) (q : List Int → Bool) (I : World → Prop) (hq : Asks fv q I) (cd : Int) (w : World) (hI : I w) (A : Option Addr) (c : Nat) (l : List PA.S61) (hC : PA.k61.C w A l.length l) (hl : l.length ≤ 140737488351232) (x : PA.S61) (is : Bool) (hx : found (fun x => x.f0 == cd && q x.f1) l = (x, is)) :
    Calls Tryd.prog 81 #[.slice A l.length c, .int .u8 cd, .func (.func fv) #[] #[]] w fun e w' => ∃ A1 c1, e = .returned (.tuple #[.agg #[.int .u8 x.f0, .slice A1 x.f1.length c1], .bool is]) ∧ (Kd.int .u8).C w' A1 x.f1.length x.f1 ∧ x.f1.length ≤ c1 ∧ Below w.heap.size w w' := by
  have b1 := below_alloc (Below.refl w.heap.size w) (.cells #[.int .u8 cd] 5)
  have b2 := below_alloc b1 (.cells #[.func (.func fv) #[] #[]] 36)
  have b3 := below_alloc b2 (.cells #[.int .u8 0, .slice none 0 0] 61)
  have hcap : Capt fv cd w.heap.size (((w.alloc (.cells #[.int .u8 cd] 5)).alloc (.cells #[.func (.func fv) #[] #[]] 36)).alloc (.cells #[.int .u8 0, .slice none 0 0] 61)) := by
    refine ⟨cell_alloc (cell_alloc ((blk_cell (blk_new w (.cells #[.int .u8 cd] 5)) 0).trans rfl) _) _, cell_alloc ?_ _⟩
    have h := blk_cell (blk_new (w.alloc (.cells #[.int .u8 cd] 5)) (.cells #[.func (.func fv) #[] #[]] 36)) 0
    rw [show (w.alloc (.cells #[.int .u8 cd] 5)).heap.size = w.heap.size + 1 by simp] at h
    exact h.trans rfl
  have hbox : (((w.alloc (.cells #[.int .u8 cd] 5)).alloc (.cells #[.func (.func fv) #[] #[]] 36)).alloc (.cells #[.int .u8 0, .slice none 0 0] 61)).heap[w.heap.size + 1 + 1]? = some (.cells #[.int .u8 0, .slice none 0 0] 61 (0, 0)) := by
    have h := blk_new ((w.alloc (.cells #[.int .u8 cd] 5)).alloc (.cells #[.func (.func fv) #[] #[]] 36)) (.cells #[.int .u8 0, .slice none 0 0] 61)
    rw [show ((w.alloc (.cells #[.int .u8 cd] 5)).alloc (.cells #[.func (.func fv) #[] #[]] 36)).heap.size = w.heap.size + 2 by simp] at h
    exact h
  have hcall := IndexFunc_calls fv q I hq cd w.heap.size _ (hq.keep hI b3) hcap A c l (Kd.C_below hC b3) hl
  have hsz : (((w.alloc (.cells #[.int .u8 cd] 5)).alloc (.cells #[.func (.func fv) #[] #[]] 36)).alloc (.cells #[.int .u8 0, .slice none 0 0] 61)).heap.size = w.heap.size + 3 := by simp
  obtain ⟨W, hW⟩ : ∃ W, (((w.alloc (.cells #[.int .u8 cd] 5)).alloc (.cells #[.func (.func fv) #[] #[]] 36)).alloc (.cells #[.int .u8 0, .slice none 0 0] 61)) = W := ⟨_, rfl⟩
  rw [hW] at b3 hbox hcall hsz
  have HC := Aside0.mk hcall
  have HB3 := Aside0.mk b3
  have HS := Aside0.mk hsz
  have HW := Aside0.mk hW
  clear b1 b2 b3 hcap hsz hcall hI hW
  have hfi := found_idx (fun x => x.f0 == cd && q x.f1) l
  rw [hx] at hfi
  obtain ⟨ix, hix⟩ : ∃ ix, idxOf (fun x => x.f0 == cd && q x.f1) l = ix := ⟨_, rfl⟩
  rw [hix] at hfi HC
  clear hix hx hq
  rcases hfi with ⟨rfl, hfe⟩ | ⟨k, hk, rfl, hfe⟩
  · injection hfe with h1 h2
    subst h1 h2
    go_enter Tryd.func81, Tryd.ntmps81
    go_wp2_with fail
    rw [HW.out]
    refine HC.out.mono ?_
    rintro e w4 ⟨rfl, hb4⟩
    have hbx := blk_below hbox hb4
    have f0 := blk_frozen hbx 0
    have f1 := blk_frozen hbx 1
    have c0 := blk_cell hbx 0
    have c1 := blk_cell hbx 1
    simp at c0 c1
    have hB : Below w.heap.size w w4 := HB3.out.trans (hb4.mono (by have := HS.out; omega))
    have hset := blk_put (blk_put hbx 0 (.int .u8 0) rfl) 1 (.slice none 0 0) rfl
    have hB2 := (hB.setCell (p := ⟨w.heap.size + 1 + 1, 0, none⟩) (show w.heap.size ≤ w.heap.size + 1 + 1 by omega) (.int .u8 0)).setCell (p := ⟨w.heap.size + 1 + 1, 1, none⟩) (show w.heap.size ≤ w.heap.size + 1 + 1 by omega) (.slice none 0 0)
    go_wp2
    have q0 := blk_cell hset 0
    have q1 := blk_cell hset 1
    generalize (w4.setCell _ _).setCell _ _ = W5 at q0 q1 hB2 ⊢
    exact bodyPost_ret (v := .tuple #[.agg #[.int .u8 0, .slice none 0 0], .bool false]) (by simp at q0 q1; simp [results, Tryd.results81, go_sem, q0, q1]) rfl ⟨none, 0, rfl, Kd.C_nil _ _, Nat.zero_le _, hB2⟩
  · injection hfe with h1 h2
    subst h1 h2
    obtain ⟨ad, A1, c1, rfl, g0, g1, hl1, hC1⟩ := PA.at_T61 hC (k : Int) (by omega) (by omega)
    rw [Int.toNat_natCast] at g0 g1
    have hx : PA.rd_T61 l (k : Int) = l[k] := by rw [PA.rd_T61, Int.toNat_natCast, List.getD_eq_getElem?_getD, List.getElem?_eq_getElem hk]; rfl
    rw [hx] at g0 g1 hl1 hC1
    obtain ⟨x, hxe⟩ : ∃ x, l[k] = x := ⟨_, rfl⟩
    rw [hxe] at g0 g1 hl1 hC1 ⊢
    clear hx hxe hC
    go_enter Tryd.func81, Tryd.ntmps81
    go_wp2_with fail
    rw [HW.out]
    refine HC.out.mono ?_
    rintro e w4 ⟨rfl, hb4⟩
    have hbx := blk_below hbox hb4
    have f0 := blk_frozen hbx 0
    have f1 := blk_frozen hbx 1
    have c0 := blk_cell hbx 0
    have c1' := blk_cell hbx 1
    simp at c0 c1'
    replace g0 := pw_cell_below hb4 (pw_cell_below HB3.out g0)
    replace g1 := pw_cell_below hb4 (pw_cell_below HB3.out g1)
    have hB : Below w.heap.size w w4 := HB3.out.trans (hb4.mono (by have := HS.out; omega))
    have hset := blk_put (blk_put hbx 0 (.int .u8 x.f0) rfl) 1 (.slice A1 x.f1.length c1) rfl
    have hB2 := (hB.setCell (p := ⟨w.heap.size + 1 + 1, 0, none⟩) (show w.heap.size ≤ w.heap.size + 1 + 1 by omega) (.int .u8 x.f0)).setCell (p := ⟨w.heap.size + 1 + 1, 1, none⟩) (show w.heap.size ≤ w.heap.size + 1 + 1 by omega) (.slice A1 x.f1.length c1)
    go_wp2
    have q0 := blk_cell hset 0
    have q1 := blk_cell hset 1
    generalize (w4.setCell _ _).setCell _ _ = W5 at q0 q1 hB2 ⊢
    exact bodyPost_ret (v := .tuple #[.agg #[.int .u8 x.f0, .slice A1 x.f1.length c1], .bool true]) (by simp at q0 q1; simp [results, Tryd.results81, go_sem, q0, q1]) rfl ⟨A1, c1, rfl, Kd.C_below hC1 hB2, hl1, hB2⟩
end Go.Proofs.YthafedmlbialiaaDoor
