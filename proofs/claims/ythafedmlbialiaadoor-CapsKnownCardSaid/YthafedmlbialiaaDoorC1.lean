/-
  The walk of caps.Read.
-/
import Derived.Test.YthafedmlbialiaaDoorC0
namespace Go.Proofs.YthafedmlbialiaaDoor
open Go.RowKit Go.Proofs.YthafedmlbialiaaDoorW.PrintWords Go.Proofs.YthafedmlbialiaaDoorW.PrintLast Go.Proofs.YthafedmlbialiaaDoorW.PrintMore
set_option linter.unusedVariables false
set_option linter.unusedSimpArgs false

/-- The two faults of parameters, as start-up lays them. -/
structure GlobC (w : World) : Prop where
  o0 : w.cell? ⟨0, 0, none⟩ = some (.int .u8 2)
  o1 : w.cell? ⟨0, 1, none⟩ = some (.int .u8 4)
  c0 : w.cell? ⟨1, 0, none⟩ = some (.int .u8 2)
  c1 : w.cell? ⟨1, 1, none⟩ = some (.int .u8 0)
theorem GlobC.below {w w' : World} (h : GlobC w) (hb : Below w.heap.size w w') : GlobC w' :=
  ⟨pw_cell_below hb h.o0, pw_cell_below hb h.o1, pw_cell_below hb h.c0, pw_cell_below hb h.c1⟩
theorem GlobC.back {B : Nat} {w w' : World} (h : GlobC w) (hB : w.heap.size ≤ B) (hb : Below B w w') : GlobC w' := h.below (hb.mono hB)

/-- The methods' contracts, with names for what comes of them. -/
theorem RByte_as {w : World} {B g : Nat} {r r' : Rdr} {n : Int} (h : IsR w B g r) (ha : acc8 (r.taken 1) = n) (hr : r.took 1 = r') :
    Calls Tryd.prog 58 #[.pointer (some ⟨g, 0, none⟩)] w fun e w' => e = .returned (.int .u8 n) ∧ IsR w' B g r' ∧ KT B [121, 3] w w' := by
  subst ha hr
  exact (RByte_calls w B g r h).mono fun e w' ⟨h1, h2, h3⟩ => ⟨h1, h2, h3.mono (Nat.le_refl _) (by simp)⟩
theorem Take_as {w : World} {B g : Nat} {r r' : Rdr} {n : Int} {ys : List Int} (h : IsR w B g r) (ha : r.taken n = ys) (hr : r.took n = r') :
    Calls Tryd.prog 61 #[.pointer (some ⟨g, 0, none⟩), .int .i64 n] w fun e w' => ∃ A c, e = .returned (.slice A ys.length c) ∧ (Kd.int .u8).R 5 w' B (fun _ => True) (.slice A ys.length c) ys ∧ IsR w' B g r' ∧ KT B [121, 3] w w' := by
  subst ha hr
  refine (Take_calls w B g r n h).mono fun e w' ⟨v, h1, hv, h2, h3⟩ => ?_
  obtain ⟨A, c, rfl⟩ := Kd.R_slice hv
  exact ⟨A, c, h1, hv, h2, h3.mono (Nat.le_refl _) (by simp)⟩
theorem Left_as {w : World} {B g : Nat} {r : Rdr} (h : IsR w B g r) :
    Calls Tryd.prog 57 #[.pointer (some ⟨g, 0, none⟩)] w fun e w' => e = .returned (.int .i64 r.left) ∧ IsR w' B g r ∧ KT B [121, 3] w w' :=
  (Left_calls w B g r h).mono fun e w' ⟨h1, h2⟩ => ⟨h1, h.drawn h2, .drawn h2⟩
theorem Open_as {w : World} {B g : Nat} {r r' : Rdr} {n : Int} (h : IsR w B g r) (hf : Aside0 (r.ends.length < 1000000)) (hr : r.opened n = r') :
    Calls Tryd.prog 59 #[.pointer (some ⟨g, 0, none⟩), .int .i64 n] w fun e w' => e = .returned (.tuple #[]) ∧ IsR w' B g r' ∧ KT B [121, 3] w w' := by
  subst hr
  exact Open_calls w B g r n h hf.out
theorem Close_as {w : World} {B g : Nat} {r r' : Rdr} (h : IsR w B g r) (hr : r.closed = r') :
    Calls Tryd.prog 62 #[.pointer (some ⟨g, 0, none⟩)] w fun e w' => e = .returned (.tuple #[]) ∧ IsR w' B g r' ∧ KT B [121, 3] w w' := by
  subst hr
  exact (Close_calls w B g r h).mono fun e w' ⟨h1, h2, h3⟩ => ⟨h1, h2, h3.mono (Nat.le_refl _) (by simp)⟩

/-- What a round keeps beside the reader: the list, the fault's own block, all that was there. -/
structure Keep15 (w0 : World) (v : Value) (l : List PA.S61) (w : World) : Prop where
  list : PA.k61.R 61 w w0.heap.size (fun _ => True) v l
  fault : w.heap[w0.heap.size]? = some (.cells #[.int .u8 0, .int .u8 0] 26 (0, 0))
  below : Below w0.heap.size w0 w
theorem Keep15.kt {w0 w w' : World} {v : Value} {l : List PA.S61} (h : Keep15 w0 v l w) (hk : KT w0.heap.size [121, 3] w w') : Keep15 w0 v l w' :=
  ⟨R_kt h.list hk (by decide), blk_kt h.fault hk (by decide), below_kt (Nat.le_refl _) h.below hk⟩

/-- The same while a capability is being put together in block p. -/
structure Keep15p (w0 : World) (v : Value) (l : List PA.S61) (p : Nat) (cd : Int) (u : Value) (w : World) : Prop where
  list : PA.k61.R 61 w w0.heap.size (fun k => True ∧ k < p) v l
  fault : w.heap[w0.heap.size]? = some (.cells #[.int .u8 0, .int .u8 0] 26 (0, 0))
  below : Below w0.heap.size w0 w
  box : w.heap[p]? = some (.cells #[.int .u8 cd, u] 61 (0, 0))
  ge : w0.heap.size ≤ p
theorem Keep15.boxed {w0 w : World} {v : Value} {l : List PA.S61} (h : Keep15 w0 v l w) (cd : Int) (u : Value) : Keep15p w0 v l w.heap.size cd u (w.alloc (.cells #[.int .u8 cd, u] 61)) :=
  ⟨Kd.R_alloc (R_elder h.list) _, blk_alloc h.fault _, h.below.trans ((below_alloc (Below.refl _ _) _).mono h.below.size), blk_new _ _, h.below.size⟩
theorem Keep15p.kt {w0 w w' : World} {v u : Value} {l : List PA.S61} {p : Nat} {cd : Int} (h : Keep15p w0 v l p cd u w) (hk : KT w0.heap.size [121, 3] w w') : Keep15p w0 v l p cd u w' :=
  ⟨R_kt h.list hk (by decide), blk_kt h.fault hk (by decide), below_kt (Nat.le_refl _) h.below hk, blk_kt h.box hk (by decide), h.ge⟩
theorem Keep15p.set {w0 w : World} {v u : Value} {l : List PA.S61} {p : Nat} {cd : Int} (h : Keep15p w0 v l p cd u w) (u' : Value) : Keep15p w0 v l p cd u' (w.setCell ⟨p, 1, none⟩ u') :=
  ⟨Kd.R_far h.list (p := ⟨p, 1, none⟩) (fun k hk => by have := hk.2; show k ≠ p; omega) u', blk_far h.fault (blk_ne h.fault h.box (by decide)) _, h.below.setCell h.ge _, blk_put h.box 1 _ rfl, h.ge⟩

set_option maxHeartbeats 4000000 in
set_option maxRecDepth 100000 in
theorem capsRead_calls (k : Nat) (A : Option Addr) (c : Nat) (xs : List Int) (l : List PA.S61) (f0 f1 : Int) (w : World) (hG : GlobC w) (hC : (Kd.int .u8).C w A xs.length xs) (hl : xs.length ≤ 140737488351232) (hb : ∀ x, x ∈ xs → 0 ≤ x ∧ x < 256)
    (h : capsRead.f k xs = some (l, f0, f1)) :
    Calls Tryd.prog 15 #[.slice A xs.length c] w fun e w' => ∃ v, e = .returned (.tuple #[v, .agg #[.int .u8 f0, .int .u8 f1]]) ∧ PA.k61.R 61 w' w.heap.size (fun _ => True) v l ∧ Below w.heap.size w w' := by
  have H := Aside0.mk h
  clear h
  have hGw := Aside0.mk hG
  go_enter Tryd.func15, Tryd.ntmps15
  go_wp2_with fail
  have b1 := below_alloc (Below.refl w.heap.size w) (.cells #[.int .u8 0, .int .u8 0] 26)
  refine (New_calls _ A c xs (Kd.C_alloc hC _) hl hb).mono ?_
  rintro e w1 ⟨g, rfl, hR, hb1⟩
  have hF := blk_below (blk_new w (.cells #[.int .u8 0, .int .u8 0] 26)) hb1
  have hB := b1.trans (hb1.mono (by simp))
  replace hR : IsR w1 w.heap.size g (Rdr.new xs) := hR.lower (by simp)
  clear hb1 b1 hC
  go_wp2_with fail
  go_loopg [4] k (fun kq v4 w' => ∃ (r : Rdr) (l0 : List PA.S61), IsR w' w.heap.size g r ∧ Keep15 w v4 l0 w' ∧ Aside0 (capsRead.l0 kq r l0 = some (l, f0, f1)))
  case atStart => exact ⟨Rdr.new xs, [], hR, ⟨Kd.R_nil _ _ _ _ _, hF, hB⟩, H⟩
  case round =>
    clear hR H hF hB
    obtain ⟨r, l0, hR, hL, H⟩ := hrel
    cases gk with
    | zero => exact absurd H.out (by simp [capsRead.l0])
    | succ kq =>
    have H1 := H.out
    clear H
    simp only [capsRead.l0] at H1
    by_cases c1 : 0 < r.left
    · rw [if_pos c1] at H1
      have n1 : decide (0 < r.left) = true := decide_eq_true c1
      clear c1
      unfold capsRead.op at H1
      obtain ⟨r1, hr1⟩ : ∃ x, r.took 1 = x := ⟨_, rfl⟩
      obtain ⟨tt, htt⟩ : ∃ x, acc8 (r.taken 1) = x := ⟨_, rfl⟩
      obtain ⟨r2, hr2⟩ : ∃ x, r1.took 1 = x := ⟨_, rfl⟩
      obtain ⟨nn, hnn⟩ : ∃ x, acc8 (r1.taken 1) = x := ⟨_, rfl⟩
      obtain ⟨r3, hr3⟩ : ∃ x, r2.opened nn = x := ⟨_, rfl⟩
      rw [hr1, hr2, htt, hnn, hr3] at H1
      have hr2ok : nn = acc8 (r1.taken 1) := hnn.symm
      by_cases c2 : r2.ends.length < 1000000
      case neg => rw [if_neg c2] at H1; cases H1
      rw [if_pos c2] at H1
      have HH := Aside0.mk H1
      have C2 := Aside0.mk c2
      have E1 := Aside0.mk hr1
      have E2 := Aside0.mk htt
      have E3 := Aside0.mk hr2
      have E4 := Aside0.mk hnn
      have E5 := Aside0.mk hr3
      clear H1 c2 hr1 htt hr2 hnn hr3 hr2ok
      go_wp2_with fail
      refine (Left_as hR).mono ?_
      clear hR
      rintro e w2 ⟨rfl, hR, k2⟩
      replace hL := hL.kt k2
      clear k2
      go_wp2_with fail
      refine (RByte_as hR E2.out E1.out).mono ?_
      clear hR
      rintro e w3 ⟨rfl, hR, k2⟩
      replace hL := hL.kt k2
      clear k2
      have hok := hR.ok
      have hnb := acc8_bd _ (taken_byte r1 1 hok)
      rw [E4.out] at hnb
      clear hok
      go_wp2_with fail
      refine (RByte_as hR E4.out E3.out).mono ?_
      clear hR
      rintro e w4 ⟨rfl, hR, k2⟩
      replace hL := hL.kt k2
      clear k2
      go_wp2_with fail
      refine (Open_as hR C2 E5.out).mono ?_
      clear hR
      rintro e w5 ⟨rfl, hR, k2⟩
      replace hL := hL.kt k2
      clear k2
      have H1 := HH.out
      clear HH
      by_cases c34 : r3.e = 0 ∧ tt ≠ 2
      · rw [if_pos c34] at H1
        obtain ⟨c3, c4⟩ := c34
        have n3 : (r3.e == 0) = true := by simp [c3]
        have n4 : (tt != 2) = true := by simp [c4]
        injection H1 with H1
        injection H1 with q1 H1
        injection H1 with q2 q3
        subst q1 q2 q3
        clear c3 c4
        have f0 := blk_frozen hL.fault 0
        have f1 := blk_frozen hL.fault 1
        have c0 := blk_cell hL.fault 0
        have c1 := blk_cell hL.fault 1
        simp at c0 c1
        have hGw5 := hGw.out.below hL.below
        have go0 := hGw5.o0
        have go1 := hGw5.o1
        go_wp2_with (go_at_call 60; refine (Err_calls _ _ g _ hR).mono ?_; rintro e w' ⟨rfl, rfl⟩)
        go_region
        have hset := blk_put (blk_put hL.fault 0 (.int .u8 2) rfl) 1 (.int .u8 4) rfl
        have hb2 := (hL.below.setCell (p := ⟨w.heap.size, 0, none⟩) (Nat.le_refl _) (.int .u8 2)).setCell (p := ⟨w.heap.size, 1, none⟩) (Nat.le_refl _) (.int .u8 4)
        go_wp2
        have q0 := blk_cell (blk_drew hset) 0
        have q1 := blk_cell (blk_drew hset) 1
        replace hb2 := hb2.drew
        generalize World.drew _ = W at q0 q1 hb2 ⊢
        exact bodyPost_ret (v := .tuple #[.slice none 0 0, .agg #[.int .u8 2, .int .u8 4]]) (by simp at q0 q1; simp [results, Tryd.results15, go_sem, q0, q1]) rfl ⟨_, rfl, Kd.R_nil _ _ _ _ _, hb2⟩
      · rw [if_neg c34] at H1
        have hcase : ((r3.e == 0) = true ∧ (tt != 2) = false) ∨ (r3.e == 0) = false := by
          by_cases c3 : r3.e = 0
          · refine .inl ⟨by simp [c3], ?_⟩
            by_cases c4 : tt = 2
            · simp [c4]
            · exact absurd ⟨c3, c4⟩ c34
          · exact .inr (by simp [c3])
        obtain ⟨⟨r4, l4⟩, hp, hq⟩ := Option.bind_eq_some_iff.1 H1
        have HP := Aside0.mk hp
        have HQ := Aside0.mk hq
        clear H1 c34 hp hq E1 E2 E3 E4 E5 C2
        rcases hcase with ⟨n3, n4⟩ | n3
        all_goals
          go_wp2_with (go_at_call 60; refine (Err_calls _ _ g _ hR).mono ?_; rintro e w' ⟨rfl, rfl⟩)
          go_loopg [4] kq (fun kk v4 w' => ∃ (r : Rdr) (l0 : List PA.S61), IsR w' w.heap.size g r ∧ Keep15 w v4 l0 w' ∧ Aside0 (capsRead.l1 kk r l0 = some (r4, l4)))
          case atStart => exact ⟨r3, l0, hR, hL, HP⟩
          case round =>
            clear hR hL HP n3 hGw
            try clear n4
            clear n1 hnb
            obtain ⟨r, l0, hR, hL, H⟩ := hrel
            cases gk with
            | zero => exact absurd H.out (by simp [capsRead.l1])
            | succ kk =>
            have H1 := H.out
            clear H
            simp only [capsRead.l1] at H1
            by_cases c1 : 0 < r.left
            · rw [if_pos c1] at H1
              have n1 : decide (0 < r.left) = true := decide_eq_true c1
              clear c1
              obtain ⟨p1, hp1⟩ : ∃ x, r.took 1 = x := ⟨_, rfl⟩
              obtain ⟨cd, hcd⟩ : ∃ x, acc8 (r.taken 1) = x := ⟨_, rfl⟩
              obtain ⟨p2, hp2⟩ : ∃ x, p1.took 1 = x := ⟨_, rfl⟩
              obtain ⟨mm, hmm⟩ : ∃ x, acc8 (p1.taken 1) = x := ⟨_, rfl⟩
              obtain ⟨p3, hp3⟩ : ∃ x, p2.took mm = x := ⟨_, rfl⟩
              obtain ⟨ys, hys⟩ : ∃ x, p2.taken mm = x := ⟨_, rfl⟩
              rw [hp1, hp2, hcd, hmm, hp3, hys] at H1
              by_cases c2 : l0.length < 4398046511104
              case neg => rw [if_neg c2] at H1; cases H1
              rw [if_pos c2] at H1
              have HH := Aside0.mk H1
              have C2 := Aside0.mk c2
              have E1 := Aside0.mk hp1
              have E2 := Aside0.mk hcd
              have E3 := Aside0.mk hp2
              have E4 := Aside0.mk hmm
              have E5 := Aside0.mk hp3
              have E6 := Aside0.mk hys
              clear H1 c2 hp1 hcd hp2 hmm hp3 hys
              go_wp2_with fail
              refine (Left_as hR).mono ?_
              clear hR
              rintro e w2 ⟨rfl, hR, k2⟩
              replace hL := hL.kt k2
              clear k2
              go_wp2_with fail
              refine (RByte_as hR E2.out E1.out).mono ?_
              clear hR
              rintro e w3 ⟨rfl, hR, k2⟩
              replace hL := hL.kt k2
              clear k2
              have hok := hR.ok
              have hnb := acc8_bd _ (taken_byte p1 1 hok)
              rw [E4.out] at hnb
              clear hok
              go_wp2_with fail
              have hM := hL.boxed cd (.slice none 0 0)
              replace hR := hR.below (below_alloc (Below.refl _ _) (.cells #[.int .u8 cd, .slice none 0 0] 61))
              clear hL
              refine (RByte_as hR E4.out E3.out).mono ?_
              clear hR
              rintro e w4 ⟨rfl, hR, k2⟩
              replace hM := hM.kt k2
              clear k2
              go_wp2_with fail
              refine (Take_as hR E6.out E5.out).mono ?_
              clear hR
              rintro e w5 ⟨A5, c5, rfl, hv, hR, k2⟩
              replace hM := hM.kt k2
              clear k2
              have f1 := blk_frozen hM.box 1
              have q0 := blk_cell hM.box 0
              have q1 := blk_cell hM.box 1
              simp at q0 q1
              have hM2 := hM.set (.slice A5 ys.length c5)
              have kS : KT w.heap.size [61] w5 (w5.setCell ⟨w3.heap.size, 1, none⟩ (.slice A5 ys.length c5)) := (KT.refl _ _ _).setCell hM.ge ⟨_, _, hM.box⟩ (by simp) _
              have hR2 := hR.kt kS (by decide) (by decide) (by decide)
              have hv2 := R_kt hv kS (by decide)
              clear hM hR hv kS
              go_upto_region 11 with (fail)
              clear f1 q0 q1
              generalize w5.setCell ⟨w3.heap.size, 1, none⟩ (.slice A5 ys.length c5) = w6 at hM2 hR2 hv2 ⊢
              have q0 := blk_cell hM2.box 0
              have q1 := blk_cell hM2.box 1
              simp at q0 q1
              go_wp2_with (at_builtin; refine Kd.R_append PA.k61 (w0 := w) w.heap.size rfl (.tmp 40) (.tmp 42) 24 61 (.agg #[(.int .u8 0), (.slice none 0 0)]) 32 rfl Tryd.underlying24 PA.info61 rfl (by decide) (by decide) u4 l0 (⟨cd, ys⟩ : PA.S61) [.int .u8 cd, .slice A5 ys.length c5] (fun _ => True) (fun k => True ∧ some k ≠ u4.ownBlock) rfl rfl (PA.k61_mkM _ _ _ _ (R_apart hv2 hM2.list (by decide))) (fun _ h => ⟨trivial, h.2⟩) (fun _ _ => trivial) (Kd.R_mono hM2.list (fun _ _ => trivial)) hM2.below hM2.below.size (by have := C2.out; omega) ?_)
              intro v6 w7 hl6 hb6 hg6 _
              obtain ⟨A6, c6, rfl⟩ := Kd.R_slice hl6
              have hR7 := hR2.kt (KT.grown (ts := [61]) (KT.refl w.heap.size _ _) hg6 (fun k hk => ⟨Kd.R_base hM2.list k hk, 61, by simp, R_tyB hM2.list k hk⟩)) (by decide) (by decide) (by decide)
              have hF7 := blk_grown hM2.fault hg6 (Kd.R_ne hM2.list hM2.fault (by decide))
              have hK7 : Keep15 w _ _ w7 := ⟨hl6, hF7, hb6⟩
              clear hl6 hF7 hb6 hg6 hM2 hR2 hv2 q0 q1
              go_wp2
              go_roundg kk
              case measure => omega
              case rel => exact ⟨p3, _, hR7, hK7, HH⟩
            · rw [if_neg c1] at H1
              have n1 : decide (0 < r.left) = false := decide_eq_false c1
              injection H1 with H1
              injection H1 with q1 q2
              subst q1 q2
              clear c1
              go_wp2_with fail
              refine (Left_as hR).mono ?_
              clear hR
              rintro e w2 ⟨rfl, hR, k2⟩
              replace hL := hL.kt k2
              clear k2
              go_wp2_with fail
              refine (Close_as hR rfl).mono ?_
              clear hR
              rintro e w3 ⟨rfl, hR, k2⟩
              replace hL := hL.kt k2
              clear k2
              go_wp2
              go_roundg kq
              case measure => omega
              case rel => exact ⟨_, _, hR, hL, HQ⟩
    · rw [if_neg c1] at H1
      have n1 : decide (0 < r.left) = false := decide_eq_false c1
      clear c1
      by_cases c2 : r.e = 0
      · rw [if_pos c2] at H1
        have n2 : (r.e != 0) = false := by simp [c2]
        injection H1 with H1
        injection H1 with q1 H1
        injection H1 with q2 q3
        subst q1 q2 q3
        clear c2
        go_wp2_with fail
        refine (Left_as hR).mono ?_
        clear hR
        rintro e w2 ⟨rfl, hR, k2⟩
        replace hL := hL.kt k2
        clear k2
        have f0 := blk_frozen hL.fault 0
        have f1 := blk_frozen hL.fault 1
        have c0 := blk_cell hL.fault 0
        have c1 := blk_cell hL.fault 1
        simp at c0 c1
        have hset := blk_put (blk_put hL.fault 0 (.int .u8 0) rfl) 1 (.int .u8 0) rfl
        have hb2 := (hL.below.setCell (p := ⟨w.heap.size, 0, none⟩) (Nat.le_refl _) (.int .u8 0)).setCell (p := ⟨w.heap.size, 1, none⟩) (Nat.le_refl _) (.int .u8 0)
        have hl2 := Kd.R_set (Kd.R_set hL.list hL.fault (by decide) 0 (.int .u8 0)) (blk_put hL.fault 0 (.int .u8 0) rfl) (by decide) 1 (.int .u8 0)
        obtain ⟨A4, c4, rfl⟩ := Kd.R_slice hL.list
        go_wp2_with (go_at_call 60; refine (Err_calls _ _ g _ hR).mono ?_; rintro e w' ⟨rfl, rfl⟩)
        have q0 := blk_cell hset 0
        have q1 := blk_cell hset 1
        generalize (w2.setCell _ _).setCell _ _ = W at q0 q1 hb2 hl2 ⊢
        exact bodyPost_ret (v := .tuple #[.slice A4 l0.length c4, .agg #[.int .u8 0, .int .u8 0]]) (by simp at q0 q1; simp [results, Tryd.results15, go_sem, q0, q1]) rfl ⟨_, rfl, hl2, hb2⟩
      · rw [if_neg c2] at H1
        have n2 : (r.e != 0) = true := by simp [c2]
        injection H1 with H1
        injection H1 with q1 H1
        injection H1 with q2 q3
        subst q1 q2 q3
        clear c2
        go_wp2_with fail
        refine (Left_as hR).mono ?_
        clear hR
        rintro e w2 ⟨rfl, hR, k2⟩
        replace hL := hL.kt k2
        clear k2
        have f0 := blk_frozen hL.fault 0
        have f1 := blk_frozen hL.fault 1
        have c0 := blk_cell hL.fault 0
        have c1 := blk_cell hL.fault 1
        simp at c0 c1
        have hGw5 := hGw.out.below hL.below
        have go0 := hGw5.c0
        have go1 := hGw5.c1
        go_wp2_with (go_at_call 60; refine (Err_calls _ _ g _ hR).mono ?_; rintro e w' ⟨rfl, rfl⟩)
        go_region
        have hset := blk_put (blk_put hL.fault 0 (.int .u8 2) rfl) 1 (.int .u8 0) rfl
        have hb2 := (hL.below.setCell (p := ⟨w.heap.size, 0, none⟩) (Nat.le_refl _) (.int .u8 2)).setCell (p := ⟨w.heap.size, 1, none⟩) (Nat.le_refl _) (.int .u8 0)
        go_wp2
        have q0 := blk_cell (blk_drew hset) 0
        have q1 := blk_cell (blk_drew hset) 1
        replace hb2 := hb2.drew
        generalize World.drew _ = W at q0 q1 hb2 ⊢
        exact bodyPost_ret (v := .tuple #[.slice none 0 0, .agg #[.int .u8 2, .int .u8 0]]) (by simp at q0 q1; simp [results, Tryd.results15, go_sem, q0, q1]) rfl ⟨_, rfl, Kd.R_nil _ _ _ _ _, hb2⟩
end Go.Proofs.YthafedmlbialiaaDoor
