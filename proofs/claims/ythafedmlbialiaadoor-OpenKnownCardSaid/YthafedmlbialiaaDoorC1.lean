/-
  The walk of caps.Read.
-/
import Derived.Test.YthafedmlbialiaaDoorR0
import Derived.Laws.EntriesVeiled
namespace Go.Proofs.YthafedmlbialiaaDoor
open Go.RowKit Go.Proofs.YthafedmlbialiaaDoorW.PrintWords Go.Proofs.YthafedmlbialiaaDoorW.PrintLast Go.Proofs.YthafedmlbialiaaDoorW.PrintMore
set_option linter.unusedVariables false
set_option linter.unusedSimpArgs false

/-- The two faults of parameters, as start-up lays them. -/
structure GlobC (w : World) : Prop where
  o0 : w.cell? ⟨0, 0, none⟩ = some (.int .u8 2)
  o1 : w.cell? ⟨0, 1, none⟩ = some (.int .u8 4)
  c0 : w.cell? ⟨1, 0, none⟩ = some (.int .u8 2)
  c1 : w.cell? ⟨1, 1, none⟩ = some (.int .u8 0)
theorem GlobC.below {w w' : World} (h : GlobC w) (hb : Below w.heap.size w w') : GlobC w' :=
  ⟨pw_cell_below hb h.o0, pw_cell_below hb h.o1, pw_cell_below hb h.c0, pw_cell_below hb h.c1⟩
theorem GlobC.back {B : Nat} {w w' : World} (h : GlobC w) (hB : w.heap.size ≤ B) (hb : Below B w w') : GlobC w' := h.below (hb.mono hB)

/-- The methods' contracts, with names for what comes of them. -/
theorem RByte_as {w : World} {B g : Nat} {r r' : Rdr} {n : Int} (h : IsR w B g r) (ha : acc8 (r.taken 1) = n) (hr : r.took 1 = r') :
    Calls Tryd.prog 58 #[.pointer (some ⟨g, 0, none⟩)] w fun e w' => e = .returned (.int .u8 n) ∧ IsR w' B g r' ∧ KT B [121, 3] w w' := by
  subst ha hr
  exact (RByte_calls w B g r h).mono fun e w' ⟨h1, h2, h3⟩ => ⟨h1, h2, h3.mono (Nat.le_refl _) (by simp)⟩
theorem Take_as {w : World} {B g : Nat} {r r' : Rdr} {n : Int} {ys : List Int} (h : IsR w B g r) (ha : r.taken n = ys) (hr : r.took n = r') :
    Calls Tryd.prog 61 #[.pointer (some ⟨g, 0, none⟩), .int .i64 n] w fun e w' => ∃ A c, e = .returned (.slice A ys.length c) ∧ (Kd.int .u8).R 5 w' B (fun _ => True) (.slice A ys.length c) ys ∧ IsR w' B g r' ∧ KT B [121, 3] w w' := by
  subst ha hr
  refine (Take_calls w B g r n h).mono fun e w' ⟨v, h1, hv, h2, h3⟩ => ?_
  obtain ⟨A, c, rfl⟩ := Kd.R_slice hv
  exact ⟨A, c, h1, hv, h2, h3.mono (Nat.le_refl _) (by simp)⟩
theorem Left_as {w : World} {B g : Nat} {r : Rdr} (h : IsR w B g r) :
    Calls Tryd.prog 57 #[.pointer (some ⟨g, 0, none⟩)] w fun e w' => e = .returned (.int .i64 r.left) ∧ IsR w' B g r ∧ KT B [121, 3] w w' :=
  (Left_calls w B g r h).mono fun e w' ⟨h1, h2⟩ => ⟨h1, h.drawn h2, .drawn h2⟩
theorem Open_as {w : World} {B g : Nat} {r r' : Rdr} {n : Int} (h : IsR w B g r) (hf : Aside0 (r.ends.length < 1000000)) (hr : r.opened n = r') :
    Calls Tryd.prog 59 #[.pointer (some ⟨g, 0, none⟩), .int .i64 n] w fun e w' => e = .returned (.tuple #[]) ∧ IsR w' B g r' ∧ KT B [121, 3] w w' := by
  subst hr
  exact Open_calls w B g r n h hf.out
theorem Close_as {w : World} {B g : Nat} {r r' : Rdr} (h : IsR w B g r) (hr : r.closed = r') :
    Calls Tryd.prog 62 #[.pointer (some ⟨g, 0, none⟩)] w fun e w' => e = .returned (.tuple #[]) ∧ IsR w' B g r' ∧ KT B [121, 3] w w' := by
  subst hr
  exact (Close_calls w B g r h).mono fun e w' ⟨h1, h2, h3⟩ => ⟨h1, h2, h3.mono (Nat.le_refl _) (by simp)⟩

/-- What a round keeps beside the reader: the list, the fault's own block, all that was there. -/
structure Keep15 (w0 : World) (v : Value) (l : List PA.S61) (w : World) : Prop where
  list : PA.k61.R 61 w w0.heap.size (fun _ => True) v l
  fault : w.heap[w0.heap.size]? = some (.cells #[.int .u8 0, .int .u8 0] 26 (0, 0))
  below : Below w0.heap.size w0 w
theorem Keep15.kt {w0 w w' : World} {v : Value} {l : List PA.S61} (h : Keep15 w0 v l w) (hk : KT w0.heap.size [121, 3] w w') : Keep15 w0 v l w' :=
  ⟨R_kt h.list hk (by decide), blk_kt h.fault hk (by decide), below_kt (Nat.le_refl _) h.below hk⟩

/-- The same while a capability is being put together in block p. -/
structure Keep15p (w0 : World) (v : Value) (l : List PA.S61) (p : Nat) (cd : Int) (u : Value) (w : World) : Prop where
  list : PA.k61.R 61 w w0.heap.size (fun k => True ∧ k < p) v l
  fault : w.heap[w0.heap.size]? = some (.cells #[.int .u8 0, .int .u8 0] 26 (0, 0))
  below : Below w0.heap.size w0 w
  box : w.heap[p]? = some (.cells #[.int .u8 cd, u] 61 (0, 0))
  ge : w0.heap.size ≤ p
theorem Keep15.boxed {w0 w : World} {v : Value} {l : List PA.S61} (h : Keep15 w0 v l w) (cd : Int) (u : Value) : Keep15p w0 v l w.heap.size cd u (w.alloc (.cells #[.int .u8 cd, u] 61)) :=
  ⟨Kd.R_alloc (R_elder h.list) _, blk_alloc h.fault _, h.below.trans ((below_alloc (Below.refl _ _) _).mono h.below.size), blk_new _ _, h.below.size⟩
theorem Keep15p.kt {w0 w w' : World} {v u : Value} {l : List PA.S61} {p : Nat} {cd : Int} (h : Keep15p w0 v l p cd u w) (hk : KT w0.heap.size [121, 3] w w') : Keep15p w0 v l p cd u w' :=
  ⟨R_kt h.list hk (by decide), blk_kt h.fault hk (by decide), below_kt (Nat.le_refl _) h.below hk, blk_kt h.box hk (by decide), h.ge⟩
theorem Keep15p.set {w0 w : World} {v u : Value} {l : List PA.S61} {p : Nat} {cd : Int} (h : Keep15p w0 v l p cd u w) (u' : Value) : Keep15p w0 v l p cd u' (w.setCell ⟨p, 1, none⟩ u') :=
  ⟨Kd.R_far h.list (p := ⟨p, 1, none⟩) (fun k hk => by have := hk.2; show k ≠ p; omega) u', blk_far h.fault (blk_ne h.fault h.box (by decide)) _, h.below.setCell h.ge _, blk_put h.box 1 _ rfl, h.ge⟩

set_option maxHeartbeats 4000000 in
set_option maxRecDepth 100000 in
theorem capsRead_calls (k : Nat) (A : Option Addr) (c : Nat) (xs : List Int) (l : List PA.S61) (f0 f1 : Int) (w : World) (hG : GlobC w) (hC : (Kd.int .u8).C w A xs.length xs) (hl : xs.length ≤ 140737488351232) (hb : ∀ x, x ∈ xs → 0 ≤ x ∧ x < 256)
    (h : capsRead.f k xs = some (l, f0, f1)) :
    Calls Tryd.prog 15 #[.slice A xs.length c] w fun e w' => ∃ v, e = .returned (.tuple #[v, .agg #[.int .u8 f0, .int .u8 f1]]) ∧ PA.k61.R 61 w' w.heap.size (fun _ => True) v l ∧ Below w.heap.size w w' := by
  have H := Aside0.mk h
  clear h
  have hGw := Aside0.mk hG
  go_enter Tryd.func15, Tryd.ntmps15
  go_wp2_with fail
  have b1 := below_alloc (Below.refl w.heap.size w) (.cells #[.int .u8 0, .int .u8 0] 26)
  refine (New_calls _ A c xs (Kd.C_alloc hC _) hl hb).mono ?_
  rintro e w1 ⟨g, rfl, hR, hb1⟩
  have hF := blk_below (blk_new w (.cells #[.int .u8 0, .int .u8 0] 26)) hb1
  have hB := b1.trans (hb1.mono (by simp))
  replace hR : IsR w1 w.heap.size g (Rdr.new xs) := hR.lower (by simp)
  clear hb1 b1 hC
  go_wp2_with fail
  go_loopg [4] k (fun kq v4 w' => ∃ (r : Rdr) (l0 : List PA.S61), IsR w' w.heap.size g r ∧ Keep15 w v4 l0 w' ∧ Aside0 (capsRead.l0 kq r l0 = some (l, f0, f1)))
  case atStart => exact ⟨Rdr.new xs, [], hR, ⟨Kd.R_nil _ _ _ _ _, hF, hB⟩, H⟩
  case round =>
    clear hR H hF hB
    obtain ⟨r, l0, hR, hL, H⟩ := hrel
    cases gk with
    | zero => exact absurd H.out (by simp [capsRead.l0])
    | succ kq =>
    have H1 := H.out
    clear H
    simp only [capsRead.l0] at H1
    by_cases c1 : 0 < r.left
    · rw [if_pos c1] at H1
      have n1 : decide (0 < r.left) = true := decide_eq_true c1
      clear c1
      unfold capsRead.op at H1
      obtain ⟨r1, hr1⟩ : ∃ x, r.took 1 = x := ⟨_, rfl⟩
      obtain ⟨tt, htt⟩ : ∃ x, acc8 (r.taken 1) = x := ⟨_, rfl⟩
      obtain ⟨r2, hr2⟩ : ∃ x, r1.took 1 = x := ⟨_, rfl⟩
      obtain ⟨nn, hnn⟩ : ∃ x, acc8 (r1.taken 1) = x := ⟨_, rfl⟩
      obtain ⟨r3, hr3⟩ : ∃ x, r2.opened nn = x := ⟨_, rfl⟩
      rw [hr1, hr2, htt, hnn, hr3] at H1
      have hr2ok : nn = acc8 (r1.taken 1) := hnn.symm
      by_cases c2 : r2.ends.length < 1000000
      case neg => rw [if_neg c2] at H1; cases H1
      rw [if_pos c2] at H1
      have HH := Aside0.mk H1
      have C2 := Aside0.mk c2
      have E1 := Aside0.mk hr1
      have E2 := Aside0.mk htt
      have E3 := Aside0.mk hr2
      have E4 := Aside0.mk hnn
      have E5 := Aside0.mk hr3
      clear H1 c2 hr1 htt hr2 hnn hr3 hr2ok
      go_wp2_with fail
      refine (Left_as hR).mono ?_
      clear hR
      rintro e w2 ⟨rfl, hR, k2⟩
      replace hL := hL.kt k2
      clear k2
      go_wp2_with fail
      refine (RByte_as hR E2.out E1.out).mono ?_
      clear hR
      rintro e w3 ⟨rfl, hR, k2⟩
      replace hL := hL.kt k2
      clear k2
      have hok := hR.ok
      have hnb := acc8_bd _ (taken_byte r1 1 hok)
      rw [E4.out] at hnb
      clear hok
      go_wp2_with fail
      refine (RByte_as hR E4.out E3.out).mono ?_
      clear hR
      rintro e w4 ⟨rfl, hR, k2⟩
      replace hL := hL.kt k2
      clear k2
      go_wp2_with fail
      refine (Open_as hR C2 E5.out).mono ?_
      clear hR
      rintro e w5 ⟨rfl, hR, k2⟩
      replace hL := hL.kt k2
      clear k2
      have H1 := HH.out
      clear HH
      by_cases c34 : r3.e = 0 ∧ tt ≠ 2
      · rw [if_pos c34] at H1
        obtain ⟨c3, c4⟩ := c34
        have n3 : (r3.e == 0) = true := by simp [c3]
        have n4 : (tt != 2) = true := by simp [c4]
        injection H1 with H1
        injection H1 with q1 H1
        injection H1 with q2 q3
        subst q1 q2 q3
        clear c3 c4
        have f0 := blk_frozen hL.fault 0
        have f1 := blk_frozen hL.fault 1
        have c0 := blk_cell hL.fault 0
        have c1 := blk_cell hL.fault 1
        simp at c0 c1
        have hGw5 := hGw.out.below hL.below
        have go0 := hGw5.o0
        have go1 := hGw5.o1
        go_wp2_with (go_at_call 60; refine (Err_calls _ _ g _ hR).mono ?_; rintro e w' ⟨rfl, rfl⟩)
        go_region
        have hset := blk_put (blk_put hL.fault 0 (.int .u8 2) rfl) 1 (.int .u8 4) rfl
        have hb2 := (hL.below.setCell (p := ⟨w.heap.size, 0, none⟩) (Nat.le_refl _) (.int .u8 2)).setCell (p := ⟨w.heap.size, 1, none⟩) (Nat.le_refl _) (.int .u8 4)
        go_wp2
        have q0 := blk_cell (blk_drew hset) 0
        have q1 := blk_cell (blk_drew hset) 1
        replace hb2 := hb2.drew
        generalize World.drew _ = W at q0 q1 hb2 ⊢
        exact bodyPost_ret (v := .tuple #[.slice none 0 0, .agg #[.int .u8 2, .int .u8 4]]) (by simp at q0 q1; simp [results, Tryd.results15, go_sem, q0, q1]) rfl ⟨_, rfl, Kd.R_nil _ _ _ _ _, hb2⟩
      · rw [if_neg c34] at H1
        have hcase : ((r3.e == 0) = true ∧ (tt != 2) = false) ∨ (r3.e == 0) = false := by
          by_cases c3 : r3.e = 0
          · refine .inl ⟨by simp [c3], ?_⟩
            by_cases c4 : tt = 2
            · simp [c4]
            · exact absurd ⟨c3, c4⟩ c34
          · exact .inr (by simp [c3])
        obtain ⟨⟨r4, l4⟩, hp, hq⟩ := Option.bind_eq_some_iff.1 H1
        have HP := Aside0.mk hp
        have HQ := Aside0.mk hq
        clear H1 c34 hp hq E1 E2 E3 E4 E5 C2
        rcases hcase with ⟨n3, n4⟩ | n3
        all_goals
          go_wp2_with (go_at_call 60; refine (Err_calls _ _ g _ hR).mono ?_; rintro e w' ⟨rfl, rfl⟩)
          go_loopg [4] kq (fun kk v4 w' => ∃ (r : Rdr) (l0 : List PA.S61), IsR w' w.heap.size g r ∧ Keep15 w v4 l0 w' ∧ Aside0 (capsRead.l1 kk r l0 = some (r4, l4)))
          case atStart => exact ⟨r3, l0, hR, hL, HP⟩
          case round =>
            clear hR hL HP n3 hGw
            try clear n4
            clear n1 hnb
            obtain ⟨r, l0, hR, hL, H⟩ := hrel
            cases gk with
            | zero => exact absurd H.out (by simp [capsRead.l1])
            | succ kk =>
            have H1 := H.out
            clear H
            simp only [capsRead.l1] at H1
            by_cases c1 : 0 < r.left
            · rw [if_pos c1] at H1
              have n1 : decide (0 < r.left) = true := decide_eq_true c1
              clear c1
              obtain ⟨p1, hp1⟩ : ∃ x, r.took 1 = x := ⟨_, rfl⟩
              obtain ⟨cd, hcd⟩ : ∃ x, acc8 (r.taken 1) = x := ⟨_, rfl⟩
              obtain ⟨p2, hp2⟩ : ∃ x, p1.took 1 = x := ⟨_, rfl⟩
              obtain ⟨mm, hmm⟩ : ∃ x, acc8 (p1.taken 1) = x := ⟨_, rfl⟩
              obtain ⟨p3, hp3⟩ : ∃ x, p2.took mm = x := ⟨_, rfl⟩
              obtain ⟨ys, hys⟩ : ∃ x, p2.taken mm = x := ⟨_, rfl⟩
              rw [hp1, hp2, hcd, hmm, hp3, hys] at H1
              by_cases c2 : l0.length < 4398046511104
              case neg => rw [if_neg c2] at H1; cases H1
              rw [if_pos c2] at H1
              have HH := Aside0.mk H1
              have C2 := Aside0.mk c2
              have E1 := Aside0.mk hp1
              have E2 := Aside0.mk hcd
              have E3 := Aside0.mk hp2
              have E4 := Aside0.mk hmm
              have E5 := Aside0.mk hp3
              have E6 := Aside0.mk hys
              clear H1 c2 hp1 hcd hp2 hmm hp3 hys
              go_wp2_with fail
              refine (Left_as hR).mono ?_
              clear hR
              rintro e w2 ⟨rfl, hR, k2⟩
              replace hL := hL.kt k2
              clear k2
              go_wp2_with fail
              refine (RByte_as hR E2.out E1.out).mono ?_
              clear hR
              rintro e w3 ⟨rfl, hR, k2⟩
              replace hL := hL.kt k2
              clear k2
              have hok := hR.ok
              have hnb := acc8_bd _ (taken_byte p1 1 hok)
              rw [E4.out] at hnb
              clear hok
              go_wp2_with fail
              have hM := hL.boxed cd (.slice none 0 0)
              replace hR := hR.below (below_alloc (Below.refl _ _) (.cells #[.int .u8 cd, .slice none 0 0] 61))
              clear hL
              refine (RByte_as hR E4.out E3.out).mono ?_
              clear hR
              rintro e w4 ⟨rfl, hR, k2⟩
              replace hM := hM.kt k2
              clear k2
              go_wp2_with fail
              refine (Take_as hR E6.out E5.out).mono ?_
              clear hR
              rintro e w5 ⟨A5, c5, rfl, hv, hR, k2⟩
              replace hM := hM.kt k2
              clear k2
              have f1 := blk_frozen hM.box 1
              have q0 := blk_cell hM.box 0
              have q1 := blk_cell hM.box 1
              simp at q0 q1
              have hM2 := hM.set (.slice A5 ys.length c5)
              have kS : KT w.heap.size [61] w5 (w5.setCell ⟨w3.heap.size, 1, none⟩ (.slice A5 ys.length c5)) := (KT.refl _ _ _).setCell hM.ge ⟨_, _, hM.box⟩ (by simp) _
              have hR2 := hR.kt kS (by decide) (by decide) (by decide)
              have hv2 := R_kt hv kS (by decide)
              clear hM hR hv kS
              go_upto_region 11 with (fail)
              clear f1 q0 q1
              generalize w5.setCell ⟨w3.heap.size, 1, none⟩ (.slice A5 ys.length c5) = w6 at hM2 hR2 hv2 ⊢
              have q0 := blk_cell hM2.box 0
              have q1 := blk_cell hM2.box 1
              simp at q0 q1
              go_wp2_with (at_builtin; refine Kd.R_append PA.k61 (w0 := w) w.heap.size rfl (.tmp 40) (.tmp 42) 24 61 (.agg #[(.int .u8 0), (.slice none 0 0)]) 32 rfl Tryd.underlying24 PA.info61 rfl (by decide) (by decide) u4 l0 (⟨cd, ys⟩ : PA.S61) [.int .u8 cd, .slice A5 ys.length c5] (fun _ => True) (fun k => True ∧ some k ≠ u4.ownBlock) rfl rfl (PA.k61_mkM _ _ _ _ (R_apart hv2 hM2.list (by decide))) (fun _ h => ⟨trivial, h.2⟩) (fun _ _ => trivial) (Kd.R_mono hM2.list (fun _ _ => trivial)) hM2.below hM2.below.size (by have := C2.out; omega) ?_)
              intro v6 w7 hl6 hb6 hg6 _
              obtain ⟨A6, c6, rfl⟩ := Kd.R_slice hl6
              have hR7 := hR2.kt (KT.grown (ts := [61]) (KT.refl w.heap.size _ _) hg6 (fun k hk => ⟨Kd.R_base hM2.list k hk, 61, by simp, R_tyB hM2.list k hk⟩)) (by decide) (by decide) (by decide)
              have hF7 := blk_grown hM2.fault hg6 (Kd.R_ne hM2.list hM2.fault (by decide))
              have hK7 : Keep15 w _ _ w7 := ⟨hl6, hF7, hb6⟩
              clear hl6 hF7 hb6 hg6 hM2 hR2 hv2 q0 q1
              go_wp2
              go_roundg kk
              case measure => omega
              case rel => exact ⟨p3, _, hR7, hK7, HH⟩
            · rw [if_neg c1] at H1
              have n1 : decide (0 < r.left) = false := decide_eq_false c1
              injection H1 with H1
              injection H1 with q1 q2
              subst q1 q2
              clear c1
              go_wp2_with fail
              refine (Left_as hR).mono ?_
              clear hR
              rintro e w2 ⟨rfl, hR, k2⟩
              replace hL := hL.kt k2
              clear k2
              go_wp2_with fail
              refine (Close_as hR rfl).mono ?_
              clear hR
              rintro e w3 ⟨rfl, hR, k2⟩
              replace hL := hL.kt k2
              clear k2
              go_wp2
              go_roundg kq
              case measure => omega
              case rel => exact ⟨_, _, hR, hL, HQ⟩
    · rw [if_neg c1] at H1
      have n1 : decide (0 < r.left) = false := decide_eq_false c1
      clear c1
      by_cases c2 : r.e = 0
      · rw [if_pos c2] at H1
        have n2 : (r.e != 0) = false := by simp [c2]
        injection H1 with H1
        injection H1 with q1 H1
        injection H1 with q2 q3
        subst q1 q2 q3
        clear c2
        go_wp2_with fail
        refine (Left_as hR).mono ?_
        clear hR
        rintro e w2 ⟨rfl, hR, k2⟩
        replace hL := hL.kt k2
        clear k2
        have f0 := blk_frozen hL.fault 0
        have f1 := blk_frozen hL.fault 1
        have c0 := blk_cell hL.fault 0
        have c1 := blk_cell hL.fault 1
        simp at c0 c1
        have hset := blk_put (blk_put hL.fault 0 (.int .u8 0) rfl) 1 (.int .u8 0) rfl
        have hb2 := (hL.below.setCell (p := ⟨w.heap.size, 0, none⟩) (Nat.le_refl _) (.int .u8 0)).setCell (p := ⟨w.heap.size, 1, none⟩) (Nat.le_refl _) (.int .u8 0)
        have hl2 := Kd.R_set (Kd.R_set hL.list hL.fault (by decide) 0 (.int .u8 0)) (blk_put hL.fault 0 (.int .u8 0) rfl) (by decide) 1 (.int .u8 0)
        obtain ⟨A4, c4, rfl⟩ := Kd.R_slice hL.list
        go_wp2_with (go_at_call 60; refine (Err_calls _ _ g _ hR).mono ?_; rintro e w' ⟨rfl, rfl⟩)
        have q0 := blk_cell hset 0
        have q1 := blk_cell hset 1
        generalize (w2.setCell _ _).setCell _ _ = W at q0 q1 hb2 hl2 ⊢
        exact bodyPost_ret (v := .tuple #[.slice A4 l0.length c4, .agg #[.int .u8 0, .int .u8 0]]) (by simp at q0 q1; simp [results, Tryd.results15, go_sem, q0, q1]) rfl ⟨_, rfl, hl2, hb2⟩
      · rw [if_neg c2] at H1
        have n2 : (r.e != 0) = true := by simp [c2]
        injection H1 with H1
        injection H1 with q1 H1
        injection H1 with q2 q3
        subst q1 q2 q3
        clear c2
        go_wp2_with fail
        refine (Left_as hR).mono ?_
        clear hR
        rintro e w2 ⟨rfl, hR, k2⟩
        replace hL := hL.kt k2
        clear k2
        have f0 := blk_frozen hL.fault 0
        have f1 := blk_frozen hL.fault 1
        have c0 := blk_cell hL.fault 0
        have c1 := blk_cell hL.fault 1
        simp at c0 c1
        have hGw5 := hGw.out.below hL.below
        have go0 := hGw5.c0
        have go1 := hGw5.c1
        go_wp2_with (go_at_call 60; refine (Err_calls _ _ g _ hR).mono ?_; rintro e w' ⟨rfl, rfl⟩)
        go_region
        have hset := blk_put (blk_put hL.fault 0 (.int .u8 2) rfl) 1 (.int .u8 0) rfl
        have hb2 := (hL.below.setCell (p := ⟨w.heap.size, 0, none⟩) (Nat.le_refl _) (.int .u8 2)).setCell (p := ⟨w.heap.size, 1, none⟩) (Nat.le_refl _) (.int .u8 0)
        go_wp2
        have q0 := blk_cell (blk_drew hset) 0
        have q1 := blk_cell (blk_drew hset) 1
        replace hb2 := hb2.drew
        generalize World.drew _ = W at q0 q1 hb2 ⊢
        exact bodyPost_ret (v := .tuple #[.slice none 0 0, .agg #[.int .u8 2, .int .u8 0]]) (by simp at q0 q1; simp [results, Tryd.results15, go_sem, q0, q1]) rfl ⟨_, rfl, Kd.R_nil _ _ _ _ _, hb2⟩

/-- A question on a value, asked of a function: what it answers, in whatever world that keeps I. -/
structure Asks (fv : Nat) (q : List Int → Bool) (I : World → Prop) : Prop where
  keep : ∀ {w w' : World}, I w → Below w.heap.size w w' → I w'
  enter : ∀ (args : Array Value) (w : World), (callFunc fv args).run Tryd.prog w = .ok (.enter fv args) w
  call : ∀ (w : World) (A : Option Addr) (c : Nat) (ys : List Int), I w → (Kd.int .u8).C w A ys.length ys → ys.length ≤ c →
    Calls Tryd.prog fv #[.slice A ys.length c] w fun e w' => e = .returned (.bool (q ys)) ∧ Drawn0 w w'

/-- The captured code and function in their blocks. -/
structure Capt (fv : Nat) (cd : Int) (b : Nat) (w : World) : Prop where
  code : w.cell? ⟨b, 0, none⟩ = some (.int .u8 cd)
  func : w.cell? ⟨b + 1, 0, none⟩ = some (.func (.func fv) #[] #[])
theorem Capt.below {fv : Nat} {cd : Int} {b : Nat} {w w' : World} (h : Capt fv cd b w) (hb : Below w.heap.size w w') : Capt fv cd b w' := ⟨pw_cell_below hb h.code, pw_cell_below hb h.func⟩

set_option maxHeartbeats 800000 in
set_option maxRecDepth 100000 in
theorem find1_calls (fv : Nat) (q : List Int → Bool) (I : World → Prop) (hq : Asks fv q I) (x : PA.S61) (cd : Int) (b : Nat) (w : World) (hI : I w) (hc : Capt fv cd b w) (A : Option Addr) (c : Nat) (hC : (Kd.int .u8).C w A x.f1.length x.f1) (hl : x.f1.length ≤ c) :
    Calls Tryd.prog 98 #[.agg #[.int .u8 x.f0, .slice A x.f1.length c], .pointer (some ⟨b, 0, none⟩), .pointer (some ⟨b + 1, 0, none⟩)] w fun e w' => e = .returned (.bool (x.f0 == cd && q x.f1)) ∧ Below w.heap.size w w' := by
  have HQ := Aside0.mk hq
  clear hq
  have hb := below_alloc (Below.refl w.heap.size w) (.cells #[.int .u8 x.f0, .slice A x.f1.length c] 61)
  have hc2 := hc.below hb
  have c0 := hc2.code
  have c1 := hc2.func
  obtain ⟨x0, x1⟩ := x
  dsimp only at *
  by_cases h0 : x0 = cd
  · have n0 : (x0 == cd) = true := by simp [h0]
    rw [n0]
    simp only [Bool.true_and]
    clear h0
    have hcall := HQ.out.call _ A c x1 (HQ.out.keep hI hb) (Kd.C_below hC hb) hl
    have HC := Aside0.mk hcall
    have hen := HQ.out.enter
    clear hcall
    go_enter Tryd.func98, Tryd.ntmps98
    go_wp2_with fail
    refine HC.out.mono ?_
    rintro e w1 ⟨rfl, hd⟩
    have hb1 := hb.trans (Drawn0.below hd |>.mono (by simp))
    go_wp2
    go_ret
    exact ⟨rfl, hb1⟩
  · have n0 : (x0 == cd) = false := by simp [h0]
    rw [n0]
    simp only [Bool.false_and]
    clear h0
    go_enter Tryd.func98, Tryd.ntmps98
    go_wp2
    go_ret
    exact ⟨rfl, hb⟩

/-- Where the first one is of which p holds; -1 without one. -/
def idxOf (p : PA.S61 → Bool) (l : List PA.S61) : Int := match l.findIdx? p with
  | some i => i
  | none => -1
theorem idxOf_none {p : PA.S61 → Bool} {l : List PA.S61} (h : ∀ x, x ∈ l → p x = false) : idxOf p l = -1 := by
  unfold idxOf
  rw [List.findIdx?_eq_none_iff.2 h]
theorem idxOf_some {p : PA.S61 → Bool} {l : List PA.S61} {k : Nat} (hk : k < l.length) (hp : p l[k] = true) (h : ∀ j (hj : j < k), p (l[j]'(by omega)) = false) : idxOf p l = k := by
  unfold idxOf
  rw [List.findIdx?_eq_some_iff_getElem.2 ⟨hk, hp, fun j hj => by rw [h j hj]; simp⟩]

set_option maxHeartbeats 1600000 in
set_option maxRecDepth 100000 in
theorem IndexFunc_calls (fv : Nat) (q : List Int → Bool) (I : World → Prop) (hq : Asks fv q I) (cd : Int) (b : Nat) (w : World) (hI : I w) (hc : Capt fv cd b w) (A : Option Addr) (c : Nat) (l : List PA.S61) (hC : PA.k61.C w A l.length l) (hl : l.length ≤ 140737488351232) :
    Calls Tryd.prog 95 #[.slice A l.length c, .func (.func 98) #[] #[.pointer (some ⟨b, 0, none⟩), .pointer (some ⟨b + 1, 0, none⟩)]] w fun e w' => e = .returned (.int .i64 (idxOf (fun x => x.f0 == cd && q x.f1) l)) ∧ Below w.heap.size w w' := by
  have HQ := Aside0.mk hq
  have HI := Aside0.mk hI
  clear hq hI
  obtain ⟨p, hp⟩ : ∃ p : PA.S61 → Bool, (fun x => x.f0 == cd && q x.f1) = p := ⟨_, rfl⟩
  rw [hp]
  have HP := Aside0.mk hp
  clear hp
  go_enter Tryd.func95, Tryd.ntmps95
  go_wp2_with fail
  go_loopw [5, 8] (fun a i w' => ∃ k : Nat, k ≤ l.length ∧ i = .int .i64 k ∧ Aside0 (∀ j (hj : j < k) (hl : j < l.length), p l[j] = false) ∧ Aside0 (Below w.heap.size w w')) (fun _ i _ => l.length - (intOf i).toNat)
  case atStart => exact ⟨0, Nat.zero_le _, rfl, ⟨fun j hj => by omega⟩, ⟨Below.refl _ _⟩⟩
  case round =>
    obtain ⟨k, hk, rfl, hno, hb⟩ := hrel
    by_cases hlt : k < l.length
    · obtain ⟨ad, A1, c1, rfl, q0, q1, hl1, hC1⟩ := PA.at_T61 (Kd.C_below hC hb.out) (k : Int) (by omega) (by omega)
      rw [Int.toNat_natCast] at q0 q1
      have hx : PA.rd_T61 l (k : Int) = l[k] := by rw [PA.rd_T61, Int.toNat_natCast, List.getD_eq_getElem?_getD, List.getElem?_eq_getElem hlt]; rfl
      rw [hx] at q0 q1 hl1 hC1
      obtain ⟨x, hxe⟩ : ∃ x, l[k] = x := ⟨_, rfl⟩
      rw [hxe] at q0 q1 hl1 hC1
      have HX := Aside0.mk hxe
      clear hx hxe
      have hI2 := HQ.out.keep HI.out hb.out
      have hc2 := hc.below hb.out
      have hcall := find1_calls fv q I HQ.out x cd b wr hI2 hc2 A1 c1 hC1 hl1
      have hpx : (x.f0 == cd && q x.f1) = p x := by rw [← HP.out]
      rw [hpx] at hcall
      have HC := Aside0.mk hcall
      clear hcall hpx
      go_wp2_with fail
      refine HC.out.mono ?_
      rintro e w2 ⟨rfl, hb2⟩
      have hb3 : Below w.heap.size w w2 := hb.out.trans (hb2.mono hb.out.size)
      have HB3 := Aside0.mk hb3
      clear hb2 hb3
      cases hpx : p x with
      | true =>
        have hi : idxOf p l = k := idxOf_some hlt (by rw [HX.out]; exact hpx) (fun j hj => hno.out j hj (by omega))
        have HIX := Aside0.mk hi
        clear hpx hi
        go_wp2
        go_ret
        exact ⟨congrArg (fun z => Ending.returned (.int .i64 z)) HIX.out.symm, HB3.out⟩
      | false =>
        have hno2 := Aside0.mk (show ∀ j (hj : j < k + 1) (hl : j < l.length), p l[j] = false from fun j hj hl => by
          by_cases hjk : j < k
          · exact hno.out j hjk hl
          · obtain rfl : j = k := by omega
            rw [HX.out]; exact hpx)
        clear hpx hno
        go_wp2
        go_roundw
        case rel => exact ⟨k + 1, by omega, by go_num, hno2, HB3⟩
        case measure => simp [intOf]; omega
    · have hke : k = l.length := by omega
      have hi : idxOf p l = -1 := idxOf_none (fun x hx => by
        obtain ⟨j, hj, rfl⟩ := List.getElem_of_mem hx
        exact hno.out j (by omega) hj)
      have HIX := Aside0.mk hi
      have hge : l.length ≤ k := by omega
      clear hke hi hno
      go_wp2
      go_ret
      exact ⟨congrArg (fun z => Ending.returned (.int .i64 z)) HIX.out.symm, hb.out⟩

/-- The first one of which p holds. -/
def found (p : PA.S61 → Bool) (l : List PA.S61) : PA.S61 × Bool := match l.find? p with
  | some x => (x, true)
  | none => (⟨0, []⟩, false)
theorem found_idx (p : PA.S61 → Bool) (l : List PA.S61) : (idxOf p l = -1 ∧ found p l = (⟨0, []⟩, false)) ∨ ∃ k, ∃ h : k < l.length, idxOf p l = k ∧ found p l = (l[k], true) := by
  unfold idxOf found
  cases h : l.findIdx? p with
  | none =>
    left
    rw [List.find?_eq_none.2 (fun x hx => by rw [List.findIdx?_eq_none_iff.1 h x hx]; simp)]
    exact ⟨rfl, rfl⟩
  | some k =>
    right
    obtain ⟨hk, hp, hn⟩ := List.findIdx?_eq_some_iff_getElem.1 h
    refine ⟨k, hk, rfl, ?_⟩
    have : l.find? p = some l[k] := by
      rw [List.find?_eq_some_iff_getElem]
      exact ⟨hp, k, hk, rfl, fun j hj => by have := hn j hj; simpa using this⟩
    rw [this]

set_option maxHeartbeats 1600000 in
set_option maxRecDepth 100000 in
theorem find_calls (fv : Nat) (q : List Int → Bool) (I : World → Prop) (hq : Asks fv q I) (cd : Int) (w : World) (hI : I w) (A : Option Addr) (c : Nat) (l : List PA.S61) (hC : PA.k61.C w A l.length l) (hl : l.length ≤ 140737488351232) (x : PA.S61) (is : Bool) (hx : found (fun x => x.f0 == cd && q x.f1) l = (x, is)) :
    Calls Tryd.prog 81 #[.slice A l.length c, .int .u8 cd, .func (.func fv) #[] #[]] w fun e w' => ∃ A1 c1, e = .returned (.tuple #[.agg #[.int .u8 x.f0, .slice A1 x.f1.length c1], .bool is]) ∧ (Kd.int .u8).C w' A1 x.f1.length x.f1 ∧ x.f1.length ≤ c1 ∧ Below w.heap.size w w' := by
  have b1 := below_alloc (Below.refl w.heap.size w) (.cells #[.int .u8 cd] 5)
  have b2 := below_alloc b1 (.cells #[.func (.func fv) #[] #[]] 36)
  have b3 := below_alloc b2 (.cells #[.int .u8 0, .slice none 0 0] 61)
  have hcap : Capt fv cd w.heap.size (((w.alloc (.cells #[.int .u8 cd] 5)).alloc (.cells #[.func (.func fv) #[] #[]] 36)).alloc (.cells #[.int .u8 0, .slice none 0 0] 61)) := by
    refine ⟨cell_alloc (cell_alloc ((blk_cell (blk_new w (.cells #[.int .u8 cd] 5)) 0).trans rfl) _) _, cell_alloc ?_ _⟩
    have h := blk_cell (blk_new (w.alloc (.cells #[.int .u8 cd] 5)) (.cells #[.func (.func fv) #[] #[]] 36)) 0
    rw [show (w.alloc (.cells #[.int .u8 cd] 5)).heap.size = w.heap.size + 1 by simp] at h
    exact h.trans rfl
  have hbox : (((w.alloc (.cells #[.int .u8 cd] 5)).alloc (.cells #[.func (.func fv) #[] #[]] 36)).alloc (.cells #[.int .u8 0, .slice none 0 0] 61)).heap[w.heap.size + 1 + 1]? = some (.cells #[.int .u8 0, .slice none 0 0] 61 (0, 0)) := by
    have h := blk_new ((w.alloc (.cells #[.int .u8 cd] 5)).alloc (.cells #[.func (.func fv) #[] #[]] 36)) (.cells #[.int .u8 0, .slice none 0 0] 61)
    rw [show ((w.alloc (.cells #[.int .u8 cd] 5)).alloc (.cells #[.func (.func fv) #[] #[]] 36)).heap.size = w.heap.size + 2 by simp] at h
    exact h
  have hcall := IndexFunc_calls fv q I hq cd w.heap.size _ (hq.keep hI b3) hcap A c l (Kd.C_below hC b3) hl
  have hsz : (((w.alloc (.cells #[.int .u8 cd] 5)).alloc (.cells #[.func (.func fv) #[] #[]] 36)).alloc (.cells #[.int .u8 0, .slice none 0 0] 61)).heap.size = w.heap.size + 3 := by simp
  obtain ⟨W, hW⟩ : ∃ W, (((w.alloc (.cells #[.int .u8 cd] 5)).alloc (.cells #[.func (.func fv) #[] #[]] 36)).alloc (.cells #[.int .u8 0, .slice none 0 0] 61)) = W := ⟨_, rfl⟩
  rw [hW] at b3 hbox hcall hsz
  have HC := Aside0.mk hcall
  have HB3 := Aside0.mk b3
  have HS := Aside0.mk hsz
  have HW := Aside0.mk hW
  clear b1 b2 b3 hcap hsz hcall hI hW
  have hfi := found_idx (fun x => x.f0 == cd && q x.f1) l
  rw [hx] at hfi
  obtain ⟨ix, hix⟩ : ∃ ix, idxOf (fun x => x.f0 == cd && q x.f1) l = ix := ⟨_, rfl⟩
  rw [hix] at hfi HC
  clear hix hx hq
  rcases hfi with ⟨rfl, hfe⟩ | ⟨k, hk, rfl, hfe⟩
  · injection hfe with h1 h2
    subst h1 h2
    go_enter Tryd.func81, Tryd.ntmps81
    go_wp2_with fail
    rw [HW.out]
    refine HC.out.mono ?_
    rintro e w4 ⟨rfl, hb4⟩
    have hbx := blk_below hbox hb4
    have f0 := blk_frozen hbx 0
    have f1 := blk_frozen hbx 1
    have c0 := blk_cell hbx 0
    have c1 := blk_cell hbx 1
    simp at c0 c1
    have hB : Below w.heap.size w w4 := HB3.out.trans (hb4.mono (by have := HS.out; omega))
    have hset := blk_put (blk_put hbx 0 (.int .u8 0) rfl) 1 (.slice none 0 0) rfl
    have hB2 := (hB.setCell (p := ⟨w.heap.size + 1 + 1, 0, none⟩) (show w.heap.size ≤ w.heap.size + 1 + 1 by omega) (.int .u8 0)).setCell (p := ⟨w.heap.size + 1 + 1, 1, none⟩) (show w.heap.size ≤ w.heap.size + 1 + 1 by omega) (.slice none 0 0)
    go_wp2
    have q0 := blk_cell hset 0
    have q1 := blk_cell hset 1
    generalize (w4.setCell _ _).setCell _ _ = W5 at q0 q1 hB2 ⊢
    exact bodyPost_ret (v := .tuple #[.agg #[.int .u8 0, .slice none 0 0], .bool false]) (by simp at q0 q1; simp [results, Tryd.results81, go_sem, q0, q1]) rfl ⟨none, 0, rfl, Kd.C_nil _ _, Nat.zero_le _, hB2⟩
  · injection hfe with h1 h2
    subst h1 h2
    obtain ⟨ad, A1, c1, rfl, g0, g1, hl1, hC1⟩ := PA.at_T61 hC (k : Int) (by omega) (by omega)
    rw [Int.toNat_natCast] at g0 g1
    have hx : PA.rd_T61 l (k : Int) = l[k] := by rw [PA.rd_T61, Int.toNat_natCast, List.getD_eq_getElem?_getD, List.getElem?_eq_getElem hk]; rfl
    rw [hx] at g0 g1 hl1 hC1
    obtain ⟨x, hxe⟩ : ∃ x, l[k] = x := ⟨_, rfl⟩
    rw [hxe] at g0 g1 hl1 hC1 ⊢
    clear hx hxe hC
    go_enter Tryd.func81, Tryd.ntmps81
    go_wp2_with fail
    rw [HW.out]
    refine HC.out.mono ?_
    rintro e w4 ⟨rfl, hb4⟩
    have hbx := blk_below hbox hb4
    have f0 := blk_frozen hbx 0
    have f1 := blk_frozen hbx 1
    have c0 := blk_cell hbx 0
    have c1' := blk_cell hbx 1
    simp at c0 c1'
    replace g0 := pw_cell_below hb4 (pw_cell_below HB3.out g0)
    replace g1 := pw_cell_below hb4 (pw_cell_below HB3.out g1)
    have hB : Below w.heap.size w w4 := HB3.out.trans (hb4.mono (by have := HS.out; omega))
    have hset := blk_put (blk_put hbx 0 (.int .u8 x.f0) rfl) 1 (.slice A1 x.f1.length c1) rfl
    have hB2 := (hB.setCell (p := ⟨w.heap.size + 1 + 1, 0, none⟩) (show w.heap.size ≤ w.heap.size + 1 + 1 by omega) (.int .u8 x.f0)).setCell (p := ⟨w.heap.size + 1 + 1, 1, none⟩) (show w.heap.size ≤ w.heap.size + 1 + 1 by omega) (.slice A1 x.f1.length c1)
    go_wp2
    have q0 := blk_cell hset 0
    have q1 := blk_cell hset 1
    generalize (w4.setCell _ _).setCell _ _ = W5 at q0 q1 hB2 ⊢
    exact bodyPost_ret (v := .tuple #[.agg #[.int .u8 x.f0, .slice A1 x.f1.length c1], .bool true]) (by simp at q0 q1; simp [results, Tryd.results81, go_sem, q0, q1]) rfl ⟨A1, c1, rfl, Kd.C_below hC1 hB2, hl1, hB2⟩

def isFour (ys : List Int) : Bool := (ys.length : Int) == 4
def isNone (ys : List Int) : Bool := (ys.length : Int) == 0
def isAny (_ : List Int) : Bool := true

set_option maxHeartbeats 400000 in
theorem asks82 : Asks 82 isFour (fun _ => True) :=
  ⟨fun _ _ => trivial, fun _ _ => by kernel_rfl, fun w A c ys _ hC hl => by
    have e : isFour ys = ((ys.length : Int) == 4) := rfl
    rw [e]
    clear e
    go_enter Tryd.func82, Tryd.ntmps82
    go_wp2
    go_ret
    exact ⟨rfl, Drawn0.refl w⟩⟩
set_option maxHeartbeats 400000 in
theorem asks85 : Asks 85 isNone (fun _ => True) :=
  ⟨fun _ _ => trivial, fun _ _ => by kernel_rfl, fun w A c ys _ hC hl => by
    have e : isNone ys = ((ys.length : Int) == 0) := rfl
    rw [e]
    clear e
    go_enter Tryd.func85, Tryd.ntmps85
    go_wp2
    go_ret
    exact ⟨rfl, Drawn0.refl w⟩⟩
set_option maxHeartbeats 400000 in
theorem asks83 : Asks 83 isAny (fun _ => True) :=
  ⟨fun _ _ => trivial, fun _ _ => by kernel_rfl, fun w A c ys _ hC hl => by
    go_enter Tryd.func83, Tryd.ntmps83
    go_wp2
    go_ret
    exact ⟨rfl, Drawn0.refl w⟩⟩

/-- Values are bytes. -/
def CapsWf (l : List PA.S61) : Prop := ∀ x, x ∈ l → x.f1.length ≤ 140737488351232 ∧ ∀ b, b ∈ x.f1 → 0 ≤ b ∧ b < 256
theorem found_mem {p : PA.S61 → Bool} {l : List PA.S61} {x : PA.S61} (h : found p l = (x, true)) : x ∈ l := by
  unfold found at h
  split at h
  · rename_i y hy
    injection h with h
    subst h
    exact List.mem_of_find?_eq_some hy
  · injection h with _ h
    cases h

def capsNumber (l : List PA.S61) : Int × Bool := match found (fun x => x.f0 == 65 && isFour x.f1) l with
  | (x, true) => (acc32 ((Rdr.new x.f1).taken 4), true)
  | (_, false) => (0, false)
def capsRefreshes (l : List PA.S61) : Bool := (found (fun x => x.f0 == 2 && isNone x.f1) l).2

set_option maxHeartbeats 1600000 in
set_option maxRecDepth 100000 in
theorem Refreshes_calls (w : World) (A : Option Addr) (c : Nat) (l : List PA.S61) (hC : PA.k61.C w A l.length l) (hl : l.length ≤ 140737488351232) :
    Calls Tryd.prog 33 #[.slice A l.length c] w fun e w' => e = .returned (.bool (capsRefreshes l)) ∧ Below w.heap.size w w' := by
  obtain ⟨x, is, hx⟩ : ∃ x is, found (fun x => x.f0 == 2 && isNone x.f1) l = (x, is) := ⟨_, _, rfl⟩
  have hcall := find_calls 85 isNone (fun _ => True) asks85 2 w trivial A c l hC hl x is hx
  rw [show capsRefreshes l = is by rw [capsRefreshes, hx]]
  have HC := Aside0.mk hcall
  clear hcall hx
  go_enter Tryd.func33, Tryd.ntmps33
  go_wp2_with fail
  refine HC.out.mono ?_
  rintro e w1 ⟨A1, c1, rfl, hC1, hl1, hb1⟩
  go_wp2
  go_ret
  exact ⟨rfl, hb1.trans ((below_alloc (Below.refl _ _) _).mono hb1.size)⟩

set_option maxHeartbeats 1600000 in
set_option maxRecDepth 100000 in
theorem Number_calls (w : World) (A : Option Addr) (c : Nat) (l : List PA.S61) (hC : PA.k61.C w A l.length l) (hl : l.length ≤ 140737488351232) (hwf : CapsWf l) (n : Int) (is : Bool) (hn : capsNumber l = (n, is)) :
    Calls Tryd.prog 30 #[.slice A l.length c] w fun e w' => e = .returned (.tuple #[.int .u32 n, .bool is]) ∧ Below w.heap.size w w' := by
  obtain ⟨x, is', hx⟩ : ∃ x is, found (fun x => x.f0 == 65 && isFour x.f1) l = (x, is) := ⟨_, _, rfl⟩
  have hcall := find_calls 82 isFour (fun _ => True) asks82 65 w trivial A c l hC hl x is' hx
  have HC := Aside0.mk hcall
  unfold capsNumber at hn
  rw [hx] at hn
  cases is' with
  | false =>
    injection hn with h1 h2
    subst h1 h2
    clear hcall hx
    go_enter Tryd.func30, Tryd.ntmps30
    go_wp2_with fail
    refine HC.out.mono ?_
    rintro e w1 ⟨A1, c1, rfl, hC1, hl1, hb1⟩
    go_wp2
    go_ret2
    exact ⟨rfl, hb1.trans ((below_alloc (Below.refl _ _) _).mono hb1.size)⟩
  | true =>
    injection hn with h1 h2
    subst h1 h2
    have hw := hwf x (found_mem hx)
    have HW := Aside0.mk hw
    clear hcall hx hw
    obtain ⟨n, hne⟩ : ∃ n, acc32 ((Rdr.new x.f1).taken 4) = n := ⟨_, rfl⟩
    rw [hne]
    have HN := Aside0.mk hne
    clear hne
    go_enter Tryd.func30, Tryd.ntmps30
    go_wp2_with fail
    refine HC.out.mono ?_
    rintro e w1 ⟨A1, c1, rfl, hC1, hl1, hb1⟩
    have hb2 := below_alloc (Below.refl w1.heap.size w1) (.cells #[.int .u8 x.f0, .slice A1 x.f1.length c1] 61)
    have hbx := blk_new w1 (.cells #[.int .u8 x.f0, .slice A1 x.f1.length c1] 61)
    have q1 := blk_cell hbx 1
    simp at q1
    clear hbx
    go_wp2_with fail
    refine (New_calls _ A1 c1 x.f1 (Kd.C_below hC1 hb2) HW.out.1 HW.out.2).mono ?_
    rintro e w3 ⟨g, rfl, hR, hb3⟩
    go_wp2_with fail
    refine (RFour_calls _ _ g _ hR).mono ?_
    rintro e w4 ⟨rfl, hR4, k4⟩
    rw [HN.out]
    have hsz := hb1.size
    have hsz2 : w1.heap.size ≤ (w1.alloc (.cells #[.int .u8 x.f0, .slice A1 x.f1.length c1] 61)).heap.size := hb2.size
    have hB : Below w.heap.size w w4 := hb1.trans ((hb2.mono hsz).trans ((hb3.mono (by omega)).trans ((k4.below hb3.size).mono (by omega))))
    go_wp2
    go_ret2
    exact ⟨rfl, hB⟩

set_option maxHeartbeats 400000 in
theorem BClone_calls (w : World) (B : Nat) (A : Option Addr) (c : Nat) (xs : List Int) (hB : B ≤ w.heap.size) (hC : (Kd.int .u8).C w A xs.length xs) (hl : xs.length ≤ 140737488351232) :
    Calls Tryd.prog 14 #[.slice A xs.length c] w fun e w' => ∃ v, e = .returned v ∧ (Kd.int .u8).R 5 w' B (fun _ => True) v xs ∧ Below w.heap.size w w' := by
  have hq := fun (w1 : World) => Lib.run_eql_slice_nil (P := Tryd.prog) w1 22 5 A xs.length c 0 0 Tryd.underlying22
  cases A with
  | none =>
    have h0 : xs = [] := by
      have h2 := hC.2.2
      rcases Nat.eq_zero_or_pos xs.length with h | h
      · exact List.eq_nil_of_length_eq_zero h
      · obtain ⟨ad, he, _⟩ := h2 h
        cases he
    subst h0
    clear hl hC hB hq
    have hq := fun (w1 : World) => Lib.run_eql_slice_nil_nil (P := Tryd.prog) w1 (t := 22) (e := 5) 0 c Tryd.underlying22
    show Calls Tryd.prog 14 #[.slice none 0 c] w _
    go_enter Tryd.func14, Tryd.ntmps14
    go_wp2
    go_ret
    exact ⟨_, rfl, Kd.R_nil _ _ _ _ _, Below.refl _ _⟩
  | some ad =>
    have hb : Below w.heap.size w (w.alloc (.cells #[] 5)) := below_alloc (Below.refl _ _) _
    have hb2 : Below B w (w.alloc (.cells #[] 5)) := hb.mono hB
    have hR : (Kd.int .u8).R 5 (w.alloc (.cells #[] 5)) w.heap.size (fun _ => True) (.slice (some ⟨w.heap.size, 0, none⟩) 0 0) [] := by
      have h := World.ownsRow_lit (base := w.heap.size) (e := 5) (size := 1) w #[] 0 (Nat.le_refl _) (by simp [maxLen]) (by simp)
      exact ⟨fun _ _ => trivial, [], (show World.ownsRow _ _ _ 1 _ _ _ by simpa using h), ⟨by simp, fun j p hj => by simp at hj⟩⟩
    go_enter Tryd.func14, Tryd.ntmps14
    go_wp2_with (at_builtin; refine Kd.R_append_rows (Kd.int .u8) (w0 := w) w.heap.size rfl _ _ 22 5 (.int .u8 0) 1 rfl Tryd.underlying22 info5 rfl (by decide) (by decide) (.slice (some ⟨w.heap.size, 0, none⟩) 0 0) [] xs (some ad) xs.length c (fun _ => True) (fun _ => False) rfl rfl hR (Kd.C_below hC hb) ?_ (fun _ h => h.elim) (fun _ _ => trivial) hb (by simp) (by simp; omega) ?_)
    · intro x cs h
      exact h
    · intro v1 w1 hR1 hb1 _ _
      go_wp2
      go_ret
      exact ⟨_, rfl, Kd.R_lower hR1 hB, hb1⟩


/-- A literal of bytes in its new block. -/
theorem lit5 (w : World) (xs : List Int) (hl : xs.length ≤ 140737488351232) : (Kd.int .u8).C (w.alloc (.cells (nums .u8 xs).toArray 5)) (some ⟨w.heap.size, 0, none⟩) xs.length xs := by
  have h := own_lit w 0 5 .u8 xs (Nat.zero_le _) (by omega)
  obtain ⟨A, c, he, hr⟩ := own_reads h
  injection he with h1 h2 h3
  subst h1
  exact Kd.C_of_reads (enc := Value.int .u8) (d := (0 : Int)) hr

theorem wk1 : capsRead.f 20 [2, 2, 2, 0] = some ([⟨2, []⟩], 0, 0) := by kernel_rfl
theorem wk2 : capsRead.f 20 [2, 6, 65, 4, 0, 1, 0, 0] = some ([⟨65, [0, 1, 0, 0]⟩], 0, 0) := by kernel_rfl
theorem wk3 : capsRead.f 20 [1, 0] = some ([], 2, 4) := by kernel_rfl
theorem wk4 : capsRead.f 20 [2, 2, 2] = some ([], 2, 0) := by kernel_rfl
theorem wk5 : capsRead.f 20 [2, 1, 2] = some ([], 2, 0) := by kernel_rfl
theorem wk6 : capsNumber [⟨65, [0, 1, 0, 0]⟩] = (65536, true) := by kernel_rfl
theorem wk7 : capsRefreshes [⟨2, []⟩] = true := by kernel_rfl

/-- caps.Read of a literal. -/
theorem wk_step (xs : List Int) (l : List PA.S61) (f0 f1 : Int) (hx : capsRead.f 20 xs = some (l, f0, f1)) (hl : xs.length ≤ 140737488351232) (hb : ∀ x, x ∈ xs → 0 ≤ x ∧ x < 256) (w0 W : World) (hG : GlobC w0) (hB : Below w0.heap.size w0 W) (b : Nat) (hbb : W.heap.size = b) :
    Calls Tryd.prog 15 #[.slice (some ⟨b, 0, none⟩) xs.length xs.length] (W.alloc (.cells (nums .u8 xs).toArray 5)) fun e w' => ∃ A c, e = .returned (.tuple #[.slice A l.length c, .agg #[.int .u8 f0, .int .u8 f1]]) ∧ PA.k61.C w' A l.length l ∧ Below W.heap.size W w' := by
  subst hbb
  have b1 := below_alloc (Below.refl W.heap.size W) (.cells (nums .u8 xs).toArray 5)
  refine (capsRead_calls 20 _ _ xs _ _ _ _ ((hG.below hB).below b1) (lit5 W xs hl) hl hb hx).mono fun e w' ⟨v, he, hR, hb'⟩ => ?_
  obtain ⟨A, c, rfl, _, hC⟩ := Kd.R_reads hR
  exact ⟨A, c, he, hC, b1.trans (hb'.mono b1.size)⟩

/-- A fault's block, kept. -/
def FB (w : World) (b : Nat) (x y : Int) : Prop := w.heap[b]? = some (.cells #[.int .u8 x, .int .u8 y] 26 (0, 0))
theorem FB.below {w w' : World} {b : Nat} {x y : Int} (h : FB w b x y) (hb : Below w.heap.size w w') : FB w' b x y := blk_below h hb
theorem FB.new (w : World) (x y : Int) : FB (w.alloc (.cells #[.int .u8 x, .int .u8 y] 26)) w.heap.size x y := blk_new _ _
theorem FB.c0 {w : World} {b : Nat} {x y : Int} (h : FB w b x y) : w.cell? ⟨b, 0, none⟩ = some (.int .u8 x) := (blk_cell h 0).trans rfl
theorem FB.c1 {w : World} {b : Nat} {x y : Int} (h : FB w b x y) : w.cell? ⟨b, 1, none⟩ = some (.int .u8 y) := (blk_cell h 1).trans rfl

set_option maxHeartbeats 4000000 in
set_option maxRecDepth 100000 in
theorem wakes_calls (w : World) (hG : GlobC w) :
    Calls Tryd.prog 20 #[] w fun e w' => e = .returned (.bool true) ∧ Below w.heap.size w w' := by
  have hGw := Aside0.mk hG
  clear hG
  go_enter Tryd.func20, Tryd.ntmps20
  go_wp2_with fail
  refine (wk_step [2, 2, 2, 0] _ _ _ wk1 (by decide) (by decide) w w hGw.out (Below.refl _ _) _ rfl).mono ?_
  rintro e w1 ⟨A1, c1, rfl, hC1, hb⟩
  have HB := hb
  clear hb
  go_wp2_with fail
  have hF1 := FB.new w1 0 0
  have hb := below_alloc (Below.refl w1.heap.size w1) (.cells #[.int .u8 0, .int .u8 0] 26)
  replace HB := HB.trans (hb.mono HB.size)
  replace hC1 := Kd.C_below hC1 hb
  refine (wk_step [2, 6, 65, 4, 0, 1, 0, 0] _ _ _ wk2 (by decide) (by decide) w _ hGw.out HB (w1.heap.size + 1) (by simp)).mono ?_
  clear hb
  rintro e w2 ⟨A2, c2, rfl, hC2, hb⟩
  replace HB := HB.trans (hb.mono HB.size)
  replace hF1 := hF1.below hb
  replace hC1 := Kd.C_below hC1 hb
  clear hb
  go_wp2_with fail
  have hF2 := FB.new w2 0 0
  have hb := below_alloc (Below.refl w2.heap.size w2) (.cells #[.int .u8 0, .int .u8 0] 26)
  replace HB := HB.trans (hb.mono HB.size)
  replace hF1 := hF1.below hb
  replace hC1 := Kd.C_below hC1 hb
  replace hC2 := Kd.C_below hC2 hb
  refine (Number_calls _ A2 c2 _ hC2 (by decide) (by
    intro x hx
    rw [List.mem_singleton.1 hx]
    exact ⟨by decide, by decide⟩) _ _ wk6).mono ?_
  clear hb hC2
  rintro e w3 ⟨rfl, hb⟩
  replace HB := HB.trans (hb.mono HB.size)
  replace hF1 := hF1.below hb
  replace hF2 := hF2.below hb
  replace hC1 := Kd.C_below hC1 hb
  clear hb
  go_wp2_with fail
  refine (wk_step [1, 0] _ _ _ wk3 (by decide) (by decide) w _ hGw.out HB _ rfl).mono ?_
  rintro e w4 ⟨A4, c4, rfl, hC4, hb⟩
  replace HB := HB.trans (hb.mono HB.size)
  replace hF1 := hF1.below hb
  replace hF2 := hF2.below hb
  replace hC1 := Kd.C_below hC1 hb
  clear hb hC4
  go_wp2_with fail
  have hF3 := FB.new w4 2 4
  have hb := below_alloc (Below.refl w4.heap.size w4) (.cells #[.int .u8 2, .int .u8 4] 26)
  replace HB := HB.trans (hb.mono HB.size)
  replace hF1 := hF1.below hb
  replace hF2 := hF2.below hb
  replace hC1 := Kd.C_below hC1 hb
  clear hb
  refine (wk_step [2, 2, 2] _ _ _ wk4 (by decide) (by decide) w _ hGw.out HB _ (by simp)).mono ?_
  rintro e w5 ⟨A5, c5, rfl, hC5, hb⟩
  replace HB := HB.trans (hb.mono HB.size)
  replace hF1 := hF1.below hb
  replace hF2 := hF2.below hb
  replace hF3 := hF3.below hb
  replace hC1 := Kd.C_below hC1 hb
  clear hb hC5
  go_wp2_with fail
  have hF4 := FB.new w5 2 0
  have hb := below_alloc (Below.refl w5.heap.size w5) (.cells #[.int .u8 2, .int .u8 0] 26)
  replace HB := HB.trans (hb.mono HB.size)
  replace hF1 := hF1.below hb
  replace hF2 := hF2.below hb
  replace hF3 := hF3.below hb
  replace hC1 := Kd.C_below hC1 hb
  clear hb
  refine (wk_step [2, 1, 2] _ _ _ wk5 (by decide) (by decide) w _ hGw.out HB _ (by simp)).mono ?_
  rintro e w6 ⟨A6, c6, rfl, hC6, hb⟩
  replace HB := HB.trans (hb.mono HB.size)
  replace hF1 := hF1.below hb
  replace hF2 := hF2.below hb
  replace hF3 := hF3.below hb
  replace hF4 := hF4.below hb
  replace hC1 := Kd.C_below hC1 hb
  clear hb hC6
  have hF5 := FB.new w6 2 0
  have hb := below_alloc (Below.refl w6.heap.size w6) (.cells #[.int .u8 2, .int .u8 0] 26)
  have g0 := (hF1.below hb).c0
  have g1 := (hF1.below hb).c1
  have e0 : ∀ W, (binOp .eql 26 (.agg #[.int .u8 0, .int .u8 0]) (.agg #[.int .u8 0, .int .u8 0])).run Tryd.prog W = .ok (.bool true) W := fun _ => by kernel_rfl
  go_wp2_with fail
  replace HB := HB.trans (hb.mono HB.size)
  replace hF1 := hF1.below hb
  replace hF2 := hF2.below hb
  replace hF3 := hF3.below hb
  replace hF4 := hF4.below hb
  replace hC1 := Kd.C_below hC1 hb
  clear hb g0 g1
  have hr := Refreshes_calls _ A1 c1 _ hC1 (by decide)
  rw [wk7] at hr
  refine hr.mono ?_
  clear hr
  rintro e w7 ⟨rfl, hb⟩
  replace HB := HB.trans (hb.mono HB.size)
  have g20 := (hF2.below hb).c0
  have g21 := (hF2.below hb).c1
  have g30 := (hF3.below hb).c0
  have g31 := (hF3.below hb).c1
  have g40 := (hF4.below hb).c0
  have g41 := (hF4.below hb).c1
  have g50 := (hF5.below hb).c0
  have g51 := (hF5.below hb).c1
  have e1 : ∀ W, (binOp .eql 26 (.agg #[.int .u8 2, .int .u8 4]) (.agg #[.int .u8 2, .int .u8 4])).run Tryd.prog W = .ok (.bool true) W := fun _ => by kernel_rfl
  have e2 : ∀ W, (binOp .eql 26 (.agg #[.int .u8 2, .int .u8 0]) (.agg #[.int .u8 2, .int .u8 0])).run Tryd.prog W = .ok (.bool true) W := fun _ => by kernel_rfl
  clear hF1 hF2 hF3 hF4 hF5 hC1 hb
  go_wp2
  go_ret
  exact ⟨rfl, HB⟩
end Go.Proofs.YthafedmlbialiaaDoor
