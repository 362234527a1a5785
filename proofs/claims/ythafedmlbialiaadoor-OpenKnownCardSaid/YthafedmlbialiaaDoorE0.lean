/-
  The walks of open's Ours and Number.
-/
import Derived.Test.YthafedmlbialiaaDoorD0
import Derived.Test.YthafedmlbialiaaDoorPAx5
import Derived.Test.YthafedmlbialiaaDoorP0
namespace Go.Proofs.YthafedmlbialiaaDoor
open Go.RowKit Go.Proofs.YthafedmlbialiaaDoorW.PrintWords Go.Proofs.YthafedmlbialiaaDoorW.PrintLast Go.Proofs.YthafedmlbialiaaDoorW.PrintMore
set_option linter.unusedVariables false
set_option linter.unusedSimpArgs false

def shortOf (n : Int) : Int := if n > 65535 then 23456 else n
theorem Short_calls (w : World) (n : Int) (h0 : 0 ≤ n) : Calls Tryd.prog 68 #[.int .u32 n] w fun e w' => e = .returned (.int .u16 (shortOf n)) ∧ Drawn0 w w' := by
  refine PA.number_Short.calls n (shortOf n) w ?_
  unfold PA.number_Short.f PA.number_Wide.f shortOf
  by_cases h : n > 65535
  · simp [h]
  · have hw : IntKind.u16.wrap n = n := IntWalk.u16_in _ (by omega)
    simp [h, hw]

/-- An OPEN's value. -/
def openV (ver an hold id : Int) (A : Option Addr) (n c : Nat) : Value := .agg #[.int .u8 ver, .int .u16 an, .int .u16 hold, .int .u32 id, .slice A n c]

set_option maxHeartbeats 1600000 in
set_option maxRecDepth 100000 in
theorem oOurs_calls (w : World) (hU : GlobU w) (n hold id : Int) (h0 : 0 ≤ n) (h1 : n < 4294967296) :
    Calls Tryd.prog 26 #[.int .u32 n, .int .u16 hold, .int .u32 id] w fun e w' => ∃ A c, e = .returned (.agg #[.int .u8 4, .int .u16 (shortOf n), .int .u16 hold, .int .u32 id, .slice A (ours n).length c]) ∧ PA.k61.C w' A (ours n).length (ours n) ∧ (ours n).length ≤ c ∧ Below w.heap.size w w' := by
  have R1 := Aside0.mk (fun w => Short_calls w n h0)
  have R2 := Aside0.mk (fun w hU => Ours_calls w hU n h0 h1)
  generalize shortOf n = sn at *
  generalize ours n = os at *
  have b1 := below_alloc (Below.refl w.heap.size w) (.cells #[.int .u8 0, .int .u16 0, .int .u16 0, .int .u32 0, .slice none 0 0] 41)
  have hM := blk_new w (.cells #[.int .u8 0, .int .u16 0, .int .u16 0, .int .u32 0, .slice none 0 0] 41)
  go_enter Tryd.func26, Tryd.ntmps26
  go_wp2_with fail
  refine (R1.out _).mono ?_
  rintro e w1 ⟨rfl, hd⟩
  replace b1 := b1.trans ((Drawn0.below hd).mono b1.size)
  replace hM := blk_below hM (Drawn0.below hd)
  clear hd
  go_wp2_with fail
  refine (R2.out w1 (hU.below b1)).mono ?_
  rintro e w2 ⟨v, rfl, hv, hb⟩
  replace b1 := b1.trans (hb.mono b1.size)
  replace hM := blk_below hM hb
  obtain ⟨A, c, rfl⟩ := Kd.R_slice hv
  clear hb
  have c0 := blk_cell hM 0
  have c1 := blk_cell hM 1
  have c2 := blk_cell hM 2
  have c3 := blk_cell hM 3
  have c4 := blk_cell hM 4
  have f0 := blk_frozen hM 0
  have f1 := blk_frozen hM 1
  have f2 := blk_frozen hM 2
  have f3 := blk_frozen hM 3
  have f4 := blk_frozen hM 4
  simp at c0 c1 c2 c3 c4
  have h1 := blk_put hM 0 (.int .u8 4) rfl
  have h2 := blk_put h1 1 (.int .u16 sn) rfl
  have h3 := blk_put h2 2 (.int .u16 hold) rfl
  have h4 := blk_put h3 3 (.int .u32 id) rfl
  have h5 := blk_put h4 4 (.slice A os.length c) rfl
  have hv5 := Kd.R_set (Kd.R_set (Kd.R_set (Kd.R_set (Kd.R_set hv hM (by decide) 0 (.int .u8 4)) h1 (by decide) 1 (.int .u16 sn)) h2 (by decide) 2 (.int .u16 hold)) h3 (by decide) 3 (.int .u32 id)) h4 (by decide) 4 (.slice A os.length c)
  have b5 := ((((b1.setCell (p := ⟨w.heap.size, 0, none⟩) (Nat.le_refl _) (.int .u8 4)).setCell (p := ⟨w.heap.size, 1, none⟩) (Nat.le_refl _) (.int .u16 sn)).setCell (p := ⟨w.heap.size, 2, none⟩) (Nat.le_refl _) (.int .u16 hold)).setCell (p := ⟨w.heap.size, 3, none⟩) (Nat.le_refl _) (.int .u32 id)).setCell (p := ⟨w.heap.size, 4, none⟩) (Nat.le_refl _) (.slice A os.length c)
  clear h1 h2 h3 h4 hM hv b1
  go_wp2
  generalize ((((w2.setCell ⟨w.heap.size, 0, none⟩ (.int .u8 4)).setCell ⟨w.heap.size, 1, none⟩ (.int .u16 sn)).setCell ⟨w.heap.size, 2, none⟩ (.int .u16 hold)).setCell ⟨w.heap.size, 3, none⟩ (.int .u32 id)).setCell ⟨w.heap.size, 4, none⟩ (.slice A os.length c) = w3 at *
  obtain ⟨A', c', he, hc, hC⟩ := Kd.R_reads hv5
  injection he with e1 e2 e3
  subst e1 e3
  have q0 := blk_cell h5 0
  have q1 := blk_cell h5 1
  have q2 := blk_cell h5 2
  have q3 := blk_cell h5 3
  have q4 := blk_cell h5 4
  simp at q0 q1 q2 q3 q4
  exact bodyPost_ret (v := .agg #[.int .u8 4, .int .u16 sn, .int .u16 hold, .int .u32 id, .slice A os.length c]) (by simp [results, Tryd.results26, go_sem, q0, q1, q2, q3, q4]) rfl ⟨A, c, rfl, hC, hc, b5⟩

def oNumber (an : Int) (l : List PA.S61) : Int × Bool :=
  match capsNumber l with
  | (n, false) => if an = 0 ∨ an = 23456 then (0, false) else (an, true)
  | (n, true) => if n = 0 ∨ (an ≠ n ∧ an ≠ 23456) then (0, false) else (n, true)

set_option maxHeartbeats 1600000 in
set_option maxRecDepth 100000 in
theorem oNumber_calls (w : World) (A : Option Addr) (c : Nat) (l : List PA.S61) (hC : PA.k61.C w A l.length l) (hl : l.length ≤ 140737488351232) (hwf : CapsWf l) (ver an hold id : Int) (ha : 0 ≤ an ∧ an < 65536) (r1 : Int) (r2 : Bool) (hr : oNumber an l = (r1, r2)) :
    Calls Tryd.prog 27 #[.agg #[.int .u8 ver, .int .u16 an, .int .u16 hold, .int .u32 id, .slice A l.length c]] w fun e w' => e = .returned (.tuple #[.int .u32 r1, .bool r2]) ∧ Below w.heap.size w w' := by
  have b1 := below_alloc (Below.refl w.heap.size w) (.cells #[.int .u8 ver, .int .u16 an, .int .u16 hold, .int .u32 id, .slice A l.length c] 41)
  have hM := blk_new w (.cells #[.int .u8 ver, .int .u16 an, .int .u16 hold, .int .u32 id, .slice A l.length c] 41)
  obtain ⟨n, is, hn⟩ : ∃ n is, capsNumber l = (n, is) := ⟨_, _, rfl⟩
  have hcl := Number_calls _ A c l (Kd.C_below hC b1) hl hwf n is hn
  have hm : an % 4294967296 = an := by omega
  cases is with
  | false =>
    by_cases h0 : an = 0
    · subst h0
      rw [show oNumber 0 l = (0, false) from by unfold oNumber; rw [hn]; simp] at hr
      injection hr with hr1 hr2
      subst hr1 hr2
      have R1 := Aside0.mk hcl
      clear hcl hn
      go_enter Tryd.func27, Tryd.ntmps27
      go_wp2_with fail
      refine R1.out.mono ?_
      rintro e w1 ⟨rfl, hb⟩
      replace b1 := b1.trans (hb.mono b1.size)
      replace hM := blk_below hM hb
      clear hb R1
      have q1 := blk_cell hM 1
      simp at q1
      go_wp2
      exact bodyPost_ret (v := .tuple #[_, _]) (by simp [results, Tryd.results27, go_sem]) rfl ⟨rfl, b1⟩
    · have n0 : (an == 0) = false := by simp [h0]
      by_cases h1 : an = 23456
      · subst h1
        rw [show oNumber 23456 l = (0, false) from by unfold oNumber; rw [hn]; simp] at hr
        injection hr with hr1 hr2
        subst hr1 hr2
        have R1 := Aside0.mk hcl
        clear hcl hn
        go_enter Tryd.func27, Tryd.ntmps27
        go_wp2_with fail
        refine R1.out.mono ?_
        rintro e w1 ⟨rfl, hb⟩
        replace b1 := b1.trans (hb.mono b1.size)
        replace hM := blk_below hM hb
        clear hb R1
        have q1 := blk_cell hM 1
        simp at q1
        go_wp2
        exact bodyPost_ret (v := .tuple #[_, _]) (by simp [results, Tryd.results27, go_sem]) rfl ⟨rfl, b1⟩
      · have n1 : (an == 23456) = false := by simp [h1]
        rw [show oNumber an l = (an, true) from by unfold oNumber; rw [hn]; simp [h0, h1]] at hr
        injection hr with hr1 hr2
        subst hr1 hr2
        have R1 := Aside0.mk hcl
        clear hcl hn
        go_enter Tryd.func27, Tryd.ntmps27
        go_wp2_with fail
        refine R1.out.mono ?_
        rintro e w1 ⟨rfl, hb⟩
        replace b1 := b1.trans (hb.mono b1.size)
        replace hM := blk_below hM hb
        clear hb R1
        have q1 := blk_cell hM 1
        simp at q1
        go_wp2
        exact bodyPost_ret (v := .tuple #[_, _]) (by simp [results, Tryd.results27, go_sem]) rfl ⟨rfl, b1⟩
  | true =>
    by_cases h0 : n = 0
    · subst h0
      rw [show oNumber an l = (0, false) from by unfold oNumber; rw [hn]; simp] at hr
      injection hr with hr1 hr2
      subst hr1 hr2
      have R1 := Aside0.mk hcl
      clear hcl hn
      go_enter Tryd.func27, Tryd.ntmps27
      go_wp2_with fail
      refine R1.out.mono ?_
      rintro e w1 ⟨rfl, hb⟩
      replace b1 := b1.trans (hb.mono b1.size)
      replace hM := blk_below hM hb
      clear hb R1
      have q1 := blk_cell hM 1
      simp at q1
      go_wp2
      exact bodyPost_ret (v := .tuple #[_, _]) (by simp [results, Tryd.results27, go_sem]) rfl ⟨rfl, b1⟩
    · have n0 : (n == 0) = false := by simp [h0]
      by_cases h1 : n = an
      · subst h1
        rw [show oNumber n l = (n, true) from by unfold oNumber; rw [hn]; simp [h0]] at hr
        injection hr with hr1 hr2
        subst hr1 hr2
        have R1 := Aside0.mk hcl
        clear hcl hn
        go_enter Tryd.func27, Tryd.ntmps27
        go_wp2_with fail
        refine R1.out.mono ?_
        rintro e w1 ⟨rfl, hb⟩
        replace b1 := b1.trans (hb.mono b1.size)
        replace hM := blk_below hM hb
        clear hb R1
        have q1 := blk_cell hM 1
        simp at q1
        go_wp2
        exact bodyPost_ret (v := .tuple #[_, _]) (by simp [results, Tryd.results27, go_sem]) rfl ⟨rfl, b1⟩
      · have n1 : (an != n) = true := by simp [Ne.symm h1]
        by_cases h2 : an = 23456
        · subst h2
          rw [show oNumber 23456 l = (n, true) from by unfold oNumber; rw [hn]; simp [h0]] at hr
          injection hr with hr1 hr2
          subst hr1 hr2
          have R1 := Aside0.mk hcl
          clear hcl hn
          go_enter Tryd.func27, Tryd.ntmps27
          go_wp2_with fail
          refine R1.out.mono ?_
          rintro e w1 ⟨rfl, hb⟩
          replace b1 := b1.trans (hb.mono b1.size)
          replace hM := blk_below hM hb
          clear hb R1
          have q1 := blk_cell hM 1
          simp at q1
          go_wp2
          exact bodyPost_ret (v := .tuple #[_, _]) (by simp [results, Tryd.results27, go_sem]) rfl ⟨rfl, b1⟩
        · have n2 : (an != 23456) = true := by simp [h2]
          rw [show oNumber an l = (0, false) from by unfold oNumber; rw [hn]; simp [Ne.symm h1, h2]] at hr
          injection hr with hr1 hr2
          subst hr1 hr2
          have R1 := Aside0.mk hcl
          clear hcl hn
          go_enter Tryd.func27, Tryd.ntmps27
          go_wp2_with fail
          refine R1.out.mono ?_
          rintro e w1 ⟨rfl, hb⟩
          replace b1 := b1.trans (hb.mono b1.size)
          replace hM := blk_below hM hb
          clear hb R1
          have q1 := blk_cell hM 1
          simp at q1
          go_wp2
          exact bodyPost_ret (v := .tuple #[_, _]) (by simp [results, Tryd.results27, go_sem]) rfl ⟨rfl, b1⟩

/-- What is wanted, and IPv4's capability, as start-up lays them. -/
structure GlobO (w : World) : Prop where
  wv : ∃ A c, w.cell? ⟨2, 0, none⟩ = some (.slice A 2 c) ∧ (Kd.int .u8).C w A 2 [0, 4] ∧ 2 ≤ c
  fv : ∃ A c, w.cell? ⟨3, 0, none⟩ = some (.slice A 6 c) ∧ (Kd.int .u8).C w A 6 [1, 4, 0, 1, 0, 1] ∧ 6 ≤ c
theorem GlobO.below {w w' : World} (h : GlobO w) (hb : Below w.heap.size w w') : GlobO w' := by
  obtain ⟨⟨A, c, h1, h2, h3⟩, B, d, h4, h5, h6⟩ := h
  exact ⟨⟨A, c, pw_cell_below hb h1, Kd.C_below h2 hb, h3⟩, B, d, pw_cell_below hb h4, Kd.C_below h5 hb, h6⟩

/-- An OPEN. -/
structure OpenP where
  ver : Int
  an : Int
  hold : Int
  id : Int
  caps : List PA.S61
def OpenP.zero : OpenP := ⟨0, 0, 0, 0, []⟩
/-- Get: the OPEN, the fault, its data. -/
def oGet : List Int → OpenP × Int × Int × List Int
  | a :: b1 :: b2 :: h1 :: h2 :: i1 :: i2 :: i3 :: i4 :: m :: rest =>
    if a ≠ 4 then (.zero, 2, 1, [0, 4])
    else if m ≠ rest.length then (.zero, 2, 0, [])
    else match capsOut (rest.length + 1) rest with
      | .ok l => (⟨4, b1 * 256 + b2, h1 * 256 + h2, ((i1 * 256 + i2) * 256 + i3) * 256 + i4, l⟩, 0, 0, [])
      | .error x => (.zero, 2, x, [])
  | _ => (.zero, 2, 0, [])

theorem rdr_at (xs : List Int) (p n : Nat) (h : p + n ≤ xs.length) :
    (⟨xs, p, [(xs.length : Int)], 0⟩ : Rdr).taken n = (xs.take (p + n)).drop p ∧ (⟨xs, p, [(xs.length : Int)], 0⟩ : Rdr).took n = ⟨xs, ((p + n : Nat) : Int), [(xs.length : Int)], 0⟩ := by
  have hl : (⟨xs, p, [(xs.length : Int)], 0⟩ : Rdr).left = (xs.length : Int) - p := rfl
  have hh : (⟨xs, p, [(xs.length : Int)], 0⟩ : Rdr).has n = ⟨xs, p, [(xs.length : Int)], 0⟩ := by
    unfold Rdr.has
    rw [hl, if_neg (by omega)]
  constructor
  · unfold Rdr.taken
    rw [hh, if_pos rfl]
    show (xs.take ((p : Int) + n).toNat).drop (p : Int).toNat = _
    rw [Int.toNat_natCast, show ((p : Int) + n).toNat = p + n by omega]
  · unfold Rdr.took
    rw [hh, if_pos rfl]
    rfl
/-- The reads of Get. -/
structure Reads (xs : List Int) (a b1 b2 h1 h2 i1 i2 i3 i4 m : Int) (rest : List Int) (r1 r2 r3 r4 r5 : Rdr) : Prop where
  t0 : (Rdr.new xs).taken 1 = [a]
  k0 : (Rdr.new xs).took 1 = r1
  t1 : r1.taken 2 = [b1, b2]
  k1 : r1.took 2 = r2
  t2 : r2.taken 2 = [h1, h2]
  k2 : r2.took 2 = r3
  t3 : r3.taken 4 = [i1, i2, i3, i4]
  k3 : r3.took 4 = r4
  t4 : r4.taken 1 = [m]
  k4 : r4.took 1 = r5
  l5 : r5.left = rest.length
  t5 : r5.taken rest.length = rest
theorem reads_of (a b1 b2 h1 h2 i1 i2 i3 i4 m : Int) (rest : List Int) : ∃ r1 r2 r3 r4 r5, Reads (a :: b1 :: b2 :: h1 :: h2 :: i1 :: i2 :: i3 :: i4 :: m :: rest) a b1 b2 h1 h2 i1 i2 i3 i4 m rest r1 r2 r3 r4 r5 := by
  obtain ⟨xs, hxs⟩ : ∃ xs, a :: b1 :: b2 :: h1 :: h2 :: i1 :: i2 :: i3 :: i4 :: m :: rest = xs := ⟨_, rfl⟩
  have hl : xs.length = rest.length + 10 := by rw [← hxs]; rfl
  have q0 := rdr_at xs 0 1 (by omega)
  have q1 := rdr_at xs 1 2 (by omega)
  have q2 := rdr_at xs 3 2 (by omega)
  have q3 := rdr_at xs 5 4 (by omega)
  have q4 := rdr_at xs 9 1 (by omega)
  have q5 := rdr_at xs 10 rest.length (by omega)
  rw [hxs]
  refine ⟨_, _, _, _, _, q0.1.trans (by rw [← hxs]; rfl), q0.2, q1.1.trans (by rw [← hxs]; rfl), q1.2, q2.1.trans (by rw [← hxs]; rfl), q2.2, q3.1.trans (by rw [← hxs]; rfl), q3.2, q4.1.trans (by rw [← hxs]; rfl), q4.2, ?_, q5.1.trans ?_⟩
  · show (xs.length : Int) - ((9 + 1 : Nat) : Int) = _
    omega
  · rw [← hxs]
    show (((a :: b1 :: b2 :: h1 :: h2 :: i1 :: i2 :: i3 :: i4 :: m :: rest).take (10 + rest.length))).drop 10 = rest
    rw [List.take_of_length_le (by simp; omega)]
    rfl
theorem acc32_four (a b c d : Int) (ha : 0 ≤ a ∧ a < 256) (hb : 0 ≤ b ∧ b < 256) (hc : 0 ≤ c ∧ c < 256) (hd : 0 ≤ d ∧ d < 256) : acc32 [a, b, c, d] = ((a * 256 + b) * 256 + c) * 256 + d := by
  show ((((0 : Int) * 256 % 4294967296 + a) * 256 % 4294967296 + b) * 256 % 4294967296 + c) * 256 % 4294967296 + d = _
  omega
theorem acc16_two (a b : Int) (h0 : 0 ≤ a) (h1 : a < 256) : acc16 [a, b] = a * 256 + b := by
  show ((0 : Int) * 256 % 65536 + a) * 256 % 65536 + b = _
  omega
theorem uncons {xs : List Int} {n : Nat} (h : n + 1 ≤ xs.length) : ∃ a t, xs = a :: t ∧ n ≤ t.length := by
  cases xs with
  | nil => simp at h
  | cons a t => exact ⟨a, t, rfl, by simp at h; omega⟩
theorem oGet_short {xs : List Int} (h : xs.length < 10) : oGet xs = (.zero, 2, 0, []) := by
  unfold oGet
  split
  · simp only [List.length_cons] at h
    omega
  · rfl
theorem ten {xs : List Int} (h : 10 ≤ xs.length) : ∃ a b1 b2 h1 h2 i1 i2 i3 i4 m rest, xs = a :: b1 :: b2 :: h1 :: h2 :: i1 :: i2 :: i3 :: i4 :: m :: rest := by
  obtain ⟨a, ta, ea, na⟩ := uncons h
  obtain ⟨b1, tb1, eb1, nb1⟩ := uncons na
  obtain ⟨b2, tb2, eb2, nb2⟩ := uncons nb1
  obtain ⟨h1, th1, eh1, nh1⟩ := uncons nb2
  obtain ⟨h2, th2, eh2, nh2⟩ := uncons nh1
  obtain ⟨i1, ti1, ei1, ni1⟩ := uncons nh2
  obtain ⟨i2, ti2, ei2, ni2⟩ := uncons ni1
  obtain ⟨i3, ti3, ei3, ni3⟩ := uncons ni2
  obtain ⟨i4, ti4, ei4, ni4⟩ := uncons ni3
  obtain ⟨m, tm, em, nm⟩ := uncons ni4
  exact ⟨a, b1, b2, h1, h2, i1, i2, i3, i4, m, tm, by rw [ea, eb1, eb2, eh1, eh2, ei1, ei2, ei3, ei4, em]⟩

/-- What Get hands back. -/
def GetPost (w : World) (o : OpenP) (f0 f1 : Int) (d : List Int) (e : Ending) (w' : World) : Prop :=
  ∃ A1 c1 A2 c2, e = .returned (.tuple #[.agg #[.int .u8 o.ver, .int .u16 o.an, .int .u16 o.hold, .int .u32 o.id, .slice A1 o.caps.length c1], .agg #[.int .u8 f0, .int .u8 f1], .slice A2 d.length c2]) ∧
    PA.k61.C w' A1 o.caps.length o.caps ∧ o.caps.length ≤ c1 ∧ (Kd.int .u8).C w' A2 d.length d ∧ d.length ≤ c2 ∧ Below w.heap.size w w'
theorem fault_calls (w : World) (x : Int) : Calls Tryd.prog 63 #[.int .u8 x] w fun e w' => e = .returned (.agg #[.int .u8 2, .int .u8 x]) ∧ Below w.heap.size w w' :=
  PA.open_fault.calls x 2 x w rfl

/-- An OPEN and a fault are stored over those of blocks g and g'. -/
theorem put41 {w w0 : World} {B g g' : Nat} {a0 a1 a2 a3 a4 : Value} {x y : Int} (v0 v1 v2 v3 v4 : Value) (f0 f1 : Int) (hM : w.heap[g]? = some (.cells #[a0, a1, a2, a3, a4] 41 (0, 0))) (hF : FB w g' x y) (HB : Below B w0 w) (hB : B ≤ g) (hB' : B ≤ g') :
    ((((((((w.setCell ⟨g, 0, none⟩ v0).setCell ⟨g, 1, none⟩ v1).setCell ⟨g, 2, none⟩ v2).setCell ⟨g, 3, none⟩ v3).setCell ⟨g, 4, none⟩ v4).setCell ⟨g', 0, none⟩ (.int .u8 f0)).setCell ⟨g', 1, none⟩ (.int .u8 f1))).heap[g]? = some (.cells #[v0, v1, v2, v3, v4] 41 (0, 0)) ∧ FB ((((((((w.setCell ⟨g, 0, none⟩ v0).setCell ⟨g, 1, none⟩ v1).setCell ⟨g, 2, none⟩ v2).setCell ⟨g, 3, none⟩ v3).setCell ⟨g, 4, none⟩ v4).setCell ⟨g', 0, none⟩ (.int .u8 f0)).setCell ⟨g', 1, none⟩ (.int .u8 f1))) g' f0 f1 ∧ Below B w0 ((((((((w.setCell ⟨g, 0, none⟩ v0).setCell ⟨g, 1, none⟩ v1).setCell ⟨g, 2, none⟩ v2).setCell ⟨g, 3, none⟩ v3).setCell ⟨g, 4, none⟩ v4).setCell ⟨g', 0, none⟩ (.int .u8 f0)).setCell ⟨g', 1, none⟩ (.int .u8 f1))) := by
  have hne : g ≠ g' := blk_ne hM hF (by decide)
  have h1 := blk_put hM 0 v0 rfl
  have h2 := blk_put h1 1 v1 rfl
  have h3 := blk_put h2 2 v2 rfl
  have h4 := blk_put h3 3 v3 rfl
  have h5 := blk_put h4 4 v4 rfl
  have k1 := blk_far hF (p := ⟨g, 0, none⟩) hne.symm v0
  have k2 := blk_far k1 (p := ⟨g, 1, none⟩) hne.symm v1
  have k3 := blk_far k2 (p := ⟨g, 2, none⟩) hne.symm v2
  have k4 := blk_far k3 (p := ⟨g, 3, none⟩) hne.symm v3
  have k5 := blk_far k4 (p := ⟨g, 4, none⟩) hne.symm v4
  have k6 := blk_put (blk_put k5 0 (.int .u8 f0) rfl) 1 (.int .u8 f1) rfl
  exact ⟨blk_far (blk_far h5 (p := ⟨g', 0, none⟩) hne (.int .u8 f0)) (p := ⟨g', 1, none⟩) hne (.int .u8 f1), k6, ((((((HB.setCell (p := ⟨g, 0, none⟩) hB v0).setCell (p := ⟨g, 1, none⟩) hB v1).setCell (p := ⟨g, 2, none⟩) hB v2).setCell (p := ⟨g, 3, none⟩) hB v3).setCell (p := ⟨g, 4, none⟩) hB v4).setCell (p := ⟨g', 0, none⟩) hB' (.int .u8 f0)).setCell (p := ⟨g', 1, none⟩) hB' (.int .u8 f1)⟩
theorem put41_R {α : Type} {d : Kd α} {e base : Nat} {ok : Nat → Prop} {v : Value} {xs : List α} {w : World} {g g' : Nat} {a0 a1 a2 a3 a4 : Value} {x y : Int} (h : d.R e w base ok v xs) (v0 v1 v2 v3 v4 : Value) (f0 f1 : Int) (hM : w.heap[g]? = some (.cells #[a0, a1, a2, a3, a4] 41 (0, 0))) (hF : FB w g' x y) (ht : ∀ q, q ∈ e :: d.E → q ≠ 41) (ht' : ∀ q, q ∈ e :: d.E → q ≠ 26) :
    d.R e ((((((((w.setCell ⟨g, 0, none⟩ v0).setCell ⟨g, 1, none⟩ v1).setCell ⟨g, 2, none⟩ v2).setCell ⟨g, 3, none⟩ v3).setCell ⟨g, 4, none⟩ v4).setCell ⟨g', 0, none⟩ (.int .u8 f0)).setCell ⟨g', 1, none⟩ (.int .u8 f1))) base ok v xs := by
  have hne : g ≠ g' := blk_ne hM hF (by decide)
  have h1 := blk_put hM 0 v0 rfl
  have h2 := blk_put h1 1 v1 rfl
  have h3 := blk_put h2 2 v2 rfl
  have h4 := blk_put h3 3 v3 rfl
  have k1 := blk_far hF (p := ⟨g, 0, none⟩) hne.symm v0
  have k2 := blk_far k1 (p := ⟨g, 1, none⟩) hne.symm v1
  have k3 := blk_far k2 (p := ⟨g, 2, none⟩) hne.symm v2
  have k4 := blk_far k3 (p := ⟨g, 3, none⟩) hne.symm v3
  have k5 := blk_far k4 (p := ⟨g, 4, none⟩) hne.symm v4
  have k6 := blk_put k5 0 (.int .u8 f0) rfl
  exact Kd.R_set (Kd.R_set (Kd.R_set (Kd.R_set (Kd.R_set (Kd.R_set (Kd.R_set h hM ht 0 v0) h1 ht 1 v1) h2 ht 2 v2) h3 ht 3 v3) h4 ht 4 v4) k5 ht' 0 (.int .u8 f0)) k6 ht' 1 (.int .u8 f1)

set_option maxHeartbeats 1600000 in
set_option maxRecDepth 100000 in
theorem oGet_calls (w : World) (hG : GlobC w) (hO : GlobO w) (A : Option Addr) (c : Nat) (xs : List Int) (hC : (Kd.int .u8).C w A xs.length xs) (hl : xs.length ≤ 140737488351232) (hb : ∀ x, x ∈ xs → 0 ≤ x ∧ x < 256)
    (o : OpenP) (f0 f1 : Int) (d : List Int) (ho : oGet xs = (o, f0, f1, d)) :
    Calls Tryd.prog 21 #[.slice A xs.length c] w (GetPost w o f0 f1 d) := by
  by_cases hs : xs.length < 10
  · rw [oGet_short hs] at ho
    injection ho with e1 ho
    injection ho with e2 ho
    injection ho with e3 e4
    subst e1 e2 e3 e4
    have d1 : decide ((xs.length : Int) < 10) = true := decide_eq_true (by omega)
    have d2 : decide (xs.length < 10) = true := decide_eq_true (by omega)
    clear hb
    have hb := below_alloc (Below.refl w.heap.size w) (.cells #[.int .u8 0, .int .u16 0, .int .u16 0, .int .u32 0, .slice none 0 0] 41)
    have hM := blk_new w (.cells #[.int .u8 0, .int .u16 0, .int .u16 0, .int .u32 0, .slice none 0 0] 41)
    have hsz : (w.alloc (.cells #[.int .u8 0, .int .u16 0, .int .u16 0, .int .u32 0, .slice none 0 0] 41)).heap.size = w.heap.size + 1 := by simp
    have hF := FB.new (w.alloc (.cells #[.int .u8 0, .int .u16 0, .int .u16 0, .int .u32 0, .slice none 0 0] 41)) 0 0
    have hb2 := below_alloc (Below.refl _ (w.alloc (.cells #[.int .u8 0, .int .u16 0, .int .u16 0, .int .u32 0, .slice none 0 0] 41))) (.cells #[.int .u8 0, .int .u8 0] 26)
    replace hM := blk_below hM hb2
    have HB := hb.trans (hb2.mono hb.size)
    rw [hsz] at hF
    clear hb hb2 hsz
    go_enter Tryd.func21, Tryd.ntmps21
    go_wp2_with fail
    refine (fault_calls _ 0).mono ?_
    rintro e w1 ⟨rfl, hb⟩
    replace HB := HB.trans (hb.mono HB.size)
    replace hM := blk_below hM hb
    replace hF := hF.below hb
    clear hb
    have x0 := blk_cell hM 0
    have x1 := blk_cell hM 1
    have x2 := blk_cell hM 2
    have x3 := blk_cell hM 3
    have x4 := blk_cell hM 4
    simp at x0 x1 x2 x3 x4
    have z0 := blk_frozen hM 0
    have z1 := blk_frozen hM 1
    have z2 := blk_frozen hM 2
    have z3 := blk_frozen hM 3
    have z4 := blk_frozen hM 4
    have u0 := hF.c0
    have u1 := hF.c1
    have v0 := blk_frozen hF 0
    have v1 := blk_frozen hF 1
    go_wp2
    obtain ⟨m1, m2, m3⟩ := put41 (.int .u8 0) (.int .u16 0) (.int .u16 0) (.int .u32 0) (.slice none 0 0) (2) (0) hM hF HB (Nat.le_refl _) (Nat.le_succ _)
    clear x0 x1 x2 x3 x4 z0 z1 z2 z3 z4 u0 u1 v0 v1 hM hF HB
    generalize (((((((w1.setCell ⟨w.heap.size, 0, none⟩ (.int .u8 0)).setCell ⟨w.heap.size, 1, none⟩ (.int .u16 0)).setCell ⟨w.heap.size, 2, none⟩ (.int .u16 0)).setCell ⟨w.heap.size, 3, none⟩ (.int .u32 0)).setCell ⟨w.heap.size, 4, none⟩ (.slice none 0 0)).setCell ⟨w.heap.size + 1, 0, none⟩ (.int .u8 2)).setCell ⟨w.heap.size + 1, 1, none⟩ (.int .u8 0)) = wz at *
    have x0 := blk_cell m1 0
    have x1 := blk_cell m1 1
    have x2 := blk_cell m1 2
    have x3 := blk_cell m1 3
    have x4 := blk_cell m1 4
    simp at x0 x1 x2 x3 x4
    have u0 := m2.c0
    have u1 := m2.c1
    have hC1z := Kd.C_nil PA.k61 wz
    have hC2z := Kd.C_nil (Kd.int .u8) wz
    have hc1z := Nat.le_refl 0
    have hc2z := Nat.le_refl 0
    exact bodyPost_ret (v := .tuple #[.agg #[.int .u8 0, .int .u16 0, .int .u16 0, .int .u32 0, .slice none 0 0], .agg #[.int .u8 2, .int .u8 0], .slice none 0 0]) (by simp [results, Tryd.results21, go_sem, x0, x1, x2, x3, x4, u0, u1]) rfl ⟨_, _, _, _, rfl, hC1z, hc1z, hC2z, hc2z, m3⟩

  · obtain ⟨a, b1, b2, h1, h2, i1, i2, i3, i4, m, rest, hx⟩ := ten (xs := xs) (by omega)
    obtain ⟨r1, r2, r3, r4, r5, hr⟩ := reads_of a b1 b2 h1 h2 i1 i2 i3 i4 m rest
    rw [← hx] at hr
    rw [hx] at ho
    simp only [oGet] at ho
    have ba := hb a (by rw [hx]; simp)
    have bb1 := hb b1 (by rw [hx]; simp)
    have bb2 := hb b2 (by rw [hx]; simp)
    have bh1 := hb h1 (by rw [hx]; simp)
    have bh2 := hb h2 (by rw [hx]; simp)
    have bi1 := hb i1 (by rw [hx]; simp)
    have bi2 := hb i2 (by rw [hx]; simp)
    have bi3 := hb i3 (by rw [hx]; simp)
    have bi4 := hb i4 (by rw [hx]; simp)
    have bm := hb m (by rw [hx]; simp)
    have brest : ∀ x, x ∈ rest → 0 ≤ x ∧ x < 256 := fun x h => hb x (by rw [hx]; simp [h])
    have hrl : rest.length ≤ 140737488351232 := by have := congrArg List.length hx; simp at this; omega
    have t1 := hr.t1
    have t2 := hr.t2
    have t3 := hr.t3
    have q1 : acc16 [b1, b2] = b1 * 256 + b2 := acc16_two _ _ bb1.1 bb1.2
    have q2 : acc16 [h1, h2] = h1 * 256 + h2 := acc16_two _ _ bh1.1 bh1.2
    have q3 : acc32 [i1, i2, i3, i4] = ((i1 * 256 + i2) * 256 + i3) * 256 + i4 := acc32_four _ _ _ _ bi1 bi2 bi3 bi4
    rw [← q1, ← q2, ← q3] at ho
    clear q1 q2 q3
    obtain ⟨an, q1⟩ : ∃ n, acc16 [b1, b2] = n := ⟨_, rfl⟩
    obtain ⟨hold, q2⟩ : ∃ n, acc16 [h1, h2] = n := ⟨_, rfl⟩
    obtain ⟨id, q3⟩ : ∃ n, acc32 [i1, i2, i3, i4] = n := ⟨_, rfl⟩
    rw [q1, q2, q3] at ho
    have Q1 := Aside0.mk q1
    have Q2 := Aside0.mk q2
    have Q3 := Aside0.mk q3
    clear q1 q2 q3
    have hNew := fun w hC => New_calls w A c xs hC hl hb
    have N0 := Aside0.mk hNew
    have N1 := Aside0.mk hr
    have hrb := Aside0.mk brest
    have hrl' := Aside0.mk hrl
    have s1 : IntKind.i64.wrap m = m := by rw [i64_w, w64 (by omega) (by omega)]
    have d1 : decide ((xs.length : Int) < 10) = false := decide_eq_false (by omega)
    have d2 : decide (xs.length < 10) = false := decide_eq_false (by omega)
    clear hx hr bb1 bb2 bh1 bh2 bi1 bi2 bi3 bi4 brest hrl hb t1 t2 t3 hNew
    by_cases h4 : a ≠ 4
    · rw [if_pos h4] at ho
      injection ho with e1 ho
      injection ho with e2 ho
      injection ho with e3 e4
      subst e1 e2 e3 e4

      have n4 : (a != 4) = true := bne_iff_ne.mpr h4
      obtain ⟨⟨D, cd, g2, hD, hcd⟩, _⟩ := hO
      have hb := below_alloc (Below.refl w.heap.size w) (.cells #[.int .u8 0, .int .u16 0, .int .u16 0, .int .u32 0, .slice none 0 0] 41)
      have hM := blk_new w (.cells #[.int .u8 0, .int .u16 0, .int .u16 0, .int .u32 0, .slice none 0 0] 41)
      have hsz : (w.alloc (.cells #[.int .u8 0, .int .u16 0, .int .u16 0, .int .u32 0, .slice none 0 0] 41)).heap.size = w.heap.size + 1 := by simp
      have hF := FB.new (w.alloc (.cells #[.int .u8 0, .int .u16 0, .int .u16 0, .int .u32 0, .slice none 0 0] 41)) 0 0
      have hb2 := below_alloc (Below.refl _ (w.alloc (.cells #[.int .u8 0, .int .u16 0, .int .u16 0, .int .u32 0, .slice none 0 0] 41))) (.cells #[.int .u8 0, .int .u8 0] 26)
      replace hM := blk_below hM hb2
      have HB := hb.trans (hb2.mono hb.size)
      rw [hsz] at hF
      clear hb hb2 hsz
      replace hC := Kd.C_below hC HB
      go_enter Tryd.func21, Tryd.ntmps21
      go_wp2_with fail
      refine (N0.out _ hC).mono ?_
      rintro e w1 ⟨gr, rfl, hR, hb⟩
      replace hM := blk_below hM hb
      replace hF := hF.below hb
      replace hR := hR.lower HB.size
      replace HB := HB.trans (hb.mono HB.size)
      clear hb
      have cc := RByte_calls w1 w.heap.size gr (Rdr.new xs) hR
      rw [N1.out.t0, acc8_one, N1.out.k0] at cc
      clear hR
      go_wp2_with fail
      refine (cc).mono ?_
      rintro e w2 ⟨rfl, hR, hk⟩
      replace HB := below_kt (Nat.le_refl _) HB hk
      replace hM := blk_kt hM hk (by decide)
      replace hF : FB _ _ _ _ := blk_kt hF hk (by decide)
      clear cc
      clear hk
      have cc := RTwo_calls w2 w.heap.size gr r1 hR
      rw [N1.out.t1, Q1.out, N1.out.k1] at cc
      clear hR
      go_wp2_with fail
      refine (cc).mono ?_
      rintro e w3 ⟨rfl, hR, hk⟩
      replace HB := below_kt (Nat.le_refl _) HB hk
      replace hM := blk_kt hM hk (by decide)
      replace hF : FB _ _ _ _ := blk_kt hF hk (by decide)
      clear cc
      clear hk
      have cc := RTwo_calls w3 w.heap.size gr r2 hR
      rw [N1.out.t2, Q2.out, N1.out.k2] at cc
      clear hR
      go_wp2_with fail
      refine (cc).mono ?_
      rintro e w4 ⟨rfl, hR, hk⟩
      replace HB := below_kt (Nat.le_refl _) HB hk
      replace hM := blk_kt hM hk (by decide)
      replace hF : FB _ _ _ _ := blk_kt hF hk (by decide)
      clear cc
      clear hk
      have cc := RFour_calls w4 w.heap.size gr r3 hR
      rw [N1.out.t3, Q3.out, N1.out.k3] at cc
      clear hR
      go_wp2_with fail
      refine (cc).mono ?_
      rintro e w5 ⟨rfl, hR, hk⟩
      replace HB := below_kt (Nat.le_refl _) HB hk
      replace hM := blk_kt hM hk (by decide)
      replace hF : FB _ _ _ _ := blk_kt hF hk (by decide)
      clear cc
      clear hk
      have hlt5 := blk_lt hM
      have hO6 := blk_new w5 (.cells #[.int .u8 a, .int .u16 an, .int .u16 hold, .int .u32 id, .slice none 0 0] 41)
      have hb := below_alloc (Below.refl w5.heap.size w5) (.cells #[.int .u8 a, .int .u16 an, .int .u16 hold, .int .u32 id, .slice none 0 0] 41)
      replace HB := HB.trans (hb.mono HB.size)
      replace hM := blk_below hM hb
      replace hF := hF.below hb
      replace hR := hR.kt (KT.of_below (B := w.heap.size) (ts := []) hb) (by simp) (by simp) (by simp)
      clear hb
      have cc := RByte_calls _ w.heap.size gr r4 hR
      rw [N1.out.t4, acc8_one, N1.out.k4] at cc
      clear hR
      go_wp2_with fail
      refine (cc).mono ?_
      rintro e w6 ⟨rfl, hR, hk⟩
      replace HB := below_kt (Nat.le_refl _) HB hk
      replace hM := blk_kt hM hk (by decide)
      replace hF : FB _ _ _ _ := blk_kt hF hk (by decide)
      clear cc
      replace hO6 := blk_kt hO6 hk (by decide)
      clear hk
      replace g2 := pw_cell_below HB g2
      have o0 := blk_cell hO6 0
      simp at o0
      go_upto_region 7 with fail
      refine start_ (n := 7) (S := fun w' => w'.cell? ⟨2, 0, none⟩ = some (.slice D 2 cd)) (ds := [4, 5]) #[false, false, false, false, false, false, false] (by kernel_rfl) rfl rfl (g2) (fun hHeld => ?_)
      refine pure_ (i := 0) (N := (some 33)) (v := ?_) (a' := ?_) #[true, false, false, false, false, false, false] rfl rfl (by kernel_rfl) (fun _ _ _ h => h) (Or.inl ⟨by rfl, ?_⟩) ?_ ?_
      rotate_left
      · intro w'
        go_simp
        with_reducible rfl
      rotate_left
      · simp only [Act.put, List.setIfInBounds_toArray, List.set_cons_zero, List.set_cons_succ, i64_w, i32_w]
        rfl
      refine take_ (i := 2) (N := (some 35)) (v := ?_) (a' := ?_) #[true, false, true, false, false, false, false] rfl rfl (by kernel_rfl) (fun _ _ _ h => h) (Or.inl ⟨by rfl, ?_⟩) hHeld ?_ ?_
      rotate_left
      · rintro w' s0
        go_simp
        with_reducible rfl
      rotate_left
      · simp only [Act.put, List.setIfInBounds_toArray, List.set_cons_zero, List.set_cons_succ, i64_w, i32_w]
        rfl
      have HB0 := below_drew HB
      have hM0 := blk_drew hM
      have hF0 : FB _ _ _ _ := blk_drew hF
      clear hM hF HB
      refine one_ (i := 1) (N := (some 34)) #[true, true, true, false, false, false, false] rfl rfl (by kernel_rfl) (by decide) (fun K hK => ?_)
      refine goes_ Tryd.func63 (by kernel_rfl) rfl #[.int .u8 1] (by rfl) rfl rfl (by simp [Act.eval]) ?_
      refine (fault_calls _ 1).mono ?_
      rintro e w7 ⟨rfl, hb⟩
      have HB1 := HB0.trans (hb.mono HB0.size)
      have hM1 := blk_below hM0 hb
      have hF1 := hF0.below hb
      have g7 := pw_cell_below hb hHeld
      clear hb hM0 hF0 HB0
      refine ⟨_, rfl, ?_⟩
      refine hK.out _ _ (g7) (fun hHeld => ?_)
      clear hK K
      refine norm_ (a' := ?_) ?_ ?_
      rotate_left
      · show Act.put _ (some 34) _ = _
        simp only [Act.put, List.setIfInBounds_toArray, List.set_cons_zero, List.set_cons_succ, i64_w, i32_w]
        rfl
      refine one_ (i := 3) (N := (some 36)) #[true, true, true, true, false, false, false] rfl rfl (by kernel_rfl) (by decide) (fun K hK => ?_)
      refine goes_ Tryd.func66 (by kernel_rfl) rfl #[.slice D 2 cd] (by rfl) rfl rfl (by simp [Act.eval]) ?_
      refine (Clone_calls w7 w7.heap.size D cd [0, 4] (Nat.le_refl _) (Kd.C_below hD HB1) (by decide)).mono ?_
      rintro e w8 ⟨v8, rfl, hv8, hb⟩
      have HB := HB1.trans (hb.mono HB1.size)
      have hM := blk_below hM1 hb
      have hF := hF1.below hb
      have g8 := pw_cell_below hb hHeld
      obtain ⟨D8, d8, rfl⟩ := Kd.R_slice hv8
      clear hb hM1 hF1 HB1
      refine ⟨_, rfl, ?_⟩
      refine hK.out _ _ (g8) (fun hHeld => ?_)
      clear hK K
      refine norm_ (a' := ?_) ?_ ?_
      rotate_left
      · show Act.put _ (some 36) _ = _
        simp only [Act.put, List.setIfInBounds_toArray, List.set_cons_zero, List.set_cons_succ, i64_w, i32_w]
        rfl
      have x0 := blk_cell hM 0
      have x1 := blk_cell hM 1
      have x2 := blk_cell hM 2
      have x3 := blk_cell hM 3
      have x4 := blk_cell hM 4
      simp at x0 x1 x2 x3 x4
      have z0 := blk_frozen hM 0
      have z1 := blk_frozen hM 1
      have z2 := blk_frozen hM 2
      have z3 := blk_frozen hM 3
      have z4 := blk_frozen hM 4
      have u0 := hF.c0
      have u1 := hF.c1
      have v0 := blk_frozen hF 0
      have v1 := blk_frozen hF 1
      refine last_ (i := 4) (N := none) #[true, true, true, true, true, false, false] rfl rfl (by kernel_rfl) (by decide) (fun K hK => ?_)
      refine skip_ (w1 := ?_) (by rfl) rfl ?_ ?_
      rotate_left
      · go_simp
        with_reducible rfl
      refine hK.out _ _ ?_
      clear hK K
      refine last_ (i := 5) (N := none) #[true, true, true, true, true, true, false] rfl rfl (by kernel_rfl) (by decide) (fun K hK => ?_)
      refine skip_ (w1 := ?_) (by rfl) rfl ?_ ?_
      rotate_left
      · go_simp
        with_reducible rfl
      refine hK.out _ _ ?_
      clear hK K
      refine pure_ (i := 6) (N := (some 4)) (v := ?_) (a' := ?_) #[true, true, true, true, true, true, true] rfl rfl (by kernel_rfl) (fun _ _ _ h => h) (Or.inl ⟨by rfl, ?_⟩) ?_ ?_
      rotate_left
      · intro w'
        go_simp
        with_reducible rfl
      rotate_left
      · simp only [Act.put, List.setIfInBounds_toArray, List.set_cons_zero, List.set_cons_succ, i64_w, i32_w]
        rfl
      refine done_ (by kernel_rfl) ?_
      go_wp2
      replace hv8 := put41_R hv8 (.int .u8 0) (.int .u16 0) (.int .u16 0) (.int .u32 0) (.slice none 0 0) (2) (1) hM hF (by decide) (by decide)
      obtain ⟨m1, m2, m3⟩ := put41 (.int .u8 0) (.int .u16 0) (.int .u16 0) (.int .u32 0) (.slice none 0 0) (2) (1) hM hF HB (Nat.le_refl _) (Nat.le_succ _)
      clear x0 x1 x2 x3 x4 z0 z1 z2 z3 z4 u0 u1 v0 v1 hM hF HB
      generalize (((((((w8.setCell ⟨w.heap.size, 0, none⟩ (.int .u8 0)).setCell ⟨w.heap.size, 1, none⟩ (.int .u16 0)).setCell ⟨w.heap.size, 2, none⟩ (.int .u16 0)).setCell ⟨w.heap.size, 3, none⟩ (.int .u32 0)).setCell ⟨w.heap.size, 4, none⟩ (.slice none 0 0)).setCell ⟨w.heap.size + 1, 0, none⟩ (.int .u8 2)).setCell ⟨w.heap.size + 1, 1, none⟩ (.int .u8 1)) = wz at *
      have x0 := blk_cell m1 0
      have x1 := blk_cell m1 1
      have x2 := blk_cell m1 2
      have x3 := blk_cell m1 3
      have x4 := blk_cell m1 4
      simp at x0 x1 x2 x3 x4
      have u0 := m2.c0
      have u1 := m2.c1
      obtain ⟨D9, d9, e9, hc2z, hC2z⟩ := Kd.R_reads hv8
      injection e9 with e1 e2 e3
      subst e1 e3
      have hC1z := Kd.C_nil PA.k61 wz
      have hc1z := Nat.le_refl 0
      exact bodyPost_ret (v := .tuple #[.agg #[.int .u8 0, .int .u16 0, .int .u16 0, .int .u32 0, .slice none 0 0], .agg #[.int .u8 2, .int .u8 1], .slice D8 2 d8]) (by simp [results, Tryd.results21, go_sem, x0, x1, x2, x3, x4, u0, u1]) rfl ⟨_, _, _, _, rfl, hC1z, hc1z, hC2z, hc2z, m3⟩
    · rw [if_neg h4] at ho
      have h4' : a = 4 := by omega
      subst h4'
      by_cases h5 : m ≠ rest.length
      · rw [if_pos h5] at ho
        injection ho with e1 ho
        injection ho with e2 ho
        injection ho with e3 e4
        subst e1 e2 e3 e4

        have n5 : (m != (rest.length : Int)) = true := bne_iff_ne.mpr h5
        have hb := below_alloc (Below.refl w.heap.size w) (.cells #[.int .u8 0, .int .u16 0, .int .u16 0, .int .u32 0, .slice none 0 0] 41)
        have hM := blk_new w (.cells #[.int .u8 0, .int .u16 0, .int .u16 0, .int .u32 0, .slice none 0 0] 41)
        have hsz : (w.alloc (.cells #[.int .u8 0, .int .u16 0, .int .u16 0, .int .u32 0, .slice none 0 0] 41)).heap.size = w.heap.size + 1 := by simp
        have hF := FB.new (w.alloc (.cells #[.int .u8 0, .int .u16 0, .int .u16 0, .int .u32 0, .slice none 0 0] 41)) 0 0
        have hb2 := below_alloc (Below.refl _ (w.alloc (.cells #[.int .u8 0, .int .u16 0, .int .u16 0, .int .u32 0, .slice none 0 0] 41))) (.cells #[.int .u8 0, .int .u8 0] 26)
        replace hM := blk_below hM hb2
        have HB := hb.trans (hb2.mono hb.size)
        rw [hsz] at hF
        clear hb hb2 hsz
        replace hC := Kd.C_below hC HB
        go_enter Tryd.func21, Tryd.ntmps21
        go_wp2_with fail
        refine (N0.out _ hC).mono ?_
        rintro e w1 ⟨gr, rfl, hR, hb⟩
        replace hM := blk_below hM hb
        replace hF := hF.below hb
        replace hR := hR.lower HB.size
        replace HB := HB.trans (hb.mono HB.size)
        clear hb
        have cc := RByte_calls w1 w.heap.size gr (Rdr.new xs) hR
        rw [N1.out.t0, acc8_one, N1.out.k0] at cc
        clear hR
        go_wp2_with fail
        refine (cc).mono ?_
        rintro e w2 ⟨rfl, hR, hk⟩
        replace HB := below_kt (Nat.le_refl _) HB hk
        replace hM := blk_kt hM hk (by decide)
        replace hF : FB _ _ _ _ := blk_kt hF hk (by decide)
        clear cc
        clear hk
        have cc := RTwo_calls w2 w.heap.size gr r1 hR
        rw [N1.out.t1, Q1.out, N1.out.k1] at cc
        clear hR
        go_wp2_with fail
        refine (cc).mono ?_
        rintro e w3 ⟨rfl, hR, hk⟩
        replace HB := below_kt (Nat.le_refl _) HB hk
        replace hM := blk_kt hM hk (by decide)
        replace hF : FB _ _ _ _ := blk_kt hF hk (by decide)
        clear cc
        clear hk
        have cc := RTwo_calls w3 w.heap.size gr r2 hR
        rw [N1.out.t2, Q2.out, N1.out.k2] at cc
        clear hR
        go_wp2_with fail
        refine (cc).mono ?_
        rintro e w4 ⟨rfl, hR, hk⟩
        replace HB := below_kt (Nat.le_refl _) HB hk
        replace hM := blk_kt hM hk (by decide)
        replace hF : FB _ _ _ _ := blk_kt hF hk (by decide)
        clear cc
        clear hk
        have cc := RFour_calls w4 w.heap.size gr r3 hR
        rw [N1.out.t3, Q3.out, N1.out.k3] at cc
        clear hR
        go_wp2_with fail
        refine (cc).mono ?_
        rintro e w5 ⟨rfl, hR, hk⟩
        replace HB := below_kt (Nat.le_refl _) HB hk
        replace hM := blk_kt hM hk (by decide)
        replace hF : FB _ _ _ _ := blk_kt hF hk (by decide)
        clear cc
        clear hk
        have hlt5 := blk_lt hM
        have hO6 := blk_new w5 (.cells #[.int .u8 4, .int .u16 an, .int .u16 hold, .int .u32 id, .slice none 0 0] 41)
        have hb := below_alloc (Below.refl w5.heap.size w5) (.cells #[.int .u8 4, .int .u16 an, .int .u16 hold, .int .u32 id, .slice none 0 0] 41)
        replace HB := HB.trans (hb.mono HB.size)
        replace hM := blk_below hM hb
        replace hF := hF.below hb
        replace hR := hR.kt (KT.of_below (B := w.heap.size) (ts := []) hb) (by simp) (by simp) (by simp)
        clear hb
        have cc := RByte_calls _ w.heap.size gr r4 hR
        rw [N1.out.t4, acc8_one, N1.out.k4] at cc
        clear hR
        go_wp2_with fail
        refine (cc).mono ?_
        rintro e w6 ⟨rfl, hR, hk⟩
        replace HB := below_kt (Nat.le_refl _) HB hk
        replace hM := blk_kt hM hk (by decide)
        replace hF : FB _ _ _ _ := blk_kt hF hk (by decide)
        clear cc
        replace hO6 := blk_kt hO6 hk (by decide)
        clear hk
        have o0 := blk_cell hO6 0
        simp at o0

        go_wp2_with fail
        refine (Left_calls w6 w.heap.size gr r5 hR).mono ?_
        rintro e w7 ⟨rfl, hd⟩
        have hb := Drawn0.below hd
        replace HB := HB.trans (hb.mono HB.size)
        replace hM := blk_below hM hb
        replace hF := hF.below hb
        replace hO6 := blk_below hO6 hb
        replace hR := hR.drawn hd
        rw [N1.out.l5]
        clear hb hd
        go_wp2_with fail
        refine (fault_calls _ 0).mono ?_
        rintro e w8 ⟨rfl, hb⟩
        replace HB := HB.trans (hb.mono HB.size)
        replace hM := blk_below hM hb
        replace hF := hF.below hb
        clear hb
        have x0 := blk_cell hM 0
        have x1 := blk_cell hM 1
        have x2 := blk_cell hM 2
        have x3 := blk_cell hM 3
        have x4 := blk_cell hM 4
        simp at x0 x1 x2 x3 x4
        have z0 := blk_frozen hM 0
        have z1 := blk_frozen hM 1
        have z2 := blk_frozen hM 2
        have z3 := blk_frozen hM 3
        have z4 := blk_frozen hM 4
        have u0 := hF.c0
        have u1 := hF.c1
        have v0 := blk_frozen hF 0
        have v1 := blk_frozen hF 1
        go_wp2
        obtain ⟨m1, m2, m3⟩ := put41 (.int .u8 0) (.int .u16 0) (.int .u16 0) (.int .u32 0) (.slice none 0 0) (2) (0) hM hF HB (Nat.le_refl _) (Nat.le_succ _)
        clear x0 x1 x2 x3 x4 z0 z1 z2 z3 z4 u0 u1 v0 v1 hM hF HB
        generalize (((((((w8.setCell ⟨w.heap.size, 0, none⟩ (.int .u8 0)).setCell ⟨w.heap.size, 1, none⟩ (.int .u16 0)).setCell ⟨w.heap.size, 2, none⟩ (.int .u16 0)).setCell ⟨w.heap.size, 3, none⟩ (.int .u32 0)).setCell ⟨w.heap.size, 4, none⟩ (.slice none 0 0)).setCell ⟨w.heap.size + 1, 0, none⟩ (.int .u8 2)).setCell ⟨w.heap.size + 1, 1, none⟩ (.int .u8 0)) = wz at *
        have x0 := blk_cell m1 0
        have x1 := blk_cell m1 1
        have x2 := blk_cell m1 2
        have x3 := blk_cell m1 3
        have x4 := blk_cell m1 4
        simp at x0 x1 x2 x3 x4
        have u0 := m2.c0
        have u1 := m2.c1
        have hC1z := Kd.C_nil PA.k61 wz
        have hC2z := Kd.C_nil (Kd.int .u8) wz
        have hc1z := Nat.le_refl 0
        have hc2z := Nat.le_refl 0
        exact bodyPost_ret (v := .tuple #[.agg #[.int .u8 0, .int .u16 0, .int .u16 0, .int .u32 0, .slice none 0 0], .agg #[.int .u8 2, .int .u8 0], .slice none 0 0]) (by simp [results, Tryd.results21, go_sem, x0, x1, x2, x3, x4, u0, u1]) rfl ⟨_, _, _, _, rfl, hC1z, hc1z, hC2z, hc2z, m3⟩
      · rw [if_neg h5] at ho
        have h5' : m = rest.length := by omega
        have n5 : (m != (rest.length : Int)) = false := by simp [h5']
        have hcr := capsRead_of rest (fun x hx => (hrb.out x hx).1) (by omega)
        have hcap : (∃ l, o = ⟨4, an, hold, id, l⟩ ∧ f0 = 0 ∧ f1 = 0 ∧ d = [] ∧ capsRead.f (rest.length + 1) rest = some (l, 0, 0)) ∨ (∃ x, (x = 0 ∨ x = 4) ∧ o = .zero ∧ f0 = 2 ∧ f1 = x ∧ d = [] ∧ capsRead.f (rest.length + 1) rest = some ([], 2, x)) := by
          cases hco : capsOut (rest.length + 1) rest with
          | ok l =>
            rw [hco] at ho hcr
            injection ho with e1 ho
            injection ho with e2 ho
            injection ho with e3 e4
            exact .inl ⟨l, e1.symm, e2.symm, e3.symm, e4.symm, hcr⟩
          | error x =>
            rw [hco] at ho hcr
            injection ho with e1 ho
            injection ho with e2 ho
            injection ho with e3 e4
            exact .inr ⟨x, capsOut_err _ _ _ hco, e1.symm, e2.symm, e3.symm, e4.symm, hcr⟩
        clear ho hcr
        have h5'' := Aside0.mk h5'
        clear h5 h5'
        rcases hcap with ⟨l, rfl, rfl, rfl, rfl, hcr⟩ | ⟨x, hx04, rfl, rfl, rfl, rfl, hcr⟩
        · have HR := Aside0.mk hcr
          clear hcr
          have hb := below_alloc (Below.refl w.heap.size w) (.cells #[.int .u8 0, .int .u16 0, .int .u16 0, .int .u32 0, .slice none 0 0] 41)
          have hM := blk_new w (.cells #[.int .u8 0, .int .u16 0, .int .u16 0, .int .u32 0, .slice none 0 0] 41)
          have hsz : (w.alloc (.cells #[.int .u8 0, .int .u16 0, .int .u16 0, .int .u32 0, .slice none 0 0] 41)).heap.size = w.heap.size + 1 := by simp
          have hF := FB.new (w.alloc (.cells #[.int .u8 0, .int .u16 0, .int .u16 0, .int .u32 0, .slice none 0 0] 41)) 0 0
          have hb2 := below_alloc (Below.refl _ (w.alloc (.cells #[.int .u8 0, .int .u16 0, .int .u16 0, .int .u32 0, .slice none 0 0] 41))) (.cells #[.int .u8 0, .int .u8 0] 26)
          replace hM := blk_below hM hb2
          have HB := hb.trans (hb2.mono hb.size)
          rw [hsz] at hF
          clear hb hb2 hsz
          replace hC := Kd.C_below hC HB
          go_enter Tryd.func21, Tryd.ntmps21
          go_wp2_with fail
          refine (N0.out _ hC).mono ?_
          rintro e w1 ⟨gr, rfl, hR, hb⟩
          replace hM := blk_below hM hb
          replace hF := hF.below hb
          replace hR := hR.lower HB.size
          replace HB := HB.trans (hb.mono HB.size)
          clear hb
          have cc := RByte_calls w1 w.heap.size gr (Rdr.new xs) hR
          rw [N1.out.t0, acc8_one, N1.out.k0] at cc
          clear hR
          go_wp2_with fail
          refine (cc).mono ?_
          rintro e w2 ⟨rfl, hR, hk⟩
          replace HB := below_kt (Nat.le_refl _) HB hk
          replace hM := blk_kt hM hk (by decide)
          replace hF : FB _ _ _ _ := blk_kt hF hk (by decide)
          clear cc
          clear hk
          have cc := RTwo_calls w2 w.heap.size gr r1 hR
          rw [N1.out.t1, Q1.out, N1.out.k1] at cc
          clear hR
          go_wp2_with fail
          refine (cc).mono ?_
          rintro e w3 ⟨rfl, hR, hk⟩
          replace HB := below_kt (Nat.le_refl _) HB hk
          replace hM := blk_kt hM hk (by decide)
          replace hF : FB _ _ _ _ := blk_kt hF hk (by decide)
          clear cc
          clear hk
          have cc := RTwo_calls w3 w.heap.size gr r2 hR
          rw [N1.out.t2, Q2.out, N1.out.k2] at cc
          clear hR
          go_wp2_with fail
          refine (cc).mono ?_
          rintro e w4 ⟨rfl, hR, hk⟩
          replace HB := below_kt (Nat.le_refl _) HB hk
          replace hM := blk_kt hM hk (by decide)
          replace hF : FB _ _ _ _ := blk_kt hF hk (by decide)
          clear cc
          clear hk
          have cc := RFour_calls w4 w.heap.size gr r3 hR
          rw [N1.out.t3, Q3.out, N1.out.k3] at cc
          clear hR
          go_wp2_with fail
          refine (cc).mono ?_
          rintro e w5 ⟨rfl, hR, hk⟩
          replace HB := below_kt (Nat.le_refl _) HB hk
          replace hM := blk_kt hM hk (by decide)
          replace hF : FB _ _ _ _ := blk_kt hF hk (by decide)
          clear cc
          clear hk
          have hlt5 := blk_lt hM
          have hO6 := blk_new w5 (.cells #[.int .u8 4, .int .u16 an, .int .u16 hold, .int .u32 id, .slice none 0 0] 41)
          have hb := below_alloc (Below.refl w5.heap.size w5) (.cells #[.int .u8 4, .int .u16 an, .int .u16 hold, .int .u32 id, .slice none 0 0] 41)
          replace HB := HB.trans (hb.mono HB.size)
          replace hM := blk_below hM hb
          replace hF := hF.below hb
          replace hR := hR.kt (KT.of_below (B := w.heap.size) (ts := []) hb) (by simp) (by simp) (by simp)
          clear hb
          have cc := RByte_calls _ w.heap.size gr r4 hR
          rw [N1.out.t4, acc8_one, N1.out.k4] at cc
          clear hR
          go_wp2_with fail
          refine (cc).mono ?_
          rintro e w6 ⟨rfl, hR, hk⟩
          replace HB := below_kt (Nat.le_refl _) HB hk
          replace hM := blk_kt hM hk (by decide)
          replace hF : FB _ _ _ _ := blk_kt hF hk (by decide)
          clear cc
          replace hO6 := blk_kt hO6 hk (by decide)
          clear hk
          have o0 := blk_cell hO6 0
          simp at o0

          go_wp2_with fail
          refine (Left_calls w6 w.heap.size gr r5 hR).mono ?_
          rintro e w7 ⟨rfl, hd⟩
          have hb := Drawn0.below hd
          replace HB := HB.trans (hb.mono HB.size)
          replace hM := blk_below hM hb
          replace hF := hF.below hb
          replace hO6 := blk_below hO6 hb
          replace hR := hR.drawn hd
          rw [N1.out.l5]
          clear hb hd

          have cc := Rest_calls w7 w.heap.size gr r5 hR
          rw [N1.out.l5, N1.out.t5] at cc
          clear o0
          go_wp2_with fail
          refine (cc).mono ?_
          rintro e w8 ⟨v8, rfl, hv8, hR8, hk⟩
          replace HB := below_kt (Nat.le_refl _) HB hk
          replace hM := blk_kt hM hk (by decide)
          replace hF : FB _ _ _ _ := blk_kt hF hk (by decide)
          replace hO6 := blk_kt hO6 hk (by decide)
          obtain ⟨A8, c8, rfl, hc8, hC8⟩ := Kd.R_reads hv8
          clear cc hR hR8
          clear hk
          go_wp2_with fail
          refine (capsRead_calls (rest.length + 1) A8 c8 rest l 0 0 w8 (hG.below HB) hC8 hrl'.out hrb.out HR.out).mono ?_
          rintro e w9 ⟨v9, rfl, hv9, hb⟩
          replace HB := HB.trans (hb.mono HB.size)
          replace hM := blk_below hM hb
          replace hF := hF.below hb
          replace hO6 := blk_below hO6 hb
          obtain ⟨A9, c9, rfl, hc9, _⟩ := Kd.R_reads hv9
          clear hb

          clear hv8 hC8
          have hH := FB.new w9 (0) (0)
          have hb := below_alloc (Below.refl w9.heap.size w9) (.cells #[.int .u8 (0), .int .u8 (0)] 26)
          replace HB := HB.trans (hb.mono HB.size)
          replace hM := blk_below hM hb
          replace hF := hF.below hb
          replace hO6 := blk_below hO6 hb
          replace hv9 := Kd.R_below hv9 hb
          have b0 := hH.c0
          have b1 := hH.c1
          clear hb

          have y4 := blk_cell hO6 4
          have yf := blk_frozen hO6 4
          simp at y4
          go_upto_region 14 with fail
          have ne1 : w.heap.size ≠ w5.heap.size := by omega
          have ne2 := blk_ne hF hO6 (by decide)
          replace hM := blk_far hM (p := ⟨w5.heap.size, 4, none⟩) ne1 (.slice A9 l.length c9)
          replace hF : FB _ _ _ _ := blk_far hF (p := ⟨w5.heap.size, 4, none⟩) ne2 (.slice A9 l.length c9)
          replace HB := HB.setCell (p := ⟨w5.heap.size, 4, none⟩) (Nat.le_of_lt hlt5) (.slice A9 l.length c9)
          replace hv9 := Kd.R_set hv9 hO6 (by decide) 4 (.slice A9 l.length c9)
          replace hO6 := blk_put hO6 4 (.slice A9 l.length c9) rfl
          generalize (w9.alloc (.cells #[.int .u8 0, .int .u8 0] 26)).setCell ⟨w5.heap.size, 4, none⟩ (.slice A9 l.length c9) = w10 at *
          clear y4 yf b0 b1 hH
          have y0 := blk_cell hO6 0
          have y1 := blk_cell hO6 1
          have y2 := blk_cell hO6 2
          have y3 := blk_cell hO6 3
          have y4 := blk_cell hO6 4
          simp at y0 y1 y2 y3 y4
          have x0 := blk_cell hM 0
          have x1 := blk_cell hM 1
          have x2 := blk_cell hM 2
          have x3 := blk_cell hM 3
          have x4 := blk_cell hM 4
          simp at x0 x1 x2 x3 x4
          have z0 := blk_frozen hM 0
          have z1 := blk_frozen hM 1
          have z2 := blk_frozen hM 2
          have z3 := blk_frozen hM 3
          have z4 := blk_frozen hM 4
          have u0 := hF.c0
          have u1 := hF.c1
          have v0 := blk_frozen hF 0
          have v1 := blk_frozen hF 1
          go_wp2
          replace hv9 := put41_R hv9 (.int .u8 4) (.int .u16 an) (.int .u16 hold) (.int .u32 id) (.slice A9 l.length c9) (0) (0) hM hF (by decide) (by decide)
          obtain ⟨m1, m2, m3⟩ := put41 (.int .u8 4) (.int .u16 an) (.int .u16 hold) (.int .u32 id) (.slice A9 l.length c9) (0) (0) hM hF HB (Nat.le_refl _) (Nat.le_succ _)
          clear x0 x1 x2 x3 x4 z0 z1 z2 z3 z4 u0 u1 v0 v1 hM hF HB
          generalize (((((((w10.setCell ⟨w.heap.size, 0, none⟩ (.int .u8 4)).setCell ⟨w.heap.size, 1, none⟩ (.int .u16 an)).setCell ⟨w.heap.size, 2, none⟩ (.int .u16 hold)).setCell ⟨w.heap.size, 3, none⟩ (.int .u32 id)).setCell ⟨w.heap.size, 4, none⟩ (.slice A9 l.length c9)).setCell ⟨w.heap.size + 1, 0, none⟩ (.int .u8 0)).setCell ⟨w.heap.size + 1, 1, none⟩ (.int .u8 0)) = wz at *
          have x0 := blk_cell m1 0
          have x1 := blk_cell m1 1
          have x2 := blk_cell m1 2
          have x3 := blk_cell m1 3
          have x4 := blk_cell m1 4
          simp at x0 x1 x2 x3 x4
          have u0 := m2.c0
          have u1 := m2.c1
          obtain ⟨A10, c10, e10, hc1z, hC1z⟩ := Kd.R_reads hv9
          injection e10 with e1 e2 e3
          subst e1 e3
          have hC2z := Kd.C_nil (Kd.int .u8) wz
          have hc2z := Nat.le_refl 0
          exact bodyPost_ret (v := .tuple #[.agg #[.int .u8 4, .int .u16 an, .int .u16 hold, .int .u32 id, .slice A9 l.length c9], .agg #[.int .u8 0, .int .u8 0], .slice none 0 0]) (by simp [results, Tryd.results21, go_sem, x0, x1, x2, x3, x4, u0, u1]) rfl ⟨_, _, _, _, rfl, hC1z, hc1z, hC2z, hc2z, m3⟩
        · have HR := Aside0.mk hcr
          clear hcr
          have hb := below_alloc (Below.refl w.heap.size w) (.cells #[.int .u8 0, .int .u16 0, .int .u16 0, .int .u32 0, .slice none 0 0] 41)
          have hM := blk_new w (.cells #[.int .u8 0, .int .u16 0, .int .u16 0, .int .u32 0, .slice none 0 0] 41)
          have hsz : (w.alloc (.cells #[.int .u8 0, .int .u16 0, .int .u16 0, .int .u32 0, .slice none 0 0] 41)).heap.size = w.heap.size + 1 := by simp
          have hF := FB.new (w.alloc (.cells #[.int .u8 0, .int .u16 0, .int .u16 0, .int .u32 0, .slice none 0 0] 41)) 0 0
          have hb2 := below_alloc (Below.refl _ (w.alloc (.cells #[.int .u8 0, .int .u16 0, .int .u16 0, .int .u32 0, .slice none 0 0] 41))) (.cells #[.int .u8 0, .int .u8 0] 26)
          replace hM := blk_below hM hb2
          have HB := hb.trans (hb2.mono hb.size)
          rw [hsz] at hF
          clear hb hb2 hsz
          replace hC := Kd.C_below hC HB
          go_enter Tryd.func21, Tryd.ntmps21
          go_wp2_with fail
          refine (N0.out _ hC).mono ?_
          rintro e w1 ⟨gr, rfl, hR, hb⟩
          replace hM := blk_below hM hb
          replace hF := hF.below hb
          replace hR := hR.lower HB.size
          replace HB := HB.trans (hb.mono HB.size)
          clear hb
          have cc := RByte_calls w1 w.heap.size gr (Rdr.new xs) hR
          rw [N1.out.t0, acc8_one, N1.out.k0] at cc
          clear hR
          go_wp2_with fail
          refine (cc).mono ?_
          rintro e w2 ⟨rfl, hR, hk⟩
          replace HB := below_kt (Nat.le_refl _) HB hk
          replace hM := blk_kt hM hk (by decide)
          replace hF : FB _ _ _ _ := blk_kt hF hk (by decide)
          clear cc
          clear hk
          have cc := RTwo_calls w2 w.heap.size gr r1 hR
          rw [N1.out.t1, Q1.out, N1.out.k1] at cc
          clear hR
          go_wp2_with fail
          refine (cc).mono ?_
          rintro e w3 ⟨rfl, hR, hk⟩
          replace HB := below_kt (Nat.le_refl _) HB hk
          replace hM := blk_kt hM hk (by decide)
          replace hF : FB _ _ _ _ := blk_kt hF hk (by decide)
          clear cc
          clear hk
          have cc := RTwo_calls w3 w.heap.size gr r2 hR
          rw [N1.out.t2, Q2.out, N1.out.k2] at cc
          clear hR
          go_wp2_with fail
          refine (cc).mono ?_
          rintro e w4 ⟨rfl, hR, hk⟩
          replace HB := below_kt (Nat.le_refl _) HB hk
          replace hM := blk_kt hM hk (by decide)
          replace hF : FB _ _ _ _ := blk_kt hF hk (by decide)
          clear cc
          clear hk
          have cc := RFour_calls w4 w.heap.size gr r3 hR
          rw [N1.out.t3, Q3.out, N1.out.k3] at cc
          clear hR
          go_wp2_with fail
          refine (cc).mono ?_
          rintro e w5 ⟨rfl, hR, hk⟩
          replace HB := below_kt (Nat.le_refl _) HB hk
          replace hM := blk_kt hM hk (by decide)
          replace hF : FB _ _ _ _ := blk_kt hF hk (by decide)
          clear cc
          clear hk
          have hlt5 := blk_lt hM
          have hO6 := blk_new w5 (.cells #[.int .u8 4, .int .u16 an, .int .u16 hold, .int .u32 id, .slice none 0 0] 41)
          have hb := below_alloc (Below.refl w5.heap.size w5) (.cells #[.int .u8 4, .int .u16 an, .int .u16 hold, .int .u32 id, .slice none 0 0] 41)
          replace HB := HB.trans (hb.mono HB.size)
          replace hM := blk_below hM hb
          replace hF := hF.below hb
          replace hR := hR.kt (KT.of_below (B := w.heap.size) (ts := []) hb) (by simp) (by simp) (by simp)
          clear hb
          have cc := RByte_calls _ w.heap.size gr r4 hR
          rw [N1.out.t4, acc8_one, N1.out.k4] at cc
          clear hR
          go_wp2_with fail
          refine (cc).mono ?_
          rintro e w6 ⟨rfl, hR, hk⟩
          replace HB := below_kt (Nat.le_refl _) HB hk
          replace hM := blk_kt hM hk (by decide)
          replace hF : FB _ _ _ _ := blk_kt hF hk (by decide)
          clear cc
          replace hO6 := blk_kt hO6 hk (by decide)
          clear hk
          have o0 := blk_cell hO6 0
          simp at o0

          go_wp2_with fail
          refine (Left_calls w6 w.heap.size gr r5 hR).mono ?_
          rintro e w7 ⟨rfl, hd⟩
          have hb := Drawn0.below hd
          replace HB := HB.trans (hb.mono HB.size)
          replace hM := blk_below hM hb
          replace hF := hF.below hb
          replace hO6 := blk_below hO6 hb
          replace hR := hR.drawn hd
          rw [N1.out.l5]
          clear hb hd

          have cc := Rest_calls w7 w.heap.size gr r5 hR
          rw [N1.out.l5, N1.out.t5] at cc
          clear o0
          go_wp2_with fail
          refine (cc).mono ?_
          rintro e w8 ⟨v8, rfl, hv8, hR8, hk⟩
          replace HB := below_kt (Nat.le_refl _) HB hk
          replace hM := blk_kt hM hk (by decide)
          replace hF : FB _ _ _ _ := blk_kt hF hk (by decide)
          replace hO6 := blk_kt hO6 hk (by decide)
          obtain ⟨A8, c8, rfl, hc8, hC8⟩ := Kd.R_reads hv8
          clear cc hR hR8
          clear hk
          go_wp2_with fail
          refine (capsRead_calls (rest.length + 1) A8 c8 rest [] 2 f1 w8 (hG.below HB) hC8 hrl'.out hrb.out HR.out).mono ?_
          rintro e w9 ⟨v9, rfl, hv9, hb⟩
          replace HB := HB.trans (hb.mono HB.size)
          replace hM := blk_below hM hb
          replace hF := hF.below hb
          replace hO6 := blk_below hO6 hb
          obtain ⟨A9, c9, rfl, hc9, _⟩ := Kd.R_reads hv9
          clear hb

          clear hv8 hC8
          have hH := FB.new w9 (2) (f1)
          have hb := below_alloc (Below.refl w9.heap.size w9) (.cells #[.int .u8 (2), .int .u8 (f1)] 26)
          replace HB := HB.trans (hb.mono HB.size)
          replace hM := blk_below hM hb
          replace hF := hF.below hb
          replace hO6 := blk_below hO6 hb
          replace hv9 := Kd.R_below hv9 hb
          have b0 := hH.c0
          have b1 := hH.c1
          clear hb

          have n7 : ((2 : Int) == 0) = false := rfl
          go_upto_region 12 with fail
          refine start_ (n := 5) (S := fun w' => w'.cell? ⟨w9.heap.size, 0, none⟩ = some (.int .u8 2) ∧ w'.cell? ⟨w9.heap.size, 1, none⟩ = some (.int .u8 f1)) (ds := [3]) #[false, false, false, false, false] (by kernel_rfl) rfl rfl (⟨b0, b1⟩) (fun hHeld => ?_)
          refine pure_ (i := 0) (N := (some 53)) (v := ?_) (a' := ?_) #[true, false, false, false, false] rfl rfl (by kernel_rfl) (fun _ _ _ h => h) (Or.inl ⟨by rfl, ?_⟩) ?_ ?_
          rotate_left
          · intro w'
            go_simp
            with_reducible rfl
          rotate_left
          · simp only [Act.put, List.setIfInBounds_toArray, List.set_cons_zero, List.set_cons_succ, i64_w, i32_w]
            rfl
          refine take_ (i := 1) (N := (some 54)) (v := ?_) (a' := ?_) #[true, true, false, false, false] rfl rfl (by kernel_rfl) (fun _ _ _ h => h) (Or.inl ⟨by rfl, ?_⟩) hHeld ?_ ?_
          rotate_left
          · rintro w' ⟨s0, s1⟩
            go_simp
            with_reducible rfl
          rotate_left
          · simp only [Act.put, List.setIfInBounds_toArray, List.set_cons_zero, List.set_cons_succ, i64_w, i32_w]
            rfl
          replace HB := below_drew HB
          replace hM := blk_drew hM
          replace hF : FB _ _ _ _ := blk_drew hF
          replace hH := blk_drew hH
          have neH := blk_ne hH hM (by decide)
          generalize (w9.alloc (.cells #[.int .u8 2, .int .u8 f1] 26)).drew = w10 at *
          have x0 := blk_cell hM 0
          have x1 := blk_cell hM 1
          have x2 := blk_cell hM 2
          have x3 := blk_cell hM 3
          have x4 := blk_cell hM 4
          simp at x0 x1 x2 x3 x4
          have z0 := blk_frozen hM 0
          have z1 := blk_frozen hM 1
          have z2 := blk_frozen hM 2
          have z3 := blk_frozen hM 3
          have z4 := blk_frozen hM 4
          have u0 := hF.c0
          have u1 := hF.c1
          have v0 := blk_frozen hF 0
          have v1 := blk_frozen hF 1
          have hH5 : FB _ _ _ _ := blk_far (blk_far (blk_far (blk_far (blk_far hH (p := ⟨w.heap.size, 0, none⟩) neH (.int .u8 0)) (p := ⟨w.heap.size, 1, none⟩) neH (.int .u16 0)) (p := ⟨w.heap.size, 2, none⟩) neH (.int .u16 0)) (p := ⟨w.heap.size, 3, none⟩) neH (.int .u32 0)) (p := ⟨w.heap.size, 4, none⟩) neH (.slice none 0 0)
          refine one_ (i := 2) (N := none) #[true, true, true, false, false] rfl rfl (by kernel_rfl) (by decide) (fun K hK => ?_)
          refine skip_ (w1 := ?_) (by rfl) rfl ?_ ?_
          rotate_left
          · go_simp
            with_reducible rfl
          refine hK.out _ _ (⟨hH5.c0, hH5.c1⟩) (fun hHeld => ?_)
          clear hK K
          refine last_ (i := 3) (N := none) #[true, true, true, true, false] rfl rfl (by kernel_rfl) (by decide) (fun K hK => ?_)
          refine skip_ (w1 := ?_) (by rfl) rfl ?_ ?_
          rotate_left
          · go_simp
            with_reducible rfl
          refine hK.out _ _ ?_
          clear hK K
          refine pure_ (i := 4) (N := (some 4)) (v := ?_) (a' := ?_) #[true, true, true, true, true] rfl rfl (by kernel_rfl) (fun _ _ _ h => h) (Or.inl ⟨by rfl, ?_⟩) ?_ ?_
          rotate_left
          · intro w'
            go_simp
            with_reducible rfl
          rotate_left
          · simp only [Act.put, List.setIfInBounds_toArray, List.set_cons_zero, List.set_cons_succ, i64_w, i32_w]
            rfl
          refine done_ (by kernel_rfl) ?_
          go_wp2
          obtain ⟨m1, m2, m3⟩ := put41 (.int .u8 0) (.int .u16 0) (.int .u16 0) (.int .u32 0) (.slice none 0 0) (2) (f1) hM hF HB (Nat.le_refl _) (Nat.le_succ _)
          clear x0 x1 x2 x3 x4 z0 z1 z2 z3 z4 u0 u1 v0 v1 hM hF HB
          generalize (((((((w10.setCell ⟨w.heap.size, 0, none⟩ (.int .u8 0)).setCell ⟨w.heap.size, 1, none⟩ (.int .u16 0)).setCell ⟨w.heap.size, 2, none⟩ (.int .u16 0)).setCell ⟨w.heap.size, 3, none⟩ (.int .u32 0)).setCell ⟨w.heap.size, 4, none⟩ (.slice none 0 0)).setCell ⟨w.heap.size + 1, 0, none⟩ (.int .u8 2)).setCell ⟨w.heap.size + 1, 1, none⟩ (.int .u8 f1)) = wz at *
          have x0 := blk_cell m1 0
          have x1 := blk_cell m1 1
          have x2 := blk_cell m1 2
          have x3 := blk_cell m1 3
          have x4 := blk_cell m1 4
          simp at x0 x1 x2 x3 x4
          have u0 := m2.c0
          have u1 := m2.c1
          have hC1z := Kd.C_nil PA.k61 wz
          have hC2z := Kd.C_nil (Kd.int .u8) wz
          have hc1z := Nat.le_refl 0
          have hc2z := Nat.le_refl 0
          exact bodyPost_ret (v := .tuple #[.agg #[.int .u8 0, .int .u16 0, .int .u16 0, .int .u32 0, .slice none 0 0], .agg #[.int .u8 2, .int .u8 f1], .slice none 0 0]) (by simp [results, Tryd.results21, go_sem, x0, x1, x2, x3, x4, u0, u1]) rfl ⟨_, _, _, _, rfl, hC1z, hc1z, hC2z, hc2z, m3⟩
end Go.Proofs.YthafedmlbialiaaDoor
