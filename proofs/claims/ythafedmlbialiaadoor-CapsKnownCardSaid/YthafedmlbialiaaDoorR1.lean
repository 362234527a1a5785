/-
  The walks of a reader's methods, second part.
-/
import Derived.Test.YthafedmlbialiaaDoorR0
import Derived.WalkSpells
import Derived.Lib.SliceRun
import Derived.Lib.BufferMore
import Derived.StillTailTactics
namespace Go.Proofs.YthafedmlbialiaaDoor
open Go.RowKit Go.Proofs.YthafedmlbialiaaDoorW.PrintWords Go.Proofs.YthafedmlbialiaaDoorW.PrintLast Go.Proofs.YthafedmlbialiaaDoorW.PrintMore

theorem info5 : (Tryd.prog.info? 5).map (fun i => (i.zero, i.size, i.bytes)) = some (some (.int .u8 0), 1, 1) := by kernel_rfl
theorem info3 : (Tryd.prog.info? 3).map (fun i => (i.zero, i.size, i.bytes)) = some (some (.int .i64 0), 1, 8) := by kernel_rfl

set_option maxHeartbeats 400000 in
theorem Clone_calls (w : World) (B : Nat) (A : Option Addr) (c : Nat) (xs : List Int) (hB : B ≤ w.heap.size) (hC : (Kd.int .u8).C w A xs.length xs) (hl : xs.length ≤ 140737488351232) :
    Calls Tryd.prog 66 #[.slice A xs.length c] w fun e w' => ∃ v, e = .returned v ∧ (Kd.int .u8).R 5 w' B (fun _ => True) v xs ∧ Below w.heap.size w w' := by
  have hq := fun (w1 : World) => Lib.run_eql_slice_nil (P := Tryd.prog) w1 22 5 A xs.length c 0 0 Tryd.underlying22
  cases A with
  | none =>
    have h0 : xs = [] := by
      have h2 := hC.2.2
      rcases Nat.eq_zero_or_pos xs.length with h | h
      · exact List.eq_nil_of_length_eq_zero h
      · obtain ⟨ad, he, _⟩ := h2 h
        cases he
    subst h0
    clear hl hC hB hq
    have hq := fun (w1 : World) => Lib.run_eql_slice_nil_nil (P := Tryd.prog) w1 (t := 22) (e := 5) 0 c Tryd.underlying22
    show Calls Tryd.prog 66 #[.slice none 0 c] w _
    go_enter Tryd.func66, Tryd.ntmps66
    go_wp2
    go_ret
    exact ⟨_, rfl, Kd.R_nil _ _ _ _ _, Below.refl _ _⟩
  | some ad =>
    have hb : Below w.heap.size w (w.alloc (.cells #[] 5)) := below_alloc (Below.refl _ _) _
    have hb2 : Below B w (w.alloc (.cells #[] 5)) := hb.mono hB
    have hR : (Kd.int .u8).R 5 (w.alloc (.cells #[] 5)) w.heap.size (fun _ => True) (.slice (some ⟨w.heap.size, 0, none⟩) 0 0) [] := by
      have h := World.ownsRow_lit (base := w.heap.size) (e := 5) (size := 1) w #[] 0 (Nat.le_refl _) (by simp [maxLen]) (by simp)
      exact ⟨fun _ _ => trivial, [], (show World.ownsRow _ _ _ 1 _ _ _ by simpa using h), ⟨by simp, fun j p hj => by simp at hj⟩⟩
    go_enter Tryd.func66, Tryd.ntmps66
    go_wp2_with (at_builtin; refine Kd.R_append_rows (Kd.int .u8) (w0 := w) w.heap.size rfl _ _ 22 5 (.int .u8 0) 1 rfl Tryd.underlying22 info5 rfl (by decide) (by decide) (.slice (some ⟨w.heap.size, 0, none⟩) 0 0) [] xs (some ad) xs.length c (fun _ => True) (fun _ => False) rfl rfl hR (Kd.C_below hC hb) ?_ (fun _ h => h.elim) (fun _ _ => trivial) hb (by simp) (by simp; omega) ?_)
    · intro x cs h
      exact h
    · intro v1 w1 hR1 hb1 _ _
      go_wp2
      go_ret
      exact ⟨_, rfl, Kd.R_lower hR1 hB, hb1⟩

/-- The bytes that are taken. -/
def Rdr.taken (r : Rdr) (n : Int) : List Int := if (r.has n).e = 0 then (r.b.take (r.at_ + n).toNat).drop r.at_.toNat else []
/-- The reader behind them. -/
def Rdr.took (r : Rdr) (n : Int) : Rdr := if (r.has n).e = 0 then { r with at_ := r.at_ + n } else r.has n

theorem Rdr.has_zero {r : Rdr} (n : Int) (h : (r.has n).e = 0) : r.has n = r ∧ r.e = 0 ∧ 0 ≤ n ∧ n ≤ r.left := by
  unfold Rdr.has at h ⊢
  split at h
  · exfalso
    unfold Rdr.fail at h
    split at h
    · simp at h
    · contradiction
  · rename_i h1
    rw [if_neg h1]
    exact ⟨rfl, h, by omega, by omega⟩
theorem Rdr.Ok.took {r : Rdr} (ok : r.Ok) {n : Int} (h0 : 0 ≤ n) (h1 : n ≤ r.left) (he : r.e = 0) : ({ r with at_ := r.at_ + n } : Rdr).Ok := by
  refine ⟨ok.len, ok.nn, ?_, ?_, ok.down, ok.few, ok.byte⟩
  · have := ok.lo
    show 0 ≤ r.at_ + n
    omega
  · intro x hx
    have hl : r.last ≤ x := by
      have hne : r.ends ≠ [] := fun e => by rw [e] at hx; cases hx
      have hd := ok.down
      have hsp : r.ends = r.ends.dropLast ++ [r.last] := by
        have := (List.dropLast_concat_getLast hne).symm
        rw [Rdr.last, List.getLastD_eq_getLast?, List.getLast?_eq_some_getLast hne]
        exact this
      rw [hsp] at hd hx
      rcases List.mem_append.1 hx with h | h
      · exact (List.pairwise_append.1 hd).2.2 x h _ (by simp)
      · rw [List.mem_singleton.1 h]
        exact Int.le_refl _
    have := ok.hi x hx
    unfold Rdr.left at h1
    rw [if_pos he] at h1
    exact ⟨show r.at_ + n ≤ x by omega, this.2⟩
theorem IsR.set_at {w : World} {B g : Nat} {r : Rdr} (h : IsR w B g r) (x : Int) (ok : ({ r with at_ := x } : Rdr).Ok) : IsR (w.setCell ⟨g, 1, none⟩ (.int .i64 x)) B g { r with at_ := x } := by
  obtain ⟨bv, ev, hg, hB, hb, he, _⟩ := h
  exact ⟨bv, ev, blk_put hg 1 _ (by simp), hB, Kd.R_set hb hg (by decide) 1 _, Kd.R_set he hg (by decide) 1 _, ok⟩

set_option maxHeartbeats 1600000 in
set_option maxRecDepth 100000 in
theorem Take_calls (w : World) (B g : Nat) (r : Rdr) (n : Int) (h : IsR w B g r) :
    Calls Tryd.prog 61 #[.pointer (some ⟨g, 0, none⟩), .int .i64 n] w fun e w' => ∃ v, e = .returned v ∧ (Kd.int .u8).R 5 w' B (fun _ => True) v (r.taken n) ∧ IsR w' B g (r.took n) ∧ KT B [121] w w' := by
  by_cases h0 : (r.has n).e = 0
  case neg =>
    have n0 : ((r.has n).e == 0) = false := by simp [h0]
    have ht : r.taken n = [] := if_neg h0
    have hr : r.took n = r.has n := if_neg h0
    rw [ht, hr]
    clear h0 ht hr
    go_enter Tryd.func61, Tryd.ntmps61
    go_wp2_with fail
    refine (has_calls _ B g r n h).mono ?_
    rintro e w1 ⟨rfl, h1, k1⟩
    go_wp2
    go_ret
    exact ⟨_, rfl, Kd.R_nil _ _ _ _ _, h1, k1⟩
  case pos =>
    have n0 : ((r.has n).e == 0) = true := by simp [h0]
    have ht : r.taken n = (r.b.take (r.at_ + n).toNat).drop r.at_.toNat := if_pos h0
    have hr : r.took n = { r with at_ := r.at_ + n } := if_pos h0
    obtain ⟨hh, he0, hn0, hn1⟩ := Rdr.has_zero n h0
    rw [ht, hr]
    have hc := has_calls w B g r n h
    rw [hh] at hc n0
    have ok := h.ok
    have ok2 := ok.took hn0 hn1 he0
    have hbd := ok.left_bd
    have hlo := ok.lo
    have hlen := ok.len
    have hhi := (ok.hi _ ok.last_mem)
    have hle : r.at_ + n ≤ r.b.length := by
      unfold Rdr.left at hn1
      rw [if_pos he0] at hn1
      omega
    have hyl : ((r.b.take (r.at_ + n).toNat).drop r.at_.toNat).length = (r.at_ + n).toNat - r.at_.toNat := by rw [List.length_drop, List.length_take]; omega
    obtain ⟨ys, hys⟩ : ∃ ys, (r.b.take (r.at_ + n).toNat).drop r.at_.toNat = ys := ⟨_, rfl⟩
    rw [hys] at hyl ⊢
    have HY := Aside0.mk hys
    have HL := Aside0.mk hyl
    clear ht hr hh h0 he0 hys hyl
    go_enter Tryd.func61, Tryd.ntmps61
    go_wp2_with fail
    refine hc.mono ?_
    rintro e w1 ⟨rfl, h1, k1⟩
    have h2 := h1.set_at (r.at_ + n) ok2
    have k2 : KT B [121] w (w1.setCell ⟨g, 1, none⟩ (.int .i64 (r.at_ + n))) := k1.setCell h1.ge h1.ty (by simp) _
    obtain ⟨bv, ev, hg, hB, hb, he, _⟩ := id h1
    obtain ⟨A, c, rfl, hlc, hC⟩ := Kd.R_reads hb
    have c0 := (blk_cell hg 0)
    have c1 := (blk_cell hg 1)
    have f1 := (blk_frozen hg 1)
    simp at c0 c1
    go_wp2_with fail
    generalize w1.setCell ⟨g, 1, none⟩ (.int .i64 (r.at_ + n)) = w2 at h2 k2 ⊢
    clear hC c0 c1 f1 hg hb he hlc A c ev
    obtain ⟨bv, ev, hg, hB, hb, he, _⟩ := id h2
    obtain ⟨A, c, rfl, hlc, hC⟩ := Kd.R_reads hb
    have c0 := (blk_cell hg 0)
    have c1 := (blk_cell hg 1)
    simp at c0 c1
    have hlc : r.b.length ≤ c := hlc
    have s1 : IntKind.i64.wrap r.at_ = r.at_ := IntWalk.i64_in _ (by omega)
    obtain ⟨i0, hi0, _, hsz, _⟩ := info_parts info5
    have hcut := cut_mid (P := Tryd.prog) 22 5 .i64 .i64 Tryd.underlying22 hi0 1 hsz A r.b.length c r.at_ (r.at_ + n) hlo (by omega) hle hlc
    have hC2 := Kd.C_mid (lo := r.at_.toNat) (hi := (r.at_ + n).toNat) (c := c) (xs := r.b) hC (by omega) (by omega) hlc
    rw [← HL.out] at hcut
    rw [HY.out] at hC2
    obtain ⟨A2, hA2⟩ : ∃ A2, (if c = r.at_.toNat then A else A.map (·.add (r.at_.toNat * 1))) = A2 := ⟨_, rfl⟩
    obtain ⟨c2, hc2⟩ : ∃ c2, c - r.at_.toNat = c2 := ⟨_, rfl⟩
    replace hC2 : (Kd.int .u8).C w2 A2 ys.length ys := by rw [← hA2]; exact hC2
    rw [hA2, hc2] at hcut
    have hyn : ys.length ≤ 140737488351232 := by have := HL.out; omega
    clear hA2 hc2 hlc hC
    go_still_tail 15, (by kernel_rfl)
    change wpList _ _ _ _ _ w2.drew
    have h3 : IsR w2.drew B g _ := h2
    have k3 := k2.drew
    replace hC2 := Kd.C_drew hC2
    clear c0 c1 hg hb he h2 k2 hcut
    generalize w2.drew = w3 at h3 k3 hC2 ⊢
    go_wp2_with fail
    refine (Clone_calls w3 w3.heap.size A2 c2 ys (Nat.le_refl _) hC2 hyn).mono ?_
    rintro e w4 ⟨v, rfl, hv, hb4⟩
    go_wp2
    go_ret
    have hsz3 : B ≤ w3.heap.size := by
      obtain ⟨_, _, hg, hB, _⟩ := h3
      have := blk_lt hg
      omega
    exact ⟨_, rfl, Kd.R_lower hv hsz3, h3.below hb4, k3.trans (.of_below hb4)⟩
end Go.Proofs.YthafedmlbialiaaDoor
