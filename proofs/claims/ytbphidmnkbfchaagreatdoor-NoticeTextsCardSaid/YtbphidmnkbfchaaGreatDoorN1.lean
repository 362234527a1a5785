/-
  The walks of notice's Text, number and Parse.
-/
import Derived.Test.YtbphidmnkbfchaaGreatDoorShelf
import Derived.Test.YtbphidmnkbfchaaGreatDoorN0
import Derived.Test.YtbphidmnkbfchaaGreatDoorA0
import Derived.ChangeAgain
import Derived.Lib.AppendIntMem
import Derived.WalkSpells
import Derived.WalkLawsBesides
import Derived.BigQuiet
import Derived.Outline
namespace Go.Proofs.YtbphidmnkbfchaaGreatDoor
open Go.RowKit Go.Proofs.YtbphidmnkbfchaaGreatDoorW.PrintWords Go.Proofs.YtbphidmnkbfchaaGreatDoorW.PrintLast Go.Proofs.YtbphidmnkbfchaaGreatDoorW.PrintMore
set_option linter.unusedVariables false
set_option linter.unusedSimpArgs false

def lens : List Int := [0, 0, 29, 4096, 23, 4096, 21, 4096, 19, 19, 23, 23]
/-- The tables that start-up lays, and the world's shape. -/
structure GlobN (w : World) : Prop where
  sh : w.ShapedOpen Tryz.prog
  tab : Lib.TabIs Tryz.prog w "internal/strconv.uint64pow10" .u64 Lib.pow10Tab
  nm : ∀ k, k < 7 → w.cell? ⟨2, k, none⟩ = some (.string ⟨(nms.getD k []).toArray⟩)
  ln : ∀ k, k < 12 → w.cell? ⟨3, k, none⟩ = some (.int .i64 (lens.getD k 0))
theorem gPow : Tryz.prog.globalNamed "internal/strconv.uint64pow10" = some 10 := by kernel_rfl
theorem GlobN.below {w w' : World} (h : GlobN w) (hb : Below w.heap.size w w') : GlobN w' := by
  refine ⟨h.sh.keptBut (hb.frame (fun _ => False)) (fun _ hp => hp.elim), ?_, fun k hk => pw_cell_below hb (h.nm k hk), fun k hk => pw_cell_below hb (h.ln k hk)⟩
  have ht := h.tab
  unfold Lib.TabIs World.var? at ht ⊢
  rw [gPow] at ht ⊢
  simp only [Option.bind_some] at ht ⊢
  have hlt : 10 < w.heap.size := by
    rcases Nat.lt_or_ge 10 w.heap.size with h1 | h1
    · exact h1
    · rw [Array.getElem?_eq_none h1] at ht
      simp at ht
  rw [hb.block 10 hlt]
  exact ht

theorem Itoa_calls (w : World) (hG : GlobN w) (n : Int) (h0 : 0 ≤ n) (h1 : n ≤ 100000) :
    Calls Tryz.prog 61 #[.int .i64 n] w fun e w' => e = .returned (.string ⟨(Lib.itoa n).toArray⟩) ∧ Below w.heap.size w w' :=
  (Tryz.strconv_Itoa n (by omega) (by omega) w hG.tab).mono fun e w' ⟨he, k, os, hw⟩ => ⟨he, by rw [hw]; exact Lib.below_grow _ _ (Nat.le_refl _) _ _⟩

theorem below_dN {B : Nat} {a w : World} (h : Below B a w) (n : Nat) : Below B a (w.drewN n) := ⟨h.os, h.tape, h.output, h.size, h.block⟩
theorem str_app (a b : List UInt8) : (⟨a.toArray⟩ : ByteArray) ++ ⟨b.toArray⟩ = ⟨(a ++ b).toArray⟩ := by
  rw [ByteArray.mk_append_mk]
theorem itoa_len {c : Nat} (h : c < 256) : (Lib.itoa (c : Int)).length ≤ 3 := by
  rw [Lib.itoa_nonneg, dec_d3 (by omega)]
  unfold d3
  split
  · simp
  · split <;> simp
theorem text_eq (c d : Nat) (a : List UInt8) (ha : a = nameOf c) : ((⟨a.toArray⟩ : ByteArray) ++ ⟨#[47]⟩) ++ ⟨(Lib.decDigits d).toArray⟩ = ⟨(textOf c d).toArray⟩ := by
  rw [show (⟨#[47]⟩ : ByteArray) = ⟨([47] : List UInt8).toArray⟩ from rfl, str_app, str_app, ha]
  rfl

set_option maxHeartbeats 1600000 in
set_option maxRecDepth 100000 in
theorem Text_calls (w : World) (hG : GlobN w) (c d : Nat) (hc : c < 256) (hd : d < 256) :
    Calls Tryz.prog 18 #[.agg #[.int .u8 c, .int .u8 d]] w fun e w' => e = .returned (.string ⟨(textOf c d).toArray⟩) ∧ Below w.heap.size w w' := by
  have b1 := below_alloc (Below.refl w.heap.size w) (.cells #[.int .u8 c, .int .u8 d] 41)
  have hM := blk_new w (.cells #[.int .u8 c, .int .u8 d] 41)
  have H1 := Aside0.mk (fun W (hW : GlobN W) => Itoa_calls W hW c (by omega) (by omega))
  have H2 := Aside0.mk (fun W (hW : GlobN W) => Itoa_calls W hW d (by omega) (by omega))
  have l1 := itoa_len hc
  have l2 := itoa_len hd
  have E1 := Aside0.mk (fun (h : ¬ (1 ≤ c ∧ c < 7)) => text_eq c d (Lib.itoa c) (by rw [Lib.itoa_nonneg]; exact (if_neg h).symm))
  have E2 := Aside0.mk (fun (h : 1 ≤ c ∧ c < 7) => text_eq c d (nms.getD c []) (if_pos h).symm)
  rw [← Lib.itoa_nonneg d] at E1 E2
  generalize Lib.itoa (c : Int) = ic at *
  generalize Lib.itoa (d : Int) = idd at *
  have hcz : (0 : Int) ≤ (c : Int) := by omega
  have q0 := blk_cell hM 0
  have q1 := blk_cell hM 1
  simp at q0 q1
  by_cases h7 : c < 7
  · have hn := hG.nm c h7
    have d1 : decide ((c : Int) < 7) = true := decide_eq_true (by omega)
    have d2 : decide (c < 7) = true := decide_eq_true h7
    have hc7 : (c : Int) < 7 := by omega
    by_cases h0 : c = 0
    · subst h0
      have hn0 : w.cell? ⟨2, 0, none⟩ = some (.string ⟨#[]⟩) := hn
      have HE := Aside0.mk (E1.out (by omega))
      clear hn d1 d2 hc7 h7 hcz E1 E2
      go_enter Tryz.func18, Tryz.ntmps18
      go_wp2_with fail
      refine (H1.out _ (hG.below b1)).mono ?_
      rintro e w1 ⟨rfl, hb⟩
      replace b1 := b1.trans (hb.mono b1.size)
      replace hM := blk_below hM hb
      have hn1 := pw_cell_below b1 hn0
      have q0 := blk_cell hM 0
      have q1 := blk_cell hM 1
      simp at q0 q1
      clear hn0 hb H1
      go_wp2_with fail
      refine (H2.out _ (hG.below b1)).mono ?_
      rintro e w2 ⟨rfl, hb⟩
      replace b1 := b1.trans (hb.mono b1.size)
      clear hb H2
      go_wp2_with fail
      go_ret
      rw [HE.out]
      exact ⟨rfl, b1⟩
    · have HE := Aside0.mk (E2.out ⟨by omega, h7⟩)
      have hne : nms.getD c [] ≠ [] ∧ (nms.getD c []).length ≤ 6 := by
        match c, h0, h7 with
        | 1, _, _ => decide
        | 2, _, _ => decide
        | 3, _, _ => decide
        | 4, _, _ => decide
        | 5, _, _ => decide
        | 6, _, _ => decide
      generalize nms.getD c [] = nv at *
      obtain ⟨x0, xs, rfl⟩ : ∃ x0 xs, nv = x0 :: xs := by
        cases nv with
        | nil => exact absurd rfl hne.1
        | cons a b => exact ⟨a, b, rfl⟩
      have hl3 : xs.length ≤ 5 := by have := hne.2; simp at this; omega
      clear hne E1 E2 h0
      go_enter Tryz.func18, Tryz.ntmps18
      go_wp2_with fail
      refine (H1.out _ (hG.below b1)).mono ?_
      rintro e w1 ⟨rfl, hb⟩
      replace b1 := b1.trans (hb.mono b1.size)
      replace hM := blk_below hM hb
      have hn1 := pw_cell_below b1 hn
      have q0 := blk_cell hM 0
      have q1 := blk_cell hM 1
      simp at q0 q1
      clear hn hb H1
      go_wp2_with fail
      refine (H2.out _ (hG.below b1)).mono ?_
      rintro e w2 ⟨rfl, hb⟩
      replace b1 := b1.trans (hb.mono b1.size)
      clear hb H2
      go_wp2_with fail
      go_ret
      rw [HE.out]
      exact ⟨rfl, b1⟩
  · have d1 : decide ((c : Int) < 7) = false := decide_eq_false (by omega)
    have d2 : decide (c < 7) = false := decide_eq_false h7
    have HE := Aside0.mk (E1.out (by omega))
    clear E1 E2 h7
    go_enter Tryz.func18, Tryz.ntmps18
    go_wp2_with fail
    refine (H1.out _ (hG.below b1)).mono ?_
    rintro e w1 ⟨rfl, hb⟩
    replace b1 := b1.trans (hb.mono b1.size)
    replace hM := blk_below hM hb
    have q0 := blk_cell hM 0
    have q1 := blk_cell hM 1
    simp at q0 q1
    clear hb H1
    go_wp2_with fail
    refine (H2.out _ (hG.below b1)).mono ?_
    rintro e w2 ⟨rfl, hb⟩
    replace b1 := b1.trans (hb.mono b1.size)
    clear hb H2
    go_wp2_with fail
    go_ret
    rw [HE.out]
    exact ⟨rfl, b1⟩

/-! ### number -/
theorem dw_nil {α : Type} (p : α → Bool) : ∀ l : List α, l.dropWhile p = [] ↔ ∀ x, x ∈ l → p x = true
  | [] => by simp
  | a :: l => by
    rw [List.dropWhile_cons]
    by_cases h : p a = true
    · rw [if_pos h, dw_nil p l]
      simp [h]
    · rw [if_neg h]
      simp [h]
theorem dw_head {α : Type} (p : α → Bool) : ∀ (l : List α) (a : α) (t : List α), l.dropWhile p = a :: t → ¬ p a = true
  | [], _, _, h => by simp at h
  | b :: l, a, t, h => by
    rw [List.dropWhile_cons] at h
    split at h
    · exact dw_head p l a t h
    · rename_i hb
      injection h with h1 _
      rw [← h1]
      exact hb
theorem trimS_all (l : List UInt8) : Lib.trimS l digs = [] ↔ l.all (digs.contains ·) = true := by
  unfold Lib.trimS Lib.trimLeftS Lib.trimRightS
  rw [List.all_eq_true]
  constructor
  · intro h
    rw [dw_nil] at h
    have h2 : (l.reverse.dropWhile (digs.contains ·)) = [] := by
      cases hd : l.reverse.dropWhile (digs.contains ·) with
      | nil => rfl
      | cons a t =>
        rw [hd] at h
        exact absurd (h a (by simp)) (dw_head _ _ _ _ hd)
    rw [dw_nil] at h2
    intro x hx
    exact h2 x (by simp [hx])
  · intro h
    have h2 : (l.reverse.dropWhile (digs.contains ·)) = [] := by
      rw [dw_nil]
      intro x hx
      exact h x (by simpa using hx)
    rw [h2]
    rfl
theorem digit_val {b : UInt8} (h : digs.contains b = true) : ∃ d, d < 10 ∧ Lib.digitVal b = some d ∧ b ≠ 45 ∧ b ≠ 43 := by
  simp only [digs, List.contains_cons, List.contains_nil, Bool.or_false, Bool.or_eq_true, beq_iff_eq] at h
  rcases h with rfl | rfl | rfl | rfl | rfl | rfl | rfl | rfl | rfl | rfl
  · exact ⟨0, by decide, by decide, by decide, by decide⟩
  · exact ⟨1, by decide, by decide, by decide, by decide⟩
  · exact ⟨2, by decide, by decide, by decide, by decide⟩
  · exact ⟨3, by decide, by decide, by decide, by decide⟩
  · exact ⟨4, by decide, by decide, by decide, by decide⟩
  · exact ⟨5, by decide, by decide, by decide, by decide⟩
  · exact ⟨6, by decide, by decide, by decide, by decide⟩
  · exact ⟨7, by decide, by decide, by decide, by decide⟩
  · exact ⟨8, by decide, by decide, by decide, by decide⟩
  · exact ⟨9, by decide, by decide, by decide, by decide⟩
theorem decFrom_some : ∀ (l : List UInt8) (acc : Nat), l.all (digs.contains ·) = true → ∃ n, Lib.decFrom acc l = some n ∧ n < (acc + 1) * 10 ^ l.length
  | [], acc, _ => ⟨acc, rfl, by simp⟩
  | b :: l, acc, h => by
    rw [List.all_cons, Bool.and_eq_true] at h
    obtain ⟨d, hd, hv, _, _⟩ := digit_val h.1
    obtain ⟨n, h1, h2⟩ := decFrom_some l (acc * 10 + d) h.2
    refine ⟨n, by rw [Lib.decFrom, hv]; exact h1, Nat.lt_of_lt_of_le h2 ?_⟩
    rw [List.length_cons, Nat.pow_succ, Nat.mul_comm (10 ^ l.length) 10, ← Nat.mul_assoc]
    exact Nat.mul_le_mul_right _ (by omega)
theorem numOf_some {l : List UInt8} (h0 : l ≠ []) (h1 : l.length ≤ 10) (h2 : Lib.trimS l digs = []) (h3 : ¬ (1 < l.length ∧ l[0]? = some 48)) : ∃ n, numOf l = some n ∧ Lib.atoi l = some (n : Int) ∧ n < 100000000000 := by
  have h4 := (trimS_all l).1 h2
  obtain ⟨n, h5, h6⟩ := decFrom_some l 0 h4
  refine ⟨n, ?_, ?_, ?_⟩
  · unfold numOf
    rw [if_neg (by
      rintro (h | h | h | h)
      · exact h0 h
      · omega
      · exact h h2
      · exact h3 h)]
    unfold Lib.decNat
    rw [if_neg (by simp [h0])]
    exact h5
  · cases l with
    | nil => exact absurd rfl h0
    | cons b r =>
      rw [List.all_cons, Bool.and_eq_true] at h4
      obtain ⟨d, _, _, n1, n2⟩ := digit_val h4.1
      have e : Lib.atoi (b :: r) = (Lib.decNat (b :: r)).map fun (m : Nat) => (m : Int) := by
        show (if (b == 45) = true then _ else if (b == 43) = true then _ else _) = _
        rw [if_neg (by simpa using n1), if_neg (by simpa using n2)]
      rw [e]
      unfold Lib.decNat
      rw [if_neg (by simp), h5]
      rfl
  · refine Nat.lt_of_lt_of_le h6 ?_
    have : 10 ^ l.length ≤ 10 ^ 10 := Nat.pow_le_pow_right (by omega) h1
    omega

set_option maxHeartbeats 1600000 in
set_option maxRecDepth 100000 in
theorem number_long (w : World) (a : UInt8) (r : List UInt8) (h : 10 < r.length + 1) (hl : r.length ≤ 1000) :
    Calls Tryz.prog 59 #[.string ⟨(a :: r).toArray⟩] w fun e w' => e = .returned (.tuple #[.int .i64 0, .bool false]) ∧ Below w.heap.size w w' := by
  go_enter Tryz.func59, Tryz.ntmps59
  go_wp2_with fail
  go_ret2
  exact ⟨rfl, Below.refl _ _⟩
set_option maxHeartbeats 1600000 in
set_option maxRecDepth 100000 in
theorem number_nil (w : World) :
    Calls Tryz.prog 59 #[.string ⟨#[]⟩] w fun e w' => e = .returned (.tuple #[.int .i64 0, .bool false]) ∧ Below w.heap.size w w' := by
  go_enter Tryz.func59, Tryz.ntmps59
  go_wp2_with fail
  go_ret2
  exact ⟨rfl, Below.refl _ _⟩
theorem Trim_as (w : World) (l t : List UInt8) (hl : l.length ≤ 1000) (ht : Lib.trimS l digs = t) :
    Calls Tryz.prog 110 #[.string ⟨l.toArray⟩, .string ⟨#[48, 49, 50, 51, 52, 53, 54, 55, 56, 57]⟩] w fun e w' => e = .returned (.string ⟨t.toArray⟩) ∧ Below w.heap.size w w' := by
  subst ht
  have h := Tryz.strings_Trim_digits ⟨l.toArray⟩ w (by show l.toArray.size ≤ _; simp; omega)
  exact h
set_option maxHeartbeats 1600000 in
set_option maxRecDepth 100000 in
theorem number_trim (w : World) (a : UInt8) (r : List UInt8) (h : r.length + 1 ≤ 10) (x : UInt8) (t : List UInt8) (ht : Lib.trimS (a :: r) digs = x :: t) :
    Calls Tryz.prog 59 #[.string ⟨(a :: r).toArray⟩] w fun e w' => e = .returned (.tuple #[.int .i64 0, .bool false]) ∧ Below w.heap.size w w' := by
  have H := Aside0.mk (Trim_as w (a :: r) (x :: t) (by simp; omega) ht)
  have hh : ¬ 10 < r.length + 1 := by omega
  clear ht
  go_enter Tryz.func59, Tryz.ntmps59
  go_wp2_with (go_at_call 110; refine H.out.mono ?_; rintro e w1 ⟨rfl, hb⟩)
  go_ret2
  exact ⟨rfl, hb⟩
set_option maxHeartbeats 1600000 in
set_option maxRecDepth 100000 in
theorem number_zero (w : World) (r : List UInt8) (h : r.length + 1 ≤ 10) (h1 : 1 < r.length + 1) (ht : Lib.trimS (48 :: r) digs = []) :
    Calls Tryz.prog 59 #[.string ⟨(48 :: r).toArray⟩] w fun e w' => e = .returned (.tuple #[.int .i64 0, .bool false]) ∧ Below w.heap.size w w' := by
  have H := Aside0.mk (Trim_as w (48 :: r) [] (by simp; omega) ht)
  have hh : ¬ 10 < r.length + 1 := by omega
  clear ht
  go_enter Tryz.func59, Tryz.ntmps59
  go_wp2_with (go_at_call 110; refine H.out.mono ?_; rintro e w1 ⟨rfl, hb⟩)
  · go_ret2
    exact ⟨rfl, hb⟩
  · rename_i hz _ _ _ _
    exact absurd (show ((((48 : UInt8).toNat : Nat) : Int) == 48) = false from hz.2) (by decide)
theorem Atoi_as (w : World) (l : List UInt8) (n : Int) (hl : l.length ≤ 18) (h : Lib.atoi l = some n) :
    Calls Tryz.prog 111 #[.string ⟨l.toArray⟩] w fun e w' => e = .returned (.tuple #[.int .i64 n, .nilIface]) ∧ Below w.heap.size w w' :=
  (Tryz.strconv_Atoi ⟨l.toArray⟩ n (by show l.toArray.size ≤ _; simpa using hl) h w).mono fun e w' ⟨he, t, hw⟩ => ⟨he, by rw [hw]; exact bytes_below (Below.refl _ _) (Nat.le_refl _) _ _⟩
set_option maxHeartbeats 1600000 in
set_option maxRecDepth 100000 in
theorem number_one (w : World) (a : UInt8) (n : Nat) (ht : Lib.trimS [a] digs = []) (hn : Lib.atoi [a] = some (n : Int)) :
    Calls Tryz.prog 59 #[.string ⟨[a].toArray⟩] w fun e w' => e = .returned (.tuple #[.int .i64 n, .bool true]) ∧ Below w.heap.size w w' := by
  have H := Aside0.mk (Trim_as w [a] [] (by simp) ht)
  have H2 := Aside0.mk (fun w => Atoi_as w [a] n (by simp) hn)
  clear ht hn
  go_enter Tryz.func59, Tryz.ntmps59
  go_wp2_with (first | (go_at_call 110; refine H.out.mono ?_; rintro e w1 ⟨rfl, hb⟩) | (go_at_call 111; refine (H2.out _).mono ?_; rintro e w2 ⟨rfl, hb2⟩))
  go_quiet (fail)
  go_wp2
  go_ret2
  exact ⟨rfl, below_dN (hb.trans (hb2.mono hb.size)) _⟩
set_option maxHeartbeats 1600000 in
set_option maxRecDepth 100000 in
theorem number_more (w : World) (a : UInt8) (r : List UInt8) (n : Nat) (h : r.length + 1 ≤ 10) (h1 : 1 < r.length + 1) (ha : a ≠ 48) (ht : Lib.trimS (a :: r) digs = []) (hn : Lib.atoi (a :: r) = some (n : Int)) :
    Calls Tryz.prog 59 #[.string ⟨(a :: r).toArray⟩] w fun e w' => e = .returned (.tuple #[.int .i64 n, .bool true]) ∧ Below w.heap.size w w' := by
  have H := Aside0.mk (Trim_as w (a :: r) [] (by simp; omega) ht)
  have H2 := Aside0.mk (fun w => Atoi_as w (a :: r) n (by simp; omega) hn)
  have hh : ¬ 10 < r.length + 1 := by omega
  clear ht hn
  go_enter Tryz.func59, Tryz.ntmps59
  go_wp2_with (first | (go_at_call 110; refine H.out.mono ?_; rintro e w1 ⟨rfl, hb⟩) | (go_at_call 111; refine (H2.out _).mono ?_; rintro e w2 ⟨rfl, hb2⟩))
  · rename_i hz
    rcases hz with hz | hz
    · omega
    · refine absurd ?_ ha
      have h3 : ((a.toNat : Int) == 48) = true := hz
      have h4 : a.toNat = 48 := by
        have := beq_iff_eq.1 h3
        omega
      exact UInt8.toNat_inj.1 h4
  · go_quiet (fail)
    go_wp2
    go_ret2
    exact ⟨rfl, below_dN (hb.trans (hb2.mono hb.size)) _⟩
/-- number. -/
theorem number_calls (w : World) (l : List UInt8) (hl : l.length ≤ 1000) :
    Calls Tryz.prog 59 #[.string ⟨l.toArray⟩] w fun e w' => e = .returned (.tuple #[.int .i64 ((numOf l).getD 0 : Nat), .bool (numOf l).isSome]) ∧ Below w.heap.size w w' := by
  cases l with
  | nil => exact number_nil w
  | cons a r =>
    by_cases h1 : 10 < r.length + 1
    · have e : numOf (a :: r) = none := if_pos (.inr (.inl (by simpa using h1)))
      rw [e]
      exact number_long w a r h1 (by simp at hl; omega)
    · by_cases h2 : Lib.trimS (a :: r) digs = []
      · by_cases h3 : 1 < (a :: r).length ∧ (a :: r)[0]? = some 48
        · have e : numOf (a :: r) = none := if_pos (.inr (.inr (.inr h3)))
          rw [e]
          obtain ⟨h4, h5⟩ := h3
          obtain rfl : a = 48 := by simpa using h5
          exact number_zero w r (by omega) (by simpa using h4) h2
        · obtain ⟨n, e, h4, h5⟩ := numOf_some (l := a :: r) (by simp) (by simp; omega) h2 h3
          rw [e]
          by_cases h6 : r = []
          · subst h6
            exact number_one w a n h2 h4
          · have h7 : 0 < r.length := List.length_pos_iff.2 h6
            exact number_more w a r n (by omega) (by omega) (fun ha => h3 ⟨by simp; omega, by simp [ha]⟩) h2 h4
      · have e : numOf (a :: r) = none := if_pos (.inr (.inr (.inl h2)))
        rw [e]
        cases ht : Lib.trimS (a :: r) digs with
        | nil => exact absurd ht h2
        | cons x t => exact number_trim w a r (by omega) x t ht

/-! ### Parse -/
theorem Cut_as (w : World) (hG : GlobN w) (l : List UInt8) (hl : l.length ≤ 1000) :
    Calls Tryz.prog 58 #[.string ⟨l.toArray⟩, .string ⟨#[47]⟩] w fun e w' => e = .returned (.tuple #[.string ⟨(Lib.cut l [47]).1.toArray⟩, .string ⟨(Lib.cut l [47]).2.1.toArray⟩, .bool (Lib.cut l [47]).2.2]) ∧ Below w.heap.size w w' :=
  (Tryz.strings_Cut_shaped ⟨l.toArray⟩ ⟨#[47]⟩ w hG.sh (by show l.toArray.size < _; simp; omega)).mono fun e w' ⟨he, n, hw⟩ => ⟨he, by rw [hw]; exact below_dN (Below.refl _ _) n⟩
def nmB : List ByteArray := nms.map fun l => ⟨l.toArray⟩
theorem Index_as (w : World) (hG : GlobN w) (l : List UInt8) :
    Calls Tryz.prog 60 #[.slice (some ⟨2, 0, none⟩) 7 7, .string ⟨l.toArray⟩] w fun e w' => e = .returned (.int .i64 (Lib.idxOfS nmB ⟨l.toArray⟩)) ∧ Below w.heap.size w w' := by
  have h := Tryz.slices_Index_string 2 0 7 7 nmB ⟨l.toArray⟩ w (by decide) (by decide) (fun j hj => by
    have h1 := hG.nm j (by simpa [nmB, nms] using hj)
    rw [Nat.zero_add, h1]
    simp only [nmB, List.getD_eq_getElem?_getD, List.getElem?_map]
    have hj7 : j < 7 := by simpa [nmB, nms] using hj
    match j, hj7 with
    | 0, _ => rfl
    | 1, _ => rfl
    | 2, _ => rfl
    | 3, _ => rfl
    | 4, _ => rfl
    | 5, _ => rfl
    | 6, _ => rfl)
  rw [show nmB.take 7 = nmB from rfl] at h
  exact h.mono fun e w' ⟨he, hw⟩ => ⟨he, by rw [hw]; exact Below.refl _ _⟩
theorem bytes_inj {a b : List UInt8} : ((⟨a.toArray⟩ : ByteArray) = ⟨b.toArray⟩) ↔ a = b := by
  constructor
  · intro h
    injection h with h
    simpa using h
  · intro h
    rw [h]
theorem idx_eq (l : List UInt8) : Lib.idxOfS nmB ⟨l.toArray⟩ = match nmIdx l with | some k => (k : Int) | none => if l = [] then 0 else -1 := by
  by_cases h0 : l = []
  · subst h0; decide
  by_cases h1 : l = nmHead
  · subst h1; decide
  by_cases h2 : l = nmOpen
  · subst h2; decide
  by_cases h3 : l = nmUpdate
  · subst h3; decide
  by_cases h4 : l = nmHold
  · subst h4; decide
  by_cases h5 : l = nmState
  · subst h5; decide
  by_cases h6 : l = nmCease
  · subst h6; decide
  unfold Lib.idxOfS nmB nms nmIdx
  simp only [List.map_cons, List.map_nil, Lib.idxFromS, bytes_inj]
  rw [if_neg (fun h => h0 h.symm), if_neg (fun h => h1 h.symm), if_neg (fun h => h2 h.symm), if_neg (fun h => h3 h.symm), if_neg (fun h => h4 h.symm), if_neg (fun h => h5 h.symm), if_neg (fun h => h6 h.symm),
    if_neg h1, if_neg h2, if_neg h3, if_neg h4, if_neg h5, if_neg h6]
  exact (if_neg h0).symm
/-- The parts of Parse's answer. -/
theorem parse_idx (l : List UInt8) : (∃ k : Nat, nmIdx l = some k ∧ 1 ≤ k ∧ k ≤ 6 ∧ Lib.idxOfS nmB ⟨l.toArray⟩ = (k : Int)) ∨ (nmIdx l = none ∧ Lib.idxOfS nmB ⟨l.toArray⟩ ≤ 0) := by
  have h := idx_eq l
  cases hi : nmIdx l with
  | none =>
    rw [hi] at h
    refine .inr ⟨rfl, ?_⟩
    simp only at h
    rw [h]
    split <;> decide
  | some k =>
    rw [hi] at h
    exact .inl ⟨k, rfl, (nmIdx_lt hi).1, (nmIdx_lt hi).2.1, h⟩
/-- What Parse hands back. -/
def ParsePost (w : World) (c d : Nat) (x : Int) (e : Ending) (w' : World) : Prop := e = .returned (.tuple #[.agg #[.int .u8 c, .int .u8 d], .int .i64 x]) ∧ Below w.heap.size w w'

set_option maxHeartbeats 4000000 in
set_option maxRecDepth 100000 in
theorem parse_form1 (w : World) (hG : GlobN w) (l l1 l2 : List UInt8) (hl : l.length ≤ 1000) (b : Bool) (hcut : Lib.cut l [47] = (l1, l2, b)) (hl1 : l1.length ≤ 1000) (hl2 : l2.length ≤ 1000) (h1 : numOf l1 = none) (hi : Lib.idxOfS nmB ⟨l1.toArray⟩ ≤ 0) :
    Calls Tryz.prog 17 #[.string ⟨l.toArray⟩] w (ParsePost w (0 : Nat) (0 : Nat) 5) := by
  have H1 := Aside0.mk (fun w hG => Cut_as w hG l hl)
  rw [hcut] at H1
  dsimp only at H1
  have H2 := Aside0.mk (fun w => number_calls w l1 hl1)
  have H3 := Aside0.mk (fun w hG => Index_as w hG l1)
  have H4 := Aside0.mk (fun w => number_calls w l2 hl2)
  rw [h1] at H2
  simp only [Option.getD_none, Option.isSome_none] at H2
  clear h1
  clear hcut
  generalize Lib.idxOfS nmB ⟨l1.toArray⟩ = ix at *
  have hi1 : ¬ 0 < ix := by omega
  clear hi
  have HB := below_alloc (Below.refl w.heap.size w) (.cells #[.int .u8 0, .int .u8 0] 41)
  have hM := blk_new w (.cells #[.int .u8 0, .int .u8 0] 41)
  go_enter Tryz.func17, Tryz.ntmps17
  go_wp2_with fail
  refine (H1.out _ (hG.below HB)).mono ?_
  rintro e w1 ⟨rfl, hb⟩
  replace HB := HB.trans (hb.mono HB.size)
  replace hM := blk_below hM hb
  clear hb H1
  go_wp2_with fail
  refine (H2.out _).mono ?_
  rintro e w2 ⟨rfl, hb⟩
  replace HB := HB.trans (hb.mono HB.size)
  replace hM := blk_below hM hb
  clear hb H2
  go_wp2_with fail
  refine (H3.out _ (hG.below HB)).mono ?_
  rintro e w3 ⟨rfl, hb⟩
  replace HB := HB.trans (hb.mono HB.size)
  replace hM := blk_below hM hb
  clear hb H3
  go_wp2_with fail
  refine (H4.out _).mono ?_
  rintro e w4 ⟨rfl, hb⟩
  replace HB := HB.trans (hb.mono HB.size)
  replace hM := blk_below hM hb
  clear hb H4
  have q0 := blk_cell hM 0
  have q1 := blk_cell hM 1
  have f0 := blk_frozen hM 0
  have f1 := blk_frozen hM 1
  simp at q0 q1
  go_wp2_with fail
  have p1 := blk_put (blk_put hM 0 (.int .u8 (0 : Nat)) rfl) 1 (.int .u8 (0 : Nat)) rfl
  have g0 := blk_cell p1 0
  have g1 := blk_cell p1 1
  simp at g0 g1
  exact bodyPost_ret (v := .tuple #[.agg #[.int .u8 (0 : Nat), .int .u8 (0 : Nat)], .int .i64 5]) (by simp [results, Tryz.results17, go_sem, g0, g1]) rfl ⟨rfl, (HB.setCell (p := ⟨w.heap.size, 0, none⟩) (Nat.le_refl _) _).setCell (p := ⟨w.heap.size, 1, none⟩) (Nat.le_refl _) _⟩

set_option maxHeartbeats 4000000 in
set_option maxRecDepth 100000 in
theorem parse_form2 (w : World) (hG : GlobN w) (l l1 l2 : List UInt8) (hl : l.length ≤ 1000) (b : Bool) (hcut : Lib.cut l [47] = (l1, l2, b)) (hl1 : l1.length ≤ 1000) (hl2 : l2.length ≤ 1000) (n1 : Nat) (h1 : numOf l1 = some n1) (h2 : numOf l2 = none) (hi : Lib.idxOfS nmB ⟨l1.toArray⟩ ≤ 0) :
    Calls Tryz.prog 17 #[.string ⟨l.toArray⟩] w (ParsePost w (0 : Nat) (0 : Nat) 5) := by
  have H1 := Aside0.mk (fun w hG => Cut_as w hG l hl)
  rw [hcut] at H1
  dsimp only at H1
  have H2 := Aside0.mk (fun w => number_calls w l1 hl1)
  have H3 := Aside0.mk (fun w hG => Index_as w hG l1)
  have H4 := Aside0.mk (fun w => number_calls w l2 hl2)
  rw [h1] at H2
  simp only [Option.getD_some, Option.isSome_some] at H2
  clear h1
  rw [h2] at H4
  simp only [Option.getD_none, Option.isSome_none] at H4
  clear h2
  clear hcut
  generalize Lib.idxOfS nmB ⟨l1.toArray⟩ = ix at *
  have hi1 : ¬ 0 < ix := by omega
  clear hi
  have HB := below_alloc (Below.refl w.heap.size w) (.cells #[.int .u8 0, .int .u8 0] 41)
  have hM := blk_new w (.cells #[.int .u8 0, .int .u8 0] 41)
  go_enter Tryz.func17, Tryz.ntmps17
  go_wp2_with fail
  refine (H1.out _ (hG.below HB)).mono ?_
  rintro e w1 ⟨rfl, hb⟩
  replace HB := HB.trans (hb.mono HB.size)
  replace hM := blk_below hM hb
  clear hb H1
  go_wp2_with fail
  refine (H2.out _).mono ?_
  rintro e w2 ⟨rfl, hb⟩
  replace HB := HB.trans (hb.mono HB.size)
  replace hM := blk_below hM hb
  clear hb H2
  go_wp2_with fail
  refine (H3.out _ (hG.below HB)).mono ?_
  rintro e w3 ⟨rfl, hb⟩
  replace HB := HB.trans (hb.mono HB.size)
  replace hM := blk_below hM hb
  clear hb H3
  go_wp2_with fail
  refine (H4.out _).mono ?_
  rintro e w4 ⟨rfl, hb⟩
  replace HB := HB.trans (hb.mono HB.size)
  replace hM := blk_below hM hb
  clear hb H4
  have q0 := blk_cell hM 0
  have q1 := blk_cell hM 1
  have f0 := blk_frozen hM 0
  have f1 := blk_frozen hM 1
  simp at q0 q1
  go_wp2_with fail
  have p1 := blk_put (blk_put hM 0 (.int .u8 (0 : Nat)) rfl) 1 (.int .u8 (0 : Nat)) rfl
  have g0 := blk_cell p1 0
  have g1 := blk_cell p1 1
  simp at g0 g1
  exact bodyPost_ret (v := .tuple #[.agg #[.int .u8 (0 : Nat), .int .u8 (0 : Nat)], .int .i64 5]) (by simp [results, Tryz.results17, go_sem, g0, g1]) rfl ⟨rfl, (HB.setCell (p := ⟨w.heap.size, 0, none⟩) (Nat.le_refl _) _).setCell (p := ⟨w.heap.size, 1, none⟩) (Nat.le_refl _) _⟩

set_option maxHeartbeats 4000000 in
set_option maxRecDepth 100000 in
theorem parse_form3 (w : World) (hG : GlobN w) (l l1 l2 : List UInt8) (hl : l.length ≤ 1000) (b : Bool) (hcut : Lib.cut l [47] = (l1, l2, b)) (hl1 : l1.length ≤ 1000) (hl2 : l2.length ≤ 1000) (h2 : numOf l2 = none) (k : Nat) (k1 : 1 ≤ k) (k2 : k ≤ 6) (hi : Lib.idxOfS nmB ⟨l1.toArray⟩ = (k : Int)) :
    Calls Tryz.prog 17 #[.string ⟨l.toArray⟩] w (ParsePost w (0 : Nat) (0 : Nat) 5) := by
  have H1 := Aside0.mk (fun w hG => Cut_as w hG l hl)
  rw [hcut] at H1
  dsimp only at H1
  have H2 := Aside0.mk (fun w => number_calls w l1 hl1)
  have H3 := Aside0.mk (fun w hG => Index_as w hG l1)
  have H4 := Aside0.mk (fun w => number_calls w l2 hl2)
  rw [h2] at H4
  simp only [Option.getD_none, Option.isSome_none] at H4
  clear h2
  generalize (numOf l1).getD 0 = m1 at *
  generalize (numOf l1).isSome = m2 at *
  clear hcut
  generalize Lib.idxOfS nmB ⟨l1.toArray⟩ = ix at *
  subst hi
  have hi1 : 0 < (k : Int) := by omega
  have HB := below_alloc (Below.refl w.heap.size w) (.cells #[.int .u8 0, .int .u8 0] 41)
  have hM := blk_new w (.cells #[.int .u8 0, .int .u8 0] 41)
  go_enter Tryz.func17, Tryz.ntmps17
  go_wp2_with fail
  refine (H1.out _ (hG.below HB)).mono ?_
  rintro e w1 ⟨rfl, hb⟩
  replace HB := HB.trans (hb.mono HB.size)
  replace hM := blk_below hM hb
  clear hb H1
  go_wp2_with fail
  refine (H2.out _).mono ?_
  rintro e w2 ⟨rfl, hb⟩
  replace HB := HB.trans (hb.mono HB.size)
  replace hM := blk_below hM hb
  clear hb H2
  go_wp2_with fail
  refine (H3.out _ (hG.below HB)).mono ?_
  rintro e w3 ⟨rfl, hb⟩
  replace HB := HB.trans (hb.mono HB.size)
  replace hM := blk_below hM hb
  clear hb H3
  go_wp2_with fail
  refine (H4.out _).mono ?_
  rintro e w4 ⟨rfl, hb⟩
  replace HB := HB.trans (hb.mono HB.size)
  replace hM := blk_below hM hb
  clear hb H4
  have q0 := blk_cell hM 0
  have q1 := blk_cell hM 1
  have f0 := blk_frozen hM 0
  have f1 := blk_frozen hM 1
  simp at q0 q1
  go_wp2_with fail
  have p1 := blk_put (blk_put hM 0 (.int .u8 (0 : Nat)) rfl) 1 (.int .u8 (0 : Nat)) rfl
  have g0 := blk_cell p1 0
  have g1 := blk_cell p1 1
  simp at g0 g1
  exact bodyPost_ret (v := .tuple #[.agg #[.int .u8 (0 : Nat), .int .u8 (0 : Nat)], .int .i64 5]) (by simp [results, Tryz.results17, go_sem, g0, g1]) rfl ⟨rfl, (HB.setCell (p := ⟨w.heap.size, 0, none⟩) (Nat.le_refl _) _).setCell (p := ⟨w.heap.size, 1, none⟩) (Nat.le_refl _) _⟩

set_option maxHeartbeats 4000000 in
set_option maxRecDepth 100000 in
theorem parse_range1 (w : World) (hG : GlobN w) (l l1 l2 : List UInt8) (hl : l.length ≤ 1000) (b : Bool) (hcut : Lib.cut l [47] = (l1, l2, b)) (hl1 : l1.length ≤ 1000) (hl2 : l2.length ≤ 1000) (n1 n2 : Nat) (h1 : numOf l1 = some n1) (h2 : numOf l2 = some n2) (hn : 255 < n1) (hi : Lib.idxOfS nmB ⟨l1.toArray⟩ ≤ 0) :
    Calls Tryz.prog 17 #[.string ⟨l.toArray⟩] w (ParsePost w (0 : Nat) (0 : Nat) 24) := by
  have H1 := Aside0.mk (fun w hG => Cut_as w hG l hl)
  rw [hcut] at H1
  dsimp only at H1
  have H2 := Aside0.mk (fun w => number_calls w l1 hl1)
  have H3 := Aside0.mk (fun w hG => Index_as w hG l1)
  have H4 := Aside0.mk (fun w => number_calls w l2 hl2)
  rw [h1] at H2
  simp only [Option.getD_some, Option.isSome_some] at H2
  clear h1
  rw [h2] at H4
  simp only [Option.getD_some, Option.isSome_some] at H4
  clear h2
  clear hcut
  generalize Lib.idxOfS nmB ⟨l1.toArray⟩ = ix at *
  have hi1 : ¬ 0 < ix := by omega
  clear hi
  have hgn1 : 255 < (n1 : Int) := by omega

  have HB := below_alloc (Below.refl w.heap.size w) (.cells #[.int .u8 0, .int .u8 0] 41)
  have hM := blk_new w (.cells #[.int .u8 0, .int .u8 0] 41)
  go_enter Tryz.func17, Tryz.ntmps17
  go_wp2_with fail
  refine (H1.out _ (hG.below HB)).mono ?_
  rintro e w1 ⟨rfl, hb⟩
  replace HB := HB.trans (hb.mono HB.size)
  replace hM := blk_below hM hb
  clear hb H1
  go_wp2_with fail
  refine (H2.out _).mono ?_
  rintro e w2 ⟨rfl, hb⟩
  replace HB := HB.trans (hb.mono HB.size)
  replace hM := blk_below hM hb
  clear hb H2
  go_wp2_with fail
  refine (H3.out _ (hG.below HB)).mono ?_
  rintro e w3 ⟨rfl, hb⟩
  replace HB := HB.trans (hb.mono HB.size)
  replace hM := blk_below hM hb
  clear hb H3
  go_wp2_with fail
  refine (H4.out _).mono ?_
  rintro e w4 ⟨rfl, hb⟩
  replace HB := HB.trans (hb.mono HB.size)
  replace hM := blk_below hM hb
  clear hb H4
  have q0 := blk_cell hM 0
  have q1 := blk_cell hM 1
  have f0 := blk_frozen hM 0
  have f1 := blk_frozen hM 1
  simp at q0 q1
  go_wp2_with fail
  have p1 := blk_put (blk_put hM 0 (.int .u8 (0 : Nat)) rfl) 1 (.int .u8 (0 : Nat)) rfl
  have g0 := blk_cell p1 0
  have g1 := blk_cell p1 1
  simp at g0 g1
  exact bodyPost_ret (v := .tuple #[.agg #[.int .u8 (0 : Nat), .int .u8 (0 : Nat)], .int .i64 24]) (by simp [results, Tryz.results17, go_sem, g0, g1]) rfl ⟨rfl, (HB.setCell (p := ⟨w.heap.size, 0, none⟩) (Nat.le_refl _) _).setCell (p := ⟨w.heap.size, 1, none⟩) (Nat.le_refl _) _⟩

set_option maxHeartbeats 4000000 in
set_option maxRecDepth 100000 in
theorem parse_range2 (w : World) (hG : GlobN w) (l l1 l2 : List UInt8) (hl : l.length ≤ 1000) (b : Bool) (hcut : Lib.cut l [47] = (l1, l2, b)) (hl1 : l1.length ≤ 1000) (hl2 : l2.length ≤ 1000) (n1 n2 : Nat) (h1 : numOf l1 = some n1) (h2 : numOf l2 = some n2) (hn : n1 ≤ 255) (hm : 255 < n2) (hi : Lib.idxOfS nmB ⟨l1.toArray⟩ ≤ 0) :
    Calls Tryz.prog 17 #[.string ⟨l.toArray⟩] w (ParsePost w (0 : Nat) (0 : Nat) 24) := by
  have H1 := Aside0.mk (fun w hG => Cut_as w hG l hl)
  rw [hcut] at H1
  dsimp only at H1
  have H2 := Aside0.mk (fun w => number_calls w l1 hl1)
  have H3 := Aside0.mk (fun w hG => Index_as w hG l1)
  have H4 := Aside0.mk (fun w => number_calls w l2 hl2)
  rw [h1] at H2
  simp only [Option.getD_some, Option.isSome_some] at H2
  clear h1
  rw [h2] at H4
  simp only [Option.getD_some, Option.isSome_some] at H4
  clear h2
  clear hcut
  generalize Lib.idxOfS nmB ⟨l1.toArray⟩ = ix at *
  have hi1 : ¬ 0 < ix := by omega
  clear hi
  have hgn1 : ¬ 255 < (n1 : Int) := by omega
  have hgn2 : 255 < (n2 : Int) := by omega

  have HB := below_alloc (Below.refl w.heap.size w) (.cells #[.int .u8 0, .int .u8 0] 41)
  have hM := blk_new w (.cells #[.int .u8 0, .int .u8 0] 41)
  go_enter Tryz.func17, Tryz.ntmps17
  go_wp2_with fail
  refine (H1.out _ (hG.below HB)).mono ?_
  rintro e w1 ⟨rfl, hb⟩
  replace HB := HB.trans (hb.mono HB.size)
  replace hM := blk_below hM hb
  clear hb H1
  go_wp2_with fail
  refine (H2.out _).mono ?_
  rintro e w2 ⟨rfl, hb⟩
  replace HB := HB.trans (hb.mono HB.size)
  replace hM := blk_below hM hb
  clear hb H2
  go_wp2_with fail
  refine (H3.out _ (hG.below HB)).mono ?_
  rintro e w3 ⟨rfl, hb⟩
  replace HB := HB.trans (hb.mono HB.size)
  replace hM := blk_below hM hb
  clear hb H3
  go_wp2_with fail
  refine (H4.out _).mono ?_
  rintro e w4 ⟨rfl, hb⟩
  replace HB := HB.trans (hb.mono HB.size)
  replace hM := blk_below hM hb
  clear hb H4
  have q0 := blk_cell hM 0
  have q1 := blk_cell hM 1
  have f0 := blk_frozen hM 0
  have f1 := blk_frozen hM 1
  simp at q0 q1
  go_wp2_with fail
  have p1 := blk_put (blk_put hM 0 (.int .u8 (0 : Nat)) rfl) 1 (.int .u8 (0 : Nat)) rfl
  have g0 := blk_cell p1 0
  have g1 := blk_cell p1 1
  simp at g0 g1
  exact bodyPost_ret (v := .tuple #[.agg #[.int .u8 (0 : Nat), .int .u8 (0 : Nat)], .int .i64 24]) (by simp [results, Tryz.results17, go_sem, g0, g1]) rfl ⟨rfl, (HB.setCell (p := ⟨w.heap.size, 0, none⟩) (Nat.le_refl _) _).setCell (p := ⟨w.heap.size, 1, none⟩) (Nat.le_refl _) _⟩

set_option maxHeartbeats 4000000 in
set_option maxRecDepth 100000 in
theorem parse_range3 (w : World) (hG : GlobN w) (l l1 l2 : List UInt8) (hl : l.length ≤ 1000) (b : Bool) (hcut : Lib.cut l [47] = (l1, l2, b)) (hl1 : l1.length ≤ 1000) (hl2 : l2.length ≤ 1000) (n2 : Nat) (h2 : numOf l2 = some n2) (hm : 255 < n2) (k : Nat) (k1 : 1 ≤ k) (k2 : k ≤ 6) (hi : Lib.idxOfS nmB ⟨l1.toArray⟩ = (k : Int)) :
    Calls Tryz.prog 17 #[.string ⟨l.toArray⟩] w (ParsePost w (0 : Nat) (0 : Nat) 24) := by
  have H1 := Aside0.mk (fun w hG => Cut_as w hG l hl)
  rw [hcut] at H1
  dsimp only at H1
  have H2 := Aside0.mk (fun w => number_calls w l1 hl1)
  have H3 := Aside0.mk (fun w hG => Index_as w hG l1)
  have H4 := Aside0.mk (fun w => number_calls w l2 hl2)
  rw [h2] at H4
  simp only [Option.getD_some, Option.isSome_some] at H4
  clear h2
  generalize (numOf l1).getD 0 = m1 at *
  generalize (numOf l1).isSome = m2 at *
  clear hcut
  generalize Lib.idxOfS nmB ⟨l1.toArray⟩ = ix at *
  subst hi
  have hi1 : 0 < (k : Int) := by omega
  have hgk : ¬ 255 < (k : Int) := by omega
  have hgn2 : 255 < (n2 : Int) := by omega

  have HB := below_alloc (Below.refl w.heap.size w) (.cells #[.int .u8 0, .int .u8 0] 41)
  have hM := blk_new w (.cells #[.int .u8 0, .int .u8 0] 41)
  go_enter Tryz.func17, Tryz.ntmps17
  go_wp2_with fail
  refine (H1.out _ (hG.below HB)).mono ?_
  rintro e w1 ⟨rfl, hb⟩
  replace HB := HB.trans (hb.mono HB.size)
  replace hM := blk_below hM hb
  clear hb H1
  go_wp2_with fail
  refine (H2.out _).mono ?_
  rintro e w2 ⟨rfl, hb⟩
  replace HB := HB.trans (hb.mono HB.size)
  replace hM := blk_below hM hb
  clear hb H2
  go_wp2_with fail
  refine (H3.out _ (hG.below HB)).mono ?_
  rintro e w3 ⟨rfl, hb⟩
  replace HB := HB.trans (hb.mono HB.size)
  replace hM := blk_below hM hb
  clear hb H3
  go_wp2_with fail
  refine (H4.out _).mono ?_
  rintro e w4 ⟨rfl, hb⟩
  replace HB := HB.trans (hb.mono HB.size)
  replace hM := blk_below hM hb
  clear hb H4
  have q0 := blk_cell hM 0
  have q1 := blk_cell hM 1
  have f0 := blk_frozen hM 0
  have f1 := blk_frozen hM 1
  simp at q0 q1
  go_wp2_with fail
  have p1 := blk_put (blk_put hM 0 (.int .u8 (0 : Nat)) rfl) 1 (.int .u8 (0 : Nat)) rfl
  have g0 := blk_cell p1 0
  have g1 := blk_cell p1 1
  simp at g0 g1
  exact bodyPost_ret (v := .tuple #[.agg #[.int .u8 (0 : Nat), .int .u8 (0 : Nat)], .int .i64 24]) (by simp [results, Tryz.results17, go_sem, g0, g1]) rfl ⟨rfl, (HB.setCell (p := ⟨w.heap.size, 0, none⟩) (Nat.le_refl _) _).setCell (p := ⟨w.heap.size, 1, none⟩) (Nat.le_refl _) _⟩

set_option maxHeartbeats 4000000 in
set_option maxRecDepth 100000 in
theorem parse_ok1 (w : World) (hG : GlobN w) (l l1 l2 : List UInt8) (hl : l.length ≤ 1000) (b : Bool) (hcut : Lib.cut l [47] = (l1, l2, b)) (hl1 : l1.length ≤ 1000) (hl2 : l2.length ≤ 1000) (n1 n2 : Nat) (h1 : numOf l1 = some n1) (h2 : numOf l2 = some n2) (hn : n1 ≤ 255) (hm : n2 ≤ 255) (hi : Lib.idxOfS nmB ⟨l1.toArray⟩ ≤ 0) :
    Calls Tryz.prog 17 #[.string ⟨l.toArray⟩] w (ParsePost w n1 n2 0) := by
  have H1 := Aside0.mk (fun w hG => Cut_as w hG l hl)
  rw [hcut] at H1
  dsimp only at H1
  have H2 := Aside0.mk (fun w => number_calls w l1 hl1)
  have H3 := Aside0.mk (fun w hG => Index_as w hG l1)
  have H4 := Aside0.mk (fun w => number_calls w l2 hl2)
  rw [h1] at H2
  simp only [Option.getD_some, Option.isSome_some] at H2
  clear h1
  rw [h2] at H4
  simp only [Option.getD_some, Option.isSome_some] at H4
  clear h2
  clear hcut
  generalize Lib.idxOfS nmB ⟨l1.toArray⟩ = ix at *
  have hi1 : ¬ 0 < ix := by omega
  clear hi
  have hgn1 : ¬ 255 < (n1 : Int) := by omega
  have hgn2 : ¬ 255 < (n2 : Int) := by omega
  have hwn1 : IntKind.u8.wrap (n1 : Int) = n1 := IntWalk.u8_in _ (by omega)
  have hwn2 : IntKind.u8.wrap (n2 : Int) = n2 := IntWalk.u8_in _ (by omega)

  have HB := below_alloc (Below.refl w.heap.size w) (.cells #[.int .u8 0, .int .u8 0] 41)
  have hM := blk_new w (.cells #[.int .u8 0, .int .u8 0] 41)
  go_enter Tryz.func17, Tryz.ntmps17
  go_wp2_with fail
  refine (H1.out _ (hG.below HB)).mono ?_
  rintro e w1 ⟨rfl, hb⟩
  replace HB := HB.trans (hb.mono HB.size)
  replace hM := blk_below hM hb
  clear hb H1
  go_wp2_with fail
  refine (H2.out _).mono ?_
  rintro e w2 ⟨rfl, hb⟩
  replace HB := HB.trans (hb.mono HB.size)
  replace hM := blk_below hM hb
  clear hb H2
  go_wp2_with fail
  refine (H3.out _ (hG.below HB)).mono ?_
  rintro e w3 ⟨rfl, hb⟩
  replace HB := HB.trans (hb.mono HB.size)
  replace hM := blk_below hM hb
  clear hb H3
  go_wp2_with fail
  refine (H4.out _).mono ?_
  rintro e w4 ⟨rfl, hb⟩
  replace HB := HB.trans (hb.mono HB.size)
  replace hM := blk_below hM hb
  clear hb H4
  have q0 := blk_cell hM 0
  have q1 := blk_cell hM 1
  have f0 := blk_frozen hM 0
  have f1 := blk_frozen hM 1
  simp at q0 q1
  go_wp2_with fail
  have p1 := blk_put (blk_put hM 0 (.int .u8 n1) rfl) 1 (.int .u8 n2) rfl
  have g0 := blk_cell p1 0
  have g1 := blk_cell p1 1
  simp at g0 g1
  exact bodyPost_ret (v := .tuple #[.agg #[.int .u8 n1, .int .u8 n2], .int .i64 0]) (by simp [results, Tryz.results17, go_sem, g0, g1]) rfl ⟨rfl, (HB.setCell (p := ⟨w.heap.size, 0, none⟩) (Nat.le_refl _) _).setCell (p := ⟨w.heap.size, 1, none⟩) (Nat.le_refl _) _⟩

set_option maxHeartbeats 4000000 in
set_option maxRecDepth 100000 in
theorem parse_ok2 (w : World) (hG : GlobN w) (l l1 l2 : List UInt8) (hl : l.length ≤ 1000) (b : Bool) (hcut : Lib.cut l [47] = (l1, l2, b)) (hl1 : l1.length ≤ 1000) (hl2 : l2.length ≤ 1000) (n2 : Nat) (h2 : numOf l2 = some n2) (hm : n2 ≤ 255) (k : Nat) (k1 : 1 ≤ k) (k2 : k ≤ 6) (hi : Lib.idxOfS nmB ⟨l1.toArray⟩ = (k : Int)) :
    Calls Tryz.prog 17 #[.string ⟨l.toArray⟩] w (ParsePost w k n2 0) := by
  have H1 := Aside0.mk (fun w hG => Cut_as w hG l hl)
  rw [hcut] at H1
  dsimp only at H1
  have H2 := Aside0.mk (fun w => number_calls w l1 hl1)
  have H3 := Aside0.mk (fun w hG => Index_as w hG l1)
  have H4 := Aside0.mk (fun w => number_calls w l2 hl2)
  rw [h2] at H4
  simp only [Option.getD_some, Option.isSome_some] at H4
  clear h2
  generalize (numOf l1).getD 0 = m1 at *
  generalize (numOf l1).isSome = m2 at *
  clear hcut
  generalize Lib.idxOfS nmB ⟨l1.toArray⟩ = ix at *
  subst hi
  have hi1 : 0 < (k : Int) := by omega
  have hgk : ¬ 255 < (k : Int) := by omega
  have hgn2 : ¬ 255 < (n2 : Int) := by omega
  have hwk : IntKind.u8.wrap (k : Int) = k := IntWalk.u8_in _ (by omega)
  have hwn2 : IntKind.u8.wrap (n2 : Int) = n2 := IntWalk.u8_in _ (by omega)

  have HB := below_alloc (Below.refl w.heap.size w) (.cells #[.int .u8 0, .int .u8 0] 41)
  have hM := blk_new w (.cells #[.int .u8 0, .int .u8 0] 41)
  go_enter Tryz.func17, Tryz.ntmps17
  go_wp2_with fail
  refine (H1.out _ (hG.below HB)).mono ?_
  rintro e w1 ⟨rfl, hb⟩
  replace HB := HB.trans (hb.mono HB.size)
  replace hM := blk_below hM hb
  clear hb H1
  go_wp2_with fail
  refine (H2.out _).mono ?_
  rintro e w2 ⟨rfl, hb⟩
  replace HB := HB.trans (hb.mono HB.size)
  replace hM := blk_below hM hb
  clear hb H2
  go_wp2_with fail
  refine (H3.out _ (hG.below HB)).mono ?_
  rintro e w3 ⟨rfl, hb⟩
  replace HB := HB.trans (hb.mono HB.size)
  replace hM := blk_below hM hb
  clear hb H3
  go_wp2_with fail
  refine (H4.out _).mono ?_
  rintro e w4 ⟨rfl, hb⟩
  replace HB := HB.trans (hb.mono HB.size)
  replace hM := blk_below hM hb
  clear hb H4
  have q0 := blk_cell hM 0
  have q1 := blk_cell hM 1
  have f0 := blk_frozen hM 0
  have f1 := blk_frozen hM 1
  simp at q0 q1
  go_wp2_with fail
  have p1 := blk_put (blk_put hM 0 (.int .u8 k) rfl) 1 (.int .u8 n2) rfl
  have g0 := blk_cell p1 0
  have g1 := blk_cell p1 1
  simp at g0 g1
  exact bodyPost_ret (v := .tuple #[.agg #[.int .u8 k, .int .u8 n2], .int .i64 0]) (by simp [results, Tryz.results17, go_sem, g0, g1]) rfl ⟨rfl, (HB.setCell (p := ⟨w.heap.size, 0, none⟩) (Nat.le_refl _) _).setCell (p := ⟨w.heap.size, 1, none⟩) (Nat.le_refl _) _⟩

theorem cut_len (l : List UInt8) : (Lib.cut l [47]).1.length ≤ l.length ∧ (Lib.cut l [47]).2.1.length ≤ l.length := by
  unfold Lib.cut
  split
  · exact ⟨by simp [List.length_take]; omega, by simp⟩
  · exact ⟨Nat.le_refl _, by simp⟩
/-- Parse. -/
theorem Parse_calls (w : World) (hG : GlobN w) (l : List UInt8) (hl : l.length ≤ 1000) (c d : Nat) (x : Int) (h : parseOf l = (c, d, x)) :
    Calls Tryz.prog 17 #[.string ⟨l.toArray⟩] w (ParsePost w c d x) := by
  obtain ⟨l1, l2, b, hcut⟩ : ∃ l1 l2 b, Lib.cut l [47] = (l1, l2, b) := ⟨_, _, _, rfl⟩
  have hlen := cut_len l
  unfold parseOf codeOf at h
  rw [hcut] at h hlen
  dsimp only at h hlen
  have e1 : l1.length ≤ 1000 := by omega
  have e2 : l2.length ≤ 1000 := by omega
  rcases parse_idx l1 with ⟨k, hk, k1, k2, hi⟩ | ⟨hk, hi⟩
  · rw [hk] at h
    dsimp only at h
    cases h2 : numOf l2 with
    | none =>
      rw [h2] at h
      injection h with a1 h
      injection h with a2 a3
      subst a1 a2 a3
      exact parse_form3 w hG l l1 l2 hl b hcut e1 e2 h2 k k1 k2 hi
    | some n2 =>
      rw [h2] at h
      dsimp only at h
      by_cases hm : 255 < n2
      · rw [if_pos (.inr hm)] at h
        injection h with a1 h
        injection h with a2 a3
        subst a1 a2 a3
        exact parse_range3 w hG l l1 l2 hl b hcut e1 e2 n2 h2 hm k k1 k2 hi
      · rw [if_neg (by omega)] at h
        injection h with a1 h
        injection h with a2 a3
        subst a1 a2 a3
        exact parse_ok2 w hG l l1 l2 hl b hcut e1 e2 n2 h2 (by omega) k k1 k2 hi
  · rw [hk] at h
    dsimp only at h
    cases h1 : numOf l1 with
    | none =>
      rw [h1] at h
      injection h with a1 h
      injection h with a2 a3
      subst a1 a2 a3
      exact parse_form1 w hG l l1 l2 hl b hcut e1 e2 h1 hi
    | some n1 =>
      rw [h1] at h
      cases h2 : numOf l2 with
      | none =>
        rw [h2] at h
        injection h with a1 h
        injection h with a2 a3
        subst a1 a2 a3
        exact parse_form2 w hG l l1 l2 hl b hcut e1 e2 n1 h1 h2 hi
      | some n2 =>
        rw [h2] at h
        dsimp only at h
        by_cases hn : 255 < n1
        · rw [if_pos (.inl hn)] at h
          injection h with a1 h
          injection h with a2 a3
          subst a1 a2 a3
          exact parse_range1 w hG l l1 l2 hl b hcut e1 e2 n1 n2 h1 h2 hn hi
        · by_cases hm : 255 < n2
          · rw [if_pos (.inr hm)] at h
            injection h with a1 h
            injection h with a2 a3
            subst a1 a2 a3
            exact parse_range2 w hG l l1 l2 hl b hcut e1 e2 n1 n2 h1 h2 (by omega) hm hi
          · rw [if_neg (by omega)] at h
            injection h with a1 h
            injection h with a2 a3
            subst a1 a2 a3
            exact parse_ok1 w hG l l1 l2 hl b hcut e1 e2 n1 n2 h1 h2 (by omega) (by omega) hi
end Go.Proofs.YtbphidmnkbfchaaGreatDoor
