/-
  The walks of a reader's methods, third part: numbers.
-/
import Derived.Test.YthafedmlbialiaaDoorR1
namespace Go.Proofs.YthafedmlbialiaaDoor
open Go.RowKit Go.Proofs.YthafedmlbialiaaDoorW.PrintWords Go.Proofs.YthafedmlbialiaaDoorW.PrintLast Go.Proofs.YthafedmlbialiaaDoorW.PrintMore

theorem taken_byte (r : Rdr) (n : Int) (h : r.Ok) : ∀ x, x ∈ r.taken n → 0 ≤ x ∧ x < 256 := by
  intro x hx
  unfold Rdr.taken at hx
  split at hx
  · exact h.byte x (List.mem_of_mem_take (List.mem_of_mem_drop hx))
  · cases hx

theorem wrap_u16 (n : Int) : IntKind.u16.wrap n = n % 65536 := by simp [IntKind.wrap, IntKind.bits, IntKind.signed]
theorem or8 (a c : Int) (_ : 0 ≤ a) (h0 : 0 ≤ c) (h1 : c < 256) : bits .or .u8 (a * 128 % 256 * 2 % 256) c = a * 256 % 256 + c := by
  have h : a * 128 % 256 * 2 % 256 = 0 := by omega
  have h2 : a * 256 % 256 = 0 := by omega
  rw [h, h2]
  exact bits_join .u8 8 (by decide) wraps_u8 8 0 c (by omega) (by omega) (by omega) h0 h1 h1
theorem or16 (a c : Int) (_ : 0 ≤ a) (h0 : 0 ≤ c) (h1 : c < 256) : bits .or .u16 (IntKind.u16.wrap (IntKind.u16.wrap (a * 128) * 2)) (IntKind.u16.wrap c) = a * 256 % 65536 + c := by
  have h : IntKind.u16.wrap (IntKind.u16.wrap (a * 128) * 2) = a * 256 % 65536 := by rw [wrap_u16, wrap_u16]; omega
  have h2 : IntKind.u16.wrap c = c := by rw [wrap_u16]; omega
  rw [h, h2]
  exact bits_join .u16 16 (by decide) (fun n h0 h1 => by rw [wrap_u16]; omega) 8 (a * 256 % 65536) c (by omega) (by omega) (by omega) h0 h1 (by omega)
theorem or32 (a c : Int) (_ : 0 ≤ a) (h0 : 0 ≤ c) (h1 : c < 256) : bits .or .u32 (a * 128 % 4294967296 * 2 % 4294967296) (c % 4294967296) = a * 256 % 4294967296 + c := by
  have h : a * 128 % 4294967296 * 2 % 4294967296 = a * 256 % 4294967296 := by omega
  have h2 : c % 4294967296 = c := by omega
  rw [h, h2]
  exact bits_join .u32 32 (by decide) (fun n h0 h1 => by rw [IntKind.wrap_u32]; omega) 8 (a * 256 % 4294967296) c (by omega) (by omega) (by omega) h0 h1 (by omega)

/-- The number of bytes, the highest first, as u8 holds it. -/
def acc8 (l : List Int) : Int := l.foldl (fun n c => n * 256 % 256 + c) 0
theorem acc8_snoc (l : List Int) (c : Int) : acc8 (l ++ [c]) = acc8 l * 256 % 256 + c := by simp [acc8]
theorem acc8_bd0 (l : List Int) : ∀ a : Int, 0 ≤ a → a < 256 → (∀ x, x ∈ l → 0 ≤ x ∧ x < 256) → 0 ≤ l.foldl (fun n c => n * 256 % 256 + c) a ∧ l.foldl (fun n c => n * 256 % 256 + c) a < 256 := by
  induction l with
  | nil => intro a h0 h1 _; exact ⟨h0, h1⟩
  | cons c l ih =>
    intro a h0 h1 h
    have hc := h c (by simp)
    show 0 ≤ l.foldl _ (a * 256 % 256 + c) ∧ l.foldl _ (a * 256 % 256 + c) < 256
    exact ih (a * 256 % 256 + c) (by omega) (by omega) (fun x hx => h x (by simp [hx]))
theorem acc8_bd (l : List Int) (h : ∀ x, x ∈ l → 0 ≤ x ∧ x < 256) : 0 ≤ acc8 l ∧ acc8 l < 256 := acc8_bd0 l 0 (by omega) (by omega) h

set_option maxHeartbeats 800000 in
set_option maxRecDepth 100000 in
theorem number8_calls (w : World) (B g : Nat) (r : Rdr) (n : Int) (h : IsR w B g r) :
    Calls Tryd.prog 88 #[.pointer (some ⟨g, 0, none⟩), .int .i64 n] w fun e w' => e = .returned (.int .u8 (acc8 (r.taken n))) ∧ IsR w' B g (r.took n) ∧ KT B [121] w w' := by
  have hby := taken_byte r n h.ok
  have ht := Take_calls w B g r n h
  obtain ⟨ys, hys⟩ : ∃ ys, r.taken n = ys := ⟨_, rfl⟩
  rw [hys] at hby ht ⊢
  have HB := Aside0.mk hby
  clear hys hby
  go_enter Tryd.func88, Tryd.ntmps88
  go_wp2_with fail
  refine ht.mono ?_
  rintro e w1 ⟨v, rfl, hv, h1, k1⟩
  clear ht
  obtain ⟨A, c, rfl, hlc, hC⟩ := Kd.R_reads hv
  clear hv
  have hmax := Kd.C_max hC
  go_wp2_with fail
  go_loop [5, 7, 12] (fun a b i => ∃ k : Nat, k ≤ ys.length ∧ i = .int .i64 k ∧ a = .int .u8 (acc8 (ys.take k))) (fun _ _ i => ys.length - (intOf i).toNat)
  case atStart => exact ⟨0, Nat.zero_le _, rfl, rfl⟩
  case round =>
    obtain ⟨k, hk, rfl, rfl⟩ := hrel
    by_cases hlt : k < ys.length
    · obtain ⟨ad, rfl, hcell⟩ := Kd.at_int hC (k : Int) (by omega) (by omega)
      rw [Int.toNat_natCast] at hcell
      go_wp2
      have hx : rd ys (k : Int) = ys[k] := by rw [rd, Int.toNat_natCast, List.getD_eq_getElem?_getD, List.getElem?_eq_getElem hlt]; rfl
      have hr := HB.out _ (List.getElem_mem hlt)
      have ha := acc8_bd (ys.take k) (fun x hx => HB.out x (List.mem_of_mem_take hx))
      have hs : acc8 (ys.take (k + 1)) = acc8 (ys.take k) * 256 % 256 + ys[k] := by
        rw [List.take_succ_eq_append_getElem hlt, acc8_snoc]
      go_round
      case rel => exact ⟨k + 1, by omega, by go_num, by rw [hs, hx]; exact congrArg (Value.int IntKind.u8) (or8 _ _ ha.1 hr.1 hr.2)⟩
      case measure => simp [intOf]; omega
    · have hke : k = ys.length := by omega
      subst hke
      rw [List.take_length]
      go_wp2
      go_ret
      exact ⟨rfl, h1, k1⟩

/-- The number of bytes, the highest first, as u16 holds it. -/
def acc16 (l : List Int) : Int := l.foldl (fun n c => n * 256 % 65536 + c) 0
theorem acc16_snoc (l : List Int) (c : Int) : acc16 (l ++ [c]) = acc16 l * 256 % 65536 + c := by simp [acc16]
theorem acc16_bd0 (l : List Int) : ∀ a : Int, 0 ≤ a → a < 65536 → (∀ x, x ∈ l → 0 ≤ x ∧ x < 256) → 0 ≤ l.foldl (fun n c => n * 256 % 65536 + c) a ∧ l.foldl (fun n c => n * 256 % 65536 + c) a < 65536 := by
  induction l with
  | nil => intro a h0 h1 _; exact ⟨h0, h1⟩
  | cons c l ih =>
    intro a h0 h1 h
    have hc := h c (by simp)
    show 0 ≤ l.foldl _ (a * 256 % 65536 + c) ∧ l.foldl _ (a * 256 % 65536 + c) < 65536
    exact ih (a * 256 % 65536 + c) (by omega) (by omega) (fun x hx => h x (by simp [hx]))
theorem acc16_bd (l : List Int) (h : ∀ x, x ∈ l → 0 ≤ x ∧ x < 256) : 0 ≤ acc16 l ∧ acc16 l < 65536 := acc16_bd0 l 0 (by omega) (by omega) h

set_option maxHeartbeats 800000 in
set_option maxRecDepth 100000 in
theorem number16_calls (w : World) (B g : Nat) (r : Rdr) (n : Int) (h : IsR w B g r) :
    Calls Tryd.prog 92 #[.pointer (some ⟨g, 0, none⟩), .int .i64 n] w fun e w' => e = .returned (.int .u16 (acc16 (r.taken n))) ∧ IsR w' B g (r.took n) ∧ KT B [121] w w' := by
  have hby := taken_byte r n h.ok
  have ht := Take_calls w B g r n h
  obtain ⟨ys, hys⟩ : ∃ ys, r.taken n = ys := ⟨_, rfl⟩
  rw [hys] at hby ht ⊢
  have HB := Aside0.mk hby
  clear hys hby
  go_enter Tryd.func92, Tryd.ntmps92
  go_wp2_with fail
  refine ht.mono ?_
  rintro e w1 ⟨v, rfl, hv, h1, k1⟩
  clear ht
  obtain ⟨A, c, rfl, hlc, hC⟩ := Kd.R_reads hv
  clear hv
  have hmax := Kd.C_max hC
  go_wp2_with fail
  go_loop [5, 7, 12] (fun a b i => ∃ k : Nat, k ≤ ys.length ∧ i = .int .i64 k ∧ a = .int .u16 (acc16 (ys.take k))) (fun _ _ i => ys.length - (intOf i).toNat)
  case atStart => exact ⟨0, Nat.zero_le _, rfl, rfl⟩
  case round =>
    obtain ⟨k, hk, rfl, rfl⟩ := hrel
    by_cases hlt : k < ys.length
    · obtain ⟨ad, rfl, hcell⟩ := Kd.at_int hC (k : Int) (by omega) (by omega)
      rw [Int.toNat_natCast] at hcell
      go_wp2
      have hx : rd ys (k : Int) = ys[k] := by rw [rd, Int.toNat_natCast, List.getD_eq_getElem?_getD, List.getElem?_eq_getElem hlt]; rfl
      have hr := HB.out _ (List.getElem_mem hlt)
      have ha := acc16_bd (ys.take k) (fun x hx => HB.out x (List.mem_of_mem_take hx))
      have hs : acc16 (ys.take (k + 1)) = acc16 (ys.take k) * 256 % 65536 + ys[k] := by
        rw [List.take_succ_eq_append_getElem hlt, acc16_snoc]
      go_round
      case rel => exact ⟨k + 1, by omega, by go_num, by rw [hs, hx]; exact congrArg (Value.int IntKind.u16) (or16 _ _ ha.1 hr.1 hr.2)⟩
      case measure => simp [intOf]; omega
    · have hke : k = ys.length := by omega
      subst hke
      rw [List.take_length]
      go_wp2
      go_ret
      exact ⟨rfl, h1, k1⟩

/-- The number of bytes, the highest first, as u32 holds it. -/
def acc32 (l : List Int) : Int := l.foldl (fun n c => n * 256 % 4294967296 + c) 0
theorem acc32_snoc (l : List Int) (c : Int) : acc32 (l ++ [c]) = acc32 l * 256 % 4294967296 + c := by simp [acc32]
theorem acc32_bd0 (l : List Int) : ∀ a : Int, 0 ≤ a → a < 4294967296 → (∀ x, x ∈ l → 0 ≤ x ∧ x < 256) → 0 ≤ l.foldl (fun n c => n * 256 % 4294967296 + c) a ∧ l.foldl (fun n c => n * 256 % 4294967296 + c) a < 4294967296 := by
  induction l with
  | nil => intro a h0 h1 _; exact ⟨h0, h1⟩
  | cons c l ih =>
    intro a h0 h1 h
    have hc := h c (by simp)
    show 0 ≤ l.foldl _ (a * 256 % 4294967296 + c) ∧ l.foldl _ (a * 256 % 4294967296 + c) < 4294967296
    exact ih (a * 256 % 4294967296 + c) (by omega) (by omega) (fun x hx => h x (by simp [hx]))
theorem acc32_bd (l : List Int) (h : ∀ x, x ∈ l → 0 ≤ x ∧ x < 256) : 0 ≤ acc32 l ∧ acc32 l < 4294967296 := acc32_bd0 l 0 (by omega) (by omega) h

set_option maxHeartbeats 800000 in
set_option maxRecDepth 100000 in
theorem number32_calls (w : World) (B g : Nat) (r : Rdr) (n : Int) (h : IsR w B g r) :
    Calls Tryd.prog 93 #[.pointer (some ⟨g, 0, none⟩), .int .i64 n] w fun e w' => e = .returned (.int .u32 (acc32 (r.taken n))) ∧ IsR w' B g (r.took n) ∧ KT B [121] w w' := by
  have hby := taken_byte r n h.ok
  have ht := Take_calls w B g r n h
  obtain ⟨ys, hys⟩ : ∃ ys, r.taken n = ys := ⟨_, rfl⟩
  rw [hys] at hby ht ⊢
  have HB := Aside0.mk hby
  clear hys hby
  go_enter Tryd.func93, Tryd.ntmps93
  go_wp2_with fail
  refine ht.mono ?_
  rintro e w1 ⟨v, rfl, hv, h1, k1⟩
  clear ht
  obtain ⟨A, c, rfl, hlc, hC⟩ := Kd.R_reads hv
  clear hv
  have hmax := Kd.C_max hC
  go_wp2_with fail
  go_loop [5, 7, 12] (fun a b i => ∃ k : Nat, k ≤ ys.length ∧ i = .int .i64 k ∧ a = .int .u32 (acc32 (ys.take k))) (fun _ _ i => ys.length - (intOf i).toNat)
  case atStart => exact ⟨0, Nat.zero_le _, rfl, rfl⟩
  case round =>
    obtain ⟨k, hk, rfl, rfl⟩ := hrel
    by_cases hlt : k < ys.length
    · obtain ⟨ad, rfl, hcell⟩ := Kd.at_int hC (k : Int) (by omega) (by omega)
      rw [Int.toNat_natCast] at hcell
      go_wp2
      have hx : rd ys (k : Int) = ys[k] := by rw [rd, Int.toNat_natCast, List.getD_eq_getElem?_getD, List.getElem?_eq_getElem hlt]; rfl
      have hr := HB.out _ (List.getElem_mem hlt)
      have ha := acc32_bd (ys.take k) (fun x hx => HB.out x (List.mem_of_mem_take hx))
      have hs : acc32 (ys.take (k + 1)) = acc32 (ys.take k) * 256 % 4294967296 + ys[k] := by
        rw [List.take_succ_eq_append_getElem hlt, acc32_snoc]
      go_round
      case rel => exact ⟨k + 1, by omega, by go_num, by rw [hs, hx]; exact congrArg (Value.int IntKind.u32) (or32 _ _ ha.1 hr.1 hr.2)⟩
      case measure => simp [intOf]; omega
    · have hke : k = ys.length := by omega
      subst hke
      rw [List.take_length]
      go_wp2
      go_ret
      exact ⟨rfl, h1, k1⟩

set_option maxHeartbeats 400000 in
theorem RByte_calls (w : World) (B g : Nat) (r : Rdr) (h : IsR w B g r) :
    Calls Tryd.prog 58 #[.pointer (some ⟨g, 0, none⟩)] w fun e w' => e = .returned (.int .u8 (acc8 (r.taken 1))) ∧ IsR w' B g (r.took 1) ∧ KT B [121] w w' := by
  go_enter Tryd.func58, Tryd.ntmps58
  go_wp2_with fail
  refine (number8_calls w B g r 1 h).mono ?_
  rintro e w1 ⟨rfl, h1, k1⟩
  go_wp2
  go_ret
  exact ⟨rfl, h1, k1⟩

set_option maxHeartbeats 400000 in
theorem RTwo_calls (w : World) (B g : Nat) (r : Rdr) (h : IsR w B g r) :
    Calls Tryd.prog 64 #[.pointer (some ⟨g, 0, none⟩)] w fun e w' => e = .returned (.int .u16 (acc16 (r.taken 2))) ∧ IsR w' B g (r.took 2) ∧ KT B [121] w w' := by
  go_enter Tryd.func64, Tryd.ntmps64
  go_wp2_with fail
  refine (number16_calls w B g r 2 h).mono ?_
  rintro e w1 ⟨rfl, h1, k1⟩
  go_wp2
  go_ret
  exact ⟨rfl, h1, k1⟩

set_option maxHeartbeats 400000 in
theorem RFour_calls (w : World) (B g : Nat) (r : Rdr) (h : IsR w B g r) :
    Calls Tryd.prog 65 #[.pointer (some ⟨g, 0, none⟩)] w fun e w' => e = .returned (.int .u32 (acc32 (r.taken 4))) ∧ IsR w' B g (r.took 4) ∧ KT B [121] w w' := by
  go_enter Tryd.func65, Tryd.ntmps65
  go_wp2_with fail
  refine (number32_calls w B g r 4 h).mono ?_
  rintro e w1 ⟨rfl, h1, k1⟩
  go_wp2
  go_ret
  exact ⟨rfl, h1, k1⟩

set_option maxHeartbeats 400000 in
theorem Rest_calls (w : World) (B g : Nat) (r : Rdr) (h : IsR w B g r) :
    Calls Tryd.prog 67 #[.pointer (some ⟨g, 0, none⟩)] w fun e w' => ∃ v, e = .returned v ∧ (Kd.int .u8).R 5 w' B (fun _ => True) v (r.taken r.left) ∧ IsR w' B g (r.took r.left) ∧ KT B [121] w w' := by
  go_enter Tryd.func67, Tryd.ntmps67
  go_wp2_with fail
  refine (Left_calls w B g r h).mono ?_
  rintro e w1 ⟨rfl, hd⟩
  have h1 := h.drawn hd
  have k1 : KT B [121] w w1 := .drawn hd
  go_wp2_with fail
  refine (Take_calls w1 B g r r.left h1).mono ?_
  rintro e w2 ⟨v, rfl, hv, h2, k2⟩
  go_wp2
  go_ret
  exact ⟨v, rfl, hv, h2, k1.trans k2⟩
end Go.Proofs.YthafedmlbialiaaDoor
