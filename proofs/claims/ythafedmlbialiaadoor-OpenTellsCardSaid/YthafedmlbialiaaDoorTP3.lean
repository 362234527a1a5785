/-
  Plain: what is told of capabilities is the document's.
-/
import Derived.Test.YthafedmlbialiaaDoorTP0
import Derived.Test.YthafedmlbialiaaDoorTPAx6
import Derived.Test.YthafedmlbialiaaDoorTPAx7
import Derived.Test.YthafedmlbialiaaDoorTD5
namespace Go.Proofs.YthafedmlbialiaaDoor
open Go.RowKit Go.Proofs.YthafedmlbialiaaDoorW.PrintWords
set_option linter.unusedVariables false
set_option linter.unusedSimpArgs false

theorem rd99 (l : List PA.S61) (a : Nat) (h : a < l.length) : PA.rd_T99 (l.map cap99) (a : Int) = cap99 l[a] := by
  rw [PA.rd_T99, Int.toNat_natCast, List.getD_eq_getElem?_getD, List.getElem?_map, List.getElem?_eq_getElem h]
  rfl
theorem found_cons (p : PA.S61 → Bool) (x : PA.S61) (l : List PA.S61) : found p (x :: l) = if p x = true then (x, true) else found p l := by
  unfold found
  rw [List.find?_cons]
  cases p x <;> simp
theorem drop_at (l : List PA.S61) (a : Nat) (h : a < l.length) : l.drop a = l[a] :: l.drop (a + 1) := List.drop_eq_getElem_cons h

theorem ref_refreshes (l : List PA.S61) (hl : l.length < 4398046511104) : ∀ (n a : Nat), l.length - a ≤ n → a ≤ l.length → ∀ k, l.length - a < k →
    PA.consulateref05_Refreshes.l0 k (l.map cap99) a = some (capsRefreshes (l.drop a)) := by
  intro n
  induction n with
  | zero =>
    intro a hn ha k hk
    obtain rfl : a = l.length := by omega
    obtain ⟨k, rfl⟩ : ∃ m, k = m + 1 := ⟨k - 1, by omega⟩
    simp only [PA.consulateref05_Refreshes.l0]
    rw [if_neg (by rw [List.length_map]; omega), List.drop_length]
    rfl
  | succ n ih =>
    intro a hn ha k hk
    by_cases h : a = l.length
    · subst h
      obtain ⟨k, rfl⟩ : ∃ m, k = m + 1 := ⟨k - 1, by omega⟩
      simp only [PA.consulateref05_Refreshes.l0]
      rw [if_neg (by rw [List.length_map]; omega), List.drop_length]
      rfl
    · obtain ⟨k, rfl⟩ : ∃ m, k = m + 1 := ⟨k - 1, by omega⟩
      simp only [PA.consulateref05_Refreshes.l0]
      rw [if_pos (by rw [List.length_map]; omega), if_pos (by omega), rd99 l a (by omega), w64 (by omega) (by omega)]
      have hr := ih (a + 1) (by omega) (by omega) k (by omega)
      rw [drop_at l a (by omega)]
      generalize l[a]'(by omega) = x
      rw [show capsRefreshes (x :: l.drop (a + 1)) = if (x.f0 == 2 && isNone x.f1) = true then true else capsRefreshes (l.drop (a + 1)) by
        unfold capsRefreshes; rw [found_cons]; split <;> rfl]
      rw [show ((a : Int) + 1) = ((a + 1 : Nat) : Int) from rfl, hr]
      obtain ⟨x0, x1⟩ := x
      cases x1 with
      | nil => by_cases h1 : x0 = 2 <;> simp [h1, cap99, isNone]
      | cons y ys =>
        have h2 : ¬ ((ys.length : Int) + 1 = 0) := by omega
        by_cases h1 : x0 = 2 <;> simp [h1, cap99, isNone, h2]

theorem acc4 (a b c d : Int) (ha : 0 ≤ a ∧ a < 256) (hb : 0 ≤ b ∧ b < 256) (hc : 0 ≤ c ∧ c < 256) (hd : 0 ≤ d ∧ d < 256) : acc32 ((Rdr.new [a, b, c, d]).taken 4) = ((((((a % 4294967296) * 16777216) % 4294967296) + (((b % 4294967296) * 65536) % 4294967296)) % 4294967296 + (((c % 4294967296) * 256) % 4294967296)) % 4294967296 + (d % 4294967296)) % 4294967296 := by
  have h : (Rdr.new [a, b, c, d]).taken 4 = [a, b, c, d] := by
    rw [R1_new]
    exact ((R1_on [a, b, c, d] 0 (by simp)).taken (n := 4) (by omega) (by simp)).trans (by simp)
  rw [h]
  simp only [acc32, List.foldl_cons, List.foldl_nil]
  omega

theorem ref_number (l : List PA.S61) (hl : l.length < 4398046511104) (hwf : CapsWf l) : ∀ (n a : Nat), l.length - a ≤ n → a ≤ l.length → ∀ k, l.length - a < k →
    PA.consulateref05_Number.l0 k (l.map cap99) a = some (capsNumber (l.drop a)) := by
  intro n
  induction n with
  | zero =>
    intro a hn ha k hk
    obtain rfl : a = l.length := by omega
    obtain ⟨k, rfl⟩ : ∃ m, k = m + 1 := ⟨k - 1, by omega⟩
    simp only [PA.consulateref05_Number.l0]
    rw [if_neg (by rw [List.length_map]; omega), List.drop_length]
    rfl
  | succ n ih =>
    intro a hn ha k hk
    by_cases h : a = l.length
    · subst h
      obtain ⟨k, rfl⟩ : ∃ m, k = m + 1 := ⟨k - 1, by omega⟩
      simp only [PA.consulateref05_Number.l0]
      rw [if_neg (by rw [List.length_map]; omega), List.drop_length]
      rfl
    · obtain ⟨k, rfl⟩ : ∃ m, k = m + 1 := ⟨k - 1, by omega⟩
      simp only [PA.consulateref05_Number.l0]
      rw [if_pos (by rw [List.length_map]; omega), if_pos (by omega), rd99 l a (by omega), w64 (by omega) (by omega)]
      have hr := ih (a + 1) (by omega) (by omega) k (by omega)
      rw [drop_at l a (by omega)]
      have hx := (hwf _ (List.getElem_mem (show a < l.length by omega))).2
      generalize l[a]'(by omega) = x at hx
      rw [show capsNumber (x :: l.drop (a + 1)) = if (x.f0 == 65 && isFour x.f1) = true then (acc32 ((Rdr.new x.f1).taken 4), true) else capsNumber (l.drop (a + 1)) by
        unfold capsNumber
        rw [found_cons]
        cases (x.f0 == 65 && isFour x.f1) <;> rfl]
      rw [show ((a : Int) + 1) = ((a + 1 : Nat) : Int) from rfl, hr]
      obtain ⟨x0, x1⟩ := x
      by_cases h1 : x0 = 65
      · by_cases h2 : x1.length = 4
        · match x1, h2, hx with
          | [b0, b1, b2, b3], _, hx =>
            rw [acc4 b0 b1 b2 b3 (hx _ (by simp)) (hx _ (by simp)) (hx _ (by simp)) (hx _ (by simp))]
            simp [h1, cap99, isFour, rd]
        · have h3 : ¬ ((x1.length : Int) = 4) := by omega
          simp [h1, cap99, isFour, h3]
      · simp [h1, cap99]

theorem ref_ipv4 (l : List PA.S61) (hl : l.length < 4398046511104) : ∀ (n a : Nat), l.length - a ≤ n → a ≤ l.length → ∀ k, l.length - a < k → ∀ o : Bool,
    PA.consulateref05_IPv4.l0 k (l.map cap99) o a = some ((found (fun x => x.f0 == 1 && isUni x.f1) (l.drop a)).2 || !(o || (found (fun x => x.f0 == 1 && isAny x.f1) (l.drop a)).2)) := by
  intro n
  induction n with
  | zero =>
    intro a hn ha k hk o
    obtain rfl : a = l.length := by omega
    obtain ⟨k, rfl⟩ : ∃ m, k = m + 1 := ⟨k - 1, by omega⟩
    simp only [PA.consulateref05_IPv4.l0]
    rw [if_neg (by rw [List.length_map]; omega), List.drop_length]
    simp [found]
  | succ n ih =>
    intro a hn ha k hk o
    by_cases h : a = l.length
    · subst h
      obtain ⟨k, rfl⟩ : ∃ m, k = m + 1 := ⟨k - 1, by omega⟩
      simp only [PA.consulateref05_IPv4.l0]
      rw [if_neg (by rw [List.length_map]; omega), List.drop_length]
      simp [found]
    · obtain ⟨k, rfl⟩ : ∃ m, k = m + 1 := ⟨k - 1, by omega⟩
      simp only [PA.consulateref05_IPv4.l0]
      rw [if_pos (by rw [List.length_map]; omega), if_pos (by omega), rd99 l a (by omega), w64 (by omega) (by omega)]
      have hr := ih (a + 1) (by omega) (by omega) k (by omega)
      rw [drop_at l a (by omega)]
      generalize l[a]'(by omega) = x
      rw [show ((a : Int) + 1) = ((a + 1 : Nat) : Int) from rfl]
      rw [hr, hr, found_cons, found_cons]
      generalize (found (fun x => x.f0 == 1 && isUni x.f1) (l.drop (a + 1))) = U
      generalize (found (fun x => x.f0 == 1 && isAny x.f1) (l.drop (a + 1))) = V
      obtain ⟨x0, x1⟩ := x
      by_cases h1 : x0 = 1
      · by_cases h2 : x1.length = 4
        · match x1, h2 with
          | [b0, b1, b2, b3], _ =>
            by_cases g0 : b0 = 0 <;> by_cases g1 : b1 = 1 <;> by_cases g2 : b2 = 0 <;> by_cases g3 : b3 = 1 <;> simp [h1, cap99, isUni, isAny, rd, g0, g1, g2, g3]
        · have h3 : ¬ ((x1.length : Int) = 4) := by omega
          have h4 : isUni x1 = false := by
            unfold isUni
            rw [beq_eq_false_iff_ne]
            rintro rfl
            exact h2 rfl
          simp [h1, cap99, isAny, h3, h4]
      · simp [h1, cap99]

theorem ref_ours (n : Int) (h0 : 0 ≤ n) (h1 : n < 4294967296) : PA.consulateref05_Ours.f n = some ((ours n).map cap99) := by
  unfold PA.consulateref05_Ours.f ours
  rw [Int.tdiv_eq_ediv_of_nonneg h0, Int.tdiv_eq_ediv_of_nonneg h0, Int.tdiv_eq_ediv_of_nonneg h0, Int.tmod_eq_emod_of_nonneg h0]
  have e1 : n / 16777216 % 4294967296 = n / 16777216 := by omega
  have e2 : n / 65536 % 4294967296 = n / 65536 := by omega
  have e3 : n / 256 % 4294967296 = n / 256 := by omega
  have e4 : n % 256 % 256 = n % 256 := by omega
  simp only [e1, e2, e3, e4, List.map_cons, List.map_nil, cap99]

theorem ref_bytes1 (l : List PA.S61) (hl : l.length ≤ 1000000) (hfit : ∀ x, x ∈ l → tooLong x = false) : ∀ (n a : Nat), l.length - a ≤ n → a ≤ l.length → ∀ k, l.length - a < k → ∀ out one : List Int, out.length ≤ 257 * a → one.length ≤ 255 →
    PA.consulateref05_Bytes.l1 k (l.map cap99) out one a = some (if 255 < (packs out one (l.drop a)).length then ([], 3) else (packs out one (l.drop a), 0)) := by
  have hend : ∀ k, ∀ out one : List Int, out.length ≤ 257 * l.length → one.length ≤ 255 →
      PA.consulateref05_Bytes.l1 (k + 1) (l.map cap99) out one l.length = some (if 255 < (packs out one []).length then ([], 3) else (packs out one [], 0)) := by
    intro k out one h1 h2
    simp only [PA.consulateref05_Bytes.l1]
    rw [if_neg (by rw [List.length_map]; omega)]
    cases one with
    | nil =>
      rw [if_neg (by simp)]
      show _ = some (if 255 < out.length then ([], 3) else (out, 0))
      by_cases h : 255 < out.length
      · rw [if_pos (by omega), if_pos h]
      · rw [if_neg (by omega), if_neg h]
    | cons y ys =>
      have hm : ((y :: ys).length : Int) % 256 = (y :: ys).length := by omega
      rw [if_pos (by simp)]
      simp only [Option.bind_some, hm]
      rw [if_pos (by simp; omega), if_pos (by simp at h2 ⊢; omega)]
      have hp : packs out (y :: ys) [] = out ++ [2, ((y :: ys).length : Int)] ++ (y :: ys) := by simp [packs, shutP]
      rw [hp]
      generalize out ++ [2, ((y :: ys).length : Int)] ++ (y :: ys) = z
      by_cases h : 255 < z.length
      · rw [if_pos (by omega), if_pos h]
      · rw [if_neg (by omega), if_neg h]
  intro n
  induction n with
  | zero =>
    intro a hn ha k hk out one h1 h2
    obtain rfl : a = l.length := by omega
    obtain ⟨k, rfl⟩ : ∃ m, k = m + 1 := ⟨k - 1, by omega⟩
    rw [List.drop_length]
    exact hend k out one h1 h2
  | succ n ih =>
    intro a hn ha k hk out one h1 h2
    obtain ⟨k, rfl⟩ : ∃ m, k = m + 1 := ⟨k - 1, by omega⟩
    by_cases h : a = l.length
    · subst h
      rw [List.drop_length]
      exact hend k out one h1 h2
    · have hx := hfit _ (List.getElem_mem (show a < l.length by omega))
      rw [tooLong, decide_eq_false_iff_not] at hx
      simp only [PA.consulateref05_Bytes.l1]
      rw [if_pos (by rw [List.length_map]; omega), if_pos (by omega), rd99 l a (by omega)]
      have hr := ih (a + 1) (by omega) (by omega) k (by omega)
      rw [drop_at l a (by omega)]
      generalize l[a]'(by omega) = x at hx
      obtain ⟨x0, x1⟩ := x
      simp only [cap99]
      replace hx : ¬ 253 < (x1.length : Int) := hx
      have hx3 : x1.length ≤ 253 := by
        clear hr ih
        omega
      have w1 : wrap64 ((one.length : Int) + 2) = one.length + 2 := w64 (by omega) (by omega)
      have w2 : wrap64 ((one.length : Int) + 2 + x1.length) = one.length + 2 + x1.length := w64 (by omega) (by omega)
      have w3 : wrap64 ((a : Int) + 1) = a + 1 := w64 (by omega) (by omega)
      simp only [w1, w2, w3]
      clear w1 w2 w3
      have hm : (x1.length : Int) % 256 = x1.length := by omega
      have hm2 : (one.length : Int) % 256 = one.length := by omega
      simp only [Option.bind_some, hm, hm2]
      rw [show ((a : Int) + 1) = ((a + 1 : Nat) : Int) from rfl]
      by_cases hft : 255 < one.length + 2 + x1.length
      · have c1 : (one.length : Int) + 2 + x1.length > 255 := by omega
        have c2 : out.length + ([2, (one.length : Int)] : List Int).length < 140737488355328 := by simp only [List.length_append, List.length_cons, List.length_nil]; omega
        have c3 : (out ++ [2, (one.length : Int)]).length + one.length < 140737488355328 := by simp only [List.length_append, List.length_cons, List.length_nil]; omega
        have c4 : ([] : List Int).length + ([x0, (x1.length : Int)] : List Int).length < 140737488355328 := by simp only [List.length_append, List.length_cons, List.length_nil]; omega
        have c5 : ([] ++ [x0, (x1.length : Int)] : List Int).length + x1.length < 140737488355328 := by simp only [List.length_append, List.length_cons, List.length_nil]; omega
        rw [if_pos c1, if_pos c2, if_pos c3, if_pos c4, if_pos c5]
        rw [packs, if_pos hft]
        have e1 : out ++ [2, (one.length : Int)] ++ one = shutP out one := by simp [shutP]
        have e2 : [] ++ [x0, (x1.length : Int)] ++ x1 = capB ⟨x0, x1⟩ := by simp [capB]
        rw [e1, e2]
        exact hr _ _ (by rw [shutP_len]; omega) (by rw [capB_len]; show x1.length + 2 ≤ 255; omega)
      · have c1 : ¬ (one.length : Int) + 2 + x1.length > 255 := by omega
        have c2 : one.length + ([x0, (x1.length : Int)] : List Int).length < 140737488355328 := by simp only [List.length_append, List.length_cons, List.length_nil]; omega
        have c3 : (one ++ [x0, (x1.length : Int)]).length + x1.length < 140737488355328 := by simp only [List.length_append, List.length_cons, List.length_nil]; omega
        rw [if_neg c1, if_pos c2, if_pos c3]
        rw [packs_fit (show one.length + 2 + (⟨x0, x1⟩ : PA.S61).f1.length ≤ 255 by show one.length + 2 + x1.length ≤ 255; omega)]
        have e2 : one ++ [x0, (x1.length : Int)] ++ x1 = one ++ capB ⟨x0, x1⟩ := by simp [capB]
        rw [e2]
        exact hr _ _ (by omega) (by rw [List.length_append, capB_len]; show one.length + (x1.length + 2) ≤ 255; omega)

theorem ref_bytes0 (l : List PA.S61) (hl : l.length ≤ 1000000) : ∀ (n a : Nat), l.length - a ≤ n → a ≤ l.length → (∀ x, x ∈ l.take a → tooLong x = false) → ∀ k, l.length - a + l.length + 1 < k →
    PA.consulateref05_Bytes.l0 k (l.map cap99) a = some (capsBytes l) := by
  have hend : ∀ k, (∀ x, x ∈ l → tooLong x = false) → l.length < k → PA.consulateref05_Bytes.l0 (k + 1) (l.map cap99) l.length = some (capsBytes l) := by
    intro k hfit hk
    simp only [PA.consulateref05_Bytes.l0]
    rw [if_neg (by rw [List.length_map]; omega)]
    have h := ref_bytes1 l hl hfit l.length 0 (by omega) (by omega) k (by omega) [] [] (by simp) (by simp)
    rw [List.drop_zero] at h
    have ha : l.any tooLong = false := List.any_eq_false.2 (fun x hx => by rw [hfit x hx]; simp)
    unfold capsBytes
    rw [ha]
    exact h
  intro n
  induction n with
  | zero =>
    intro a hn ha hft k hk
    obtain rfl : a = l.length := by omega
    obtain ⟨k, rfl⟩ : ∃ m, k = m + 1 := ⟨k - 1, by omega⟩
    exact hend k (by rw [List.take_length] at hft; exact hft) (by omega)
  | succ n ih =>
    intro a hn ha hft k hk
    obtain ⟨k, rfl⟩ : ∃ m, k = m + 1 := ⟨k - 1, by omega⟩
    by_cases h : a = l.length
    · subst h
      exact hend k (by rw [List.take_length] at hft; exact hft) (by omega)
    · simp only [PA.consulateref05_Bytes.l0]
      rw [if_pos (by rw [List.length_map]; omega), if_pos (by omega), rd99 l a (by omega), w64 (by omega) (by omega)]
      by_cases hx : tooLong (l[a]'(by omega)) = true
      · have h1 := hx
        rw [tooLong, decide_eq_true_iff] at h1
        have h2 : l.any tooLong = true := List.any_eq_true.2 ⟨_, List.getElem_mem (by omega), hx⟩
        rw [if_pos (show ((cap99 (l[a]'(by omega))).f1.length : Int) > 253 from h1)]
        unfold capsBytes
        rw [if_pos h2]
      · have h1 := hx
        rw [tooLong, decide_eq_true_iff] at h1
        rw [if_neg (show ¬ ((cap99 (l[a]'(by omega))).f1.length : Int) > 253 from h1)]
        refine ih (a + 1) (by omega) (by omega) (fun x hx2 => ?_) k (by omega)
        rw [List.take_succ_eq_append_getElem (by omega), List.mem_append] at hx2
        rcases hx2 with hx2 | hx2
        · exact hft x hx2
        · rw [List.mem_singleton] at hx2
          subst hx2
          simpa using hx

theorem ref_bytes (l : List PA.S61) (hl : l.length ≤ 1000000) : PA.consulateref05_Bytes.f (2 * l.length + 2) (l.map cap99) = some (capsBytes l) :=
  ref_bytes0 l hl l.length 0 (by omega) (by omega) (by simp) _ (by omega)
end Go.Proofs.YthafedmlbialiaaDoor
