/-
  Plain: an OPEN there and back: what Put lays is got as it was; cut, or with a byte more, it is a fault; what is got is put no longer.
-/
import Derived.Test.YthafedmlbialiaaDoorBE9
import Derived.Test.YthafedmlbialiaaDoorBE8
import Derived.Test.YthafedmlbialiaaDoorBP4
namespace Go.Proofs.YthafedmlbialiaaDoor
open Go.RowKit Go.Proofs.YthafedmlbialiaaDoorW.PrintWords Go.Proofs.YthafedmlbialiaaDoorW.PrintLast Go.Proofs.YthafedmlbialiaaDoorW.PrintMore
set_option linter.unusedVariables false
set_option linter.unusedSimpArgs false

theorem put_shape (an hold id : Int) (bs : List Int) :
    [] ++ [(4 : Int)] ++ twos [an, hold] ++ fours [id] ++ [(bs.length : Int)] ++ bs = 4 :: an / 256 :: an % 256 :: hold / 256 :: hold % 256 :: id / 65536 / 256 :: id / 65536 % 256 :: id % 65536 / 256 :: id % 65536 % 256 :: (bs.length : Int) :: bs := by
  simp [twos, fours, two, four]
/-- What Put lays of an OPEN of version 4. -/
theorem put_back (m : List PA.S61) (hm : ByteCaps m) (an hold id : Int) (ha : 0 ≤ an ∧ an < 65536) (hh : 0 ≤ hold ∧ hold < 65536) (hi : 0 ≤ id ∧ id < 4294967296) :
    (∃ e, oPut 4 an hold id m = ([], e) ∧ (e = 1 ∨ e = 3)) ∨
    ∃ a : List Int, oPut 4 an hold id m = (a, 0) ∧ 10 ≤ a.length ∧ a.length = packsLen 0 m + 10 ∧ a.length ≤ 265 ∧ (∀ b, b ∈ a → 0 ≤ b ∧ b < 256) ∧ oGet a = (⟨4, an, hold, id, m⟩, 0, 0, []) ∧ oGet (a ++ [0]) = (.zero, 2, 0, []) ∧ ∀ k, k < a.length → oGet (a.take k) = (.zero, 2, 0, []) := by
  rcases bytes_form m hm with ⟨e, he, h1⟩ | ⟨gs, he, hgm, hgl, hgp, hgb⟩
  · refine .inl ⟨e, ?_, h1⟩
    unfold oPut
    rw [he, if_neg (by show ¬ e = 0; omega)]
  · have hf := capsOut_form gs ((gs.flatMap par).length + 1) (by omega)
    rw [hgm] at hf
    have hp : oPut 4 an hold id m = (4 :: an / 256 :: an % 256 :: hold / 256 :: hold % 256 :: id / 65536 / 256 :: id / 65536 % 256 :: id % 65536 / 256 :: id % 65536 % 256 :: ((gs.flatMap par).length : Int) :: gs.flatMap par, 0) := by
      unfold oPut
      rw [he, if_pos rfl]
      exact congrArg (fun x => (x, (0 : Int))) (put_shape an hold id _)
    generalize gs.flatMap par = bs at *
    refine .inr ⟨_, hp, by simp, by simp; omega, by simp; omega, ?_, ?_, ?_, ?_⟩
    · intro b hb
      simp only [List.mem_cons] at hb
      rcases hb with rfl | rfl | rfl | rfl | rfl | rfl | rfl | rfl | rfl | rfl | hb
      any_goals omega
      exact hgb b hb
    · simp only [oGet]
      rw [if_neg (by decide), if_neg (by simp), hf]
      have e1 : an / 256 * 256 + an % 256 = an := by omega
      have e2 : hold / 256 * 256 + hold % 256 = hold := by omega
      have e3 : ((id / 65536 / 256 * 256 + id / 65536 % 256) * 256 + id % 65536 / 256) * 256 + id % 65536 % 256 = id := by omega
      simp only [e1, e2, e3]
    · simp only [List.cons_append, oGet]
      rw [if_neg (by decide), if_pos (by rw [List.length_append]; simp; omega)]
    · intro k hk
      by_cases h10 : k < 10
      · exact oGet_short (by rw [List.length_take]; omega)
      · obtain ⟨k, rfl⟩ : ∃ j, k = j + 10 := ⟨k - 10, by omega⟩
        simp only [List.take_succ_cons, oGet]
        simp only [List.length_cons] at hk
        rw [if_neg (by decide), if_pos (by rw [List.length_take]; omega)]
/-- Whatever is got. -/
theorem get_any (ys : List Int) (hb : ∀ b, b ∈ ys → 0 ≤ b ∧ b < 256) (hl : ys.length ≤ 300) : ∃ o f0 f1 d, oGet ys = (o, f0, f1, d) ∧ ((f0 = 2 ∧ o = .zero ∧ (f1 = 0 ∨ f1 = 1 ∨ f1 = 4)) ∨
    (f0 = 0 ∧ f1 = 0 ∧ d = [] ∧ o.ver = 4 ∧ (0 ≤ o.an ∧ o.an < 65536) ∧ (0 ≤ o.hold ∧ o.hold < 65536) ∧ (0 ≤ o.id ∧ o.id < 4294967296) ∧ o.caps.length ≤ 300 ∧
      ∃ b2 : List Int, oPut 4 o.an o.hold o.id o.caps = (b2, 0) ∧ b2.length ≤ ys.length ∧ (∀ b, b ∈ b2 → 0 ≤ b ∧ b < 256) ∧ oGet b2 = (o, 0, 0, []))) := by
  obtain ⟨o, f0, f1, d, h⟩ : ∃ o f0 f1 d, oGet ys = (o, f0, f1, d) := ⟨_, _, _, _, rfl⟩
  refine ⟨o, f0, f1, d, h, ?_⟩
  by_cases hs : ys.length < 10
  · rw [oGet_short hs] at h
    injection h with e1 h
    injection h with e2 h
    injection h with e3 e4
    subst e1 e2 e3 e4
    exact .inl ⟨rfl, rfl, .inl rfl⟩
  · obtain ⟨a, b1, b2, h1, h2, i1, i2, i3, i4, m, rest, hx⟩ := ten (xs := ys) (by omega)
    have bb1 := hb b1 (by rw [hx]; simp)
    have bb2 := hb b2 (by rw [hx]; simp)
    have bh1 := hb h1 (by rw [hx]; simp)
    have bh2 := hb h2 (by rw [hx]; simp)
    have bi1 := hb i1 (by rw [hx]; simp)
    have bi2 := hb i2 (by rw [hx]; simp)
    have bi3 := hb i3 (by rw [hx]; simp)
    have bi4 := hb i4 (by rw [hx]; simp)
    have bm := hb m (by rw [hx]; simp)
    have brest : ∀ x, x ∈ rest → 0 ≤ x ∧ x < 256 := fun x h => hb x (by rw [hx]; simp [h])
    have hxl : ys.length = rest.length + 10 := by rw [hx]; simp
    rw [hx] at h
    simp only [oGet] at h
    by_cases h4 : a ≠ 4
    · rw [if_pos h4] at h
      injection h with e1 h
      injection h with e2 h
      injection h with e3 e4
      subst e1 e2 e3 e4
      exact .inl ⟨rfl, rfl, .inr (.inl rfl)⟩
    · rw [if_neg h4] at h
      by_cases h5 : m ≠ rest.length
      · rw [if_pos h5] at h
        injection h with e1 h
        injection h with e2 h
        injection h with e3 e4
        subst e1 e2 e3 e4
        exact .inl ⟨rfl, rfl, .inl rfl⟩
      · rw [if_neg h5] at h
        have hcl := capsOut_len (rest.length + 1) rest
        cases hco : capsOut (rest.length + 1) rest with
        | ok l =>
          rw [hco] at h
          injection h with e1 h
          injection h with e2 h
          injection h with e3 e4
          subst e1 e2 e3 e4
          have hlen := hcl _ hco
          have hp := pl_out _ _ _ hco brest
          have hob := out_bytes _ _ _ hco brest
          refine .inr ⟨rfl, rfl, rfl, rfl, ⟨by show 0 ≤ b1 * 256 + b2; omega, by show b1 * 256 + b2 < 65536; omega⟩, ⟨by show 0 ≤ h1 * 256 + h2; omega, by show h1 * 256 + h2 < 65536; omega⟩, ⟨by show 0 ≤ ((i1 * 256 + i2) * 256 + i3) * 256 + i4; omega, by show ((i1 * 256 + i2) * 256 + i3) * 256 + i4 < 4294967296; omega⟩, by show l.length ≤ 300; omega, ?_⟩
          rcases put_back l hob (b1 * 256 + b2) (h1 * 256 + h2) (((i1 * 256 + i2) * 256 + i3) * 256 + i4) (by omega) (by omega) (by omega) with ⟨e, he, _⟩ | ⟨a', ha', _, hpl, _, hab, hag, _⟩
          · exfalso
            rcases bytes_any l hp.2 hob with ⟨_, h9⟩ | ⟨gs, h9, _⟩
            · omega
            · unfold oPut at he
              rw [h9, if_pos rfl] at he
              injection he with q1 q2
              simp at q1
          · exact ⟨a', ha', by omega, hab, hag⟩
        | error x =>
          rw [hco] at h
          injection h with e1 h
          injection h with e2 h
          injection h with e3 e4
          subst e1 e2 e3 e4
          exact .inl ⟨rfl, rfl, (capsOut_err _ _ _ hco).elim .inl (fun h => .inr (.inr h))⟩
theorem few6_bytes {l : List PA.S61} (h : ByteCaps l) : ByteCaps (few6 l) := by
  intro x hx
  unfold few6 at hx
  rw [List.mem_map] at hx
  obtain ⟨y, hy, rfl⟩ := hx
  have h1 := h y (List.mem_of_mem_take hy)
  exact ⟨h1.1, fun b hb => h1.2 b (List.mem_of_mem_take hb)⟩
end Go.Proofs.YthafedmlbialiaaDoor
