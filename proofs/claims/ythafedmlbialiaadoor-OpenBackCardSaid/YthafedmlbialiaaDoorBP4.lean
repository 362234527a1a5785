/-
  Plain: there and back: what Bytes lays is read as it was; cut; and no other form is shorter.
-/
import Derived.Test.YthafedmlbialiaaDoorBP3
namespace Go.Proofs.YthafedmlbialiaaDoor
open Go.RowKit Go.Proofs.YthafedmlbialiaaDoorW.PrintWords Go.Proofs.YthafedmlbialiaaDoorW.PrintLast Go.Proofs.YthafedmlbialiaaDoorW.PrintMore
set_option linter.unusedVariables false
set_option linter.unusedSimpArgs false

/-- A parameter's body, and the parameter. -/
def body (l : List PA.S61) : List Int := l.flatMap capB
def par (l : List PA.S61) : List Int := 2 :: ((body l).length : Int) :: body l
theorem body_nil : body [] = [] := rfl
theorem body_cons (x : PA.S61) (l : List PA.S61) : body (x :: l) = capB x ++ body l := by simp [body]
theorem body_snoc (l : List PA.S61) (x : PA.S61) : body (l ++ [x]) = body l ++ capB x := by simp [body]
theorem body_one (x : PA.S61) : body [x] = capB x := by simp [body]
theorem par_len (l : List PA.S61) : (par l).length = (body l).length + 2 := rfl
theorem shut_par (l : List PA.S61) : shutP [] (body l) = par l := rfl
theorem body_eq_nil {l : List PA.S61} (h : body l = []) : l = [] := by
  cases l with
  | nil => rfl
  | cons x l => rw [body_cons] at h; simp [capB] at h

theorem packs_out : ∀ (l : List PA.S61) (out one : List Int), packs out one l = out ++ packs [] one l := by
  have hs : ∀ out one : List Int, shutP out one = out ++ shutP [] one := fun out one => rfl
  intro l
  induction l with
  | nil =>
    intro out one
    by_cases h : one = []
    · simp [packs, h]
    · rw [packs, if_neg h, packs, if_neg h, hs]
  | cons x l ih =>
    intro out one
    by_cases h : 255 < one.length + 2 + x.f1.length
    · rw [packs, if_pos h, packs, if_pos h, ih, ih (shutP [] one), hs out, List.append_assoc]
    · rw [packs_fit (by omega), packs_fit (by omega), ih]

/-- What is laid are parameters, with the capabilities in order. -/
theorem packs_form : ∀ (l g : List PA.S61), (∀ x, x ∈ l → tooLong x = false) → (body g).length ≤ 255 →
    ∃ gs : List (List PA.S61), packs [] (body g) l = gs.flatMap par ∧ gs.flatten = g ++ l ∧ ∀ h, h ∈ gs → (body h).length ≤ 255 := by
  intro l
  induction l with
  | nil =>
    intro g _ hg
    by_cases h : body g = []
    · obtain rfl := body_eq_nil h
      exact ⟨[], by rw [body_nil]; rfl, rfl, fun h hh => by cases hh⟩
    · refine ⟨[g], by rw [packs, if_neg h, shut_par]; simp, by simp, fun h hh => ?_⟩
      rw [List.mem_singleton] at hh
      subst hh
      exact hg
  | cons x l ih =>
    intro g hl hg
    have hx := hl x (by simp)
    rw [tooLong, decide_eq_false_iff_not] at hx
    have hx3 : x.f1.length ≤ 253 := by omega
    by_cases h : 255 < (body g).length + 2 + x.f1.length
    · obtain ⟨gs, h1, h2, h3⟩ := ih [x] (fun y hy => hl y (by simp [hy])) (by rw [body_one, capB_len]; omega)
      rw [body_one] at h1
      refine ⟨g :: gs, ?_, by simp [h2], fun y hy => ?_⟩
      · rw [packs, if_pos h, packs_out, h1, shut_par]
        simp
      · rcases List.mem_cons.1 hy with rfl | hy
        · exact hg
        · exact h3 y hy
    · obtain ⟨gs, h1, h2, h3⟩ := ih (g ++ [x]) (fun y hy => hl y (by simp [hy])) (by rw [body_snoc, List.length_append, capB_len]; omega)
      rw [body_snoc] at h1
      exact ⟨gs, by rw [packs_fit (by omega), h1], by simp [h2], h3⟩

theorem capsIn_body : ∀ (l : List PA.S61) (f : Nat), (body l).length < f → capsIn f (body l) = some l := by
  intro l
  induction l with
  | nil =>
    intro f hf
    obtain ⟨k, rfl⟩ : ∃ k, f = k + 1 := ⟨f - 1, by omega⟩
    rfl
  | cons x l ih =>
    intro f hf
    obtain ⟨k, rfl⟩ : ∃ k, f = k + 1 := ⟨f - 1, by omega⟩
    rw [body_cons, List.length_append, capB_len] at hf
    have e : body (x :: l) = x.f0 :: (x.f1.length : Int) :: (x.f1 ++ body l) := by rw [body_cons]; rfl
    rw [e]
    simp only [capsIn]
    rw [Int.toNat_natCast, if_pos (by rw [List.length_append]; omega), List.drop_left' rfl, List.take_left' rfl, ih k (by omega)]
    rfl

theorem capsOut_par (g : List PA.S61) (s : List Int) (k : Nat) (hk : (body g).length < k + 1) : capsOut (k + 1) (par g ++ s) = match capsOut k s with
    | .ok l' => .ok (g ++ l')
    | .error x => .error x := by
  have e : par g ++ s = 2 :: ((body g).length : Int) :: (body g ++ s) := rfl
  rw [e]
  simp only [capsOut]
  rw [Int.toNat_natCast, if_pos (by rw [List.length_append]; omega), if_pos True.intro, List.take_left' rfl, List.drop_left' rfl, capsIn_body g _ hk]
  cases capsOut k s <;> rfl

theorem take_in {α : Type} (g x : List α) (n : Nat) : (g ++ x).take (g.length + n) = g ++ x.take n := by
  rw [List.take_append, List.take_of_length_le (Nat.le_add_right _ _), Nat.add_sub_cancel_left]
/-- How many of the first k bytes are whole parameters; how many capabilities these hold. -/
def cutW : List (List PA.S61) → Nat → Nat
  | [], _ => 0
  | g :: gs, k => if (par g).length ≤ k then (par g).length + cutW gs (k - (par g).length) else 0
def cutN' : List (List PA.S61) → Nat → Nat
  | [], _ => 0
  | g :: gs, k => if (par g).length ≤ k then g.length + cutN' gs (k - (par g).length) else 0
theorem cutW_cons (g : List PA.S61) (gs : List (List PA.S61)) (k : Nat) : cutW (g :: gs) k = if (par g).length ≤ k then (par g).length + cutW gs (k - (par g).length) else 0 := rfl
theorem cutN_cons (g : List PA.S61) (gs : List (List PA.S61)) (k : Nat) : cutN' (g :: gs) k = if (par g).length ≤ k then g.length + cutN' gs (k - (par g).length) else 0 := rfl
theorem capsOut_cut : ∀ (gs : List (List PA.S61)) (k f : Nat), k ≤ (gs.flatMap par).length → k < f →
    capsOut f ((gs.flatMap par).take k) = if cutW gs k = k then .ok (gs.flatten.take (cutN' gs k)) else .error 0 := by
  intro gs
  induction gs with
  | nil =>
    intro k f hk hf
    obtain ⟨f, rfl⟩ : ∃ m, f = m + 1 := ⟨f - 1, by omega⟩
    simp at hk
    subst hk
    rfl
  | cons g gs ih =>
    intro k f hk hf
    obtain ⟨f, rfl⟩ : ∃ m, f = m + 1 := ⟨f - 1, by omega⟩
    have hl := par_len g
    rw [List.flatMap_cons] at hk ⊢
    rw [List.length_append] at hk
    by_cases h : (par g).length ≤ k
    · have e : (par g ++ gs.flatMap par).take k = par g ++ (gs.flatMap par).take (k - (par g).length) := by
        rw [List.take_append, List.take_of_length_le h]
      rw [e, capsOut_par g _ f (by omega), ih (k - (par g).length) f (by omega) (by omega)]
      rw [cutW_cons, cutN_cons, if_pos h, if_pos h]
      by_cases h2 : cutW gs (k - (par g).length) = k - (par g).length
      · rw [if_pos h2, if_pos (by omega)]
        show Except.ok _ = Except.ok _
        rw [List.flatten_cons, take_in]
      · rw [if_neg h2, if_neg (by omega)]
    · rw [cutW_cons, if_neg h]
      have e : (par g ++ gs.flatMap par).take k = (par g).take k := by
        rw [List.take_append, Nat.sub_eq_zero_of_le (by omega)]
        simp
      rw [e]
      match k, h, hk, hf with
      | 0, _, _, _ =>
        rw [if_pos rfl]
        rfl
      | 1, _, _, _ => rfl
      | k + 2, h, _, _ =>
        rw [if_neg (by omega)]
        have e2 : (par g).take (k + 2) = 2 :: ((body g).length : Int) :: (body g).take k := rfl
        rw [e2]
        simp only [capsOut]
        rw [Int.toNat_natCast, if_neg (by rw [List.length_take]; omega)]
theorem cutW_all : ∀ (gs : List (List PA.S61)), cutW gs (gs.flatMap par).length = (gs.flatMap par).length ∧ cutN' gs (gs.flatMap par).length = gs.flatten.length := by
  intro gs
  induction gs with
  | nil => exact ⟨rfl, rfl⟩
  | cons g gs ih =>
    rw [List.flatMap_cons, List.length_append]
    rw [cutW_cons, cutN_cons, if_pos (by omega), if_pos (by omega), Nat.add_sub_cancel_left, ih.1, ih.2]
    simp
theorem capsOut_form (gs : List (List PA.S61)) (f : Nat) (hf : (gs.flatMap par).length < f) : capsOut f (gs.flatMap par) = .ok gs.flatten := by
  have h := capsOut_cut gs (gs.flatMap par).length f (Nat.le_refl _) hf
  rw [List.take_length, (cutW_all gs).1, (cutW_all gs).2, if_pos rfl, List.take_length] at h
  exact h
/-! ### No other form is shorter -/
/-- How long what is laid will be. -/
def packsLen : Nat → List PA.S61 → Nat
  | o, [] => if o = 0 then 0 else o + 2
  | o, x :: l => if 255 < o + 2 + x.f1.length then o + 2 + packsLen (x.f1.length + 2) l else packsLen (o + 2 + x.f1.length) l
theorem packs_len : ∀ (l : List PA.S61) (one : List Int), (packs [] one l).length = packsLen one.length l := by
  intro l
  induction l with
  | nil =>
    intro one
    cases one with
    | nil => rfl
    | cons y ys => simp [packs, packsLen, shutP]
  | cons x l ih =>
    intro one
    unfold packsLen
    by_cases h : 255 < one.length + 2 + x.f1.length
    · rw [packs, if_pos h, if_pos h, packs_out, List.length_append, ih, capB_len, shutP_len]
      simp
    · rw [packs_fit (by omega), if_neg h, ih, List.length_append, capB_len]
      congr 1
      omega
theorem pl_both : ∀ (l : List PA.S61), (∀ x, x ∈ l → tooLong x = false) →
    (∀ o o' : Nat, o ≤ o' → o' ≤ 255 → 0 < o' → packsLen o l + o' ≤ packsLen o' l + o) ∧
    (∀ a o : Nat, 0 < a → a + o ≤ 255 → packsLen (a + o) l ≤ packsLen a l + o + 2) := by
  intro l
  induction l with
  | nil =>
    intro _
    refine ⟨fun o o' h1 h2 h3 => ?_, fun a o h1 h2 => ?_⟩
    · unfold packsLen
      rw [if_neg (show ¬ o' = 0 by omega)]
      split <;> omega
    · unfold packsLen
      rw [if_neg (show ¬ a + o = 0 by omega), if_neg (show ¬ a = 0 by omega)]
      omega
  | cons x l ih =>
    intro hl
    have hx := hl x (by simp)
    rw [tooLong, decide_eq_false_iff_not] at hx
    have hx3 : x.f1.length ≤ 253 := by omega
    obtain ⟨hB, hC⟩ := ih (fun y hy => hl y (by simp [hy]))
    refine ⟨fun o o' h1 h2 h3 => ?_, fun a o h1 h2 => ?_⟩
    · unfold packsLen
      by_cases c1 : 255 < o + 2 + x.f1.length
      · rw [if_pos c1, if_pos (by omega)]
        omega
      · rw [if_neg c1]
        by_cases c2 : 255 < o' + 2 + x.f1.length
        · rw [if_pos c2]
          have := hC (x.f1.length + 2) o (by omega) (by omega)
          rw [show x.f1.length + 2 + o = o + 2 + x.f1.length by omega] at this
          omega
        · rw [if_neg c2]
          have := hB (o + 2 + x.f1.length) (o' + 2 + x.f1.length) (by omega) (by omega) (by omega)
          omega
    · unfold packsLen
      by_cases c1 : 255 < a + 2 + x.f1.length
      · rw [if_pos c1, if_pos (by omega)]
        omega
      · rw [if_neg c1]
        by_cases c2 : 255 < a + o + 2 + x.f1.length
        · rw [if_pos c2]
          have := hB (x.f1.length + 2) (a + 2 + x.f1.length) (by omega) (by omega) (by omega)
          omega
        · rw [if_neg c2]
          have := hC (a + 2 + x.f1.length) o (by omega) (by omega)
          rw [show a + 2 + x.f1.length + o = a + o + 2 + x.f1.length by omega] at this
          omega
theorem pl_in : ∀ (f : Nat) (s : List Int) (l1 l2 : List PA.S61) (o : Nat), capsIn f s = some l1 → o + s.length ≤ 255 → (∀ b, b ∈ s → 0 ≤ b) →
    packsLen o (l1 ++ l2) = packsLen (o + s.length) l2 ∧ ∀ x, x ∈ l1 → tooLong x = false := by
  intro f
  induction f with
  | zero => intro s l1 l2 o h; cases h
  | succ f ih =>
    intro s l1 l2 o h ho hb
    rcases s with _ | ⟨c, s⟩
    · simp only [capsIn] at h
      injection h with h
      subst h
      exact ⟨rfl, fun x hx => by cases hx⟩
    rcases s with _ | ⟨m, t⟩
    · cases h
    simp only [capsIn] at h
    split at h
    case isFalse => cases h
    case isTrue hm =>
      obtain ⟨l3, h3, rfl⟩ := Option.map_eq_some_iff.1 h
      simp only [List.length_cons] at ho
      have hlt : (t.take m.toNat).length = m.toNat := by rw [List.length_take]; omega
      have hi := ih (t.drop m.toNat) l3 l2 (o + 2 + m.toNat) h3 (by rw [List.length_drop]; omega) (fun b hb2 => hb b (by simp [List.mem_of_mem_drop hb2]))
      refine ⟨?_, fun x hx => ?_⟩
      · rw [List.cons_append, packsLen, hlt, if_neg (by omega), hi.1, List.length_drop]
        congr 1
        simp only [List.length_cons]
        omega
      · rcases List.mem_cons.1 hx with rfl | hx
        · rw [tooLong, decide_eq_false_iff_not]
          show ¬ 253 < ((t.take m.toNat).length : Int)
          rw [hlt]
          omega
        · exact hi.2 x hx
theorem pl_out : ∀ (f : Nat) (s : List Int) (l : List PA.S61), capsOut f s = .ok l → (∀ b, b ∈ s → 0 ≤ b ∧ b < 256) →
    packsLen 0 l ≤ s.length ∧ ∀ x, x ∈ l → tooLong x = false := by
  intro f
  induction f with
  | zero => intro s l h; cases h
  | succ f ih =>
    intro s l h hb
    rcases s with _ | ⟨t, s⟩
    · simp only [capsOut] at h
      injection h with h
      subst h
      exact ⟨Nat.zero_le _, fun x hx => by cases hx⟩
    rcases s with _ | ⟨m, d⟩
    · simp only [capsOut] at h
      cases h
    simp only [capsOut] at h
    have hmb := hb m (by simp)
    split at h
    case isFalse => cases h
    case isTrue hm =>
      split at h
      case isFalse => cases h
      split at h
      · cases h
      · rename_i l1 hc
        split at h
        · rename_i l2 h2
          injection h with h
          subst h
          have hlt : (d.take m.toNat).length = m.toNat := by rw [List.length_take]; omega
          have h3 := pl_in _ _ _ l2 0 hc (by rw [hlt]; omega) (fun b hb2 => (hb b (by simp [List.mem_of_mem_take hb2])).1)
          have h4 := ih _ _ h2 (fun b hb2 => hb b (by simp [List.mem_of_mem_drop hb2]))
          rw [hlt, Nat.zero_add] at h3
          rw [List.length_drop] at h4
          refine ⟨?_, fun x hx => ?_⟩
          · rw [h3.1]
            simp only [List.length_cons]
            have h5 : packsLen m.toNat l2 ≤ m.toNat + 2 + packsLen 0 l2 := by
              cases l2 with
              | nil =>
                unfold packsLen
                rw [if_pos rfl]
                split <;> omega
              | cons x l =>
                have hx := h4.2 x (by simp)
                rw [tooLong, decide_eq_false_iff_not] at hx
                have hx3 : x.f1.length ≤ 253 := by omega
                unfold packsLen
                rw [if_neg (show ¬ 255 < 0 + 2 + x.f1.length by omega), show 0 + 2 + x.f1.length = x.f1.length + 2 by omega]
                by_cases c : 255 < m.toNat + 2 + x.f1.length
                · rw [if_pos c]
                  omega
                · rw [if_neg c]
                  have := (pl_both l (fun y hy => h4.2 y (by simp [hy]))).2 (x.f1.length + 2) m.toNat (by omega) (by omega)
                  rw [show x.f1.length + 2 + m.toNat = m.toNat + 2 + x.f1.length by omega] at this
                  omega
            omega
          · rcases List.mem_append.1 hx with hx | hx
            · exact h3.2 x hx
            · exact h4.2 x hx
        · cases h

/-- Codes and values are bytes. -/
def ByteCaps (l : List PA.S61) : Prop := ∀ x, x ∈ l → (0 ≤ x.f0 ∧ x.f0 < 256) ∧ ∀ b, b ∈ x.f1 → 0 ≤ b ∧ b < 256
theorem body_bytes {l : List PA.S61} (h : ByteCaps l) (hf : ∀ x, x ∈ l → tooLong x = false) : ∀ b, b ∈ body l → 0 ≤ b ∧ b < 256 := by
  intro b hb
  unfold body at hb
  rw [List.mem_flatMap] at hb
  obtain ⟨x, hx, hb⟩ := hb
  have h1 := h x hx
  have h2 := hf x hx
  rw [tooLong, decide_eq_false_iff_not] at h2
  unfold capB at hb
  rcases List.mem_cons.1 hb with rfl | hb
  · exact h1.1
  rcases List.mem_cons.1 hb with rfl | hb
  · omega
  · exact h1.2 b hb
theorem form_bytes {gs : List (List PA.S61)} (h : ByteCaps gs.flatten) (hf : ∀ x, x ∈ gs.flatten → tooLong x = false) (hl : ∀ g, g ∈ gs → (body g).length ≤ 255) : ∀ b, b ∈ gs.flatMap par → 0 ≤ b ∧ b < 256 := by
  intro b hb
  rw [List.mem_flatMap] at hb
  obtain ⟨g, hg, hb⟩ := hb
  have hsub : ∀ x, x ∈ g → x ∈ gs.flatten := fun x hx => List.mem_flatten.2 ⟨g, hg, hx⟩
  have hlg := hl g hg
  unfold par at hb
  rcases List.mem_cons.1 hb with rfl | hb
  · omega
  rcases List.mem_cons.1 hb with rfl | hb
  · omega
  · exact body_bytes (fun x hx => h x (hsub x hx)) (fun x hx => hf x (hsub x hx)) b hb

/-- What Bytes tells of capabilities: an error, or a form. -/
theorem bytes_form (m : List PA.S61) (hm : ByteCaps m) :
    (∃ e, capsBytes m = ([], e) ∧ (e = 1 ∨ e = 3)) ∨
    ∃ gs : List (List PA.S61), capsBytes m = (gs.flatMap par, 0) ∧ gs.flatten = m ∧ (gs.flatMap par).length ≤ 255 ∧ (gs.flatMap par).length = packsLen 0 m ∧ (∀ b, b ∈ gs.flatMap par → 0 ≤ b ∧ b < 256) := by
  unfold capsBytes
  by_cases h : m.any tooLong = true
  · exact .inl ⟨1, by rw [if_pos h], .inl rfl⟩
  · have hf : ∀ x, x ∈ m → tooLong x = false := fun x hx => by
      have := h
      rw [Bool.not_eq_true, List.any_eq_false] at this
      simpa using this x hx
    obtain ⟨gs, h1, h2, h3⟩ := packs_form m [] hf (by simp [body])
    rw [List.nil_append] at h2
    rw [body_nil] at h1
    have hl := packs_len m []
    rw [h1] at hl
    rw [if_neg h, h1]
    by_cases h5 : 255 < (gs.flatMap par).length
    · exact .inl ⟨3, by rw [if_pos h5], .inr rfl⟩
    · refine .inr ⟨gs, by rw [if_neg h5], h2, by omega, hl, form_bytes (by rw [h2]; exact hm) (by rw [h2]; exact hf) h3⟩
theorem in_bytes : ∀ (f : Nat) (s : List Int) (l : List PA.S61), capsIn f s = some l → (∀ b, b ∈ s → 0 ≤ b ∧ b < 256) → ByteCaps l := by
  intro f
  induction f with
  | zero => intro s l h; cases h
  | succ f ih =>
    intro s l h hb
    rcases s with _ | ⟨c, s⟩
    · simp only [capsIn] at h
      injection h with h
      subst h
      intro x hx
      cases hx
    rcases s with _ | ⟨m, t⟩
    · cases h
    simp only [capsIn] at h
    split at h
    case isFalse => cases h
    case isTrue hm =>
      obtain ⟨l3, h3, rfl⟩ := Option.map_eq_some_iff.1 h
      intro x hx
      rcases List.mem_cons.1 hx with rfl | hx
      · exact ⟨hb c (by simp), fun b hb2 => hb b (by simp [List.mem_of_mem_take hb2])⟩
      · exact ih _ _ h3 (fun b hb2 => hb b (by simp [List.mem_of_mem_drop hb2])) x hx
theorem out_bytes : ∀ (f : Nat) (s : List Int) (l : List PA.S61), capsOut f s = .ok l → (∀ b, b ∈ s → 0 ≤ b ∧ b < 256) → ByteCaps l := by
  intro f
  induction f with
  | zero => intro s l h; cases h
  | succ f ih =>
    intro s l h hb
    rcases s with _ | ⟨t, s⟩
    · simp only [capsOut] at h
      injection h with h
      subst h
      intro x hx
      cases hx
    rcases s with _ | ⟨m, d⟩
    · simp only [capsOut] at h
      cases h
    simp only [capsOut] at h
    split at h
    case isFalse => cases h
    split at h
    case isFalse => cases h
    split at h
    · cases h
    · rename_i l1 hc
      split at h
      · rename_i l2 h2
        injection h with h
        subst h
        intro x hx
        rcases List.mem_append.1 hx with hx | hx
        · exact in_bytes _ _ _ hc (fun b hb2 => hb b (by simp [List.mem_of_mem_take hb2])) x hx
        · exact ih _ _ h2 (fun b hb2 => hb b (by simp [List.mem_of_mem_drop hb2])) x hx
      · cases h

theorem bytes_any (y : List PA.S61) (hf : ∀ x, x ∈ y → tooLong x = false) (hm : ByteCaps y) :
    (capsBytes y = ([], 3) ∧ 255 < packsLen 0 y) ∨
    ∃ gs : List (List PA.S61), capsBytes y = (gs.flatMap par, 0) ∧ gs.flatten = y ∧ (gs.flatMap par).length ≤ 255 ∧ (gs.flatMap par).length = packsLen 0 y ∧ (∀ b, b ∈ gs.flatMap par → 0 ≤ b ∧ b < 256) := by
  have h : y.any tooLong = false := List.any_eq_false.2 (fun x hx => by rw [hf x hx]; simp)
  have hl := packs_len y []
  rcases bytes_form y hm with ⟨e, he, _⟩ | h1
  · refine .inl ?_
    unfold capsBytes at he ⊢
    rw [h] at he ⊢
    by_cases h5 : 255 < (packs [] [] y).length
    · exact ⟨by rw [if_neg (by simp), if_pos h5], by rw [← show (packs [] [] y).length = packsLen 0 y from hl]; exact h5⟩
    · rw [if_neg (by simp), if_neg h5] at he
      injection he with he1 he2
      rename_i hor
      omega
  · exact .inr h1

end Go.Proofs.YthafedmlbialiaaDoor
