/-
  PROVED: the closed law OpenKnown (the chapter's rows, an OPEN byte by byte, each fault) returns true; the five variables start as the program's text lays them (tied). No further condition.
-/
import Derived.Test.YthafedmlbialiaaDoorL5
import Derived.Test.YthafedmlbialiaaDoorW2
import Derived.Test.YthafedmlbialiaaDoorTie
import Derived.Test.YthafedmlbialiaaDoorCards
import Derived.SevenTiedAt
namespace Go.Proofs.YthafedmlbialiaaDoor.openKnown
open Go Go.ChangeShapes Go.WideShapes Go.ChangeAt Go.RowKit Go.Proofs.YthafedmlbialiaaDoorW.PrintWords
set_option linter.unusedVariables false

def laids : List (String × DataW Unit) := [("consulate/caps.unicast", Rows.laid_consulate_caps_unicast), ("consulate/caps.cut", Rows.laid_consulate_caps_cut), ("consulate/caps.odd", Rows.laid_consulate_caps_odd), ("consulate/open.wanted", Rows.laid_consulate_open_wanted), ("consulate/open.family", Rows.laid_consulate_open_family)]

theorem door_met (os : Os) (args : Array Value) : laidMetH Tryd.prog laids ((World.doorLaid Tryd.prog 34 os).forCall (fun _ _ => 0) ⟨#[], args, []⟩).memory :=
  laidMetH_of_parts3 (fuel := 8) (laidMet_of_run' 8 (by kernel_rfl) (by kernel_rfl)) (by kernel_rfl) (by kernel_rfl)

set_option maxRecDepth 100000 in
theorem lifted (os : Os) (started : os.Started) (H : Type) (enc : TypeId × Value → H) :
    ReturnsInHanded {} Tryd.checked os 13 .any (fun w args => (Rows.openKnownSpec.pre enc Tryd.prog Tryd.f13 [] false w args ∧ laidMetH Tryd.prog laids w) ∧ sizedMet enc Tryd.prog Tryd.f13 (OpenSpec.ofChange Rows.openKnownSpec) false w args)
      (Rows.openKnownSpec.post enc Tryd.prog Tryd.f13 false true false false) := by
  refine returnsInHanded_of_change_and (C := Tryd.checked) (X := fun w _ => laidMetH Tryd.prog laids w) (fun _ _ _ hh h => h.of_heap hh) ownNone started (by kernel_rfl) Tryd.func13
    (ChangeSpec.witness_shaped (enc := enc) (C := Tryd.checked) (os := os) (X := fun w _ => laidMetH Tryd.prog laids w) false (World.doorLaid Tryd.prog 34 os) #[] 8 rfl (World.shaped_of_RefB (by kernel_rfl) (by kernel_rfl)) (by kernel_rfl) (by kernel_rfl) (by kernel_rfl) (door_met os _)) ?_
  intro W base args ds gs before hval0 hW _ hsz0 hL _
  have hval : ∀ (j : Nat) t v, Tryd.f13.params[j]? = some t → args[j]? = some v → Value.okWide Tryd.prog W .any base t v := hval0
  have hsz : (DataW.weightsEach Tryd.prog (Tryd.f13.params.toList ++ Rows.openKnownSpec.plain.varTypes Tryd.prog) (ds ++ gs)).all (· ≤ reachBytes) = true := hsz0
  have hW' := hW
  obtain ⟨p, q, hA0, hV, rfl, hfz, hnd⟩ := hW
  have hA : DataW.TrodAll enc Tryd.prog W 0 (fun _ => true) true Tryd.f13.params.toList args.toList ds p := hA0
  rw [Tryd.params13] at hA hval hsz
  obtain ⟨hargs, rfl, rfl⟩ := trodAll_nil hA
  obtain rfl : args = #[] := by cases args; simp_all
  obtain ⟨rfl, rfl⟩ := trodVars_none hV
  rw [MakeChecks.laidMetH_plain _ _ _ (by kernel_rfl)] at hL
  obtain ⟨ps, hL, _, _⟩ := hL
  obtain ⟨hU, qs, hL2⟩ := globU_of hL
  obtain ⟨qs3, hL3⟩ := globC_tail hL2
  have hG := globC_of hL2
  have hO := globO_of hL3
  clear hA0 hval0 hsz0
  refine (OpenKnown_walk W hG hU hO).mono fun e W' ⟨he, bel⟩ => ?_
  subst he
  exact ⟨_, rfl, _, _, _, [], _, [], hW', trodAll_mk1 (shut_bool Tryd.underlying4 _), trodAll_mk0, rfl, bel.frame _, fun h => by cases h⟩

theorem over : Rows.OpenKnownSaid :=
  OpenClaim.holds_of_wide 13 Tryd.f13 rfl rfl rfl rfl rfl rfl rfl ⟨rfl, rfl, rfl, rfl, rfl⟩ rfl rfl rfl rfl rfl (by kernel_rfl) Tryd.func13 (by kernel_rfl)
    (of_decide_eq_true (by kernel_rfl)) (by unfold Func.isWrapper; first | (rw [if_pos (by decide +kernel)]; kernel_rfl) | (rw [if_neg (by decide +kernel)]; exact ⟨rfl, rfl⟩))
    (fun os started H enc _ => lifted os started H enc)

end Go.Proofs.YthafedmlbialiaaDoor.openKnown
namespace Go.Proofs.YthafedmlbialiaaDoor
open Go
theorem openKnown_holds : Rows.OpenKnownCardSaid :=
  Claim7.holds_tied_plain_at .later [] [.widerDeep, .data, .data, .widerDeep, .widerDeep] true (true, "bfe7c7d2994629564188f0ce1646008182135e1cc67a6d6df21a33e28937dd92") false
    openKnown.over (fun _ h => by cases h) (by kernel_rfl) (fun _ h => by cases h) openKnown_row_tie rfl ⟨rfl, rfl⟩ (by kernel_rfl) rfl
    (fun f fn hf hfn => by
      obtain rfl : f = 13 := Option.some.inj ((show Tryd.prog.funcNamed "consulate/consulatelaw06.OpenKnown" = some 13 by kernel_rfl).symm.trans hf) |>.symm
      obtain rfl : fn = Tryd.f13 := (Option.some.inj (Tryd.func13.symm.trans hfn)).symm
      exact ⟨by kernel_rfl, fun j t ht => by
        rw [Tryd.params13] at ht
        simp at ht⟩)
    (by kernel_rfl)
#print axioms openKnown_holds
end Go.Proofs.YthafedmlbialiaaDoor
