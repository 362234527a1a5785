/-
  PROVED: for every code and every text the law NoticeTexts (a code's text parses back; any text parsed is told of, and back again) returns true, and both inputs read behind the call as before; the listed variables start as the program's text lays them (tied), utf8.first as pinned. No further condition.
-/
import Derived.Test.YtbphidmnkbfchaaGreatDoorNL
import Derived.Test.YtbphidmnkbfchaaGreatDoorTie
import Derived.Test.YtbphidmnkbfchaaGreatDoorCards
import Derived.SevenTiedAt
import Derived.Stop.Joined
import Derived.ChangeMaps5
namespace Go.Proofs.YtbphidmnkbfchaaGreatDoor.noticeTexts
open Go Go.ChangeShapes Go.WideShapes Go.ChangeAt Go.RowKit
set_option linter.unusedVariables false

def laids : List (String × DataW Unit) := [("math/bits.deBruijn32tab", Rows.laid_math_bits_deBruijn32tab), ("math/bits.deBruijn64tab", Rows.laid_math_bits_deBruijn64tab), ("internal/strconv.uint64pow10", Rows.laid_internal_strconv_uint64pow10), ("unicode/utf8.acceptRanges", Rows.laid_unicode_utf8_acceptRanges), ("consulate/caps.cut", Rows.laid_consulate_caps_cut), ("consulate/caps.odd", Rows.laid_consulate_caps_odd), ("consulate/frame.lengths", Rows.laid_consulate_frame_lengths), ("strconv.ErrRange", Rows.laid_strconv_ErrRange), ("strconv.ErrSyntax", Rows.laid_strconv_ErrSyntax), ("consulate/open.wanted", Rows.laid_consulate_open_wanted), ("consulate/update.badAll", Rows.laid_consulate_update_badAll), ("consulate/update.badNets", Rows.laid_consulate_update_badNets), ("consulate/notice.names", Rows.laid_consulate_notice_names), ("unicode/utf8.first", Rows.laid_unicode_utf8_first)]
theorem ownNone : ownKnob Tryz.prog.godebug = none := by kernel_rfl
theorem laidOutT : laidOutB Tryz.prog = true := by kernel_rfl
theorem cells5 : Tryz.prog.cellsOf 5 = 1 := by kernel_rfl
theorem und41 : ∃ f0 f1 : Field, Tryz.prog.underlying 41 = some (.struct #[f0, f1]) ∧ f0.offset = 0 ∧ f1.offset = 1 ∧ f0.type = 5 ∧ f1.type = 5 := ⟨_, _, Tryz.underlying41, rfl, rfl, rfl, rfl⟩
set_option maxRecDepth 100000 in
theorem code_arg {H : Type} {enc : TypeId × Value → H} {W : World} {v : Value} {d : DataW H} {p : List MemPlace} (hv : ∃ cs, v = .agg cs ∧ cs.size = Tryz.prog.cellsOf 41)
    (h : DataW.Trod enc Tryz.prog W 0 (fun _ => true) true 41 v d p) : ∃ c e : Nat, v = .agg #[.int .u8 c, .int .u8 e] ∧ c < 256 ∧ e < 256 := by
  obtain ⟨cs, rfl, hsz⟩ := hv
  obtain ⟨fuel, hf⟩ := h
  obtain ⟨f0, f1, hu, o0, o1, t0, t1⟩ := und41
  obtain ⟨y0, y1, n, _, hl, g0, g1⟩ := trod_struct2 hu hf
  rw [show Tryz.prog.cellsOf 41 = 2 by kernel_rfl] at hsz
  obtain ⟨cl⟩ := cs
  match cl, hsz with
  | [c0, c1], _ =>
    rw [o0, t0, cells5] at g0
    rw [o1, t1, cells5] at g1
    obtain ⟨n0, e0, _, w0⟩ := DataW.trod_int Tryz.underlying5 g0
    obtain ⟨n1, e1, _, w1⟩ := DataW.trod_int Tryz.underlying5 g1
    simp [Value.cells] at e0 e1
    subst e0 e1
    have b0 : 0 ≤ n0 ∧ n0 ≤ 255 := by simpa [Lit.wf, IntKind.min, IntKind.max, IntKind.signed, IntKind.bits] using w0
    have b1 : 0 ≤ n1 ∧ n1 ≤ 255 := by simpa [Lit.wf, IntKind.min, IntKind.max, IntKind.signed, IntKind.bits] using w1
    obtain ⟨c, rfl⟩ : ∃ c : Nat, n0 = c := ⟨n0.toNat, by omega⟩
    obtain ⟨e, rfl⟩ : ∃ e : Nat, n1 = e := ⟨n1.toNat, by omega⟩
    exact ⟨c, e, rfl, by omega, by omega⟩

noncomputable abbrev w0 (os : Os) : World := World.laidAll Tryz.prog os laids
abbrev args0 : Array Value := #[.agg #[.int .u8 0, .int .u8 0], .string ⟨#[]⟩]
theorem shaped0 (os : Os) : World.Shaped Tryz.prog ((w0 os).forCall (fun _ _ => 0) ⟨#[], args0, []⟩) := World.shaped_of_ZipB (by kernel_rfl) (by kernel_rfl)
theorem met0 (os : Os) : laidMetH Tryz.prog laids ((w0 os).forCall (fun _ _ => 0) ⟨#[], args0, []⟩).memory := by
  rw [MakeChecks.laidMetH_plain _ _ _ (by kernel_rfl)]
  exact laidMet_laidAll _ (by kernel_rfl) (by kernel_rfl)
theorem okIn0 (os : Os) : Input.okWideB Tryz.checked.prog ((w0 os).forCall (fun _ _ => 0) ⟨#[], args0, []⟩) 5 ⟨#[], args0, []⟩ = true := by kernel_rfl
theorem pre0 (os : Os) (H : Type) (enc : TypeId × Value → H) : ChangeSpec.preB enc Tryz.checked.prog Tryz.f5 Rows.noticeTextsSpec [] false ((w0 os).forCall (fun _ _ => 0) ⟨#[], args0, []⟩).memory args0 8 = true := by kernel_rfl
theorem sized0 (os : Os) (H : Type) (enc : TypeId × Value → H) : ChangeSpec.sizedB enc Tryz.checked.prog Tryz.f5 Rows.noticeTextsSpec false ((w0 os).forCall (fun _ _ => 0) ⟨#[], args0, []⟩).memory args0 8 = true := by kernel_rfl
set_option maxRecDepth 100000 in
theorem lifted (os : Os) (started : os.Started) (H : Type) (enc : TypeId × Value → H) :
    ReturnsInHanded {} Tryz.checked os 5 .any (fun w args => (Rows.noticeTextsSpec.pre enc Tryz.prog Tryz.f5 [] false w args ∧ laidMetH Tryz.prog laids w) ∧ sizedMet enc Tryz.prog Tryz.f5 (OpenSpec.ofChange Rows.noticeTextsSpec) false w args)
      (Rows.noticeTextsSpec.post enc Tryz.prog Tryz.f5 false true false false) := by
  refine returnsInHanded_and_shaped (C := Tryz.checked) (X := fun w _ => laidMetH Tryz.prog laids w) (fun _ _ _ hh h => h.of_heap hh) ownNone started (by kernel_rfl) Tryz.func5
    (ChangeSpec.witness_shaped (enc := enc) (C := Tryz.checked) (os := os) (X := fun w _ => laidMetH Tryz.prog laids w) false (w0 os) args0 8 (World.laidAll_os _ _ _) (shaped0 os) (okIn0 os) (pre0 os H enc) (sized0 os H enc) (met0 os)) ?_
  intro W base args ds gs before hval0 hW _ hL hsh
  have hval : ∀ (j : Nat) t v, Tryz.f5.params[j]? = some t → args[j]? = some v → Value.okWide Tryz.prog W .any base t v := hval0
  have hW' := hW
  obtain ⟨p, q, hA0, hV, rfl, hfz, hnd⟩ := hW
  have hA : DataW.TrodAll enc Tryz.prog W 0 (fun _ => true) true Tryz.f5.params.toList args.toList ds p := hA0
  rw [Tryz.params5] at hA hval
  obtain ⟨v0, vs0, d0, ds0, p0, q0, hargs0, rfl, rfl, h0, r0⟩ := trodAll_cons hA
  obtain ⟨v1, vs1, d1, ds1, p1, q1, hargs1, rfl, rfl, h1, r1⟩ := trodAll_cons r0
  obtain ⟨rfl, rfl, rfl⟩ := trodAll_nil r1
  obtain rfl : args = #[v0, v1] := by cases args; simp_all
  obtain ⟨rfl, rfl⟩ := trodVars_none hV
  have k0 := h0
  have k1 := h1
  have lt0 : ∀ x ∈ p0, x.block < W.heap.size := by obtain ⟨m, hm⟩ := k0; exact DataW.trod_lt m _ _ _ hm
  have lt1 : ∀ x ∈ p1, x.block < W.heap.size := by obtain ⟨m, hm⟩ := k1; exact DataW.trod_lt m _ _ _ hm
  obtain ⟨f0, f1, hu41, _⟩ := und41
  obtain ⟨c, e, rfl, hc, he⟩ := code_arg (okWide_struct hu41 (hval 0 41 v0 rfl rfl)) h0
  obtain ⟨s, rfl, rfl, rfl, hs⟩ := Go.ChangeMaps.open_string Tryz.underlying9 (hval 1 9 v1 rfl rfl) h1
  rw [MakeChecks.laidMetH_plain _ _ _ (by kernel_rfl)] at hL
  have hG : GlobN W := ⟨hsh, pow_tab (Lib.laidMet.reads hL (by simp [laids])), names_cells (Lib.laidMet.reads hL (by simp [laids])), lens_cells (Lib.laidMet.reads hL (by simp [laids]))⟩
  clear hA0 hval0
  obtain ⟨l, rfl⟩ : ∃ l : List UInt8, s = ⟨l.toArray⟩ := ⟨s.data.toList, by simp⟩
  refine (NoticeTexts_walk W hG c e hc he l (by simpa [ByteArray.size, maxLen] using hs)).mono fun x W' ⟨hx, bel⟩ => ?_
  subst hx
  exact ⟨_, rfl, _, _, _, [], _, [], hW', trodAll_mk1 (shut_bool Tryz.underlying4 _), (trodAll_cons_mk (Below.trod laidOutT (by kernel_rfl) (of_decide_eq_true (by kernel_rfl)) k0 bel lt0) (trodAll_cons_mk (Below.trod laidOutT (by kernel_rfl) (of_decide_eq_true (by kernel_rfl)) k1 bel lt1) trodAll_mk0)), rfl, bel.frame _, fun h => by cases h⟩

/-! ### The closed facts of the row, one by one (together the kernel wants more than 10 GB) -/
theorem kf0 : (Rows.noticeTextsRow.wf (OpenSpec.ofChange Rows.noticeTextsSpec)) = true := by kernel_rfl
theorem kf1 : (laidOutB Tryz.prog) = true := by kernel_rfl
theorem kf2 : (mapsRowed Tryz.prog) = true := by kernel_rfl
theorem kf3 : (Tryz.f5.params.all (Tryz.prog.readableRec ·)) = true := by kernel_rfl
theorem kf4 : (namedTie Tryz.prog Rows.noticeTextsRow.named Rows.noticeTextsSpec.vars) = true := by kernel_rfl
theorem kf5 : ((Rows.noticeTextsRow.stops == [])) = true := by kernel_rfl
theorem kf6 : ((Tryz.prog.stops == [])) = true := by kernel_rfl
theorem kf7 : ((Rows.noticeTextsRow.knobs == [])) = true := by kernel_rfl
theorem kf8 : ((Tryz.prog.stopKnobs == [])) = true := by kernel_rfl
theorem kf9 : ((Rows.noticeTextsRow.inPlace == Tryz.prog.inPlace 5)) = true := by kernel_rfl
theorem kf10 : ((Rows.noticeTextsRow.unfollowed == Tryz.prog.unfollowed 5)) = true := by kernel_rfl
theorem kf11 : ((Rows.noticeTextsRow.recurses == Tryz.prog.recurses 5)) = true := by kernel_rfl
theorem kf12 : ((Rows.noticeTextsRow.named == Tryz.prog.varsNamed 5)) = true := by kernel_rfl
theorem kf13 : ((Rows.noticeTextsRow.maps == (Tryz.f5.params.toList ++ Rows.noticeTextsSpec.plain.varTypes Tryz.prog).any (Tryz.prog.mapsRec ·))) = true := by kernel_rfl
theorem kf14 : ((Rows.noticeTextsRow.ifaces == (Tryz.f5.params.toList ++ Rows.noticeTextsSpec.plain.varTypes Tryz.prog).any (Tryz.prog.ifacesRec ·))) = true := by kernel_rfl
theorem kf15 : ((Rows.noticeTextsRow.mapsOut == Tryz.prog.mapsAmong Tryz.f5.resultTypes.toList)) = true := by kernel_rfl
theorem kf16 : ((Rows.noticeTextsRow.loops == (Tryz.f5.params.toList ++ Rows.noticeTextsSpec.plain.varTypes Tryz.prog).any (Tryz.prog.loopsFrom ·))) = true := by kernel_rfl
theorem kf17 : ((Rows.noticeTextsRow.wideKeys == (Tryz.f5.params.toList ++ Rows.noticeTextsSpec.plain.varTypes Tryz.prog ++ Tryz.f5.resultTypes.toList).any (Tryz.prog.wideKeysFrom ·))) = true := by kernel_rfl
theorem kf18 : (Rows.noticeTextsSpec.vars.all (Tryz.prog.varReadable ·)) = true := by kernel_rfl
theorem kf19 : (Tryz.f5.resultTypes.all (fun t => Tryz.prog.readableRec t && decide (t < Tryz.prog.types.size))) = true := by kernel_rfl
theorem kf20 : ((Rows.noticeTextsRow.ifacesOut == Tryz.f5.resultTypes.toList.any (Tryz.prog.ifacesRec ·))) = true := by kernel_rfl
theorem kf21 : ((Rows.noticeTextsRow.loopsOut == Tryz.f5.resultTypes.toList.any (Tryz.prog.loopsFrom ·))) = true := by kernel_rfl
theorem kf22 : ((Rows.noticeTextsRow.plainKeys == Tryz.prog.plainKeys)) = true := by kernel_rfl
theorem kf23 : (Rows.noticeTextsRow.shortTexts.isNone) = true := by kernel_rfl
theorem kf24 : (Tryz.prog.stopsHeard) = true := by kernel_rfl
theorem kf25 : (Tryz.prog.mayEnter) = true := by kernel_rfl
theorem kf26 : ((Rows.noticeTextsRow.lifted == Tryz.prog.liftsFinal)) = true := by kernel_rfl
theorem kf27 : ((Tryz.prog.make == some Rows.noticeTextsRow.make)) = true := by kernel_rfl
theorem kf29 : ((Rows.noticeTextsRow.pinned == Rows.noticeTextsRow.pinnedBy)) = true := by kernel_rfl
theorem kf30 : ((Rows.noticeTextsRow.veiled == (Tryz.f5.params.toList ++ Rows.noticeTextsSpec.plain.varTypes Tryz.prog ++ Tryz.f5.resultTypes.toList).any (Tryz.prog.veiledRec ·))) = true := by kernel_rfl
theorem kf31 : (Rows.noticeTextsRow.veiledFits Tryz.prog Tryz.f5.params.toList (Tryz.f5.params.toList ++ Rows.noticeTextsSpec.plain.varTypes Tryz.prog ++ Tryz.f5.resultTypes.toList)) = true := by kernel_rfl
theorem closed : joinedFacts Tryz.prog 5 Tryz.f5 Rows.noticeTextsSpec Rows.noticeTextsRow = true := by
  simp only [joinedFacts, Bool.and_eq_true]
  exact ⟨⟨⟨⟨⟨⟨⟨⟨⟨⟨⟨⟨⟨⟨⟨⟨⟨⟨⟨⟨⟨⟨⟨⟨⟨⟨⟨⟨⟨⟨⟨kf0, kf1⟩, kf2⟩, kf3⟩, kf4⟩, kf5⟩, kf6⟩, kf7⟩, kf8⟩, kf9⟩, kf10⟩, kf11⟩, kf12⟩, kf13⟩, kf14⟩, kf15⟩, kf16⟩, kf17⟩, kf18⟩, kf19⟩, kf20⟩, kf21⟩, kf22⟩, kf23⟩, kf24⟩, kf25⟩, kf26⟩, kf27⟩, (by kernel_rfl)⟩, kf29⟩, kf30⟩, kf31⟩

theorem named5 : Tryz.prog.funcNamed "consulate/consulatelaw12.NoticeTexts" = some 5 := by kernel_rfl
theorem inst5 : Tryz.f5.isInstance Tryz.prog Rows.noticeTextsRow.origin Rows.noticeTextsRow.targs := of_decide_eq_true (by kernel_rfl)
theorem wrap5 : Tryz.f5.isWrapper Tryz.prog Rows.noticeTextsRow.wrapper Rows.noticeTextsRow.mainSum := by unfold Func.isWrapper; first | (rw [if_pos (by decide +kernel)]; kernel_rfl) | (rw [if_neg (by decide +kernel)]; exact ⟨rfl, rfl⟩)
theorem over : Rows.NoticeTextsSaid :=
  OpenClaim.holds_of_wide 5 Tryz.f5 rfl rfl rfl rfl rfl rfl rfl ⟨rfl, rfl, rfl, rfl, rfl⟩ rfl rfl rfl rfl rfl named5 Tryz.func5 closed
    inst5 wrap5 (fun os started H enc _ => lifted os started H enc)

end Go.Proofs.YtbphidmnkbfchaaGreatDoor.noticeTexts
namespace Go.Proofs.YtbphidmnkbfchaaGreatDoor
open Go
theorem noticeTexts_holds : Rows.NoticeTextsCardSaid :=
  Claim7.holds_tied_plain_at .later [] [.data, .data, .data, .data, .data, .data, .data, .sentinel, .sentinel, .widerDeep, .data, .data, .widerDeep, .pinned] true (true, "97af0faed26972c396a14c7ceccd76357a02213924c5091b5610bc02ded0919e") true
    noticeTexts.over (fun _ h => by cases h) (by kernel_rfl) (fun _ h => by cases h) noticeTexts_row_tie rfl ⟨rfl, rfl⟩ (by kernel_rfl) rfl
    (fun f fn hf hfn => by
      obtain rfl : f = 5 := Option.some.inj ((show Tryz.prog.funcNamed "consulate/consulatelaw12.NoticeTexts" = some 5 by kernel_rfl).symm.trans hf) |>.symm
      obtain rfl : fn = Tryz.f5 := (Option.some.inj (Tryz.func5.symm.trans hfn)).symm
      exact ⟨by kernel_rfl, fun j t ht => by
        rw [Tryz.params5] at ht
        have hm : t ∈ [41, 9] := by simpa using Array.mem_of_getElem? ht
        have hall : ([41, 9].all fun u => !Tryz.prog.wantsStandIn u) = true := by kernel_rfl
        exact (show Tryz.prog.wantsStandIn t = false by simpa using List.all_eq_true.1 hall t hm)⟩)
    (by kernel_rfl)
#print axioms noticeTexts_holds
end Go.Proofs.YtbphidmnkbfchaaGreatDoor
