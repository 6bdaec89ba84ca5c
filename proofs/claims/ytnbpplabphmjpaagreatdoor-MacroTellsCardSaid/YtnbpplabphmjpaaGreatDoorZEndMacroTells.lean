/-
  Proved: praxinoscopelaw19.MacroTells returns true for every input and leaves its arguments as they were: the tied card Rows.MacroTellsCardSaid. Conditions: those of the card alone: the listed package variables hold what the program's text lays.
-/
import Derived.Test.YtnbpplabphmjpaaGreatDoorK5
namespace Go.Proofs.YtnbpplabphmjpaaGreatDoor
open Go.Lg Go.ChangeShapes Go.WideShapes Go.ChangeAt Go.RowKit
theorem tells_calls {W : World} {ps : List MemPlace} (h : DataW.LaidVars Tryz.prog W Rows.macroTellsRow.laid ps) (x0 : Mac) (A0 : Option Addr) (c0 : Nat) (b0 : BlksAt (M0 W) A0 c0 x0.bs) (x1 : Lst) :
    Calls Tryz.prog 4 #[x0.v A0 c0, x1.v] W fun e W' => e = .returned (.bool true) ∧ ∃ M' O', (M0 W).le M' ∧ Inv M' O' W' ∧ Same W W' := by
  obtain ⟨h1, h2⟩ := tables h (by simp [Rows.macroTellsRow]) (by simp [Rows.macroTellsRow])
  refine (tells_spec (M := M0 W) (O := []) x0 x1 A0 c0 b0 h1 h2 W (inv0 W)).mono fun e W' hh => ?_
  obtain ⟨_, M', O', ⟨v, rfl, rfl, rfl⟩, hle, hi, hs⟩ := hh
  exact ⟨rfl, M', _, hle, hi, hs⟩
theorem tells_types : ∀ t ∈ Tryz.f4.params.toList, t < Tryz.prog.types.size := by
  have h : (Tryz.f4.params.toList.all fun t => decide (t < Tryz.prog.types.size)) = true := by kernel_rfl
  intro t ht
  exact of_decide_eq_true (List.all_eq_true.1 h t ht)
set_option maxRecDepth 100000 in
theorem tells_lifted (os : Os) (started : os.Started) (H : Type) (enc : TypeId × Value → H) :
    ReturnsInHanded {} Tryz.checked os 4 .any (fun w args => (Rows.macroTellsSpec.pre enc Tryz.prog Tryz.f4 Rows.macroTellsRow.domain false w args ∧ laidMetH Tryz.prog Rows.macroTellsRow.laid w) ∧ sizedMet enc Tryz.prog Tryz.f4 (OpenSpec.ofChange Rows.macroTellsSpec) false w args)
      (Rows.macroTellsSpec.post enc Tryz.prog Tryz.f4 false true false false) := by
  refine returnsInHanded_of_change_and (C := Tryz.checked) (X := fun w _ => laidMetH Tryz.prog Rows.macroTellsRow.laid w) (fun _ _ _ hh h => h.of_heap hh) own started (by kernel_rfl) Tryz.func4
    (ChangeSpec.witness_shaped (enc := enc) (C := Tryz.checked) (os := os) (X := fun w _ => laidMetH Tryz.prog Rows.macroTellsRow.laid w) false (World.laidAll Tryz.prog os Rows.macroTellsRow.laid)
      #[.agg #[.int .i64 0, .int .i64 0, .int .i64 0, .int .i64 0, .int .i64 0, .int .i64 0, .slice none 0 0], .agg #[.int .i64 0, .bool false, .int .i64 0, .int .i64 0]] 8 (World.laidAll_os _ _ _)
      (World.shaped_of_ZipB (by kernel_rfl) (by kernel_rfl)) (by kernel_rfl) (by kernel_rfl) (by kernel_rfl)
      (by rw [MakeChecks.laidMetH_plain _ _ _ (by kernel_rfl)]; exact laidMet_laidAll _ (by kernel_rfl) (by kernel_rfl))) ?_
  intro W base args ds gs before hval0 hW _ _ hL _
  have hval : ∀ (j : Nat) t v, Tryz.f4.params[j]? = some t → args[j]? = some v → Value.okWide Tryz.prog W .any base t v := hval0
  rw [MakeChecks.laidMetH_plain _ _ _ (by kernel_rfl)] at hL
  obtain ⟨ps, hL, _⟩ := hL
  have hW' := hW
  obtain ⟨p, q, hA0, hV, _, _, _⟩ := hW
  obtain ⟨v0, v1, d0, d1, p0, p1, rfl, rfl, _, h0, h1⟩ := trodAll_two (show DataW.TrodAll enc Tryz.prog W 0 (fun _ => true) true [29, 24] args.toList ds p from hA0)
  obtain ⟨rfl, _⟩ := trodVars_none hV
  obtain ⟨x0, A0, c0, rfl, b0⟩ := mac_arg h0
  obtain ⟨x1, rfl⟩ := lst_arg h1
  refine (tells_calls hL x0 A0 c0 b0 x1).mono fun e W' hh => ?_
  obtain ⟨rfl, M', O', hle, hi, hs⟩ := hh
  exact ⟨_, rfl, post_true kids full tells_types rfl rfl (by kernel_rfl) rfl hW' hs hi hle⟩
theorem band {a b : Bool} (h : a = true) (k : b = true) : (a && b) = true := by rw [h, k]; rfl
theorem tells_j0 : (fun (_ : Program) (_ : FuncId) (_ : Func) (s : ChangeSpec) (c : OpenClaim) => (c.wf (OpenSpec.ofChange s) : Bool)) Tryz.prog 4 Tryz.f4 Rows.macroTellsSpec Rows.macroTellsRow = true := by kernel_rfl
theorem tells_j1 : (fun (P : Program) (_ : FuncId) (_ : Func) (_ : ChangeSpec) (_ : OpenClaim) => (laidOutB P : Bool)) Tryz.prog 4 Tryz.f4 Rows.macroTellsSpec Rows.macroTellsRow = true := by kernel_rfl
theorem tells_j2 : (fun (P : Program) (_ : FuncId) (_ : Func) (_ : ChangeSpec) (_ : OpenClaim) => (mapsRowed P : Bool)) Tryz.prog 4 Tryz.f4 Rows.macroTellsSpec Rows.macroTellsRow = true := by kernel_rfl
theorem tells_j3 : (fun (P : Program) (_ : FuncId) (fn : Func) (_ : ChangeSpec) (_ : OpenClaim) => (fn.params.all (P.readableRec ·) : Bool)) Tryz.prog 4 Tryz.f4 Rows.macroTellsSpec Rows.macroTellsRow = true := by kernel_rfl
theorem tells_j4 : (fun (P : Program) (_ : FuncId) (_ : Func) (s : ChangeSpec) (c : OpenClaim) => (namedTie P c.named s.vars : Bool)) Tryz.prog 4 Tryz.f4 Rows.macroTellsSpec Rows.macroTellsRow = true := by kernel_rfl
theorem tells_j5 : (fun (_ : Program) (_ : FuncId) (_ : Func) (_ : ChangeSpec) (c : OpenClaim) => ((c.stops == []) : Bool)) Tryz.prog 4 Tryz.f4 Rows.macroTellsSpec Rows.macroTellsRow = true := by kernel_rfl
theorem tells_j6 : (fun (P : Program) (_ : FuncId) (_ : Func) (_ : ChangeSpec) (_ : OpenClaim) => ((P.stops == []) : Bool)) Tryz.prog 4 Tryz.f4 Rows.macroTellsSpec Rows.macroTellsRow = true := by kernel_rfl
theorem tells_j7 : (fun (_ : Program) (_ : FuncId) (_ : Func) (_ : ChangeSpec) (c : OpenClaim) => ((c.knobs == []) : Bool)) Tryz.prog 4 Tryz.f4 Rows.macroTellsSpec Rows.macroTellsRow = true := by kernel_rfl
theorem tells_j8 : (fun (P : Program) (_ : FuncId) (_ : Func) (_ : ChangeSpec) (_ : OpenClaim) => ((P.stopKnobs == []) : Bool)) Tryz.prog 4 Tryz.f4 Rows.macroTellsSpec Rows.macroTellsRow = true := by kernel_rfl
theorem tells_j9 : (fun (P : Program) (f : FuncId) (_ : Func) (_ : ChangeSpec) (c : OpenClaim) => ((c.inPlace == P.inPlace f) : Bool)) Tryz.prog 4 Tryz.f4 Rows.macroTellsSpec Rows.macroTellsRow = true := by kernel_rfl
theorem tells_j10 : (fun (P : Program) (f : FuncId) (_ : Func) (_ : ChangeSpec) (c : OpenClaim) => ((c.unfollowed == P.unfollowed f) : Bool)) Tryz.prog 4 Tryz.f4 Rows.macroTellsSpec Rows.macroTellsRow = true := by kernel_rfl
theorem tells_j11 : (fun (P : Program) (f : FuncId) (_ : Func) (_ : ChangeSpec) (c : OpenClaim) => ((c.recurses == P.recurses f) : Bool)) Tryz.prog 4 Tryz.f4 Rows.macroTellsSpec Rows.macroTellsRow = true := by kernel_rfl
theorem tells_j12 : (fun (P : Program) (f : FuncId) (_ : Func) (_ : ChangeSpec) (c : OpenClaim) => ((c.named == P.varsNamed f) : Bool)) Tryz.prog 4 Tryz.f4 Rows.macroTellsSpec Rows.macroTellsRow = true := by kernel_rfl
theorem tells_j13 : (fun (P : Program) (_ : FuncId) (fn : Func) (s : ChangeSpec) (c : OpenClaim) => ((c.maps == (fn.params.toList ++ s.plain.varTypes P).any (P.mapsRec ·)) : Bool)) Tryz.prog 4 Tryz.f4 Rows.macroTellsSpec Rows.macroTellsRow = true := by kernel_rfl
theorem tells_j14 : (fun (P : Program) (_ : FuncId) (fn : Func) (s : ChangeSpec) (c : OpenClaim) => ((c.ifaces == (fn.params.toList ++ s.plain.varTypes P).any (P.ifacesRec ·)) : Bool)) Tryz.prog 4 Tryz.f4 Rows.macroTellsSpec Rows.macroTellsRow = true := by kernel_rfl
theorem tells_j15 : (fun (P : Program) (_ : FuncId) (fn : Func) (_ : ChangeSpec) (c : OpenClaim) => ((c.mapsOut == P.mapsAmong fn.resultTypes.toList) : Bool)) Tryz.prog 4 Tryz.f4 Rows.macroTellsSpec Rows.macroTellsRow = true := by kernel_rfl
theorem tells_j16 : (fun (P : Program) (_ : FuncId) (fn : Func) (s : ChangeSpec) (c : OpenClaim) => ((c.loops == (fn.params.toList ++ s.plain.varTypes P).any (P.loopsFrom ·)) : Bool)) Tryz.prog 4 Tryz.f4 Rows.macroTellsSpec Rows.macroTellsRow = true := by kernel_rfl
theorem tells_j17 : (fun (P : Program) (_ : FuncId) (fn : Func) (s : ChangeSpec) (c : OpenClaim) => ((c.wideKeys == (fn.params.toList ++ s.plain.varTypes P ++ fn.resultTypes.toList).any (P.wideKeysFrom ·)) : Bool)) Tryz.prog 4 Tryz.f4 Rows.macroTellsSpec Rows.macroTellsRow = true := by kernel_rfl
theorem tells_j18 : (fun (P : Program) (_ : FuncId) (_ : Func) (s : ChangeSpec) (_ : OpenClaim) => (s.vars.all (P.varReadable ·) : Bool)) Tryz.prog 4 Tryz.f4 Rows.macroTellsSpec Rows.macroTellsRow = true := by kernel_rfl
theorem tells_j19 : (fun (P : Program) (_ : FuncId) (fn : Func) (_ : ChangeSpec) (_ : OpenClaim) => (fn.resultTypes.all (fun t => P.readableRec t && decide (t < P.types.size)) : Bool)) Tryz.prog 4 Tryz.f4 Rows.macroTellsSpec Rows.macroTellsRow = true := by kernel_rfl
theorem tells_j20 : (fun (P : Program) (_ : FuncId) (fn : Func) (_ : ChangeSpec) (c : OpenClaim) => ((c.ifacesOut == fn.resultTypes.toList.any (P.ifacesRec ·)) : Bool)) Tryz.prog 4 Tryz.f4 Rows.macroTellsSpec Rows.macroTellsRow = true := by kernel_rfl
theorem tells_j21 : (fun (P : Program) (_ : FuncId) (fn : Func) (_ : ChangeSpec) (c : OpenClaim) => ((c.loopsOut == fn.resultTypes.toList.any (P.loopsFrom ·)) : Bool)) Tryz.prog 4 Tryz.f4 Rows.macroTellsSpec Rows.macroTellsRow = true := by kernel_rfl
theorem tells_j22 : (fun (P : Program) (_ : FuncId) (_ : Func) (_ : ChangeSpec) (c : OpenClaim) => ((c.plainKeys == P.plainKeys) : Bool)) Tryz.prog 4 Tryz.f4 Rows.macroTellsSpec Rows.macroTellsRow = true := by kernel_rfl
theorem tells_j23 : (fun (_ : Program) (_ : FuncId) (_ : Func) (_ : ChangeSpec) (c : OpenClaim) => (c.shortTexts.isNone : Bool)) Tryz.prog 4 Tryz.f4 Rows.macroTellsSpec Rows.macroTellsRow = true := by kernel_rfl
theorem tells_j24 : (fun (P : Program) (_ : FuncId) (_ : Func) (_ : ChangeSpec) (_ : OpenClaim) => (P.stopsHeard : Bool)) Tryz.prog 4 Tryz.f4 Rows.macroTellsSpec Rows.macroTellsRow = true := by kernel_rfl
theorem tells_j25 : (fun (P : Program) (_ : FuncId) (_ : Func) (_ : ChangeSpec) (_ : OpenClaim) => (P.mayEnter : Bool)) Tryz.prog 4 Tryz.f4 Rows.macroTellsSpec Rows.macroTellsRow = true := by kernel_rfl
theorem tells_j26 : (fun (P : Program) (_ : FuncId) (_ : Func) (_ : ChangeSpec) (c : OpenClaim) => ((c.lifted == P.liftsFinal) : Bool)) Tryz.prog 4 Tryz.f4 Rows.macroTellsSpec Rows.macroTellsRow = true := by kernel_rfl
theorem tells_j27 : (fun (P : Program) (_ : FuncId) (_ : Func) (_ : ChangeSpec) (c : OpenClaim) => ((P.make == some c.make) : Bool)) Tryz.prog 4 Tryz.f4 Rows.macroTellsSpec Rows.macroTellsRow = true := by kernel_rfl
theorem tells_j28 : (fun (P : Program) (_ : FuncId) (fn : Func) (_ : ChangeSpec) (c : OpenClaim) => ((c.kinds == (if c.domain.isEmpty then [] else fn.params.toList.map fun t => match P.underlying t with | some (.int k) => some k | _ => none)) : Bool)) Tryz.prog 4 Tryz.f4 Rows.macroTellsSpec Rows.macroTellsRow = true := by kernel_rfl
theorem tells_j29 : (fun (_ : Program) (_ : FuncId) (_ : Func) (_ : ChangeSpec) (c : OpenClaim) => ((c.pinned == c.pinnedBy) : Bool)) Tryz.prog 4 Tryz.f4 Rows.macroTellsSpec Rows.macroTellsRow = true := by kernel_rfl
theorem tells_j30 : (fun (P : Program) (_ : FuncId) (fn : Func) (s : ChangeSpec) (c : OpenClaim) => ((c.veiled == (fn.params.toList ++ s.plain.varTypes P ++ fn.resultTypes.toList).any (P.veiledRec ·)) : Bool)) Tryz.prog 4 Tryz.f4 Rows.macroTellsSpec Rows.macroTellsRow = true := by kernel_rfl
theorem tells_j31 : (fun (P : Program) (_ : FuncId) (fn : Func) (s : ChangeSpec) (c : OpenClaim) => (c.veiledFits P fn.params.toList (fn.params.toList ++ s.plain.varTypes P ++ fn.resultTypes.toList) : Bool)) Tryz.prog 4 Tryz.f4 Rows.macroTellsSpec Rows.macroTellsRow = true := by kernel_rfl
theorem tells_named : Tryz.prog.funcNamed "praxinoscope/praxinoscopelaw19.MacroTells" = some 4 := by kernel_rfl
theorem tells_wf : Rows.macroTellsRow.wfByText (OpenSpec.ofChange Rows.macroTellsSpec) = true := by kernel_rfl
theorem tells_looks : true = Tryz.checked.prog.looks [] := by kernel_rfl
theorem tells_goes : false = Rows.macroTellsRow.goesBy Tryz.checked.prog := by kernel_rfl
theorem tells_main : Tryz.pinned.checked.prog.mainIs = some (true, "d2aed5080b5663b9de15d3dfdf1514acc96e0b09afa02fbfd0e97ff7e80397a3".toList) := by kernel_rfl
theorem tells_stand : ([29, 24].all fun u => !Tryz.prog.wantsStandIn u) = true := by kernel_rfl
set_option maxRecDepth 100000 in
theorem tells_closed : joinedFacts Tryz.prog 4 Tryz.f4 Rows.macroTellsSpec Rows.macroTellsRow = true := (band (band (band (band (band (band (band (band (band (band (band (band (band (band (band (band (band (band (band (band (band (band (band (band (band (band (band (band (band (band (band tells_j0 tells_j1) tells_j2) tells_j3) tells_j4) tells_j5) tells_j6) tells_j7) tells_j8) tells_j9) tells_j10) tells_j11) tells_j12) tells_j13) tells_j14) tells_j15) tells_j16) tells_j17) tells_j18) tells_j19) tells_j20) tells_j21) tells_j22) tells_j23) tells_j24) tells_j25) tells_j26) tells_j27) tells_j28) tells_j29) tells_j30) tells_j31)
theorem tells_wrap : Tryz.f4.isWrapper Tryz.prog Rows.macroTellsRow.wrapper Rows.macroTellsRow.mainSum := by unfold Func.isWrapper; first | (rw [if_pos (by decide +kernel)]; kernel_rfl) | (rw [if_neg (by decide +kernel)]; exact ⟨rfl, rfl⟩)
theorem tells_inst : Tryz.f4.isInstance Tryz.prog Rows.macroTellsRow.origin Rows.macroTellsRow.targs := of_decide_eq_true (by kernel_rfl)
theorem tells_holds : Rows.MacroTellsSaid :=
  OpenClaim.holds_of_wide 4 Tryz.f4 rfl rfl rfl rfl rfl rfl rfl ⟨rfl, rfl, rfl, rfl, rfl⟩ rfl rfl rfl rfl rfl tells_named Tryz.func4 tells_closed tells_inst tells_wrap (fun os started H enc _ => tells_lifted os started H enc)
theorem tells_card : Rows.MacroTellsCardSaid :=
  Claim7.holds_tied_plain_at .later [] [.data, .data, .data, .data, .sentinel, .sentinel, .listed, .data, .pinned] true (true, "d2aed5080b5663b9de15d3dfdf1514acc96e0b09afa02fbfd0e97ff7e80397a3") true tells_holds (fun _ h => by cases h) tells_wf (fun _ h => by cases h) macroTells_row_tie rfl ⟨rfl, rfl⟩ tells_main rfl
    (fun f fn hf hfn => by
      obtain rfl : f = 4 := Option.some.inj (tells_named.symm.trans hf) |>.symm
      obtain rfl : fn = Tryz.f4 := (Option.some.inj (Tryz.func4.symm.trans hfn)).symm
      exact ⟨tells_looks, fun j t ht => by
        rw [Tryz.params4] at ht
        have hm : t ∈ [29, 24] := by simpa using Array.mem_of_getElem? ht
        exact (show Tryz.prog.wantsStandIn t = false by simpa using List.all_eq_true.1 tells_stand t hm)⟩)
    tells_goes
#print axioms tells_card
end Go.Proofs.YtnbpplabphmjpaaGreatDoor
