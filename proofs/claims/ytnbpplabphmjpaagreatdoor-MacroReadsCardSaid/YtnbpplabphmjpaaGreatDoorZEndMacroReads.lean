/-
  Proved: praxinoscopelaw19.MacroReads returns true for every input and leaves its arguments as they were: the tied card Rows.MacroReadsCardSaid. Conditions: those of the card alone: the listed package variables hold what the program's text lays.
-/
import Derived.Test.YtnbpplabphmjpaaGreatDoorK5
namespace Go.Proofs.YtnbpplabphmjpaaGreatDoor
open Go.Lg Go.ChangeShapes Go.WideShapes Go.ChangeAt Go.RowKit
theorem reads_calls {W : World} {ps : List MemPlace} (h : DataW.LaidVars Tryz.prog W Rows.macroReadsRow.laid ps) (x0 : List UInt8) (A0 : Option Addr) (c0 : Nat) (b0 : BytesAt (M0 W) A0 c0 x0) (x1 : Int) (b1 : fits x1) (x2 : Int) (_ : fits x2) (x3 : Lst) :
    Calls Tryz.prog 3 #[.slice A0 x0.length c0, .int .i64 x1, .int .i64 x2, x3.v] W fun e W' => e = .returned (.bool true) ∧ ∃ M' O', (M0 W).le M' ∧ Inv M' O' W' ∧ Same W W' := by
  obtain ⟨h1, h2⟩ := tables h (by simp [Rows.macroReadsRow]) (by simp [Rows.macroReadsRow])
  refine (reads_spec (M := M0 W) (O := []) x0 A0 c0 x1 x2 x3 b0 b1.2 h1 h2 W (inv0 W)).mono fun e W' hh => ?_
  obtain ⟨_, M', O', ⟨v, rfl, rfl, rfl⟩, hle, hi, hs⟩ := hh
  exact ⟨rfl, M', _, hle, hi, hs⟩
theorem reads_types : ∀ t ∈ Tryz.f3.params.toList, t < Tryz.prog.types.size := by
  have h : (Tryz.f3.params.toList.all fun t => decide (t < Tryz.prog.types.size)) = true := by kernel_rfl
  intro t ht
  exact of_decide_eq_true (List.all_eq_true.1 h t ht)
set_option maxRecDepth 100000 in
theorem reads_lifted (os : Os) (started : os.Started) (H : Type) (enc : TypeId × Value → H) :
    ReturnsInHanded {} Tryz.checked os 3 .any (fun w args => (Rows.macroReadsSpec.pre enc Tryz.prog Tryz.f3 Rows.macroReadsRow.domain false w args ∧ laidMetH Tryz.prog Rows.macroReadsRow.laid w) ∧ sizedMet enc Tryz.prog Tryz.f3 (OpenSpec.ofChange Rows.macroReadsSpec) false w args)
      (Rows.macroReadsSpec.post enc Tryz.prog Tryz.f3 false true false false) := by
  refine returnsInHanded_of_change_and (C := Tryz.checked) (X := fun w _ => laidMetH Tryz.prog Rows.macroReadsRow.laid w) (fun _ _ _ hh h => h.of_heap hh) own started (by kernel_rfl) Tryz.func3
    (ChangeSpec.witness_shaped (enc := enc) (C := Tryz.checked) (os := os) (X := fun w _ => laidMetH Tryz.prog Rows.macroReadsRow.laid w) false (World.laidAll Tryz.prog os Rows.macroReadsRow.laid)
      #[.slice none 0 0, .int .i64 0, .int .i64 0, .agg #[.int .i64 0, .bool false, .int .i64 0, .int .i64 0]] 8 (World.laidAll_os _ _ _)
      (World.shaped_of_ZipB (by kernel_rfl) (by kernel_rfl)) (by kernel_rfl) (by kernel_rfl) (by kernel_rfl)
      (by rw [MakeChecks.laidMetH_plain _ _ _ (by kernel_rfl)]; exact laidMet_laidAll _ (by kernel_rfl) (by kernel_rfl))) ?_
  intro W base args ds gs before hval0 hW _ _ hL _
  have hval : ∀ (j : Nat) t v, Tryz.f3.params[j]? = some t → args[j]? = some v → Value.okWide Tryz.prog W .any base t v := hval0
  rw [MakeChecks.laidMetH_plain _ _ _ (by kernel_rfl)] at hL
  obtain ⟨ps, hL, _⟩ := hL
  have hW' := hW
  obtain ⟨p, q, hA0, hV, _, _, _⟩ := hW
  obtain ⟨v0, v1, v2, v3, d0, d1, d2, d3, p0, p1, p2, p3, rfl, rfl, _, h0, h1, h2, h3⟩ := trodAll_four (show DataW.TrodAll enc Tryz.prog W 0 (fun _ => true) true [22, 3, 3, 24] args.toList ds p from hA0)
  obtain ⟨rfl, _⟩ := trodVars_none hV
  obtain ⟨x0, A0, c0, rfl, b0⟩ := bytes_arg (hval 0 22 v0 (by kernel_rfl) rfl) h0
  obtain ⟨x1, rfl, b1⟩ := int_arg (hval 1 3 v1 (by kernel_rfl) rfl) h1
  obtain ⟨x2, rfl, b2⟩ := int_arg (hval 2 3 v2 (by kernel_rfl) rfl) h2
  obtain ⟨x3, rfl⟩ := lst_arg h3
  refine (reads_calls hL x0 A0 c0 b0 x1 b1 x2 b2 x3).mono fun e W' hh => ?_
  obtain ⟨rfl, M', O', hle, hi, hs⟩ := hh
  exact ⟨_, rfl, post_true kids full reads_types rfl rfl (by kernel_rfl) rfl hW' hs hi hle⟩
theorem band {a b : Bool} (h : a = true) (k : b = true) : (a && b) = true := by rw [h, k]; rfl
theorem reads_j0 : (fun (_ : Program) (_ : FuncId) (_ : Func) (s : ChangeSpec) (c : OpenClaim) => (c.wf (OpenSpec.ofChange s) : Bool)) Tryz.prog 3 Tryz.f3 Rows.macroReadsSpec Rows.macroReadsRow = true := by kernel_rfl
theorem reads_j1 : (fun (P : Program) (_ : FuncId) (_ : Func) (_ : ChangeSpec) (_ : OpenClaim) => (laidOutB P : Bool)) Tryz.prog 3 Tryz.f3 Rows.macroReadsSpec Rows.macroReadsRow = true := by kernel_rfl
theorem reads_j2 : (fun (P : Program) (_ : FuncId) (_ : Func) (_ : ChangeSpec) (_ : OpenClaim) => (mapsRowed P : Bool)) Tryz.prog 3 Tryz.f3 Rows.macroReadsSpec Rows.macroReadsRow = true := by kernel_rfl
theorem reads_j3 : (fun (P : Program) (_ : FuncId) (fn : Func) (_ : ChangeSpec) (_ : OpenClaim) => (fn.params.all (P.readableRec ·) : Bool)) Tryz.prog 3 Tryz.f3 Rows.macroReadsSpec Rows.macroReadsRow = true := by kernel_rfl
theorem reads_j4 : (fun (P : Program) (_ : FuncId) (_ : Func) (s : ChangeSpec) (c : OpenClaim) => (namedTie P c.named s.vars : Bool)) Tryz.prog 3 Tryz.f3 Rows.macroReadsSpec Rows.macroReadsRow = true := by kernel_rfl
theorem reads_j5 : (fun (_ : Program) (_ : FuncId) (_ : Func) (_ : ChangeSpec) (c : OpenClaim) => ((c.stops == []) : Bool)) Tryz.prog 3 Tryz.f3 Rows.macroReadsSpec Rows.macroReadsRow = true := by kernel_rfl
theorem reads_j6 : (fun (P : Program) (_ : FuncId) (_ : Func) (_ : ChangeSpec) (_ : OpenClaim) => ((P.stops == []) : Bool)) Tryz.prog 3 Tryz.f3 Rows.macroReadsSpec Rows.macroReadsRow = true := by kernel_rfl
theorem reads_j7 : (fun (_ : Program) (_ : FuncId) (_ : Func) (_ : ChangeSpec) (c : OpenClaim) => ((c.knobs == []) : Bool)) Tryz.prog 3 Tryz.f3 Rows.macroReadsSpec Rows.macroReadsRow = true := by kernel_rfl
theorem reads_j8 : (fun (P : Program) (_ : FuncId) (_ : Func) (_ : ChangeSpec) (_ : OpenClaim) => ((P.stopKnobs == []) : Bool)) Tryz.prog 3 Tryz.f3 Rows.macroReadsSpec Rows.macroReadsRow = true := by kernel_rfl
theorem reads_j9 : (fun (P : Program) (f : FuncId) (_ : Func) (_ : ChangeSpec) (c : OpenClaim) => ((c.inPlace == P.inPlace f) : Bool)) Tryz.prog 3 Tryz.f3 Rows.macroReadsSpec Rows.macroReadsRow = true := by kernel_rfl
theorem reads_j10 : (fun (P : Program) (f : FuncId) (_ : Func) (_ : ChangeSpec) (c : OpenClaim) => ((c.unfollowed == P.unfollowed f) : Bool)) Tryz.prog 3 Tryz.f3 Rows.macroReadsSpec Rows.macroReadsRow = true := by kernel_rfl
theorem reads_j11 : (fun (P : Program) (f : FuncId) (_ : Func) (_ : ChangeSpec) (c : OpenClaim) => ((c.recurses == P.recurses f) : Bool)) Tryz.prog 3 Tryz.f3 Rows.macroReadsSpec Rows.macroReadsRow = true := by kernel_rfl
theorem reads_j12 : (fun (P : Program) (f : FuncId) (_ : Func) (_ : ChangeSpec) (c : OpenClaim) => ((c.named == P.varsNamed f) : Bool)) Tryz.prog 3 Tryz.f3 Rows.macroReadsSpec Rows.macroReadsRow = true := by kernel_rfl
theorem reads_j13 : (fun (P : Program) (_ : FuncId) (fn : Func) (s : ChangeSpec) (c : OpenClaim) => ((c.maps == (fn.params.toList ++ s.plain.varTypes P).any (P.mapsRec ·)) : Bool)) Tryz.prog 3 Tryz.f3 Rows.macroReadsSpec Rows.macroReadsRow = true := by kernel_rfl
theorem reads_j14 : (fun (P : Program) (_ : FuncId) (fn : Func) (s : ChangeSpec) (c : OpenClaim) => ((c.ifaces == (fn.params.toList ++ s.plain.varTypes P).any (P.ifacesRec ·)) : Bool)) Tryz.prog 3 Tryz.f3 Rows.macroReadsSpec Rows.macroReadsRow = true := by kernel_rfl
theorem reads_j15 : (fun (P : Program) (_ : FuncId) (fn : Func) (_ : ChangeSpec) (c : OpenClaim) => ((c.mapsOut == P.mapsAmong fn.resultTypes.toList) : Bool)) Tryz.prog 3 Tryz.f3 Rows.macroReadsSpec Rows.macroReadsRow = true := by kernel_rfl
theorem reads_j16 : (fun (P : Program) (_ : FuncId) (fn : Func) (s : ChangeSpec) (c : OpenClaim) => ((c.loops == (fn.params.toList ++ s.plain.varTypes P).any (P.loopsFrom ·)) : Bool)) Tryz.prog 3 Tryz.f3 Rows.macroReadsSpec Rows.macroReadsRow = true := by kernel_rfl
theorem reads_j17 : (fun (P : Program) (_ : FuncId) (fn : Func) (s : ChangeSpec) (c : OpenClaim) => ((c.wideKeys == (fn.params.toList ++ s.plain.varTypes P ++ fn.resultTypes.toList).any (P.wideKeysFrom ·)) : Bool)) Tryz.prog 3 Tryz.f3 Rows.macroReadsSpec Rows.macroReadsRow = true := by kernel_rfl
theorem reads_j18 : (fun (P : Program) (_ : FuncId) (_ : Func) (s : ChangeSpec) (_ : OpenClaim) => (s.vars.all (P.varReadable ·) : Bool)) Tryz.prog 3 Tryz.f3 Rows.macroReadsSpec Rows.macroReadsRow = true := by kernel_rfl
theorem reads_j19 : (fun (P : Program) (_ : FuncId) (fn : Func) (_ : ChangeSpec) (_ : OpenClaim) => (fn.resultTypes.all (fun t => P.readableRec t && decide (t < P.types.size)) : Bool)) Tryz.prog 3 Tryz.f3 Rows.macroReadsSpec Rows.macroReadsRow = true := by kernel_rfl
theorem reads_j20 : (fun (P : Program) (_ : FuncId) (fn : Func) (_ : ChangeSpec) (c : OpenClaim) => ((c.ifacesOut == fn.resultTypes.toList.any (P.ifacesRec ·)) : Bool)) Tryz.prog 3 Tryz.f3 Rows.macroReadsSpec Rows.macroReadsRow = true := by kernel_rfl
theorem reads_j21 : (fun (P : Program) (_ : FuncId) (fn : Func) (_ : ChangeSpec) (c : OpenClaim) => ((c.loopsOut == fn.resultTypes.toList.any (P.loopsFrom ·)) : Bool)) Tryz.prog 3 Tryz.f3 Rows.macroReadsSpec Rows.macroReadsRow = true := by kernel_rfl
theorem reads_j22 : (fun (P : Program) (_ : FuncId) (_ : Func) (_ : ChangeSpec) (c : OpenClaim) => ((c.plainKeys == P.plainKeys) : Bool)) Tryz.prog 3 Tryz.f3 Rows.macroReadsSpec Rows.macroReadsRow = true := by kernel_rfl
theorem reads_j23 : (fun (_ : Program) (_ : FuncId) (_ : Func) (_ : ChangeSpec) (c : OpenClaim) => (c.shortTexts.isNone : Bool)) Tryz.prog 3 Tryz.f3 Rows.macroReadsSpec Rows.macroReadsRow = true := by kernel_rfl
theorem reads_j24 : (fun (P : Program) (_ : FuncId) (_ : Func) (_ : ChangeSpec) (_ : OpenClaim) => (P.stopsHeard : Bool)) Tryz.prog 3 Tryz.f3 Rows.macroReadsSpec Rows.macroReadsRow = true := by kernel_rfl
theorem reads_j25 : (fun (P : Program) (_ : FuncId) (_ : Func) (_ : ChangeSpec) (_ : OpenClaim) => (P.mayEnter : Bool)) Tryz.prog 3 Tryz.f3 Rows.macroReadsSpec Rows.macroReadsRow = true := by kernel_rfl
theorem reads_j26 : (fun (P : Program) (_ : FuncId) (_ : Func) (_ : ChangeSpec) (c : OpenClaim) => ((c.lifted == P.liftsFinal) : Bool)) Tryz.prog 3 Tryz.f3 Rows.macroReadsSpec Rows.macroReadsRow = true := by kernel_rfl
theorem reads_j27 : (fun (P : Program) (_ : FuncId) (_ : Func) (_ : ChangeSpec) (c : OpenClaim) => ((P.make == some c.make) : Bool)) Tryz.prog 3 Tryz.f3 Rows.macroReadsSpec Rows.macroReadsRow = true := by kernel_rfl
theorem reads_j28 : (fun (P : Program) (_ : FuncId) (fn : Func) (_ : ChangeSpec) (c : OpenClaim) => ((c.kinds == (if c.domain.isEmpty then [] else fn.params.toList.map fun t => match P.underlying t with | some (.int k) => some k | _ => none)) : Bool)) Tryz.prog 3 Tryz.f3 Rows.macroReadsSpec Rows.macroReadsRow = true := by kernel_rfl
theorem reads_j29 : (fun (_ : Program) (_ : FuncId) (_ : Func) (_ : ChangeSpec) (c : OpenClaim) => ((c.pinned == c.pinnedBy) : Bool)) Tryz.prog 3 Tryz.f3 Rows.macroReadsSpec Rows.macroReadsRow = true := by kernel_rfl
theorem reads_j30 : (fun (P : Program) (_ : FuncId) (fn : Func) (s : ChangeSpec) (c : OpenClaim) => ((c.veiled == (fn.params.toList ++ s.plain.varTypes P ++ fn.resultTypes.toList).any (P.veiledRec ·)) : Bool)) Tryz.prog 3 Tryz.f3 Rows.macroReadsSpec Rows.macroReadsRow = true := by kernel_rfl
theorem reads_j31 : (fun (P : Program) (_ : FuncId) (fn : Func) (s : ChangeSpec) (c : OpenClaim) => (c.veiledFits P fn.params.toList (fn.params.toList ++ s.plain.varTypes P ++ fn.resultTypes.toList) : Bool)) Tryz.prog 3 Tryz.f3 Rows.macroReadsSpec Rows.macroReadsRow = true := by kernel_rfl
theorem reads_named : Tryz.prog.funcNamed "praxinoscope/praxinoscopelaw19.MacroReads" = some 3 := by kernel_rfl
theorem reads_wf : Rows.macroReadsRow.wfByText (OpenSpec.ofChange Rows.macroReadsSpec) = true := by kernel_rfl
theorem reads_looks : true = Tryz.checked.prog.looks [] := by kernel_rfl
theorem reads_goes : false = Rows.macroReadsRow.goesBy Tryz.checked.prog := by kernel_rfl
theorem reads_main : Tryz.pinned.checked.prog.mainIs = some (true, "d2aed5080b5663b9de15d3dfdf1514acc96e0b09afa02fbfd0e97ff7e80397a3".toList) := by kernel_rfl
theorem reads_stand : ([22, 3, 3, 24].all fun u => !Tryz.prog.wantsStandIn u) = true := by kernel_rfl
set_option maxRecDepth 100000 in
theorem reads_closed : joinedFacts Tryz.prog 3 Tryz.f3 Rows.macroReadsSpec Rows.macroReadsRow = true := (band (band (band (band (band (band (band (band (band (band (band (band (band (band (band (band (band (band (band (band (band (band (band (band (band (band (band (band (band (band (band reads_j0 reads_j1) reads_j2) reads_j3) reads_j4) reads_j5) reads_j6) reads_j7) reads_j8) reads_j9) reads_j10) reads_j11) reads_j12) reads_j13) reads_j14) reads_j15) reads_j16) reads_j17) reads_j18) reads_j19) reads_j20) reads_j21) reads_j22) reads_j23) reads_j24) reads_j25) reads_j26) reads_j27) reads_j28) reads_j29) reads_j30) reads_j31)
theorem reads_wrap : Tryz.f3.isWrapper Tryz.prog Rows.macroReadsRow.wrapper Rows.macroReadsRow.mainSum := by unfold Func.isWrapper; first | (rw [if_pos (by decide +kernel)]; kernel_rfl) | (rw [if_neg (by decide +kernel)]; exact ⟨rfl, rfl⟩)
theorem reads_inst : Tryz.f3.isInstance Tryz.prog Rows.macroReadsRow.origin Rows.macroReadsRow.targs := of_decide_eq_true (by kernel_rfl)
theorem reads_holds : Rows.MacroReadsSaid :=
  OpenClaim.holds_of_wide 3 Tryz.f3 rfl rfl rfl rfl rfl rfl rfl ⟨rfl, rfl, rfl, rfl, rfl⟩ rfl rfl rfl rfl rfl reads_named Tryz.func3 reads_closed reads_inst reads_wrap (fun os started H enc _ => reads_lifted os started H enc)
theorem reads_card : Rows.MacroReadsCardSaid :=
  Claim7.holds_tied_plain_at .later [] [.data, .data, .data, .data, .sentinel, .sentinel, .listed, .data, .pinned] true (true, "d2aed5080b5663b9de15d3dfdf1514acc96e0b09afa02fbfd0e97ff7e80397a3") true reads_holds (fun _ h => by cases h) reads_wf (fun _ h => by cases h) macroReads_row_tie rfl ⟨rfl, rfl⟩ reads_main rfl
    (fun f fn hf hfn => by
      obtain rfl : f = 3 := Option.some.inj (reads_named.symm.trans hf) |>.symm
      obtain rfl : fn = Tryz.f3 := (Option.some.inj (Tryz.func3.symm.trans hfn)).symm
      exact ⟨reads_looks, fun j t ht => by
        rw [Tryz.params3] at ht
        have hm : t ∈ [22, 3, 3, 24] := by simpa using Array.mem_of_getElem? ht
        exact (show Tryz.prog.wantsStandIn t = false by simpa using List.all_eq_true.1 reads_stand t hm)⟩)
    reads_goes
#print axioms reads_card
end Go.Proofs.YtnbpplabphmjpaaGreatDoor
