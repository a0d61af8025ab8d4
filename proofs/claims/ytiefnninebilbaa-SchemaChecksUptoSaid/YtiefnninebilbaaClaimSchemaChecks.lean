/- The statement SchemaChecks, in the form for bounded arguments, out of the contract of the law's function; no condition. -/
import Derived.Test.YtiefnninebilbaaMsi
import Derived.Test.YtiefnninebilbaaMsj
import Derived.WalkKit
import Derived.ProofKit
import Derived.OpenShut
import Derived.JoinedCond
import Derived.ShutString
import Derived.ChangeOld
import Derived.Below
import Derived.Carry
import Derived.WideShapes
set_option linter.unusedVariables false
namespace Go.Proofs.Ytiefnninebilbaa.schemaChecks
open Go.ChangeShapes Go.WideShapes Go.ChangeAt Go.RowKit Go.Sx
theorem own : ownKnob Try.prog.godebug = none := by kernel_rfl
theorem laidOut : laidOutB Try.prog = true := by kernel_rfl
set_option maxRecDepth 100000 in
theorem contract (H : Type) (enc : TypeId × Value → H) (W : World) (base : Nat) (args : Array Value) (ds gs : List (DataW H)) (before : List MemPlace)
    (hval0 : ∀ (j : Nat) t v, Try.f3.params[j]? = some t → args[j]? = some v → Value.okWide Try.prog W .any base t v)
    (hW : DataW.Whole enc Try.prog Try.f3.params.toList Rows.schemaChecksSpec.vars false W args.toList ds gs before) (hk : Rows.uptoSmall H (ds ++ gs) = true) :
    Calls Try.prog 3 args W fun e W' => ∃ v, e = .returned v ∧ Rows.schemaChecksSpec.post enc Try.prog Try.f3 false true false false W args v W' := by
  have hval : ∀ (j : Nat) t v, Try.f3.params[j]? = some t → args[j]? = some v → Value.okWide Try.prog W .any base t v := hval0
  have hW' := hW
  obtain ⟨p, q, hA0, hV, rfl, hfz, hnd⟩ := hW
  have hA : DataW.TrodAll enc Try.prog W 0 (fun _ => true) true Try.f3.params.toList args.toList ds p := hA0
  rw [Try.params3] at hA hval
  obtain ⟨v0, vs0, d0, ds0, p0, q0, hargs, rfl, rfl, h0, r0⟩ := trodAll_cons hA
  obtain ⟨v1, vs1, d1, ds1, p1, q1, rfl, rfl, rfl, h1, r1⟩ := trodAll_cons r0
  obtain ⟨rfl, rfl, rfl⟩ := trodAll_nil r1
  obtain rfl : args = #[v0, v1] := by cases args; simp_all
  obtain ⟨rfl, rfl⟩ := trodVars_none hV
  have hb : Rows.uptoBulkAll (H := H) [d0, d1] ≤ 1048576 := by simpa [Rows.uptoSmall] using hk
  simp only [Rows.uptoBulkAll] at hb
  have lt0 : ∀ x ∈ p0, x.block < W.heap.size := by have k0 := h0; obtain ⟨m, hm⟩ := k0; exact DataW.trod_lt m _ _ _ hm
  obtain ⟨a0, ha0, hb0⟩ := arg_str (hval 0 9 v0 rfl rfl) h0
  have lt1 : ∀ x ∈ p1, x.block < W.heap.size := by have k1 := h1; obtain ⟨m, hm⟩ := k1; exact DataW.trod_lt m _ _ _ hm
  obtain ⟨a1, ha1, hb1⟩ := arg_table (hval 1 27 v1 rfl rfl) h1
  clear hA0 hval0 hval
  refine ((schemaChecks_fn a0 a1 (by omega)).calls #[v0, v1] W (Bk W) (fun _ h => h) rfl ?_).mono ?_
  · intro j z u hz hu
    match j, hz, hu with
    | 0, hz, hu => cases hz; cases hu; exact ha0
    | 1, hz, hu => cases hz; cases hu; exact ha1
    | j + 2, hz, hu => simp at hz
  · rintro e W' ⟨v, rfl, bel, hr⟩
    cases hr
    exact ⟨_, rfl, _, _, _, [], _, [], hW', trodAll_mk1 (shut_bool Try.underlying4 _), (trodAll_cons_mk (Below.trod laidOut (by kernel_rfl) (of_decide_eq_true (by kernel_rfl)) h0 bel lt0) (trodAll_cons_mk (Below.trod laidOut (by kernel_rfl) (of_decide_eq_true (by kernel_rfl)) h1 bel lt1) trodAll_mk0)), rfl, bel.frame _, fun h => by cases h⟩
set_option maxRecDepth 100000 in
theorem lifted (os : Os) (started : os.Started) (H : Type) (enc : TypeId × Value → H) (F : Stop.Interp) :
    ReturnsInHanded {} Try.checked os 3 .any ((Rows.OpenSpec.upto Rows.schemaChecksSpec).pre6 enc Try.prog Try.f3 Rows.schemaChecksUptoRow.domain false) (((Rows.OpenSpec.upto Rows.schemaChecksSpec).at F).post enc Try.prog Try.f3 false true false false) := by
  refine returnsInHanded_of_cond (C := Try.checked) (s := Rows.OpenSpec.upto Rows.schemaChecksSpec) (k := Rows.uptoSmall) rfl own started (by kernel_rfl) Try.func3
    (OpenSpec.witness (enc := enc) (C := Try.checked) (s := Rows.OpenSpec.upto Rows.schemaChecksSpec) (k := Rows.uptoSmall) rfl false ⟨#[], #[(.string ByteArray.empty), (.agg #[.string ByteArray.empty, .slice none 0 0, .slice none 0 0, .slice none 0 0, .slice none 0 0])], []⟩ 8 (by kernel_rfl) (by kernel_rfl) (by kernel_rfl)
      (x := ([.lit (.string []), .agg [.lit (.string []), .nil, .nil, .nil, .nil]], [], [])) (by kernel_rfl) rfl (by kernel_rfl)) ?_
  intro W base args ds gs before hval hW _ hk _
  exact contract H enc W base args ds gs before hval hW hk
theorem k0 : (Rows.schemaChecksUptoRow.wf (OpenSpec.ofChange (Rows.OpenSpec.upto Rows.schemaChecksSpec).bare)) = true := by kernel_rfl
set_option maxRecDepth 100000 in
theorem k1 : (laidOutB Try.pinned.checked.prog) = true := facts.k1
set_option maxRecDepth 100000 in
theorem k2 : (mapsRowed Try.pinned.checked.prog) = true := facts.k2
theorem k3 : (Try.f3.params.all (Try.pinned.checked.prog.readableRec ·)) = true := by kernel_rfl
theorem k4 : (namedTie Try.pinned.checked.prog Rows.schemaChecksUptoRow.named (Rows.OpenSpec.upto Rows.schemaChecksSpec).bare.vars) = true := by kernel_rfl
theorem k5 : ((Rows.schemaChecksUptoRow.stops == [])) = true := by kernel_rfl
set_option maxRecDepth 100000 in
theorem k6 : ((Try.pinned.checked.prog.stops == [])) = true := facts.k6
theorem k7 : ((Rows.schemaChecksUptoRow.knobs == [])) = true := by kernel_rfl
set_option maxRecDepth 100000 in
theorem k8 : ((Try.pinned.checked.prog.stopKnobs == [])) = true := facts.k8
theorem k9 : ((Rows.schemaChecksUptoRow.inPlace == Try.pinned.checked.prog.inPlace 3)) = true := by kernel_rfl
theorem k10 : ((Rows.schemaChecksUptoRow.unfollowed == Try.pinned.checked.prog.unfollowed 3)) = true := by kernel_rfl
theorem k11 : ((Rows.schemaChecksUptoRow.recurses == Try.pinned.checked.prog.recurses 3)) = true := by kernel_rfl
theorem k12 : ((Rows.schemaChecksUptoRow.named == Try.pinned.checked.prog.varsNamed 3)) = true := by kernel_rfl
theorem k13 : ((Rows.schemaChecksUptoRow.maps == (Try.f3.params.toList ++ (Rows.OpenSpec.upto Rows.schemaChecksSpec).bare.plain.varTypes Try.pinned.checked.prog).any (Try.pinned.checked.prog.mapsRec ·))) = true := by kernel_rfl
theorem k14 : ((Rows.schemaChecksUptoRow.ifaces == (Try.f3.params.toList ++ (Rows.OpenSpec.upto Rows.schemaChecksSpec).bare.plain.varTypes Try.pinned.checked.prog).any (Try.pinned.checked.prog.ifacesRec ·))) = true := by kernel_rfl
theorem k15 : ((Rows.schemaChecksUptoRow.mapsOut == Try.pinned.checked.prog.mapsAmong Try.f3.resultTypes.toList)) = true := by kernel_rfl
theorem k16 : ((Rows.schemaChecksUptoRow.loops == (Try.f3.params.toList ++ (Rows.OpenSpec.upto Rows.schemaChecksSpec).bare.plain.varTypes Try.pinned.checked.prog).any (Try.pinned.checked.prog.loopsFrom ·))) = true := by kernel_rfl
theorem k17 : ((Rows.schemaChecksUptoRow.wideKeys == (Try.f3.params.toList ++ (Rows.OpenSpec.upto Rows.schemaChecksSpec).bare.plain.varTypes Try.pinned.checked.prog ++ Try.f3.resultTypes.toList).any (Try.pinned.checked.prog.wideKeysFrom ·))) = true := by kernel_rfl
theorem k18 : ((Rows.OpenSpec.upto Rows.schemaChecksSpec).bare.vars.all (Try.pinned.checked.prog.varReadable ·)) = true := by kernel_rfl
theorem k19 : (Try.f3.resultTypes.all (fun t => Try.pinned.checked.prog.readableRec t && decide (t < Try.pinned.checked.prog.types.size))) = true := by kernel_rfl
theorem k20 : ((Rows.schemaChecksUptoRow.ifacesOut == Try.f3.resultTypes.toList.any (Try.pinned.checked.prog.ifacesRec ·))) = true := by kernel_rfl
theorem k21 : ((Rows.schemaChecksUptoRow.loopsOut == Try.f3.resultTypes.toList.any (Try.pinned.checked.prog.loopsFrom ·))) = true := by kernel_rfl
set_option maxRecDepth 100000 in
theorem k22 : ((Rows.schemaChecksUptoRow.plainKeys == Try.pinned.checked.prog.plainKeys)) = true := facts.k22
theorem k23 : (Rows.schemaChecksUptoRow.shortTexts.isNone) = true := by kernel_rfl
set_option maxRecDepth 100000 in
theorem k24 : (Try.pinned.checked.prog.stopsHeard) = true := facts.k24
set_option maxRecDepth 100000 in
theorem k25 : (Try.pinned.checked.prog.mayEnter) = true := facts.k25
set_option maxRecDepth 100000 in
theorem k26 : ((Rows.schemaChecksUptoRow.lifted == Try.pinned.checked.prog.liftsFinal)) = true := facts.k26
set_option maxRecDepth 100000 in
theorem k27 : ((Try.pinned.checked.prog.make == some Rows.schemaChecksUptoRow.make)) = true := facts.k27
theorem k28 : ((Rows.schemaChecksUptoRow.kinds == (if Rows.schemaChecksUptoRow.domain.isEmpty then [] else Try.f3.params.toList.map fun t => match Try.pinned.checked.prog.underlying t with | some (.int k) => some k | _ => none))) = true := by kernel_rfl
theorem k29 : ((Rows.schemaChecksUptoRow.pinned == Rows.schemaChecksUptoRow.pinnedBy)) = true := by kernel_rfl
theorem k30 : ((Rows.schemaChecksUptoRow.veiled == (Try.f3.params.toList ++ (Rows.OpenSpec.upto Rows.schemaChecksSpec).bare.plain.varTypes Try.pinned.checked.prog ++ Try.f3.resultTypes.toList).any (Try.pinned.checked.prog.veiledRec ·))) = true := by kernel_rfl
theorem k31 : (Rows.schemaChecksUptoRow.veiledFits Try.pinned.checked.prog Try.f3.params.toList (Try.f3.params.toList ++ (Rows.OpenSpec.upto Rows.schemaChecksSpec).bare.plain.varTypes Try.pinned.checked.prog ++ Try.f3.resultTypes.toList)) = true := by kernel_rfl
set_option maxRecDepth 100000 in
theorem closed : joinedFacts Try.pinned.checked.prog 3 Try.f3 (Rows.OpenSpec.upto Rows.schemaChecksSpec).bare Rows.schemaChecksUptoRow = true := facts.andI (facts.andI (facts.andI (facts.andI (facts.andI (facts.andI (facts.andI (facts.andI (facts.andI (facts.andI (facts.andI (facts.andI (facts.andI (facts.andI (facts.andI (facts.andI (facts.andI (facts.andI (facts.andI (facts.andI (facts.andI (facts.andI (facts.andI (facts.andI (facts.andI (facts.andI (facts.andI (facts.andI (facts.andI (facts.andI (facts.andI (k0) k1) k2) k3) k4) k5) k6) k7) k8) k9) k10) k11) k12) k13) k14) k15) k16) k17) k18) k19) k20) k21) k22) k23) k24) k25) k26) k27) k28) k29) k30) k31
theorem named : Try.pinned.checked.prog.funcNamed Rows.schemaChecksUptoRow.func = some 3 := by kernel_rfl
theorem inst : Try.f3.isInstance Try.pinned.checked.prog Rows.schemaChecksUptoRow.origin Rows.schemaChecksUptoRow.targs := of_decide_eq_true (by kernel_rfl)
theorem wrap : Try.f3.isWrapper Try.pinned.checked.prog Rows.schemaChecksUptoRow.wrapper Rows.schemaChecksUptoRow.mainSum := by unfold Func.isWrapper; first | (rw [if_pos (by decide +kernel)]; kernel_rfl) | (rw [if_neg (by decide +kernel)]; exact ⟨rfl, rfl⟩)
theorem over : Rows.schemaChecksUptoRow.holds Try.pinned (Rows.OpenSpec.upto Rows.schemaChecksSpec) :=
  OpenClaim.holds_of_cond 3 Try.f3 rfl rfl rfl rfl rfl rfl rfl ⟨rfl, rfl, rfl, rfl, rfl⟩ rfl rfl rfl rfl rfl named Try.func3 closed inst wrap
    (fun os started H enc _ F => lifted os started H enc F)
theorem proved : Rows.SchemaChecksUptoSaid := over
end Go.Proofs.Ytiefnninebilbaa.schemaChecks
namespace Go.Proofs.Ytiefnninebilbaa
/-- The row, under a short name, for the claim. -/
theorem schemaChecks_holds : Rows.SchemaChecksUptoSaid := schemaChecks.proved
#print axioms schemaChecks_holds
end Go.Proofs.Ytiefnninebilbaa
