/- The statement SchemaFinds, in the form for bounded arguments, out of the contract of the law's function; no condition. -/
import Derived.Test.YtiefnninebilbaaMsi
import Derived.Test.YtiefnninebilbaaMsj
import Derived.WalkKit
import Derived.ProofKit
import Derived.OpenShut
import Derived.JoinedCond
import Derived.ShutString
import Derived.ChangeOld
import Derived.Below
import Derived.Carry
import Derived.WideShapes
set_option linter.unusedVariables false
namespace Go.Proofs.Ytiefnninebilbaa.schemaFinds
open Go.ChangeShapes Go.WideShapes Go.ChangeAt Go.RowKit Go.Sx
theorem own : ownKnob Try.prog.godebug = none := by kernel_rfl
theorem laidOut : laidOutB Try.prog = true := by kernel_rfl
set_option maxRecDepth 100000 in
theorem contract (H : Type) (enc : TypeId × Value → H) (W : World) (base : Nat) (args : Array Value) (ds gs : List (DataW H)) (before : List MemPlace)
    (hval0 : ∀ (j : Nat) t v, Try.f5.params[j]? = some t → args[j]? = some v → Value.okWide Try.prog W .any base t v)
    (hW : DataW.Whole enc Try.prog Try.f5.params.toList Rows.schemaFindsSpec.vars false W args.toList ds gs before) (hk : Rows.uptoSmall H (ds ++ gs) = true) :
    Calls Try.prog 5 args W fun e W' => ∃ v, e = .returned v ∧ Rows.schemaFindsSpec.post enc Try.prog Try.f5 false true false false W args v W' := by
  have hval : ∀ (j : Nat) t v, Try.f5.params[j]? = some t → args[j]? = some v → Value.okWide Try.prog W .any base t v := hval0
  have hW' := hW
  obtain ⟨p, q, hA0, hV, rfl, hfz, hnd⟩ := hW
  have hA : DataW.TrodAll enc Try.prog W 0 (fun _ => true) true Try.f5.params.toList args.toList ds p := hA0
  rw [Try.params5] at hA hval
  obtain ⟨v0, vs0, d0, ds0, p0, q0, hargs, rfl, rfl, h0, r0⟩ := trodAll_cons hA
  obtain ⟨rfl, rfl, rfl⟩ := trodAll_nil r0
  obtain rfl : args = #[v0] := by cases args; simp_all
  obtain ⟨rfl, rfl⟩ := trodVars_none hV
  have hb : Rows.uptoBulkAll (H := H) [d0] ≤ 1048576 := by simpa [Rows.uptoSmall] using hk
  simp only [Rows.uptoBulkAll] at hb
  have lt0 : ∀ x ∈ p0, x.block < W.heap.size := by have k0 := h0; obtain ⟨m, hm⟩ := k0; exact DataW.trod_lt m _ _ _ hm
  obtain ⟨a0, ha0, hb0⟩ := arg_table (hval 0 27 v0 rfl rfl) h0
  clear hA0 hval0 hval
  refine ((schemaFinds_fn a0 (by omega)).calls #[v0] W (Bk W) (fun _ h => h) rfl ?_).mono ?_
  · intro j z u hz hu
    match j, hz, hu with
    | 0, hz, hu => cases hz; cases hu; exact ha0
    | j + 1, hz, hu => simp at hz
  · rintro e W' ⟨v, rfl, bel, hr⟩
    cases hr
    exact ⟨_, rfl, _, _, _, [], _, [], hW', trodAll_mk1 (shut_bool Try.underlying4 _), (trodAll_cons_mk (Below.trod laidOut (by kernel_rfl) (of_decide_eq_true (by kernel_rfl)) h0 bel lt0) trodAll_mk0), rfl, bel.frame _, fun h => by cases h⟩
set_option maxRecDepth 100000 in
theorem lifted (os : Os) (started : os.Started) (H : Type) (enc : TypeId × Value → H) (F : Stop.Interp) :
    ReturnsInHanded {} Try.checked os 5 .any ((Rows.OpenSpec.upto Rows.schemaFindsSpec).pre6 enc Try.prog Try.f5 Rows.schemaFindsUptoRow.domain false) (((Rows.OpenSpec.upto Rows.schemaFindsSpec).at F).post enc Try.prog Try.f5 false true false false) := by
  refine returnsInHanded_of_cond (C := Try.checked) (s := Rows.OpenSpec.upto Rows.schemaFindsSpec) (k := Rows.uptoSmall) rfl own started (by kernel_rfl) Try.func5
    (OpenSpec.witness (enc := enc) (C := Try.checked) (s := Rows.OpenSpec.upto Rows.schemaFindsSpec) (k := Rows.uptoSmall) rfl false ⟨#[], #[(.agg #[.string ByteArray.empty, .slice none 0 0, .slice none 0 0, .slice none 0 0, .slice none 0 0])], []⟩ 8 (by kernel_rfl) (by kernel_rfl) (by kernel_rfl)
      (x := ([.agg [.lit (.string []), .nil, .nil, .nil, .nil]], [], [])) (by kernel_rfl) rfl (by kernel_rfl)) ?_
  intro W base args ds gs before hval hW _ hk _
  exact contract H enc W base args ds gs before hval hW hk
theorem k0 : (Rows.schemaFindsUptoRow.wf (OpenSpec.ofChange (Rows.OpenSpec.upto Rows.schemaFindsSpec).bare)) = true := by kernel_rfl
set_option maxRecDepth 100000 in
theorem k1 : (laidOutB Try.pinned.checked.prog) = true := facts.k1
set_option maxRecDepth 100000 in
theorem k2 : (mapsRowed Try.pinned.checked.prog) = true := facts.k2
theorem k3 : (Try.f5.params.all (Try.pinned.checked.prog.readableRec ·)) = true := by kernel_rfl
theorem k4 : (namedTie Try.pinned.checked.prog Rows.schemaFindsUptoRow.named (Rows.OpenSpec.upto Rows.schemaFindsSpec).bare.vars) = true := by kernel_rfl
theorem k5 : ((Rows.schemaFindsUptoRow.stops == [])) = true := by kernel_rfl
set_option maxRecDepth 100000 in
theorem k6 : ((Try.pinned.checked.prog.stops == [])) = true := facts.k6
theorem k7 : ((Rows.schemaFindsUptoRow.knobs == [])) = true := by kernel_rfl
set_option maxRecDepth 100000 in
theorem k8 : ((Try.pinned.checked.prog.stopKnobs == [])) = true := facts.k8
theorem k9 : ((Rows.schemaFindsUptoRow.inPlace == Try.pinned.checked.prog.inPlace 5)) = true := by kernel_rfl
theorem k10 : ((Rows.schemaFindsUptoRow.unfollowed == Try.pinned.checked.prog.unfollowed 5)) = true := by kernel_rfl
theorem k11 : ((Rows.schemaFindsUptoRow.recurses == Try.pinned.checked.prog.recurses 5)) = true := by kernel_rfl
theorem k12 : ((Rows.schemaFindsUptoRow.named == Try.pinned.checked.prog.varsNamed 5)) = true := by kernel_rfl
theorem k13 : ((Rows.schemaFindsUptoRow.maps == (Try.f5.params.toList ++ (Rows.OpenSpec.upto Rows.schemaFindsSpec).bare.plain.varTypes Try.pinned.checked.prog).any (Try.pinned.checked.prog.mapsRec ·))) = true := by kernel_rfl
theorem k14 : ((Rows.schemaFindsUptoRow.ifaces == (Try.f5.params.toList ++ (Rows.OpenSpec.upto Rows.schemaFindsSpec).bare.plain.varTypes Try.pinned.checked.prog).any (Try.pinned.checked.prog.ifacesRec ·))) = true := by kernel_rfl
theorem k15 : ((Rows.schemaFindsUptoRow.mapsOut == Try.pinned.checked.prog.mapsAmong Try.f5.resultTypes.toList)) = true := by kernel_rfl
theorem k16 : ((Rows.schemaFindsUptoRow.loops == (Try.f5.params.toList ++ (Rows.OpenSpec.upto Rows.schemaFindsSpec).bare.plain.varTypes Try.pinned.checked.prog).any (Try.pinned.checked.prog.loopsFrom ·))) = true := by kernel_rfl
theorem k17 : ((Rows.schemaFindsUptoRow.wideKeys == (Try.f5.params.toList ++ (Rows.OpenSpec.upto Rows.schemaFindsSpec).bare.plain.varTypes Try.pinned.checked.prog ++ Try.f5.resultTypes.toList).any (Try.pinned.checked.prog.wideKeysFrom ·))) = true := by kernel_rfl
theorem k18 : ((Rows.OpenSpec.upto Rows.schemaFindsSpec).bare.vars.all (Try.pinned.checked.prog.varReadable ·)) = true := by kernel_rfl
theorem k19 : (Try.f5.resultTypes.all (fun t => Try.pinned.checked.prog.readableRec t && decide (t < Try.pinned.checked.prog.types.size))) = true := by kernel_rfl
theorem k20 : ((Rows.schemaFindsUptoRow.ifacesOut == Try.f5.resultTypes.toList.any (Try.pinned.checked.prog.ifacesRec ·))) = true := by kernel_rfl
theorem k21 : ((Rows.schemaFindsUptoRow.loopsOut == Try.f5.resultTypes.toList.any (Try.pinned.checked.prog.loopsFrom ·))) = true := by kernel_rfl
set_option maxRecDepth 100000 in
theorem k22 : ((Rows.schemaFindsUptoRow.plainKeys == Try.pinned.checked.prog.plainKeys)) = true := facts.k22
theorem k23 : (Rows.schemaFindsUptoRow.shortTexts.isNone) = true := by kernel_rfl
set_option maxRecDepth 100000 in
theorem k24 : (Try.pinned.checked.prog.stopsHeard) = true := facts.k24
set_option maxRecDepth 100000 in
theorem k25 : (Try.pinned.checked.prog.mayEnter) = true := facts.k25
set_option maxRecDepth 100000 in
theorem k26 : ((Rows.schemaFindsUptoRow.lifted == Try.pinned.checked.prog.liftsFinal)) = true := facts.k26
set_option maxRecDepth 100000 in
theorem k27 : ((Try.pinned.checked.prog.make == some Rows.schemaFindsUptoRow.make)) = true := facts.k27
theorem k28 : ((Rows.schemaFindsUptoRow.kinds == (if Rows.schemaFindsUptoRow.domain.isEmpty then [] else Try.f5.params.toList.map fun t => match Try.pinned.checked.prog.underlying t with | some (.int k) => some k | _ => none))) = true := by kernel_rfl
theorem k29 : ((Rows.schemaFindsUptoRow.pinned == Rows.schemaFindsUptoRow.pinnedBy)) = true := by kernel_rfl
theorem k30 : ((Rows.schemaFindsUptoRow.veiled == (Try.f5.params.toList ++ (Rows.OpenSpec.upto Rows.schemaFindsSpec).bare.plain.varTypes Try.pinned.checked.prog ++ Try.f5.resultTypes.toList).any (Try.pinned.checked.prog.veiledRec ·))) = true := by kernel_rfl
theorem k31 : (Rows.schemaFindsUptoRow.veiledFits Try.pinned.checked.prog Try.f5.params.toList (Try.f5.params.toList ++ (Rows.OpenSpec.upto Rows.schemaFindsSpec).bare.plain.varTypes Try.pinned.checked.prog ++ Try.f5.resultTypes.toList)) = true := by kernel_rfl
set_option maxRecDepth 100000 in
theorem closed : joinedFacts Try.pinned.checked.prog 5 Try.f5 (Rows.OpenSpec.upto Rows.schemaFindsSpec).bare Rows.schemaFindsUptoRow = true := facts.andI (facts.andI (facts.andI (facts.andI (facts.andI (facts.andI (facts.andI (facts.andI (facts.andI (facts.andI (facts.andI (facts.andI (facts.andI (facts.andI (facts.andI (facts.andI (facts.andI (facts.andI (facts.andI (facts.andI (facts.andI (facts.andI (facts.andI (facts.andI (facts.andI (facts.andI (facts.andI (facts.andI (facts.andI (facts.andI (facts.andI (k0) k1) k2) k3) k4) k5) k6) k7) k8) k9) k10) k11) k12) k13) k14) k15) k16) k17) k18) k19) k20) k21) k22) k23) k24) k25) k26) k27) k28) k29) k30) k31
theorem named : Try.pinned.checked.prog.funcNamed Rows.schemaFindsUptoRow.func = some 5 := by kernel_rfl
theorem inst : Try.f5.isInstance Try.pinned.checked.prog Rows.schemaFindsUptoRow.origin Rows.schemaFindsUptoRow.targs := of_decide_eq_true (by kernel_rfl)
theorem wrap : Try.f5.isWrapper Try.pinned.checked.prog Rows.schemaFindsUptoRow.wrapper Rows.schemaFindsUptoRow.mainSum := by unfold Func.isWrapper; first | (rw [if_pos (by decide +kernel)]; kernel_rfl) | (rw [if_neg (by decide +kernel)]; exact ⟨rfl, rfl⟩)
theorem over : Rows.schemaFindsUptoRow.holds Try.pinned (Rows.OpenSpec.upto Rows.schemaFindsSpec) :=
  OpenClaim.holds_of_cond 5 Try.f5 rfl rfl rfl rfl rfl rfl rfl ⟨rfl, rfl, rfl, rfl, rfl⟩ rfl rfl rfl rfl rfl named Try.func5 closed inst wrap
    (fun os started H enc _ F => lifted os started H enc F)
theorem proved : Rows.SchemaFindsUptoSaid := over
end Go.Proofs.Ytiefnninebilbaa.schemaFinds
namespace Go.Proofs.Ytiefnninebilbaa
/-- The row, under a short name, for the claim. -/
theorem schemaFinds_holds : Rows.SchemaFindsUptoSaid := schemaFinds.proved
#print axioms schemaFinds_holds
end Go.Proofs.Ytiefnninebilbaa
