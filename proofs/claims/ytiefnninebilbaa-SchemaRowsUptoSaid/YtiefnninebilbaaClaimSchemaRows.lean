/- The statement SchemaRows, in the form for bounded arguments, out of the contract of the law's function; no condition. -/
import Derived.Test.YtiefnninebilbaaMsi
import Derived.Test.YtiefnninebilbaaMsj
import Derived.WalkKit
import Derived.ProofKit
import Derived.OpenShut
import Derived.JoinedCond
import Derived.ShutString
import Derived.ChangeOld
import Derived.Below
import Derived.Carry
import Derived.WideShapes
set_option linter.unusedVariables false
namespace Go.Proofs.Ytiefnninebilbaa.schemaRows
open Go.ChangeShapes Go.WideShapes Go.ChangeAt Go.RowKit Go.Sx
theorem own : ownKnob Try.prog.godebug = none := by kernel_rfl
theorem laidOut : laidOutB Try.prog = true := by kernel_rfl
set_option maxRecDepth 100000 in
theorem contract (H : Type) (enc : TypeId × Value → H) (W : World) (base : Nat) (args : Array Value) (ds gs : List (DataW H)) (before : List MemPlace)
    (hval0 : ∀ (j : Nat) t v, Try.f6.params[j]? = some t → args[j]? = some v → Value.okWide Try.prog W .any base t v)
    (hW : DataW.Whole enc Try.prog Try.f6.params.toList Rows.schemaRowsSpec.vars false W args.toList ds gs before) (hk : Rows.uptoSmall H (ds ++ gs) = true) :
    Calls Try.prog 6 args W fun e W' => ∃ v, e = .returned v ∧ Rows.schemaRowsSpec.post enc Try.prog Try.f6 false true false false W args v W' := by
  have hval : ∀ (j : Nat) t v, Try.f6.params[j]? = some t → args[j]? = some v → Value.okWide Try.prog W .any base t v := hval0
  have hW' := hW
  obtain ⟨p, q, hA0, hV, rfl, hfz, hnd⟩ := hW
  have hA : DataW.TrodAll enc Try.prog W 0 (fun _ => true) true Try.f6.params.toList args.toList ds p := hA0
  rw [Try.params6] at hA hval
  obtain ⟨v0, vs0, d0, ds0, p0, q0, hargs, rfl, rfl, h0, r0⟩ := trodAll_cons hA
  obtain ⟨v1, vs1, d1, ds1, p1, q1, rfl, rfl, rfl, h1, r1⟩ := trodAll_cons r0
  obtain ⟨rfl, rfl, rfl⟩ := trodAll_nil r1
  obtain rfl : args = #[v0, v1] := by cases args; simp_all
  obtain ⟨rfl, rfl⟩ := trodVars_none hV
  have hb : Rows.uptoBulkAll (H := H) [d0, d1] ≤ 1048576 := by simpa [Rows.uptoSmall] using hk
  simp only [Rows.uptoBulkAll] at hb
  have lt0 : ∀ x ∈ p0, x.block < W.heap.size := by have k0 := h0; obtain ⟨m, hm⟩ := k0; exact DataW.trod_lt m _ _ _ hm
  obtain ⟨a0, ha0, hb0⟩ := arg_table (hval 0 27 v0 rfl rfl) h0
  have lt1 : ∀ x ∈ p1, x.block < W.heap.size := by have k1 := h1; obtain ⟨m, hm⟩ := k1; exact DataW.trod_lt m _ _ _ hm
  obtain ⟨a1, ha1, hb1⟩ := arg_vals (hval 1 33 v1 rfl rfl) h1
  clear hA0 hval0 hval
  refine ((schemaRows_fn a0 a1 (by omega)).calls #[v0, v1] W (Bk W) (fun _ h => h) rfl ?_).mono ?_
  · intro j z u hz hu
    match j, hz, hu with
    | 0, hz, hu => cases hz; cases hu; exact ha0
    | 1, hz, hu => cases hz; cases hu; exact ha1
    | j + 2, hz, hu => simp at hz
  · rintro e W' ⟨v, rfl, bel, hr⟩
    cases hr
    exact ⟨_, rfl, _, _, _, [], _, [], hW', trodAll_mk1 (shut_bool Try.underlying4 _), (trodAll_cons_mk (Below.trod laidOut (by kernel_rfl) (of_decide_eq_true (by kernel_rfl)) h0 bel lt0) (trodAll_cons_mk (Below.trod laidOut (by kernel_rfl) (of_decide_eq_true (by kernel_rfl)) h1 bel lt1) trodAll_mk0)), rfl, bel.frame _, fun h => by cases h⟩
set_option maxRecDepth 100000 in
theorem lifted (os : Os) (started : os.Started) (H : Type) (enc : TypeId × Value → H) (F : Stop.Interp) :
    ReturnsInHanded {} Try.checked os 6 .any ((Rows.OpenSpec.upto Rows.schemaRowsSpec).pre6 enc Try.prog Try.f6 Rows.schemaRowsUptoRow.domain false) (((Rows.OpenSpec.upto Rows.schemaRowsSpec).at F).post enc Try.prog Try.f6 false true false false) := by
  refine returnsInHanded_of_cond (C := Try.checked) (s := Rows.OpenSpec.upto Rows.schemaRowsSpec) (k := Rows.uptoSmall) rfl own started (by kernel_rfl) Try.func6
    (OpenSpec.witness (enc := enc) (C := Try.checked) (s := Rows.OpenSpec.upto Rows.schemaRowsSpec) (k := Rows.uptoSmall) rfl false ⟨#[], #[(.agg #[.string ByteArray.empty, .slice none 0 0, .slice none 0 0, .slice none 0 0, .slice none 0 0]), (.slice none 0 0)], []⟩ 8 (by kernel_rfl) (by kernel_rfl) (by kernel_rfl)
      (x := ([.agg [.lit (.string []), .nil, .nil, .nil, .nil], .nil], [], [])) (by kernel_rfl) rfl (by kernel_rfl)) ?_
  intro W base args ds gs before hval hW _ hk _
  exact contract H enc W base args ds gs before hval hW hk
theorem k0 : (Rows.schemaRowsUptoRow.wf (OpenSpec.ofChange (Rows.OpenSpec.upto Rows.schemaRowsSpec).bare)) = true := by kernel_rfl
set_option maxRecDepth 100000 in
theorem k1 : (laidOutB Try.pinned.checked.prog) = true := facts.k1
set_option maxRecDepth 100000 in
theorem k2 : (mapsRowed Try.pinned.checked.prog) = true := facts.k2
theorem k3 : (Try.f6.params.all (Try.pinned.checked.prog.readableRec ·)) = true := by kernel_rfl
theorem k4 : (namedTie Try.pinned.checked.prog Rows.schemaRowsUptoRow.named (Rows.OpenSpec.upto Rows.schemaRowsSpec).bare.vars) = true := by kernel_rfl
theorem k5 : ((Rows.schemaRowsUptoRow.stops == [])) = true := by kernel_rfl
set_option maxRecDepth 100000 in
theorem k6 : ((Try.pinned.checked.prog.stops == [])) = true := facts.k6
theorem k7 : ((Rows.schemaRowsUptoRow.knobs == [])) = true := by kernel_rfl
set_option maxRecDepth 100000 in
theorem k8 : ((Try.pinned.checked.prog.stopKnobs == [])) = true := facts.k8
theorem k9 : ((Rows.schemaRowsUptoRow.inPlace == Try.pinned.checked.prog.inPlace 6)) = true := by kernel_rfl
theorem k10 : ((Rows.schemaRowsUptoRow.unfollowed == Try.pinned.checked.prog.unfollowed 6)) = true := by kernel_rfl
theorem k11 : ((Rows.schemaRowsUptoRow.recurses == Try.pinned.checked.prog.recurses 6)) = true := by kernel_rfl
theorem k12 : ((Rows.schemaRowsUptoRow.named == Try.pinned.checked.prog.varsNamed 6)) = true := by kernel_rfl
theorem k13 : ((Rows.schemaRowsUptoRow.maps == (Try.f6.params.toList ++ (Rows.OpenSpec.upto Rows.schemaRowsSpec).bare.plain.varTypes Try.pinned.checked.prog).any (Try.pinned.checked.prog.mapsRec ·))) = true := by kernel_rfl
theorem k14 : ((Rows.schemaRowsUptoRow.ifaces == (Try.f6.params.toList ++ (Rows.OpenSpec.upto Rows.schemaRowsSpec).bare.plain.varTypes Try.pinned.checked.prog).any (Try.pinned.checked.prog.ifacesRec ·))) = true := by kernel_rfl
theorem k15 : ((Rows.schemaRowsUptoRow.mapsOut == Try.pinned.checked.prog.mapsAmong Try.f6.resultTypes.toList)) = true := by kernel_rfl
theorem k16 : ((Rows.schemaRowsUptoRow.loops == (Try.f6.params.toList ++ (Rows.OpenSpec.upto Rows.schemaRowsSpec).bare.plain.varTypes Try.pinned.checked.prog).any (Try.pinned.checked.prog.loopsFrom ·))) = true := by kernel_rfl
theorem k17 : ((Rows.schemaRowsUptoRow.wideKeys == (Try.f6.params.toList ++ (Rows.OpenSpec.upto Rows.schemaRowsSpec).bare.plain.varTypes Try.pinned.checked.prog ++ Try.f6.resultTypes.toList).any (Try.pinned.checked.prog.wideKeysFrom ·))) = true := by kernel_rfl
theorem k18 : ((Rows.OpenSpec.upto Rows.schemaRowsSpec).bare.vars.all (Try.pinned.checked.prog.varReadable ·)) = true := by kernel_rfl
theorem k19 : (Try.f6.resultTypes.all (fun t => Try.pinned.checked.prog.readableRec t && decide (t < Try.pinned.checked.prog.types.size))) = true := by kernel_rfl
theorem k20 : ((Rows.schemaRowsUptoRow.ifacesOut == Try.f6.resultTypes.toList.any (Try.pinned.checked.prog.ifacesRec ·))) = true := by kernel_rfl
theorem k21 : ((Rows.schemaRowsUptoRow.loopsOut == Try.f6.resultTypes.toList.any (Try.pinned.checked.prog.loopsFrom ·))) = true := by kernel_rfl
set_option maxRecDepth 100000 in
theorem k22 : ((Rows.schemaRowsUptoRow.plainKeys == Try.pinned.checked.prog.plainKeys)) = true := facts.k22
theorem k23 : (Rows.schemaRowsUptoRow.shortTexts.isNone) = true := by kernel_rfl
set_option maxRecDepth 100000 in
theorem k24 : (Try.pinned.checked.prog.stopsHeard) = true := facts.k24
set_option maxRecDepth 100000 in
theorem k25 : (Try.pinned.checked.prog.mayEnter) = true := facts.k25
set_option maxRecDepth 100000 in
theorem k26 : ((Rows.schemaRowsUptoRow.lifted == Try.pinned.checked.prog.liftsFinal)) = true := facts.k26
set_option maxRecDepth 100000 in
theorem k27 : ((Try.pinned.checked.prog.make == some Rows.schemaRowsUptoRow.make)) = true := facts.k27
theorem k28 : ((Rows.schemaRowsUptoRow.kinds == (if Rows.schemaRowsUptoRow.domain.isEmpty then [] else Try.f6.params.toList.map fun t => match Try.pinned.checked.prog.underlying t with | some (.int k) => some k | _ => none))) = true := by kernel_rfl
theorem k29 : ((Rows.schemaRowsUptoRow.pinned == Rows.schemaRowsUptoRow.pinnedBy)) = true := by kernel_rfl
theorem k30 : ((Rows.schemaRowsUptoRow.veiled == (Try.f6.params.toList ++ (Rows.OpenSpec.upto Rows.schemaRowsSpec).bare.plain.varTypes Try.pinned.checked.prog ++ Try.f6.resultTypes.toList).any (Try.pinned.checked.prog.veiledRec ·))) = true := by kernel_rfl
theorem k31 : (Rows.schemaRowsUptoRow.veiledFits Try.pinned.checked.prog Try.f6.params.toList (Try.f6.params.toList ++ (Rows.OpenSpec.upto Rows.schemaRowsSpec).bare.plain.varTypes Try.pinned.checked.prog ++ Try.f6.resultTypes.toList)) = true := by kernel_rfl
set_option maxRecDepth 100000 in
theorem closed : joinedFacts Try.pinned.checked.prog 6 Try.f6 (Rows.OpenSpec.upto Rows.schemaRowsSpec).bare Rows.schemaRowsUptoRow = true := facts.andI (facts.andI (facts.andI (facts.andI (facts.andI (facts.andI (facts.andI (facts.andI (facts.andI (facts.andI (facts.andI (facts.andI (facts.andI (facts.andI (facts.andI (facts.andI (facts.andI (facts.andI (facts.andI (facts.andI (facts.andI (facts.andI (facts.andI (facts.andI (facts.andI (facts.andI (facts.andI (facts.andI (facts.andI (facts.andI (facts.andI (k0) k1) k2) k3) k4) k5) k6) k7) k8) k9) k10) k11) k12) k13) k14) k15) k16) k17) k18) k19) k20) k21) k22) k23) k24) k25) k26) k27) k28) k29) k30) k31
theorem named : Try.pinned.checked.prog.funcNamed Rows.schemaRowsUptoRow.func = some 6 := by kernel_rfl
theorem inst : Try.f6.isInstance Try.pinned.checked.prog Rows.schemaRowsUptoRow.origin Rows.schemaRowsUptoRow.targs := of_decide_eq_true (by kernel_rfl)
theorem wrap : Try.f6.isWrapper Try.pinned.checked.prog Rows.schemaRowsUptoRow.wrapper Rows.schemaRowsUptoRow.mainSum := by unfold Func.isWrapper; first | (rw [if_pos (by decide +kernel)]; kernel_rfl) | (rw [if_neg (by decide +kernel)]; exact ⟨rfl, rfl⟩)
theorem over : Rows.schemaRowsUptoRow.holds Try.pinned (Rows.OpenSpec.upto Rows.schemaRowsSpec) :=
  OpenClaim.holds_of_cond 6 Try.f6 rfl rfl rfl rfl rfl rfl rfl ⟨rfl, rfl, rfl, rfl, rfl⟩ rfl rfl rfl rfl rfl named Try.func6 closed inst wrap
    (fun os started H enc _ F => lifted os started H enc F)
theorem proved : Rows.SchemaRowsUptoSaid := over
end Go.Proofs.Ytiefnninebilbaa.schemaRows
namespace Go.Proofs.Ytiefnninebilbaa
/-- The row, under a short name, for the claim. -/
theorem schemaRows_holds : Rows.SchemaRowsUptoSaid := schemaRows.proved
#print axioms schemaRows_holds
end Go.Proofs.Ytiefnninebilbaa
