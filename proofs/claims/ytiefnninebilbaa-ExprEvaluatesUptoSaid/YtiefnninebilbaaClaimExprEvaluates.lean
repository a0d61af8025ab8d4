/- The statement ExprEvaluates, in the form for bounded arguments, out of the contract of the law's function; no condition. -/
import Derived.Test.YtiefnninebilbaaMq
import Derived.Test.YtiefnninebilbaaMk
import Derived.WalkKit
import Derived.ProofKit
import Derived.OpenShut
import Derived.JoinedCond
import Derived.ShutString
import Derived.ChangeOld
import Derived.Below
import Derived.Carry
import Derived.WideShapes
set_option linter.unusedVariables false
namespace Go.Proofs.Ytiefnninebilbaa.exprEvaluates
open Go.ChangeShapes Go.WideShapes Go.ChangeAt Go.RowKit Go.Sx
theorem own : ownKnob Try.prog.godebug = none := by kernel_rfl
theorem laidOut : laidOutB Try.prog = true := by kernel_rfl
set_option maxRecDepth 100000 in
theorem contract (H : Type) (enc : TypeId × Value → H) (W : World) (base : Nat) (args : Array Value) (ds gs : List (DataW H)) (before : List MemPlace)
    (hval0 : ∀ (j : Nat) t v, Try.f9.params[j]? = some t → args[j]? = some v → Value.okWide Try.prog W .any base t v)
    (hW : DataW.Whole enc Try.prog Try.f9.params.toList Rows.exprEvaluatesSpec.vars false W args.toList ds gs before) (hk : Rows.uptoSmall H (ds ++ gs) = true) :
    Calls Try.prog 9 args W fun e W' => ∃ v, e = .returned v ∧ Rows.exprEvaluatesSpec.post enc Try.prog Try.f9 false true false false W args v W' := by
  have hval : ∀ (j : Nat) t v, Try.f9.params[j]? = some t → args[j]? = some v → Value.okWide Try.prog W .any base t v := hval0
  have hW' := hW
  obtain ⟨p, q, hA0, hV, rfl, hfz, hnd⟩ := hW
  have hA : DataW.TrodAll enc Try.prog W 0 (fun _ => true) true Try.f9.params.toList args.toList ds p := hA0
  rw [Try.params9] at hA hval
  obtain ⟨v0, vs0, d0, ds0, p0, q0, hargs, rfl, rfl, h0, r0⟩ := trodAll_cons hA
  obtain ⟨v1, vs1, d1, ds1, p1, q1, rfl, rfl, rfl, h1, r1⟩ := trodAll_cons r0
  obtain ⟨rfl, rfl, rfl⟩ := trodAll_nil r1
  obtain rfl : args = #[v0, v1] := by cases args; simp_all
  obtain ⟨rfl, rfl⟩ := trodVars_none hV
  have hb : Rows.uptoBulkAll (H := H) [d0, d1] ≤ 1048576 := by simpa [Rows.uptoSmall] using hk
  simp only [Rows.uptoBulkAll] at hb
  have lt0 : ∀ x ∈ p0, x.block < W.heap.size := by have k0 := h0; obtain ⟨m, hm⟩ := k0; exact DataW.trod_lt m _ _ _ hm
  obtain ⟨a0, ha0, hb0⟩ := arg_ex (hval 0 49 v0 rfl rfl) h0
  have lt1 : ∀ x ∈ p1, x.block < W.heap.size := by have k1 := h1; obtain ⟨m, hm⟩ := k1; exact DataW.trod_lt m _ _ _ hm
  obtain ⟨a1, ha1, hb1⟩ := arg_vals (hval 1 33 v1 rfl rfl) h1
  clear hA0 hval0 hval
  refine ((exprEvaluates_fn a0 a1 (by omega)).calls #[v0, v1] W (Bk W) (fun _ h => h) rfl ?_).mono ?_
  · intro j z u hz hu
    match j, hz, hu with
    | 0, hz, hu => cases hz; cases hu; exact ha0
    | 1, hz, hu => cases hz; cases hu; exact ha1
    | j + 2, hz, hu => simp at hz
  · rintro e W' ⟨v, rfl, bel, hr⟩
    cases hr
    exact ⟨_, rfl, _, _, _, [], _, [], hW', trodAll_mk1 (shut_bool Try.underlying4 _), (trodAll_cons_mk (Below.trod laidOut (by kernel_rfl) (of_decide_eq_true (by kernel_rfl)) h0 bel lt0) (trodAll_cons_mk (Below.trod laidOut (by kernel_rfl) (of_decide_eq_true (by kernel_rfl)) h1 bel lt1) trodAll_mk0)), rfl, bel.frame _, fun h => by cases h⟩
set_option maxRecDepth 100000 in
theorem lifted (os : Os) (started : os.Started) (H : Type) (enc : TypeId × Value → H) (F : Stop.Interp) :
    ReturnsInHanded {} Try.checked os 9 .any ((Rows.OpenSpec.upto Rows.exprEvaluatesSpec).pre6 enc Try.prog Try.f9 Rows.exprEvaluatesUptoRow.domain false) (((Rows.OpenSpec.upto Rows.exprEvaluatesSpec).at F).post enc Try.prog Try.f9 false true false false) := by
  refine returnsInHanded_of_cond (C := Try.checked) (s := Rows.OpenSpec.upto Rows.exprEvaluatesSpec) (k := Rows.uptoSmall) rfl own started (by kernel_rfl) Try.func9
    (OpenSpec.witness (enc := enc) (C := Try.checked) (s := Rows.OpenSpec.upto Rows.exprEvaluatesSpec) (k := Rows.uptoSmall) rfl false ⟨#[], #[(.agg #[.int .i64 0, .int .i64 0, .int .i64 0, .int .i64 0, .string ByteArray.empty, .string ByteArray.empty, .slice none 0 0]), (.slice none 0 0)], []⟩ 8 (by kernel_rfl) (by kernel_rfl) (by kernel_rfl)
      (x := ([.agg [.lit (.int .i64 0), .lit (.int .i64 0), .agg [.lit (.int .i64 0), .lit (.int .i64 0), .lit (.string [])], .lit (.string []), .nil], .nil], [], [])) (by kernel_rfl) rfl (by kernel_rfl)) ?_
  intro W base args ds gs before hval hW _ hk _
  exact contract H enc W base args ds gs before hval hW hk
theorem k0 : (Rows.exprEvaluatesUptoRow.wf (OpenSpec.ofChange (Rows.OpenSpec.upto Rows.exprEvaluatesSpec).bare)) = true := by kernel_rfl
set_option maxRecDepth 100000 in
theorem k1 : (laidOutB Try.pinned.checked.prog) = true := facts.k1
set_option maxRecDepth 100000 in
theorem k2 : (mapsRowed Try.pinned.checked.prog) = true := facts.k2
theorem k3 : (Try.f9.params.all (Try.pinned.checked.prog.readableRec ·)) = true := by kernel_rfl
theorem k4 : (namedTie Try.pinned.checked.prog Rows.exprEvaluatesUptoRow.named (Rows.OpenSpec.upto Rows.exprEvaluatesSpec).bare.vars) = true := by kernel_rfl
theorem k5 : ((Rows.exprEvaluatesUptoRow.stops == [])) = true := by kernel_rfl
set_option maxRecDepth 100000 in
theorem k6 : ((Try.pinned.checked.prog.stops == [])) = true := facts.k6
theorem k7 : ((Rows.exprEvaluatesUptoRow.knobs == [])) = true := by kernel_rfl
set_option maxRecDepth 100000 in
theorem k8 : ((Try.pinned.checked.prog.stopKnobs == [])) = true := facts.k8
theorem k9 : ((Rows.exprEvaluatesUptoRow.inPlace == Try.pinned.checked.prog.inPlace 9)) = true := by kernel_rfl
theorem k10 : ((Rows.exprEvaluatesUptoRow.unfollowed == Try.pinned.checked.prog.unfollowed 9)) = true := by kernel_rfl
theorem k11 : ((Rows.exprEvaluatesUptoRow.recurses == Try.pinned.checked.prog.recurses 9)) = true := by kernel_rfl
theorem k12 : ((Rows.exprEvaluatesUptoRow.named == Try.pinned.checked.prog.varsNamed 9)) = true := by kernel_rfl
theorem k13 : ((Rows.exprEvaluatesUptoRow.maps == (Try.f9.params.toList ++ (Rows.OpenSpec.upto Rows.exprEvaluatesSpec).bare.plain.varTypes Try.pinned.checked.prog).any (Try.pinned.checked.prog.mapsRec ·))) = true := by kernel_rfl
theorem k14 : ((Rows.exprEvaluatesUptoRow.ifaces == (Try.f9.params.toList ++ (Rows.OpenSpec.upto Rows.exprEvaluatesSpec).bare.plain.varTypes Try.pinned.checked.prog).any (Try.pinned.checked.prog.ifacesRec ·))) = true := by kernel_rfl
theorem k15 : ((Rows.exprEvaluatesUptoRow.mapsOut == Try.pinned.checked.prog.mapsAmong Try.f9.resultTypes.toList)) = true := by kernel_rfl
theorem k16 : ((Rows.exprEvaluatesUptoRow.loops == (Try.f9.params.toList ++ (Rows.OpenSpec.upto Rows.exprEvaluatesSpec).bare.plain.varTypes Try.pinned.checked.prog).any (Try.pinned.checked.prog.loopsFrom ·))) = true := by kernel_rfl
theorem k17 : ((Rows.exprEvaluatesUptoRow.wideKeys == (Try.f9.params.toList ++ (Rows.OpenSpec.upto Rows.exprEvaluatesSpec).bare.plain.varTypes Try.pinned.checked.prog ++ Try.f9.resultTypes.toList).any (Try.pinned.checked.prog.wideKeysFrom ·))) = true := by kernel_rfl
theorem k18 : ((Rows.OpenSpec.upto Rows.exprEvaluatesSpec).bare.vars.all (Try.pinned.checked.prog.varReadable ·)) = true := by kernel_rfl
theorem k19 : (Try.f9.resultTypes.all (fun t => Try.pinned.checked.prog.readableRec t && decide (t < Try.pinned.checked.prog.types.size))) = true := by kernel_rfl
theorem k20 : ((Rows.exprEvaluatesUptoRow.ifacesOut == Try.f9.resultTypes.toList.any (Try.pinned.checked.prog.ifacesRec ·))) = true := by kernel_rfl
theorem k21 : ((Rows.exprEvaluatesUptoRow.loopsOut == Try.f9.resultTypes.toList.any (Try.pinned.checked.prog.loopsFrom ·))) = true := by kernel_rfl
set_option maxRecDepth 100000 in
theorem k22 : ((Rows.exprEvaluatesUptoRow.plainKeys == Try.pinned.checked.prog.plainKeys)) = true := facts.k22
theorem k23 : (Rows.exprEvaluatesUptoRow.shortTexts.isNone) = true := by kernel_rfl
set_option maxRecDepth 100000 in
theorem k24 : (Try.pinned.checked.prog.stopsHeard) = true := facts.k24
set_option maxRecDepth 100000 in
theorem k25 : (Try.pinned.checked.prog.mayEnter) = true := facts.k25
set_option maxRecDepth 100000 in
theorem k26 : ((Rows.exprEvaluatesUptoRow.lifted == Try.pinned.checked.prog.liftsFinal)) = true := facts.k26
set_option maxRecDepth 100000 in
theorem k27 : ((Try.pinned.checked.prog.make == some Rows.exprEvaluatesUptoRow.make)) = true := facts.k27
theorem k28 : ((Rows.exprEvaluatesUptoRow.kinds == (if Rows.exprEvaluatesUptoRow.domain.isEmpty then [] else Try.f9.params.toList.map fun t => match Try.pinned.checked.prog.underlying t with | some (.int k) => some k | _ => none))) = true := by kernel_rfl
theorem k29 : ((Rows.exprEvaluatesUptoRow.pinned == Rows.exprEvaluatesUptoRow.pinnedBy)) = true := by kernel_rfl
theorem k30 : ((Rows.exprEvaluatesUptoRow.veiled == (Try.f9.params.toList ++ (Rows.OpenSpec.upto Rows.exprEvaluatesSpec).bare.plain.varTypes Try.pinned.checked.prog ++ Try.f9.resultTypes.toList).any (Try.pinned.checked.prog.veiledRec ·))) = true := by kernel_rfl
theorem k31 : (Rows.exprEvaluatesUptoRow.veiledFits Try.pinned.checked.prog Try.f9.params.toList (Try.f9.params.toList ++ (Rows.OpenSpec.upto Rows.exprEvaluatesSpec).bare.plain.varTypes Try.pinned.checked.prog ++ Try.f9.resultTypes.toList)) = true := by kernel_rfl
set_option maxRecDepth 100000 in
theorem closed : joinedFacts Try.pinned.checked.prog 9 Try.f9 (Rows.OpenSpec.upto Rows.exprEvaluatesSpec).bare Rows.exprEvaluatesUptoRow = true := facts.andI (facts.andI (facts.andI (facts.andI (facts.andI (facts.andI (facts.andI (facts.andI (facts.andI (facts.andI (facts.andI (facts.andI (facts.andI (facts.andI (facts.andI (facts.andI (facts.andI (facts.andI (facts.andI (facts.andI (facts.andI (facts.andI (facts.andI (facts.andI (facts.andI (facts.andI (facts.andI (facts.andI (facts.andI (facts.andI (facts.andI (k0) k1) k2) k3) k4) k5) k6) k7) k8) k9) k10) k11) k12) k13) k14) k15) k16) k17) k18) k19) k20) k21) k22) k23) k24) k25) k26) k27) k28) k29) k30) k31
theorem named : Try.pinned.checked.prog.funcNamed Rows.exprEvaluatesUptoRow.func = some 9 := by kernel_rfl
theorem inst : Try.f9.isInstance Try.pinned.checked.prog Rows.exprEvaluatesUptoRow.origin Rows.exprEvaluatesUptoRow.targs := of_decide_eq_true (by kernel_rfl)
theorem wrap : Try.f9.isWrapper Try.pinned.checked.prog Rows.exprEvaluatesUptoRow.wrapper Rows.exprEvaluatesUptoRow.mainSum := by unfold Func.isWrapper; first | (rw [if_pos (by decide +kernel)]; kernel_rfl) | (rw [if_neg (by decide +kernel)]; exact ⟨rfl, rfl⟩)
theorem over : Rows.exprEvaluatesUptoRow.holds Try.pinned (Rows.OpenSpec.upto Rows.exprEvaluatesSpec) :=
  OpenClaim.holds_of_cond 9 Try.f9 rfl rfl rfl rfl rfl rfl rfl ⟨rfl, rfl, rfl, rfl, rfl⟩ rfl rfl rfl rfl rfl named Try.func9 closed inst wrap
    (fun os started H enc _ F => lifted os started H enc F)
theorem proved : Rows.ExprEvaluatesUptoSaid := over
end Go.Proofs.Ytiefnninebilbaa.exprEvaluates
namespace Go.Proofs.Ytiefnninebilbaa
/-- The row, under a short name, for the claim. -/
theorem exprEvaluates_holds : Rows.ExprEvaluatesUptoSaid := exprEvaluates.proved
#print axioms exprEvaluates_holds
end Go.Proofs.Ytiefnninebilbaa
