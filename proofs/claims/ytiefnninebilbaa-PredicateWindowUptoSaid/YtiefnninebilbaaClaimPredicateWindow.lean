/- The statement PredicateWindow, in the form for bounded arguments, out of the contract of the law's function; no condition. -/
import Derived.Test.YtiefnninebilbaaMpj
import Derived.Test.YtiefnninebilbaaMpk
import Derived.WalkKit
import Derived.ProofKit
import Derived.OpenShut
import Derived.JoinedCond
import Derived.ShutString
import Derived.ChangeOld
import Derived.Below
import Derived.Carry
import Derived.WideShapes
set_option linter.unusedVariables false
namespace Go.Proofs.Ytiefnninebilbaa.predicateWindow
open Go.ChangeShapes Go.WideShapes Go.ChangeAt Go.RowKit Go.Sx
theorem own : ownKnob Try.prog.godebug = none := by kernel_rfl
theorem laidOut : laidOutB Try.prog = true := by kernel_rfl
set_option maxRecDepth 100000 in
theorem contract (H : Type) (enc : TypeId × Value → H) (W : World) (base : Nat) (args : Array Value) (ds gs : List (DataW H)) (before : List MemPlace)
    (hval0 : ∀ (j : Nat) t v, Try.f12.params[j]? = some t → args[j]? = some v → Value.okWide Try.prog W .any base t v)
    (hW : DataW.Whole enc Try.prog Try.f12.params.toList Rows.predicateWindowSpec.vars false W args.toList ds gs before) (hk : Rows.uptoSmall H (ds ++ gs) = true) :
    Calls Try.prog 12 args W fun e W' => ∃ v, e = .returned v ∧ Rows.predicateWindowSpec.post enc Try.prog Try.f12 false true false false W args v W' := by
  have hval : ∀ (j : Nat) t v, Try.f12.params[j]? = some t → args[j]? = some v → Value.okWide Try.prog W .any base t v := hval0
  have hW' := hW
  obtain ⟨p, q, hA0, hV, rfl, hfz, hnd⟩ := hW
  have hA : DataW.TrodAll enc Try.prog W 0 (fun _ => true) true Try.f12.params.toList args.toList ds p := hA0
  rw [Try.params12] at hA hval
  obtain ⟨v0, vs0, d0, ds0, p0, q0, hargs, rfl, rfl, h0, r0⟩ := trodAll_cons hA
  obtain ⟨v1, vs1, d1, ds1, p1, q1, rfl, rfl, rfl, h1, r1⟩ := trodAll_cons r0
  obtain ⟨v2, vs2, d2, ds2, p2, q2, rfl, rfl, rfl, h2, r2⟩ := trodAll_cons r1
  obtain ⟨rfl, rfl, rfl⟩ := trodAll_nil r2
  obtain rfl : args = #[v0, v1, v2] := by cases args; simp_all
  obtain ⟨rfl, rfl⟩ := trodVars_none hV
  have hb : Rows.uptoBulkAll (H := H) [d0, d1, d2] ≤ 1048576 := by simpa [Rows.uptoSmall] using hk
  simp only [Rows.uptoBulkAll] at hb
  have lt0 : ∀ x ∈ p0, x.block < W.heap.size := by have k0 := h0; obtain ⟨m, hm⟩ := k0; exact DataW.trod_lt m _ _ _ hm
  obtain ⟨a0, ha0, hb0⟩ := arg_ex (hval 0 49 v0 rfl rfl) h0
  have lt1 : ∀ x ∈ p1, x.block < W.heap.size := by have k1 := h1; obtain ⟨m, hm⟩ := k1; exact DataW.trod_lt m _ _ _ hm
  obtain ⟨a1, ha1, hb1⟩ := arg_int (hval 1 3 v1 rfl rfl) h1
  have lt2 : ∀ x ∈ p2, x.block < W.heap.size := by have k2 := h2; obtain ⟨m, hm⟩ := k2; exact DataW.trod_lt m _ _ _ hm
  obtain ⟨a2, ha2, hb2⟩ := arg_int (hval 2 3 v2 rfl rfl) h2
  clear hA0 hval0 hval
  refine ((predicateWindow_fn a0 a1 a2 (by omega)).calls #[v0, v1, v2] W (Bk W) (fun _ h => h) rfl ?_).mono ?_
  · intro j z u hz hu
    match j, hz, hu with
    | 0, hz, hu => cases hz; cases hu; exact ha0
    | 1, hz, hu => cases hz; cases hu; exact ha1
    | 2, hz, hu => cases hz; cases hu; exact ha2
    | j + 3, hz, hu => simp at hz
  · rintro e W' ⟨v, rfl, bel, hr⟩
    cases hr
    exact ⟨_, rfl, _, _, _, [], _, [], hW', trodAll_mk1 (shut_bool Try.underlying4 _), (trodAll_cons_mk (Below.trod laidOut (by kernel_rfl) (of_decide_eq_true (by kernel_rfl)) h0 bel lt0) (trodAll_cons_mk (Below.trod laidOut (by kernel_rfl) (of_decide_eq_true (by kernel_rfl)) h1 bel lt1) (trodAll_cons_mk (Below.trod laidOut (by kernel_rfl) (of_decide_eq_true (by kernel_rfl)) h2 bel lt2) trodAll_mk0))), rfl, bel.frame _, fun h => by cases h⟩
set_option maxRecDepth 100000 in
theorem lifted (os : Os) (started : os.Started) (H : Type) (enc : TypeId × Value → H) (F : Stop.Interp) :
    ReturnsInHanded {} Try.checked os 12 .any ((Rows.OpenSpec.upto Rows.predicateWindowSpec).pre6 enc Try.prog Try.f12 Rows.predicateWindowUptoRow.domain false) (((Rows.OpenSpec.upto Rows.predicateWindowSpec).at F).post enc Try.prog Try.f12 false true false false) := by
  refine returnsInHanded_of_cond (C := Try.checked) (s := Rows.OpenSpec.upto Rows.predicateWindowSpec) (k := Rows.uptoSmall) rfl own started (by kernel_rfl) Try.func12
    (OpenSpec.witness (enc := enc) (C := Try.checked) (s := Rows.OpenSpec.upto Rows.predicateWindowSpec) (k := Rows.uptoSmall) rfl false ⟨#[], #[(.agg #[.int .i64 0, .int .i64 0, .int .i64 0, .int .i64 0, .string ByteArray.empty, .string ByteArray.empty, .slice none 0 0]), (.int .i64 0), (.int .i64 0)], []⟩ 8 (by kernel_rfl) (by kernel_rfl) (by kernel_rfl)
      (x := ([.agg [.lit (.int .i64 0), .lit (.int .i64 0), .agg [.lit (.int .i64 0), .lit (.int .i64 0), .lit (.string [])], .lit (.string []), .nil], .lit (.int .i64 0), .lit (.int .i64 0)], [], [])) (by kernel_rfl) rfl (by kernel_rfl)) ?_
  intro W base args ds gs before hval hW _ hk _
  exact contract H enc W base args ds gs before hval hW hk
theorem k0 : (Rows.predicateWindowUptoRow.wf (OpenSpec.ofChange (Rows.OpenSpec.upto Rows.predicateWindowSpec).bare)) = true := by kernel_rfl
set_option maxRecDepth 100000 in
theorem k1 : (laidOutB Try.pinned.checked.prog) = true := facts.k1
set_option maxRecDepth 100000 in
theorem k2 : (mapsRowed Try.pinned.checked.prog) = true := facts.k2
theorem k3 : (Try.f12.params.all (Try.pinned.checked.prog.readableRec ·)) = true := by kernel_rfl
theorem k4 : (namedTie Try.pinned.checked.prog Rows.predicateWindowUptoRow.named (Rows.OpenSpec.upto Rows.predicateWindowSpec).bare.vars) = true := by kernel_rfl
theorem k5 : ((Rows.predicateWindowUptoRow.stops == [])) = true := by kernel_rfl
set_option maxRecDepth 100000 in
theorem k6 : ((Try.pinned.checked.prog.stops == [])) = true := facts.k6
theorem k7 : ((Rows.predicateWindowUptoRow.knobs == [])) = true := by kernel_rfl
set_option maxRecDepth 100000 in
theorem k8 : ((Try.pinned.checked.prog.stopKnobs == [])) = true := facts.k8
theorem k9 : ((Rows.predicateWindowUptoRow.inPlace == Try.pinned.checked.prog.inPlace 12)) = true := by kernel_rfl
theorem k10 : ((Rows.predicateWindowUptoRow.unfollowed == Try.pinned.checked.prog.unfollowed 12)) = true := by kernel_rfl
theorem k11 : ((Rows.predicateWindowUptoRow.recurses == Try.pinned.checked.prog.recurses 12)) = true := by kernel_rfl
theorem k12 : ((Rows.predicateWindowUptoRow.named == Try.pinned.checked.prog.varsNamed 12)) = true := by kernel_rfl
theorem k13 : ((Rows.predicateWindowUptoRow.maps == (Try.f12.params.toList ++ (Rows.OpenSpec.upto Rows.predicateWindowSpec).bare.plain.varTypes Try.pinned.checked.prog).any (Try.pinned.checked.prog.mapsRec ·))) = true := by kernel_rfl
theorem k14 : ((Rows.predicateWindowUptoRow.ifaces == (Try.f12.params.toList ++ (Rows.OpenSpec.upto Rows.predicateWindowSpec).bare.plain.varTypes Try.pinned.checked.prog).any (Try.pinned.checked.prog.ifacesRec ·))) = true := by kernel_rfl
theorem k15 : ((Rows.predicateWindowUptoRow.mapsOut == Try.pinned.checked.prog.mapsAmong Try.f12.resultTypes.toList)) = true := by kernel_rfl
theorem k16 : ((Rows.predicateWindowUptoRow.loops == (Try.f12.params.toList ++ (Rows.OpenSpec.upto Rows.predicateWindowSpec).bare.plain.varTypes Try.pinned.checked.prog).any (Try.pinned.checked.prog.loopsFrom ·))) = true := by kernel_rfl
theorem k17 : ((Rows.predicateWindowUptoRow.wideKeys == (Try.f12.params.toList ++ (Rows.OpenSpec.upto Rows.predicateWindowSpec).bare.plain.varTypes Try.pinned.checked.prog ++ Try.f12.resultTypes.toList).any (Try.pinned.checked.prog.wideKeysFrom ·))) = true := by kernel_rfl
theorem k18 : ((Rows.OpenSpec.upto Rows.predicateWindowSpec).bare.vars.all (Try.pinned.checked.prog.varReadable ·)) = true := by kernel_rfl
theorem k19 : (Try.f12.resultTypes.all (fun t => Try.pinned.checked.prog.readableRec t && decide (t < Try.pinned.checked.prog.types.size))) = true := by kernel_rfl
theorem k20 : ((Rows.predicateWindowUptoRow.ifacesOut == Try.f12.resultTypes.toList.any (Try.pinned.checked.prog.ifacesRec ·))) = true := by kernel_rfl
theorem k21 : ((Rows.predicateWindowUptoRow.loopsOut == Try.f12.resultTypes.toList.any (Try.pinned.checked.prog.loopsFrom ·))) = true := by kernel_rfl
set_option maxRecDepth 100000 in
theorem k22 : ((Rows.predicateWindowUptoRow.plainKeys == Try.pinned.checked.prog.plainKeys)) = true := facts.k22
theorem k23 : (Rows.predicateWindowUptoRow.shortTexts.isNone) = true := by kernel_rfl
set_option maxRecDepth 100000 in
theorem k24 : (Try.pinned.checked.prog.stopsHeard) = true := facts.k24
set_option maxRecDepth 100000 in
theorem k25 : (Try.pinned.checked.prog.mayEnter) = true := facts.k25
set_option maxRecDepth 100000 in
theorem k26 : ((Rows.predicateWindowUptoRow.lifted == Try.pinned.checked.prog.liftsFinal)) = true := facts.k26
set_option maxRecDepth 100000 in
theorem k27 : ((Try.pinned.checked.prog.make == some Rows.predicateWindowUptoRow.make)) = true := facts.k27
theorem k28 : ((Rows.predicateWindowUptoRow.kinds == (if Rows.predicateWindowUptoRow.domain.isEmpty then [] else Try.f12.params.toList.map fun t => match Try.pinned.checked.prog.underlying t with | some (.int k) => some k | _ => none))) = true := by kernel_rfl
theorem k29 : ((Rows.predicateWindowUptoRow.pinned == Rows.predicateWindowUptoRow.pinnedBy)) = true := by kernel_rfl
theorem k30 : ((Rows.predicateWindowUptoRow.veiled == (Try.f12.params.toList ++ (Rows.OpenSpec.upto Rows.predicateWindowSpec).bare.plain.varTypes Try.pinned.checked.prog ++ Try.f12.resultTypes.toList).any (Try.pinned.checked.prog.veiledRec ·))) = true := by kernel_rfl
theorem k31 : (Rows.predicateWindowUptoRow.veiledFits Try.pinned.checked.prog Try.f12.params.toList (Try.f12.params.toList ++ (Rows.OpenSpec.upto Rows.predicateWindowSpec).bare.plain.varTypes Try.pinned.checked.prog ++ Try.f12.resultTypes.toList)) = true := by kernel_rfl
set_option maxRecDepth 100000 in
theorem closed : joinedFacts Try.pinned.checked.prog 12 Try.f12 (Rows.OpenSpec.upto Rows.predicateWindowSpec).bare Rows.predicateWindowUptoRow = true := facts.andI (facts.andI (facts.andI (facts.andI (facts.andI (facts.andI (facts.andI (facts.andI (facts.andI (facts.andI (facts.andI (facts.andI (facts.andI (facts.andI (facts.andI (facts.andI (facts.andI (facts.andI (facts.andI (facts.andI (facts.andI (facts.andI (facts.andI (facts.andI (facts.andI (facts.andI (facts.andI (facts.andI (facts.andI (facts.andI (facts.andI (k0) k1) k2) k3) k4) k5) k6) k7) k8) k9) k10) k11) k12) k13) k14) k15) k16) k17) k18) k19) k20) k21) k22) k23) k24) k25) k26) k27) k28) k29) k30) k31
theorem named : Try.pinned.checked.prog.funcNamed Rows.predicateWindowUptoRow.func = some 12 := by kernel_rfl
theorem inst : Try.f12.isInstance Try.pinned.checked.prog Rows.predicateWindowUptoRow.origin Rows.predicateWindowUptoRow.targs := of_decide_eq_true (by kernel_rfl)
theorem wrap : Try.f12.isWrapper Try.pinned.checked.prog Rows.predicateWindowUptoRow.wrapper Rows.predicateWindowUptoRow.mainSum := by unfold Func.isWrapper; first | (rw [if_pos (by decide +kernel)]; kernel_rfl) | (rw [if_neg (by decide +kernel)]; exact ⟨rfl, rfl⟩)
theorem over : Rows.predicateWindowUptoRow.holds Try.pinned (Rows.OpenSpec.upto Rows.predicateWindowSpec) :=
  OpenClaim.holds_of_cond 12 Try.f12 rfl rfl rfl rfl rfl rfl rfl ⟨rfl, rfl, rfl, rfl, rfl⟩ rfl rfl rfl rfl rfl named Try.func12 closed inst wrap
    (fun os started H enc _ F => lifted os started H enc F)
theorem proved : Rows.PredicateWindowUptoSaid := over
end Go.Proofs.Ytiefnninebilbaa.predicateWindow
namespace Go.Proofs.Ytiefnninebilbaa
/-- The row, under a short name, for the claim. -/
theorem predicateWindow_holds : Rows.PredicateWindowUptoSaid := predicateWindow.proved
#print axioms predicateWindow_holds
end Go.Proofs.Ytiefnninebilbaa
