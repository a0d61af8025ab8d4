/- What the reference's evaluation of an expression returns, lemmas; no condition. -/
import Derived.Test.YtiefnninebilbaaMo
import Derived.Test.YtiefnninebilbaaMg
set_option maxRecDepth 100000
set_option linter.unusedVariables false
set_option linter.unusedSimpArgs false
namespace Go.Proofs.Ytiefnninebilbaa
open Go Go.Sx

theorem rlogicL_fn (op : Int) (hop : op = 5 ∨ op = 6) (l : List Vl) (hl : l.length ≤ 1000000000) (h : 0 < l.length) : Fc 111 [.int .i64 op, .sl (l.map Vl.enc)] (logicV op l).enc := by
  cases l with
  | nil => simp at h
  | cons x l => exact rlogic_fn op hop x l (by simp at hl; omega)
theorem textsL19 (l : List Vl) (h : l.length = 2) (hv : ∀ v ∈ l, v.text.size ≤ 200) : Fc 114 [.int .i64 19, .sl (l.map Vl.enc)] (textV 19 l).enc := by
  match l, h, hv with
  | [a, b], _, hv => exact texts_cat a b (hv a (by simp)) (hv b (by simp))
theorem textsL20 (l : List Vl) (h : l.length = 1) : Fc 114 [.int .i64 20, .sl (l.map Vl.enc)] (textV 20 l).enc := by
  match l, h with
  | [a], _ => exact texts_len a
theorem chosenL22 (l : List Vl) (h : l.length = 3) : Fc 116 [.int .i64 22, .sl (l.map Vl.enc)] (if (nth l 0).truth = 2 then nth l 1 else nth l 2).enc := by
  match l, h with
  | [a, b, c], _ => exact chosen_if a b c
theorem rrelatedL_fn (rel : Int) (l : List Vl) (h : l.length = 4) : Fc 117 [.int .i64 rel, .sl (l.map Vl.enc)] (related rel l).enc := by
  match l, h with
  | [a, b, c, d], _ => exact rrelated_fn rel a b c d
theorem logicV4 (l : List Vl) : logicV 4 l = Vl.of (tnot (nth l 0).truth) := by simp [logicV]
theorem ok39 : okCode M0 Try.f39.ntmps (Try.f39.body.getD .skip) = true := by decide +kernel
theorem ok41 : okCode M0 Try.f41.ntmps (Try.f41.body.getD .skip) = true := by decide +kernel
theorem rtruthE_fn (row : List Vl) (e : Ex) (he : Fc 39 [e.enc, .sl (row.map Vl.enc)] (e.eval row).enc) : Fc 41 [e.enc, .sl (row.map Vl.enc)] (.int .i64 (e.eval row).truth) := by
  refine fn_of_awp (E := E0) (M := M0) follows Try.func41 rfl (by decide) ok41 (by decide) (by simp) fun o ho => ?_
  simp only [go_sem, Nat.reduceEqDiff, Nat.reduceAdd, Nat.reduceSub, Nat.reduceLeDiff, Nat.reduceLT, Nat.reduceMul, Nat.reduceBEq, Int.reduceEq, Int.reduceLT, Int.reduceLE, Int.reduceNeg, Int.reduceToNat, reduceCtorEq, ho, Try.results41, e.enc_eq]
  refine GCall.fr ?_ (he) (.inl rfl) ?_; (focus (first | rfl | ((simp only [go_sem, Nat.reduceEqDiff, Nat.reduceAdd, Nat.reduceSub, Nat.reduceLeDiff, Nat.reduceLT, Nat.reduceMul, Nat.reduceBEq, Int.reduceEq, Int.reduceLT, Int.reduceLE, Int.reduceNeg, Int.reduceToNat, reduceCtorEq, ho, Try.results41, e.enc_eq]); done) | ((simp only [go_sem, Nat.reduceEqDiff, Nat.reduceAdd, Nat.reduceSub, Nat.reduceLeDiff, Nat.reduceLT, Nat.reduceMul, Nat.reduceBEq, Int.reduceEq, Int.reduceLT, Int.reduceLE, Int.reduceNeg, Int.reduceToNat, reduceCtorEq, ho, Try.results41, e.enc_eq]); rfl)))
  simp only [go_sem, Nat.reduceEqDiff, Nat.reduceAdd, Nat.reduceSub, Nat.reduceLeDiff, Nat.reduceLT, Nat.reduceMul, Nat.reduceBEq, Int.reduceEq, Int.reduceLT, Int.reduceLE, Int.reduceNeg, Int.reduceToNat, reduceCtorEq, ho, Try.results41, Vl.enc]
  refine GCall.fr ?_ (rtruth_fn (e.eval row)) (.inl rfl) ?_; (focus (first | rfl | ((simp only [go_sem, Nat.reduceEqDiff, Nat.reduceAdd, Nat.reduceSub, Nat.reduceLeDiff, Nat.reduceLT, Nat.reduceMul, Nat.reduceBEq, Int.reduceEq, Int.reduceLT, Int.reduceLE, Int.reduceNeg, Int.reduceToNat, reduceCtorEq, ho, Try.results41]); done) | ((simp only [go_sem, Nat.reduceEqDiff, Nat.reduceAdd, Nat.reduceSub, Nat.reduceLeDiff, Nat.reduceLT, Nat.reduceMul, Nat.reduceBEq, Int.reduceEq, Int.reduceLT, Int.reduceLE, Int.reduceNeg, Int.reduceToNat, reduceCtorEq, ho, Try.results41]); rfl)))
  simp only [go_sem, Nat.reduceEqDiff, Nat.reduceAdd, Nat.reduceSub, Nat.reduceLeDiff, Nat.reduceLT, Nat.reduceMul, Nat.reduceBEq, Int.reduceEq, Int.reduceLT, Int.reduceLE, Int.reduceNeg, Int.reduceToNat, reduceCtorEq, ho, Try.results41]
theorem revalc_f (row : List Vl) (e : Ex) (hs : e.size ≤ 1000000000) (hf : e.formed = false) : Fc 39 [e.enc, .sl (row.map Vl.enc)] (e.eval row).enc := by
  refine fn_of_awp (E := E0) (M := M0) follows Try.func39 rfl (by decide) ok39 (by decide) (by simp) fun o ho => ?_
  simp only [go_sem, Nat.reduceEqDiff, Nat.reduceAdd, Nat.reduceSub, Nat.reduceLeDiff, Nat.reduceLT, Nat.reduceMul, Nat.reduceBEq, Int.reduceEq, Int.reduceLT, Int.reduceLE, Int.reduceNeg, Int.reduceToNat, reduceCtorEq, ho, Try.results39, e.enc_eq]
  refine GCall.fr ?_ (rformed_fn e hs) (.inl rfl) ?_; (focus (first | rfl | ((simp only [go_sem, Nat.reduceEqDiff, Nat.reduceAdd, Nat.reduceSub, Nat.reduceLeDiff, Nat.reduceLT, Nat.reduceMul, Nat.reduceBEq, Int.reduceEq, Int.reduceLT, Int.reduceLE, Int.reduceNeg, Int.reduceToNat, reduceCtorEq, ho, Try.results39, e.enc_eq]); done) | ((simp only [go_sem, Nat.reduceEqDiff, Nat.reduceAdd, Nat.reduceSub, Nat.reduceLeDiff, Nat.reduceLT, Nat.reduceMul, Nat.reduceBEq, Int.reduceEq, Int.reduceLT, Int.reduceLE, Int.reduceNeg, Int.reduceToNat, reduceCtorEq, ho, Try.results39, e.enc_eq]); rfl)))
  simp only [go_sem, Nat.reduceEqDiff, Nat.reduceAdd, Nat.reduceSub, Nat.reduceLeDiff, Nat.reduceLT, Nat.reduceMul, Nat.reduceBEq, Int.reduceEq, Int.reduceLT, Int.reduceLE, Int.reduceNeg, Int.reduceToNat, reduceCtorEq, ho, Try.results39, hf]
  refine GCall.fr ?_ (rnull_fn) (.inl rfl) ?_; (focus (first | rfl | ((simp only [go_sem, Nat.reduceEqDiff, Nat.reduceAdd, Nat.reduceSub, Nat.reduceLeDiff, Nat.reduceLT, Nat.reduceMul, Nat.reduceBEq, Int.reduceEq, Int.reduceLT, Int.reduceLE, Int.reduceNeg, Int.reduceToNat, reduceCtorEq, ho, Try.results39]); done) | ((simp only [go_sem, Nat.reduceEqDiff, Nat.reduceAdd, Nat.reduceSub, Nat.reduceLeDiff, Nat.reduceLT, Nat.reduceMul, Nat.reduceBEq, Int.reduceEq, Int.reduceLT, Int.reduceLE, Int.reduceNeg, Int.reduceToNat, reduceCtorEq, ho, Try.results39]); rfl)))
  simp only [go_sem, Nat.reduceEqDiff, Nat.reduceAdd, Nat.reduceSub, Nat.reduceLeDiff, Nat.reduceLT, Nat.reduceMul, Nat.reduceBEq, Int.reduceEq, Int.reduceLT, Int.reduceLE, Int.reduceNeg, Int.reduceToNat, reduceCtorEq, ho, Try.results39, Vl.enc, Vl.null]
  rw [Ex.eval_eq, hf]
  simp [Vl.null]
end Go.Proofs.Ytiefnninebilbaa
/- What the reference's evaluation of an expression returns, operator by operator; no condition. -/
set_option maxRecDepth 100000
set_option linter.unusedVariables false
set_option linter.unusedSimpArgs false
namespace Go.Proofs.Ytiefnninebilbaa
open Go Go.Sx

theorem revalc_1 (row : List Vl) (n : Nat) (hn : n + 1 ≤ 100000000) (IH : ∀ x : Ex, x.size ≤ n → Fc 39 [x.enc, .sl (row.map Vl.enc)] (x.eval row).enc) (e : Ex) (h : e.size ≤ n + 1) (hf : e.formed = true) (hop : e.op = 1) : Fc 39 [e.enc, .sl (row.map Vl.enc)] (e.eval row).enc := by
  obtain ⟨l, hleq⟩ : ∃ l, l = e.args.map (Ex.eval row) := ⟨_, rfl⟩
  have hev : e.eval row = evalOp row 1 e.int e.val l := by rw [Ex.eval_eq, hf, hop, hleq]; rfl
  have hsz := e.size_eq
  have hlen := Ex.len_sizes e.args
  have hfit := formed_len hf
  rw [hop] at hfit
  refine fn_of_awp (E := E0) (M := M0) follows Try.func39 rfl (by decide) ok39 (by decide) (by simp) fun o ho => ?_
  rw [hev]
  clear hev
  simp only [go_sem, Nat.reduceEqDiff, Nat.reduceAdd, Nat.reduceSub, Nat.reduceLeDiff, Nat.reduceLT, Nat.reduceMul, Nat.reduceBEq, Int.reduceEq, Int.reduceLT, Int.reduceLE, Int.reduceNeg, Int.reduceToNat, reduceCtorEq, ho, Try.results39, e.enc_eq]
  refine GCall.fr ?_ (rformed_fn e (by omega)) (.inl rfl) ?_; (focus (first | rfl | ((simp only [go_sem, Nat.reduceEqDiff, Nat.reduceAdd, Nat.reduceSub, Nat.reduceLeDiff, Nat.reduceLT, Nat.reduceMul, Nat.reduceBEq, Int.reduceEq, Int.reduceLT, Int.reduceLE, Int.reduceNeg, Int.reduceToNat, reduceCtorEq, ho, Try.results39, e.enc_eq]); done) | ((simp only [go_sem, Nat.reduceEqDiff, Nat.reduceAdd, Nat.reduceSub, Nat.reduceLeDiff, Nat.reduceLT, Nat.reduceMul, Nat.reduceBEq, Int.reduceEq, Int.reduceLT, Int.reduceLE, Int.reduceNeg, Int.reduceToNat, reduceCtorEq, ho, Try.results39, e.enc_eq]); rfl)))
  simp only [go_sem, Nat.reduceEqDiff, Nat.reduceAdd, Nat.reduceSub, Nat.reduceLeDiff, Nat.reduceLT, Nat.reduceMul, Nat.reduceBEq, Int.reduceEq, Int.reduceLT, Int.reduceLE, Int.reduceNeg, Int.reduceToNat, reduceCtorEq, ho, Try.results39, hf]
  have hl100 : e.args.length ≤ 100000000 := by omega
  have hllen : l.length = e.args.length := by rw [hleq]; simp
  have hnil : e.args = [] := by
    have : (e.args.length : Int) = 0 := by simpa [fitsN] using hfit
    exact List.eq_nil_of_length_eq_zero (by omega)
  refine ⟨fun m st => ∃ (done rest : List Ex), e.args = done ++ rest ∧ rest.length = m ∧ st.s 6 = .int .i64 done.length ∧ st.s 1 = .sl (row.map Vl.enc) ∧ st.s 2 = .ptr 2 1 0 ∧ st.s 4 = .ptr 4 1 0 ∧ getBox st.o 2 1 = some (49, e.enc.cells) ∧ st.o 4 = (1, some (true, .box 42 [.int .i64 0, .int .i64 0, .str ⟨#[]⟩])) ∧ ((done = [] ∧ st.s 5 = .nil) ∨ (done ≠ [] ∧ ∃ v, st.s 5 = .ref 28 v ∧ st.o 28 = (v, some (true, .row 42 (done.map fun x => (x.eval row).enc))))), e.args.length,
    ⟨[], e.args, rfl, rfl, by simp only [go_sem, Nat.reduceEqDiff, Nat.reduceAdd, Nat.reduceSub, Nat.reduceLeDiff, Nat.reduceLT, Nat.reduceMul, Nat.reduceBEq, Int.reduceEq, Int.reduceLT, Int.reduceLE, Int.reduceNeg, Int.reduceToNat, reduceCtorEq, ho, Try.results39]; rfl, by simp only [go_sem, Nat.reduceEqDiff, Nat.reduceAdd, Nat.reduceSub, Nat.reduceLeDiff, Nat.reduceLT, Nat.reduceMul, Nat.reduceBEq, Int.reduceEq, Int.reduceLT, Int.reduceLE, Int.reduceNeg, Int.reduceToNat, reduceCtorEq, ho, Try.results39], by simp only [go_sem, Nat.reduceEqDiff, Nat.reduceAdd, Nat.reduceSub, Nat.reduceLeDiff, Nat.reduceLT, Nat.reduceMul, Nat.reduceBEq, Int.reduceEq, Int.reduceLT, Int.reduceLE, Int.reduceNeg, Int.reduceToNat, reduceCtorEq, ho, Try.results39], by simp only [go_sem, Nat.reduceEqDiff, Nat.reduceAdd, Nat.reduceSub, Nat.reduceLeDiff, Nat.reduceLT, Nat.reduceMul, Nat.reduceBEq, Int.reduceEq, Int.reduceLT, Int.reduceLE, Int.reduceNeg, Int.reduceToNat, reduceCtorEq, ho, Try.results39], by simp only [go_sem, Nat.reduceEqDiff, Nat.reduceAdd, Nat.reduceSub, Nat.reduceLeDiff, Nat.reduceLT, Nat.reduceMul, Nat.reduceBEq, Int.reduceEq, Int.reduceLT, Int.reduceLE, Int.reduceNeg, Int.reduceToNat, reduceCtorEq, ho, Try.results39], by simp only [go_sem, Nat.reduceEqDiff, Nat.reduceAdd, Nat.reduceSub, Nat.reduceLeDiff, Nat.reduceLT, Nat.reduceMul, Nat.reduceBEq, Int.reduceEq, Int.reduceLT, Int.reduceLE, Int.reduceNeg, Int.reduceToNat, reduceCtorEq, ho, Try.results39], .inl ⟨rfl, by simp only [go_sem, Nat.reduceEqDiff, Nat.reduceAdd, Nat.reduceSub, Nat.reduceLeDiff, Nat.reduceLT, Nat.reduceMul, Nat.reduceBEq, Int.reduceEq, Int.reduceLT, Int.reduceLE, Int.reduceNeg, Int.reduceToNat, reduceCtorEq, ho, Try.results39]⟩⟩, ?_⟩
  rintro m st ⟨done, rest, hl', hm', h6, hs1, hs2, hs4, hb2, hb4, h5⟩
  have hlen2 : done.length + rest.length = e.args.length := by rw [hl']; simp
  have hw : IntKind.i64.wrap ((done.length : Int) + 1) = (done.length : Int) + 1 := wrap_fits (by omega) (by omega)
  cases rest with
  | nil =>
    have hlt : ¬ (done.length : Int) < (e.args.length : Int) := by simp at hlen2; omega
    obtain hdone : e.args = done := by simpa using hl'
    have hd0 : done = [] := by rw [← hdone, hnil]
    rcases h5 with ⟨_, h5⟩ | ⟨hne, _⟩
    case inr => exact absurd hd0 hne
    have hlv : leafV e row = e.val := by unfold leafV Vl.orNull; rw [if_neg (by omega), if_pos (formed_val hf hop)]
    simp only [go_sem, Nat.reduceEqDiff, Nat.reduceAdd, Nat.reduceSub, Nat.reduceLeDiff, Nat.reduceLT, Nat.reduceMul, Nat.reduceBEq, Int.reduceEq, Int.reduceLT, Int.reduceLE, Int.reduceNeg, Int.reduceToNat, reduceCtorEq, ho, Try.results39, h6, hlt, hs2, hb2, List.length_map]
    simp only [go_sem, Nat.reduceEqDiff, Nat.reduceAdd, Nat.reduceSub, Nat.reduceLeDiff, Nat.reduceLT, Nat.reduceMul, Nat.reduceBEq, Int.reduceEq, Int.reduceLT, Int.reduceLE, Int.reduceNeg, Int.reduceToNat, reduceCtorEq, ho, Try.results39, hop, h5, hs1, hs2, hs4, hb2, hb4]
    refine GCall.fr ?_ (leaf_fn e row) (.inl rfl) ?_; (focus (first | rfl | ((simp only [go_sem, Nat.reduceEqDiff, Nat.reduceAdd, Nat.reduceSub, Nat.reduceLeDiff, Nat.reduceLT, Nat.reduceMul, Nat.reduceBEq, Int.reduceEq, Int.reduceLT, Int.reduceLE, Int.reduceNeg, Int.reduceToNat, reduceCtorEq, ho, Try.results39, e.enc_eq, hop, hs1]); done) | ((simp only [go_sem, Nat.reduceEqDiff, Nat.reduceAdd, Nat.reduceSub, Nat.reduceLeDiff, Nat.reduceLT, Nat.reduceMul, Nat.reduceBEq, Int.reduceEq, Int.reduceLT, Int.reduceLE, Int.reduceNeg, Int.reduceToNat, reduceCtorEq, ho, Try.results39, e.enc_eq, hop, hs1]); rfl)))
    simp only [go_sem, Nat.reduceEqDiff, Nat.reduceAdd, Nat.reduceSub, Nat.reduceLeDiff, Nat.reduceLT, Nat.reduceMul, Nat.reduceBEq, Int.reduceEq, Int.reduceLT, Int.reduceLE, Int.reduceNeg, Int.reduceToNat, reduceCtorEq, ho, Try.results39, Vl.enc, hs2, hs4, hb2, hb4]
    rw [hlv, evo_1]; exact ⟨rfl, rfl, rfl⟩
  | cons x rest => rw [hnil] at hl'; simp at hl'
theorem revalc_2 (row : List Vl) (n : Nat) (hn : n + 1 ≤ 100000000) (IH : ∀ x : Ex, x.size ≤ n → Fc 39 [x.enc, .sl (row.map Vl.enc)] (x.eval row).enc) (e : Ex) (h : e.size ≤ n + 1) (hf : e.formed = true) (hop : e.op = 2) : Fc 39 [e.enc, .sl (row.map Vl.enc)] (e.eval row).enc := by
  obtain ⟨l, hleq⟩ : ∃ l, l = e.args.map (Ex.eval row) := ⟨_, rfl⟩
  have hev : e.eval row = evalOp row 2 e.int e.val l := by rw [Ex.eval_eq, hf, hop, hleq]; rfl
  have hsz := e.size_eq
  have hlen := Ex.len_sizes e.args
  have hfit := formed_len hf
  rw [hop] at hfit
  refine fn_of_awp (E := E0) (M := M0) follows Try.func39 rfl (by decide) ok39 (by decide) (by simp) fun o ho => ?_
  rw [hev]
  clear hev
  simp only [go_sem, Nat.reduceEqDiff, Nat.reduceAdd, Nat.reduceSub, Nat.reduceLeDiff, Nat.reduceLT, Nat.reduceMul, Nat.reduceBEq, Int.reduceEq, Int.reduceLT, Int.reduceLE, Int.reduceNeg, Int.reduceToNat, reduceCtorEq, ho, Try.results39, e.enc_eq]
  refine GCall.fr ?_ (rformed_fn e (by omega)) (.inl rfl) ?_; (focus (first | rfl | ((simp only [go_sem, Nat.reduceEqDiff, Nat.reduceAdd, Nat.reduceSub, Nat.reduceLeDiff, Nat.reduceLT, Nat.reduceMul, Nat.reduceBEq, Int.reduceEq, Int.reduceLT, Int.reduceLE, Int.reduceNeg, Int.reduceToNat, reduceCtorEq, ho, Try.results39, e.enc_eq]); done) | ((simp only [go_sem, Nat.reduceEqDiff, Nat.reduceAdd, Nat.reduceSub, Nat.reduceLeDiff, Nat.reduceLT, Nat.reduceMul, Nat.reduceBEq, Int.reduceEq, Int.reduceLT, Int.reduceLE, Int.reduceNeg, Int.reduceToNat, reduceCtorEq, ho, Try.results39, e.enc_eq]); rfl)))
  simp only [go_sem, Nat.reduceEqDiff, Nat.reduceAdd, Nat.reduceSub, Nat.reduceLeDiff, Nat.reduceLT, Nat.reduceMul, Nat.reduceBEq, Int.reduceEq, Int.reduceLT, Int.reduceLE, Int.reduceNeg, Int.reduceToNat, reduceCtorEq, ho, Try.results39, hf]
  have hl100 : e.args.length ≤ 100000000 := by omega
  have hllen : l.length = e.args.length := by rw [hleq]; simp
  have hnil : e.args = [] := by
    have : (e.args.length : Int) = 0 := by simpa [fitsN] using hfit
    exact List.eq_nil_of_length_eq_zero (by omega)
  refine ⟨fun m st => ∃ (done rest : List Ex), e.args = done ++ rest ∧ rest.length = m ∧ st.s 6 = .int .i64 done.length ∧ st.s 1 = .sl (row.map Vl.enc) ∧ st.s 2 = .ptr 2 1 0 ∧ st.s 4 = .ptr 4 1 0 ∧ getBox st.o 2 1 = some (49, e.enc.cells) ∧ st.o 4 = (1, some (true, .box 42 [.int .i64 0, .int .i64 0, .str ⟨#[]⟩])) ∧ ((done = [] ∧ st.s 5 = .nil) ∨ (done ≠ [] ∧ ∃ v, st.s 5 = .ref 28 v ∧ st.o 28 = (v, some (true, .row 42 (done.map fun x => (x.eval row).enc))))), e.args.length,
    ⟨[], e.args, rfl, rfl, by simp only [go_sem, Nat.reduceEqDiff, Nat.reduceAdd, Nat.reduceSub, Nat.reduceLeDiff, Nat.reduceLT, Nat.reduceMul, Nat.reduceBEq, Int.reduceEq, Int.reduceLT, Int.reduceLE, Int.reduceNeg, Int.reduceToNat, reduceCtorEq, ho, Try.results39]; rfl, by simp only [go_sem, Nat.reduceEqDiff, Nat.reduceAdd, Nat.reduceSub, Nat.reduceLeDiff, Nat.reduceLT, Nat.reduceMul, Nat.reduceBEq, Int.reduceEq, Int.reduceLT, Int.reduceLE, Int.reduceNeg, Int.reduceToNat, reduceCtorEq, ho, Try.results39], by simp only [go_sem, Nat.reduceEqDiff, Nat.reduceAdd, Nat.reduceSub, Nat.reduceLeDiff, Nat.reduceLT, Nat.reduceMul, Nat.reduceBEq, Int.reduceEq, Int.reduceLT, Int.reduceLE, Int.reduceNeg, Int.reduceToNat, reduceCtorEq, ho, Try.results39], by simp only [go_sem, Nat.reduceEqDiff, Nat.reduceAdd, Nat.reduceSub, Nat.reduceLeDiff, Nat.reduceLT, Nat.reduceMul, Nat.reduceBEq, Int.reduceEq, Int.reduceLT, Int.reduceLE, Int.reduceNeg, Int.reduceToNat, reduceCtorEq, ho, Try.results39], by simp only [go_sem, Nat.reduceEqDiff, Nat.reduceAdd, Nat.reduceSub, Nat.reduceLeDiff, Nat.reduceLT, Nat.reduceMul, Nat.reduceBEq, Int.reduceEq, Int.reduceLT, Int.reduceLE, Int.reduceNeg, Int.reduceToNat, reduceCtorEq, ho, Try.results39], by simp only [go_sem, Nat.reduceEqDiff, Nat.reduceAdd, Nat.reduceSub, Nat.reduceLeDiff, Nat.reduceLT, Nat.reduceMul, Nat.reduceBEq, Int.reduceEq, Int.reduceLT, Int.reduceLE, Int.reduceNeg, Int.reduceToNat, reduceCtorEq, ho, Try.results39], .inl ⟨rfl, by simp only [go_sem, Nat.reduceEqDiff, Nat.reduceAdd, Nat.reduceSub, Nat.reduceLeDiff, Nat.reduceLT, Nat.reduceMul, Nat.reduceBEq, Int.reduceEq, Int.reduceLT, Int.reduceLE, Int.reduceNeg, Int.reduceToNat, reduceCtorEq, ho, Try.results39]⟩⟩, ?_⟩
  rintro m st ⟨done, rest, hl', hm', h6, hs1, hs2, hs4, hb2, hb4, h5⟩
  have hlen2 : done.length + rest.length = e.args.length := by rw [hl']; simp
  have hw : IntKind.i64.wrap ((done.length : Int) + 1) = (done.length : Int) + 1 := wrap_fits (by omega) (by omega)
  cases rest with
  | nil =>
    have hlt : ¬ (done.length : Int) < (e.args.length : Int) := by simp at hlen2; omega
    obtain hdone : e.args = done := by simpa using hl'
    have hd0 : done = [] := by rw [← hdone, hnil]
    rcases h5 with ⟨_, h5⟩ | ⟨hne, _⟩
    case inr => exact absurd hd0 hne
    have hlv : leafV e row = column row e.int := if_pos hop
    simp only [go_sem, Nat.reduceEqDiff, Nat.reduceAdd, Nat.reduceSub, Nat.reduceLeDiff, Nat.reduceLT, Nat.reduceMul, Nat.reduceBEq, Int.reduceEq, Int.reduceLT, Int.reduceLE, Int.reduceNeg, Int.reduceToNat, reduceCtorEq, ho, Try.results39, h6, hlt, hs2, hb2, List.length_map]
    simp only [go_sem, Nat.reduceEqDiff, Nat.reduceAdd, Nat.reduceSub, Nat.reduceLeDiff, Nat.reduceLT, Nat.reduceMul, Nat.reduceBEq, Int.reduceEq, Int.reduceLT, Int.reduceLE, Int.reduceNeg, Int.reduceToNat, reduceCtorEq, ho, Try.results39, hop, h5, hs1, hs2, hs4, hb2, hb4]
    refine GCall.fr ?_ (leaf_fn e row) (.inl rfl) ?_; (focus (first | rfl | ((simp only [go_sem, Nat.reduceEqDiff, Nat.reduceAdd, Nat.reduceSub, Nat.reduceLeDiff, Nat.reduceLT, Nat.reduceMul, Nat.reduceBEq, Int.reduceEq, Int.reduceLT, Int.reduceLE, Int.reduceNeg, Int.reduceToNat, reduceCtorEq, ho, Try.results39, e.enc_eq, hop, hs1]); done) | ((simp only [go_sem, Nat.reduceEqDiff, Nat.reduceAdd, Nat.reduceSub, Nat.reduceLeDiff, Nat.reduceLT, Nat.reduceMul, Nat.reduceBEq, Int.reduceEq, Int.reduceLT, Int.reduceLE, Int.reduceNeg, Int.reduceToNat, reduceCtorEq, ho, Try.results39, e.enc_eq, hop, hs1]); rfl)))
    simp only [go_sem, Nat.reduceEqDiff, Nat.reduceAdd, Nat.reduceSub, Nat.reduceLeDiff, Nat.reduceLT, Nat.reduceMul, Nat.reduceBEq, Int.reduceEq, Int.reduceLT, Int.reduceLE, Int.reduceNeg, Int.reduceToNat, reduceCtorEq, ho, Try.results39, Vl.enc, hs2, hs4, hb2, hb4]
    rw [hlv, evo_2]; exact ⟨rfl, rfl, rfl⟩
  | cons x rest => rw [hnil] at hl'; simp at hl'
theorem revalc_4 (row : List Vl) (n : Nat) (hn : n + 1 ≤ 100000000) (IH : ∀ x : Ex, x.size ≤ n → Fc 39 [x.enc, .sl (row.map Vl.enc)] (x.eval row).enc) (e : Ex) (h : e.size ≤ n + 1) (hf : e.formed = true) (hop : e.op = 4) : Fc 39 [e.enc, .sl (row.map Vl.enc)] (e.eval row).enc := by
  obtain ⟨l, hleq⟩ : ∃ l, l = e.args.map (Ex.eval row) := ⟨_, rfl⟩
  have hev : e.eval row = evalOp row 4 e.int e.val l := by rw [Ex.eval_eq, hf, hop, hleq]; rfl
  have hsz := e.size_eq
  have hlen := Ex.len_sizes e.args
  have hfit := formed_len hf
  rw [hop] at hfit
  refine fn_of_awp (E := E0) (M := M0) follows Try.func39 rfl (by decide) ok39 (by decide) (by simp) fun o ho => ?_
  rw [hev]
  clear hev
  simp only [go_sem, Nat.reduceEqDiff, Nat.reduceAdd, Nat.reduceSub, Nat.reduceLeDiff, Nat.reduceLT, Nat.reduceMul, Nat.reduceBEq, Int.reduceEq, Int.reduceLT, Int.reduceLE, Int.reduceNeg, Int.reduceToNat, reduceCtorEq, ho, Try.results39, e.enc_eq]
  refine GCall.fr ?_ (rformed_fn e (by omega)) (.inl rfl) ?_; (focus (first | rfl | ((simp only [go_sem, Nat.reduceEqDiff, Nat.reduceAdd, Nat.reduceSub, Nat.reduceLeDiff, Nat.reduceLT, Nat.reduceMul, Nat.reduceBEq, Int.reduceEq, Int.reduceLT, Int.reduceLE, Int.reduceNeg, Int.reduceToNat, reduceCtorEq, ho, Try.results39, e.enc_eq]); done) | ((simp only [go_sem, Nat.reduceEqDiff, Nat.reduceAdd, Nat.reduceSub, Nat.reduceLeDiff, Nat.reduceLT, Nat.reduceMul, Nat.reduceBEq, Int.reduceEq, Int.reduceLT, Int.reduceLE, Int.reduceNeg, Int.reduceToNat, reduceCtorEq, ho, Try.results39, e.enc_eq]); rfl)))
  simp only [go_sem, Nat.reduceEqDiff, Nat.reduceAdd, Nat.reduceSub, Nat.reduceLeDiff, Nat.reduceLT, Nat.reduceMul, Nat.reduceBEq, Int.reduceEq, Int.reduceLT, Int.reduceLE, Int.reduceNeg, Int.reduceToNat, reduceCtorEq, ho, Try.results39, hf]
  have hl100 : e.args.length ≤ 100000000 := by omega
  have hllen : l.length = e.args.length := by rw [hleq]; simp
  have hpos := fits_pos (op := 4) (l := l) (by rw [hllen]; exact hfit) (by decide) (by decide)
  refine ⟨fun m st => ∃ (done rest : List Ex), e.args = done ++ rest ∧ rest.length = m ∧ st.s 6 = .int .i64 done.length ∧ st.s 1 = .sl (row.map Vl.enc) ∧ st.s 2 = .ptr 2 1 0 ∧ st.s 4 = .ptr 4 1 0 ∧ getBox st.o 2 1 = some (49, e.enc.cells) ∧ st.o 4 = (1, some (true, .box 42 [.int .i64 0, .int .i64 0, .str ⟨#[]⟩])) ∧ ((done = [] ∧ st.s 5 = .nil) ∨ (done ≠ [] ∧ ∃ v, st.s 5 = .ref 28 v ∧ st.o 28 = (v, some (true, .row 42 (done.map fun x => (x.eval row).enc))))), e.args.length,
    ⟨[], e.args, rfl, rfl, by simp only [go_sem, Nat.reduceEqDiff, Nat.reduceAdd, Nat.reduceSub, Nat.reduceLeDiff, Nat.reduceLT, Nat.reduceMul, Nat.reduceBEq, Int.reduceEq, Int.reduceLT, Int.reduceLE, Int.reduceNeg, Int.reduceToNat, reduceCtorEq, ho, Try.results39]; rfl, by simp only [go_sem, Nat.reduceEqDiff, Nat.reduceAdd, Nat.reduceSub, Nat.reduceLeDiff, Nat.reduceLT, Nat.reduceMul, Nat.reduceBEq, Int.reduceEq, Int.reduceLT, Int.reduceLE, Int.reduceNeg, Int.reduceToNat, reduceCtorEq, ho, Try.results39], by simp only [go_sem, Nat.reduceEqDiff, Nat.reduceAdd, Nat.reduceSub, Nat.reduceLeDiff, Nat.reduceLT, Nat.reduceMul, Nat.reduceBEq, Int.reduceEq, Int.reduceLT, Int.reduceLE, Int.reduceNeg, Int.reduceToNat, reduceCtorEq, ho, Try.results39], by simp only [go_sem, Nat.reduceEqDiff, Nat.reduceAdd, Nat.reduceSub, Nat.reduceLeDiff, Nat.reduceLT, Nat.reduceMul, Nat.reduceBEq, Int.reduceEq, Int.reduceLT, Int.reduceLE, Int.reduceNeg, Int.reduceToNat, reduceCtorEq, ho, Try.results39], by simp only [go_sem, Nat.reduceEqDiff, Nat.reduceAdd, Nat.reduceSub, Nat.reduceLeDiff, Nat.reduceLT, Nat.reduceMul, Nat.reduceBEq, Int.reduceEq, Int.reduceLT, Int.reduceLE, Int.reduceNeg, Int.reduceToNat, reduceCtorEq, ho, Try.results39], by simp only [go_sem, Nat.reduceEqDiff, Nat.reduceAdd, Nat.reduceSub, Nat.reduceLeDiff, Nat.reduceLT, Nat.reduceMul, Nat.reduceBEq, Int.reduceEq, Int.reduceLT, Int.reduceLE, Int.reduceNeg, Int.reduceToNat, reduceCtorEq, ho, Try.results39], .inl ⟨rfl, by simp only [go_sem, Nat.reduceEqDiff, Nat.reduceAdd, Nat.reduceSub, Nat.reduceLeDiff, Nat.reduceLT, Nat.reduceMul, Nat.reduceBEq, Int.reduceEq, Int.reduceLT, Int.reduceLE, Int.reduceNeg, Int.reduceToNat, reduceCtorEq, ho, Try.results39]⟩⟩, ?_⟩
  rintro m st ⟨done, rest, hl', hm', h6, hs1, hs2, hs4, hb2, hb4, h5⟩
  have hlen2 : done.length + rest.length = e.args.length := by rw [hl']; simp
  have hw : IntKind.i64.wrap ((done.length : Int) + 1) = (done.length : Int) + 1 := wrap_fits (by omega) (by omega)
  cases rest with
  | nil =>
    have hlt : ¬ (done.length : Int) < (e.args.length : Int) := by simp at hlen2; omega
    obtain hdone : e.args = done := by simpa using hl'
    rcases h5 with ⟨hd0, _⟩ | ⟨hne, v, h5, h28⟩
    case inl =>
      have h00 : e.args.length = 0 := by rw [hdone, hd0]; rfl
      omega
    have hrw : (done.map fun x => (x.eval row).enc) = l.map Vl.enc := by rw [hleq, hdone]; simp
    rw [hrw] at h28
    have hrow : getRow st.o 28 v = some (42, l.map Vl.enc) := by simp [getRow, h28]
    have hvv : ∀ v ∈ l, v.valid = true := fun v hv => by rw [hleq] at hv; obtain ⟨x, _, rfl⟩ := List.mem_map.1 hv; exact Ex.eval_valid row x
    have hg0 := nth_get hpos
    have hl0 : (0 : Int) < (l.length : Int) := by omega
    clear hleq hrw
    simp only [go_sem, Nat.reduceEqDiff, Nat.reduceAdd, Nat.reduceSub, Nat.reduceLeDiff, Nat.reduceLT, Nat.reduceMul, Nat.reduceBEq, Int.reduceEq, Int.reduceLT, Int.reduceLE, Int.reduceNeg, Int.reduceToNat, reduceCtorEq, ho, Try.results39, h6, hlt, hs2, hb2, List.length_map]
    simp only [go_sem, Nat.reduceEqDiff, Nat.reduceAdd, Nat.reduceSub, Nat.reduceLeDiff, Nat.reduceLT, Nat.reduceMul, Nat.reduceBEq, Int.reduceEq, Int.reduceLT, Int.reduceLE, Int.reduceNeg, Int.reduceToNat, reduceCtorEq, ho, Try.results39, hop, h5, hs1, hs2, hs4, hb2, hb4, hrow, hg0, hl0, Vl.enc]
    refine GCall.fr ?_ (rtruth_fn (nth l 0)) (.inl rfl) ?_; (focus (first | rfl | ((simp only [go_sem, Nat.reduceEqDiff, Nat.reduceAdd, Nat.reduceSub, Nat.reduceLeDiff, Nat.reduceLT, Nat.reduceMul, Nat.reduceBEq, Int.reduceEq, Int.reduceLT, Int.reduceLE, Int.reduceNeg, Int.reduceToNat, reduceCtorEq, ho, Try.results39]); done) | ((simp only [go_sem, Nat.reduceEqDiff, Nat.reduceAdd, Nat.reduceSub, Nat.reduceLeDiff, Nat.reduceLT, Nat.reduceMul, Nat.reduceBEq, Int.reduceEq, Int.reduceLT, Int.reduceLE, Int.reduceNeg, Int.reduceToNat, reduceCtorEq, ho, Try.results39]); rfl)))
    simp only [go_sem, Nat.reduceEqDiff, Nat.reduceAdd, Nat.reduceSub, Nat.reduceLeDiff, Nat.reduceLT, Nat.reduceMul, Nat.reduceBEq, Int.reduceEq, Int.reduceLT, Int.reduceLE, Int.reduceNeg, Int.reduceToNat, reduceCtorEq, ho, Try.results39]
    refine GCall.fr ?_ (rnot_fn (nth l 0).truth) (.inl rfl) ?_; (focus (first | rfl | ((simp only [go_sem, Nat.reduceEqDiff, Nat.reduceAdd, Nat.reduceSub, Nat.reduceLeDiff, Nat.reduceLT, Nat.reduceMul, Nat.reduceBEq, Int.reduceEq, Int.reduceLT, Int.reduceLE, Int.reduceNeg, Int.reduceToNat, reduceCtorEq, ho, Try.results39]); done) | ((simp only [go_sem, Nat.reduceEqDiff, Nat.reduceAdd, Nat.reduceSub, Nat.reduceLeDiff, Nat.reduceLT, Nat.reduceMul, Nat.reduceBEq, Int.reduceEq, Int.reduceLT, Int.reduceLE, Int.reduceNeg, Int.reduceToNat, reduceCtorEq, ho, Try.results39]); rfl)))
    simp only [go_sem, Nat.reduceEqDiff, Nat.reduceAdd, Nat.reduceSub, Nat.reduceLeDiff, Nat.reduceLT, Nat.reduceMul, Nat.reduceBEq, Int.reduceEq, Int.reduceLT, Int.reduceLE, Int.reduceNeg, Int.reduceToNat, reduceCtorEq, ho, Try.results39]
    refine GCall.fr ?_ (rof_fn (tnot (nth l 0).truth)) (.inl rfl) ?_; (focus (first | rfl | ((simp only [go_sem, Nat.reduceEqDiff, Nat.reduceAdd, Nat.reduceSub, Nat.reduceLeDiff, Nat.reduceLT, Nat.reduceMul, Nat.reduceBEq, Int.reduceEq, Int.reduceLT, Int.reduceLE, Int.reduceNeg, Int.reduceToNat, reduceCtorEq, ho, Try.results39]); done) | ((simp only [go_sem, Nat.reduceEqDiff, Nat.reduceAdd, Nat.reduceSub, Nat.reduceLeDiff, Nat.reduceLT, Nat.reduceMul, Nat.reduceBEq, Int.reduceEq, Int.reduceLT, Int.reduceLE, Int.reduceNeg, Int.reduceToNat, reduceCtorEq, ho, Try.results39]); rfl)))
    simp only [go_sem, Nat.reduceEqDiff, Nat.reduceAdd, Nat.reduceSub, Nat.reduceLeDiff, Nat.reduceLT, Nat.reduceMul, Nat.reduceBEq, Int.reduceEq, Int.reduceLT, Int.reduceLE, Int.reduceNeg, Int.reduceToNat, reduceCtorEq, ho, Try.results39, Vl.enc, h5, hs1, hs2, hs4, hb2, hb4]
    rw [evo_4, logicV4]; exact ⟨rfl, rfl, rfl⟩
  | cons x rest =>
    have hlt : (done.length : Int) < (e.args.length : Int) := by simp at hlen2; omega
    have hget : (e.args.map Ex.enc)[done.length]? = some x.enc := by simp [hl']
    have hxs : x.size ≤ n := by have := hsz; rw [hl', Ex.sizes_app] at this; simp [Ex.sizes] at this; omega
    simp only [go_sem, Nat.reduceEqDiff, Nat.reduceAdd, Nat.reduceSub, Nat.reduceLeDiff, Nat.reduceLT, Nat.reduceMul, Nat.reduceBEq, Int.reduceEq, Int.reduceLT, Int.reduceLE, Int.reduceNeg, Int.reduceToNat, reduceCtorEq, ho, Try.results39, h6, hs1, hs2, hs4, hb2, hb4, hlt, hget, List.length_map, Int.natCast_nonneg, Int.toNat_natCast]
    refine GCall.fr ?_ (IH x hxs) (.inl rfl) ?_; (focus (first | rfl | ((simp only [go_sem, Nat.reduceEqDiff, Nat.reduceAdd, Nat.reduceSub, Nat.reduceLeDiff, Nat.reduceLT, Nat.reduceMul, Nat.reduceBEq, Int.reduceEq, Int.reduceLT, Int.reduceLE, Int.reduceNeg, Int.reduceToNat, reduceCtorEq, ho, Try.results39, x.enc_eq, hs1]); done) | ((simp only [go_sem, Nat.reduceEqDiff, Nat.reduceAdd, Nat.reduceSub, Nat.reduceLeDiff, Nat.reduceLT, Nat.reduceMul, Nat.reduceBEq, Int.reduceEq, Int.reduceLT, Int.reduceLE, Int.reduceNeg, Int.reduceToNat, reduceCtorEq, ho, Try.results39, x.enc_eq, hs1]); rfl)))
    simp only [go_sem, Nat.reduceEqDiff, Nat.reduceAdd, Nat.reduceSub, Nat.reduceLeDiff, Nat.reduceLT, Nat.reduceMul, Nat.reduceBEq, Int.reduceEq, Int.reduceLT, Int.reduceLE, Int.reduceNeg, Int.reduceToNat, reduceCtorEq, ho, Try.results39, h6, hs1, hs2, hs4, hb2, hb4]
    have hbig : (done.length + 1) * 33 ≤ 140737488355328 := by omega
    have hb2' := hb2
    rw [e.enc_cells] at hb2'
    rcases h5 with ⟨rfl, h5⟩ | ⟨hne, v, h5, h28⟩
    · simp only [go_sem, Nat.reduceEqDiff, Nat.reduceAdd, Nat.reduceSub, Nat.reduceLeDiff, Nat.reduceLT, Nat.reduceMul, Nat.reduceBEq, Int.reduceEq, Int.reduceLT, Int.reduceLE, Int.reduceNeg, Int.reduceToNat, reduceCtorEq, ho, Try.results39, h6, hs1, hs2, hs4, hb2', hb4, h5, hw, Vl.enc]
      exact ⟨rest.length, by simp at hm'; omega, [x], rest, by simpa using hl', rfl, rfl, .inr ⟨by simp, _, rfl, by simp [Vl.enc]⟩⟩
    · simp only [go_sem, Nat.reduceEqDiff, Nat.reduceAdd, Nat.reduceSub, Nat.reduceLeDiff, Nat.reduceLT, Nat.reduceMul, Nat.reduceBEq, Int.reduceEq, Int.reduceLT, Int.reduceLE, Int.reduceNeg, Int.reduceToNat, reduceCtorEq, ho, Try.results39, h6, hs1, hs2, hs4, hb2', hb4, h5, h28, hw, hbig, List.length_map, Vl.enc]
      exact ⟨rest.length, by simp at hm'; omega, done ++ [x], rest, by simp [hl'], rfl, by simp, .inr ⟨by simp, _, rfl, by simp [Vl.enc]⟩⟩
theorem revalc_5 (row : List Vl) (n : Nat) (hn : n + 1 ≤ 100000000) (IH : ∀ x : Ex, x.size ≤ n → Fc 39 [x.enc, .sl (row.map Vl.enc)] (x.eval row).enc) (e : Ex) (h : e.size ≤ n + 1) (hf : e.formed = true) (hop : e.op = 5) : Fc 39 [e.enc, .sl (row.map Vl.enc)] (e.eval row).enc := by
  obtain ⟨l, hleq⟩ : ∃ l, l = e.args.map (Ex.eval row) := ⟨_, rfl⟩
  have hev : e.eval row = evalOp row 5 e.int e.val l := by rw [Ex.eval_eq, hf, hop, hleq]; rfl
  have hsz := e.size_eq
  have hlen := Ex.len_sizes e.args
  have hfit := formed_len hf
  rw [hop] at hfit
  refine fn_of_awp (E := E0) (M := M0) follows Try.func39 rfl (by decide) ok39 (by decide) (by simp) fun o ho => ?_
  rw [hev]
  clear hev
  simp only [go_sem, Nat.reduceEqDiff, Nat.reduceAdd, Nat.reduceSub, Nat.reduceLeDiff, Nat.reduceLT, Nat.reduceMul, Nat.reduceBEq, Int.reduceEq, Int.reduceLT, Int.reduceLE, Int.reduceNeg, Int.reduceToNat, reduceCtorEq, ho, Try.results39, e.enc_eq]
  refine GCall.fr ?_ (rformed_fn e (by omega)) (.inl rfl) ?_; (focus (first | rfl | ((simp only [go_sem, Nat.reduceEqDiff, Nat.reduceAdd, Nat.reduceSub, Nat.reduceLeDiff, Nat.reduceLT, Nat.reduceMul, Nat.reduceBEq, Int.reduceEq, Int.reduceLT, Int.reduceLE, Int.reduceNeg, Int.reduceToNat, reduceCtorEq, ho, Try.results39, e.enc_eq]); done) | ((simp only [go_sem, Nat.reduceEqDiff, Nat.reduceAdd, Nat.reduceSub, Nat.reduceLeDiff, Nat.reduceLT, Nat.reduceMul, Nat.reduceBEq, Int.reduceEq, Int.reduceLT, Int.reduceLE, Int.reduceNeg, Int.reduceToNat, reduceCtorEq, ho, Try.results39, e.enc_eq]); rfl)))
  simp only [go_sem, Nat.reduceEqDiff, Nat.reduceAdd, Nat.reduceSub, Nat.reduceLeDiff, Nat.reduceLT, Nat.reduceMul, Nat.reduceBEq, Int.reduceEq, Int.reduceLT, Int.reduceLE, Int.reduceNeg, Int.reduceToNat, reduceCtorEq, ho, Try.results39, hf]
  have hl100 : e.args.length ≤ 100000000 := by omega
  have hllen : l.length = e.args.length := by rw [hleq]; simp
  have hpos := fits_pos (op := 5) (l := l) (by rw [hllen]; exact hfit) (by decide) (by decide)
  refine ⟨fun m st => ∃ (done rest : List Ex), e.args = done ++ rest ∧ rest.length = m ∧ st.s 6 = .int .i64 done.length ∧ st.s 1 = .sl (row.map Vl.enc) ∧ st.s 2 = .ptr 2 1 0 ∧ st.s 4 = .ptr 4 1 0 ∧ getBox st.o 2 1 = some (49, e.enc.cells) ∧ st.o 4 = (1, some (true, .box 42 [.int .i64 0, .int .i64 0, .str ⟨#[]⟩])) ∧ ((done = [] ∧ st.s 5 = .nil) ∨ (done ≠ [] ∧ ∃ v, st.s 5 = .ref 28 v ∧ st.o 28 = (v, some (true, .row 42 (done.map fun x => (x.eval row).enc))))), e.args.length,
    ⟨[], e.args, rfl, rfl, by simp only [go_sem, Nat.reduceEqDiff, Nat.reduceAdd, Nat.reduceSub, Nat.reduceLeDiff, Nat.reduceLT, Nat.reduceMul, Nat.reduceBEq, Int.reduceEq, Int.reduceLT, Int.reduceLE, Int.reduceNeg, Int.reduceToNat, reduceCtorEq, ho, Try.results39]; rfl, by simp only [go_sem, Nat.reduceEqDiff, Nat.reduceAdd, Nat.reduceSub, Nat.reduceLeDiff, Nat.reduceLT, Nat.reduceMul, Nat.reduceBEq, Int.reduceEq, Int.reduceLT, Int.reduceLE, Int.reduceNeg, Int.reduceToNat, reduceCtorEq, ho, Try.results39], by simp only [go_sem, Nat.reduceEqDiff, Nat.reduceAdd, Nat.reduceSub, Nat.reduceLeDiff, Nat.reduceLT, Nat.reduceMul, Nat.reduceBEq, Int.reduceEq, Int.reduceLT, Int.reduceLE, Int.reduceNeg, Int.reduceToNat, reduceCtorEq, ho, Try.results39], by simp only [go_sem, Nat.reduceEqDiff, Nat.reduceAdd, Nat.reduceSub, Nat.reduceLeDiff, Nat.reduceLT, Nat.reduceMul, Nat.reduceBEq, Int.reduceEq, Int.reduceLT, Int.reduceLE, Int.reduceNeg, Int.reduceToNat, reduceCtorEq, ho, Try.results39], by simp only [go_sem, Nat.reduceEqDiff, Nat.reduceAdd, Nat.reduceSub, Nat.reduceLeDiff, Nat.reduceLT, Nat.reduceMul, Nat.reduceBEq, Int.reduceEq, Int.reduceLT, Int.reduceLE, Int.reduceNeg, Int.reduceToNat, reduceCtorEq, ho, Try.results39], by simp only [go_sem, Nat.reduceEqDiff, Nat.reduceAdd, Nat.reduceSub, Nat.reduceLeDiff, Nat.reduceLT, Nat.reduceMul, Nat.reduceBEq, Int.reduceEq, Int.reduceLT, Int.reduceLE, Int.reduceNeg, Int.reduceToNat, reduceCtorEq, ho, Try.results39], .inl ⟨rfl, by simp only [go_sem, Nat.reduceEqDiff, Nat.reduceAdd, Nat.reduceSub, Nat.reduceLeDiff, Nat.reduceLT, Nat.reduceMul, Nat.reduceBEq, Int.reduceEq, Int.reduceLT, Int.reduceLE, Int.reduceNeg, Int.reduceToNat, reduceCtorEq, ho, Try.results39]⟩⟩, ?_⟩
  rintro m st ⟨done, rest, hl', hm', h6, hs1, hs2, hs4, hb2, hb4, h5⟩
  have hlen2 : done.length + rest.length = e.args.length := by rw [hl']; simp
  have hw : IntKind.i64.wrap ((done.length : Int) + 1) = (done.length : Int) + 1 := wrap_fits (by omega) (by omega)
  cases rest with
  | nil =>
    have hlt : ¬ (done.length : Int) < (e.args.length : Int) := by simp at hlen2; omega
    obtain hdone : e.args = done := by simpa using hl'
    rcases h5 with ⟨hd0, _⟩ | ⟨hne, v, h5, h28⟩
    case inl =>
      have h00 : e.args.length = 0 := by rw [hdone, hd0]; rfl
      omega
    have hrw : (done.map fun x => (x.eval row).enc) = l.map Vl.enc := by rw [hleq, hdone]; simp
    rw [hrw] at h28
    have hrow : getRow st.o 28 v = some (42, l.map Vl.enc) := by simp [getRow, h28]
    have hvv : ∀ v ∈ l, v.valid = true := fun v hv => by rw [hleq] at hv; obtain ⟨x, _, rfl⟩ := List.mem_map.1 hv; exact Ex.eval_valid row x
    have hg0 := nth_get hpos
    have hl0 : (0 : Int) < (l.length : Int) := by omega
    clear hleq hrw
    simp only [go_sem, Nat.reduceEqDiff, Nat.reduceAdd, Nat.reduceSub, Nat.reduceLeDiff, Nat.reduceLT, Nat.reduceMul, Nat.reduceBEq, Int.reduceEq, Int.reduceLT, Int.reduceLE, Int.reduceNeg, Int.reduceToNat, reduceCtorEq, ho, Try.results39, h6, hlt, hs2, hb2, List.length_map]
    simp only [go_sem, Nat.reduceEqDiff, Nat.reduceAdd, Nat.reduceSub, Nat.reduceLeDiff, Nat.reduceLT, Nat.reduceMul, Nat.reduceBEq, Int.reduceEq, Int.reduceLT, Int.reduceLE, Int.reduceNeg, Int.reduceToNat, reduceCtorEq, ho, Try.results39, hop, h5, hs1, hs2, hs4, hb2, hb4]
    refine GCall.fr ?_ (rlogicL_fn 5 (by omega) l (by omega) hpos) (.inl rfl) ?_; (focus (first | rfl | ((simp only [go_sem, Nat.reduceEqDiff, Nat.reduceAdd, Nat.reduceSub, Nat.reduceLeDiff, Nat.reduceLT, Nat.reduceMul, Nat.reduceBEq, Int.reduceEq, Int.reduceLT, Int.reduceLE, Int.reduceNeg, Int.reduceToNat, reduceCtorEq, ho, Try.results39, hop, hrow]); done) | ((simp only [go_sem, Nat.reduceEqDiff, Nat.reduceAdd, Nat.reduceSub, Nat.reduceLeDiff, Nat.reduceLT, Nat.reduceMul, Nat.reduceBEq, Int.reduceEq, Int.reduceLT, Int.reduceLE, Int.reduceNeg, Int.reduceToNat, reduceCtorEq, ho, Try.results39, hop, hrow]); rfl)))
    simp only [go_sem, Nat.reduceEqDiff, Nat.reduceAdd, Nat.reduceSub, Nat.reduceLeDiff, Nat.reduceLT, Nat.reduceMul, Nat.reduceBEq, Int.reduceEq, Int.reduceLT, Int.reduceLE, Int.reduceNeg, Int.reduceToNat, reduceCtorEq, ho, Try.results39, Vl.enc, h5, hs1, hs2, hs4, hb2, hb4]
    rw [evo_5]; exact ⟨rfl, rfl, rfl⟩
  | cons x rest =>
    have hlt : (done.length : Int) < (e.args.length : Int) := by simp at hlen2; omega
    have hget : (e.args.map Ex.enc)[done.length]? = some x.enc := by simp [hl']
    have hxs : x.size ≤ n := by have := hsz; rw [hl', Ex.sizes_app] at this; simp [Ex.sizes] at this; omega
    simp only [go_sem, Nat.reduceEqDiff, Nat.reduceAdd, Nat.reduceSub, Nat.reduceLeDiff, Nat.reduceLT, Nat.reduceMul, Nat.reduceBEq, Int.reduceEq, Int.reduceLT, Int.reduceLE, Int.reduceNeg, Int.reduceToNat, reduceCtorEq, ho, Try.results39, h6, hs1, hs2, hs4, hb2, hb4, hlt, hget, List.length_map, Int.natCast_nonneg, Int.toNat_natCast]
    refine GCall.fr ?_ (IH x hxs) (.inl rfl) ?_; (focus (first | rfl | ((simp only [go_sem, Nat.reduceEqDiff, Nat.reduceAdd, Nat.reduceSub, Nat.reduceLeDiff, Nat.reduceLT, Nat.reduceMul, Nat.reduceBEq, Int.reduceEq, Int.reduceLT, Int.reduceLE, Int.reduceNeg, Int.reduceToNat, reduceCtorEq, ho, Try.results39, x.enc_eq, hs1]); done) | ((simp only [go_sem, Nat.reduceEqDiff, Nat.reduceAdd, Nat.reduceSub, Nat.reduceLeDiff, Nat.reduceLT, Nat.reduceMul, Nat.reduceBEq, Int.reduceEq, Int.reduceLT, Int.reduceLE, Int.reduceNeg, Int.reduceToNat, reduceCtorEq, ho, Try.results39, x.enc_eq, hs1]); rfl)))
    simp only [go_sem, Nat.reduceEqDiff, Nat.reduceAdd, Nat.reduceSub, Nat.reduceLeDiff, Nat.reduceLT, Nat.reduceMul, Nat.reduceBEq, Int.reduceEq, Int.reduceLT, Int.reduceLE, Int.reduceNeg, Int.reduceToNat, reduceCtorEq, ho, Try.results39, h6, hs1, hs2, hs4, hb2, hb4]
    have hbig : (done.length + 1) * 33 ≤ 140737488355328 := by omega
    have hb2' := hb2
    rw [e.enc_cells] at hb2'
    rcases h5 with ⟨rfl, h5⟩ | ⟨hne, v, h5, h28⟩
    · simp only [go_sem, Nat.reduceEqDiff, Nat.reduceAdd, Nat.reduceSub, Nat.reduceLeDiff, Nat.reduceLT, Nat.reduceMul, Nat.reduceBEq, Int.reduceEq, Int.reduceLT, Int.reduceLE, Int.reduceNeg, Int.reduceToNat, reduceCtorEq, ho, Try.results39, h6, hs1, hs2, hs4, hb2', hb4, h5, hw, Vl.enc]
      exact ⟨rest.length, by simp at hm'; omega, [x], rest, by simpa using hl', rfl, rfl, .inr ⟨by simp, _, rfl, by simp [Vl.enc]⟩⟩
    · simp only [go_sem, Nat.reduceEqDiff, Nat.reduceAdd, Nat.reduceSub, Nat.reduceLeDiff, Nat.reduceLT, Nat.reduceMul, Nat.reduceBEq, Int.reduceEq, Int.reduceLT, Int.reduceLE, Int.reduceNeg, Int.reduceToNat, reduceCtorEq, ho, Try.results39, h6, hs1, hs2, hs4, hb2', hb4, h5, h28, hw, hbig, List.length_map, Vl.enc]
      exact ⟨rest.length, by simp at hm'; omega, done ++ [x], rest, by simp [hl'], rfl, by simp, .inr ⟨by simp, _, rfl, by simp [Vl.enc]⟩⟩
theorem revalc_6 (row : List Vl) (n : Nat) (hn : n + 1 ≤ 100000000) (IH : ∀ x : Ex, x.size ≤ n → Fc 39 [x.enc, .sl (row.map Vl.enc)] (x.eval row).enc) (e : Ex) (h : e.size ≤ n + 1) (hf : e.formed = true) (hop : e.op = 6) : Fc 39 [e.enc, .sl (row.map Vl.enc)] (e.eval row).enc := by
  obtain ⟨l, hleq⟩ : ∃ l, l = e.args.map (Ex.eval row) := ⟨_, rfl⟩
  have hev : e.eval row = evalOp row 6 e.int e.val l := by rw [Ex.eval_eq, hf, hop, hleq]; rfl
  have hsz := e.size_eq
  have hlen := Ex.len_sizes e.args
  have hfit := formed_len hf
  rw [hop] at hfit
  refine fn_of_awp (E := E0) (M := M0) follows Try.func39 rfl (by decide) ok39 (by decide) (by simp) fun o ho => ?_
  rw [hev]
  clear hev
  simp only [go_sem, Nat.reduceEqDiff, Nat.reduceAdd, Nat.reduceSub, Nat.reduceLeDiff, Nat.reduceLT, Nat.reduceMul, Nat.reduceBEq, Int.reduceEq, Int.reduceLT, Int.reduceLE, Int.reduceNeg, Int.reduceToNat, reduceCtorEq, ho, Try.results39, e.enc_eq]
  refine GCall.fr ?_ (rformed_fn e (by omega)) (.inl rfl) ?_; (focus (first | rfl | ((simp only [go_sem, Nat.reduceEqDiff, Nat.reduceAdd, Nat.reduceSub, Nat.reduceLeDiff, Nat.reduceLT, Nat.reduceMul, Nat.reduceBEq, Int.reduceEq, Int.reduceLT, Int.reduceLE, Int.reduceNeg, Int.reduceToNat, reduceCtorEq, ho, Try.results39, e.enc_eq]); done) | ((simp only [go_sem, Nat.reduceEqDiff, Nat.reduceAdd, Nat.reduceSub, Nat.reduceLeDiff, Nat.reduceLT, Nat.reduceMul, Nat.reduceBEq, Int.reduceEq, Int.reduceLT, Int.reduceLE, Int.reduceNeg, Int.reduceToNat, reduceCtorEq, ho, Try.results39, e.enc_eq]); rfl)))
  simp only [go_sem, Nat.reduceEqDiff, Nat.reduceAdd, Nat.reduceSub, Nat.reduceLeDiff, Nat.reduceLT, Nat.reduceMul, Nat.reduceBEq, Int.reduceEq, Int.reduceLT, Int.reduceLE, Int.reduceNeg, Int.reduceToNat, reduceCtorEq, ho, Try.results39, hf]
  have hl100 : e.args.length ≤ 100000000 := by omega
  have hllen : l.length = e.args.length := by rw [hleq]; simp
  have hpos := fits_pos (op := 6) (l := l) (by rw [hllen]; exact hfit) (by decide) (by decide)
  refine ⟨fun m st => ∃ (done rest : List Ex), e.args = done ++ rest ∧ rest.length = m ∧ st.s 6 = .int .i64 done.length ∧ st.s 1 = .sl (row.map Vl.enc) ∧ st.s 2 = .ptr 2 1 0 ∧ st.s 4 = .ptr 4 1 0 ∧ getBox st.o 2 1 = some (49, e.enc.cells) ∧ st.o 4 = (1, some (true, .box 42 [.int .i64 0, .int .i64 0, .str ⟨#[]⟩])) ∧ ((done = [] ∧ st.s 5 = .nil) ∨ (done ≠ [] ∧ ∃ v, st.s 5 = .ref 28 v ∧ st.o 28 = (v, some (true, .row 42 (done.map fun x => (x.eval row).enc))))), e.args.length,
    ⟨[], e.args, rfl, rfl, by simp only [go_sem, Nat.reduceEqDiff, Nat.reduceAdd, Nat.reduceSub, Nat.reduceLeDiff, Nat.reduceLT, Nat.reduceMul, Nat.reduceBEq, Int.reduceEq, Int.reduceLT, Int.reduceLE, Int.reduceNeg, Int.reduceToNat, reduceCtorEq, ho, Try.results39]; rfl, by simp only [go_sem, Nat.reduceEqDiff, Nat.reduceAdd, Nat.reduceSub, Nat.reduceLeDiff, Nat.reduceLT, Nat.reduceMul, Nat.reduceBEq, Int.reduceEq, Int.reduceLT, Int.reduceLE, Int.reduceNeg, Int.reduceToNat, reduceCtorEq, ho, Try.results39], by simp only [go_sem, Nat.reduceEqDiff, Nat.reduceAdd, Nat.reduceSub, Nat.reduceLeDiff, Nat.reduceLT, Nat.reduceMul, Nat.reduceBEq, Int.reduceEq, Int.reduceLT, Int.reduceLE, Int.reduceNeg, Int.reduceToNat, reduceCtorEq, ho, Try.results39], by simp only [go_sem, Nat.reduceEqDiff, Nat.reduceAdd, Nat.reduceSub, Nat.reduceLeDiff, Nat.reduceLT, Nat.reduceMul, Nat.reduceBEq, Int.reduceEq, Int.reduceLT, Int.reduceLE, Int.reduceNeg, Int.reduceToNat, reduceCtorEq, ho, Try.results39], by simp only [go_sem, Nat.reduceEqDiff, Nat.reduceAdd, Nat.reduceSub, Nat.reduceLeDiff, Nat.reduceLT, Nat.reduceMul, Nat.reduceBEq, Int.reduceEq, Int.reduceLT, Int.reduceLE, Int.reduceNeg, Int.reduceToNat, reduceCtorEq, ho, Try.results39], by simp only [go_sem, Nat.reduceEqDiff, Nat.reduceAdd, Nat.reduceSub, Nat.reduceLeDiff, Nat.reduceLT, Nat.reduceMul, Nat.reduceBEq, Int.reduceEq, Int.reduceLT, Int.reduceLE, Int.reduceNeg, Int.reduceToNat, reduceCtorEq, ho, Try.results39], .inl ⟨rfl, by simp only [go_sem, Nat.reduceEqDiff, Nat.reduceAdd, Nat.reduceSub, Nat.reduceLeDiff, Nat.reduceLT, Nat.reduceMul, Nat.reduceBEq, Int.reduceEq, Int.reduceLT, Int.reduceLE, Int.reduceNeg, Int.reduceToNat, reduceCtorEq, ho, Try.results39]⟩⟩, ?_⟩
  rintro m st ⟨done, rest, hl', hm', h6, hs1, hs2, hs4, hb2, hb4, h5⟩
  have hlen2 : done.length + rest.length = e.args.length := by rw [hl']; simp
  have hw : IntKind.i64.wrap ((done.length : Int) + 1) = (done.length : Int) + 1 := wrap_fits (by omega) (by omega)
  cases rest with
  | nil =>
    have hlt : ¬ (done.length : Int) < (e.args.length : Int) := by simp at hlen2; omega
    obtain hdone : e.args = done := by simpa using hl'
    rcases h5 with ⟨hd0, _⟩ | ⟨hne, v, h5, h28⟩
    case inl =>
      have h00 : e.args.length = 0 := by rw [hdone, hd0]; rfl
      omega
    have hrw : (done.map fun x => (x.eval row).enc) = l.map Vl.enc := by rw [hleq, hdone]; simp
    rw [hrw] at h28
    have hrow : getRow st.o 28 v = some (42, l.map Vl.enc) := by simp [getRow, h28]
    have hvv : ∀ v ∈ l, v.valid = true := fun v hv => by rw [hleq] at hv; obtain ⟨x, _, rfl⟩ := List.mem_map.1 hv; exact Ex.eval_valid row x
    have hg0 := nth_get hpos
    have hl0 : (0 : Int) < (l.length : Int) := by omega
    clear hleq hrw
    simp only [go_sem, Nat.reduceEqDiff, Nat.reduceAdd, Nat.reduceSub, Nat.reduceLeDiff, Nat.reduceLT, Nat.reduceMul, Nat.reduceBEq, Int.reduceEq, Int.reduceLT, Int.reduceLE, Int.reduceNeg, Int.reduceToNat, reduceCtorEq, ho, Try.results39, h6, hlt, hs2, hb2, List.length_map]
    simp only [go_sem, Nat.reduceEqDiff, Nat.reduceAdd, Nat.reduceSub, Nat.reduceLeDiff, Nat.reduceLT, Nat.reduceMul, Nat.reduceBEq, Int.reduceEq, Int.reduceLT, Int.reduceLE, Int.reduceNeg, Int.reduceToNat, reduceCtorEq, ho, Try.results39, hop, h5, hs1, hs2, hs4, hb2, hb4]
    refine GCall.fr ?_ (rlogicL_fn 6 (by omega) l (by omega) hpos) (.inl rfl) ?_; (focus (first | rfl | ((simp only [go_sem, Nat.reduceEqDiff, Nat.reduceAdd, Nat.reduceSub, Nat.reduceLeDiff, Nat.reduceLT, Nat.reduceMul, Nat.reduceBEq, Int.reduceEq, Int.reduceLT, Int.reduceLE, Int.reduceNeg, Int.reduceToNat, reduceCtorEq, ho, Try.results39, hop, hrow]); done) | ((simp only [go_sem, Nat.reduceEqDiff, Nat.reduceAdd, Nat.reduceSub, Nat.reduceLeDiff, Nat.reduceLT, Nat.reduceMul, Nat.reduceBEq, Int.reduceEq, Int.reduceLT, Int.reduceLE, Int.reduceNeg, Int.reduceToNat, reduceCtorEq, ho, Try.results39, hop, hrow]); rfl)))
    simp only [go_sem, Nat.reduceEqDiff, Nat.reduceAdd, Nat.reduceSub, Nat.reduceLeDiff, Nat.reduceLT, Nat.reduceMul, Nat.reduceBEq, Int.reduceEq, Int.reduceLT, Int.reduceLE, Int.reduceNeg, Int.reduceToNat, reduceCtorEq, ho, Try.results39, Vl.enc, h5, hs1, hs2, hs4, hb2, hb4]
    rw [evo_6]; exact ⟨rfl, rfl, rfl⟩
  | cons x rest =>
    have hlt : (done.length : Int) < (e.args.length : Int) := by simp at hlen2; omega
    have hget : (e.args.map Ex.enc)[done.length]? = some x.enc := by simp [hl']
    have hxs : x.size ≤ n := by have := hsz; rw [hl', Ex.sizes_app] at this; simp [Ex.sizes] at this; omega
    simp only [go_sem, Nat.reduceEqDiff, Nat.reduceAdd, Nat.reduceSub, Nat.reduceLeDiff, Nat.reduceLT, Nat.reduceMul, Nat.reduceBEq, Int.reduceEq, Int.reduceLT, Int.reduceLE, Int.reduceNeg, Int.reduceToNat, reduceCtorEq, ho, Try.results39, h6, hs1, hs2, hs4, hb2, hb4, hlt, hget, List.length_map, Int.natCast_nonneg, Int.toNat_natCast]
    refine GCall.fr ?_ (IH x hxs) (.inl rfl) ?_; (focus (first | rfl | ((simp only [go_sem, Nat.reduceEqDiff, Nat.reduceAdd, Nat.reduceSub, Nat.reduceLeDiff, Nat.reduceLT, Nat.reduceMul, Nat.reduceBEq, Int.reduceEq, Int.reduceLT, Int.reduceLE, Int.reduceNeg, Int.reduceToNat, reduceCtorEq, ho, Try.results39, x.enc_eq, hs1]); done) | ((simp only [go_sem, Nat.reduceEqDiff, Nat.reduceAdd, Nat.reduceSub, Nat.reduceLeDiff, Nat.reduceLT, Nat.reduceMul, Nat.reduceBEq, Int.reduceEq, Int.reduceLT, Int.reduceLE, Int.reduceNeg, Int.reduceToNat, reduceCtorEq, ho, Try.results39, x.enc_eq, hs1]); rfl)))
    simp only [go_sem, Nat.reduceEqDiff, Nat.reduceAdd, Nat.reduceSub, Nat.reduceLeDiff, Nat.reduceLT, Nat.reduceMul, Nat.reduceBEq, Int.reduceEq, Int.reduceLT, Int.reduceLE, Int.reduceNeg, Int.reduceToNat, reduceCtorEq, ho, Try.results39, h6, hs1, hs2, hs4, hb2, hb4]
    have hbig : (done.length + 1) * 33 ≤ 140737488355328 := by omega
    have hb2' := hb2
    rw [e.enc_cells] at hb2'
    rcases h5 with ⟨rfl, h5⟩ | ⟨hne, v, h5, h28⟩
    · simp only [go_sem, Nat.reduceEqDiff, Nat.reduceAdd, Nat.reduceSub, Nat.reduceLeDiff, Nat.reduceLT, Nat.reduceMul, Nat.reduceBEq, Int.reduceEq, Int.reduceLT, Int.reduceLE, Int.reduceNeg, Int.reduceToNat, reduceCtorEq, ho, Try.results39, h6, hs1, hs2, hs4, hb2', hb4, h5, hw, Vl.enc]
      exact ⟨rest.length, by simp at hm'; omega, [x], rest, by simpa using hl', rfl, rfl, .inr ⟨by simp, _, rfl, by simp [Vl.enc]⟩⟩
    · simp only [go_sem, Nat.reduceEqDiff, Nat.reduceAdd, Nat.reduceSub, Nat.reduceLeDiff, Nat.reduceLT, Nat.reduceMul, Nat.reduceBEq, Int.reduceEq, Int.reduceLT, Int.reduceLE, Int.reduceNeg, Int.reduceToNat, reduceCtorEq, ho, Try.results39, h6, hs1, hs2, hs4, hb2', hb4, h5, h28, hw, hbig, List.length_map, Vl.enc]
      exact ⟨rest.length, by simp at hm'; omega, done ++ [x], rest, by simp [hl'], rfl, by simp, .inr ⟨by simp, _, rfl, by simp [Vl.enc]⟩⟩
end Go.Proofs.Ytiefnninebilbaa
/- What the reference's evaluation of an expression returns, operator by operator; no condition. -/
set_option maxRecDepth 100000
set_option linter.unusedVariables false
set_option linter.unusedSimpArgs false
namespace Go.Proofs.Ytiefnninebilbaa
open Go Go.Sx

theorem revalc_21 (row : List Vl) (n : Nat) (hn : n + 1 ≤ 100000000) (IH : ∀ x : Ex, x.size ≤ n → Fc 39 [x.enc, .sl (row.map Vl.enc)] (x.eval row).enc) (e : Ex) (h : e.size ≤ n + 1) (hf : e.formed = true) (hop : e.op = 21) : Fc 39 [e.enc, .sl (row.map Vl.enc)] (e.eval row).enc := by
  obtain ⟨l, hleq⟩ : ∃ l, l = e.args.map (Ex.eval row) := ⟨_, rfl⟩
  have hev : e.eval row = evalOp row 21 e.int e.val l := by rw [Ex.eval_eq, hf, hop, hleq]; rfl
  have hsz := e.size_eq
  have hlen := Ex.len_sizes e.args
  have hfit := formed_len hf
  rw [hop] at hfit
  refine fn_of_awp (E := E0) (M := M0) follows Try.func39 rfl (by decide) ok39 (by decide) (by simp) fun o ho => ?_
  rw [hev]
  clear hev
  simp only [go_sem, Nat.reduceEqDiff, Nat.reduceAdd, Nat.reduceSub, Nat.reduceLeDiff, Nat.reduceLT, Nat.reduceMul, Nat.reduceBEq, Int.reduceEq, Int.reduceLT, Int.reduceLE, Int.reduceNeg, Int.reduceToNat, reduceCtorEq, ho, Try.results39, e.enc_eq]
  refine GCall.fr ?_ (rformed_fn e (by omega)) (.inl rfl) ?_; (focus (first | rfl | ((simp only [go_sem, Nat.reduceEqDiff, Nat.reduceAdd, Nat.reduceSub, Nat.reduceLeDiff, Nat.reduceLT, Nat.reduceMul, Nat.reduceBEq, Int.reduceEq, Int.reduceLT, Int.reduceLE, Int.reduceNeg, Int.reduceToNat, reduceCtorEq, ho, Try.results39, e.enc_eq]); done) | ((simp only [go_sem, Nat.reduceEqDiff, Nat.reduceAdd, Nat.reduceSub, Nat.reduceLeDiff, Nat.reduceLT, Nat.reduceMul, Nat.reduceBEq, Int.reduceEq, Int.reduceLT, Int.reduceLE, Int.reduceNeg, Int.reduceToNat, reduceCtorEq, ho, Try.results39, e.enc_eq]); rfl)))
  simp only [go_sem, Nat.reduceEqDiff, Nat.reduceAdd, Nat.reduceSub, Nat.reduceLeDiff, Nat.reduceLT, Nat.reduceMul, Nat.reduceBEq, Int.reduceEq, Int.reduceLT, Int.reduceLE, Int.reduceNeg, Int.reduceToNat, reduceCtorEq, ho, Try.results39, hf]
  have hl100 : e.args.length ≤ 100000000 := by omega
  have hllen : l.length = e.args.length := by rw [hleq]; simp
  have hpos := fits_pos (op := 21) (l := l) (by rw [hllen]; exact hfit) (by decide) (by decide)
  refine ⟨fun m st => ∃ (done rest : List Ex), e.args = done ++ rest ∧ rest.length = m ∧ st.s 6 = .int .i64 done.length ∧ st.s 1 = .sl (row.map Vl.enc) ∧ st.s 2 = .ptr 2 1 0 ∧ st.s 4 = .ptr 4 1 0 ∧ getBox st.o 2 1 = some (49, e.enc.cells) ∧ st.o 4 = (1, some (true, .box 42 [.int .i64 0, .int .i64 0, .str ⟨#[]⟩])) ∧ ((done = [] ∧ st.s 5 = .nil) ∨ (done ≠ [] ∧ ∃ v, st.s 5 = .ref 28 v ∧ st.o 28 = (v, some (true, .row 42 (done.map fun x => (x.eval row).enc))))), e.args.length,
    ⟨[], e.args, rfl, rfl, by simp only [go_sem, Nat.reduceEqDiff, Nat.reduceAdd, Nat.reduceSub, Nat.reduceLeDiff, Nat.reduceLT, Nat.reduceMul, Nat.reduceBEq, Int.reduceEq, Int.reduceLT, Int.reduceLE, Int.reduceNeg, Int.reduceToNat, reduceCtorEq, ho, Try.results39]; rfl, by simp only [go_sem, Nat.reduceEqDiff, Nat.reduceAdd, Nat.reduceSub, Nat.reduceLeDiff, Nat.reduceLT, Nat.reduceMul, Nat.reduceBEq, Int.reduceEq, Int.reduceLT, Int.reduceLE, Int.reduceNeg, Int.reduceToNat, reduceCtorEq, ho, Try.results39], by simp only [go_sem, Nat.reduceEqDiff, Nat.reduceAdd, Nat.reduceSub, Nat.reduceLeDiff, Nat.reduceLT, Nat.reduceMul, Nat.reduceBEq, Int.reduceEq, Int.reduceLT, Int.reduceLE, Int.reduceNeg, Int.reduceToNat, reduceCtorEq, ho, Try.results39], by simp only [go_sem, Nat.reduceEqDiff, Nat.reduceAdd, Nat.reduceSub, Nat.reduceLeDiff, Nat.reduceLT, Nat.reduceMul, Nat.reduceBEq, Int.reduceEq, Int.reduceLT, Int.reduceLE, Int.reduceNeg, Int.reduceToNat, reduceCtorEq, ho, Try.results39], by simp only [go_sem, Nat.reduceEqDiff, Nat.reduceAdd, Nat.reduceSub, Nat.reduceLeDiff, Nat.reduceLT, Nat.reduceMul, Nat.reduceBEq, Int.reduceEq, Int.reduceLT, Int.reduceLE, Int.reduceNeg, Int.reduceToNat, reduceCtorEq, ho, Try.results39], by simp only [go_sem, Nat.reduceEqDiff, Nat.reduceAdd, Nat.reduceSub, Nat.reduceLeDiff, Nat.reduceLT, Nat.reduceMul, Nat.reduceBEq, Int.reduceEq, Int.reduceLT, Int.reduceLE, Int.reduceNeg, Int.reduceToNat, reduceCtorEq, ho, Try.results39], .inl ⟨rfl, by simp only [go_sem, Nat.reduceEqDiff, Nat.reduceAdd, Nat.reduceSub, Nat.reduceLeDiff, Nat.reduceLT, Nat.reduceMul, Nat.reduceBEq, Int.reduceEq, Int.reduceLT, Int.reduceLE, Int.reduceNeg, Int.reduceToNat, reduceCtorEq, ho, Try.results39]⟩⟩, ?_⟩
  rintro m st ⟨done, rest, hl', hm', h6, hs1, hs2, hs4, hb2, hb4, h5⟩
  have hlen2 : done.length + rest.length = e.args.length := by rw [hl']; simp
  have hw : IntKind.i64.wrap ((done.length : Int) + 1) = (done.length : Int) + 1 := wrap_fits (by omega) (by omega)
  cases rest with
  | nil =>
    have hlt : ¬ (done.length : Int) < (e.args.length : Int) := by simp at hlen2; omega
    obtain hdone : e.args = done := by simpa using hl'
    rcases h5 with ⟨hd0, _⟩ | ⟨hne, v, h5, h28⟩
    case inl =>
      have h00 : e.args.length = 0 := by rw [hdone, hd0]; rfl
      omega
    have hrw : (done.map fun x => (x.eval row).enc) = l.map Vl.enc := by rw [hleq, hdone]; simp
    rw [hrw] at h28
    have hrow : getRow st.o 28 v = some (42, l.map Vl.enc) := by simp [getRow, h28]
    have hvv : ∀ v ∈ l, v.valid = true := fun v hv => by rw [hleq] at hv; obtain ⟨x, _, rfl⟩ := List.mem_map.1 hv; exact Ex.eval_valid row x
    have hg0 := nth_get hpos
    have hl0 : (0 : Int) < (l.length : Int) := by omega
    clear hleq hrw
    simp only [go_sem, Nat.reduceEqDiff, Nat.reduceAdd, Nat.reduceSub, Nat.reduceLeDiff, Nat.reduceLT, Nat.reduceMul, Nat.reduceBEq, Int.reduceEq, Int.reduceLT, Int.reduceLE, Int.reduceNeg, Int.reduceToNat, reduceCtorEq, ho, Try.results39, h6, hlt, hs2, hb2, List.length_map]
    simp only [go_sem, Nat.reduceEqDiff, Nat.reduceAdd, Nat.reduceSub, Nat.reduceLeDiff, Nat.reduceLT, Nat.reduceMul, Nat.reduceBEq, Int.reduceEq, Int.reduceLT, Int.reduceLE, Int.reduceNeg, Int.reduceToNat, reduceCtorEq, ho, Try.results39, hop, h5, hs1, hs2, hs4, hb2, hb4, hrow, hg0, hl0]
    refine GCall.fr ?_ (rbool_fn (decide ((nth l 0).kind = 0))) (.inl rfl) ?_; (focus (first | rfl | ((simp only [go_sem, Nat.reduceEqDiff, Nat.reduceAdd, Nat.reduceSub, Nat.reduceLeDiff, Nat.reduceLT, Nat.reduceMul, Nat.reduceBEq, Int.reduceEq, Int.reduceLT, Int.reduceLE, Int.reduceNeg, Int.reduceToNat, reduceCtorEq, ho, Try.results39]); done) | ((simp only [go_sem, Nat.reduceEqDiff, Nat.reduceAdd, Nat.reduceSub, Nat.reduceLeDiff, Nat.reduceLT, Nat.reduceMul, Nat.reduceBEq, Int.reduceEq, Int.reduceLT, Int.reduceLE, Int.reduceNeg, Int.reduceToNat, reduceCtorEq, ho, Try.results39]); rfl)))
    simp only [go_sem, Nat.reduceEqDiff, Nat.reduceAdd, Nat.reduceSub, Nat.reduceLeDiff, Nat.reduceLT, Nat.reduceMul, Nat.reduceBEq, Int.reduceEq, Int.reduceLT, Int.reduceLE, Int.reduceNeg, Int.reduceToNat, reduceCtorEq, ho, Try.results39, Vl.enc, h5, hs1, hs2, hs4, hb2, hb4]
    rw [evo_21]; exact ⟨rfl, rfl, rfl⟩
  | cons x rest =>
    have hlt : (done.length : Int) < (e.args.length : Int) := by simp at hlen2; omega
    have hget : (e.args.map Ex.enc)[done.length]? = some x.enc := by simp [hl']
    have hxs : x.size ≤ n := by have := hsz; rw [hl', Ex.sizes_app] at this; simp [Ex.sizes] at this; omega
    simp only [go_sem, Nat.reduceEqDiff, Nat.reduceAdd, Nat.reduceSub, Nat.reduceLeDiff, Nat.reduceLT, Nat.reduceMul, Nat.reduceBEq, Int.reduceEq, Int.reduceLT, Int.reduceLE, Int.reduceNeg, Int.reduceToNat, reduceCtorEq, ho, Try.results39, h6, hs1, hs2, hs4, hb2, hb4, hlt, hget, List.length_map, Int.natCast_nonneg, Int.toNat_natCast]
    refine GCall.fr ?_ (IH x hxs) (.inl rfl) ?_; (focus (first | rfl | ((simp only [go_sem, Nat.reduceEqDiff, Nat.reduceAdd, Nat.reduceSub, Nat.reduceLeDiff, Nat.reduceLT, Nat.reduceMul, Nat.reduceBEq, Int.reduceEq, Int.reduceLT, Int.reduceLE, Int.reduceNeg, Int.reduceToNat, reduceCtorEq, ho, Try.results39, x.enc_eq, hs1]); done) | ((simp only [go_sem, Nat.reduceEqDiff, Nat.reduceAdd, Nat.reduceSub, Nat.reduceLeDiff, Nat.reduceLT, Nat.reduceMul, Nat.reduceBEq, Int.reduceEq, Int.reduceLT, Int.reduceLE, Int.reduceNeg, Int.reduceToNat, reduceCtorEq, ho, Try.results39, x.enc_eq, hs1]); rfl)))
    simp only [go_sem, Nat.reduceEqDiff, Nat.reduceAdd, Nat.reduceSub, Nat.reduceLeDiff, Nat.reduceLT, Nat.reduceMul, Nat.reduceBEq, Int.reduceEq, Int.reduceLT, Int.reduceLE, Int.reduceNeg, Int.reduceToNat, reduceCtorEq, ho, Try.results39, h6, hs1, hs2, hs4, hb2, hb4]
    have hbig : (done.length + 1) * 33 ≤ 140737488355328 := by omega
    have hb2' := hb2
    rw [e.enc_cells] at hb2'
    rcases h5 with ⟨rfl, h5⟩ | ⟨hne, v, h5, h28⟩
    · simp only [go_sem, Nat.reduceEqDiff, Nat.reduceAdd, Nat.reduceSub, Nat.reduceLeDiff, Nat.reduceLT, Nat.reduceMul, Nat.reduceBEq, Int.reduceEq, Int.reduceLT, Int.reduceLE, Int.reduceNeg, Int.reduceToNat, reduceCtorEq, ho, Try.results39, h6, hs1, hs2, hs4, hb2', hb4, h5, hw, Vl.enc]
      exact ⟨rest.length, by simp at hm'; omega, [x], rest, by simpa using hl', rfl, rfl, .inr ⟨by simp, _, rfl, by simp [Vl.enc]⟩⟩
    · simp only [go_sem, Nat.reduceEqDiff, Nat.reduceAdd, Nat.reduceSub, Nat.reduceLeDiff, Nat.reduceLT, Nat.reduceMul, Nat.reduceBEq, Int.reduceEq, Int.reduceLT, Int.reduceLE, Int.reduceNeg, Int.reduceToNat, reduceCtorEq, ho, Try.results39, h6, hs1, hs2, hs4, hb2', hb4, h5, h28, hw, hbig, List.length_map, Vl.enc]
      exact ⟨rest.length, by simp at hm'; omega, done ++ [x], rest, by simp [hl'], rfl, by simp, .inr ⟨by simp, _, rfl, by simp [Vl.enc]⟩⟩
theorem revalc_22 (row : List Vl) (n : Nat) (hn : n + 1 ≤ 100000000) (IH : ∀ x : Ex, x.size ≤ n → Fc 39 [x.enc, .sl (row.map Vl.enc)] (x.eval row).enc) (e : Ex) (h : e.size ≤ n + 1) (hf : e.formed = true) (hop : e.op = 22) : Fc 39 [e.enc, .sl (row.map Vl.enc)] (e.eval row).enc := by
  obtain ⟨l, hleq⟩ : ∃ l, l = e.args.map (Ex.eval row) := ⟨_, rfl⟩
  have hev : e.eval row = evalOp row 22 e.int e.val l := by rw [Ex.eval_eq, hf, hop, hleq]; rfl
  have hsz := e.size_eq
  have hlen := Ex.len_sizes e.args
  have hfit := formed_len hf
  rw [hop] at hfit
  refine fn_of_awp (E := E0) (M := M0) follows Try.func39 rfl (by decide) ok39 (by decide) (by simp) fun o ho => ?_
  rw [hev]
  clear hev
  simp only [go_sem, Nat.reduceEqDiff, Nat.reduceAdd, Nat.reduceSub, Nat.reduceLeDiff, Nat.reduceLT, Nat.reduceMul, Nat.reduceBEq, Int.reduceEq, Int.reduceLT, Int.reduceLE, Int.reduceNeg, Int.reduceToNat, reduceCtorEq, ho, Try.results39, e.enc_eq]
  refine GCall.fr ?_ (rformed_fn e (by omega)) (.inl rfl) ?_; (focus (first | rfl | ((simp only [go_sem, Nat.reduceEqDiff, Nat.reduceAdd, Nat.reduceSub, Nat.reduceLeDiff, Nat.reduceLT, Nat.reduceMul, Nat.reduceBEq, Int.reduceEq, Int.reduceLT, Int.reduceLE, Int.reduceNeg, Int.reduceToNat, reduceCtorEq, ho, Try.results39, e.enc_eq]); done) | ((simp only [go_sem, Nat.reduceEqDiff, Nat.reduceAdd, Nat.reduceSub, Nat.reduceLeDiff, Nat.reduceLT, Nat.reduceMul, Nat.reduceBEq, Int.reduceEq, Int.reduceLT, Int.reduceLE, Int.reduceNeg, Int.reduceToNat, reduceCtorEq, ho, Try.results39, e.enc_eq]); rfl)))
  simp only [go_sem, Nat.reduceEqDiff, Nat.reduceAdd, Nat.reduceSub, Nat.reduceLeDiff, Nat.reduceLT, Nat.reduceMul, Nat.reduceBEq, Int.reduceEq, Int.reduceLT, Int.reduceLE, Int.reduceNeg, Int.reduceToNat, reduceCtorEq, ho, Try.results39, hf]
  have hl100 : e.args.length ≤ 100000000 := by omega
  have hllen : l.length = e.args.length := by rw [hleq]; simp
  have hpos := fits_pos (op := 22) (l := l) (by rw [hllen]; exact hfit) (by decide) (by decide)
  refine ⟨fun m st => ∃ (done rest : List Ex), e.args = done ++ rest ∧ rest.length = m ∧ st.s 6 = .int .i64 done.length ∧ st.s 1 = .sl (row.map Vl.enc) ∧ st.s 2 = .ptr 2 1 0 ∧ st.s 4 = .ptr 4 1 0 ∧ getBox st.o 2 1 = some (49, e.enc.cells) ∧ st.o 4 = (1, some (true, .box 42 [.int .i64 0, .int .i64 0, .str ⟨#[]⟩])) ∧ ((done = [] ∧ st.s 5 = .nil) ∨ (done ≠ [] ∧ ∃ v, st.s 5 = .ref 28 v ∧ st.o 28 = (v, some (true, .row 42 (done.map fun x => (x.eval row).enc))))), e.args.length,
    ⟨[], e.args, rfl, rfl, by simp only [go_sem, Nat.reduceEqDiff, Nat.reduceAdd, Nat.reduceSub, Nat.reduceLeDiff, Nat.reduceLT, Nat.reduceMul, Nat.reduceBEq, Int.reduceEq, Int.reduceLT, Int.reduceLE, Int.reduceNeg, Int.reduceToNat, reduceCtorEq, ho, Try.results39]; rfl, by simp only [go_sem, Nat.reduceEqDiff, Nat.reduceAdd, Nat.reduceSub, Nat.reduceLeDiff, Nat.reduceLT, Nat.reduceMul, Nat.reduceBEq, Int.reduceEq, Int.reduceLT, Int.reduceLE, Int.reduceNeg, Int.reduceToNat, reduceCtorEq, ho, Try.results39], by simp only [go_sem, Nat.reduceEqDiff, Nat.reduceAdd, Nat.reduceSub, Nat.reduceLeDiff, Nat.reduceLT, Nat.reduceMul, Nat.reduceBEq, Int.reduceEq, Int.reduceLT, Int.reduceLE, Int.reduceNeg, Int.reduceToNat, reduceCtorEq, ho, Try.results39], by simp only [go_sem, Nat.reduceEqDiff, Nat.reduceAdd, Nat.reduceSub, Nat.reduceLeDiff, Nat.reduceLT, Nat.reduceMul, Nat.reduceBEq, Int.reduceEq, Int.reduceLT, Int.reduceLE, Int.reduceNeg, Int.reduceToNat, reduceCtorEq, ho, Try.results39], by simp only [go_sem, Nat.reduceEqDiff, Nat.reduceAdd, Nat.reduceSub, Nat.reduceLeDiff, Nat.reduceLT, Nat.reduceMul, Nat.reduceBEq, Int.reduceEq, Int.reduceLT, Int.reduceLE, Int.reduceNeg, Int.reduceToNat, reduceCtorEq, ho, Try.results39], by simp only [go_sem, Nat.reduceEqDiff, Nat.reduceAdd, Nat.reduceSub, Nat.reduceLeDiff, Nat.reduceLT, Nat.reduceMul, Nat.reduceBEq, Int.reduceEq, Int.reduceLT, Int.reduceLE, Int.reduceNeg, Int.reduceToNat, reduceCtorEq, ho, Try.results39], .inl ⟨rfl, by simp only [go_sem, Nat.reduceEqDiff, Nat.reduceAdd, Nat.reduceSub, Nat.reduceLeDiff, Nat.reduceLT, Nat.reduceMul, Nat.reduceBEq, Int.reduceEq, Int.reduceLT, Int.reduceLE, Int.reduceNeg, Int.reduceToNat, reduceCtorEq, ho, Try.results39]⟩⟩, ?_⟩
  rintro m st ⟨done, rest, hl', hm', h6, hs1, hs2, hs4, hb2, hb4, h5⟩
  have hlen2 : done.length + rest.length = e.args.length := by rw [hl']; simp
  have hw : IntKind.i64.wrap ((done.length : Int) + 1) = (done.length : Int) + 1 := wrap_fits (by omega) (by omega)
  cases rest with
  | nil =>
    have hlt : ¬ (done.length : Int) < (e.args.length : Int) := by simp at hlen2; omega
    obtain hdone : e.args = done := by simpa using hl'
    rcases h5 with ⟨hd0, _⟩ | ⟨hne, v, h5, h28⟩
    case inl =>
      have h00 : e.args.length = 0 := by rw [hdone, hd0]; rfl
      omega
    have hrw : (done.map fun x => (x.eval row).enc) = l.map Vl.enc := by rw [hleq, hdone]; simp
    rw [hrw] at h28
    have hrow : getRow st.o 28 v = some (42, l.map Vl.enc) := by simp [getRow, h28]
    have hvv : ∀ v ∈ l, v.valid = true := fun v hv => by rw [hleq] at hv; obtain ⟨x, _, rfl⟩ := List.mem_map.1 hv; exact Ex.eval_valid row x
    have hg0 := nth_get hpos
    have hl0 : (0 : Int) < (l.length : Int) := by omega
    clear hleq hrw
    simp only [go_sem, Nat.reduceEqDiff, Nat.reduceAdd, Nat.reduceSub, Nat.reduceLeDiff, Nat.reduceLT, Nat.reduceMul, Nat.reduceBEq, Int.reduceEq, Int.reduceLT, Int.reduceLE, Int.reduceNeg, Int.reduceToNat, reduceCtorEq, ho, Try.results39, h6, hlt, hs2, hb2, List.length_map]
    simp only [go_sem, Nat.reduceEqDiff, Nat.reduceAdd, Nat.reduceSub, Nat.reduceLeDiff, Nat.reduceLT, Nat.reduceMul, Nat.reduceBEq, Int.reduceEq, Int.reduceLT, Int.reduceLE, Int.reduceNeg, Int.reduceToNat, reduceCtorEq, ho, Try.results39, hop, h5, hs1, hs2, hs4, hb2, hb4]
    have h4 : l.length = 3 := by
      have : (e.args.length : Int) = 3 := by simpa [fitsN] using hfit
      omega
    refine GCall.fr ?_ (chosenL22 l h4) (.inl rfl) ?_; (focus (first | rfl | ((simp only [go_sem, Nat.reduceEqDiff, Nat.reduceAdd, Nat.reduceSub, Nat.reduceLeDiff, Nat.reduceLT, Nat.reduceMul, Nat.reduceBEq, Int.reduceEq, Int.reduceLT, Int.reduceLE, Int.reduceNeg, Int.reduceToNat, reduceCtorEq, ho, Try.results39, hop, hrow]); done) | ((simp only [go_sem, Nat.reduceEqDiff, Nat.reduceAdd, Nat.reduceSub, Nat.reduceLeDiff, Nat.reduceLT, Nat.reduceMul, Nat.reduceBEq, Int.reduceEq, Int.reduceLT, Int.reduceLE, Int.reduceNeg, Int.reduceToNat, reduceCtorEq, ho, Try.results39, hop, hrow]); rfl)))
    simp only [go_sem, Nat.reduceEqDiff, Nat.reduceAdd, Nat.reduceSub, Nat.reduceLeDiff, Nat.reduceLT, Nat.reduceMul, Nat.reduceBEq, Int.reduceEq, Int.reduceLT, Int.reduceLE, Int.reduceNeg, Int.reduceToNat, reduceCtorEq, ho, Try.results39, Vl.enc, h5, hs1, hs2, hs4, hb2, hb4]
    rw [evo_22]; exact ⟨rfl, rfl, rfl⟩
  | cons x rest =>
    have hlt : (done.length : Int) < (e.args.length : Int) := by simp at hlen2; omega
    have hget : (e.args.map Ex.enc)[done.length]? = some x.enc := by simp [hl']
    have hxs : x.size ≤ n := by have := hsz; rw [hl', Ex.sizes_app] at this; simp [Ex.sizes] at this; omega
    simp only [go_sem, Nat.reduceEqDiff, Nat.reduceAdd, Nat.reduceSub, Nat.reduceLeDiff, Nat.reduceLT, Nat.reduceMul, Nat.reduceBEq, Int.reduceEq, Int.reduceLT, Int.reduceLE, Int.reduceNeg, Int.reduceToNat, reduceCtorEq, ho, Try.results39, h6, hs1, hs2, hs4, hb2, hb4, hlt, hget, List.length_map, Int.natCast_nonneg, Int.toNat_natCast]
    refine GCall.fr ?_ (IH x hxs) (.inl rfl) ?_; (focus (first | rfl | ((simp only [go_sem, Nat.reduceEqDiff, Nat.reduceAdd, Nat.reduceSub, Nat.reduceLeDiff, Nat.reduceLT, Nat.reduceMul, Nat.reduceBEq, Int.reduceEq, Int.reduceLT, Int.reduceLE, Int.reduceNeg, Int.reduceToNat, reduceCtorEq, ho, Try.results39, x.enc_eq, hs1]); done) | ((simp only [go_sem, Nat.reduceEqDiff, Nat.reduceAdd, Nat.reduceSub, Nat.reduceLeDiff, Nat.reduceLT, Nat.reduceMul, Nat.reduceBEq, Int.reduceEq, Int.reduceLT, Int.reduceLE, Int.reduceNeg, Int.reduceToNat, reduceCtorEq, ho, Try.results39, x.enc_eq, hs1]); rfl)))
    simp only [go_sem, Nat.reduceEqDiff, Nat.reduceAdd, Nat.reduceSub, Nat.reduceLeDiff, Nat.reduceLT, Nat.reduceMul, Nat.reduceBEq, Int.reduceEq, Int.reduceLT, Int.reduceLE, Int.reduceNeg, Int.reduceToNat, reduceCtorEq, ho, Try.results39, h6, hs1, hs2, hs4, hb2, hb4]
    have hbig : (done.length + 1) * 33 ≤ 140737488355328 := by omega
    have hb2' := hb2
    rw [e.enc_cells] at hb2'
    rcases h5 with ⟨rfl, h5⟩ | ⟨hne, v, h5, h28⟩
    · simp only [go_sem, Nat.reduceEqDiff, Nat.reduceAdd, Nat.reduceSub, Nat.reduceLeDiff, Nat.reduceLT, Nat.reduceMul, Nat.reduceBEq, Int.reduceEq, Int.reduceLT, Int.reduceLE, Int.reduceNeg, Int.reduceToNat, reduceCtorEq, ho, Try.results39, h6, hs1, hs2, hs4, hb2', hb4, h5, hw, Vl.enc]
      exact ⟨rest.length, by simp at hm'; omega, [x], rest, by simpa using hl', rfl, rfl, .inr ⟨by simp, _, rfl, by simp [Vl.enc]⟩⟩
    · simp only [go_sem, Nat.reduceEqDiff, Nat.reduceAdd, Nat.reduceSub, Nat.reduceLeDiff, Nat.reduceLT, Nat.reduceMul, Nat.reduceBEq, Int.reduceEq, Int.reduceLT, Int.reduceLE, Int.reduceNeg, Int.reduceToNat, reduceCtorEq, ho, Try.results39, h6, hs1, hs2, hs4, hb2', hb4, h5, h28, hw, hbig, List.length_map, Vl.enc]
      exact ⟨rest.length, by simp at hm'; omega, done ++ [x], rest, by simp [hl'], rfl, by simp, .inr ⟨by simp, _, rfl, by simp [Vl.enc]⟩⟩
theorem revalc_23 (row : List Vl) (n : Nat) (hn : n + 1 ≤ 100000000) (IH : ∀ x : Ex, x.size ≤ n → Fc 39 [x.enc, .sl (row.map Vl.enc)] (x.eval row).enc) (e : Ex) (h : e.size ≤ n + 1) (hf : e.formed = true) (hop : e.op = 23) : Fc 39 [e.enc, .sl (row.map Vl.enc)] (e.eval row).enc := by
  obtain ⟨l, hleq⟩ : ∃ l, l = e.args.map (Ex.eval row) := ⟨_, rfl⟩
  have hev : e.eval row = evalOp row 23 e.int e.val l := by rw [Ex.eval_eq, hf, hop, hleq]; rfl
  have hsz := e.size_eq
  have hlen := Ex.len_sizes e.args
  have hfit := formed_len hf
  rw [hop] at hfit
  refine fn_of_awp (E := E0) (M := M0) follows Try.func39 rfl (by decide) ok39 (by decide) (by simp) fun o ho => ?_
  rw [hev]
  clear hev
  simp only [go_sem, Nat.reduceEqDiff, Nat.reduceAdd, Nat.reduceSub, Nat.reduceLeDiff, Nat.reduceLT, Nat.reduceMul, Nat.reduceBEq, Int.reduceEq, Int.reduceLT, Int.reduceLE, Int.reduceNeg, Int.reduceToNat, reduceCtorEq, ho, Try.results39, e.enc_eq]
  refine GCall.fr ?_ (rformed_fn e (by omega)) (.inl rfl) ?_; (focus (first | rfl | ((simp only [go_sem, Nat.reduceEqDiff, Nat.reduceAdd, Nat.reduceSub, Nat.reduceLeDiff, Nat.reduceLT, Nat.reduceMul, Nat.reduceBEq, Int.reduceEq, Int.reduceLT, Int.reduceLE, Int.reduceNeg, Int.reduceToNat, reduceCtorEq, ho, Try.results39, e.enc_eq]); done) | ((simp only [go_sem, Nat.reduceEqDiff, Nat.reduceAdd, Nat.reduceSub, Nat.reduceLeDiff, Nat.reduceLT, Nat.reduceMul, Nat.reduceBEq, Int.reduceEq, Int.reduceLT, Int.reduceLE, Int.reduceNeg, Int.reduceToNat, reduceCtorEq, ho, Try.results39, e.enc_eq]); rfl)))
  simp only [go_sem, Nat.reduceEqDiff, Nat.reduceAdd, Nat.reduceSub, Nat.reduceLeDiff, Nat.reduceLT, Nat.reduceMul, Nat.reduceBEq, Int.reduceEq, Int.reduceLT, Int.reduceLE, Int.reduceNeg, Int.reduceToNat, reduceCtorEq, ho, Try.results39, hf]
  have hl100 : e.args.length ≤ 100000000 := by omega
  have hllen : l.length = e.args.length := by rw [hleq]; simp
  have hpos := fits_pos (op := 23) (l := l) (by rw [hllen]; exact hfit) (by decide) (by decide)
  refine ⟨fun m st => ∃ (done rest : List Ex), e.args = done ++ rest ∧ rest.length = m ∧ st.s 6 = .int .i64 done.length ∧ st.s 1 = .sl (row.map Vl.enc) ∧ st.s 2 = .ptr 2 1 0 ∧ st.s 4 = .ptr 4 1 0 ∧ getBox st.o 2 1 = some (49, e.enc.cells) ∧ st.o 4 = (1, some (true, .box 42 [.int .i64 0, .int .i64 0, .str ⟨#[]⟩])) ∧ ((done = [] ∧ st.s 5 = .nil) ∨ (done ≠ [] ∧ ∃ v, st.s 5 = .ref 28 v ∧ st.o 28 = (v, some (true, .row 42 (done.map fun x => (x.eval row).enc))))), e.args.length,
    ⟨[], e.args, rfl, rfl, by simp only [go_sem, Nat.reduceEqDiff, Nat.reduceAdd, Nat.reduceSub, Nat.reduceLeDiff, Nat.reduceLT, Nat.reduceMul, Nat.reduceBEq, Int.reduceEq, Int.reduceLT, Int.reduceLE, Int.reduceNeg, Int.reduceToNat, reduceCtorEq, ho, Try.results39]; rfl, by simp only [go_sem, Nat.reduceEqDiff, Nat.reduceAdd, Nat.reduceSub, Nat.reduceLeDiff, Nat.reduceLT, Nat.reduceMul, Nat.reduceBEq, Int.reduceEq, Int.reduceLT, Int.reduceLE, Int.reduceNeg, Int.reduceToNat, reduceCtorEq, ho, Try.results39], by simp only [go_sem, Nat.reduceEqDiff, Nat.reduceAdd, Nat.reduceSub, Nat.reduceLeDiff, Nat.reduceLT, Nat.reduceMul, Nat.reduceBEq, Int.reduceEq, Int.reduceLT, Int.reduceLE, Int.reduceNeg, Int.reduceToNat, reduceCtorEq, ho, Try.results39], by simp only [go_sem, Nat.reduceEqDiff, Nat.reduceAdd, Nat.reduceSub, Nat.reduceLeDiff, Nat.reduceLT, Nat.reduceMul, Nat.reduceBEq, Int.reduceEq, Int.reduceLT, Int.reduceLE, Int.reduceNeg, Int.reduceToNat, reduceCtorEq, ho, Try.results39], by simp only [go_sem, Nat.reduceEqDiff, Nat.reduceAdd, Nat.reduceSub, Nat.reduceLeDiff, Nat.reduceLT, Nat.reduceMul, Nat.reduceBEq, Int.reduceEq, Int.reduceLT, Int.reduceLE, Int.reduceNeg, Int.reduceToNat, reduceCtorEq, ho, Try.results39], by simp only [go_sem, Nat.reduceEqDiff, Nat.reduceAdd, Nat.reduceSub, Nat.reduceLeDiff, Nat.reduceLT, Nat.reduceMul, Nat.reduceBEq, Int.reduceEq, Int.reduceLT, Int.reduceLE, Int.reduceNeg, Int.reduceToNat, reduceCtorEq, ho, Try.results39], .inl ⟨rfl, by simp only [go_sem, Nat.reduceEqDiff, Nat.reduceAdd, Nat.reduceSub, Nat.reduceLeDiff, Nat.reduceLT, Nat.reduceMul, Nat.reduceBEq, Int.reduceEq, Int.reduceLT, Int.reduceLE, Int.reduceNeg, Int.reduceToNat, reduceCtorEq, ho, Try.results39]⟩⟩, ?_⟩
  rintro m st ⟨done, rest, hl', hm', h6, hs1, hs2, hs4, hb2, hb4, h5⟩
  have hlen2 : done.length + rest.length = e.args.length := by rw [hl']; simp
  have hw : IntKind.i64.wrap ((done.length : Int) + 1) = (done.length : Int) + 1 := wrap_fits (by omega) (by omega)
  cases rest with
  | nil =>
    have hlt : ¬ (done.length : Int) < (e.args.length : Int) := by simp at hlen2; omega
    obtain hdone : e.args = done := by simpa using hl'
    rcases h5 with ⟨hd0, _⟩ | ⟨hne, v, h5, h28⟩
    case inl =>
      have h00 : e.args.length = 0 := by rw [hdone, hd0]; rfl
      omega
    have hrw : (done.map fun x => (x.eval row).enc) = l.map Vl.enc := by rw [hleq, hdone]; simp
    rw [hrw] at h28
    have hrow : getRow st.o 28 v = some (42, l.map Vl.enc) := by simp [getRow, h28]
    have hvv : ∀ v ∈ l, v.valid = true := fun v hv => by rw [hleq] at hv; obtain ⟨x, _, rfl⟩ := List.mem_map.1 hv; exact Ex.eval_valid row x
    have hg0 := nth_get hpos
    have hl0 : (0 : Int) < (l.length : Int) := by omega
    clear hleq hrw
    simp only [go_sem, Nat.reduceEqDiff, Nat.reduceAdd, Nat.reduceSub, Nat.reduceLeDiff, Nat.reduceLT, Nat.reduceMul, Nat.reduceBEq, Int.reduceEq, Int.reduceLT, Int.reduceLE, Int.reduceNeg, Int.reduceToNat, reduceCtorEq, ho, Try.results39, h6, hlt, hs2, hb2, List.length_map]
    simp only [go_sem, Nat.reduceEqDiff, Nat.reduceAdd, Nat.reduceSub, Nat.reduceLeDiff, Nat.reduceLT, Nat.reduceMul, Nat.reduceBEq, Int.reduceEq, Int.reduceLT, Int.reduceLE, Int.reduceNeg, Int.reduceToNat, reduceCtorEq, ho, Try.results39, hop, h5, hs1, hs2, hs4, hb2, hb4]
    refine GCall.fr ?_ (chosen_first l (by omega)) (.inl rfl) ?_; (focus (first | rfl | ((simp only [go_sem, Nat.reduceEqDiff, Nat.reduceAdd, Nat.reduceSub, Nat.reduceLeDiff, Nat.reduceLT, Nat.reduceMul, Nat.reduceBEq, Int.reduceEq, Int.reduceLT, Int.reduceLE, Int.reduceNeg, Int.reduceToNat, reduceCtorEq, ho, Try.results39, hop, hrow]); done) | ((simp only [go_sem, Nat.reduceEqDiff, Nat.reduceAdd, Nat.reduceSub, Nat.reduceLeDiff, Nat.reduceLT, Nat.reduceMul, Nat.reduceBEq, Int.reduceEq, Int.reduceLT, Int.reduceLE, Int.reduceNeg, Int.reduceToNat, reduceCtorEq, ho, Try.results39, hop, hrow]); rfl)))
    simp only [go_sem, Nat.reduceEqDiff, Nat.reduceAdd, Nat.reduceSub, Nat.reduceLeDiff, Nat.reduceLT, Nat.reduceMul, Nat.reduceBEq, Int.reduceEq, Int.reduceLT, Int.reduceLE, Int.reduceNeg, Int.reduceToNat, reduceCtorEq, ho, Try.results39, Vl.enc, h5, hs1, hs2, hs4, hb2, hb4]
    rw [evo_23]; exact ⟨rfl, rfl, rfl⟩
  | cons x rest =>
    have hlt : (done.length : Int) < (e.args.length : Int) := by simp at hlen2; omega
    have hget : (e.args.map Ex.enc)[done.length]? = some x.enc := by simp [hl']
    have hxs : x.size ≤ n := by have := hsz; rw [hl', Ex.sizes_app] at this; simp [Ex.sizes] at this; omega
    simp only [go_sem, Nat.reduceEqDiff, Nat.reduceAdd, Nat.reduceSub, Nat.reduceLeDiff, Nat.reduceLT, Nat.reduceMul, Nat.reduceBEq, Int.reduceEq, Int.reduceLT, Int.reduceLE, Int.reduceNeg, Int.reduceToNat, reduceCtorEq, ho, Try.results39, h6, hs1, hs2, hs4, hb2, hb4, hlt, hget, List.length_map, Int.natCast_nonneg, Int.toNat_natCast]
    refine GCall.fr ?_ (IH x hxs) (.inl rfl) ?_; (focus (first | rfl | ((simp only [go_sem, Nat.reduceEqDiff, Nat.reduceAdd, Nat.reduceSub, Nat.reduceLeDiff, Nat.reduceLT, Nat.reduceMul, Nat.reduceBEq, Int.reduceEq, Int.reduceLT, Int.reduceLE, Int.reduceNeg, Int.reduceToNat, reduceCtorEq, ho, Try.results39, x.enc_eq, hs1]); done) | ((simp only [go_sem, Nat.reduceEqDiff, Nat.reduceAdd, Nat.reduceSub, Nat.reduceLeDiff, Nat.reduceLT, Nat.reduceMul, Nat.reduceBEq, Int.reduceEq, Int.reduceLT, Int.reduceLE, Int.reduceNeg, Int.reduceToNat, reduceCtorEq, ho, Try.results39, x.enc_eq, hs1]); rfl)))
    simp only [go_sem, Nat.reduceEqDiff, Nat.reduceAdd, Nat.reduceSub, Nat.reduceLeDiff, Nat.reduceLT, Nat.reduceMul, Nat.reduceBEq, Int.reduceEq, Int.reduceLT, Int.reduceLE, Int.reduceNeg, Int.reduceToNat, reduceCtorEq, ho, Try.results39, h6, hs1, hs2, hs4, hb2, hb4]
    have hbig : (done.length + 1) * 33 ≤ 140737488355328 := by omega
    have hb2' := hb2
    rw [e.enc_cells] at hb2'
    rcases h5 with ⟨rfl, h5⟩ | ⟨hne, v, h5, h28⟩
    · simp only [go_sem, Nat.reduceEqDiff, Nat.reduceAdd, Nat.reduceSub, Nat.reduceLeDiff, Nat.reduceLT, Nat.reduceMul, Nat.reduceBEq, Int.reduceEq, Int.reduceLT, Int.reduceLE, Int.reduceNeg, Int.reduceToNat, reduceCtorEq, ho, Try.results39, h6, hs1, hs2, hs4, hb2', hb4, h5, hw, Vl.enc]
      exact ⟨rest.length, by simp at hm'; omega, [x], rest, by simpa using hl', rfl, rfl, .inr ⟨by simp, _, rfl, by simp [Vl.enc]⟩⟩
    · simp only [go_sem, Nat.reduceEqDiff, Nat.reduceAdd, Nat.reduceSub, Nat.reduceLeDiff, Nat.reduceLT, Nat.reduceMul, Nat.reduceBEq, Int.reduceEq, Int.reduceLT, Int.reduceLE, Int.reduceNeg, Int.reduceToNat, reduceCtorEq, ho, Try.results39, h6, hs1, hs2, hs4, hb2', hb4, h5, h28, hw, hbig, List.length_map, Vl.enc]
      exact ⟨rest.length, by simp at hm'; omega, done ++ [x], rest, by simp [hl'], rfl, by simp, .inr ⟨by simp, _, rfl, by simp [Vl.enc]⟩⟩
theorem revalc_24 (row : List Vl) (n : Nat) (hn : n + 1 ≤ 100000000) (IH : ∀ x : Ex, x.size ≤ n → Fc 39 [x.enc, .sl (row.map Vl.enc)] (x.eval row).enc) (e : Ex) (h : e.size ≤ n + 1) (hf : e.formed = true) (hop : e.op = 24) : Fc 39 [e.enc, .sl (row.map Vl.enc)] (e.eval row).enc := by
  obtain ⟨l, hleq⟩ : ∃ l, l = e.args.map (Ex.eval row) := ⟨_, rfl⟩
  have hev : e.eval row = evalOp row 24 e.int e.val l := by rw [Ex.eval_eq, hf, hop, hleq]; rfl
  have hsz := e.size_eq
  have hlen := Ex.len_sizes e.args
  have hfit := formed_len hf
  rw [hop] at hfit
  refine fn_of_awp (E := E0) (M := M0) follows Try.func39 rfl (by decide) ok39 (by decide) (by simp) fun o ho => ?_
  rw [hev]
  clear hev
  simp only [go_sem, Nat.reduceEqDiff, Nat.reduceAdd, Nat.reduceSub, Nat.reduceLeDiff, Nat.reduceLT, Nat.reduceMul, Nat.reduceBEq, Int.reduceEq, Int.reduceLT, Int.reduceLE, Int.reduceNeg, Int.reduceToNat, reduceCtorEq, ho, Try.results39, e.enc_eq]
  refine GCall.fr ?_ (rformed_fn e (by omega)) (.inl rfl) ?_; (focus (first | rfl | ((simp only [go_sem, Nat.reduceEqDiff, Nat.reduceAdd, Nat.reduceSub, Nat.reduceLeDiff, Nat.reduceLT, Nat.reduceMul, Nat.reduceBEq, Int.reduceEq, Int.reduceLT, Int.reduceLE, Int.reduceNeg, Int.reduceToNat, reduceCtorEq, ho, Try.results39, e.enc_eq]); done) | ((simp only [go_sem, Nat.reduceEqDiff, Nat.reduceAdd, Nat.reduceSub, Nat.reduceLeDiff, Nat.reduceLT, Nat.reduceMul, Nat.reduceBEq, Int.reduceEq, Int.reduceLT, Int.reduceLE, Int.reduceNeg, Int.reduceToNat, reduceCtorEq, ho, Try.results39, e.enc_eq]); rfl)))
  simp only [go_sem, Nat.reduceEqDiff, Nat.reduceAdd, Nat.reduceSub, Nat.reduceLeDiff, Nat.reduceLT, Nat.reduceMul, Nat.reduceBEq, Int.reduceEq, Int.reduceLT, Int.reduceLE, Int.reduceNeg, Int.reduceToNat, reduceCtorEq, ho, Try.results39, hf]
  have hl100 : e.args.length ≤ 100000000 := by omega
  have hllen : l.length = e.args.length := by rw [hleq]; simp
  have hpos := fits_pos (op := 24) (l := l) (by rw [hllen]; exact hfit) (by decide) (by decide)
  refine ⟨fun m st => ∃ (done rest : List Ex), e.args = done ++ rest ∧ rest.length = m ∧ st.s 6 = .int .i64 done.length ∧ st.s 1 = .sl (row.map Vl.enc) ∧ st.s 2 = .ptr 2 1 0 ∧ st.s 4 = .ptr 4 1 0 ∧ getBox st.o 2 1 = some (49, e.enc.cells) ∧ st.o 4 = (1, some (true, .box 42 [.int .i64 0, .int .i64 0, .str ⟨#[]⟩])) ∧ ((done = [] ∧ st.s 5 = .nil) ∨ (done ≠ [] ∧ ∃ v, st.s 5 = .ref 28 v ∧ st.o 28 = (v, some (true, .row 42 (done.map fun x => (x.eval row).enc))))), e.args.length,
    ⟨[], e.args, rfl, rfl, by simp only [go_sem, Nat.reduceEqDiff, Nat.reduceAdd, Nat.reduceSub, Nat.reduceLeDiff, Nat.reduceLT, Nat.reduceMul, Nat.reduceBEq, Int.reduceEq, Int.reduceLT, Int.reduceLE, Int.reduceNeg, Int.reduceToNat, reduceCtorEq, ho, Try.results39]; rfl, by simp only [go_sem, Nat.reduceEqDiff, Nat.reduceAdd, Nat.reduceSub, Nat.reduceLeDiff, Nat.reduceLT, Nat.reduceMul, Nat.reduceBEq, Int.reduceEq, Int.reduceLT, Int.reduceLE, Int.reduceNeg, Int.reduceToNat, reduceCtorEq, ho, Try.results39], by simp only [go_sem, Nat.reduceEqDiff, Nat.reduceAdd, Nat.reduceSub, Nat.reduceLeDiff, Nat.reduceLT, Nat.reduceMul, Nat.reduceBEq, Int.reduceEq, Int.reduceLT, Int.reduceLE, Int.reduceNeg, Int.reduceToNat, reduceCtorEq, ho, Try.results39], by simp only [go_sem, Nat.reduceEqDiff, Nat.reduceAdd, Nat.reduceSub, Nat.reduceLeDiff, Nat.reduceLT, Nat.reduceMul, Nat.reduceBEq, Int.reduceEq, Int.reduceLT, Int.reduceLE, Int.reduceNeg, Int.reduceToNat, reduceCtorEq, ho, Try.results39], by simp only [go_sem, Nat.reduceEqDiff, Nat.reduceAdd, Nat.reduceSub, Nat.reduceLeDiff, Nat.reduceLT, Nat.reduceMul, Nat.reduceBEq, Int.reduceEq, Int.reduceLT, Int.reduceLE, Int.reduceNeg, Int.reduceToNat, reduceCtorEq, ho, Try.results39], by simp only [go_sem, Nat.reduceEqDiff, Nat.reduceAdd, Nat.reduceSub, Nat.reduceLeDiff, Nat.reduceLT, Nat.reduceMul, Nat.reduceBEq, Int.reduceEq, Int.reduceLT, Int.reduceLE, Int.reduceNeg, Int.reduceToNat, reduceCtorEq, ho, Try.results39], .inl ⟨rfl, by simp only [go_sem, Nat.reduceEqDiff, Nat.reduceAdd, Nat.reduceSub, Nat.reduceLeDiff, Nat.reduceLT, Nat.reduceMul, Nat.reduceBEq, Int.reduceEq, Int.reduceLT, Int.reduceLE, Int.reduceNeg, Int.reduceToNat, reduceCtorEq, ho, Try.results39]⟩⟩, ?_⟩
  rintro m st ⟨done, rest, hl', hm', h6, hs1, hs2, hs4, hb2, hb4, h5⟩
  have hlen2 : done.length + rest.length = e.args.length := by rw [hl']; simp
  have hw : IntKind.i64.wrap ((done.length : Int) + 1) = (done.length : Int) + 1 := wrap_fits (by omega) (by omega)
  cases rest with
  | nil =>
    have hlt : ¬ (done.length : Int) < (e.args.length : Int) := by simp at hlen2; omega
    obtain hdone : e.args = done := by simpa using hl'
    rcases h5 with ⟨hd0, _⟩ | ⟨hne, v, h5, h28⟩
    case inl =>
      have h00 : e.args.length = 0 := by rw [hdone, hd0]; rfl
      omega
    have hrw : (done.map fun x => (x.eval row).enc) = l.map Vl.enc := by rw [hleq, hdone]; simp
    rw [hrw] at h28
    have hrow : getRow st.o 28 v = some (42, l.map Vl.enc) := by simp [getRow, h28]
    have hvv : ∀ v ∈ l, v.valid = true := fun v hv => by rw [hleq] at hv; obtain ⟨x, _, rfl⟩ := List.mem_map.1 hv; exact Ex.eval_valid row x
    have hg0 := nth_get hpos
    have hl0 : (0 : Int) < (l.length : Int) := by omega
    clear hleq hrw
    simp only [go_sem, Nat.reduceEqDiff, Nat.reduceAdd, Nat.reduceSub, Nat.reduceLeDiff, Nat.reduceLT, Nat.reduceMul, Nat.reduceBEq, Int.reduceEq, Int.reduceLT, Int.reduceLE, Int.reduceNeg, Int.reduceToNat, reduceCtorEq, ho, Try.results39, h6, hlt, hs2, hb2, List.length_map]
    simp only [go_sem, Nat.reduceEqDiff, Nat.reduceAdd, Nat.reduceSub, Nat.reduceLeDiff, Nat.reduceLT, Nat.reduceMul, Nat.reduceBEq, Int.reduceEq, Int.reduceLT, Int.reduceLE, Int.reduceNeg, Int.reduceToNat, reduceCtorEq, ho, Try.results39, hop, h5, hs1, hs2, hs4, hb2, hb4]
    have h4 : l.length = 4 := by
      have : (e.args.length : Int) = 4 := by simpa [fitsN] using hfit
      omega
    refine GCall.fr ?_ (rrelatedL_fn e.int l h4) (.inl rfl) ?_; (focus (first | rfl | ((simp only [go_sem, Nat.reduceEqDiff, Nat.reduceAdd, Nat.reduceSub, Nat.reduceLeDiff, Nat.reduceLT, Nat.reduceMul, Nat.reduceBEq, Int.reduceEq, Int.reduceLT, Int.reduceLE, Int.reduceNeg, Int.reduceToNat, reduceCtorEq, ho, Try.results39, hop, hrow]); done) | ((simp only [go_sem, Nat.reduceEqDiff, Nat.reduceAdd, Nat.reduceSub, Nat.reduceLeDiff, Nat.reduceLT, Nat.reduceMul, Nat.reduceBEq, Int.reduceEq, Int.reduceLT, Int.reduceLE, Int.reduceNeg, Int.reduceToNat, reduceCtorEq, ho, Try.results39, hop, hrow]); rfl)))
    simp only [go_sem, Nat.reduceEqDiff, Nat.reduceAdd, Nat.reduceSub, Nat.reduceLeDiff, Nat.reduceLT, Nat.reduceMul, Nat.reduceBEq, Int.reduceEq, Int.reduceLT, Int.reduceLE, Int.reduceNeg, Int.reduceToNat, reduceCtorEq, ho, Try.results39, Vl.enc, h5, hs1, hs2, hs4, hb2, hb4]
    rw [evo_24]; exact ⟨rfl, rfl, rfl⟩
  | cons x rest =>
    have hlt : (done.length : Int) < (e.args.length : Int) := by simp at hlen2; omega
    have hget : (e.args.map Ex.enc)[done.length]? = some x.enc := by simp [hl']
    have hxs : x.size ≤ n := by have := hsz; rw [hl', Ex.sizes_app] at this; simp [Ex.sizes] at this; omega
    simp only [go_sem, Nat.reduceEqDiff, Nat.reduceAdd, Nat.reduceSub, Nat.reduceLeDiff, Nat.reduceLT, Nat.reduceMul, Nat.reduceBEq, Int.reduceEq, Int.reduceLT, Int.reduceLE, Int.reduceNeg, Int.reduceToNat, reduceCtorEq, ho, Try.results39, h6, hs1, hs2, hs4, hb2, hb4, hlt, hget, List.length_map, Int.natCast_nonneg, Int.toNat_natCast]
    refine GCall.fr ?_ (IH x hxs) (.inl rfl) ?_; (focus (first | rfl | ((simp only [go_sem, Nat.reduceEqDiff, Nat.reduceAdd, Nat.reduceSub, Nat.reduceLeDiff, Nat.reduceLT, Nat.reduceMul, Nat.reduceBEq, Int.reduceEq, Int.reduceLT, Int.reduceLE, Int.reduceNeg, Int.reduceToNat, reduceCtorEq, ho, Try.results39, x.enc_eq, hs1]); done) | ((simp only [go_sem, Nat.reduceEqDiff, Nat.reduceAdd, Nat.reduceSub, Nat.reduceLeDiff, Nat.reduceLT, Nat.reduceMul, Nat.reduceBEq, Int.reduceEq, Int.reduceLT, Int.reduceLE, Int.reduceNeg, Int.reduceToNat, reduceCtorEq, ho, Try.results39, x.enc_eq, hs1]); rfl)))
    simp only [go_sem, Nat.reduceEqDiff, Nat.reduceAdd, Nat.reduceSub, Nat.reduceLeDiff, Nat.reduceLT, Nat.reduceMul, Nat.reduceBEq, Int.reduceEq, Int.reduceLT, Int.reduceLE, Int.reduceNeg, Int.reduceToNat, reduceCtorEq, ho, Try.results39, h6, hs1, hs2, hs4, hb2, hb4]
    have hbig : (done.length + 1) * 33 ≤ 140737488355328 := by omega
    have hb2' := hb2
    rw [e.enc_cells] at hb2'
    rcases h5 with ⟨rfl, h5⟩ | ⟨hne, v, h5, h28⟩
    · simp only [go_sem, Nat.reduceEqDiff, Nat.reduceAdd, Nat.reduceSub, Nat.reduceLeDiff, Nat.reduceLT, Nat.reduceMul, Nat.reduceBEq, Int.reduceEq, Int.reduceLT, Int.reduceLE, Int.reduceNeg, Int.reduceToNat, reduceCtorEq, ho, Try.results39, h6, hs1, hs2, hs4, hb2', hb4, h5, hw, Vl.enc]
      exact ⟨rest.length, by simp at hm'; omega, [x], rest, by simpa using hl', rfl, rfl, .inr ⟨by simp, _, rfl, by simp [Vl.enc]⟩⟩
    · simp only [go_sem, Nat.reduceEqDiff, Nat.reduceAdd, Nat.reduceSub, Nat.reduceLeDiff, Nat.reduceLT, Nat.reduceMul, Nat.reduceBEq, Int.reduceEq, Int.reduceLT, Int.reduceLE, Int.reduceNeg, Int.reduceToNat, reduceCtorEq, ho, Try.results39, h6, hs1, hs2, hs4, hb2', hb4, h5, h28, hw, hbig, List.length_map, Vl.enc]
      exact ⟨rest.length, by simp at hm'; omega, done ++ [x], rest, by simp [hl'], rfl, by simp, .inr ⟨by simp, _, rfl, by simp [Vl.enc]⟩⟩
theorem revalc_19 (row : List Vl) (n : Nat) (hn : n + 1 ≤ 100000000) (IH : ∀ x : Ex, x.size ≤ n → Fc 39 [x.enc, .sl (row.map Vl.enc)] (x.eval row).enc) (e : Ex) (h : e.size ≤ n + 1) (hf : e.formed = true) (hop : e.op = 19) : Fc 39 [e.enc, .sl (row.map Vl.enc)] (e.eval row).enc := by
  obtain ⟨l, hleq⟩ : ∃ l, l = e.args.map (Ex.eval row) := ⟨_, rfl⟩
  have hev : e.eval row = evalOp row 19 e.int e.val l := by rw [Ex.eval_eq, hf, hop, hleq]; rfl
  have hsz := e.size_eq
  have hlen := Ex.len_sizes e.args
  have hfit := formed_len hf
  rw [hop] at hfit
  refine fn_of_awp (E := E0) (M := M0) follows Try.func39 rfl (by decide) ok39 (by decide) (by simp) fun o ho => ?_
  rw [hev]
  clear hev
  simp only [go_sem, Nat.reduceEqDiff, Nat.reduceAdd, Nat.reduceSub, Nat.reduceLeDiff, Nat.reduceLT, Nat.reduceMul, Nat.reduceBEq, Int.reduceEq, Int.reduceLT, Int.reduceLE, Int.reduceNeg, Int.reduceToNat, reduceCtorEq, ho, Try.results39, e.enc_eq]
  refine GCall.fr ?_ (rformed_fn e (by omega)) (.inl rfl) ?_; (focus (first | rfl | ((simp only [go_sem, Nat.reduceEqDiff, Nat.reduceAdd, Nat.reduceSub, Nat.reduceLeDiff, Nat.reduceLT, Nat.reduceMul, Nat.reduceBEq, Int.reduceEq, Int.reduceLT, Int.reduceLE, Int.reduceNeg, Int.reduceToNat, reduceCtorEq, ho, Try.results39, e.enc_eq]); done) | ((simp only [go_sem, Nat.reduceEqDiff, Nat.reduceAdd, Nat.reduceSub, Nat.reduceLeDiff, Nat.reduceLT, Nat.reduceMul, Nat.reduceBEq, Int.reduceEq, Int.reduceLT, Int.reduceLE, Int.reduceNeg, Int.reduceToNat, reduceCtorEq, ho, Try.results39, e.enc_eq]); rfl)))
  simp only [go_sem, Nat.reduceEqDiff, Nat.reduceAdd, Nat.reduceSub, Nat.reduceLeDiff, Nat.reduceLT, Nat.reduceMul, Nat.reduceBEq, Int.reduceEq, Int.reduceLT, Int.reduceLE, Int.reduceNeg, Int.reduceToNat, reduceCtorEq, ho, Try.results39, hf]
  have hl100 : e.args.length ≤ 100000000 := by omega
  have hllen : l.length = e.args.length := by rw [hleq]; simp
  have hpos := fits_pos (op := 19) (l := l) (by rw [hllen]; exact hfit) (by decide) (by decide)
  refine ⟨fun m st => ∃ (done rest : List Ex), e.args = done ++ rest ∧ rest.length = m ∧ st.s 6 = .int .i64 done.length ∧ st.s 1 = .sl (row.map Vl.enc) ∧ st.s 2 = .ptr 2 1 0 ∧ st.s 4 = .ptr 4 1 0 ∧ getBox st.o 2 1 = some (49, e.enc.cells) ∧ st.o 4 = (1, some (true, .box 42 [.int .i64 0, .int .i64 0, .str ⟨#[]⟩])) ∧ ((done = [] ∧ st.s 5 = .nil) ∨ (done ≠ [] ∧ ∃ v, st.s 5 = .ref 28 v ∧ st.o 28 = (v, some (true, .row 42 (done.map fun x => (x.eval row).enc))))), e.args.length,
    ⟨[], e.args, rfl, rfl, by simp only [go_sem, Nat.reduceEqDiff, Nat.reduceAdd, Nat.reduceSub, Nat.reduceLeDiff, Nat.reduceLT, Nat.reduceMul, Nat.reduceBEq, Int.reduceEq, Int.reduceLT, Int.reduceLE, Int.reduceNeg, Int.reduceToNat, reduceCtorEq, ho, Try.results39]; rfl, by simp only [go_sem, Nat.reduceEqDiff, Nat.reduceAdd, Nat.reduceSub, Nat.reduceLeDiff, Nat.reduceLT, Nat.reduceMul, Nat.reduceBEq, Int.reduceEq, Int.reduceLT, Int.reduceLE, Int.reduceNeg, Int.reduceToNat, reduceCtorEq, ho, Try.results39], by simp only [go_sem, Nat.reduceEqDiff, Nat.reduceAdd, Nat.reduceSub, Nat.reduceLeDiff, Nat.reduceLT, Nat.reduceMul, Nat.reduceBEq, Int.reduceEq, Int.reduceLT, Int.reduceLE, Int.reduceNeg, Int.reduceToNat, reduceCtorEq, ho, Try.results39], by simp only [go_sem, Nat.reduceEqDiff, Nat.reduceAdd, Nat.reduceSub, Nat.reduceLeDiff, Nat.reduceLT, Nat.reduceMul, Nat.reduceBEq, Int.reduceEq, Int.reduceLT, Int.reduceLE, Int.reduceNeg, Int.reduceToNat, reduceCtorEq, ho, Try.results39], by simp only [go_sem, Nat.reduceEqDiff, Nat.reduceAdd, Nat.reduceSub, Nat.reduceLeDiff, Nat.reduceLT, Nat.reduceMul, Nat.reduceBEq, Int.reduceEq, Int.reduceLT, Int.reduceLE, Int.reduceNeg, Int.reduceToNat, reduceCtorEq, ho, Try.results39], by simp only [go_sem, Nat.reduceEqDiff, Nat.reduceAdd, Nat.reduceSub, Nat.reduceLeDiff, Nat.reduceLT, Nat.reduceMul, Nat.reduceBEq, Int.reduceEq, Int.reduceLT, Int.reduceLE, Int.reduceNeg, Int.reduceToNat, reduceCtorEq, ho, Try.results39], .inl ⟨rfl, by simp only [go_sem, Nat.reduceEqDiff, Nat.reduceAdd, Nat.reduceSub, Nat.reduceLeDiff, Nat.reduceLT, Nat.reduceMul, Nat.reduceBEq, Int.reduceEq, Int.reduceLT, Int.reduceLE, Int.reduceNeg, Int.reduceToNat, reduceCtorEq, ho, Try.results39]⟩⟩, ?_⟩
  rintro m st ⟨done, rest, hl', hm', h6, hs1, hs2, hs4, hb2, hb4, h5⟩
  have hlen2 : done.length + rest.length = e.args.length := by rw [hl']; simp
  have hw : IntKind.i64.wrap ((done.length : Int) + 1) = (done.length : Int) + 1 := wrap_fits (by omega) (by omega)
  cases rest with
  | nil =>
    have hlt : ¬ (done.length : Int) < (e.args.length : Int) := by simp at hlen2; omega
    obtain hdone : e.args = done := by simpa using hl'
    rcases h5 with ⟨hd0, _⟩ | ⟨hne, v, h5, h28⟩
    case inl =>
      have h00 : e.args.length = 0 := by rw [hdone, hd0]; rfl
      omega
    have hrw : (done.map fun x => (x.eval row).enc) = l.map Vl.enc := by rw [hleq, hdone]; simp
    rw [hrw] at h28
    have hrow : getRow st.o 28 v = some (42, l.map Vl.enc) := by simp [getRow, h28]
    have hvv : ∀ v ∈ l, v.valid = true := fun v hv => by rw [hleq] at hv; obtain ⟨x, _, rfl⟩ := List.mem_map.1 hv; exact Ex.eval_valid row x
    have hg0 := nth_get hpos
    have hl0 : (0 : Int) < (l.length : Int) := by omega
    clear hleq hrw
    simp only [go_sem, Nat.reduceEqDiff, Nat.reduceAdd, Nat.reduceSub, Nat.reduceLeDiff, Nat.reduceLT, Nat.reduceMul, Nat.reduceBEq, Int.reduceEq, Int.reduceLT, Int.reduceLE, Int.reduceNeg, Int.reduceToNat, reduceCtorEq, ho, Try.results39, h6, hlt, hs2, hb2, List.length_map]
    simp only [go_sem, Nat.reduceEqDiff, Nat.reduceAdd, Nat.reduceSub, Nat.reduceLeDiff, Nat.reduceLT, Nat.reduceMul, Nat.reduceBEq, Int.reduceEq, Int.reduceLT, Int.reduceLE, Int.reduceNeg, Int.reduceToNat, reduceCtorEq, ho, Try.results39, hop, h5, hs1, hs2, hs4, hb2, hb4]
    have h4 : l.length = 2 := by
      have : (e.args.length : Int) = 2 := by simpa [fitsN] using hfit
      omega
    refine GCall.fr ?_ (textsL19 l h4 (fun v hv => valid_text (hvv v hv))) (.inl rfl) ?_; (focus (first | rfl | ((simp only [go_sem, Nat.reduceEqDiff, Nat.reduceAdd, Nat.reduceSub, Nat.reduceLeDiff, Nat.reduceLT, Nat.reduceMul, Nat.reduceBEq, Int.reduceEq, Int.reduceLT, Int.reduceLE, Int.reduceNeg, Int.reduceToNat, reduceCtorEq, ho, Try.results39, hop, hrow]); done) | ((simp only [go_sem, Nat.reduceEqDiff, Nat.reduceAdd, Nat.reduceSub, Nat.reduceLeDiff, Nat.reduceLT, Nat.reduceMul, Nat.reduceBEq, Int.reduceEq, Int.reduceLT, Int.reduceLE, Int.reduceNeg, Int.reduceToNat, reduceCtorEq, ho, Try.results39, hop, hrow]); rfl)))
    simp only [go_sem, Nat.reduceEqDiff, Nat.reduceAdd, Nat.reduceSub, Nat.reduceLeDiff, Nat.reduceLT, Nat.reduceMul, Nat.reduceBEq, Int.reduceEq, Int.reduceLT, Int.reduceLE, Int.reduceNeg, Int.reduceToNat, reduceCtorEq, ho, Try.results39, Vl.enc, h5, hs1, hs2, hs4, hb2, hb4]
    rw [evo_19]; exact ⟨rfl, rfl, rfl⟩
  | cons x rest =>
    have hlt : (done.length : Int) < (e.args.length : Int) := by simp at hlen2; omega
    have hget : (e.args.map Ex.enc)[done.length]? = some x.enc := by simp [hl']
    have hxs : x.size ≤ n := by have := hsz; rw [hl', Ex.sizes_app] at this; simp [Ex.sizes] at this; omega
    simp only [go_sem, Nat.reduceEqDiff, Nat.reduceAdd, Nat.reduceSub, Nat.reduceLeDiff, Nat.reduceLT, Nat.reduceMul, Nat.reduceBEq, Int.reduceEq, Int.reduceLT, Int.reduceLE, Int.reduceNeg, Int.reduceToNat, reduceCtorEq, ho, Try.results39, h6, hs1, hs2, hs4, hb2, hb4, hlt, hget, List.length_map, Int.natCast_nonneg, Int.toNat_natCast]
    refine GCall.fr ?_ (IH x hxs) (.inl rfl) ?_; (focus (first | rfl | ((simp only [go_sem, Nat.reduceEqDiff, Nat.reduceAdd, Nat.reduceSub, Nat.reduceLeDiff, Nat.reduceLT, Nat.reduceMul, Nat.reduceBEq, Int.reduceEq, Int.reduceLT, Int.reduceLE, Int.reduceNeg, Int.reduceToNat, reduceCtorEq, ho, Try.results39, x.enc_eq, hs1]); done) | ((simp only [go_sem, Nat.reduceEqDiff, Nat.reduceAdd, Nat.reduceSub, Nat.reduceLeDiff, Nat.reduceLT, Nat.reduceMul, Nat.reduceBEq, Int.reduceEq, Int.reduceLT, Int.reduceLE, Int.reduceNeg, Int.reduceToNat, reduceCtorEq, ho, Try.results39, x.enc_eq, hs1]); rfl)))
    simp only [go_sem, Nat.reduceEqDiff, Nat.reduceAdd, Nat.reduceSub, Nat.reduceLeDiff, Nat.reduceLT, Nat.reduceMul, Nat.reduceBEq, Int.reduceEq, Int.reduceLT, Int.reduceLE, Int.reduceNeg, Int.reduceToNat, reduceCtorEq, ho, Try.results39, h6, hs1, hs2, hs4, hb2, hb4]
    have hbig : (done.length + 1) * 33 ≤ 140737488355328 := by omega
    have hb2' := hb2
    rw [e.enc_cells] at hb2'
    rcases h5 with ⟨rfl, h5⟩ | ⟨hne, v, h5, h28⟩
    · simp only [go_sem, Nat.reduceEqDiff, Nat.reduceAdd, Nat.reduceSub, Nat.reduceLeDiff, Nat.reduceLT, Nat.reduceMul, Nat.reduceBEq, Int.reduceEq, Int.reduceLT, Int.reduceLE, Int.reduceNeg, Int.reduceToNat, reduceCtorEq, ho, Try.results39, h6, hs1, hs2, hs4, hb2', hb4, h5, hw, Vl.enc]
      exact ⟨rest.length, by simp at hm'; omega, [x], rest, by simpa using hl', rfl, rfl, .inr ⟨by simp, _, rfl, by simp [Vl.enc]⟩⟩
    · simp only [go_sem, Nat.reduceEqDiff, Nat.reduceAdd, Nat.reduceSub, Nat.reduceLeDiff, Nat.reduceLT, Nat.reduceMul, Nat.reduceBEq, Int.reduceEq, Int.reduceLT, Int.reduceLE, Int.reduceNeg, Int.reduceToNat, reduceCtorEq, ho, Try.results39, h6, hs1, hs2, hs4, hb2', hb4, h5, h28, hw, hbig, List.length_map, Vl.enc]
      exact ⟨rest.length, by simp at hm'; omega, done ++ [x], rest, by simp [hl'], rfl, by simp, .inr ⟨by simp, _, rfl, by simp [Vl.enc]⟩⟩
end Go.Proofs.Ytiefnninebilbaa
