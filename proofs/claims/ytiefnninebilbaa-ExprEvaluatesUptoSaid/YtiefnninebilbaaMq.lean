/- What the reference's evaluation of an expression returns, operator by operator; no condition. -/
import Derived.Test.YtiefnninebilbaaMp
import Derived.Test.YtiefnninebilbaaMl
set_option maxRecDepth 100000
set_option linter.unusedVariables false
set_option linter.unusedSimpArgs false
namespace Go.Proofs.Ytiefnninebilbaa
open Go Go.Sx

theorem revalc_20 (row : List Vl) (n : Nat) (hn : n + 1 ≤ 100000000) (IH : ∀ x : Ex, x.size ≤ n → Fc 39 [x.enc, .sl (row.map Vl.enc)] (x.eval row).enc) (e : Ex) (h : e.size ≤ n + 1) (hf : e.formed = true) (hop : e.op = 20) : Fc 39 [e.enc, .sl (row.map Vl.enc)] (e.eval row).enc := by
  obtain ⟨l, hleq⟩ : ∃ l, l = e.args.map (Ex.eval row) := ⟨_, rfl⟩
  have hev : e.eval row = evalOp row 20 e.int e.val l := by rw [Ex.eval_eq, hf, hop, hleq]; rfl
  have hsz := e.size_eq
  have hlen := Ex.len_sizes e.args
  have hfit := formed_len hf
  rw [hop] at hfit
  refine fn_of_awp (E := E0) (M := M0) follows Try.func39 rfl (by decide) ok39 (by decide) (by simp) fun o ho => ?_
  rw [hev]
  clear hev
  simp only [go_sem, Nat.reduceEqDiff, Nat.reduceAdd, Nat.reduceSub, Nat.reduceLeDiff, Nat.reduceLT, Nat.reduceMul, Nat.reduceBEq, Int.reduceEq, Int.reduceLT, Int.reduceLE, Int.reduceNeg, Int.reduceToNat, reduceCtorEq, ho, Try.results39, e.enc_eq]
  refine GCall.fr ?_ (rformed_fn e (by omega)) (.inl rfl) ?_; (focus (first | rfl | ((simp only [go_sem, Nat.reduceEqDiff, Nat.reduceAdd, Nat.reduceSub, Nat.reduceLeDiff, Nat.reduceLT, Nat.reduceMul, Nat.reduceBEq, Int.reduceEq, Int.reduceLT, Int.reduceLE, Int.reduceNeg, Int.reduceToNat, reduceCtorEq, ho, Try.results39, e.enc_eq]); done) | ((simp only [go_sem, Nat.reduceEqDiff, Nat.reduceAdd, Nat.reduceSub, Nat.reduceLeDiff, Nat.reduceLT, Nat.reduceMul, Nat.reduceBEq, Int.reduceEq, Int.reduceLT, Int.reduceLE, Int.reduceNeg, Int.reduceToNat, reduceCtorEq, ho, Try.results39, e.enc_eq]); rfl)))
  simp only [go_sem, Nat.reduceEqDiff, Nat.reduceAdd, Nat.reduceSub, Nat.reduceLeDiff, Nat.reduceLT, Nat.reduceMul, Nat.reduceBEq, Int.reduceEq, Int.reduceLT, Int.reduceLE, Int.reduceNeg, Int.reduceToNat, reduceCtorEq, ho, Try.results39, hf]
  have hl100 : e.args.length ≤ 100000000 := by omega
  have hllen : l.length = e.args.length := by rw [hleq]; simp
  have hpos := fits_pos (op := 20) (l := l) (by rw [hllen]; exact hfit) (by decide) (by decide)
  refine ⟨fun m st => ∃ (done rest : List Ex), e.args = done ++ rest ∧ rest.length = m ∧ st.s 6 = .int .i64 done.length ∧ st.s 1 = .sl (row.map Vl.enc) ∧ st.s 2 = .ptr 2 1 0 ∧ st.s 4 = .ptr 4 1 0 ∧ getBox st.o 2 1 = some (49, e.enc.cells) ∧ st.o 4 = (1, some (true, .box 42 [.int .i64 0, .int .i64 0, .str ⟨#[]⟩])) ∧ ((done = [] ∧ st.s 5 = .nil) ∨ (done ≠ [] ∧ ∃ v, st.s 5 = .ref 28 v ∧ st.o 28 = (v, some (true, .row 42 (done.map fun x => (x.eval row).enc))))), e.args.length,
    ⟨[], e.args, rfl, rfl, by simp only [go_sem, Nat.reduceEqDiff, Nat.reduceAdd, Nat.reduceSub, Nat.reduceLeDiff, Nat.reduceLT, Nat.reduceMul, Nat.reduceBEq, Int.reduceEq, Int.reduceLT, Int.reduceLE, Int.reduceNeg, Int.reduceToNat, reduceCtorEq, ho, Try.results39]; rfl, by simp only [go_sem, Nat.reduceEqDiff, Nat.reduceAdd, Nat.reduceSub, Nat.reduceLeDiff, Nat.reduceLT, Nat.reduceMul, Nat.reduceBEq, Int.reduceEq, Int.reduceLT, Int.reduceLE, Int.reduceNeg, Int.reduceToNat, reduceCtorEq, ho, Try.results39], by simp only [go_sem, Nat.reduceEqDiff, Nat.reduceAdd, Nat.reduceSub, Nat.reduceLeDiff, Nat.reduceLT, Nat.reduceMul, Nat.reduceBEq, Int.reduceEq, Int.reduceLT, Int.reduceLE, Int.reduceNeg, Int.reduceToNat, reduceCtorEq, ho, Try.results39], by simp only [go_sem, Nat.reduceEqDiff, Nat.reduceAdd, Nat.reduceSub, Nat.reduceLeDiff, Nat.reduceLT, Nat.reduceMul, Nat.reduceBEq, Int.reduceEq, Int.reduceLT, Int.reduceLE, Int.reduceNeg, Int.reduceToNat, reduceCtorEq, ho, Try.results39], by simp only [go_sem, Nat.reduceEqDiff, Nat.reduceAdd, Nat.reduceSub, Nat.reduceLeDiff, Nat.reduceLT, Nat.reduceMul, Nat.reduceBEq, Int.reduceEq, Int.reduceLT, Int.reduceLE, Int.reduceNeg, Int.reduceToNat, reduceCtorEq, ho, Try.results39], by simp only [go_sem, Nat.reduceEqDiff, Nat.reduceAdd, Nat.reduceSub, Nat.reduceLeDiff, Nat.reduceLT, Nat.reduceMul, Nat.reduceBEq, Int.reduceEq, Int.reduceLT, Int.reduceLE, Int.reduceNeg, Int.reduceToNat, reduceCtorEq, ho, Try.results39], .inl ⟨rfl, by simp only [go_sem, Nat.reduceEqDiff, Nat.reduceAdd, Nat.reduceSub, Nat.reduceLeDiff, Nat.reduceLT, Nat.reduceMul, Nat.reduceBEq, Int.reduceEq, Int.reduceLT, Int.reduceLE, Int.reduceNeg, Int.reduceToNat, reduceCtorEq, ho, Try.results39]⟩⟩, ?_⟩
  rintro m st ⟨done, rest, hl', hm', h6, hs1, hs2, hs4, hb2, hb4, h5⟩
  have hlen2 : done.length + rest.length = e.args.length := by rw [hl']; simp
  have hw : IntKind.i64.wrap ((done.length : Int) + 1) = (done.length : Int) + 1 := wrap_fits (by omega) (by omega)
  cases rest with
  | nil =>
    have hlt : ¬ (done.length : Int) < (e.args.length : Int) := by simp at hlen2; omega
    obtain hdone : e.args = done := by simpa using hl'
    rcases h5 with ⟨hd0, _⟩ | ⟨hne, v, h5, h28⟩
    case inl =>
      have h00 : e.args.length = 0 := by rw [hdone, hd0]; rfl
      omega
    have hrw : (done.map fun x => (x.eval row).enc) = l.map Vl.enc := by rw [hleq, hdone]; simp
    rw [hrw] at h28
    have hrow : getRow st.o 28 v = some (42, l.map Vl.enc) := by simp [getRow, h28]
    have hvv : ∀ v ∈ l, v.valid = true := fun v hv => by rw [hleq] at hv; obtain ⟨x, _, rfl⟩ := List.mem_map.1 hv; exact Ex.eval_valid row x
    have hg0 := nth_get hpos
    have hl0 : (0 : Int) < (l.length : Int) := by omega
    clear hleq hrw
    simp only [go_sem, Nat.reduceEqDiff, Nat.reduceAdd, Nat.reduceSub, Nat.reduceLeDiff, Nat.reduceLT, Nat.reduceMul, Nat.reduceBEq, Int.reduceEq, Int.reduceLT, Int.reduceLE, Int.reduceNeg, Int.reduceToNat, reduceCtorEq, ho, Try.results39, h6, hlt, hs2, hb2, List.length_map]
    simp only [go_sem, Nat.reduceEqDiff, Nat.reduceAdd, Nat.reduceSub, Nat.reduceLeDiff, Nat.reduceLT, Nat.reduceMul, Nat.reduceBEq, Int.reduceEq, Int.reduceLT, Int.reduceLE, Int.reduceNeg, Int.reduceToNat, reduceCtorEq, ho, Try.results39, hop, h5, hs1, hs2, hs4, hb2, hb4]
    have h4 : l.length = 1 := by
      have : (e.args.length : Int) = 1 := by simpa [fitsN] using hfit
      omega
    refine GCall.fr ?_ (textsL20 l h4) (.inl rfl) ?_; (focus (first | rfl | ((simp only [go_sem, Nat.reduceEqDiff, Nat.reduceAdd, Nat.reduceSub, Nat.reduceLeDiff, Nat.reduceLT, Nat.reduceMul, Nat.reduceBEq, Int.reduceEq, Int.reduceLT, Int.reduceLE, Int.reduceNeg, Int.reduceToNat, reduceCtorEq, ho, Try.results39, hop, hrow]); done) | ((simp only [go_sem, Nat.reduceEqDiff, Nat.reduceAdd, Nat.reduceSub, Nat.reduceLeDiff, Nat.reduceLT, Nat.reduceMul, Nat.reduceBEq, Int.reduceEq, Int.reduceLT, Int.reduceLE, Int.reduceNeg, Int.reduceToNat, reduceCtorEq, ho, Try.results39, hop, hrow]); rfl)))
    simp only [go_sem, Nat.reduceEqDiff, Nat.reduceAdd, Nat.reduceSub, Nat.reduceLeDiff, Nat.reduceLT, Nat.reduceMul, Nat.reduceBEq, Int.reduceEq, Int.reduceLT, Int.reduceLE, Int.reduceNeg, Int.reduceToNat, reduceCtorEq, ho, Try.results39, Vl.enc, h5, hs1, hs2, hs4, hb2, hb4]
    rw [evo_20]; exact ⟨rfl, rfl, rfl⟩
  | cons x rest =>
    have hlt : (done.length : Int) < (e.args.length : Int) := by simp at hlen2; omega
    have hget : (e.args.map Ex.enc)[done.length]? = some x.enc := by simp [hl']
    have hxs : x.size ≤ n := by have := hsz; rw [hl', Ex.sizes_app] at this; simp [Ex.sizes] at this; omega
    simp only [go_sem, Nat.reduceEqDiff, Nat.reduceAdd, Nat.reduceSub, Nat.reduceLeDiff, Nat.reduceLT, Nat.reduceMul, Nat.reduceBEq, Int.reduceEq, Int.reduceLT, Int.reduceLE, Int.reduceNeg, Int.reduceToNat, reduceCtorEq, ho, Try.results39, h6, hs1, hs2, hs4, hb2, hb4, hlt, hget, List.length_map, Int.natCast_nonneg, Int.toNat_natCast]
    refine GCall.fr ?_ (IH x hxs) (.inl rfl) ?_; (focus (first | rfl | ((simp only [go_sem, Nat.reduceEqDiff, Nat.reduceAdd, Nat.reduceSub, Nat.reduceLeDiff, Nat.reduceLT, Nat.reduceMul, Nat.reduceBEq, Int.reduceEq, Int.reduceLT, Int.reduceLE, Int.reduceNeg, Int.reduceToNat, reduceCtorEq, ho, Try.results39, x.enc_eq, hs1]); done) | ((simp only [go_sem, Nat.reduceEqDiff, Nat.reduceAdd, Nat.reduceSub, Nat.reduceLeDiff, Nat.reduceLT, Nat.reduceMul, Nat.reduceBEq, Int.reduceEq, Int.reduceLT, Int.reduceLE, Int.reduceNeg, Int.reduceToNat, reduceCtorEq, ho, Try.results39, x.enc_eq, hs1]); rfl)))
    simp only [go_sem, Nat.reduceEqDiff, Nat.reduceAdd, Nat.reduceSub, Nat.reduceLeDiff, Nat.reduceLT, Nat.reduceMul, Nat.reduceBEq, Int.reduceEq, Int.reduceLT, Int.reduceLE, Int.reduceNeg, Int.reduceToNat, reduceCtorEq, ho, Try.results39, h6, hs1, hs2, hs4, hb2, hb4]
    have hbig : (done.length + 1) * 33 ≤ 140737488355328 := by omega
    have hb2' := hb2
    rw [e.enc_cells] at hb2'
    rcases h5 with ⟨rfl, h5⟩ | ⟨hne, v, h5, h28⟩
    · simp only [go_sem, Nat.reduceEqDiff, Nat.reduceAdd, Nat.reduceSub, Nat.reduceLeDiff, Nat.reduceLT, Nat.reduceMul, Nat.reduceBEq, Int.reduceEq, Int.reduceLT, Int.reduceLE, Int.reduceNeg, Int.reduceToNat, reduceCtorEq, ho, Try.results39, h6, hs1, hs2, hs4, hb2', hb4, h5, hw, Vl.enc]
      exact ⟨rest.length, by simp at hm'; omega, [x], rest, by simpa using hl', rfl, rfl, .inr ⟨by simp, _, rfl, by simp [Vl.enc]⟩⟩
    · simp only [go_sem, Nat.reduceEqDiff, Nat.reduceAdd, Nat.reduceSub, Nat.reduceLeDiff, Nat.reduceLT, Nat.reduceMul, Nat.reduceBEq, Int.reduceEq, Int.reduceLT, Int.reduceLE, Int.reduceNeg, Int.reduceToNat, reduceCtorEq, ho, Try.results39, h6, hs1, hs2, hs4, hb2', hb4, h5, h28, hw, hbig, List.length_map, Vl.enc]
      exact ⟨rest.length, by simp at hm'; omega, done ++ [x], rest, by simp [hl'], rfl, by simp, .inr ⟨by simp, _, rfl, by simp [Vl.enc]⟩⟩
theorem revalc_18 (row : List Vl) (n : Nat) (hn : n + 1 ≤ 100000000) (IH : ∀ x : Ex, x.size ≤ n → Fc 39 [x.enc, .sl (row.map Vl.enc)] (x.eval row).enc) (e : Ex) (h : e.size ≤ n + 1) (hf : e.formed = true) (hop : e.op = 18) : Fc 39 [e.enc, .sl (row.map Vl.enc)] (e.eval row).enc := by
  obtain ⟨l, hleq⟩ : ∃ l, l = e.args.map (Ex.eval row) := ⟨_, rfl⟩
  have hev : e.eval row = evalOp row 18 e.int e.val l := by rw [Ex.eval_eq, hf, hop, hleq]; rfl
  have hsz := e.size_eq
  have hlen := Ex.len_sizes e.args
  have hfit := formed_len hf
  rw [hop] at hfit
  refine fn_of_awp (E := E0) (M := M0) follows Try.func39 rfl (by decide) ok39 (by decide) (by simp) fun o ho => ?_
  rw [hev]
  clear hev
  simp only [go_sem, Nat.reduceEqDiff, Nat.reduceAdd, Nat.reduceSub, Nat.reduceLeDiff, Nat.reduceLT, Nat.reduceMul, Nat.reduceBEq, Int.reduceEq, Int.reduceLT, Int.reduceLE, Int.reduceNeg, Int.reduceToNat, reduceCtorEq, ho, Try.results39, e.enc_eq]
  refine GCall.fr ?_ (rformed_fn e (by omega)) (.inl rfl) ?_; (focus (first | rfl | ((simp only [go_sem, Nat.reduceEqDiff, Nat.reduceAdd, Nat.reduceSub, Nat.reduceLeDiff, Nat.reduceLT, Nat.reduceMul, Nat.reduceBEq, Int.reduceEq, Int.reduceLT, Int.reduceLE, Int.reduceNeg, Int.reduceToNat, reduceCtorEq, ho, Try.results39, e.enc_eq]); done) | ((simp only [go_sem, Nat.reduceEqDiff, Nat.reduceAdd, Nat.reduceSub, Nat.reduceLeDiff, Nat.reduceLT, Nat.reduceMul, Nat.reduceBEq, Int.reduceEq, Int.reduceLT, Int.reduceLE, Int.reduceNeg, Int.reduceToNat, reduceCtorEq, ho, Try.results39, e.enc_eq]); rfl)))
  simp only [go_sem, Nat.reduceEqDiff, Nat.reduceAdd, Nat.reduceSub, Nat.reduceLeDiff, Nat.reduceLT, Nat.reduceMul, Nat.reduceBEq, Int.reduceEq, Int.reduceLT, Int.reduceLE, Int.reduceNeg, Int.reduceToNat, reduceCtorEq, ho, Try.results39, hf]
  have hl100 : e.args.length ≤ 100000000 := by omega
  have hllen : l.length = e.args.length := by rw [hleq]; simp
  have hpos := fits_pos (op := 18) (l := l) (by rw [hllen]; exact hfit) (by decide) (by decide)
  refine ⟨fun m st => ∃ (done rest : List Ex), e.args = done ++ rest ∧ rest.length = m ∧ st.s 6 = .int .i64 done.length ∧ st.s 1 = .sl (row.map Vl.enc) ∧ st.s 2 = .ptr 2 1 0 ∧ st.s 4 = .ptr 4 1 0 ∧ getBox st.o 2 1 = some (49, e.enc.cells) ∧ st.o 4 = (1, some (true, .box 42 [.int .i64 0, .int .i64 0, .str ⟨#[]⟩])) ∧ ((done = [] ∧ st.s 5 = .nil) ∨ (done ≠ [] ∧ ∃ v, st.s 5 = .ref 28 v ∧ st.o 28 = (v, some (true, .row 42 (done.map fun x => (x.eval row).enc))))), e.args.length,
    ⟨[], e.args, rfl, rfl, by simp only [go_sem, Nat.reduceEqDiff, Nat.reduceAdd, Nat.reduceSub, Nat.reduceLeDiff, Nat.reduceLT, Nat.reduceMul, Nat.reduceBEq, Int.reduceEq, Int.reduceLT, Int.reduceLE, Int.reduceNeg, Int.reduceToNat, reduceCtorEq, ho, Try.results39]; rfl, by simp only [go_sem, Nat.reduceEqDiff, Nat.reduceAdd, Nat.reduceSub, Nat.reduceLeDiff, Nat.reduceLT, Nat.reduceMul, Nat.reduceBEq, Int.reduceEq, Int.reduceLT, Int.reduceLE, Int.reduceNeg, Int.reduceToNat, reduceCtorEq, ho, Try.results39], by simp only [go_sem, Nat.reduceEqDiff, Nat.reduceAdd, Nat.reduceSub, Nat.reduceLeDiff, Nat.reduceLT, Nat.reduceMul, Nat.reduceBEq, Int.reduceEq, Int.reduceLT, Int.reduceLE, Int.reduceNeg, Int.reduceToNat, reduceCtorEq, ho, Try.results39], by simp only [go_sem, Nat.reduceEqDiff, Nat.reduceAdd, Nat.reduceSub, Nat.reduceLeDiff, Nat.reduceLT, Nat.reduceMul, Nat.reduceBEq, Int.reduceEq, Int.reduceLT, Int.reduceLE, Int.reduceNeg, Int.reduceToNat, reduceCtorEq, ho, Try.results39], by simp only [go_sem, Nat.reduceEqDiff, Nat.reduceAdd, Nat.reduceSub, Nat.reduceLeDiff, Nat.reduceLT, Nat.reduceMul, Nat.reduceBEq, Int.reduceEq, Int.reduceLT, Int.reduceLE, Int.reduceNeg, Int.reduceToNat, reduceCtorEq, ho, Try.results39], by simp only [go_sem, Nat.reduceEqDiff, Nat.reduceAdd, Nat.reduceSub, Nat.reduceLeDiff, Nat.reduceLT, Nat.reduceMul, Nat.reduceBEq, Int.reduceEq, Int.reduceLT, Int.reduceLE, Int.reduceNeg, Int.reduceToNat, reduceCtorEq, ho, Try.results39], .inl ⟨rfl, by simp only [go_sem, Nat.reduceEqDiff, Nat.reduceAdd, Nat.reduceSub, Nat.reduceLeDiff, Nat.reduceLT, Nat.reduceMul, Nat.reduceBEq, Int.reduceEq, Int.reduceLT, Int.reduceLE, Int.reduceNeg, Int.reduceToNat, reduceCtorEq, ho, Try.results39]⟩⟩, ?_⟩
  rintro m st ⟨done, rest, hl', hm', h6, hs1, hs2, hs4, hb2, hb4, h5⟩
  have hlen2 : done.length + rest.length = e.args.length := by rw [hl']; simp
  have hw : IntKind.i64.wrap ((done.length : Int) + 1) = (done.length : Int) + 1 := wrap_fits (by omega) (by omega)
  cases rest with
  | nil =>
    have hlt : ¬ (done.length : Int) < (e.args.length : Int) := by simp at hlen2; omega
    obtain hdone : e.args = done := by simpa using hl'
    rcases h5 with ⟨hd0, _⟩ | ⟨hne, v, h5, h28⟩
    case inl =>
      have h00 : e.args.length = 0 := by rw [hdone, hd0]; rfl
      omega
    have hrw : (done.map fun x => (x.eval row).enc) = l.map Vl.enc := by rw [hleq, hdone]; simp
    rw [hrw] at h28
    have hrow : getRow st.o 28 v = some (42, l.map Vl.enc) := by simp [getRow, h28]
    have hvv : ∀ v ∈ l, v.valid = true := fun v hv => by rw [hleq] at hv; obtain ⟨x, _, rfl⟩ := List.mem_map.1 hv; exact Ex.eval_valid row x
    have hg0 := nth_get hpos
    have hl0 : (0 : Int) < (l.length : Int) := by omega
    clear hleq hrw
    simp only [go_sem, Nat.reduceEqDiff, Nat.reduceAdd, Nat.reduceSub, Nat.reduceLeDiff, Nat.reduceLT, Nat.reduceMul, Nat.reduceBEq, Int.reduceEq, Int.reduceLT, Int.reduceLE, Int.reduceNeg, Int.reduceToNat, reduceCtorEq, ho, Try.results39, h6, hlt, hs2, hb2, List.length_map]
    simp only [go_sem, Nat.reduceEqDiff, Nat.reduceAdd, Nat.reduceSub, Nat.reduceLeDiff, Nat.reduceLT, Nat.reduceMul, Nat.reduceBEq, Int.reduceEq, Int.reduceLT, Int.reduceLE, Int.reduceNeg, Int.reduceToNat, reduceCtorEq, ho, Try.results39, hop, h5, hs1, hs2, hs4, hb2, hb4]
    refine GCall.fr ?_ (are_fn l 1 (by omega)) (.inl rfl) ?_; (focus (first | rfl | ((simp only [go_sem, Nat.reduceEqDiff, Nat.reduceAdd, Nat.reduceSub, Nat.reduceLeDiff, Nat.reduceLT, Nat.reduceMul, Nat.reduceBEq, Int.reduceEq, Int.reduceLT, Int.reduceLE, Int.reduceNeg, Int.reduceToNat, reduceCtorEq, ho, Try.results39, hop, hrow]); done) | ((simp only [go_sem, Nat.reduceEqDiff, Nat.reduceAdd, Nat.reduceSub, Nat.reduceLeDiff, Nat.reduceLT, Nat.reduceMul, Nat.reduceBEq, Int.reduceEq, Int.reduceLT, Int.reduceLE, Int.reduceNeg, Int.reduceToNat, reduceCtorEq, ho, Try.results39, hop, hrow]); rfl)))
    simp only [go_sem, Nat.reduceEqDiff, Nat.reduceAdd, Nat.reduceSub, Nat.reduceLeDiff, Nat.reduceLT, Nat.reduceMul, Nat.reduceBEq, Int.reduceEq, Int.reduceLT, Int.reduceLE, Int.reduceNeg, Int.reduceToNat, reduceCtorEq, ho, Try.results39]
    cases ha : allK 1 l with
    | false =>
      simp only [go_sem, Nat.reduceEqDiff, Nat.reduceAdd, Nat.reduceSub, Nat.reduceLeDiff, Nat.reduceLT, Nat.reduceMul, Nat.reduceBEq, Int.reduceEq, Int.reduceLT, Int.reduceLE, Int.reduceNeg, Int.reduceToNat, reduceCtorEq, ho, Try.results39, ha, hop, h5, hs1, hs2, hs4, hb2, hb4]
      refine GCall.fr ?_ (rnull_fn) (.inl rfl) ?_; (focus (first | rfl | ((simp only [go_sem, Nat.reduceEqDiff, Nat.reduceAdd, Nat.reduceSub, Nat.reduceLeDiff, Nat.reduceLT, Nat.reduceMul, Nat.reduceBEq, Int.reduceEq, Int.reduceLT, Int.reduceLE, Int.reduceNeg, Int.reduceToNat, reduceCtorEq, ho, Try.results39]); done) | ((simp only [go_sem, Nat.reduceEqDiff, Nat.reduceAdd, Nat.reduceSub, Nat.reduceLeDiff, Nat.reduceLT, Nat.reduceMul, Nat.reduceBEq, Int.reduceEq, Int.reduceLT, Int.reduceLE, Int.reduceNeg, Int.reduceToNat, reduceCtorEq, ho, Try.results39]); rfl)))
      simp only [go_sem, Nat.reduceEqDiff, Nat.reduceAdd, Nat.reduceSub, Nat.reduceLeDiff, Nat.reduceLT, Nat.reduceMul, Nat.reduceBEq, Int.reduceEq, Int.reduceLT, Int.reduceLE, Int.reduceNeg, Int.reduceToNat, reduceCtorEq, ho, Try.results39, Vl.enc, Vl.null, h5, hs1, hs2, hs4, hb2, hb4]
      rw [evo_18]
      unfold arith
      rw [ha]
      exact ⟨rfl, rfl, rfl⟩
    | true =>
      simp only [go_sem, Nat.reduceEqDiff, Nat.reduceAdd, Nat.reduceSub, Nat.reduceLeDiff, Nat.reduceLT, Nat.reduceMul, Nat.reduceBEq, Int.reduceEq, Int.reduceLT, Int.reduceLE, Int.reduceNeg, Int.reduceToNat, reduceCtorEq, ho, Try.results39, ha, hop, h5, hs1, hs2, hs4, hb2, hb4, hrow, hg0, hl0]
      refine GCall.fr ?_ (rnum_fn (IntKind.i64.wrap (0 - (nth l 0).int))) (.inl rfl) ?_; (focus (first | rfl | ((simp only [go_sem, Nat.reduceEqDiff, Nat.reduceAdd, Nat.reduceSub, Nat.reduceLeDiff, Nat.reduceLT, Nat.reduceMul, Nat.reduceBEq, Int.reduceEq, Int.reduceLT, Int.reduceLE, Int.reduceNeg, Int.reduceToNat, reduceCtorEq, ho, Try.results39]); done) | ((simp only [go_sem, Nat.reduceEqDiff, Nat.reduceAdd, Nat.reduceSub, Nat.reduceLeDiff, Nat.reduceLT, Nat.reduceMul, Nat.reduceBEq, Int.reduceEq, Int.reduceLT, Int.reduceLE, Int.reduceNeg, Int.reduceToNat, reduceCtorEq, ho, Try.results39]); rfl)))
      simp only [go_sem, Nat.reduceEqDiff, Nat.reduceAdd, Nat.reduceSub, Nat.reduceLeDiff, Nat.reduceLT, Nat.reduceMul, Nat.reduceBEq, Int.reduceEq, Int.reduceLT, Int.reduceLE, Int.reduceNeg, Int.reduceToNat, reduceCtorEq, ho, Try.results39, Vl.enc, h5, hs1, hs2, hs4, hb2, hb4]
      rw [evo_18]
      have e1 : arith 18 l = Vl.num (IntKind.i64.wrap (0 - (nth l 0).int)) := by simp [arith, ha, computed]
      rw [e1]; exact ⟨rfl, rfl, rfl⟩
  | cons x rest =>
    have hlt : (done.length : Int) < (e.args.length : Int) := by simp at hlen2; omega
    have hget : (e.args.map Ex.enc)[done.length]? = some x.enc := by simp [hl']
    have hxs : x.size ≤ n := by have := hsz; rw [hl', Ex.sizes_app] at this; simp [Ex.sizes] at this; omega
    simp only [go_sem, Nat.reduceEqDiff, Nat.reduceAdd, Nat.reduceSub, Nat.reduceLeDiff, Nat.reduceLT, Nat.reduceMul, Nat.reduceBEq, Int.reduceEq, Int.reduceLT, Int.reduceLE, Int.reduceNeg, Int.reduceToNat, reduceCtorEq, ho, Try.results39, h6, hs1, hs2, hs4, hb2, hb4, hlt, hget, List.length_map, Int.natCast_nonneg, Int.toNat_natCast]
    refine GCall.fr ?_ (IH x hxs) (.inl rfl) ?_; (focus (first | rfl | ((simp only [go_sem, Nat.reduceEqDiff, Nat.reduceAdd, Nat.reduceSub, Nat.reduceLeDiff, Nat.reduceLT, Nat.reduceMul, Nat.reduceBEq, Int.reduceEq, Int.reduceLT, Int.reduceLE, Int.reduceNeg, Int.reduceToNat, reduceCtorEq, ho, Try.results39, x.enc_eq, hs1]); done) | ((simp only [go_sem, Nat.reduceEqDiff, Nat.reduceAdd, Nat.reduceSub, Nat.reduceLeDiff, Nat.reduceLT, Nat.reduceMul, Nat.reduceBEq, Int.reduceEq, Int.reduceLT, Int.reduceLE, Int.reduceNeg, Int.reduceToNat, reduceCtorEq, ho, Try.results39, x.enc_eq, hs1]); rfl)))
    simp only [go_sem, Nat.reduceEqDiff, Nat.reduceAdd, Nat.reduceSub, Nat.reduceLeDiff, Nat.reduceLT, Nat.reduceMul, Nat.reduceBEq, Int.reduceEq, Int.reduceLT, Int.reduceLE, Int.reduceNeg, Int.reduceToNat, reduceCtorEq, ho, Try.results39, h6, hs1, hs2, hs4, hb2, hb4]
    have hbig : (done.length + 1) * 33 ≤ 140737488355328 := by omega
    have hb2' := hb2
    rw [e.enc_cells] at hb2'
    rcases h5 with ⟨rfl, h5⟩ | ⟨hne, v, h5, h28⟩
    · simp only [go_sem, Nat.reduceEqDiff, Nat.reduceAdd, Nat.reduceSub, Nat.reduceLeDiff, Nat.reduceLT, Nat.reduceMul, Nat.reduceBEq, Int.reduceEq, Int.reduceLT, Int.reduceLE, Int.reduceNeg, Int.reduceToNat, reduceCtorEq, ho, Try.results39, h6, hs1, hs2, hs4, hb2', hb4, h5, hw, Vl.enc]
      exact ⟨rest.length, by simp at hm'; omega, [x], rest, by simpa using hl', rfl, rfl, .inr ⟨by simp, _, rfl, by simp [Vl.enc]⟩⟩
    · simp only [go_sem, Nat.reduceEqDiff, Nat.reduceAdd, Nat.reduceSub, Nat.reduceLeDiff, Nat.reduceLT, Nat.reduceMul, Nat.reduceBEq, Int.reduceEq, Int.reduceLT, Int.reduceLE, Int.reduceNeg, Int.reduceToNat, reduceCtorEq, ho, Try.results39, h6, hs1, hs2, hs4, hb2', hb4, h5, h28, hw, hbig, List.length_map, Vl.enc]
      exact ⟨rest.length, by simp at hm'; omega, done ++ [x], rest, by simp [hl'], rfl, by simp, .inr ⟨by simp, _, rfl, by simp [Vl.enc]⟩⟩
theorem revalc_13 (row : List Vl) (n : Nat) (hn : n + 1 ≤ 100000000) (IH : ∀ x : Ex, x.size ≤ n → Fc 39 [x.enc, .sl (row.map Vl.enc)] (x.eval row).enc) (e : Ex) (h : e.size ≤ n + 1) (hf : e.formed = true) (hop : e.op = 13) : Fc 39 [e.enc, .sl (row.map Vl.enc)] (e.eval row).enc := by
  obtain ⟨l, hleq⟩ : ∃ l, l = e.args.map (Ex.eval row) := ⟨_, rfl⟩
  have hev : e.eval row = evalOp row 13 e.int e.val l := by rw [Ex.eval_eq, hf, hop, hleq]; rfl
  have hsz := e.size_eq
  have hlen := Ex.len_sizes e.args
  have hfit := formed_len hf
  rw [hop] at hfit
  refine fn_of_awp (E := E0) (M := M0) follows Try.func39 rfl (by decide) ok39 (by decide) (by simp) fun o ho => ?_
  rw [hev]
  clear hev
  simp only [go_sem, Nat.reduceEqDiff, Nat.reduceAdd, Nat.reduceSub, Nat.reduceLeDiff, Nat.reduceLT, Nat.reduceMul, Nat.reduceBEq, Int.reduceEq, Int.reduceLT, Int.reduceLE, Int.reduceNeg, Int.reduceToNat, reduceCtorEq, ho, Try.results39, e.enc_eq]
  refine GCall.fr ?_ (rformed_fn e (by omega)) (.inl rfl) ?_; (focus (first | rfl | ((simp only [go_sem, Nat.reduceEqDiff, Nat.reduceAdd, Nat.reduceSub, Nat.reduceLeDiff, Nat.reduceLT, Nat.reduceMul, Nat.reduceBEq, Int.reduceEq, Int.reduceLT, Int.reduceLE, Int.reduceNeg, Int.reduceToNat, reduceCtorEq, ho, Try.results39, e.enc_eq]); done) | ((simp only [go_sem, Nat.reduceEqDiff, Nat.reduceAdd, Nat.reduceSub, Nat.reduceLeDiff, Nat.reduceLT, Nat.reduceMul, Nat.reduceBEq, Int.reduceEq, Int.reduceLT, Int.reduceLE, Int.reduceNeg, Int.reduceToNat, reduceCtorEq, ho, Try.results39, e.enc_eq]); rfl)))
  simp only [go_sem, Nat.reduceEqDiff, Nat.reduceAdd, Nat.reduceSub, Nat.reduceLeDiff, Nat.reduceLT, Nat.reduceMul, Nat.reduceBEq, Int.reduceEq, Int.reduceLT, Int.reduceLE, Int.reduceNeg, Int.reduceToNat, reduceCtorEq, ho, Try.results39, hf]
  have hl100 : e.args.length ≤ 100000000 := by omega
  have hllen : l.length = e.args.length := by rw [hleq]; simp
  have hpos := fits_pos (op := 13) (l := l) (by rw [hllen]; exact hfit) (by decide) (by decide)
  refine ⟨fun m st => ∃ (done rest : List Ex), e.args = done ++ rest ∧ rest.length = m ∧ st.s 6 = .int .i64 done.length ∧ st.s 1 = .sl (row.map Vl.enc) ∧ st.s 2 = .ptr 2 1 0 ∧ st.s 4 = .ptr 4 1 0 ∧ getBox st.o 2 1 = some (49, e.enc.cells) ∧ st.o 4 = (1, some (true, .box 42 [.int .i64 0, .int .i64 0, .str ⟨#[]⟩])) ∧ ((done = [] ∧ st.s 5 = .nil) ∨ (done ≠ [] ∧ ∃ v, st.s 5 = .ref 28 v ∧ st.o 28 = (v, some (true, .row 42 (done.map fun x => (x.eval row).enc))))), e.args.length,
    ⟨[], e.args, rfl, rfl, by simp only [go_sem, Nat.reduceEqDiff, Nat.reduceAdd, Nat.reduceSub, Nat.reduceLeDiff, Nat.reduceLT, Nat.reduceMul, Nat.reduceBEq, Int.reduceEq, Int.reduceLT, Int.reduceLE, Int.reduceNeg, Int.reduceToNat, reduceCtorEq, ho, Try.results39]; rfl, by simp only [go_sem, Nat.reduceEqDiff, Nat.reduceAdd, Nat.reduceSub, Nat.reduceLeDiff, Nat.reduceLT, Nat.reduceMul, Nat.reduceBEq, Int.reduceEq, Int.reduceLT, Int.reduceLE, Int.reduceNeg, Int.reduceToNat, reduceCtorEq, ho, Try.results39], by simp only [go_sem, Nat.reduceEqDiff, Nat.reduceAdd, Nat.reduceSub, Nat.reduceLeDiff, Nat.reduceLT, Nat.reduceMul, Nat.reduceBEq, Int.reduceEq, Int.reduceLT, Int.reduceLE, Int.reduceNeg, Int.reduceToNat, reduceCtorEq, ho, Try.results39], by simp only [go_sem, Nat.reduceEqDiff, Nat.reduceAdd, Nat.reduceSub, Nat.reduceLeDiff, Nat.reduceLT, Nat.reduceMul, Nat.reduceBEq, Int.reduceEq, Int.reduceLT, Int.reduceLE, Int.reduceNeg, Int.reduceToNat, reduceCtorEq, ho, Try.results39], by simp only [go_sem, Nat.reduceEqDiff, Nat.reduceAdd, Nat.reduceSub, Nat.reduceLeDiff, Nat.reduceLT, Nat.reduceMul, Nat.reduceBEq, Int.reduceEq, Int.reduceLT, Int.reduceLE, Int.reduceNeg, Int.reduceToNat, reduceCtorEq, ho, Try.results39], by simp only [go_sem, Nat.reduceEqDiff, Nat.reduceAdd, Nat.reduceSub, Nat.reduceLeDiff, Nat.reduceLT, Nat.reduceMul, Nat.reduceBEq, Int.reduceEq, Int.reduceLT, Int.reduceLE, Int.reduceNeg, Int.reduceToNat, reduceCtorEq, ho, Try.results39], .inl ⟨rfl, by simp only [go_sem, Nat.reduceEqDiff, Nat.reduceAdd, Nat.reduceSub, Nat.reduceLeDiff, Nat.reduceLT, Nat.reduceMul, Nat.reduceBEq, Int.reduceEq, Int.reduceLT, Int.reduceLE, Int.reduceNeg, Int.reduceToNat, reduceCtorEq, ho, Try.results39]⟩⟩, ?_⟩
  rintro m st ⟨done, rest, hl', hm', h6, hs1, hs2, hs4, hb2, hb4, h5⟩
  have hlen2 : done.length + rest.length = e.args.length := by rw [hl']; simp
  have hw : IntKind.i64.wrap ((done.length : Int) + 1) = (done.length : Int) + 1 := wrap_fits (by omega) (by omega)
  cases rest with
  | nil =>
    have hlt : ¬ (done.length : Int) < (e.args.length : Int) := by simp at hlen2; omega
    obtain hdone : e.args = done := by simpa using hl'
    rcases h5 with ⟨hd0, _⟩ | ⟨hne, v, h5, h28⟩
    case inl =>
      have h00 : e.args.length = 0 := by rw [hdone, hd0]; rfl
      omega
    have hrw : (done.map fun x => (x.eval row).enc) = l.map Vl.enc := by rw [hleq, hdone]; simp
    rw [hrw] at h28
    have hrow : getRow st.o 28 v = some (42, l.map Vl.enc) := by simp [getRow, h28]
    have hvv : ∀ v ∈ l, v.valid = true := fun v hv => by rw [hleq] at hv; obtain ⟨x, _, rfl⟩ := List.mem_map.1 hv; exact Ex.eval_valid row x
    have hg0 := nth_get hpos
    have hl0 : (0 : Int) < (l.length : Int) := by omega
    clear hleq hrw
    simp only [go_sem, Nat.reduceEqDiff, Nat.reduceAdd, Nat.reduceSub, Nat.reduceLeDiff, Nat.reduceLT, Nat.reduceMul, Nat.reduceBEq, Int.reduceEq, Int.reduceLT, Int.reduceLE, Int.reduceNeg, Int.reduceToNat, reduceCtorEq, ho, Try.results39, h6, hlt, hs2, hb2, List.length_map]
    simp only [go_sem, Nat.reduceEqDiff, Nat.reduceAdd, Nat.reduceSub, Nat.reduceLeDiff, Nat.reduceLT, Nat.reduceMul, Nat.reduceBEq, Int.reduceEq, Int.reduceLT, Int.reduceLE, Int.reduceNeg, Int.reduceToNat, reduceCtorEq, ho, Try.results39, hop, h5, hs1, hs2, hs4, hb2, hb4]
    have h4 : l.length = 2 := by
      have : (e.args.length : Int) = 2 := by simpa [fitsN] using hfit
      omega
    have hg1 := nth_get (show 1 < l.length by omega)
    have hl1 : (1 : Int) < (l.length : Int) := by omega
    refine GCall.fr ?_ (are_fn l 1 (by omega)) (.inl rfl) ?_; (focus (first | rfl | ((simp only [go_sem, Nat.reduceEqDiff, Nat.reduceAdd, Nat.reduceSub, Nat.reduceLeDiff, Nat.reduceLT, Nat.reduceMul, Nat.reduceBEq, Int.reduceEq, Int.reduceLT, Int.reduceLE, Int.reduceNeg, Int.reduceToNat, reduceCtorEq, ho, Try.results39, hop, hrow]); done) | ((simp only [go_sem, Nat.reduceEqDiff, Nat.reduceAdd, Nat.reduceSub, Nat.reduceLeDiff, Nat.reduceLT, Nat.reduceMul, Nat.reduceBEq, Int.reduceEq, Int.reduceLT, Int.reduceLE, Int.reduceNeg, Int.reduceToNat, reduceCtorEq, ho, Try.results39, hop, hrow]); rfl)))
    simp only [go_sem, Nat.reduceEqDiff, Nat.reduceAdd, Nat.reduceSub, Nat.reduceLeDiff, Nat.reduceLT, Nat.reduceMul, Nat.reduceBEq, Int.reduceEq, Int.reduceLT, Int.reduceLE, Int.reduceNeg, Int.reduceToNat, reduceCtorEq, ho, Try.results39]
    cases ha : allK 1 l with
    | false =>
      simp only [go_sem, Nat.reduceEqDiff, Nat.reduceAdd, Nat.reduceSub, Nat.reduceLeDiff, Nat.reduceLT, Nat.reduceMul, Nat.reduceBEq, Int.reduceEq, Int.reduceLT, Int.reduceLE, Int.reduceNeg, Int.reduceToNat, reduceCtorEq, ho, Try.results39, ha, hop, h5, hs1, hs2, hs4, hb2, hb4]
      refine GCall.fr ?_ (rnull_fn) (.inl rfl) ?_; (focus (first | rfl | ((simp only [go_sem, Nat.reduceEqDiff, Nat.reduceAdd, Nat.reduceSub, Nat.reduceLeDiff, Nat.reduceLT, Nat.reduceMul, Nat.reduceBEq, Int.reduceEq, Int.reduceLT, Int.reduceLE, Int.reduceNeg, Int.reduceToNat, reduceCtorEq, ho, Try.results39]); done) | ((simp only [go_sem, Nat.reduceEqDiff, Nat.reduceAdd, Nat.reduceSub, Nat.reduceLeDiff, Nat.reduceLT, Nat.reduceMul, Nat.reduceBEq, Int.reduceEq, Int.reduceLT, Int.reduceLE, Int.reduceNeg, Int.reduceToNat, reduceCtorEq, ho, Try.results39]); rfl)))
      simp only [go_sem, Nat.reduceEqDiff, Nat.reduceAdd, Nat.reduceSub, Nat.reduceLeDiff, Nat.reduceLT, Nat.reduceMul, Nat.reduceBEq, Int.reduceEq, Int.reduceLT, Int.reduceLE, Int.reduceNeg, Int.reduceToNat, reduceCtorEq, ho, Try.results39, Vl.enc, Vl.null, h5, hs1, hs2, hs4, hb2, hb4]
      rw [evo_13]
      unfold arith
      rw [ha]
      exact ⟨rfl, rfl, rfl⟩
    | true =>
      simp only [go_sem, Nat.reduceEqDiff, Nat.reduceAdd, Nat.reduceSub, Nat.reduceLeDiff, Nat.reduceLT, Nat.reduceMul, Nat.reduceBEq, Int.reduceEq, Int.reduceLT, Int.reduceLE, Int.reduceNeg, Int.reduceToNat, reduceCtorEq, ho, Try.results39, ha, hop, h5, hs1, hs2, hs4, hb2, hb4, hrow, hg0, hl0, hg1, hl1]
      refine QCall.fr ?_ (rcomputed_fn 13 (nth l 0).int (nth l 1).int (by decide) (valid_int (nth_valid hvv 0))) (.inl rfl) ?_; (focus (first | rfl | ((simp only [go_sem, Nat.reduceEqDiff, Nat.reduceAdd, Nat.reduceSub, Nat.reduceLeDiff, Nat.reduceLT, Nat.reduceMul, Nat.reduceBEq, Int.reduceEq, Int.reduceLT, Int.reduceLE, Int.reduceNeg, Int.reduceToNat, reduceCtorEq, ho, Try.results39]); done) | ((simp only [go_sem, Nat.reduceEqDiff, Nat.reduceAdd, Nat.reduceSub, Nat.reduceLeDiff, Nat.reduceLT, Nat.reduceMul, Nat.reduceBEq, Int.reduceEq, Int.reduceLT, Int.reduceLE, Int.reduceNeg, Int.reduceToNat, reduceCtorEq, ho, Try.results39]); rfl)))
      simp only [go_sem, Nat.reduceEqDiff, Nat.reduceAdd, Nat.reduceSub, Nat.reduceLeDiff, Nat.reduceLT, Nat.reduceMul, Nat.reduceBEq, Int.reduceEq, Int.reduceLT, Int.reduceLE, Int.reduceNeg, Int.reduceToNat, reduceCtorEq, ho, Try.results39, Vl.enc, h5, hs1, hs2, hs4, hb2, hb4]
      rw [evo_13]
      have e1 : arith 13 l = computed 13 (nth l 0).int (nth l 1).int := by simp [arith, ha, h4]
      rw [e1]; exact ⟨rfl, rfl, rfl⟩
  | cons x rest =>
    have hlt : (done.length : Int) < (e.args.length : Int) := by simp at hlen2; omega
    have hget : (e.args.map Ex.enc)[done.length]? = some x.enc := by simp [hl']
    have hxs : x.size ≤ n := by have := hsz; rw [hl', Ex.sizes_app] at this; simp [Ex.sizes] at this; omega
    simp only [go_sem, Nat.reduceEqDiff, Nat.reduceAdd, Nat.reduceSub, Nat.reduceLeDiff, Nat.reduceLT, Nat.reduceMul, Nat.reduceBEq, Int.reduceEq, Int.reduceLT, Int.reduceLE, Int.reduceNeg, Int.reduceToNat, reduceCtorEq, ho, Try.results39, h6, hs1, hs2, hs4, hb2, hb4, hlt, hget, List.length_map, Int.natCast_nonneg, Int.toNat_natCast]
    refine GCall.fr ?_ (IH x hxs) (.inl rfl) ?_; (focus (first | rfl | ((simp only [go_sem, Nat.reduceEqDiff, Nat.reduceAdd, Nat.reduceSub, Nat.reduceLeDiff, Nat.reduceLT, Nat.reduceMul, Nat.reduceBEq, Int.reduceEq, Int.reduceLT, Int.reduceLE, Int.reduceNeg, Int.reduceToNat, reduceCtorEq, ho, Try.results39, x.enc_eq, hs1]); done) | ((simp only [go_sem, Nat.reduceEqDiff, Nat.reduceAdd, Nat.reduceSub, Nat.reduceLeDiff, Nat.reduceLT, Nat.reduceMul, Nat.reduceBEq, Int.reduceEq, Int.reduceLT, Int.reduceLE, Int.reduceNeg, Int.reduceToNat, reduceCtorEq, ho, Try.results39, x.enc_eq, hs1]); rfl)))
    simp only [go_sem, Nat.reduceEqDiff, Nat.reduceAdd, Nat.reduceSub, Nat.reduceLeDiff, Nat.reduceLT, Nat.reduceMul, Nat.reduceBEq, Int.reduceEq, Int.reduceLT, Int.reduceLE, Int.reduceNeg, Int.reduceToNat, reduceCtorEq, ho, Try.results39, h6, hs1, hs2, hs4, hb2, hb4]
    have hbig : (done.length + 1) * 33 ≤ 140737488355328 := by omega
    have hb2' := hb2
    rw [e.enc_cells] at hb2'
    rcases h5 with ⟨rfl, h5⟩ | ⟨hne, v, h5, h28⟩
    · simp only [go_sem, Nat.reduceEqDiff, Nat.reduceAdd, Nat.reduceSub, Nat.reduceLeDiff, Nat.reduceLT, Nat.reduceMul, Nat.reduceBEq, Int.reduceEq, Int.reduceLT, Int.reduceLE, Int.reduceNeg, Int.reduceToNat, reduceCtorEq, ho, Try.results39, h6, hs1, hs2, hs4, hb2', hb4, h5, hw, Vl.enc]
      exact ⟨rest.length, by simp at hm'; omega, [x], rest, by simpa using hl', rfl, rfl, .inr ⟨by simp, _, rfl, by simp [Vl.enc]⟩⟩
    · simp only [go_sem, Nat.reduceEqDiff, Nat.reduceAdd, Nat.reduceSub, Nat.reduceLeDiff, Nat.reduceLT, Nat.reduceMul, Nat.reduceBEq, Int.reduceEq, Int.reduceLT, Int.reduceLE, Int.reduceNeg, Int.reduceToNat, reduceCtorEq, ho, Try.results39, h6, hs1, hs2, hs4, hb2', hb4, h5, h28, hw, hbig, List.length_map, Vl.enc]
      exact ⟨rest.length, by simp at hm'; omega, done ++ [x], rest, by simp [hl'], rfl, by simp, .inr ⟨by simp, _, rfl, by simp [Vl.enc]⟩⟩
theorem revalc_14 (row : List Vl) (n : Nat) (hn : n + 1 ≤ 100000000) (IH : ∀ x : Ex, x.size ≤ n → Fc 39 [x.enc, .sl (row.map Vl.enc)] (x.eval row).enc) (e : Ex) (h : e.size ≤ n + 1) (hf : e.formed = true) (hop : e.op = 14) : Fc 39 [e.enc, .sl (row.map Vl.enc)] (e.eval row).enc := by
  obtain ⟨l, hleq⟩ : ∃ l, l = e.args.map (Ex.eval row) := ⟨_, rfl⟩
  have hev : e.eval row = evalOp row 14 e.int e.val l := by rw [Ex.eval_eq, hf, hop, hleq]; rfl
  have hsz := e.size_eq
  have hlen := Ex.len_sizes e.args
  have hfit := formed_len hf
  rw [hop] at hfit
  refine fn_of_awp (E := E0) (M := M0) follows Try.func39 rfl (by decide) ok39 (by decide) (by simp) fun o ho => ?_
  rw [hev]
  clear hev
  simp only [go_sem, Nat.reduceEqDiff, Nat.reduceAdd, Nat.reduceSub, Nat.reduceLeDiff, Nat.reduceLT, Nat.reduceMul, Nat.reduceBEq, Int.reduceEq, Int.reduceLT, Int.reduceLE, Int.reduceNeg, Int.reduceToNat, reduceCtorEq, ho, Try.results39, e.enc_eq]
  refine GCall.fr ?_ (rformed_fn e (by omega)) (.inl rfl) ?_; (focus (first | rfl | ((simp only [go_sem, Nat.reduceEqDiff, Nat.reduceAdd, Nat.reduceSub, Nat.reduceLeDiff, Nat.reduceLT, Nat.reduceMul, Nat.reduceBEq, Int.reduceEq, Int.reduceLT, Int.reduceLE, Int.reduceNeg, Int.reduceToNat, reduceCtorEq, ho, Try.results39, e.enc_eq]); done) | ((simp only [go_sem, Nat.reduceEqDiff, Nat.reduceAdd, Nat.reduceSub, Nat.reduceLeDiff, Nat.reduceLT, Nat.reduceMul, Nat.reduceBEq, Int.reduceEq, Int.reduceLT, Int.reduceLE, Int.reduceNeg, Int.reduceToNat, reduceCtorEq, ho, Try.results39, e.enc_eq]); rfl)))
  simp only [go_sem, Nat.reduceEqDiff, Nat.reduceAdd, Nat.reduceSub, Nat.reduceLeDiff, Nat.reduceLT, Nat.reduceMul, Nat.reduceBEq, Int.reduceEq, Int.reduceLT, Int.reduceLE, Int.reduceNeg, Int.reduceToNat, reduceCtorEq, ho, Try.results39, hf]
  have hl100 : e.args.length ≤ 100000000 := by omega
  have hllen : l.length = e.args.length := by rw [hleq]; simp
  have hpos := fits_pos (op := 14) (l := l) (by rw [hllen]; exact hfit) (by decide) (by decide)
  refine ⟨fun m st => ∃ (done rest : List Ex), e.args = done ++ rest ∧ rest.length = m ∧ st.s 6 = .int .i64 done.length ∧ st.s 1 = .sl (row.map Vl.enc) ∧ st.s 2 = .ptr 2 1 0 ∧ st.s 4 = .ptr 4 1 0 ∧ getBox st.o 2 1 = some (49, e.enc.cells) ∧ st.o 4 = (1, some (true, .box 42 [.int .i64 0, .int .i64 0, .str ⟨#[]⟩])) ∧ ((done = [] ∧ st.s 5 = .nil) ∨ (done ≠ [] ∧ ∃ v, st.s 5 = .ref 28 v ∧ st.o 28 = (v, some (true, .row 42 (done.map fun x => (x.eval row).enc))))), e.args.length,
    ⟨[], e.args, rfl, rfl, by simp only [go_sem, Nat.reduceEqDiff, Nat.reduceAdd, Nat.reduceSub, Nat.reduceLeDiff, Nat.reduceLT, Nat.reduceMul, Nat.reduceBEq, Int.reduceEq, Int.reduceLT, Int.reduceLE, Int.reduceNeg, Int.reduceToNat, reduceCtorEq, ho, Try.results39]; rfl, by simp only [go_sem, Nat.reduceEqDiff, Nat.reduceAdd, Nat.reduceSub, Nat.reduceLeDiff, Nat.reduceLT, Nat.reduceMul, Nat.reduceBEq, Int.reduceEq, Int.reduceLT, Int.reduceLE, Int.reduceNeg, Int.reduceToNat, reduceCtorEq, ho, Try.results39], by simp only [go_sem, Nat.reduceEqDiff, Nat.reduceAdd, Nat.reduceSub, Nat.reduceLeDiff, Nat.reduceLT, Nat.reduceMul, Nat.reduceBEq, Int.reduceEq, Int.reduceLT, Int.reduceLE, Int.reduceNeg, Int.reduceToNat, reduceCtorEq, ho, Try.results39], by simp only [go_sem, Nat.reduceEqDiff, Nat.reduceAdd, Nat.reduceSub, Nat.reduceLeDiff, Nat.reduceLT, Nat.reduceMul, Nat.reduceBEq, Int.reduceEq, Int.reduceLT, Int.reduceLE, Int.reduceNeg, Int.reduceToNat, reduceCtorEq, ho, Try.results39], by simp only [go_sem, Nat.reduceEqDiff, Nat.reduceAdd, Nat.reduceSub, Nat.reduceLeDiff, Nat.reduceLT, Nat.reduceMul, Nat.reduceBEq, Int.reduceEq, Int.reduceLT, Int.reduceLE, Int.reduceNeg, Int.reduceToNat, reduceCtorEq, ho, Try.results39], by simp only [go_sem, Nat.reduceEqDiff, Nat.reduceAdd, Nat.reduceSub, Nat.reduceLeDiff, Nat.reduceLT, Nat.reduceMul, Nat.reduceBEq, Int.reduceEq, Int.reduceLT, Int.reduceLE, Int.reduceNeg, Int.reduceToNat, reduceCtorEq, ho, Try.results39], .inl ⟨rfl, by simp only [go_sem, Nat.reduceEqDiff, Nat.reduceAdd, Nat.reduceSub, Nat.reduceLeDiff, Nat.reduceLT, Nat.reduceMul, Nat.reduceBEq, Int.reduceEq, Int.reduceLT, Int.reduceLE, Int.reduceNeg, Int.reduceToNat, reduceCtorEq, ho, Try.results39]⟩⟩, ?_⟩
  rintro m st ⟨done, rest, hl', hm', h6, hs1, hs2, hs4, hb2, hb4, h5⟩
  have hlen2 : done.length + rest.length = e.args.length := by rw [hl']; simp
  have hw : IntKind.i64.wrap ((done.length : Int) + 1) = (done.length : Int) + 1 := wrap_fits (by omega) (by omega)
  cases rest with
  | nil =>
    have hlt : ¬ (done.length : Int) < (e.args.length : Int) := by simp at hlen2; omega
    obtain hdone : e.args = done := by simpa using hl'
    rcases h5 with ⟨hd0, _⟩ | ⟨hne, v, h5, h28⟩
    case inl =>
      have h00 : e.args.length = 0 := by rw [hdone, hd0]; rfl
      omega
    have hrw : (done.map fun x => (x.eval row).enc) = l.map Vl.enc := by rw [hleq, hdone]; simp
    rw [hrw] at h28
    have hrow : getRow st.o 28 v = some (42, l.map Vl.enc) := by simp [getRow, h28]
    have hvv : ∀ v ∈ l, v.valid = true := fun v hv => by rw [hleq] at hv; obtain ⟨x, _, rfl⟩ := List.mem_map.1 hv; exact Ex.eval_valid row x
    have hg0 := nth_get hpos
    have hl0 : (0 : Int) < (l.length : Int) := by omega
    clear hleq hrw
    simp only [go_sem, Nat.reduceEqDiff, Nat.reduceAdd, Nat.reduceSub, Nat.reduceLeDiff, Nat.reduceLT, Nat.reduceMul, Nat.reduceBEq, Int.reduceEq, Int.reduceLT, Int.reduceLE, Int.reduceNeg, Int.reduceToNat, reduceCtorEq, ho, Try.results39, h6, hlt, hs2, hb2, List.length_map]
    simp only [go_sem, Nat.reduceEqDiff, Nat.reduceAdd, Nat.reduceSub, Nat.reduceLeDiff, Nat.reduceLT, Nat.reduceMul, Nat.reduceBEq, Int.reduceEq, Int.reduceLT, Int.reduceLE, Int.reduceNeg, Int.reduceToNat, reduceCtorEq, ho, Try.results39, hop, h5, hs1, hs2, hs4, hb2, hb4]
    have h4 : l.length = 2 := by
      have : (e.args.length : Int) = 2 := by simpa [fitsN] using hfit
      omega
    have hg1 := nth_get (show 1 < l.length by omega)
    have hl1 : (1 : Int) < (l.length : Int) := by omega
    refine GCall.fr ?_ (are_fn l 1 (by omega)) (.inl rfl) ?_; (focus (first | rfl | ((simp only [go_sem, Nat.reduceEqDiff, Nat.reduceAdd, Nat.reduceSub, Nat.reduceLeDiff, Nat.reduceLT, Nat.reduceMul, Nat.reduceBEq, Int.reduceEq, Int.reduceLT, Int.reduceLE, Int.reduceNeg, Int.reduceToNat, reduceCtorEq, ho, Try.results39, hop, hrow]); done) | ((simp only [go_sem, Nat.reduceEqDiff, Nat.reduceAdd, Nat.reduceSub, Nat.reduceLeDiff, Nat.reduceLT, Nat.reduceMul, Nat.reduceBEq, Int.reduceEq, Int.reduceLT, Int.reduceLE, Int.reduceNeg, Int.reduceToNat, reduceCtorEq, ho, Try.results39, hop, hrow]); rfl)))
    simp only [go_sem, Nat.reduceEqDiff, Nat.reduceAdd, Nat.reduceSub, Nat.reduceLeDiff, Nat.reduceLT, Nat.reduceMul, Nat.reduceBEq, Int.reduceEq, Int.reduceLT, Int.reduceLE, Int.reduceNeg, Int.reduceToNat, reduceCtorEq, ho, Try.results39]
    cases ha : allK 1 l with
    | false =>
      simp only [go_sem, Nat.reduceEqDiff, Nat.reduceAdd, Nat.reduceSub, Nat.reduceLeDiff, Nat.reduceLT, Nat.reduceMul, Nat.reduceBEq, Int.reduceEq, Int.reduceLT, Int.reduceLE, Int.reduceNeg, Int.reduceToNat, reduceCtorEq, ho, Try.results39, ha, hop, h5, hs1, hs2, hs4, hb2, hb4]
      refine GCall.fr ?_ (rnull_fn) (.inl rfl) ?_; (focus (first | rfl | ((simp only [go_sem, Nat.reduceEqDiff, Nat.reduceAdd, Nat.reduceSub, Nat.reduceLeDiff, Nat.reduceLT, Nat.reduceMul, Nat.reduceBEq, Int.reduceEq, Int.reduceLT, Int.reduceLE, Int.reduceNeg, Int.reduceToNat, reduceCtorEq, ho, Try.results39]); done) | ((simp only [go_sem, Nat.reduceEqDiff, Nat.reduceAdd, Nat.reduceSub, Nat.reduceLeDiff, Nat.reduceLT, Nat.reduceMul, Nat.reduceBEq, Int.reduceEq, Int.reduceLT, Int.reduceLE, Int.reduceNeg, Int.reduceToNat, reduceCtorEq, ho, Try.results39]); rfl)))
      simp only [go_sem, Nat.reduceEqDiff, Nat.reduceAdd, Nat.reduceSub, Nat.reduceLeDiff, Nat.reduceLT, Nat.reduceMul, Nat.reduceBEq, Int.reduceEq, Int.reduceLT, Int.reduceLE, Int.reduceNeg, Int.reduceToNat, reduceCtorEq, ho, Try.results39, Vl.enc, Vl.null, h5, hs1, hs2, hs4, hb2, hb4]
      rw [evo_14]
      unfold arith
      rw [ha]
      exact ⟨rfl, rfl, rfl⟩
    | true =>
      simp only [go_sem, Nat.reduceEqDiff, Nat.reduceAdd, Nat.reduceSub, Nat.reduceLeDiff, Nat.reduceLT, Nat.reduceMul, Nat.reduceBEq, Int.reduceEq, Int.reduceLT, Int.reduceLE, Int.reduceNeg, Int.reduceToNat, reduceCtorEq, ho, Try.results39, ha, hop, h5, hs1, hs2, hs4, hb2, hb4, hrow, hg0, hl0, hg1, hl1]
      refine QCall.fr ?_ (rcomputed_fn 14 (nth l 0).int (nth l 1).int (by decide) (valid_int (nth_valid hvv 0))) (.inl rfl) ?_; (focus (first | rfl | ((simp only [go_sem, Nat.reduceEqDiff, Nat.reduceAdd, Nat.reduceSub, Nat.reduceLeDiff, Nat.reduceLT, Nat.reduceMul, Nat.reduceBEq, Int.reduceEq, Int.reduceLT, Int.reduceLE, Int.reduceNeg, Int.reduceToNat, reduceCtorEq, ho, Try.results39]); done) | ((simp only [go_sem, Nat.reduceEqDiff, Nat.reduceAdd, Nat.reduceSub, Nat.reduceLeDiff, Nat.reduceLT, Nat.reduceMul, Nat.reduceBEq, Int.reduceEq, Int.reduceLT, Int.reduceLE, Int.reduceNeg, Int.reduceToNat, reduceCtorEq, ho, Try.results39]); rfl)))
      simp only [go_sem, Nat.reduceEqDiff, Nat.reduceAdd, Nat.reduceSub, Nat.reduceLeDiff, Nat.reduceLT, Nat.reduceMul, Nat.reduceBEq, Int.reduceEq, Int.reduceLT, Int.reduceLE, Int.reduceNeg, Int.reduceToNat, reduceCtorEq, ho, Try.results39, Vl.enc, h5, hs1, hs2, hs4, hb2, hb4]
      rw [evo_14]
      have e1 : arith 14 l = computed 14 (nth l 0).int (nth l 1).int := by simp [arith, ha, h4]
      rw [e1]; exact ⟨rfl, rfl, rfl⟩
  | cons x rest =>
    have hlt : (done.length : Int) < (e.args.length : Int) := by simp at hlen2; omega
    have hget : (e.args.map Ex.enc)[done.length]? = some x.enc := by simp [hl']
    have hxs : x.size ≤ n := by have := hsz; rw [hl', Ex.sizes_app] at this; simp [Ex.sizes] at this; omega
    simp only [go_sem, Nat.reduceEqDiff, Nat.reduceAdd, Nat.reduceSub, Nat.reduceLeDiff, Nat.reduceLT, Nat.reduceMul, Nat.reduceBEq, Int.reduceEq, Int.reduceLT, Int.reduceLE, Int.reduceNeg, Int.reduceToNat, reduceCtorEq, ho, Try.results39, h6, hs1, hs2, hs4, hb2, hb4, hlt, hget, List.length_map, Int.natCast_nonneg, Int.toNat_natCast]
    refine GCall.fr ?_ (IH x hxs) (.inl rfl) ?_; (focus (first | rfl | ((simp only [go_sem, Nat.reduceEqDiff, Nat.reduceAdd, Nat.reduceSub, Nat.reduceLeDiff, Nat.reduceLT, Nat.reduceMul, Nat.reduceBEq, Int.reduceEq, Int.reduceLT, Int.reduceLE, Int.reduceNeg, Int.reduceToNat, reduceCtorEq, ho, Try.results39, x.enc_eq, hs1]); done) | ((simp only [go_sem, Nat.reduceEqDiff, Nat.reduceAdd, Nat.reduceSub, Nat.reduceLeDiff, Nat.reduceLT, Nat.reduceMul, Nat.reduceBEq, Int.reduceEq, Int.reduceLT, Int.reduceLE, Int.reduceNeg, Int.reduceToNat, reduceCtorEq, ho, Try.results39, x.enc_eq, hs1]); rfl)))
    simp only [go_sem, Nat.reduceEqDiff, Nat.reduceAdd, Nat.reduceSub, Nat.reduceLeDiff, Nat.reduceLT, Nat.reduceMul, Nat.reduceBEq, Int.reduceEq, Int.reduceLT, Int.reduceLE, Int.reduceNeg, Int.reduceToNat, reduceCtorEq, ho, Try.results39, h6, hs1, hs2, hs4, hb2, hb4]
    have hbig : (done.length + 1) * 33 ≤ 140737488355328 := by omega
    have hb2' := hb2
    rw [e.enc_cells] at hb2'
    rcases h5 with ⟨rfl, h5⟩ | ⟨hne, v, h5, h28⟩
    · simp only [go_sem, Nat.reduceEqDiff, Nat.reduceAdd, Nat.reduceSub, Nat.reduceLeDiff, Nat.reduceLT, Nat.reduceMul, Nat.reduceBEq, Int.reduceEq, Int.reduceLT, Int.reduceLE, Int.reduceNeg, Int.reduceToNat, reduceCtorEq, ho, Try.results39, h6, hs1, hs2, hs4, hb2', hb4, h5, hw, Vl.enc]
      exact ⟨rest.length, by simp at hm'; omega, [x], rest, by simpa using hl', rfl, rfl, .inr ⟨by simp, _, rfl, by simp [Vl.enc]⟩⟩
    · simp only [go_sem, Nat.reduceEqDiff, Nat.reduceAdd, Nat.reduceSub, Nat.reduceLeDiff, Nat.reduceLT, Nat.reduceMul, Nat.reduceBEq, Int.reduceEq, Int.reduceLT, Int.reduceLE, Int.reduceNeg, Int.reduceToNat, reduceCtorEq, ho, Try.results39, h6, hs1, hs2, hs4, hb2', hb4, h5, h28, hw, hbig, List.length_map, Vl.enc]
      exact ⟨rest.length, by simp at hm'; omega, done ++ [x], rest, by simp [hl'], rfl, by simp, .inr ⟨by simp, _, rfl, by simp [Vl.enc]⟩⟩
theorem revalc_15 (row : List Vl) (n : Nat) (hn : n + 1 ≤ 100000000) (IH : ∀ x : Ex, x.size ≤ n → Fc 39 [x.enc, .sl (row.map Vl.enc)] (x.eval row).enc) (e : Ex) (h : e.size ≤ n + 1) (hf : e.formed = true) (hop : e.op = 15) : Fc 39 [e.enc, .sl (row.map Vl.enc)] (e.eval row).enc := by
  obtain ⟨l, hleq⟩ : ∃ l, l = e.args.map (Ex.eval row) := ⟨_, rfl⟩
  have hev : e.eval row = evalOp row 15 e.int e.val l := by rw [Ex.eval_eq, hf, hop, hleq]; rfl
  have hsz := e.size_eq
  have hlen := Ex.len_sizes e.args
  have hfit := formed_len hf
  rw [hop] at hfit
  refine fn_of_awp (E := E0) (M := M0) follows Try.func39 rfl (by decide) ok39 (by decide) (by simp) fun o ho => ?_
  rw [hev]
  clear hev
  simp only [go_sem, Nat.reduceEqDiff, Nat.reduceAdd, Nat.reduceSub, Nat.reduceLeDiff, Nat.reduceLT, Nat.reduceMul, Nat.reduceBEq, Int.reduceEq, Int.reduceLT, Int.reduceLE, Int.reduceNeg, Int.reduceToNat, reduceCtorEq, ho, Try.results39, e.enc_eq]
  refine GCall.fr ?_ (rformed_fn e (by omega)) (.inl rfl) ?_; (focus (first | rfl | ((simp only [go_sem, Nat.reduceEqDiff, Nat.reduceAdd, Nat.reduceSub, Nat.reduceLeDiff, Nat.reduceLT, Nat.reduceMul, Nat.reduceBEq, Int.reduceEq, Int.reduceLT, Int.reduceLE, Int.reduceNeg, Int.reduceToNat, reduceCtorEq, ho, Try.results39, e.enc_eq]); done) | ((simp only [go_sem, Nat.reduceEqDiff, Nat.reduceAdd, Nat.reduceSub, Nat.reduceLeDiff, Nat.reduceLT, Nat.reduceMul, Nat.reduceBEq, Int.reduceEq, Int.reduceLT, Int.reduceLE, Int.reduceNeg, Int.reduceToNat, reduceCtorEq, ho, Try.results39, e.enc_eq]); rfl)))
  simp only [go_sem, Nat.reduceEqDiff, Nat.reduceAdd, Nat.reduceSub, Nat.reduceLeDiff, Nat.reduceLT, Nat.reduceMul, Nat.reduceBEq, Int.reduceEq, Int.reduceLT, Int.reduceLE, Int.reduceNeg, Int.reduceToNat, reduceCtorEq, ho, Try.results39, hf]
  have hl100 : e.args.length ≤ 100000000 := by omega
  have hllen : l.length = e.args.length := by rw [hleq]; simp
  have hpos := fits_pos (op := 15) (l := l) (by rw [hllen]; exact hfit) (by decide) (by decide)
  refine ⟨fun m st => ∃ (done rest : List Ex), e.args = done ++ rest ∧ rest.length = m ∧ st.s 6 = .int .i64 done.length ∧ st.s 1 = .sl (row.map Vl.enc) ∧ st.s 2 = .ptr 2 1 0 ∧ st.s 4 = .ptr 4 1 0 ∧ getBox st.o 2 1 = some (49, e.enc.cells) ∧ st.o 4 = (1, some (true, .box 42 [.int .i64 0, .int .i64 0, .str ⟨#[]⟩])) ∧ ((done = [] ∧ st.s 5 = .nil) ∨ (done ≠ [] ∧ ∃ v, st.s 5 = .ref 28 v ∧ st.o 28 = (v, some (true, .row 42 (done.map fun x => (x.eval row).enc))))), e.args.length,
    ⟨[], e.args, rfl, rfl, by simp only [go_sem, Nat.reduceEqDiff, Nat.reduceAdd, Nat.reduceSub, Nat.reduceLeDiff, Nat.reduceLT, Nat.reduceMul, Nat.reduceBEq, Int.reduceEq, Int.reduceLT, Int.reduceLE, Int.reduceNeg, Int.reduceToNat, reduceCtorEq, ho, Try.results39]; rfl, by simp only [go_sem, Nat.reduceEqDiff, Nat.reduceAdd, Nat.reduceSub, Nat.reduceLeDiff, Nat.reduceLT, Nat.reduceMul, Nat.reduceBEq, Int.reduceEq, Int.reduceLT, Int.reduceLE, Int.reduceNeg, Int.reduceToNat, reduceCtorEq, ho, Try.results39], by simp only [go_sem, Nat.reduceEqDiff, Nat.reduceAdd, Nat.reduceSub, Nat.reduceLeDiff, Nat.reduceLT, Nat.reduceMul, Nat.reduceBEq, Int.reduceEq, Int.reduceLT, Int.reduceLE, Int.reduceNeg, Int.reduceToNat, reduceCtorEq, ho, Try.results39], by simp only [go_sem, Nat.reduceEqDiff, Nat.reduceAdd, Nat.reduceSub, Nat.reduceLeDiff, Nat.reduceLT, Nat.reduceMul, Nat.reduceBEq, Int.reduceEq, Int.reduceLT, Int.reduceLE, Int.reduceNeg, Int.reduceToNat, reduceCtorEq, ho, Try.results39], by simp only [go_sem, Nat.reduceEqDiff, Nat.reduceAdd, Nat.reduceSub, Nat.reduceLeDiff, Nat.reduceLT, Nat.reduceMul, Nat.reduceBEq, Int.reduceEq, Int.reduceLT, Int.reduceLE, Int.reduceNeg, Int.reduceToNat, reduceCtorEq, ho, Try.results39], by simp only [go_sem, Nat.reduceEqDiff, Nat.reduceAdd, Nat.reduceSub, Nat.reduceLeDiff, Nat.reduceLT, Nat.reduceMul, Nat.reduceBEq, Int.reduceEq, Int.reduceLT, Int.reduceLE, Int.reduceNeg, Int.reduceToNat, reduceCtorEq, ho, Try.results39], .inl ⟨rfl, by simp only [go_sem, Nat.reduceEqDiff, Nat.reduceAdd, Nat.reduceSub, Nat.reduceLeDiff, Nat.reduceLT, Nat.reduceMul, Nat.reduceBEq, Int.reduceEq, Int.reduceLT, Int.reduceLE, Int.reduceNeg, Int.reduceToNat, reduceCtorEq, ho, Try.results39]⟩⟩, ?_⟩
  rintro m st ⟨done, rest, hl', hm', h6, hs1, hs2, hs4, hb2, hb4, h5⟩
  have hlen2 : done.length + rest.length = e.args.length := by rw [hl']; simp
  have hw : IntKind.i64.wrap ((done.length : Int) + 1) = (done.length : Int) + 1 := wrap_fits (by omega) (by omega)
  cases rest with
  | nil =>
    have hlt : ¬ (done.length : Int) < (e.args.length : Int) := by simp at hlen2; omega
    obtain hdone : e.args = done := by simpa using hl'
    rcases h5 with ⟨hd0, _⟩ | ⟨hne, v, h5, h28⟩
    case inl =>
      have h00 : e.args.length = 0 := by rw [hdone, hd0]; rfl
      omega
    have hrw : (done.map fun x => (x.eval row).enc) = l.map Vl.enc := by rw [hleq, hdone]; simp
    rw [hrw] at h28
    have hrow : getRow st.o 28 v = some (42, l.map Vl.enc) := by simp [getRow, h28]
    have hvv : ∀ v ∈ l, v.valid = true := fun v hv => by rw [hleq] at hv; obtain ⟨x, _, rfl⟩ := List.mem_map.1 hv; exact Ex.eval_valid row x
    have hg0 := nth_get hpos
    have hl0 : (0 : Int) < (l.length : Int) := by omega
    clear hleq hrw
    simp only [go_sem, Nat.reduceEqDiff, Nat.reduceAdd, Nat.reduceSub, Nat.reduceLeDiff, Nat.reduceLT, Nat.reduceMul, Nat.reduceBEq, Int.reduceEq, Int.reduceLT, Int.reduceLE, Int.reduceNeg, Int.reduceToNat, reduceCtorEq, ho, Try.results39, h6, hlt, hs2, hb2, List.length_map]
    simp only [go_sem, Nat.reduceEqDiff, Nat.reduceAdd, Nat.reduceSub, Nat.reduceLeDiff, Nat.reduceLT, Nat.reduceMul, Nat.reduceBEq, Int.reduceEq, Int.reduceLT, Int.reduceLE, Int.reduceNeg, Int.reduceToNat, reduceCtorEq, ho, Try.results39, hop, h5, hs1, hs2, hs4, hb2, hb4]
    have h4 : l.length = 2 := by
      have : (e.args.length : Int) = 2 := by simpa [fitsN] using hfit
      omega
    have hg1 := nth_get (show 1 < l.length by omega)
    have hl1 : (1 : Int) < (l.length : Int) := by omega
    refine GCall.fr ?_ (are_fn l 1 (by omega)) (.inl rfl) ?_; (focus (first | rfl | ((simp only [go_sem, Nat.reduceEqDiff, Nat.reduceAdd, Nat.reduceSub, Nat.reduceLeDiff, Nat.reduceLT, Nat.reduceMul, Nat.reduceBEq, Int.reduceEq, Int.reduceLT, Int.reduceLE, Int.reduceNeg, Int.reduceToNat, reduceCtorEq, ho, Try.results39, hop, hrow]); done) | ((simp only [go_sem, Nat.reduceEqDiff, Nat.reduceAdd, Nat.reduceSub, Nat.reduceLeDiff, Nat.reduceLT, Nat.reduceMul, Nat.reduceBEq, Int.reduceEq, Int.reduceLT, Int.reduceLE, Int.reduceNeg, Int.reduceToNat, reduceCtorEq, ho, Try.results39, hop, hrow]); rfl)))
    simp only [go_sem, Nat.reduceEqDiff, Nat.reduceAdd, Nat.reduceSub, Nat.reduceLeDiff, Nat.reduceLT, Nat.reduceMul, Nat.reduceBEq, Int.reduceEq, Int.reduceLT, Int.reduceLE, Int.reduceNeg, Int.reduceToNat, reduceCtorEq, ho, Try.results39]
    cases ha : allK 1 l with
    | false =>
      simp only [go_sem, Nat.reduceEqDiff, Nat.reduceAdd, Nat.reduceSub, Nat.reduceLeDiff, Nat.reduceLT, Nat.reduceMul, Nat.reduceBEq, Int.reduceEq, Int.reduceLT, Int.reduceLE, Int.reduceNeg, Int.reduceToNat, reduceCtorEq, ho, Try.results39, ha, hop, h5, hs1, hs2, hs4, hb2, hb4]
      refine GCall.fr ?_ (rnull_fn) (.inl rfl) ?_; (focus (first | rfl | ((simp only [go_sem, Nat.reduceEqDiff, Nat.reduceAdd, Nat.reduceSub, Nat.reduceLeDiff, Nat.reduceLT, Nat.reduceMul, Nat.reduceBEq, Int.reduceEq, Int.reduceLT, Int.reduceLE, Int.reduceNeg, Int.reduceToNat, reduceCtorEq, ho, Try.results39]); done) | ((simp only [go_sem, Nat.reduceEqDiff, Nat.reduceAdd, Nat.reduceSub, Nat.reduceLeDiff, Nat.reduceLT, Nat.reduceMul, Nat.reduceBEq, Int.reduceEq, Int.reduceLT, Int.reduceLE, Int.reduceNeg, Int.reduceToNat, reduceCtorEq, ho, Try.results39]); rfl)))
      simp only [go_sem, Nat.reduceEqDiff, Nat.reduceAdd, Nat.reduceSub, Nat.reduceLeDiff, Nat.reduceLT, Nat.reduceMul, Nat.reduceBEq, Int.reduceEq, Int.reduceLT, Int.reduceLE, Int.reduceNeg, Int.reduceToNat, reduceCtorEq, ho, Try.results39, Vl.enc, Vl.null, h5, hs1, hs2, hs4, hb2, hb4]
      rw [evo_15]
      unfold arith
      rw [ha]
      exact ⟨rfl, rfl, rfl⟩
    | true =>
      simp only [go_sem, Nat.reduceEqDiff, Nat.reduceAdd, Nat.reduceSub, Nat.reduceLeDiff, Nat.reduceLT, Nat.reduceMul, Nat.reduceBEq, Int.reduceEq, Int.reduceLT, Int.reduceLE, Int.reduceNeg, Int.reduceToNat, reduceCtorEq, ho, Try.results39, ha, hop, h5, hs1, hs2, hs4, hb2, hb4, hrow, hg0, hl0, hg1, hl1]
      refine QCall.fr ?_ (rcomputed_fn 15 (nth l 0).int (nth l 1).int (by decide) (valid_int (nth_valid hvv 0))) (.inl rfl) ?_; (focus (first | rfl | ((simp only [go_sem, Nat.reduceEqDiff, Nat.reduceAdd, Nat.reduceSub, Nat.reduceLeDiff, Nat.reduceLT, Nat.reduceMul, Nat.reduceBEq, Int.reduceEq, Int.reduceLT, Int.reduceLE, Int.reduceNeg, Int.reduceToNat, reduceCtorEq, ho, Try.results39]); done) | ((simp only [go_sem, Nat.reduceEqDiff, Nat.reduceAdd, Nat.reduceSub, Nat.reduceLeDiff, Nat.reduceLT, Nat.reduceMul, Nat.reduceBEq, Int.reduceEq, Int.reduceLT, Int.reduceLE, Int.reduceNeg, Int.reduceToNat, reduceCtorEq, ho, Try.results39]); rfl)))
      simp only [go_sem, Nat.reduceEqDiff, Nat.reduceAdd, Nat.reduceSub, Nat.reduceLeDiff, Nat.reduceLT, Nat.reduceMul, Nat.reduceBEq, Int.reduceEq, Int.reduceLT, Int.reduceLE, Int.reduceNeg, Int.reduceToNat, reduceCtorEq, ho, Try.results39, Vl.enc, h5, hs1, hs2, hs4, hb2, hb4]
      rw [evo_15]
      have e1 : arith 15 l = computed 15 (nth l 0).int (nth l 1).int := by simp [arith, ha, h4]
      rw [e1]; exact ⟨rfl, rfl, rfl⟩
  | cons x rest =>
    have hlt : (done.length : Int) < (e.args.length : Int) := by simp at hlen2; omega
    have hget : (e.args.map Ex.enc)[done.length]? = some x.enc := by simp [hl']
    have hxs : x.size ≤ n := by have := hsz; rw [hl', Ex.sizes_app] at this; simp [Ex.sizes] at this; omega
    simp only [go_sem, Nat.reduceEqDiff, Nat.reduceAdd, Nat.reduceSub, Nat.reduceLeDiff, Nat.reduceLT, Nat.reduceMul, Nat.reduceBEq, Int.reduceEq, Int.reduceLT, Int.reduceLE, Int.reduceNeg, Int.reduceToNat, reduceCtorEq, ho, Try.results39, h6, hs1, hs2, hs4, hb2, hb4, hlt, hget, List.length_map, Int.natCast_nonneg, Int.toNat_natCast]
    refine GCall.fr ?_ (IH x hxs) (.inl rfl) ?_; (focus (first | rfl | ((simp only [go_sem, Nat.reduceEqDiff, Nat.reduceAdd, Nat.reduceSub, Nat.reduceLeDiff, Nat.reduceLT, Nat.reduceMul, Nat.reduceBEq, Int.reduceEq, Int.reduceLT, Int.reduceLE, Int.reduceNeg, Int.reduceToNat, reduceCtorEq, ho, Try.results39, x.enc_eq, hs1]); done) | ((simp only [go_sem, Nat.reduceEqDiff, Nat.reduceAdd, Nat.reduceSub, Nat.reduceLeDiff, Nat.reduceLT, Nat.reduceMul, Nat.reduceBEq, Int.reduceEq, Int.reduceLT, Int.reduceLE, Int.reduceNeg, Int.reduceToNat, reduceCtorEq, ho, Try.results39, x.enc_eq, hs1]); rfl)))
    simp only [go_sem, Nat.reduceEqDiff, Nat.reduceAdd, Nat.reduceSub, Nat.reduceLeDiff, Nat.reduceLT, Nat.reduceMul, Nat.reduceBEq, Int.reduceEq, Int.reduceLT, Int.reduceLE, Int.reduceNeg, Int.reduceToNat, reduceCtorEq, ho, Try.results39, h6, hs1, hs2, hs4, hb2, hb4]
    have hbig : (done.length + 1) * 33 ≤ 140737488355328 := by omega
    have hb2' := hb2
    rw [e.enc_cells] at hb2'
    rcases h5 with ⟨rfl, h5⟩ | ⟨hne, v, h5, h28⟩
    · simp only [go_sem, Nat.reduceEqDiff, Nat.reduceAdd, Nat.reduceSub, Nat.reduceLeDiff, Nat.reduceLT, Nat.reduceMul, Nat.reduceBEq, Int.reduceEq, Int.reduceLT, Int.reduceLE, Int.reduceNeg, Int.reduceToNat, reduceCtorEq, ho, Try.results39, h6, hs1, hs2, hs4, hb2', hb4, h5, hw, Vl.enc]
      exact ⟨rest.length, by simp at hm'; omega, [x], rest, by simpa using hl', rfl, rfl, .inr ⟨by simp, _, rfl, by simp [Vl.enc]⟩⟩
    · simp only [go_sem, Nat.reduceEqDiff, Nat.reduceAdd, Nat.reduceSub, Nat.reduceLeDiff, Nat.reduceLT, Nat.reduceMul, Nat.reduceBEq, Int.reduceEq, Int.reduceLT, Int.reduceLE, Int.reduceNeg, Int.reduceToNat, reduceCtorEq, ho, Try.results39, h6, hs1, hs2, hs4, hb2', hb4, h5, h28, hw, hbig, List.length_map, Vl.enc]
      exact ⟨rest.length, by simp at hm'; omega, done ++ [x], rest, by simp [hl'], rfl, by simp, .inr ⟨by simp, _, rfl, by simp [Vl.enc]⟩⟩
end Go.Proofs.Ytiefnninebilbaa
/- What the reference's evaluation of an expression returns, operator by operator; no condition. -/
set_option maxRecDepth 100000
set_option linter.unusedVariables false
set_option linter.unusedSimpArgs false
namespace Go.Proofs.Ytiefnninebilbaa
open Go Go.Sx

theorem revalc_16 (row : List Vl) (n : Nat) (hn : n + 1 ≤ 100000000) (IH : ∀ x : Ex, x.size ≤ n → Fc 39 [x.enc, .sl (row.map Vl.enc)] (x.eval row).enc) (e : Ex) (h : e.size ≤ n + 1) (hf : e.formed = true) (hop : e.op = 16) : Fc 39 [e.enc, .sl (row.map Vl.enc)] (e.eval row).enc := by
  obtain ⟨l, hleq⟩ : ∃ l, l = e.args.map (Ex.eval row) := ⟨_, rfl⟩
  have hev : e.eval row = evalOp row 16 e.int e.val l := by rw [Ex.eval_eq, hf, hop, hleq]; rfl
  have hsz := e.size_eq
  have hlen := Ex.len_sizes e.args
  have hfit := formed_len hf
  rw [hop] at hfit
  refine fn_of_awp (E := E0) (M := M0) follows Try.func39 rfl (by decide) ok39 (by decide) (by simp) fun o ho => ?_
  rw [hev]
  clear hev
  simp only [go_sem, Nat.reduceEqDiff, Nat.reduceAdd, Nat.reduceSub, Nat.reduceLeDiff, Nat.reduceLT, Nat.reduceMul, Nat.reduceBEq, Int.reduceEq, Int.reduceLT, Int.reduceLE, Int.reduceNeg, Int.reduceToNat, reduceCtorEq, ho, Try.results39, e.enc_eq]
  refine GCall.fr ?_ (rformed_fn e (by omega)) (.inl rfl) ?_; (focus (first | rfl | ((simp only [go_sem, Nat.reduceEqDiff, Nat.reduceAdd, Nat.reduceSub, Nat.reduceLeDiff, Nat.reduceLT, Nat.reduceMul, Nat.reduceBEq, Int.reduceEq, Int.reduceLT, Int.reduceLE, Int.reduceNeg, Int.reduceToNat, reduceCtorEq, ho, Try.results39, e.enc_eq]); done) | ((simp only [go_sem, Nat.reduceEqDiff, Nat.reduceAdd, Nat.reduceSub, Nat.reduceLeDiff, Nat.reduceLT, Nat.reduceMul, Nat.reduceBEq, Int.reduceEq, Int.reduceLT, Int.reduceLE, Int.reduceNeg, Int.reduceToNat, reduceCtorEq, ho, Try.results39, e.enc_eq]); rfl)))
  simp only [go_sem, Nat.reduceEqDiff, Nat.reduceAdd, Nat.reduceSub, Nat.reduceLeDiff, Nat.reduceLT, Nat.reduceMul, Nat.reduceBEq, Int.reduceEq, Int.reduceLT, Int.reduceLE, Int.reduceNeg, Int.reduceToNat, reduceCtorEq, ho, Try.results39, hf]
  have hl100 : e.args.length ≤ 100000000 := by omega
  have hllen : l.length = e.args.length := by rw [hleq]; simp
  have hpos := fits_pos (op := 16) (l := l) (by rw [hllen]; exact hfit) (by decide) (by decide)
  refine ⟨fun m st => ∃ (done rest : List Ex), e.args = done ++ rest ∧ rest.length = m ∧ st.s 6 = .int .i64 done.length ∧ st.s 1 = .sl (row.map Vl.enc) ∧ st.s 2 = .ptr 2 1 0 ∧ st.s 4 = .ptr 4 1 0 ∧ getBox st.o 2 1 = some (49, e.enc.cells) ∧ st.o 4 = (1, some (true, .box 42 [.int .i64 0, .int .i64 0, .str ⟨#[]⟩])) ∧ ((done = [] ∧ st.s 5 = .nil) ∨ (done ≠ [] ∧ ∃ v, st.s 5 = .ref 28 v ∧ st.o 28 = (v, some (true, .row 42 (done.map fun x => (x.eval row).enc))))), e.args.length,
    ⟨[], e.args, rfl, rfl, by simp only [go_sem, Nat.reduceEqDiff, Nat.reduceAdd, Nat.reduceSub, Nat.reduceLeDiff, Nat.reduceLT, Nat.reduceMul, Nat.reduceBEq, Int.reduceEq, Int.reduceLT, Int.reduceLE, Int.reduceNeg, Int.reduceToNat, reduceCtorEq, ho, Try.results39]; rfl, by simp only [go_sem, Nat.reduceEqDiff, Nat.reduceAdd, Nat.reduceSub, Nat.reduceLeDiff, Nat.reduceLT, Nat.reduceMul, Nat.reduceBEq, Int.reduceEq, Int.reduceLT, Int.reduceLE, Int.reduceNeg, Int.reduceToNat, reduceCtorEq, ho, Try.results39], by simp only [go_sem, Nat.reduceEqDiff, Nat.reduceAdd, Nat.reduceSub, Nat.reduceLeDiff, Nat.reduceLT, Nat.reduceMul, Nat.reduceBEq, Int.reduceEq, Int.reduceLT, Int.reduceLE, Int.reduceNeg, Int.reduceToNat, reduceCtorEq, ho, Try.results39], by simp only [go_sem, Nat.reduceEqDiff, Nat.reduceAdd, Nat.reduceSub, Nat.reduceLeDiff, Nat.reduceLT, Nat.reduceMul, Nat.reduceBEq, Int.reduceEq, Int.reduceLT, Int.reduceLE, Int.reduceNeg, Int.reduceToNat, reduceCtorEq, ho, Try.results39], by simp only [go_sem, Nat.reduceEqDiff, Nat.reduceAdd, Nat.reduceSub, Nat.reduceLeDiff, Nat.reduceLT, Nat.reduceMul, Nat.reduceBEq, Int.reduceEq, Int.reduceLT, Int.reduceLE, Int.reduceNeg, Int.reduceToNat, reduceCtorEq, ho, Try.results39], by simp only [go_sem, Nat.reduceEqDiff, Nat.reduceAdd, Nat.reduceSub, Nat.reduceLeDiff, Nat.reduceLT, Nat.reduceMul, Nat.reduceBEq, Int.reduceEq, Int.reduceLT, Int.reduceLE, Int.reduceNeg, Int.reduceToNat, reduceCtorEq, ho, Try.results39], .inl ⟨rfl, by simp only [go_sem, Nat.reduceEqDiff, Nat.reduceAdd, Nat.reduceSub, Nat.reduceLeDiff, Nat.reduceLT, Nat.reduceMul, Nat.reduceBEq, Int.reduceEq, Int.reduceLT, Int.reduceLE, Int.reduceNeg, Int.reduceToNat, reduceCtorEq, ho, Try.results39]⟩⟩, ?_⟩
  rintro m st ⟨done, rest, hl', hm', h6, hs1, hs2, hs4, hb2, hb4, h5⟩
  have hlen2 : done.length + rest.length = e.args.length := by rw [hl']; simp
  have hw : IntKind.i64.wrap ((done.length : Int) + 1) = (done.length : Int) + 1 := wrap_fits (by omega) (by omega)
  cases rest with
  | nil =>
    have hlt : ¬ (done.length : Int) < (e.args.length : Int) := by simp at hlen2; omega
    obtain hdone : e.args = done := by simpa using hl'
    rcases h5 with ⟨hd0, _⟩ | ⟨hne, v, h5, h28⟩
    case inl =>
      have h00 : e.args.length = 0 := by rw [hdone, hd0]; rfl
      omega
    have hrw : (done.map fun x => (x.eval row).enc) = l.map Vl.enc := by rw [hleq, hdone]; simp
    rw [hrw] at h28
    have hrow : getRow st.o 28 v = some (42, l.map Vl.enc) := by simp [getRow, h28]
    have hvv : ∀ v ∈ l, v.valid = true := fun v hv => by rw [hleq] at hv; obtain ⟨x, _, rfl⟩ := List.mem_map.1 hv; exact Ex.eval_valid row x
    have hg0 := nth_get hpos
    have hl0 : (0 : Int) < (l.length : Int) := by omega
    clear hleq hrw
    simp only [go_sem, Nat.reduceEqDiff, Nat.reduceAdd, Nat.reduceSub, Nat.reduceLeDiff, Nat.reduceLT, Nat.reduceMul, Nat.reduceBEq, Int.reduceEq, Int.reduceLT, Int.reduceLE, Int.reduceNeg, Int.reduceToNat, reduceCtorEq, ho, Try.results39, h6, hlt, hs2, hb2, List.length_map]
    simp only [go_sem, Nat.reduceEqDiff, Nat.reduceAdd, Nat.reduceSub, Nat.reduceLeDiff, Nat.reduceLT, Nat.reduceMul, Nat.reduceBEq, Int.reduceEq, Int.reduceLT, Int.reduceLE, Int.reduceNeg, Int.reduceToNat, reduceCtorEq, ho, Try.results39, hop, h5, hs1, hs2, hs4, hb2, hb4]
    have h4 : l.length = 2 := by
      have : (e.args.length : Int) = 2 := by simpa [fitsN] using hfit
      omega
    have hg1 := nth_get (show 1 < l.length by omega)
    have hl1 : (1 : Int) < (l.length : Int) := by omega
    refine GCall.fr ?_ (are_fn l 1 (by omega)) (.inl rfl) ?_; (focus (first | rfl | ((simp only [go_sem, Nat.reduceEqDiff, Nat.reduceAdd, Nat.reduceSub, Nat.reduceLeDiff, Nat.reduceLT, Nat.reduceMul, Nat.reduceBEq, Int.reduceEq, Int.reduceLT, Int.reduceLE, Int.reduceNeg, Int.reduceToNat, reduceCtorEq, ho, Try.results39, hop, hrow]); done) | ((simp only [go_sem, Nat.reduceEqDiff, Nat.reduceAdd, Nat.reduceSub, Nat.reduceLeDiff, Nat.reduceLT, Nat.reduceMul, Nat.reduceBEq, Int.reduceEq, Int.reduceLT, Int.reduceLE, Int.reduceNeg, Int.reduceToNat, reduceCtorEq, ho, Try.results39, hop, hrow]); rfl)))
    simp only [go_sem, Nat.reduceEqDiff, Nat.reduceAdd, Nat.reduceSub, Nat.reduceLeDiff, Nat.reduceLT, Nat.reduceMul, Nat.reduceBEq, Int.reduceEq, Int.reduceLT, Int.reduceLE, Int.reduceNeg, Int.reduceToNat, reduceCtorEq, ho, Try.results39]
    cases ha : allK 1 l with
    | false =>
      simp only [go_sem, Nat.reduceEqDiff, Nat.reduceAdd, Nat.reduceSub, Nat.reduceLeDiff, Nat.reduceLT, Nat.reduceMul, Nat.reduceBEq, Int.reduceEq, Int.reduceLT, Int.reduceLE, Int.reduceNeg, Int.reduceToNat, reduceCtorEq, ho, Try.results39, ha, hop, h5, hs1, hs2, hs4, hb2, hb4]
      refine GCall.fr ?_ (rnull_fn) (.inl rfl) ?_; (focus (first | rfl | ((simp only [go_sem, Nat.reduceEqDiff, Nat.reduceAdd, Nat.reduceSub, Nat.reduceLeDiff, Nat.reduceLT, Nat.reduceMul, Nat.reduceBEq, Int.reduceEq, Int.reduceLT, Int.reduceLE, Int.reduceNeg, Int.reduceToNat, reduceCtorEq, ho, Try.results39]); done) | ((simp only [go_sem, Nat.reduceEqDiff, Nat.reduceAdd, Nat.reduceSub, Nat.reduceLeDiff, Nat.reduceLT, Nat.reduceMul, Nat.reduceBEq, Int.reduceEq, Int.reduceLT, Int.reduceLE, Int.reduceNeg, Int.reduceToNat, reduceCtorEq, ho, Try.results39]); rfl)))
      simp only [go_sem, Nat.reduceEqDiff, Nat.reduceAdd, Nat.reduceSub, Nat.reduceLeDiff, Nat.reduceLT, Nat.reduceMul, Nat.reduceBEq, Int.reduceEq, Int.reduceLT, Int.reduceLE, Int.reduceNeg, Int.reduceToNat, reduceCtorEq, ho, Try.results39, Vl.enc, Vl.null, h5, hs1, hs2, hs4, hb2, hb4]
      rw [evo_16]
      unfold arith
      rw [ha]
      exact ⟨rfl, rfl, rfl⟩
    | true =>
      simp only [go_sem, Nat.reduceEqDiff, Nat.reduceAdd, Nat.reduceSub, Nat.reduceLeDiff, Nat.reduceLT, Nat.reduceMul, Nat.reduceBEq, Int.reduceEq, Int.reduceLT, Int.reduceLE, Int.reduceNeg, Int.reduceToNat, reduceCtorEq, ho, Try.results39, ha, hop, h5, hs1, hs2, hs4, hb2, hb4, hrow, hg0, hl0, hg1, hl1]
      refine QCall.fr ?_ (rcomputed_fn 16 (nth l 0).int (nth l 1).int (by decide) (valid_int (nth_valid hvv 0))) (.inl rfl) ?_; (focus (first | rfl | ((simp only [go_sem, Nat.reduceEqDiff, Nat.reduceAdd, Nat.reduceSub, Nat.reduceLeDiff, Nat.reduceLT, Nat.reduceMul, Nat.reduceBEq, Int.reduceEq, Int.reduceLT, Int.reduceLE, Int.reduceNeg, Int.reduceToNat, reduceCtorEq, ho, Try.results39]); done) | ((simp only [go_sem, Nat.reduceEqDiff, Nat.reduceAdd, Nat.reduceSub, Nat.reduceLeDiff, Nat.reduceLT, Nat.reduceMul, Nat.reduceBEq, Int.reduceEq, Int.reduceLT, Int.reduceLE, Int.reduceNeg, Int.reduceToNat, reduceCtorEq, ho, Try.results39]); rfl)))
      simp only [go_sem, Nat.reduceEqDiff, Nat.reduceAdd, Nat.reduceSub, Nat.reduceLeDiff, Nat.reduceLT, Nat.reduceMul, Nat.reduceBEq, Int.reduceEq, Int.reduceLT, Int.reduceLE, Int.reduceNeg, Int.reduceToNat, reduceCtorEq, ho, Try.results39, Vl.enc, h5, hs1, hs2, hs4, hb2, hb4]
      rw [evo_16]
      have e1 : arith 16 l = computed 16 (nth l 0).int (nth l 1).int := by simp [arith, ha, h4]
      rw [e1]; exact ⟨rfl, rfl, rfl⟩
  | cons x rest =>
    have hlt : (done.length : Int) < (e.args.length : Int) := by simp at hlen2; omega
    have hget : (e.args.map Ex.enc)[done.length]? = some x.enc := by simp [hl']
    have hxs : x.size ≤ n := by have := hsz; rw [hl', Ex.sizes_app] at this; simp [Ex.sizes] at this; omega
    simp only [go_sem, Nat.reduceEqDiff, Nat.reduceAdd, Nat.reduceSub, Nat.reduceLeDiff, Nat.reduceLT, Nat.reduceMul, Nat.reduceBEq, Int.reduceEq, Int.reduceLT, Int.reduceLE, Int.reduceNeg, Int.reduceToNat, reduceCtorEq, ho, Try.results39, h6, hs1, hs2, hs4, hb2, hb4, hlt, hget, List.length_map, Int.natCast_nonneg, Int.toNat_natCast]
    refine GCall.fr ?_ (IH x hxs) (.inl rfl) ?_; (focus (first | rfl | ((simp only [go_sem, Nat.reduceEqDiff, Nat.reduceAdd, Nat.reduceSub, Nat.reduceLeDiff, Nat.reduceLT, Nat.reduceMul, Nat.reduceBEq, Int.reduceEq, Int.reduceLT, Int.reduceLE, Int.reduceNeg, Int.reduceToNat, reduceCtorEq, ho, Try.results39, x.enc_eq, hs1]); done) | ((simp only [go_sem, Nat.reduceEqDiff, Nat.reduceAdd, Nat.reduceSub, Nat.reduceLeDiff, Nat.reduceLT, Nat.reduceMul, Nat.reduceBEq, Int.reduceEq, Int.reduceLT, Int.reduceLE, Int.reduceNeg, Int.reduceToNat, reduceCtorEq, ho, Try.results39, x.enc_eq, hs1]); rfl)))
    simp only [go_sem, Nat.reduceEqDiff, Nat.reduceAdd, Nat.reduceSub, Nat.reduceLeDiff, Nat.reduceLT, Nat.reduceMul, Nat.reduceBEq, Int.reduceEq, Int.reduceLT, Int.reduceLE, Int.reduceNeg, Int.reduceToNat, reduceCtorEq, ho, Try.results39, h6, hs1, hs2, hs4, hb2, hb4]
    have hbig : (done.length + 1) * 33 ≤ 140737488355328 := by omega
    have hb2' := hb2
    rw [e.enc_cells] at hb2'
    rcases h5 with ⟨rfl, h5⟩ | ⟨hne, v, h5, h28⟩
    · simp only [go_sem, Nat.reduceEqDiff, Nat.reduceAdd, Nat.reduceSub, Nat.reduceLeDiff, Nat.reduceLT, Nat.reduceMul, Nat.reduceBEq, Int.reduceEq, Int.reduceLT, Int.reduceLE, Int.reduceNeg, Int.reduceToNat, reduceCtorEq, ho, Try.results39, h6, hs1, hs2, hs4, hb2', hb4, h5, hw, Vl.enc]
      exact ⟨rest.length, by simp at hm'; omega, [x], rest, by simpa using hl', rfl, rfl, .inr ⟨by simp, _, rfl, by simp [Vl.enc]⟩⟩
    · simp only [go_sem, Nat.reduceEqDiff, Nat.reduceAdd, Nat.reduceSub, Nat.reduceLeDiff, Nat.reduceLT, Nat.reduceMul, Nat.reduceBEq, Int.reduceEq, Int.reduceLT, Int.reduceLE, Int.reduceNeg, Int.reduceToNat, reduceCtorEq, ho, Try.results39, h6, hs1, hs2, hs4, hb2', hb4, h5, h28, hw, hbig, List.length_map, Vl.enc]
      exact ⟨rest.length, by simp at hm'; omega, done ++ [x], rest, by simp [hl'], rfl, by simp, .inr ⟨by simp, _, rfl, by simp [Vl.enc]⟩⟩
theorem revalc_17 (row : List Vl) (n : Nat) (hn : n + 1 ≤ 100000000) (IH : ∀ x : Ex, x.size ≤ n → Fc 39 [x.enc, .sl (row.map Vl.enc)] (x.eval row).enc) (e : Ex) (h : e.size ≤ n + 1) (hf : e.formed = true) (hop : e.op = 17) : Fc 39 [e.enc, .sl (row.map Vl.enc)] (e.eval row).enc := by
  obtain ⟨l, hleq⟩ : ∃ l, l = e.args.map (Ex.eval row) := ⟨_, rfl⟩
  have hev : e.eval row = evalOp row 17 e.int e.val l := by rw [Ex.eval_eq, hf, hop, hleq]; rfl
  have hsz := e.size_eq
  have hlen := Ex.len_sizes e.args
  have hfit := formed_len hf
  rw [hop] at hfit
  refine fn_of_awp (E := E0) (M := M0) follows Try.func39 rfl (by decide) ok39 (by decide) (by simp) fun o ho => ?_
  rw [hev]
  clear hev
  simp only [go_sem, Nat.reduceEqDiff, Nat.reduceAdd, Nat.reduceSub, Nat.reduceLeDiff, Nat.reduceLT, Nat.reduceMul, Nat.reduceBEq, Int.reduceEq, Int.reduceLT, Int.reduceLE, Int.reduceNeg, Int.reduceToNat, reduceCtorEq, ho, Try.results39, e.enc_eq]
  refine GCall.fr ?_ (rformed_fn e (by omega)) (.inl rfl) ?_; (focus (first | rfl | ((simp only [go_sem, Nat.reduceEqDiff, Nat.reduceAdd, Nat.reduceSub, Nat.reduceLeDiff, Nat.reduceLT, Nat.reduceMul, Nat.reduceBEq, Int.reduceEq, Int.reduceLT, Int.reduceLE, Int.reduceNeg, Int.reduceToNat, reduceCtorEq, ho, Try.results39, e.enc_eq]); done) | ((simp only [go_sem, Nat.reduceEqDiff, Nat.reduceAdd, Nat.reduceSub, Nat.reduceLeDiff, Nat.reduceLT, Nat.reduceMul, Nat.reduceBEq, Int.reduceEq, Int.reduceLT, Int.reduceLE, Int.reduceNeg, Int.reduceToNat, reduceCtorEq, ho, Try.results39, e.enc_eq]); rfl)))
  simp only [go_sem, Nat.reduceEqDiff, Nat.reduceAdd, Nat.reduceSub, Nat.reduceLeDiff, Nat.reduceLT, Nat.reduceMul, Nat.reduceBEq, Int.reduceEq, Int.reduceLT, Int.reduceLE, Int.reduceNeg, Int.reduceToNat, reduceCtorEq, ho, Try.results39, hf]
  have hl100 : e.args.length ≤ 100000000 := by omega
  have hllen : l.length = e.args.length := by rw [hleq]; simp
  have hpos := fits_pos (op := 17) (l := l) (by rw [hllen]; exact hfit) (by decide) (by decide)
  refine ⟨fun m st => ∃ (done rest : List Ex), e.args = done ++ rest ∧ rest.length = m ∧ st.s 6 = .int .i64 done.length ∧ st.s 1 = .sl (row.map Vl.enc) ∧ st.s 2 = .ptr 2 1 0 ∧ st.s 4 = .ptr 4 1 0 ∧ getBox st.o 2 1 = some (49, e.enc.cells) ∧ st.o 4 = (1, some (true, .box 42 [.int .i64 0, .int .i64 0, .str ⟨#[]⟩])) ∧ ((done = [] ∧ st.s 5 = .nil) ∨ (done ≠ [] ∧ ∃ v, st.s 5 = .ref 28 v ∧ st.o 28 = (v, some (true, .row 42 (done.map fun x => (x.eval row).enc))))), e.args.length,
    ⟨[], e.args, rfl, rfl, by simp only [go_sem, Nat.reduceEqDiff, Nat.reduceAdd, Nat.reduceSub, Nat.reduceLeDiff, Nat.reduceLT, Nat.reduceMul, Nat.reduceBEq, Int.reduceEq, Int.reduceLT, Int.reduceLE, Int.reduceNeg, Int.reduceToNat, reduceCtorEq, ho, Try.results39]; rfl, by simp only [go_sem, Nat.reduceEqDiff, Nat.reduceAdd, Nat.reduceSub, Nat.reduceLeDiff, Nat.reduceLT, Nat.reduceMul, Nat.reduceBEq, Int.reduceEq, Int.reduceLT, Int.reduceLE, Int.reduceNeg, Int.reduceToNat, reduceCtorEq, ho, Try.results39], by simp only [go_sem, Nat.reduceEqDiff, Nat.reduceAdd, Nat.reduceSub, Nat.reduceLeDiff, Nat.reduceLT, Nat.reduceMul, Nat.reduceBEq, Int.reduceEq, Int.reduceLT, Int.reduceLE, Int.reduceNeg, Int.reduceToNat, reduceCtorEq, ho, Try.results39], by simp only [go_sem, Nat.reduceEqDiff, Nat.reduceAdd, Nat.reduceSub, Nat.reduceLeDiff, Nat.reduceLT, Nat.reduceMul, Nat.reduceBEq, Int.reduceEq, Int.reduceLT, Int.reduceLE, Int.reduceNeg, Int.reduceToNat, reduceCtorEq, ho, Try.results39], by simp only [go_sem, Nat.reduceEqDiff, Nat.reduceAdd, Nat.reduceSub, Nat.reduceLeDiff, Nat.reduceLT, Nat.reduceMul, Nat.reduceBEq, Int.reduceEq, Int.reduceLT, Int.reduceLE, Int.reduceNeg, Int.reduceToNat, reduceCtorEq, ho, Try.results39], by simp only [go_sem, Nat.reduceEqDiff, Nat.reduceAdd, Nat.reduceSub, Nat.reduceLeDiff, Nat.reduceLT, Nat.reduceMul, Nat.reduceBEq, Int.reduceEq, Int.reduceLT, Int.reduceLE, Int.reduceNeg, Int.reduceToNat, reduceCtorEq, ho, Try.results39], .inl ⟨rfl, by simp only [go_sem, Nat.reduceEqDiff, Nat.reduceAdd, Nat.reduceSub, Nat.reduceLeDiff, Nat.reduceLT, Nat.reduceMul, Nat.reduceBEq, Int.reduceEq, Int.reduceLT, Int.reduceLE, Int.reduceNeg, Int.reduceToNat, reduceCtorEq, ho, Try.results39]⟩⟩, ?_⟩
  rintro m st ⟨done, rest, hl', hm', h6, hs1, hs2, hs4, hb2, hb4, h5⟩
  have hlen2 : done.length + rest.length = e.args.length := by rw [hl']; simp
  have hw : IntKind.i64.wrap ((done.length : Int) + 1) = (done.length : Int) + 1 := wrap_fits (by omega) (by omega)
  cases rest with
  | nil =>
    have hlt : ¬ (done.length : Int) < (e.args.length : Int) := by simp at hlen2; omega
    obtain hdone : e.args = done := by simpa using hl'
    rcases h5 with ⟨hd0, _⟩ | ⟨hne, v, h5, h28⟩
    case inl =>
      have h00 : e.args.length = 0 := by rw [hdone, hd0]; rfl
      omega
    have hrw : (done.map fun x => (x.eval row).enc) = l.map Vl.enc := by rw [hleq, hdone]; simp
    rw [hrw] at h28
    have hrow : getRow st.o 28 v = some (42, l.map Vl.enc) := by simp [getRow, h28]
    have hvv : ∀ v ∈ l, v.valid = true := fun v hv => by rw [hleq] at hv; obtain ⟨x, _, rfl⟩ := List.mem_map.1 hv; exact Ex.eval_valid row x
    have hg0 := nth_get hpos
    have hl0 : (0 : Int) < (l.length : Int) := by omega
    clear hleq hrw
    simp only [go_sem, Nat.reduceEqDiff, Nat.reduceAdd, Nat.reduceSub, Nat.reduceLeDiff, Nat.reduceLT, Nat.reduceMul, Nat.reduceBEq, Int.reduceEq, Int.reduceLT, Int.reduceLE, Int.reduceNeg, Int.reduceToNat, reduceCtorEq, ho, Try.results39, h6, hlt, hs2, hb2, List.length_map]
    simp only [go_sem, Nat.reduceEqDiff, Nat.reduceAdd, Nat.reduceSub, Nat.reduceLeDiff, Nat.reduceLT, Nat.reduceMul, Nat.reduceBEq, Int.reduceEq, Int.reduceLT, Int.reduceLE, Int.reduceNeg, Int.reduceToNat, reduceCtorEq, ho, Try.results39, hop, h5, hs1, hs2, hs4, hb2, hb4]
    have h4 : l.length = 2 := by
      have : (e.args.length : Int) = 2 := by simpa [fitsN] using hfit
      omega
    have hg1 := nth_get (show 1 < l.length by omega)
    have hl1 : (1 : Int) < (l.length : Int) := by omega
    refine GCall.fr ?_ (are_fn l 1 (by omega)) (.inl rfl) ?_; (focus (first | rfl | ((simp only [go_sem, Nat.reduceEqDiff, Nat.reduceAdd, Nat.reduceSub, Nat.reduceLeDiff, Nat.reduceLT, Nat.reduceMul, Nat.reduceBEq, Int.reduceEq, Int.reduceLT, Int.reduceLE, Int.reduceNeg, Int.reduceToNat, reduceCtorEq, ho, Try.results39, hop, hrow]); done) | ((simp only [go_sem, Nat.reduceEqDiff, Nat.reduceAdd, Nat.reduceSub, Nat.reduceLeDiff, Nat.reduceLT, Nat.reduceMul, Nat.reduceBEq, Int.reduceEq, Int.reduceLT, Int.reduceLE, Int.reduceNeg, Int.reduceToNat, reduceCtorEq, ho, Try.results39, hop, hrow]); rfl)))
    simp only [go_sem, Nat.reduceEqDiff, Nat.reduceAdd, Nat.reduceSub, Nat.reduceLeDiff, Nat.reduceLT, Nat.reduceMul, Nat.reduceBEq, Int.reduceEq, Int.reduceLT, Int.reduceLE, Int.reduceNeg, Int.reduceToNat, reduceCtorEq, ho, Try.results39]
    cases ha : allK 1 l with
    | false =>
      simp only [go_sem, Nat.reduceEqDiff, Nat.reduceAdd, Nat.reduceSub, Nat.reduceLeDiff, Nat.reduceLT, Nat.reduceMul, Nat.reduceBEq, Int.reduceEq, Int.reduceLT, Int.reduceLE, Int.reduceNeg, Int.reduceToNat, reduceCtorEq, ho, Try.results39, ha, hop, h5, hs1, hs2, hs4, hb2, hb4]
      refine GCall.fr ?_ (rnull_fn) (.inl rfl) ?_; (focus (first | rfl | ((simp only [go_sem, Nat.reduceEqDiff, Nat.reduceAdd, Nat.reduceSub, Nat.reduceLeDiff, Nat.reduceLT, Nat.reduceMul, Nat.reduceBEq, Int.reduceEq, Int.reduceLT, Int.reduceLE, Int.reduceNeg, Int.reduceToNat, reduceCtorEq, ho, Try.results39]); done) | ((simp only [go_sem, Nat.reduceEqDiff, Nat.reduceAdd, Nat.reduceSub, Nat.reduceLeDiff, Nat.reduceLT, Nat.reduceMul, Nat.reduceBEq, Int.reduceEq, Int.reduceLT, Int.reduceLE, Int.reduceNeg, Int.reduceToNat, reduceCtorEq, ho, Try.results39]); rfl)))
      simp only [go_sem, Nat.reduceEqDiff, Nat.reduceAdd, Nat.reduceSub, Nat.reduceLeDiff, Nat.reduceLT, Nat.reduceMul, Nat.reduceBEq, Int.reduceEq, Int.reduceLT, Int.reduceLE, Int.reduceNeg, Int.reduceToNat, reduceCtorEq, ho, Try.results39, Vl.enc, Vl.null, h5, hs1, hs2, hs4, hb2, hb4]
      rw [evo_17]
      unfold arith
      rw [ha]
      exact ⟨rfl, rfl, rfl⟩
    | true =>
      simp only [go_sem, Nat.reduceEqDiff, Nat.reduceAdd, Nat.reduceSub, Nat.reduceLeDiff, Nat.reduceLT, Nat.reduceMul, Nat.reduceBEq, Int.reduceEq, Int.reduceLT, Int.reduceLE, Int.reduceNeg, Int.reduceToNat, reduceCtorEq, ho, Try.results39, ha, hop, h5, hs1, hs2, hs4, hb2, hb4, hrow, hg0, hl0, hg1, hl1]
      refine QCall.fr ?_ (rcomputed_fn 17 (nth l 0).int (nth l 1).int (by decide) (valid_int (nth_valid hvv 0))) (.inl rfl) ?_; (focus (first | rfl | ((simp only [go_sem, Nat.reduceEqDiff, Nat.reduceAdd, Nat.reduceSub, Nat.reduceLeDiff, Nat.reduceLT, Nat.reduceMul, Nat.reduceBEq, Int.reduceEq, Int.reduceLT, Int.reduceLE, Int.reduceNeg, Int.reduceToNat, reduceCtorEq, ho, Try.results39]); done) | ((simp only [go_sem, Nat.reduceEqDiff, Nat.reduceAdd, Nat.reduceSub, Nat.reduceLeDiff, Nat.reduceLT, Nat.reduceMul, Nat.reduceBEq, Int.reduceEq, Int.reduceLT, Int.reduceLE, Int.reduceNeg, Int.reduceToNat, reduceCtorEq, ho, Try.results39]); rfl)))
      simp only [go_sem, Nat.reduceEqDiff, Nat.reduceAdd, Nat.reduceSub, Nat.reduceLeDiff, Nat.reduceLT, Nat.reduceMul, Nat.reduceBEq, Int.reduceEq, Int.reduceLT, Int.reduceLE, Int.reduceNeg, Int.reduceToNat, reduceCtorEq, ho, Try.results39, Vl.enc, h5, hs1, hs2, hs4, hb2, hb4]
      rw [evo_17]
      have e1 : arith 17 l = computed 17 (nth l 0).int (nth l 1).int := by simp [arith, ha, h4]
      rw [e1]; exact ⟨rfl, rfl, rfl⟩
  | cons x rest =>
    have hlt : (done.length : Int) < (e.args.length : Int) := by simp at hlen2; omega
    have hget : (e.args.map Ex.enc)[done.length]? = some x.enc := by simp [hl']
    have hxs : x.size ≤ n := by have := hsz; rw [hl', Ex.sizes_app] at this; simp [Ex.sizes] at this; omega
    simp only [go_sem, Nat.reduceEqDiff, Nat.reduceAdd, Nat.reduceSub, Nat.reduceLeDiff, Nat.reduceLT, Nat.reduceMul, Nat.reduceBEq, Int.reduceEq, Int.reduceLT, Int.reduceLE, Int.reduceNeg, Int.reduceToNat, reduceCtorEq, ho, Try.results39, h6, hs1, hs2, hs4, hb2, hb4, hlt, hget, List.length_map, Int.natCast_nonneg, Int.toNat_natCast]
    refine GCall.fr ?_ (IH x hxs) (.inl rfl) ?_; (focus (first | rfl | ((simp only [go_sem, Nat.reduceEqDiff, Nat.reduceAdd, Nat.reduceSub, Nat.reduceLeDiff, Nat.reduceLT, Nat.reduceMul, Nat.reduceBEq, Int.reduceEq, Int.reduceLT, Int.reduceLE, Int.reduceNeg, Int.reduceToNat, reduceCtorEq, ho, Try.results39, x.enc_eq, hs1]); done) | ((simp only [go_sem, Nat.reduceEqDiff, Nat.reduceAdd, Nat.reduceSub, Nat.reduceLeDiff, Nat.reduceLT, Nat.reduceMul, Nat.reduceBEq, Int.reduceEq, Int.reduceLT, Int.reduceLE, Int.reduceNeg, Int.reduceToNat, reduceCtorEq, ho, Try.results39, x.enc_eq, hs1]); rfl)))
    simp only [go_sem, Nat.reduceEqDiff, Nat.reduceAdd, Nat.reduceSub, Nat.reduceLeDiff, Nat.reduceLT, Nat.reduceMul, Nat.reduceBEq, Int.reduceEq, Int.reduceLT, Int.reduceLE, Int.reduceNeg, Int.reduceToNat, reduceCtorEq, ho, Try.results39, h6, hs1, hs2, hs4, hb2, hb4]
    have hbig : (done.length + 1) * 33 ≤ 140737488355328 := by omega
    have hb2' := hb2
    rw [e.enc_cells] at hb2'
    rcases h5 with ⟨rfl, h5⟩ | ⟨hne, v, h5, h28⟩
    · simp only [go_sem, Nat.reduceEqDiff, Nat.reduceAdd, Nat.reduceSub, Nat.reduceLeDiff, Nat.reduceLT, Nat.reduceMul, Nat.reduceBEq, Int.reduceEq, Int.reduceLT, Int.reduceLE, Int.reduceNeg, Int.reduceToNat, reduceCtorEq, ho, Try.results39, h6, hs1, hs2, hs4, hb2', hb4, h5, hw, Vl.enc]
      exact ⟨rest.length, by simp at hm'; omega, [x], rest, by simpa using hl', rfl, rfl, .inr ⟨by simp, _, rfl, by simp [Vl.enc]⟩⟩
    · simp only [go_sem, Nat.reduceEqDiff, Nat.reduceAdd, Nat.reduceSub, Nat.reduceLeDiff, Nat.reduceLT, Nat.reduceMul, Nat.reduceBEq, Int.reduceEq, Int.reduceLT, Int.reduceLE, Int.reduceNeg, Int.reduceToNat, reduceCtorEq, ho, Try.results39, h6, hs1, hs2, hs4, hb2', hb4, h5, h28, hw, hbig, List.length_map, Vl.enc]
      exact ⟨rest.length, by simp at hm'; omega, done ++ [x], rest, by simp [hl'], rfl, by simp, .inr ⟨by simp, _, rfl, by simp [Vl.enc]⟩⟩
theorem revalc_7 (row : List Vl) (n : Nat) (hn : n + 1 ≤ 100000000) (IH : ∀ x : Ex, x.size ≤ n → Fc 39 [x.enc, .sl (row.map Vl.enc)] (x.eval row).enc) (e : Ex) (h : e.size ≤ n + 1) (hf : e.formed = true) (hop : e.op = 7) : Fc 39 [e.enc, .sl (row.map Vl.enc)] (e.eval row).enc := by
  obtain ⟨l, hleq⟩ : ∃ l, l = e.args.map (Ex.eval row) := ⟨_, rfl⟩
  have hev : e.eval row = evalOp row 7 e.int e.val l := by rw [Ex.eval_eq, hf, hop, hleq]; rfl
  have hsz := e.size_eq
  have hlen := Ex.len_sizes e.args
  have hfit := formed_len hf
  rw [hop] at hfit
  refine fn_of_awp (E := E0) (M := M0) follows Try.func39 rfl (by decide) ok39 (by decide) (by simp) fun o ho => ?_
  rw [hev]
  clear hev
  simp only [go_sem, Nat.reduceEqDiff, Nat.reduceAdd, Nat.reduceSub, Nat.reduceLeDiff, Nat.reduceLT, Nat.reduceMul, Nat.reduceBEq, Int.reduceEq, Int.reduceLT, Int.reduceLE, Int.reduceNeg, Int.reduceToNat, reduceCtorEq, ho, Try.results39, e.enc_eq]
  refine GCall.fr ?_ (rformed_fn e (by omega)) (.inl rfl) ?_; (focus (first | rfl | ((simp only [go_sem, Nat.reduceEqDiff, Nat.reduceAdd, Nat.reduceSub, Nat.reduceLeDiff, Nat.reduceLT, Nat.reduceMul, Nat.reduceBEq, Int.reduceEq, Int.reduceLT, Int.reduceLE, Int.reduceNeg, Int.reduceToNat, reduceCtorEq, ho, Try.results39, e.enc_eq]); done) | ((simp only [go_sem, Nat.reduceEqDiff, Nat.reduceAdd, Nat.reduceSub, Nat.reduceLeDiff, Nat.reduceLT, Nat.reduceMul, Nat.reduceBEq, Int.reduceEq, Int.reduceLT, Int.reduceLE, Int.reduceNeg, Int.reduceToNat, reduceCtorEq, ho, Try.results39, e.enc_eq]); rfl)))
  simp only [go_sem, Nat.reduceEqDiff, Nat.reduceAdd, Nat.reduceSub, Nat.reduceLeDiff, Nat.reduceLT, Nat.reduceMul, Nat.reduceBEq, Int.reduceEq, Int.reduceLT, Int.reduceLE, Int.reduceNeg, Int.reduceToNat, reduceCtorEq, ho, Try.results39, hf]
  have hl100 : e.args.length ≤ 100000000 := by omega
  have hllen : l.length = e.args.length := by rw [hleq]; simp
  have hpos := fits_pos (op := 7) (l := l) (by rw [hllen]; exact hfit) (by decide) (by decide)
  refine ⟨fun m st => ∃ (done rest : List Ex), e.args = done ++ rest ∧ rest.length = m ∧ st.s 6 = .int .i64 done.length ∧ st.s 1 = .sl (row.map Vl.enc) ∧ st.s 2 = .ptr 2 1 0 ∧ st.s 4 = .ptr 4 1 0 ∧ getBox st.o 2 1 = some (49, e.enc.cells) ∧ st.o 4 = (1, some (true, .box 42 [.int .i64 0, .int .i64 0, .str ⟨#[]⟩])) ∧ ((done = [] ∧ st.s 5 = .nil) ∨ (done ≠ [] ∧ ∃ v, st.s 5 = .ref 28 v ∧ st.o 28 = (v, some (true, .row 42 (done.map fun x => (x.eval row).enc))))), e.args.length,
    ⟨[], e.args, rfl, rfl, by simp only [go_sem, Nat.reduceEqDiff, Nat.reduceAdd, Nat.reduceSub, Nat.reduceLeDiff, Nat.reduceLT, Nat.reduceMul, Nat.reduceBEq, Int.reduceEq, Int.reduceLT, Int.reduceLE, Int.reduceNeg, Int.reduceToNat, reduceCtorEq, ho, Try.results39]; rfl, by simp only [go_sem, Nat.reduceEqDiff, Nat.reduceAdd, Nat.reduceSub, Nat.reduceLeDiff, Nat.reduceLT, Nat.reduceMul, Nat.reduceBEq, Int.reduceEq, Int.reduceLT, Int.reduceLE, Int.reduceNeg, Int.reduceToNat, reduceCtorEq, ho, Try.results39], by simp only [go_sem, Nat.reduceEqDiff, Nat.reduceAdd, Nat.reduceSub, Nat.reduceLeDiff, Nat.reduceLT, Nat.reduceMul, Nat.reduceBEq, Int.reduceEq, Int.reduceLT, Int.reduceLE, Int.reduceNeg, Int.reduceToNat, reduceCtorEq, ho, Try.results39], by simp only [go_sem, Nat.reduceEqDiff, Nat.reduceAdd, Nat.reduceSub, Nat.reduceLeDiff, Nat.reduceLT, Nat.reduceMul, Nat.reduceBEq, Int.reduceEq, Int.reduceLT, Int.reduceLE, Int.reduceNeg, Int.reduceToNat, reduceCtorEq, ho, Try.results39], by simp only [go_sem, Nat.reduceEqDiff, Nat.reduceAdd, Nat.reduceSub, Nat.reduceLeDiff, Nat.reduceLT, Nat.reduceMul, Nat.reduceBEq, Int.reduceEq, Int.reduceLT, Int.reduceLE, Int.reduceNeg, Int.reduceToNat, reduceCtorEq, ho, Try.results39], by simp only [go_sem, Nat.reduceEqDiff, Nat.reduceAdd, Nat.reduceSub, Nat.reduceLeDiff, Nat.reduceLT, Nat.reduceMul, Nat.reduceBEq, Int.reduceEq, Int.reduceLT, Int.reduceLE, Int.reduceNeg, Int.reduceToNat, reduceCtorEq, ho, Try.results39], .inl ⟨rfl, by simp only [go_sem, Nat.reduceEqDiff, Nat.reduceAdd, Nat.reduceSub, Nat.reduceLeDiff, Nat.reduceLT, Nat.reduceMul, Nat.reduceBEq, Int.reduceEq, Int.reduceLT, Int.reduceLE, Int.reduceNeg, Int.reduceToNat, reduceCtorEq, ho, Try.results39]⟩⟩, ?_⟩
  rintro m st ⟨done, rest, hl', hm', h6, hs1, hs2, hs4, hb2, hb4, h5⟩
  have hlen2 : done.length + rest.length = e.args.length := by rw [hl']; simp
  have hw : IntKind.i64.wrap ((done.length : Int) + 1) = (done.length : Int) + 1 := wrap_fits (by omega) (by omega)
  cases rest with
  | nil =>
    have hlt : ¬ (done.length : Int) < (e.args.length : Int) := by simp at hlen2; omega
    obtain hdone : e.args = done := by simpa using hl'
    rcases h5 with ⟨hd0, _⟩ | ⟨hne, v, h5, h28⟩
    case inl =>
      have h00 : e.args.length = 0 := by rw [hdone, hd0]; rfl
      omega
    have hrw : (done.map fun x => (x.eval row).enc) = l.map Vl.enc := by rw [hleq, hdone]; simp
    rw [hrw] at h28
    have hrow : getRow st.o 28 v = some (42, l.map Vl.enc) := by simp [getRow, h28]
    have hvv : ∀ v ∈ l, v.valid = true := fun v hv => by rw [hleq] at hv; obtain ⟨x, _, rfl⟩ := List.mem_map.1 hv; exact Ex.eval_valid row x
    have hg0 := nth_get hpos
    have hl0 : (0 : Int) < (l.length : Int) := by omega
    clear hleq hrw
    simp only [go_sem, Nat.reduceEqDiff, Nat.reduceAdd, Nat.reduceSub, Nat.reduceLeDiff, Nat.reduceLT, Nat.reduceMul, Nat.reduceBEq, Int.reduceEq, Int.reduceLT, Int.reduceLE, Int.reduceNeg, Int.reduceToNat, reduceCtorEq, ho, Try.results39, h6, hlt, hs2, hb2, List.length_map]
    have h4 : l.length = 2 := by
      have : (e.args.length : Int) = 2 := by simpa [fitsN] using hfit
      omega
    have hg1 := nth_get (show 1 < l.length by omega)
    have hl1 : (1 : Int) < (l.length : Int) := by omega
    simp only [go_sem, Nat.reduceEqDiff, Nat.reduceAdd, Nat.reduceSub, Nat.reduceLeDiff, Nat.reduceLT, Nat.reduceMul, Nat.reduceBEq, Int.reduceEq, Int.reduceLT, Int.reduceLE, Int.reduceNeg, Int.reduceToNat, reduceCtorEq, ho, Try.results39, hop, h5, hs1, hs2, hs4, hb2, hb4, hrow, hg0, hl0, hg1, hl1, Vl.enc]
    refine QCall.fr ?_ (rcompared_fn 7 (nth l 0) (nth l 1)) (.inl rfl) ?_; (focus (first | rfl | ((simp only [go_sem, Nat.reduceEqDiff, Nat.reduceAdd, Nat.reduceSub, Nat.reduceLeDiff, Nat.reduceLT, Nat.reduceMul, Nat.reduceBEq, Int.reduceEq, Int.reduceLT, Int.reduceLE, Int.reduceNeg, Int.reduceToNat, reduceCtorEq, ho, Try.results39, Vl.enc]); done) | ((simp only [go_sem, Nat.reduceEqDiff, Nat.reduceAdd, Nat.reduceSub, Nat.reduceLeDiff, Nat.reduceLT, Nat.reduceMul, Nat.reduceBEq, Int.reduceEq, Int.reduceLT, Int.reduceLE, Int.reduceNeg, Int.reduceToNat, reduceCtorEq, ho, Try.results39, Vl.enc]); rfl)))
    simp only [go_sem, Nat.reduceEqDiff, Nat.reduceAdd, Nat.reduceSub, Nat.reduceLeDiff, Nat.reduceLT, Nat.reduceMul, Nat.reduceBEq, Int.reduceEq, Int.reduceLT, Int.reduceLE, Int.reduceNeg, Int.reduceToNat, reduceCtorEq, ho, Try.results39]
    refine QCall.fr ?_ (rof_fn (Vl.compared 7 (nth l 0) (nth l 1))) (.inl rfl) ?_; (focus (first | rfl | ((simp only [go_sem, Nat.reduceEqDiff, Nat.reduceAdd, Nat.reduceSub, Nat.reduceLeDiff, Nat.reduceLT, Nat.reduceMul, Nat.reduceBEq, Int.reduceEq, Int.reduceLT, Int.reduceLE, Int.reduceNeg, Int.reduceToNat, reduceCtorEq, ho, Try.results39]); done) | ((simp only [go_sem, Nat.reduceEqDiff, Nat.reduceAdd, Nat.reduceSub, Nat.reduceLeDiff, Nat.reduceLT, Nat.reduceMul, Nat.reduceBEq, Int.reduceEq, Int.reduceLT, Int.reduceLE, Int.reduceNeg, Int.reduceToNat, reduceCtorEq, ho, Try.results39]); rfl)))
    simp only [go_sem, Nat.reduceEqDiff, Nat.reduceAdd, Nat.reduceSub, Nat.reduceLeDiff, Nat.reduceLT, Nat.reduceMul, Nat.reduceBEq, Int.reduceEq, Int.reduceLT, Int.reduceLE, Int.reduceNeg, Int.reduceToNat, reduceCtorEq, ho, Try.results39, Vl.enc, h5, hs1, hs2, hs4, hb2, hb4]
    rw [evo_7]; exact ⟨rfl, rfl, rfl⟩
  | cons x rest =>
    have hlt : (done.length : Int) < (e.args.length : Int) := by simp at hlen2; omega
    have hget : (e.args.map Ex.enc)[done.length]? = some x.enc := by simp [hl']
    have hxs : x.size ≤ n := by have := hsz; rw [hl', Ex.sizes_app] at this; simp [Ex.sizes] at this; omega
    simp only [go_sem, Nat.reduceEqDiff, Nat.reduceAdd, Nat.reduceSub, Nat.reduceLeDiff, Nat.reduceLT, Nat.reduceMul, Nat.reduceBEq, Int.reduceEq, Int.reduceLT, Int.reduceLE, Int.reduceNeg, Int.reduceToNat, reduceCtorEq, ho, Try.results39, h6, hs1, hs2, hs4, hb2, hb4, hlt, hget, List.length_map, Int.natCast_nonneg, Int.toNat_natCast]
    refine GCall.fr ?_ (IH x hxs) (.inl rfl) ?_; (focus (first | rfl | ((simp only [go_sem, Nat.reduceEqDiff, Nat.reduceAdd, Nat.reduceSub, Nat.reduceLeDiff, Nat.reduceLT, Nat.reduceMul, Nat.reduceBEq, Int.reduceEq, Int.reduceLT, Int.reduceLE, Int.reduceNeg, Int.reduceToNat, reduceCtorEq, ho, Try.results39, x.enc_eq, hs1]); done) | ((simp only [go_sem, Nat.reduceEqDiff, Nat.reduceAdd, Nat.reduceSub, Nat.reduceLeDiff, Nat.reduceLT, Nat.reduceMul, Nat.reduceBEq, Int.reduceEq, Int.reduceLT, Int.reduceLE, Int.reduceNeg, Int.reduceToNat, reduceCtorEq, ho, Try.results39, x.enc_eq, hs1]); rfl)))
    simp only [go_sem, Nat.reduceEqDiff, Nat.reduceAdd, Nat.reduceSub, Nat.reduceLeDiff, Nat.reduceLT, Nat.reduceMul, Nat.reduceBEq, Int.reduceEq, Int.reduceLT, Int.reduceLE, Int.reduceNeg, Int.reduceToNat, reduceCtorEq, ho, Try.results39, h6, hs1, hs2, hs4, hb2, hb4]
    have hbig : (done.length + 1) * 33 ≤ 140737488355328 := by omega
    have hb2' := hb2
    rw [e.enc_cells] at hb2'
    rcases h5 with ⟨rfl, h5⟩ | ⟨hne, v, h5, h28⟩
    · simp only [go_sem, Nat.reduceEqDiff, Nat.reduceAdd, Nat.reduceSub, Nat.reduceLeDiff, Nat.reduceLT, Nat.reduceMul, Nat.reduceBEq, Int.reduceEq, Int.reduceLT, Int.reduceLE, Int.reduceNeg, Int.reduceToNat, reduceCtorEq, ho, Try.results39, h6, hs1, hs2, hs4, hb2', hb4, h5, hw, Vl.enc]
      exact ⟨rest.length, by simp at hm'; omega, [x], rest, by simpa using hl', rfl, rfl, .inr ⟨by simp, _, rfl, by simp [Vl.enc]⟩⟩
    · simp only [go_sem, Nat.reduceEqDiff, Nat.reduceAdd, Nat.reduceSub, Nat.reduceLeDiff, Nat.reduceLT, Nat.reduceMul, Nat.reduceBEq, Int.reduceEq, Int.reduceLT, Int.reduceLE, Int.reduceNeg, Int.reduceToNat, reduceCtorEq, ho, Try.results39, h6, hs1, hs2, hs4, hb2', hb4, h5, h28, hw, hbig, List.length_map, Vl.enc]
      exact ⟨rest.length, by simp at hm'; omega, done ++ [x], rest, by simp [hl'], rfl, by simp, .inr ⟨by simp, _, rfl, by simp [Vl.enc]⟩⟩
theorem revalc_8 (row : List Vl) (n : Nat) (hn : n + 1 ≤ 100000000) (IH : ∀ x : Ex, x.size ≤ n → Fc 39 [x.enc, .sl (row.map Vl.enc)] (x.eval row).enc) (e : Ex) (h : e.size ≤ n + 1) (hf : e.formed = true) (hop : e.op = 8) : Fc 39 [e.enc, .sl (row.map Vl.enc)] (e.eval row).enc := by
  obtain ⟨l, hleq⟩ : ∃ l, l = e.args.map (Ex.eval row) := ⟨_, rfl⟩
  have hev : e.eval row = evalOp row 8 e.int e.val l := by rw [Ex.eval_eq, hf, hop, hleq]; rfl
  have hsz := e.size_eq
  have hlen := Ex.len_sizes e.args
  have hfit := formed_len hf
  rw [hop] at hfit
  refine fn_of_awp (E := E0) (M := M0) follows Try.func39 rfl (by decide) ok39 (by decide) (by simp) fun o ho => ?_
  rw [hev]
  clear hev
  simp only [go_sem, Nat.reduceEqDiff, Nat.reduceAdd, Nat.reduceSub, Nat.reduceLeDiff, Nat.reduceLT, Nat.reduceMul, Nat.reduceBEq, Int.reduceEq, Int.reduceLT, Int.reduceLE, Int.reduceNeg, Int.reduceToNat, reduceCtorEq, ho, Try.results39, e.enc_eq]
  refine GCall.fr ?_ (rformed_fn e (by omega)) (.inl rfl) ?_; (focus (first | rfl | ((simp only [go_sem, Nat.reduceEqDiff, Nat.reduceAdd, Nat.reduceSub, Nat.reduceLeDiff, Nat.reduceLT, Nat.reduceMul, Nat.reduceBEq, Int.reduceEq, Int.reduceLT, Int.reduceLE, Int.reduceNeg, Int.reduceToNat, reduceCtorEq, ho, Try.results39, e.enc_eq]); done) | ((simp only [go_sem, Nat.reduceEqDiff, Nat.reduceAdd, Nat.reduceSub, Nat.reduceLeDiff, Nat.reduceLT, Nat.reduceMul, Nat.reduceBEq, Int.reduceEq, Int.reduceLT, Int.reduceLE, Int.reduceNeg, Int.reduceToNat, reduceCtorEq, ho, Try.results39, e.enc_eq]); rfl)))
  simp only [go_sem, Nat.reduceEqDiff, Nat.reduceAdd, Nat.reduceSub, Nat.reduceLeDiff, Nat.reduceLT, Nat.reduceMul, Nat.reduceBEq, Int.reduceEq, Int.reduceLT, Int.reduceLE, Int.reduceNeg, Int.reduceToNat, reduceCtorEq, ho, Try.results39, hf]
  have hl100 : e.args.length ≤ 100000000 := by omega
  have hllen : l.length = e.args.length := by rw [hleq]; simp
  have hpos := fits_pos (op := 8) (l := l) (by rw [hllen]; exact hfit) (by decide) (by decide)
  refine ⟨fun m st => ∃ (done rest : List Ex), e.args = done ++ rest ∧ rest.length = m ∧ st.s 6 = .int .i64 done.length ∧ st.s 1 = .sl (row.map Vl.enc) ∧ st.s 2 = .ptr 2 1 0 ∧ st.s 4 = .ptr 4 1 0 ∧ getBox st.o 2 1 = some (49, e.enc.cells) ∧ st.o 4 = (1, some (true, .box 42 [.int .i64 0, .int .i64 0, .str ⟨#[]⟩])) ∧ ((done = [] ∧ st.s 5 = .nil) ∨ (done ≠ [] ∧ ∃ v, st.s 5 = .ref 28 v ∧ st.o 28 = (v, some (true, .row 42 (done.map fun x => (x.eval row).enc))))), e.args.length,
    ⟨[], e.args, rfl, rfl, by simp only [go_sem, Nat.reduceEqDiff, Nat.reduceAdd, Nat.reduceSub, Nat.reduceLeDiff, Nat.reduceLT, Nat.reduceMul, Nat.reduceBEq, Int.reduceEq, Int.reduceLT, Int.reduceLE, Int.reduceNeg, Int.reduceToNat, reduceCtorEq, ho, Try.results39]; rfl, by simp only [go_sem, Nat.reduceEqDiff, Nat.reduceAdd, Nat.reduceSub, Nat.reduceLeDiff, Nat.reduceLT, Nat.reduceMul, Nat.reduceBEq, Int.reduceEq, Int.reduceLT, Int.reduceLE, Int.reduceNeg, Int.reduceToNat, reduceCtorEq, ho, Try.results39], by simp only [go_sem, Nat.reduceEqDiff, Nat.reduceAdd, Nat.reduceSub, Nat.reduceLeDiff, Nat.reduceLT, Nat.reduceMul, Nat.reduceBEq, Int.reduceEq, Int.reduceLT, Int.reduceLE, Int.reduceNeg, Int.reduceToNat, reduceCtorEq, ho, Try.results39], by simp only [go_sem, Nat.reduceEqDiff, Nat.reduceAdd, Nat.reduceSub, Nat.reduceLeDiff, Nat.reduceLT, Nat.reduceMul, Nat.reduceBEq, Int.reduceEq, Int.reduceLT, Int.reduceLE, Int.reduceNeg, Int.reduceToNat, reduceCtorEq, ho, Try.results39], by simp only [go_sem, Nat.reduceEqDiff, Nat.reduceAdd, Nat.reduceSub, Nat.reduceLeDiff, Nat.reduceLT, Nat.reduceMul, Nat.reduceBEq, Int.reduceEq, Int.reduceLT, Int.reduceLE, Int.reduceNeg, Int.reduceToNat, reduceCtorEq, ho, Try.results39], by simp only [go_sem, Nat.reduceEqDiff, Nat.reduceAdd, Nat.reduceSub, Nat.reduceLeDiff, Nat.reduceLT, Nat.reduceMul, Nat.reduceBEq, Int.reduceEq, Int.reduceLT, Int.reduceLE, Int.reduceNeg, Int.reduceToNat, reduceCtorEq, ho, Try.results39], .inl ⟨rfl, by simp only [go_sem, Nat.reduceEqDiff, Nat.reduceAdd, Nat.reduceSub, Nat.reduceLeDiff, Nat.reduceLT, Nat.reduceMul, Nat.reduceBEq, Int.reduceEq, Int.reduceLT, Int.reduceLE, Int.reduceNeg, Int.reduceToNat, reduceCtorEq, ho, Try.results39]⟩⟩, ?_⟩
  rintro m st ⟨done, rest, hl', hm', h6, hs1, hs2, hs4, hb2, hb4, h5⟩
  have hlen2 : done.length + rest.length = e.args.length := by rw [hl']; simp
  have hw : IntKind.i64.wrap ((done.length : Int) + 1) = (done.length : Int) + 1 := wrap_fits (by omega) (by omega)
  cases rest with
  | nil =>
    have hlt : ¬ (done.length : Int) < (e.args.length : Int) := by simp at hlen2; omega
    obtain hdone : e.args = done := by simpa using hl'
    rcases h5 with ⟨hd0, _⟩ | ⟨hne, v, h5, h28⟩
    case inl =>
      have h00 : e.args.length = 0 := by rw [hdone, hd0]; rfl
      omega
    have hrw : (done.map fun x => (x.eval row).enc) = l.map Vl.enc := by rw [hleq, hdone]; simp
    rw [hrw] at h28
    have hrow : getRow st.o 28 v = some (42, l.map Vl.enc) := by simp [getRow, h28]
    have hvv : ∀ v ∈ l, v.valid = true := fun v hv => by rw [hleq] at hv; obtain ⟨x, _, rfl⟩ := List.mem_map.1 hv; exact Ex.eval_valid row x
    have hg0 := nth_get hpos
    have hl0 : (0 : Int) < (l.length : Int) := by omega
    clear hleq hrw
    simp only [go_sem, Nat.reduceEqDiff, Nat.reduceAdd, Nat.reduceSub, Nat.reduceLeDiff, Nat.reduceLT, Nat.reduceMul, Nat.reduceBEq, Int.reduceEq, Int.reduceLT, Int.reduceLE, Int.reduceNeg, Int.reduceToNat, reduceCtorEq, ho, Try.results39, h6, hlt, hs2, hb2, List.length_map]
    have h4 : l.length = 2 := by
      have : (e.args.length : Int) = 2 := by simpa [fitsN] using hfit
      omega
    have hg1 := nth_get (show 1 < l.length by omega)
    have hl1 : (1 : Int) < (l.length : Int) := by omega
    simp only [go_sem, Nat.reduceEqDiff, Nat.reduceAdd, Nat.reduceSub, Nat.reduceLeDiff, Nat.reduceLT, Nat.reduceMul, Nat.reduceBEq, Int.reduceEq, Int.reduceLT, Int.reduceLE, Int.reduceNeg, Int.reduceToNat, reduceCtorEq, ho, Try.results39, hop, h5, hs1, hs2, hs4, hb2, hb4, hrow, hg0, hl0, hg1, hl1, Vl.enc]
    refine QCall.fr ?_ (rcompared_fn 8 (nth l 0) (nth l 1)) (.inl rfl) ?_; (focus (first | rfl | ((simp only [go_sem, Nat.reduceEqDiff, Nat.reduceAdd, Nat.reduceSub, Nat.reduceLeDiff, Nat.reduceLT, Nat.reduceMul, Nat.reduceBEq, Int.reduceEq, Int.reduceLT, Int.reduceLE, Int.reduceNeg, Int.reduceToNat, reduceCtorEq, ho, Try.results39, Vl.enc]); done) | ((simp only [go_sem, Nat.reduceEqDiff, Nat.reduceAdd, Nat.reduceSub, Nat.reduceLeDiff, Nat.reduceLT, Nat.reduceMul, Nat.reduceBEq, Int.reduceEq, Int.reduceLT, Int.reduceLE, Int.reduceNeg, Int.reduceToNat, reduceCtorEq, ho, Try.results39, Vl.enc]); rfl)))
    simp only [go_sem, Nat.reduceEqDiff, Nat.reduceAdd, Nat.reduceSub, Nat.reduceLeDiff, Nat.reduceLT, Nat.reduceMul, Nat.reduceBEq, Int.reduceEq, Int.reduceLT, Int.reduceLE, Int.reduceNeg, Int.reduceToNat, reduceCtorEq, ho, Try.results39]
    refine QCall.fr ?_ (rof_fn (Vl.compared 8 (nth l 0) (nth l 1))) (.inl rfl) ?_; (focus (first | rfl | ((simp only [go_sem, Nat.reduceEqDiff, Nat.reduceAdd, Nat.reduceSub, Nat.reduceLeDiff, Nat.reduceLT, Nat.reduceMul, Nat.reduceBEq, Int.reduceEq, Int.reduceLT, Int.reduceLE, Int.reduceNeg, Int.reduceToNat, reduceCtorEq, ho, Try.results39]); done) | ((simp only [go_sem, Nat.reduceEqDiff, Nat.reduceAdd, Nat.reduceSub, Nat.reduceLeDiff, Nat.reduceLT, Nat.reduceMul, Nat.reduceBEq, Int.reduceEq, Int.reduceLT, Int.reduceLE, Int.reduceNeg, Int.reduceToNat, reduceCtorEq, ho, Try.results39]); rfl)))
    simp only [go_sem, Nat.reduceEqDiff, Nat.reduceAdd, Nat.reduceSub, Nat.reduceLeDiff, Nat.reduceLT, Nat.reduceMul, Nat.reduceBEq, Int.reduceEq, Int.reduceLT, Int.reduceLE, Int.reduceNeg, Int.reduceToNat, reduceCtorEq, ho, Try.results39, Vl.enc, h5, hs1, hs2, hs4, hb2, hb4]
    rw [evo_8]; exact ⟨rfl, rfl, rfl⟩
  | cons x rest =>
    have hlt : (done.length : Int) < (e.args.length : Int) := by simp at hlen2; omega
    have hget : (e.args.map Ex.enc)[done.length]? = some x.enc := by simp [hl']
    have hxs : x.size ≤ n := by have := hsz; rw [hl', Ex.sizes_app] at this; simp [Ex.sizes] at this; omega
    simp only [go_sem, Nat.reduceEqDiff, Nat.reduceAdd, Nat.reduceSub, Nat.reduceLeDiff, Nat.reduceLT, Nat.reduceMul, Nat.reduceBEq, Int.reduceEq, Int.reduceLT, Int.reduceLE, Int.reduceNeg, Int.reduceToNat, reduceCtorEq, ho, Try.results39, h6, hs1, hs2, hs4, hb2, hb4, hlt, hget, List.length_map, Int.natCast_nonneg, Int.toNat_natCast]
    refine GCall.fr ?_ (IH x hxs) (.inl rfl) ?_; (focus (first | rfl | ((simp only [go_sem, Nat.reduceEqDiff, Nat.reduceAdd, Nat.reduceSub, Nat.reduceLeDiff, Nat.reduceLT, Nat.reduceMul, Nat.reduceBEq, Int.reduceEq, Int.reduceLT, Int.reduceLE, Int.reduceNeg, Int.reduceToNat, reduceCtorEq, ho, Try.results39, x.enc_eq, hs1]); done) | ((simp only [go_sem, Nat.reduceEqDiff, Nat.reduceAdd, Nat.reduceSub, Nat.reduceLeDiff, Nat.reduceLT, Nat.reduceMul, Nat.reduceBEq, Int.reduceEq, Int.reduceLT, Int.reduceLE, Int.reduceNeg, Int.reduceToNat, reduceCtorEq, ho, Try.results39, x.enc_eq, hs1]); rfl)))
    simp only [go_sem, Nat.reduceEqDiff, Nat.reduceAdd, Nat.reduceSub, Nat.reduceLeDiff, Nat.reduceLT, Nat.reduceMul, Nat.reduceBEq, Int.reduceEq, Int.reduceLT, Int.reduceLE, Int.reduceNeg, Int.reduceToNat, reduceCtorEq, ho, Try.results39, h6, hs1, hs2, hs4, hb2, hb4]
    have hbig : (done.length + 1) * 33 ≤ 140737488355328 := by omega
    have hb2' := hb2
    rw [e.enc_cells] at hb2'
    rcases h5 with ⟨rfl, h5⟩ | ⟨hne, v, h5, h28⟩
    · simp only [go_sem, Nat.reduceEqDiff, Nat.reduceAdd, Nat.reduceSub, Nat.reduceLeDiff, Nat.reduceLT, Nat.reduceMul, Nat.reduceBEq, Int.reduceEq, Int.reduceLT, Int.reduceLE, Int.reduceNeg, Int.reduceToNat, reduceCtorEq, ho, Try.results39, h6, hs1, hs2, hs4, hb2', hb4, h5, hw, Vl.enc]
      exact ⟨rest.length, by simp at hm'; omega, [x], rest, by simpa using hl', rfl, rfl, .inr ⟨by simp, _, rfl, by simp [Vl.enc]⟩⟩
    · simp only [go_sem, Nat.reduceEqDiff, Nat.reduceAdd, Nat.reduceSub, Nat.reduceLeDiff, Nat.reduceLT, Nat.reduceMul, Nat.reduceBEq, Int.reduceEq, Int.reduceLT, Int.reduceLE, Int.reduceNeg, Int.reduceToNat, reduceCtorEq, ho, Try.results39, h6, hs1, hs2, hs4, hb2', hb4, h5, h28, hw, hbig, List.length_map, Vl.enc]
      exact ⟨rest.length, by simp at hm'; omega, done ++ [x], rest, by simp [hl'], rfl, by simp, .inr ⟨by simp, _, rfl, by simp [Vl.enc]⟩⟩
theorem revalc_9 (row : List Vl) (n : Nat) (hn : n + 1 ≤ 100000000) (IH : ∀ x : Ex, x.size ≤ n → Fc 39 [x.enc, .sl (row.map Vl.enc)] (x.eval row).enc) (e : Ex) (h : e.size ≤ n + 1) (hf : e.formed = true) (hop : e.op = 9) : Fc 39 [e.enc, .sl (row.map Vl.enc)] (e.eval row).enc := by
  obtain ⟨l, hleq⟩ : ∃ l, l = e.args.map (Ex.eval row) := ⟨_, rfl⟩
  have hev : e.eval row = evalOp row 9 e.int e.val l := by rw [Ex.eval_eq, hf, hop, hleq]; rfl
  have hsz := e.size_eq
  have hlen := Ex.len_sizes e.args
  have hfit := formed_len hf
  rw [hop] at hfit
  refine fn_of_awp (E := E0) (M := M0) follows Try.func39 rfl (by decide) ok39 (by decide) (by simp) fun o ho => ?_
  rw [hev]
  clear hev
  simp only [go_sem, Nat.reduceEqDiff, Nat.reduceAdd, Nat.reduceSub, Nat.reduceLeDiff, Nat.reduceLT, Nat.reduceMul, Nat.reduceBEq, Int.reduceEq, Int.reduceLT, Int.reduceLE, Int.reduceNeg, Int.reduceToNat, reduceCtorEq, ho, Try.results39, e.enc_eq]
  refine GCall.fr ?_ (rformed_fn e (by omega)) (.inl rfl) ?_; (focus (first | rfl | ((simp only [go_sem, Nat.reduceEqDiff, Nat.reduceAdd, Nat.reduceSub, Nat.reduceLeDiff, Nat.reduceLT, Nat.reduceMul, Nat.reduceBEq, Int.reduceEq, Int.reduceLT, Int.reduceLE, Int.reduceNeg, Int.reduceToNat, reduceCtorEq, ho, Try.results39, e.enc_eq]); done) | ((simp only [go_sem, Nat.reduceEqDiff, Nat.reduceAdd, Nat.reduceSub, Nat.reduceLeDiff, Nat.reduceLT, Nat.reduceMul, Nat.reduceBEq, Int.reduceEq, Int.reduceLT, Int.reduceLE, Int.reduceNeg, Int.reduceToNat, reduceCtorEq, ho, Try.results39, e.enc_eq]); rfl)))
  simp only [go_sem, Nat.reduceEqDiff, Nat.reduceAdd, Nat.reduceSub, Nat.reduceLeDiff, Nat.reduceLT, Nat.reduceMul, Nat.reduceBEq, Int.reduceEq, Int.reduceLT, Int.reduceLE, Int.reduceNeg, Int.reduceToNat, reduceCtorEq, ho, Try.results39, hf]
  have hl100 : e.args.length ≤ 100000000 := by omega
  have hllen : l.length = e.args.length := by rw [hleq]; simp
  have hpos := fits_pos (op := 9) (l := l) (by rw [hllen]; exact hfit) (by decide) (by decide)
  refine ⟨fun m st => ∃ (done rest : List Ex), e.args = done ++ rest ∧ rest.length = m ∧ st.s 6 = .int .i64 done.length ∧ st.s 1 = .sl (row.map Vl.enc) ∧ st.s 2 = .ptr 2 1 0 ∧ st.s 4 = .ptr 4 1 0 ∧ getBox st.o 2 1 = some (49, e.enc.cells) ∧ st.o 4 = (1, some (true, .box 42 [.int .i64 0, .int .i64 0, .str ⟨#[]⟩])) ∧ ((done = [] ∧ st.s 5 = .nil) ∨ (done ≠ [] ∧ ∃ v, st.s 5 = .ref 28 v ∧ st.o 28 = (v, some (true, .row 42 (done.map fun x => (x.eval row).enc))))), e.args.length,
    ⟨[], e.args, rfl, rfl, by simp only [go_sem, Nat.reduceEqDiff, Nat.reduceAdd, Nat.reduceSub, Nat.reduceLeDiff, Nat.reduceLT, Nat.reduceMul, Nat.reduceBEq, Int.reduceEq, Int.reduceLT, Int.reduceLE, Int.reduceNeg, Int.reduceToNat, reduceCtorEq, ho, Try.results39]; rfl, by simp only [go_sem, Nat.reduceEqDiff, Nat.reduceAdd, Nat.reduceSub, Nat.reduceLeDiff, Nat.reduceLT, Nat.reduceMul, Nat.reduceBEq, Int.reduceEq, Int.reduceLT, Int.reduceLE, Int.reduceNeg, Int.reduceToNat, reduceCtorEq, ho, Try.results39], by simp only [go_sem, Nat.reduceEqDiff, Nat.reduceAdd, Nat.reduceSub, Nat.reduceLeDiff, Nat.reduceLT, Nat.reduceMul, Nat.reduceBEq, Int.reduceEq, Int.reduceLT, Int.reduceLE, Int.reduceNeg, Int.reduceToNat, reduceCtorEq, ho, Try.results39], by simp only [go_sem, Nat.reduceEqDiff, Nat.reduceAdd, Nat.reduceSub, Nat.reduceLeDiff, Nat.reduceLT, Nat.reduceMul, Nat.reduceBEq, Int.reduceEq, Int.reduceLT, Int.reduceLE, Int.reduceNeg, Int.reduceToNat, reduceCtorEq, ho, Try.results39], by simp only [go_sem, Nat.reduceEqDiff, Nat.reduceAdd, Nat.reduceSub, Nat.reduceLeDiff, Nat.reduceLT, Nat.reduceMul, Nat.reduceBEq, Int.reduceEq, Int.reduceLT, Int.reduceLE, Int.reduceNeg, Int.reduceToNat, reduceCtorEq, ho, Try.results39], by simp only [go_sem, Nat.reduceEqDiff, Nat.reduceAdd, Nat.reduceSub, Nat.reduceLeDiff, Nat.reduceLT, Nat.reduceMul, Nat.reduceBEq, Int.reduceEq, Int.reduceLT, Int.reduceLE, Int.reduceNeg, Int.reduceToNat, reduceCtorEq, ho, Try.results39], .inl ⟨rfl, by simp only [go_sem, Nat.reduceEqDiff, Nat.reduceAdd, Nat.reduceSub, Nat.reduceLeDiff, Nat.reduceLT, Nat.reduceMul, Nat.reduceBEq, Int.reduceEq, Int.reduceLT, Int.reduceLE, Int.reduceNeg, Int.reduceToNat, reduceCtorEq, ho, Try.results39]⟩⟩, ?_⟩
  rintro m st ⟨done, rest, hl', hm', h6, hs1, hs2, hs4, hb2, hb4, h5⟩
  have hlen2 : done.length + rest.length = e.args.length := by rw [hl']; simp
  have hw : IntKind.i64.wrap ((done.length : Int) + 1) = (done.length : Int) + 1 := wrap_fits (by omega) (by omega)
  cases rest with
  | nil =>
    have hlt : ¬ (done.length : Int) < (e.args.length : Int) := by simp at hlen2; omega
    obtain hdone : e.args = done := by simpa using hl'
    rcases h5 with ⟨hd0, _⟩ | ⟨hne, v, h5, h28⟩
    case inl =>
      have h00 : e.args.length = 0 := by rw [hdone, hd0]; rfl
      omega
    have hrw : (done.map fun x => (x.eval row).enc) = l.map Vl.enc := by rw [hleq, hdone]; simp
    rw [hrw] at h28
    have hrow : getRow st.o 28 v = some (42, l.map Vl.enc) := by simp [getRow, h28]
    have hvv : ∀ v ∈ l, v.valid = true := fun v hv => by rw [hleq] at hv; obtain ⟨x, _, rfl⟩ := List.mem_map.1 hv; exact Ex.eval_valid row x
    have hg0 := nth_get hpos
    have hl0 : (0 : Int) < (l.length : Int) := by omega
    clear hleq hrw
    simp only [go_sem, Nat.reduceEqDiff, Nat.reduceAdd, Nat.reduceSub, Nat.reduceLeDiff, Nat.reduceLT, Nat.reduceMul, Nat.reduceBEq, Int.reduceEq, Int.reduceLT, Int.reduceLE, Int.reduceNeg, Int.reduceToNat, reduceCtorEq, ho, Try.results39, h6, hlt, hs2, hb2, List.length_map]
    have h4 : l.length = 2 := by
      have : (e.args.length : Int) = 2 := by simpa [fitsN] using hfit
      omega
    have hg1 := nth_get (show 1 < l.length by omega)
    have hl1 : (1 : Int) < (l.length : Int) := by omega
    simp only [go_sem, Nat.reduceEqDiff, Nat.reduceAdd, Nat.reduceSub, Nat.reduceLeDiff, Nat.reduceLT, Nat.reduceMul, Nat.reduceBEq, Int.reduceEq, Int.reduceLT, Int.reduceLE, Int.reduceNeg, Int.reduceToNat, reduceCtorEq, ho, Try.results39, hop, h5, hs1, hs2, hs4, hb2, hb4, hrow, hg0, hl0, hg1, hl1, Vl.enc]
    refine QCall.fr ?_ (rcompared_fn 9 (nth l 0) (nth l 1)) (.inl rfl) ?_; (focus (first | rfl | ((simp only [go_sem, Nat.reduceEqDiff, Nat.reduceAdd, Nat.reduceSub, Nat.reduceLeDiff, Nat.reduceLT, Nat.reduceMul, Nat.reduceBEq, Int.reduceEq, Int.reduceLT, Int.reduceLE, Int.reduceNeg, Int.reduceToNat, reduceCtorEq, ho, Try.results39, Vl.enc]); done) | ((simp only [go_sem, Nat.reduceEqDiff, Nat.reduceAdd, Nat.reduceSub, Nat.reduceLeDiff, Nat.reduceLT, Nat.reduceMul, Nat.reduceBEq, Int.reduceEq, Int.reduceLT, Int.reduceLE, Int.reduceNeg, Int.reduceToNat, reduceCtorEq, ho, Try.results39, Vl.enc]); rfl)))
    simp only [go_sem, Nat.reduceEqDiff, Nat.reduceAdd, Nat.reduceSub, Nat.reduceLeDiff, Nat.reduceLT, Nat.reduceMul, Nat.reduceBEq, Int.reduceEq, Int.reduceLT, Int.reduceLE, Int.reduceNeg, Int.reduceToNat, reduceCtorEq, ho, Try.results39]
    refine QCall.fr ?_ (rof_fn (Vl.compared 9 (nth l 0) (nth l 1))) (.inl rfl) ?_; (focus (first | rfl | ((simp only [go_sem, Nat.reduceEqDiff, Nat.reduceAdd, Nat.reduceSub, Nat.reduceLeDiff, Nat.reduceLT, Nat.reduceMul, Nat.reduceBEq, Int.reduceEq, Int.reduceLT, Int.reduceLE, Int.reduceNeg, Int.reduceToNat, reduceCtorEq, ho, Try.results39]); done) | ((simp only [go_sem, Nat.reduceEqDiff, Nat.reduceAdd, Nat.reduceSub, Nat.reduceLeDiff, Nat.reduceLT, Nat.reduceMul, Nat.reduceBEq, Int.reduceEq, Int.reduceLT, Int.reduceLE, Int.reduceNeg, Int.reduceToNat, reduceCtorEq, ho, Try.results39]); rfl)))
    simp only [go_sem, Nat.reduceEqDiff, Nat.reduceAdd, Nat.reduceSub, Nat.reduceLeDiff, Nat.reduceLT, Nat.reduceMul, Nat.reduceBEq, Int.reduceEq, Int.reduceLT, Int.reduceLE, Int.reduceNeg, Int.reduceToNat, reduceCtorEq, ho, Try.results39, Vl.enc, h5, hs1, hs2, hs4, hb2, hb4]
    rw [evo_9]; exact ⟨rfl, rfl, rfl⟩
  | cons x rest =>
    have hlt : (done.length : Int) < (e.args.length : Int) := by simp at hlen2; omega
    have hget : (e.args.map Ex.enc)[done.length]? = some x.enc := by simp [hl']
    have hxs : x.size ≤ n := by have := hsz; rw [hl', Ex.sizes_app] at this; simp [Ex.sizes] at this; omega
    simp only [go_sem, Nat.reduceEqDiff, Nat.reduceAdd, Nat.reduceSub, Nat.reduceLeDiff, Nat.reduceLT, Nat.reduceMul, Nat.reduceBEq, Int.reduceEq, Int.reduceLT, Int.reduceLE, Int.reduceNeg, Int.reduceToNat, reduceCtorEq, ho, Try.results39, h6, hs1, hs2, hs4, hb2, hb4, hlt, hget, List.length_map, Int.natCast_nonneg, Int.toNat_natCast]
    refine GCall.fr ?_ (IH x hxs) (.inl rfl) ?_; (focus (first | rfl | ((simp only [go_sem, Nat.reduceEqDiff, Nat.reduceAdd, Nat.reduceSub, Nat.reduceLeDiff, Nat.reduceLT, Nat.reduceMul, Nat.reduceBEq, Int.reduceEq, Int.reduceLT, Int.reduceLE, Int.reduceNeg, Int.reduceToNat, reduceCtorEq, ho, Try.results39, x.enc_eq, hs1]); done) | ((simp only [go_sem, Nat.reduceEqDiff, Nat.reduceAdd, Nat.reduceSub, Nat.reduceLeDiff, Nat.reduceLT, Nat.reduceMul, Nat.reduceBEq, Int.reduceEq, Int.reduceLT, Int.reduceLE, Int.reduceNeg, Int.reduceToNat, reduceCtorEq, ho, Try.results39, x.enc_eq, hs1]); rfl)))
    simp only [go_sem, Nat.reduceEqDiff, Nat.reduceAdd, Nat.reduceSub, Nat.reduceLeDiff, Nat.reduceLT, Nat.reduceMul, Nat.reduceBEq, Int.reduceEq, Int.reduceLT, Int.reduceLE, Int.reduceNeg, Int.reduceToNat, reduceCtorEq, ho, Try.results39, h6, hs1, hs2, hs4, hb2, hb4]
    have hbig : (done.length + 1) * 33 ≤ 140737488355328 := by omega
    have hb2' := hb2
    rw [e.enc_cells] at hb2'
    rcases h5 with ⟨rfl, h5⟩ | ⟨hne, v, h5, h28⟩
    · simp only [go_sem, Nat.reduceEqDiff, Nat.reduceAdd, Nat.reduceSub, Nat.reduceLeDiff, Nat.reduceLT, Nat.reduceMul, Nat.reduceBEq, Int.reduceEq, Int.reduceLT, Int.reduceLE, Int.reduceNeg, Int.reduceToNat, reduceCtorEq, ho, Try.results39, h6, hs1, hs2, hs4, hb2', hb4, h5, hw, Vl.enc]
      exact ⟨rest.length, by simp at hm'; omega, [x], rest, by simpa using hl', rfl, rfl, .inr ⟨by simp, _, rfl, by simp [Vl.enc]⟩⟩
    · simp only [go_sem, Nat.reduceEqDiff, Nat.reduceAdd, Nat.reduceSub, Nat.reduceLeDiff, Nat.reduceLT, Nat.reduceMul, Nat.reduceBEq, Int.reduceEq, Int.reduceLT, Int.reduceLE, Int.reduceNeg, Int.reduceToNat, reduceCtorEq, ho, Try.results39, h6, hs1, hs2, hs4, hb2', hb4, h5, h28, hw, hbig, List.length_map, Vl.enc]
      exact ⟨rest.length, by simp at hm'; omega, done ++ [x], rest, by simp [hl'], rfl, by simp, .inr ⟨by simp, _, rfl, by simp [Vl.enc]⟩⟩
theorem revalc_10 (row : List Vl) (n : Nat) (hn : n + 1 ≤ 100000000) (IH : ∀ x : Ex, x.size ≤ n → Fc 39 [x.enc, .sl (row.map Vl.enc)] (x.eval row).enc) (e : Ex) (h : e.size ≤ n + 1) (hf : e.formed = true) (hop : e.op = 10) : Fc 39 [e.enc, .sl (row.map Vl.enc)] (e.eval row).enc := by
  obtain ⟨l, hleq⟩ : ∃ l, l = e.args.map (Ex.eval row) := ⟨_, rfl⟩
  have hev : e.eval row = evalOp row 10 e.int e.val l := by rw [Ex.eval_eq, hf, hop, hleq]; rfl
  have hsz := e.size_eq
  have hlen := Ex.len_sizes e.args
  have hfit := formed_len hf
  rw [hop] at hfit
  refine fn_of_awp (E := E0) (M := M0) follows Try.func39 rfl (by decide) ok39 (by decide) (by simp) fun o ho => ?_
  rw [hev]
  clear hev
  simp only [go_sem, Nat.reduceEqDiff, Nat.reduceAdd, Nat.reduceSub, Nat.reduceLeDiff, Nat.reduceLT, Nat.reduceMul, Nat.reduceBEq, Int.reduceEq, Int.reduceLT, Int.reduceLE, Int.reduceNeg, Int.reduceToNat, reduceCtorEq, ho, Try.results39, e.enc_eq]
  refine GCall.fr ?_ (rformed_fn e (by omega)) (.inl rfl) ?_; (focus (first | rfl | ((simp only [go_sem, Nat.reduceEqDiff, Nat.reduceAdd, Nat.reduceSub, Nat.reduceLeDiff, Nat.reduceLT, Nat.reduceMul, Nat.reduceBEq, Int.reduceEq, Int.reduceLT, Int.reduceLE, Int.reduceNeg, Int.reduceToNat, reduceCtorEq, ho, Try.results39, e.enc_eq]); done) | ((simp only [go_sem, Nat.reduceEqDiff, Nat.reduceAdd, Nat.reduceSub, Nat.reduceLeDiff, Nat.reduceLT, Nat.reduceMul, Nat.reduceBEq, Int.reduceEq, Int.reduceLT, Int.reduceLE, Int.reduceNeg, Int.reduceToNat, reduceCtorEq, ho, Try.results39, e.enc_eq]); rfl)))
  simp only [go_sem, Nat.reduceEqDiff, Nat.reduceAdd, Nat.reduceSub, Nat.reduceLeDiff, Nat.reduceLT, Nat.reduceMul, Nat.reduceBEq, Int.reduceEq, Int.reduceLT, Int.reduceLE, Int.reduceNeg, Int.reduceToNat, reduceCtorEq, ho, Try.results39, hf]
  have hl100 : e.args.length ≤ 100000000 := by omega
  have hllen : l.length = e.args.length := by rw [hleq]; simp
  have hpos := fits_pos (op := 10) (l := l) (by rw [hllen]; exact hfit) (by decide) (by decide)
  refine ⟨fun m st => ∃ (done rest : List Ex), e.args = done ++ rest ∧ rest.length = m ∧ st.s 6 = .int .i64 done.length ∧ st.s 1 = .sl (row.map Vl.enc) ∧ st.s 2 = .ptr 2 1 0 ∧ st.s 4 = .ptr 4 1 0 ∧ getBox st.o 2 1 = some (49, e.enc.cells) ∧ st.o 4 = (1, some (true, .box 42 [.int .i64 0, .int .i64 0, .str ⟨#[]⟩])) ∧ ((done = [] ∧ st.s 5 = .nil) ∨ (done ≠ [] ∧ ∃ v, st.s 5 = .ref 28 v ∧ st.o 28 = (v, some (true, .row 42 (done.map fun x => (x.eval row).enc))))), e.args.length,
    ⟨[], e.args, rfl, rfl, by simp only [go_sem, Nat.reduceEqDiff, Nat.reduceAdd, Nat.reduceSub, Nat.reduceLeDiff, Nat.reduceLT, Nat.reduceMul, Nat.reduceBEq, Int.reduceEq, Int.reduceLT, Int.reduceLE, Int.reduceNeg, Int.reduceToNat, reduceCtorEq, ho, Try.results39]; rfl, by simp only [go_sem, Nat.reduceEqDiff, Nat.reduceAdd, Nat.reduceSub, Nat.reduceLeDiff, Nat.reduceLT, Nat.reduceMul, Nat.reduceBEq, Int.reduceEq, Int.reduceLT, Int.reduceLE, Int.reduceNeg, Int.reduceToNat, reduceCtorEq, ho, Try.results39], by simp only [go_sem, Nat.reduceEqDiff, Nat.reduceAdd, Nat.reduceSub, Nat.reduceLeDiff, Nat.reduceLT, Nat.reduceMul, Nat.reduceBEq, Int.reduceEq, Int.reduceLT, Int.reduceLE, Int.reduceNeg, Int.reduceToNat, reduceCtorEq, ho, Try.results39], by simp only [go_sem, Nat.reduceEqDiff, Nat.reduceAdd, Nat.reduceSub, Nat.reduceLeDiff, Nat.reduceLT, Nat.reduceMul, Nat.reduceBEq, Int.reduceEq, Int.reduceLT, Int.reduceLE, Int.reduceNeg, Int.reduceToNat, reduceCtorEq, ho, Try.results39], by simp only [go_sem, Nat.reduceEqDiff, Nat.reduceAdd, Nat.reduceSub, Nat.reduceLeDiff, Nat.reduceLT, Nat.reduceMul, Nat.reduceBEq, Int.reduceEq, Int.reduceLT, Int.reduceLE, Int.reduceNeg, Int.reduceToNat, reduceCtorEq, ho, Try.results39], by simp only [go_sem, Nat.reduceEqDiff, Nat.reduceAdd, Nat.reduceSub, Nat.reduceLeDiff, Nat.reduceLT, Nat.reduceMul, Nat.reduceBEq, Int.reduceEq, Int.reduceLT, Int.reduceLE, Int.reduceNeg, Int.reduceToNat, reduceCtorEq, ho, Try.results39], .inl ⟨rfl, by simp only [go_sem, Nat.reduceEqDiff, Nat.reduceAdd, Nat.reduceSub, Nat.reduceLeDiff, Nat.reduceLT, Nat.reduceMul, Nat.reduceBEq, Int.reduceEq, Int.reduceLT, Int.reduceLE, Int.reduceNeg, Int.reduceToNat, reduceCtorEq, ho, Try.results39]⟩⟩, ?_⟩
  rintro m st ⟨done, rest, hl', hm', h6, hs1, hs2, hs4, hb2, hb4, h5⟩
  have hlen2 : done.length + rest.length = e.args.length := by rw [hl']; simp
  have hw : IntKind.i64.wrap ((done.length : Int) + 1) = (done.length : Int) + 1 := wrap_fits (by omega) (by omega)
  cases rest with
  | nil =>
    have hlt : ¬ (done.length : Int) < (e.args.length : Int) := by simp at hlen2; omega
    obtain hdone : e.args = done := by simpa using hl'
    rcases h5 with ⟨hd0, _⟩ | ⟨hne, v, h5, h28⟩
    case inl =>
      have h00 : e.args.length = 0 := by rw [hdone, hd0]; rfl
      omega
    have hrw : (done.map fun x => (x.eval row).enc) = l.map Vl.enc := by rw [hleq, hdone]; simp
    rw [hrw] at h28
    have hrow : getRow st.o 28 v = some (42, l.map Vl.enc) := by simp [getRow, h28]
    have hvv : ∀ v ∈ l, v.valid = true := fun v hv => by rw [hleq] at hv; obtain ⟨x, _, rfl⟩ := List.mem_map.1 hv; exact Ex.eval_valid row x
    have hg0 := nth_get hpos
    have hl0 : (0 : Int) < (l.length : Int) := by omega
    clear hleq hrw
    simp only [go_sem, Nat.reduceEqDiff, Nat.reduceAdd, Nat.reduceSub, Nat.reduceLeDiff, Nat.reduceLT, Nat.reduceMul, Nat.reduceBEq, Int.reduceEq, Int.reduceLT, Int.reduceLE, Int.reduceNeg, Int.reduceToNat, reduceCtorEq, ho, Try.results39, h6, hlt, hs2, hb2, List.length_map]
    have h4 : l.length = 2 := by
      have : (e.args.length : Int) = 2 := by simpa [fitsN] using hfit
      omega
    have hg1 := nth_get (show 1 < l.length by omega)
    have hl1 : (1 : Int) < (l.length : Int) := by omega
    simp only [go_sem, Nat.reduceEqDiff, Nat.reduceAdd, Nat.reduceSub, Nat.reduceLeDiff, Nat.reduceLT, Nat.reduceMul, Nat.reduceBEq, Int.reduceEq, Int.reduceLT, Int.reduceLE, Int.reduceNeg, Int.reduceToNat, reduceCtorEq, ho, Try.results39, hop, h5, hs1, hs2, hs4, hb2, hb4, hrow, hg0, hl0, hg1, hl1, Vl.enc]
    refine QCall.fr ?_ (rcompared_fn 10 (nth l 0) (nth l 1)) (.inl rfl) ?_; (focus (first | rfl | ((simp only [go_sem, Nat.reduceEqDiff, Nat.reduceAdd, Nat.reduceSub, Nat.reduceLeDiff, Nat.reduceLT, Nat.reduceMul, Nat.reduceBEq, Int.reduceEq, Int.reduceLT, Int.reduceLE, Int.reduceNeg, Int.reduceToNat, reduceCtorEq, ho, Try.results39, Vl.enc]); done) | ((simp only [go_sem, Nat.reduceEqDiff, Nat.reduceAdd, Nat.reduceSub, Nat.reduceLeDiff, Nat.reduceLT, Nat.reduceMul, Nat.reduceBEq, Int.reduceEq, Int.reduceLT, Int.reduceLE, Int.reduceNeg, Int.reduceToNat, reduceCtorEq, ho, Try.results39, Vl.enc]); rfl)))
    simp only [go_sem, Nat.reduceEqDiff, Nat.reduceAdd, Nat.reduceSub, Nat.reduceLeDiff, Nat.reduceLT, Nat.reduceMul, Nat.reduceBEq, Int.reduceEq, Int.reduceLT, Int.reduceLE, Int.reduceNeg, Int.reduceToNat, reduceCtorEq, ho, Try.results39]
    refine QCall.fr ?_ (rof_fn (Vl.compared 10 (nth l 0) (nth l 1))) (.inl rfl) ?_; (focus (first | rfl | ((simp only [go_sem, Nat.reduceEqDiff, Nat.reduceAdd, Nat.reduceSub, Nat.reduceLeDiff, Nat.reduceLT, Nat.reduceMul, Nat.reduceBEq, Int.reduceEq, Int.reduceLT, Int.reduceLE, Int.reduceNeg, Int.reduceToNat, reduceCtorEq, ho, Try.results39]); done) | ((simp only [go_sem, Nat.reduceEqDiff, Nat.reduceAdd, Nat.reduceSub, Nat.reduceLeDiff, Nat.reduceLT, Nat.reduceMul, Nat.reduceBEq, Int.reduceEq, Int.reduceLT, Int.reduceLE, Int.reduceNeg, Int.reduceToNat, reduceCtorEq, ho, Try.results39]); rfl)))
    simp only [go_sem, Nat.reduceEqDiff, Nat.reduceAdd, Nat.reduceSub, Nat.reduceLeDiff, Nat.reduceLT, Nat.reduceMul, Nat.reduceBEq, Int.reduceEq, Int.reduceLT, Int.reduceLE, Int.reduceNeg, Int.reduceToNat, reduceCtorEq, ho, Try.results39, Vl.enc, h5, hs1, hs2, hs4, hb2, hb4]
    rw [evo_10]; exact ⟨rfl, rfl, rfl⟩
  | cons x rest =>
    have hlt : (done.length : Int) < (e.args.length : Int) := by simp at hlen2; omega
    have hget : (e.args.map Ex.enc)[done.length]? = some x.enc := by simp [hl']
    have hxs : x.size ≤ n := by have := hsz; rw [hl', Ex.sizes_app] at this; simp [Ex.sizes] at this; omega
    simp only [go_sem, Nat.reduceEqDiff, Nat.reduceAdd, Nat.reduceSub, Nat.reduceLeDiff, Nat.reduceLT, Nat.reduceMul, Nat.reduceBEq, Int.reduceEq, Int.reduceLT, Int.reduceLE, Int.reduceNeg, Int.reduceToNat, reduceCtorEq, ho, Try.results39, h6, hs1, hs2, hs4, hb2, hb4, hlt, hget, List.length_map, Int.natCast_nonneg, Int.toNat_natCast]
    refine GCall.fr ?_ (IH x hxs) (.inl rfl) ?_; (focus (first | rfl | ((simp only [go_sem, Nat.reduceEqDiff, Nat.reduceAdd, Nat.reduceSub, Nat.reduceLeDiff, Nat.reduceLT, Nat.reduceMul, Nat.reduceBEq, Int.reduceEq, Int.reduceLT, Int.reduceLE, Int.reduceNeg, Int.reduceToNat, reduceCtorEq, ho, Try.results39, x.enc_eq, hs1]); done) | ((simp only [go_sem, Nat.reduceEqDiff, Nat.reduceAdd, Nat.reduceSub, Nat.reduceLeDiff, Nat.reduceLT, Nat.reduceMul, Nat.reduceBEq, Int.reduceEq, Int.reduceLT, Int.reduceLE, Int.reduceNeg, Int.reduceToNat, reduceCtorEq, ho, Try.results39, x.enc_eq, hs1]); rfl)))
    simp only [go_sem, Nat.reduceEqDiff, Nat.reduceAdd, Nat.reduceSub, Nat.reduceLeDiff, Nat.reduceLT, Nat.reduceMul, Nat.reduceBEq, Int.reduceEq, Int.reduceLT, Int.reduceLE, Int.reduceNeg, Int.reduceToNat, reduceCtorEq, ho, Try.results39, h6, hs1, hs2, hs4, hb2, hb4]
    have hbig : (done.length + 1) * 33 ≤ 140737488355328 := by omega
    have hb2' := hb2
    rw [e.enc_cells] at hb2'
    rcases h5 with ⟨rfl, h5⟩ | ⟨hne, v, h5, h28⟩
    · simp only [go_sem, Nat.reduceEqDiff, Nat.reduceAdd, Nat.reduceSub, Nat.reduceLeDiff, Nat.reduceLT, Nat.reduceMul, Nat.reduceBEq, Int.reduceEq, Int.reduceLT, Int.reduceLE, Int.reduceNeg, Int.reduceToNat, reduceCtorEq, ho, Try.results39, h6, hs1, hs2, hs4, hb2', hb4, h5, hw, Vl.enc]
      exact ⟨rest.length, by simp at hm'; omega, [x], rest, by simpa using hl', rfl, rfl, .inr ⟨by simp, _, rfl, by simp [Vl.enc]⟩⟩
    · simp only [go_sem, Nat.reduceEqDiff, Nat.reduceAdd, Nat.reduceSub, Nat.reduceLeDiff, Nat.reduceLT, Nat.reduceMul, Nat.reduceBEq, Int.reduceEq, Int.reduceLT, Int.reduceLE, Int.reduceNeg, Int.reduceToNat, reduceCtorEq, ho, Try.results39, h6, hs1, hs2, hs4, hb2', hb4, h5, h28, hw, hbig, List.length_map, Vl.enc]
      exact ⟨rest.length, by simp at hm'; omega, done ++ [x], rest, by simp [hl'], rfl, by simp, .inr ⟨by simp, _, rfl, by simp [Vl.enc]⟩⟩
theorem revalc_11 (row : List Vl) (n : Nat) (hn : n + 1 ≤ 100000000) (IH : ∀ x : Ex, x.size ≤ n → Fc 39 [x.enc, .sl (row.map Vl.enc)] (x.eval row).enc) (e : Ex) (h : e.size ≤ n + 1) (hf : e.formed = true) (hop : e.op = 11) : Fc 39 [e.enc, .sl (row.map Vl.enc)] (e.eval row).enc := by
  obtain ⟨l, hleq⟩ : ∃ l, l = e.args.map (Ex.eval row) := ⟨_, rfl⟩
  have hev : e.eval row = evalOp row 11 e.int e.val l := by rw [Ex.eval_eq, hf, hop, hleq]; rfl
  have hsz := e.size_eq
  have hlen := Ex.len_sizes e.args
  have hfit := formed_len hf
  rw [hop] at hfit
  refine fn_of_awp (E := E0) (M := M0) follows Try.func39 rfl (by decide) ok39 (by decide) (by simp) fun o ho => ?_
  rw [hev]
  clear hev
  simp only [go_sem, Nat.reduceEqDiff, Nat.reduceAdd, Nat.reduceSub, Nat.reduceLeDiff, Nat.reduceLT, Nat.reduceMul, Nat.reduceBEq, Int.reduceEq, Int.reduceLT, Int.reduceLE, Int.reduceNeg, Int.reduceToNat, reduceCtorEq, ho, Try.results39, e.enc_eq]
  refine GCall.fr ?_ (rformed_fn e (by omega)) (.inl rfl) ?_; (focus (first | rfl | ((simp only [go_sem, Nat.reduceEqDiff, Nat.reduceAdd, Nat.reduceSub, Nat.reduceLeDiff, Nat.reduceLT, Nat.reduceMul, Nat.reduceBEq, Int.reduceEq, Int.reduceLT, Int.reduceLE, Int.reduceNeg, Int.reduceToNat, reduceCtorEq, ho, Try.results39, e.enc_eq]); done) | ((simp only [go_sem, Nat.reduceEqDiff, Nat.reduceAdd, Nat.reduceSub, Nat.reduceLeDiff, Nat.reduceLT, Nat.reduceMul, Nat.reduceBEq, Int.reduceEq, Int.reduceLT, Int.reduceLE, Int.reduceNeg, Int.reduceToNat, reduceCtorEq, ho, Try.results39, e.enc_eq]); rfl)))
  simp only [go_sem, Nat.reduceEqDiff, Nat.reduceAdd, Nat.reduceSub, Nat.reduceLeDiff, Nat.reduceLT, Nat.reduceMul, Nat.reduceBEq, Int.reduceEq, Int.reduceLT, Int.reduceLE, Int.reduceNeg, Int.reduceToNat, reduceCtorEq, ho, Try.results39, hf]
  have hl100 : e.args.length ≤ 100000000 := by omega
  have hllen : l.length = e.args.length := by rw [hleq]; simp
  have hpos := fits_pos (op := 11) (l := l) (by rw [hllen]; exact hfit) (by decide) (by decide)
  refine ⟨fun m st => ∃ (done rest : List Ex), e.args = done ++ rest ∧ rest.length = m ∧ st.s 6 = .int .i64 done.length ∧ st.s 1 = .sl (row.map Vl.enc) ∧ st.s 2 = .ptr 2 1 0 ∧ st.s 4 = .ptr 4 1 0 ∧ getBox st.o 2 1 = some (49, e.enc.cells) ∧ st.o 4 = (1, some (true, .box 42 [.int .i64 0, .int .i64 0, .str ⟨#[]⟩])) ∧ ((done = [] ∧ st.s 5 = .nil) ∨ (done ≠ [] ∧ ∃ v, st.s 5 = .ref 28 v ∧ st.o 28 = (v, some (true, .row 42 (done.map fun x => (x.eval row).enc))))), e.args.length,
    ⟨[], e.args, rfl, rfl, by simp only [go_sem, Nat.reduceEqDiff, Nat.reduceAdd, Nat.reduceSub, Nat.reduceLeDiff, Nat.reduceLT, Nat.reduceMul, Nat.reduceBEq, Int.reduceEq, Int.reduceLT, Int.reduceLE, Int.reduceNeg, Int.reduceToNat, reduceCtorEq, ho, Try.results39]; rfl, by simp only [go_sem, Nat.reduceEqDiff, Nat.reduceAdd, Nat.reduceSub, Nat.reduceLeDiff, Nat.reduceLT, Nat.reduceMul, Nat.reduceBEq, Int.reduceEq, Int.reduceLT, Int.reduceLE, Int.reduceNeg, Int.reduceToNat, reduceCtorEq, ho, Try.results39], by simp only [go_sem, Nat.reduceEqDiff, Nat.reduceAdd, Nat.reduceSub, Nat.reduceLeDiff, Nat.reduceLT, Nat.reduceMul, Nat.reduceBEq, Int.reduceEq, Int.reduceLT, Int.reduceLE, Int.reduceNeg, Int.reduceToNat, reduceCtorEq, ho, Try.results39], by simp only [go_sem, Nat.reduceEqDiff, Nat.reduceAdd, Nat.reduceSub, Nat.reduceLeDiff, Nat.reduceLT, Nat.reduceMul, Nat.reduceBEq, Int.reduceEq, Int.reduceLT, Int.reduceLE, Int.reduceNeg, Int.reduceToNat, reduceCtorEq, ho, Try.results39], by simp only [go_sem, Nat.reduceEqDiff, Nat.reduceAdd, Nat.reduceSub, Nat.reduceLeDiff, Nat.reduceLT, Nat.reduceMul, Nat.reduceBEq, Int.reduceEq, Int.reduceLT, Int.reduceLE, Int.reduceNeg, Int.reduceToNat, reduceCtorEq, ho, Try.results39], by simp only [go_sem, Nat.reduceEqDiff, Nat.reduceAdd, Nat.reduceSub, Nat.reduceLeDiff, Nat.reduceLT, Nat.reduceMul, Nat.reduceBEq, Int.reduceEq, Int.reduceLT, Int.reduceLE, Int.reduceNeg, Int.reduceToNat, reduceCtorEq, ho, Try.results39], .inl ⟨rfl, by simp only [go_sem, Nat.reduceEqDiff, Nat.reduceAdd, Nat.reduceSub, Nat.reduceLeDiff, Nat.reduceLT, Nat.reduceMul, Nat.reduceBEq, Int.reduceEq, Int.reduceLT, Int.reduceLE, Int.reduceNeg, Int.reduceToNat, reduceCtorEq, ho, Try.results39]⟩⟩, ?_⟩
  rintro m st ⟨done, rest, hl', hm', h6, hs1, hs2, hs4, hb2, hb4, h5⟩
  have hlen2 : done.length + rest.length = e.args.length := by rw [hl']; simp
  have hw : IntKind.i64.wrap ((done.length : Int) + 1) = (done.length : Int) + 1 := wrap_fits (by omega) (by omega)
  cases rest with
  | nil =>
    have hlt : ¬ (done.length : Int) < (e.args.length : Int) := by simp at hlen2; omega
    obtain hdone : e.args = done := by simpa using hl'
    rcases h5 with ⟨hd0, _⟩ | ⟨hne, v, h5, h28⟩
    case inl =>
      have h00 : e.args.length = 0 := by rw [hdone, hd0]; rfl
      omega
    have hrw : (done.map fun x => (x.eval row).enc) = l.map Vl.enc := by rw [hleq, hdone]; simp
    rw [hrw] at h28
    have hrow : getRow st.o 28 v = some (42, l.map Vl.enc) := by simp [getRow, h28]
    have hvv : ∀ v ∈ l, v.valid = true := fun v hv => by rw [hleq] at hv; obtain ⟨x, _, rfl⟩ := List.mem_map.1 hv; exact Ex.eval_valid row x
    have hg0 := nth_get hpos
    have hl0 : (0 : Int) < (l.length : Int) := by omega
    clear hleq hrw
    simp only [go_sem, Nat.reduceEqDiff, Nat.reduceAdd, Nat.reduceSub, Nat.reduceLeDiff, Nat.reduceLT, Nat.reduceMul, Nat.reduceBEq, Int.reduceEq, Int.reduceLT, Int.reduceLE, Int.reduceNeg, Int.reduceToNat, reduceCtorEq, ho, Try.results39, h6, hlt, hs2, hb2, List.length_map]
    have h4 : l.length = 2 := by
      have : (e.args.length : Int) = 2 := by simpa [fitsN] using hfit
      omega
    have hg1 := nth_get (show 1 < l.length by omega)
    have hl1 : (1 : Int) < (l.length : Int) := by omega
    simp only [go_sem, Nat.reduceEqDiff, Nat.reduceAdd, Nat.reduceSub, Nat.reduceLeDiff, Nat.reduceLT, Nat.reduceMul, Nat.reduceBEq, Int.reduceEq, Int.reduceLT, Int.reduceLE, Int.reduceNeg, Int.reduceToNat, reduceCtorEq, ho, Try.results39, hop, h5, hs1, hs2, hs4, hb2, hb4, hrow, hg0, hl0, hg1, hl1, Vl.enc]
    refine QCall.fr ?_ (rcompared_fn 11 (nth l 0) (nth l 1)) (.inl rfl) ?_; (focus (first | rfl | ((simp only [go_sem, Nat.reduceEqDiff, Nat.reduceAdd, Nat.reduceSub, Nat.reduceLeDiff, Nat.reduceLT, Nat.reduceMul, Nat.reduceBEq, Int.reduceEq, Int.reduceLT, Int.reduceLE, Int.reduceNeg, Int.reduceToNat, reduceCtorEq, ho, Try.results39, Vl.enc]); done) | ((simp only [go_sem, Nat.reduceEqDiff, Nat.reduceAdd, Nat.reduceSub, Nat.reduceLeDiff, Nat.reduceLT, Nat.reduceMul, Nat.reduceBEq, Int.reduceEq, Int.reduceLT, Int.reduceLE, Int.reduceNeg, Int.reduceToNat, reduceCtorEq, ho, Try.results39, Vl.enc]); rfl)))
    simp only [go_sem, Nat.reduceEqDiff, Nat.reduceAdd, Nat.reduceSub, Nat.reduceLeDiff, Nat.reduceLT, Nat.reduceMul, Nat.reduceBEq, Int.reduceEq, Int.reduceLT, Int.reduceLE, Int.reduceNeg, Int.reduceToNat, reduceCtorEq, ho, Try.results39]
    refine QCall.fr ?_ (rof_fn (Vl.compared 11 (nth l 0) (nth l 1))) (.inl rfl) ?_; (focus (first | rfl | ((simp only [go_sem, Nat.reduceEqDiff, Nat.reduceAdd, Nat.reduceSub, Nat.reduceLeDiff, Nat.reduceLT, Nat.reduceMul, Nat.reduceBEq, Int.reduceEq, Int.reduceLT, Int.reduceLE, Int.reduceNeg, Int.reduceToNat, reduceCtorEq, ho, Try.results39]); done) | ((simp only [go_sem, Nat.reduceEqDiff, Nat.reduceAdd, Nat.reduceSub, Nat.reduceLeDiff, Nat.reduceLT, Nat.reduceMul, Nat.reduceBEq, Int.reduceEq, Int.reduceLT, Int.reduceLE, Int.reduceNeg, Int.reduceToNat, reduceCtorEq, ho, Try.results39]); rfl)))
    simp only [go_sem, Nat.reduceEqDiff, Nat.reduceAdd, Nat.reduceSub, Nat.reduceLeDiff, Nat.reduceLT, Nat.reduceMul, Nat.reduceBEq, Int.reduceEq, Int.reduceLT, Int.reduceLE, Int.reduceNeg, Int.reduceToNat, reduceCtorEq, ho, Try.results39, Vl.enc, h5, hs1, hs2, hs4, hb2, hb4]
    rw [evo_11]; exact ⟨rfl, rfl, rfl⟩
  | cons x rest =>
    have hlt : (done.length : Int) < (e.args.length : Int) := by simp at hlen2; omega
    have hget : (e.args.map Ex.enc)[done.length]? = some x.enc := by simp [hl']
    have hxs : x.size ≤ n := by have := hsz; rw [hl', Ex.sizes_app] at this; simp [Ex.sizes] at this; omega
    simp only [go_sem, Nat.reduceEqDiff, Nat.reduceAdd, Nat.reduceSub, Nat.reduceLeDiff, Nat.reduceLT, Nat.reduceMul, Nat.reduceBEq, Int.reduceEq, Int.reduceLT, Int.reduceLE, Int.reduceNeg, Int.reduceToNat, reduceCtorEq, ho, Try.results39, h6, hs1, hs2, hs4, hb2, hb4, hlt, hget, List.length_map, Int.natCast_nonneg, Int.toNat_natCast]
    refine GCall.fr ?_ (IH x hxs) (.inl rfl) ?_; (focus (first | rfl | ((simp only [go_sem, Nat.reduceEqDiff, Nat.reduceAdd, Nat.reduceSub, Nat.reduceLeDiff, Nat.reduceLT, Nat.reduceMul, Nat.reduceBEq, Int.reduceEq, Int.reduceLT, Int.reduceLE, Int.reduceNeg, Int.reduceToNat, reduceCtorEq, ho, Try.results39, x.enc_eq, hs1]); done) | ((simp only [go_sem, Nat.reduceEqDiff, Nat.reduceAdd, Nat.reduceSub, Nat.reduceLeDiff, Nat.reduceLT, Nat.reduceMul, Nat.reduceBEq, Int.reduceEq, Int.reduceLT, Int.reduceLE, Int.reduceNeg, Int.reduceToNat, reduceCtorEq, ho, Try.results39, x.enc_eq, hs1]); rfl)))
    simp only [go_sem, Nat.reduceEqDiff, Nat.reduceAdd, Nat.reduceSub, Nat.reduceLeDiff, Nat.reduceLT, Nat.reduceMul, Nat.reduceBEq, Int.reduceEq, Int.reduceLT, Int.reduceLE, Int.reduceNeg, Int.reduceToNat, reduceCtorEq, ho, Try.results39, h6, hs1, hs2, hs4, hb2, hb4]
    have hbig : (done.length + 1) * 33 ≤ 140737488355328 := by omega
    have hb2' := hb2
    rw [e.enc_cells] at hb2'
    rcases h5 with ⟨rfl, h5⟩ | ⟨hne, v, h5, h28⟩
    · simp only [go_sem, Nat.reduceEqDiff, Nat.reduceAdd, Nat.reduceSub, Nat.reduceLeDiff, Nat.reduceLT, Nat.reduceMul, Nat.reduceBEq, Int.reduceEq, Int.reduceLT, Int.reduceLE, Int.reduceNeg, Int.reduceToNat, reduceCtorEq, ho, Try.results39, h6, hs1, hs2, hs4, hb2', hb4, h5, hw, Vl.enc]
      exact ⟨rest.length, by simp at hm'; omega, [x], rest, by simpa using hl', rfl, rfl, .inr ⟨by simp, _, rfl, by simp [Vl.enc]⟩⟩
    · simp only [go_sem, Nat.reduceEqDiff, Nat.reduceAdd, Nat.reduceSub, Nat.reduceLeDiff, Nat.reduceLT, Nat.reduceMul, Nat.reduceBEq, Int.reduceEq, Int.reduceLT, Int.reduceLE, Int.reduceNeg, Int.reduceToNat, reduceCtorEq, ho, Try.results39, h6, hs1, hs2, hs4, hb2', hb4, h5, h28, hw, hbig, List.length_map, Vl.enc]
      exact ⟨rest.length, by simp at hm'; omega, done ++ [x], rest, by simp [hl'], rfl, by simp, .inr ⟨by simp, _, rfl, by simp [Vl.enc]⟩⟩
theorem revalc_12 (row : List Vl) (n : Nat) (hn : n + 1 ≤ 100000000) (IH : ∀ x : Ex, x.size ≤ n → Fc 39 [x.enc, .sl (row.map Vl.enc)] (x.eval row).enc) (e : Ex) (h : e.size ≤ n + 1) (hf : e.formed = true) (hop : e.op = 12) : Fc 39 [e.enc, .sl (row.map Vl.enc)] (e.eval row).enc := by
  obtain ⟨l, hleq⟩ : ∃ l, l = e.args.map (Ex.eval row) := ⟨_, rfl⟩
  have hev : e.eval row = evalOp row 12 e.int e.val l := by rw [Ex.eval_eq, hf, hop, hleq]; rfl
  have hsz := e.size_eq
  have hlen := Ex.len_sizes e.args
  have hfit := formed_len hf
  rw [hop] at hfit
  refine fn_of_awp (E := E0) (M := M0) follows Try.func39 rfl (by decide) ok39 (by decide) (by simp) fun o ho => ?_
  rw [hev]
  clear hev
  simp only [go_sem, Nat.reduceEqDiff, Nat.reduceAdd, Nat.reduceSub, Nat.reduceLeDiff, Nat.reduceLT, Nat.reduceMul, Nat.reduceBEq, Int.reduceEq, Int.reduceLT, Int.reduceLE, Int.reduceNeg, Int.reduceToNat, reduceCtorEq, ho, Try.results39, e.enc_eq]
  refine GCall.fr ?_ (rformed_fn e (by omega)) (.inl rfl) ?_; (focus (first | rfl | ((simp only [go_sem, Nat.reduceEqDiff, Nat.reduceAdd, Nat.reduceSub, Nat.reduceLeDiff, Nat.reduceLT, Nat.reduceMul, Nat.reduceBEq, Int.reduceEq, Int.reduceLT, Int.reduceLE, Int.reduceNeg, Int.reduceToNat, reduceCtorEq, ho, Try.results39, e.enc_eq]); done) | ((simp only [go_sem, Nat.reduceEqDiff, Nat.reduceAdd, Nat.reduceSub, Nat.reduceLeDiff, Nat.reduceLT, Nat.reduceMul, Nat.reduceBEq, Int.reduceEq, Int.reduceLT, Int.reduceLE, Int.reduceNeg, Int.reduceToNat, reduceCtorEq, ho, Try.results39, e.enc_eq]); rfl)))
  simp only [go_sem, Nat.reduceEqDiff, Nat.reduceAdd, Nat.reduceSub, Nat.reduceLeDiff, Nat.reduceLT, Nat.reduceMul, Nat.reduceBEq, Int.reduceEq, Int.reduceLT, Int.reduceLE, Int.reduceNeg, Int.reduceToNat, reduceCtorEq, ho, Try.results39, hf]
  have hl100 : e.args.length ≤ 100000000 := by omega
  have hllen : l.length = e.args.length := by rw [hleq]; simp
  have hpos := fits_pos (op := 12) (l := l) (by rw [hllen]; exact hfit) (by decide) (by decide)
  refine ⟨fun m st => ∃ (done rest : List Ex), e.args = done ++ rest ∧ rest.length = m ∧ st.s 6 = .int .i64 done.length ∧ st.s 1 = .sl (row.map Vl.enc) ∧ st.s 2 = .ptr 2 1 0 ∧ st.s 4 = .ptr 4 1 0 ∧ getBox st.o 2 1 = some (49, e.enc.cells) ∧ st.o 4 = (1, some (true, .box 42 [.int .i64 0, .int .i64 0, .str ⟨#[]⟩])) ∧ ((done = [] ∧ st.s 5 = .nil) ∨ (done ≠ [] ∧ ∃ v, st.s 5 = .ref 28 v ∧ st.o 28 = (v, some (true, .row 42 (done.map fun x => (x.eval row).enc))))), e.args.length,
    ⟨[], e.args, rfl, rfl, by simp only [go_sem, Nat.reduceEqDiff, Nat.reduceAdd, Nat.reduceSub, Nat.reduceLeDiff, Nat.reduceLT, Nat.reduceMul, Nat.reduceBEq, Int.reduceEq, Int.reduceLT, Int.reduceLE, Int.reduceNeg, Int.reduceToNat, reduceCtorEq, ho, Try.results39]; rfl, by simp only [go_sem, Nat.reduceEqDiff, Nat.reduceAdd, Nat.reduceSub, Nat.reduceLeDiff, Nat.reduceLT, Nat.reduceMul, Nat.reduceBEq, Int.reduceEq, Int.reduceLT, Int.reduceLE, Int.reduceNeg, Int.reduceToNat, reduceCtorEq, ho, Try.results39], by simp only [go_sem, Nat.reduceEqDiff, Nat.reduceAdd, Nat.reduceSub, Nat.reduceLeDiff, Nat.reduceLT, Nat.reduceMul, Nat.reduceBEq, Int.reduceEq, Int.reduceLT, Int.reduceLE, Int.reduceNeg, Int.reduceToNat, reduceCtorEq, ho, Try.results39], by simp only [go_sem, Nat.reduceEqDiff, Nat.reduceAdd, Nat.reduceSub, Nat.reduceLeDiff, Nat.reduceLT, Nat.reduceMul, Nat.reduceBEq, Int.reduceEq, Int.reduceLT, Int.reduceLE, Int.reduceNeg, Int.reduceToNat, reduceCtorEq, ho, Try.results39], by simp only [go_sem, Nat.reduceEqDiff, Nat.reduceAdd, Nat.reduceSub, Nat.reduceLeDiff, Nat.reduceLT, Nat.reduceMul, Nat.reduceBEq, Int.reduceEq, Int.reduceLT, Int.reduceLE, Int.reduceNeg, Int.reduceToNat, reduceCtorEq, ho, Try.results39], by simp only [go_sem, Nat.reduceEqDiff, Nat.reduceAdd, Nat.reduceSub, Nat.reduceLeDiff, Nat.reduceLT, Nat.reduceMul, Nat.reduceBEq, Int.reduceEq, Int.reduceLT, Int.reduceLE, Int.reduceNeg, Int.reduceToNat, reduceCtorEq, ho, Try.results39], .inl ⟨rfl, by simp only [go_sem, Nat.reduceEqDiff, Nat.reduceAdd, Nat.reduceSub, Nat.reduceLeDiff, Nat.reduceLT, Nat.reduceMul, Nat.reduceBEq, Int.reduceEq, Int.reduceLT, Int.reduceLE, Int.reduceNeg, Int.reduceToNat, reduceCtorEq, ho, Try.results39]⟩⟩, ?_⟩
  rintro m st ⟨done, rest, hl', hm', h6, hs1, hs2, hs4, hb2, hb4, h5⟩
  have hlen2 : done.length + rest.length = e.args.length := by rw [hl']; simp
  have hw : IntKind.i64.wrap ((done.length : Int) + 1) = (done.length : Int) + 1 := wrap_fits (by omega) (by omega)
  cases rest with
  | nil =>
    have hlt : ¬ (done.length : Int) < (e.args.length : Int) := by simp at hlen2; omega
    obtain hdone : e.args = done := by simpa using hl'
    rcases h5 with ⟨hd0, _⟩ | ⟨hne, v, h5, h28⟩
    case inl =>
      have h00 : e.args.length = 0 := by rw [hdone, hd0]; rfl
      omega
    have hrw : (done.map fun x => (x.eval row).enc) = l.map Vl.enc := by rw [hleq, hdone]; simp
    rw [hrw] at h28
    have hrow : getRow st.o 28 v = some (42, l.map Vl.enc) := by simp [getRow, h28]
    have hvv : ∀ v ∈ l, v.valid = true := fun v hv => by rw [hleq] at hv; obtain ⟨x, _, rfl⟩ := List.mem_map.1 hv; exact Ex.eval_valid row x
    have hg0 := nth_get hpos
    have hl0 : (0 : Int) < (l.length : Int) := by omega
    clear hleq hrw
    simp only [go_sem, Nat.reduceEqDiff, Nat.reduceAdd, Nat.reduceSub, Nat.reduceLeDiff, Nat.reduceLT, Nat.reduceMul, Nat.reduceBEq, Int.reduceEq, Int.reduceLT, Int.reduceLE, Int.reduceNeg, Int.reduceToNat, reduceCtorEq, ho, Try.results39, h6, hlt, hs2, hb2, List.length_map]
    have h4 : l.length = 2 := by
      have : (e.args.length : Int) = 2 := by simpa [fitsN] using hfit
      omega
    have hg1 := nth_get (show 1 < l.length by omega)
    have hl1 : (1 : Int) < (l.length : Int) := by omega
    simp only [go_sem, Nat.reduceEqDiff, Nat.reduceAdd, Nat.reduceSub, Nat.reduceLeDiff, Nat.reduceLT, Nat.reduceMul, Nat.reduceBEq, Int.reduceEq, Int.reduceLT, Int.reduceLE, Int.reduceNeg, Int.reduceToNat, reduceCtorEq, ho, Try.results39, hop, h5, hs1, hs2, hs4, hb2, hb4, hrow, hg0, hl0, hg1, hl1, Vl.enc]
    refine QCall.fr ?_ (rcompared_fn 12 (nth l 0) (nth l 1)) (.inl rfl) ?_; (focus (first | rfl | ((simp only [go_sem, Nat.reduceEqDiff, Nat.reduceAdd, Nat.reduceSub, Nat.reduceLeDiff, Nat.reduceLT, Nat.reduceMul, Nat.reduceBEq, Int.reduceEq, Int.reduceLT, Int.reduceLE, Int.reduceNeg, Int.reduceToNat, reduceCtorEq, ho, Try.results39, Vl.enc]); done) | ((simp only [go_sem, Nat.reduceEqDiff, Nat.reduceAdd, Nat.reduceSub, Nat.reduceLeDiff, Nat.reduceLT, Nat.reduceMul, Nat.reduceBEq, Int.reduceEq, Int.reduceLT, Int.reduceLE, Int.reduceNeg, Int.reduceToNat, reduceCtorEq, ho, Try.results39, Vl.enc]); rfl)))
    simp only [go_sem, Nat.reduceEqDiff, Nat.reduceAdd, Nat.reduceSub, Nat.reduceLeDiff, Nat.reduceLT, Nat.reduceMul, Nat.reduceBEq, Int.reduceEq, Int.reduceLT, Int.reduceLE, Int.reduceNeg, Int.reduceToNat, reduceCtorEq, ho, Try.results39]
    refine QCall.fr ?_ (rof_fn (Vl.compared 12 (nth l 0) (nth l 1))) (.inl rfl) ?_; (focus (first | rfl | ((simp only [go_sem, Nat.reduceEqDiff, Nat.reduceAdd, Nat.reduceSub, Nat.reduceLeDiff, Nat.reduceLT, Nat.reduceMul, Nat.reduceBEq, Int.reduceEq, Int.reduceLT, Int.reduceLE, Int.reduceNeg, Int.reduceToNat, reduceCtorEq, ho, Try.results39]); done) | ((simp only [go_sem, Nat.reduceEqDiff, Nat.reduceAdd, Nat.reduceSub, Nat.reduceLeDiff, Nat.reduceLT, Nat.reduceMul, Nat.reduceBEq, Int.reduceEq, Int.reduceLT, Int.reduceLE, Int.reduceNeg, Int.reduceToNat, reduceCtorEq, ho, Try.results39]); rfl)))
    simp only [go_sem, Nat.reduceEqDiff, Nat.reduceAdd, Nat.reduceSub, Nat.reduceLeDiff, Nat.reduceLT, Nat.reduceMul, Nat.reduceBEq, Int.reduceEq, Int.reduceLT, Int.reduceLE, Int.reduceNeg, Int.reduceToNat, reduceCtorEq, ho, Try.results39, Vl.enc, h5, hs1, hs2, hs4, hb2, hb4]
    rw [evo_12]; exact ⟨rfl, rfl, rfl⟩
  | cons x rest =>
    have hlt : (done.length : Int) < (e.args.length : Int) := by simp at hlen2; omega
    have hget : (e.args.map Ex.enc)[done.length]? = some x.enc := by simp [hl']
    have hxs : x.size ≤ n := by have := hsz; rw [hl', Ex.sizes_app] at this; simp [Ex.sizes] at this; omega
    simp only [go_sem, Nat.reduceEqDiff, Nat.reduceAdd, Nat.reduceSub, Nat.reduceLeDiff, Nat.reduceLT, Nat.reduceMul, Nat.reduceBEq, Int.reduceEq, Int.reduceLT, Int.reduceLE, Int.reduceNeg, Int.reduceToNat, reduceCtorEq, ho, Try.results39, h6, hs1, hs2, hs4, hb2, hb4, hlt, hget, List.length_map, Int.natCast_nonneg, Int.toNat_natCast]
    refine GCall.fr ?_ (IH x hxs) (.inl rfl) ?_; (focus (first | rfl | ((simp only [go_sem, Nat.reduceEqDiff, Nat.reduceAdd, Nat.reduceSub, Nat.reduceLeDiff, Nat.reduceLT, Nat.reduceMul, Nat.reduceBEq, Int.reduceEq, Int.reduceLT, Int.reduceLE, Int.reduceNeg, Int.reduceToNat, reduceCtorEq, ho, Try.results39, x.enc_eq, hs1]); done) | ((simp only [go_sem, Nat.reduceEqDiff, Nat.reduceAdd, Nat.reduceSub, Nat.reduceLeDiff, Nat.reduceLT, Nat.reduceMul, Nat.reduceBEq, Int.reduceEq, Int.reduceLT, Int.reduceLE, Int.reduceNeg, Int.reduceToNat, reduceCtorEq, ho, Try.results39, x.enc_eq, hs1]); rfl)))
    simp only [go_sem, Nat.reduceEqDiff, Nat.reduceAdd, Nat.reduceSub, Nat.reduceLeDiff, Nat.reduceLT, Nat.reduceMul, Nat.reduceBEq, Int.reduceEq, Int.reduceLT, Int.reduceLE, Int.reduceNeg, Int.reduceToNat, reduceCtorEq, ho, Try.results39, h6, hs1, hs2, hs4, hb2, hb4]
    have hbig : (done.length + 1) * 33 ≤ 140737488355328 := by omega
    have hb2' := hb2
    rw [e.enc_cells] at hb2'
    rcases h5 with ⟨rfl, h5⟩ | ⟨hne, v, h5, h28⟩
    · simp only [go_sem, Nat.reduceEqDiff, Nat.reduceAdd, Nat.reduceSub, Nat.reduceLeDiff, Nat.reduceLT, Nat.reduceMul, Nat.reduceBEq, Int.reduceEq, Int.reduceLT, Int.reduceLE, Int.reduceNeg, Int.reduceToNat, reduceCtorEq, ho, Try.results39, h6, hs1, hs2, hs4, hb2', hb4, h5, hw, Vl.enc]
      exact ⟨rest.length, by simp at hm'; omega, [x], rest, by simpa using hl', rfl, rfl, .inr ⟨by simp, _, rfl, by simp [Vl.enc]⟩⟩
    · simp only [go_sem, Nat.reduceEqDiff, Nat.reduceAdd, Nat.reduceSub, Nat.reduceLeDiff, Nat.reduceLT, Nat.reduceMul, Nat.reduceBEq, Int.reduceEq, Int.reduceLT, Int.reduceLE, Int.reduceNeg, Int.reduceToNat, reduceCtorEq, ho, Try.results39, h6, hs1, hs2, hs4, hb2', hb4, h5, h28, hw, hbig, List.length_map, Vl.enc]
      exact ⟨rest.length, by simp at hm'; omega, done ++ [x], rest, by simp [hl'], rfl, by simp, .inr ⟨by simp, _, rfl, by simp [Vl.enc]⟩⟩
end Go.Proofs.Ytiefnninebilbaa
/- What the reference's evaluation of an expression returns, any expression; no condition. -/
set_option maxRecDepth 100000
set_option linter.unusedVariables false
set_option linter.unusedSimpArgs false
namespace Go.Proofs.Ytiefnninebilbaa
open Go Go.Sx

theorem reval_step (row : List Vl) (n : Nat) (hn : n + 1 ≤ 100000000) (IH : ∀ x : Ex, x.size ≤ n → Fc 39 [x.enc, .sl (row.map Vl.enc)] (x.eval row).enc) (e : Ex) (h : e.size ≤ n + 1) : Fc 39 [e.enc, .sl (row.map Vl.enc)] (e.eval row).enc := by
  cases hf : e.formed with
  | false => exact revalc_f row e (by omega) hf
  | true =>
    rcases known_op hf with ho | ho | ho | ho | ho | ho | ho | ho | ho | ho | ho | ho | ho | ho | ho | ho | ho | ho | ho | ho | ho | ho | ho
    · exact revalc_1 row n hn IH e h hf ho
    · exact revalc_2 row n hn IH e h hf ho
    · exact revalc_22 row n hn IH e h hf ho
    · exact revalc_4 row n hn IH e h hf ho
    · exact revalc_5 row n hn IH e h hf ho
    · exact revalc_6 row n hn IH e h hf ho
    · exact revalc_21 row n hn IH e h hf ho
    · exact revalc_23 row n hn IH e h hf ho
    · exact revalc_24 row n hn IH e h hf ho
    · exact revalc_19 row n hn IH e h hf ho
    · exact revalc_20 row n hn IH e h hf ho
    · exact revalc_13 row n hn IH e h hf ho
    · exact revalc_14 row n hn IH e h hf ho
    · exact revalc_15 row n hn IH e h hf ho
    · exact revalc_16 row n hn IH e h hf ho
    · exact revalc_17 row n hn IH e h hf ho
    · exact revalc_18 row n hn IH e h hf ho
    · exact revalc_7 row n hn IH e h hf ho
    · exact revalc_8 row n hn IH e h hf ho
    · exact revalc_9 row n hn IH e h hf ho
    · exact revalc_10 row n hn IH e h hf ho
    · exact revalc_11 row n hn IH e h hf ho
    · exact revalc_12 row n hn IH e h hf ho
theorem reval_fn (row : List Vl) : ∀ (n : Nat), n ≤ 100000000 → ∀ e : Ex, e.size ≤ n → Fc 39 [e.enc, .sl (row.map Vl.enc)] (e.eval row).enc
  | 0, _, e, h => by have := e.size_pos; omega
  | n + 1, hn, e, h => reval_step row n hn (reval_fn row n (by omega)) e h
theorem ok9 : okCode M0 Try.f9.ntmps (Try.f9.body.getD .skip) = true := by decide +kernel
theorem exprEvaluates_fn (e : Ex) (row : List Vl) (h : e.bulk + (row.map Vl.bulk).sum ≤ 1048576) : Fc 9 [e.enc, .sl (row.map Vl.enc)] (.bool true) := by
  have hs := e.size_bulk
  refine fn_of_awp (E := E0) (M := M0) follows Try.func9 rfl (by decide) ok9 (by decide) (by simp) fun o ho => ?_
  simp only [go_sem, Nat.reduceEqDiff, Nat.reduceAdd, Nat.reduceSub, Nat.reduceLeDiff, Nat.reduceLT, Nat.reduceMul, Nat.reduceBEq, Int.reduceEq, Int.reduceLT, Int.reduceLE, Int.reduceNeg, Int.reduceToNat, reduceCtorEq, ho, Try.results9, e.enc_eq]
  refine QCall.fr ?_ (evals_fn row e (by omega)) (.inl rfl) ?_; (focus (first | rfl | ((simp only [go_sem, Nat.reduceEqDiff, Nat.reduceAdd, Nat.reduceSub, Nat.reduceLeDiff, Nat.reduceLT, Nat.reduceMul, Nat.reduceBEq, Int.reduceEq, Int.reduceLT, Int.reduceLE, Int.reduceNeg, Int.reduceToNat, reduceCtorEq, ho, Try.results9, e.enc_eq]); done) | ((simp only [go_sem, Nat.reduceEqDiff, Nat.reduceAdd, Nat.reduceSub, Nat.reduceLeDiff, Nat.reduceLT, Nat.reduceMul, Nat.reduceBEq, Int.reduceEq, Int.reduceLT, Int.reduceLE, Int.reduceNeg, Int.reduceToNat, reduceCtorEq, ho, Try.results9, e.enc_eq]); rfl)))
  simp only [go_sem, Nat.reduceEqDiff, Nat.reduceAdd, Nat.reduceSub, Nat.reduceLeDiff, Nat.reduceLT, Nat.reduceMul, Nat.reduceBEq, Int.reduceEq, Int.reduceLT, Int.reduceLE, Int.reduceNeg, Int.reduceToNat, reduceCtorEq, ho, Try.results9, e.enc_eq]
  refine QCall.fr ?_ (reval_fn row _ (by omega) e (Nat.le_refl _)) (.inl rfl) ?_; (focus (first | rfl | ((simp only [go_sem, Nat.reduceEqDiff, Nat.reduceAdd, Nat.reduceSub, Nat.reduceLeDiff, Nat.reduceLT, Nat.reduceMul, Nat.reduceBEq, Int.reduceEq, Int.reduceLT, Int.reduceLE, Int.reduceNeg, Int.reduceToNat, reduceCtorEq, ho, Try.results9, e.enc_eq]); done) | ((simp only [go_sem, Nat.reduceEqDiff, Nat.reduceAdd, Nat.reduceSub, Nat.reduceLeDiff, Nat.reduceLT, Nat.reduceMul, Nat.reduceBEq, Int.reduceEq, Int.reduceLT, Int.reduceLE, Int.reduceNeg, Int.reduceToNat, reduceCtorEq, ho, Try.results9, e.enc_eq]); rfl)))
  simp only [go_sem, Nat.reduceEqDiff, Nat.reduceAdd, Nat.reduceSub, Nat.reduceLeDiff, Nat.reduceLT, Nat.reduceMul, Nat.reduceBEq, Int.reduceEq, Int.reduceLT, Int.reduceLE, Int.reduceNeg, Int.reduceToNat, reduceCtorEq, ho, Try.results9, e.enc_eq, Vl.enc, decide_true, eq_self, Bool.and_self]
  refine QCall.fr ?_ (truths_fn row e (by omega)) (.inl rfl) ?_; (focus (first | rfl | ((simp only [go_sem, Nat.reduceEqDiff, Nat.reduceAdd, Nat.reduceSub, Nat.reduceLeDiff, Nat.reduceLT, Nat.reduceMul, Nat.reduceBEq, Int.reduceEq, Int.reduceLT, Int.reduceLE, Int.reduceNeg, Int.reduceToNat, reduceCtorEq, ho, Try.results9, e.enc_eq]); done) | ((simp only [go_sem, Nat.reduceEqDiff, Nat.reduceAdd, Nat.reduceSub, Nat.reduceLeDiff, Nat.reduceLT, Nat.reduceMul, Nat.reduceBEq, Int.reduceEq, Int.reduceLT, Int.reduceLE, Int.reduceNeg, Int.reduceToNat, reduceCtorEq, ho, Try.results9, e.enc_eq]); rfl)))
  simp only [go_sem, Nat.reduceEqDiff, Nat.reduceAdd, Nat.reduceSub, Nat.reduceLeDiff, Nat.reduceLT, Nat.reduceMul, Nat.reduceBEq, Int.reduceEq, Int.reduceLT, Int.reduceLE, Int.reduceNeg, Int.reduceToNat, reduceCtorEq, ho, Try.results9, e.enc_eq]
  refine QCall.fr ?_ (rtruthE_fn row e (reval_fn row _ (by omega) e (Nat.le_refl _))) (.inl rfl) ?_; (focus (first | rfl | ((simp only [go_sem, Nat.reduceEqDiff, Nat.reduceAdd, Nat.reduceSub, Nat.reduceLeDiff, Nat.reduceLT, Nat.reduceMul, Nat.reduceBEq, Int.reduceEq, Int.reduceLT, Int.reduceLE, Int.reduceNeg, Int.reduceToNat, reduceCtorEq, ho, Try.results9, e.enc_eq]); done) | ((simp only [go_sem, Nat.reduceEqDiff, Nat.reduceAdd, Nat.reduceSub, Nat.reduceLeDiff, Nat.reduceLT, Nat.reduceMul, Nat.reduceBEq, Int.reduceEq, Int.reduceLT, Int.reduceLE, Int.reduceNeg, Int.reduceToNat, reduceCtorEq, ho, Try.results9, e.enc_eq]); rfl)))
  simp only [go_sem, Nat.reduceEqDiff, Nat.reduceAdd, Nat.reduceSub, Nat.reduceLeDiff, Nat.reduceLT, Nat.reduceMul, Nat.reduceBEq, Int.reduceEq, Int.reduceLT, Int.reduceLE, Int.reduceNeg, Int.reduceToNat, reduceCtorEq, ho, Try.results9, decide_true, eq_self]
  refine QCall.fr ?_ (awake_fn) (.inl rfl) ?_; (focus (first | rfl | ((simp only [go_sem, Nat.reduceEqDiff, Nat.reduceAdd, Nat.reduceSub, Nat.reduceLeDiff, Nat.reduceLT, Nat.reduceMul, Nat.reduceBEq, Int.reduceEq, Int.reduceLT, Int.reduceLE, Int.reduceNeg, Int.reduceToNat, reduceCtorEq, ho, Try.results9]); done) | ((simp only [go_sem, Nat.reduceEqDiff, Nat.reduceAdd, Nat.reduceSub, Nat.reduceLeDiff, Nat.reduceLT, Nat.reduceMul, Nat.reduceBEq, Int.reduceEq, Int.reduceLT, Int.reduceLE, Int.reduceNeg, Int.reduceToNat, reduceCtorEq, ho, Try.results9]); rfl)))
  simp only [go_sem, Nat.reduceEqDiff, Nat.reduceAdd, Nat.reduceSub, Nat.reduceLeDiff, Nat.reduceLT, Nat.reduceMul, Nat.reduceBEq, Int.reduceEq, Int.reduceLT, Int.reduceLE, Int.reduceNeg, Int.reduceToNat, reduceCtorEq, ho, Try.results9]
end Go.Proofs.Ytiefnninebilbaa
