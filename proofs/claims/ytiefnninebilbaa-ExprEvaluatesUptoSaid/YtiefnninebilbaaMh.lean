/- What the evaluation of an expression returns, operator by operator; no condition. -/
import Derived.Test.YtiefnninebilbaaMg
set_option maxRecDepth 100000
set_option linter.unusedVariables false
set_option linter.unusedSimpArgs false
namespace Go.Proofs.Ytiefnninebilbaa
open Go Go.Sx

theorem evalc_4 (row : List Vl) (n : Nat) (hn : n + 1 ≤ 100000000) (IH : ∀ x : Ex, x.size ≤ n → Fc 38 [x.enc, .sl (row.map Vl.enc)] (x.eval row).enc) (e : Ex) (h : e.size ≤ n + 1) (hf : e.formed = true) (hop : e.op = 4) : Fc 38 [e.enc, .sl (row.map Vl.enc)] (e.eval row).enc := by
  obtain ⟨l, hleq⟩ : ∃ l, l = e.args.map (Ex.eval row) := ⟨_, rfl⟩
  have hev : e.eval row = evalOp row 4 e.int e.val (e.args.map (Ex.eval row)) := by rw [Ex.eval_eq, hf, hop]; rfl
  have hsz := e.size_eq
  have hlen := Ex.len_sizes e.args
  have hfit := formed_len hf
  rw [hop] at hfit
  rw [← hleq] at hev
  refine fn_of_awp (E := E0) (M := M0) follows Try.func38 rfl (by decide) ok38 (by decide) (by simp) fun o ho => ?_
  rw [hev]
  clear hev
  simp only [go_sem, Nat.reduceEqDiff, Nat.reduceAdd, Nat.reduceSub, Nat.reduceLeDiff, Nat.reduceLT, Nat.reduceMul, Nat.reduceBEq, Int.reduceEq, Int.reduceLT, Int.reduceLE, Int.reduceNeg, Int.reduceToNat, reduceCtorEq, ho, Try.results38, e.enc_eq]
  refine GCall.fr ?_ (formed_fn e) (.inl rfl) ?_; (focus (first | rfl | ((simp only [go_sem, Nat.reduceEqDiff, Nat.reduceAdd, Nat.reduceSub, Nat.reduceLeDiff, Nat.reduceLT, Nat.reduceMul, Nat.reduceBEq, Int.reduceEq, Int.reduceLT, Int.reduceLE, Int.reduceNeg, Int.reduceToNat, reduceCtorEq, ho, Try.results38, e.enc_eq]); done) | ((simp only [go_sem, Nat.reduceEqDiff, Nat.reduceAdd, Nat.reduceSub, Nat.reduceLeDiff, Nat.reduceLT, Nat.reduceMul, Nat.reduceBEq, Int.reduceEq, Int.reduceLT, Int.reduceLE, Int.reduceNeg, Int.reduceToNat, reduceCtorEq, ho, Try.results38, e.enc_eq]); rfl)))
  simp only [go_sem, Nat.reduceEqDiff, Nat.reduceAdd, Nat.reduceSub, Nat.reduceLeDiff, Nat.reduceLT, Nat.reduceMul, Nat.reduceBEq, Int.reduceEq, Int.reduceLT, Int.reduceLE, Int.reduceNeg, Int.reduceToNat, reduceCtorEq, ho, Try.results38, hf, hop]
  have hl100 : e.args.length ≤ 100000000 := by omega
  have hllen : l.length = e.args.length := by rw [hleq]; simp
  have hpos := fits_pos (op := 4) (l := l) (by rw [hllen]; exact hfit) (by decide) (by decide)
  have hm : (e.args.length : Int) * (((32 : Nat) : Int) + 1) ≤ 140737488355328 := by omega
  simp only [go_sem, Nat.reduceEqDiff, Nat.reduceAdd, Nat.reduceSub, Nat.reduceLeDiff, Nat.reduceLT, Nat.reduceMul, Nat.reduceBEq, Int.reduceEq, Int.reduceLT, Int.reduceLE, Int.reduceNeg, Int.reduceToNat, reduceCtorEq, ho, Try.results38, List.length_map, Int.natCast_nonneg, hm, true_and, Int.toNat_natCast, Int.le_refl]
  refine ⟨fun m st => ∃ (done rest : List Ex), e.args = done ++ rest ∧ rest.length = m ∧ st.s 54 = .int .i64 done.length ∧ st.s 53 = .int .i64 e.args.length ∧ st.s 52 = .sl (e.args.map Ex.enc) ∧ st.s 5 = .ref 50 1 ∧ st.o 50 = (1, some (true, .row 42 ((done.map fun x => (x.eval row).enc) ++ List.replicate rest.length (PV.agg [PV.int IntKind.i64 0, PV.int IntKind.i64 0, PV.str ⟨#[]⟩])))) ∧ st.s 1 = .sl (row.map Vl.enc) ∧ st.s 2 = .ptr 2 1 0 ∧ st.s 4 = .ptr 4 1 0 ∧ getBox st.o 2 1 = some (49, e.enc.cells) ∧ st.o 4 = (1, some (true, .box 42 [.int .i64 0, .int .i64 0, .str ⟨#[]⟩])), e.args.length,
    ⟨[], e.args, rfl, rfl, by simp only [go_sem, Nat.reduceEqDiff, Nat.reduceAdd, Nat.reduceSub, Nat.reduceLeDiff, Nat.reduceLT, Nat.reduceMul, Nat.reduceBEq, Int.reduceEq, Int.reduceLT, Int.reduceLE, Int.reduceNeg, Int.reduceToNat, reduceCtorEq, ho, Try.results38]; rfl, by simp only [go_sem, Nat.reduceEqDiff, Nat.reduceAdd, Nat.reduceSub, Nat.reduceLeDiff, Nat.reduceLT, Nat.reduceMul, Nat.reduceBEq, Int.reduceEq, Int.reduceLT, Int.reduceLE, Int.reduceNeg, Int.reduceToNat, reduceCtorEq, ho, Try.results38], by simp only [go_sem, Nat.reduceEqDiff, Nat.reduceAdd, Nat.reduceSub, Nat.reduceLeDiff, Nat.reduceLT, Nat.reduceMul, Nat.reduceBEq, Int.reduceEq, Int.reduceLT, Int.reduceLE, Int.reduceNeg, Int.reduceToNat, reduceCtorEq, ho, Try.results38], by simp only [go_sem, Nat.reduceEqDiff, Nat.reduceAdd, Nat.reduceSub, Nat.reduceLeDiff, Nat.reduceLT, Nat.reduceMul, Nat.reduceBEq, Int.reduceEq, Int.reduceLT, Int.reduceLE, Int.reduceNeg, Int.reduceToNat, reduceCtorEq, ho, Try.results38], by simp only [go_sem, Nat.reduceEqDiff, Nat.reduceAdd, Nat.reduceSub, Nat.reduceLeDiff, Nat.reduceLT, Nat.reduceMul, Nat.reduceBEq, Int.reduceEq, Int.reduceLT, Int.reduceLE, Int.reduceNeg, Int.reduceToNat, reduceCtorEq, ho, Try.results38, List.map_nil, List.nil_append], by simp only [go_sem, Nat.reduceEqDiff, Nat.reduceAdd, Nat.reduceSub, Nat.reduceLeDiff, Nat.reduceLT, Nat.reduceMul, Nat.reduceBEq, Int.reduceEq, Int.reduceLT, Int.reduceLE, Int.reduceNeg, Int.reduceToNat, reduceCtorEq, ho, Try.results38], by simp only [go_sem, Nat.reduceEqDiff, Nat.reduceAdd, Nat.reduceSub, Nat.reduceLeDiff, Nat.reduceLT, Nat.reduceMul, Nat.reduceBEq, Int.reduceEq, Int.reduceLT, Int.reduceLE, Int.reduceNeg, Int.reduceToNat, reduceCtorEq, ho, Try.results38], by simp only [go_sem, Nat.reduceEqDiff, Nat.reduceAdd, Nat.reduceSub, Nat.reduceLeDiff, Nat.reduceLT, Nat.reduceMul, Nat.reduceBEq, Int.reduceEq, Int.reduceLT, Int.reduceLE, Int.reduceNeg, Int.reduceToNat, reduceCtorEq, ho, Try.results38], by simp only [go_sem, Nat.reduceEqDiff, Nat.reduceAdd, Nat.reduceSub, Nat.reduceLeDiff, Nat.reduceLT, Nat.reduceMul, Nat.reduceBEq, Int.reduceEq, Int.reduceLT, Int.reduceLE, Int.reduceNeg, Int.reduceToNat, reduceCtorEq, ho, Try.results38, hop], by simp only [go_sem, Nat.reduceEqDiff, Nat.reduceAdd, Nat.reduceSub, Nat.reduceLeDiff, Nat.reduceLT, Nat.reduceMul, Nat.reduceBEq, Int.reduceEq, Int.reduceLT, Int.reduceLE, Int.reduceNeg, Int.reduceToNat, reduceCtorEq, ho, Try.results38]⟩, ?_⟩
  rintro m st ⟨done, rest, hl', hm', h54, h53, h52, h5, h50, hs1, hs2, hs4, hb2, hb4⟩
  have hlen2 : done.length + rest.length = e.args.length := by rw [hl']; simp
  have hw : IntKind.i64.wrap ((done.length : Int) + 1) = (done.length : Int) + 1 := wrap_fits (by omega) (by omega)
  cases rest with
  | nil =>
    have hlt : ¬ (done.length : Int) < (e.args.length : Int) := by simp at hlen2; omega
    obtain hdone : e.args = done := by simpa using hl'
    simp only [List.length_nil, List.replicate, List.append_nil] at h50
    have hrw : (done.map fun x => (x.eval row).enc) = l.map Vl.enc := by rw [hleq, hdone]; simp
    rw [hrw] at h50
    have hrow : getRow st.o 50 1 = some (42, l.map Vl.enc) := by simp [getRow, h50]
    have hvv : ∀ v ∈ l, v.valid = true := fun v hv => by rw [hleq] at hv; obtain ⟨x, _, rfl⟩ := List.mem_map.1 hv; exact Ex.eval_valid row x
    have hg0 := nth_get hpos
    have hl0 : (0 : Int) < (l.length : Int) := by omega
    clear hleq hrw
    simp only [go_sem, Nat.reduceEqDiff, Nat.reduceAdd, Nat.reduceSub, Nat.reduceLeDiff, Nat.reduceLT, Nat.reduceMul, Nat.reduceBEq, Int.reduceEq, Int.reduceLT, Int.reduceLE, Int.reduceNeg, Int.reduceToNat, reduceCtorEq, ho, Try.results38, h54, h53, hlt, hop, h5, hs2, hs4, hb2, hb4]
    refine GCall.fr ?_ (logicL_fn 4 l (by omega) hpos) (.inl rfl) ?_; (focus (first | rfl | ((simp only [go_sem, Nat.reduceEqDiff, Nat.reduceAdd, Nat.reduceSub, Nat.reduceLeDiff, Nat.reduceLT, Nat.reduceMul, Nat.reduceBEq, Int.reduceEq, Int.reduceLT, Int.reduceLE, Int.reduceNeg, Int.reduceToNat, reduceCtorEq, ho, Try.results38, hop, hrow]); done) | ((simp only [go_sem, Nat.reduceEqDiff, Nat.reduceAdd, Nat.reduceSub, Nat.reduceLeDiff, Nat.reduceLT, Nat.reduceMul, Nat.reduceBEq, Int.reduceEq, Int.reduceLT, Int.reduceLE, Int.reduceNeg, Int.reduceToNat, reduceCtorEq, ho, Try.results38, hop, hrow]); rfl)))
    simp only [go_sem, Nat.reduceEqDiff, Nat.reduceAdd, Nat.reduceSub, Nat.reduceLeDiff, Nat.reduceLT, Nat.reduceMul, Nat.reduceBEq, Int.reduceEq, Int.reduceLT, Int.reduceLE, Int.reduceNeg, Int.reduceToNat, reduceCtorEq, ho, Try.results38, Vl.enc, h5, hs2, hs4, hb2, hb4]
    rw [evo_4]; exact ⟨rfl, rfl, rfl⟩
  | cons x rest =>
    have hlt : (done.length : Int) < (e.args.length : Int) := by simp at hlen2; omega
    have hget : (e.args.map Ex.enc)[done.length]? = some x.enc := by simp [hl']
    have hxs : x.size ≤ n := by have := hsz; rw [hl', Ex.sizes_app] at this; simp [Ex.sizes] at this; omega
    have hx50 : getRow st.o 50 1 = some (42, (done.map fun x => (x.eval row).enc) ++ List.replicate (rest.length + 1) (PV.agg [PV.int IntKind.i64 0, PV.int IntKind.i64 0, PV.str ⟨#[]⟩])) := by rw [getRow, h50]; rfl
    have hxl : (done.length : Int) < (((done.map fun x => (x.eval row).enc) ++ List.replicate (rest.length + 1) (PV.agg [PV.int IntKind.i64 0, PV.int IntKind.i64 0, PV.str ⟨#[]⟩])).length : Nat) := by simp; omega
    have hx0 : ((done.map fun x => (x.eval row).enc) ++ List.replicate (rest.length + 1) (PV.agg [PV.int IntKind.i64 0, PV.int IntKind.i64 0, PV.str ⟨#[]⟩]))[done.length]? = some (PV.agg [PV.int IntKind.i64 0, PV.int IntKind.i64 0, PV.str ⟨#[]⟩]) := by simp
    rw [List.length_cons] at h50
    simp only [go_sem, Nat.reduceEqDiff, Nat.reduceAdd, Nat.reduceSub, Nat.reduceLeDiff, Nat.reduceLT, Nat.reduceMul, Nat.reduceBEq, Int.reduceEq, Int.reduceLT, Int.reduceLE, Int.reduceNeg, Int.reduceToNat, reduceCtorEq, ho, Try.results38, h54, h53, h52, hlt, hget, Int.natCast_nonneg, Int.toNat_natCast, h5, hs1, hs2, hs4, hb2, hb4, x.enc_eq]
    refine GCall.fr ?_ (IH x hxs) (.inl rfl) ?_; (focus (first | rfl | ((simp only [go_sem, Nat.reduceEqDiff, Nat.reduceAdd, Nat.reduceSub, Nat.reduceLeDiff, Nat.reduceLT, Nat.reduceMul, Nat.reduceBEq, Int.reduceEq, Int.reduceLT, Int.reduceLE, Int.reduceNeg, Int.reduceToNat, reduceCtorEq, ho, Try.results38, x.enc_eq, hs1]); done) | ((simp only [go_sem, Nat.reduceEqDiff, Nat.reduceAdd, Nat.reduceSub, Nat.reduceLeDiff, Nat.reduceLT, Nat.reduceMul, Nat.reduceBEq, Int.reduceEq, Int.reduceLT, Int.reduceLE, Int.reduceNeg, Int.reduceToNat, reduceCtorEq, ho, Try.results38, x.enc_eq, hs1]); rfl)))
    simp only [go_sem, Nat.reduceEqDiff, Nat.reduceAdd, Nat.reduceSub, Nat.reduceLeDiff, Nat.reduceLT, Nat.reduceMul, Nat.reduceBEq, Int.reduceEq, Int.reduceLT, Int.reduceLE, Int.reduceNeg, Int.reduceToNat, reduceCtorEq, ho, Try.results38, h54, h53, h52, h5, hx50, hxl, hx0, h50, Int.natCast_nonneg, Int.toNat_natCast, hs1, hs2, hs4, hb2, hb4, hw]
    refine ⟨rest.length, by simp at hm'; omega, done ++ [x], rest, by simp [hl'], rfl, by simp, ?_⟩
    simp [List.set_append, List.replicate_succ]
theorem evalc_5 (row : List Vl) (n : Nat) (hn : n + 1 ≤ 100000000) (IH : ∀ x : Ex, x.size ≤ n → Fc 38 [x.enc, .sl (row.map Vl.enc)] (x.eval row).enc) (e : Ex) (h : e.size ≤ n + 1) (hf : e.formed = true) (hop : e.op = 5) : Fc 38 [e.enc, .sl (row.map Vl.enc)] (e.eval row).enc := by
  obtain ⟨l, hleq⟩ : ∃ l, l = e.args.map (Ex.eval row) := ⟨_, rfl⟩
  have hev : e.eval row = evalOp row 5 e.int e.val (e.args.map (Ex.eval row)) := by rw [Ex.eval_eq, hf, hop]; rfl
  have hsz := e.size_eq
  have hlen := Ex.len_sizes e.args
  have hfit := formed_len hf
  rw [hop] at hfit
  rw [← hleq] at hev
  refine fn_of_awp (E := E0) (M := M0) follows Try.func38 rfl (by decide) ok38 (by decide) (by simp) fun o ho => ?_
  rw [hev]
  clear hev
  simp only [go_sem, Nat.reduceEqDiff, Nat.reduceAdd, Nat.reduceSub, Nat.reduceLeDiff, Nat.reduceLT, Nat.reduceMul, Nat.reduceBEq, Int.reduceEq, Int.reduceLT, Int.reduceLE, Int.reduceNeg, Int.reduceToNat, reduceCtorEq, ho, Try.results38, e.enc_eq]
  refine GCall.fr ?_ (formed_fn e) (.inl rfl) ?_; (focus (first | rfl | ((simp only [go_sem, Nat.reduceEqDiff, Nat.reduceAdd, Nat.reduceSub, Nat.reduceLeDiff, Nat.reduceLT, Nat.reduceMul, Nat.reduceBEq, Int.reduceEq, Int.reduceLT, Int.reduceLE, Int.reduceNeg, Int.reduceToNat, reduceCtorEq, ho, Try.results38, e.enc_eq]); done) | ((simp only [go_sem, Nat.reduceEqDiff, Nat.reduceAdd, Nat.reduceSub, Nat.reduceLeDiff, Nat.reduceLT, Nat.reduceMul, Nat.reduceBEq, Int.reduceEq, Int.reduceLT, Int.reduceLE, Int.reduceNeg, Int.reduceToNat, reduceCtorEq, ho, Try.results38, e.enc_eq]); rfl)))
  simp only [go_sem, Nat.reduceEqDiff, Nat.reduceAdd, Nat.reduceSub, Nat.reduceLeDiff, Nat.reduceLT, Nat.reduceMul, Nat.reduceBEq, Int.reduceEq, Int.reduceLT, Int.reduceLE, Int.reduceNeg, Int.reduceToNat, reduceCtorEq, ho, Try.results38, hf, hop]
  have hl100 : e.args.length ≤ 100000000 := by omega
  have hllen : l.length = e.args.length := by rw [hleq]; simp
  have hpos := fits_pos (op := 5) (l := l) (by rw [hllen]; exact hfit) (by decide) (by decide)
  have hm : (e.args.length : Int) * (((32 : Nat) : Int) + 1) ≤ 140737488355328 := by omega
  simp only [go_sem, Nat.reduceEqDiff, Nat.reduceAdd, Nat.reduceSub, Nat.reduceLeDiff, Nat.reduceLT, Nat.reduceMul, Nat.reduceBEq, Int.reduceEq, Int.reduceLT, Int.reduceLE, Int.reduceNeg, Int.reduceToNat, reduceCtorEq, ho, Try.results38, List.length_map, Int.natCast_nonneg, hm, true_and, Int.toNat_natCast, Int.le_refl]
  refine ⟨fun m st => ∃ (done rest : List Ex), e.args = done ++ rest ∧ rest.length = m ∧ st.s 54 = .int .i64 done.length ∧ st.s 53 = .int .i64 e.args.length ∧ st.s 52 = .sl (e.args.map Ex.enc) ∧ st.s 5 = .ref 50 1 ∧ st.o 50 = (1, some (true, .row 42 ((done.map fun x => (x.eval row).enc) ++ List.replicate rest.length (PV.agg [PV.int IntKind.i64 0, PV.int IntKind.i64 0, PV.str ⟨#[]⟩])))) ∧ st.s 1 = .sl (row.map Vl.enc) ∧ st.s 2 = .ptr 2 1 0 ∧ st.s 4 = .ptr 4 1 0 ∧ getBox st.o 2 1 = some (49, e.enc.cells) ∧ st.o 4 = (1, some (true, .box 42 [.int .i64 0, .int .i64 0, .str ⟨#[]⟩])), e.args.length,
    ⟨[], e.args, rfl, rfl, by simp only [go_sem, Nat.reduceEqDiff, Nat.reduceAdd, Nat.reduceSub, Nat.reduceLeDiff, Nat.reduceLT, Nat.reduceMul, Nat.reduceBEq, Int.reduceEq, Int.reduceLT, Int.reduceLE, Int.reduceNeg, Int.reduceToNat, reduceCtorEq, ho, Try.results38]; rfl, by simp only [go_sem, Nat.reduceEqDiff, Nat.reduceAdd, Nat.reduceSub, Nat.reduceLeDiff, Nat.reduceLT, Nat.reduceMul, Nat.reduceBEq, Int.reduceEq, Int.reduceLT, Int.reduceLE, Int.reduceNeg, Int.reduceToNat, reduceCtorEq, ho, Try.results38], by simp only [go_sem, Nat.reduceEqDiff, Nat.reduceAdd, Nat.reduceSub, Nat.reduceLeDiff, Nat.reduceLT, Nat.reduceMul, Nat.reduceBEq, Int.reduceEq, Int.reduceLT, Int.reduceLE, Int.reduceNeg, Int.reduceToNat, reduceCtorEq, ho, Try.results38], by simp only [go_sem, Nat.reduceEqDiff, Nat.reduceAdd, Nat.reduceSub, Nat.reduceLeDiff, Nat.reduceLT, Nat.reduceMul, Nat.reduceBEq, Int.reduceEq, Int.reduceLT, Int.reduceLE, Int.reduceNeg, Int.reduceToNat, reduceCtorEq, ho, Try.results38], by simp only [go_sem, Nat.reduceEqDiff, Nat.reduceAdd, Nat.reduceSub, Nat.reduceLeDiff, Nat.reduceLT, Nat.reduceMul, Nat.reduceBEq, Int.reduceEq, Int.reduceLT, Int.reduceLE, Int.reduceNeg, Int.reduceToNat, reduceCtorEq, ho, Try.results38, List.map_nil, List.nil_append], by simp only [go_sem, Nat.reduceEqDiff, Nat.reduceAdd, Nat.reduceSub, Nat.reduceLeDiff, Nat.reduceLT, Nat.reduceMul, Nat.reduceBEq, Int.reduceEq, Int.reduceLT, Int.reduceLE, Int.reduceNeg, Int.reduceToNat, reduceCtorEq, ho, Try.results38], by simp only [go_sem, Nat.reduceEqDiff, Nat.reduceAdd, Nat.reduceSub, Nat.reduceLeDiff, Nat.reduceLT, Nat.reduceMul, Nat.reduceBEq, Int.reduceEq, Int.reduceLT, Int.reduceLE, Int.reduceNeg, Int.reduceToNat, reduceCtorEq, ho, Try.results38], by simp only [go_sem, Nat.reduceEqDiff, Nat.reduceAdd, Nat.reduceSub, Nat.reduceLeDiff, Nat.reduceLT, Nat.reduceMul, Nat.reduceBEq, Int.reduceEq, Int.reduceLT, Int.reduceLE, Int.reduceNeg, Int.reduceToNat, reduceCtorEq, ho, Try.results38], by simp only [go_sem, Nat.reduceEqDiff, Nat.reduceAdd, Nat.reduceSub, Nat.reduceLeDiff, Nat.reduceLT, Nat.reduceMul, Nat.reduceBEq, Int.reduceEq, Int.reduceLT, Int.reduceLE, Int.reduceNeg, Int.reduceToNat, reduceCtorEq, ho, Try.results38, hop], by simp only [go_sem, Nat.reduceEqDiff, Nat.reduceAdd, Nat.reduceSub, Nat.reduceLeDiff, Nat.reduceLT, Nat.reduceMul, Nat.reduceBEq, Int.reduceEq, Int.reduceLT, Int.reduceLE, Int.reduceNeg, Int.reduceToNat, reduceCtorEq, ho, Try.results38]⟩, ?_⟩
  rintro m st ⟨done, rest, hl', hm', h54, h53, h52, h5, h50, hs1, hs2, hs4, hb2, hb4⟩
  have hlen2 : done.length + rest.length = e.args.length := by rw [hl']; simp
  have hw : IntKind.i64.wrap ((done.length : Int) + 1) = (done.length : Int) + 1 := wrap_fits (by omega) (by omega)
  cases rest with
  | nil =>
    have hlt : ¬ (done.length : Int) < (e.args.length : Int) := by simp at hlen2; omega
    obtain hdone : e.args = done := by simpa using hl'
    simp only [List.length_nil, List.replicate, List.append_nil] at h50
    have hrw : (done.map fun x => (x.eval row).enc) = l.map Vl.enc := by rw [hleq, hdone]; simp
    rw [hrw] at h50
    have hrow : getRow st.o 50 1 = some (42, l.map Vl.enc) := by simp [getRow, h50]
    have hvv : ∀ v ∈ l, v.valid = true := fun v hv => by rw [hleq] at hv; obtain ⟨x, _, rfl⟩ := List.mem_map.1 hv; exact Ex.eval_valid row x
    have hg0 := nth_get hpos
    have hl0 : (0 : Int) < (l.length : Int) := by omega
    clear hleq hrw
    simp only [go_sem, Nat.reduceEqDiff, Nat.reduceAdd, Nat.reduceSub, Nat.reduceLeDiff, Nat.reduceLT, Nat.reduceMul, Nat.reduceBEq, Int.reduceEq, Int.reduceLT, Int.reduceLE, Int.reduceNeg, Int.reduceToNat, reduceCtorEq, ho, Try.results38, h54, h53, hlt, hop, h5, hs2, hs4, hb2, hb4]
    refine GCall.fr ?_ (logicL_fn 5 l (by omega) hpos) (.inl rfl) ?_; (focus (first | rfl | ((simp only [go_sem, Nat.reduceEqDiff, Nat.reduceAdd, Nat.reduceSub, Nat.reduceLeDiff, Nat.reduceLT, Nat.reduceMul, Nat.reduceBEq, Int.reduceEq, Int.reduceLT, Int.reduceLE, Int.reduceNeg, Int.reduceToNat, reduceCtorEq, ho, Try.results38, hop, hrow]); done) | ((simp only [go_sem, Nat.reduceEqDiff, Nat.reduceAdd, Nat.reduceSub, Nat.reduceLeDiff, Nat.reduceLT, Nat.reduceMul, Nat.reduceBEq, Int.reduceEq, Int.reduceLT, Int.reduceLE, Int.reduceNeg, Int.reduceToNat, reduceCtorEq, ho, Try.results38, hop, hrow]); rfl)))
    simp only [go_sem, Nat.reduceEqDiff, Nat.reduceAdd, Nat.reduceSub, Nat.reduceLeDiff, Nat.reduceLT, Nat.reduceMul, Nat.reduceBEq, Int.reduceEq, Int.reduceLT, Int.reduceLE, Int.reduceNeg, Int.reduceToNat, reduceCtorEq, ho, Try.results38, Vl.enc, h5, hs2, hs4, hb2, hb4]
    rw [evo_5]; exact ⟨rfl, rfl, rfl⟩
  | cons x rest =>
    have hlt : (done.length : Int) < (e.args.length : Int) := by simp at hlen2; omega
    have hget : (e.args.map Ex.enc)[done.length]? = some x.enc := by simp [hl']
    have hxs : x.size ≤ n := by have := hsz; rw [hl', Ex.sizes_app] at this; simp [Ex.sizes] at this; omega
    have hx50 : getRow st.o 50 1 = some (42, (done.map fun x => (x.eval row).enc) ++ List.replicate (rest.length + 1) (PV.agg [PV.int IntKind.i64 0, PV.int IntKind.i64 0, PV.str ⟨#[]⟩])) := by rw [getRow, h50]; rfl
    have hxl : (done.length : Int) < (((done.map fun x => (x.eval row).enc) ++ List.replicate (rest.length + 1) (PV.agg [PV.int IntKind.i64 0, PV.int IntKind.i64 0, PV.str ⟨#[]⟩])).length : Nat) := by simp; omega
    have hx0 : ((done.map fun x => (x.eval row).enc) ++ List.replicate (rest.length + 1) (PV.agg [PV.int IntKind.i64 0, PV.int IntKind.i64 0, PV.str ⟨#[]⟩]))[done.length]? = some (PV.agg [PV.int IntKind.i64 0, PV.int IntKind.i64 0, PV.str ⟨#[]⟩]) := by simp
    rw [List.length_cons] at h50
    simp only [go_sem, Nat.reduceEqDiff, Nat.reduceAdd, Nat.reduceSub, Nat.reduceLeDiff, Nat.reduceLT, Nat.reduceMul, Nat.reduceBEq, Int.reduceEq, Int.reduceLT, Int.reduceLE, Int.reduceNeg, Int.reduceToNat, reduceCtorEq, ho, Try.results38, h54, h53, h52, hlt, hget, Int.natCast_nonneg, Int.toNat_natCast, h5, hs1, hs2, hs4, hb2, hb4, x.enc_eq]
    refine GCall.fr ?_ (IH x hxs) (.inl rfl) ?_; (focus (first | rfl | ((simp only [go_sem, Nat.reduceEqDiff, Nat.reduceAdd, Nat.reduceSub, Nat.reduceLeDiff, Nat.reduceLT, Nat.reduceMul, Nat.reduceBEq, Int.reduceEq, Int.reduceLT, Int.reduceLE, Int.reduceNeg, Int.reduceToNat, reduceCtorEq, ho, Try.results38, x.enc_eq, hs1]); done) | ((simp only [go_sem, Nat.reduceEqDiff, Nat.reduceAdd, Nat.reduceSub, Nat.reduceLeDiff, Nat.reduceLT, Nat.reduceMul, Nat.reduceBEq, Int.reduceEq, Int.reduceLT, Int.reduceLE, Int.reduceNeg, Int.reduceToNat, reduceCtorEq, ho, Try.results38, x.enc_eq, hs1]); rfl)))
    simp only [go_sem, Nat.reduceEqDiff, Nat.reduceAdd, Nat.reduceSub, Nat.reduceLeDiff, Nat.reduceLT, Nat.reduceMul, Nat.reduceBEq, Int.reduceEq, Int.reduceLT, Int.reduceLE, Int.reduceNeg, Int.reduceToNat, reduceCtorEq, ho, Try.results38, h54, h53, h52, h5, hx50, hxl, hx0, h50, Int.natCast_nonneg, Int.toNat_natCast, hs1, hs2, hs4, hb2, hb4, hw]
    refine ⟨rest.length, by simp at hm'; omega, done ++ [x], rest, by simp [hl'], rfl, by simp, ?_⟩
    simp [List.set_append, List.replicate_succ]
theorem evalc_6 (row : List Vl) (n : Nat) (hn : n + 1 ≤ 100000000) (IH : ∀ x : Ex, x.size ≤ n → Fc 38 [x.enc, .sl (row.map Vl.enc)] (x.eval row).enc) (e : Ex) (h : e.size ≤ n + 1) (hf : e.formed = true) (hop : e.op = 6) : Fc 38 [e.enc, .sl (row.map Vl.enc)] (e.eval row).enc := by
  obtain ⟨l, hleq⟩ : ∃ l, l = e.args.map (Ex.eval row) := ⟨_, rfl⟩
  have hev : e.eval row = evalOp row 6 e.int e.val (e.args.map (Ex.eval row)) := by rw [Ex.eval_eq, hf, hop]; rfl
  have hsz := e.size_eq
  have hlen := Ex.len_sizes e.args
  have hfit := formed_len hf
  rw [hop] at hfit
  rw [← hleq] at hev
  refine fn_of_awp (E := E0) (M := M0) follows Try.func38 rfl (by decide) ok38 (by decide) (by simp) fun o ho => ?_
  rw [hev]
  clear hev
  simp only [go_sem, Nat.reduceEqDiff, Nat.reduceAdd, Nat.reduceSub, Nat.reduceLeDiff, Nat.reduceLT, Nat.reduceMul, Nat.reduceBEq, Int.reduceEq, Int.reduceLT, Int.reduceLE, Int.reduceNeg, Int.reduceToNat, reduceCtorEq, ho, Try.results38, e.enc_eq]
  refine GCall.fr ?_ (formed_fn e) (.inl rfl) ?_; (focus (first | rfl | ((simp only [go_sem, Nat.reduceEqDiff, Nat.reduceAdd, Nat.reduceSub, Nat.reduceLeDiff, Nat.reduceLT, Nat.reduceMul, Nat.reduceBEq, Int.reduceEq, Int.reduceLT, Int.reduceLE, Int.reduceNeg, Int.reduceToNat, reduceCtorEq, ho, Try.results38, e.enc_eq]); done) | ((simp only [go_sem, Nat.reduceEqDiff, Nat.reduceAdd, Nat.reduceSub, Nat.reduceLeDiff, Nat.reduceLT, Nat.reduceMul, Nat.reduceBEq, Int.reduceEq, Int.reduceLT, Int.reduceLE, Int.reduceNeg, Int.reduceToNat, reduceCtorEq, ho, Try.results38, e.enc_eq]); rfl)))
  simp only [go_sem, Nat.reduceEqDiff, Nat.reduceAdd, Nat.reduceSub, Nat.reduceLeDiff, Nat.reduceLT, Nat.reduceMul, Nat.reduceBEq, Int.reduceEq, Int.reduceLT, Int.reduceLE, Int.reduceNeg, Int.reduceToNat, reduceCtorEq, ho, Try.results38, hf, hop]
  have hl100 : e.args.length ≤ 100000000 := by omega
  have hllen : l.length = e.args.length := by rw [hleq]; simp
  have hpos := fits_pos (op := 6) (l := l) (by rw [hllen]; exact hfit) (by decide) (by decide)
  have hm : (e.args.length : Int) * (((32 : Nat) : Int) + 1) ≤ 140737488355328 := by omega
  simp only [go_sem, Nat.reduceEqDiff, Nat.reduceAdd, Nat.reduceSub, Nat.reduceLeDiff, Nat.reduceLT, Nat.reduceMul, Nat.reduceBEq, Int.reduceEq, Int.reduceLT, Int.reduceLE, Int.reduceNeg, Int.reduceToNat, reduceCtorEq, ho, Try.results38, List.length_map, Int.natCast_nonneg, hm, true_and, Int.toNat_natCast, Int.le_refl]
  refine ⟨fun m st => ∃ (done rest : List Ex), e.args = done ++ rest ∧ rest.length = m ∧ st.s 54 = .int .i64 done.length ∧ st.s 53 = .int .i64 e.args.length ∧ st.s 52 = .sl (e.args.map Ex.enc) ∧ st.s 5 = .ref 50 1 ∧ st.o 50 = (1, some (true, .row 42 ((done.map fun x => (x.eval row).enc) ++ List.replicate rest.length (PV.agg [PV.int IntKind.i64 0, PV.int IntKind.i64 0, PV.str ⟨#[]⟩])))) ∧ st.s 1 = .sl (row.map Vl.enc) ∧ st.s 2 = .ptr 2 1 0 ∧ st.s 4 = .ptr 4 1 0 ∧ getBox st.o 2 1 = some (49, e.enc.cells) ∧ st.o 4 = (1, some (true, .box 42 [.int .i64 0, .int .i64 0, .str ⟨#[]⟩])), e.args.length,
    ⟨[], e.args, rfl, rfl, by simp only [go_sem, Nat.reduceEqDiff, Nat.reduceAdd, Nat.reduceSub, Nat.reduceLeDiff, Nat.reduceLT, Nat.reduceMul, Nat.reduceBEq, Int.reduceEq, Int.reduceLT, Int.reduceLE, Int.reduceNeg, Int.reduceToNat, reduceCtorEq, ho, Try.results38]; rfl, by simp only [go_sem, Nat.reduceEqDiff, Nat.reduceAdd, Nat.reduceSub, Nat.reduceLeDiff, Nat.reduceLT, Nat.reduceMul, Nat.reduceBEq, Int.reduceEq, Int.reduceLT, Int.reduceLE, Int.reduceNeg, Int.reduceToNat, reduceCtorEq, ho, Try.results38], by simp only [go_sem, Nat.reduceEqDiff, Nat.reduceAdd, Nat.reduceSub, Nat.reduceLeDiff, Nat.reduceLT, Nat.reduceMul, Nat.reduceBEq, Int.reduceEq, Int.reduceLT, Int.reduceLE, Int.reduceNeg, Int.reduceToNat, reduceCtorEq, ho, Try.results38], by simp only [go_sem, Nat.reduceEqDiff, Nat.reduceAdd, Nat.reduceSub, Nat.reduceLeDiff, Nat.reduceLT, Nat.reduceMul, Nat.reduceBEq, Int.reduceEq, Int.reduceLT, Int.reduceLE, Int.reduceNeg, Int.reduceToNat, reduceCtorEq, ho, Try.results38], by simp only [go_sem, Nat.reduceEqDiff, Nat.reduceAdd, Nat.reduceSub, Nat.reduceLeDiff, Nat.reduceLT, Nat.reduceMul, Nat.reduceBEq, Int.reduceEq, Int.reduceLT, Int.reduceLE, Int.reduceNeg, Int.reduceToNat, reduceCtorEq, ho, Try.results38, List.map_nil, List.nil_append], by simp only [go_sem, Nat.reduceEqDiff, Nat.reduceAdd, Nat.reduceSub, Nat.reduceLeDiff, Nat.reduceLT, Nat.reduceMul, Nat.reduceBEq, Int.reduceEq, Int.reduceLT, Int.reduceLE, Int.reduceNeg, Int.reduceToNat, reduceCtorEq, ho, Try.results38], by simp only [go_sem, Nat.reduceEqDiff, Nat.reduceAdd, Nat.reduceSub, Nat.reduceLeDiff, Nat.reduceLT, Nat.reduceMul, Nat.reduceBEq, Int.reduceEq, Int.reduceLT, Int.reduceLE, Int.reduceNeg, Int.reduceToNat, reduceCtorEq, ho, Try.results38], by simp only [go_sem, Nat.reduceEqDiff, Nat.reduceAdd, Nat.reduceSub, Nat.reduceLeDiff, Nat.reduceLT, Nat.reduceMul, Nat.reduceBEq, Int.reduceEq, Int.reduceLT, Int.reduceLE, Int.reduceNeg, Int.reduceToNat, reduceCtorEq, ho, Try.results38], by simp only [go_sem, Nat.reduceEqDiff, Nat.reduceAdd, Nat.reduceSub, Nat.reduceLeDiff, Nat.reduceLT, Nat.reduceMul, Nat.reduceBEq, Int.reduceEq, Int.reduceLT, Int.reduceLE, Int.reduceNeg, Int.reduceToNat, reduceCtorEq, ho, Try.results38, hop], by simp only [go_sem, Nat.reduceEqDiff, Nat.reduceAdd, Nat.reduceSub, Nat.reduceLeDiff, Nat.reduceLT, Nat.reduceMul, Nat.reduceBEq, Int.reduceEq, Int.reduceLT, Int.reduceLE, Int.reduceNeg, Int.reduceToNat, reduceCtorEq, ho, Try.results38]⟩, ?_⟩
  rintro m st ⟨done, rest, hl', hm', h54, h53, h52, h5, h50, hs1, hs2, hs4, hb2, hb4⟩
  have hlen2 : done.length + rest.length = e.args.length := by rw [hl']; simp
  have hw : IntKind.i64.wrap ((done.length : Int) + 1) = (done.length : Int) + 1 := wrap_fits (by omega) (by omega)
  cases rest with
  | nil =>
    have hlt : ¬ (done.length : Int) < (e.args.length : Int) := by simp at hlen2; omega
    obtain hdone : e.args = done := by simpa using hl'
    simp only [List.length_nil, List.replicate, List.append_nil] at h50
    have hrw : (done.map fun x => (x.eval row).enc) = l.map Vl.enc := by rw [hleq, hdone]; simp
    rw [hrw] at h50
    have hrow : getRow st.o 50 1 = some (42, l.map Vl.enc) := by simp [getRow, h50]
    have hvv : ∀ v ∈ l, v.valid = true := fun v hv => by rw [hleq] at hv; obtain ⟨x, _, rfl⟩ := List.mem_map.1 hv; exact Ex.eval_valid row x
    have hg0 := nth_get hpos
    have hl0 : (0 : Int) < (l.length : Int) := by omega
    clear hleq hrw
    simp only [go_sem, Nat.reduceEqDiff, Nat.reduceAdd, Nat.reduceSub, Nat.reduceLeDiff, Nat.reduceLT, Nat.reduceMul, Nat.reduceBEq, Int.reduceEq, Int.reduceLT, Int.reduceLE, Int.reduceNeg, Int.reduceToNat, reduceCtorEq, ho, Try.results38, h54, h53, hlt, hop, h5, hs2, hs4, hb2, hb4]
    refine GCall.fr ?_ (logicL_fn 6 l (by omega) hpos) (.inl rfl) ?_; (focus (first | rfl | ((simp only [go_sem, Nat.reduceEqDiff, Nat.reduceAdd, Nat.reduceSub, Nat.reduceLeDiff, Nat.reduceLT, Nat.reduceMul, Nat.reduceBEq, Int.reduceEq, Int.reduceLT, Int.reduceLE, Int.reduceNeg, Int.reduceToNat, reduceCtorEq, ho, Try.results38, hop, hrow]); done) | ((simp only [go_sem, Nat.reduceEqDiff, Nat.reduceAdd, Nat.reduceSub, Nat.reduceLeDiff, Nat.reduceLT, Nat.reduceMul, Nat.reduceBEq, Int.reduceEq, Int.reduceLT, Int.reduceLE, Int.reduceNeg, Int.reduceToNat, reduceCtorEq, ho, Try.results38, hop, hrow]); rfl)))
    simp only [go_sem, Nat.reduceEqDiff, Nat.reduceAdd, Nat.reduceSub, Nat.reduceLeDiff, Nat.reduceLT, Nat.reduceMul, Nat.reduceBEq, Int.reduceEq, Int.reduceLT, Int.reduceLE, Int.reduceNeg, Int.reduceToNat, reduceCtorEq, ho, Try.results38, Vl.enc, h5, hs2, hs4, hb2, hb4]
    rw [evo_6]; exact ⟨rfl, rfl, rfl⟩
  | cons x rest =>
    have hlt : (done.length : Int) < (e.args.length : Int) := by simp at hlen2; omega
    have hget : (e.args.map Ex.enc)[done.length]? = some x.enc := by simp [hl']
    have hxs : x.size ≤ n := by have := hsz; rw [hl', Ex.sizes_app] at this; simp [Ex.sizes] at this; omega
    have hx50 : getRow st.o 50 1 = some (42, (done.map fun x => (x.eval row).enc) ++ List.replicate (rest.length + 1) (PV.agg [PV.int IntKind.i64 0, PV.int IntKind.i64 0, PV.str ⟨#[]⟩])) := by rw [getRow, h50]; rfl
    have hxl : (done.length : Int) < (((done.map fun x => (x.eval row).enc) ++ List.replicate (rest.length + 1) (PV.agg [PV.int IntKind.i64 0, PV.int IntKind.i64 0, PV.str ⟨#[]⟩])).length : Nat) := by simp; omega
    have hx0 : ((done.map fun x => (x.eval row).enc) ++ List.replicate (rest.length + 1) (PV.agg [PV.int IntKind.i64 0, PV.int IntKind.i64 0, PV.str ⟨#[]⟩]))[done.length]? = some (PV.agg [PV.int IntKind.i64 0, PV.int IntKind.i64 0, PV.str ⟨#[]⟩]) := by simp
    rw [List.length_cons] at h50
    simp only [go_sem, Nat.reduceEqDiff, Nat.reduceAdd, Nat.reduceSub, Nat.reduceLeDiff, Nat.reduceLT, Nat.reduceMul, Nat.reduceBEq, Int.reduceEq, Int.reduceLT, Int.reduceLE, Int.reduceNeg, Int.reduceToNat, reduceCtorEq, ho, Try.results38, h54, h53, h52, hlt, hget, Int.natCast_nonneg, Int.toNat_natCast, h5, hs1, hs2, hs4, hb2, hb4, x.enc_eq]
    refine GCall.fr ?_ (IH x hxs) (.inl rfl) ?_; (focus (first | rfl | ((simp only [go_sem, Nat.reduceEqDiff, Nat.reduceAdd, Nat.reduceSub, Nat.reduceLeDiff, Nat.reduceLT, Nat.reduceMul, Nat.reduceBEq, Int.reduceEq, Int.reduceLT, Int.reduceLE, Int.reduceNeg, Int.reduceToNat, reduceCtorEq, ho, Try.results38, x.enc_eq, hs1]); done) | ((simp only [go_sem, Nat.reduceEqDiff, Nat.reduceAdd, Nat.reduceSub, Nat.reduceLeDiff, Nat.reduceLT, Nat.reduceMul, Nat.reduceBEq, Int.reduceEq, Int.reduceLT, Int.reduceLE, Int.reduceNeg, Int.reduceToNat, reduceCtorEq, ho, Try.results38, x.enc_eq, hs1]); rfl)))
    simp only [go_sem, Nat.reduceEqDiff, Nat.reduceAdd, Nat.reduceSub, Nat.reduceLeDiff, Nat.reduceLT, Nat.reduceMul, Nat.reduceBEq, Int.reduceEq, Int.reduceLT, Int.reduceLE, Int.reduceNeg, Int.reduceToNat, reduceCtorEq, ho, Try.results38, h54, h53, h52, h5, hx50, hxl, hx0, h50, Int.natCast_nonneg, Int.toNat_natCast, hs1, hs2, hs4, hb2, hb4, hw]
    refine ⟨rest.length, by simp at hm'; omega, done ++ [x], rest, by simp [hl'], rfl, by simp, ?_⟩
    simp [List.set_append, List.replicate_succ]
theorem evalc_21 (row : List Vl) (n : Nat) (hn : n + 1 ≤ 100000000) (IH : ∀ x : Ex, x.size ≤ n → Fc 38 [x.enc, .sl (row.map Vl.enc)] (x.eval row).enc) (e : Ex) (h : e.size ≤ n + 1) (hf : e.formed = true) (hop : e.op = 21) : Fc 38 [e.enc, .sl (row.map Vl.enc)] (e.eval row).enc := by
  obtain ⟨l, hleq⟩ : ∃ l, l = e.args.map (Ex.eval row) := ⟨_, rfl⟩
  have hev : e.eval row = evalOp row 21 e.int e.val (e.args.map (Ex.eval row)) := by rw [Ex.eval_eq, hf, hop]; rfl
  have hsz := e.size_eq
  have hlen := Ex.len_sizes e.args
  have hfit := formed_len hf
  rw [hop] at hfit
  rw [← hleq] at hev
  refine fn_of_awp (E := E0) (M := M0) follows Try.func38 rfl (by decide) ok38 (by decide) (by simp) fun o ho => ?_
  rw [hev]
  clear hev
  simp only [go_sem, Nat.reduceEqDiff, Nat.reduceAdd, Nat.reduceSub, Nat.reduceLeDiff, Nat.reduceLT, Nat.reduceMul, Nat.reduceBEq, Int.reduceEq, Int.reduceLT, Int.reduceLE, Int.reduceNeg, Int.reduceToNat, reduceCtorEq, ho, Try.results38, e.enc_eq]
  refine GCall.fr ?_ (formed_fn e) (.inl rfl) ?_; (focus (first | rfl | ((simp only [go_sem, Nat.reduceEqDiff, Nat.reduceAdd, Nat.reduceSub, Nat.reduceLeDiff, Nat.reduceLT, Nat.reduceMul, Nat.reduceBEq, Int.reduceEq, Int.reduceLT, Int.reduceLE, Int.reduceNeg, Int.reduceToNat, reduceCtorEq, ho, Try.results38, e.enc_eq]); done) | ((simp only [go_sem, Nat.reduceEqDiff, Nat.reduceAdd, Nat.reduceSub, Nat.reduceLeDiff, Nat.reduceLT, Nat.reduceMul, Nat.reduceBEq, Int.reduceEq, Int.reduceLT, Int.reduceLE, Int.reduceNeg, Int.reduceToNat, reduceCtorEq, ho, Try.results38, e.enc_eq]); rfl)))
  simp only [go_sem, Nat.reduceEqDiff, Nat.reduceAdd, Nat.reduceSub, Nat.reduceLeDiff, Nat.reduceLT, Nat.reduceMul, Nat.reduceBEq, Int.reduceEq, Int.reduceLT, Int.reduceLE, Int.reduceNeg, Int.reduceToNat, reduceCtorEq, ho, Try.results38, hf, hop]
  have hl100 : e.args.length ≤ 100000000 := by omega
  have hllen : l.length = e.args.length := by rw [hleq]; simp
  have hpos := fits_pos (op := 21) (l := l) (by rw [hllen]; exact hfit) (by decide) (by decide)
  have hm : (e.args.length : Int) * (((32 : Nat) : Int) + 1) ≤ 140737488355328 := by omega
  simp only [go_sem, Nat.reduceEqDiff, Nat.reduceAdd, Nat.reduceSub, Nat.reduceLeDiff, Nat.reduceLT, Nat.reduceMul, Nat.reduceBEq, Int.reduceEq, Int.reduceLT, Int.reduceLE, Int.reduceNeg, Int.reduceToNat, reduceCtorEq, ho, Try.results38, List.length_map, Int.natCast_nonneg, hm, true_and, Int.toNat_natCast, Int.le_refl]
  refine ⟨fun m st => ∃ (done rest : List Ex), e.args = done ++ rest ∧ rest.length = m ∧ st.s 54 = .int .i64 done.length ∧ st.s 53 = .int .i64 e.args.length ∧ st.s 52 = .sl (e.args.map Ex.enc) ∧ st.s 5 = .ref 50 1 ∧ st.o 50 = (1, some (true, .row 42 ((done.map fun x => (x.eval row).enc) ++ List.replicate rest.length (PV.agg [PV.int IntKind.i64 0, PV.int IntKind.i64 0, PV.str ⟨#[]⟩])))) ∧ st.s 1 = .sl (row.map Vl.enc) ∧ st.s 2 = .ptr 2 1 0 ∧ st.s 4 = .ptr 4 1 0 ∧ getBox st.o 2 1 = some (49, e.enc.cells) ∧ st.o 4 = (1, some (true, .box 42 [.int .i64 0, .int .i64 0, .str ⟨#[]⟩])), e.args.length,
    ⟨[], e.args, rfl, rfl, by simp only [go_sem, Nat.reduceEqDiff, Nat.reduceAdd, Nat.reduceSub, Nat.reduceLeDiff, Nat.reduceLT, Nat.reduceMul, Nat.reduceBEq, Int.reduceEq, Int.reduceLT, Int.reduceLE, Int.reduceNeg, Int.reduceToNat, reduceCtorEq, ho, Try.results38]; rfl, by simp only [go_sem, Nat.reduceEqDiff, Nat.reduceAdd, Nat.reduceSub, Nat.reduceLeDiff, Nat.reduceLT, Nat.reduceMul, Nat.reduceBEq, Int.reduceEq, Int.reduceLT, Int.reduceLE, Int.reduceNeg, Int.reduceToNat, reduceCtorEq, ho, Try.results38], by simp only [go_sem, Nat.reduceEqDiff, Nat.reduceAdd, Nat.reduceSub, Nat.reduceLeDiff, Nat.reduceLT, Nat.reduceMul, Nat.reduceBEq, Int.reduceEq, Int.reduceLT, Int.reduceLE, Int.reduceNeg, Int.reduceToNat, reduceCtorEq, ho, Try.results38], by simp only [go_sem, Nat.reduceEqDiff, Nat.reduceAdd, Nat.reduceSub, Nat.reduceLeDiff, Nat.reduceLT, Nat.reduceMul, Nat.reduceBEq, Int.reduceEq, Int.reduceLT, Int.reduceLE, Int.reduceNeg, Int.reduceToNat, reduceCtorEq, ho, Try.results38], by simp only [go_sem, Nat.reduceEqDiff, Nat.reduceAdd, Nat.reduceSub, Nat.reduceLeDiff, Nat.reduceLT, Nat.reduceMul, Nat.reduceBEq, Int.reduceEq, Int.reduceLT, Int.reduceLE, Int.reduceNeg, Int.reduceToNat, reduceCtorEq, ho, Try.results38, List.map_nil, List.nil_append], by simp only [go_sem, Nat.reduceEqDiff, Nat.reduceAdd, Nat.reduceSub, Nat.reduceLeDiff, Nat.reduceLT, Nat.reduceMul, Nat.reduceBEq, Int.reduceEq, Int.reduceLT, Int.reduceLE, Int.reduceNeg, Int.reduceToNat, reduceCtorEq, ho, Try.results38], by simp only [go_sem, Nat.reduceEqDiff, Nat.reduceAdd, Nat.reduceSub, Nat.reduceLeDiff, Nat.reduceLT, Nat.reduceMul, Nat.reduceBEq, Int.reduceEq, Int.reduceLT, Int.reduceLE, Int.reduceNeg, Int.reduceToNat, reduceCtorEq, ho, Try.results38], by simp only [go_sem, Nat.reduceEqDiff, Nat.reduceAdd, Nat.reduceSub, Nat.reduceLeDiff, Nat.reduceLT, Nat.reduceMul, Nat.reduceBEq, Int.reduceEq, Int.reduceLT, Int.reduceLE, Int.reduceNeg, Int.reduceToNat, reduceCtorEq, ho, Try.results38], by simp only [go_sem, Nat.reduceEqDiff, Nat.reduceAdd, Nat.reduceSub, Nat.reduceLeDiff, Nat.reduceLT, Nat.reduceMul, Nat.reduceBEq, Int.reduceEq, Int.reduceLT, Int.reduceLE, Int.reduceNeg, Int.reduceToNat, reduceCtorEq, ho, Try.results38, hop], by simp only [go_sem, Nat.reduceEqDiff, Nat.reduceAdd, Nat.reduceSub, Nat.reduceLeDiff, Nat.reduceLT, Nat.reduceMul, Nat.reduceBEq, Int.reduceEq, Int.reduceLT, Int.reduceLE, Int.reduceNeg, Int.reduceToNat, reduceCtorEq, ho, Try.results38]⟩, ?_⟩
  rintro m st ⟨done, rest, hl', hm', h54, h53, h52, h5, h50, hs1, hs2, hs4, hb2, hb4⟩
  have hlen2 : done.length + rest.length = e.args.length := by rw [hl']; simp
  have hw : IntKind.i64.wrap ((done.length : Int) + 1) = (done.length : Int) + 1 := wrap_fits (by omega) (by omega)
  cases rest with
  | nil =>
    have hlt : ¬ (done.length : Int) < (e.args.length : Int) := by simp at hlen2; omega
    obtain hdone : e.args = done := by simpa using hl'
    simp only [List.length_nil, List.replicate, List.append_nil] at h50
    have hrw : (done.map fun x => (x.eval row).enc) = l.map Vl.enc := by rw [hleq, hdone]; simp
    rw [hrw] at h50
    have hrow : getRow st.o 50 1 = some (42, l.map Vl.enc) := by simp [getRow, h50]
    have hvv : ∀ v ∈ l, v.valid = true := fun v hv => by rw [hleq] at hv; obtain ⟨x, _, rfl⟩ := List.mem_map.1 hv; exact Ex.eval_valid row x
    have hg0 := nth_get hpos
    have hl0 : (0 : Int) < (l.length : Int) := by omega
    clear hleq hrw
    simp only [go_sem, Nat.reduceEqDiff, Nat.reduceAdd, Nat.reduceSub, Nat.reduceLeDiff, Nat.reduceLT, Nat.reduceMul, Nat.reduceBEq, Int.reduceEq, Int.reduceLT, Int.reduceLE, Int.reduceNeg, Int.reduceToNat, reduceCtorEq, ho, Try.results38, h54, h53, hlt, hop, h5, hs2, hs4, hb2, hb4, hrow, hg0, hl0]
    refine GCall.fr ?_ (bool_fn (decide ((nth l 0).kind = 0))) (.inl rfl) ?_; (focus (first | rfl | ((simp only [go_sem, Nat.reduceEqDiff, Nat.reduceAdd, Nat.reduceSub, Nat.reduceLeDiff, Nat.reduceLT, Nat.reduceMul, Nat.reduceBEq, Int.reduceEq, Int.reduceLT, Int.reduceLE, Int.reduceNeg, Int.reduceToNat, reduceCtorEq, ho, Try.results38]); done) | ((simp only [go_sem, Nat.reduceEqDiff, Nat.reduceAdd, Nat.reduceSub, Nat.reduceLeDiff, Nat.reduceLT, Nat.reduceMul, Nat.reduceBEq, Int.reduceEq, Int.reduceLT, Int.reduceLE, Int.reduceNeg, Int.reduceToNat, reduceCtorEq, ho, Try.results38]); rfl)))
    simp only [go_sem, Nat.reduceEqDiff, Nat.reduceAdd, Nat.reduceSub, Nat.reduceLeDiff, Nat.reduceLT, Nat.reduceMul, Nat.reduceBEq, Int.reduceEq, Int.reduceLT, Int.reduceLE, Int.reduceNeg, Int.reduceToNat, reduceCtorEq, ho, Try.results38, Vl.enc, h5, hs2, hs4, hb2, hb4]
    rw [evo_21]; exact ⟨rfl, rfl, rfl⟩
  | cons x rest =>
    have hlt : (done.length : Int) < (e.args.length : Int) := by simp at hlen2; omega
    have hget : (e.args.map Ex.enc)[done.length]? = some x.enc := by simp [hl']
    have hxs : x.size ≤ n := by have := hsz; rw [hl', Ex.sizes_app] at this; simp [Ex.sizes] at this; omega
    have hx50 : getRow st.o 50 1 = some (42, (done.map fun x => (x.eval row).enc) ++ List.replicate (rest.length + 1) (PV.agg [PV.int IntKind.i64 0, PV.int IntKind.i64 0, PV.str ⟨#[]⟩])) := by rw [getRow, h50]; rfl
    have hxl : (done.length : Int) < (((done.map fun x => (x.eval row).enc) ++ List.replicate (rest.length + 1) (PV.agg [PV.int IntKind.i64 0, PV.int IntKind.i64 0, PV.str ⟨#[]⟩])).length : Nat) := by simp; omega
    have hx0 : ((done.map fun x => (x.eval row).enc) ++ List.replicate (rest.length + 1) (PV.agg [PV.int IntKind.i64 0, PV.int IntKind.i64 0, PV.str ⟨#[]⟩]))[done.length]? = some (PV.agg [PV.int IntKind.i64 0, PV.int IntKind.i64 0, PV.str ⟨#[]⟩]) := by simp
    rw [List.length_cons] at h50
    simp only [go_sem, Nat.reduceEqDiff, Nat.reduceAdd, Nat.reduceSub, Nat.reduceLeDiff, Nat.reduceLT, Nat.reduceMul, Nat.reduceBEq, Int.reduceEq, Int.reduceLT, Int.reduceLE, Int.reduceNeg, Int.reduceToNat, reduceCtorEq, ho, Try.results38, h54, h53, h52, hlt, hget, Int.natCast_nonneg, Int.toNat_natCast, h5, hs1, hs2, hs4, hb2, hb4, x.enc_eq]
    refine GCall.fr ?_ (IH x hxs) (.inl rfl) ?_; (focus (first | rfl | ((simp only [go_sem, Nat.reduceEqDiff, Nat.reduceAdd, Nat.reduceSub, Nat.reduceLeDiff, Nat.reduceLT, Nat.reduceMul, Nat.reduceBEq, Int.reduceEq, Int.reduceLT, Int.reduceLE, Int.reduceNeg, Int.reduceToNat, reduceCtorEq, ho, Try.results38, x.enc_eq, hs1]); done) | ((simp only [go_sem, Nat.reduceEqDiff, Nat.reduceAdd, Nat.reduceSub, Nat.reduceLeDiff, Nat.reduceLT, Nat.reduceMul, Nat.reduceBEq, Int.reduceEq, Int.reduceLT, Int.reduceLE, Int.reduceNeg, Int.reduceToNat, reduceCtorEq, ho, Try.results38, x.enc_eq, hs1]); rfl)))
    simp only [go_sem, Nat.reduceEqDiff, Nat.reduceAdd, Nat.reduceSub, Nat.reduceLeDiff, Nat.reduceLT, Nat.reduceMul, Nat.reduceBEq, Int.reduceEq, Int.reduceLT, Int.reduceLE, Int.reduceNeg, Int.reduceToNat, reduceCtorEq, ho, Try.results38, h54, h53, h52, h5, hx50, hxl, hx0, h50, Int.natCast_nonneg, Int.toNat_natCast, hs1, hs2, hs4, hb2, hb4, hw]
    refine ⟨rest.length, by simp at hm'; omega, done ++ [x], rest, by simp [hl'], rfl, by simp, ?_⟩
    simp [List.set_append, List.replicate_succ]
end Go.Proofs.Ytiefnninebilbaa
/- What the evaluation of an expression returns, operator by operator; no condition. -/
set_option maxRecDepth 100000
set_option linter.unusedVariables false
set_option linter.unusedSimpArgs false
namespace Go.Proofs.Ytiefnninebilbaa
open Go Go.Sx

theorem evalc_23 (row : List Vl) (n : Nat) (hn : n + 1 ≤ 100000000) (IH : ∀ x : Ex, x.size ≤ n → Fc 38 [x.enc, .sl (row.map Vl.enc)] (x.eval row).enc) (e : Ex) (h : e.size ≤ n + 1) (hf : e.formed = true) (hop : e.op = 23) : Fc 38 [e.enc, .sl (row.map Vl.enc)] (e.eval row).enc := by
  obtain ⟨l, hleq⟩ : ∃ l, l = e.args.map (Ex.eval row) := ⟨_, rfl⟩
  have hev : e.eval row = evalOp row 23 e.int e.val (e.args.map (Ex.eval row)) := by rw [Ex.eval_eq, hf, hop]; rfl
  have hsz := e.size_eq
  have hlen := Ex.len_sizes e.args
  have hfit := formed_len hf
  rw [hop] at hfit
  rw [← hleq] at hev
  refine fn_of_awp (E := E0) (M := M0) follows Try.func38 rfl (by decide) ok38 (by decide) (by simp) fun o ho => ?_
  rw [hev]
  clear hev
  simp only [go_sem, Nat.reduceEqDiff, Nat.reduceAdd, Nat.reduceSub, Nat.reduceLeDiff, Nat.reduceLT, Nat.reduceMul, Nat.reduceBEq, Int.reduceEq, Int.reduceLT, Int.reduceLE, Int.reduceNeg, Int.reduceToNat, reduceCtorEq, ho, Try.results38, e.enc_eq]
  refine GCall.fr ?_ (formed_fn e) (.inl rfl) ?_; (focus (first | rfl | ((simp only [go_sem, Nat.reduceEqDiff, Nat.reduceAdd, Nat.reduceSub, Nat.reduceLeDiff, Nat.reduceLT, Nat.reduceMul, Nat.reduceBEq, Int.reduceEq, Int.reduceLT, Int.reduceLE, Int.reduceNeg, Int.reduceToNat, reduceCtorEq, ho, Try.results38, e.enc_eq]); done) | ((simp only [go_sem, Nat.reduceEqDiff, Nat.reduceAdd, Nat.reduceSub, Nat.reduceLeDiff, Nat.reduceLT, Nat.reduceMul, Nat.reduceBEq, Int.reduceEq, Int.reduceLT, Int.reduceLE, Int.reduceNeg, Int.reduceToNat, reduceCtorEq, ho, Try.results38, e.enc_eq]); rfl)))
  simp only [go_sem, Nat.reduceEqDiff, Nat.reduceAdd, Nat.reduceSub, Nat.reduceLeDiff, Nat.reduceLT, Nat.reduceMul, Nat.reduceBEq, Int.reduceEq, Int.reduceLT, Int.reduceLE, Int.reduceNeg, Int.reduceToNat, reduceCtorEq, ho, Try.results38, hf, hop]
  have hl100 : e.args.length ≤ 100000000 := by omega
  have hllen : l.length = e.args.length := by rw [hleq]; simp
  have hpos := fits_pos (op := 23) (l := l) (by rw [hllen]; exact hfit) (by decide) (by decide)
  have hm : (e.args.length : Int) * (((32 : Nat) : Int) + 1) ≤ 140737488355328 := by omega
  simp only [go_sem, Nat.reduceEqDiff, Nat.reduceAdd, Nat.reduceSub, Nat.reduceLeDiff, Nat.reduceLT, Nat.reduceMul, Nat.reduceBEq, Int.reduceEq, Int.reduceLT, Int.reduceLE, Int.reduceNeg, Int.reduceToNat, reduceCtorEq, ho, Try.results38, List.length_map, Int.natCast_nonneg, hm, true_and, Int.toNat_natCast, Int.le_refl]
  refine ⟨fun m st => ∃ (done rest : List Ex), e.args = done ++ rest ∧ rest.length = m ∧ st.s 54 = .int .i64 done.length ∧ st.s 53 = .int .i64 e.args.length ∧ st.s 52 = .sl (e.args.map Ex.enc) ∧ st.s 5 = .ref 50 1 ∧ st.o 50 = (1, some (true, .row 42 ((done.map fun x => (x.eval row).enc) ++ List.replicate rest.length (PV.agg [PV.int IntKind.i64 0, PV.int IntKind.i64 0, PV.str ⟨#[]⟩])))) ∧ st.s 1 = .sl (row.map Vl.enc) ∧ st.s 2 = .ptr 2 1 0 ∧ st.s 4 = .ptr 4 1 0 ∧ getBox st.o 2 1 = some (49, e.enc.cells) ∧ st.o 4 = (1, some (true, .box 42 [.int .i64 0, .int .i64 0, .str ⟨#[]⟩])), e.args.length,
    ⟨[], e.args, rfl, rfl, by simp only [go_sem, Nat.reduceEqDiff, Nat.reduceAdd, Nat.reduceSub, Nat.reduceLeDiff, Nat.reduceLT, Nat.reduceMul, Nat.reduceBEq, Int.reduceEq, Int.reduceLT, Int.reduceLE, Int.reduceNeg, Int.reduceToNat, reduceCtorEq, ho, Try.results38]; rfl, by simp only [go_sem, Nat.reduceEqDiff, Nat.reduceAdd, Nat.reduceSub, Nat.reduceLeDiff, Nat.reduceLT, Nat.reduceMul, Nat.reduceBEq, Int.reduceEq, Int.reduceLT, Int.reduceLE, Int.reduceNeg, Int.reduceToNat, reduceCtorEq, ho, Try.results38], by simp only [go_sem, Nat.reduceEqDiff, Nat.reduceAdd, Nat.reduceSub, Nat.reduceLeDiff, Nat.reduceLT, Nat.reduceMul, Nat.reduceBEq, Int.reduceEq, Int.reduceLT, Int.reduceLE, Int.reduceNeg, Int.reduceToNat, reduceCtorEq, ho, Try.results38], by simp only [go_sem, Nat.reduceEqDiff, Nat.reduceAdd, Nat.reduceSub, Nat.reduceLeDiff, Nat.reduceLT, Nat.reduceMul, Nat.reduceBEq, Int.reduceEq, Int.reduceLT, Int.reduceLE, Int.reduceNeg, Int.reduceToNat, reduceCtorEq, ho, Try.results38], by simp only [go_sem, Nat.reduceEqDiff, Nat.reduceAdd, Nat.reduceSub, Nat.reduceLeDiff, Nat.reduceLT, Nat.reduceMul, Nat.reduceBEq, Int.reduceEq, Int.reduceLT, Int.reduceLE, Int.reduceNeg, Int.reduceToNat, reduceCtorEq, ho, Try.results38, List.map_nil, List.nil_append], by simp only [go_sem, Nat.reduceEqDiff, Nat.reduceAdd, Nat.reduceSub, Nat.reduceLeDiff, Nat.reduceLT, Nat.reduceMul, Nat.reduceBEq, Int.reduceEq, Int.reduceLT, Int.reduceLE, Int.reduceNeg, Int.reduceToNat, reduceCtorEq, ho, Try.results38], by simp only [go_sem, Nat.reduceEqDiff, Nat.reduceAdd, Nat.reduceSub, Nat.reduceLeDiff, Nat.reduceLT, Nat.reduceMul, Nat.reduceBEq, Int.reduceEq, Int.reduceLT, Int.reduceLE, Int.reduceNeg, Int.reduceToNat, reduceCtorEq, ho, Try.results38], by simp only [go_sem, Nat.reduceEqDiff, Nat.reduceAdd, Nat.reduceSub, Nat.reduceLeDiff, Nat.reduceLT, Nat.reduceMul, Nat.reduceBEq, Int.reduceEq, Int.reduceLT, Int.reduceLE, Int.reduceNeg, Int.reduceToNat, reduceCtorEq, ho, Try.results38], by simp only [go_sem, Nat.reduceEqDiff, Nat.reduceAdd, Nat.reduceSub, Nat.reduceLeDiff, Nat.reduceLT, Nat.reduceMul, Nat.reduceBEq, Int.reduceEq, Int.reduceLT, Int.reduceLE, Int.reduceNeg, Int.reduceToNat, reduceCtorEq, ho, Try.results38, hop], by simp only [go_sem, Nat.reduceEqDiff, Nat.reduceAdd, Nat.reduceSub, Nat.reduceLeDiff, Nat.reduceLT, Nat.reduceMul, Nat.reduceBEq, Int.reduceEq, Int.reduceLT, Int.reduceLE, Int.reduceNeg, Int.reduceToNat, reduceCtorEq, ho, Try.results38]⟩, ?_⟩
  rintro m st ⟨done, rest, hl', hm', h54, h53, h52, h5, h50, hs1, hs2, hs4, hb2, hb4⟩
  have hlen2 : done.length + rest.length = e.args.length := by rw [hl']; simp
  have hw : IntKind.i64.wrap ((done.length : Int) + 1) = (done.length : Int) + 1 := wrap_fits (by omega) (by omega)
  cases rest with
  | nil =>
    have hlt : ¬ (done.length : Int) < (e.args.length : Int) := by simp at hlen2; omega
    obtain hdone : e.args = done := by simpa using hl'
    simp only [List.length_nil, List.replicate, List.append_nil] at h50
    have hrw : (done.map fun x => (x.eval row).enc) = l.map Vl.enc := by rw [hleq, hdone]; simp
    rw [hrw] at h50
    have hrow : getRow st.o 50 1 = some (42, l.map Vl.enc) := by simp [getRow, h50]
    have hvv : ∀ v ∈ l, v.valid = true := fun v hv => by rw [hleq] at hv; obtain ⟨x, _, rfl⟩ := List.mem_map.1 hv; exact Ex.eval_valid row x
    have hg0 := nth_get hpos
    have hl0 : (0 : Int) < (l.length : Int) := by omega
    clear hleq hrw
    simp only [go_sem, Nat.reduceEqDiff, Nat.reduceAdd, Nat.reduceSub, Nat.reduceLeDiff, Nat.reduceLT, Nat.reduceMul, Nat.reduceBEq, Int.reduceEq, Int.reduceLT, Int.reduceLE, Int.reduceNeg, Int.reduceToNat, reduceCtorEq, ho, Try.results38, h54, h53, hlt, hop, h5, hs2, hs4, hb2, hb4, hrow]
    refine ⟨fun m st => ∃ (done rest : List Vl), l = done ++ rest ∧ rest.length = m ∧ firstV rest = firstV l ∧ st.s 88 = .int .i64 done.length ∧ st.s 87 = .int .i64 l.length ∧ st.s 86 = .ref 50 1 ∧ getRow st.o 50 1 = some (42, l.map Vl.enc) ∧ st.s 4 = .ptr 4 1 0 ∧ st.o 4 = (1, some (true, .box 42 [.int .i64 0, .int .i64 0, .str ⟨#[]⟩])), l.length,
      ⟨[], l, rfl, rfl, rfl, by simp only [go_sem, Nat.reduceEqDiff, Nat.reduceAdd, Nat.reduceSub, Nat.reduceLeDiff, Nat.reduceLT, Nat.reduceMul, Nat.reduceBEq, Int.reduceEq, Int.reduceLT, Int.reduceLE, Int.reduceNeg, Int.reduceToNat, reduceCtorEq, ho, Try.results38]; rfl, by simp only [go_sem, Nat.reduceEqDiff, Nat.reduceAdd, Nat.reduceSub, Nat.reduceLeDiff, Nat.reduceLT, Nat.reduceMul, Nat.reduceBEq, Int.reduceEq, Int.reduceLT, Int.reduceLE, Int.reduceNeg, Int.reduceToNat, reduceCtorEq, ho, Try.results38, List.length_map], by simp only [go_sem, Nat.reduceEqDiff, Nat.reduceAdd, Nat.reduceSub, Nat.reduceLeDiff, Nat.reduceLT, Nat.reduceMul, Nat.reduceBEq, Int.reduceEq, Int.reduceLT, Int.reduceLE, Int.reduceNeg, Int.reduceToNat, reduceCtorEq, ho, Try.results38, h5, hs2, hs4, hb2, hb4], by simp only [go_sem, Nat.reduceEqDiff, Nat.reduceAdd, Nat.reduceSub, Nat.reduceLeDiff, Nat.reduceLT, Nat.reduceMul, Nat.reduceBEq, Int.reduceEq, Int.reduceLT, Int.reduceLE, Int.reduceNeg, Int.reduceToNat, reduceCtorEq, ho, Try.results38, hrow], by simp only [go_sem, Nat.reduceEqDiff, Nat.reduceAdd, Nat.reduceSub, Nat.reduceLeDiff, Nat.reduceLT, Nat.reduceMul, Nat.reduceBEq, Int.reduceEq, Int.reduceLT, Int.reduceLE, Int.reduceNeg, Int.reduceToNat, reduceCtorEq, ho, Try.results38, h5, hs2, hs4, hb2, hb4], by simp only [go_sem, Nat.reduceEqDiff, Nat.reduceAdd, Nat.reduceSub, Nat.reduceLeDiff, Nat.reduceLT, Nat.reduceMul, Nat.reduceBEq, Int.reduceEq, Int.reduceLT, Int.reduceLE, Int.reduceNeg, Int.reduceToNat, reduceCtorEq, ho, Try.results38, h5, hs2, hs4, hb2, hb4]⟩, ?_⟩
    rintro m st ⟨done, rest, hl', hm', hfst, h88, h87, h86, hrow, hs4, hb4⟩
    have hlen2 : done.length + rest.length = l.length := by rw [hl']; simp
    have hw : IntKind.i64.wrap ((done.length : Int) + 1) = (done.length : Int) + 1 := wrap_fits (by omega) (by omega)
    have e1 : evalOp row 23 e.int e.val l = firstV l := evo_23 ..
    cases rest with
    | nil =>
      have hlt : ¬ (done.length : Int) < (l.length : Int) := by simp at hlen2; omega
      simp only [go_sem, Nat.reduceEqDiff, Nat.reduceAdd, Nat.reduceSub, Nat.reduceLeDiff, Nat.reduceLT, Nat.reduceMul, Nat.reduceBEq, Int.reduceEq, Int.reduceLT, Int.reduceLE, Int.reduceNeg, Int.reduceToNat, reduceCtorEq, ho, Try.results38, h88, h87, hlt, hs4, hb4]
      refine GCall.fr ?_ (null_fn) (.inl rfl) ?_; (focus (first | rfl | ((simp only [go_sem, Nat.reduceEqDiff, Nat.reduceAdd, Nat.reduceSub, Nat.reduceLeDiff, Nat.reduceLT, Nat.reduceMul, Nat.reduceBEq, Int.reduceEq, Int.reduceLT, Int.reduceLE, Int.reduceNeg, Int.reduceToNat, reduceCtorEq, ho, Try.results38]); done) | ((simp only [go_sem, Nat.reduceEqDiff, Nat.reduceAdd, Nat.reduceSub, Nat.reduceLeDiff, Nat.reduceLT, Nat.reduceMul, Nat.reduceBEq, Int.reduceEq, Int.reduceLT, Int.reduceLE, Int.reduceNeg, Int.reduceToNat, reduceCtorEq, ho, Try.results38]); rfl)))
      simp only [go_sem, Nat.reduceEqDiff, Nat.reduceAdd, Nat.reduceSub, Nat.reduceLeDiff, Nat.reduceLT, Nat.reduceMul, Nat.reduceBEq, Int.reduceEq, Int.reduceLT, Int.reduceLE, Int.reduceNeg, Int.reduceToNat, reduceCtorEq, ho, Try.results38, Vl.enc, Vl.null, hs4, hb4]
      rw [e1, ← hfst]; exact ⟨rfl, rfl, rfl⟩
    | cons v rest =>
      have hlt : (done.length : Int) < (l.length : Int) := by simp at hlen2; omega
      have hget := vals_get hl'
      simp only [go_sem, Nat.reduceEqDiff, Nat.reduceAdd, Nat.reduceSub, Nat.reduceLeDiff, Nat.reduceLT, Nat.reduceMul, Nat.reduceBEq, Int.reduceEq, Int.reduceLT, Int.reduceLE, Int.reduceNeg, Int.reduceToNat, reduceCtorEq, ho, Try.results38, h88, h87, h86, hrow, hlt, hget, Int.natCast_nonneg, Int.toNat_natCast, hs4, hb4, Vl.enc]
      by_cases hk : v.kind = 0
      · simp only [go_sem, Nat.reduceEqDiff, Nat.reduceAdd, Nat.reduceSub, Nat.reduceLeDiff, Nat.reduceLT, Nat.reduceMul, Nat.reduceBEq, Int.reduceEq, Int.reduceLT, Int.reduceLE, Int.reduceNeg, Int.reduceToNat, reduceCtorEq, ho, Try.results38, hk, h88, h87, h86, hrow, hs4, hb4, hw]
        exact ⟨rest.length, by simp at hm'; omega, done ++ [v], rest, by simp [hl'], rfl, by rw [← hfst]; simp [firstV, hk], by simp⟩
      · simp only [go_sem, Nat.reduceEqDiff, Nat.reduceAdd, Nat.reduceSub, Nat.reduceLeDiff, Nat.reduceLT, Nat.reduceMul, Nat.reduceBEq, Int.reduceEq, Int.reduceLT, Int.reduceLE, Int.reduceNeg, Int.reduceToNat, reduceCtorEq, ho, Try.results38, hk, h88, h87, h86, hrow, hs4, hb4]
        rw [e1, ← hfst]; simp [firstV, hk]
  | cons x rest =>
    have hlt : (done.length : Int) < (e.args.length : Int) := by simp at hlen2; omega
    have hget : (e.args.map Ex.enc)[done.length]? = some x.enc := by simp [hl']
    have hxs : x.size ≤ n := by have := hsz; rw [hl', Ex.sizes_app] at this; simp [Ex.sizes] at this; omega
    have hx50 : getRow st.o 50 1 = some (42, (done.map fun x => (x.eval row).enc) ++ List.replicate (rest.length + 1) (PV.agg [PV.int IntKind.i64 0, PV.int IntKind.i64 0, PV.str ⟨#[]⟩])) := by rw [getRow, h50]; rfl
    have hxl : (done.length : Int) < (((done.map fun x => (x.eval row).enc) ++ List.replicate (rest.length + 1) (PV.agg [PV.int IntKind.i64 0, PV.int IntKind.i64 0, PV.str ⟨#[]⟩])).length : Nat) := by simp; omega
    have hx0 : ((done.map fun x => (x.eval row).enc) ++ List.replicate (rest.length + 1) (PV.agg [PV.int IntKind.i64 0, PV.int IntKind.i64 0, PV.str ⟨#[]⟩]))[done.length]? = some (PV.agg [PV.int IntKind.i64 0, PV.int IntKind.i64 0, PV.str ⟨#[]⟩]) := by simp
    rw [List.length_cons] at h50
    simp only [go_sem, Nat.reduceEqDiff, Nat.reduceAdd, Nat.reduceSub, Nat.reduceLeDiff, Nat.reduceLT, Nat.reduceMul, Nat.reduceBEq, Int.reduceEq, Int.reduceLT, Int.reduceLE, Int.reduceNeg, Int.reduceToNat, reduceCtorEq, ho, Try.results38, h54, h53, h52, hlt, hget, Int.natCast_nonneg, Int.toNat_natCast, h5, hs1, hs2, hs4, hb2, hb4, x.enc_eq]
    refine GCall.fr ?_ (IH x hxs) (.inl rfl) ?_; (focus (first | rfl | ((simp only [go_sem, Nat.reduceEqDiff, Nat.reduceAdd, Nat.reduceSub, Nat.reduceLeDiff, Nat.reduceLT, Nat.reduceMul, Nat.reduceBEq, Int.reduceEq, Int.reduceLT, Int.reduceLE, Int.reduceNeg, Int.reduceToNat, reduceCtorEq, ho, Try.results38, x.enc_eq, hs1]); done) | ((simp only [go_sem, Nat.reduceEqDiff, Nat.reduceAdd, Nat.reduceSub, Nat.reduceLeDiff, Nat.reduceLT, Nat.reduceMul, Nat.reduceBEq, Int.reduceEq, Int.reduceLT, Int.reduceLE, Int.reduceNeg, Int.reduceToNat, reduceCtorEq, ho, Try.results38, x.enc_eq, hs1]); rfl)))
    simp only [go_sem, Nat.reduceEqDiff, Nat.reduceAdd, Nat.reduceSub, Nat.reduceLeDiff, Nat.reduceLT, Nat.reduceMul, Nat.reduceBEq, Int.reduceEq, Int.reduceLT, Int.reduceLE, Int.reduceNeg, Int.reduceToNat, reduceCtorEq, ho, Try.results38, h54, h53, h52, h5, hx50, hxl, hx0, h50, Int.natCast_nonneg, Int.toNat_natCast, hs1, hs2, hs4, hb2, hb4, hw]
    refine ⟨rest.length, by simp at hm'; omega, done ++ [x], rest, by simp [hl'], rfl, by simp, ?_⟩
    simp [List.set_append, List.replicate_succ]
theorem evalc_24 (row : List Vl) (n : Nat) (hn : n + 1 ≤ 100000000) (IH : ∀ x : Ex, x.size ≤ n → Fc 38 [x.enc, .sl (row.map Vl.enc)] (x.eval row).enc) (e : Ex) (h : e.size ≤ n + 1) (hf : e.formed = true) (hop : e.op = 24) : Fc 38 [e.enc, .sl (row.map Vl.enc)] (e.eval row).enc := by
  obtain ⟨l, hleq⟩ : ∃ l, l = e.args.map (Ex.eval row) := ⟨_, rfl⟩
  have hev : e.eval row = evalOp row 24 e.int e.val (e.args.map (Ex.eval row)) := by rw [Ex.eval_eq, hf, hop]; rfl
  have hsz := e.size_eq
  have hlen := Ex.len_sizes e.args
  have hfit := formed_len hf
  rw [hop] at hfit
  rw [← hleq] at hev
  refine fn_of_awp (E := E0) (M := M0) follows Try.func38 rfl (by decide) ok38 (by decide) (by simp) fun o ho => ?_
  rw [hev]
  clear hev
  simp only [go_sem, Nat.reduceEqDiff, Nat.reduceAdd, Nat.reduceSub, Nat.reduceLeDiff, Nat.reduceLT, Nat.reduceMul, Nat.reduceBEq, Int.reduceEq, Int.reduceLT, Int.reduceLE, Int.reduceNeg, Int.reduceToNat, reduceCtorEq, ho, Try.results38, e.enc_eq]
  refine GCall.fr ?_ (formed_fn e) (.inl rfl) ?_; (focus (first | rfl | ((simp only [go_sem, Nat.reduceEqDiff, Nat.reduceAdd, Nat.reduceSub, Nat.reduceLeDiff, Nat.reduceLT, Nat.reduceMul, Nat.reduceBEq, Int.reduceEq, Int.reduceLT, Int.reduceLE, Int.reduceNeg, Int.reduceToNat, reduceCtorEq, ho, Try.results38, e.enc_eq]); done) | ((simp only [go_sem, Nat.reduceEqDiff, Nat.reduceAdd, Nat.reduceSub, Nat.reduceLeDiff, Nat.reduceLT, Nat.reduceMul, Nat.reduceBEq, Int.reduceEq, Int.reduceLT, Int.reduceLE, Int.reduceNeg, Int.reduceToNat, reduceCtorEq, ho, Try.results38, e.enc_eq]); rfl)))
  simp only [go_sem, Nat.reduceEqDiff, Nat.reduceAdd, Nat.reduceSub, Nat.reduceLeDiff, Nat.reduceLT, Nat.reduceMul, Nat.reduceBEq, Int.reduceEq, Int.reduceLT, Int.reduceLE, Int.reduceNeg, Int.reduceToNat, reduceCtorEq, ho, Try.results38, hf, hop]
  have hl100 : e.args.length ≤ 100000000 := by omega
  have hllen : l.length = e.args.length := by rw [hleq]; simp
  have hpos := fits_pos (op := 24) (l := l) (by rw [hllen]; exact hfit) (by decide) (by decide)
  have hm : (e.args.length : Int) * (((32 : Nat) : Int) + 1) ≤ 140737488355328 := by omega
  simp only [go_sem, Nat.reduceEqDiff, Nat.reduceAdd, Nat.reduceSub, Nat.reduceLeDiff, Nat.reduceLT, Nat.reduceMul, Nat.reduceBEq, Int.reduceEq, Int.reduceLT, Int.reduceLE, Int.reduceNeg, Int.reduceToNat, reduceCtorEq, ho, Try.results38, List.length_map, Int.natCast_nonneg, hm, true_and, Int.toNat_natCast, Int.le_refl]
  refine ⟨fun m st => ∃ (done rest : List Ex), e.args = done ++ rest ∧ rest.length = m ∧ st.s 54 = .int .i64 done.length ∧ st.s 53 = .int .i64 e.args.length ∧ st.s 52 = .sl (e.args.map Ex.enc) ∧ st.s 5 = .ref 50 1 ∧ st.o 50 = (1, some (true, .row 42 ((done.map fun x => (x.eval row).enc) ++ List.replicate rest.length (PV.agg [PV.int IntKind.i64 0, PV.int IntKind.i64 0, PV.str ⟨#[]⟩])))) ∧ st.s 1 = .sl (row.map Vl.enc) ∧ st.s 2 = .ptr 2 1 0 ∧ st.s 4 = .ptr 4 1 0 ∧ getBox st.o 2 1 = some (49, e.enc.cells) ∧ st.o 4 = (1, some (true, .box 42 [.int .i64 0, .int .i64 0, .str ⟨#[]⟩])), e.args.length,
    ⟨[], e.args, rfl, rfl, by simp only [go_sem, Nat.reduceEqDiff, Nat.reduceAdd, Nat.reduceSub, Nat.reduceLeDiff, Nat.reduceLT, Nat.reduceMul, Nat.reduceBEq, Int.reduceEq, Int.reduceLT, Int.reduceLE, Int.reduceNeg, Int.reduceToNat, reduceCtorEq, ho, Try.results38]; rfl, by simp only [go_sem, Nat.reduceEqDiff, Nat.reduceAdd, Nat.reduceSub, Nat.reduceLeDiff, Nat.reduceLT, Nat.reduceMul, Nat.reduceBEq, Int.reduceEq, Int.reduceLT, Int.reduceLE, Int.reduceNeg, Int.reduceToNat, reduceCtorEq, ho, Try.results38], by simp only [go_sem, Nat.reduceEqDiff, Nat.reduceAdd, Nat.reduceSub, Nat.reduceLeDiff, Nat.reduceLT, Nat.reduceMul, Nat.reduceBEq, Int.reduceEq, Int.reduceLT, Int.reduceLE, Int.reduceNeg, Int.reduceToNat, reduceCtorEq, ho, Try.results38], by simp only [go_sem, Nat.reduceEqDiff, Nat.reduceAdd, Nat.reduceSub, Nat.reduceLeDiff, Nat.reduceLT, Nat.reduceMul, Nat.reduceBEq, Int.reduceEq, Int.reduceLT, Int.reduceLE, Int.reduceNeg, Int.reduceToNat, reduceCtorEq, ho, Try.results38], by simp only [go_sem, Nat.reduceEqDiff, Nat.reduceAdd, Nat.reduceSub, Nat.reduceLeDiff, Nat.reduceLT, Nat.reduceMul, Nat.reduceBEq, Int.reduceEq, Int.reduceLT, Int.reduceLE, Int.reduceNeg, Int.reduceToNat, reduceCtorEq, ho, Try.results38, List.map_nil, List.nil_append], by simp only [go_sem, Nat.reduceEqDiff, Nat.reduceAdd, Nat.reduceSub, Nat.reduceLeDiff, Nat.reduceLT, Nat.reduceMul, Nat.reduceBEq, Int.reduceEq, Int.reduceLT, Int.reduceLE, Int.reduceNeg, Int.reduceToNat, reduceCtorEq, ho, Try.results38], by simp only [go_sem, Nat.reduceEqDiff, Nat.reduceAdd, Nat.reduceSub, Nat.reduceLeDiff, Nat.reduceLT, Nat.reduceMul, Nat.reduceBEq, Int.reduceEq, Int.reduceLT, Int.reduceLE, Int.reduceNeg, Int.reduceToNat, reduceCtorEq, ho, Try.results38], by simp only [go_sem, Nat.reduceEqDiff, Nat.reduceAdd, Nat.reduceSub, Nat.reduceLeDiff, Nat.reduceLT, Nat.reduceMul, Nat.reduceBEq, Int.reduceEq, Int.reduceLT, Int.reduceLE, Int.reduceNeg, Int.reduceToNat, reduceCtorEq, ho, Try.results38], by simp only [go_sem, Nat.reduceEqDiff, Nat.reduceAdd, Nat.reduceSub, Nat.reduceLeDiff, Nat.reduceLT, Nat.reduceMul, Nat.reduceBEq, Int.reduceEq, Int.reduceLT, Int.reduceLE, Int.reduceNeg, Int.reduceToNat, reduceCtorEq, ho, Try.results38, hop], by simp only [go_sem, Nat.reduceEqDiff, Nat.reduceAdd, Nat.reduceSub, Nat.reduceLeDiff, Nat.reduceLT, Nat.reduceMul, Nat.reduceBEq, Int.reduceEq, Int.reduceLT, Int.reduceLE, Int.reduceNeg, Int.reduceToNat, reduceCtorEq, ho, Try.results38]⟩, ?_⟩
  rintro m st ⟨done, rest, hl', hm', h54, h53, h52, h5, h50, hs1, hs2, hs4, hb2, hb4⟩
  have hlen2 : done.length + rest.length = e.args.length := by rw [hl']; simp
  have hw : IntKind.i64.wrap ((done.length : Int) + 1) = (done.length : Int) + 1 := wrap_fits (by omega) (by omega)
  cases rest with
  | nil =>
    have hlt : ¬ (done.length : Int) < (e.args.length : Int) := by simp at hlen2; omega
    obtain hdone : e.args = done := by simpa using hl'
    simp only [List.length_nil, List.replicate, List.append_nil] at h50
    have hrw : (done.map fun x => (x.eval row).enc) = l.map Vl.enc := by rw [hleq, hdone]; simp
    rw [hrw] at h50
    have hrow : getRow st.o 50 1 = some (42, l.map Vl.enc) := by simp [getRow, h50]
    have hvv : ∀ v ∈ l, v.valid = true := fun v hv => by rw [hleq] at hv; obtain ⟨x, _, rfl⟩ := List.mem_map.1 hv; exact Ex.eval_valid row x
    have hg0 := nth_get hpos
    have hl0 : (0 : Int) < (l.length : Int) := by omega
    clear hleq hrw
    simp only [go_sem, Nat.reduceEqDiff, Nat.reduceAdd, Nat.reduceSub, Nat.reduceLeDiff, Nat.reduceLT, Nat.reduceMul, Nat.reduceBEq, Int.reduceEq, Int.reduceLT, Int.reduceLE, Int.reduceNeg, Int.reduceToNat, reduceCtorEq, ho, Try.results38, h54, h53, hlt, hop, h5, hs2, hs4, hb2, hb4]
    have h4 : l.length = 4 := by
      have : (e.args.length : Int) = 4 := by simpa [fitsN] using hfit
      omega
    refine GCall.fr ?_ (relatedL_fn e.int l h4) (.inl rfl) ?_; (focus (first | rfl | ((simp only [go_sem, Nat.reduceEqDiff, Nat.reduceAdd, Nat.reduceSub, Nat.reduceLeDiff, Nat.reduceLT, Nat.reduceMul, Nat.reduceBEq, Int.reduceEq, Int.reduceLT, Int.reduceLE, Int.reduceNeg, Int.reduceToNat, reduceCtorEq, ho, Try.results38, hrow]); done) | ((simp only [go_sem, Nat.reduceEqDiff, Nat.reduceAdd, Nat.reduceSub, Nat.reduceLeDiff, Nat.reduceLT, Nat.reduceMul, Nat.reduceBEq, Int.reduceEq, Int.reduceLT, Int.reduceLE, Int.reduceNeg, Int.reduceToNat, reduceCtorEq, ho, Try.results38, hrow]); rfl)))
    simp only [go_sem, Nat.reduceEqDiff, Nat.reduceAdd, Nat.reduceSub, Nat.reduceLeDiff, Nat.reduceLT, Nat.reduceMul, Nat.reduceBEq, Int.reduceEq, Int.reduceLT, Int.reduceLE, Int.reduceNeg, Int.reduceToNat, reduceCtorEq, ho, Try.results38, Vl.enc, h5, hs2, hs4, hb2, hb4]
    rw [evo_24]; exact ⟨rfl, rfl, rfl⟩
  | cons x rest =>
    have hlt : (done.length : Int) < (e.args.length : Int) := by simp at hlen2; omega
    have hget : (e.args.map Ex.enc)[done.length]? = some x.enc := by simp [hl']
    have hxs : x.size ≤ n := by have := hsz; rw [hl', Ex.sizes_app] at this; simp [Ex.sizes] at this; omega
    have hx50 : getRow st.o 50 1 = some (42, (done.map fun x => (x.eval row).enc) ++ List.replicate (rest.length + 1) (PV.agg [PV.int IntKind.i64 0, PV.int IntKind.i64 0, PV.str ⟨#[]⟩])) := by rw [getRow, h50]; rfl
    have hxl : (done.length : Int) < (((done.map fun x => (x.eval row).enc) ++ List.replicate (rest.length + 1) (PV.agg [PV.int IntKind.i64 0, PV.int IntKind.i64 0, PV.str ⟨#[]⟩])).length : Nat) := by simp; omega
    have hx0 : ((done.map fun x => (x.eval row).enc) ++ List.replicate (rest.length + 1) (PV.agg [PV.int IntKind.i64 0, PV.int IntKind.i64 0, PV.str ⟨#[]⟩]))[done.length]? = some (PV.agg [PV.int IntKind.i64 0, PV.int IntKind.i64 0, PV.str ⟨#[]⟩]) := by simp
    rw [List.length_cons] at h50
    simp only [go_sem, Nat.reduceEqDiff, Nat.reduceAdd, Nat.reduceSub, Nat.reduceLeDiff, Nat.reduceLT, Nat.reduceMul, Nat.reduceBEq, Int.reduceEq, Int.reduceLT, Int.reduceLE, Int.reduceNeg, Int.reduceToNat, reduceCtorEq, ho, Try.results38, h54, h53, h52, hlt, hget, Int.natCast_nonneg, Int.toNat_natCast, h5, hs1, hs2, hs4, hb2, hb4, x.enc_eq]
    refine GCall.fr ?_ (IH x hxs) (.inl rfl) ?_; (focus (first | rfl | ((simp only [go_sem, Nat.reduceEqDiff, Nat.reduceAdd, Nat.reduceSub, Nat.reduceLeDiff, Nat.reduceLT, Nat.reduceMul, Nat.reduceBEq, Int.reduceEq, Int.reduceLT, Int.reduceLE, Int.reduceNeg, Int.reduceToNat, reduceCtorEq, ho, Try.results38, x.enc_eq, hs1]); done) | ((simp only [go_sem, Nat.reduceEqDiff, Nat.reduceAdd, Nat.reduceSub, Nat.reduceLeDiff, Nat.reduceLT, Nat.reduceMul, Nat.reduceBEq, Int.reduceEq, Int.reduceLT, Int.reduceLE, Int.reduceNeg, Int.reduceToNat, reduceCtorEq, ho, Try.results38, x.enc_eq, hs1]); rfl)))
    simp only [go_sem, Nat.reduceEqDiff, Nat.reduceAdd, Nat.reduceSub, Nat.reduceLeDiff, Nat.reduceLT, Nat.reduceMul, Nat.reduceBEq, Int.reduceEq, Int.reduceLT, Int.reduceLE, Int.reduceNeg, Int.reduceToNat, reduceCtorEq, ho, Try.results38, h54, h53, h52, h5, hx50, hxl, hx0, h50, Int.natCast_nonneg, Int.toNat_natCast, hs1, hs2, hs4, hb2, hb4, hw]
    refine ⟨rest.length, by simp at hm'; omega, done ++ [x], rest, by simp [hl'], rfl, by simp, ?_⟩
    simp [List.set_append, List.replicate_succ]
theorem evalc_19 (row : List Vl) (n : Nat) (hn : n + 1 ≤ 100000000) (IH : ∀ x : Ex, x.size ≤ n → Fc 38 [x.enc, .sl (row.map Vl.enc)] (x.eval row).enc) (e : Ex) (h : e.size ≤ n + 1) (hf : e.formed = true) (hop : e.op = 19) : Fc 38 [e.enc, .sl (row.map Vl.enc)] (e.eval row).enc := by
  obtain ⟨l, hleq⟩ : ∃ l, l = e.args.map (Ex.eval row) := ⟨_, rfl⟩
  have hev : e.eval row = evalOp row 19 e.int e.val (e.args.map (Ex.eval row)) := by rw [Ex.eval_eq, hf, hop]; rfl
  have hsz := e.size_eq
  have hlen := Ex.len_sizes e.args
  have hfit := formed_len hf
  rw [hop] at hfit
  rw [← hleq] at hev
  refine fn_of_awp (E := E0) (M := M0) follows Try.func38 rfl (by decide) ok38 (by decide) (by simp) fun o ho => ?_
  rw [hev]
  clear hev
  simp only [go_sem, Nat.reduceEqDiff, Nat.reduceAdd, Nat.reduceSub, Nat.reduceLeDiff, Nat.reduceLT, Nat.reduceMul, Nat.reduceBEq, Int.reduceEq, Int.reduceLT, Int.reduceLE, Int.reduceNeg, Int.reduceToNat, reduceCtorEq, ho, Try.results38, e.enc_eq]
  refine GCall.fr ?_ (formed_fn e) (.inl rfl) ?_; (focus (first | rfl | ((simp only [go_sem, Nat.reduceEqDiff, Nat.reduceAdd, Nat.reduceSub, Nat.reduceLeDiff, Nat.reduceLT, Nat.reduceMul, Nat.reduceBEq, Int.reduceEq, Int.reduceLT, Int.reduceLE, Int.reduceNeg, Int.reduceToNat, reduceCtorEq, ho, Try.results38, e.enc_eq]); done) | ((simp only [go_sem, Nat.reduceEqDiff, Nat.reduceAdd, Nat.reduceSub, Nat.reduceLeDiff, Nat.reduceLT, Nat.reduceMul, Nat.reduceBEq, Int.reduceEq, Int.reduceLT, Int.reduceLE, Int.reduceNeg, Int.reduceToNat, reduceCtorEq, ho, Try.results38, e.enc_eq]); rfl)))
  simp only [go_sem, Nat.reduceEqDiff, Nat.reduceAdd, Nat.reduceSub, Nat.reduceLeDiff, Nat.reduceLT, Nat.reduceMul, Nat.reduceBEq, Int.reduceEq, Int.reduceLT, Int.reduceLE, Int.reduceNeg, Int.reduceToNat, reduceCtorEq, ho, Try.results38, hf, hop]
  have hl100 : e.args.length ≤ 100000000 := by omega
  have hllen : l.length = e.args.length := by rw [hleq]; simp
  have hpos := fits_pos (op := 19) (l := l) (by rw [hllen]; exact hfit) (by decide) (by decide)
  have hm : (e.args.length : Int) * (((32 : Nat) : Int) + 1) ≤ 140737488355328 := by omega
  simp only [go_sem, Nat.reduceEqDiff, Nat.reduceAdd, Nat.reduceSub, Nat.reduceLeDiff, Nat.reduceLT, Nat.reduceMul, Nat.reduceBEq, Int.reduceEq, Int.reduceLT, Int.reduceLE, Int.reduceNeg, Int.reduceToNat, reduceCtorEq, ho, Try.results38, List.length_map, Int.natCast_nonneg, hm, true_and, Int.toNat_natCast, Int.le_refl]
  refine ⟨fun m st => ∃ (done rest : List Ex), e.args = done ++ rest ∧ rest.length = m ∧ st.s 54 = .int .i64 done.length ∧ st.s 53 = .int .i64 e.args.length ∧ st.s 52 = .sl (e.args.map Ex.enc) ∧ st.s 5 = .ref 50 1 ∧ st.o 50 = (1, some (true, .row 42 ((done.map fun x => (x.eval row).enc) ++ List.replicate rest.length (PV.agg [PV.int IntKind.i64 0, PV.int IntKind.i64 0, PV.str ⟨#[]⟩])))) ∧ st.s 1 = .sl (row.map Vl.enc) ∧ st.s 2 = .ptr 2 1 0 ∧ st.s 4 = .ptr 4 1 0 ∧ getBox st.o 2 1 = some (49, e.enc.cells) ∧ st.o 4 = (1, some (true, .box 42 [.int .i64 0, .int .i64 0, .str ⟨#[]⟩])), e.args.length,
    ⟨[], e.args, rfl, rfl, by simp only [go_sem, Nat.reduceEqDiff, Nat.reduceAdd, Nat.reduceSub, Nat.reduceLeDiff, Nat.reduceLT, Nat.reduceMul, Nat.reduceBEq, Int.reduceEq, Int.reduceLT, Int.reduceLE, Int.reduceNeg, Int.reduceToNat, reduceCtorEq, ho, Try.results38]; rfl, by simp only [go_sem, Nat.reduceEqDiff, Nat.reduceAdd, Nat.reduceSub, Nat.reduceLeDiff, Nat.reduceLT, Nat.reduceMul, Nat.reduceBEq, Int.reduceEq, Int.reduceLT, Int.reduceLE, Int.reduceNeg, Int.reduceToNat, reduceCtorEq, ho, Try.results38], by simp only [go_sem, Nat.reduceEqDiff, Nat.reduceAdd, Nat.reduceSub, Nat.reduceLeDiff, Nat.reduceLT, Nat.reduceMul, Nat.reduceBEq, Int.reduceEq, Int.reduceLT, Int.reduceLE, Int.reduceNeg, Int.reduceToNat, reduceCtorEq, ho, Try.results38], by simp only [go_sem, Nat.reduceEqDiff, Nat.reduceAdd, Nat.reduceSub, Nat.reduceLeDiff, Nat.reduceLT, Nat.reduceMul, Nat.reduceBEq, Int.reduceEq, Int.reduceLT, Int.reduceLE, Int.reduceNeg, Int.reduceToNat, reduceCtorEq, ho, Try.results38], by simp only [go_sem, Nat.reduceEqDiff, Nat.reduceAdd, Nat.reduceSub, Nat.reduceLeDiff, Nat.reduceLT, Nat.reduceMul, Nat.reduceBEq, Int.reduceEq, Int.reduceLT, Int.reduceLE, Int.reduceNeg, Int.reduceToNat, reduceCtorEq, ho, Try.results38, List.map_nil, List.nil_append], by simp only [go_sem, Nat.reduceEqDiff, Nat.reduceAdd, Nat.reduceSub, Nat.reduceLeDiff, Nat.reduceLT, Nat.reduceMul, Nat.reduceBEq, Int.reduceEq, Int.reduceLT, Int.reduceLE, Int.reduceNeg, Int.reduceToNat, reduceCtorEq, ho, Try.results38], by simp only [go_sem, Nat.reduceEqDiff, Nat.reduceAdd, Nat.reduceSub, Nat.reduceLeDiff, Nat.reduceLT, Nat.reduceMul, Nat.reduceBEq, Int.reduceEq, Int.reduceLT, Int.reduceLE, Int.reduceNeg, Int.reduceToNat, reduceCtorEq, ho, Try.results38], by simp only [go_sem, Nat.reduceEqDiff, Nat.reduceAdd, Nat.reduceSub, Nat.reduceLeDiff, Nat.reduceLT, Nat.reduceMul, Nat.reduceBEq, Int.reduceEq, Int.reduceLT, Int.reduceLE, Int.reduceNeg, Int.reduceToNat, reduceCtorEq, ho, Try.results38], by simp only [go_sem, Nat.reduceEqDiff, Nat.reduceAdd, Nat.reduceSub, Nat.reduceLeDiff, Nat.reduceLT, Nat.reduceMul, Nat.reduceBEq, Int.reduceEq, Int.reduceLT, Int.reduceLE, Int.reduceNeg, Int.reduceToNat, reduceCtorEq, ho, Try.results38, hop], by simp only [go_sem, Nat.reduceEqDiff, Nat.reduceAdd, Nat.reduceSub, Nat.reduceLeDiff, Nat.reduceLT, Nat.reduceMul, Nat.reduceBEq, Int.reduceEq, Int.reduceLT, Int.reduceLE, Int.reduceNeg, Int.reduceToNat, reduceCtorEq, ho, Try.results38]⟩, ?_⟩
  rintro m st ⟨done, rest, hl', hm', h54, h53, h52, h5, h50, hs1, hs2, hs4, hb2, hb4⟩
  have hlen2 : done.length + rest.length = e.args.length := by rw [hl']; simp
  have hw : IntKind.i64.wrap ((done.length : Int) + 1) = (done.length : Int) + 1 := wrap_fits (by omega) (by omega)
  cases rest with
  | nil =>
    have hlt : ¬ (done.length : Int) < (e.args.length : Int) := by simp at hlen2; omega
    obtain hdone : e.args = done := by simpa using hl'
    simp only [List.length_nil, List.replicate, List.append_nil] at h50
    have hrw : (done.map fun x => (x.eval row).enc) = l.map Vl.enc := by rw [hleq, hdone]; simp
    rw [hrw] at h50
    have hrow : getRow st.o 50 1 = some (42, l.map Vl.enc) := by simp [getRow, h50]
    have hvv : ∀ v ∈ l, v.valid = true := fun v hv => by rw [hleq] at hv; obtain ⟨x, _, rfl⟩ := List.mem_map.1 hv; exact Ex.eval_valid row x
    have hg0 := nth_get hpos
    have hl0 : (0 : Int) < (l.length : Int) := by omega
    clear hleq hrw
    simp only [go_sem, Nat.reduceEqDiff, Nat.reduceAdd, Nat.reduceSub, Nat.reduceLeDiff, Nat.reduceLT, Nat.reduceMul, Nat.reduceBEq, Int.reduceEq, Int.reduceLT, Int.reduceLE, Int.reduceNeg, Int.reduceToNat, reduceCtorEq, ho, Try.results38, h54, h53, hlt, hop, h5, hs2, hs4, hb2, hb4]
    refine GCall.fr ?_ (text_fn 19 l (fun v hv => valid_text (hvv v hv)) (by omega)) (.inl rfl) ?_; (focus (first | rfl | ((simp only [go_sem, Nat.reduceEqDiff, Nat.reduceAdd, Nat.reduceSub, Nat.reduceLeDiff, Nat.reduceLT, Nat.reduceMul, Nat.reduceBEq, Int.reduceEq, Int.reduceLT, Int.reduceLE, Int.reduceNeg, Int.reduceToNat, reduceCtorEq, ho, Try.results38, hop, hrow]); done) | ((simp only [go_sem, Nat.reduceEqDiff, Nat.reduceAdd, Nat.reduceSub, Nat.reduceLeDiff, Nat.reduceLT, Nat.reduceMul, Nat.reduceBEq, Int.reduceEq, Int.reduceLT, Int.reduceLE, Int.reduceNeg, Int.reduceToNat, reduceCtorEq, ho, Try.results38, hop, hrow]); rfl)))
    simp only [go_sem, Nat.reduceEqDiff, Nat.reduceAdd, Nat.reduceSub, Nat.reduceLeDiff, Nat.reduceLT, Nat.reduceMul, Nat.reduceBEq, Int.reduceEq, Int.reduceLT, Int.reduceLE, Int.reduceNeg, Int.reduceToNat, reduceCtorEq, ho, Try.results38, Vl.enc, h5, hs2, hs4, hb2, hb4]
    rw [evo_19]; exact ⟨rfl, rfl, rfl⟩
  | cons x rest =>
    have hlt : (done.length : Int) < (e.args.length : Int) := by simp at hlen2; omega
    have hget : (e.args.map Ex.enc)[done.length]? = some x.enc := by simp [hl']
    have hxs : x.size ≤ n := by have := hsz; rw [hl', Ex.sizes_app] at this; simp [Ex.sizes] at this; omega
    have hx50 : getRow st.o 50 1 = some (42, (done.map fun x => (x.eval row).enc) ++ List.replicate (rest.length + 1) (PV.agg [PV.int IntKind.i64 0, PV.int IntKind.i64 0, PV.str ⟨#[]⟩])) := by rw [getRow, h50]; rfl
    have hxl : (done.length : Int) < (((done.map fun x => (x.eval row).enc) ++ List.replicate (rest.length + 1) (PV.agg [PV.int IntKind.i64 0, PV.int IntKind.i64 0, PV.str ⟨#[]⟩])).length : Nat) := by simp; omega
    have hx0 : ((done.map fun x => (x.eval row).enc) ++ List.replicate (rest.length + 1) (PV.agg [PV.int IntKind.i64 0, PV.int IntKind.i64 0, PV.str ⟨#[]⟩]))[done.length]? = some (PV.agg [PV.int IntKind.i64 0, PV.int IntKind.i64 0, PV.str ⟨#[]⟩]) := by simp
    rw [List.length_cons] at h50
    simp only [go_sem, Nat.reduceEqDiff, Nat.reduceAdd, Nat.reduceSub, Nat.reduceLeDiff, Nat.reduceLT, Nat.reduceMul, Nat.reduceBEq, Int.reduceEq, Int.reduceLT, Int.reduceLE, Int.reduceNeg, Int.reduceToNat, reduceCtorEq, ho, Try.results38, h54, h53, h52, hlt, hget, Int.natCast_nonneg, Int.toNat_natCast, h5, hs1, hs2, hs4, hb2, hb4, x.enc_eq]
    refine GCall.fr ?_ (IH x hxs) (.inl rfl) ?_; (focus (first | rfl | ((simp only [go_sem, Nat.reduceEqDiff, Nat.reduceAdd, Nat.reduceSub, Nat.reduceLeDiff, Nat.reduceLT, Nat.reduceMul, Nat.reduceBEq, Int.reduceEq, Int.reduceLT, Int.reduceLE, Int.reduceNeg, Int.reduceToNat, reduceCtorEq, ho, Try.results38, x.enc_eq, hs1]); done) | ((simp only [go_sem, Nat.reduceEqDiff, Nat.reduceAdd, Nat.reduceSub, Nat.reduceLeDiff, Nat.reduceLT, Nat.reduceMul, Nat.reduceBEq, Int.reduceEq, Int.reduceLT, Int.reduceLE, Int.reduceNeg, Int.reduceToNat, reduceCtorEq, ho, Try.results38, x.enc_eq, hs1]); rfl)))
    simp only [go_sem, Nat.reduceEqDiff, Nat.reduceAdd, Nat.reduceSub, Nat.reduceLeDiff, Nat.reduceLT, Nat.reduceMul, Nat.reduceBEq, Int.reduceEq, Int.reduceLT, Int.reduceLE, Int.reduceNeg, Int.reduceToNat, reduceCtorEq, ho, Try.results38, h54, h53, h52, h5, hx50, hxl, hx0, h50, Int.natCast_nonneg, Int.toNat_natCast, hs1, hs2, hs4, hb2, hb4, hw]
    refine ⟨rest.length, by simp at hm'; omega, done ++ [x], rest, by simp [hl'], rfl, by simp, ?_⟩
    simp [List.set_append, List.replicate_succ]
theorem evalc_20 (row : List Vl) (n : Nat) (hn : n + 1 ≤ 100000000) (IH : ∀ x : Ex, x.size ≤ n → Fc 38 [x.enc, .sl (row.map Vl.enc)] (x.eval row).enc) (e : Ex) (h : e.size ≤ n + 1) (hf : e.formed = true) (hop : e.op = 20) : Fc 38 [e.enc, .sl (row.map Vl.enc)] (e.eval row).enc := by
  obtain ⟨l, hleq⟩ : ∃ l, l = e.args.map (Ex.eval row) := ⟨_, rfl⟩
  have hev : e.eval row = evalOp row 20 e.int e.val (e.args.map (Ex.eval row)) := by rw [Ex.eval_eq, hf, hop]; rfl
  have hsz := e.size_eq
  have hlen := Ex.len_sizes e.args
  have hfit := formed_len hf
  rw [hop] at hfit
  rw [← hleq] at hev
  refine fn_of_awp (E := E0) (M := M0) follows Try.func38 rfl (by decide) ok38 (by decide) (by simp) fun o ho => ?_
  rw [hev]
  clear hev
  simp only [go_sem, Nat.reduceEqDiff, Nat.reduceAdd, Nat.reduceSub, Nat.reduceLeDiff, Nat.reduceLT, Nat.reduceMul, Nat.reduceBEq, Int.reduceEq, Int.reduceLT, Int.reduceLE, Int.reduceNeg, Int.reduceToNat, reduceCtorEq, ho, Try.results38, e.enc_eq]
  refine GCall.fr ?_ (formed_fn e) (.inl rfl) ?_; (focus (first | rfl | ((simp only [go_sem, Nat.reduceEqDiff, Nat.reduceAdd, Nat.reduceSub, Nat.reduceLeDiff, Nat.reduceLT, Nat.reduceMul, Nat.reduceBEq, Int.reduceEq, Int.reduceLT, Int.reduceLE, Int.reduceNeg, Int.reduceToNat, reduceCtorEq, ho, Try.results38, e.enc_eq]); done) | ((simp only [go_sem, Nat.reduceEqDiff, Nat.reduceAdd, Nat.reduceSub, Nat.reduceLeDiff, Nat.reduceLT, Nat.reduceMul, Nat.reduceBEq, Int.reduceEq, Int.reduceLT, Int.reduceLE, Int.reduceNeg, Int.reduceToNat, reduceCtorEq, ho, Try.results38, e.enc_eq]); rfl)))
  simp only [go_sem, Nat.reduceEqDiff, Nat.reduceAdd, Nat.reduceSub, Nat.reduceLeDiff, Nat.reduceLT, Nat.reduceMul, Nat.reduceBEq, Int.reduceEq, Int.reduceLT, Int.reduceLE, Int.reduceNeg, Int.reduceToNat, reduceCtorEq, ho, Try.results38, hf, hop]
  have hl100 : e.args.length ≤ 100000000 := by omega
  have hllen : l.length = e.args.length := by rw [hleq]; simp
  have hpos := fits_pos (op := 20) (l := l) (by rw [hllen]; exact hfit) (by decide) (by decide)
  have hm : (e.args.length : Int) * (((32 : Nat) : Int) + 1) ≤ 140737488355328 := by omega
  simp only [go_sem, Nat.reduceEqDiff, Nat.reduceAdd, Nat.reduceSub, Nat.reduceLeDiff, Nat.reduceLT, Nat.reduceMul, Nat.reduceBEq, Int.reduceEq, Int.reduceLT, Int.reduceLE, Int.reduceNeg, Int.reduceToNat, reduceCtorEq, ho, Try.results38, List.length_map, Int.natCast_nonneg, hm, true_and, Int.toNat_natCast, Int.le_refl]
  refine ⟨fun m st => ∃ (done rest : List Ex), e.args = done ++ rest ∧ rest.length = m ∧ st.s 54 = .int .i64 done.length ∧ st.s 53 = .int .i64 e.args.length ∧ st.s 52 = .sl (e.args.map Ex.enc) ∧ st.s 5 = .ref 50 1 ∧ st.o 50 = (1, some (true, .row 42 ((done.map fun x => (x.eval row).enc) ++ List.replicate rest.length (PV.agg [PV.int IntKind.i64 0, PV.int IntKind.i64 0, PV.str ⟨#[]⟩])))) ∧ st.s 1 = .sl (row.map Vl.enc) ∧ st.s 2 = .ptr 2 1 0 ∧ st.s 4 = .ptr 4 1 0 ∧ getBox st.o 2 1 = some (49, e.enc.cells) ∧ st.o 4 = (1, some (true, .box 42 [.int .i64 0, .int .i64 0, .str ⟨#[]⟩])), e.args.length,
    ⟨[], e.args, rfl, rfl, by simp only [go_sem, Nat.reduceEqDiff, Nat.reduceAdd, Nat.reduceSub, Nat.reduceLeDiff, Nat.reduceLT, Nat.reduceMul, Nat.reduceBEq, Int.reduceEq, Int.reduceLT, Int.reduceLE, Int.reduceNeg, Int.reduceToNat, reduceCtorEq, ho, Try.results38]; rfl, by simp only [go_sem, Nat.reduceEqDiff, Nat.reduceAdd, Nat.reduceSub, Nat.reduceLeDiff, Nat.reduceLT, Nat.reduceMul, Nat.reduceBEq, Int.reduceEq, Int.reduceLT, Int.reduceLE, Int.reduceNeg, Int.reduceToNat, reduceCtorEq, ho, Try.results38], by simp only [go_sem, Nat.reduceEqDiff, Nat.reduceAdd, Nat.reduceSub, Nat.reduceLeDiff, Nat.reduceLT, Nat.reduceMul, Nat.reduceBEq, Int.reduceEq, Int.reduceLT, Int.reduceLE, Int.reduceNeg, Int.reduceToNat, reduceCtorEq, ho, Try.results38], by simp only [go_sem, Nat.reduceEqDiff, Nat.reduceAdd, Nat.reduceSub, Nat.reduceLeDiff, Nat.reduceLT, Nat.reduceMul, Nat.reduceBEq, Int.reduceEq, Int.reduceLT, Int.reduceLE, Int.reduceNeg, Int.reduceToNat, reduceCtorEq, ho, Try.results38], by simp only [go_sem, Nat.reduceEqDiff, Nat.reduceAdd, Nat.reduceSub, Nat.reduceLeDiff, Nat.reduceLT, Nat.reduceMul, Nat.reduceBEq, Int.reduceEq, Int.reduceLT, Int.reduceLE, Int.reduceNeg, Int.reduceToNat, reduceCtorEq, ho, Try.results38, List.map_nil, List.nil_append], by simp only [go_sem, Nat.reduceEqDiff, Nat.reduceAdd, Nat.reduceSub, Nat.reduceLeDiff, Nat.reduceLT, Nat.reduceMul, Nat.reduceBEq, Int.reduceEq, Int.reduceLT, Int.reduceLE, Int.reduceNeg, Int.reduceToNat, reduceCtorEq, ho, Try.results38], by simp only [go_sem, Nat.reduceEqDiff, Nat.reduceAdd, Nat.reduceSub, Nat.reduceLeDiff, Nat.reduceLT, Nat.reduceMul, Nat.reduceBEq, Int.reduceEq, Int.reduceLT, Int.reduceLE, Int.reduceNeg, Int.reduceToNat, reduceCtorEq, ho, Try.results38], by simp only [go_sem, Nat.reduceEqDiff, Nat.reduceAdd, Nat.reduceSub, Nat.reduceLeDiff, Nat.reduceLT, Nat.reduceMul, Nat.reduceBEq, Int.reduceEq, Int.reduceLT, Int.reduceLE, Int.reduceNeg, Int.reduceToNat, reduceCtorEq, ho, Try.results38], by simp only [go_sem, Nat.reduceEqDiff, Nat.reduceAdd, Nat.reduceSub, Nat.reduceLeDiff, Nat.reduceLT, Nat.reduceMul, Nat.reduceBEq, Int.reduceEq, Int.reduceLT, Int.reduceLE, Int.reduceNeg, Int.reduceToNat, reduceCtorEq, ho, Try.results38, hop], by simp only [go_sem, Nat.reduceEqDiff, Nat.reduceAdd, Nat.reduceSub, Nat.reduceLeDiff, Nat.reduceLT, Nat.reduceMul, Nat.reduceBEq, Int.reduceEq, Int.reduceLT, Int.reduceLE, Int.reduceNeg, Int.reduceToNat, reduceCtorEq, ho, Try.results38]⟩, ?_⟩
  rintro m st ⟨done, rest, hl', hm', h54, h53, h52, h5, h50, hs1, hs2, hs4, hb2, hb4⟩
  have hlen2 : done.length + rest.length = e.args.length := by rw [hl']; simp
  have hw : IntKind.i64.wrap ((done.length : Int) + 1) = (done.length : Int) + 1 := wrap_fits (by omega) (by omega)
  cases rest with
  | nil =>
    have hlt : ¬ (done.length : Int) < (e.args.length : Int) := by simp at hlen2; omega
    obtain hdone : e.args = done := by simpa using hl'
    simp only [List.length_nil, List.replicate, List.append_nil] at h50
    have hrw : (done.map fun x => (x.eval row).enc) = l.map Vl.enc := by rw [hleq, hdone]; simp
    rw [hrw] at h50
    have hrow : getRow st.o 50 1 = some (42, l.map Vl.enc) := by simp [getRow, h50]
    have hvv : ∀ v ∈ l, v.valid = true := fun v hv => by rw [hleq] at hv; obtain ⟨x, _, rfl⟩ := List.mem_map.1 hv; exact Ex.eval_valid row x
    have hg0 := nth_get hpos
    have hl0 : (0 : Int) < (l.length : Int) := by omega
    clear hleq hrw
    simp only [go_sem, Nat.reduceEqDiff, Nat.reduceAdd, Nat.reduceSub, Nat.reduceLeDiff, Nat.reduceLT, Nat.reduceMul, Nat.reduceBEq, Int.reduceEq, Int.reduceLT, Int.reduceLE, Int.reduceNeg, Int.reduceToNat, reduceCtorEq, ho, Try.results38, h54, h53, hlt, hop, h5, hs2, hs4, hb2, hb4]
    refine GCall.fr ?_ (text_fn 20 l (fun v hv => valid_text (hvv v hv)) (by omega)) (.inl rfl) ?_; (focus (first | rfl | ((simp only [go_sem, Nat.reduceEqDiff, Nat.reduceAdd, Nat.reduceSub, Nat.reduceLeDiff, Nat.reduceLT, Nat.reduceMul, Nat.reduceBEq, Int.reduceEq, Int.reduceLT, Int.reduceLE, Int.reduceNeg, Int.reduceToNat, reduceCtorEq, ho, Try.results38, hop, hrow]); done) | ((simp only [go_sem, Nat.reduceEqDiff, Nat.reduceAdd, Nat.reduceSub, Nat.reduceLeDiff, Nat.reduceLT, Nat.reduceMul, Nat.reduceBEq, Int.reduceEq, Int.reduceLT, Int.reduceLE, Int.reduceNeg, Int.reduceToNat, reduceCtorEq, ho, Try.results38, hop, hrow]); rfl)))
    simp only [go_sem, Nat.reduceEqDiff, Nat.reduceAdd, Nat.reduceSub, Nat.reduceLeDiff, Nat.reduceLT, Nat.reduceMul, Nat.reduceBEq, Int.reduceEq, Int.reduceLT, Int.reduceLE, Int.reduceNeg, Int.reduceToNat, reduceCtorEq, ho, Try.results38, Vl.enc, h5, hs2, hs4, hb2, hb4]
    rw [evo_20]; exact ⟨rfl, rfl, rfl⟩
  | cons x rest =>
    have hlt : (done.length : Int) < (e.args.length : Int) := by simp at hlen2; omega
    have hget : (e.args.map Ex.enc)[done.length]? = some x.enc := by simp [hl']
    have hxs : x.size ≤ n := by have := hsz; rw [hl', Ex.sizes_app] at this; simp [Ex.sizes] at this; omega
    have hx50 : getRow st.o 50 1 = some (42, (done.map fun x => (x.eval row).enc) ++ List.replicate (rest.length + 1) (PV.agg [PV.int IntKind.i64 0, PV.int IntKind.i64 0, PV.str ⟨#[]⟩])) := by rw [getRow, h50]; rfl
    have hxl : (done.length : Int) < (((done.map fun x => (x.eval row).enc) ++ List.replicate (rest.length + 1) (PV.agg [PV.int IntKind.i64 0, PV.int IntKind.i64 0, PV.str ⟨#[]⟩])).length : Nat) := by simp; omega
    have hx0 : ((done.map fun x => (x.eval row).enc) ++ List.replicate (rest.length + 1) (PV.agg [PV.int IntKind.i64 0, PV.int IntKind.i64 0, PV.str ⟨#[]⟩]))[done.length]? = some (PV.agg [PV.int IntKind.i64 0, PV.int IntKind.i64 0, PV.str ⟨#[]⟩]) := by simp
    rw [List.length_cons] at h50
    simp only [go_sem, Nat.reduceEqDiff, Nat.reduceAdd, Nat.reduceSub, Nat.reduceLeDiff, Nat.reduceLT, Nat.reduceMul, Nat.reduceBEq, Int.reduceEq, Int.reduceLT, Int.reduceLE, Int.reduceNeg, Int.reduceToNat, reduceCtorEq, ho, Try.results38, h54, h53, h52, hlt, hget, Int.natCast_nonneg, Int.toNat_natCast, h5, hs1, hs2, hs4, hb2, hb4, x.enc_eq]
    refine GCall.fr ?_ (IH x hxs) (.inl rfl) ?_; (focus (first | rfl | ((simp only [go_sem, Nat.reduceEqDiff, Nat.reduceAdd, Nat.reduceSub, Nat.reduceLeDiff, Nat.reduceLT, Nat.reduceMul, Nat.reduceBEq, Int.reduceEq, Int.reduceLT, Int.reduceLE, Int.reduceNeg, Int.reduceToNat, reduceCtorEq, ho, Try.results38, x.enc_eq, hs1]); done) | ((simp only [go_sem, Nat.reduceEqDiff, Nat.reduceAdd, Nat.reduceSub, Nat.reduceLeDiff, Nat.reduceLT, Nat.reduceMul, Nat.reduceBEq, Int.reduceEq, Int.reduceLT, Int.reduceLE, Int.reduceNeg, Int.reduceToNat, reduceCtorEq, ho, Try.results38, x.enc_eq, hs1]); rfl)))
    simp only [go_sem, Nat.reduceEqDiff, Nat.reduceAdd, Nat.reduceSub, Nat.reduceLeDiff, Nat.reduceLT, Nat.reduceMul, Nat.reduceBEq, Int.reduceEq, Int.reduceLT, Int.reduceLE, Int.reduceNeg, Int.reduceToNat, reduceCtorEq, ho, Try.results38, h54, h53, h52, h5, hx50, hxl, hx0, h50, Int.natCast_nonneg, Int.toNat_natCast, hs1, hs2, hs4, hb2, hb4, hw]
    refine ⟨rest.length, by simp at hm'; omega, done ++ [x], rest, by simp [hl'], rfl, by simp, ?_⟩
    simp [List.set_append, List.replicate_succ]
end Go.Proofs.Ytiefnninebilbaa
/- What the evaluation of an expression returns, operator by operator; no condition. -/
set_option maxRecDepth 100000
set_option linter.unusedVariables false
set_option linter.unusedSimpArgs false
namespace Go.Proofs.Ytiefnninebilbaa
open Go Go.Sx

theorem evalc_13 (row : List Vl) (n : Nat) (hn : n + 1 ≤ 100000000) (IH : ∀ x : Ex, x.size ≤ n → Fc 38 [x.enc, .sl (row.map Vl.enc)] (x.eval row).enc) (e : Ex) (h : e.size ≤ n + 1) (hf : e.formed = true) (hop : e.op = 13) : Fc 38 [e.enc, .sl (row.map Vl.enc)] (e.eval row).enc := by
  obtain ⟨l, hleq⟩ : ∃ l, l = e.args.map (Ex.eval row) := ⟨_, rfl⟩
  have hev : e.eval row = evalOp row 13 e.int e.val (e.args.map (Ex.eval row)) := by rw [Ex.eval_eq, hf, hop]; rfl
  have hsz := e.size_eq
  have hlen := Ex.len_sizes e.args
  have hfit := formed_len hf
  rw [hop] at hfit
  rw [← hleq] at hev
  refine fn_of_awp (E := E0) (M := M0) follows Try.func38 rfl (by decide) ok38 (by decide) (by simp) fun o ho => ?_
  rw [hev]
  clear hev
  simp only [go_sem, Nat.reduceEqDiff, Nat.reduceAdd, Nat.reduceSub, Nat.reduceLeDiff, Nat.reduceLT, Nat.reduceMul, Nat.reduceBEq, Int.reduceEq, Int.reduceLT, Int.reduceLE, Int.reduceNeg, Int.reduceToNat, reduceCtorEq, ho, Try.results38, e.enc_eq]
  refine GCall.fr ?_ (formed_fn e) (.inl rfl) ?_; (focus (first | rfl | ((simp only [go_sem, Nat.reduceEqDiff, Nat.reduceAdd, Nat.reduceSub, Nat.reduceLeDiff, Nat.reduceLT, Nat.reduceMul, Nat.reduceBEq, Int.reduceEq, Int.reduceLT, Int.reduceLE, Int.reduceNeg, Int.reduceToNat, reduceCtorEq, ho, Try.results38, e.enc_eq]); done) | ((simp only [go_sem, Nat.reduceEqDiff, Nat.reduceAdd, Nat.reduceSub, Nat.reduceLeDiff, Nat.reduceLT, Nat.reduceMul, Nat.reduceBEq, Int.reduceEq, Int.reduceLT, Int.reduceLE, Int.reduceNeg, Int.reduceToNat, reduceCtorEq, ho, Try.results38, e.enc_eq]); rfl)))
  simp only [go_sem, Nat.reduceEqDiff, Nat.reduceAdd, Nat.reduceSub, Nat.reduceLeDiff, Nat.reduceLT, Nat.reduceMul, Nat.reduceBEq, Int.reduceEq, Int.reduceLT, Int.reduceLE, Int.reduceNeg, Int.reduceToNat, reduceCtorEq, ho, Try.results38, hf, hop]
  have hl100 : e.args.length ≤ 100000000 := by omega
  have hllen : l.length = e.args.length := by rw [hleq]; simp
  have hpos := fits_pos (op := 13) (l := l) (by rw [hllen]; exact hfit) (by decide) (by decide)
  have hm : (e.args.length : Int) * (((32 : Nat) : Int) + 1) ≤ 140737488355328 := by omega
  simp only [go_sem, Nat.reduceEqDiff, Nat.reduceAdd, Nat.reduceSub, Nat.reduceLeDiff, Nat.reduceLT, Nat.reduceMul, Nat.reduceBEq, Int.reduceEq, Int.reduceLT, Int.reduceLE, Int.reduceNeg, Int.reduceToNat, reduceCtorEq, ho, Try.results38, List.length_map, Int.natCast_nonneg, hm, true_and, Int.toNat_natCast, Int.le_refl]
  refine ⟨fun m st => ∃ (done rest : List Ex), e.args = done ++ rest ∧ rest.length = m ∧ st.s 54 = .int .i64 done.length ∧ st.s 53 = .int .i64 e.args.length ∧ st.s 52 = .sl (e.args.map Ex.enc) ∧ st.s 5 = .ref 50 1 ∧ st.o 50 = (1, some (true, .row 42 ((done.map fun x => (x.eval row).enc) ++ List.replicate rest.length (PV.agg [PV.int IntKind.i64 0, PV.int IntKind.i64 0, PV.str ⟨#[]⟩])))) ∧ st.s 1 = .sl (row.map Vl.enc) ∧ st.s 2 = .ptr 2 1 0 ∧ st.s 4 = .ptr 4 1 0 ∧ getBox st.o 2 1 = some (49, e.enc.cells) ∧ st.o 4 = (1, some (true, .box 42 [.int .i64 0, .int .i64 0, .str ⟨#[]⟩])), e.args.length,
    ⟨[], e.args, rfl, rfl, by simp only [go_sem, Nat.reduceEqDiff, Nat.reduceAdd, Nat.reduceSub, Nat.reduceLeDiff, Nat.reduceLT, Nat.reduceMul, Nat.reduceBEq, Int.reduceEq, Int.reduceLT, Int.reduceLE, Int.reduceNeg, Int.reduceToNat, reduceCtorEq, ho, Try.results38]; rfl, by simp only [go_sem, Nat.reduceEqDiff, Nat.reduceAdd, Nat.reduceSub, Nat.reduceLeDiff, Nat.reduceLT, Nat.reduceMul, Nat.reduceBEq, Int.reduceEq, Int.reduceLT, Int.reduceLE, Int.reduceNeg, Int.reduceToNat, reduceCtorEq, ho, Try.results38], by simp only [go_sem, Nat.reduceEqDiff, Nat.reduceAdd, Nat.reduceSub, Nat.reduceLeDiff, Nat.reduceLT, Nat.reduceMul, Nat.reduceBEq, Int.reduceEq, Int.reduceLT, Int.reduceLE, Int.reduceNeg, Int.reduceToNat, reduceCtorEq, ho, Try.results38], by simp only [go_sem, Nat.reduceEqDiff, Nat.reduceAdd, Nat.reduceSub, Nat.reduceLeDiff, Nat.reduceLT, Nat.reduceMul, Nat.reduceBEq, Int.reduceEq, Int.reduceLT, Int.reduceLE, Int.reduceNeg, Int.reduceToNat, reduceCtorEq, ho, Try.results38], by simp only [go_sem, Nat.reduceEqDiff, Nat.reduceAdd, Nat.reduceSub, Nat.reduceLeDiff, Nat.reduceLT, Nat.reduceMul, Nat.reduceBEq, Int.reduceEq, Int.reduceLT, Int.reduceLE, Int.reduceNeg, Int.reduceToNat, reduceCtorEq, ho, Try.results38, List.map_nil, List.nil_append], by simp only [go_sem, Nat.reduceEqDiff, Nat.reduceAdd, Nat.reduceSub, Nat.reduceLeDiff, Nat.reduceLT, Nat.reduceMul, Nat.reduceBEq, Int.reduceEq, Int.reduceLT, Int.reduceLE, Int.reduceNeg, Int.reduceToNat, reduceCtorEq, ho, Try.results38], by simp only [go_sem, Nat.reduceEqDiff, Nat.reduceAdd, Nat.reduceSub, Nat.reduceLeDiff, Nat.reduceLT, Nat.reduceMul, Nat.reduceBEq, Int.reduceEq, Int.reduceLT, Int.reduceLE, Int.reduceNeg, Int.reduceToNat, reduceCtorEq, ho, Try.results38], by simp only [go_sem, Nat.reduceEqDiff, Nat.reduceAdd, Nat.reduceSub, Nat.reduceLeDiff, Nat.reduceLT, Nat.reduceMul, Nat.reduceBEq, Int.reduceEq, Int.reduceLT, Int.reduceLE, Int.reduceNeg, Int.reduceToNat, reduceCtorEq, ho, Try.results38], by simp only [go_sem, Nat.reduceEqDiff, Nat.reduceAdd, Nat.reduceSub, Nat.reduceLeDiff, Nat.reduceLT, Nat.reduceMul, Nat.reduceBEq, Int.reduceEq, Int.reduceLT, Int.reduceLE, Int.reduceNeg, Int.reduceToNat, reduceCtorEq, ho, Try.results38, hop], by simp only [go_sem, Nat.reduceEqDiff, Nat.reduceAdd, Nat.reduceSub, Nat.reduceLeDiff, Nat.reduceLT, Nat.reduceMul, Nat.reduceBEq, Int.reduceEq, Int.reduceLT, Int.reduceLE, Int.reduceNeg, Int.reduceToNat, reduceCtorEq, ho, Try.results38]⟩, ?_⟩
  rintro m st ⟨done, rest, hl', hm', h54, h53, h52, h5, h50, hs1, hs2, hs4, hb2, hb4⟩
  have hlen2 : done.length + rest.length = e.args.length := by rw [hl']; simp
  have hw : IntKind.i64.wrap ((done.length : Int) + 1) = (done.length : Int) + 1 := wrap_fits (by omega) (by omega)
  cases rest with
  | nil =>
    have hlt : ¬ (done.length : Int) < (e.args.length : Int) := by simp at hlen2; omega
    obtain hdone : e.args = done := by simpa using hl'
    simp only [List.length_nil, List.replicate, List.append_nil] at h50
    have hrw : (done.map fun x => (x.eval row).enc) = l.map Vl.enc := by rw [hleq, hdone]; simp
    rw [hrw] at h50
    have hrow : getRow st.o 50 1 = some (42, l.map Vl.enc) := by simp [getRow, h50]
    have hvv : ∀ v ∈ l, v.valid = true := fun v hv => by rw [hleq] at hv; obtain ⟨x, _, rfl⟩ := List.mem_map.1 hv; exact Ex.eval_valid row x
    have hg0 := nth_get hpos
    have hl0 : (0 : Int) < (l.length : Int) := by omega
    clear hleq hrw
    simp only [go_sem, Nat.reduceEqDiff, Nat.reduceAdd, Nat.reduceSub, Nat.reduceLeDiff, Nat.reduceLT, Nat.reduceMul, Nat.reduceBEq, Int.reduceEq, Int.reduceLT, Int.reduceLE, Int.reduceNeg, Int.reduceToNat, reduceCtorEq, ho, Try.results38, h54, h53, hlt, hop, h5, hs2, hs4, hb2, hb4]
    refine GCall.fr ?_ (arith_fn 13 l hvv (by omega) hpos) (.inl rfl) ?_; (focus (first | rfl | ((simp only [go_sem, Nat.reduceEqDiff, Nat.reduceAdd, Nat.reduceSub, Nat.reduceLeDiff, Nat.reduceLT, Nat.reduceMul, Nat.reduceBEq, Int.reduceEq, Int.reduceLT, Int.reduceLE, Int.reduceNeg, Int.reduceToNat, reduceCtorEq, ho, Try.results38, hop, hrow]); done) | ((simp only [go_sem, Nat.reduceEqDiff, Nat.reduceAdd, Nat.reduceSub, Nat.reduceLeDiff, Nat.reduceLT, Nat.reduceMul, Nat.reduceBEq, Int.reduceEq, Int.reduceLT, Int.reduceLE, Int.reduceNeg, Int.reduceToNat, reduceCtorEq, ho, Try.results38, hop, hrow]); rfl)))
    simp only [go_sem, Nat.reduceEqDiff, Nat.reduceAdd, Nat.reduceSub, Nat.reduceLeDiff, Nat.reduceLT, Nat.reduceMul, Nat.reduceBEq, Int.reduceEq, Int.reduceLT, Int.reduceLE, Int.reduceNeg, Int.reduceToNat, reduceCtorEq, ho, Try.results38, Vl.enc, h5, hs2, hs4, hb2, hb4]
    rw [evo_13]; exact ⟨rfl, rfl, rfl⟩
  | cons x rest =>
    have hlt : (done.length : Int) < (e.args.length : Int) := by simp at hlen2; omega
    have hget : (e.args.map Ex.enc)[done.length]? = some x.enc := by simp [hl']
    have hxs : x.size ≤ n := by have := hsz; rw [hl', Ex.sizes_app] at this; simp [Ex.sizes] at this; omega
    have hx50 : getRow st.o 50 1 = some (42, (done.map fun x => (x.eval row).enc) ++ List.replicate (rest.length + 1) (PV.agg [PV.int IntKind.i64 0, PV.int IntKind.i64 0, PV.str ⟨#[]⟩])) := by rw [getRow, h50]; rfl
    have hxl : (done.length : Int) < (((done.map fun x => (x.eval row).enc) ++ List.replicate (rest.length + 1) (PV.agg [PV.int IntKind.i64 0, PV.int IntKind.i64 0, PV.str ⟨#[]⟩])).length : Nat) := by simp; omega
    have hx0 : ((done.map fun x => (x.eval row).enc) ++ List.replicate (rest.length + 1) (PV.agg [PV.int IntKind.i64 0, PV.int IntKind.i64 0, PV.str ⟨#[]⟩]))[done.length]? = some (PV.agg [PV.int IntKind.i64 0, PV.int IntKind.i64 0, PV.str ⟨#[]⟩]) := by simp
    rw [List.length_cons] at h50
    simp only [go_sem, Nat.reduceEqDiff, Nat.reduceAdd, Nat.reduceSub, Nat.reduceLeDiff, Nat.reduceLT, Nat.reduceMul, Nat.reduceBEq, Int.reduceEq, Int.reduceLT, Int.reduceLE, Int.reduceNeg, Int.reduceToNat, reduceCtorEq, ho, Try.results38, h54, h53, h52, hlt, hget, Int.natCast_nonneg, Int.toNat_natCast, h5, hs1, hs2, hs4, hb2, hb4, x.enc_eq]
    refine GCall.fr ?_ (IH x hxs) (.inl rfl) ?_; (focus (first | rfl | ((simp only [go_sem, Nat.reduceEqDiff, Nat.reduceAdd, Nat.reduceSub, Nat.reduceLeDiff, Nat.reduceLT, Nat.reduceMul, Nat.reduceBEq, Int.reduceEq, Int.reduceLT, Int.reduceLE, Int.reduceNeg, Int.reduceToNat, reduceCtorEq, ho, Try.results38, x.enc_eq, hs1]); done) | ((simp only [go_sem, Nat.reduceEqDiff, Nat.reduceAdd, Nat.reduceSub, Nat.reduceLeDiff, Nat.reduceLT, Nat.reduceMul, Nat.reduceBEq, Int.reduceEq, Int.reduceLT, Int.reduceLE, Int.reduceNeg, Int.reduceToNat, reduceCtorEq, ho, Try.results38, x.enc_eq, hs1]); rfl)))
    simp only [go_sem, Nat.reduceEqDiff, Nat.reduceAdd, Nat.reduceSub, Nat.reduceLeDiff, Nat.reduceLT, Nat.reduceMul, Nat.reduceBEq, Int.reduceEq, Int.reduceLT, Int.reduceLE, Int.reduceNeg, Int.reduceToNat, reduceCtorEq, ho, Try.results38, h54, h53, h52, h5, hx50, hxl, hx0, h50, Int.natCast_nonneg, Int.toNat_natCast, hs1, hs2, hs4, hb2, hb4, hw]
    refine ⟨rest.length, by simp at hm'; omega, done ++ [x], rest, by simp [hl'], rfl, by simp, ?_⟩
    simp [List.set_append, List.replicate_succ]
theorem evalc_14 (row : List Vl) (n : Nat) (hn : n + 1 ≤ 100000000) (IH : ∀ x : Ex, x.size ≤ n → Fc 38 [x.enc, .sl (row.map Vl.enc)] (x.eval row).enc) (e : Ex) (h : e.size ≤ n + 1) (hf : e.formed = true) (hop : e.op = 14) : Fc 38 [e.enc, .sl (row.map Vl.enc)] (e.eval row).enc := by
  obtain ⟨l, hleq⟩ : ∃ l, l = e.args.map (Ex.eval row) := ⟨_, rfl⟩
  have hev : e.eval row = evalOp row 14 e.int e.val (e.args.map (Ex.eval row)) := by rw [Ex.eval_eq, hf, hop]; rfl
  have hsz := e.size_eq
  have hlen := Ex.len_sizes e.args
  have hfit := formed_len hf
  rw [hop] at hfit
  rw [← hleq] at hev
  refine fn_of_awp (E := E0) (M := M0) follows Try.func38 rfl (by decide) ok38 (by decide) (by simp) fun o ho => ?_
  rw [hev]
  clear hev
  simp only [go_sem, Nat.reduceEqDiff, Nat.reduceAdd, Nat.reduceSub, Nat.reduceLeDiff, Nat.reduceLT, Nat.reduceMul, Nat.reduceBEq, Int.reduceEq, Int.reduceLT, Int.reduceLE, Int.reduceNeg, Int.reduceToNat, reduceCtorEq, ho, Try.results38, e.enc_eq]
  refine GCall.fr ?_ (formed_fn e) (.inl rfl) ?_; (focus (first | rfl | ((simp only [go_sem, Nat.reduceEqDiff, Nat.reduceAdd, Nat.reduceSub, Nat.reduceLeDiff, Nat.reduceLT, Nat.reduceMul, Nat.reduceBEq, Int.reduceEq, Int.reduceLT, Int.reduceLE, Int.reduceNeg, Int.reduceToNat, reduceCtorEq, ho, Try.results38, e.enc_eq]); done) | ((simp only [go_sem, Nat.reduceEqDiff, Nat.reduceAdd, Nat.reduceSub, Nat.reduceLeDiff, Nat.reduceLT, Nat.reduceMul, Nat.reduceBEq, Int.reduceEq, Int.reduceLT, Int.reduceLE, Int.reduceNeg, Int.reduceToNat, reduceCtorEq, ho, Try.results38, e.enc_eq]); rfl)))
  simp only [go_sem, Nat.reduceEqDiff, Nat.reduceAdd, Nat.reduceSub, Nat.reduceLeDiff, Nat.reduceLT, Nat.reduceMul, Nat.reduceBEq, Int.reduceEq, Int.reduceLT, Int.reduceLE, Int.reduceNeg, Int.reduceToNat, reduceCtorEq, ho, Try.results38, hf, hop]
  have hl100 : e.args.length ≤ 100000000 := by omega
  have hllen : l.length = e.args.length := by rw [hleq]; simp
  have hpos := fits_pos (op := 14) (l := l) (by rw [hllen]; exact hfit) (by decide) (by decide)
  have hm : (e.args.length : Int) * (((32 : Nat) : Int) + 1) ≤ 140737488355328 := by omega
  simp only [go_sem, Nat.reduceEqDiff, Nat.reduceAdd, Nat.reduceSub, Nat.reduceLeDiff, Nat.reduceLT, Nat.reduceMul, Nat.reduceBEq, Int.reduceEq, Int.reduceLT, Int.reduceLE, Int.reduceNeg, Int.reduceToNat, reduceCtorEq, ho, Try.results38, List.length_map, Int.natCast_nonneg, hm, true_and, Int.toNat_natCast, Int.le_refl]
  refine ⟨fun m st => ∃ (done rest : List Ex), e.args = done ++ rest ∧ rest.length = m ∧ st.s 54 = .int .i64 done.length ∧ st.s 53 = .int .i64 e.args.length ∧ st.s 52 = .sl (e.args.map Ex.enc) ∧ st.s 5 = .ref 50 1 ∧ st.o 50 = (1, some (true, .row 42 ((done.map fun x => (x.eval row).enc) ++ List.replicate rest.length (PV.agg [PV.int IntKind.i64 0, PV.int IntKind.i64 0, PV.str ⟨#[]⟩])))) ∧ st.s 1 = .sl (row.map Vl.enc) ∧ st.s 2 = .ptr 2 1 0 ∧ st.s 4 = .ptr 4 1 0 ∧ getBox st.o 2 1 = some (49, e.enc.cells) ∧ st.o 4 = (1, some (true, .box 42 [.int .i64 0, .int .i64 0, .str ⟨#[]⟩])), e.args.length,
    ⟨[], e.args, rfl, rfl, by simp only [go_sem, Nat.reduceEqDiff, Nat.reduceAdd, Nat.reduceSub, Nat.reduceLeDiff, Nat.reduceLT, Nat.reduceMul, Nat.reduceBEq, Int.reduceEq, Int.reduceLT, Int.reduceLE, Int.reduceNeg, Int.reduceToNat, reduceCtorEq, ho, Try.results38]; rfl, by simp only [go_sem, Nat.reduceEqDiff, Nat.reduceAdd, Nat.reduceSub, Nat.reduceLeDiff, Nat.reduceLT, Nat.reduceMul, Nat.reduceBEq, Int.reduceEq, Int.reduceLT, Int.reduceLE, Int.reduceNeg, Int.reduceToNat, reduceCtorEq, ho, Try.results38], by simp only [go_sem, Nat.reduceEqDiff, Nat.reduceAdd, Nat.reduceSub, Nat.reduceLeDiff, Nat.reduceLT, Nat.reduceMul, Nat.reduceBEq, Int.reduceEq, Int.reduceLT, Int.reduceLE, Int.reduceNeg, Int.reduceToNat, reduceCtorEq, ho, Try.results38], by simp only [go_sem, Nat.reduceEqDiff, Nat.reduceAdd, Nat.reduceSub, Nat.reduceLeDiff, Nat.reduceLT, Nat.reduceMul, Nat.reduceBEq, Int.reduceEq, Int.reduceLT, Int.reduceLE, Int.reduceNeg, Int.reduceToNat, reduceCtorEq, ho, Try.results38], by simp only [go_sem, Nat.reduceEqDiff, Nat.reduceAdd, Nat.reduceSub, Nat.reduceLeDiff, Nat.reduceLT, Nat.reduceMul, Nat.reduceBEq, Int.reduceEq, Int.reduceLT, Int.reduceLE, Int.reduceNeg, Int.reduceToNat, reduceCtorEq, ho, Try.results38, List.map_nil, List.nil_append], by simp only [go_sem, Nat.reduceEqDiff, Nat.reduceAdd, Nat.reduceSub, Nat.reduceLeDiff, Nat.reduceLT, Nat.reduceMul, Nat.reduceBEq, Int.reduceEq, Int.reduceLT, Int.reduceLE, Int.reduceNeg, Int.reduceToNat, reduceCtorEq, ho, Try.results38], by simp only [go_sem, Nat.reduceEqDiff, Nat.reduceAdd, Nat.reduceSub, Nat.reduceLeDiff, Nat.reduceLT, Nat.reduceMul, Nat.reduceBEq, Int.reduceEq, Int.reduceLT, Int.reduceLE, Int.reduceNeg, Int.reduceToNat, reduceCtorEq, ho, Try.results38], by simp only [go_sem, Nat.reduceEqDiff, Nat.reduceAdd, Nat.reduceSub, Nat.reduceLeDiff, Nat.reduceLT, Nat.reduceMul, Nat.reduceBEq, Int.reduceEq, Int.reduceLT, Int.reduceLE, Int.reduceNeg, Int.reduceToNat, reduceCtorEq, ho, Try.results38], by simp only [go_sem, Nat.reduceEqDiff, Nat.reduceAdd, Nat.reduceSub, Nat.reduceLeDiff, Nat.reduceLT, Nat.reduceMul, Nat.reduceBEq, Int.reduceEq, Int.reduceLT, Int.reduceLE, Int.reduceNeg, Int.reduceToNat, reduceCtorEq, ho, Try.results38, hop], by simp only [go_sem, Nat.reduceEqDiff, Nat.reduceAdd, Nat.reduceSub, Nat.reduceLeDiff, Nat.reduceLT, Nat.reduceMul, Nat.reduceBEq, Int.reduceEq, Int.reduceLT, Int.reduceLE, Int.reduceNeg, Int.reduceToNat, reduceCtorEq, ho, Try.results38]⟩, ?_⟩
  rintro m st ⟨done, rest, hl', hm', h54, h53, h52, h5, h50, hs1, hs2, hs4, hb2, hb4⟩
  have hlen2 : done.length + rest.length = e.args.length := by rw [hl']; simp
  have hw : IntKind.i64.wrap ((done.length : Int) + 1) = (done.length : Int) + 1 := wrap_fits (by omega) (by omega)
  cases rest with
  | nil =>
    have hlt : ¬ (done.length : Int) < (e.args.length : Int) := by simp at hlen2; omega
    obtain hdone : e.args = done := by simpa using hl'
    simp only [List.length_nil, List.replicate, List.append_nil] at h50
    have hrw : (done.map fun x => (x.eval row).enc) = l.map Vl.enc := by rw [hleq, hdone]; simp
    rw [hrw] at h50
    have hrow : getRow st.o 50 1 = some (42, l.map Vl.enc) := by simp [getRow, h50]
    have hvv : ∀ v ∈ l, v.valid = true := fun v hv => by rw [hleq] at hv; obtain ⟨x, _, rfl⟩ := List.mem_map.1 hv; exact Ex.eval_valid row x
    have hg0 := nth_get hpos
    have hl0 : (0 : Int) < (l.length : Int) := by omega
    clear hleq hrw
    simp only [go_sem, Nat.reduceEqDiff, Nat.reduceAdd, Nat.reduceSub, Nat.reduceLeDiff, Nat.reduceLT, Nat.reduceMul, Nat.reduceBEq, Int.reduceEq, Int.reduceLT, Int.reduceLE, Int.reduceNeg, Int.reduceToNat, reduceCtorEq, ho, Try.results38, h54, h53, hlt, hop, h5, hs2, hs4, hb2, hb4]
    refine GCall.fr ?_ (arith_fn 14 l hvv (by omega) hpos) (.inl rfl) ?_; (focus (first | rfl | ((simp only [go_sem, Nat.reduceEqDiff, Nat.reduceAdd, Nat.reduceSub, Nat.reduceLeDiff, Nat.reduceLT, Nat.reduceMul, Nat.reduceBEq, Int.reduceEq, Int.reduceLT, Int.reduceLE, Int.reduceNeg, Int.reduceToNat, reduceCtorEq, ho, Try.results38, hop, hrow]); done) | ((simp only [go_sem, Nat.reduceEqDiff, Nat.reduceAdd, Nat.reduceSub, Nat.reduceLeDiff, Nat.reduceLT, Nat.reduceMul, Nat.reduceBEq, Int.reduceEq, Int.reduceLT, Int.reduceLE, Int.reduceNeg, Int.reduceToNat, reduceCtorEq, ho, Try.results38, hop, hrow]); rfl)))
    simp only [go_sem, Nat.reduceEqDiff, Nat.reduceAdd, Nat.reduceSub, Nat.reduceLeDiff, Nat.reduceLT, Nat.reduceMul, Nat.reduceBEq, Int.reduceEq, Int.reduceLT, Int.reduceLE, Int.reduceNeg, Int.reduceToNat, reduceCtorEq, ho, Try.results38, Vl.enc, h5, hs2, hs4, hb2, hb4]
    rw [evo_14]; exact ⟨rfl, rfl, rfl⟩
  | cons x rest =>
    have hlt : (done.length : Int) < (e.args.length : Int) := by simp at hlen2; omega
    have hget : (e.args.map Ex.enc)[done.length]? = some x.enc := by simp [hl']
    have hxs : x.size ≤ n := by have := hsz; rw [hl', Ex.sizes_app] at this; simp [Ex.sizes] at this; omega
    have hx50 : getRow st.o 50 1 = some (42, (done.map fun x => (x.eval row).enc) ++ List.replicate (rest.length + 1) (PV.agg [PV.int IntKind.i64 0, PV.int IntKind.i64 0, PV.str ⟨#[]⟩])) := by rw [getRow, h50]; rfl
    have hxl : (done.length : Int) < (((done.map fun x => (x.eval row).enc) ++ List.replicate (rest.length + 1) (PV.agg [PV.int IntKind.i64 0, PV.int IntKind.i64 0, PV.str ⟨#[]⟩])).length : Nat) := by simp; omega
    have hx0 : ((done.map fun x => (x.eval row).enc) ++ List.replicate (rest.length + 1) (PV.agg [PV.int IntKind.i64 0, PV.int IntKind.i64 0, PV.str ⟨#[]⟩]))[done.length]? = some (PV.agg [PV.int IntKind.i64 0, PV.int IntKind.i64 0, PV.str ⟨#[]⟩]) := by simp
    rw [List.length_cons] at h50
    simp only [go_sem, Nat.reduceEqDiff, Nat.reduceAdd, Nat.reduceSub, Nat.reduceLeDiff, Nat.reduceLT, Nat.reduceMul, Nat.reduceBEq, Int.reduceEq, Int.reduceLT, Int.reduceLE, Int.reduceNeg, Int.reduceToNat, reduceCtorEq, ho, Try.results38, h54, h53, h52, hlt, hget, Int.natCast_nonneg, Int.toNat_natCast, h5, hs1, hs2, hs4, hb2, hb4, x.enc_eq]
    refine GCall.fr ?_ (IH x hxs) (.inl rfl) ?_; (focus (first | rfl | ((simp only [go_sem, Nat.reduceEqDiff, Nat.reduceAdd, Nat.reduceSub, Nat.reduceLeDiff, Nat.reduceLT, Nat.reduceMul, Nat.reduceBEq, Int.reduceEq, Int.reduceLT, Int.reduceLE, Int.reduceNeg, Int.reduceToNat, reduceCtorEq, ho, Try.results38, x.enc_eq, hs1]); done) | ((simp only [go_sem, Nat.reduceEqDiff, Nat.reduceAdd, Nat.reduceSub, Nat.reduceLeDiff, Nat.reduceLT, Nat.reduceMul, Nat.reduceBEq, Int.reduceEq, Int.reduceLT, Int.reduceLE, Int.reduceNeg, Int.reduceToNat, reduceCtorEq, ho, Try.results38, x.enc_eq, hs1]); rfl)))
    simp only [go_sem, Nat.reduceEqDiff, Nat.reduceAdd, Nat.reduceSub, Nat.reduceLeDiff, Nat.reduceLT, Nat.reduceMul, Nat.reduceBEq, Int.reduceEq, Int.reduceLT, Int.reduceLE, Int.reduceNeg, Int.reduceToNat, reduceCtorEq, ho, Try.results38, h54, h53, h52, h5, hx50, hxl, hx0, h50, Int.natCast_nonneg, Int.toNat_natCast, hs1, hs2, hs4, hb2, hb4, hw]
    refine ⟨rest.length, by simp at hm'; omega, done ++ [x], rest, by simp [hl'], rfl, by simp, ?_⟩
    simp [List.set_append, List.replicate_succ]
theorem evalc_15 (row : List Vl) (n : Nat) (hn : n + 1 ≤ 100000000) (IH : ∀ x : Ex, x.size ≤ n → Fc 38 [x.enc, .sl (row.map Vl.enc)] (x.eval row).enc) (e : Ex) (h : e.size ≤ n + 1) (hf : e.formed = true) (hop : e.op = 15) : Fc 38 [e.enc, .sl (row.map Vl.enc)] (e.eval row).enc := by
  obtain ⟨l, hleq⟩ : ∃ l, l = e.args.map (Ex.eval row) := ⟨_, rfl⟩
  have hev : e.eval row = evalOp row 15 e.int e.val (e.args.map (Ex.eval row)) := by rw [Ex.eval_eq, hf, hop]; rfl
  have hsz := e.size_eq
  have hlen := Ex.len_sizes e.args
  have hfit := formed_len hf
  rw [hop] at hfit
  rw [← hleq] at hev
  refine fn_of_awp (E := E0) (M := M0) follows Try.func38 rfl (by decide) ok38 (by decide) (by simp) fun o ho => ?_
  rw [hev]
  clear hev
  simp only [go_sem, Nat.reduceEqDiff, Nat.reduceAdd, Nat.reduceSub, Nat.reduceLeDiff, Nat.reduceLT, Nat.reduceMul, Nat.reduceBEq, Int.reduceEq, Int.reduceLT, Int.reduceLE, Int.reduceNeg, Int.reduceToNat, reduceCtorEq, ho, Try.results38, e.enc_eq]
  refine GCall.fr ?_ (formed_fn e) (.inl rfl) ?_; (focus (first | rfl | ((simp only [go_sem, Nat.reduceEqDiff, Nat.reduceAdd, Nat.reduceSub, Nat.reduceLeDiff, Nat.reduceLT, Nat.reduceMul, Nat.reduceBEq, Int.reduceEq, Int.reduceLT, Int.reduceLE, Int.reduceNeg, Int.reduceToNat, reduceCtorEq, ho, Try.results38, e.enc_eq]); done) | ((simp only [go_sem, Nat.reduceEqDiff, Nat.reduceAdd, Nat.reduceSub, Nat.reduceLeDiff, Nat.reduceLT, Nat.reduceMul, Nat.reduceBEq, Int.reduceEq, Int.reduceLT, Int.reduceLE, Int.reduceNeg, Int.reduceToNat, reduceCtorEq, ho, Try.results38, e.enc_eq]); rfl)))
  simp only [go_sem, Nat.reduceEqDiff, Nat.reduceAdd, Nat.reduceSub, Nat.reduceLeDiff, Nat.reduceLT, Nat.reduceMul, Nat.reduceBEq, Int.reduceEq, Int.reduceLT, Int.reduceLE, Int.reduceNeg, Int.reduceToNat, reduceCtorEq, ho, Try.results38, hf, hop]
  have hl100 : e.args.length ≤ 100000000 := by omega
  have hllen : l.length = e.args.length := by rw [hleq]; simp
  have hpos := fits_pos (op := 15) (l := l) (by rw [hllen]; exact hfit) (by decide) (by decide)
  have hm : (e.args.length : Int) * (((32 : Nat) : Int) + 1) ≤ 140737488355328 := by omega
  simp only [go_sem, Nat.reduceEqDiff, Nat.reduceAdd, Nat.reduceSub, Nat.reduceLeDiff, Nat.reduceLT, Nat.reduceMul, Nat.reduceBEq, Int.reduceEq, Int.reduceLT, Int.reduceLE, Int.reduceNeg, Int.reduceToNat, reduceCtorEq, ho, Try.results38, List.length_map, Int.natCast_nonneg, hm, true_and, Int.toNat_natCast, Int.le_refl]
  refine ⟨fun m st => ∃ (done rest : List Ex), e.args = done ++ rest ∧ rest.length = m ∧ st.s 54 = .int .i64 done.length ∧ st.s 53 = .int .i64 e.args.length ∧ st.s 52 = .sl (e.args.map Ex.enc) ∧ st.s 5 = .ref 50 1 ∧ st.o 50 = (1, some (true, .row 42 ((done.map fun x => (x.eval row).enc) ++ List.replicate rest.length (PV.agg [PV.int IntKind.i64 0, PV.int IntKind.i64 0, PV.str ⟨#[]⟩])))) ∧ st.s 1 = .sl (row.map Vl.enc) ∧ st.s 2 = .ptr 2 1 0 ∧ st.s 4 = .ptr 4 1 0 ∧ getBox st.o 2 1 = some (49, e.enc.cells) ∧ st.o 4 = (1, some (true, .box 42 [.int .i64 0, .int .i64 0, .str ⟨#[]⟩])), e.args.length,
    ⟨[], e.args, rfl, rfl, by simp only [go_sem, Nat.reduceEqDiff, Nat.reduceAdd, Nat.reduceSub, Nat.reduceLeDiff, Nat.reduceLT, Nat.reduceMul, Nat.reduceBEq, Int.reduceEq, Int.reduceLT, Int.reduceLE, Int.reduceNeg, Int.reduceToNat, reduceCtorEq, ho, Try.results38]; rfl, by simp only [go_sem, Nat.reduceEqDiff, Nat.reduceAdd, Nat.reduceSub, Nat.reduceLeDiff, Nat.reduceLT, Nat.reduceMul, Nat.reduceBEq, Int.reduceEq, Int.reduceLT, Int.reduceLE, Int.reduceNeg, Int.reduceToNat, reduceCtorEq, ho, Try.results38], by simp only [go_sem, Nat.reduceEqDiff, Nat.reduceAdd, Nat.reduceSub, Nat.reduceLeDiff, Nat.reduceLT, Nat.reduceMul, Nat.reduceBEq, Int.reduceEq, Int.reduceLT, Int.reduceLE, Int.reduceNeg, Int.reduceToNat, reduceCtorEq, ho, Try.results38], by simp only [go_sem, Nat.reduceEqDiff, Nat.reduceAdd, Nat.reduceSub, Nat.reduceLeDiff, Nat.reduceLT, Nat.reduceMul, Nat.reduceBEq, Int.reduceEq, Int.reduceLT, Int.reduceLE, Int.reduceNeg, Int.reduceToNat, reduceCtorEq, ho, Try.results38], by simp only [go_sem, Nat.reduceEqDiff, Nat.reduceAdd, Nat.reduceSub, Nat.reduceLeDiff, Nat.reduceLT, Nat.reduceMul, Nat.reduceBEq, Int.reduceEq, Int.reduceLT, Int.reduceLE, Int.reduceNeg, Int.reduceToNat, reduceCtorEq, ho, Try.results38, List.map_nil, List.nil_append], by simp only [go_sem, Nat.reduceEqDiff, Nat.reduceAdd, Nat.reduceSub, Nat.reduceLeDiff, Nat.reduceLT, Nat.reduceMul, Nat.reduceBEq, Int.reduceEq, Int.reduceLT, Int.reduceLE, Int.reduceNeg, Int.reduceToNat, reduceCtorEq, ho, Try.results38], by simp only [go_sem, Nat.reduceEqDiff, Nat.reduceAdd, Nat.reduceSub, Nat.reduceLeDiff, Nat.reduceLT, Nat.reduceMul, Nat.reduceBEq, Int.reduceEq, Int.reduceLT, Int.reduceLE, Int.reduceNeg, Int.reduceToNat, reduceCtorEq, ho, Try.results38], by simp only [go_sem, Nat.reduceEqDiff, Nat.reduceAdd, Nat.reduceSub, Nat.reduceLeDiff, Nat.reduceLT, Nat.reduceMul, Nat.reduceBEq, Int.reduceEq, Int.reduceLT, Int.reduceLE, Int.reduceNeg, Int.reduceToNat, reduceCtorEq, ho, Try.results38], by simp only [go_sem, Nat.reduceEqDiff, Nat.reduceAdd, Nat.reduceSub, Nat.reduceLeDiff, Nat.reduceLT, Nat.reduceMul, Nat.reduceBEq, Int.reduceEq, Int.reduceLT, Int.reduceLE, Int.reduceNeg, Int.reduceToNat, reduceCtorEq, ho, Try.results38, hop], by simp only [go_sem, Nat.reduceEqDiff, Nat.reduceAdd, Nat.reduceSub, Nat.reduceLeDiff, Nat.reduceLT, Nat.reduceMul, Nat.reduceBEq, Int.reduceEq, Int.reduceLT, Int.reduceLE, Int.reduceNeg, Int.reduceToNat, reduceCtorEq, ho, Try.results38]⟩, ?_⟩
  rintro m st ⟨done, rest, hl', hm', h54, h53, h52, h5, h50, hs1, hs2, hs4, hb2, hb4⟩
  have hlen2 : done.length + rest.length = e.args.length := by rw [hl']; simp
  have hw : IntKind.i64.wrap ((done.length : Int) + 1) = (done.length : Int) + 1 := wrap_fits (by omega) (by omega)
  cases rest with
  | nil =>
    have hlt : ¬ (done.length : Int) < (e.args.length : Int) := by simp at hlen2; omega
    obtain hdone : e.args = done := by simpa using hl'
    simp only [List.length_nil, List.replicate, List.append_nil] at h50
    have hrw : (done.map fun x => (x.eval row).enc) = l.map Vl.enc := by rw [hleq, hdone]; simp
    rw [hrw] at h50
    have hrow : getRow st.o 50 1 = some (42, l.map Vl.enc) := by simp [getRow, h50]
    have hvv : ∀ v ∈ l, v.valid = true := fun v hv => by rw [hleq] at hv; obtain ⟨x, _, rfl⟩ := List.mem_map.1 hv; exact Ex.eval_valid row x
    have hg0 := nth_get hpos
    have hl0 : (0 : Int) < (l.length : Int) := by omega
    clear hleq hrw
    simp only [go_sem, Nat.reduceEqDiff, Nat.reduceAdd, Nat.reduceSub, Nat.reduceLeDiff, Nat.reduceLT, Nat.reduceMul, Nat.reduceBEq, Int.reduceEq, Int.reduceLT, Int.reduceLE, Int.reduceNeg, Int.reduceToNat, reduceCtorEq, ho, Try.results38, h54, h53, hlt, hop, h5, hs2, hs4, hb2, hb4]
    refine GCall.fr ?_ (arith_fn 15 l hvv (by omega) hpos) (.inl rfl) ?_; (focus (first | rfl | ((simp only [go_sem, Nat.reduceEqDiff, Nat.reduceAdd, Nat.reduceSub, Nat.reduceLeDiff, Nat.reduceLT, Nat.reduceMul, Nat.reduceBEq, Int.reduceEq, Int.reduceLT, Int.reduceLE, Int.reduceNeg, Int.reduceToNat, reduceCtorEq, ho, Try.results38, hop, hrow]); done) | ((simp only [go_sem, Nat.reduceEqDiff, Nat.reduceAdd, Nat.reduceSub, Nat.reduceLeDiff, Nat.reduceLT, Nat.reduceMul, Nat.reduceBEq, Int.reduceEq, Int.reduceLT, Int.reduceLE, Int.reduceNeg, Int.reduceToNat, reduceCtorEq, ho, Try.results38, hop, hrow]); rfl)))
    simp only [go_sem, Nat.reduceEqDiff, Nat.reduceAdd, Nat.reduceSub, Nat.reduceLeDiff, Nat.reduceLT, Nat.reduceMul, Nat.reduceBEq, Int.reduceEq, Int.reduceLT, Int.reduceLE, Int.reduceNeg, Int.reduceToNat, reduceCtorEq, ho, Try.results38, Vl.enc, h5, hs2, hs4, hb2, hb4]
    rw [evo_15]; exact ⟨rfl, rfl, rfl⟩
  | cons x rest =>
    have hlt : (done.length : Int) < (e.args.length : Int) := by simp at hlen2; omega
    have hget : (e.args.map Ex.enc)[done.length]? = some x.enc := by simp [hl']
    have hxs : x.size ≤ n := by have := hsz; rw [hl', Ex.sizes_app] at this; simp [Ex.sizes] at this; omega
    have hx50 : getRow st.o 50 1 = some (42, (done.map fun x => (x.eval row).enc) ++ List.replicate (rest.length + 1) (PV.agg [PV.int IntKind.i64 0, PV.int IntKind.i64 0, PV.str ⟨#[]⟩])) := by rw [getRow, h50]; rfl
    have hxl : (done.length : Int) < (((done.map fun x => (x.eval row).enc) ++ List.replicate (rest.length + 1) (PV.agg [PV.int IntKind.i64 0, PV.int IntKind.i64 0, PV.str ⟨#[]⟩])).length : Nat) := by simp; omega
    have hx0 : ((done.map fun x => (x.eval row).enc) ++ List.replicate (rest.length + 1) (PV.agg [PV.int IntKind.i64 0, PV.int IntKind.i64 0, PV.str ⟨#[]⟩]))[done.length]? = some (PV.agg [PV.int IntKind.i64 0, PV.int IntKind.i64 0, PV.str ⟨#[]⟩]) := by simp
    rw [List.length_cons] at h50
    simp only [go_sem, Nat.reduceEqDiff, Nat.reduceAdd, Nat.reduceSub, Nat.reduceLeDiff, Nat.reduceLT, Nat.reduceMul, Nat.reduceBEq, Int.reduceEq, Int.reduceLT, Int.reduceLE, Int.reduceNeg, Int.reduceToNat, reduceCtorEq, ho, Try.results38, h54, h53, h52, hlt, hget, Int.natCast_nonneg, Int.toNat_natCast, h5, hs1, hs2, hs4, hb2, hb4, x.enc_eq]
    refine GCall.fr ?_ (IH x hxs) (.inl rfl) ?_; (focus (first | rfl | ((simp only [go_sem, Nat.reduceEqDiff, Nat.reduceAdd, Nat.reduceSub, Nat.reduceLeDiff, Nat.reduceLT, Nat.reduceMul, Nat.reduceBEq, Int.reduceEq, Int.reduceLT, Int.reduceLE, Int.reduceNeg, Int.reduceToNat, reduceCtorEq, ho, Try.results38, x.enc_eq, hs1]); done) | ((simp only [go_sem, Nat.reduceEqDiff, Nat.reduceAdd, Nat.reduceSub, Nat.reduceLeDiff, Nat.reduceLT, Nat.reduceMul, Nat.reduceBEq, Int.reduceEq, Int.reduceLT, Int.reduceLE, Int.reduceNeg, Int.reduceToNat, reduceCtorEq, ho, Try.results38, x.enc_eq, hs1]); rfl)))
    simp only [go_sem, Nat.reduceEqDiff, Nat.reduceAdd, Nat.reduceSub, Nat.reduceLeDiff, Nat.reduceLT, Nat.reduceMul, Nat.reduceBEq, Int.reduceEq, Int.reduceLT, Int.reduceLE, Int.reduceNeg, Int.reduceToNat, reduceCtorEq, ho, Try.results38, h54, h53, h52, h5, hx50, hxl, hx0, h50, Int.natCast_nonneg, Int.toNat_natCast, hs1, hs2, hs4, hb2, hb4, hw]
    refine ⟨rest.length, by simp at hm'; omega, done ++ [x], rest, by simp [hl'], rfl, by simp, ?_⟩
    simp [List.set_append, List.replicate_succ]
theorem evalc_16 (row : List Vl) (n : Nat) (hn : n + 1 ≤ 100000000) (IH : ∀ x : Ex, x.size ≤ n → Fc 38 [x.enc, .sl (row.map Vl.enc)] (x.eval row).enc) (e : Ex) (h : e.size ≤ n + 1) (hf : e.formed = true) (hop : e.op = 16) : Fc 38 [e.enc, .sl (row.map Vl.enc)] (e.eval row).enc := by
  obtain ⟨l, hleq⟩ : ∃ l, l = e.args.map (Ex.eval row) := ⟨_, rfl⟩
  have hev : e.eval row = evalOp row 16 e.int e.val (e.args.map (Ex.eval row)) := by rw [Ex.eval_eq, hf, hop]; rfl
  have hsz := e.size_eq
  have hlen := Ex.len_sizes e.args
  have hfit := formed_len hf
  rw [hop] at hfit
  rw [← hleq] at hev
  refine fn_of_awp (E := E0) (M := M0) follows Try.func38 rfl (by decide) ok38 (by decide) (by simp) fun o ho => ?_
  rw [hev]
  clear hev
  simp only [go_sem, Nat.reduceEqDiff, Nat.reduceAdd, Nat.reduceSub, Nat.reduceLeDiff, Nat.reduceLT, Nat.reduceMul, Nat.reduceBEq, Int.reduceEq, Int.reduceLT, Int.reduceLE, Int.reduceNeg, Int.reduceToNat, reduceCtorEq, ho, Try.results38, e.enc_eq]
  refine GCall.fr ?_ (formed_fn e) (.inl rfl) ?_; (focus (first | rfl | ((simp only [go_sem, Nat.reduceEqDiff, Nat.reduceAdd, Nat.reduceSub, Nat.reduceLeDiff, Nat.reduceLT, Nat.reduceMul, Nat.reduceBEq, Int.reduceEq, Int.reduceLT, Int.reduceLE, Int.reduceNeg, Int.reduceToNat, reduceCtorEq, ho, Try.results38, e.enc_eq]); done) | ((simp only [go_sem, Nat.reduceEqDiff, Nat.reduceAdd, Nat.reduceSub, Nat.reduceLeDiff, Nat.reduceLT, Nat.reduceMul, Nat.reduceBEq, Int.reduceEq, Int.reduceLT, Int.reduceLE, Int.reduceNeg, Int.reduceToNat, reduceCtorEq, ho, Try.results38, e.enc_eq]); rfl)))
  simp only [go_sem, Nat.reduceEqDiff, Nat.reduceAdd, Nat.reduceSub, Nat.reduceLeDiff, Nat.reduceLT, Nat.reduceMul, Nat.reduceBEq, Int.reduceEq, Int.reduceLT, Int.reduceLE, Int.reduceNeg, Int.reduceToNat, reduceCtorEq, ho, Try.results38, hf, hop]
  have hl100 : e.args.length ≤ 100000000 := by omega
  have hllen : l.length = e.args.length := by rw [hleq]; simp
  have hpos := fits_pos (op := 16) (l := l) (by rw [hllen]; exact hfit) (by decide) (by decide)
  have hm : (e.args.length : Int) * (((32 : Nat) : Int) + 1) ≤ 140737488355328 := by omega
  simp only [go_sem, Nat.reduceEqDiff, Nat.reduceAdd, Nat.reduceSub, Nat.reduceLeDiff, Nat.reduceLT, Nat.reduceMul, Nat.reduceBEq, Int.reduceEq, Int.reduceLT, Int.reduceLE, Int.reduceNeg, Int.reduceToNat, reduceCtorEq, ho, Try.results38, List.length_map, Int.natCast_nonneg, hm, true_and, Int.toNat_natCast, Int.le_refl]
  refine ⟨fun m st => ∃ (done rest : List Ex), e.args = done ++ rest ∧ rest.length = m ∧ st.s 54 = .int .i64 done.length ∧ st.s 53 = .int .i64 e.args.length ∧ st.s 52 = .sl (e.args.map Ex.enc) ∧ st.s 5 = .ref 50 1 ∧ st.o 50 = (1, some (true, .row 42 ((done.map fun x => (x.eval row).enc) ++ List.replicate rest.length (PV.agg [PV.int IntKind.i64 0, PV.int IntKind.i64 0, PV.str ⟨#[]⟩])))) ∧ st.s 1 = .sl (row.map Vl.enc) ∧ st.s 2 = .ptr 2 1 0 ∧ st.s 4 = .ptr 4 1 0 ∧ getBox st.o 2 1 = some (49, e.enc.cells) ∧ st.o 4 = (1, some (true, .box 42 [.int .i64 0, .int .i64 0, .str ⟨#[]⟩])), e.args.length,
    ⟨[], e.args, rfl, rfl, by simp only [go_sem, Nat.reduceEqDiff, Nat.reduceAdd, Nat.reduceSub, Nat.reduceLeDiff, Nat.reduceLT, Nat.reduceMul, Nat.reduceBEq, Int.reduceEq, Int.reduceLT, Int.reduceLE, Int.reduceNeg, Int.reduceToNat, reduceCtorEq, ho, Try.results38]; rfl, by simp only [go_sem, Nat.reduceEqDiff, Nat.reduceAdd, Nat.reduceSub, Nat.reduceLeDiff, Nat.reduceLT, Nat.reduceMul, Nat.reduceBEq, Int.reduceEq, Int.reduceLT, Int.reduceLE, Int.reduceNeg, Int.reduceToNat, reduceCtorEq, ho, Try.results38], by simp only [go_sem, Nat.reduceEqDiff, Nat.reduceAdd, Nat.reduceSub, Nat.reduceLeDiff, Nat.reduceLT, Nat.reduceMul, Nat.reduceBEq, Int.reduceEq, Int.reduceLT, Int.reduceLE, Int.reduceNeg, Int.reduceToNat, reduceCtorEq, ho, Try.results38], by simp only [go_sem, Nat.reduceEqDiff, Nat.reduceAdd, Nat.reduceSub, Nat.reduceLeDiff, Nat.reduceLT, Nat.reduceMul, Nat.reduceBEq, Int.reduceEq, Int.reduceLT, Int.reduceLE, Int.reduceNeg, Int.reduceToNat, reduceCtorEq, ho, Try.results38], by simp only [go_sem, Nat.reduceEqDiff, Nat.reduceAdd, Nat.reduceSub, Nat.reduceLeDiff, Nat.reduceLT, Nat.reduceMul, Nat.reduceBEq, Int.reduceEq, Int.reduceLT, Int.reduceLE, Int.reduceNeg, Int.reduceToNat, reduceCtorEq, ho, Try.results38, List.map_nil, List.nil_append], by simp only [go_sem, Nat.reduceEqDiff, Nat.reduceAdd, Nat.reduceSub, Nat.reduceLeDiff, Nat.reduceLT, Nat.reduceMul, Nat.reduceBEq, Int.reduceEq, Int.reduceLT, Int.reduceLE, Int.reduceNeg, Int.reduceToNat, reduceCtorEq, ho, Try.results38], by simp only [go_sem, Nat.reduceEqDiff, Nat.reduceAdd, Nat.reduceSub, Nat.reduceLeDiff, Nat.reduceLT, Nat.reduceMul, Nat.reduceBEq, Int.reduceEq, Int.reduceLT, Int.reduceLE, Int.reduceNeg, Int.reduceToNat, reduceCtorEq, ho, Try.results38], by simp only [go_sem, Nat.reduceEqDiff, Nat.reduceAdd, Nat.reduceSub, Nat.reduceLeDiff, Nat.reduceLT, Nat.reduceMul, Nat.reduceBEq, Int.reduceEq, Int.reduceLT, Int.reduceLE, Int.reduceNeg, Int.reduceToNat, reduceCtorEq, ho, Try.results38], by simp only [go_sem, Nat.reduceEqDiff, Nat.reduceAdd, Nat.reduceSub, Nat.reduceLeDiff, Nat.reduceLT, Nat.reduceMul, Nat.reduceBEq, Int.reduceEq, Int.reduceLT, Int.reduceLE, Int.reduceNeg, Int.reduceToNat, reduceCtorEq, ho, Try.results38, hop], by simp only [go_sem, Nat.reduceEqDiff, Nat.reduceAdd, Nat.reduceSub, Nat.reduceLeDiff, Nat.reduceLT, Nat.reduceMul, Nat.reduceBEq, Int.reduceEq, Int.reduceLT, Int.reduceLE, Int.reduceNeg, Int.reduceToNat, reduceCtorEq, ho, Try.results38]⟩, ?_⟩
  rintro m st ⟨done, rest, hl', hm', h54, h53, h52, h5, h50, hs1, hs2, hs4, hb2, hb4⟩
  have hlen2 : done.length + rest.length = e.args.length := by rw [hl']; simp
  have hw : IntKind.i64.wrap ((done.length : Int) + 1) = (done.length : Int) + 1 := wrap_fits (by omega) (by omega)
  cases rest with
  | nil =>
    have hlt : ¬ (done.length : Int) < (e.args.length : Int) := by simp at hlen2; omega
    obtain hdone : e.args = done := by simpa using hl'
    simp only [List.length_nil, List.replicate, List.append_nil] at h50
    have hrw : (done.map fun x => (x.eval row).enc) = l.map Vl.enc := by rw [hleq, hdone]; simp
    rw [hrw] at h50
    have hrow : getRow st.o 50 1 = some (42, l.map Vl.enc) := by simp [getRow, h50]
    have hvv : ∀ v ∈ l, v.valid = true := fun v hv => by rw [hleq] at hv; obtain ⟨x, _, rfl⟩ := List.mem_map.1 hv; exact Ex.eval_valid row x
    have hg0 := nth_get hpos
    have hl0 : (0 : Int) < (l.length : Int) := by omega
    clear hleq hrw
    simp only [go_sem, Nat.reduceEqDiff, Nat.reduceAdd, Nat.reduceSub, Nat.reduceLeDiff, Nat.reduceLT, Nat.reduceMul, Nat.reduceBEq, Int.reduceEq, Int.reduceLT, Int.reduceLE, Int.reduceNeg, Int.reduceToNat, reduceCtorEq, ho, Try.results38, h54, h53, hlt, hop, h5, hs2, hs4, hb2, hb4]
    refine GCall.fr ?_ (arith_fn 16 l hvv (by omega) hpos) (.inl rfl) ?_; (focus (first | rfl | ((simp only [go_sem, Nat.reduceEqDiff, Nat.reduceAdd, Nat.reduceSub, Nat.reduceLeDiff, Nat.reduceLT, Nat.reduceMul, Nat.reduceBEq, Int.reduceEq, Int.reduceLT, Int.reduceLE, Int.reduceNeg, Int.reduceToNat, reduceCtorEq, ho, Try.results38, hop, hrow]); done) | ((simp only [go_sem, Nat.reduceEqDiff, Nat.reduceAdd, Nat.reduceSub, Nat.reduceLeDiff, Nat.reduceLT, Nat.reduceMul, Nat.reduceBEq, Int.reduceEq, Int.reduceLT, Int.reduceLE, Int.reduceNeg, Int.reduceToNat, reduceCtorEq, ho, Try.results38, hop, hrow]); rfl)))
    simp only [go_sem, Nat.reduceEqDiff, Nat.reduceAdd, Nat.reduceSub, Nat.reduceLeDiff, Nat.reduceLT, Nat.reduceMul, Nat.reduceBEq, Int.reduceEq, Int.reduceLT, Int.reduceLE, Int.reduceNeg, Int.reduceToNat, reduceCtorEq, ho, Try.results38, Vl.enc, h5, hs2, hs4, hb2, hb4]
    rw [evo_16]; exact ⟨rfl, rfl, rfl⟩
  | cons x rest =>
    have hlt : (done.length : Int) < (e.args.length : Int) := by simp at hlen2; omega
    have hget : (e.args.map Ex.enc)[done.length]? = some x.enc := by simp [hl']
    have hxs : x.size ≤ n := by have := hsz; rw [hl', Ex.sizes_app] at this; simp [Ex.sizes] at this; omega
    have hx50 : getRow st.o 50 1 = some (42, (done.map fun x => (x.eval row).enc) ++ List.replicate (rest.length + 1) (PV.agg [PV.int IntKind.i64 0, PV.int IntKind.i64 0, PV.str ⟨#[]⟩])) := by rw [getRow, h50]; rfl
    have hxl : (done.length : Int) < (((done.map fun x => (x.eval row).enc) ++ List.replicate (rest.length + 1) (PV.agg [PV.int IntKind.i64 0, PV.int IntKind.i64 0, PV.str ⟨#[]⟩])).length : Nat) := by simp; omega
    have hx0 : ((done.map fun x => (x.eval row).enc) ++ List.replicate (rest.length + 1) (PV.agg [PV.int IntKind.i64 0, PV.int IntKind.i64 0, PV.str ⟨#[]⟩]))[done.length]? = some (PV.agg [PV.int IntKind.i64 0, PV.int IntKind.i64 0, PV.str ⟨#[]⟩]) := by simp
    rw [List.length_cons] at h50
    simp only [go_sem, Nat.reduceEqDiff, Nat.reduceAdd, Nat.reduceSub, Nat.reduceLeDiff, Nat.reduceLT, Nat.reduceMul, Nat.reduceBEq, Int.reduceEq, Int.reduceLT, Int.reduceLE, Int.reduceNeg, Int.reduceToNat, reduceCtorEq, ho, Try.results38, h54, h53, h52, hlt, hget, Int.natCast_nonneg, Int.toNat_natCast, h5, hs1, hs2, hs4, hb2, hb4, x.enc_eq]
    refine GCall.fr ?_ (IH x hxs) (.inl rfl) ?_; (focus (first | rfl | ((simp only [go_sem, Nat.reduceEqDiff, Nat.reduceAdd, Nat.reduceSub, Nat.reduceLeDiff, Nat.reduceLT, Nat.reduceMul, Nat.reduceBEq, Int.reduceEq, Int.reduceLT, Int.reduceLE, Int.reduceNeg, Int.reduceToNat, reduceCtorEq, ho, Try.results38, x.enc_eq, hs1]); done) | ((simp only [go_sem, Nat.reduceEqDiff, Nat.reduceAdd, Nat.reduceSub, Nat.reduceLeDiff, Nat.reduceLT, Nat.reduceMul, Nat.reduceBEq, Int.reduceEq, Int.reduceLT, Int.reduceLE, Int.reduceNeg, Int.reduceToNat, reduceCtorEq, ho, Try.results38, x.enc_eq, hs1]); rfl)))
    simp only [go_sem, Nat.reduceEqDiff, Nat.reduceAdd, Nat.reduceSub, Nat.reduceLeDiff, Nat.reduceLT, Nat.reduceMul, Nat.reduceBEq, Int.reduceEq, Int.reduceLT, Int.reduceLE, Int.reduceNeg, Int.reduceToNat, reduceCtorEq, ho, Try.results38, h54, h53, h52, h5, hx50, hxl, hx0, h50, Int.natCast_nonneg, Int.toNat_natCast, hs1, hs2, hs4, hb2, hb4, hw]
    refine ⟨rest.length, by simp at hm'; omega, done ++ [x], rest, by simp [hl'], rfl, by simp, ?_⟩
    simp [List.set_append, List.replicate_succ]
end Go.Proofs.Ytiefnninebilbaa
/- What the evaluation of an expression returns, operator by operator; no condition. -/
set_option maxRecDepth 100000
set_option linter.unusedVariables false
set_option linter.unusedSimpArgs false
namespace Go.Proofs.Ytiefnninebilbaa
open Go Go.Sx

theorem evalc_17 (row : List Vl) (n : Nat) (hn : n + 1 ≤ 100000000) (IH : ∀ x : Ex, x.size ≤ n → Fc 38 [x.enc, .sl (row.map Vl.enc)] (x.eval row).enc) (e : Ex) (h : e.size ≤ n + 1) (hf : e.formed = true) (hop : e.op = 17) : Fc 38 [e.enc, .sl (row.map Vl.enc)] (e.eval row).enc := by
  obtain ⟨l, hleq⟩ : ∃ l, l = e.args.map (Ex.eval row) := ⟨_, rfl⟩
  have hev : e.eval row = evalOp row 17 e.int e.val (e.args.map (Ex.eval row)) := by rw [Ex.eval_eq, hf, hop]; rfl
  have hsz := e.size_eq
  have hlen := Ex.len_sizes e.args
  have hfit := formed_len hf
  rw [hop] at hfit
  rw [← hleq] at hev
  refine fn_of_awp (E := E0) (M := M0) follows Try.func38 rfl (by decide) ok38 (by decide) (by simp) fun o ho => ?_
  rw [hev]
  clear hev
  simp only [go_sem, Nat.reduceEqDiff, Nat.reduceAdd, Nat.reduceSub, Nat.reduceLeDiff, Nat.reduceLT, Nat.reduceMul, Nat.reduceBEq, Int.reduceEq, Int.reduceLT, Int.reduceLE, Int.reduceNeg, Int.reduceToNat, reduceCtorEq, ho, Try.results38, e.enc_eq]
  refine GCall.fr ?_ (formed_fn e) (.inl rfl) ?_; (focus (first | rfl | ((simp only [go_sem, Nat.reduceEqDiff, Nat.reduceAdd, Nat.reduceSub, Nat.reduceLeDiff, Nat.reduceLT, Nat.reduceMul, Nat.reduceBEq, Int.reduceEq, Int.reduceLT, Int.reduceLE, Int.reduceNeg, Int.reduceToNat, reduceCtorEq, ho, Try.results38, e.enc_eq]); done) | ((simp only [go_sem, Nat.reduceEqDiff, Nat.reduceAdd, Nat.reduceSub, Nat.reduceLeDiff, Nat.reduceLT, Nat.reduceMul, Nat.reduceBEq, Int.reduceEq, Int.reduceLT, Int.reduceLE, Int.reduceNeg, Int.reduceToNat, reduceCtorEq, ho, Try.results38, e.enc_eq]); rfl)))
  simp only [go_sem, Nat.reduceEqDiff, Nat.reduceAdd, Nat.reduceSub, Nat.reduceLeDiff, Nat.reduceLT, Nat.reduceMul, Nat.reduceBEq, Int.reduceEq, Int.reduceLT, Int.reduceLE, Int.reduceNeg, Int.reduceToNat, reduceCtorEq, ho, Try.results38, hf, hop]
  have hl100 : e.args.length ≤ 100000000 := by omega
  have hllen : l.length = e.args.length := by rw [hleq]; simp
  have hpos := fits_pos (op := 17) (l := l) (by rw [hllen]; exact hfit) (by decide) (by decide)
  have hm : (e.args.length : Int) * (((32 : Nat) : Int) + 1) ≤ 140737488355328 := by omega
  simp only [go_sem, Nat.reduceEqDiff, Nat.reduceAdd, Nat.reduceSub, Nat.reduceLeDiff, Nat.reduceLT, Nat.reduceMul, Nat.reduceBEq, Int.reduceEq, Int.reduceLT, Int.reduceLE, Int.reduceNeg, Int.reduceToNat, reduceCtorEq, ho, Try.results38, List.length_map, Int.natCast_nonneg, hm, true_and, Int.toNat_natCast, Int.le_refl]
  refine ⟨fun m st => ∃ (done rest : List Ex), e.args = done ++ rest ∧ rest.length = m ∧ st.s 54 = .int .i64 done.length ∧ st.s 53 = .int .i64 e.args.length ∧ st.s 52 = .sl (e.args.map Ex.enc) ∧ st.s 5 = .ref 50 1 ∧ st.o 50 = (1, some (true, .row 42 ((done.map fun x => (x.eval row).enc) ++ List.replicate rest.length (PV.agg [PV.int IntKind.i64 0, PV.int IntKind.i64 0, PV.str ⟨#[]⟩])))) ∧ st.s 1 = .sl (row.map Vl.enc) ∧ st.s 2 = .ptr 2 1 0 ∧ st.s 4 = .ptr 4 1 0 ∧ getBox st.o 2 1 = some (49, e.enc.cells) ∧ st.o 4 = (1, some (true, .box 42 [.int .i64 0, .int .i64 0, .str ⟨#[]⟩])), e.args.length,
    ⟨[], e.args, rfl, rfl, by simp only [go_sem, Nat.reduceEqDiff, Nat.reduceAdd, Nat.reduceSub, Nat.reduceLeDiff, Nat.reduceLT, Nat.reduceMul, Nat.reduceBEq, Int.reduceEq, Int.reduceLT, Int.reduceLE, Int.reduceNeg, Int.reduceToNat, reduceCtorEq, ho, Try.results38]; rfl, by simp only [go_sem, Nat.reduceEqDiff, Nat.reduceAdd, Nat.reduceSub, Nat.reduceLeDiff, Nat.reduceLT, Nat.reduceMul, Nat.reduceBEq, Int.reduceEq, Int.reduceLT, Int.reduceLE, Int.reduceNeg, Int.reduceToNat, reduceCtorEq, ho, Try.results38], by simp only [go_sem, Nat.reduceEqDiff, Nat.reduceAdd, Nat.reduceSub, Nat.reduceLeDiff, Nat.reduceLT, Nat.reduceMul, Nat.reduceBEq, Int.reduceEq, Int.reduceLT, Int.reduceLE, Int.reduceNeg, Int.reduceToNat, reduceCtorEq, ho, Try.results38], by simp only [go_sem, Nat.reduceEqDiff, Nat.reduceAdd, Nat.reduceSub, Nat.reduceLeDiff, Nat.reduceLT, Nat.reduceMul, Nat.reduceBEq, Int.reduceEq, Int.reduceLT, Int.reduceLE, Int.reduceNeg, Int.reduceToNat, reduceCtorEq, ho, Try.results38], by simp only [go_sem, Nat.reduceEqDiff, Nat.reduceAdd, Nat.reduceSub, Nat.reduceLeDiff, Nat.reduceLT, Nat.reduceMul, Nat.reduceBEq, Int.reduceEq, Int.reduceLT, Int.reduceLE, Int.reduceNeg, Int.reduceToNat, reduceCtorEq, ho, Try.results38, List.map_nil, List.nil_append], by simp only [go_sem, Nat.reduceEqDiff, Nat.reduceAdd, Nat.reduceSub, Nat.reduceLeDiff, Nat.reduceLT, Nat.reduceMul, Nat.reduceBEq, Int.reduceEq, Int.reduceLT, Int.reduceLE, Int.reduceNeg, Int.reduceToNat, reduceCtorEq, ho, Try.results38], by simp only [go_sem, Nat.reduceEqDiff, Nat.reduceAdd, Nat.reduceSub, Nat.reduceLeDiff, Nat.reduceLT, Nat.reduceMul, Nat.reduceBEq, Int.reduceEq, Int.reduceLT, Int.reduceLE, Int.reduceNeg, Int.reduceToNat, reduceCtorEq, ho, Try.results38], by simp only [go_sem, Nat.reduceEqDiff, Nat.reduceAdd, Nat.reduceSub, Nat.reduceLeDiff, Nat.reduceLT, Nat.reduceMul, Nat.reduceBEq, Int.reduceEq, Int.reduceLT, Int.reduceLE, Int.reduceNeg, Int.reduceToNat, reduceCtorEq, ho, Try.results38], by simp only [go_sem, Nat.reduceEqDiff, Nat.reduceAdd, Nat.reduceSub, Nat.reduceLeDiff, Nat.reduceLT, Nat.reduceMul, Nat.reduceBEq, Int.reduceEq, Int.reduceLT, Int.reduceLE, Int.reduceNeg, Int.reduceToNat, reduceCtorEq, ho, Try.results38, hop], by simp only [go_sem, Nat.reduceEqDiff, Nat.reduceAdd, Nat.reduceSub, Nat.reduceLeDiff, Nat.reduceLT, Nat.reduceMul, Nat.reduceBEq, Int.reduceEq, Int.reduceLT, Int.reduceLE, Int.reduceNeg, Int.reduceToNat, reduceCtorEq, ho, Try.results38]⟩, ?_⟩
  rintro m st ⟨done, rest, hl', hm', h54, h53, h52, h5, h50, hs1, hs2, hs4, hb2, hb4⟩
  have hlen2 : done.length + rest.length = e.args.length := by rw [hl']; simp
  have hw : IntKind.i64.wrap ((done.length : Int) + 1) = (done.length : Int) + 1 := wrap_fits (by omega) (by omega)
  cases rest with
  | nil =>
    have hlt : ¬ (done.length : Int) < (e.args.length : Int) := by simp at hlen2; omega
    obtain hdone : e.args = done := by simpa using hl'
    simp only [List.length_nil, List.replicate, List.append_nil] at h50
    have hrw : (done.map fun x => (x.eval row).enc) = l.map Vl.enc := by rw [hleq, hdone]; simp
    rw [hrw] at h50
    have hrow : getRow st.o 50 1 = some (42, l.map Vl.enc) := by simp [getRow, h50]
    have hvv : ∀ v ∈ l, v.valid = true := fun v hv => by rw [hleq] at hv; obtain ⟨x, _, rfl⟩ := List.mem_map.1 hv; exact Ex.eval_valid row x
    have hg0 := nth_get hpos
    have hl0 : (0 : Int) < (l.length : Int) := by omega
    clear hleq hrw
    simp only [go_sem, Nat.reduceEqDiff, Nat.reduceAdd, Nat.reduceSub, Nat.reduceLeDiff, Nat.reduceLT, Nat.reduceMul, Nat.reduceBEq, Int.reduceEq, Int.reduceLT, Int.reduceLE, Int.reduceNeg, Int.reduceToNat, reduceCtorEq, ho, Try.results38, h54, h53, hlt, hop, h5, hs2, hs4, hb2, hb4]
    refine GCall.fr ?_ (arith_fn 17 l hvv (by omega) hpos) (.inl rfl) ?_; (focus (first | rfl | ((simp only [go_sem, Nat.reduceEqDiff, Nat.reduceAdd, Nat.reduceSub, Nat.reduceLeDiff, Nat.reduceLT, Nat.reduceMul, Nat.reduceBEq, Int.reduceEq, Int.reduceLT, Int.reduceLE, Int.reduceNeg, Int.reduceToNat, reduceCtorEq, ho, Try.results38, hop, hrow]); done) | ((simp only [go_sem, Nat.reduceEqDiff, Nat.reduceAdd, Nat.reduceSub, Nat.reduceLeDiff, Nat.reduceLT, Nat.reduceMul, Nat.reduceBEq, Int.reduceEq, Int.reduceLT, Int.reduceLE, Int.reduceNeg, Int.reduceToNat, reduceCtorEq, ho, Try.results38, hop, hrow]); rfl)))
    simp only [go_sem, Nat.reduceEqDiff, Nat.reduceAdd, Nat.reduceSub, Nat.reduceLeDiff, Nat.reduceLT, Nat.reduceMul, Nat.reduceBEq, Int.reduceEq, Int.reduceLT, Int.reduceLE, Int.reduceNeg, Int.reduceToNat, reduceCtorEq, ho, Try.results38, Vl.enc, h5, hs2, hs4, hb2, hb4]
    rw [evo_17]; exact ⟨rfl, rfl, rfl⟩
  | cons x rest =>
    have hlt : (done.length : Int) < (e.args.length : Int) := by simp at hlen2; omega
    have hget : (e.args.map Ex.enc)[done.length]? = some x.enc := by simp [hl']
    have hxs : x.size ≤ n := by have := hsz; rw [hl', Ex.sizes_app] at this; simp [Ex.sizes] at this; omega
    have hx50 : getRow st.o 50 1 = some (42, (done.map fun x => (x.eval row).enc) ++ List.replicate (rest.length + 1) (PV.agg [PV.int IntKind.i64 0, PV.int IntKind.i64 0, PV.str ⟨#[]⟩])) := by rw [getRow, h50]; rfl
    have hxl : (done.length : Int) < (((done.map fun x => (x.eval row).enc) ++ List.replicate (rest.length + 1) (PV.agg [PV.int IntKind.i64 0, PV.int IntKind.i64 0, PV.str ⟨#[]⟩])).length : Nat) := by simp; omega
    have hx0 : ((done.map fun x => (x.eval row).enc) ++ List.replicate (rest.length + 1) (PV.agg [PV.int IntKind.i64 0, PV.int IntKind.i64 0, PV.str ⟨#[]⟩]))[done.length]? = some (PV.agg [PV.int IntKind.i64 0, PV.int IntKind.i64 0, PV.str ⟨#[]⟩]) := by simp
    rw [List.length_cons] at h50
    simp only [go_sem, Nat.reduceEqDiff, Nat.reduceAdd, Nat.reduceSub, Nat.reduceLeDiff, Nat.reduceLT, Nat.reduceMul, Nat.reduceBEq, Int.reduceEq, Int.reduceLT, Int.reduceLE, Int.reduceNeg, Int.reduceToNat, reduceCtorEq, ho, Try.results38, h54, h53, h52, hlt, hget, Int.natCast_nonneg, Int.toNat_natCast, h5, hs1, hs2, hs4, hb2, hb4, x.enc_eq]
    refine GCall.fr ?_ (IH x hxs) (.inl rfl) ?_; (focus (first | rfl | ((simp only [go_sem, Nat.reduceEqDiff, Nat.reduceAdd, Nat.reduceSub, Nat.reduceLeDiff, Nat.reduceLT, Nat.reduceMul, Nat.reduceBEq, Int.reduceEq, Int.reduceLT, Int.reduceLE, Int.reduceNeg, Int.reduceToNat, reduceCtorEq, ho, Try.results38, x.enc_eq, hs1]); done) | ((simp only [go_sem, Nat.reduceEqDiff, Nat.reduceAdd, Nat.reduceSub, Nat.reduceLeDiff, Nat.reduceLT, Nat.reduceMul, Nat.reduceBEq, Int.reduceEq, Int.reduceLT, Int.reduceLE, Int.reduceNeg, Int.reduceToNat, reduceCtorEq, ho, Try.results38, x.enc_eq, hs1]); rfl)))
    simp only [go_sem, Nat.reduceEqDiff, Nat.reduceAdd, Nat.reduceSub, Nat.reduceLeDiff, Nat.reduceLT, Nat.reduceMul, Nat.reduceBEq, Int.reduceEq, Int.reduceLT, Int.reduceLE, Int.reduceNeg, Int.reduceToNat, reduceCtorEq, ho, Try.results38, h54, h53, h52, h5, hx50, hxl, hx0, h50, Int.natCast_nonneg, Int.toNat_natCast, hs1, hs2, hs4, hb2, hb4, hw]
    refine ⟨rest.length, by simp at hm'; omega, done ++ [x], rest, by simp [hl'], rfl, by simp, ?_⟩
    simp [List.set_append, List.replicate_succ]
theorem evalc_18 (row : List Vl) (n : Nat) (hn : n + 1 ≤ 100000000) (IH : ∀ x : Ex, x.size ≤ n → Fc 38 [x.enc, .sl (row.map Vl.enc)] (x.eval row).enc) (e : Ex) (h : e.size ≤ n + 1) (hf : e.formed = true) (hop : e.op = 18) : Fc 38 [e.enc, .sl (row.map Vl.enc)] (e.eval row).enc := by
  obtain ⟨l, hleq⟩ : ∃ l, l = e.args.map (Ex.eval row) := ⟨_, rfl⟩
  have hev : e.eval row = evalOp row 18 e.int e.val (e.args.map (Ex.eval row)) := by rw [Ex.eval_eq, hf, hop]; rfl
  have hsz := e.size_eq
  have hlen := Ex.len_sizes e.args
  have hfit := formed_len hf
  rw [hop] at hfit
  rw [← hleq] at hev
  refine fn_of_awp (E := E0) (M := M0) follows Try.func38 rfl (by decide) ok38 (by decide) (by simp) fun o ho => ?_
  rw [hev]
  clear hev
  simp only [go_sem, Nat.reduceEqDiff, Nat.reduceAdd, Nat.reduceSub, Nat.reduceLeDiff, Nat.reduceLT, Nat.reduceMul, Nat.reduceBEq, Int.reduceEq, Int.reduceLT, Int.reduceLE, Int.reduceNeg, Int.reduceToNat, reduceCtorEq, ho, Try.results38, e.enc_eq]
  refine GCall.fr ?_ (formed_fn e) (.inl rfl) ?_; (focus (first | rfl | ((simp only [go_sem, Nat.reduceEqDiff, Nat.reduceAdd, Nat.reduceSub, Nat.reduceLeDiff, Nat.reduceLT, Nat.reduceMul, Nat.reduceBEq, Int.reduceEq, Int.reduceLT, Int.reduceLE, Int.reduceNeg, Int.reduceToNat, reduceCtorEq, ho, Try.results38, e.enc_eq]); done) | ((simp only [go_sem, Nat.reduceEqDiff, Nat.reduceAdd, Nat.reduceSub, Nat.reduceLeDiff, Nat.reduceLT, Nat.reduceMul, Nat.reduceBEq, Int.reduceEq, Int.reduceLT, Int.reduceLE, Int.reduceNeg, Int.reduceToNat, reduceCtorEq, ho, Try.results38, e.enc_eq]); rfl)))
  simp only [go_sem, Nat.reduceEqDiff, Nat.reduceAdd, Nat.reduceSub, Nat.reduceLeDiff, Nat.reduceLT, Nat.reduceMul, Nat.reduceBEq, Int.reduceEq, Int.reduceLT, Int.reduceLE, Int.reduceNeg, Int.reduceToNat, reduceCtorEq, ho, Try.results38, hf, hop]
  have hl100 : e.args.length ≤ 100000000 := by omega
  have hllen : l.length = e.args.length := by rw [hleq]; simp
  have hpos := fits_pos (op := 18) (l := l) (by rw [hllen]; exact hfit) (by decide) (by decide)
  have hm : (e.args.length : Int) * (((32 : Nat) : Int) + 1) ≤ 140737488355328 := by omega
  simp only [go_sem, Nat.reduceEqDiff, Nat.reduceAdd, Nat.reduceSub, Nat.reduceLeDiff, Nat.reduceLT, Nat.reduceMul, Nat.reduceBEq, Int.reduceEq, Int.reduceLT, Int.reduceLE, Int.reduceNeg, Int.reduceToNat, reduceCtorEq, ho, Try.results38, List.length_map, Int.natCast_nonneg, hm, true_and, Int.toNat_natCast, Int.le_refl]
  refine ⟨fun m st => ∃ (done rest : List Ex), e.args = done ++ rest ∧ rest.length = m ∧ st.s 54 = .int .i64 done.length ∧ st.s 53 = .int .i64 e.args.length ∧ st.s 52 = .sl (e.args.map Ex.enc) ∧ st.s 5 = .ref 50 1 ∧ st.o 50 = (1, some (true, .row 42 ((done.map fun x => (x.eval row).enc) ++ List.replicate rest.length (PV.agg [PV.int IntKind.i64 0, PV.int IntKind.i64 0, PV.str ⟨#[]⟩])))) ∧ st.s 1 = .sl (row.map Vl.enc) ∧ st.s 2 = .ptr 2 1 0 ∧ st.s 4 = .ptr 4 1 0 ∧ getBox st.o 2 1 = some (49, e.enc.cells) ∧ st.o 4 = (1, some (true, .box 42 [.int .i64 0, .int .i64 0, .str ⟨#[]⟩])), e.args.length,
    ⟨[], e.args, rfl, rfl, by simp only [go_sem, Nat.reduceEqDiff, Nat.reduceAdd, Nat.reduceSub, Nat.reduceLeDiff, Nat.reduceLT, Nat.reduceMul, Nat.reduceBEq, Int.reduceEq, Int.reduceLT, Int.reduceLE, Int.reduceNeg, Int.reduceToNat, reduceCtorEq, ho, Try.results38]; rfl, by simp only [go_sem, Nat.reduceEqDiff, Nat.reduceAdd, Nat.reduceSub, Nat.reduceLeDiff, Nat.reduceLT, Nat.reduceMul, Nat.reduceBEq, Int.reduceEq, Int.reduceLT, Int.reduceLE, Int.reduceNeg, Int.reduceToNat, reduceCtorEq, ho, Try.results38], by simp only [go_sem, Nat.reduceEqDiff, Nat.reduceAdd, Nat.reduceSub, Nat.reduceLeDiff, Nat.reduceLT, Nat.reduceMul, Nat.reduceBEq, Int.reduceEq, Int.reduceLT, Int.reduceLE, Int.reduceNeg, Int.reduceToNat, reduceCtorEq, ho, Try.results38], by simp only [go_sem, Nat.reduceEqDiff, Nat.reduceAdd, Nat.reduceSub, Nat.reduceLeDiff, Nat.reduceLT, Nat.reduceMul, Nat.reduceBEq, Int.reduceEq, Int.reduceLT, Int.reduceLE, Int.reduceNeg, Int.reduceToNat, reduceCtorEq, ho, Try.results38], by simp only [go_sem, Nat.reduceEqDiff, Nat.reduceAdd, Nat.reduceSub, Nat.reduceLeDiff, Nat.reduceLT, Nat.reduceMul, Nat.reduceBEq, Int.reduceEq, Int.reduceLT, Int.reduceLE, Int.reduceNeg, Int.reduceToNat, reduceCtorEq, ho, Try.results38, List.map_nil, List.nil_append], by simp only [go_sem, Nat.reduceEqDiff, Nat.reduceAdd, Nat.reduceSub, Nat.reduceLeDiff, Nat.reduceLT, Nat.reduceMul, Nat.reduceBEq, Int.reduceEq, Int.reduceLT, Int.reduceLE, Int.reduceNeg, Int.reduceToNat, reduceCtorEq, ho, Try.results38], by simp only [go_sem, Nat.reduceEqDiff, Nat.reduceAdd, Nat.reduceSub, Nat.reduceLeDiff, Nat.reduceLT, Nat.reduceMul, Nat.reduceBEq, Int.reduceEq, Int.reduceLT, Int.reduceLE, Int.reduceNeg, Int.reduceToNat, reduceCtorEq, ho, Try.results38], by simp only [go_sem, Nat.reduceEqDiff, Nat.reduceAdd, Nat.reduceSub, Nat.reduceLeDiff, Nat.reduceLT, Nat.reduceMul, Nat.reduceBEq, Int.reduceEq, Int.reduceLT, Int.reduceLE, Int.reduceNeg, Int.reduceToNat, reduceCtorEq, ho, Try.results38], by simp only [go_sem, Nat.reduceEqDiff, Nat.reduceAdd, Nat.reduceSub, Nat.reduceLeDiff, Nat.reduceLT, Nat.reduceMul, Nat.reduceBEq, Int.reduceEq, Int.reduceLT, Int.reduceLE, Int.reduceNeg, Int.reduceToNat, reduceCtorEq, ho, Try.results38, hop], by simp only [go_sem, Nat.reduceEqDiff, Nat.reduceAdd, Nat.reduceSub, Nat.reduceLeDiff, Nat.reduceLT, Nat.reduceMul, Nat.reduceBEq, Int.reduceEq, Int.reduceLT, Int.reduceLE, Int.reduceNeg, Int.reduceToNat, reduceCtorEq, ho, Try.results38]⟩, ?_⟩
  rintro m st ⟨done, rest, hl', hm', h54, h53, h52, h5, h50, hs1, hs2, hs4, hb2, hb4⟩
  have hlen2 : done.length + rest.length = e.args.length := by rw [hl']; simp
  have hw : IntKind.i64.wrap ((done.length : Int) + 1) = (done.length : Int) + 1 := wrap_fits (by omega) (by omega)
  cases rest with
  | nil =>
    have hlt : ¬ (done.length : Int) < (e.args.length : Int) := by simp at hlen2; omega
    obtain hdone : e.args = done := by simpa using hl'
    simp only [List.length_nil, List.replicate, List.append_nil] at h50
    have hrw : (done.map fun x => (x.eval row).enc) = l.map Vl.enc := by rw [hleq, hdone]; simp
    rw [hrw] at h50
    have hrow : getRow st.o 50 1 = some (42, l.map Vl.enc) := by simp [getRow, h50]
    have hvv : ∀ v ∈ l, v.valid = true := fun v hv => by rw [hleq] at hv; obtain ⟨x, _, rfl⟩ := List.mem_map.1 hv; exact Ex.eval_valid row x
    have hg0 := nth_get hpos
    have hl0 : (0 : Int) < (l.length : Int) := by omega
    clear hleq hrw
    simp only [go_sem, Nat.reduceEqDiff, Nat.reduceAdd, Nat.reduceSub, Nat.reduceLeDiff, Nat.reduceLT, Nat.reduceMul, Nat.reduceBEq, Int.reduceEq, Int.reduceLT, Int.reduceLE, Int.reduceNeg, Int.reduceToNat, reduceCtorEq, ho, Try.results38, h54, h53, hlt, hop, h5, hs2, hs4, hb2, hb4]
    refine GCall.fr ?_ (arith_fn 18 l hvv (by omega) hpos) (.inl rfl) ?_; (focus (first | rfl | ((simp only [go_sem, Nat.reduceEqDiff, Nat.reduceAdd, Nat.reduceSub, Nat.reduceLeDiff, Nat.reduceLT, Nat.reduceMul, Nat.reduceBEq, Int.reduceEq, Int.reduceLT, Int.reduceLE, Int.reduceNeg, Int.reduceToNat, reduceCtorEq, ho, Try.results38, hop, hrow]); done) | ((simp only [go_sem, Nat.reduceEqDiff, Nat.reduceAdd, Nat.reduceSub, Nat.reduceLeDiff, Nat.reduceLT, Nat.reduceMul, Nat.reduceBEq, Int.reduceEq, Int.reduceLT, Int.reduceLE, Int.reduceNeg, Int.reduceToNat, reduceCtorEq, ho, Try.results38, hop, hrow]); rfl)))
    simp only [go_sem, Nat.reduceEqDiff, Nat.reduceAdd, Nat.reduceSub, Nat.reduceLeDiff, Nat.reduceLT, Nat.reduceMul, Nat.reduceBEq, Int.reduceEq, Int.reduceLT, Int.reduceLE, Int.reduceNeg, Int.reduceToNat, reduceCtorEq, ho, Try.results38, Vl.enc, h5, hs2, hs4, hb2, hb4]
    rw [evo_18]; exact ⟨rfl, rfl, rfl⟩
  | cons x rest =>
    have hlt : (done.length : Int) < (e.args.length : Int) := by simp at hlen2; omega
    have hget : (e.args.map Ex.enc)[done.length]? = some x.enc := by simp [hl']
    have hxs : x.size ≤ n := by have := hsz; rw [hl', Ex.sizes_app] at this; simp [Ex.sizes] at this; omega
    have hx50 : getRow st.o 50 1 = some (42, (done.map fun x => (x.eval row).enc) ++ List.replicate (rest.length + 1) (PV.agg [PV.int IntKind.i64 0, PV.int IntKind.i64 0, PV.str ⟨#[]⟩])) := by rw [getRow, h50]; rfl
    have hxl : (done.length : Int) < (((done.map fun x => (x.eval row).enc) ++ List.replicate (rest.length + 1) (PV.agg [PV.int IntKind.i64 0, PV.int IntKind.i64 0, PV.str ⟨#[]⟩])).length : Nat) := by simp; omega
    have hx0 : ((done.map fun x => (x.eval row).enc) ++ List.replicate (rest.length + 1) (PV.agg [PV.int IntKind.i64 0, PV.int IntKind.i64 0, PV.str ⟨#[]⟩]))[done.length]? = some (PV.agg [PV.int IntKind.i64 0, PV.int IntKind.i64 0, PV.str ⟨#[]⟩]) := by simp
    rw [List.length_cons] at h50
    simp only [go_sem, Nat.reduceEqDiff, Nat.reduceAdd, Nat.reduceSub, Nat.reduceLeDiff, Nat.reduceLT, Nat.reduceMul, Nat.reduceBEq, Int.reduceEq, Int.reduceLT, Int.reduceLE, Int.reduceNeg, Int.reduceToNat, reduceCtorEq, ho, Try.results38, h54, h53, h52, hlt, hget, Int.natCast_nonneg, Int.toNat_natCast, h5, hs1, hs2, hs4, hb2, hb4, x.enc_eq]
    refine GCall.fr ?_ (IH x hxs) (.inl rfl) ?_; (focus (first | rfl | ((simp only [go_sem, Nat.reduceEqDiff, Nat.reduceAdd, Nat.reduceSub, Nat.reduceLeDiff, Nat.reduceLT, Nat.reduceMul, Nat.reduceBEq, Int.reduceEq, Int.reduceLT, Int.reduceLE, Int.reduceNeg, Int.reduceToNat, reduceCtorEq, ho, Try.results38, x.enc_eq, hs1]); done) | ((simp only [go_sem, Nat.reduceEqDiff, Nat.reduceAdd, Nat.reduceSub, Nat.reduceLeDiff, Nat.reduceLT, Nat.reduceMul, Nat.reduceBEq, Int.reduceEq, Int.reduceLT, Int.reduceLE, Int.reduceNeg, Int.reduceToNat, reduceCtorEq, ho, Try.results38, x.enc_eq, hs1]); rfl)))
    simp only [go_sem, Nat.reduceEqDiff, Nat.reduceAdd, Nat.reduceSub, Nat.reduceLeDiff, Nat.reduceLT, Nat.reduceMul, Nat.reduceBEq, Int.reduceEq, Int.reduceLT, Int.reduceLE, Int.reduceNeg, Int.reduceToNat, reduceCtorEq, ho, Try.results38, h54, h53, h52, h5, hx50, hxl, hx0, h50, Int.natCast_nonneg, Int.toNat_natCast, hs1, hs2, hs4, hb2, hb4, hw]
    refine ⟨rest.length, by simp at hm'; omega, done ++ [x], rest, by simp [hl'], rfl, by simp, ?_⟩
    simp [List.set_append, List.replicate_succ]
theorem evalc_7 (row : List Vl) (n : Nat) (hn : n + 1 ≤ 100000000) (IH : ∀ x : Ex, x.size ≤ n → Fc 38 [x.enc, .sl (row.map Vl.enc)] (x.eval row).enc) (e : Ex) (h : e.size ≤ n + 1) (hf : e.formed = true) (hop : e.op = 7) : Fc 38 [e.enc, .sl (row.map Vl.enc)] (e.eval row).enc := by
  obtain ⟨l, hleq⟩ : ∃ l, l = e.args.map (Ex.eval row) := ⟨_, rfl⟩
  have hev : e.eval row = evalOp row 7 e.int e.val (e.args.map (Ex.eval row)) := by rw [Ex.eval_eq, hf, hop]; rfl
  have hsz := e.size_eq
  have hlen := Ex.len_sizes e.args
  have hfit := formed_len hf
  rw [hop] at hfit
  rw [← hleq] at hev
  refine fn_of_awp (E := E0) (M := M0) follows Try.func38 rfl (by decide) ok38 (by decide) (by simp) fun o ho => ?_
  rw [hev]
  clear hev
  simp only [go_sem, Nat.reduceEqDiff, Nat.reduceAdd, Nat.reduceSub, Nat.reduceLeDiff, Nat.reduceLT, Nat.reduceMul, Nat.reduceBEq, Int.reduceEq, Int.reduceLT, Int.reduceLE, Int.reduceNeg, Int.reduceToNat, reduceCtorEq, ho, Try.results38, e.enc_eq]
  refine GCall.fr ?_ (formed_fn e) (.inl rfl) ?_; (focus (first | rfl | ((simp only [go_sem, Nat.reduceEqDiff, Nat.reduceAdd, Nat.reduceSub, Nat.reduceLeDiff, Nat.reduceLT, Nat.reduceMul, Nat.reduceBEq, Int.reduceEq, Int.reduceLT, Int.reduceLE, Int.reduceNeg, Int.reduceToNat, reduceCtorEq, ho, Try.results38, e.enc_eq]); done) | ((simp only [go_sem, Nat.reduceEqDiff, Nat.reduceAdd, Nat.reduceSub, Nat.reduceLeDiff, Nat.reduceLT, Nat.reduceMul, Nat.reduceBEq, Int.reduceEq, Int.reduceLT, Int.reduceLE, Int.reduceNeg, Int.reduceToNat, reduceCtorEq, ho, Try.results38, e.enc_eq]); rfl)))
  simp only [go_sem, Nat.reduceEqDiff, Nat.reduceAdd, Nat.reduceSub, Nat.reduceLeDiff, Nat.reduceLT, Nat.reduceMul, Nat.reduceBEq, Int.reduceEq, Int.reduceLT, Int.reduceLE, Int.reduceNeg, Int.reduceToNat, reduceCtorEq, ho, Try.results38, hf, hop]
  have hl100 : e.args.length ≤ 100000000 := by omega
  have hllen : l.length = e.args.length := by rw [hleq]; simp
  have hpos := fits_pos (op := 7) (l := l) (by rw [hllen]; exact hfit) (by decide) (by decide)
  have hm : (e.args.length : Int) * (((32 : Nat) : Int) + 1) ≤ 140737488355328 := by omega
  simp only [go_sem, Nat.reduceEqDiff, Nat.reduceAdd, Nat.reduceSub, Nat.reduceLeDiff, Nat.reduceLT, Nat.reduceMul, Nat.reduceBEq, Int.reduceEq, Int.reduceLT, Int.reduceLE, Int.reduceNeg, Int.reduceToNat, reduceCtorEq, ho, Try.results38, List.length_map, Int.natCast_nonneg, hm, true_and, Int.toNat_natCast, Int.le_refl]
  refine ⟨fun m st => ∃ (done rest : List Ex), e.args = done ++ rest ∧ rest.length = m ∧ st.s 54 = .int .i64 done.length ∧ st.s 53 = .int .i64 e.args.length ∧ st.s 52 = .sl (e.args.map Ex.enc) ∧ st.s 5 = .ref 50 1 ∧ st.o 50 = (1, some (true, .row 42 ((done.map fun x => (x.eval row).enc) ++ List.replicate rest.length (PV.agg [PV.int IntKind.i64 0, PV.int IntKind.i64 0, PV.str ⟨#[]⟩])))) ∧ st.s 1 = .sl (row.map Vl.enc) ∧ st.s 2 = .ptr 2 1 0 ∧ st.s 4 = .ptr 4 1 0 ∧ getBox st.o 2 1 = some (49, e.enc.cells) ∧ st.o 4 = (1, some (true, .box 42 [.int .i64 0, .int .i64 0, .str ⟨#[]⟩])), e.args.length,
    ⟨[], e.args, rfl, rfl, by simp only [go_sem, Nat.reduceEqDiff, Nat.reduceAdd, Nat.reduceSub, Nat.reduceLeDiff, Nat.reduceLT, Nat.reduceMul, Nat.reduceBEq, Int.reduceEq, Int.reduceLT, Int.reduceLE, Int.reduceNeg, Int.reduceToNat, reduceCtorEq, ho, Try.results38]; rfl, by simp only [go_sem, Nat.reduceEqDiff, Nat.reduceAdd, Nat.reduceSub, Nat.reduceLeDiff, Nat.reduceLT, Nat.reduceMul, Nat.reduceBEq, Int.reduceEq, Int.reduceLT, Int.reduceLE, Int.reduceNeg, Int.reduceToNat, reduceCtorEq, ho, Try.results38], by simp only [go_sem, Nat.reduceEqDiff, Nat.reduceAdd, Nat.reduceSub, Nat.reduceLeDiff, Nat.reduceLT, Nat.reduceMul, Nat.reduceBEq, Int.reduceEq, Int.reduceLT, Int.reduceLE, Int.reduceNeg, Int.reduceToNat, reduceCtorEq, ho, Try.results38], by simp only [go_sem, Nat.reduceEqDiff, Nat.reduceAdd, Nat.reduceSub, Nat.reduceLeDiff, Nat.reduceLT, Nat.reduceMul, Nat.reduceBEq, Int.reduceEq, Int.reduceLT, Int.reduceLE, Int.reduceNeg, Int.reduceToNat, reduceCtorEq, ho, Try.results38], by simp only [go_sem, Nat.reduceEqDiff, Nat.reduceAdd, Nat.reduceSub, Nat.reduceLeDiff, Nat.reduceLT, Nat.reduceMul, Nat.reduceBEq, Int.reduceEq, Int.reduceLT, Int.reduceLE, Int.reduceNeg, Int.reduceToNat, reduceCtorEq, ho, Try.results38, List.map_nil, List.nil_append], by simp only [go_sem, Nat.reduceEqDiff, Nat.reduceAdd, Nat.reduceSub, Nat.reduceLeDiff, Nat.reduceLT, Nat.reduceMul, Nat.reduceBEq, Int.reduceEq, Int.reduceLT, Int.reduceLE, Int.reduceNeg, Int.reduceToNat, reduceCtorEq, ho, Try.results38], by simp only [go_sem, Nat.reduceEqDiff, Nat.reduceAdd, Nat.reduceSub, Nat.reduceLeDiff, Nat.reduceLT, Nat.reduceMul, Nat.reduceBEq, Int.reduceEq, Int.reduceLT, Int.reduceLE, Int.reduceNeg, Int.reduceToNat, reduceCtorEq, ho, Try.results38], by simp only [go_sem, Nat.reduceEqDiff, Nat.reduceAdd, Nat.reduceSub, Nat.reduceLeDiff, Nat.reduceLT, Nat.reduceMul, Nat.reduceBEq, Int.reduceEq, Int.reduceLT, Int.reduceLE, Int.reduceNeg, Int.reduceToNat, reduceCtorEq, ho, Try.results38], by simp only [go_sem, Nat.reduceEqDiff, Nat.reduceAdd, Nat.reduceSub, Nat.reduceLeDiff, Nat.reduceLT, Nat.reduceMul, Nat.reduceBEq, Int.reduceEq, Int.reduceLT, Int.reduceLE, Int.reduceNeg, Int.reduceToNat, reduceCtorEq, ho, Try.results38, hop], by simp only [go_sem, Nat.reduceEqDiff, Nat.reduceAdd, Nat.reduceSub, Nat.reduceLeDiff, Nat.reduceLT, Nat.reduceMul, Nat.reduceBEq, Int.reduceEq, Int.reduceLT, Int.reduceLE, Int.reduceNeg, Int.reduceToNat, reduceCtorEq, ho, Try.results38]⟩, ?_⟩
  rintro m st ⟨done, rest, hl', hm', h54, h53, h52, h5, h50, hs1, hs2, hs4, hb2, hb4⟩
  have hlen2 : done.length + rest.length = e.args.length := by rw [hl']; simp
  have hw : IntKind.i64.wrap ((done.length : Int) + 1) = (done.length : Int) + 1 := wrap_fits (by omega) (by omega)
  cases rest with
  | nil =>
    have hlt : ¬ (done.length : Int) < (e.args.length : Int) := by simp at hlen2; omega
    obtain hdone : e.args = done := by simpa using hl'
    simp only [List.length_nil, List.replicate, List.append_nil] at h50
    have hrw : (done.map fun x => (x.eval row).enc) = l.map Vl.enc := by rw [hleq, hdone]; simp
    rw [hrw] at h50
    have hrow : getRow st.o 50 1 = some (42, l.map Vl.enc) := by simp [getRow, h50]
    have hvv : ∀ v ∈ l, v.valid = true := fun v hv => by rw [hleq] at hv; obtain ⟨x, _, rfl⟩ := List.mem_map.1 hv; exact Ex.eval_valid row x
    have hg0 := nth_get hpos
    have hl0 : (0 : Int) < (l.length : Int) := by omega
    have h2l : 1 < l.length := by
      have : (e.args.length : Int) = 2 := by simpa [fitsN] using hfit
      omega
    have hg1 := nth_get h2l
    have hl1 : (1 : Int) < (l.length : Int) := by omega
    clear hleq hrw
    simp only [go_sem, Nat.reduceEqDiff, Nat.reduceAdd, Nat.reduceSub, Nat.reduceLeDiff, Nat.reduceLT, Nat.reduceMul, Nat.reduceBEq, Int.reduceEq, Int.reduceLT, Int.reduceLE, Int.reduceNeg, Int.reduceToNat, reduceCtorEq, ho, Try.results38, h54, h53, hlt, hop, h5, hs2, hs4, hb2, hb4, hrow, hg0, hl0, hg1, hl1, Vl.enc]
    refine QCall.fr ?_ (compared_fn 7 (nth l 0) (nth l 1)) (.inl rfl) ?_; (focus (first | rfl | ((simp only [go_sem, Nat.reduceEqDiff, Nat.reduceAdd, Nat.reduceSub, Nat.reduceLeDiff, Nat.reduceLT, Nat.reduceMul, Nat.reduceBEq, Int.reduceEq, Int.reduceLT, Int.reduceLE, Int.reduceNeg, Int.reduceToNat, reduceCtorEq, ho, Try.results38, Vl.enc]); done) | ((simp only [go_sem, Nat.reduceEqDiff, Nat.reduceAdd, Nat.reduceSub, Nat.reduceLeDiff, Nat.reduceLT, Nat.reduceMul, Nat.reduceBEq, Int.reduceEq, Int.reduceLT, Int.reduceLE, Int.reduceNeg, Int.reduceToNat, reduceCtorEq, ho, Try.results38, Vl.enc]); rfl)))
    simp only [go_sem, Nat.reduceEqDiff, Nat.reduceAdd, Nat.reduceSub, Nat.reduceLeDiff, Nat.reduceLT, Nat.reduceMul, Nat.reduceBEq, Int.reduceEq, Int.reduceLT, Int.reduceLE, Int.reduceNeg, Int.reduceToNat, reduceCtorEq, ho, Try.results38]
    refine QCall.fr ?_ (of_fn (Vl.compared 7 (nth l 0) (nth l 1))) (.inl rfl) ?_; (focus (first | rfl | ((simp only [go_sem, Nat.reduceEqDiff, Nat.reduceAdd, Nat.reduceSub, Nat.reduceLeDiff, Nat.reduceLT, Nat.reduceMul, Nat.reduceBEq, Int.reduceEq, Int.reduceLT, Int.reduceLE, Int.reduceNeg, Int.reduceToNat, reduceCtorEq, ho, Try.results38]); done) | ((simp only [go_sem, Nat.reduceEqDiff, Nat.reduceAdd, Nat.reduceSub, Nat.reduceLeDiff, Nat.reduceLT, Nat.reduceMul, Nat.reduceBEq, Int.reduceEq, Int.reduceLT, Int.reduceLE, Int.reduceNeg, Int.reduceToNat, reduceCtorEq, ho, Try.results38]); rfl)))
    simp only [go_sem, Nat.reduceEqDiff, Nat.reduceAdd, Nat.reduceSub, Nat.reduceLeDiff, Nat.reduceLT, Nat.reduceMul, Nat.reduceBEq, Int.reduceEq, Int.reduceLT, Int.reduceLE, Int.reduceNeg, Int.reduceToNat, reduceCtorEq, ho, Try.results38, Vl.enc, h5, hs2, hs4, hb2, hb4]
    rw [evo_7]; exact ⟨rfl, rfl, rfl⟩
  | cons x rest =>
    have hlt : (done.length : Int) < (e.args.length : Int) := by simp at hlen2; omega
    have hget : (e.args.map Ex.enc)[done.length]? = some x.enc := by simp [hl']
    have hxs : x.size ≤ n := by have := hsz; rw [hl', Ex.sizes_app] at this; simp [Ex.sizes] at this; omega
    have hx50 : getRow st.o 50 1 = some (42, (done.map fun x => (x.eval row).enc) ++ List.replicate (rest.length + 1) (PV.agg [PV.int IntKind.i64 0, PV.int IntKind.i64 0, PV.str ⟨#[]⟩])) := by rw [getRow, h50]; rfl
    have hxl : (done.length : Int) < (((done.map fun x => (x.eval row).enc) ++ List.replicate (rest.length + 1) (PV.agg [PV.int IntKind.i64 0, PV.int IntKind.i64 0, PV.str ⟨#[]⟩])).length : Nat) := by simp; omega
    have hx0 : ((done.map fun x => (x.eval row).enc) ++ List.replicate (rest.length + 1) (PV.agg [PV.int IntKind.i64 0, PV.int IntKind.i64 0, PV.str ⟨#[]⟩]))[done.length]? = some (PV.agg [PV.int IntKind.i64 0, PV.int IntKind.i64 0, PV.str ⟨#[]⟩]) := by simp
    rw [List.length_cons] at h50
    simp only [go_sem, Nat.reduceEqDiff, Nat.reduceAdd, Nat.reduceSub, Nat.reduceLeDiff, Nat.reduceLT, Nat.reduceMul, Nat.reduceBEq, Int.reduceEq, Int.reduceLT, Int.reduceLE, Int.reduceNeg, Int.reduceToNat, reduceCtorEq, ho, Try.results38, h54, h53, h52, hlt, hget, Int.natCast_nonneg, Int.toNat_natCast, h5, hs1, hs2, hs4, hb2, hb4, x.enc_eq]
    refine GCall.fr ?_ (IH x hxs) (.inl rfl) ?_; (focus (first | rfl | ((simp only [go_sem, Nat.reduceEqDiff, Nat.reduceAdd, Nat.reduceSub, Nat.reduceLeDiff, Nat.reduceLT, Nat.reduceMul, Nat.reduceBEq, Int.reduceEq, Int.reduceLT, Int.reduceLE, Int.reduceNeg, Int.reduceToNat, reduceCtorEq, ho, Try.results38, x.enc_eq, hs1]); done) | ((simp only [go_sem, Nat.reduceEqDiff, Nat.reduceAdd, Nat.reduceSub, Nat.reduceLeDiff, Nat.reduceLT, Nat.reduceMul, Nat.reduceBEq, Int.reduceEq, Int.reduceLT, Int.reduceLE, Int.reduceNeg, Int.reduceToNat, reduceCtorEq, ho, Try.results38, x.enc_eq, hs1]); rfl)))
    simp only [go_sem, Nat.reduceEqDiff, Nat.reduceAdd, Nat.reduceSub, Nat.reduceLeDiff, Nat.reduceLT, Nat.reduceMul, Nat.reduceBEq, Int.reduceEq, Int.reduceLT, Int.reduceLE, Int.reduceNeg, Int.reduceToNat, reduceCtorEq, ho, Try.results38, h54, h53, h52, h5, hx50, hxl, hx0, h50, Int.natCast_nonneg, Int.toNat_natCast, hs1, hs2, hs4, hb2, hb4, hw]
    refine ⟨rest.length, by simp at hm'; omega, done ++ [x], rest, by simp [hl'], rfl, by simp, ?_⟩
    simp [List.set_append, List.replicate_succ]
theorem evalc_8 (row : List Vl) (n : Nat) (hn : n + 1 ≤ 100000000) (IH : ∀ x : Ex, x.size ≤ n → Fc 38 [x.enc, .sl (row.map Vl.enc)] (x.eval row).enc) (e : Ex) (h : e.size ≤ n + 1) (hf : e.formed = true) (hop : e.op = 8) : Fc 38 [e.enc, .sl (row.map Vl.enc)] (e.eval row).enc := by
  obtain ⟨l, hleq⟩ : ∃ l, l = e.args.map (Ex.eval row) := ⟨_, rfl⟩
  have hev : e.eval row = evalOp row 8 e.int e.val (e.args.map (Ex.eval row)) := by rw [Ex.eval_eq, hf, hop]; rfl
  have hsz := e.size_eq
  have hlen := Ex.len_sizes e.args
  have hfit := formed_len hf
  rw [hop] at hfit
  rw [← hleq] at hev
  refine fn_of_awp (E := E0) (M := M0) follows Try.func38 rfl (by decide) ok38 (by decide) (by simp) fun o ho => ?_
  rw [hev]
  clear hev
  simp only [go_sem, Nat.reduceEqDiff, Nat.reduceAdd, Nat.reduceSub, Nat.reduceLeDiff, Nat.reduceLT, Nat.reduceMul, Nat.reduceBEq, Int.reduceEq, Int.reduceLT, Int.reduceLE, Int.reduceNeg, Int.reduceToNat, reduceCtorEq, ho, Try.results38, e.enc_eq]
  refine GCall.fr ?_ (formed_fn e) (.inl rfl) ?_; (focus (first | rfl | ((simp only [go_sem, Nat.reduceEqDiff, Nat.reduceAdd, Nat.reduceSub, Nat.reduceLeDiff, Nat.reduceLT, Nat.reduceMul, Nat.reduceBEq, Int.reduceEq, Int.reduceLT, Int.reduceLE, Int.reduceNeg, Int.reduceToNat, reduceCtorEq, ho, Try.results38, e.enc_eq]); done) | ((simp only [go_sem, Nat.reduceEqDiff, Nat.reduceAdd, Nat.reduceSub, Nat.reduceLeDiff, Nat.reduceLT, Nat.reduceMul, Nat.reduceBEq, Int.reduceEq, Int.reduceLT, Int.reduceLE, Int.reduceNeg, Int.reduceToNat, reduceCtorEq, ho, Try.results38, e.enc_eq]); rfl)))
  simp only [go_sem, Nat.reduceEqDiff, Nat.reduceAdd, Nat.reduceSub, Nat.reduceLeDiff, Nat.reduceLT, Nat.reduceMul, Nat.reduceBEq, Int.reduceEq, Int.reduceLT, Int.reduceLE, Int.reduceNeg, Int.reduceToNat, reduceCtorEq, ho, Try.results38, hf, hop]
  have hl100 : e.args.length ≤ 100000000 := by omega
  have hllen : l.length = e.args.length := by rw [hleq]; simp
  have hpos := fits_pos (op := 8) (l := l) (by rw [hllen]; exact hfit) (by decide) (by decide)
  have hm : (e.args.length : Int) * (((32 : Nat) : Int) + 1) ≤ 140737488355328 := by omega
  simp only [go_sem, Nat.reduceEqDiff, Nat.reduceAdd, Nat.reduceSub, Nat.reduceLeDiff, Nat.reduceLT, Nat.reduceMul, Nat.reduceBEq, Int.reduceEq, Int.reduceLT, Int.reduceLE, Int.reduceNeg, Int.reduceToNat, reduceCtorEq, ho, Try.results38, List.length_map, Int.natCast_nonneg, hm, true_and, Int.toNat_natCast, Int.le_refl]
  refine ⟨fun m st => ∃ (done rest : List Ex), e.args = done ++ rest ∧ rest.length = m ∧ st.s 54 = .int .i64 done.length ∧ st.s 53 = .int .i64 e.args.length ∧ st.s 52 = .sl (e.args.map Ex.enc) ∧ st.s 5 = .ref 50 1 ∧ st.o 50 = (1, some (true, .row 42 ((done.map fun x => (x.eval row).enc) ++ List.replicate rest.length (PV.agg [PV.int IntKind.i64 0, PV.int IntKind.i64 0, PV.str ⟨#[]⟩])))) ∧ st.s 1 = .sl (row.map Vl.enc) ∧ st.s 2 = .ptr 2 1 0 ∧ st.s 4 = .ptr 4 1 0 ∧ getBox st.o 2 1 = some (49, e.enc.cells) ∧ st.o 4 = (1, some (true, .box 42 [.int .i64 0, .int .i64 0, .str ⟨#[]⟩])), e.args.length,
    ⟨[], e.args, rfl, rfl, by simp only [go_sem, Nat.reduceEqDiff, Nat.reduceAdd, Nat.reduceSub, Nat.reduceLeDiff, Nat.reduceLT, Nat.reduceMul, Nat.reduceBEq, Int.reduceEq, Int.reduceLT, Int.reduceLE, Int.reduceNeg, Int.reduceToNat, reduceCtorEq, ho, Try.results38]; rfl, by simp only [go_sem, Nat.reduceEqDiff, Nat.reduceAdd, Nat.reduceSub, Nat.reduceLeDiff, Nat.reduceLT, Nat.reduceMul, Nat.reduceBEq, Int.reduceEq, Int.reduceLT, Int.reduceLE, Int.reduceNeg, Int.reduceToNat, reduceCtorEq, ho, Try.results38], by simp only [go_sem, Nat.reduceEqDiff, Nat.reduceAdd, Nat.reduceSub, Nat.reduceLeDiff, Nat.reduceLT, Nat.reduceMul, Nat.reduceBEq, Int.reduceEq, Int.reduceLT, Int.reduceLE, Int.reduceNeg, Int.reduceToNat, reduceCtorEq, ho, Try.results38], by simp only [go_sem, Nat.reduceEqDiff, Nat.reduceAdd, Nat.reduceSub, Nat.reduceLeDiff, Nat.reduceLT, Nat.reduceMul, Nat.reduceBEq, Int.reduceEq, Int.reduceLT, Int.reduceLE, Int.reduceNeg, Int.reduceToNat, reduceCtorEq, ho, Try.results38], by simp only [go_sem, Nat.reduceEqDiff, Nat.reduceAdd, Nat.reduceSub, Nat.reduceLeDiff, Nat.reduceLT, Nat.reduceMul, Nat.reduceBEq, Int.reduceEq, Int.reduceLT, Int.reduceLE, Int.reduceNeg, Int.reduceToNat, reduceCtorEq, ho, Try.results38, List.map_nil, List.nil_append], by simp only [go_sem, Nat.reduceEqDiff, Nat.reduceAdd, Nat.reduceSub, Nat.reduceLeDiff, Nat.reduceLT, Nat.reduceMul, Nat.reduceBEq, Int.reduceEq, Int.reduceLT, Int.reduceLE, Int.reduceNeg, Int.reduceToNat, reduceCtorEq, ho, Try.results38], by simp only [go_sem, Nat.reduceEqDiff, Nat.reduceAdd, Nat.reduceSub, Nat.reduceLeDiff, Nat.reduceLT, Nat.reduceMul, Nat.reduceBEq, Int.reduceEq, Int.reduceLT, Int.reduceLE, Int.reduceNeg, Int.reduceToNat, reduceCtorEq, ho, Try.results38], by simp only [go_sem, Nat.reduceEqDiff, Nat.reduceAdd, Nat.reduceSub, Nat.reduceLeDiff, Nat.reduceLT, Nat.reduceMul, Nat.reduceBEq, Int.reduceEq, Int.reduceLT, Int.reduceLE, Int.reduceNeg, Int.reduceToNat, reduceCtorEq, ho, Try.results38], by simp only [go_sem, Nat.reduceEqDiff, Nat.reduceAdd, Nat.reduceSub, Nat.reduceLeDiff, Nat.reduceLT, Nat.reduceMul, Nat.reduceBEq, Int.reduceEq, Int.reduceLT, Int.reduceLE, Int.reduceNeg, Int.reduceToNat, reduceCtorEq, ho, Try.results38, hop], by simp only [go_sem, Nat.reduceEqDiff, Nat.reduceAdd, Nat.reduceSub, Nat.reduceLeDiff, Nat.reduceLT, Nat.reduceMul, Nat.reduceBEq, Int.reduceEq, Int.reduceLT, Int.reduceLE, Int.reduceNeg, Int.reduceToNat, reduceCtorEq, ho, Try.results38]⟩, ?_⟩
  rintro m st ⟨done, rest, hl', hm', h54, h53, h52, h5, h50, hs1, hs2, hs4, hb2, hb4⟩
  have hlen2 : done.length + rest.length = e.args.length := by rw [hl']; simp
  have hw : IntKind.i64.wrap ((done.length : Int) + 1) = (done.length : Int) + 1 := wrap_fits (by omega) (by omega)
  cases rest with
  | nil =>
    have hlt : ¬ (done.length : Int) < (e.args.length : Int) := by simp at hlen2; omega
    obtain hdone : e.args = done := by simpa using hl'
    simp only [List.length_nil, List.replicate, List.append_nil] at h50
    have hrw : (done.map fun x => (x.eval row).enc) = l.map Vl.enc := by rw [hleq, hdone]; simp
    rw [hrw] at h50
    have hrow : getRow st.o 50 1 = some (42, l.map Vl.enc) := by simp [getRow, h50]
    have hvv : ∀ v ∈ l, v.valid = true := fun v hv => by rw [hleq] at hv; obtain ⟨x, _, rfl⟩ := List.mem_map.1 hv; exact Ex.eval_valid row x
    have hg0 := nth_get hpos
    have hl0 : (0 : Int) < (l.length : Int) := by omega
    have h2l : 1 < l.length := by
      have : (e.args.length : Int) = 2 := by simpa [fitsN] using hfit
      omega
    have hg1 := nth_get h2l
    have hl1 : (1 : Int) < (l.length : Int) := by omega
    clear hleq hrw
    simp only [go_sem, Nat.reduceEqDiff, Nat.reduceAdd, Nat.reduceSub, Nat.reduceLeDiff, Nat.reduceLT, Nat.reduceMul, Nat.reduceBEq, Int.reduceEq, Int.reduceLT, Int.reduceLE, Int.reduceNeg, Int.reduceToNat, reduceCtorEq, ho, Try.results38, h54, h53, hlt, hop, h5, hs2, hs4, hb2, hb4, hrow, hg0, hl0, hg1, hl1, Vl.enc]
    refine QCall.fr ?_ (compared_fn 8 (nth l 0) (nth l 1)) (.inl rfl) ?_; (focus (first | rfl | ((simp only [go_sem, Nat.reduceEqDiff, Nat.reduceAdd, Nat.reduceSub, Nat.reduceLeDiff, Nat.reduceLT, Nat.reduceMul, Nat.reduceBEq, Int.reduceEq, Int.reduceLT, Int.reduceLE, Int.reduceNeg, Int.reduceToNat, reduceCtorEq, ho, Try.results38, Vl.enc]); done) | ((simp only [go_sem, Nat.reduceEqDiff, Nat.reduceAdd, Nat.reduceSub, Nat.reduceLeDiff, Nat.reduceLT, Nat.reduceMul, Nat.reduceBEq, Int.reduceEq, Int.reduceLT, Int.reduceLE, Int.reduceNeg, Int.reduceToNat, reduceCtorEq, ho, Try.results38, Vl.enc]); rfl)))
    simp only [go_sem, Nat.reduceEqDiff, Nat.reduceAdd, Nat.reduceSub, Nat.reduceLeDiff, Nat.reduceLT, Nat.reduceMul, Nat.reduceBEq, Int.reduceEq, Int.reduceLT, Int.reduceLE, Int.reduceNeg, Int.reduceToNat, reduceCtorEq, ho, Try.results38]
    refine QCall.fr ?_ (of_fn (Vl.compared 8 (nth l 0) (nth l 1))) (.inl rfl) ?_; (focus (first | rfl | ((simp only [go_sem, Nat.reduceEqDiff, Nat.reduceAdd, Nat.reduceSub, Nat.reduceLeDiff, Nat.reduceLT, Nat.reduceMul, Nat.reduceBEq, Int.reduceEq, Int.reduceLT, Int.reduceLE, Int.reduceNeg, Int.reduceToNat, reduceCtorEq, ho, Try.results38]); done) | ((simp only [go_sem, Nat.reduceEqDiff, Nat.reduceAdd, Nat.reduceSub, Nat.reduceLeDiff, Nat.reduceLT, Nat.reduceMul, Nat.reduceBEq, Int.reduceEq, Int.reduceLT, Int.reduceLE, Int.reduceNeg, Int.reduceToNat, reduceCtorEq, ho, Try.results38]); rfl)))
    simp only [go_sem, Nat.reduceEqDiff, Nat.reduceAdd, Nat.reduceSub, Nat.reduceLeDiff, Nat.reduceLT, Nat.reduceMul, Nat.reduceBEq, Int.reduceEq, Int.reduceLT, Int.reduceLE, Int.reduceNeg, Int.reduceToNat, reduceCtorEq, ho, Try.results38, Vl.enc, h5, hs2, hs4, hb2, hb4]
    rw [evo_8]; exact ⟨rfl, rfl, rfl⟩
  | cons x rest =>
    have hlt : (done.length : Int) < (e.args.length : Int) := by simp at hlen2; omega
    have hget : (e.args.map Ex.enc)[done.length]? = some x.enc := by simp [hl']
    have hxs : x.size ≤ n := by have := hsz; rw [hl', Ex.sizes_app] at this; simp [Ex.sizes] at this; omega
    have hx50 : getRow st.o 50 1 = some (42, (done.map fun x => (x.eval row).enc) ++ List.replicate (rest.length + 1) (PV.agg [PV.int IntKind.i64 0, PV.int IntKind.i64 0, PV.str ⟨#[]⟩])) := by rw [getRow, h50]; rfl
    have hxl : (done.length : Int) < (((done.map fun x => (x.eval row).enc) ++ List.replicate (rest.length + 1) (PV.agg [PV.int IntKind.i64 0, PV.int IntKind.i64 0, PV.str ⟨#[]⟩])).length : Nat) := by simp; omega
    have hx0 : ((done.map fun x => (x.eval row).enc) ++ List.replicate (rest.length + 1) (PV.agg [PV.int IntKind.i64 0, PV.int IntKind.i64 0, PV.str ⟨#[]⟩]))[done.length]? = some (PV.agg [PV.int IntKind.i64 0, PV.int IntKind.i64 0, PV.str ⟨#[]⟩]) := by simp
    rw [List.length_cons] at h50
    simp only [go_sem, Nat.reduceEqDiff, Nat.reduceAdd, Nat.reduceSub, Nat.reduceLeDiff, Nat.reduceLT, Nat.reduceMul, Nat.reduceBEq, Int.reduceEq, Int.reduceLT, Int.reduceLE, Int.reduceNeg, Int.reduceToNat, reduceCtorEq, ho, Try.results38, h54, h53, h52, hlt, hget, Int.natCast_nonneg, Int.toNat_natCast, h5, hs1, hs2, hs4, hb2, hb4, x.enc_eq]
    refine GCall.fr ?_ (IH x hxs) (.inl rfl) ?_; (focus (first | rfl | ((simp only [go_sem, Nat.reduceEqDiff, Nat.reduceAdd, Nat.reduceSub, Nat.reduceLeDiff, Nat.reduceLT, Nat.reduceMul, Nat.reduceBEq, Int.reduceEq, Int.reduceLT, Int.reduceLE, Int.reduceNeg, Int.reduceToNat, reduceCtorEq, ho, Try.results38, x.enc_eq, hs1]); done) | ((simp only [go_sem, Nat.reduceEqDiff, Nat.reduceAdd, Nat.reduceSub, Nat.reduceLeDiff, Nat.reduceLT, Nat.reduceMul, Nat.reduceBEq, Int.reduceEq, Int.reduceLT, Int.reduceLE, Int.reduceNeg, Int.reduceToNat, reduceCtorEq, ho, Try.results38, x.enc_eq, hs1]); rfl)))
    simp only [go_sem, Nat.reduceEqDiff, Nat.reduceAdd, Nat.reduceSub, Nat.reduceLeDiff, Nat.reduceLT, Nat.reduceMul, Nat.reduceBEq, Int.reduceEq, Int.reduceLT, Int.reduceLE, Int.reduceNeg, Int.reduceToNat, reduceCtorEq, ho, Try.results38, h54, h53, h52, h5, hx50, hxl, hx0, h50, Int.natCast_nonneg, Int.toNat_natCast, hs1, hs2, hs4, hb2, hb4, hw]
    refine ⟨rest.length, by simp at hm'; omega, done ++ [x], rest, by simp [hl'], rfl, by simp, ?_⟩
    simp [List.set_append, List.replicate_succ]
end Go.Proofs.Ytiefnninebilbaa
/- What the evaluation of an expression returns, operator by operator; no condition. -/
set_option maxRecDepth 100000
set_option linter.unusedVariables false
set_option linter.unusedSimpArgs false
namespace Go.Proofs.Ytiefnninebilbaa
open Go Go.Sx

theorem evalc_9 (row : List Vl) (n : Nat) (hn : n + 1 ≤ 100000000) (IH : ∀ x : Ex, x.size ≤ n → Fc 38 [x.enc, .sl (row.map Vl.enc)] (x.eval row).enc) (e : Ex) (h : e.size ≤ n + 1) (hf : e.formed = true) (hop : e.op = 9) : Fc 38 [e.enc, .sl (row.map Vl.enc)] (e.eval row).enc := by
  obtain ⟨l, hleq⟩ : ∃ l, l = e.args.map (Ex.eval row) := ⟨_, rfl⟩
  have hev : e.eval row = evalOp row 9 e.int e.val (e.args.map (Ex.eval row)) := by rw [Ex.eval_eq, hf, hop]; rfl
  have hsz := e.size_eq
  have hlen := Ex.len_sizes e.args
  have hfit := formed_len hf
  rw [hop] at hfit
  rw [← hleq] at hev
  refine fn_of_awp (E := E0) (M := M0) follows Try.func38 rfl (by decide) ok38 (by decide) (by simp) fun o ho => ?_
  rw [hev]
  clear hev
  simp only [go_sem, Nat.reduceEqDiff, Nat.reduceAdd, Nat.reduceSub, Nat.reduceLeDiff, Nat.reduceLT, Nat.reduceMul, Nat.reduceBEq, Int.reduceEq, Int.reduceLT, Int.reduceLE, Int.reduceNeg, Int.reduceToNat, reduceCtorEq, ho, Try.results38, e.enc_eq]
  refine GCall.fr ?_ (formed_fn e) (.inl rfl) ?_; (focus (first | rfl | ((simp only [go_sem, Nat.reduceEqDiff, Nat.reduceAdd, Nat.reduceSub, Nat.reduceLeDiff, Nat.reduceLT, Nat.reduceMul, Nat.reduceBEq, Int.reduceEq, Int.reduceLT, Int.reduceLE, Int.reduceNeg, Int.reduceToNat, reduceCtorEq, ho, Try.results38, e.enc_eq]); done) | ((simp only [go_sem, Nat.reduceEqDiff, Nat.reduceAdd, Nat.reduceSub, Nat.reduceLeDiff, Nat.reduceLT, Nat.reduceMul, Nat.reduceBEq, Int.reduceEq, Int.reduceLT, Int.reduceLE, Int.reduceNeg, Int.reduceToNat, reduceCtorEq, ho, Try.results38, e.enc_eq]); rfl)))
  simp only [go_sem, Nat.reduceEqDiff, Nat.reduceAdd, Nat.reduceSub, Nat.reduceLeDiff, Nat.reduceLT, Nat.reduceMul, Nat.reduceBEq, Int.reduceEq, Int.reduceLT, Int.reduceLE, Int.reduceNeg, Int.reduceToNat, reduceCtorEq, ho, Try.results38, hf, hop]
  have hl100 : e.args.length ≤ 100000000 := by omega
  have hllen : l.length = e.args.length := by rw [hleq]; simp
  have hpos := fits_pos (op := 9) (l := l) (by rw [hllen]; exact hfit) (by decide) (by decide)
  have hm : (e.args.length : Int) * (((32 : Nat) : Int) + 1) ≤ 140737488355328 := by omega
  simp only [go_sem, Nat.reduceEqDiff, Nat.reduceAdd, Nat.reduceSub, Nat.reduceLeDiff, Nat.reduceLT, Nat.reduceMul, Nat.reduceBEq, Int.reduceEq, Int.reduceLT, Int.reduceLE, Int.reduceNeg, Int.reduceToNat, reduceCtorEq, ho, Try.results38, List.length_map, Int.natCast_nonneg, hm, true_and, Int.toNat_natCast, Int.le_refl]
  refine ⟨fun m st => ∃ (done rest : List Ex), e.args = done ++ rest ∧ rest.length = m ∧ st.s 54 = .int .i64 done.length ∧ st.s 53 = .int .i64 e.args.length ∧ st.s 52 = .sl (e.args.map Ex.enc) ∧ st.s 5 = .ref 50 1 ∧ st.o 50 = (1, some (true, .row 42 ((done.map fun x => (x.eval row).enc) ++ List.replicate rest.length (PV.agg [PV.int IntKind.i64 0, PV.int IntKind.i64 0, PV.str ⟨#[]⟩])))) ∧ st.s 1 = .sl (row.map Vl.enc) ∧ st.s 2 = .ptr 2 1 0 ∧ st.s 4 = .ptr 4 1 0 ∧ getBox st.o 2 1 = some (49, e.enc.cells) ∧ st.o 4 = (1, some (true, .box 42 [.int .i64 0, .int .i64 0, .str ⟨#[]⟩])), e.args.length,
    ⟨[], e.args, rfl, rfl, by simp only [go_sem, Nat.reduceEqDiff, Nat.reduceAdd, Nat.reduceSub, Nat.reduceLeDiff, Nat.reduceLT, Nat.reduceMul, Nat.reduceBEq, Int.reduceEq, Int.reduceLT, Int.reduceLE, Int.reduceNeg, Int.reduceToNat, reduceCtorEq, ho, Try.results38]; rfl, by simp only [go_sem, Nat.reduceEqDiff, Nat.reduceAdd, Nat.reduceSub, Nat.reduceLeDiff, Nat.reduceLT, Nat.reduceMul, Nat.reduceBEq, Int.reduceEq, Int.reduceLT, Int.reduceLE, Int.reduceNeg, Int.reduceToNat, reduceCtorEq, ho, Try.results38], by simp only [go_sem, Nat.reduceEqDiff, Nat.reduceAdd, Nat.reduceSub, Nat.reduceLeDiff, Nat.reduceLT, Nat.reduceMul, Nat.reduceBEq, Int.reduceEq, Int.reduceLT, Int.reduceLE, Int.reduceNeg, Int.reduceToNat, reduceCtorEq, ho, Try.results38], by simp only [go_sem, Nat.reduceEqDiff, Nat.reduceAdd, Nat.reduceSub, Nat.reduceLeDiff, Nat.reduceLT, Nat.reduceMul, Nat.reduceBEq, Int.reduceEq, Int.reduceLT, Int.reduceLE, Int.reduceNeg, Int.reduceToNat, reduceCtorEq, ho, Try.results38], by simp only [go_sem, Nat.reduceEqDiff, Nat.reduceAdd, Nat.reduceSub, Nat.reduceLeDiff, Nat.reduceLT, Nat.reduceMul, Nat.reduceBEq, Int.reduceEq, Int.reduceLT, Int.reduceLE, Int.reduceNeg, Int.reduceToNat, reduceCtorEq, ho, Try.results38, List.map_nil, List.nil_append], by simp only [go_sem, Nat.reduceEqDiff, Nat.reduceAdd, Nat.reduceSub, Nat.reduceLeDiff, Nat.reduceLT, Nat.reduceMul, Nat.reduceBEq, Int.reduceEq, Int.reduceLT, Int.reduceLE, Int.reduceNeg, Int.reduceToNat, reduceCtorEq, ho, Try.results38], by simp only [go_sem, Nat.reduceEqDiff, Nat.reduceAdd, Nat.reduceSub, Nat.reduceLeDiff, Nat.reduceLT, Nat.reduceMul, Nat.reduceBEq, Int.reduceEq, Int.reduceLT, Int.reduceLE, Int.reduceNeg, Int.reduceToNat, reduceCtorEq, ho, Try.results38], by simp only [go_sem, Nat.reduceEqDiff, Nat.reduceAdd, Nat.reduceSub, Nat.reduceLeDiff, Nat.reduceLT, Nat.reduceMul, Nat.reduceBEq, Int.reduceEq, Int.reduceLT, Int.reduceLE, Int.reduceNeg, Int.reduceToNat, reduceCtorEq, ho, Try.results38], by simp only [go_sem, Nat.reduceEqDiff, Nat.reduceAdd, Nat.reduceSub, Nat.reduceLeDiff, Nat.reduceLT, Nat.reduceMul, Nat.reduceBEq, Int.reduceEq, Int.reduceLT, Int.reduceLE, Int.reduceNeg, Int.reduceToNat, reduceCtorEq, ho, Try.results38, hop], by simp only [go_sem, Nat.reduceEqDiff, Nat.reduceAdd, Nat.reduceSub, Nat.reduceLeDiff, Nat.reduceLT, Nat.reduceMul, Nat.reduceBEq, Int.reduceEq, Int.reduceLT, Int.reduceLE, Int.reduceNeg, Int.reduceToNat, reduceCtorEq, ho, Try.results38]⟩, ?_⟩
  rintro m st ⟨done, rest, hl', hm', h54, h53, h52, h5, h50, hs1, hs2, hs4, hb2, hb4⟩
  have hlen2 : done.length + rest.length = e.args.length := by rw [hl']; simp
  have hw : IntKind.i64.wrap ((done.length : Int) + 1) = (done.length : Int) + 1 := wrap_fits (by omega) (by omega)
  cases rest with
  | nil =>
    have hlt : ¬ (done.length : Int) < (e.args.length : Int) := by simp at hlen2; omega
    obtain hdone : e.args = done := by simpa using hl'
    simp only [List.length_nil, List.replicate, List.append_nil] at h50
    have hrw : (done.map fun x => (x.eval row).enc) = l.map Vl.enc := by rw [hleq, hdone]; simp
    rw [hrw] at h50
    have hrow : getRow st.o 50 1 = some (42, l.map Vl.enc) := by simp [getRow, h50]
    have hvv : ∀ v ∈ l, v.valid = true := fun v hv => by rw [hleq] at hv; obtain ⟨x, _, rfl⟩ := List.mem_map.1 hv; exact Ex.eval_valid row x
    have hg0 := nth_get hpos
    have hl0 : (0 : Int) < (l.length : Int) := by omega
    have h2l : 1 < l.length := by
      have : (e.args.length : Int) = 2 := by simpa [fitsN] using hfit
      omega
    have hg1 := nth_get h2l
    have hl1 : (1 : Int) < (l.length : Int) := by omega
    clear hleq hrw
    simp only [go_sem, Nat.reduceEqDiff, Nat.reduceAdd, Nat.reduceSub, Nat.reduceLeDiff, Nat.reduceLT, Nat.reduceMul, Nat.reduceBEq, Int.reduceEq, Int.reduceLT, Int.reduceLE, Int.reduceNeg, Int.reduceToNat, reduceCtorEq, ho, Try.results38, h54, h53, hlt, hop, h5, hs2, hs4, hb2, hb4, hrow, hg0, hl0, hg1, hl1, Vl.enc]
    refine QCall.fr ?_ (compared_fn 9 (nth l 0) (nth l 1)) (.inl rfl) ?_; (focus (first | rfl | ((simp only [go_sem, Nat.reduceEqDiff, Nat.reduceAdd, Nat.reduceSub, Nat.reduceLeDiff, Nat.reduceLT, Nat.reduceMul, Nat.reduceBEq, Int.reduceEq, Int.reduceLT, Int.reduceLE, Int.reduceNeg, Int.reduceToNat, reduceCtorEq, ho, Try.results38, Vl.enc]); done) | ((simp only [go_sem, Nat.reduceEqDiff, Nat.reduceAdd, Nat.reduceSub, Nat.reduceLeDiff, Nat.reduceLT, Nat.reduceMul, Nat.reduceBEq, Int.reduceEq, Int.reduceLT, Int.reduceLE, Int.reduceNeg, Int.reduceToNat, reduceCtorEq, ho, Try.results38, Vl.enc]); rfl)))
    simp only [go_sem, Nat.reduceEqDiff, Nat.reduceAdd, Nat.reduceSub, Nat.reduceLeDiff, Nat.reduceLT, Nat.reduceMul, Nat.reduceBEq, Int.reduceEq, Int.reduceLT, Int.reduceLE, Int.reduceNeg, Int.reduceToNat, reduceCtorEq, ho, Try.results38]
    refine QCall.fr ?_ (of_fn (Vl.compared 9 (nth l 0) (nth l 1))) (.inl rfl) ?_; (focus (first | rfl | ((simp only [go_sem, Nat.reduceEqDiff, Nat.reduceAdd, Nat.reduceSub, Nat.reduceLeDiff, Nat.reduceLT, Nat.reduceMul, Nat.reduceBEq, Int.reduceEq, Int.reduceLT, Int.reduceLE, Int.reduceNeg, Int.reduceToNat, reduceCtorEq, ho, Try.results38]); done) | ((simp only [go_sem, Nat.reduceEqDiff, Nat.reduceAdd, Nat.reduceSub, Nat.reduceLeDiff, Nat.reduceLT, Nat.reduceMul, Nat.reduceBEq, Int.reduceEq, Int.reduceLT, Int.reduceLE, Int.reduceNeg, Int.reduceToNat, reduceCtorEq, ho, Try.results38]); rfl)))
    simp only [go_sem, Nat.reduceEqDiff, Nat.reduceAdd, Nat.reduceSub, Nat.reduceLeDiff, Nat.reduceLT, Nat.reduceMul, Nat.reduceBEq, Int.reduceEq, Int.reduceLT, Int.reduceLE, Int.reduceNeg, Int.reduceToNat, reduceCtorEq, ho, Try.results38, Vl.enc, h5, hs2, hs4, hb2, hb4]
    rw [evo_9]; exact ⟨rfl, rfl, rfl⟩
  | cons x rest =>
    have hlt : (done.length : Int) < (e.args.length : Int) := by simp at hlen2; omega
    have hget : (e.args.map Ex.enc)[done.length]? = some x.enc := by simp [hl']
    have hxs : x.size ≤ n := by have := hsz; rw [hl', Ex.sizes_app] at this; simp [Ex.sizes] at this; omega
    have hx50 : getRow st.o 50 1 = some (42, (done.map fun x => (x.eval row).enc) ++ List.replicate (rest.length + 1) (PV.agg [PV.int IntKind.i64 0, PV.int IntKind.i64 0, PV.str ⟨#[]⟩])) := by rw [getRow, h50]; rfl
    have hxl : (done.length : Int) < (((done.map fun x => (x.eval row).enc) ++ List.replicate (rest.length + 1) (PV.agg [PV.int IntKind.i64 0, PV.int IntKind.i64 0, PV.str ⟨#[]⟩])).length : Nat) := by simp; omega
    have hx0 : ((done.map fun x => (x.eval row).enc) ++ List.replicate (rest.length + 1) (PV.agg [PV.int IntKind.i64 0, PV.int IntKind.i64 0, PV.str ⟨#[]⟩]))[done.length]? = some (PV.agg [PV.int IntKind.i64 0, PV.int IntKind.i64 0, PV.str ⟨#[]⟩]) := by simp
    rw [List.length_cons] at h50
    simp only [go_sem, Nat.reduceEqDiff, Nat.reduceAdd, Nat.reduceSub, Nat.reduceLeDiff, Nat.reduceLT, Nat.reduceMul, Nat.reduceBEq, Int.reduceEq, Int.reduceLT, Int.reduceLE, Int.reduceNeg, Int.reduceToNat, reduceCtorEq, ho, Try.results38, h54, h53, h52, hlt, hget, Int.natCast_nonneg, Int.toNat_natCast, h5, hs1, hs2, hs4, hb2, hb4, x.enc_eq]
    refine GCall.fr ?_ (IH x hxs) (.inl rfl) ?_; (focus (first | rfl | ((simp only [go_sem, Nat.reduceEqDiff, Nat.reduceAdd, Nat.reduceSub, Nat.reduceLeDiff, Nat.reduceLT, Nat.reduceMul, Nat.reduceBEq, Int.reduceEq, Int.reduceLT, Int.reduceLE, Int.reduceNeg, Int.reduceToNat, reduceCtorEq, ho, Try.results38, x.enc_eq, hs1]); done) | ((simp only [go_sem, Nat.reduceEqDiff, Nat.reduceAdd, Nat.reduceSub, Nat.reduceLeDiff, Nat.reduceLT, Nat.reduceMul, Nat.reduceBEq, Int.reduceEq, Int.reduceLT, Int.reduceLE, Int.reduceNeg, Int.reduceToNat, reduceCtorEq, ho, Try.results38, x.enc_eq, hs1]); rfl)))
    simp only [go_sem, Nat.reduceEqDiff, Nat.reduceAdd, Nat.reduceSub, Nat.reduceLeDiff, Nat.reduceLT, Nat.reduceMul, Nat.reduceBEq, Int.reduceEq, Int.reduceLT, Int.reduceLE, Int.reduceNeg, Int.reduceToNat, reduceCtorEq, ho, Try.results38, h54, h53, h52, h5, hx50, hxl, hx0, h50, Int.natCast_nonneg, Int.toNat_natCast, hs1, hs2, hs4, hb2, hb4, hw]
    refine ⟨rest.length, by simp at hm'; omega, done ++ [x], rest, by simp [hl'], rfl, by simp, ?_⟩
    simp [List.set_append, List.replicate_succ]
theorem evalc_10 (row : List Vl) (n : Nat) (hn : n + 1 ≤ 100000000) (IH : ∀ x : Ex, x.size ≤ n → Fc 38 [x.enc, .sl (row.map Vl.enc)] (x.eval row).enc) (e : Ex) (h : e.size ≤ n + 1) (hf : e.formed = true) (hop : e.op = 10) : Fc 38 [e.enc, .sl (row.map Vl.enc)] (e.eval row).enc := by
  obtain ⟨l, hleq⟩ : ∃ l, l = e.args.map (Ex.eval row) := ⟨_, rfl⟩
  have hev : e.eval row = evalOp row 10 e.int e.val (e.args.map (Ex.eval row)) := by rw [Ex.eval_eq, hf, hop]; rfl
  have hsz := e.size_eq
  have hlen := Ex.len_sizes e.args
  have hfit := formed_len hf
  rw [hop] at hfit
  rw [← hleq] at hev
  refine fn_of_awp (E := E0) (M := M0) follows Try.func38 rfl (by decide) ok38 (by decide) (by simp) fun o ho => ?_
  rw [hev]
  clear hev
  simp only [go_sem, Nat.reduceEqDiff, Nat.reduceAdd, Nat.reduceSub, Nat.reduceLeDiff, Nat.reduceLT, Nat.reduceMul, Nat.reduceBEq, Int.reduceEq, Int.reduceLT, Int.reduceLE, Int.reduceNeg, Int.reduceToNat, reduceCtorEq, ho, Try.results38, e.enc_eq]
  refine GCall.fr ?_ (formed_fn e) (.inl rfl) ?_; (focus (first | rfl | ((simp only [go_sem, Nat.reduceEqDiff, Nat.reduceAdd, Nat.reduceSub, Nat.reduceLeDiff, Nat.reduceLT, Nat.reduceMul, Nat.reduceBEq, Int.reduceEq, Int.reduceLT, Int.reduceLE, Int.reduceNeg, Int.reduceToNat, reduceCtorEq, ho, Try.results38, e.enc_eq]); done) | ((simp only [go_sem, Nat.reduceEqDiff, Nat.reduceAdd, Nat.reduceSub, Nat.reduceLeDiff, Nat.reduceLT, Nat.reduceMul, Nat.reduceBEq, Int.reduceEq, Int.reduceLT, Int.reduceLE, Int.reduceNeg, Int.reduceToNat, reduceCtorEq, ho, Try.results38, e.enc_eq]); rfl)))
  simp only [go_sem, Nat.reduceEqDiff, Nat.reduceAdd, Nat.reduceSub, Nat.reduceLeDiff, Nat.reduceLT, Nat.reduceMul, Nat.reduceBEq, Int.reduceEq, Int.reduceLT, Int.reduceLE, Int.reduceNeg, Int.reduceToNat, reduceCtorEq, ho, Try.results38, hf, hop]
  have hl100 : e.args.length ≤ 100000000 := by omega
  have hllen : l.length = e.args.length := by rw [hleq]; simp
  have hpos := fits_pos (op := 10) (l := l) (by rw [hllen]; exact hfit) (by decide) (by decide)
  have hm : (e.args.length : Int) * (((32 : Nat) : Int) + 1) ≤ 140737488355328 := by omega
  simp only [go_sem, Nat.reduceEqDiff, Nat.reduceAdd, Nat.reduceSub, Nat.reduceLeDiff, Nat.reduceLT, Nat.reduceMul, Nat.reduceBEq, Int.reduceEq, Int.reduceLT, Int.reduceLE, Int.reduceNeg, Int.reduceToNat, reduceCtorEq, ho, Try.results38, List.length_map, Int.natCast_nonneg, hm, true_and, Int.toNat_natCast, Int.le_refl]
  refine ⟨fun m st => ∃ (done rest : List Ex), e.args = done ++ rest ∧ rest.length = m ∧ st.s 54 = .int .i64 done.length ∧ st.s 53 = .int .i64 e.args.length ∧ st.s 52 = .sl (e.args.map Ex.enc) ∧ st.s 5 = .ref 50 1 ∧ st.o 50 = (1, some (true, .row 42 ((done.map fun x => (x.eval row).enc) ++ List.replicate rest.length (PV.agg [PV.int IntKind.i64 0, PV.int IntKind.i64 0, PV.str ⟨#[]⟩])))) ∧ st.s 1 = .sl (row.map Vl.enc) ∧ st.s 2 = .ptr 2 1 0 ∧ st.s 4 = .ptr 4 1 0 ∧ getBox st.o 2 1 = some (49, e.enc.cells) ∧ st.o 4 = (1, some (true, .box 42 [.int .i64 0, .int .i64 0, .str ⟨#[]⟩])), e.args.length,
    ⟨[], e.args, rfl, rfl, by simp only [go_sem, Nat.reduceEqDiff, Nat.reduceAdd, Nat.reduceSub, Nat.reduceLeDiff, Nat.reduceLT, Nat.reduceMul, Nat.reduceBEq, Int.reduceEq, Int.reduceLT, Int.reduceLE, Int.reduceNeg, Int.reduceToNat, reduceCtorEq, ho, Try.results38]; rfl, by simp only [go_sem, Nat.reduceEqDiff, Nat.reduceAdd, Nat.reduceSub, Nat.reduceLeDiff, Nat.reduceLT, Nat.reduceMul, Nat.reduceBEq, Int.reduceEq, Int.reduceLT, Int.reduceLE, Int.reduceNeg, Int.reduceToNat, reduceCtorEq, ho, Try.results38], by simp only [go_sem, Nat.reduceEqDiff, Nat.reduceAdd, Nat.reduceSub, Nat.reduceLeDiff, Nat.reduceLT, Nat.reduceMul, Nat.reduceBEq, Int.reduceEq, Int.reduceLT, Int.reduceLE, Int.reduceNeg, Int.reduceToNat, reduceCtorEq, ho, Try.results38], by simp only [go_sem, Nat.reduceEqDiff, Nat.reduceAdd, Nat.reduceSub, Nat.reduceLeDiff, Nat.reduceLT, Nat.reduceMul, Nat.reduceBEq, Int.reduceEq, Int.reduceLT, Int.reduceLE, Int.reduceNeg, Int.reduceToNat, reduceCtorEq, ho, Try.results38], by simp only [go_sem, Nat.reduceEqDiff, Nat.reduceAdd, Nat.reduceSub, Nat.reduceLeDiff, Nat.reduceLT, Nat.reduceMul, Nat.reduceBEq, Int.reduceEq, Int.reduceLT, Int.reduceLE, Int.reduceNeg, Int.reduceToNat, reduceCtorEq, ho, Try.results38, List.map_nil, List.nil_append], by simp only [go_sem, Nat.reduceEqDiff, Nat.reduceAdd, Nat.reduceSub, Nat.reduceLeDiff, Nat.reduceLT, Nat.reduceMul, Nat.reduceBEq, Int.reduceEq, Int.reduceLT, Int.reduceLE, Int.reduceNeg, Int.reduceToNat, reduceCtorEq, ho, Try.results38], by simp only [go_sem, Nat.reduceEqDiff, Nat.reduceAdd, Nat.reduceSub, Nat.reduceLeDiff, Nat.reduceLT, Nat.reduceMul, Nat.reduceBEq, Int.reduceEq, Int.reduceLT, Int.reduceLE, Int.reduceNeg, Int.reduceToNat, reduceCtorEq, ho, Try.results38], by simp only [go_sem, Nat.reduceEqDiff, Nat.reduceAdd, Nat.reduceSub, Nat.reduceLeDiff, Nat.reduceLT, Nat.reduceMul, Nat.reduceBEq, Int.reduceEq, Int.reduceLT, Int.reduceLE, Int.reduceNeg, Int.reduceToNat, reduceCtorEq, ho, Try.results38], by simp only [go_sem, Nat.reduceEqDiff, Nat.reduceAdd, Nat.reduceSub, Nat.reduceLeDiff, Nat.reduceLT, Nat.reduceMul, Nat.reduceBEq, Int.reduceEq, Int.reduceLT, Int.reduceLE, Int.reduceNeg, Int.reduceToNat, reduceCtorEq, ho, Try.results38, hop], by simp only [go_sem, Nat.reduceEqDiff, Nat.reduceAdd, Nat.reduceSub, Nat.reduceLeDiff, Nat.reduceLT, Nat.reduceMul, Nat.reduceBEq, Int.reduceEq, Int.reduceLT, Int.reduceLE, Int.reduceNeg, Int.reduceToNat, reduceCtorEq, ho, Try.results38]⟩, ?_⟩
  rintro m st ⟨done, rest, hl', hm', h54, h53, h52, h5, h50, hs1, hs2, hs4, hb2, hb4⟩
  have hlen2 : done.length + rest.length = e.args.length := by rw [hl']; simp
  have hw : IntKind.i64.wrap ((done.length : Int) + 1) = (done.length : Int) + 1 := wrap_fits (by omega) (by omega)
  cases rest with
  | nil =>
    have hlt : ¬ (done.length : Int) < (e.args.length : Int) := by simp at hlen2; omega
    obtain hdone : e.args = done := by simpa using hl'
    simp only [List.length_nil, List.replicate, List.append_nil] at h50
    have hrw : (done.map fun x => (x.eval row).enc) = l.map Vl.enc := by rw [hleq, hdone]; simp
    rw [hrw] at h50
    have hrow : getRow st.o 50 1 = some (42, l.map Vl.enc) := by simp [getRow, h50]
    have hvv : ∀ v ∈ l, v.valid = true := fun v hv => by rw [hleq] at hv; obtain ⟨x, _, rfl⟩ := List.mem_map.1 hv; exact Ex.eval_valid row x
    have hg0 := nth_get hpos
    have hl0 : (0 : Int) < (l.length : Int) := by omega
    have h2l : 1 < l.length := by
      have : (e.args.length : Int) = 2 := by simpa [fitsN] using hfit
      omega
    have hg1 := nth_get h2l
    have hl1 : (1 : Int) < (l.length : Int) := by omega
    clear hleq hrw
    simp only [go_sem, Nat.reduceEqDiff, Nat.reduceAdd, Nat.reduceSub, Nat.reduceLeDiff, Nat.reduceLT, Nat.reduceMul, Nat.reduceBEq, Int.reduceEq, Int.reduceLT, Int.reduceLE, Int.reduceNeg, Int.reduceToNat, reduceCtorEq, ho, Try.results38, h54, h53, hlt, hop, h5, hs2, hs4, hb2, hb4, hrow, hg0, hl0, hg1, hl1, Vl.enc]
    refine QCall.fr ?_ (compared_fn 10 (nth l 0) (nth l 1)) (.inl rfl) ?_; (focus (first | rfl | ((simp only [go_sem, Nat.reduceEqDiff, Nat.reduceAdd, Nat.reduceSub, Nat.reduceLeDiff, Nat.reduceLT, Nat.reduceMul, Nat.reduceBEq, Int.reduceEq, Int.reduceLT, Int.reduceLE, Int.reduceNeg, Int.reduceToNat, reduceCtorEq, ho, Try.results38, Vl.enc]); done) | ((simp only [go_sem, Nat.reduceEqDiff, Nat.reduceAdd, Nat.reduceSub, Nat.reduceLeDiff, Nat.reduceLT, Nat.reduceMul, Nat.reduceBEq, Int.reduceEq, Int.reduceLT, Int.reduceLE, Int.reduceNeg, Int.reduceToNat, reduceCtorEq, ho, Try.results38, Vl.enc]); rfl)))
    simp only [go_sem, Nat.reduceEqDiff, Nat.reduceAdd, Nat.reduceSub, Nat.reduceLeDiff, Nat.reduceLT, Nat.reduceMul, Nat.reduceBEq, Int.reduceEq, Int.reduceLT, Int.reduceLE, Int.reduceNeg, Int.reduceToNat, reduceCtorEq, ho, Try.results38]
    refine QCall.fr ?_ (of_fn (Vl.compared 10 (nth l 0) (nth l 1))) (.inl rfl) ?_; (focus (first | rfl | ((simp only [go_sem, Nat.reduceEqDiff, Nat.reduceAdd, Nat.reduceSub, Nat.reduceLeDiff, Nat.reduceLT, Nat.reduceMul, Nat.reduceBEq, Int.reduceEq, Int.reduceLT, Int.reduceLE, Int.reduceNeg, Int.reduceToNat, reduceCtorEq, ho, Try.results38]); done) | ((simp only [go_sem, Nat.reduceEqDiff, Nat.reduceAdd, Nat.reduceSub, Nat.reduceLeDiff, Nat.reduceLT, Nat.reduceMul, Nat.reduceBEq, Int.reduceEq, Int.reduceLT, Int.reduceLE, Int.reduceNeg, Int.reduceToNat, reduceCtorEq, ho, Try.results38]); rfl)))
    simp only [go_sem, Nat.reduceEqDiff, Nat.reduceAdd, Nat.reduceSub, Nat.reduceLeDiff, Nat.reduceLT, Nat.reduceMul, Nat.reduceBEq, Int.reduceEq, Int.reduceLT, Int.reduceLE, Int.reduceNeg, Int.reduceToNat, reduceCtorEq, ho, Try.results38, Vl.enc, h5, hs2, hs4, hb2, hb4]
    rw [evo_10]; exact ⟨rfl, rfl, rfl⟩
  | cons x rest =>
    have hlt : (done.length : Int) < (e.args.length : Int) := by simp at hlen2; omega
    have hget : (e.args.map Ex.enc)[done.length]? = some x.enc := by simp [hl']
    have hxs : x.size ≤ n := by have := hsz; rw [hl', Ex.sizes_app] at this; simp [Ex.sizes] at this; omega
    have hx50 : getRow st.o 50 1 = some (42, (done.map fun x => (x.eval row).enc) ++ List.replicate (rest.length + 1) (PV.agg [PV.int IntKind.i64 0, PV.int IntKind.i64 0, PV.str ⟨#[]⟩])) := by rw [getRow, h50]; rfl
    have hxl : (done.length : Int) < (((done.map fun x => (x.eval row).enc) ++ List.replicate (rest.length + 1) (PV.agg [PV.int IntKind.i64 0, PV.int IntKind.i64 0, PV.str ⟨#[]⟩])).length : Nat) := by simp; omega
    have hx0 : ((done.map fun x => (x.eval row).enc) ++ List.replicate (rest.length + 1) (PV.agg [PV.int IntKind.i64 0, PV.int IntKind.i64 0, PV.str ⟨#[]⟩]))[done.length]? = some (PV.agg [PV.int IntKind.i64 0, PV.int IntKind.i64 0, PV.str ⟨#[]⟩]) := by simp
    rw [List.length_cons] at h50
    simp only [go_sem, Nat.reduceEqDiff, Nat.reduceAdd, Nat.reduceSub, Nat.reduceLeDiff, Nat.reduceLT, Nat.reduceMul, Nat.reduceBEq, Int.reduceEq, Int.reduceLT, Int.reduceLE, Int.reduceNeg, Int.reduceToNat, reduceCtorEq, ho, Try.results38, h54, h53, h52, hlt, hget, Int.natCast_nonneg, Int.toNat_natCast, h5, hs1, hs2, hs4, hb2, hb4, x.enc_eq]
    refine GCall.fr ?_ (IH x hxs) (.inl rfl) ?_; (focus (first | rfl | ((simp only [go_sem, Nat.reduceEqDiff, Nat.reduceAdd, Nat.reduceSub, Nat.reduceLeDiff, Nat.reduceLT, Nat.reduceMul, Nat.reduceBEq, Int.reduceEq, Int.reduceLT, Int.reduceLE, Int.reduceNeg, Int.reduceToNat, reduceCtorEq, ho, Try.results38, x.enc_eq, hs1]); done) | ((simp only [go_sem, Nat.reduceEqDiff, Nat.reduceAdd, Nat.reduceSub, Nat.reduceLeDiff, Nat.reduceLT, Nat.reduceMul, Nat.reduceBEq, Int.reduceEq, Int.reduceLT, Int.reduceLE, Int.reduceNeg, Int.reduceToNat, reduceCtorEq, ho, Try.results38, x.enc_eq, hs1]); rfl)))
    simp only [go_sem, Nat.reduceEqDiff, Nat.reduceAdd, Nat.reduceSub, Nat.reduceLeDiff, Nat.reduceLT, Nat.reduceMul, Nat.reduceBEq, Int.reduceEq, Int.reduceLT, Int.reduceLE, Int.reduceNeg, Int.reduceToNat, reduceCtorEq, ho, Try.results38, h54, h53, h52, h5, hx50, hxl, hx0, h50, Int.natCast_nonneg, Int.toNat_natCast, hs1, hs2, hs4, hb2, hb4, hw]
    refine ⟨rest.length, by simp at hm'; omega, done ++ [x], rest, by simp [hl'], rfl, by simp, ?_⟩
    simp [List.set_append, List.replicate_succ]
theorem evalc_11 (row : List Vl) (n : Nat) (hn : n + 1 ≤ 100000000) (IH : ∀ x : Ex, x.size ≤ n → Fc 38 [x.enc, .sl (row.map Vl.enc)] (x.eval row).enc) (e : Ex) (h : e.size ≤ n + 1) (hf : e.formed = true) (hop : e.op = 11) : Fc 38 [e.enc, .sl (row.map Vl.enc)] (e.eval row).enc := by
  obtain ⟨l, hleq⟩ : ∃ l, l = e.args.map (Ex.eval row) := ⟨_, rfl⟩
  have hev : e.eval row = evalOp row 11 e.int e.val (e.args.map (Ex.eval row)) := by rw [Ex.eval_eq, hf, hop]; rfl
  have hsz := e.size_eq
  have hlen := Ex.len_sizes e.args
  have hfit := formed_len hf
  rw [hop] at hfit
  rw [← hleq] at hev
  refine fn_of_awp (E := E0) (M := M0) follows Try.func38 rfl (by decide) ok38 (by decide) (by simp) fun o ho => ?_
  rw [hev]
  clear hev
  simp only [go_sem, Nat.reduceEqDiff, Nat.reduceAdd, Nat.reduceSub, Nat.reduceLeDiff, Nat.reduceLT, Nat.reduceMul, Nat.reduceBEq, Int.reduceEq, Int.reduceLT, Int.reduceLE, Int.reduceNeg, Int.reduceToNat, reduceCtorEq, ho, Try.results38, e.enc_eq]
  refine GCall.fr ?_ (formed_fn e) (.inl rfl) ?_; (focus (first | rfl | ((simp only [go_sem, Nat.reduceEqDiff, Nat.reduceAdd, Nat.reduceSub, Nat.reduceLeDiff, Nat.reduceLT, Nat.reduceMul, Nat.reduceBEq, Int.reduceEq, Int.reduceLT, Int.reduceLE, Int.reduceNeg, Int.reduceToNat, reduceCtorEq, ho, Try.results38, e.enc_eq]); done) | ((simp only [go_sem, Nat.reduceEqDiff, Nat.reduceAdd, Nat.reduceSub, Nat.reduceLeDiff, Nat.reduceLT, Nat.reduceMul, Nat.reduceBEq, Int.reduceEq, Int.reduceLT, Int.reduceLE, Int.reduceNeg, Int.reduceToNat, reduceCtorEq, ho, Try.results38, e.enc_eq]); rfl)))
  simp only [go_sem, Nat.reduceEqDiff, Nat.reduceAdd, Nat.reduceSub, Nat.reduceLeDiff, Nat.reduceLT, Nat.reduceMul, Nat.reduceBEq, Int.reduceEq, Int.reduceLT, Int.reduceLE, Int.reduceNeg, Int.reduceToNat, reduceCtorEq, ho, Try.results38, hf, hop]
  have hl100 : e.args.length ≤ 100000000 := by omega
  have hllen : l.length = e.args.length := by rw [hleq]; simp
  have hpos := fits_pos (op := 11) (l := l) (by rw [hllen]; exact hfit) (by decide) (by decide)
  have hm : (e.args.length : Int) * (((32 : Nat) : Int) + 1) ≤ 140737488355328 := by omega
  simp only [go_sem, Nat.reduceEqDiff, Nat.reduceAdd, Nat.reduceSub, Nat.reduceLeDiff, Nat.reduceLT, Nat.reduceMul, Nat.reduceBEq, Int.reduceEq, Int.reduceLT, Int.reduceLE, Int.reduceNeg, Int.reduceToNat, reduceCtorEq, ho, Try.results38, List.length_map, Int.natCast_nonneg, hm, true_and, Int.toNat_natCast, Int.le_refl]
  refine ⟨fun m st => ∃ (done rest : List Ex), e.args = done ++ rest ∧ rest.length = m ∧ st.s 54 = .int .i64 done.length ∧ st.s 53 = .int .i64 e.args.length ∧ st.s 52 = .sl (e.args.map Ex.enc) ∧ st.s 5 = .ref 50 1 ∧ st.o 50 = (1, some (true, .row 42 ((done.map fun x => (x.eval row).enc) ++ List.replicate rest.length (PV.agg [PV.int IntKind.i64 0, PV.int IntKind.i64 0, PV.str ⟨#[]⟩])))) ∧ st.s 1 = .sl (row.map Vl.enc) ∧ st.s 2 = .ptr 2 1 0 ∧ st.s 4 = .ptr 4 1 0 ∧ getBox st.o 2 1 = some (49, e.enc.cells) ∧ st.o 4 = (1, some (true, .box 42 [.int .i64 0, .int .i64 0, .str ⟨#[]⟩])), e.args.length,
    ⟨[], e.args, rfl, rfl, by simp only [go_sem, Nat.reduceEqDiff, Nat.reduceAdd, Nat.reduceSub, Nat.reduceLeDiff, Nat.reduceLT, Nat.reduceMul, Nat.reduceBEq, Int.reduceEq, Int.reduceLT, Int.reduceLE, Int.reduceNeg, Int.reduceToNat, reduceCtorEq, ho, Try.results38]; rfl, by simp only [go_sem, Nat.reduceEqDiff, Nat.reduceAdd, Nat.reduceSub, Nat.reduceLeDiff, Nat.reduceLT, Nat.reduceMul, Nat.reduceBEq, Int.reduceEq, Int.reduceLT, Int.reduceLE, Int.reduceNeg, Int.reduceToNat, reduceCtorEq, ho, Try.results38], by simp only [go_sem, Nat.reduceEqDiff, Nat.reduceAdd, Nat.reduceSub, Nat.reduceLeDiff, Nat.reduceLT, Nat.reduceMul, Nat.reduceBEq, Int.reduceEq, Int.reduceLT, Int.reduceLE, Int.reduceNeg, Int.reduceToNat, reduceCtorEq, ho, Try.results38], by simp only [go_sem, Nat.reduceEqDiff, Nat.reduceAdd, Nat.reduceSub, Nat.reduceLeDiff, Nat.reduceLT, Nat.reduceMul, Nat.reduceBEq, Int.reduceEq, Int.reduceLT, Int.reduceLE, Int.reduceNeg, Int.reduceToNat, reduceCtorEq, ho, Try.results38], by simp only [go_sem, Nat.reduceEqDiff, Nat.reduceAdd, Nat.reduceSub, Nat.reduceLeDiff, Nat.reduceLT, Nat.reduceMul, Nat.reduceBEq, Int.reduceEq, Int.reduceLT, Int.reduceLE, Int.reduceNeg, Int.reduceToNat, reduceCtorEq, ho, Try.results38, List.map_nil, List.nil_append], by simp only [go_sem, Nat.reduceEqDiff, Nat.reduceAdd, Nat.reduceSub, Nat.reduceLeDiff, Nat.reduceLT, Nat.reduceMul, Nat.reduceBEq, Int.reduceEq, Int.reduceLT, Int.reduceLE, Int.reduceNeg, Int.reduceToNat, reduceCtorEq, ho, Try.results38], by simp only [go_sem, Nat.reduceEqDiff, Nat.reduceAdd, Nat.reduceSub, Nat.reduceLeDiff, Nat.reduceLT, Nat.reduceMul, Nat.reduceBEq, Int.reduceEq, Int.reduceLT, Int.reduceLE, Int.reduceNeg, Int.reduceToNat, reduceCtorEq, ho, Try.results38], by simp only [go_sem, Nat.reduceEqDiff, Nat.reduceAdd, Nat.reduceSub, Nat.reduceLeDiff, Nat.reduceLT, Nat.reduceMul, Nat.reduceBEq, Int.reduceEq, Int.reduceLT, Int.reduceLE, Int.reduceNeg, Int.reduceToNat, reduceCtorEq, ho, Try.results38], by simp only [go_sem, Nat.reduceEqDiff, Nat.reduceAdd, Nat.reduceSub, Nat.reduceLeDiff, Nat.reduceLT, Nat.reduceMul, Nat.reduceBEq, Int.reduceEq, Int.reduceLT, Int.reduceLE, Int.reduceNeg, Int.reduceToNat, reduceCtorEq, ho, Try.results38, hop], by simp only [go_sem, Nat.reduceEqDiff, Nat.reduceAdd, Nat.reduceSub, Nat.reduceLeDiff, Nat.reduceLT, Nat.reduceMul, Nat.reduceBEq, Int.reduceEq, Int.reduceLT, Int.reduceLE, Int.reduceNeg, Int.reduceToNat, reduceCtorEq, ho, Try.results38]⟩, ?_⟩
  rintro m st ⟨done, rest, hl', hm', h54, h53, h52, h5, h50, hs1, hs2, hs4, hb2, hb4⟩
  have hlen2 : done.length + rest.length = e.args.length := by rw [hl']; simp
  have hw : IntKind.i64.wrap ((done.length : Int) + 1) = (done.length : Int) + 1 := wrap_fits (by omega) (by omega)
  cases rest with
  | nil =>
    have hlt : ¬ (done.length : Int) < (e.args.length : Int) := by simp at hlen2; omega
    obtain hdone : e.args = done := by simpa using hl'
    simp only [List.length_nil, List.replicate, List.append_nil] at h50
    have hrw : (done.map fun x => (x.eval row).enc) = l.map Vl.enc := by rw [hleq, hdone]; simp
    rw [hrw] at h50
    have hrow : getRow st.o 50 1 = some (42, l.map Vl.enc) := by simp [getRow, h50]
    have hvv : ∀ v ∈ l, v.valid = true := fun v hv => by rw [hleq] at hv; obtain ⟨x, _, rfl⟩ := List.mem_map.1 hv; exact Ex.eval_valid row x
    have hg0 := nth_get hpos
    have hl0 : (0 : Int) < (l.length : Int) := by omega
    have h2l : 1 < l.length := by
      have : (e.args.length : Int) = 2 := by simpa [fitsN] using hfit
      omega
    have hg1 := nth_get h2l
    have hl1 : (1 : Int) < (l.length : Int) := by omega
    clear hleq hrw
    simp only [go_sem, Nat.reduceEqDiff, Nat.reduceAdd, Nat.reduceSub, Nat.reduceLeDiff, Nat.reduceLT, Nat.reduceMul, Nat.reduceBEq, Int.reduceEq, Int.reduceLT, Int.reduceLE, Int.reduceNeg, Int.reduceToNat, reduceCtorEq, ho, Try.results38, h54, h53, hlt, hop, h5, hs2, hs4, hb2, hb4, hrow, hg0, hl0, hg1, hl1, Vl.enc]
    refine QCall.fr ?_ (compared_fn 11 (nth l 0) (nth l 1)) (.inl rfl) ?_; (focus (first | rfl | ((simp only [go_sem, Nat.reduceEqDiff, Nat.reduceAdd, Nat.reduceSub, Nat.reduceLeDiff, Nat.reduceLT, Nat.reduceMul, Nat.reduceBEq, Int.reduceEq, Int.reduceLT, Int.reduceLE, Int.reduceNeg, Int.reduceToNat, reduceCtorEq, ho, Try.results38, Vl.enc]); done) | ((simp only [go_sem, Nat.reduceEqDiff, Nat.reduceAdd, Nat.reduceSub, Nat.reduceLeDiff, Nat.reduceLT, Nat.reduceMul, Nat.reduceBEq, Int.reduceEq, Int.reduceLT, Int.reduceLE, Int.reduceNeg, Int.reduceToNat, reduceCtorEq, ho, Try.results38, Vl.enc]); rfl)))
    simp only [go_sem, Nat.reduceEqDiff, Nat.reduceAdd, Nat.reduceSub, Nat.reduceLeDiff, Nat.reduceLT, Nat.reduceMul, Nat.reduceBEq, Int.reduceEq, Int.reduceLT, Int.reduceLE, Int.reduceNeg, Int.reduceToNat, reduceCtorEq, ho, Try.results38]
    refine QCall.fr ?_ (of_fn (Vl.compared 11 (nth l 0) (nth l 1))) (.inl rfl) ?_; (focus (first | rfl | ((simp only [go_sem, Nat.reduceEqDiff, Nat.reduceAdd, Nat.reduceSub, Nat.reduceLeDiff, Nat.reduceLT, Nat.reduceMul, Nat.reduceBEq, Int.reduceEq, Int.reduceLT, Int.reduceLE, Int.reduceNeg, Int.reduceToNat, reduceCtorEq, ho, Try.results38]); done) | ((simp only [go_sem, Nat.reduceEqDiff, Nat.reduceAdd, Nat.reduceSub, Nat.reduceLeDiff, Nat.reduceLT, Nat.reduceMul, Nat.reduceBEq, Int.reduceEq, Int.reduceLT, Int.reduceLE, Int.reduceNeg, Int.reduceToNat, reduceCtorEq, ho, Try.results38]); rfl)))
    simp only [go_sem, Nat.reduceEqDiff, Nat.reduceAdd, Nat.reduceSub, Nat.reduceLeDiff, Nat.reduceLT, Nat.reduceMul, Nat.reduceBEq, Int.reduceEq, Int.reduceLT, Int.reduceLE, Int.reduceNeg, Int.reduceToNat, reduceCtorEq, ho, Try.results38, Vl.enc, h5, hs2, hs4, hb2, hb4]
    rw [evo_11]; exact ⟨rfl, rfl, rfl⟩
  | cons x rest =>
    have hlt : (done.length : Int) < (e.args.length : Int) := by simp at hlen2; omega
    have hget : (e.args.map Ex.enc)[done.length]? = some x.enc := by simp [hl']
    have hxs : x.size ≤ n := by have := hsz; rw [hl', Ex.sizes_app] at this; simp [Ex.sizes] at this; omega
    have hx50 : getRow st.o 50 1 = some (42, (done.map fun x => (x.eval row).enc) ++ List.replicate (rest.length + 1) (PV.agg [PV.int IntKind.i64 0, PV.int IntKind.i64 0, PV.str ⟨#[]⟩])) := by rw [getRow, h50]; rfl
    have hxl : (done.length : Int) < (((done.map fun x => (x.eval row).enc) ++ List.replicate (rest.length + 1) (PV.agg [PV.int IntKind.i64 0, PV.int IntKind.i64 0, PV.str ⟨#[]⟩])).length : Nat) := by simp; omega
    have hx0 : ((done.map fun x => (x.eval row).enc) ++ List.replicate (rest.length + 1) (PV.agg [PV.int IntKind.i64 0, PV.int IntKind.i64 0, PV.str ⟨#[]⟩]))[done.length]? = some (PV.agg [PV.int IntKind.i64 0, PV.int IntKind.i64 0, PV.str ⟨#[]⟩]) := by simp
    rw [List.length_cons] at h50
    simp only [go_sem, Nat.reduceEqDiff, Nat.reduceAdd, Nat.reduceSub, Nat.reduceLeDiff, Nat.reduceLT, Nat.reduceMul, Nat.reduceBEq, Int.reduceEq, Int.reduceLT, Int.reduceLE, Int.reduceNeg, Int.reduceToNat, reduceCtorEq, ho, Try.results38, h54, h53, h52, hlt, hget, Int.natCast_nonneg, Int.toNat_natCast, h5, hs1, hs2, hs4, hb2, hb4, x.enc_eq]
    refine GCall.fr ?_ (IH x hxs) (.inl rfl) ?_; (focus (first | rfl | ((simp only [go_sem, Nat.reduceEqDiff, Nat.reduceAdd, Nat.reduceSub, Nat.reduceLeDiff, Nat.reduceLT, Nat.reduceMul, Nat.reduceBEq, Int.reduceEq, Int.reduceLT, Int.reduceLE, Int.reduceNeg, Int.reduceToNat, reduceCtorEq, ho, Try.results38, x.enc_eq, hs1]); done) | ((simp only [go_sem, Nat.reduceEqDiff, Nat.reduceAdd, Nat.reduceSub, Nat.reduceLeDiff, Nat.reduceLT, Nat.reduceMul, Nat.reduceBEq, Int.reduceEq, Int.reduceLT, Int.reduceLE, Int.reduceNeg, Int.reduceToNat, reduceCtorEq, ho, Try.results38, x.enc_eq, hs1]); rfl)))
    simp only [go_sem, Nat.reduceEqDiff, Nat.reduceAdd, Nat.reduceSub, Nat.reduceLeDiff, Nat.reduceLT, Nat.reduceMul, Nat.reduceBEq, Int.reduceEq, Int.reduceLT, Int.reduceLE, Int.reduceNeg, Int.reduceToNat, reduceCtorEq, ho, Try.results38, h54, h53, h52, h5, hx50, hxl, hx0, h50, Int.natCast_nonneg, Int.toNat_natCast, hs1, hs2, hs4, hb2, hb4, hw]
    refine ⟨rest.length, by simp at hm'; omega, done ++ [x], rest, by simp [hl'], rfl, by simp, ?_⟩
    simp [List.set_append, List.replicate_succ]
theorem evalc_12 (row : List Vl) (n : Nat) (hn : n + 1 ≤ 100000000) (IH : ∀ x : Ex, x.size ≤ n → Fc 38 [x.enc, .sl (row.map Vl.enc)] (x.eval row).enc) (e : Ex) (h : e.size ≤ n + 1) (hf : e.formed = true) (hop : e.op = 12) : Fc 38 [e.enc, .sl (row.map Vl.enc)] (e.eval row).enc := by
  obtain ⟨l, hleq⟩ : ∃ l, l = e.args.map (Ex.eval row) := ⟨_, rfl⟩
  have hev : e.eval row = evalOp row 12 e.int e.val (e.args.map (Ex.eval row)) := by rw [Ex.eval_eq, hf, hop]; rfl
  have hsz := e.size_eq
  have hlen := Ex.len_sizes e.args
  have hfit := formed_len hf
  rw [hop] at hfit
  rw [← hleq] at hev
  refine fn_of_awp (E := E0) (M := M0) follows Try.func38 rfl (by decide) ok38 (by decide) (by simp) fun o ho => ?_
  rw [hev]
  clear hev
  simp only [go_sem, Nat.reduceEqDiff, Nat.reduceAdd, Nat.reduceSub, Nat.reduceLeDiff, Nat.reduceLT, Nat.reduceMul, Nat.reduceBEq, Int.reduceEq, Int.reduceLT, Int.reduceLE, Int.reduceNeg, Int.reduceToNat, reduceCtorEq, ho, Try.results38, e.enc_eq]
  refine GCall.fr ?_ (formed_fn e) (.inl rfl) ?_; (focus (first | rfl | ((simp only [go_sem, Nat.reduceEqDiff, Nat.reduceAdd, Nat.reduceSub, Nat.reduceLeDiff, Nat.reduceLT, Nat.reduceMul, Nat.reduceBEq, Int.reduceEq, Int.reduceLT, Int.reduceLE, Int.reduceNeg, Int.reduceToNat, reduceCtorEq, ho, Try.results38, e.enc_eq]); done) | ((simp only [go_sem, Nat.reduceEqDiff, Nat.reduceAdd, Nat.reduceSub, Nat.reduceLeDiff, Nat.reduceLT, Nat.reduceMul, Nat.reduceBEq, Int.reduceEq, Int.reduceLT, Int.reduceLE, Int.reduceNeg, Int.reduceToNat, reduceCtorEq, ho, Try.results38, e.enc_eq]); rfl)))
  simp only [go_sem, Nat.reduceEqDiff, Nat.reduceAdd, Nat.reduceSub, Nat.reduceLeDiff, Nat.reduceLT, Nat.reduceMul, Nat.reduceBEq, Int.reduceEq, Int.reduceLT, Int.reduceLE, Int.reduceNeg, Int.reduceToNat, reduceCtorEq, ho, Try.results38, hf, hop]
  have hl100 : e.args.length ≤ 100000000 := by omega
  have hllen : l.length = e.args.length := by rw [hleq]; simp
  have hpos := fits_pos (op := 12) (l := l) (by rw [hllen]; exact hfit) (by decide) (by decide)
  have hm : (e.args.length : Int) * (((32 : Nat) : Int) + 1) ≤ 140737488355328 := by omega
  simp only [go_sem, Nat.reduceEqDiff, Nat.reduceAdd, Nat.reduceSub, Nat.reduceLeDiff, Nat.reduceLT, Nat.reduceMul, Nat.reduceBEq, Int.reduceEq, Int.reduceLT, Int.reduceLE, Int.reduceNeg, Int.reduceToNat, reduceCtorEq, ho, Try.results38, List.length_map, Int.natCast_nonneg, hm, true_and, Int.toNat_natCast, Int.le_refl]
  refine ⟨fun m st => ∃ (done rest : List Ex), e.args = done ++ rest ∧ rest.length = m ∧ st.s 54 = .int .i64 done.length ∧ st.s 53 = .int .i64 e.args.length ∧ st.s 52 = .sl (e.args.map Ex.enc) ∧ st.s 5 = .ref 50 1 ∧ st.o 50 = (1, some (true, .row 42 ((done.map fun x => (x.eval row).enc) ++ List.replicate rest.length (PV.agg [PV.int IntKind.i64 0, PV.int IntKind.i64 0, PV.str ⟨#[]⟩])))) ∧ st.s 1 = .sl (row.map Vl.enc) ∧ st.s 2 = .ptr 2 1 0 ∧ st.s 4 = .ptr 4 1 0 ∧ getBox st.o 2 1 = some (49, e.enc.cells) ∧ st.o 4 = (1, some (true, .box 42 [.int .i64 0, .int .i64 0, .str ⟨#[]⟩])), e.args.length,
    ⟨[], e.args, rfl, rfl, by simp only [go_sem, Nat.reduceEqDiff, Nat.reduceAdd, Nat.reduceSub, Nat.reduceLeDiff, Nat.reduceLT, Nat.reduceMul, Nat.reduceBEq, Int.reduceEq, Int.reduceLT, Int.reduceLE, Int.reduceNeg, Int.reduceToNat, reduceCtorEq, ho, Try.results38]; rfl, by simp only [go_sem, Nat.reduceEqDiff, Nat.reduceAdd, Nat.reduceSub, Nat.reduceLeDiff, Nat.reduceLT, Nat.reduceMul, Nat.reduceBEq, Int.reduceEq, Int.reduceLT, Int.reduceLE, Int.reduceNeg, Int.reduceToNat, reduceCtorEq, ho, Try.results38], by simp only [go_sem, Nat.reduceEqDiff, Nat.reduceAdd, Nat.reduceSub, Nat.reduceLeDiff, Nat.reduceLT, Nat.reduceMul, Nat.reduceBEq, Int.reduceEq, Int.reduceLT, Int.reduceLE, Int.reduceNeg, Int.reduceToNat, reduceCtorEq, ho, Try.results38], by simp only [go_sem, Nat.reduceEqDiff, Nat.reduceAdd, Nat.reduceSub, Nat.reduceLeDiff, Nat.reduceLT, Nat.reduceMul, Nat.reduceBEq, Int.reduceEq, Int.reduceLT, Int.reduceLE, Int.reduceNeg, Int.reduceToNat, reduceCtorEq, ho, Try.results38], by simp only [go_sem, Nat.reduceEqDiff, Nat.reduceAdd, Nat.reduceSub, Nat.reduceLeDiff, Nat.reduceLT, Nat.reduceMul, Nat.reduceBEq, Int.reduceEq, Int.reduceLT, Int.reduceLE, Int.reduceNeg, Int.reduceToNat, reduceCtorEq, ho, Try.results38, List.map_nil, List.nil_append], by simp only [go_sem, Nat.reduceEqDiff, Nat.reduceAdd, Nat.reduceSub, Nat.reduceLeDiff, Nat.reduceLT, Nat.reduceMul, Nat.reduceBEq, Int.reduceEq, Int.reduceLT, Int.reduceLE, Int.reduceNeg, Int.reduceToNat, reduceCtorEq, ho, Try.results38], by simp only [go_sem, Nat.reduceEqDiff, Nat.reduceAdd, Nat.reduceSub, Nat.reduceLeDiff, Nat.reduceLT, Nat.reduceMul, Nat.reduceBEq, Int.reduceEq, Int.reduceLT, Int.reduceLE, Int.reduceNeg, Int.reduceToNat, reduceCtorEq, ho, Try.results38], by simp only [go_sem, Nat.reduceEqDiff, Nat.reduceAdd, Nat.reduceSub, Nat.reduceLeDiff, Nat.reduceLT, Nat.reduceMul, Nat.reduceBEq, Int.reduceEq, Int.reduceLT, Int.reduceLE, Int.reduceNeg, Int.reduceToNat, reduceCtorEq, ho, Try.results38], by simp only [go_sem, Nat.reduceEqDiff, Nat.reduceAdd, Nat.reduceSub, Nat.reduceLeDiff, Nat.reduceLT, Nat.reduceMul, Nat.reduceBEq, Int.reduceEq, Int.reduceLT, Int.reduceLE, Int.reduceNeg, Int.reduceToNat, reduceCtorEq, ho, Try.results38, hop], by simp only [go_sem, Nat.reduceEqDiff, Nat.reduceAdd, Nat.reduceSub, Nat.reduceLeDiff, Nat.reduceLT, Nat.reduceMul, Nat.reduceBEq, Int.reduceEq, Int.reduceLT, Int.reduceLE, Int.reduceNeg, Int.reduceToNat, reduceCtorEq, ho, Try.results38]⟩, ?_⟩
  rintro m st ⟨done, rest, hl', hm', h54, h53, h52, h5, h50, hs1, hs2, hs4, hb2, hb4⟩
  have hlen2 : done.length + rest.length = e.args.length := by rw [hl']; simp
  have hw : IntKind.i64.wrap ((done.length : Int) + 1) = (done.length : Int) + 1 := wrap_fits (by omega) (by omega)
  cases rest with
  | nil =>
    have hlt : ¬ (done.length : Int) < (e.args.length : Int) := by simp at hlen2; omega
    obtain hdone : e.args = done := by simpa using hl'
    simp only [List.length_nil, List.replicate, List.append_nil] at h50
    have hrw : (done.map fun x => (x.eval row).enc) = l.map Vl.enc := by rw [hleq, hdone]; simp
    rw [hrw] at h50
    have hrow : getRow st.o 50 1 = some (42, l.map Vl.enc) := by simp [getRow, h50]
    have hvv : ∀ v ∈ l, v.valid = true := fun v hv => by rw [hleq] at hv; obtain ⟨x, _, rfl⟩ := List.mem_map.1 hv; exact Ex.eval_valid row x
    have hg0 := nth_get hpos
    have hl0 : (0 : Int) < (l.length : Int) := by omega
    have h2l : 1 < l.length := by
      have : (e.args.length : Int) = 2 := by simpa [fitsN] using hfit
      omega
    have hg1 := nth_get h2l
    have hl1 : (1 : Int) < (l.length : Int) := by omega
    clear hleq hrw
    simp only [go_sem, Nat.reduceEqDiff, Nat.reduceAdd, Nat.reduceSub, Nat.reduceLeDiff, Nat.reduceLT, Nat.reduceMul, Nat.reduceBEq, Int.reduceEq, Int.reduceLT, Int.reduceLE, Int.reduceNeg, Int.reduceToNat, reduceCtorEq, ho, Try.results38, h54, h53, hlt, hop, h5, hs2, hs4, hb2, hb4, hrow, hg0, hl0, hg1, hl1, Vl.enc]
    refine QCall.fr ?_ (compared_fn 12 (nth l 0) (nth l 1)) (.inl rfl) ?_; (focus (first | rfl | ((simp only [go_sem, Nat.reduceEqDiff, Nat.reduceAdd, Nat.reduceSub, Nat.reduceLeDiff, Nat.reduceLT, Nat.reduceMul, Nat.reduceBEq, Int.reduceEq, Int.reduceLT, Int.reduceLE, Int.reduceNeg, Int.reduceToNat, reduceCtorEq, ho, Try.results38, Vl.enc]); done) | ((simp only [go_sem, Nat.reduceEqDiff, Nat.reduceAdd, Nat.reduceSub, Nat.reduceLeDiff, Nat.reduceLT, Nat.reduceMul, Nat.reduceBEq, Int.reduceEq, Int.reduceLT, Int.reduceLE, Int.reduceNeg, Int.reduceToNat, reduceCtorEq, ho, Try.results38, Vl.enc]); rfl)))
    simp only [go_sem, Nat.reduceEqDiff, Nat.reduceAdd, Nat.reduceSub, Nat.reduceLeDiff, Nat.reduceLT, Nat.reduceMul, Nat.reduceBEq, Int.reduceEq, Int.reduceLT, Int.reduceLE, Int.reduceNeg, Int.reduceToNat, reduceCtorEq, ho, Try.results38]
    refine QCall.fr ?_ (of_fn (Vl.compared 12 (nth l 0) (nth l 1))) (.inl rfl) ?_; (focus (first | rfl | ((simp only [go_sem, Nat.reduceEqDiff, Nat.reduceAdd, Nat.reduceSub, Nat.reduceLeDiff, Nat.reduceLT, Nat.reduceMul, Nat.reduceBEq, Int.reduceEq, Int.reduceLT, Int.reduceLE, Int.reduceNeg, Int.reduceToNat, reduceCtorEq, ho, Try.results38]); done) | ((simp only [go_sem, Nat.reduceEqDiff, Nat.reduceAdd, Nat.reduceSub, Nat.reduceLeDiff, Nat.reduceLT, Nat.reduceMul, Nat.reduceBEq, Int.reduceEq, Int.reduceLT, Int.reduceLE, Int.reduceNeg, Int.reduceToNat, reduceCtorEq, ho, Try.results38]); rfl)))
    simp only [go_sem, Nat.reduceEqDiff, Nat.reduceAdd, Nat.reduceSub, Nat.reduceLeDiff, Nat.reduceLT, Nat.reduceMul, Nat.reduceBEq, Int.reduceEq, Int.reduceLT, Int.reduceLE, Int.reduceNeg, Int.reduceToNat, reduceCtorEq, ho, Try.results38, Vl.enc, h5, hs2, hs4, hb2, hb4]
    rw [evo_12]; exact ⟨rfl, rfl, rfl⟩
  | cons x rest =>
    have hlt : (done.length : Int) < (e.args.length : Int) := by simp at hlen2; omega
    have hget : (e.args.map Ex.enc)[done.length]? = some x.enc := by simp [hl']
    have hxs : x.size ≤ n := by have := hsz; rw [hl', Ex.sizes_app] at this; simp [Ex.sizes] at this; omega
    have hx50 : getRow st.o 50 1 = some (42, (done.map fun x => (x.eval row).enc) ++ List.replicate (rest.length + 1) (PV.agg [PV.int IntKind.i64 0, PV.int IntKind.i64 0, PV.str ⟨#[]⟩])) := by rw [getRow, h50]; rfl
    have hxl : (done.length : Int) < (((done.map fun x => (x.eval row).enc) ++ List.replicate (rest.length + 1) (PV.agg [PV.int IntKind.i64 0, PV.int IntKind.i64 0, PV.str ⟨#[]⟩])).length : Nat) := by simp; omega
    have hx0 : ((done.map fun x => (x.eval row).enc) ++ List.replicate (rest.length + 1) (PV.agg [PV.int IntKind.i64 0, PV.int IntKind.i64 0, PV.str ⟨#[]⟩]))[done.length]? = some (PV.agg [PV.int IntKind.i64 0, PV.int IntKind.i64 0, PV.str ⟨#[]⟩]) := by simp
    rw [List.length_cons] at h50
    simp only [go_sem, Nat.reduceEqDiff, Nat.reduceAdd, Nat.reduceSub, Nat.reduceLeDiff, Nat.reduceLT, Nat.reduceMul, Nat.reduceBEq, Int.reduceEq, Int.reduceLT, Int.reduceLE, Int.reduceNeg, Int.reduceToNat, reduceCtorEq, ho, Try.results38, h54, h53, h52, hlt, hget, Int.natCast_nonneg, Int.toNat_natCast, h5, hs1, hs2, hs4, hb2, hb4, x.enc_eq]
    refine GCall.fr ?_ (IH x hxs) (.inl rfl) ?_; (focus (first | rfl | ((simp only [go_sem, Nat.reduceEqDiff, Nat.reduceAdd, Nat.reduceSub, Nat.reduceLeDiff, Nat.reduceLT, Nat.reduceMul, Nat.reduceBEq, Int.reduceEq, Int.reduceLT, Int.reduceLE, Int.reduceNeg, Int.reduceToNat, reduceCtorEq, ho, Try.results38, x.enc_eq, hs1]); done) | ((simp only [go_sem, Nat.reduceEqDiff, Nat.reduceAdd, Nat.reduceSub, Nat.reduceLeDiff, Nat.reduceLT, Nat.reduceMul, Nat.reduceBEq, Int.reduceEq, Int.reduceLT, Int.reduceLE, Int.reduceNeg, Int.reduceToNat, reduceCtorEq, ho, Try.results38, x.enc_eq, hs1]); rfl)))
    simp only [go_sem, Nat.reduceEqDiff, Nat.reduceAdd, Nat.reduceSub, Nat.reduceLeDiff, Nat.reduceLT, Nat.reduceMul, Nat.reduceBEq, Int.reduceEq, Int.reduceLT, Int.reduceLE, Int.reduceNeg, Int.reduceToNat, reduceCtorEq, ho, Try.results38, h54, h53, h52, h5, hx50, hxl, hx0, h50, Int.natCast_nonneg, Int.toNat_natCast, hs1, hs2, hs4, hb2, hb4, hw]
    refine ⟨rest.length, by simp at hm'; omega, done ++ [x], rest, by simp [hl'], rfl, by simp, ?_⟩
    simp [List.set_append, List.replicate_succ]
end Go.Proofs.Ytiefnninebilbaa
/- What the evaluation of an expression returns, any expression; no condition. -/
set_option maxRecDepth 100000
set_option linter.unusedVariables false
set_option linter.unusedSimpArgs false
namespace Go.Proofs.Ytiefnninebilbaa
open Go Go.Sx

theorem known_op {e : Ex} (hf : e.formed = true) : e.op = 1 ∨ e.op = 2 ∨ e.op = 22 ∨ e.op = 4 ∨ e.op = 5 ∨ e.op = 6 ∨ e.op = 21 ∨ e.op = 23 ∨ e.op = 24 ∨ e.op = 19 ∨ e.op = 20 ∨ e.op = 13 ∨ e.op = 14 ∨ e.op = 15 ∨ e.op = 16 ∨ e.op = 17 ∨ e.op = 18 ∨ e.op = 7 ∨ e.op = 8 ∨ e.op = 9 ∨ e.op = 10 ∨ e.op = 11 ∨ e.op = 12 := by
  have h := formed_len hf
  unfold fitsN at h
  repeat' split at h
  all_goals first | omega | simp at h
theorem eval_step (row : List Vl) (n : Nat) (hn : n + 1 ≤ 100000000) (IH : ∀ x : Ex, x.size ≤ n → Fc 38 [x.enc, .sl (row.map Vl.enc)] (x.eval row).enc) (e : Ex) (h : e.size ≤ n + 1) : Fc 38 [e.enc, .sl (row.map Vl.enc)] (e.eval row).enc := by
  cases hf : e.formed with
  | false => exact evalc_f row e hf
  | true =>
    rcases known_op hf with ho | ho | ho | ho | ho | ho | ho | ho | ho | ho | ho | ho | ho | ho | ho | ho | ho | ho | ho | ho | ho | ho | ho
    · exact evalc_1 row n hn IH e h hf ho
    · exact evalc_2 row n hn IH e h hf ho
    · exact evalc_22 row n hn IH e h hf ho
    · exact evalc_4 row n hn IH e h hf ho
    · exact evalc_5 row n hn IH e h hf ho
    · exact evalc_6 row n hn IH e h hf ho
    · exact evalc_21 row n hn IH e h hf ho
    · exact evalc_23 row n hn IH e h hf ho
    · exact evalc_24 row n hn IH e h hf ho
    · exact evalc_19 row n hn IH e h hf ho
    · exact evalc_20 row n hn IH e h hf ho
    · exact evalc_13 row n hn IH e h hf ho
    · exact evalc_14 row n hn IH e h hf ho
    · exact evalc_15 row n hn IH e h hf ho
    · exact evalc_16 row n hn IH e h hf ho
    · exact evalc_17 row n hn IH e h hf ho
    · exact evalc_18 row n hn IH e h hf ho
    · exact evalc_7 row n hn IH e h hf ho
    · exact evalc_8 row n hn IH e h hf ho
    · exact evalc_9 row n hn IH e h hf ho
    · exact evalc_10 row n hn IH e h hf ho
    · exact evalc_11 row n hn IH e h hf ho
    · exact evalc_12 row n hn IH e h hf ho
theorem eval_fn (row : List Vl) : ∀ (n : Nat), n ≤ 100000000 → ∀ e : Ex, e.size ≤ n → Fc 38 [e.enc, .sl (row.map Vl.enc)] (e.eval row).enc
  | 0, _, e, h => by have := e.size_pos; omega
  | n + 1, hn, e, h => eval_step row n hn (eval_fn row n (by omega)) e h
end Go.Proofs.Ytiefnninebilbaa
