/- What the evaluation of an expression returns, operator by operator; no condition. -/
import Derived.Test.YtiefnninebilbaaMph
import Derived.Test.YtiefnninebilbaaMpg
set_option maxRecDepth 100000
set_option linter.unusedVariables false
set_option linter.unusedSimpArgs false
namespace Go.Proofs.Ytiefnninebilbaa
open Go Go.Sx

theorem evalc_17 (row : List Vl) (n : Nat) (hn : n + 1 ≤ 100000000) (IH : ∀ x : Ex, x.size ≤ n → Fc 38 [x.enc, .sl (row.map Vl.enc)] (x.eval row).enc) (e : Ex) (h : e.size ≤ n + 1) (hf : e.formed = true) (hop : e.op = 17) : Fc 38 [e.enc, .sl (row.map Vl.enc)] (e.eval row).enc := by
  obtain ⟨l, hleq⟩ : ∃ l, l = e.args.map (Ex.eval row) := ⟨_, rfl⟩
  have hev : e.eval row = evalOp row 17 e.int e.val (e.args.map (Ex.eval row)) := by rw [Ex.eval_eq, hf, hop]; rfl
  have hsz := e.size_eq
  have hlen := Ex.len_sizes e.args
  have hfit := formed_len hf
  rw [hop] at hfit
  rw [← hleq] at hev
  refine fn_of_awp (E := E0) (M := M0) follows Try.func38 rfl (by decide) ok38 (by decide) (by simp) fun o ho => ?_
  rw [hev]
  clear hev
  simp only [go_sem, Nat.reduceEqDiff, Nat.reduceAdd, Nat.reduceSub, Nat.reduceLeDiff, Nat.reduceLT, Nat.reduceMul, Nat.reduceBEq, Int.reduceEq, Int.reduceLT, Int.reduceLE, Int.reduceNeg, Int.reduceToNat, reduceCtorEq, ho, Try.results38, e.enc_eq]
  refine GCall.fr ?_ (formed_fn e) (.inl rfl) ?_; (focus (first | rfl | ((simp only [go_sem, Nat.reduceEqDiff, Nat.reduceAdd, Nat.reduceSub, Nat.reduceLeDiff, Nat.reduceLT, Nat.reduceMul, Nat.reduceBEq, Int.reduceEq, Int.reduceLT, Int.reduceLE, Int.reduceNeg, Int.reduceToNat, reduceCtorEq, ho, Try.results38, e.enc_eq]); done) | ((simp only [go_sem, Nat.reduceEqDiff, Nat.reduceAdd, Nat.reduceSub, Nat.reduceLeDiff, Nat.reduceLT, Nat.reduceMul, Nat.reduceBEq, Int.reduceEq, Int.reduceLT, Int.reduceLE, Int.reduceNeg, Int.reduceToNat, reduceCtorEq, ho, Try.results38, e.enc_eq]); rfl)))
  simp only [go_sem, Nat.reduceEqDiff, Nat.reduceAdd, Nat.reduceSub, Nat.reduceLeDiff, Nat.reduceLT, Nat.reduceMul, Nat.reduceBEq, Int.reduceEq, Int.reduceLT, Int.reduceLE, Int.reduceNeg, Int.reduceToNat, reduceCtorEq, ho, Try.results38, hf, hop]
  have hl100 : e.args.length ≤ 100000000 := by omega
  have hllen : l.length = e.args.length := by rw [hleq]; simp
  have hpos := fits_pos (op := 17) (l := l) (by rw [hllen]; exact hfit) (by decide) (by decide)
  have hm : (e.args.length : Int) * (((32 : Nat) : Int) + 1) ≤ 140737488355328 := by omega
  simp only [go_sem, Nat.reduceEqDiff, Nat.reduceAdd, Nat.reduceSub, Nat.reduceLeDiff, Nat.reduceLT, Nat.reduceMul, Nat.reduceBEq, Int.reduceEq, Int.reduceLT, Int.reduceLE, Int.reduceNeg, Int.reduceToNat, reduceCtorEq, ho, Try.results38, List.length_map, Int.natCast_nonneg, hm, true_and, Int.toNat_natCast, Int.le_refl]
  refine ⟨fun m st => ∃ (done rest : List Ex), e.args = done ++ rest ∧ rest.length = m ∧ st.s 54 = .int .i64 done.length ∧ st.s 53 = .int .i64 e.args.length ∧ st.s 52 = .sl (e.args.map Ex.enc) ∧ st.s 5 = .ref 50 1 ∧ st.o 50 = (1, some (true, .row 42 ((done.map fun x => (x.eval row).enc) ++ List.replicate rest.length (PV.agg [PV.int IntKind.i64 0, PV.int IntKind.i64 0, PV.str ⟨#[]⟩])))) ∧ st.s 1 = .sl (row.map Vl.enc) ∧ st.s 2 = .ptr 2 1 0 ∧ st.s 4 = .ptr 4 1 0 ∧ getBox st.o 2 1 = some (49, e.enc.cells) ∧ st.o 4 = (1, some (true, .box 42 [.int .i64 0, .int .i64 0, .str ⟨#[]⟩])), e.args.length,
    ⟨[], e.args, rfl, rfl, by simp only [go_sem, Nat.reduceEqDiff, Nat.reduceAdd, Nat.reduceSub, Nat.reduceLeDiff, Nat.reduceLT, Nat.reduceMul, Nat.reduceBEq, Int.reduceEq, Int.reduceLT, Int.reduceLE, Int.reduceNeg, Int.reduceToNat, reduceCtorEq, ho, Try.results38]; rfl, by simp only [go_sem, Nat.reduceEqDiff, Nat.reduceAdd, Nat.reduceSub, Nat.reduceLeDiff, Nat.reduceLT, Nat.reduceMul, Nat.reduceBEq, Int.reduceEq, Int.reduceLT, Int.reduceLE, Int.reduceNeg, Int.reduceToNat, reduceCtorEq, ho, Try.results38], by simp only [go_sem, Nat.reduceEqDiff, Nat.reduceAdd, Nat.reduceSub, Nat.reduceLeDiff, Nat.reduceLT, Nat.reduceMul, Nat.reduceBEq, Int.reduceEq, Int.reduceLT, Int.reduceLE, Int.reduceNeg, Int.reduceToNat, reduceCtorEq, ho, Try.results38], by simp only [go_sem, Nat.reduceEqDiff, Nat.reduceAdd, Nat.reduceSub, Nat.reduceLeDiff, Nat.reduceLT, Nat.reduceMul, Nat.reduceBEq, Int.reduceEq, Int.reduceLT, Int.reduceLE, Int.reduceNeg, Int.reduceToNat, reduceCtorEq, ho, Try.results38], by simp only [go_sem, Nat.reduceEqDiff, Nat.reduceAdd, Nat.reduceSub, Nat.reduceLeDiff, Nat.reduceLT, Nat.reduceMul, Nat.reduceBEq, Int.reduceEq, Int.reduceLT, Int.reduceLE, Int.reduceNeg, Int.reduceToNat, reduceCtorEq, ho, Try.results38, List.map_nil, List.nil_append], by simp only [go_sem, Nat.reduceEqDiff, Nat.reduceAdd, Nat.reduceSub, Nat.reduceLeDiff, Nat.reduceLT, Nat.reduceMul, Nat.reduceBEq, Int.reduceEq, Int.reduceLT, Int.reduceLE, Int.reduceNeg, Int.reduceToNat, reduceCtorEq, ho, Try.results38], by simp only [go_sem, Nat.reduceEqDiff, Nat.reduceAdd, Nat.reduceSub, Nat.reduceLeDiff, Nat.reduceLT, Nat.reduceMul, Nat.reduceBEq, Int.reduceEq, Int.reduceLT, Int.reduceLE, Int.reduceNeg, Int.reduceToNat, reduceCtorEq, ho, Try.results38], by simp only [go_sem, Nat.reduceEqDiff, Nat.reduceAdd, Nat.reduceSub, Nat.reduceLeDiff, Nat.reduceLT, Nat.reduceMul, Nat.reduceBEq, Int.reduceEq, Int.reduceLT, Int.reduceLE, Int.reduceNeg, Int.reduceToNat, reduceCtorEq, ho, Try.results38], by simp only [go_sem, Nat.reduceEqDiff, Nat.reduceAdd, Nat.reduceSub, Nat.reduceLeDiff, Nat.reduceLT, Nat.reduceMul, Nat.reduceBEq, Int.reduceEq, Int.reduceLT, Int.reduceLE, Int.reduceNeg, Int.reduceToNat, reduceCtorEq, ho, Try.results38, hop], by simp only [go_sem, Nat.reduceEqDiff, Nat.reduceAdd, Nat.reduceSub, Nat.reduceLeDiff, Nat.reduceLT, Nat.reduceMul, Nat.reduceBEq, Int.reduceEq, Int.reduceLT, Int.reduceLE, Int.reduceNeg, Int.reduceToNat, reduceCtorEq, ho, Try.results38]⟩, ?_⟩
  rintro m st ⟨done, rest, hl', hm', h54, h53, h52, h5, h50, hs1, hs2, hs4, hb2, hb4⟩
  have hlen2 : done.length + rest.length = e.args.length := by rw [hl']; simp
  have hw : IntKind.i64.wrap ((done.length : Int) + 1) = (done.length : Int) + 1 := wrap_fits (by omega) (by omega)
  cases rest with
  | nil =>
    have hlt : ¬ (done.length : Int) < (e.args.length : Int) := by simp at hlen2; omega
    obtain hdone : e.args = done := by simpa using hl'
    simp only [List.length_nil, List.replicate, List.append_nil] at h50
    have hrw : (done.map fun x => (x.eval row).enc) = l.map Vl.enc := by rw [hleq, hdone]; simp
    rw [hrw] at h50
    have hrow : getRow st.o 50 1 = some (42, l.map Vl.enc) := by simp [getRow, h50]
    have hvv : ∀ v ∈ l, v.valid = true := fun v hv => by rw [hleq] at hv; obtain ⟨x, _, rfl⟩ := List.mem_map.1 hv; exact Ex.eval_valid row x
    have hg0 := nth_get hpos
    have hl0 : (0 : Int) < (l.length : Int) := by omega
    clear hleq hrw
    simp only [go_sem, Nat.reduceEqDiff, Nat.reduceAdd, Nat.reduceSub, Nat.reduceLeDiff, Nat.reduceLT, Nat.reduceMul, Nat.reduceBEq, Int.reduceEq, Int.reduceLT, Int.reduceLE, Int.reduceNeg, Int.reduceToNat, reduceCtorEq, ho, Try.results38, h54, h53, hlt, hop, h5, hs2, hs4, hb2, hb4]
    refine GCall.fr ?_ (arith_fn 17 l hvv (by omega) hpos) (.inl rfl) ?_; (focus (first | rfl | ((simp only [go_sem, Nat.reduceEqDiff, Nat.reduceAdd, Nat.reduceSub, Nat.reduceLeDiff, Nat.reduceLT, Nat.reduceMul, Nat.reduceBEq, Int.reduceEq, Int.reduceLT, Int.reduceLE, Int.reduceNeg, Int.reduceToNat, reduceCtorEq, ho, Try.results38, hop, hrow]); done) | ((simp only [go_sem, Nat.reduceEqDiff, Nat.reduceAdd, Nat.reduceSub, Nat.reduceLeDiff, Nat.reduceLT, Nat.reduceMul, Nat.reduceBEq, Int.reduceEq, Int.reduceLT, Int.reduceLE, Int.reduceNeg, Int.reduceToNat, reduceCtorEq, ho, Try.results38, hop, hrow]); rfl)))
    simp only [go_sem, Nat.reduceEqDiff, Nat.reduceAdd, Nat.reduceSub, Nat.reduceLeDiff, Nat.reduceLT, Nat.reduceMul, Nat.reduceBEq, Int.reduceEq, Int.reduceLT, Int.reduceLE, Int.reduceNeg, Int.reduceToNat, reduceCtorEq, ho, Try.results38, Vl.enc, h5, hs2, hs4, hb2, hb4]
    rw [evo_17]; exact ⟨rfl, rfl, rfl⟩
  | cons x rest =>
    have hlt : (done.length : Int) < (e.args.length : Int) := by simp at hlen2; omega
    have hget : (e.args.map Ex.enc)[done.length]? = some x.enc := by simp [hl']
    have hxs : x.size ≤ n := by have := hsz; rw [hl', Ex.sizes_app] at this; simp [Ex.sizes] at this; omega
    have hx50 : getRow st.o 50 1 = some (42, (done.map fun x => (x.eval row).enc) ++ List.replicate (rest.length + 1) (PV.agg [PV.int IntKind.i64 0, PV.int IntKind.i64 0, PV.str ⟨#[]⟩])) := by rw [getRow, h50]; rfl
    have hxl : (done.length : Int) < (((done.map fun x => (x.eval row).enc) ++ List.replicate (rest.length + 1) (PV.agg [PV.int IntKind.i64 0, PV.int IntKind.i64 0, PV.str ⟨#[]⟩])).length : Nat) := by simp; omega
    have hx0 : ((done.map fun x => (x.eval row).enc) ++ List.replicate (rest.length + 1) (PV.agg [PV.int IntKind.i64 0, PV.int IntKind.i64 0, PV.str ⟨#[]⟩]))[done.length]? = some (PV.agg [PV.int IntKind.i64 0, PV.int IntKind.i64 0, PV.str ⟨#[]⟩]) := by simp
    rw [List.length_cons] at h50
    simp only [go_sem, Nat.reduceEqDiff, Nat.reduceAdd, Nat.reduceSub, Nat.reduceLeDiff, Nat.reduceLT, Nat.reduceMul, Nat.reduceBEq, Int.reduceEq, Int.reduceLT, Int.reduceLE, Int.reduceNeg, Int.reduceToNat, reduceCtorEq, ho, Try.results38, h54, h53, h52, hlt, hget, Int.natCast_nonneg, Int.toNat_natCast, h5, hs1, hs2, hs4, hb2, hb4, x.enc_eq]
    refine GCall.fr ?_ (IH x hxs) (.inl rfl) ?_; (focus (first | rfl | ((simp only [go_sem, Nat.reduceEqDiff, Nat.reduceAdd, Nat.reduceSub, Nat.reduceLeDiff, Nat.reduceLT, Nat.reduceMul, Nat.reduceBEq, Int.reduceEq, Int.reduceLT, Int.reduceLE, Int.reduceNeg, Int.reduceToNat, reduceCtorEq, ho, Try.results38, x.enc_eq, hs1]); done) | ((simp only [go_sem, Nat.reduceEqDiff, Nat.reduceAdd, Nat.reduceSub, Nat.reduceLeDiff, Nat.reduceLT, Nat.reduceMul, Nat.reduceBEq, Int.reduceEq, Int.reduceLT, Int.reduceLE, Int.reduceNeg, Int.reduceToNat, reduceCtorEq, ho, Try.results38, x.enc_eq, hs1]); rfl)))
    simp only [go_sem, Nat.reduceEqDiff, Nat.reduceAdd, Nat.reduceSub, Nat.reduceLeDiff, Nat.reduceLT, Nat.reduceMul, Nat.reduceBEq, Int.reduceEq, Int.reduceLT, Int.reduceLE, Int.reduceNeg, Int.reduceToNat, reduceCtorEq, ho, Try.results38, h54, h53, h52, h5, hx50, hxl, hx0, h50, Int.natCast_nonneg, Int.toNat_natCast, hs1, hs2, hs4, hb2, hb4, hw]
    refine ⟨rest.length, by simp at hm'; omega, done ++ [x], rest, by simp [hl'], rfl, by simp, ?_⟩
    simp [List.set_append, List.replicate_succ]
theorem evalc_18 (row : List Vl) (n : Nat) (hn : n + 1 ≤ 100000000) (IH : ∀ x : Ex, x.size ≤ n → Fc 38 [x.enc, .sl (row.map Vl.enc)] (x.eval row).enc) (e : Ex) (h : e.size ≤ n + 1) (hf : e.formed = true) (hop : e.op = 18) : Fc 38 [e.enc, .sl (row.map Vl.enc)] (e.eval row).enc := by
  obtain ⟨l, hleq⟩ : ∃ l, l = e.args.map (Ex.eval row) := ⟨_, rfl⟩
  have hev : e.eval row = evalOp row 18 e.int e.val (e.args.map (Ex.eval row)) := by rw [Ex.eval_eq, hf, hop]; rfl
  have hsz := e.size_eq
  have hlen := Ex.len_sizes e.args
  have hfit := formed_len hf
  rw [hop] at hfit
  rw [← hleq] at hev
  refine fn_of_awp (E := E0) (M := M0) follows Try.func38 rfl (by decide) ok38 (by decide) (by simp) fun o ho => ?_
  rw [hev]
  clear hev
  simp only [go_sem, Nat.reduceEqDiff, Nat.reduceAdd, Nat.reduceSub, Nat.reduceLeDiff, Nat.reduceLT, Nat.reduceMul, Nat.reduceBEq, Int.reduceEq, Int.reduceLT, Int.reduceLE, Int.reduceNeg, Int.reduceToNat, reduceCtorEq, ho, Try.results38, e.enc_eq]
  refine GCall.fr ?_ (formed_fn e) (.inl rfl) ?_; (focus (first | rfl | ((simp only [go_sem, Nat.reduceEqDiff, Nat.reduceAdd, Nat.reduceSub, Nat.reduceLeDiff, Nat.reduceLT, Nat.reduceMul, Nat.reduceBEq, Int.reduceEq, Int.reduceLT, Int.reduceLE, Int.reduceNeg, Int.reduceToNat, reduceCtorEq, ho, Try.results38, e.enc_eq]); done) | ((simp only [go_sem, Nat.reduceEqDiff, Nat.reduceAdd, Nat.reduceSub, Nat.reduceLeDiff, Nat.reduceLT, Nat.reduceMul, Nat.reduceBEq, Int.reduceEq, Int.reduceLT, Int.reduceLE, Int.reduceNeg, Int.reduceToNat, reduceCtorEq, ho, Try.results38, e.enc_eq]); rfl)))
  simp only [go_sem, Nat.reduceEqDiff, Nat.reduceAdd, Nat.reduceSub, Nat.reduceLeDiff, Nat.reduceLT, Nat.reduceMul, Nat.reduceBEq, Int.reduceEq, Int.reduceLT, Int.reduceLE, Int.reduceNeg, Int.reduceToNat, reduceCtorEq, ho, Try.results38, hf, hop]
  have hl100 : e.args.length ≤ 100000000 := by omega
  have hllen : l.length = e.args.length := by rw [hleq]; simp
  have hpos := fits_pos (op := 18) (l := l) (by rw [hllen]; exact hfit) (by decide) (by decide)
  have hm : (e.args.length : Int) * (((32 : Nat) : Int) + 1) ≤ 140737488355328 := by omega
  simp only [go_sem, Nat.reduceEqDiff, Nat.reduceAdd, Nat.reduceSub, Nat.reduceLeDiff, Nat.reduceLT, Nat.reduceMul, Nat.reduceBEq, Int.reduceEq, Int.reduceLT, Int.reduceLE, Int.reduceNeg, Int.reduceToNat, reduceCtorEq, ho, Try.results38, List.length_map, Int.natCast_nonneg, hm, true_and, Int.toNat_natCast, Int.le_refl]
  refine ⟨fun m st => ∃ (done rest : List Ex), e.args = done ++ rest ∧ rest.length = m ∧ st.s 54 = .int .i64 done.length ∧ st.s 53 = .int .i64 e.args.length ∧ st.s 52 = .sl (e.args.map Ex.enc) ∧ st.s 5 = .ref 50 1 ∧ st.o 50 = (1, some (true, .row 42 ((done.map fun x => (x.eval row).enc) ++ List.replicate rest.length (PV.agg [PV.int IntKind.i64 0, PV.int IntKind.i64 0, PV.str ⟨#[]⟩])))) ∧ st.s 1 = .sl (row.map Vl.enc) ∧ st.s 2 = .ptr 2 1 0 ∧ st.s 4 = .ptr 4 1 0 ∧ getBox st.o 2 1 = some (49, e.enc.cells) ∧ st.o 4 = (1, some (true, .box 42 [.int .i64 0, .int .i64 0, .str ⟨#[]⟩])), e.args.length,
    ⟨[], e.args, rfl, rfl, by simp only [go_sem, Nat.reduceEqDiff, Nat.reduceAdd, Nat.reduceSub, Nat.reduceLeDiff, Nat.reduceLT, Nat.reduceMul, Nat.reduceBEq, Int.reduceEq, Int.reduceLT, Int.reduceLE, Int.reduceNeg, Int.reduceToNat, reduceCtorEq, ho, Try.results38]; rfl, by simp only [go_sem, Nat.reduceEqDiff, Nat.reduceAdd, Nat.reduceSub, Nat.reduceLeDiff, Nat.reduceLT, Nat.reduceMul, Nat.reduceBEq, Int.reduceEq, Int.reduceLT, Int.reduceLE, Int.reduceNeg, Int.reduceToNat, reduceCtorEq, ho, Try.results38], by simp only [go_sem, Nat.reduceEqDiff, Nat.reduceAdd, Nat.reduceSub, Nat.reduceLeDiff, Nat.reduceLT, Nat.reduceMul, Nat.reduceBEq, Int.reduceEq, Int.reduceLT, Int.reduceLE, Int.reduceNeg, Int.reduceToNat, reduceCtorEq, ho, Try.results38], by simp only [go_sem, Nat.reduceEqDiff, Nat.reduceAdd, Nat.reduceSub, Nat.reduceLeDiff, Nat.reduceLT, Nat.reduceMul, Nat.reduceBEq, Int.reduceEq, Int.reduceLT, Int.reduceLE, Int.reduceNeg, Int.reduceToNat, reduceCtorEq, ho, Try.results38], by simp only [go_sem, Nat.reduceEqDiff, Nat.reduceAdd, Nat.reduceSub, Nat.reduceLeDiff, Nat.reduceLT, Nat.reduceMul, Nat.reduceBEq, Int.reduceEq, Int.reduceLT, Int.reduceLE, Int.reduceNeg, Int.reduceToNat, reduceCtorEq, ho, Try.results38, List.map_nil, List.nil_append], by simp only [go_sem, Nat.reduceEqDiff, Nat.reduceAdd, Nat.reduceSub, Nat.reduceLeDiff, Nat.reduceLT, Nat.reduceMul, Nat.reduceBEq, Int.reduceEq, Int.reduceLT, Int.reduceLE, Int.reduceNeg, Int.reduceToNat, reduceCtorEq, ho, Try.results38], by simp only [go_sem, Nat.reduceEqDiff, Nat.reduceAdd, Nat.reduceSub, Nat.reduceLeDiff, Nat.reduceLT, Nat.reduceMul, Nat.reduceBEq, Int.reduceEq, Int.reduceLT, Int.reduceLE, Int.reduceNeg, Int.reduceToNat, reduceCtorEq, ho, Try.results38], by simp only [go_sem, Nat.reduceEqDiff, Nat.reduceAdd, Nat.reduceSub, Nat.reduceLeDiff, Nat.reduceLT, Nat.reduceMul, Nat.reduceBEq, Int.reduceEq, Int.reduceLT, Int.reduceLE, Int.reduceNeg, Int.reduceToNat, reduceCtorEq, ho, Try.results38], by simp only [go_sem, Nat.reduceEqDiff, Nat.reduceAdd, Nat.reduceSub, Nat.reduceLeDiff, Nat.reduceLT, Nat.reduceMul, Nat.reduceBEq, Int.reduceEq, Int.reduceLT, Int.reduceLE, Int.reduceNeg, Int.reduceToNat, reduceCtorEq, ho, Try.results38, hop], by simp only [go_sem, Nat.reduceEqDiff, Nat.reduceAdd, Nat.reduceSub, Nat.reduceLeDiff, Nat.reduceLT, Nat.reduceMul, Nat.reduceBEq, Int.reduceEq, Int.reduceLT, Int.reduceLE, Int.reduceNeg, Int.reduceToNat, reduceCtorEq, ho, Try.results38]⟩, ?_⟩
  rintro m st ⟨done, rest, hl', hm', h54, h53, h52, h5, h50, hs1, hs2, hs4, hb2, hb4⟩
  have hlen2 : done.length + rest.length = e.args.length := by rw [hl']; simp
  have hw : IntKind.i64.wrap ((done.length : Int) + 1) = (done.length : Int) + 1 := wrap_fits (by omega) (by omega)
  cases rest with
  | nil =>
    have hlt : ¬ (done.length : Int) < (e.args.length : Int) := by simp at hlen2; omega
    obtain hdone : e.args = done := by simpa using hl'
    simp only [List.length_nil, List.replicate, List.append_nil] at h50
    have hrw : (done.map fun x => (x.eval row).enc) = l.map Vl.enc := by rw [hleq, hdone]; simp
    rw [hrw] at h50
    have hrow : getRow st.o 50 1 = some (42, l.map Vl.enc) := by simp [getRow, h50]
    have hvv : ∀ v ∈ l, v.valid = true := fun v hv => by rw [hleq] at hv; obtain ⟨x, _, rfl⟩ := List.mem_map.1 hv; exact Ex.eval_valid row x
    have hg0 := nth_get hpos
    have hl0 : (0 : Int) < (l.length : Int) := by omega
    clear hleq hrw
    simp only [go_sem, Nat.reduceEqDiff, Nat.reduceAdd, Nat.reduceSub, Nat.reduceLeDiff, Nat.reduceLT, Nat.reduceMul, Nat.reduceBEq, Int.reduceEq, Int.reduceLT, Int.reduceLE, Int.reduceNeg, Int.reduceToNat, reduceCtorEq, ho, Try.results38, h54, h53, hlt, hop, h5, hs2, hs4, hb2, hb4]
    refine GCall.fr ?_ (arith_fn 18 l hvv (by omega) hpos) (.inl rfl) ?_; (focus (first | rfl | ((simp only [go_sem, Nat.reduceEqDiff, Nat.reduceAdd, Nat.reduceSub, Nat.reduceLeDiff, Nat.reduceLT, Nat.reduceMul, Nat.reduceBEq, Int.reduceEq, Int.reduceLT, Int.reduceLE, Int.reduceNeg, Int.reduceToNat, reduceCtorEq, ho, Try.results38, hop, hrow]); done) | ((simp only [go_sem, Nat.reduceEqDiff, Nat.reduceAdd, Nat.reduceSub, Nat.reduceLeDiff, Nat.reduceLT, Nat.reduceMul, Nat.reduceBEq, Int.reduceEq, Int.reduceLT, Int.reduceLE, Int.reduceNeg, Int.reduceToNat, reduceCtorEq, ho, Try.results38, hop, hrow]); rfl)))
    simp only [go_sem, Nat.reduceEqDiff, Nat.reduceAdd, Nat.reduceSub, Nat.reduceLeDiff, Nat.reduceLT, Nat.reduceMul, Nat.reduceBEq, Int.reduceEq, Int.reduceLT, Int.reduceLE, Int.reduceNeg, Int.reduceToNat, reduceCtorEq, ho, Try.results38, Vl.enc, h5, hs2, hs4, hb2, hb4]
    rw [evo_18]; exact ⟨rfl, rfl, rfl⟩
  | cons x rest =>
    have hlt : (done.length : Int) < (e.args.length : Int) := by simp at hlen2; omega
    have hget : (e.args.map Ex.enc)[done.length]? = some x.enc := by simp [hl']
    have hxs : x.size ≤ n := by have := hsz; rw [hl', Ex.sizes_app] at this; simp [Ex.sizes] at this; omega
    have hx50 : getRow st.o 50 1 = some (42, (done.map fun x => (x.eval row).enc) ++ List.replicate (rest.length + 1) (PV.agg [PV.int IntKind.i64 0, PV.int IntKind.i64 0, PV.str ⟨#[]⟩])) := by rw [getRow, h50]; rfl
    have hxl : (done.length : Int) < (((done.map fun x => (x.eval row).enc) ++ List.replicate (rest.length + 1) (PV.agg [PV.int IntKind.i64 0, PV.int IntKind.i64 0, PV.str ⟨#[]⟩])).length : Nat) := by simp; omega
    have hx0 : ((done.map fun x => (x.eval row).enc) ++ List.replicate (rest.length + 1) (PV.agg [PV.int IntKind.i64 0, PV.int IntKind.i64 0, PV.str ⟨#[]⟩]))[done.length]? = some (PV.agg [PV.int IntKind.i64 0, PV.int IntKind.i64 0, PV.str ⟨#[]⟩]) := by simp
    rw [List.length_cons] at h50
    simp only [go_sem, Nat.reduceEqDiff, Nat.reduceAdd, Nat.reduceSub, Nat.reduceLeDiff, Nat.reduceLT, Nat.reduceMul, Nat.reduceBEq, Int.reduceEq, Int.reduceLT, Int.reduceLE, Int.reduceNeg, Int.reduceToNat, reduceCtorEq, ho, Try.results38, h54, h53, h52, hlt, hget, Int.natCast_nonneg, Int.toNat_natCast, h5, hs1, hs2, hs4, hb2, hb4, x.enc_eq]
    refine GCall.fr ?_ (IH x hxs) (.inl rfl) ?_; (focus (first | rfl | ((simp only [go_sem, Nat.reduceEqDiff, Nat.reduceAdd, Nat.reduceSub, Nat.reduceLeDiff, Nat.reduceLT, Nat.reduceMul, Nat.reduceBEq, Int.reduceEq, Int.reduceLT, Int.reduceLE, Int.reduceNeg, Int.reduceToNat, reduceCtorEq, ho, Try.results38, x.enc_eq, hs1]); done) | ((simp only [go_sem, Nat.reduceEqDiff, Nat.reduceAdd, Nat.reduceSub, Nat.reduceLeDiff, Nat.reduceLT, Nat.reduceMul, Nat.reduceBEq, Int.reduceEq, Int.reduceLT, Int.reduceLE, Int.reduceNeg, Int.reduceToNat, reduceCtorEq, ho, Try.results38, x.enc_eq, hs1]); rfl)))
    simp only [go_sem, Nat.reduceEqDiff, Nat.reduceAdd, Nat.reduceSub, Nat.reduceLeDiff, Nat.reduceLT, Nat.reduceMul, Nat.reduceBEq, Int.reduceEq, Int.reduceLT, Int.reduceLE, Int.reduceNeg, Int.reduceToNat, reduceCtorEq, ho, Try.results38, h54, h53, h52, h5, hx50, hxl, hx0, h50, Int.natCast_nonneg, Int.toNat_natCast, hs1, hs2, hs4, hb2, hb4, hw]
    refine ⟨rest.length, by simp at hm'; omega, done ++ [x], rest, by simp [hl'], rfl, by simp, ?_⟩
    simp [List.set_append, List.replicate_succ]
theorem evalc_7 (row : List Vl) (n : Nat) (hn : n + 1 ≤ 100000000) (IH : ∀ x : Ex, x.size ≤ n → Fc 38 [x.enc, .sl (row.map Vl.enc)] (x.eval row).enc) (e : Ex) (h : e.size ≤ n + 1) (hf : e.formed = true) (hop : e.op = 7) : Fc 38 [e.enc, .sl (row.map Vl.enc)] (e.eval row).enc := by
  obtain ⟨l, hleq⟩ : ∃ l, l = e.args.map (Ex.eval row) := ⟨_, rfl⟩
  have hev : e.eval row = evalOp row 7 e.int e.val (e.args.map (Ex.eval row)) := by rw [Ex.eval_eq, hf, hop]; rfl
  have hsz := e.size_eq
  have hlen := Ex.len_sizes e.args
  have hfit := formed_len hf
  rw [hop] at hfit
  rw [← hleq] at hev
  refine fn_of_awp (E := E0) (M := M0) follows Try.func38 rfl (by decide) ok38 (by decide) (by simp) fun o ho => ?_
  rw [hev]
  clear hev
  simp only [go_sem, Nat.reduceEqDiff, Nat.reduceAdd, Nat.reduceSub, Nat.reduceLeDiff, Nat.reduceLT, Nat.reduceMul, Nat.reduceBEq, Int.reduceEq, Int.reduceLT, Int.reduceLE, Int.reduceNeg, Int.reduceToNat, reduceCtorEq, ho, Try.results38, e.enc_eq]
  refine GCall.fr ?_ (formed_fn e) (.inl rfl) ?_; (focus (first | rfl | ((simp only [go_sem, Nat.reduceEqDiff, Nat.reduceAdd, Nat.reduceSub, Nat.reduceLeDiff, Nat.reduceLT, Nat.reduceMul, Nat.reduceBEq, Int.reduceEq, Int.reduceLT, Int.reduceLE, Int.reduceNeg, Int.reduceToNat, reduceCtorEq, ho, Try.results38, e.enc_eq]); done) | ((simp only [go_sem, Nat.reduceEqDiff, Nat.reduceAdd, Nat.reduceSub, Nat.reduceLeDiff, Nat.reduceLT, Nat.reduceMul, Nat.reduceBEq, Int.reduceEq, Int.reduceLT, Int.reduceLE, Int.reduceNeg, Int.reduceToNat, reduceCtorEq, ho, Try.results38, e.enc_eq]); rfl)))
  simp only [go_sem, Nat.reduceEqDiff, Nat.reduceAdd, Nat.reduceSub, Nat.reduceLeDiff, Nat.reduceLT, Nat.reduceMul, Nat.reduceBEq, Int.reduceEq, Int.reduceLT, Int.reduceLE, Int.reduceNeg, Int.reduceToNat, reduceCtorEq, ho, Try.results38, hf, hop]
  have hl100 : e.args.length ≤ 100000000 := by omega
  have hllen : l.length = e.args.length := by rw [hleq]; simp
  have hpos := fits_pos (op := 7) (l := l) (by rw [hllen]; exact hfit) (by decide) (by decide)
  have hm : (e.args.length : Int) * (((32 : Nat) : Int) + 1) ≤ 140737488355328 := by omega
  simp only [go_sem, Nat.reduceEqDiff, Nat.reduceAdd, Nat.reduceSub, Nat.reduceLeDiff, Nat.reduceLT, Nat.reduceMul, Nat.reduceBEq, Int.reduceEq, Int.reduceLT, Int.reduceLE, Int.reduceNeg, Int.reduceToNat, reduceCtorEq, ho, Try.results38, List.length_map, Int.natCast_nonneg, hm, true_and, Int.toNat_natCast, Int.le_refl]
  refine ⟨fun m st => ∃ (done rest : List Ex), e.args = done ++ rest ∧ rest.length = m ∧ st.s 54 = .int .i64 done.length ∧ st.s 53 = .int .i64 e.args.length ∧ st.s 52 = .sl (e.args.map Ex.enc) ∧ st.s 5 = .ref 50 1 ∧ st.o 50 = (1, some (true, .row 42 ((done.map fun x => (x.eval row).enc) ++ List.replicate rest.length (PV.agg [PV.int IntKind.i64 0, PV.int IntKind.i64 0, PV.str ⟨#[]⟩])))) ∧ st.s 1 = .sl (row.map Vl.enc) ∧ st.s 2 = .ptr 2 1 0 ∧ st.s 4 = .ptr 4 1 0 ∧ getBox st.o 2 1 = some (49, e.enc.cells) ∧ st.o 4 = (1, some (true, .box 42 [.int .i64 0, .int .i64 0, .str ⟨#[]⟩])), e.args.length,
    ⟨[], e.args, rfl, rfl, by simp only [go_sem, Nat.reduceEqDiff, Nat.reduceAdd, Nat.reduceSub, Nat.reduceLeDiff, Nat.reduceLT, Nat.reduceMul, Nat.reduceBEq, Int.reduceEq, Int.reduceLT, Int.reduceLE, Int.reduceNeg, Int.reduceToNat, reduceCtorEq, ho, Try.results38]; rfl, by simp only [go_sem, Nat.reduceEqDiff, Nat.reduceAdd, Nat.reduceSub, Nat.reduceLeDiff, Nat.reduceLT, Nat.reduceMul, Nat.reduceBEq, Int.reduceEq, Int.reduceLT, Int.reduceLE, Int.reduceNeg, Int.reduceToNat, reduceCtorEq, ho, Try.results38], by simp only [go_sem, Nat.reduceEqDiff, Nat.reduceAdd, Nat.reduceSub, Nat.reduceLeDiff, Nat.reduceLT, Nat.reduceMul, Nat.reduceBEq, Int.reduceEq, Int.reduceLT, Int.reduceLE, Int.reduceNeg, Int.reduceToNat, reduceCtorEq, ho, Try.results38], by simp only [go_sem, Nat.reduceEqDiff, Nat.reduceAdd, Nat.reduceSub, Nat.reduceLeDiff, Nat.reduceLT, Nat.reduceMul, Nat.reduceBEq, Int.reduceEq, Int.reduceLT, Int.reduceLE, Int.reduceNeg, Int.reduceToNat, reduceCtorEq, ho, Try.results38], by simp only [go_sem, Nat.reduceEqDiff, Nat.reduceAdd, Nat.reduceSub, Nat.reduceLeDiff, Nat.reduceLT, Nat.reduceMul, Nat.reduceBEq, Int.reduceEq, Int.reduceLT, Int.reduceLE, Int.reduceNeg, Int.reduceToNat, reduceCtorEq, ho, Try.results38, List.map_nil, List.nil_append], by simp only [go_sem, Nat.reduceEqDiff, Nat.reduceAdd, Nat.reduceSub, Nat.reduceLeDiff, Nat.reduceLT, Nat.reduceMul, Nat.reduceBEq, Int.reduceEq, Int.reduceLT, Int.reduceLE, Int.reduceNeg, Int.reduceToNat, reduceCtorEq, ho, Try.results38], by simp only [go_sem, Nat.reduceEqDiff, Nat.reduceAdd, Nat.reduceSub, Nat.reduceLeDiff, Nat.reduceLT, Nat.reduceMul, Nat.reduceBEq, Int.reduceEq, Int.reduceLT, Int.reduceLE, Int.reduceNeg, Int.reduceToNat, reduceCtorEq, ho, Try.results38], by simp only [go_sem, Nat.reduceEqDiff, Nat.reduceAdd, Nat.reduceSub, Nat.reduceLeDiff, Nat.reduceLT, Nat.reduceMul, Nat.reduceBEq, Int.reduceEq, Int.reduceLT, Int.reduceLE, Int.reduceNeg, Int.reduceToNat, reduceCtorEq, ho, Try.results38], by simp only [go_sem, Nat.reduceEqDiff, Nat.reduceAdd, Nat.reduceSub, Nat.reduceLeDiff, Nat.reduceLT, Nat.reduceMul, Nat.reduceBEq, Int.reduceEq, Int.reduceLT, Int.reduceLE, Int.reduceNeg, Int.reduceToNat, reduceCtorEq, ho, Try.results38, hop], by simp only [go_sem, Nat.reduceEqDiff, Nat.reduceAdd, Nat.reduceSub, Nat.reduceLeDiff, Nat.reduceLT, Nat.reduceMul, Nat.reduceBEq, Int.reduceEq, Int.reduceLT, Int.reduceLE, Int.reduceNeg, Int.reduceToNat, reduceCtorEq, ho, Try.results38]⟩, ?_⟩
  rintro m st ⟨done, rest, hl', hm', h54, h53, h52, h5, h50, hs1, hs2, hs4, hb2, hb4⟩
  have hlen2 : done.length + rest.length = e.args.length := by rw [hl']; simp
  have hw : IntKind.i64.wrap ((done.length : Int) + 1) = (done.length : Int) + 1 := wrap_fits (by omega) (by omega)
  cases rest with
  | nil =>
    have hlt : ¬ (done.length : Int) < (e.args.length : Int) := by simp at hlen2; omega
    obtain hdone : e.args = done := by simpa using hl'
    simp only [List.length_nil, List.replicate, List.append_nil] at h50
    have hrw : (done.map fun x => (x.eval row).enc) = l.map Vl.enc := by rw [hleq, hdone]; simp
    rw [hrw] at h50
    have hrow : getRow st.o 50 1 = some (42, l.map Vl.enc) := by simp [getRow, h50]
    have hvv : ∀ v ∈ l, v.valid = true := fun v hv => by rw [hleq] at hv; obtain ⟨x, _, rfl⟩ := List.mem_map.1 hv; exact Ex.eval_valid row x
    have hg0 := nth_get hpos
    have hl0 : (0 : Int) < (l.length : Int) := by omega
    have h2l : 1 < l.length := by
      have : (e.args.length : Int) = 2 := by simpa [fitsN] using hfit
      omega
    have hg1 := nth_get h2l
    have hl1 : (1 : Int) < (l.length : Int) := by omega
    clear hleq hrw
    simp only [go_sem, Nat.reduceEqDiff, Nat.reduceAdd, Nat.reduceSub, Nat.reduceLeDiff, Nat.reduceLT, Nat.reduceMul, Nat.reduceBEq, Int.reduceEq, Int.reduceLT, Int.reduceLE, Int.reduceNeg, Int.reduceToNat, reduceCtorEq, ho, Try.results38, h54, h53, hlt, hop, h5, hs2, hs4, hb2, hb4, hrow, hg0, hl0, hg1, hl1, Vl.enc]
    refine QCall.fr ?_ (compared_fn 7 (nth l 0) (nth l 1)) (.inl rfl) ?_; (focus (first | rfl | ((simp only [go_sem, Nat.reduceEqDiff, Nat.reduceAdd, Nat.reduceSub, Nat.reduceLeDiff, Nat.reduceLT, Nat.reduceMul, Nat.reduceBEq, Int.reduceEq, Int.reduceLT, Int.reduceLE, Int.reduceNeg, Int.reduceToNat, reduceCtorEq, ho, Try.results38, Vl.enc]); done) | ((simp only [go_sem, Nat.reduceEqDiff, Nat.reduceAdd, Nat.reduceSub, Nat.reduceLeDiff, Nat.reduceLT, Nat.reduceMul, Nat.reduceBEq, Int.reduceEq, Int.reduceLT, Int.reduceLE, Int.reduceNeg, Int.reduceToNat, reduceCtorEq, ho, Try.results38, Vl.enc]); rfl)))
    simp only [go_sem, Nat.reduceEqDiff, Nat.reduceAdd, Nat.reduceSub, Nat.reduceLeDiff, Nat.reduceLT, Nat.reduceMul, Nat.reduceBEq, Int.reduceEq, Int.reduceLT, Int.reduceLE, Int.reduceNeg, Int.reduceToNat, reduceCtorEq, ho, Try.results38]
    refine QCall.fr ?_ (of_fn (Vl.compared 7 (nth l 0) (nth l 1))) (.inl rfl) ?_; (focus (first | rfl | ((simp only [go_sem, Nat.reduceEqDiff, Nat.reduceAdd, Nat.reduceSub, Nat.reduceLeDiff, Nat.reduceLT, Nat.reduceMul, Nat.reduceBEq, Int.reduceEq, Int.reduceLT, Int.reduceLE, Int.reduceNeg, Int.reduceToNat, reduceCtorEq, ho, Try.results38]); done) | ((simp only [go_sem, Nat.reduceEqDiff, Nat.reduceAdd, Nat.reduceSub, Nat.reduceLeDiff, Nat.reduceLT, Nat.reduceMul, Nat.reduceBEq, Int.reduceEq, Int.reduceLT, Int.reduceLE, Int.reduceNeg, Int.reduceToNat, reduceCtorEq, ho, Try.results38]); rfl)))
    simp only [go_sem, Nat.reduceEqDiff, Nat.reduceAdd, Nat.reduceSub, Nat.reduceLeDiff, Nat.reduceLT, Nat.reduceMul, Nat.reduceBEq, Int.reduceEq, Int.reduceLT, Int.reduceLE, Int.reduceNeg, Int.reduceToNat, reduceCtorEq, ho, Try.results38, Vl.enc, h5, hs2, hs4, hb2, hb4]
    rw [evo_7]; exact ⟨rfl, rfl, rfl⟩
  | cons x rest =>
    have hlt : (done.length : Int) < (e.args.length : Int) := by simp at hlen2; omega
    have hget : (e.args.map Ex.enc)[done.length]? = some x.enc := by simp [hl']
    have hxs : x.size ≤ n := by have := hsz; rw [hl', Ex.sizes_app] at this; simp [Ex.sizes] at this; omega
    have hx50 : getRow st.o 50 1 = some (42, (done.map fun x => (x.eval row).enc) ++ List.replicate (rest.length + 1) (PV.agg [PV.int IntKind.i64 0, PV.int IntKind.i64 0, PV.str ⟨#[]⟩])) := by rw [getRow, h50]; rfl
    have hxl : (done.length : Int) < (((done.map fun x => (x.eval row).enc) ++ List.replicate (rest.length + 1) (PV.agg [PV.int IntKind.i64 0, PV.int IntKind.i64 0, PV.str ⟨#[]⟩])).length : Nat) := by simp; omega
    have hx0 : ((done.map fun x => (x.eval row).enc) ++ List.replicate (rest.length + 1) (PV.agg [PV.int IntKind.i64 0, PV.int IntKind.i64 0, PV.str ⟨#[]⟩]))[done.length]? = some (PV.agg [PV.int IntKind.i64 0, PV.int IntKind.i64 0, PV.str ⟨#[]⟩]) := by simp
    rw [List.length_cons] at h50
    simp only [go_sem, Nat.reduceEqDiff, Nat.reduceAdd, Nat.reduceSub, Nat.reduceLeDiff, Nat.reduceLT, Nat.reduceMul, Nat.reduceBEq, Int.reduceEq, Int.reduceLT, Int.reduceLE, Int.reduceNeg, Int.reduceToNat, reduceCtorEq, ho, Try.results38, h54, h53, h52, hlt, hget, Int.natCast_nonneg, Int.toNat_natCast, h5, hs1, hs2, hs4, hb2, hb4, x.enc_eq]
    refine GCall.fr ?_ (IH x hxs) (.inl rfl) ?_; (focus (first | rfl | ((simp only [go_sem, Nat.reduceEqDiff, Nat.reduceAdd, Nat.reduceSub, Nat.reduceLeDiff, Nat.reduceLT, Nat.reduceMul, Nat.reduceBEq, Int.reduceEq, Int.reduceLT, Int.reduceLE, Int.reduceNeg, Int.reduceToNat, reduceCtorEq, ho, Try.results38, x.enc_eq, hs1]); done) | ((simp only [go_sem, Nat.reduceEqDiff, Nat.reduceAdd, Nat.reduceSub, Nat.reduceLeDiff, Nat.reduceLT, Nat.reduceMul, Nat.reduceBEq, Int.reduceEq, Int.reduceLT, Int.reduceLE, Int.reduceNeg, Int.reduceToNat, reduceCtorEq, ho, Try.results38, x.enc_eq, hs1]); rfl)))
    simp only [go_sem, Nat.reduceEqDiff, Nat.reduceAdd, Nat.reduceSub, Nat.reduceLeDiff, Nat.reduceLT, Nat.reduceMul, Nat.reduceBEq, Int.reduceEq, Int.reduceLT, Int.reduceLE, Int.reduceNeg, Int.reduceToNat, reduceCtorEq, ho, Try.results38, h54, h53, h52, h5, hx50, hxl, hx0, h50, Int.natCast_nonneg, Int.toNat_natCast, hs1, hs2, hs4, hb2, hb4, hw]
    refine ⟨rest.length, by simp at hm'; omega, done ++ [x], rest, by simp [hl'], rfl, by simp, ?_⟩
    simp [List.set_append, List.replicate_succ]
theorem evalc_8 (row : List Vl) (n : Nat) (hn : n + 1 ≤ 100000000) (IH : ∀ x : Ex, x.size ≤ n → Fc 38 [x.enc, .sl (row.map Vl.enc)] (x.eval row).enc) (e : Ex) (h : e.size ≤ n + 1) (hf : e.formed = true) (hop : e.op = 8) : Fc 38 [e.enc, .sl (row.map Vl.enc)] (e.eval row).enc := by
  obtain ⟨l, hleq⟩ : ∃ l, l = e.args.map (Ex.eval row) := ⟨_, rfl⟩
  have hev : e.eval row = evalOp row 8 e.int e.val (e.args.map (Ex.eval row)) := by rw [Ex.eval_eq, hf, hop]; rfl
  have hsz := e.size_eq
  have hlen := Ex.len_sizes e.args
  have hfit := formed_len hf
  rw [hop] at hfit
  rw [← hleq] at hev
  refine fn_of_awp (E := E0) (M := M0) follows Try.func38 rfl (by decide) ok38 (by decide) (by simp) fun o ho => ?_
  rw [hev]
  clear hev
  simp only [go_sem, Nat.reduceEqDiff, Nat.reduceAdd, Nat.reduceSub, Nat.reduceLeDiff, Nat.reduceLT, Nat.reduceMul, Nat.reduceBEq, Int.reduceEq, Int.reduceLT, Int.reduceLE, Int.reduceNeg, Int.reduceToNat, reduceCtorEq, ho, Try.results38, e.enc_eq]
  refine GCall.fr ?_ (formed_fn e) (.inl rfl) ?_; (focus (first | rfl | ((simp only [go_sem, Nat.reduceEqDiff, Nat.reduceAdd, Nat.reduceSub, Nat.reduceLeDiff, Nat.reduceLT, Nat.reduceMul, Nat.reduceBEq, Int.reduceEq, Int.reduceLT, Int.reduceLE, Int.reduceNeg, Int.reduceToNat, reduceCtorEq, ho, Try.results38, e.enc_eq]); done) | ((simp only [go_sem, Nat.reduceEqDiff, Nat.reduceAdd, Nat.reduceSub, Nat.reduceLeDiff, Nat.reduceLT, Nat.reduceMul, Nat.reduceBEq, Int.reduceEq, Int.reduceLT, Int.reduceLE, Int.reduceNeg, Int.reduceToNat, reduceCtorEq, ho, Try.results38, e.enc_eq]); rfl)))
  simp only [go_sem, Nat.reduceEqDiff, Nat.reduceAdd, Nat.reduceSub, Nat.reduceLeDiff, Nat.reduceLT, Nat.reduceMul, Nat.reduceBEq, Int.reduceEq, Int.reduceLT, Int.reduceLE, Int.reduceNeg, Int.reduceToNat, reduceCtorEq, ho, Try.results38, hf, hop]
  have hl100 : e.args.length ≤ 100000000 := by omega
  have hllen : l.length = e.args.length := by rw [hleq]; simp
  have hpos := fits_pos (op := 8) (l := l) (by rw [hllen]; exact hfit) (by decide) (by decide)
  have hm : (e.args.length : Int) * (((32 : Nat) : Int) + 1) ≤ 140737488355328 := by omega
  simp only [go_sem, Nat.reduceEqDiff, Nat.reduceAdd, Nat.reduceSub, Nat.reduceLeDiff, Nat.reduceLT, Nat.reduceMul, Nat.reduceBEq, Int.reduceEq, Int.reduceLT, Int.reduceLE, Int.reduceNeg, Int.reduceToNat, reduceCtorEq, ho, Try.results38, List.length_map, Int.natCast_nonneg, hm, true_and, Int.toNat_natCast, Int.le_refl]
  refine ⟨fun m st => ∃ (done rest : List Ex), e.args = done ++ rest ∧ rest.length = m ∧ st.s 54 = .int .i64 done.length ∧ st.s 53 = .int .i64 e.args.length ∧ st.s 52 = .sl (e.args.map Ex.enc) ∧ st.s 5 = .ref 50 1 ∧ st.o 50 = (1, some (true, .row 42 ((done.map fun x => (x.eval row).enc) ++ List.replicate rest.length (PV.agg [PV.int IntKind.i64 0, PV.int IntKind.i64 0, PV.str ⟨#[]⟩])))) ∧ st.s 1 = .sl (row.map Vl.enc) ∧ st.s 2 = .ptr 2 1 0 ∧ st.s 4 = .ptr 4 1 0 ∧ getBox st.o 2 1 = some (49, e.enc.cells) ∧ st.o 4 = (1, some (true, .box 42 [.int .i64 0, .int .i64 0, .str ⟨#[]⟩])), e.args.length,
    ⟨[], e.args, rfl, rfl, by simp only [go_sem, Nat.reduceEqDiff, Nat.reduceAdd, Nat.reduceSub, Nat.reduceLeDiff, Nat.reduceLT, Nat.reduceMul, Nat.reduceBEq, Int.reduceEq, Int.reduceLT, Int.reduceLE, Int.reduceNeg, Int.reduceToNat, reduceCtorEq, ho, Try.results38]; rfl, by simp only [go_sem, Nat.reduceEqDiff, Nat.reduceAdd, Nat.reduceSub, Nat.reduceLeDiff, Nat.reduceLT, Nat.reduceMul, Nat.reduceBEq, Int.reduceEq, Int.reduceLT, Int.reduceLE, Int.reduceNeg, Int.reduceToNat, reduceCtorEq, ho, Try.results38], by simp only [go_sem, Nat.reduceEqDiff, Nat.reduceAdd, Nat.reduceSub, Nat.reduceLeDiff, Nat.reduceLT, Nat.reduceMul, Nat.reduceBEq, Int.reduceEq, Int.reduceLT, Int.reduceLE, Int.reduceNeg, Int.reduceToNat, reduceCtorEq, ho, Try.results38], by simp only [go_sem, Nat.reduceEqDiff, Nat.reduceAdd, Nat.reduceSub, Nat.reduceLeDiff, Nat.reduceLT, Nat.reduceMul, Nat.reduceBEq, Int.reduceEq, Int.reduceLT, Int.reduceLE, Int.reduceNeg, Int.reduceToNat, reduceCtorEq, ho, Try.results38], by simp only [go_sem, Nat.reduceEqDiff, Nat.reduceAdd, Nat.reduceSub, Nat.reduceLeDiff, Nat.reduceLT, Nat.reduceMul, Nat.reduceBEq, Int.reduceEq, Int.reduceLT, Int.reduceLE, Int.reduceNeg, Int.reduceToNat, reduceCtorEq, ho, Try.results38, List.map_nil, List.nil_append], by simp only [go_sem, Nat.reduceEqDiff, Nat.reduceAdd, Nat.reduceSub, Nat.reduceLeDiff, Nat.reduceLT, Nat.reduceMul, Nat.reduceBEq, Int.reduceEq, Int.reduceLT, Int.reduceLE, Int.reduceNeg, Int.reduceToNat, reduceCtorEq, ho, Try.results38], by simp only [go_sem, Nat.reduceEqDiff, Nat.reduceAdd, Nat.reduceSub, Nat.reduceLeDiff, Nat.reduceLT, Nat.reduceMul, Nat.reduceBEq, Int.reduceEq, Int.reduceLT, Int.reduceLE, Int.reduceNeg, Int.reduceToNat, reduceCtorEq, ho, Try.results38], by simp only [go_sem, Nat.reduceEqDiff, Nat.reduceAdd, Nat.reduceSub, Nat.reduceLeDiff, Nat.reduceLT, Nat.reduceMul, Nat.reduceBEq, Int.reduceEq, Int.reduceLT, Int.reduceLE, Int.reduceNeg, Int.reduceToNat, reduceCtorEq, ho, Try.results38], by simp only [go_sem, Nat.reduceEqDiff, Nat.reduceAdd, Nat.reduceSub, Nat.reduceLeDiff, Nat.reduceLT, Nat.reduceMul, Nat.reduceBEq, Int.reduceEq, Int.reduceLT, Int.reduceLE, Int.reduceNeg, Int.reduceToNat, reduceCtorEq, ho, Try.results38, hop], by simp only [go_sem, Nat.reduceEqDiff, Nat.reduceAdd, Nat.reduceSub, Nat.reduceLeDiff, Nat.reduceLT, Nat.reduceMul, Nat.reduceBEq, Int.reduceEq, Int.reduceLT, Int.reduceLE, Int.reduceNeg, Int.reduceToNat, reduceCtorEq, ho, Try.results38]⟩, ?_⟩
  rintro m st ⟨done, rest, hl', hm', h54, h53, h52, h5, h50, hs1, hs2, hs4, hb2, hb4⟩
  have hlen2 : done.length + rest.length = e.args.length := by rw [hl']; simp
  have hw : IntKind.i64.wrap ((done.length : Int) + 1) = (done.length : Int) + 1 := wrap_fits (by omega) (by omega)
  cases rest with
  | nil =>
    have hlt : ¬ (done.length : Int) < (e.args.length : Int) := by simp at hlen2; omega
    obtain hdone : e.args = done := by simpa using hl'
    simp only [List.length_nil, List.replicate, List.append_nil] at h50
    have hrw : (done.map fun x => (x.eval row).enc) = l.map Vl.enc := by rw [hleq, hdone]; simp
    rw [hrw] at h50
    have hrow : getRow st.o 50 1 = some (42, l.map Vl.enc) := by simp [getRow, h50]
    have hvv : ∀ v ∈ l, v.valid = true := fun v hv => by rw [hleq] at hv; obtain ⟨x, _, rfl⟩ := List.mem_map.1 hv; exact Ex.eval_valid row x
    have hg0 := nth_get hpos
    have hl0 : (0 : Int) < (l.length : Int) := by omega
    have h2l : 1 < l.length := by
      have : (e.args.length : Int) = 2 := by simpa [fitsN] using hfit
      omega
    have hg1 := nth_get h2l
    have hl1 : (1 : Int) < (l.length : Int) := by omega
    clear hleq hrw
    simp only [go_sem, Nat.reduceEqDiff, Nat.reduceAdd, Nat.reduceSub, Nat.reduceLeDiff, Nat.reduceLT, Nat.reduceMul, Nat.reduceBEq, Int.reduceEq, Int.reduceLT, Int.reduceLE, Int.reduceNeg, Int.reduceToNat, reduceCtorEq, ho, Try.results38, h54, h53, hlt, hop, h5, hs2, hs4, hb2, hb4, hrow, hg0, hl0, hg1, hl1, Vl.enc]
    refine QCall.fr ?_ (compared_fn 8 (nth l 0) (nth l 1)) (.inl rfl) ?_; (focus (first | rfl | ((simp only [go_sem, Nat.reduceEqDiff, Nat.reduceAdd, Nat.reduceSub, Nat.reduceLeDiff, Nat.reduceLT, Nat.reduceMul, Nat.reduceBEq, Int.reduceEq, Int.reduceLT, Int.reduceLE, Int.reduceNeg, Int.reduceToNat, reduceCtorEq, ho, Try.results38, Vl.enc]); done) | ((simp only [go_sem, Nat.reduceEqDiff, Nat.reduceAdd, Nat.reduceSub, Nat.reduceLeDiff, Nat.reduceLT, Nat.reduceMul, Nat.reduceBEq, Int.reduceEq, Int.reduceLT, Int.reduceLE, Int.reduceNeg, Int.reduceToNat, reduceCtorEq, ho, Try.results38, Vl.enc]); rfl)))
    simp only [go_sem, Nat.reduceEqDiff, Nat.reduceAdd, Nat.reduceSub, Nat.reduceLeDiff, Nat.reduceLT, Nat.reduceMul, Nat.reduceBEq, Int.reduceEq, Int.reduceLT, Int.reduceLE, Int.reduceNeg, Int.reduceToNat, reduceCtorEq, ho, Try.results38]
    refine QCall.fr ?_ (of_fn (Vl.compared 8 (nth l 0) (nth l 1))) (.inl rfl) ?_; (focus (first | rfl | ((simp only [go_sem, Nat.reduceEqDiff, Nat.reduceAdd, Nat.reduceSub, Nat.reduceLeDiff, Nat.reduceLT, Nat.reduceMul, Nat.reduceBEq, Int.reduceEq, Int.reduceLT, Int.reduceLE, Int.reduceNeg, Int.reduceToNat, reduceCtorEq, ho, Try.results38]); done) | ((simp only [go_sem, Nat.reduceEqDiff, Nat.reduceAdd, Nat.reduceSub, Nat.reduceLeDiff, Nat.reduceLT, Nat.reduceMul, Nat.reduceBEq, Int.reduceEq, Int.reduceLT, Int.reduceLE, Int.reduceNeg, Int.reduceToNat, reduceCtorEq, ho, Try.results38]); rfl)))
    simp only [go_sem, Nat.reduceEqDiff, Nat.reduceAdd, Nat.reduceSub, Nat.reduceLeDiff, Nat.reduceLT, Nat.reduceMul, Nat.reduceBEq, Int.reduceEq, Int.reduceLT, Int.reduceLE, Int.reduceNeg, Int.reduceToNat, reduceCtorEq, ho, Try.results38, Vl.enc, h5, hs2, hs4, hb2, hb4]
    rw [evo_8]; exact ⟨rfl, rfl, rfl⟩
  | cons x rest =>
    have hlt : (done.length : Int) < (e.args.length : Int) := by simp at hlen2; omega
    have hget : (e.args.map Ex.enc)[done.length]? = some x.enc := by simp [hl']
    have hxs : x.size ≤ n := by have := hsz; rw [hl', Ex.sizes_app] at this; simp [Ex.sizes] at this; omega
    have hx50 : getRow st.o 50 1 = some (42, (done.map fun x => (x.eval row).enc) ++ List.replicate (rest.length + 1) (PV.agg [PV.int IntKind.i64 0, PV.int IntKind.i64 0, PV.str ⟨#[]⟩])) := by rw [getRow, h50]; rfl
    have hxl : (done.length : Int) < (((done.map fun x => (x.eval row).enc) ++ List.replicate (rest.length + 1) (PV.agg [PV.int IntKind.i64 0, PV.int IntKind.i64 0, PV.str ⟨#[]⟩])).length : Nat) := by simp; omega
    have hx0 : ((done.map fun x => (x.eval row).enc) ++ List.replicate (rest.length + 1) (PV.agg [PV.int IntKind.i64 0, PV.int IntKind.i64 0, PV.str ⟨#[]⟩]))[done.length]? = some (PV.agg [PV.int IntKind.i64 0, PV.int IntKind.i64 0, PV.str ⟨#[]⟩]) := by simp
    rw [List.length_cons] at h50
    simp only [go_sem, Nat.reduceEqDiff, Nat.reduceAdd, Nat.reduceSub, Nat.reduceLeDiff, Nat.reduceLT, Nat.reduceMul, Nat.reduceBEq, Int.reduceEq, Int.reduceLT, Int.reduceLE, Int.reduceNeg, Int.reduceToNat, reduceCtorEq, ho, Try.results38, h54, h53, h52, hlt, hget, Int.natCast_nonneg, Int.toNat_natCast, h5, hs1, hs2, hs4, hb2, hb4, x.enc_eq]
    refine GCall.fr ?_ (IH x hxs) (.inl rfl) ?_; (focus (first | rfl | ((simp only [go_sem, Nat.reduceEqDiff, Nat.reduceAdd, Nat.reduceSub, Nat.reduceLeDiff, Nat.reduceLT, Nat.reduceMul, Nat.reduceBEq, Int.reduceEq, Int.reduceLT, Int.reduceLE, Int.reduceNeg, Int.reduceToNat, reduceCtorEq, ho, Try.results38, x.enc_eq, hs1]); done) | ((simp only [go_sem, Nat.reduceEqDiff, Nat.reduceAdd, Nat.reduceSub, Nat.reduceLeDiff, Nat.reduceLT, Nat.reduceMul, Nat.reduceBEq, Int.reduceEq, Int.reduceLT, Int.reduceLE, Int.reduceNeg, Int.reduceToNat, reduceCtorEq, ho, Try.results38, x.enc_eq, hs1]); rfl)))
    simp only [go_sem, Nat.reduceEqDiff, Nat.reduceAdd, Nat.reduceSub, Nat.reduceLeDiff, Nat.reduceLT, Nat.reduceMul, Nat.reduceBEq, Int.reduceEq, Int.reduceLT, Int.reduceLE, Int.reduceNeg, Int.reduceToNat, reduceCtorEq, ho, Try.results38, h54, h53, h52, h5, hx50, hxl, hx0, h50, Int.natCast_nonneg, Int.toNat_natCast, hs1, hs2, hs4, hb2, hb4, hw]
    refine ⟨rest.length, by simp at hm'; omega, done ++ [x], rest, by simp [hl'], rfl, by simp, ?_⟩
    simp [List.set_append, List.replicate_succ]
end Go.Proofs.Ytiefnninebilbaa
/- What the evaluation of an expression returns, operator by operator; no condition. -/
set_option maxRecDepth 100000
set_option linter.unusedVariables false
set_option linter.unusedSimpArgs false
namespace Go.Proofs.Ytiefnninebilbaa
open Go Go.Sx

theorem evalc_9 (row : List Vl) (n : Nat) (hn : n + 1 ≤ 100000000) (IH : ∀ x : Ex, x.size ≤ n → Fc 38 [x.enc, .sl (row.map Vl.enc)] (x.eval row).enc) (e : Ex) (h : e.size ≤ n + 1) (hf : e.formed = true) (hop : e.op = 9) : Fc 38 [e.enc, .sl (row.map Vl.enc)] (e.eval row).enc := by
  obtain ⟨l, hleq⟩ : ∃ l, l = e.args.map (Ex.eval row) := ⟨_, rfl⟩
  have hev : e.eval row = evalOp row 9 e.int e.val (e.args.map (Ex.eval row)) := by rw [Ex.eval_eq, hf, hop]; rfl
  have hsz := e.size_eq
  have hlen := Ex.len_sizes e.args
  have hfit := formed_len hf
  rw [hop] at hfit
  rw [← hleq] at hev
  refine fn_of_awp (E := E0) (M := M0) follows Try.func38 rfl (by decide) ok38 (by decide) (by simp) fun o ho => ?_
  rw [hev]
  clear hev
  simp only [go_sem, Nat.reduceEqDiff, Nat.reduceAdd, Nat.reduceSub, Nat.reduceLeDiff, Nat.reduceLT, Nat.reduceMul, Nat.reduceBEq, Int.reduceEq, Int.reduceLT, Int.reduceLE, Int.reduceNeg, Int.reduceToNat, reduceCtorEq, ho, Try.results38, e.enc_eq]
  refine GCall.fr ?_ (formed_fn e) (.inl rfl) ?_; (focus (first | rfl | ((simp only [go_sem, Nat.reduceEqDiff, Nat.reduceAdd, Nat.reduceSub, Nat.reduceLeDiff, Nat.reduceLT, Nat.reduceMul, Nat.reduceBEq, Int.reduceEq, Int.reduceLT, Int.reduceLE, Int.reduceNeg, Int.reduceToNat, reduceCtorEq, ho, Try.results38, e.enc_eq]); done) | ((simp only [go_sem, Nat.reduceEqDiff, Nat.reduceAdd, Nat.reduceSub, Nat.reduceLeDiff, Nat.reduceLT, Nat.reduceMul, Nat.reduceBEq, Int.reduceEq, Int.reduceLT, Int.reduceLE, Int.reduceNeg, Int.reduceToNat, reduceCtorEq, ho, Try.results38, e.enc_eq]); rfl)))
  simp only [go_sem, Nat.reduceEqDiff, Nat.reduceAdd, Nat.reduceSub, Nat.reduceLeDiff, Nat.reduceLT, Nat.reduceMul, Nat.reduceBEq, Int.reduceEq, Int.reduceLT, Int.reduceLE, Int.reduceNeg, Int.reduceToNat, reduceCtorEq, ho, Try.results38, hf, hop]
  have hl100 : e.args.length ≤ 100000000 := by omega
  have hllen : l.length = e.args.length := by rw [hleq]; simp
  have hpos := fits_pos (op := 9) (l := l) (by rw [hllen]; exact hfit) (by decide) (by decide)
  have hm : (e.args.length : Int) * (((32 : Nat) : Int) + 1) ≤ 140737488355328 := by omega
  simp only [go_sem, Nat.reduceEqDiff, Nat.reduceAdd, Nat.reduceSub, Nat.reduceLeDiff, Nat.reduceLT, Nat.reduceMul, Nat.reduceBEq, Int.reduceEq, Int.reduceLT, Int.reduceLE, Int.reduceNeg, Int.reduceToNat, reduceCtorEq, ho, Try.results38, List.length_map, Int.natCast_nonneg, hm, true_and, Int.toNat_natCast, Int.le_refl]
  refine ⟨fun m st => ∃ (done rest : List Ex), e.args = done ++ rest ∧ rest.length = m ∧ st.s 54 = .int .i64 done.length ∧ st.s 53 = .int .i64 e.args.length ∧ st.s 52 = .sl (e.args.map Ex.enc) ∧ st.s 5 = .ref 50 1 ∧ st.o 50 = (1, some (true, .row 42 ((done.map fun x => (x.eval row).enc) ++ List.replicate rest.length (PV.agg [PV.int IntKind.i64 0, PV.int IntKind.i64 0, PV.str ⟨#[]⟩])))) ∧ st.s 1 = .sl (row.map Vl.enc) ∧ st.s 2 = .ptr 2 1 0 ∧ st.s 4 = .ptr 4 1 0 ∧ getBox st.o 2 1 = some (49, e.enc.cells) ∧ st.o 4 = (1, some (true, .box 42 [.int .i64 0, .int .i64 0, .str ⟨#[]⟩])), e.args.length,
    ⟨[], e.args, rfl, rfl, by simp only [go_sem, Nat.reduceEqDiff, Nat.reduceAdd, Nat.reduceSub, Nat.reduceLeDiff, Nat.reduceLT, Nat.reduceMul, Nat.reduceBEq, Int.reduceEq, Int.reduceLT, Int.reduceLE, Int.reduceNeg, Int.reduceToNat, reduceCtorEq, ho, Try.results38]; rfl, by simp only [go_sem, Nat.reduceEqDiff, Nat.reduceAdd, Nat.reduceSub, Nat.reduceLeDiff, Nat.reduceLT, Nat.reduceMul, Nat.reduceBEq, Int.reduceEq, Int.reduceLT, Int.reduceLE, Int.reduceNeg, Int.reduceToNat, reduceCtorEq, ho, Try.results38], by simp only [go_sem, Nat.reduceEqDiff, Nat.reduceAdd, Nat.reduceSub, Nat.reduceLeDiff, Nat.reduceLT, Nat.reduceMul, Nat.reduceBEq, Int.reduceEq, Int.reduceLT, Int.reduceLE, Int.reduceNeg, Int.reduceToNat, reduceCtorEq, ho, Try.results38], by simp only [go_sem, Nat.reduceEqDiff, Nat.reduceAdd, Nat.reduceSub, Nat.reduceLeDiff, Nat.reduceLT, Nat.reduceMul, Nat.reduceBEq, Int.reduceEq, Int.reduceLT, Int.reduceLE, Int.reduceNeg, Int.reduceToNat, reduceCtorEq, ho, Try.results38], by simp only [go_sem, Nat.reduceEqDiff, Nat.reduceAdd, Nat.reduceSub, Nat.reduceLeDiff, Nat.reduceLT, Nat.reduceMul, Nat.reduceBEq, Int.reduceEq, Int.reduceLT, Int.reduceLE, Int.reduceNeg, Int.reduceToNat, reduceCtorEq, ho, Try.results38, List.map_nil, List.nil_append], by simp only [go_sem, Nat.reduceEqDiff, Nat.reduceAdd, Nat.reduceSub, Nat.reduceLeDiff, Nat.reduceLT, Nat.reduceMul, Nat.reduceBEq, Int.reduceEq, Int.reduceLT, Int.reduceLE, Int.reduceNeg, Int.reduceToNat, reduceCtorEq, ho, Try.results38], by simp only [go_sem, Nat.reduceEqDiff, Nat.reduceAdd, Nat.reduceSub, Nat.reduceLeDiff, Nat.reduceLT, Nat.reduceMul, Nat.reduceBEq, Int.reduceEq, Int.reduceLT, Int.reduceLE, Int.reduceNeg, Int.reduceToNat, reduceCtorEq, ho, Try.results38], by simp only [go_sem, Nat.reduceEqDiff, Nat.reduceAdd, Nat.reduceSub, Nat.reduceLeDiff, Nat.reduceLT, Nat.reduceMul, Nat.reduceBEq, Int.reduceEq, Int.reduceLT, Int.reduceLE, Int.reduceNeg, Int.reduceToNat, reduceCtorEq, ho, Try.results38], by simp only [go_sem, Nat.reduceEqDiff, Nat.reduceAdd, Nat.reduceSub, Nat.reduceLeDiff, Nat.reduceLT, Nat.reduceMul, Nat.reduceBEq, Int.reduceEq, Int.reduceLT, Int.reduceLE, Int.reduceNeg, Int.reduceToNat, reduceCtorEq, ho, Try.results38, hop], by simp only [go_sem, Nat.reduceEqDiff, Nat.reduceAdd, Nat.reduceSub, Nat.reduceLeDiff, Nat.reduceLT, Nat.reduceMul, Nat.reduceBEq, Int.reduceEq, Int.reduceLT, Int.reduceLE, Int.reduceNeg, Int.reduceToNat, reduceCtorEq, ho, Try.results38]⟩, ?_⟩
  rintro m st ⟨done, rest, hl', hm', h54, h53, h52, h5, h50, hs1, hs2, hs4, hb2, hb4⟩
  have hlen2 : done.length + rest.length = e.args.length := by rw [hl']; simp
  have hw : IntKind.i64.wrap ((done.length : Int) + 1) = (done.length : Int) + 1 := wrap_fits (by omega) (by omega)
  cases rest with
  | nil =>
    have hlt : ¬ (done.length : Int) < (e.args.length : Int) := by simp at hlen2; omega
    obtain hdone : e.args = done := by simpa using hl'
    simp only [List.length_nil, List.replicate, List.append_nil] at h50
    have hrw : (done.map fun x => (x.eval row).enc) = l.map Vl.enc := by rw [hleq, hdone]; simp
    rw [hrw] at h50
    have hrow : getRow st.o 50 1 = some (42, l.map Vl.enc) := by simp [getRow, h50]
    have hvv : ∀ v ∈ l, v.valid = true := fun v hv => by rw [hleq] at hv; obtain ⟨x, _, rfl⟩ := List.mem_map.1 hv; exact Ex.eval_valid row x
    have hg0 := nth_get hpos
    have hl0 : (0 : Int) < (l.length : Int) := by omega
    have h2l : 1 < l.length := by
      have : (e.args.length : Int) = 2 := by simpa [fitsN] using hfit
      omega
    have hg1 := nth_get h2l
    have hl1 : (1 : Int) < (l.length : Int) := by omega
    clear hleq hrw
    simp only [go_sem, Nat.reduceEqDiff, Nat.reduceAdd, Nat.reduceSub, Nat.reduceLeDiff, Nat.reduceLT, Nat.reduceMul, Nat.reduceBEq, Int.reduceEq, Int.reduceLT, Int.reduceLE, Int.reduceNeg, Int.reduceToNat, reduceCtorEq, ho, Try.results38, h54, h53, hlt, hop, h5, hs2, hs4, hb2, hb4, hrow, hg0, hl0, hg1, hl1, Vl.enc]
    refine QCall.fr ?_ (compared_fn 9 (nth l 0) (nth l 1)) (.inl rfl) ?_; (focus (first | rfl | ((simp only [go_sem, Nat.reduceEqDiff, Nat.reduceAdd, Nat.reduceSub, Nat.reduceLeDiff, Nat.reduceLT, Nat.reduceMul, Nat.reduceBEq, Int.reduceEq, Int.reduceLT, Int.reduceLE, Int.reduceNeg, Int.reduceToNat, reduceCtorEq, ho, Try.results38, Vl.enc]); done) | ((simp only [go_sem, Nat.reduceEqDiff, Nat.reduceAdd, Nat.reduceSub, Nat.reduceLeDiff, Nat.reduceLT, Nat.reduceMul, Nat.reduceBEq, Int.reduceEq, Int.reduceLT, Int.reduceLE, Int.reduceNeg, Int.reduceToNat, reduceCtorEq, ho, Try.results38, Vl.enc]); rfl)))
    simp only [go_sem, Nat.reduceEqDiff, Nat.reduceAdd, Nat.reduceSub, Nat.reduceLeDiff, Nat.reduceLT, Nat.reduceMul, Nat.reduceBEq, Int.reduceEq, Int.reduceLT, Int.reduceLE, Int.reduceNeg, Int.reduceToNat, reduceCtorEq, ho, Try.results38]
    refine QCall.fr ?_ (of_fn (Vl.compared 9 (nth l 0) (nth l 1))) (.inl rfl) ?_; (focus (first | rfl | ((simp only [go_sem, Nat.reduceEqDiff, Nat.reduceAdd, Nat.reduceSub, Nat.reduceLeDiff, Nat.reduceLT, Nat.reduceMul, Nat.reduceBEq, Int.reduceEq, Int.reduceLT, Int.reduceLE, Int.reduceNeg, Int.reduceToNat, reduceCtorEq, ho, Try.results38]); done) | ((simp only [go_sem, Nat.reduceEqDiff, Nat.reduceAdd, Nat.reduceSub, Nat.reduceLeDiff, Nat.reduceLT, Nat.reduceMul, Nat.reduceBEq, Int.reduceEq, Int.reduceLT, Int.reduceLE, Int.reduceNeg, Int.reduceToNat, reduceCtorEq, ho, Try.results38]); rfl)))
    simp only [go_sem, Nat.reduceEqDiff, Nat.reduceAdd, Nat.reduceSub, Nat.reduceLeDiff, Nat.reduceLT, Nat.reduceMul, Nat.reduceBEq, Int.reduceEq, Int.reduceLT, Int.reduceLE, Int.reduceNeg, Int.reduceToNat, reduceCtorEq, ho, Try.results38, Vl.enc, h5, hs2, hs4, hb2, hb4]
    rw [evo_9]; exact ⟨rfl, rfl, rfl⟩
  | cons x rest =>
    have hlt : (done.length : Int) < (e.args.length : Int) := by simp at hlen2; omega
    have hget : (e.args.map Ex.enc)[done.length]? = some x.enc := by simp [hl']
    have hxs : x.size ≤ n := by have := hsz; rw [hl', Ex.sizes_app] at this; simp [Ex.sizes] at this; omega
    have hx50 : getRow st.o 50 1 = some (42, (done.map fun x => (x.eval row).enc) ++ List.replicate (rest.length + 1) (PV.agg [PV.int IntKind.i64 0, PV.int IntKind.i64 0, PV.str ⟨#[]⟩])) := by rw [getRow, h50]; rfl
    have hxl : (done.length : Int) < (((done.map fun x => (x.eval row).enc) ++ List.replicate (rest.length + 1) (PV.agg [PV.int IntKind.i64 0, PV.int IntKind.i64 0, PV.str ⟨#[]⟩])).length : Nat) := by simp; omega
    have hx0 : ((done.map fun x => (x.eval row).enc) ++ List.replicate (rest.length + 1) (PV.agg [PV.int IntKind.i64 0, PV.int IntKind.i64 0, PV.str ⟨#[]⟩]))[done.length]? = some (PV.agg [PV.int IntKind.i64 0, PV.int IntKind.i64 0, PV.str ⟨#[]⟩]) := by simp
    rw [List.length_cons] at h50
    simp only [go_sem, Nat.reduceEqDiff, Nat.reduceAdd, Nat.reduceSub, Nat.reduceLeDiff, Nat.reduceLT, Nat.reduceMul, Nat.reduceBEq, Int.reduceEq, Int.reduceLT, Int.reduceLE, Int.reduceNeg, Int.reduceToNat, reduceCtorEq, ho, Try.results38, h54, h53, h52, hlt, hget, Int.natCast_nonneg, Int.toNat_natCast, h5, hs1, hs2, hs4, hb2, hb4, x.enc_eq]
    refine GCall.fr ?_ (IH x hxs) (.inl rfl) ?_; (focus (first | rfl | ((simp only [go_sem, Nat.reduceEqDiff, Nat.reduceAdd, Nat.reduceSub, Nat.reduceLeDiff, Nat.reduceLT, Nat.reduceMul, Nat.reduceBEq, Int.reduceEq, Int.reduceLT, Int.reduceLE, Int.reduceNeg, Int.reduceToNat, reduceCtorEq, ho, Try.results38, x.enc_eq, hs1]); done) | ((simp only [go_sem, Nat.reduceEqDiff, Nat.reduceAdd, Nat.reduceSub, Nat.reduceLeDiff, Nat.reduceLT, Nat.reduceMul, Nat.reduceBEq, Int.reduceEq, Int.reduceLT, Int.reduceLE, Int.reduceNeg, Int.reduceToNat, reduceCtorEq, ho, Try.results38, x.enc_eq, hs1]); rfl)))
    simp only [go_sem, Nat.reduceEqDiff, Nat.reduceAdd, Nat.reduceSub, Nat.reduceLeDiff, Nat.reduceLT, Nat.reduceMul, Nat.reduceBEq, Int.reduceEq, Int.reduceLT, Int.reduceLE, Int.reduceNeg, Int.reduceToNat, reduceCtorEq, ho, Try.results38, h54, h53, h52, h5, hx50, hxl, hx0, h50, Int.natCast_nonneg, Int.toNat_natCast, hs1, hs2, hs4, hb2, hb4, hw]
    refine ⟨rest.length, by simp at hm'; omega, done ++ [x], rest, by simp [hl'], rfl, by simp, ?_⟩
    simp [List.set_append, List.replicate_succ]
theorem evalc_10 (row : List Vl) (n : Nat) (hn : n + 1 ≤ 100000000) (IH : ∀ x : Ex, x.size ≤ n → Fc 38 [x.enc, .sl (row.map Vl.enc)] (x.eval row).enc) (e : Ex) (h : e.size ≤ n + 1) (hf : e.formed = true) (hop : e.op = 10) : Fc 38 [e.enc, .sl (row.map Vl.enc)] (e.eval row).enc := by
  obtain ⟨l, hleq⟩ : ∃ l, l = e.args.map (Ex.eval row) := ⟨_, rfl⟩
  have hev : e.eval row = evalOp row 10 e.int e.val (e.args.map (Ex.eval row)) := by rw [Ex.eval_eq, hf, hop]; rfl
  have hsz := e.size_eq
  have hlen := Ex.len_sizes e.args
  have hfit := formed_len hf
  rw [hop] at hfit
  rw [← hleq] at hev
  refine fn_of_awp (E := E0) (M := M0) follows Try.func38 rfl (by decide) ok38 (by decide) (by simp) fun o ho => ?_
  rw [hev]
  clear hev
  simp only [go_sem, Nat.reduceEqDiff, Nat.reduceAdd, Nat.reduceSub, Nat.reduceLeDiff, Nat.reduceLT, Nat.reduceMul, Nat.reduceBEq, Int.reduceEq, Int.reduceLT, Int.reduceLE, Int.reduceNeg, Int.reduceToNat, reduceCtorEq, ho, Try.results38, e.enc_eq]
  refine GCall.fr ?_ (formed_fn e) (.inl rfl) ?_; (focus (first | rfl | ((simp only [go_sem, Nat.reduceEqDiff, Nat.reduceAdd, Nat.reduceSub, Nat.reduceLeDiff, Nat.reduceLT, Nat.reduceMul, Nat.reduceBEq, Int.reduceEq, Int.reduceLT, Int.reduceLE, Int.reduceNeg, Int.reduceToNat, reduceCtorEq, ho, Try.results38, e.enc_eq]); done) | ((simp only [go_sem, Nat.reduceEqDiff, Nat.reduceAdd, Nat.reduceSub, Nat.reduceLeDiff, Nat.reduceLT, Nat.reduceMul, Nat.reduceBEq, Int.reduceEq, Int.reduceLT, Int.reduceLE, Int.reduceNeg, Int.reduceToNat, reduceCtorEq, ho, Try.results38, e.enc_eq]); rfl)))
  simp only [go_sem, Nat.reduceEqDiff, Nat.reduceAdd, Nat.reduceSub, Nat.reduceLeDiff, Nat.reduceLT, Nat.reduceMul, Nat.reduceBEq, Int.reduceEq, Int.reduceLT, Int.reduceLE, Int.reduceNeg, Int.reduceToNat, reduceCtorEq, ho, Try.results38, hf, hop]
  have hl100 : e.args.length ≤ 100000000 := by omega
  have hllen : l.length = e.args.length := by rw [hleq]; simp
  have hpos := fits_pos (op := 10) (l := l) (by rw [hllen]; exact hfit) (by decide) (by decide)
  have hm : (e.args.length : Int) * (((32 : Nat) : Int) + 1) ≤ 140737488355328 := by omega
  simp only [go_sem, Nat.reduceEqDiff, Nat.reduceAdd, Nat.reduceSub, Nat.reduceLeDiff, Nat.reduceLT, Nat.reduceMul, Nat.reduceBEq, Int.reduceEq, Int.reduceLT, Int.reduceLE, Int.reduceNeg, Int.reduceToNat, reduceCtorEq, ho, Try.results38, List.length_map, Int.natCast_nonneg, hm, true_and, Int.toNat_natCast, Int.le_refl]
  refine ⟨fun m st => ∃ (done rest : List Ex), e.args = done ++ rest ∧ rest.length = m ∧ st.s 54 = .int .i64 done.length ∧ st.s 53 = .int .i64 e.args.length ∧ st.s 52 = .sl (e.args.map Ex.enc) ∧ st.s 5 = .ref 50 1 ∧ st.o 50 = (1, some (true, .row 42 ((done.map fun x => (x.eval row).enc) ++ List.replicate rest.length (PV.agg [PV.int IntKind.i64 0, PV.int IntKind.i64 0, PV.str ⟨#[]⟩])))) ∧ st.s 1 = .sl (row.map Vl.enc) ∧ st.s 2 = .ptr 2 1 0 ∧ st.s 4 = .ptr 4 1 0 ∧ getBox st.o 2 1 = some (49, e.enc.cells) ∧ st.o 4 = (1, some (true, .box 42 [.int .i64 0, .int .i64 0, .str ⟨#[]⟩])), e.args.length,
    ⟨[], e.args, rfl, rfl, by simp only [go_sem, Nat.reduceEqDiff, Nat.reduceAdd, Nat.reduceSub, Nat.reduceLeDiff, Nat.reduceLT, Nat.reduceMul, Nat.reduceBEq, Int.reduceEq, Int.reduceLT, Int.reduceLE, Int.reduceNeg, Int.reduceToNat, reduceCtorEq, ho, Try.results38]; rfl, by simp only [go_sem, Nat.reduceEqDiff, Nat.reduceAdd, Nat.reduceSub, Nat.reduceLeDiff, Nat.reduceLT, Nat.reduceMul, Nat.reduceBEq, Int.reduceEq, Int.reduceLT, Int.reduceLE, Int.reduceNeg, Int.reduceToNat, reduceCtorEq, ho, Try.results38], by simp only [go_sem, Nat.reduceEqDiff, Nat.reduceAdd, Nat.reduceSub, Nat.reduceLeDiff, Nat.reduceLT, Nat.reduceMul, Nat.reduceBEq, Int.reduceEq, Int.reduceLT, Int.reduceLE, Int.reduceNeg, Int.reduceToNat, reduceCtorEq, ho, Try.results38], by simp only [go_sem, Nat.reduceEqDiff, Nat.reduceAdd, Nat.reduceSub, Nat.reduceLeDiff, Nat.reduceLT, Nat.reduceMul, Nat.reduceBEq, Int.reduceEq, Int.reduceLT, Int.reduceLE, Int.reduceNeg, Int.reduceToNat, reduceCtorEq, ho, Try.results38], by simp only [go_sem, Nat.reduceEqDiff, Nat.reduceAdd, Nat.reduceSub, Nat.reduceLeDiff, Nat.reduceLT, Nat.reduceMul, Nat.reduceBEq, Int.reduceEq, Int.reduceLT, Int.reduceLE, Int.reduceNeg, Int.reduceToNat, reduceCtorEq, ho, Try.results38, List.map_nil, List.nil_append], by simp only [go_sem, Nat.reduceEqDiff, Nat.reduceAdd, Nat.reduceSub, Nat.reduceLeDiff, Nat.reduceLT, Nat.reduceMul, Nat.reduceBEq, Int.reduceEq, Int.reduceLT, Int.reduceLE, Int.reduceNeg, Int.reduceToNat, reduceCtorEq, ho, Try.results38], by simp only [go_sem, Nat.reduceEqDiff, Nat.reduceAdd, Nat.reduceSub, Nat.reduceLeDiff, Nat.reduceLT, Nat.reduceMul, Nat.reduceBEq, Int.reduceEq, Int.reduceLT, Int.reduceLE, Int.reduceNeg, Int.reduceToNat, reduceCtorEq, ho, Try.results38], by simp only [go_sem, Nat.reduceEqDiff, Nat.reduceAdd, Nat.reduceSub, Nat.reduceLeDiff, Nat.reduceLT, Nat.reduceMul, Nat.reduceBEq, Int.reduceEq, Int.reduceLT, Int.reduceLE, Int.reduceNeg, Int.reduceToNat, reduceCtorEq, ho, Try.results38], by simp only [go_sem, Nat.reduceEqDiff, Nat.reduceAdd, Nat.reduceSub, Nat.reduceLeDiff, Nat.reduceLT, Nat.reduceMul, Nat.reduceBEq, Int.reduceEq, Int.reduceLT, Int.reduceLE, Int.reduceNeg, Int.reduceToNat, reduceCtorEq, ho, Try.results38, hop], by simp only [go_sem, Nat.reduceEqDiff, Nat.reduceAdd, Nat.reduceSub, Nat.reduceLeDiff, Nat.reduceLT, Nat.reduceMul, Nat.reduceBEq, Int.reduceEq, Int.reduceLT, Int.reduceLE, Int.reduceNeg, Int.reduceToNat, reduceCtorEq, ho, Try.results38]⟩, ?_⟩
  rintro m st ⟨done, rest, hl', hm', h54, h53, h52, h5, h50, hs1, hs2, hs4, hb2, hb4⟩
  have hlen2 : done.length + rest.length = e.args.length := by rw [hl']; simp
  have hw : IntKind.i64.wrap ((done.length : Int) + 1) = (done.length : Int) + 1 := wrap_fits (by omega) (by omega)
  cases rest with
  | nil =>
    have hlt : ¬ (done.length : Int) < (e.args.length : Int) := by simp at hlen2; omega
    obtain hdone : e.args = done := by simpa using hl'
    simp only [List.length_nil, List.replicate, List.append_nil] at h50
    have hrw : (done.map fun x => (x.eval row).enc) = l.map Vl.enc := by rw [hleq, hdone]; simp
    rw [hrw] at h50
    have hrow : getRow st.o 50 1 = some (42, l.map Vl.enc) := by simp [getRow, h50]
    have hvv : ∀ v ∈ l, v.valid = true := fun v hv => by rw [hleq] at hv; obtain ⟨x, _, rfl⟩ := List.mem_map.1 hv; exact Ex.eval_valid row x
    have hg0 := nth_get hpos
    have hl0 : (0 : Int) < (l.length : Int) := by omega
    have h2l : 1 < l.length := by
      have : (e.args.length : Int) = 2 := by simpa [fitsN] using hfit
      omega
    have hg1 := nth_get h2l
    have hl1 : (1 : Int) < (l.length : Int) := by omega
    clear hleq hrw
    simp only [go_sem, Nat.reduceEqDiff, Nat.reduceAdd, Nat.reduceSub, Nat.reduceLeDiff, Nat.reduceLT, Nat.reduceMul, Nat.reduceBEq, Int.reduceEq, Int.reduceLT, Int.reduceLE, Int.reduceNeg, Int.reduceToNat, reduceCtorEq, ho, Try.results38, h54, h53, hlt, hop, h5, hs2, hs4, hb2, hb4, hrow, hg0, hl0, hg1, hl1, Vl.enc]
    refine QCall.fr ?_ (compared_fn 10 (nth l 0) (nth l 1)) (.inl rfl) ?_; (focus (first | rfl | ((simp only [go_sem, Nat.reduceEqDiff, Nat.reduceAdd, Nat.reduceSub, Nat.reduceLeDiff, Nat.reduceLT, Nat.reduceMul, Nat.reduceBEq, Int.reduceEq, Int.reduceLT, Int.reduceLE, Int.reduceNeg, Int.reduceToNat, reduceCtorEq, ho, Try.results38, Vl.enc]); done) | ((simp only [go_sem, Nat.reduceEqDiff, Nat.reduceAdd, Nat.reduceSub, Nat.reduceLeDiff, Nat.reduceLT, Nat.reduceMul, Nat.reduceBEq, Int.reduceEq, Int.reduceLT, Int.reduceLE, Int.reduceNeg, Int.reduceToNat, reduceCtorEq, ho, Try.results38, Vl.enc]); rfl)))
    simp only [go_sem, Nat.reduceEqDiff, Nat.reduceAdd, Nat.reduceSub, Nat.reduceLeDiff, Nat.reduceLT, Nat.reduceMul, Nat.reduceBEq, Int.reduceEq, Int.reduceLT, Int.reduceLE, Int.reduceNeg, Int.reduceToNat, reduceCtorEq, ho, Try.results38]
    refine QCall.fr ?_ (of_fn (Vl.compared 10 (nth l 0) (nth l 1))) (.inl rfl) ?_; (focus (first | rfl | ((simp only [go_sem, Nat.reduceEqDiff, Nat.reduceAdd, Nat.reduceSub, Nat.reduceLeDiff, Nat.reduceLT, Nat.reduceMul, Nat.reduceBEq, Int.reduceEq, Int.reduceLT, Int.reduceLE, Int.reduceNeg, Int.reduceToNat, reduceCtorEq, ho, Try.results38]); done) | ((simp only [go_sem, Nat.reduceEqDiff, Nat.reduceAdd, Nat.reduceSub, Nat.reduceLeDiff, Nat.reduceLT, Nat.reduceMul, Nat.reduceBEq, Int.reduceEq, Int.reduceLT, Int.reduceLE, Int.reduceNeg, Int.reduceToNat, reduceCtorEq, ho, Try.results38]); rfl)))
    simp only [go_sem, Nat.reduceEqDiff, Nat.reduceAdd, Nat.reduceSub, Nat.reduceLeDiff, Nat.reduceLT, Nat.reduceMul, Nat.reduceBEq, Int.reduceEq, Int.reduceLT, Int.reduceLE, Int.reduceNeg, Int.reduceToNat, reduceCtorEq, ho, Try.results38, Vl.enc, h5, hs2, hs4, hb2, hb4]
    rw [evo_10]; exact ⟨rfl, rfl, rfl⟩
  | cons x rest =>
    have hlt : (done.length : Int) < (e.args.length : Int) := by simp at hlen2; omega
    have hget : (e.args.map Ex.enc)[done.length]? = some x.enc := by simp [hl']
    have hxs : x.size ≤ n := by have := hsz; rw [hl', Ex.sizes_app] at this; simp [Ex.sizes] at this; omega
    have hx50 : getRow st.o 50 1 = some (42, (done.map fun x => (x.eval row).enc) ++ List.replicate (rest.length + 1) (PV.agg [PV.int IntKind.i64 0, PV.int IntKind.i64 0, PV.str ⟨#[]⟩])) := by rw [getRow, h50]; rfl
    have hxl : (done.length : Int) < (((done.map fun x => (x.eval row).enc) ++ List.replicate (rest.length + 1) (PV.agg [PV.int IntKind.i64 0, PV.int IntKind.i64 0, PV.str ⟨#[]⟩])).length : Nat) := by simp; omega
    have hx0 : ((done.map fun x => (x.eval row).enc) ++ List.replicate (rest.length + 1) (PV.agg [PV.int IntKind.i64 0, PV.int IntKind.i64 0, PV.str ⟨#[]⟩]))[done.length]? = some (PV.agg [PV.int IntKind.i64 0, PV.int IntKind.i64 0, PV.str ⟨#[]⟩]) := by simp
    rw [List.length_cons] at h50
    simp only [go_sem, Nat.reduceEqDiff, Nat.reduceAdd, Nat.reduceSub, Nat.reduceLeDiff, Nat.reduceLT, Nat.reduceMul, Nat.reduceBEq, Int.reduceEq, Int.reduceLT, Int.reduceLE, Int.reduceNeg, Int.reduceToNat, reduceCtorEq, ho, Try.results38, h54, h53, h52, hlt, hget, Int.natCast_nonneg, Int.toNat_natCast, h5, hs1, hs2, hs4, hb2, hb4, x.enc_eq]
    refine GCall.fr ?_ (IH x hxs) (.inl rfl) ?_; (focus (first | rfl | ((simp only [go_sem, Nat.reduceEqDiff, Nat.reduceAdd, Nat.reduceSub, Nat.reduceLeDiff, Nat.reduceLT, Nat.reduceMul, Nat.reduceBEq, Int.reduceEq, Int.reduceLT, Int.reduceLE, Int.reduceNeg, Int.reduceToNat, reduceCtorEq, ho, Try.results38, x.enc_eq, hs1]); done) | ((simp only [go_sem, Nat.reduceEqDiff, Nat.reduceAdd, Nat.reduceSub, Nat.reduceLeDiff, Nat.reduceLT, Nat.reduceMul, Nat.reduceBEq, Int.reduceEq, Int.reduceLT, Int.reduceLE, Int.reduceNeg, Int.reduceToNat, reduceCtorEq, ho, Try.results38, x.enc_eq, hs1]); rfl)))
    simp only [go_sem, Nat.reduceEqDiff, Nat.reduceAdd, Nat.reduceSub, Nat.reduceLeDiff, Nat.reduceLT, Nat.reduceMul, Nat.reduceBEq, Int.reduceEq, Int.reduceLT, Int.reduceLE, Int.reduceNeg, Int.reduceToNat, reduceCtorEq, ho, Try.results38, h54, h53, h52, h5, hx50, hxl, hx0, h50, Int.natCast_nonneg, Int.toNat_natCast, hs1, hs2, hs4, hb2, hb4, hw]
    refine ⟨rest.length, by simp at hm'; omega, done ++ [x], rest, by simp [hl'], rfl, by simp, ?_⟩
    simp [List.set_append, List.replicate_succ]
theorem evalc_11 (row : List Vl) (n : Nat) (hn : n + 1 ≤ 100000000) (IH : ∀ x : Ex, x.size ≤ n → Fc 38 [x.enc, .sl (row.map Vl.enc)] (x.eval row).enc) (e : Ex) (h : e.size ≤ n + 1) (hf : e.formed = true) (hop : e.op = 11) : Fc 38 [e.enc, .sl (row.map Vl.enc)] (e.eval row).enc := by
  obtain ⟨l, hleq⟩ : ∃ l, l = e.args.map (Ex.eval row) := ⟨_, rfl⟩
  have hev : e.eval row = evalOp row 11 e.int e.val (e.args.map (Ex.eval row)) := by rw [Ex.eval_eq, hf, hop]; rfl
  have hsz := e.size_eq
  have hlen := Ex.len_sizes e.args
  have hfit := formed_len hf
  rw [hop] at hfit
  rw [← hleq] at hev
  refine fn_of_awp (E := E0) (M := M0) follows Try.func38 rfl (by decide) ok38 (by decide) (by simp) fun o ho => ?_
  rw [hev]
  clear hev
  simp only [go_sem, Nat.reduceEqDiff, Nat.reduceAdd, Nat.reduceSub, Nat.reduceLeDiff, Nat.reduceLT, Nat.reduceMul, Nat.reduceBEq, Int.reduceEq, Int.reduceLT, Int.reduceLE, Int.reduceNeg, Int.reduceToNat, reduceCtorEq, ho, Try.results38, e.enc_eq]
  refine GCall.fr ?_ (formed_fn e) (.inl rfl) ?_; (focus (first | rfl | ((simp only [go_sem, Nat.reduceEqDiff, Nat.reduceAdd, Nat.reduceSub, Nat.reduceLeDiff, Nat.reduceLT, Nat.reduceMul, Nat.reduceBEq, Int.reduceEq, Int.reduceLT, Int.reduceLE, Int.reduceNeg, Int.reduceToNat, reduceCtorEq, ho, Try.results38, e.enc_eq]); done) | ((simp only [go_sem, Nat.reduceEqDiff, Nat.reduceAdd, Nat.reduceSub, Nat.reduceLeDiff, Nat.reduceLT, Nat.reduceMul, Nat.reduceBEq, Int.reduceEq, Int.reduceLT, Int.reduceLE, Int.reduceNeg, Int.reduceToNat, reduceCtorEq, ho, Try.results38, e.enc_eq]); rfl)))
  simp only [go_sem, Nat.reduceEqDiff, Nat.reduceAdd, Nat.reduceSub, Nat.reduceLeDiff, Nat.reduceLT, Nat.reduceMul, Nat.reduceBEq, Int.reduceEq, Int.reduceLT, Int.reduceLE, Int.reduceNeg, Int.reduceToNat, reduceCtorEq, ho, Try.results38, hf, hop]
  have hl100 : e.args.length ≤ 100000000 := by omega
  have hllen : l.length = e.args.length := by rw [hleq]; simp
  have hpos := fits_pos (op := 11) (l := l) (by rw [hllen]; exact hfit) (by decide) (by decide)
  have hm : (e.args.length : Int) * (((32 : Nat) : Int) + 1) ≤ 140737488355328 := by omega
  simp only [go_sem, Nat.reduceEqDiff, Nat.reduceAdd, Nat.reduceSub, Nat.reduceLeDiff, Nat.reduceLT, Nat.reduceMul, Nat.reduceBEq, Int.reduceEq, Int.reduceLT, Int.reduceLE, Int.reduceNeg, Int.reduceToNat, reduceCtorEq, ho, Try.results38, List.length_map, Int.natCast_nonneg, hm, true_and, Int.toNat_natCast, Int.le_refl]
  refine ⟨fun m st => ∃ (done rest : List Ex), e.args = done ++ rest ∧ rest.length = m ∧ st.s 54 = .int .i64 done.length ∧ st.s 53 = .int .i64 e.args.length ∧ st.s 52 = .sl (e.args.map Ex.enc) ∧ st.s 5 = .ref 50 1 ∧ st.o 50 = (1, some (true, .row 42 ((done.map fun x => (x.eval row).enc) ++ List.replicate rest.length (PV.agg [PV.int IntKind.i64 0, PV.int IntKind.i64 0, PV.str ⟨#[]⟩])))) ∧ st.s 1 = .sl (row.map Vl.enc) ∧ st.s 2 = .ptr 2 1 0 ∧ st.s 4 = .ptr 4 1 0 ∧ getBox st.o 2 1 = some (49, e.enc.cells) ∧ st.o 4 = (1, some (true, .box 42 [.int .i64 0, .int .i64 0, .str ⟨#[]⟩])), e.args.length,
    ⟨[], e.args, rfl, rfl, by simp only [go_sem, Nat.reduceEqDiff, Nat.reduceAdd, Nat.reduceSub, Nat.reduceLeDiff, Nat.reduceLT, Nat.reduceMul, Nat.reduceBEq, Int.reduceEq, Int.reduceLT, Int.reduceLE, Int.reduceNeg, Int.reduceToNat, reduceCtorEq, ho, Try.results38]; rfl, by simp only [go_sem, Nat.reduceEqDiff, Nat.reduceAdd, Nat.reduceSub, Nat.reduceLeDiff, Nat.reduceLT, Nat.reduceMul, Nat.reduceBEq, Int.reduceEq, Int.reduceLT, Int.reduceLE, Int.reduceNeg, Int.reduceToNat, reduceCtorEq, ho, Try.results38], by simp only [go_sem, Nat.reduceEqDiff, Nat.reduceAdd, Nat.reduceSub, Nat.reduceLeDiff, Nat.reduceLT, Nat.reduceMul, Nat.reduceBEq, Int.reduceEq, Int.reduceLT, Int.reduceLE, Int.reduceNeg, Int.reduceToNat, reduceCtorEq, ho, Try.results38], by simp only [go_sem, Nat.reduceEqDiff, Nat.reduceAdd, Nat.reduceSub, Nat.reduceLeDiff, Nat.reduceLT, Nat.reduceMul, Nat.reduceBEq, Int.reduceEq, Int.reduceLT, Int.reduceLE, Int.reduceNeg, Int.reduceToNat, reduceCtorEq, ho, Try.results38], by simp only [go_sem, Nat.reduceEqDiff, Nat.reduceAdd, Nat.reduceSub, Nat.reduceLeDiff, Nat.reduceLT, Nat.reduceMul, Nat.reduceBEq, Int.reduceEq, Int.reduceLT, Int.reduceLE, Int.reduceNeg, Int.reduceToNat, reduceCtorEq, ho, Try.results38, List.map_nil, List.nil_append], by simp only [go_sem, Nat.reduceEqDiff, Nat.reduceAdd, Nat.reduceSub, Nat.reduceLeDiff, Nat.reduceLT, Nat.reduceMul, Nat.reduceBEq, Int.reduceEq, Int.reduceLT, Int.reduceLE, Int.reduceNeg, Int.reduceToNat, reduceCtorEq, ho, Try.results38], by simp only [go_sem, Nat.reduceEqDiff, Nat.reduceAdd, Nat.reduceSub, Nat.reduceLeDiff, Nat.reduceLT, Nat.reduceMul, Nat.reduceBEq, Int.reduceEq, Int.reduceLT, Int.reduceLE, Int.reduceNeg, Int.reduceToNat, reduceCtorEq, ho, Try.results38], by simp only [go_sem, Nat.reduceEqDiff, Nat.reduceAdd, Nat.reduceSub, Nat.reduceLeDiff, Nat.reduceLT, Nat.reduceMul, Nat.reduceBEq, Int.reduceEq, Int.reduceLT, Int.reduceLE, Int.reduceNeg, Int.reduceToNat, reduceCtorEq, ho, Try.results38], by simp only [go_sem, Nat.reduceEqDiff, Nat.reduceAdd, Nat.reduceSub, Nat.reduceLeDiff, Nat.reduceLT, Nat.reduceMul, Nat.reduceBEq, Int.reduceEq, Int.reduceLT, Int.reduceLE, Int.reduceNeg, Int.reduceToNat, reduceCtorEq, ho, Try.results38, hop], by simp only [go_sem, Nat.reduceEqDiff, Nat.reduceAdd, Nat.reduceSub, Nat.reduceLeDiff, Nat.reduceLT, Nat.reduceMul, Nat.reduceBEq, Int.reduceEq, Int.reduceLT, Int.reduceLE, Int.reduceNeg, Int.reduceToNat, reduceCtorEq, ho, Try.results38]⟩, ?_⟩
  rintro m st ⟨done, rest, hl', hm', h54, h53, h52, h5, h50, hs1, hs2, hs4, hb2, hb4⟩
  have hlen2 : done.length + rest.length = e.args.length := by rw [hl']; simp
  have hw : IntKind.i64.wrap ((done.length : Int) + 1) = (done.length : Int) + 1 := wrap_fits (by omega) (by omega)
  cases rest with
  | nil =>
    have hlt : ¬ (done.length : Int) < (e.args.length : Int) := by simp at hlen2; omega
    obtain hdone : e.args = done := by simpa using hl'
    simp only [List.length_nil, List.replicate, List.append_nil] at h50
    have hrw : (done.map fun x => (x.eval row).enc) = l.map Vl.enc := by rw [hleq, hdone]; simp
    rw [hrw] at h50
    have hrow : getRow st.o 50 1 = some (42, l.map Vl.enc) := by simp [getRow, h50]
    have hvv : ∀ v ∈ l, v.valid = true := fun v hv => by rw [hleq] at hv; obtain ⟨x, _, rfl⟩ := List.mem_map.1 hv; exact Ex.eval_valid row x
    have hg0 := nth_get hpos
    have hl0 : (0 : Int) < (l.length : Int) := by omega
    have h2l : 1 < l.length := by
      have : (e.args.length : Int) = 2 := by simpa [fitsN] using hfit
      omega
    have hg1 := nth_get h2l
    have hl1 : (1 : Int) < (l.length : Int) := by omega
    clear hleq hrw
    simp only [go_sem, Nat.reduceEqDiff, Nat.reduceAdd, Nat.reduceSub, Nat.reduceLeDiff, Nat.reduceLT, Nat.reduceMul, Nat.reduceBEq, Int.reduceEq, Int.reduceLT, Int.reduceLE, Int.reduceNeg, Int.reduceToNat, reduceCtorEq, ho, Try.results38, h54, h53, hlt, hop, h5, hs2, hs4, hb2, hb4, hrow, hg0, hl0, hg1, hl1, Vl.enc]
    refine QCall.fr ?_ (compared_fn 11 (nth l 0) (nth l 1)) (.inl rfl) ?_; (focus (first | rfl | ((simp only [go_sem, Nat.reduceEqDiff, Nat.reduceAdd, Nat.reduceSub, Nat.reduceLeDiff, Nat.reduceLT, Nat.reduceMul, Nat.reduceBEq, Int.reduceEq, Int.reduceLT, Int.reduceLE, Int.reduceNeg, Int.reduceToNat, reduceCtorEq, ho, Try.results38, Vl.enc]); done) | ((simp only [go_sem, Nat.reduceEqDiff, Nat.reduceAdd, Nat.reduceSub, Nat.reduceLeDiff, Nat.reduceLT, Nat.reduceMul, Nat.reduceBEq, Int.reduceEq, Int.reduceLT, Int.reduceLE, Int.reduceNeg, Int.reduceToNat, reduceCtorEq, ho, Try.results38, Vl.enc]); rfl)))
    simp only [go_sem, Nat.reduceEqDiff, Nat.reduceAdd, Nat.reduceSub, Nat.reduceLeDiff, Nat.reduceLT, Nat.reduceMul, Nat.reduceBEq, Int.reduceEq, Int.reduceLT, Int.reduceLE, Int.reduceNeg, Int.reduceToNat, reduceCtorEq, ho, Try.results38]
    refine QCall.fr ?_ (of_fn (Vl.compared 11 (nth l 0) (nth l 1))) (.inl rfl) ?_; (focus (first | rfl | ((simp only [go_sem, Nat.reduceEqDiff, Nat.reduceAdd, Nat.reduceSub, Nat.reduceLeDiff, Nat.reduceLT, Nat.reduceMul, Nat.reduceBEq, Int.reduceEq, Int.reduceLT, Int.reduceLE, Int.reduceNeg, Int.reduceToNat, reduceCtorEq, ho, Try.results38]); done) | ((simp only [go_sem, Nat.reduceEqDiff, Nat.reduceAdd, Nat.reduceSub, Nat.reduceLeDiff, Nat.reduceLT, Nat.reduceMul, Nat.reduceBEq, Int.reduceEq, Int.reduceLT, Int.reduceLE, Int.reduceNeg, Int.reduceToNat, reduceCtorEq, ho, Try.results38]); rfl)))
    simp only [go_sem, Nat.reduceEqDiff, Nat.reduceAdd, Nat.reduceSub, Nat.reduceLeDiff, Nat.reduceLT, Nat.reduceMul, Nat.reduceBEq, Int.reduceEq, Int.reduceLT, Int.reduceLE, Int.reduceNeg, Int.reduceToNat, reduceCtorEq, ho, Try.results38, Vl.enc, h5, hs2, hs4, hb2, hb4]
    rw [evo_11]; exact ⟨rfl, rfl, rfl⟩
  | cons x rest =>
    have hlt : (done.length : Int) < (e.args.length : Int) := by simp at hlen2; omega
    have hget : (e.args.map Ex.enc)[done.length]? = some x.enc := by simp [hl']
    have hxs : x.size ≤ n := by have := hsz; rw [hl', Ex.sizes_app] at this; simp [Ex.sizes] at this; omega
    have hx50 : getRow st.o 50 1 = some (42, (done.map fun x => (x.eval row).enc) ++ List.replicate (rest.length + 1) (PV.agg [PV.int IntKind.i64 0, PV.int IntKind.i64 0, PV.str ⟨#[]⟩])) := by rw [getRow, h50]; rfl
    have hxl : (done.length : Int) < (((done.map fun x => (x.eval row).enc) ++ List.replicate (rest.length + 1) (PV.agg [PV.int IntKind.i64 0, PV.int IntKind.i64 0, PV.str ⟨#[]⟩])).length : Nat) := by simp; omega
    have hx0 : ((done.map fun x => (x.eval row).enc) ++ List.replicate (rest.length + 1) (PV.agg [PV.int IntKind.i64 0, PV.int IntKind.i64 0, PV.str ⟨#[]⟩]))[done.length]? = some (PV.agg [PV.int IntKind.i64 0, PV.int IntKind.i64 0, PV.str ⟨#[]⟩]) := by simp
    rw [List.length_cons] at h50
    simp only [go_sem, Nat.reduceEqDiff, Nat.reduceAdd, Nat.reduceSub, Nat.reduceLeDiff, Nat.reduceLT, Nat.reduceMul, Nat.reduceBEq, Int.reduceEq, Int.reduceLT, Int.reduceLE, Int.reduceNeg, Int.reduceToNat, reduceCtorEq, ho, Try.results38, h54, h53, h52, hlt, hget, Int.natCast_nonneg, Int.toNat_natCast, h5, hs1, hs2, hs4, hb2, hb4, x.enc_eq]
    refine GCall.fr ?_ (IH x hxs) (.inl rfl) ?_; (focus (first | rfl | ((simp only [go_sem, Nat.reduceEqDiff, Nat.reduceAdd, Nat.reduceSub, Nat.reduceLeDiff, Nat.reduceLT, Nat.reduceMul, Nat.reduceBEq, Int.reduceEq, Int.reduceLT, Int.reduceLE, Int.reduceNeg, Int.reduceToNat, reduceCtorEq, ho, Try.results38, x.enc_eq, hs1]); done) | ((simp only [go_sem, Nat.reduceEqDiff, Nat.reduceAdd, Nat.reduceSub, Nat.reduceLeDiff, Nat.reduceLT, Nat.reduceMul, Nat.reduceBEq, Int.reduceEq, Int.reduceLT, Int.reduceLE, Int.reduceNeg, Int.reduceToNat, reduceCtorEq, ho, Try.results38, x.enc_eq, hs1]); rfl)))
    simp only [go_sem, Nat.reduceEqDiff, Nat.reduceAdd, Nat.reduceSub, Nat.reduceLeDiff, Nat.reduceLT, Nat.reduceMul, Nat.reduceBEq, Int.reduceEq, Int.reduceLT, Int.reduceLE, Int.reduceNeg, Int.reduceToNat, reduceCtorEq, ho, Try.results38, h54, h53, h52, h5, hx50, hxl, hx0, h50, Int.natCast_nonneg, Int.toNat_natCast, hs1, hs2, hs4, hb2, hb4, hw]
    refine ⟨rest.length, by simp at hm'; omega, done ++ [x], rest, by simp [hl'], rfl, by simp, ?_⟩
    simp [List.set_append, List.replicate_succ]
theorem evalc_12 (row : List Vl) (n : Nat) (hn : n + 1 ≤ 100000000) (IH : ∀ x : Ex, x.size ≤ n → Fc 38 [x.enc, .sl (row.map Vl.enc)] (x.eval row).enc) (e : Ex) (h : e.size ≤ n + 1) (hf : e.formed = true) (hop : e.op = 12) : Fc 38 [e.enc, .sl (row.map Vl.enc)] (e.eval row).enc := by
  obtain ⟨l, hleq⟩ : ∃ l, l = e.args.map (Ex.eval row) := ⟨_, rfl⟩
  have hev : e.eval row = evalOp row 12 e.int e.val (e.args.map (Ex.eval row)) := by rw [Ex.eval_eq, hf, hop]; rfl
  have hsz := e.size_eq
  have hlen := Ex.len_sizes e.args
  have hfit := formed_len hf
  rw [hop] at hfit
  rw [← hleq] at hev
  refine fn_of_awp (E := E0) (M := M0) follows Try.func38 rfl (by decide) ok38 (by decide) (by simp) fun o ho => ?_
  rw [hev]
  clear hev
  simp only [go_sem, Nat.reduceEqDiff, Nat.reduceAdd, Nat.reduceSub, Nat.reduceLeDiff, Nat.reduceLT, Nat.reduceMul, Nat.reduceBEq, Int.reduceEq, Int.reduceLT, Int.reduceLE, Int.reduceNeg, Int.reduceToNat, reduceCtorEq, ho, Try.results38, e.enc_eq]
  refine GCall.fr ?_ (formed_fn e) (.inl rfl) ?_; (focus (first | rfl | ((simp only [go_sem, Nat.reduceEqDiff, Nat.reduceAdd, Nat.reduceSub, Nat.reduceLeDiff, Nat.reduceLT, Nat.reduceMul, Nat.reduceBEq, Int.reduceEq, Int.reduceLT, Int.reduceLE, Int.reduceNeg, Int.reduceToNat, reduceCtorEq, ho, Try.results38, e.enc_eq]); done) | ((simp only [go_sem, Nat.reduceEqDiff, Nat.reduceAdd, Nat.reduceSub, Nat.reduceLeDiff, Nat.reduceLT, Nat.reduceMul, Nat.reduceBEq, Int.reduceEq, Int.reduceLT, Int.reduceLE, Int.reduceNeg, Int.reduceToNat, reduceCtorEq, ho, Try.results38, e.enc_eq]); rfl)))
  simp only [go_sem, Nat.reduceEqDiff, Nat.reduceAdd, Nat.reduceSub, Nat.reduceLeDiff, Nat.reduceLT, Nat.reduceMul, Nat.reduceBEq, Int.reduceEq, Int.reduceLT, Int.reduceLE, Int.reduceNeg, Int.reduceToNat, reduceCtorEq, ho, Try.results38, hf, hop]
  have hl100 : e.args.length ≤ 100000000 := by omega
  have hllen : l.length = e.args.length := by rw [hleq]; simp
  have hpos := fits_pos (op := 12) (l := l) (by rw [hllen]; exact hfit) (by decide) (by decide)
  have hm : (e.args.length : Int) * (((32 : Nat) : Int) + 1) ≤ 140737488355328 := by omega
  simp only [go_sem, Nat.reduceEqDiff, Nat.reduceAdd, Nat.reduceSub, Nat.reduceLeDiff, Nat.reduceLT, Nat.reduceMul, Nat.reduceBEq, Int.reduceEq, Int.reduceLT, Int.reduceLE, Int.reduceNeg, Int.reduceToNat, reduceCtorEq, ho, Try.results38, List.length_map, Int.natCast_nonneg, hm, true_and, Int.toNat_natCast, Int.le_refl]
  refine ⟨fun m st => ∃ (done rest : List Ex), e.args = done ++ rest ∧ rest.length = m ∧ st.s 54 = .int .i64 done.length ∧ st.s 53 = .int .i64 e.args.length ∧ st.s 52 = .sl (e.args.map Ex.enc) ∧ st.s 5 = .ref 50 1 ∧ st.o 50 = (1, some (true, .row 42 ((done.map fun x => (x.eval row).enc) ++ List.replicate rest.length (PV.agg [PV.int IntKind.i64 0, PV.int IntKind.i64 0, PV.str ⟨#[]⟩])))) ∧ st.s 1 = .sl (row.map Vl.enc) ∧ st.s 2 = .ptr 2 1 0 ∧ st.s 4 = .ptr 4 1 0 ∧ getBox st.o 2 1 = some (49, e.enc.cells) ∧ st.o 4 = (1, some (true, .box 42 [.int .i64 0, .int .i64 0, .str ⟨#[]⟩])), e.args.length,
    ⟨[], e.args, rfl, rfl, by simp only [go_sem, Nat.reduceEqDiff, Nat.reduceAdd, Nat.reduceSub, Nat.reduceLeDiff, Nat.reduceLT, Nat.reduceMul, Nat.reduceBEq, Int.reduceEq, Int.reduceLT, Int.reduceLE, Int.reduceNeg, Int.reduceToNat, reduceCtorEq, ho, Try.results38]; rfl, by simp only [go_sem, Nat.reduceEqDiff, Nat.reduceAdd, Nat.reduceSub, Nat.reduceLeDiff, Nat.reduceLT, Nat.reduceMul, Nat.reduceBEq, Int.reduceEq, Int.reduceLT, Int.reduceLE, Int.reduceNeg, Int.reduceToNat, reduceCtorEq, ho, Try.results38], by simp only [go_sem, Nat.reduceEqDiff, Nat.reduceAdd, Nat.reduceSub, Nat.reduceLeDiff, Nat.reduceLT, Nat.reduceMul, Nat.reduceBEq, Int.reduceEq, Int.reduceLT, Int.reduceLE, Int.reduceNeg, Int.reduceToNat, reduceCtorEq, ho, Try.results38], by simp only [go_sem, Nat.reduceEqDiff, Nat.reduceAdd, Nat.reduceSub, Nat.reduceLeDiff, Nat.reduceLT, Nat.reduceMul, Nat.reduceBEq, Int.reduceEq, Int.reduceLT, Int.reduceLE, Int.reduceNeg, Int.reduceToNat, reduceCtorEq, ho, Try.results38], by simp only [go_sem, Nat.reduceEqDiff, Nat.reduceAdd, Nat.reduceSub, Nat.reduceLeDiff, Nat.reduceLT, Nat.reduceMul, Nat.reduceBEq, Int.reduceEq, Int.reduceLT, Int.reduceLE, Int.reduceNeg, Int.reduceToNat, reduceCtorEq, ho, Try.results38, List.map_nil, List.nil_append], by simp only [go_sem, Nat.reduceEqDiff, Nat.reduceAdd, Nat.reduceSub, Nat.reduceLeDiff, Nat.reduceLT, Nat.reduceMul, Nat.reduceBEq, Int.reduceEq, Int.reduceLT, Int.reduceLE, Int.reduceNeg, Int.reduceToNat, reduceCtorEq, ho, Try.results38], by simp only [go_sem, Nat.reduceEqDiff, Nat.reduceAdd, Nat.reduceSub, Nat.reduceLeDiff, Nat.reduceLT, Nat.reduceMul, Nat.reduceBEq, Int.reduceEq, Int.reduceLT, Int.reduceLE, Int.reduceNeg, Int.reduceToNat, reduceCtorEq, ho, Try.results38], by simp only [go_sem, Nat.reduceEqDiff, Nat.reduceAdd, Nat.reduceSub, Nat.reduceLeDiff, Nat.reduceLT, Nat.reduceMul, Nat.reduceBEq, Int.reduceEq, Int.reduceLT, Int.reduceLE, Int.reduceNeg, Int.reduceToNat, reduceCtorEq, ho, Try.results38], by simp only [go_sem, Nat.reduceEqDiff, Nat.reduceAdd, Nat.reduceSub, Nat.reduceLeDiff, Nat.reduceLT, Nat.reduceMul, Nat.reduceBEq, Int.reduceEq, Int.reduceLT, Int.reduceLE, Int.reduceNeg, Int.reduceToNat, reduceCtorEq, ho, Try.results38, hop], by simp only [go_sem, Nat.reduceEqDiff, Nat.reduceAdd, Nat.reduceSub, Nat.reduceLeDiff, Nat.reduceLT, Nat.reduceMul, Nat.reduceBEq, Int.reduceEq, Int.reduceLT, Int.reduceLE, Int.reduceNeg, Int.reduceToNat, reduceCtorEq, ho, Try.results38]⟩, ?_⟩
  rintro m st ⟨done, rest, hl', hm', h54, h53, h52, h5, h50, hs1, hs2, hs4, hb2, hb4⟩
  have hlen2 : done.length + rest.length = e.args.length := by rw [hl']; simp
  have hw : IntKind.i64.wrap ((done.length : Int) + 1) = (done.length : Int) + 1 := wrap_fits (by omega) (by omega)
  cases rest with
  | nil =>
    have hlt : ¬ (done.length : Int) < (e.args.length : Int) := by simp at hlen2; omega
    obtain hdone : e.args = done := by simpa using hl'
    simp only [List.length_nil, List.replicate, List.append_nil] at h50
    have hrw : (done.map fun x => (x.eval row).enc) = l.map Vl.enc := by rw [hleq, hdone]; simp
    rw [hrw] at h50
    have hrow : getRow st.o 50 1 = some (42, l.map Vl.enc) := by simp [getRow, h50]
    have hvv : ∀ v ∈ l, v.valid = true := fun v hv => by rw [hleq] at hv; obtain ⟨x, _, rfl⟩ := List.mem_map.1 hv; exact Ex.eval_valid row x
    have hg0 := nth_get hpos
    have hl0 : (0 : Int) < (l.length : Int) := by omega
    have h2l : 1 < l.length := by
      have : (e.args.length : Int) = 2 := by simpa [fitsN] using hfit
      omega
    have hg1 := nth_get h2l
    have hl1 : (1 : Int) < (l.length : Int) := by omega
    clear hleq hrw
    simp only [go_sem, Nat.reduceEqDiff, Nat.reduceAdd, Nat.reduceSub, Nat.reduceLeDiff, Nat.reduceLT, Nat.reduceMul, Nat.reduceBEq, Int.reduceEq, Int.reduceLT, Int.reduceLE, Int.reduceNeg, Int.reduceToNat, reduceCtorEq, ho, Try.results38, h54, h53, hlt, hop, h5, hs2, hs4, hb2, hb4, hrow, hg0, hl0, hg1, hl1, Vl.enc]
    refine QCall.fr ?_ (compared_fn 12 (nth l 0) (nth l 1)) (.inl rfl) ?_; (focus (first | rfl | ((simp only [go_sem, Nat.reduceEqDiff, Nat.reduceAdd, Nat.reduceSub, Nat.reduceLeDiff, Nat.reduceLT, Nat.reduceMul, Nat.reduceBEq, Int.reduceEq, Int.reduceLT, Int.reduceLE, Int.reduceNeg, Int.reduceToNat, reduceCtorEq, ho, Try.results38, Vl.enc]); done) | ((simp only [go_sem, Nat.reduceEqDiff, Nat.reduceAdd, Nat.reduceSub, Nat.reduceLeDiff, Nat.reduceLT, Nat.reduceMul, Nat.reduceBEq, Int.reduceEq, Int.reduceLT, Int.reduceLE, Int.reduceNeg, Int.reduceToNat, reduceCtorEq, ho, Try.results38, Vl.enc]); rfl)))
    simp only [go_sem, Nat.reduceEqDiff, Nat.reduceAdd, Nat.reduceSub, Nat.reduceLeDiff, Nat.reduceLT, Nat.reduceMul, Nat.reduceBEq, Int.reduceEq, Int.reduceLT, Int.reduceLE, Int.reduceNeg, Int.reduceToNat, reduceCtorEq, ho, Try.results38]
    refine QCall.fr ?_ (of_fn (Vl.compared 12 (nth l 0) (nth l 1))) (.inl rfl) ?_; (focus (first | rfl | ((simp only [go_sem, Nat.reduceEqDiff, Nat.reduceAdd, Nat.reduceSub, Nat.reduceLeDiff, Nat.reduceLT, Nat.reduceMul, Nat.reduceBEq, Int.reduceEq, Int.reduceLT, Int.reduceLE, Int.reduceNeg, Int.reduceToNat, reduceCtorEq, ho, Try.results38]); done) | ((simp only [go_sem, Nat.reduceEqDiff, Nat.reduceAdd, Nat.reduceSub, Nat.reduceLeDiff, Nat.reduceLT, Nat.reduceMul, Nat.reduceBEq, Int.reduceEq, Int.reduceLT, Int.reduceLE, Int.reduceNeg, Int.reduceToNat, reduceCtorEq, ho, Try.results38]); rfl)))
    simp only [go_sem, Nat.reduceEqDiff, Nat.reduceAdd, Nat.reduceSub, Nat.reduceLeDiff, Nat.reduceLT, Nat.reduceMul, Nat.reduceBEq, Int.reduceEq, Int.reduceLT, Int.reduceLE, Int.reduceNeg, Int.reduceToNat, reduceCtorEq, ho, Try.results38, Vl.enc, h5, hs2, hs4, hb2, hb4]
    rw [evo_12]; exact ⟨rfl, rfl, rfl⟩
  | cons x rest =>
    have hlt : (done.length : Int) < (e.args.length : Int) := by simp at hlen2; omega
    have hget : (e.args.map Ex.enc)[done.length]? = some x.enc := by simp [hl']
    have hxs : x.size ≤ n := by have := hsz; rw [hl', Ex.sizes_app] at this; simp [Ex.sizes] at this; omega
    have hx50 : getRow st.o 50 1 = some (42, (done.map fun x => (x.eval row).enc) ++ List.replicate (rest.length + 1) (PV.agg [PV.int IntKind.i64 0, PV.int IntKind.i64 0, PV.str ⟨#[]⟩])) := by rw [getRow, h50]; rfl
    have hxl : (done.length : Int) < (((done.map fun x => (x.eval row).enc) ++ List.replicate (rest.length + 1) (PV.agg [PV.int IntKind.i64 0, PV.int IntKind.i64 0, PV.str ⟨#[]⟩])).length : Nat) := by simp; omega
    have hx0 : ((done.map fun x => (x.eval row).enc) ++ List.replicate (rest.length + 1) (PV.agg [PV.int IntKind.i64 0, PV.int IntKind.i64 0, PV.str ⟨#[]⟩]))[done.length]? = some (PV.agg [PV.int IntKind.i64 0, PV.int IntKind.i64 0, PV.str ⟨#[]⟩]) := by simp
    rw [List.length_cons] at h50
    simp only [go_sem, Nat.reduceEqDiff, Nat.reduceAdd, Nat.reduceSub, Nat.reduceLeDiff, Nat.reduceLT, Nat.reduceMul, Nat.reduceBEq, Int.reduceEq, Int.reduceLT, Int.reduceLE, Int.reduceNeg, Int.reduceToNat, reduceCtorEq, ho, Try.results38, h54, h53, h52, hlt, hget, Int.natCast_nonneg, Int.toNat_natCast, h5, hs1, hs2, hs4, hb2, hb4, x.enc_eq]
    refine GCall.fr ?_ (IH x hxs) (.inl rfl) ?_; (focus (first | rfl | ((simp only [go_sem, Nat.reduceEqDiff, Nat.reduceAdd, Nat.reduceSub, Nat.reduceLeDiff, Nat.reduceLT, Nat.reduceMul, Nat.reduceBEq, Int.reduceEq, Int.reduceLT, Int.reduceLE, Int.reduceNeg, Int.reduceToNat, reduceCtorEq, ho, Try.results38, x.enc_eq, hs1]); done) | ((simp only [go_sem, Nat.reduceEqDiff, Nat.reduceAdd, Nat.reduceSub, Nat.reduceLeDiff, Nat.reduceLT, Nat.reduceMul, Nat.reduceBEq, Int.reduceEq, Int.reduceLT, Int.reduceLE, Int.reduceNeg, Int.reduceToNat, reduceCtorEq, ho, Try.results38, x.enc_eq, hs1]); rfl)))
    simp only [go_sem, Nat.reduceEqDiff, Nat.reduceAdd, Nat.reduceSub, Nat.reduceLeDiff, Nat.reduceLT, Nat.reduceMul, Nat.reduceBEq, Int.reduceEq, Int.reduceLT, Int.reduceLE, Int.reduceNeg, Int.reduceToNat, reduceCtorEq, ho, Try.results38, h54, h53, h52, h5, hx50, hxl, hx0, h50, Int.natCast_nonneg, Int.toNat_natCast, hs1, hs2, hs4, hb2, hb4, hw]
    refine ⟨rest.length, by simp at hm'; omega, done ++ [x], rest, by simp [hl'], rfl, by simp, ?_⟩
    simp [List.set_append, List.replicate_succ]
end Go.Proofs.Ytiefnninebilbaa
/- What the evaluation of an expression returns, any expression; no condition. -/
set_option maxRecDepth 100000
set_option linter.unusedVariables false
set_option linter.unusedSimpArgs false
namespace Go.Proofs.Ytiefnninebilbaa
open Go Go.Sx

theorem known_op {e : Ex} (hf : e.formed = true) : e.op = 1 ∨ e.op = 2 ∨ e.op = 22 ∨ e.op = 4 ∨ e.op = 5 ∨ e.op = 6 ∨ e.op = 21 ∨ e.op = 23 ∨ e.op = 24 ∨ e.op = 19 ∨ e.op = 20 ∨ e.op = 13 ∨ e.op = 14 ∨ e.op = 15 ∨ e.op = 16 ∨ e.op = 17 ∨ e.op = 18 ∨ e.op = 7 ∨ e.op = 8 ∨ e.op = 9 ∨ e.op = 10 ∨ e.op = 11 ∨ e.op = 12 := by
  have h := formed_len hf
  unfold fitsN at h
  repeat' split at h
  all_goals first | omega | simp at h
theorem eval_step (row : List Vl) (n : Nat) (hn : n + 1 ≤ 100000000) (IH : ∀ x : Ex, x.size ≤ n → Fc 38 [x.enc, .sl (row.map Vl.enc)] (x.eval row).enc) (e : Ex) (h : e.size ≤ n + 1) : Fc 38 [e.enc, .sl (row.map Vl.enc)] (e.eval row).enc := by
  cases hf : e.formed with
  | false => exact evalc_f row e hf
  | true =>
    rcases known_op hf with ho | ho | ho | ho | ho | ho | ho | ho | ho | ho | ho | ho | ho | ho | ho | ho | ho | ho | ho | ho | ho | ho | ho
    · exact evalc_1 row n hn IH e h hf ho
    · exact evalc_2 row n hn IH e h hf ho
    · exact evalc_22 row n hn IH e h hf ho
    · exact evalc_4 row n hn IH e h hf ho
    · exact evalc_5 row n hn IH e h hf ho
    · exact evalc_6 row n hn IH e h hf ho
    · exact evalc_21 row n hn IH e h hf ho
    · exact evalc_23 row n hn IH e h hf ho
    · exact evalc_24 row n hn IH e h hf ho
    · exact evalc_19 row n hn IH e h hf ho
    · exact evalc_20 row n hn IH e h hf ho
    · exact evalc_13 row n hn IH e h hf ho
    · exact evalc_14 row n hn IH e h hf ho
    · exact evalc_15 row n hn IH e h hf ho
    · exact evalc_16 row n hn IH e h hf ho
    · exact evalc_17 row n hn IH e h hf ho
    · exact evalc_18 row n hn IH e h hf ho
    · exact evalc_7 row n hn IH e h hf ho
    · exact evalc_8 row n hn IH e h hf ho
    · exact evalc_9 row n hn IH e h hf ho
    · exact evalc_10 row n hn IH e h hf ho
    · exact evalc_11 row n hn IH e h hf ho
    · exact evalc_12 row n hn IH e h hf ho
theorem eval_fn (row : List Vl) : ∀ (n : Nat), n ≤ 100000000 → ∀ e : Ex, e.size ≤ n → Fc 38 [e.enc, .sl (row.map Vl.enc)] (e.eval row).enc
  | 0, _, e, h => by have := e.size_pos; omega
  | n + 1, hn, e, h => eval_step row n hn (eval_fn row n (by omega)) e h
end Go.Proofs.Ytiefnninebilbaa
/- The examples of the chapter on expressions hold; no condition. -/
set_option maxRecDepth 100000
set_option linter.unusedVariables false
set_option linter.unusedSimpArgs false
namespace Go.Proofs.Ytiefnninebilbaa
open Go Go.Sx

def Ex.num (n : Int) : Ex := .mk 1 0 ⟨1, n, emp⟩ emp []
def Ex.two (op : Int) (a b : Ex) : Ex := .mk op 0 Vl.null emp [a, b]
def Ex.nul : Ex := .mk 1 0 Vl.null emp []
def Ex.txa : Ex := .mk 1 0 ⟨2, 0, ⟨#[97]⟩⟩ emp []
theorem ok95 : okCode M0 Try.f95.ntmps (Try.f95.body.getD .skip) = true := by decide +kernel
theorem nume_fn (n : Int) : Fc 95 [.int .i64 n] (Ex.num n).enc := by
  refine fn_of_awp (E := E0) (M := M0) follows Try.func95 rfl (by decide) ok95 (by decide) (by simp) fun o ho => ?_
  simp only [go_sem, Nat.reduceEqDiff, Nat.reduceAdd, Nat.reduceSub, Nat.reduceLeDiff, Nat.reduceLT, Nat.reduceMul, Nat.reduceBEq, Int.reduceEq, Int.reduceLT, Int.reduceLE, Int.reduceNeg, Int.reduceToNat, reduceCtorEq, ho, Try.results95, Ex.num, Ex.enc, Ex.encs]
theorem ok94 : okCode M0 Try.f94.ntmps (Try.f94.body.getD .skip) = true := by decide +kernel
theorem twoe_fn (op : Int) (a b : Ex) : Fc 94 [.int .i64 op, a.enc, b.enc] (Ex.two op a b).enc := by
  refine fn_of_awp (E := E0) (M := M0) follows Try.func94 rfl (by decide) ok94 (by decide) (by simp) fun o ho => ?_
  simp only [go_sem, Nat.reduceEqDiff, Nat.reduceAdd, Nat.reduceSub, Nat.reduceLeDiff, Nat.reduceLT, Nat.reduceMul, Nat.reduceBEq, Int.reduceEq, Int.reduceLT, Int.reduceLE, Int.reduceNeg, Int.reduceToNat, reduceCtorEq, ho, Try.results94, a.enc_eq, b.enc_eq, Ex.enc_eq (Ex.two op a b)]
  simp [Ex.two, Ex.op, Ex.int, Ex.val, Ex.name, Ex.args, Vl.null, a.enc_eq, b.enc_eq]
theorem evals_fn (row : List Vl) (e : Ex) (h : e.size ≤ 100000000) : Fc 38 [e.enc, .sl (row.map Vl.enc)] (e.eval row).enc := eval_fn row _ h e (Nat.le_refl _)
theorem truths_fn (row : List Vl) (e : Ex) (h : e.size ≤ 100000000) : Fc 40 [e.enc, .sl (row.map Vl.enc)] (.int .i64 (e.eval row).truth) := truthE_fn row e (evals_fn row e h)
theorem ok37 : okCode M0 Try.f37.ntmps (Try.f37.body.getD .skip) = true := by decide +kernel
theorem awake_fn : Fc 37 [] (.bool true) := by
  have c1 : Ex.checked [] (Ex.two 23 Ex.nul Ex.txa) = (2, 0) := by kernel_rfl
  have c2 : Ex.checked [] (Ex.two 13 (Ex.num 1) Ex.txa) = (0, 7) := by kernel_rfl
  have e1 : Ex.eval [] (Ex.two 16 (Ex.num 7) (Ex.num (-2))) = ⟨1, -3, emp⟩ := by kernel_rfl
  have e2 : Ex.eval [] (Ex.two 17 (Ex.num (-7)) (Ex.num 2)) = ⟨1, -1, emp⟩ := by kernel_rfl
  have e3 : (Ex.eval [] (Ex.two 7 (Ex.num 1) Ex.nul)).truth = 1 := by kernel_rfl
  have e4 : (Ex.eval [] (.mk 21 0 Vl.null emp [Ex.nul])).truth = 2 := by kernel_rfl
  have e5 : Ex.eval [] (Ex.two 13 (Ex.num 1) Ex.txa) = Vl.null := by kernel_rfl
  simp only [Ex.two, Ex.num, Ex.nul, Ex.txa, Vl.null] at c1 c2 e1 e2 e3 e4 e5
  refine fn_of_awp (E := E0) (M := M0) follows Try.func37 rfl (by decide) ok37 (by decide) (by simp) fun o ho => ?_
  simp only [go_sem, Nat.reduceEqDiff, Nat.reduceAdd, Nat.reduceSub, Nat.reduceLeDiff, Nat.reduceLT, Nat.reduceMul, Nat.reduceBEq, Int.reduceEq, Int.reduceLT, Int.reduceLE, Int.reduceNeg, Int.reduceToNat, reduceCtorEq, ho, Try.results37]
  refine GCall.fr ?_ (twoe_fn 23 Ex.nul Ex.txa) (.inr rfl) ?_; (focus (first | rfl | ((simp only [go_sem, Nat.reduceEqDiff, Nat.reduceAdd, Nat.reduceSub, Nat.reduceLeDiff, Nat.reduceLT, Nat.reduceMul, Nat.reduceBEq, Int.reduceEq, Int.reduceLT, Int.reduceLE, Int.reduceNeg, Int.reduceToNat, reduceCtorEq, ho, Try.results37, Ex.two, Ex.num, Ex.nul, Ex.txa, Ex.enc, Ex.encs, Vl.null, Vl.enc]); done) | ((simp only [go_sem, Nat.reduceEqDiff, Nat.reduceAdd, Nat.reduceSub, Nat.reduceLeDiff, Nat.reduceLT, Nat.reduceMul, Nat.reduceBEq, Int.reduceEq, Int.reduceLT, Int.reduceLE, Int.reduceNeg, Int.reduceToNat, reduceCtorEq, ho, Try.results37, Ex.two, Ex.num, Ex.nul, Ex.txa, Ex.enc, Ex.encs, Vl.null, Vl.enc]); rfl)))
  simp only [go_sem, Nat.reduceEqDiff, Nat.reduceAdd, Nat.reduceSub, Nat.reduceLeDiff, Nat.reduceLT, Nat.reduceMul, Nat.reduceBEq, Int.reduceEq, Int.reduceLT, Int.reduceLE, Int.reduceNeg, Int.reduceToNat, reduceCtorEq, ho, Try.results37, Ex.two, Ex.num, Ex.nul, Ex.txa, Ex.enc, Ex.encs, Vl.null, Vl.enc]
  refine GCall.fr ?_ (checked_fn [] (Ex.two 23 Ex.nul Ex.txa) (by decide)) (.inl rfl) ?_; (focus (first | rfl | ((simp only [go_sem, Nat.reduceEqDiff, Nat.reduceAdd, Nat.reduceSub, Nat.reduceLeDiff, Nat.reduceLT, Nat.reduceMul, Nat.reduceBEq, Int.reduceEq, Int.reduceLT, Int.reduceLE, Int.reduceNeg, Int.reduceToNat, reduceCtorEq, ho, Try.results37, Ex.two, Ex.num, Ex.nul, Ex.txa, Ex.enc, Ex.encs, Vl.null, Vl.enc]); done) | ((simp only [go_sem, Nat.reduceEqDiff, Nat.reduceAdd, Nat.reduceSub, Nat.reduceLeDiff, Nat.reduceLT, Nat.reduceMul, Nat.reduceBEq, Int.reduceEq, Int.reduceLT, Int.reduceLE, Int.reduceNeg, Int.reduceToNat, reduceCtorEq, ho, Try.results37, Ex.two, Ex.num, Ex.nul, Ex.txa, Ex.enc, Ex.encs, Vl.null, Vl.enc]); rfl)))
  simp only [go_sem, Nat.reduceEqDiff, Nat.reduceAdd, Nat.reduceSub, Nat.reduceLeDiff, Nat.reduceLT, Nat.reduceMul, Nat.reduceBEq, Int.reduceEq, Int.reduceLT, Int.reduceLE, Int.reduceNeg, Int.reduceToNat, reduceCtorEq, ho, Try.results37, Ex.two, Ex.num, Ex.nul, Ex.txa, Vl.null, c1]
  refine QCall.fr ?_ (nume_fn 1) (.inr rfl) ?_; (focus (first | rfl | ((simp only [go_sem, Nat.reduceEqDiff, Nat.reduceAdd, Nat.reduceSub, Nat.reduceLeDiff, Nat.reduceLT, Nat.reduceMul, Nat.reduceBEq, Int.reduceEq, Int.reduceLT, Int.reduceLE, Int.reduceNeg, Int.reduceToNat, reduceCtorEq, ho, Try.results37, Ex.two, Ex.num, Ex.nul, Ex.txa, Ex.enc, Ex.encs, Vl.null, Vl.enc]); done) | ((simp only [go_sem, Nat.reduceEqDiff, Nat.reduceAdd, Nat.reduceSub, Nat.reduceLeDiff, Nat.reduceLT, Nat.reduceMul, Nat.reduceBEq, Int.reduceEq, Int.reduceLT, Int.reduceLE, Int.reduceNeg, Int.reduceToNat, reduceCtorEq, ho, Try.results37, Ex.two, Ex.num, Ex.nul, Ex.txa, Ex.enc, Ex.encs, Vl.null, Vl.enc]); rfl)))
  simp only [go_sem, Nat.reduceEqDiff, Nat.reduceAdd, Nat.reduceSub, Nat.reduceLeDiff, Nat.reduceLT, Nat.reduceMul, Nat.reduceBEq, Int.reduceEq, Int.reduceLT, Int.reduceLE, Int.reduceNeg, Int.reduceToNat, reduceCtorEq, ho, Try.results37, Ex.two, Ex.num, Ex.nul, Ex.txa, Ex.enc, Ex.encs, Vl.null, Vl.enc]
  refine QCall.fr ?_ (twoe_fn 13 (Ex.num 1) Ex.txa) (.inr rfl) ?_; (focus (first | rfl | ((simp only [go_sem, Nat.reduceEqDiff, Nat.reduceAdd, Nat.reduceSub, Nat.reduceLeDiff, Nat.reduceLT, Nat.reduceMul, Nat.reduceBEq, Int.reduceEq, Int.reduceLT, Int.reduceLE, Int.reduceNeg, Int.reduceToNat, reduceCtorEq, ho, Try.results37, Ex.two, Ex.num, Ex.nul, Ex.txa, Ex.enc, Ex.encs, Vl.null, Vl.enc]); done) | ((simp only [go_sem, Nat.reduceEqDiff, Nat.reduceAdd, Nat.reduceSub, Nat.reduceLeDiff, Nat.reduceLT, Nat.reduceMul, Nat.reduceBEq, Int.reduceEq, Int.reduceLT, Int.reduceLE, Int.reduceNeg, Int.reduceToNat, reduceCtorEq, ho, Try.results37, Ex.two, Ex.num, Ex.nul, Ex.txa, Ex.enc, Ex.encs, Vl.null, Vl.enc]); rfl)))
  simp only [go_sem, Nat.reduceEqDiff, Nat.reduceAdd, Nat.reduceSub, Nat.reduceLeDiff, Nat.reduceLT, Nat.reduceMul, Nat.reduceBEq, Int.reduceEq, Int.reduceLT, Int.reduceLE, Int.reduceNeg, Int.reduceToNat, reduceCtorEq, ho, Try.results37, Ex.two, Ex.num, Ex.nul, Ex.txa, Ex.enc, Ex.encs, Vl.null, Vl.enc]
  refine QCall.fr ?_ (checked_fn [] (Ex.two 13 (Ex.num 1) Ex.txa) (by decide)) (.inl rfl) ?_; (focus (first | rfl | ((simp only [go_sem, Nat.reduceEqDiff, Nat.reduceAdd, Nat.reduceSub, Nat.reduceLeDiff, Nat.reduceLT, Nat.reduceMul, Nat.reduceBEq, Int.reduceEq, Int.reduceLT, Int.reduceLE, Int.reduceNeg, Int.reduceToNat, reduceCtorEq, ho, Try.results37, Ex.two, Ex.num, Ex.nul, Ex.txa, Ex.enc, Ex.encs, Vl.null, Vl.enc]); done) | ((simp only [go_sem, Nat.reduceEqDiff, Nat.reduceAdd, Nat.reduceSub, Nat.reduceLeDiff, Nat.reduceLT, Nat.reduceMul, Nat.reduceBEq, Int.reduceEq, Int.reduceLT, Int.reduceLE, Int.reduceNeg, Int.reduceToNat, reduceCtorEq, ho, Try.results37, Ex.two, Ex.num, Ex.nul, Ex.txa, Ex.enc, Ex.encs, Vl.null, Vl.enc]); rfl)))
  simp only [go_sem, Nat.reduceEqDiff, Nat.reduceAdd, Nat.reduceSub, Nat.reduceLeDiff, Nat.reduceLT, Nat.reduceMul, Nat.reduceBEq, Int.reduceEq, Int.reduceLT, Int.reduceLE, Int.reduceNeg, Int.reduceToNat, reduceCtorEq, ho, Try.results37, Ex.two, Ex.num, Ex.nul, Ex.txa, Ex.enc, Ex.encs, Vl.null, Vl.enc, c2]
  refine QCall.fr ?_ (nume_fn 7) (.inr rfl) ?_; (focus (first | rfl | ((simp only [go_sem, Nat.reduceEqDiff, Nat.reduceAdd, Nat.reduceSub, Nat.reduceLeDiff, Nat.reduceLT, Nat.reduceMul, Nat.reduceBEq, Int.reduceEq, Int.reduceLT, Int.reduceLE, Int.reduceNeg, Int.reduceToNat, reduceCtorEq, ho, Try.results37, Ex.two, Ex.num, Ex.nul, Ex.txa, Ex.enc, Ex.encs, Vl.null, Vl.enc]); done) | ((simp only [go_sem, Nat.reduceEqDiff, Nat.reduceAdd, Nat.reduceSub, Nat.reduceLeDiff, Nat.reduceLT, Nat.reduceMul, Nat.reduceBEq, Int.reduceEq, Int.reduceLT, Int.reduceLE, Int.reduceNeg, Int.reduceToNat, reduceCtorEq, ho, Try.results37, Ex.two, Ex.num, Ex.nul, Ex.txa, Ex.enc, Ex.encs, Vl.null, Vl.enc]); rfl)))
  simp only [go_sem, Nat.reduceEqDiff, Nat.reduceAdd, Nat.reduceSub, Nat.reduceLeDiff, Nat.reduceLT, Nat.reduceMul, Nat.reduceBEq, Int.reduceEq, Int.reduceLT, Int.reduceLE, Int.reduceNeg, Int.reduceToNat, reduceCtorEq, ho, Try.results37, Ex.two, Ex.num, Ex.nul, Ex.txa, Ex.enc, Ex.encs, Vl.null, Vl.enc]
  refine QCall.fr ?_ (nume_fn (-2)) (.inr rfl) ?_; (focus (first | rfl | ((simp only [go_sem, Nat.reduceEqDiff, Nat.reduceAdd, Nat.reduceSub, Nat.reduceLeDiff, Nat.reduceLT, Nat.reduceMul, Nat.reduceBEq, Int.reduceEq, Int.reduceLT, Int.reduceLE, Int.reduceNeg, Int.reduceToNat, reduceCtorEq, ho, Try.results37, Ex.two, Ex.num, Ex.nul, Ex.txa, Ex.enc, Ex.encs, Vl.null, Vl.enc]); done) | ((simp only [go_sem, Nat.reduceEqDiff, Nat.reduceAdd, Nat.reduceSub, Nat.reduceLeDiff, Nat.reduceLT, Nat.reduceMul, Nat.reduceBEq, Int.reduceEq, Int.reduceLT, Int.reduceLE, Int.reduceNeg, Int.reduceToNat, reduceCtorEq, ho, Try.results37, Ex.two, Ex.num, Ex.nul, Ex.txa, Ex.enc, Ex.encs, Vl.null, Vl.enc]); rfl)))
  simp only [go_sem, Nat.reduceEqDiff, Nat.reduceAdd, Nat.reduceSub, Nat.reduceLeDiff, Nat.reduceLT, Nat.reduceMul, Nat.reduceBEq, Int.reduceEq, Int.reduceLT, Int.reduceLE, Int.reduceNeg, Int.reduceToNat, reduceCtorEq, ho, Try.results37, Ex.two, Ex.num, Ex.nul, Ex.txa, Ex.enc, Ex.encs, Vl.null, Vl.enc]
  refine QCall.fr ?_ (twoe_fn 16 (Ex.num 7) (Ex.num (-2))) (.inr rfl) ?_; (focus (first | rfl | ((simp only [go_sem, Nat.reduceEqDiff, Nat.reduceAdd, Nat.reduceSub, Nat.reduceLeDiff, Nat.reduceLT, Nat.reduceMul, Nat.reduceBEq, Int.reduceEq, Int.reduceLT, Int.reduceLE, Int.reduceNeg, Int.reduceToNat, reduceCtorEq, ho, Try.results37, Ex.two, Ex.num, Ex.nul, Ex.txa, Ex.enc, Ex.encs, Vl.null, Vl.enc]); done) | ((simp only [go_sem, Nat.reduceEqDiff, Nat.reduceAdd, Nat.reduceSub, Nat.reduceLeDiff, Nat.reduceLT, Nat.reduceMul, Nat.reduceBEq, Int.reduceEq, Int.reduceLT, Int.reduceLE, Int.reduceNeg, Int.reduceToNat, reduceCtorEq, ho, Try.results37, Ex.two, Ex.num, Ex.nul, Ex.txa, Ex.enc, Ex.encs, Vl.null, Vl.enc]); rfl)))
  simp only [go_sem, Nat.reduceEqDiff, Nat.reduceAdd, Nat.reduceSub, Nat.reduceLeDiff, Nat.reduceLT, Nat.reduceMul, Nat.reduceBEq, Int.reduceEq, Int.reduceLT, Int.reduceLE, Int.reduceNeg, Int.reduceToNat, reduceCtorEq, ho, Try.results37, Ex.two, Ex.num, Ex.nul, Ex.txa, Ex.enc, Ex.encs, Vl.null, Vl.enc]
  refine QCall.fr ?_ (evals_fn [] (Ex.two 16 (Ex.num 7) (Ex.num (-2))) (by decide)) (.inl rfl) ?_; (focus (first | rfl | ((simp only [go_sem, Nat.reduceEqDiff, Nat.reduceAdd, Nat.reduceSub, Nat.reduceLeDiff, Nat.reduceLT, Nat.reduceMul, Nat.reduceBEq, Int.reduceEq, Int.reduceLT, Int.reduceLE, Int.reduceNeg, Int.reduceToNat, reduceCtorEq, ho, Try.results37, Ex.two, Ex.num, Ex.nul, Ex.txa, Ex.enc, Ex.encs, Vl.null, Vl.enc]); done) | ((simp only [go_sem, Nat.reduceEqDiff, Nat.reduceAdd, Nat.reduceSub, Nat.reduceLeDiff, Nat.reduceLT, Nat.reduceMul, Nat.reduceBEq, Int.reduceEq, Int.reduceLT, Int.reduceLE, Int.reduceNeg, Int.reduceToNat, reduceCtorEq, ho, Try.results37, Ex.two, Ex.num, Ex.nul, Ex.txa, Ex.enc, Ex.encs, Vl.null, Vl.enc]); rfl)))
  simp only [go_sem, Nat.reduceEqDiff, Nat.reduceAdd, Nat.reduceSub, Nat.reduceLeDiff, Nat.reduceLT, Nat.reduceMul, Nat.reduceBEq, Int.reduceEq, Int.reduceLT, Int.reduceLE, Int.reduceNeg, Int.reduceToNat, reduceCtorEq, ho, Try.results37, Ex.two, Ex.num, Ex.nul, Ex.txa, Ex.enc, Ex.encs, Vl.null, Vl.enc, e1]
  refine QCall.fr ?_ (nume_fn (-3)) (.inr rfl) ?_; (focus (first | rfl | ((simp only [go_sem, Nat.reduceEqDiff, Nat.reduceAdd, Nat.reduceSub, Nat.reduceLeDiff, Nat.reduceLT, Nat.reduceMul, Nat.reduceBEq, Int.reduceEq, Int.reduceLT, Int.reduceLE, Int.reduceNeg, Int.reduceToNat, reduceCtorEq, ho, Try.results37, Ex.two, Ex.num, Ex.nul, Ex.txa, Ex.enc, Ex.encs, Vl.null, Vl.enc]); done) | ((simp only [go_sem, Nat.reduceEqDiff, Nat.reduceAdd, Nat.reduceSub, Nat.reduceLeDiff, Nat.reduceLT, Nat.reduceMul, Nat.reduceBEq, Int.reduceEq, Int.reduceLT, Int.reduceLE, Int.reduceNeg, Int.reduceToNat, reduceCtorEq, ho, Try.results37, Ex.two, Ex.num, Ex.nul, Ex.txa, Ex.enc, Ex.encs, Vl.null, Vl.enc]); rfl)))
  simp only [go_sem, Nat.reduceEqDiff, Nat.reduceAdd, Nat.reduceSub, Nat.reduceLeDiff, Nat.reduceLT, Nat.reduceMul, Nat.reduceBEq, Int.reduceEq, Int.reduceLT, Int.reduceLE, Int.reduceNeg, Int.reduceToNat, reduceCtorEq, ho, Try.results37, Ex.two, Ex.num, Ex.nul, Ex.txa, Ex.enc, Ex.encs, Vl.null, Vl.enc]
  refine QCall.fr ?_ (nume_fn (-7)) (.inr rfl) ?_; (focus (first | rfl | ((simp only [go_sem, Nat.reduceEqDiff, Nat.reduceAdd, Nat.reduceSub, Nat.reduceLeDiff, Nat.reduceLT, Nat.reduceMul, Nat.reduceBEq, Int.reduceEq, Int.reduceLT, Int.reduceLE, Int.reduceNeg, Int.reduceToNat, reduceCtorEq, ho, Try.results37, Ex.two, Ex.num, Ex.nul, Ex.txa, Ex.enc, Ex.encs, Vl.null, Vl.enc]); done) | ((simp only [go_sem, Nat.reduceEqDiff, Nat.reduceAdd, Nat.reduceSub, Nat.reduceLeDiff, Nat.reduceLT, Nat.reduceMul, Nat.reduceBEq, Int.reduceEq, Int.reduceLT, Int.reduceLE, Int.reduceNeg, Int.reduceToNat, reduceCtorEq, ho, Try.results37, Ex.two, Ex.num, Ex.nul, Ex.txa, Ex.enc, Ex.encs, Vl.null, Vl.enc]); rfl)))
  simp only [go_sem, Nat.reduceEqDiff, Nat.reduceAdd, Nat.reduceSub, Nat.reduceLeDiff, Nat.reduceLT, Nat.reduceMul, Nat.reduceBEq, Int.reduceEq, Int.reduceLT, Int.reduceLE, Int.reduceNeg, Int.reduceToNat, reduceCtorEq, ho, Try.results37, Ex.two, Ex.num, Ex.nul, Ex.txa, Ex.enc, Ex.encs, Vl.null, Vl.enc]
  refine QCall.fr ?_ (nume_fn 2) (.inr rfl) ?_; (focus (first | rfl | ((simp only [go_sem, Nat.reduceEqDiff, Nat.reduceAdd, Nat.reduceSub, Nat.reduceLeDiff, Nat.reduceLT, Nat.reduceMul, Nat.reduceBEq, Int.reduceEq, Int.reduceLT, Int.reduceLE, Int.reduceNeg, Int.reduceToNat, reduceCtorEq, ho, Try.results37, Ex.two, Ex.num, Ex.nul, Ex.txa, Ex.enc, Ex.encs, Vl.null, Vl.enc]); done) | ((simp only [go_sem, Nat.reduceEqDiff, Nat.reduceAdd, Nat.reduceSub, Nat.reduceLeDiff, Nat.reduceLT, Nat.reduceMul, Nat.reduceBEq, Int.reduceEq, Int.reduceLT, Int.reduceLE, Int.reduceNeg, Int.reduceToNat, reduceCtorEq, ho, Try.results37, Ex.two, Ex.num, Ex.nul, Ex.txa, Ex.enc, Ex.encs, Vl.null, Vl.enc]); rfl)))
  simp only [go_sem, Nat.reduceEqDiff, Nat.reduceAdd, Nat.reduceSub, Nat.reduceLeDiff, Nat.reduceLT, Nat.reduceMul, Nat.reduceBEq, Int.reduceEq, Int.reduceLT, Int.reduceLE, Int.reduceNeg, Int.reduceToNat, reduceCtorEq, ho, Try.results37, Ex.two, Ex.num, Ex.nul, Ex.txa, Ex.enc, Ex.encs, Vl.null, Vl.enc]
  refine QCall.fr ?_ (twoe_fn 17 (Ex.num (-7)) (Ex.num 2)) (.inr rfl) ?_; (focus (first | rfl | ((simp only [go_sem, Nat.reduceEqDiff, Nat.reduceAdd, Nat.reduceSub, Nat.reduceLeDiff, Nat.reduceLT, Nat.reduceMul, Nat.reduceBEq, Int.reduceEq, Int.reduceLT, Int.reduceLE, Int.reduceNeg, Int.reduceToNat, reduceCtorEq, ho, Try.results37, Ex.two, Ex.num, Ex.nul, Ex.txa, Ex.enc, Ex.encs, Vl.null, Vl.enc]); done) | ((simp only [go_sem, Nat.reduceEqDiff, Nat.reduceAdd, Nat.reduceSub, Nat.reduceLeDiff, Nat.reduceLT, Nat.reduceMul, Nat.reduceBEq, Int.reduceEq, Int.reduceLT, Int.reduceLE, Int.reduceNeg, Int.reduceToNat, reduceCtorEq, ho, Try.results37, Ex.two, Ex.num, Ex.nul, Ex.txa, Ex.enc, Ex.encs, Vl.null, Vl.enc]); rfl)))
  simp only [go_sem, Nat.reduceEqDiff, Nat.reduceAdd, Nat.reduceSub, Nat.reduceLeDiff, Nat.reduceLT, Nat.reduceMul, Nat.reduceBEq, Int.reduceEq, Int.reduceLT, Int.reduceLE, Int.reduceNeg, Int.reduceToNat, reduceCtorEq, ho, Try.results37, Ex.two, Ex.num, Ex.nul, Ex.txa, Ex.enc, Ex.encs, Vl.null, Vl.enc]
  refine QCall.fr ?_ (evals_fn [] (Ex.two 17 (Ex.num (-7)) (Ex.num 2)) (by decide)) (.inl rfl) ?_; (focus (first | rfl | ((simp only [go_sem, Nat.reduceEqDiff, Nat.reduceAdd, Nat.reduceSub, Nat.reduceLeDiff, Nat.reduceLT, Nat.reduceMul, Nat.reduceBEq, Int.reduceEq, Int.reduceLT, Int.reduceLE, Int.reduceNeg, Int.reduceToNat, reduceCtorEq, ho, Try.results37, Ex.two, Ex.num, Ex.nul, Ex.txa, Ex.enc, Ex.encs, Vl.null, Vl.enc]); done) | ((simp only [go_sem, Nat.reduceEqDiff, Nat.reduceAdd, Nat.reduceSub, Nat.reduceLeDiff, Nat.reduceLT, Nat.reduceMul, Nat.reduceBEq, Int.reduceEq, Int.reduceLT, Int.reduceLE, Int.reduceNeg, Int.reduceToNat, reduceCtorEq, ho, Try.results37, Ex.two, Ex.num, Ex.nul, Ex.txa, Ex.enc, Ex.encs, Vl.null, Vl.enc]); rfl)))
  simp only [go_sem, Nat.reduceEqDiff, Nat.reduceAdd, Nat.reduceSub, Nat.reduceLeDiff, Nat.reduceLT, Nat.reduceMul, Nat.reduceBEq, Int.reduceEq, Int.reduceLT, Int.reduceLE, Int.reduceNeg, Int.reduceToNat, reduceCtorEq, ho, Try.results37, Ex.two, Ex.num, Ex.nul, Ex.txa, Ex.enc, Ex.encs, Vl.null, Vl.enc, e2]
  refine QCall.fr ?_ (nume_fn (-1)) (.inr rfl) ?_; (focus (first | rfl | ((simp only [go_sem, Nat.reduceEqDiff, Nat.reduceAdd, Nat.reduceSub, Nat.reduceLeDiff, Nat.reduceLT, Nat.reduceMul, Nat.reduceBEq, Int.reduceEq, Int.reduceLT, Int.reduceLE, Int.reduceNeg, Int.reduceToNat, reduceCtorEq, ho, Try.results37, Ex.two, Ex.num, Ex.nul, Ex.txa, Ex.enc, Ex.encs, Vl.null, Vl.enc]); done) | ((simp only [go_sem, Nat.reduceEqDiff, Nat.reduceAdd, Nat.reduceSub, Nat.reduceLeDiff, Nat.reduceLT, Nat.reduceMul, Nat.reduceBEq, Int.reduceEq, Int.reduceLT, Int.reduceLE, Int.reduceNeg, Int.reduceToNat, reduceCtorEq, ho, Try.results37, Ex.two, Ex.num, Ex.nul, Ex.txa, Ex.enc, Ex.encs, Vl.null, Vl.enc]); rfl)))
  simp only [go_sem, Nat.reduceEqDiff, Nat.reduceAdd, Nat.reduceSub, Nat.reduceLeDiff, Nat.reduceLT, Nat.reduceMul, Nat.reduceBEq, Int.reduceEq, Int.reduceLT, Int.reduceLE, Int.reduceNeg, Int.reduceToNat, reduceCtorEq, ho, Try.results37, Ex.two, Ex.num, Ex.nul, Ex.txa, Ex.enc, Ex.encs, Vl.null, Vl.enc]
  refine QCall.fr ?_ (nume_fn 1) (.inr rfl) ?_; (focus (first | rfl | ((simp only [go_sem, Nat.reduceEqDiff, Nat.reduceAdd, Nat.reduceSub, Nat.reduceLeDiff, Nat.reduceLT, Nat.reduceMul, Nat.reduceBEq, Int.reduceEq, Int.reduceLT, Int.reduceLE, Int.reduceNeg, Int.reduceToNat, reduceCtorEq, ho, Try.results37, Ex.two, Ex.num, Ex.nul, Ex.txa, Ex.enc, Ex.encs, Vl.null, Vl.enc]); done) | ((simp only [go_sem, Nat.reduceEqDiff, Nat.reduceAdd, Nat.reduceSub, Nat.reduceLeDiff, Nat.reduceLT, Nat.reduceMul, Nat.reduceBEq, Int.reduceEq, Int.reduceLT, Int.reduceLE, Int.reduceNeg, Int.reduceToNat, reduceCtorEq, ho, Try.results37, Ex.two, Ex.num, Ex.nul, Ex.txa, Ex.enc, Ex.encs, Vl.null, Vl.enc]); rfl)))
  simp only [go_sem, Nat.reduceEqDiff, Nat.reduceAdd, Nat.reduceSub, Nat.reduceLeDiff, Nat.reduceLT, Nat.reduceMul, Nat.reduceBEq, Int.reduceEq, Int.reduceLT, Int.reduceLE, Int.reduceNeg, Int.reduceToNat, reduceCtorEq, ho, Try.results37, Ex.two, Ex.num, Ex.nul, Ex.txa, Ex.enc, Ex.encs, Vl.null, Vl.enc]
  refine QCall.fr ?_ (twoe_fn 7 (Ex.num 1) Ex.nul) (.inr rfl) ?_; (focus (first | rfl | ((simp only [go_sem, Nat.reduceEqDiff, Nat.reduceAdd, Nat.reduceSub, Nat.reduceLeDiff, Nat.reduceLT, Nat.reduceMul, Nat.reduceBEq, Int.reduceEq, Int.reduceLT, Int.reduceLE, Int.reduceNeg, Int.reduceToNat, reduceCtorEq, ho, Try.results37, Ex.two, Ex.num, Ex.nul, Ex.txa, Ex.enc, Ex.encs, Vl.null, Vl.enc]); done) | ((simp only [go_sem, Nat.reduceEqDiff, Nat.reduceAdd, Nat.reduceSub, Nat.reduceLeDiff, Nat.reduceLT, Nat.reduceMul, Nat.reduceBEq, Int.reduceEq, Int.reduceLT, Int.reduceLE, Int.reduceNeg, Int.reduceToNat, reduceCtorEq, ho, Try.results37, Ex.two, Ex.num, Ex.nul, Ex.txa, Ex.enc, Ex.encs, Vl.null, Vl.enc]); rfl)))
  simp only [go_sem, Nat.reduceEqDiff, Nat.reduceAdd, Nat.reduceSub, Nat.reduceLeDiff, Nat.reduceLT, Nat.reduceMul, Nat.reduceBEq, Int.reduceEq, Int.reduceLT, Int.reduceLE, Int.reduceNeg, Int.reduceToNat, reduceCtorEq, ho, Try.results37, Ex.two, Ex.num, Ex.nul, Ex.txa, Ex.enc, Ex.encs, Vl.null, Vl.enc]
  refine QCall.fr ?_ (truths_fn [] (Ex.two 7 (Ex.num 1) Ex.nul) (by decide)) (.inl rfl) ?_; (focus (first | rfl | ((simp only [go_sem, Nat.reduceEqDiff, Nat.reduceAdd, Nat.reduceSub, Nat.reduceLeDiff, Nat.reduceLT, Nat.reduceMul, Nat.reduceBEq, Int.reduceEq, Int.reduceLT, Int.reduceLE, Int.reduceNeg, Int.reduceToNat, reduceCtorEq, ho, Try.results37, Ex.two, Ex.num, Ex.nul, Ex.txa, Ex.enc, Ex.encs, Vl.null, Vl.enc]); done) | ((simp only [go_sem, Nat.reduceEqDiff, Nat.reduceAdd, Nat.reduceSub, Nat.reduceLeDiff, Nat.reduceLT, Nat.reduceMul, Nat.reduceBEq, Int.reduceEq, Int.reduceLT, Int.reduceLE, Int.reduceNeg, Int.reduceToNat, reduceCtorEq, ho, Try.results37, Ex.two, Ex.num, Ex.nul, Ex.txa, Ex.enc, Ex.encs, Vl.null, Vl.enc]); rfl)))
  simp only [go_sem, Nat.reduceEqDiff, Nat.reduceAdd, Nat.reduceSub, Nat.reduceLeDiff, Nat.reduceLT, Nat.reduceMul, Nat.reduceBEq, Int.reduceEq, Int.reduceLT, Int.reduceLE, Int.reduceNeg, Int.reduceToNat, reduceCtorEq, ho, Try.results37, Ex.two, Ex.num, Ex.nul, Ex.txa, Ex.enc, Ex.encs, Vl.null, Vl.enc, e3]
  refine QCall.fr ?_ (truths_fn [] (.mk 21 0 Vl.null emp [Ex.nul]) (by decide)) (.inl rfl) ?_; (focus (first | rfl | ((simp only [go_sem, Nat.reduceEqDiff, Nat.reduceAdd, Nat.reduceSub, Nat.reduceLeDiff, Nat.reduceLT, Nat.reduceMul, Nat.reduceBEq, Int.reduceEq, Int.reduceLT, Int.reduceLE, Int.reduceNeg, Int.reduceToNat, reduceCtorEq, ho, Try.results37, Ex.two, Ex.num, Ex.nul, Ex.txa, Ex.enc, Ex.encs, Vl.null, Vl.enc]); done) | ((simp only [go_sem, Nat.reduceEqDiff, Nat.reduceAdd, Nat.reduceSub, Nat.reduceLeDiff, Nat.reduceLT, Nat.reduceMul, Nat.reduceBEq, Int.reduceEq, Int.reduceLT, Int.reduceLE, Int.reduceNeg, Int.reduceToNat, reduceCtorEq, ho, Try.results37, Ex.two, Ex.num, Ex.nul, Ex.txa, Ex.enc, Ex.encs, Vl.null, Vl.enc]); rfl)))
  simp only [go_sem, Nat.reduceEqDiff, Nat.reduceAdd, Nat.reduceSub, Nat.reduceLeDiff, Nat.reduceLT, Nat.reduceMul, Nat.reduceBEq, Int.reduceEq, Int.reduceLT, Int.reduceLE, Int.reduceNeg, Int.reduceToNat, reduceCtorEq, ho, Try.results37, Ex.two, Ex.num, Ex.nul, Ex.txa, Ex.enc, Ex.encs, Vl.null, Vl.enc, e4]
  refine QCall.fr ?_ (nume_fn 1) (.inr rfl) ?_; (focus (first | rfl | ((simp only [go_sem, Nat.reduceEqDiff, Nat.reduceAdd, Nat.reduceSub, Nat.reduceLeDiff, Nat.reduceLT, Nat.reduceMul, Nat.reduceBEq, Int.reduceEq, Int.reduceLT, Int.reduceLE, Int.reduceNeg, Int.reduceToNat, reduceCtorEq, ho, Try.results37, Ex.two, Ex.num, Ex.nul, Ex.txa, Ex.enc, Ex.encs, Vl.null, Vl.enc]); done) | ((simp only [go_sem, Nat.reduceEqDiff, Nat.reduceAdd, Nat.reduceSub, Nat.reduceLeDiff, Nat.reduceLT, Nat.reduceMul, Nat.reduceBEq, Int.reduceEq, Int.reduceLT, Int.reduceLE, Int.reduceNeg, Int.reduceToNat, reduceCtorEq, ho, Try.results37, Ex.two, Ex.num, Ex.nul, Ex.txa, Ex.enc, Ex.encs, Vl.null, Vl.enc]); rfl)))
  simp only [go_sem, Nat.reduceEqDiff, Nat.reduceAdd, Nat.reduceSub, Nat.reduceLeDiff, Nat.reduceLT, Nat.reduceMul, Nat.reduceBEq, Int.reduceEq, Int.reduceLT, Int.reduceLE, Int.reduceNeg, Int.reduceToNat, reduceCtorEq, ho, Try.results37, Ex.two, Ex.num, Ex.nul, Ex.txa, Ex.enc, Ex.encs, Vl.null, Vl.enc]
  refine QCall.fr ?_ (twoe_fn 13 (Ex.num 1) Ex.txa) (.inr rfl) ?_; (focus (first | rfl | ((simp only [go_sem, Nat.reduceEqDiff, Nat.reduceAdd, Nat.reduceSub, Nat.reduceLeDiff, Nat.reduceLT, Nat.reduceMul, Nat.reduceBEq, Int.reduceEq, Int.reduceLT, Int.reduceLE, Int.reduceNeg, Int.reduceToNat, reduceCtorEq, ho, Try.results37, Ex.two, Ex.num, Ex.nul, Ex.txa, Ex.enc, Ex.encs, Vl.null, Vl.enc]); done) | ((simp only [go_sem, Nat.reduceEqDiff, Nat.reduceAdd, Nat.reduceSub, Nat.reduceLeDiff, Nat.reduceLT, Nat.reduceMul, Nat.reduceBEq, Int.reduceEq, Int.reduceLT, Int.reduceLE, Int.reduceNeg, Int.reduceToNat, reduceCtorEq, ho, Try.results37, Ex.two, Ex.num, Ex.nul, Ex.txa, Ex.enc, Ex.encs, Vl.null, Vl.enc]); rfl)))
  simp only [go_sem, Nat.reduceEqDiff, Nat.reduceAdd, Nat.reduceSub, Nat.reduceLeDiff, Nat.reduceLT, Nat.reduceMul, Nat.reduceBEq, Int.reduceEq, Int.reduceLT, Int.reduceLE, Int.reduceNeg, Int.reduceToNat, reduceCtorEq, ho, Try.results37, Ex.two, Ex.num, Ex.nul, Ex.txa, Ex.enc, Ex.encs, Vl.null, Vl.enc]
  refine QCall.fr ?_ (evals_fn [] (Ex.two 13 (Ex.num 1) Ex.txa) (by decide)) (.inl rfl) ?_; (focus (first | rfl | ((simp only [go_sem, Nat.reduceEqDiff, Nat.reduceAdd, Nat.reduceSub, Nat.reduceLeDiff, Nat.reduceLT, Nat.reduceMul, Nat.reduceBEq, Int.reduceEq, Int.reduceLT, Int.reduceLE, Int.reduceNeg, Int.reduceToNat, reduceCtorEq, ho, Try.results37, Ex.two, Ex.num, Ex.nul, Ex.txa, Ex.enc, Ex.encs, Vl.null, Vl.enc]); done) | ((simp only [go_sem, Nat.reduceEqDiff, Nat.reduceAdd, Nat.reduceSub, Nat.reduceLeDiff, Nat.reduceLT, Nat.reduceMul, Nat.reduceBEq, Int.reduceEq, Int.reduceLT, Int.reduceLE, Int.reduceNeg, Int.reduceToNat, reduceCtorEq, ho, Try.results37, Ex.two, Ex.num, Ex.nul, Ex.txa, Ex.enc, Ex.encs, Vl.null, Vl.enc]); rfl)))
  simp only [go_sem, Nat.reduceEqDiff, Nat.reduceAdd, Nat.reduceSub, Nat.reduceLeDiff, Nat.reduceLT, Nat.reduceMul, Nat.reduceBEq, Int.reduceEq, Int.reduceLT, Int.reduceLE, Int.reduceNeg, Int.reduceToNat, reduceCtorEq, ho, Try.results37, Ex.two, Ex.num, Ex.nul, Ex.txa, Ex.enc, Ex.encs, Vl.null, Vl.enc, e5]
end Go.Proofs.Ytiefnninebilbaa
/- Never: the function value; no condition. -/
set_option maxRecDepth 100000
set_option linter.unusedVariables false
set_option linter.unusedSimpArgs false
namespace Go.Proofs.Ytiefnninebilbaa
open Go Go.Sx

def neverX (x : Ex) : Bool := decide (x.op = 1) && !decide ((x.eval []).truth = 2)
def boolOb (c : Nat × Option (Bool × Ob)) : Bool := match c with
  | (_, some (_, .box _ [.bool b])) => b
  | _ => false
def neverStep (kb : Nat) (x : Ex) (o : Objs) : Objs := upd o kb ((o kb).1, some (true, .box 4 [.bool (boolOb (o kb) || neverX x)]))
theorem neverStep_eq {kb v : Nat} {b : Bool} {o : Objs} (x : Ex) (h : o kb = (v, some (true, .box 4 [.bool b]))) : neverStep kb x o = upd o kb (v, some (true, .box 4 [.bool (b || neverX x)])) := by
  simp only [neverStep, h, boolOb]
theorem neverStep_frame {kb : Nat} {x : Ex} {o : Objs} : ∀ k, k ≠ kb → neverStep kb x o k = o k := fun k hk => by
  unfold neverStep
  rw [upd_ne _ _ hk]
theorem ok176 : okCode M0 Try.f176.ntmps (Try.f176.body.getD .skip) = true := by decide +kernel
theorem neverClo_run (kb vb b0 : Nat) (hkb : kb < b0) (s : Bool) (o : Objs) (x : Ex) (b : Nat) (kd : Option Nat) (hb : b0 ≤ b) (hb9 : b ≤ 950000000) (hS : o kb = (vb, some (true, .box 4 [.bool s]))) (hx : x.size ≤ 100000000) (ho : ∀ k, b ≤ k → k < 1000000000 → (o k).2 = none) :
    CallRun P0 176 (x.enc :: [.ptr kb vb 0]) kd o (.tup []) (neverStep kb x o) := by
  have hkb' : kb < b := by omega
  have f1 : ∀ j, ¬ b + j = kb := fun j => by omega
  have f3 : ∀ j, ¬ kb = b + j := fun j => by omega
  have f6 : ∀ j, (kb == b + j) = false := fun j => by simpa using f3 j
  have hgb : getBox o kb vb = some (4, [.bool s]) := by simp [getBox, hS]
  refine CallRun.of_awp _ _ (fun k => b ≤ k ∧ k < 1000000000) (E := (E0.at b)) (M := M0) follows Try.func176 rfl (by decide) ok176 (fun d hd => ?_) (by simp) (fun k hk => ⟨ho k hk.1 hk.2, neverStep_frame k (by omega)⟩) (fun k hk => neverStep_frame k (by omega)) (fun k ver bb y hk => ?_) ?_ ?_
  · show b + d < 1000000000
    have : d < 14 := hd
    omega
  · by_cases e : k = kb
    · subst e
      rw [neverStep_eq x hS, upd_same] at hk
      simp only [Prod.mk.injEq, Option.some.injEq] at hk
      obtain ⟨_, _, rfl⟩ := hk
      right
      intro z hz k' v hh
      simp only [List.mem_singleton] at hz
      subst hz
      cases hh
    · exact .inl (neverStep_frame k e)
  · simp only [go_sem]
  rw [neverStep_eq x hS]
  have fin : ∀ z : Bool, z = (s || neverX x) → ∀ k, ¬ (b ≤ k ∧ k < 1000000000) → ∀ w : Nat × Option (Bool × Ob), (if k = kb then (vb, some (true, Ob.box 4 [PV.bool z])) else o k) = (upd o kb (vb, some (true, .box 4 [.bool (s || neverX x)]))) k := by
    intro z hz k hk w
    subst hz
    by_cases e : k = kb
    · subst e; rw [upd_same, if_pos rfl]
    · rw [upd_ne _ _ e, if_neg e]
  simp only [go_sem, Nat.reduceEqDiff, Nat.reduceAdd, Nat.reduceSub, Nat.reduceLeDiff, Nat.reduceLT, Nat.reduceMul, Nat.reduceBEq, Int.reduceEq, Int.reduceLT, Int.reduceLE, Int.reduceNeg, Int.reduceToNat, reduceCtorEq, ho, Try.results176, x.enc_eq, eq_self, Nat.add_left_cancel_iff, Nat.left_eq_add, Nat.add_eq_left, f1, f3, f6, hgb, hS]
  cases s with
  | true =>
    simp only [go_sem, Nat.reduceEqDiff, Nat.reduceAdd, Nat.reduceSub, Nat.reduceLeDiff, Nat.reduceLT, Nat.reduceMul, Nat.reduceBEq, Int.reduceEq, Int.reduceLT, Int.reduceLE, Int.reduceNeg, Int.reduceToNat, reduceCtorEq, ho, Try.results176, x.enc_eq, eq_self, Nat.add_left_cancel_iff, Nat.left_eq_add, Nat.add_eq_left, f1, f3, f6, hgb, hS]
    intro k hk
    have g1 : ∀ j, j < 80 → ¬ k = b + j := fun j hj => by omega
    by_cases e : k = kb
    · subst e; simp only [go_sem, Nat.reduceEqDiff, Nat.reduceAdd, Nat.reduceSub, Nat.reduceLeDiff, Nat.reduceLT, Nat.reduceMul, Nat.reduceBEq, Int.reduceEq, Int.reduceLT, Int.reduceLE, Int.reduceNeg, Int.reduceToNat, reduceCtorEq, ho, Try.results176, g1, f3]
    · simp only [go_sem, Nat.reduceEqDiff, Nat.reduceAdd, Nat.reduceSub, Nat.reduceLeDiff, Nat.reduceLT, Nat.reduceMul, Nat.reduceBEq, Int.reduceEq, Int.reduceLT, Int.reduceLE, Int.reduceNeg, Int.reduceToNat, reduceCtorEq, ho, Try.results176, g1, e]
  | false =>
    by_cases h1 : x.op = 1
    · simp only [go_sem, Nat.reduceEqDiff, Nat.reduceAdd, Nat.reduceSub, Nat.reduceLeDiff, Nat.reduceLT, Nat.reduceMul, Nat.reduceBEq, Int.reduceEq, Int.reduceLT, Int.reduceLE, Int.reduceNeg, Int.reduceToNat, reduceCtorEq, ho, Try.results176, h1, x.enc_eq, eq_self, Nat.add_left_cancel_iff, Nat.left_eq_add, Nat.add_eq_left, f1, f3, f6, hgb, hS]
      refine GCall.fr ?_ (truths_fn [] x hx) (.inl rfl) ?_; (focus (first | rfl | ((simp only [go_sem, Nat.reduceEqDiff, Nat.reduceAdd, Nat.reduceSub, Nat.reduceLeDiff, Nat.reduceLT, Nat.reduceMul, Nat.reduceBEq, Int.reduceEq, Int.reduceLT, Int.reduceLE, Int.reduceNeg, Int.reduceToNat, reduceCtorEq, ho, Try.results176, x.enc_eq, h1]); done) | ((simp only [go_sem, Nat.reduceEqDiff, Nat.reduceAdd, Nat.reduceSub, Nat.reduceLeDiff, Nat.reduceLT, Nat.reduceMul, Nat.reduceBEq, Int.reduceEq, Int.reduceLT, Int.reduceLE, Int.reduceNeg, Int.reduceToNat, reduceCtorEq, ho, Try.results176, x.enc_eq, h1]); rfl)))
      simp only [go_sem, Nat.reduceEqDiff, Nat.reduceAdd, Nat.reduceSub, Nat.reduceLeDiff, Nat.reduceLT, Nat.reduceMul, Nat.reduceBEq, Int.reduceEq, Int.reduceLT, Int.reduceLE, Int.reduceNeg, Int.reduceToNat, reduceCtorEq, ho, Try.results176, h1, x.enc_eq, eq_self, Nat.add_left_cancel_iff, Nat.left_eq_add, Nat.add_eq_left, f1, f3, f6, hgb, hS]
      intro k hk
      have g1 : ∀ j, j < 80 → ¬ k = b + j := fun j hj => by omega
      by_cases e : k = kb
      · subst e; simp only [go_sem, Nat.reduceEqDiff, Nat.reduceAdd, Nat.reduceSub, Nat.reduceLeDiff, Nat.reduceLT, Nat.reduceMul, Nat.reduceBEq, Int.reduceEq, Int.reduceLT, Int.reduceLE, Int.reduceNeg, Int.reduceToNat, reduceCtorEq, ho, Try.results176, g1, f3, neverX, h1]
      · simp only [go_sem, Nat.reduceEqDiff, Nat.reduceAdd, Nat.reduceSub, Nat.reduceLeDiff, Nat.reduceLT, Nat.reduceMul, Nat.reduceBEq, Int.reduceEq, Int.reduceLT, Int.reduceLE, Int.reduceNeg, Int.reduceToNat, reduceCtorEq, ho, Try.results176, g1, e]
    · simp only [go_sem, Nat.reduceEqDiff, Nat.reduceAdd, Nat.reduceSub, Nat.reduceLeDiff, Nat.reduceLT, Nat.reduceMul, Nat.reduceBEq, Int.reduceEq, Int.reduceLT, Int.reduceLE, Int.reduceNeg, Int.reduceToNat, reduceCtorEq, ho, Try.results176, h1, x.enc_eq, eq_self, Nat.add_left_cancel_iff, Nat.left_eq_add, Nat.add_eq_left, f1, f3, f6, hgb, hS]
      intro k hk
      have g1 : ∀ j, j < 80 → ¬ k = b + j := fun j hj => by omega
      by_cases e : k = kb
      · subst e; simp only [go_sem, Nat.reduceEqDiff, Nat.reduceAdd, Nat.reduceSub, Nat.reduceLeDiff, Nat.reduceLT, Nat.reduceMul, Nat.reduceBEq, Int.reduceEq, Int.reduceLT, Int.reduceLE, Int.reduceNeg, Int.reduceToNat, reduceCtorEq, ho, Try.results176, g1, f3, neverX, h1]
      · simp only [go_sem, Nat.reduceEqDiff, Nat.reduceAdd, Nat.reduceSub, Nat.reduceLeDiff, Nat.reduceLT, Nat.reduceMul, Nat.reduceBEq, Int.reduceEq, Int.reduceLT, Int.reduceLE, Int.reduceNeg, Int.reduceToNat, reduceCtorEq, ho, Try.results176, g1, e]
theorem never_clo (kb vb b0 : Nat) (hkb : kb < b0) : Clo 176 [.ptr kb vb 0] (fun k => k = kb) b0 (neverStep kb) (fun s x => s || neverX x) (fun s o => o kb = (vb, some (true, .box 4 [.bool s]))) (fun _ => 0) 100000000 where
  low k hk := by subst hk; exact hkb
  frame x o k hk := neverStep_frame k hk
  det x o o' h k hk := by
    subst hk
    have e := h k rfl
    unfold neverStep
    rw [upd_same, upd_same, e]
  loc s o o' h hs := by rw [← h kb rfl]; exact hs
  next s o x h := by rw [neverStep_eq x h, upd_same]
  lowS s o k ver b y h hk ho := by
    subst hk
    rw [h] at ho
    simp only [Prod.mk.injEq, Option.some.injEq] at ho
    obtain ⟨_, _, rfl⟩ := ho
    intro z hz k' v hh
    simp only [List.mem_singleton] at hz
    subst hz
    cases hh
  szs s x := by simp
  run s o x b kd h1 h2 h3 _ h5 h6 := neverClo_run kb vb b0 hkb s o x b kd h1 h2 h3 h5 h6
end Go.Proofs.Ytiefnninebilbaa
/- The window of conditions as the program computes it; no condition. -/
set_option maxRecDepth 100000
set_option linter.unusedVariables false
set_option linter.unusedSimpArgs false
namespace Go.Proofs.Ytiefnninebilbaa
open Go Go.Sx

def meetLo (op n lo : Int) : Int := if op = 11 then mxI lo (IntKind.i64.wrap (n + 1)) else if op = 12 ∨ op = 7 then mxI lo n else lo
def meetHi (op n hi : Int) : Int := if op = 9 then mnI hi (IntKind.i64.wrap (n - 1)) else if op = 10 ∨ op = 7 then mnI hi n else hi
def M123 : Nat → Nat → Option Md := fun id i => if id = 10 then (if i = 1 then some .n else if i = 6 then some .n else if i = 7 then some .n else if i = 8 then some .n else if i = 12 then some .n else if i = 13 then some .n else if i = 16 then some (.s 1000) else if i = 19 then some (.s 1000) else none) else none
theorem ok123 : okCode M123 Try.f123.ntmps (Try.f123.body.getD .skip) = true := by decide +kernel
theorem meet_run (k v : Nat) (lo hi op n : Int) (o : Objs) (kd : Option Nat) (hk : k ≤ 900000000) (ho : o k = (v, some (true, .box 115 [.int .i64 lo, .int .i64 hi]))) :
    CallRun P0 123 [.ptr k v 0, .int .i64 op, .int .i64 n] kd o (.tup []) (upd o k (v, some (true, .box 115 [.int .i64 (meetLo op n lo), .int .i64 (meetHi op n hi)]))) := by
  have hgb : getBox o k v = some (115, [.int .i64 lo, .int .i64 hi]) := by simp [getBox, ho]
  obtain ⟨b, kr, hb, hb9⟩ : ∃ b kr, (kr < b ∧ k < b ∧ k ≠ kr) ∧ b ≤ 900000002 := ⟨k + 2, k + 1, ⟨by omega, by omega, by omega⟩, by omega⟩
  refine CallRun.of_awp _ _ (fun _ => False) (E := (E0.col b 999 kr k hb)) (M := M123) follows Try.func123 rfl (by decide) ok123 (fun d hd => ?_) (by simp) (fun k hk => hk.elim) (fun j hj => ?_) (fun j ver bb y hj => ?_) ?_ ?_
  · show (if d = 999 then kr else if d = 1000 then k else b + d) < 1000000000
    have : d < 57 := hd
    split
    · omega
    · split <;> omega
  · have : j ≠ k := by omega
    rw [upd_ne _ _ this]
  · right
    by_cases h : j = k
    · subst h
      rw [upd_same] at hj
      simp only [Prod.mk.injEq, Option.some.injEq] at hj
      obtain ⟨_, _, rfl⟩ := hj
      intro z hz k' v' hh
      simp only [List.mem_cons, List.not_mem_nil, or_false] at hz
      rcases hz with rfl | rfl <;> cases hh
    · cases y with
      | box t cs => exact fun z hz k' v' hh hf => hf
      | row e xs => trivial
      | other => trivial
      | mp m => cases m with
        | s l => trivial
        | i l => trivial
        | r l => exact fun p hp k' v' hh hf => hf
        | it km vm n seen => exact fun hf => hf
  · simp only [go_sem]
  have fin : ∀ {a b : PV} {p q : Int} {o2 : Objs}, (∀ j, o2 j = if j = k then (v, some (true, .box 115 [a, b])) else o j) → a = .int .i64 p → b = .int .i64 q → ∀ j, ¬ False → o2 j = upd o k (v, some (true, .box 115 [.int .i64 p, .int .i64 q])) j := by
    intro a b p q o2 h h1 h2 j _
    rw [h j, h1, h2]; rfl
  simp only [go_sem, Nat.reduceEqDiff, Nat.reduceAdd, Nat.reduceSub, Nat.reduceLeDiff, Nat.reduceLT, Nat.reduceMul, Nat.reduceBEq, Int.reduceEq, Int.reduceLT, Int.reduceLE, Int.reduceNeg, Int.reduceToNat, reduceCtorEq, ho, Try.results123]
  by_cases h11 : op = 11
  · simp only [go_sem, Nat.reduceEqDiff, Nat.reduceAdd, Nat.reduceSub, Nat.reduceLeDiff, Nat.reduceLT, Nat.reduceMul, Nat.reduceBEq, Int.reduceEq, Int.reduceLT, Int.reduceLE, Int.reduceNeg, Int.reduceToNat, reduceCtorEq, ho, Try.results123, h11, hgb, ho, eq_self]
    intro j hj
    simp only [upd, meetLo, meetHi, h11, mxI, mnI, if_true, if_false]
    split <;> rfl
  by_cases h12 : op = 12
  · simp only [go_sem, Nat.reduceEqDiff, Nat.reduceAdd, Nat.reduceSub, Nat.reduceLeDiff, Nat.reduceLT, Nat.reduceMul, Nat.reduceBEq, Int.reduceEq, Int.reduceLT, Int.reduceLE, Int.reduceNeg, Int.reduceToNat, reduceCtorEq, ho, Try.results123, h12, hgb, ho, eq_self]
    intro j hj
    simp only [upd, meetLo, meetHi, h12, mxI, mnI, if_true, if_false]
    split <;> rfl
  by_cases h9 : op = 9
  · simp only [go_sem, Nat.reduceEqDiff, Nat.reduceAdd, Nat.reduceSub, Nat.reduceLeDiff, Nat.reduceLT, Nat.reduceMul, Nat.reduceBEq, Int.reduceEq, Int.reduceLT, Int.reduceLE, Int.reduceNeg, Int.reduceToNat, reduceCtorEq, ho, Try.results123, h9, hgb, ho, eq_self]
    intro j hj
    simp only [upd, meetLo, meetHi, h9, mxI, mnI, if_true, if_false]
    split <;> rfl
  by_cases h10 : op = 10
  · simp only [go_sem, Nat.reduceEqDiff, Nat.reduceAdd, Nat.reduceSub, Nat.reduceLeDiff, Nat.reduceLT, Nat.reduceMul, Nat.reduceBEq, Int.reduceEq, Int.reduceLT, Int.reduceLE, Int.reduceNeg, Int.reduceToNat, reduceCtorEq, ho, Try.results123, h10, hgb, ho, eq_self]
    intro j hj
    simp only [upd, meetLo, meetHi, h10, mxI, mnI, if_true, if_false]
    split <;> rfl
  by_cases h7 : op = 7
  · simp only [go_sem, Nat.reduceEqDiff, Nat.reduceAdd, Nat.reduceSub, Nat.reduceLeDiff, Nat.reduceLT, Nat.reduceMul, Nat.reduceBEq, Int.reduceEq, Int.reduceLT, Int.reduceLE, Int.reduceNeg, Int.reduceToNat, reduceCtorEq, ho, Try.results123, h7, hgb, ho, eq_self, mdOf, M123, Option.getD_some, Option.getD_none, if_true, if_false]
    intro j hj
    simp only [upd, meetLo, meetHi, h7, mxI, mnI, if_true, if_false]
    split <;> rfl
  simp only [go_sem, Nat.reduceEqDiff, Nat.reduceAdd, Nat.reduceSub, Nat.reduceLeDiff, Nat.reduceLT, Nat.reduceMul, Nat.reduceBEq, Int.reduceEq, Int.reduceLT, Int.reduceLE, Int.reduceNeg, Int.reduceToNat, reduceCtorEq, ho, Try.results123, h11, h12, h9, h10, h7]
  intro j hj
  simp only [upd, meetLo, meetHi, h11, h12, h9, h10, h7, if_false, or_self]
  split
  · rename_i e; subst e; exact ho
  · rfl
theorem ok124 : okCode M0 Try.f124.ntmps (Try.f124.body.getD .skip) = true := by decide +kernel
theorem empty_fn (lo hi : Int) : Fc 124 [.mem [.int .i64 lo, .int .i64 hi]] (.bool (decide (hi < lo))) := by
  refine fn_of_awp (E := E0) (M := M0) follows Try.func124 rfl (by decide) ok124 (by decide) (by simp) fun o ho => ?_
  simp only [go_sem, Nat.reduceEqDiff, Nat.reduceAdd, Nat.reduceSub, Nat.reduceLeDiff, Nat.reduceLT, Nat.reduceMul, Nat.reduceBEq, Int.reduceEq, Int.reduceLT, Int.reduceLE, Int.reduceNeg, Int.reduceToNat, reduceCtorEq, ho, Try.results124]
end Go.Proofs.Ytiefnninebilbaa
/- The window as the program computes it; no condition. -/
set_option maxRecDepth 100000
set_option linter.unusedVariables false
set_option linter.unusedSimpArgs false
namespace Go.Proofs.Ytiefnninebilbaa
open Go Go.Sx

def Ex.conds (e : Ex) : List Cd := e.conj.filterMap Ex.cond
theorem conds_flat (e : Ex) : e.conj.flatMap newCd = e.conds.map Cd.enc := by
  unfold Ex.conds
  induction e.conj with
  | nil => rfl
  | cons x l ih =>
    rw [List.flatMap_cons, ih, List.filterMap_cons]
    cases h : x.cond <;> simp [newCd, h]
theorem conds_len (e : Ex) : e.conds.length ≤ e.size := by
  have h1 := e.conj_len
  have h2 := List.length_filterMap_le Ex.cond e.conj
  unfold Ex.conds
  omega
theorem conditions_fn' (e : Ex) (h : e.size ≤ 10000000) : Fc 53 [e.enc] (.sl (e.conds.map Cd.enc)) := by rw [← conds_flat]; exact conditions_fn e h
def winL (f t : Int) : List Cd → Int × Int → Int × Int → Option ((Int × Int) × (Int × Int))
  | [], a, b => some (a, b)
  | c :: l, a, b =>
    if c.col ≠ f ∧ c.col ≠ t then winL f t l a b
    else if c.val.kind ≠ 1 then none
    else winL f t l (if c.col = f then (meetLo c.op c.val.int a.1, meetHi c.op c.val.int a.2) else a) (if c.col = t then (meetLo c.op c.val.int b.1, meetHi c.op c.val.int b.2) else b)
def winOf : Option ((Int × Int) × (Int × Int)) → Pd × Bool
  | none => (⟨0, 0⟩, false)
  | some (a, b) => if a.2 < a.1 ∨ b.2 < b.1 ∨ b.2 ≤ a.1 then (⟨0, 0⟩, false) else if a.2 < b.1 then (⟨a.2, b.1⟩, true) else (⟨a.1, b.2⟩, true)
def winPV (r : Option ((Int × Int) × (Int × Int))) : PV := .tup [(winOf r).1.enc, .bool (winOf r).2]
theorem cds_get {l done rest : List Cd} {x : Cd} (h : l = done ++ x :: rest) : (l.map Cd.enc)[done.length]? = some x.enc := by simp [h]
theorem ok47 : okCode M0 Try.f47.ntmps (Try.f47.body.getD .skip) = true := by decide +kernel
theorem window_fn (e : Ex) (f t : Int) (h : e.size ≤ 10000000) : Fc 47 [e.enc, .int .i64 f, .int .i64 t] (winPV (winL f t e.conds (0, 1099511627775) (1, 1099511627776))) := by
  have hcl := conds_len e
  refine fn_of_awp (E := E0) (M := M0) follows Try.func47 rfl (by decide) ok47 (by decide) (by simp) fun o ho => ?_
  simp only [go_sem, Nat.reduceEqDiff, Nat.reduceAdd, Nat.reduceSub, Nat.reduceLeDiff, Nat.reduceLT, Nat.reduceMul, Nat.reduceBEq, Int.reduceEq, Int.reduceLT, Int.reduceLE, Int.reduceNeg, Int.reduceToNat, reduceCtorEq, ho, Try.results47, e.enc_eq]
  refine GCall.fr ?_ (conditions_fn' e h) (.inr rfl) ?_; (focus (first | rfl | ((simp only [go_sem, Nat.reduceEqDiff, Nat.reduceAdd, Nat.reduceSub, Nat.reduceLeDiff, Nat.reduceLT, Nat.reduceMul, Nat.reduceBEq, Int.reduceEq, Int.reduceLT, Int.reduceLE, Int.reduceNeg, Int.reduceToNat, reduceCtorEq, ho, Try.results47, e.enc_eq]); done) | ((simp only [go_sem, Nat.reduceEqDiff, Nat.reduceAdd, Nat.reduceSub, Nat.reduceLeDiff, Nat.reduceLT, Nat.reduceMul, Nat.reduceBEq, Int.reduceEq, Int.reduceLT, Int.reduceLE, Int.reduceNeg, Int.reduceToNat, reduceCtorEq, ho, Try.results47, e.enc_eq]); rfl)))
  simp only [go_sem, Nat.reduceEqDiff, Nat.reduceAdd, Nat.reduceSub, Nat.reduceLeDiff, Nat.reduceLT, Nat.reduceMul, Nat.reduceBEq, Int.reduceEq, Int.reduceLT, Int.reduceLE, Int.reduceNeg, Int.reduceToNat, reduceCtorEq, ho, Try.results47, List.length_map]
  refine ⟨fun m st => ∃ (done rest : List Cd) (a1 a2 b1 b2 : Int), e.conds = done ++ rest ∧ rest.length = m ∧ winL f t rest (a1, a2) (b1, b2) = winL f t e.conds (0, 1099511627775) (1, 1099511627776) ∧ st.s 17 = .int .i64 done.length ∧ st.s 16 = .int .i64 e.conds.length ∧ st.s 15 = .sl (e.conds.map Cd.enc) ∧ st.s 1 = .int .i64 f ∧ st.s 2 = .int .i64 t ∧ st.s 8 = .ptr 8 1 0 ∧ st.o 8 = (1, some (true, .box 115 [.int .i64 a1, .int .i64 a2])) ∧ st.s 9 = .ptr 9 1 0 ∧ st.o 9 = (1, some (true, .box 115 [.int .i64 b1, .int .i64 b2])) ∧ st.s 6 = .ptr 6 1 0 ∧ st.o 6 = (1, some (true, .box 61 [.int .i64 0, .int .i64 0])), e.conds.length,
    ⟨[], e.conds, 0, 1099511627775, 1, 1099511627776, rfl, rfl, rfl, by simp only [go_sem, Nat.reduceEqDiff, Nat.reduceAdd, Nat.reduceSub, Nat.reduceLeDiff, Nat.reduceLT, Nat.reduceMul, Nat.reduceBEq, Int.reduceEq, Int.reduceLT, Int.reduceLE, Int.reduceNeg, Int.reduceToNat, reduceCtorEq, ho, Try.results47]; rfl, by simp only [go_sem, Nat.reduceEqDiff, Nat.reduceAdd, Nat.reduceSub, Nat.reduceLeDiff, Nat.reduceLT, Nat.reduceMul, Nat.reduceBEq, Int.reduceEq, Int.reduceLT, Int.reduceLE, Int.reduceNeg, Int.reduceToNat, reduceCtorEq, ho, Try.results47], by simp only [go_sem, Nat.reduceEqDiff, Nat.reduceAdd, Nat.reduceSub, Nat.reduceLeDiff, Nat.reduceLT, Nat.reduceMul, Nat.reduceBEq, Int.reduceEq, Int.reduceLT, Int.reduceLE, Int.reduceNeg, Int.reduceToNat, reduceCtorEq, ho, Try.results47], by simp only [go_sem, Nat.reduceEqDiff, Nat.reduceAdd, Nat.reduceSub, Nat.reduceLeDiff, Nat.reduceLT, Nat.reduceMul, Nat.reduceBEq, Int.reduceEq, Int.reduceLT, Int.reduceLE, Int.reduceNeg, Int.reduceToNat, reduceCtorEq, ho, Try.results47], by simp only [go_sem, Nat.reduceEqDiff, Nat.reduceAdd, Nat.reduceSub, Nat.reduceLeDiff, Nat.reduceLT, Nat.reduceMul, Nat.reduceBEq, Int.reduceEq, Int.reduceLT, Int.reduceLE, Int.reduceNeg, Int.reduceToNat, reduceCtorEq, ho, Try.results47], by simp only [go_sem, Nat.reduceEqDiff, Nat.reduceAdd, Nat.reduceSub, Nat.reduceLeDiff, Nat.reduceLT, Nat.reduceMul, Nat.reduceBEq, Int.reduceEq, Int.reduceLT, Int.reduceLE, Int.reduceNeg, Int.reduceToNat, reduceCtorEq, ho, Try.results47], by simp only [go_sem, Nat.reduceEqDiff, Nat.reduceAdd, Nat.reduceSub, Nat.reduceLeDiff, Nat.reduceLT, Nat.reduceMul, Nat.reduceBEq, Int.reduceEq, Int.reduceLT, Int.reduceLE, Int.reduceNeg, Int.reduceToNat, reduceCtorEq, ho, Try.results47], by simp only [go_sem, Nat.reduceEqDiff, Nat.reduceAdd, Nat.reduceSub, Nat.reduceLeDiff, Nat.reduceLT, Nat.reduceMul, Nat.reduceBEq, Int.reduceEq, Int.reduceLT, Int.reduceLE, Int.reduceNeg, Int.reduceToNat, reduceCtorEq, ho, Try.results47], by simp only [go_sem, Nat.reduceEqDiff, Nat.reduceAdd, Nat.reduceSub, Nat.reduceLeDiff, Nat.reduceLT, Nat.reduceMul, Nat.reduceBEq, Int.reduceEq, Int.reduceLT, Int.reduceLE, Int.reduceNeg, Int.reduceToNat, reduceCtorEq, ho, Try.results47], by simp only [go_sem, Nat.reduceEqDiff, Nat.reduceAdd, Nat.reduceSub, Nat.reduceLeDiff, Nat.reduceLT, Nat.reduceMul, Nat.reduceBEq, Int.reduceEq, Int.reduceLT, Int.reduceLE, Int.reduceNeg, Int.reduceToNat, reduceCtorEq, ho, Try.results47], by simp only [go_sem, Nat.reduceEqDiff, Nat.reduceAdd, Nat.reduceSub, Nat.reduceLeDiff, Nat.reduceLT, Nat.reduceMul, Nat.reduceBEq, Int.reduceEq, Int.reduceLT, Int.reduceLE, Int.reduceNeg, Int.reduceToNat, reduceCtorEq, ho, Try.results47]⟩, ?_⟩
  rintro m st ⟨done, rest, a1, a2, b1, b2, hl', hn, hw', h17, h16, h15, hs1, hs2, hs8, ho8, hs9, ho9, hs6, ho6⟩
  have hlen2 : done.length + rest.length = e.conds.length := by rw [hl']; simp
  have hw : IntKind.i64.wrap ((done.length : Int) + 1) = (done.length : Int) + 1 := wrap_fits (by omega) (by omega)
  have hg8 : getBox st.o 8 1 = some (115, [.int .i64 a1, .int .i64 a2]) := by simp [getBox, ho8]
  have hg9 : getBox st.o 9 1 = some (115, [.int .i64 b1, .int .i64 b2]) := by simp [getBox, ho9]
  have hg6 : getBox st.o 6 1 = some (61, [.int .i64 0, .int .i64 0]) := by simp [getBox, ho6]
  rw [← hw']
  cases rest with
  | nil =>
    have hlt : ¬ (done.length : Int) < (e.conds.length : Int) := by simp at hlen2; omega
    simp only [go_sem, Nat.reduceEqDiff, Nat.reduceAdd, Nat.reduceSub, Nat.reduceLeDiff, Nat.reduceLT, Nat.reduceMul, Nat.reduceBEq, Int.reduceEq, Int.reduceLT, Int.reduceLE, Int.reduceNeg, Int.reduceToNat, reduceCtorEq, ho, Try.results47, h17, h16, hlt, hs8]
    refine GCall.fr ?_ (empty_fn a1 a2) (.inl rfl) ?_; (focus (first | rfl | ((simp only [go_sem, Nat.reduceEqDiff, Nat.reduceAdd, Nat.reduceSub, Nat.reduceLeDiff, Nat.reduceLT, Nat.reduceMul, Nat.reduceBEq, Int.reduceEq, Int.reduceLT, Int.reduceLE, Int.reduceNeg, Int.reduceToNat, reduceCtorEq, ho, Try.results47, hg8]); done) | ((simp only [go_sem, Nat.reduceEqDiff, Nat.reduceAdd, Nat.reduceSub, Nat.reduceLeDiff, Nat.reduceLT, Nat.reduceMul, Nat.reduceBEq, Int.reduceEq, Int.reduceLT, Int.reduceLE, Int.reduceNeg, Int.reduceToNat, reduceCtorEq, ho, Try.results47, hg8]); rfl)))
    simp only [go_sem, Nat.reduceEqDiff, Nat.reduceAdd, Nat.reduceSub, Nat.reduceLeDiff, Nat.reduceLT, Nat.reduceMul, Nat.reduceBEq, Int.reduceEq, Int.reduceLT, Int.reduceLE, Int.reduceNeg, Int.reduceToNat, reduceCtorEq, ho, Try.results47, hs9]
    by_cases h1 : a2 < a1
    · simp only [go_sem, Nat.reduceEqDiff, Nat.reduceAdd, Nat.reduceSub, Nat.reduceLeDiff, Nat.reduceLT, Nat.reduceMul, Nat.reduceBEq, Int.reduceEq, Int.reduceLT, Int.reduceLE, Int.reduceNeg, Int.reduceToNat, reduceCtorEq, ho, Try.results47, h1, hs6, ho6, hg6]
      simp [winPV, winL, winOf, h1, Pd.enc]
    simp only [go_sem, Nat.reduceEqDiff, Nat.reduceAdd, Nat.reduceSub, Nat.reduceLeDiff, Nat.reduceLT, Nat.reduceMul, Nat.reduceBEq, Int.reduceEq, Int.reduceLT, Int.reduceLE, Int.reduceNeg, Int.reduceToNat, reduceCtorEq, ho, Try.results47, h1, hs9]
    refine GCall.fr ?_ (empty_fn b1 b2) (.inl rfl) ?_; (focus (first | rfl | ((simp only [go_sem, Nat.reduceEqDiff, Nat.reduceAdd, Nat.reduceSub, Nat.reduceLeDiff, Nat.reduceLT, Nat.reduceMul, Nat.reduceBEq, Int.reduceEq, Int.reduceLT, Int.reduceLE, Int.reduceNeg, Int.reduceToNat, reduceCtorEq, ho, Try.results47, hg9]); done) | ((simp only [go_sem, Nat.reduceEqDiff, Nat.reduceAdd, Nat.reduceSub, Nat.reduceLeDiff, Nat.reduceLT, Nat.reduceMul, Nat.reduceBEq, Int.reduceEq, Int.reduceLT, Int.reduceLE, Int.reduceNeg, Int.reduceToNat, reduceCtorEq, ho, Try.results47, hg9]); rfl)))
    simp only [go_sem, Nat.reduceEqDiff, Nat.reduceAdd, Nat.reduceSub, Nat.reduceLeDiff, Nat.reduceLT, Nat.reduceMul, Nat.reduceBEq, Int.reduceEq, Int.reduceLT, Int.reduceLE, Int.reduceNeg, Int.reduceToNat, reduceCtorEq, ho, Try.results47]
    by_cases h2 : b2 < b1
    · simp only [go_sem, Nat.reduceEqDiff, Nat.reduceAdd, Nat.reduceSub, Nat.reduceLeDiff, Nat.reduceLT, Nat.reduceMul, Nat.reduceBEq, Int.reduceEq, Int.reduceLT, Int.reduceLE, Int.reduceNeg, Int.reduceToNat, reduceCtorEq, ho, Try.results47, h2, hs6, ho6, hg6]
      simp [winPV, winL, winOf, h1, h2, Pd.enc]
    simp only [go_sem, Nat.reduceEqDiff, Nat.reduceAdd, Nat.reduceSub, Nat.reduceLeDiff, Nat.reduceLT, Nat.reduceMul, Nat.reduceBEq, Int.reduceEq, Int.reduceLT, Int.reduceLE, Int.reduceNeg, Int.reduceToNat, reduceCtorEq, ho, Try.results47, h2, hs8, hs9, hg8, hg9]
    by_cases h3 : b2 ≤ a1
    · simp only [go_sem, Nat.reduceEqDiff, Nat.reduceAdd, Nat.reduceSub, Nat.reduceLeDiff, Nat.reduceLT, Nat.reduceMul, Nat.reduceBEq, Int.reduceEq, Int.reduceLT, Int.reduceLE, Int.reduceNeg, Int.reduceToNat, reduceCtorEq, ho, Try.results47, h3, hs6, ho6, hg6]
      simp [winPV, winL, winOf, h1, h2, h3, Pd.enc]
    simp only [go_sem, Nat.reduceEqDiff, Nat.reduceAdd, Nat.reduceSub, Nat.reduceLeDiff, Nat.reduceLT, Nat.reduceMul, Nat.reduceBEq, Int.reduceEq, Int.reduceLT, Int.reduceLE, Int.reduceNeg, Int.reduceToNat, reduceCtorEq, ho, Try.results47, h3, hs8, hs9, hg8, hg9]
    by_cases h4 : a2 < b1
    · simp only [go_sem, Nat.reduceEqDiff, Nat.reduceAdd, Nat.reduceSub, Nat.reduceLeDiff, Nat.reduceLT, Nat.reduceMul, Nat.reduceBEq, Int.reduceEq, Int.reduceLT, Int.reduceLE, Int.reduceNeg, Int.reduceToNat, reduceCtorEq, ho, Try.results47, h4, hs6, ho6, hg6, hs8, hs9, hg8, hg9]
      simp [winPV, winL, winOf, h1, h2, h3, h4, Pd.enc]
    · simp only [go_sem, Nat.reduceEqDiff, Nat.reduceAdd, Nat.reduceSub, Nat.reduceLeDiff, Nat.reduceLT, Nat.reduceMul, Nat.reduceBEq, Int.reduceEq, Int.reduceLT, Int.reduceLE, Int.reduceNeg, Int.reduceToNat, reduceCtorEq, ho, Try.results47, h4, hs6, ho6, hg6, hs8, hs9, hg8, hg9]
      simp [winPV, winL, winOf, h1, h2, h3, h4, Pd.enc]
  | cons c rest =>
    have hlt : (done.length : Int) < (e.conds.length : Int) := by simp at hlen2; omega
    have hget := cds_get hl'
    have again : ∀ a1' a2' b1' b2' : Int, winL f t rest (a1', a2') (b1', b2') = winL f t (c :: rest) (a1, a2) (b1, b2) → ∃ m', m' < m ∧ ∃ (done' rest' : List Cd) (x1 x2 y1 y2 : Int), e.conds = done' ++ rest' ∧ rest'.length = m' ∧ winL f t rest' (x1, x2) (y1, y2) = winL f t (c :: rest) (a1, a2) (b1, b2) ∧ ((done.length : Int) + 1 = (done'.length : Int)) ∧ ((1 : Nat), some (true, Ob.box 115 [PV.int .i64 a1', .int .i64 a2'])) = (1, some (true, .box 115 [.int .i64 x1, .int .i64 x2])) ∧ ((1 : Nat), some (true, Ob.box 115 [PV.int .i64 b1', .int .i64 b2'])) = (1, some (true, .box 115 [.int .i64 y1, .int .i64 y2])) := fun a1' a2' b1' b2' hh => ⟨rest.length, by simp at hn; omega, done ++ [c], rest, a1', a2', b1', b2', by simp [hl'], rfl, hh, by simp, rfl, rfl⟩
    simp only [go_sem, Nat.reduceEqDiff, Nat.reduceAdd, Nat.reduceSub, Nat.reduceLeDiff, Nat.reduceLT, Nat.reduceMul, Nat.reduceBEq, Int.reduceEq, Int.reduceLT, Int.reduceLE, Int.reduceNeg, Int.reduceToNat, reduceCtorEq, ho, Try.results47, h17, h16, h15, hlt, hget, Int.natCast_nonneg, Int.toNat_natCast, Cd.enc, hs1, hs2]
    by_cases hf : c.col = f
    · simp only [go_sem, Nat.reduceEqDiff, Nat.reduceAdd, Nat.reduceSub, Nat.reduceLeDiff, Nat.reduceLT, Nat.reduceMul, Nat.reduceBEq, Int.reduceEq, Int.reduceLT, Int.reduceLE, Int.reduceNeg, Int.reduceToNat, reduceCtorEq, ho, Try.results47, hf, eq_self]
      by_cases hk : c.val.kind = 1
      · simp only [go_sem, Nat.reduceEqDiff, Nat.reduceAdd, Nat.reduceSub, Nat.reduceLeDiff, Nat.reduceLT, Nat.reduceMul, Nat.reduceBEq, Int.reduceEq, Int.reduceLT, Int.reduceLE, Int.reduceNeg, Int.reduceToNat, reduceCtorEq, ho, Try.results47, hk, hf, hs1, hs8, eq_self]
        refine GCall.turn (meet_run 8 1 a1 a2 _ _ _ _ (by decide) ?_) ?_
        · simp only [go_sem, Nat.reduceEqDiff, Nat.reduceAdd, Nat.reduceSub, Nat.reduceLeDiff, Nat.reduceLT, Nat.reduceMul, Nat.reduceBEq, Int.reduceEq, Int.reduceLT, Int.reduceLE, Int.reduceNeg, Int.reduceToNat, reduceCtorEq, ho, Try.results47, ho8]
        simp only [go_sem, Nat.reduceEqDiff, Nat.reduceAdd, Nat.reduceSub, Nat.reduceLeDiff, Nat.reduceLT, Nat.reduceMul, Nat.reduceBEq, Int.reduceEq, Int.reduceLT, Int.reduceLE, Int.reduceNeg, Int.reduceToNat, reduceCtorEq, ho, Try.results47, hf, hs2, eq_self]
        by_cases ht : f = t
        · simp only [go_sem, Nat.reduceEqDiff, Nat.reduceAdd, Nat.reduceSub, Nat.reduceLeDiff, Nat.reduceLT, Nat.reduceMul, Nat.reduceBEq, Int.reduceEq, Int.reduceLT, Int.reduceLE, Int.reduceNeg, Int.reduceToNat, reduceCtorEq, ho, Try.results47, ht, hs9, eq_self]
          refine GCall.turn (meet_run 9 1 b1 b2 _ _ _ _ (by decide) ?_) ?_
          · simp only [go_sem, Nat.reduceEqDiff, Nat.reduceAdd, Nat.reduceSub, Nat.reduceLeDiff, Nat.reduceLT, Nat.reduceMul, Nat.reduceBEq, Int.reduceEq, Int.reduceLT, Int.reduceLE, Int.reduceNeg, Int.reduceToNat, reduceCtorEq, ho, Try.results47, ho9]
          simp only [go_sem, Nat.reduceEqDiff, Nat.reduceAdd, Nat.reduceSub, Nat.reduceLeDiff, Nat.reduceLT, Nat.reduceMul, Nat.reduceBEq, Int.reduceEq, Int.reduceLT, Int.reduceLE, Int.reduceNeg, Int.reduceToNat, reduceCtorEq, ho, Try.results47, h17, h16, h15, hs1, hs2, hs8, ho8, hs9, ho9, hs6, ho6, hw]
          subst ht
          have hh := again (meetLo c.op c.val.int a1) (meetHi c.op c.val.int a2) (meetLo c.op c.val.int b1) (meetHi c.op c.val.int b2) (by rw [winL, if_neg (by simp [hf]), if_neg (by simp [hk]), if_pos hf, if_pos hf])
          obtain ⟨m', q1, d', r', x1, x2, y1, y2, q2, q3, q4, q5, q6, q7⟩ := hh
          exact ⟨m', q1, d', r', x1, x2, y1, y2, q2, q3, q4, q5, rfl, q6, q7⟩
        · simp only [go_sem, Nat.reduceEqDiff, Nat.reduceAdd, Nat.reduceSub, Nat.reduceLeDiff, Nat.reduceLT, Nat.reduceMul, Nat.reduceBEq, Int.reduceEq, Int.reduceLT, Int.reduceLE, Int.reduceNeg, Int.reduceToNat, reduceCtorEq, ho, Try.results47, ht, h17, h16, h15, hs1, hs2, hs8, ho8, hs9, ho9, hs6, ho6, hw]
          have ht' : ¬ c.col = t := by rw [hf]; exact ht
          exact again _ _ _ _ (by rw [winL, if_neg (by simp [hf]), if_neg (by simp [hk]), if_pos hf, if_neg ht'])
      · simp only [go_sem, Nat.reduceEqDiff, Nat.reduceAdd, Nat.reduceSub, Nat.reduceLeDiff, Nat.reduceLT, Nat.reduceMul, Nat.reduceBEq, Int.reduceEq, Int.reduceLT, Int.reduceLE, Int.reduceNeg, Int.reduceToNat, reduceCtorEq, ho, Try.results47, hk, hf, hs6, ho6, hg6]
        simp [winPV, winL, winOf, hf, hk, Pd.enc]
    · simp only [go_sem, Nat.reduceEqDiff, Nat.reduceAdd, Nat.reduceSub, Nat.reduceLeDiff, Nat.reduceLT, Nat.reduceMul, Nat.reduceBEq, Int.reduceEq, Int.reduceLT, Int.reduceLE, Int.reduceNeg, Int.reduceToNat, reduceCtorEq, ho, Try.results47, hf, hs2]
      by_cases ht : c.col = t
      · simp only [go_sem, Nat.reduceEqDiff, Nat.reduceAdd, Nat.reduceSub, Nat.reduceLeDiff, Nat.reduceLT, Nat.reduceMul, Nat.reduceBEq, Int.reduceEq, Int.reduceLT, Int.reduceLE, Int.reduceNeg, Int.reduceToNat, reduceCtorEq, ho, Try.results47, ht, eq_self]
        by_cases hk : c.val.kind = 1
        · have hf' : ¬ t = f := fun hh => hf (by rw [ht, hh])
          simp only [go_sem, Nat.reduceEqDiff, Nat.reduceAdd, Nat.reduceSub, Nat.reduceLeDiff, Nat.reduceLT, Nat.reduceMul, Nat.reduceBEq, Int.reduceEq, Int.reduceLT, Int.reduceLE, Int.reduceNeg, Int.reduceToNat, reduceCtorEq, ho, Try.results47, hk, ht, hs1, hs2, hf', hs9, eq_self]
          refine GCall.turn (meet_run 9 1 b1 b2 _ _ _ _ (by decide) ?_) ?_
          · simp only [go_sem, Nat.reduceEqDiff, Nat.reduceAdd, Nat.reduceSub, Nat.reduceLeDiff, Nat.reduceLT, Nat.reduceMul, Nat.reduceBEq, Int.reduceEq, Int.reduceLT, Int.reduceLE, Int.reduceNeg, Int.reduceToNat, reduceCtorEq, ho, Try.results47, ho9]
          simp only [go_sem, Nat.reduceEqDiff, Nat.reduceAdd, Nat.reduceSub, Nat.reduceLeDiff, Nat.reduceLT, Nat.reduceMul, Nat.reduceBEq, Int.reduceEq, Int.reduceLT, Int.reduceLE, Int.reduceNeg, Int.reduceToNat, reduceCtorEq, ho, Try.results47, h17, h16, h15, hs1, hs2, hs8, ho8, hs9, ho9, hs6, ho6, hw]
          exact again _ _ _ _ (by rw [winL, if_neg (by simp [ht]), if_neg (by simp [hk]), if_neg hf, if_pos ht])
        · simp only [go_sem, Nat.reduceEqDiff, Nat.reduceAdd, Nat.reduceSub, Nat.reduceLeDiff, Nat.reduceLT, Nat.reduceMul, Nat.reduceBEq, Int.reduceEq, Int.reduceLT, Int.reduceLE, Int.reduceNeg, Int.reduceToNat, reduceCtorEq, ho, Try.results47, hk, ht, hs6, ho6, hg6]
          simp [winPV, winL, winOf, ht, hk, Pd.enc]
      · simp only [go_sem, Nat.reduceEqDiff, Nat.reduceAdd, Nat.reduceSub, Nat.reduceLeDiff, Nat.reduceLT, Nat.reduceMul, Nat.reduceBEq, Int.reduceEq, Int.reduceLT, Int.reduceLE, Int.reduceNeg, Int.reduceToNat, reduceCtorEq, ho, Try.results47, ht, h17, h16, h15, hs1, hs2, hs8, ho8, hs9, ho9, hs6, ho6, hw]
        exact again _ _ _ _ (by rw [winL, if_pos ⟨hf, ht⟩])
end Go.Proofs.Ytiefnninebilbaa
/- Whether conditions on one column contradict each other: the program; no condition. -/
set_option maxRecDepth 100000
set_option linter.unusedVariables false
set_option linter.unusedSimpArgs false
namespace Go.Proofs.Ytiefnninebilbaa
open Go Go.Sx

structure Lm where
  text : ByteArray
  strict : Bool
  is : Bool
def Lm.enc (a : Lm) : PV := .agg [.str a.text, .bool a.strict, .bool a.is]
def tightC (a b : Lm) (sign : Int) : Int := IntKind.i64.wrap (sign * cmpB b.text a.text)
def tight (a b : Lm) (sign : Int) : Lm := if a.is = false ∨ 0 < tightC a b sign ∨ (tightC a b sign = 0 ∧ b.strict = true) then b else a
theorem ok212 : okCode M0 Try.f212.ntmps (Try.f212.body.getD .skip) = true := by decide +kernel
theorem tight_fn (a b : Lm) (sign : Int) : Fc 212 [a.enc, b.enc, .int .i64 sign] (tight a b sign).enc := by
  have e : ∀ x, x = IntKind.i64.wrap (sign * cmpB b.text a.text) → x = tightC a b sign := fun x h => h
  refine fn_of_awp (E := E0) (M := M0) follows Try.func212 rfl (by decide) ok212 (by decide) (by simp) fun o ho => ?_
  simp only [go_sem, Nat.reduceEqDiff, Nat.reduceAdd, Nat.reduceSub, Nat.reduceLeDiff, Nat.reduceLT, Nat.reduceMul, Nat.reduceBEq, Int.reduceEq, Int.reduceLT, Int.reduceLE, Int.reduceNeg, Int.reduceToNat, reduceCtorEq, ho, Try.results212, Lm.enc]
  refine GCall.fr ?_ (cmpB_fn b.text a.text) (.inl rfl) ?_; (focus (first | rfl | ((simp only [go_sem, Nat.reduceEqDiff, Nat.reduceAdd, Nat.reduceSub, Nat.reduceLeDiff, Nat.reduceLT, Nat.reduceMul, Nat.reduceBEq, Int.reduceEq, Int.reduceLT, Int.reduceLE, Int.reduceNeg, Int.reduceToNat, reduceCtorEq, ho, Try.results212]); done) | ((simp only [go_sem, Nat.reduceEqDiff, Nat.reduceAdd, Nat.reduceSub, Nat.reduceLeDiff, Nat.reduceLT, Nat.reduceMul, Nat.reduceBEq, Int.reduceEq, Int.reduceLT, Int.reduceLE, Int.reduceNeg, Int.reduceToNat, reduceCtorEq, ho, Try.results212]); rfl)))
  simp only [go_sem, Nat.reduceEqDiff, Nat.reduceAdd, Nat.reduceSub, Nat.reduceLeDiff, Nat.reduceLT, Nat.reduceMul, Nat.reduceBEq, Int.reduceEq, Int.reduceLT, Int.reduceLE, Int.reduceNeg, Int.reduceToNat, reduceCtorEq, ho, Try.results212, show IntKind.i64.wrap (sign * cmpB b.text a.text) = tightC a b sign from rfl]
  generalize hc : tightC a b sign = c
  cases hi : a.is with
  | false =>
    simp only [go_sem, Nat.reduceEqDiff, Nat.reduceAdd, Nat.reduceSub, Nat.reduceLeDiff, Nat.reduceLT, Nat.reduceMul, Nat.reduceBEq, Int.reduceEq, Int.reduceLT, Int.reduceLE, Int.reduceNeg, Int.reduceToNat, reduceCtorEq, ho, Try.results212, hi]
    simp [tight, hi]
  | true =>
    simp only [go_sem, Nat.reduceEqDiff, Nat.reduceAdd, Nat.reduceSub, Nat.reduceLeDiff, Nat.reduceLT, Nat.reduceMul, Nat.reduceBEq, Int.reduceEq, Int.reduceLT, Int.reduceLE, Int.reduceNeg, Int.reduceToNat, reduceCtorEq, ho, Try.results212, hi]
    by_cases h0 : 0 < c
    · simp only [go_sem, Nat.reduceEqDiff, Nat.reduceAdd, Nat.reduceSub, Nat.reduceLeDiff, Nat.reduceLT, Nat.reduceMul, Nat.reduceBEq, Int.reduceEq, Int.reduceLT, Int.reduceLE, Int.reduceNeg, Int.reduceToNat, reduceCtorEq, ho, Try.results212, h0]
      simp [tight, hi, hc, h0]
    · simp only [go_sem, Nat.reduceEqDiff, Nat.reduceAdd, Nat.reduceSub, Nat.reduceLeDiff, Nat.reduceLT, Nat.reduceMul, Nat.reduceBEq, Int.reduceEq, Int.reduceLT, Int.reduceLE, Int.reduceNeg, Int.reduceToNat, reduceCtorEq, ho, Try.results212, h0]
      by_cases h1 : c = 0
      · cases hs : b.strict with
        | true =>
          simp only [go_sem, Nat.reduceEqDiff, Nat.reduceAdd, Nat.reduceSub, Nat.reduceLeDiff, Nat.reduceLT, Nat.reduceMul, Nat.reduceBEq, Int.reduceEq, Int.reduceLT, Int.reduceLE, Int.reduceNeg, Int.reduceToNat, reduceCtorEq, ho, Try.results212, h1, hs]
          simp [tight, hi, hc, h0, h1, hs]
        | false =>
          simp only [go_sem, Nat.reduceEqDiff, Nat.reduceAdd, Nat.reduceSub, Nat.reduceLeDiff, Nat.reduceLT, Nat.reduceMul, Nat.reduceBEq, Int.reduceEq, Int.reduceLT, Int.reduceLE, Int.reduceNeg, Int.reduceToNat, reduceCtorEq, ho, Try.results212, h1, hs]
          simp [tight, hi, hc, h0, h1, hs]
      · simp only [go_sem, Nat.reduceEqDiff, Nat.reduceAdd, Nat.reduceSub, Nat.reduceLeDiff, Nat.reduceLT, Nat.reduceMul, Nat.reduceBEq, Int.reduceEq, Int.reduceLT, Int.reduceLE, Int.reduceNeg, Int.reduceToNat, reduceCtorEq, ho, Try.results212, h1]
        simp [tight, hi, hc, h0, h1]
def Cd.lim (c : Cd) : Lm := ⟨c.val.text, decide (c.op = 11) || decide (c.op = 9), true⟩
def txFold : List Cd → Lm → Lm → Lm × Lm
  | [], a, b => (a, b)
  | c :: l, a, b => txFold l (if c.op = 11 ∨ c.op = 12 ∨ c.op = 7 then tight a c.lim 1 else a) (if c.op = 9 ∨ c.op = 10 ∨ c.op = 7 then tight b c.lim (-1) else b)
def txOk (p : Lm × Lm) : Bool :=
  if p.2.is = true ∧ p.2.strict = true ∧ p.2.text = emp then false
  else if p.1.is = false ∨ p.2.is = false then true
  else decide (cmpB p.1.text p.2.text < 0) || (decide (cmpB p.1.text p.2.text = 0) && (!p.1.strict && !p.2.strict))
def Lm.zero : Lm := ⟨emp, false, false⟩
def txts (l : List Cd) : Bool := txOk (txFold l Lm.zero Lm.zero)
theorem ok195 : okCode M0 Try.f195.ntmps (Try.f195.body.getD .skip) = true := by decide +kernel
set_option maxHeartbeats 2000000 in
theorem txts_fn (l : List Cd) (hl : l.length ≤ 100000000) : Fc 195 [.sl (l.map Cd.enc)] (.bool (txts l)) := by
  refine fn_of_awp (E := E0) (M := M0) follows Try.func195 rfl (by decide) ok195 (by decide) (by simp) fun o ho => ?_
  simp only [go_sem, Nat.reduceEqDiff, Nat.reduceAdd, Nat.reduceSub, Nat.reduceLeDiff, Nat.reduceLT, Nat.reduceMul, Nat.reduceBEq, Int.reduceEq, Int.reduceLT, Int.reduceLE, Int.reduceNeg, Int.reduceToNat, reduceCtorEq, ho, Try.results195, List.length_map]
  refine ⟨fun m st => ∃ (done rest : List Cd) (a b : Lm), l = done ++ rest ∧ rest.length = m ∧ txFold rest a b = txFold l Lm.zero Lm.zero ∧ st.s 11 = .int .i64 done.length ∧ st.s 10 = .int .i64 l.length ∧ st.s 9 = .sl (l.map Cd.enc) ∧ st.s 3 = .ptr 3 1 0 ∧ st.o 3 = (1, some (true, .box 182 [.str a.text, .bool a.strict, .bool a.is])) ∧ st.s 4 = .ptr 4 1 0 ∧ st.o 4 = (1, some (true, .box 182 [.str b.text, .bool b.strict, .bool b.is])), l.length,
    ⟨[], l, Lm.zero, Lm.zero, rfl, rfl, rfl, by simp only [go_sem, Nat.reduceEqDiff, Nat.reduceAdd, Nat.reduceSub, Nat.reduceLeDiff, Nat.reduceLT, Nat.reduceMul, Nat.reduceBEq, Int.reduceEq, Int.reduceLT, Int.reduceLE, Int.reduceNeg, Int.reduceToNat, reduceCtorEq, ho, Try.results195]; rfl, by simp only [go_sem, Nat.reduceEqDiff, Nat.reduceAdd, Nat.reduceSub, Nat.reduceLeDiff, Nat.reduceLT, Nat.reduceMul, Nat.reduceBEq, Int.reduceEq, Int.reduceLT, Int.reduceLE, Int.reduceNeg, Int.reduceToNat, reduceCtorEq, ho, Try.results195], by simp only [go_sem, Nat.reduceEqDiff, Nat.reduceAdd, Nat.reduceSub, Nat.reduceLeDiff, Nat.reduceLT, Nat.reduceMul, Nat.reduceBEq, Int.reduceEq, Int.reduceLT, Int.reduceLE, Int.reduceNeg, Int.reduceToNat, reduceCtorEq, ho, Try.results195], by simp only [go_sem, Nat.reduceEqDiff, Nat.reduceAdd, Nat.reduceSub, Nat.reduceLeDiff, Nat.reduceLT, Nat.reduceMul, Nat.reduceBEq, Int.reduceEq, Int.reduceLT, Int.reduceLE, Int.reduceNeg, Int.reduceToNat, reduceCtorEq, ho, Try.results195], by simp only [go_sem, Nat.reduceEqDiff, Nat.reduceAdd, Nat.reduceSub, Nat.reduceLeDiff, Nat.reduceLT, Nat.reduceMul, Nat.reduceBEq, Int.reduceEq, Int.reduceLT, Int.reduceLE, Int.reduceNeg, Int.reduceToNat, reduceCtorEq, ho, Try.results195, Lm.zero], by simp only [go_sem, Nat.reduceEqDiff, Nat.reduceAdd, Nat.reduceSub, Nat.reduceLeDiff, Nat.reduceLT, Nat.reduceMul, Nat.reduceBEq, Int.reduceEq, Int.reduceLT, Int.reduceLE, Int.reduceNeg, Int.reduceToNat, reduceCtorEq, ho, Try.results195], by simp only [go_sem, Nat.reduceEqDiff, Nat.reduceAdd, Nat.reduceSub, Nat.reduceLeDiff, Nat.reduceLT, Nat.reduceMul, Nat.reduceBEq, Int.reduceEq, Int.reduceLT, Int.reduceLE, Int.reduceNeg, Int.reduceToNat, reduceCtorEq, ho, Try.results195, Lm.zero]⟩, ?_⟩
  rintro m st ⟨done, rest, a, b, hl', hn, hf, h11, h10, h9, hs3, ho3, hs4, ho4⟩
  have hlen2 : done.length + rest.length = l.length := by rw [hl']; simp
  have hw : IntKind.i64.wrap ((done.length : Int) + 1) = (done.length : Int) + 1 := wrap_fits (by omega) (by omega)
  have hg3 : getBox st.o 3 1 = some (182, [.str a.text, .bool a.strict, .bool a.is]) := by simp [getBox, ho3]
  have hg4 : getBox st.o 4 1 = some (182, [.str b.text, .bool b.strict, .bool b.is]) := by simp [getBox, ho4]
  cases rest with
  | nil =>
    have hlt : ¬ (done.length : Int) < (l.length : Int) := by simp at hlen2; omega
    have hfin : txts l = txOk (a, b) := by unfold txts; rw [← hf]; rfl
    rw [hfin]
    simp only [go_sem, Nat.reduceEqDiff, Nat.reduceAdd, Nat.reduceSub, Nat.reduceLeDiff, Nat.reduceLT, Nat.reduceMul, Nat.reduceBEq, Int.reduceEq, Int.reduceLT, Int.reduceLE, Int.reduceNeg, Int.reduceToNat, reduceCtorEq, ho, Try.results195, h11, h10, hlt, hs3, hs4, hg3, hg4]
    cases hbi : b.is with
    | false =>
      cases hai : a.is with
      | false => simp only [go_sem, Nat.reduceEqDiff, Nat.reduceAdd, Nat.reduceSub, Nat.reduceLeDiff, Nat.reduceLT, Nat.reduceMul, Nat.reduceBEq, Int.reduceEq, Int.reduceLT, Int.reduceLE, Int.reduceNeg, Int.reduceToNat, reduceCtorEq, ho, Try.results195, hbi, hai, hs3, hs4, hg3, hg4]; simp [txOk, hbi, hai]
      | true => simp only [go_sem, Nat.reduceEqDiff, Nat.reduceAdd, Nat.reduceSub, Nat.reduceLeDiff, Nat.reduceLT, Nat.reduceMul, Nat.reduceBEq, Int.reduceEq, Int.reduceLT, Int.reduceLE, Int.reduceNeg, Int.reduceToNat, reduceCtorEq, ho, Try.results195, hbi, hai, hs3, hs4, hg3, hg4]; simp [txOk, hbi, hai]
    | true =>
      have tail : ¬ (b.strict = true ∧ b.text = emp) → txOk (a, b) = (if a.is = false then true else decide (cmpB a.text b.text < 0) || (decide (cmpB a.text b.text = 0) && (!a.strict && !b.strict))) := by
        intro hh
        unfold txOk
        rw [if_neg (by rintro ⟨_, h1, h2⟩; exact hh ⟨h1, h2⟩)]
        simp [hbi]
      by_cases hst : b.strict = true ∧ b.text = emp
      · simp only [go_sem, Nat.reduceEqDiff, Nat.reduceAdd, Nat.reduceSub, Nat.reduceLeDiff, Nat.reduceLT, Nat.reduceMul, Nat.reduceBEq, Int.reduceEq, Int.reduceLT, Int.reduceLE, Int.reduceNeg, Int.reduceToNat, reduceCtorEq, ho, Try.results195, hbi, hst.1, hst.2, hs3, hs4, hg3, hg4]
        simp [txOk, hbi, hst.1, hst.2]
      · rw [tail hst]
        have hx : (b.strict = true → ¬ b.text = emp) := fun h1 h2 => hst ⟨h1, h2⟩
        cases hai : a.is with
        | false =>
          cases hbs : b.strict with
          | false => simp only [go_sem, Nat.reduceEqDiff, Nat.reduceAdd, Nat.reduceSub, Nat.reduceLeDiff, Nat.reduceLT, Nat.reduceMul, Nat.reduceBEq, Int.reduceEq, Int.reduceLT, Int.reduceLE, Int.reduceNeg, Int.reduceToNat, reduceCtorEq, ho, Try.results195, hbi, hbs, hai, hs3, hs4, hg3, hg4]; (try rfl)
          | true => simp only [go_sem, Nat.reduceEqDiff, Nat.reduceAdd, Nat.reduceSub, Nat.reduceLeDiff, Nat.reduceLT, Nat.reduceMul, Nat.reduceBEq, Int.reduceEq, Int.reduceLT, Int.reduceLE, Int.reduceNeg, Int.reduceToNat, reduceCtorEq, ho, Try.results195, hbi, hbs, hx hbs, hai, hs3, hs4, hg3, hg4]; (try rfl)
        | true =>
          cases hbs : b.strict with
          | false =>
            simp only [go_sem, Nat.reduceEqDiff, Nat.reduceAdd, Nat.reduceSub, Nat.reduceLeDiff, Nat.reduceLT, Nat.reduceMul, Nat.reduceBEq, Int.reduceEq, Int.reduceLT, Int.reduceLE, Int.reduceNeg, Int.reduceToNat, reduceCtorEq, ho, Try.results195, hbi, hbs, hai, hs3, hs4, hg3, hg4]
            refine GCall.fr ?_ (cmpB_fn a.text b.text) (.inl rfl) ?_; (focus (first | rfl | ((simp only [go_sem, Nat.reduceEqDiff, Nat.reduceAdd, Nat.reduceSub, Nat.reduceLeDiff, Nat.reduceLT, Nat.reduceMul, Nat.reduceBEq, Int.reduceEq, Int.reduceLT, Int.reduceLE, Int.reduceNeg, Int.reduceToNat, reduceCtorEq, ho, Try.results195]); done) | ((simp only [go_sem, Nat.reduceEqDiff, Nat.reduceAdd, Nat.reduceSub, Nat.reduceLeDiff, Nat.reduceLT, Nat.reduceMul, Nat.reduceBEq, Int.reduceEq, Int.reduceLT, Int.reduceLE, Int.reduceNeg, Int.reduceToNat, reduceCtorEq, ho, Try.results195]); rfl)))
            simp only [go_sem, Nat.reduceEqDiff, Nat.reduceAdd, Nat.reduceSub, Nat.reduceLeDiff, Nat.reduceLT, Nat.reduceMul, Nat.reduceBEq, Int.reduceEq, Int.reduceLT, Int.reduceLE, Int.reduceNeg, Int.reduceToNat, reduceCtorEq, ho, Try.results195]
            cases has : a.strict <;> (repeat' (first | (refine AIf_cases (fun h => ?_) (fun h => ?_) <;> (try simp only [decide_eq_true_eq, decide_eq_false_iff_not, Bool.not_eq_true', Bool.not_eq_false', Bool.not_eq_true, Bool.not_eq_false] at h) <;> (try simp only [go_sem, Nat.reduceEqDiff, Nat.reduceAdd, Nat.reduceSub, Nat.reduceLeDiff, Nat.reduceLT, Nat.reduceMul, Nat.reduceBEq, Int.reduceEq, Int.reduceLT, Int.reduceLE, Int.reduceNeg, Int.reduceToNat, reduceCtorEq, ho, Try.results195, h, has, hbs, hs3, hs4, hg3, hg4])))) <;> simp_all
          | true =>
            simp only [go_sem, Nat.reduceEqDiff, Nat.reduceAdd, Nat.reduceSub, Nat.reduceLeDiff, Nat.reduceLT, Nat.reduceMul, Nat.reduceBEq, Int.reduceEq, Int.reduceLT, Int.reduceLE, Int.reduceNeg, Int.reduceToNat, reduceCtorEq, ho, Try.results195, hbi, hbs, hx hbs, hai, hs3, hs4, hg3, hg4]
            refine GCall.fr ?_ (cmpB_fn a.text b.text) (.inl rfl) ?_; (focus (first | rfl | ((simp only [go_sem, Nat.reduceEqDiff, Nat.reduceAdd, Nat.reduceSub, Nat.reduceLeDiff, Nat.reduceLT, Nat.reduceMul, Nat.reduceBEq, Int.reduceEq, Int.reduceLT, Int.reduceLE, Int.reduceNeg, Int.reduceToNat, reduceCtorEq, ho, Try.results195]); done) | ((simp only [go_sem, Nat.reduceEqDiff, Nat.reduceAdd, Nat.reduceSub, Nat.reduceLeDiff, Nat.reduceLT, Nat.reduceMul, Nat.reduceBEq, Int.reduceEq, Int.reduceLT, Int.reduceLE, Int.reduceNeg, Int.reduceToNat, reduceCtorEq, ho, Try.results195]); rfl)))
            simp only [go_sem, Nat.reduceEqDiff, Nat.reduceAdd, Nat.reduceSub, Nat.reduceLeDiff, Nat.reduceLT, Nat.reduceMul, Nat.reduceBEq, Int.reduceEq, Int.reduceLT, Int.reduceLE, Int.reduceNeg, Int.reduceToNat, reduceCtorEq, ho, Try.results195]
            cases has : a.strict <;> (repeat' (first | (refine AIf_cases (fun h => ?_) (fun h => ?_) <;> (try simp only [decide_eq_true_eq, decide_eq_false_iff_not, Bool.not_eq_true', Bool.not_eq_false', Bool.not_eq_true, Bool.not_eq_false] at h) <;> (try simp only [go_sem, Nat.reduceEqDiff, Nat.reduceAdd, Nat.reduceSub, Nat.reduceLeDiff, Nat.reduceLT, Nat.reduceMul, Nat.reduceBEq, Int.reduceEq, Int.reduceLT, Int.reduceLE, Int.reduceNeg, Int.reduceToNat, reduceCtorEq, ho, Try.results195, h, has, hbs, hs3, hs4, hg3, hg4])))) <;> simp_all
  | cons c rest =>
    have hlt : (done.length : Int) < (l.length : Int) := by simp at hlen2; omega
    have hget := cds_get hl'
    rw [txFold] at hf
    have again : ∀ x y : Lm, txFold rest x y = txFold l Lm.zero Lm.zero → ∃ m', m' < m ∧ ∃ (done' rest' : List Cd) (p q : Lm), l = done' ++ rest' ∧ rest'.length = m' ∧ txFold rest' p q = txFold l Lm.zero Lm.zero ∧ ((done.length : Int) + 1 = (done'.length : Int)) ∧ ((1 : Nat), some (true, Ob.box 182 [PV.str x.text, .bool x.strict, .bool x.is])) = (1, some (true, .box 182 [.str p.text, .bool p.strict, .bool p.is])) ∧ ((1 : Nat), some (true, Ob.box 182 [PV.str y.text, .bool y.strict, .bool y.is])) = (1, some (true, .box 182 [.str q.text, .bool q.strict, .bool q.is])) := fun x y hh => ⟨rest.length, by simp at hn; omega, done ++ [c], rest, x, y, by simp [hl'], rfl, hh, by simp, rfl, rfl⟩
    have ee : ∀ x : Lm, x.enc = .agg [.str x.text, .bool x.strict, .bool x.is] := fun x => rfl
    simp only [go_sem, Nat.reduceEqDiff, Nat.reduceAdd, Nat.reduceSub, Nat.reduceLeDiff, Nat.reduceLT, Nat.reduceMul, Nat.reduceBEq, Int.reduceEq, Int.reduceLT, Int.reduceLE, Int.reduceNeg, Int.reduceToNat, reduceCtorEq, ho, Try.results195, h11, h10, h9, hlt, hget, Int.natCast_nonneg, Int.toNat_natCast, Cd.enc]
    by_cases c11 : c.op = 11
    · have hlim : c.lim = ⟨c.val.text, true, true⟩ := by simp [Cd.lim, c11]
      simp only [go_sem, Nat.reduceEqDiff, Nat.reduceAdd, Nat.reduceSub, Nat.reduceLeDiff, Nat.reduceLT, Nat.reduceMul, Nat.reduceBEq, Int.reduceEq, Int.reduceLT, Int.reduceLE, Int.reduceNeg, Int.reduceToNat, reduceCtorEq, ho, Try.results195, c11, hs3, hg3, hs4, hg4]
      refine GCall.fr ?_ (tight_fn a c.lim 1) (.inl rfl) ?_; (focus (first | rfl | ((simp only [go_sem, Nat.reduceEqDiff, Nat.reduceAdd, Nat.reduceSub, Nat.reduceLeDiff, Nat.reduceLT, Nat.reduceMul, Nat.reduceBEq, Int.reduceEq, Int.reduceLT, Int.reduceLE, Int.reduceNeg, Int.reduceToNat, reduceCtorEq, ho, Try.results195, hlim, Lm.enc]); done) | ((simp only [go_sem, Nat.reduceEqDiff, Nat.reduceAdd, Nat.reduceSub, Nat.reduceLeDiff, Nat.reduceLT, Nat.reduceMul, Nat.reduceBEq, Int.reduceEq, Int.reduceLT, Int.reduceLE, Int.reduceNeg, Int.reduceToNat, reduceCtorEq, ho, Try.results195, hlim, Lm.enc]); rfl)))
      simp only [go_sem, Nat.reduceEqDiff, Nat.reduceAdd, Nat.reduceSub, Nat.reduceLeDiff, Nat.reduceLT, Nat.reduceMul, Nat.reduceBEq, Int.reduceEq, Int.reduceLT, Int.reduceLE, Int.reduceNeg, Int.reduceToNat, reduceCtorEq, ho, Try.results195, c11, ee, h11, h10, h9, hs3, ho3, hg3, hs4, ho4, hg4, hw]
      exact again _ _ (by rw [← hf]; simp [c11])
    by_cases c9 : c.op = 9
    · have hlim : c.lim = ⟨c.val.text, true, true⟩ := by simp [Cd.lim, c9]
      simp only [go_sem, Nat.reduceEqDiff, Nat.reduceAdd, Nat.reduceSub, Nat.reduceLeDiff, Nat.reduceLT, Nat.reduceMul, Nat.reduceBEq, Int.reduceEq, Int.reduceLT, Int.reduceLE, Int.reduceNeg, Int.reduceToNat, reduceCtorEq, ho, Try.results195, c9, hs3, hg3, hs4, hg4]
      refine GCall.fr ?_ (tight_fn b c.lim (-1)) (.inl rfl) ?_; (focus (first | rfl | ((simp only [go_sem, Nat.reduceEqDiff, Nat.reduceAdd, Nat.reduceSub, Nat.reduceLeDiff, Nat.reduceLT, Nat.reduceMul, Nat.reduceBEq, Int.reduceEq, Int.reduceLT, Int.reduceLE, Int.reduceNeg, Int.reduceToNat, reduceCtorEq, ho, Try.results195, hlim, Lm.enc]); done) | ((simp only [go_sem, Nat.reduceEqDiff, Nat.reduceAdd, Nat.reduceSub, Nat.reduceLeDiff, Nat.reduceLT, Nat.reduceMul, Nat.reduceBEq, Int.reduceEq, Int.reduceLT, Int.reduceLE, Int.reduceNeg, Int.reduceToNat, reduceCtorEq, ho, Try.results195, hlim, Lm.enc]); rfl)))
      simp only [go_sem, Nat.reduceEqDiff, Nat.reduceAdd, Nat.reduceSub, Nat.reduceLeDiff, Nat.reduceLT, Nat.reduceMul, Nat.reduceBEq, Int.reduceEq, Int.reduceLT, Int.reduceLE, Int.reduceNeg, Int.reduceToNat, reduceCtorEq, ho, Try.results195, c9, ee, h11, h10, h9, hs3, ho3, hg3, hs4, ho4, hg4, hw]
      exact again _ _ (by rw [← hf]; simp [c9])
    have hlim : c.lim = ⟨c.val.text, false, true⟩ := by simp [Cd.lim, c11, c9]
    by_cases c12 : c.op = 12
    · simp only [go_sem, Nat.reduceEqDiff, Nat.reduceAdd, Nat.reduceSub, Nat.reduceLeDiff, Nat.reduceLT, Nat.reduceMul, Nat.reduceBEq, Int.reduceEq, Int.reduceLT, Int.reduceLE, Int.reduceNeg, Int.reduceToNat, reduceCtorEq, ho, Try.results195, c12, hs3, hg3, hs4, hg4]
      refine GCall.fr ?_ (tight_fn a c.lim 1) (.inl rfl) ?_; (focus (first | rfl | ((simp only [go_sem, Nat.reduceEqDiff, Nat.reduceAdd, Nat.reduceSub, Nat.reduceLeDiff, Nat.reduceLT, Nat.reduceMul, Nat.reduceBEq, Int.reduceEq, Int.reduceLT, Int.reduceLE, Int.reduceNeg, Int.reduceToNat, reduceCtorEq, ho, Try.results195, hlim, Lm.enc]); done) | ((simp only [go_sem, Nat.reduceEqDiff, Nat.reduceAdd, Nat.reduceSub, Nat.reduceLeDiff, Nat.reduceLT, Nat.reduceMul, Nat.reduceBEq, Int.reduceEq, Int.reduceLT, Int.reduceLE, Int.reduceNeg, Int.reduceToNat, reduceCtorEq, ho, Try.results195, hlim, Lm.enc]); rfl)))
      simp only [go_sem, Nat.reduceEqDiff, Nat.reduceAdd, Nat.reduceSub, Nat.reduceLeDiff, Nat.reduceLT, Nat.reduceMul, Nat.reduceBEq, Int.reduceEq, Int.reduceLT, Int.reduceLE, Int.reduceNeg, Int.reduceToNat, reduceCtorEq, ho, Try.results195, c12, ee, h11, h10, h9, hs3, ho3, hg3, hs4, ho4, hg4, hw]
      exact again _ _ (by rw [← hf]; simp [c12])
    by_cases c10 : c.op = 10
    · simp only [go_sem, Nat.reduceEqDiff, Nat.reduceAdd, Nat.reduceSub, Nat.reduceLeDiff, Nat.reduceLT, Nat.reduceMul, Nat.reduceBEq, Int.reduceEq, Int.reduceLT, Int.reduceLE, Int.reduceNeg, Int.reduceToNat, reduceCtorEq, ho, Try.results195, c10, hs3, hg3, hs4, hg4]
      refine GCall.fr ?_ (tight_fn b c.lim (-1)) (.inl rfl) ?_; (focus (first | rfl | ((simp only [go_sem, Nat.reduceEqDiff, Nat.reduceAdd, Nat.reduceSub, Nat.reduceLeDiff, Nat.reduceLT, Nat.reduceMul, Nat.reduceBEq, Int.reduceEq, Int.reduceLT, Int.reduceLE, Int.reduceNeg, Int.reduceToNat, reduceCtorEq, ho, Try.results195, hlim, Lm.enc]); done) | ((simp only [go_sem, Nat.reduceEqDiff, Nat.reduceAdd, Nat.reduceSub, Nat.reduceLeDiff, Nat.reduceLT, Nat.reduceMul, Nat.reduceBEq, Int.reduceEq, Int.reduceLT, Int.reduceLE, Int.reduceNeg, Int.reduceToNat, reduceCtorEq, ho, Try.results195, hlim, Lm.enc]); rfl)))
      simp only [go_sem, Nat.reduceEqDiff, Nat.reduceAdd, Nat.reduceSub, Nat.reduceLeDiff, Nat.reduceLT, Nat.reduceMul, Nat.reduceBEq, Int.reduceEq, Int.reduceLT, Int.reduceLE, Int.reduceNeg, Int.reduceToNat, reduceCtorEq, ho, Try.results195, c10, ee, h11, h10, h9, hs3, ho3, hg3, hs4, ho4, hg4, hw]
      exact again _ _ (by rw [← hf]; simp [c10])
    by_cases c7 : c.op = 7
    · simp only [go_sem, Nat.reduceEqDiff, Nat.reduceAdd, Nat.reduceSub, Nat.reduceLeDiff, Nat.reduceLT, Nat.reduceMul, Nat.reduceBEq, Int.reduceEq, Int.reduceLT, Int.reduceLE, Int.reduceNeg, Int.reduceToNat, reduceCtorEq, ho, Try.results195, c7, hs3, hg3, hs4, hg4]
      refine GCall.fr ?_ (tight_fn a c.lim 1) (.inl rfl) ?_; (focus (first | rfl | ((simp only [go_sem, Nat.reduceEqDiff, Nat.reduceAdd, Nat.reduceSub, Nat.reduceLeDiff, Nat.reduceLT, Nat.reduceMul, Nat.reduceBEq, Int.reduceEq, Int.reduceLT, Int.reduceLE, Int.reduceNeg, Int.reduceToNat, reduceCtorEq, ho, Try.results195, hlim, Lm.enc]); done) | ((simp only [go_sem, Nat.reduceEqDiff, Nat.reduceAdd, Nat.reduceSub, Nat.reduceLeDiff, Nat.reduceLT, Nat.reduceMul, Nat.reduceBEq, Int.reduceEq, Int.reduceLT, Int.reduceLE, Int.reduceNeg, Int.reduceToNat, reduceCtorEq, ho, Try.results195, hlim, Lm.enc]); rfl)))
      simp only [go_sem, Nat.reduceEqDiff, Nat.reduceAdd, Nat.reduceSub, Nat.reduceLeDiff, Nat.reduceLT, Nat.reduceMul, Nat.reduceBEq, Int.reduceEq, Int.reduceLT, Int.reduceLE, Int.reduceNeg, Int.reduceToNat, reduceCtorEq, ho, Try.results195, c7, ee, hs3, ho3, hg3, hs4, ho4, hg4]
      refine GCall.fr ?_ (tight_fn b c.lim (-1)) (.inl rfl) ?_; (focus (first | rfl | ((simp only [go_sem, Nat.reduceEqDiff, Nat.reduceAdd, Nat.reduceSub, Nat.reduceLeDiff, Nat.reduceLT, Nat.reduceMul, Nat.reduceBEq, Int.reduceEq, Int.reduceLT, Int.reduceLE, Int.reduceNeg, Int.reduceToNat, reduceCtorEq, ho, Try.results195, hlim, Lm.enc]); done) | ((simp only [go_sem, Nat.reduceEqDiff, Nat.reduceAdd, Nat.reduceSub, Nat.reduceLeDiff, Nat.reduceLT, Nat.reduceMul, Nat.reduceBEq, Int.reduceEq, Int.reduceLT, Int.reduceLE, Int.reduceNeg, Int.reduceToNat, reduceCtorEq, ho, Try.results195, hlim, Lm.enc]); rfl)))
      simp only [go_sem, Nat.reduceEqDiff, Nat.reduceAdd, Nat.reduceSub, Nat.reduceLeDiff, Nat.reduceLT, Nat.reduceMul, Nat.reduceBEq, Int.reduceEq, Int.reduceLT, Int.reduceLE, Int.reduceNeg, Int.reduceToNat, reduceCtorEq, ho, Try.results195, c7, ee, h11, h10, h9, hs3, ho3, hg3, hs4, ho4, hg4, hw]
      exact again _ _ (by rw [← hf]; simp [c7])
    simp only [go_sem, Nat.reduceEqDiff, Nat.reduceAdd, Nat.reduceSub, Nat.reduceLeDiff, Nat.reduceLT, Nat.reduceMul, Nat.reduceBEq, Int.reduceEq, Int.reduceLT, Int.reduceLE, Int.reduceNeg, Int.reduceToNat, reduceCtorEq, ho, Try.results195, c7, c9, c10, c11, c12, h11, h10, h9, hs3, ho3, hs4, ho4, hw]
    exact again _ _ (by rw [← hf]; simp [c7, c9, c10, c11, c12])
def posL (kind : Int) : List Cd → Int × Int → Option (Int × Int)
  | [], s => some s
  | c :: l, s => if c.val.kind ≠ kind then none else posL kind l (meetLo c.op c.val.int s.1, meetHi c.op c.val.int s.2)
def possible : List Cd → Bool
  | [] => true
  | c :: l => match posL c.val.kind (c :: l) (if c.val.kind = 3 then (0, 1) else (-1125899906842624, 1125899906842624)) with
    | none => false
    | some s => if c.val.kind = 2 then txts (c :: l) else !decide (s.2 < s.1)
theorem ok177 : okCode M0 Try.f177.ntmps (Try.f177.body.getD .skip) = true := by decide +kernel
set_option maxHeartbeats 2000000 in
theorem possible_fn (c0 : Cd) (l0 : List Cd) (hl : (c0 :: l0).length ≤ 100000000) : Fc 177 [.sl ((c0 :: l0).map Cd.enc)] (.bool (possible (c0 :: l0))) := by
  have hpos : possible (c0 :: l0) = match posL c0.val.kind (c0 :: l0) (if c0.val.kind = 3 then (0, 1) else (-1125899906842624, 1125899906842624)) with
    | none => false
    | some s => if c0.val.kind = 2 then txts (c0 :: l0) else !decide (s.2 < s.1) := rfl
  have hget0 : ((c0 :: l0).map Cd.enc)[0]? = some c0.enc := rfl
  rw [hpos]
  have z0 : (0 : Int).toNat = 0 := rfl
  generalize hq : c0 :: l0 = l at hl hget0 ⊢
  clear hpos
  refine fn_of_awp (E := E0) (M := M0) follows Try.func177 rfl (by decide) ok177 (by decide) (by simp) fun o ho => ?_
  simp only [go_sem, Nat.reduceEqDiff, Nat.reduceAdd, Nat.reduceSub, Nat.reduceLeDiff, Nat.reduceLT, Nat.reduceMul, Nat.reduceBEq, Int.reduceEq, Int.reduceLT, Int.reduceLE, Int.reduceNeg, Int.reduceToNat, reduceCtorEq, ho, Try.results177, hget0, z0, Int.le_refl, List.length_map, Cd.enc]
  by_cases hk3 : c0.val.kind = 3
  · have hk3' := eq_true hk3
    simp only [go_sem, Nat.reduceEqDiff, Nat.reduceAdd, Nat.reduceSub, Nat.reduceLeDiff, Nat.reduceLT, Nat.reduceMul, Nat.reduceBEq, Int.reduceEq, Int.reduceLT, Int.reduceLE, Int.reduceNeg, Int.reduceToNat, reduceCtorEq, ho, Try.results177, hk3', List.length_map]
    refine ⟨fun m st => ∃ (done rest : List Cd) (a1 a2 : Int), l = done ++ rest ∧ rest.length = m ∧ posL c0.val.kind rest (a1, a2) = posL c0.val.kind l (0, 1) ∧ st.s 18 = .int .i64 done.length ∧ st.s 17 = .int .i64 l.length ∧ st.s 16 = .sl (l.map Cd.enc) ∧ st.s 0 = .sl (l.map Cd.enc) ∧ st.s 3 = .int .i64 c0.val.kind ∧ st.s 4 = .ptr 4 1 0 ∧ st.o 4 = (1, some (true, .box 115 [.int .i64 a1, .int .i64 a2])), l.length,
      ⟨[], l, 0, 1, rfl, rfl, rfl, by simp only [go_sem, Nat.reduceEqDiff, Nat.reduceAdd, Nat.reduceSub, Nat.reduceLeDiff, Nat.reduceLT, Nat.reduceMul, Nat.reduceBEq, Int.reduceEq, Int.reduceLT, Int.reduceLE, Int.reduceNeg, Int.reduceToNat, reduceCtorEq, ho, Try.results177]; rfl, by simp only [go_sem, Nat.reduceEqDiff, Nat.reduceAdd, Nat.reduceSub, Nat.reduceLeDiff, Nat.reduceLT, Nat.reduceMul, Nat.reduceBEq, Int.reduceEq, Int.reduceLT, Int.reduceLE, Int.reduceNeg, Int.reduceToNat, reduceCtorEq, ho, Try.results177], by simp only [go_sem, Nat.reduceEqDiff, Nat.reduceAdd, Nat.reduceSub, Nat.reduceLeDiff, Nat.reduceLT, Nat.reduceMul, Nat.reduceBEq, Int.reduceEq, Int.reduceLT, Int.reduceLE, Int.reduceNeg, Int.reduceToNat, reduceCtorEq, ho, Try.results177], by simp only [go_sem, Nat.reduceEqDiff, Nat.reduceAdd, Nat.reduceSub, Nat.reduceLeDiff, Nat.reduceLT, Nat.reduceMul, Nat.reduceBEq, Int.reduceEq, Int.reduceLT, Int.reduceLE, Int.reduceNeg, Int.reduceToNat, reduceCtorEq, ho, Try.results177], by simp only [go_sem, Nat.reduceEqDiff, Nat.reduceAdd, Nat.reduceSub, Nat.reduceLeDiff, Nat.reduceLT, Nat.reduceMul, Nat.reduceBEq, Int.reduceEq, Int.reduceLT, Int.reduceLE, Int.reduceNeg, Int.reduceToNat, reduceCtorEq, ho, Try.results177], by simp only [go_sem, Nat.reduceEqDiff, Nat.reduceAdd, Nat.reduceSub, Nat.reduceLeDiff, Nat.reduceLT, Nat.reduceMul, Nat.reduceBEq, Int.reduceEq, Int.reduceLT, Int.reduceLE, Int.reduceNeg, Int.reduceToNat, reduceCtorEq, ho, Try.results177], by simp only [go_sem, Nat.reduceEqDiff, Nat.reduceAdd, Nat.reduceSub, Nat.reduceLeDiff, Nat.reduceLT, Nat.reduceMul, Nat.reduceBEq, Int.reduceEq, Int.reduceLT, Int.reduceLE, Int.reduceNeg, Int.reduceToNat, reduceCtorEq, ho, Try.results177]⟩, ?_⟩
    rintro m st ⟨done, rest, a1, a2, hl', hn, hp, h18, h17, h16, hs0, hs3, hs4, ho4⟩
    have hlen2 : done.length + rest.length = l.length := by rw [hl']; simp
    have hw : IntKind.i64.wrap ((done.length : Int) + 1) = (done.length : Int) + 1 := wrap_fits (by omega) (by omega)
    have hg4 : getBox st.o 4 1 = some (115, [.int .i64 a1, .int .i64 a2]) := by simp [getBox, ho4]
    cases rest with
    | nil =>
      have hlt : ¬ (done.length : Int) < (l.length : Int) := by simp at hlen2; omega
      rw [← hp]
      simp only [go_sem, Nat.reduceEqDiff, Nat.reduceAdd, Nat.reduceSub, Nat.reduceLeDiff, Nat.reduceLT, Nat.reduceMul, Nat.reduceBEq, Int.reduceEq, Int.reduceLT, Int.reduceLE, Int.reduceNeg, Int.reduceToNat, reduceCtorEq, ho, Try.results177, h18, h17, hlt, hs3]
      by_cases h2 : c0.val.kind = 2
      · simp only [go_sem, Nat.reduceEqDiff, Nat.reduceAdd, Nat.reduceSub, Nat.reduceLeDiff, Nat.reduceLT, Nat.reduceMul, Nat.reduceBEq, Int.reduceEq, Int.reduceLT, Int.reduceLE, Int.reduceNeg, Int.reduceToNat, reduceCtorEq, ho, Try.results177, h2, hs0]
        refine GCall.fr ?_ (txts_fn l hl) (.inl rfl) ?_; (focus (first | rfl | ((simp only [go_sem, Nat.reduceEqDiff, Nat.reduceAdd, Nat.reduceSub, Nat.reduceLeDiff, Nat.reduceLT, Nat.reduceMul, Nat.reduceBEq, Int.reduceEq, Int.reduceLT, Int.reduceLE, Int.reduceNeg, Int.reduceToNat, reduceCtorEq, ho, Try.results177]); done) | ((simp only [go_sem, Nat.reduceEqDiff, Nat.reduceAdd, Nat.reduceSub, Nat.reduceLeDiff, Nat.reduceLT, Nat.reduceMul, Nat.reduceBEq, Int.reduceEq, Int.reduceLT, Int.reduceLE, Int.reduceNeg, Int.reduceToNat, reduceCtorEq, ho, Try.results177]); rfl)))
        simp only [go_sem, Nat.reduceEqDiff, Nat.reduceAdd, Nat.reduceSub, Nat.reduceLeDiff, Nat.reduceLT, Nat.reduceMul, Nat.reduceBEq, Int.reduceEq, Int.reduceLT, Int.reduceLE, Int.reduceNeg, Int.reduceToNat, reduceCtorEq, ho, Try.results177, posL, if_true]
      · simp only [go_sem, Nat.reduceEqDiff, Nat.reduceAdd, Nat.reduceSub, Nat.reduceLeDiff, Nat.reduceLT, Nat.reduceMul, Nat.reduceBEq, Int.reduceEq, Int.reduceLT, Int.reduceLE, Int.reduceNeg, Int.reduceToNat, reduceCtorEq, ho, Try.results177, h2, hs4]
        refine GCall.fr ?_ (empty_fn a1 a2) (.inl rfl) ?_; (focus (first | rfl | ((simp only [go_sem, Nat.reduceEqDiff, Nat.reduceAdd, Nat.reduceSub, Nat.reduceLeDiff, Nat.reduceLT, Nat.reduceMul, Nat.reduceBEq, Int.reduceEq, Int.reduceLT, Int.reduceLE, Int.reduceNeg, Int.reduceToNat, reduceCtorEq, ho, Try.results177, hg4]); done) | ((simp only [go_sem, Nat.reduceEqDiff, Nat.reduceAdd, Nat.reduceSub, Nat.reduceLeDiff, Nat.reduceLT, Nat.reduceMul, Nat.reduceBEq, Int.reduceEq, Int.reduceLT, Int.reduceLE, Int.reduceNeg, Int.reduceToNat, reduceCtorEq, ho, Try.results177, hg4]); rfl)))
        simp only [go_sem, Nat.reduceEqDiff, Nat.reduceAdd, Nat.reduceSub, Nat.reduceLeDiff, Nat.reduceLT, Nat.reduceMul, Nat.reduceBEq, Int.reduceEq, Int.reduceLT, Int.reduceLE, Int.reduceNeg, Int.reduceToNat, reduceCtorEq, ho, Try.results177, posL, h2]
    | cons c rest =>
      have hlt : (done.length : Int) < (l.length : Int) := by simp at hlen2; omega
      have hget := cds_get hl'
      rw [posL] at hp
      simp only [go_sem, Nat.reduceEqDiff, Nat.reduceAdd, Nat.reduceSub, Nat.reduceLeDiff, Nat.reduceLT, Nat.reduceMul, Nat.reduceBEq, Int.reduceEq, Int.reduceLT, Int.reduceLE, Int.reduceNeg, Int.reduceToNat, reduceCtorEq, ho, Try.results177, h18, h17, h16, hlt, hget, Int.natCast_nonneg, Int.toNat_natCast, Cd.enc, hs3]
      by_cases hk : c.val.kind = c0.val.kind
      · rw [if_neg (by simp [hk])] at hp
        simp only [go_sem, Nat.reduceEqDiff, Nat.reduceAdd, Nat.reduceSub, Nat.reduceLeDiff, Nat.reduceLT, Nat.reduceMul, Nat.reduceBEq, Int.reduceEq, Int.reduceLT, Int.reduceLE, Int.reduceNeg, Int.reduceToNat, reduceCtorEq, ho, Try.results177, hk, eq_self, hs4]
        refine GCall.turn (meet_run 4 1 a1 a2 _ _ _ _ (by decide) ?_) ?_
        · simp only [go_sem, Nat.reduceEqDiff, Nat.reduceAdd, Nat.reduceSub, Nat.reduceLeDiff, Nat.reduceLT, Nat.reduceMul, Nat.reduceBEq, Int.reduceEq, Int.reduceLT, Int.reduceLE, Int.reduceNeg, Int.reduceToNat, reduceCtorEq, ho, Try.results177, ho4]
        simp only [go_sem, Nat.reduceEqDiff, Nat.reduceAdd, Nat.reduceSub, Nat.reduceLeDiff, Nat.reduceLT, Nat.reduceMul, Nat.reduceBEq, Int.reduceEq, Int.reduceLT, Int.reduceLE, Int.reduceNeg, Int.reduceToNat, reduceCtorEq, ho, Try.results177, h18, h17, h16, hs0, hs3, hs4, hw]
        exact ⟨rest.length, by simp at hn; omega, done ++ [c], rest, _, _, by simp [hl'], rfl, hp, by simp, rfl⟩
      · rw [if_pos hk] at hp
        rw [← hp]
        simp only [go_sem, Nat.reduceEqDiff, Nat.reduceAdd, Nat.reduceSub, Nat.reduceLeDiff, Nat.reduceLT, Nat.reduceMul, Nat.reduceBEq, Int.reduceEq, Int.reduceLT, Int.reduceLE, Int.reduceNeg, Int.reduceToNat, reduceCtorEq, ho, Try.results177, hk]
  · have hk3' := eq_false hk3
    simp only [go_sem, Nat.reduceEqDiff, Nat.reduceAdd, Nat.reduceSub, Nat.reduceLeDiff, Nat.reduceLT, Nat.reduceMul, Nat.reduceBEq, Int.reduceEq, Int.reduceLT, Int.reduceLE, Int.reduceNeg, Int.reduceToNat, reduceCtorEq, ho, Try.results177, hk3', List.length_map]
    refine ⟨fun m st => ∃ (done rest : List Cd) (a1 a2 : Int), l = done ++ rest ∧ rest.length = m ∧ posL c0.val.kind rest (a1, a2) = posL c0.val.kind l (-1125899906842624, 1125899906842624) ∧ st.s 18 = .int .i64 done.length ∧ st.s 17 = .int .i64 l.length ∧ st.s 16 = .sl (l.map Cd.enc) ∧ st.s 0 = .sl (l.map Cd.enc) ∧ st.s 3 = .int .i64 c0.val.kind ∧ st.s 4 = .ptr 4 1 0 ∧ st.o 4 = (1, some (true, .box 115 [.int .i64 a1, .int .i64 a2])), l.length,
      ⟨[], l, -1125899906842624, 1125899906842624, rfl, rfl, rfl, by simp only [go_sem, Nat.reduceEqDiff, Nat.reduceAdd, Nat.reduceSub, Nat.reduceLeDiff, Nat.reduceLT, Nat.reduceMul, Nat.reduceBEq, Int.reduceEq, Int.reduceLT, Int.reduceLE, Int.reduceNeg, Int.reduceToNat, reduceCtorEq, ho, Try.results177]; rfl, by simp only [go_sem, Nat.reduceEqDiff, Nat.reduceAdd, Nat.reduceSub, Nat.reduceLeDiff, Nat.reduceLT, Nat.reduceMul, Nat.reduceBEq, Int.reduceEq, Int.reduceLT, Int.reduceLE, Int.reduceNeg, Int.reduceToNat, reduceCtorEq, ho, Try.results177], by simp only [go_sem, Nat.reduceEqDiff, Nat.reduceAdd, Nat.reduceSub, Nat.reduceLeDiff, Nat.reduceLT, Nat.reduceMul, Nat.reduceBEq, Int.reduceEq, Int.reduceLT, Int.reduceLE, Int.reduceNeg, Int.reduceToNat, reduceCtorEq, ho, Try.results177], by simp only [go_sem, Nat.reduceEqDiff, Nat.reduceAdd, Nat.reduceSub, Nat.reduceLeDiff, Nat.reduceLT, Nat.reduceMul, Nat.reduceBEq, Int.reduceEq, Int.reduceLT, Int.reduceLE, Int.reduceNeg, Int.reduceToNat, reduceCtorEq, ho, Try.results177], by simp only [go_sem, Nat.reduceEqDiff, Nat.reduceAdd, Nat.reduceSub, Nat.reduceLeDiff, Nat.reduceLT, Nat.reduceMul, Nat.reduceBEq, Int.reduceEq, Int.reduceLT, Int.reduceLE, Int.reduceNeg, Int.reduceToNat, reduceCtorEq, ho, Try.results177], by simp only [go_sem, Nat.reduceEqDiff, Nat.reduceAdd, Nat.reduceSub, Nat.reduceLeDiff, Nat.reduceLT, Nat.reduceMul, Nat.reduceBEq, Int.reduceEq, Int.reduceLT, Int.reduceLE, Int.reduceNeg, Int.reduceToNat, reduceCtorEq, ho, Try.results177], by simp only [go_sem, Nat.reduceEqDiff, Nat.reduceAdd, Nat.reduceSub, Nat.reduceLeDiff, Nat.reduceLT, Nat.reduceMul, Nat.reduceBEq, Int.reduceEq, Int.reduceLT, Int.reduceLE, Int.reduceNeg, Int.reduceToNat, reduceCtorEq, ho, Try.results177]⟩, ?_⟩
    rintro m st ⟨done, rest, a1, a2, hl', hn, hp, h18, h17, h16, hs0, hs3, hs4, ho4⟩
    have hlen2 : done.length + rest.length = l.length := by rw [hl']; simp
    have hw : IntKind.i64.wrap ((done.length : Int) + 1) = (done.length : Int) + 1 := wrap_fits (by omega) (by omega)
    have hg4 : getBox st.o 4 1 = some (115, [.int .i64 a1, .int .i64 a2]) := by simp [getBox, ho4]
    cases rest with
    | nil =>
      have hlt : ¬ (done.length : Int) < (l.length : Int) := by simp at hlen2; omega
      rw [← hp]
      simp only [go_sem, Nat.reduceEqDiff, Nat.reduceAdd, Nat.reduceSub, Nat.reduceLeDiff, Nat.reduceLT, Nat.reduceMul, Nat.reduceBEq, Int.reduceEq, Int.reduceLT, Int.reduceLE, Int.reduceNeg, Int.reduceToNat, reduceCtorEq, ho, Try.results177, h18, h17, hlt, hs3]
      by_cases h2 : c0.val.kind = 2
      · simp only [go_sem, Nat.reduceEqDiff, Nat.reduceAdd, Nat.reduceSub, Nat.reduceLeDiff, Nat.reduceLT, Nat.reduceMul, Nat.reduceBEq, Int.reduceEq, Int.reduceLT, Int.reduceLE, Int.reduceNeg, Int.reduceToNat, reduceCtorEq, ho, Try.results177, h2, hs0]
        refine GCall.fr ?_ (txts_fn l hl) (.inl rfl) ?_; (focus (first | rfl | ((simp only [go_sem, Nat.reduceEqDiff, Nat.reduceAdd, Nat.reduceSub, Nat.reduceLeDiff, Nat.reduceLT, Nat.reduceMul, Nat.reduceBEq, Int.reduceEq, Int.reduceLT, Int.reduceLE, Int.reduceNeg, Int.reduceToNat, reduceCtorEq, ho, Try.results177]); done) | ((simp only [go_sem, Nat.reduceEqDiff, Nat.reduceAdd, Nat.reduceSub, Nat.reduceLeDiff, Nat.reduceLT, Nat.reduceMul, Nat.reduceBEq, Int.reduceEq, Int.reduceLT, Int.reduceLE, Int.reduceNeg, Int.reduceToNat, reduceCtorEq, ho, Try.results177]); rfl)))
        simp only [go_sem, Nat.reduceEqDiff, Nat.reduceAdd, Nat.reduceSub, Nat.reduceLeDiff, Nat.reduceLT, Nat.reduceMul, Nat.reduceBEq, Int.reduceEq, Int.reduceLT, Int.reduceLE, Int.reduceNeg, Int.reduceToNat, reduceCtorEq, ho, Try.results177, posL, if_true]
      · simp only [go_sem, Nat.reduceEqDiff, Nat.reduceAdd, Nat.reduceSub, Nat.reduceLeDiff, Nat.reduceLT, Nat.reduceMul, Nat.reduceBEq, Int.reduceEq, Int.reduceLT, Int.reduceLE, Int.reduceNeg, Int.reduceToNat, reduceCtorEq, ho, Try.results177, h2, hs4]
        refine GCall.fr ?_ (empty_fn a1 a2) (.inl rfl) ?_; (focus (first | rfl | ((simp only [go_sem, Nat.reduceEqDiff, Nat.reduceAdd, Nat.reduceSub, Nat.reduceLeDiff, Nat.reduceLT, Nat.reduceMul, Nat.reduceBEq, Int.reduceEq, Int.reduceLT, Int.reduceLE, Int.reduceNeg, Int.reduceToNat, reduceCtorEq, ho, Try.results177, hg4]); done) | ((simp only [go_sem, Nat.reduceEqDiff, Nat.reduceAdd, Nat.reduceSub, Nat.reduceLeDiff, Nat.reduceLT, Nat.reduceMul, Nat.reduceBEq, Int.reduceEq, Int.reduceLT, Int.reduceLE, Int.reduceNeg, Int.reduceToNat, reduceCtorEq, ho, Try.results177, hg4]); rfl)))
        simp only [go_sem, Nat.reduceEqDiff, Nat.reduceAdd, Nat.reduceSub, Nat.reduceLeDiff, Nat.reduceLT, Nat.reduceMul, Nat.reduceBEq, Int.reduceEq, Int.reduceLT, Int.reduceLE, Int.reduceNeg, Int.reduceToNat, reduceCtorEq, ho, Try.results177, posL, h2]
    | cons c rest =>
      have hlt : (done.length : Int) < (l.length : Int) := by simp at hlen2; omega
      have hget := cds_get hl'
      rw [posL] at hp
      simp only [go_sem, Nat.reduceEqDiff, Nat.reduceAdd, Nat.reduceSub, Nat.reduceLeDiff, Nat.reduceLT, Nat.reduceMul, Nat.reduceBEq, Int.reduceEq, Int.reduceLT, Int.reduceLE, Int.reduceNeg, Int.reduceToNat, reduceCtorEq, ho, Try.results177, h18, h17, h16, hlt, hget, Int.natCast_nonneg, Int.toNat_natCast, Cd.enc, hs3]
      by_cases hk : c.val.kind = c0.val.kind
      · rw [if_neg (by simp [hk])] at hp
        simp only [go_sem, Nat.reduceEqDiff, Nat.reduceAdd, Nat.reduceSub, Nat.reduceLeDiff, Nat.reduceLT, Nat.reduceMul, Nat.reduceBEq, Int.reduceEq, Int.reduceLT, Int.reduceLE, Int.reduceNeg, Int.reduceToNat, reduceCtorEq, ho, Try.results177, hk, eq_self, hs4]
        refine GCall.turn (meet_run 4 1 a1 a2 _ _ _ _ (by decide) ?_) ?_
        · simp only [go_sem, Nat.reduceEqDiff, Nat.reduceAdd, Nat.reduceSub, Nat.reduceLeDiff, Nat.reduceLT, Nat.reduceMul, Nat.reduceBEq, Int.reduceEq, Int.reduceLT, Int.reduceLE, Int.reduceNeg, Int.reduceToNat, reduceCtorEq, ho, Try.results177, ho4]
        simp only [go_sem, Nat.reduceEqDiff, Nat.reduceAdd, Nat.reduceSub, Nat.reduceLeDiff, Nat.reduceLT, Nat.reduceMul, Nat.reduceBEq, Int.reduceEq, Int.reduceLT, Int.reduceLE, Int.reduceNeg, Int.reduceToNat, reduceCtorEq, ho, Try.results177, h18, h17, h16, hs0, hs3, hs4, hw]
        exact ⟨rest.length, by simp at hn; omega, done ++ [c], rest, _, _, by simp [hl'], rfl, hp, by simp, rfl⟩
      · rw [if_pos hk] at hp
        rw [← hp]
        simp only [go_sem, Nat.reduceEqDiff, Nat.reduceAdd, Nat.reduceSub, Nat.reduceLeDiff, Nat.reduceLT, Nat.reduceMul, Nat.reduceBEq, Int.reduceEq, Int.reduceLT, Int.reduceLE, Int.reduceNeg, Int.reduceToNat, reduceCtorEq, ho, Try.results177, hk]
end Go.Proofs.Ytiefnninebilbaa
/- Never, as the program computes it; no condition. -/
set_option maxRecDepth 100000
set_option linter.unusedVariables false
set_option linter.unusedSimpArgs false
namespace Go.Proofs.Ytiefnninebilbaa
open Go Go.Sx

abbrev Grp := List (Int × List Cd)
def gput : Grp → Cd → Grp
  | [], c => [(c.col, [c])]
  | (k, g) :: G, c => if k = c.col then (k, g ++ [c]) :: G else (k, g) :: gput G c
def groups (l : List Cd) : Grp := l.foldl gput []
def ents (vs : Nat → Nat) : Nat → Grp → List (Int × PV)
  | _, [] => []
  | i, g :: G => (g.1, .ref (1000 + i) (vs i)) :: ents vs (i + 1) G
theorem ents_len (vs : Nat → Nat) : ∀ (G : Grp) (i : Nat), (ents vs i G).length = G.length
  | [], i => rfl
  | g :: G, i => by simp [ents, ents_len vs G]
theorem ents_app (vs : Nat → Nat) (g : Int × List Cd) : ∀ (G : Grp) (i : Nat), ents vs i (G ++ [g]) = ents vs i G ++ [(g.1, .ref (1000 + (i + G.length)) (vs (i + G.length)))]
  | [], i => rfl
  | h :: G, i => by simp only [List.cons_append, ents, ents_app vs g G (i + 1), List.length_cons]; rw [show i + 1 + G.length = i + (G.length + 1) by omega]
theorem ents_congr {vs vs' : Nat → Nat} : ∀ (G : Grp) (i : Nat), (∀ j, j < G.length → vs (i + j) = vs' (i + j)) → ents vs i G = ents vs' i G
  | [], i, h => rfl
  | g :: G, i, h => by
    have ih := ents_congr (vs := vs) (vs' := vs') G (i + 1) fun j hj => by
      have := h (j + 1) (by simp; omega)
      rw [show i + 1 + j = i + (j + 1) by omega]
      exact this
    simp only [ents]
    rw [ih, show vs i = vs' i from h 0 (by simp)]
theorem ents_get (vs : Nat → Nat) : ∀ (G : Grp) (i j : Nat) (k : Int) (z : PV), (ents vs i G)[j]? = some (k, z) → ∃ g, G[j]? = some (k, g) ∧ z = .ref (1000 + (i + j)) (vs (i + j))
  | [], i, j, k, z, h => by simp [ents] at h
  | g :: G, i, 0, k, z, h => by simp [ents] at h; obtain ⟨rfl, rfl⟩ := h; exact ⟨g.2, by simp, rfl⟩
  | g :: G, i, j + 1, k, z, h => by
    simp only [ents, List.getElem?_cons_succ] at h
    obtain ⟨g', h1, h2⟩ := ents_get vs G (i + 1) j k z h
    exact ⟨g', by simpa using h1, by rw [h2, show i + 1 + j = i + (j + 1) by omega]⟩
theorem find_grp (vs : Nat → Nat) (c : Cd) : ∀ (G : Grp) (i : Nat),
    (mgetP (ents vs i G) c.col = .nil ∧ (∀ v, mputP (ents vs i G) c.col v = ents vs i G ++ [(c.col, v)]) ∧ gput G c = G ++ [(c.col, [c])]) ∨
    ∃ j g, j < G.length ∧ G[j]? = some (c.col, g) ∧ mgetP (ents vs i G) c.col = .ref (1000 + (i + j)) (vs (i + j)) ∧ (∀ v, mputP (ents vs i G) c.col (.ref (1000 + (i + j)) v) = ents (fun q => if q = i + j then v else vs q) i (gput G c)) ∧ gput G c = G.set j (c.col, g ++ [c])
  | [], i => .inl ⟨rfl, fun v => rfl, rfl⟩
  | (k, g) :: G, i => by
    by_cases hk : k = c.col
    · right
      subst hk
      refine ⟨0, g, by simp, rfl, by simp [ents, mgetP], fun v => ?_, by simp [gput]⟩
      simp only [ents, mputP, if_true, gput, Nat.add_zero]
      rw [ents_congr G (i + 1) (vs := vs) (vs' := fun q => if q = i then v else vs q) fun j hj => by rw [if_neg (by omega)]]
    · rcases find_grp vs c G (i + 1) with ⟨h1, h2, h3⟩ | ⟨j, g', h1, h2, h3, h4, h5⟩
      · exact .inl ⟨by simp [ents, mgetP, hk, h1], fun v => by simp [ents, mputP, hk, h2 v], by simp [gput, hk, h3]⟩
      · refine .inr ⟨j + 1, g', by simp; omega, by simpa using h2, ?_, fun v => ?_, by simp [gput, hk, h5]⟩
        · simp only [ents, mgetP, hk, if_false]; rw [h3, show i + 1 + j = i + (j + 1) by omega]
        · have := h4 v
          rw [show i + 1 + j = i + (j + 1) by omega] at this
          simp only [ents, mputP, hk, if_false, gput]
          rw [this, if_neg (by omega)]
theorem gput_ne (G : Grp) (c : Cd) (h : ∀ g ∈ G, g.2 ≠ []) : ∀ g ∈ gput G c, g.2 ≠ [] := by
  induction G with
  | nil => intro g hg; simp [gput] at hg; subst hg; simp
  | cons a G ih =>
    obtain ⟨k, l⟩ := a
    intro g hg
    simp only [gput] at hg
    split at hg
    · rcases List.mem_cons.1 hg with rfl | hg
      · simp
      · exact h g (by simp [hg])
    · rcases List.mem_cons.1 hg with rfl | hg
      · exact h _ (by simp)
      · exact ih (fun g hg => h g (by simp [hg])) g hg
def gsum : Grp → Nat
  | [] => 0
  | g :: G => g.2.length + gsum G
theorem gput_sum (G : Grp) (c : Cd) : gsum (gput G c) = gsum G + 1 := by
  induction G with
  | nil => rfl
  | cons a G ih =>
    obtain ⟨k, l⟩ := a
    simp only [gput]
    split
    · simp [gsum]; omega
    · simp only [gsum, ih]; omega
theorem gsum_mem {G : Grp} {g : Int × List Cd} (h : g ∈ G) : g.2.length ≤ gsum G := by
  induction G with
  | nil => cases h
  | cons a G ih =>
    rcases List.mem_cons.1 h with rfl | h
    · simp [gsum]
    · have := ih h; simp only [gsum]; omega
theorem gsum_len {G : Grp} (h : ∀ g ∈ G, g.2 ≠ []) : G.length ≤ gsum G := by
  induction G with
  | nil => simp
  | cons a G ih =>
    have h1 := ih fun g hg => h g (by simp [hg])
    have h2 := h a (by simp)
    have h3 := List.length_pos_iff.2 h2
    simp only [gsum, List.length_cons]; omega
theorem groups_fold : ∀ (l : List Cd) (G : Grp), (∀ g ∈ G, g.2 ≠ []) → (∀ g ∈ l.foldl gput G, g.2 ≠ []) ∧ gsum (l.foldl gput G) = gsum G + l.length
  | [], G, h => ⟨h, rfl⟩
  | c :: l, G, h => by
    obtain ⟨h1, h2⟩ := groups_fold l (gput G c) (gput_ne G c h)
    exact ⟨h1, by rw [List.foldl_cons, h2, gput_sum, List.length_cons]; omega⟩

def mlen (c : Nat × Option (Bool × Ob)) : Nat := match c with
  | (_, some (_, .mp (.r l))) => l.length
  | _ => 0
def akNv (d : Nat) (x : PV) (o : Objs) : Nat := if d = 29 then (match x with
  | .ref k _ => k
  | _ => 1000 + mlen (o 12)) else d
noncomputable def ENv : Env P0 := { eqT := eqT0, ok := eqOk0, akey := akNv }
@[go_sem] theorem ENv_key (d : Nat) : ENv.key d = d := rfl
@[go_sem] theorem ENv_eqT {T : TypeId} : ENv.eqT T = E0.eqT T := rfl
@[go_sem] theorem ENv_akey_ref {k v : Nat} {o : Objs} : ENv.akey 29 (.ref k v) o = k := rfl
@[go_sem] theorem ENv_akey_nil {o : Objs} : ENv.akey 29 .nil o = 1000 + mlen (o 12) := rfl
def M128 : Nat → Nat → Option Md := fun id i => if id = 7 then (if i = 0 then some .n else if i = 1 then some .l else if i = 2 then some .l else if i = 9 then some .u else none) else none
theorem ok128 : okCode M128 Try.f128.ntmps (Try.f128.body.getD .skip) = true := by decide +kernel
def never0 (e : Ex) : Bool := e.conj.foldl (fun s x => s || neverX x) false
def neverP (e : Ex) : Bool := never0 e || (groups e.conds).any fun g => !possible g.2
/-- The rows that the map leads to. -/
def GRows (vs : Nat → Nat) (G : Grp) (o : Objs) : Prop := ∀ j g, G[j]? = some g → o (1000 + j) = (vs j, some (true, .row 72 (g.2.map Cd.enc)))
@[go_sem] theorem mlen_r {v : Nat} {b : Bool} {l : List (Int × PV)} : mlen (v, some (b, .mp (.r l))) = l.length := rfl
end Go.Proofs.Ytiefnninebilbaa
/- Never, as the program computes it: the walk; no condition. -/
set_option maxRecDepth 100000
set_option linter.unusedVariables false
set_option linter.unusedSimpArgs false
namespace Go.Proofs.Ytiefnninebilbaa
open Go Go.Sx

theorem nodup_lt : ∀ (n : Nat) (l : List Nat), l.Nodup → (∀ j ∈ l, j < n) → l.length ≤ n
  | 0, l, _, h => by
    cases l with
    | nil => simp
    | cons a l => exact absurd (h a (by simp)) (by omega)
  | n + 1, l, hd, h => by
    by_cases hn : n ∈ l
    · have h1 := nodup_lt n (l.erase n) (hd.erase n) fun j hj => by
        have := (hd.mem_erase_iff).1 hj
        have := h j this.2
        omega
      have h2 := List.length_erase_of_mem hn
      omega
    · have := nodup_lt n l hd fun j hj => by
        have h1 := h j hj
        have : j ≠ n := fun e => hn (e ▸ hj)
        omega
      omega
theorem groups_snoc (l : List Cd) (c : Cd) : groups (l ++ [c]) = gput (groups l) c := by simp [groups, List.foldl_append]
def badAt (G : Grp) (j : Nat) : Bool := match G[j]? with
  | some g => !possible g.2
  | none => false
theorem bad_any (G : Grp) (seen : List Nat) (h1 : ∀ j ∈ seen, j < G.length) (h2 : ∀ j, j < G.length → j ∈ seen) : seen.any (badAt G) = G.any fun g => !possible g.2 := by
  rw [Bool.eq_iff_iff, List.any_eq_true, List.any_eq_true]
  constructor
  · rintro ⟨j, hj, hb⟩
    have hl := h1 j hj
    refine ⟨G[j], List.getElem_mem hl, ?_⟩
    simpa [badAt, List.getElem?_eq_getElem hl] using hb
  · rintro ⟨g, hg, hb⟩
    obtain ⟨j, hj, rfl⟩ := List.getElem_of_mem hg
    exact ⟨j, h2 j hj, by simpa [badAt, List.getElem?_eq_getElem hj] using hb⟩
set_option maxHeartbeats 4000000 in
theorem never_fn (e : Ex) (h : e.size ≤ 10000000) : Fc 128 [e.enc] (.bool (neverP e)) := by
  have hcl := conds_len e
  have hA : ∀ a j : Nat, a < 1000 → ¬ a = 1000 + j := fun a j h => by omega
  have hB : ∀ a j : Nat, a < 1000 → ¬ 1000 + j = a := fun a j h => by omega
  refine fn_of_awp (E := ENv) (M := M128) follows Try.func128 rfl (by decide) ok128 (by decide) (by simp) fun o ho => ?_
  simp only [go_sem, Nat.reduceEqDiff, Nat.reduceAdd, Nat.reduceSub, Nat.reduceLeDiff, Nat.reduceLT, Nat.reduceMul, Nat.reduceBEq, Int.reduceEq, Int.reduceLT, Int.reduceLE, Int.reduceNeg, Int.reduceToNat, reduceCtorEq, ho, Try.results128, e.enc_eq]
  refine GCall.turnE (Φ := fun ob => ob 3 = (1, some (true, .box 4 [.bool (never0 e)])) ∧ ob 1 = (1, some (true, .box 49 e.enc.cells)) ∧ ∀ k, 3 < k → k < 1000000000 → ob k = (0, none)) (args' := [e.enc, .fn 176 [] [.ptr 3 1 0]]) (by rw [e.enc_eq]) ⟨_, (never_clo 3 1 4 (by decide)).each e.size e (Nat.le_refl _) (by omega) false _ 4 _ (Nat.le_refl _) (by omega) ?_ (by simp; omega) (fun k h1 h2 => ?_), ?_⟩ ?_
  · simp only [go_sem, Nat.reduceEqDiff, Nat.reduceAdd, Nat.reduceSub, Nat.reduceLeDiff, Nat.reduceLT, Nat.reduceMul, Nat.reduceBEq, Int.reduceEq, Int.reduceLT, Int.reduceLE, Int.reduceNeg, Int.reduceToNat, reduceCtorEq, ho, Try.results128]
  · have g : ∀ j, j < 4 → ¬ k = j := fun j hj => by omega
    simp only [go_sem, Nat.reduceEqDiff, Nat.reduceAdd, Nat.reduceSub, Nat.reduceLeDiff, Nat.reduceLT, Nat.reduceMul, Nat.reduceBEq, Int.reduceEq, Int.reduceLT, Int.reduceLE, Int.reduceNeg, Int.reduceToNat, reduceCtorEq, ho, Try.results128, g, h2]
  · refine ⟨?_, ?_, fun k h1 h2 => ?_⟩
    · refine (never_clo 3 1 4 (by decide)).stepsS e.conj false _ ?_
      simp only [go_sem, Nat.reduceEqDiff, Nat.reduceAdd, Nat.reduceSub, Nat.reduceLeDiff, Nat.reduceLT, Nat.reduceMul, Nat.reduceBEq, Int.reduceEq, Int.reduceLT, Int.reduceLE, Int.reduceNeg, Int.reduceToNat, reduceCtorEq, ho, Try.results128]
    · rw [(never_clo 3 1 4 (by decide)).stepsFrame _ _ _ (by decide)]
      simp only [go_sem, Nat.reduceEqDiff, Nat.reduceAdd, Nat.reduceSub, Nat.reduceLeDiff, Nat.reduceLT, Nat.reduceMul, Nat.reduceBEq, Int.reduceEq, Int.reduceLT, Int.reduceLE, Int.reduceNeg, Int.reduceToNat, reduceCtorEq, ho, Try.results128, e.enc_eq]
    · rw [(never_clo 3 1 4 (by decide)).stepsFrame _ _ _ (by omega)]
      have g : ∀ j, j < 4 → ¬ k = j := fun j hj => by omega
      simp only [go_sem, Nat.reduceEqDiff, Nat.reduceAdd, Nat.reduceSub, Nat.reduceLeDiff, Nat.reduceLT, Nat.reduceMul, Nat.reduceBEq, Int.reduceEq, Int.reduceLT, Int.reduceLE, Int.reduceNeg, Int.reduceToNat, reduceCtorEq, ho, Try.results128, g, h2]
  rintro ob ⟨h3, h1, hn⟩
  have hg1 : getBox ob 1 1 = some (49, e.enc.cells) := by simp [getBox, h1]
  have h12 := hn 12 (by decide) (by decide)
  have h32 := hn 32 (by decide) (by decide)
  simp only [go_sem, Nat.reduceEqDiff, Nat.reduceAdd, Nat.reduceSub, Nat.reduceLeDiff, Nat.reduceLT, Nat.reduceMul, Nat.reduceBEq, Int.reduceEq, Int.reduceLT, Int.reduceLE, Int.reduceNeg, Int.reduceToNat, reduceCtorEq, ho, Try.results128, hg1, h12, e.enc_eq]
  refine GCall.fr ?_ (conditions_fn' e h) (.inr rfl) ?_; (focus (first | rfl | ((simp only [go_sem, Nat.reduceEqDiff, Nat.reduceAdd, Nat.reduceSub, Nat.reduceLeDiff, Nat.reduceLT, Nat.reduceMul, Nat.reduceBEq, Int.reduceEq, Int.reduceLT, Int.reduceLE, Int.reduceNeg, Int.reduceToNat, reduceCtorEq, ho, Try.results128, e.enc_eq]); done) | ((simp only [go_sem, Nat.reduceEqDiff, Nat.reduceAdd, Nat.reduceSub, Nat.reduceLeDiff, Nat.reduceLT, Nat.reduceMul, Nat.reduceBEq, Int.reduceEq, Int.reduceLT, Int.reduceLE, Int.reduceNeg, Int.reduceToNat, reduceCtorEq, ho, Try.results128, e.enc_eq]); rfl)))
  simp only [go_sem, Nat.reduceEqDiff, Nat.reduceAdd, Nat.reduceSub, Nat.reduceLeDiff, Nat.reduceLT, Nat.reduceMul, Nat.reduceBEq, Int.reduceEq, Int.reduceLT, Int.reduceLE, Int.reduceNeg, Int.reduceToNat, reduceCtorEq, ho, Try.results128, List.length_map, h12]
  refine ⟨fun m st => ∃ (done rest : List Cd) (G : Grp) (vs : Nat → Nat), e.conds = done ++ rest ∧ rest.length = m ∧ G = groups done ∧ st.s 16 = .int .i64 done.length ∧ st.s 15 = .int .i64 e.conds.length ∧ st.s 14 = .sl (e.conds.map Cd.enc) ∧ st.s 4 = .mref 12 1 ∧ st.s 3 = .ptr 3 1 0 ∧ st.o 12 = (1, some (true, .mp (.r (ents vs 0 G)))) ∧ st.o 3 = (1, some (true, .box 4 [.bool (never0 e)])) ∧ st.o 32 = (0, none) ∧ GRows vs G st.o ∧ ∀ k, 1000 + G.length ≤ k → k < 1000000000 → st.o k = (0, none), e.conds.length,
    ⟨[], e.conds, [], fun _ => 0, rfl, rfl, rfl, by simp only [go_sem, Nat.reduceEqDiff, Nat.reduceAdd, Nat.reduceSub, Nat.reduceLeDiff, Nat.reduceLT, Nat.reduceMul, Nat.reduceBEq, Int.reduceEq, Int.reduceLT, Int.reduceLE, Int.reduceNeg, Int.reduceToNat, reduceCtorEq, ho, Try.results128]; rfl, by simp only [go_sem, Nat.reduceEqDiff, Nat.reduceAdd, Nat.reduceSub, Nat.reduceLeDiff, Nat.reduceLT, Nat.reduceMul, Nat.reduceBEq, Int.reduceEq, Int.reduceLT, Int.reduceLE, Int.reduceNeg, Int.reduceToNat, reduceCtorEq, ho, Try.results128], by simp only [go_sem, Nat.reduceEqDiff, Nat.reduceAdd, Nat.reduceSub, Nat.reduceLeDiff, Nat.reduceLT, Nat.reduceMul, Nat.reduceBEq, Int.reduceEq, Int.reduceLT, Int.reduceLE, Int.reduceNeg, Int.reduceToNat, reduceCtorEq, ho, Try.results128], by simp only [go_sem, Nat.reduceEqDiff, Nat.reduceAdd, Nat.reduceSub, Nat.reduceLeDiff, Nat.reduceLT, Nat.reduceMul, Nat.reduceBEq, Int.reduceEq, Int.reduceLT, Int.reduceLE, Int.reduceNeg, Int.reduceToNat, reduceCtorEq, ho, Try.results128], by simp only [go_sem, Nat.reduceEqDiff, Nat.reduceAdd, Nat.reduceSub, Nat.reduceLeDiff, Nat.reduceLT, Nat.reduceMul, Nat.reduceBEq, Int.reduceEq, Int.reduceLT, Int.reduceLE, Int.reduceNeg, Int.reduceToNat, reduceCtorEq, ho, Try.results128], by simp only [go_sem, Nat.reduceEqDiff, Nat.reduceAdd, Nat.reduceSub, Nat.reduceLeDiff, Nat.reduceLT, Nat.reduceMul, Nat.reduceBEq, Int.reduceEq, Int.reduceLT, Int.reduceLE, Int.reduceNeg, Int.reduceToNat, reduceCtorEq, ho, Try.results128, h12]; rfl, by simp only [go_sem, Nat.reduceEqDiff, Nat.reduceAdd, Nat.reduceSub, Nat.reduceLeDiff, Nat.reduceLT, Nat.reduceMul, Nat.reduceBEq, Int.reduceEq, Int.reduceLT, Int.reduceLE, Int.reduceNeg, Int.reduceToNat, reduceCtorEq, ho, Try.results128, h3], by simp only [go_sem, Nat.reduceEqDiff, Nat.reduceAdd, Nat.reduceSub, Nat.reduceLeDiff, Nat.reduceLT, Nat.reduceMul, Nat.reduceBEq, Int.reduceEq, Int.reduceLT, Int.reduceLE, Int.reduceNeg, Int.reduceToNat, reduceCtorEq, ho, Try.results128, h32], fun j g hj => by simp at hj, fun k hk1 hk2 => ?_⟩, ?_⟩
  · have g : ∀ j, j < 50 → ¬ k = j := fun j hj => by simp at hk1; omega
    simp only [go_sem, Nat.reduceEqDiff, Nat.reduceAdd, Nat.reduceSub, Nat.reduceLeDiff, Nat.reduceLT, Nat.reduceMul, Nat.reduceBEq, Int.reduceEq, Int.reduceLT, Int.reduceLE, Int.reduceNeg, Int.reduceToNat, reduceCtorEq, ho, Try.results128, g]
    exact hn k (by simp at hk1; omega) hk2
  rintro m st ⟨done, rest, G, vs, hl', hm, hG, h16, h15, h14, hs4, hs3, ho12, ho3, ho32, hrows, hfree⟩
  have hlen2 : done.length + rest.length = e.conds.length := by rw [hl']; simp
  have hw : IntKind.i64.wrap ((done.length : Int) + 1) = (done.length : Int) + 1 := wrap_fits (by omega) (by omega)
  have hgm : getMap st.o 12 1 = some (.r (ents vs 0 G)) := getMap_of ho12
  have hgr := groups_fold done [] (by simp)
  rw [show done.foldl gput [] = G from hG.symm] at hgr
  obtain ⟨hne, hsum⟩ := hgr
  have hGl := gsum_len hne
  have hsum' : gsum G = done.length := by rw [hsum]; simp [gsum]
  cases rest with
  | nil =>
    have hlt : ¬ (done.length : Int) < (e.conds.length : Int) := by simp at hlen2; omega
    have hd : done = e.conds := by simp [hl']
    have his : itStart st.o (.mref 12 1) = some (12, 1, G.length) := by simp [itStart, hgm, ents_len]
    simp only [go_sem, Nat.reduceEqDiff, Nat.reduceAdd, Nat.reduceSub, Nat.reduceLeDiff, Nat.reduceLT, Nat.reduceMul, Nat.reduceBEq, Int.reduceEq, Int.reduceLT, Int.reduceLE, Int.reduceNeg, Int.reduceToNat, reduceCtorEq, ho, Try.results128, h16, h15, hlt, hs4, hs3, his, ho32]
    refine ⟨fun m st => ∃ seen : List Nat, m = G.length - seen.length ∧ seen.Nodup ∧ (∀ j ∈ seen, j < G.length) ∧ st.s 32 = .mref 32 1 ∧ st.o 32 = (1, some (true, .mp (.it 12 1 G.length seen))) ∧ st.o 12 = (1, some (true, .mp (.r (ents vs 0 G)))) ∧ GRows vs G st.o ∧ st.s 3 = .ptr 3 1 0 ∧ st.o 3 = (1, some (true, .box 4 [.bool (never0 e || seen.any (badAt G))])), G.length,
      ⟨[], by simp, by simp, by simp, by simp only [go_sem, Nat.reduceEqDiff, Nat.reduceAdd, Nat.reduceSub, Nat.reduceLeDiff, Nat.reduceLT, Nat.reduceMul, Nat.reduceBEq, Int.reduceEq, Int.reduceLT, Int.reduceLE, Int.reduceNeg, Int.reduceToNat, reduceCtorEq, ho, Try.results128], by simp only [go_sem, Nat.reduceEqDiff, Nat.reduceAdd, Nat.reduceSub, Nat.reduceLeDiff, Nat.reduceLT, Nat.reduceMul, Nat.reduceBEq, Int.reduceEq, Int.reduceLT, Int.reduceLE, Int.reduceNeg, Int.reduceToNat, reduceCtorEq, ho, Try.results128, ho32], by simp only [go_sem, Nat.reduceEqDiff, Nat.reduceAdd, Nat.reduceSub, Nat.reduceLeDiff, Nat.reduceLT, Nat.reduceMul, Nat.reduceBEq, Int.reduceEq, Int.reduceLT, Int.reduceLE, Int.reduceNeg, Int.reduceToNat, reduceCtorEq, ho, Try.results128, ho12], fun j g hj => ?_, by simp only [go_sem, Nat.reduceEqDiff, Nat.reduceAdd, Nat.reduceSub, Nat.reduceLeDiff, Nat.reduceLT, Nat.reduceMul, Nat.reduceBEq, Int.reduceEq, Int.reduceLT, Int.reduceLE, Int.reduceNeg, Int.reduceToNat, reduceCtorEq, ho, Try.results128, hs3], by simp only [go_sem, Nat.reduceEqDiff, Nat.reduceAdd, Nat.reduceSub, Nat.reduceLeDiff, Nat.reduceLT, Nat.reduceMul, Nat.reduceBEq, Int.reduceEq, Int.reduceLT, Int.reduceLE, Int.reduceNeg, Int.reduceToNat, reduceCtorEq, ho, Try.results128, ho3, List.any_nil, Bool.or_false]⟩, ?_⟩
    · simp only [go_sem, Nat.reduceEqDiff, Nat.reduceAdd, Nat.reduceSub, Nat.reduceLeDiff, Nat.reduceLT, Nat.reduceMul, Nat.reduceBEq, Int.reduceEq, Int.reduceLT, Int.reduceLE, Int.reduceNeg, Int.reduceToNat, reduceCtorEq, ho, Try.results128, hB]
      exact hrows j g hj
    clear hrows ho3 ho12 ho32 hfree hs3 hgm his
    rintro m st ⟨seen, rfl, hnd, hsl, hs32, ho32, ho12, hrows, hs3, ho3⟩
    have hgm : getMap st.o 12 1 = some (.r (ents vs 0 G)) := getMap_of ho12
    have hg3 : getBox st.o 3 1 = some (4, [.bool (never0 e || seen.any (badAt G))]) := by simp [getBox, ho3]
    simp only [go_sem, Nat.reduceEqDiff, Nat.reduceAdd, Nat.reduceSub, Nat.reduceLeDiff, Nat.reduceLT, Nat.reduceMul, Nat.reduceBEq, Int.reduceEq, Int.reduceLT, Int.reduceLE, Int.reduceNeg, Int.reduceToNat, reduceCtorEq, ho, Try.results128, hs32]
    refine ANext_of (i := ⟨32, 1, 12, 1, G.length, seen, ents vs 0 G⟩) (itAt_mref ho32 hgm) (ents_len _ _ _) (fun hall => ?_) (fun j k z hj hkz => ?_)
    · simp only [go_sem, Nat.reduceEqDiff, Nat.reduceAdd, Nat.reduceSub, Nat.reduceLeDiff, Nat.reduceLT, Nat.reduceMul, Nat.reduceBEq, Int.reduceEq, Int.reduceLT, Int.reduceLE, Int.reduceNeg, Int.reduceToNat, reduceCtorEq, ho, Try.results128, hs3, hg3]
      rw [neverP, bad_any G seen hsl hall, hG, hd]
    · obtain ⟨g, hgj, rfl⟩ := ents_get vs G 0 j k z hkz
      have hjl : j < G.length := (List.getElem?_eq_some_iff.1 hgj).1
      have hro := hrows j _ hgj
      have hrow : getRow st.o (1000 + j) (vs j) = some (72, g.map Cd.enc) := by simp [getRow, hro]
      have hnd' : (seen ++ [j]).Nodup := by
        rw [List.nodup_append]
        refine ⟨hnd, by simp, ?_⟩
        intro a ha b hb
        simp only [List.mem_singleton] at hb
        subst hb
        rintro rfl
        exact hj ha
      have hsl' : ∀ i ∈ seen ++ [j], i < G.length := fun i hi => by
        rcases List.mem_append.1 hi with hi | hi
        · exact hsl i hi
        · simp only [List.mem_singleton] at hi; subst hi; exact hjl
      have hlen' := nodup_lt _ _ hnd' hsl'
      have hm' : G.length - (seen ++ [j]).length < G.length - seen.length := by simp at hlen' ⊢; omega
      have hgn : g ≠ [] := hne (k, g) (List.mem_of_getElem? hgj)
      have hgl : g.length ≤ gsum G := gsum_mem (List.mem_of_getElem? hgj)
      obtain ⟨c0, l0, rfl⟩ : ∃ c0 l0, g = c0 :: l0 := by
        cases g with
        | nil => exact absurd rfl hgn
        | cons c0 l0 => exact ⟨c0, l0, rfl⟩
      have hbad : (seen ++ [j]).any (badAt G) = (seen.any (badAt G) || !possible (c0 :: l0)) := by simp [badAt, hgj]
      simp only [go_sem, Nat.reduceEqDiff, Nat.reduceAdd, Nat.reduceSub, Nat.reduceLeDiff, Nat.reduceLT, Nat.reduceMul, Nat.reduceBEq, Int.reduceEq, Int.reduceLT, Int.reduceLE, Int.reduceNeg, Int.reduceToNat, reduceCtorEq, ho, Try.results128, hs32]
      have hgm' : getMap (upd st.o 32 (1, some (true, .mp (.it 12 1 G.length (seen ++ [j]))))) 12 1 = some (.r (ents vs 0 G)) := by simp [getMap, upd, ho12]
      have hit : itAt (upd st.o 32 (1, some (true, .mp (.it 12 1 G.length (seen ++ [j]))))) (.mref 32 1) = some ⟨32, 1, 12, 1, G.length, seen ++ [j], ents vs 0 G⟩ := itAt_mref (upd_same _ _ _) hgm'
      refine AEntry_of hit (ents_len _ _ _) seen j k _ rfl hkz ?_
      simp only [go_sem, Nat.reduceEqDiff, Nat.reduceAdd, Nat.reduceSub, Nat.reduceLeDiff, Nat.reduceLT, Nat.reduceMul, Nat.reduceBEq, Int.reduceEq, Int.reduceLT, Int.reduceLE, Int.reduceNeg, Int.reduceToNat, reduceCtorEq, ho, Try.results128, hs3, hg3, Nat.zero_add]
      generalize hb : (never0 e || seen.any (badAt G)) = b at hg3 ho3 ⊢
      have fin : ∀ b' : Bool, b' = (b || !possible (c0 :: l0)) → b' = (never0 e || (seen ++ [j]).any (badAt G)) := fun b' h => by rw [hbad, h, ← hb, Bool.or_assoc]
      cases b with
      | true =>
        simp only [go_sem, Nat.reduceEqDiff, Nat.reduceAdd, Nat.reduceSub, Nat.reduceLeDiff, Nat.reduceLT, Nat.reduceMul, Nat.reduceBEq, Int.reduceEq, Int.reduceLT, Int.reduceLE, Int.reduceNeg, Int.reduceToNat, reduceCtorEq, ho, Try.results128, hs3, hg3, ho3]
        refine ⟨_, hm', seen ++ [j], rfl, hnd', hsl', hs32, rfl, ho12, fun i p hi => ?_, ?_⟩
        · simp only [go_sem, Nat.reduceEqDiff, Nat.reduceAdd, Nat.reduceSub, Nat.reduceLeDiff, Nat.reduceLT, Nat.reduceMul, Nat.reduceBEq, Int.reduceEq, Int.reduceLT, Int.reduceLE, Int.reduceNeg, Int.reduceToNat, reduceCtorEq, ho, Try.results128, hB]
          exact hrows i p hi
        · rw [← fin true (by simp)]
      | false =>
        simp only [go_sem, Nat.reduceEqDiff, Nat.reduceAdd, Nat.reduceSub, Nat.reduceLeDiff, Nat.reduceLT, Nat.reduceMul, Nat.reduceBEq, Int.reduceEq, Int.reduceLT, Int.reduceLE, Int.reduceNeg, Int.reduceToNat, reduceCtorEq, ho, Try.results128, hs3, hg3, ho3]
        refine GCall.fr ?_ (possible_fn c0 l0 (by omega)) (.inl rfl) ?_; (focus (first | rfl | ((simp only [go_sem, Nat.reduceEqDiff, Nat.reduceAdd, Nat.reduceSub, Nat.reduceLeDiff, Nat.reduceLT, Nat.reduceMul, Nat.reduceBEq, Int.reduceEq, Int.reduceLT, Int.reduceLE, Int.reduceNeg, Int.reduceToNat, reduceCtorEq, ho, Try.results128, hrow, hB]); done) | ((simp only [go_sem, Nat.reduceEqDiff, Nat.reduceAdd, Nat.reduceSub, Nat.reduceLeDiff, Nat.reduceLT, Nat.reduceMul, Nat.reduceBEq, Int.reduceEq, Int.reduceLT, Int.reduceLE, Int.reduceNeg, Int.reduceToNat, reduceCtorEq, ho, Try.results128, hrow, hB]); rfl)))
        simp only [go_sem, Nat.reduceEqDiff, Nat.reduceAdd, Nat.reduceSub, Nat.reduceLeDiff, Nat.reduceLT, Nat.reduceMul, Nat.reduceBEq, Int.reduceEq, Int.reduceLT, Int.reduceLE, Int.reduceNeg, Int.reduceToNat, reduceCtorEq, ho, Try.results128, hs3, hg3, ho3]
        refine ⟨_, hm', seen ++ [j], rfl, hnd', hsl', hs32, rfl, ho12, fun i p hi => ?_, ?_⟩
        · simp only [go_sem, Nat.reduceEqDiff, Nat.reduceAdd, Nat.reduceSub, Nat.reduceLeDiff, Nat.reduceLT, Nat.reduceMul, Nat.reduceBEq, Int.reduceEq, Int.reduceLT, Int.reduceLE, Int.reduceNeg, Int.reduceToNat, reduceCtorEq, ho, Try.results128, hB]
          exact hrows i p hi
        · rw [← fin (!possible (c0 :: l0)) (by simp)]
  | cons c rest =>
    have hlt : (done.length : Int) < (e.conds.length : Int) := by simp at hlen2; omega
    have hget := cds_get hl'
    rcases find_grp vs c G 0 with ⟨g1, g2, g3⟩ | ⟨j, g, g1, g2, g3, g4, g5⟩
    · have hfr := hfree (1000 + G.length) (Nat.le_refl _) (by omega)
      have hk9 : 1000 + G.length < 1000000000 := by omega
      simp only [go_sem, Nat.reduceEqDiff, Nat.reduceAdd, Nat.reduceSub, Nat.reduceLeDiff, Nat.reduceLT, Nat.reduceMul, Nat.reduceBEq, Int.reduceEq, Int.reduceLT, Int.reduceLE, Int.reduceNeg, Int.reduceToNat, reduceCtorEq, ho, Try.results128, h16, h15, h14, hlt, hget, Int.natCast_nonneg, Int.toNat_natCast, Cd.enc, hs4, hs3, hgm, g1, g2, mdOf, M128, Option.getD_some, Option.getD_none, if_true, if_false, ho12, hfr, hk9, ents_len, hA, hB, hw]
      refine ⟨fun k hk => ?_, rest.length, by simp at hm; omega, done ++ [c], rest, gput G c, fun q => if q = G.length then 1 else vs q, by simp [hl'], rfl, by rw [groups_snoc, hG], by simp, ?_, ho3, ho32, fun j g hj => ?_, fun k hk1 hk2 => ?_⟩
      · simp only [go_sem, Nat.reduceEqDiff, Nat.reduceAdd, Nat.reduceSub, Nat.reduceLeDiff, Nat.reduceLT, Nat.reduceMul, Nat.reduceBEq, Int.reduceEq, Int.reduceLT, Int.reduceLE, Int.reduceNeg, Int.reduceToNat, reduceCtorEq, ho, Try.results128, hA k G.length hk]
      · rw [g3, ents_app, ents_congr G 0 (vs := vs) (vs' := fun q => if q = G.length then 1 else vs q) fun j hj => by rw [if_neg (by omega)]]
        simp
      · rw [g3, List.getElem?_append] at hj
        split at hj
        · rename_i hlt2
          have hn1 : ¬ j = G.length := by omega
          simp only [go_sem, Nat.reduceEqDiff, Nat.reduceAdd, Nat.reduceSub, Nat.reduceLeDiff, Nat.reduceLT, Nat.reduceMul, Nat.reduceBEq, Int.reduceEq, Int.reduceLT, Int.reduceLE, Int.reduceNeg, Int.reduceToNat, reduceCtorEq, ho, Try.results128, hB, hn1, Nat.add_left_cancel_iff]
          exact hrows j g hj
        · rename_i hlt2
          cases hq : j - G.length with
          | zero =>
            have hj2 : j = G.length := by omega
            subst hj2
            rw [hq] at hj
            simp only [List.getElem?_cons_zero, Option.some.injEq] at hj
            subst hj
            simp only [go_sem, Nat.reduceEqDiff, Nat.reduceAdd, Nat.reduceSub, Nat.reduceLeDiff, Nat.reduceLT, Nat.reduceMul, Nat.reduceBEq, Int.reduceEq, Int.reduceLT, Int.reduceLE, Int.reduceNeg, Int.reduceToNat, reduceCtorEq, ho, Try.results128, hB, Nat.add_left_cancel_iff]
            rfl
          | succ q => rw [hq] at hj; simp at hj
      · rw [g3] at hk1
        have hl1 : (G ++ [(c.col, [c])]).length = G.length + 1 := by simp
        have q1 : ¬ k = 1000 + G.length := by omega
        have q2 : ¬ k = 12 := by omega
        have q3 : ¬ k = 6 := by omega
        simp only [go_sem, Nat.reduceEqDiff, Nat.reduceAdd, Nat.reduceSub, Nat.reduceLeDiff, Nat.reduceLT, Nat.reduceMul, Nat.reduceBEq, Int.reduceEq, Int.reduceLT, Int.reduceLE, Int.reduceNeg, Int.reduceToNat, reduceCtorEq, ho, Try.results128, q1, q2, q3]
        exact hfree k (by omega) hk2
    · have hro := hrows j (c.col, g) g2
      simp only [Nat.zero_add] at g3 g4
      have hk9 : 1000 + j < 1000000000 := by omega
      have hgl : g.length ≤ gsum G := gsum_mem (List.mem_of_getElem? g2)
      have hbig : (g.length + 1) * 49 ≤ 140737488355328 := by omega
      simp only [go_sem, Nat.reduceEqDiff, Nat.reduceAdd, Nat.reduceSub, Nat.reduceLeDiff, Nat.reduceLT, Nat.reduceMul, Nat.reduceBEq, Int.reduceEq, Int.reduceLT, Int.reduceLE, Int.reduceNeg, Int.reduceToNat, reduceCtorEq, ho, Try.results128, h16, h15, h14, hlt, hget, Int.natCast_nonneg, Int.toNat_natCast, Cd.enc, hs4, hs3, hgm, g3, g4, mdOf, M128, Option.getD_some, Option.getD_none, if_true, if_false, ho12, hro, hk9, ents_len, hA, hB, hw, hbig, List.length_map]
      refine ⟨fun k hk => ?_, rest.length, by simp at hm; omega, done ++ [c], rest, gput G c, fun q => if q = j then vs j + 1 else vs q, by simp [hl'], rfl, by rw [groups_snoc, hG], by simp, ?_, ho3, ho32, fun i p hi => ?_, fun k hk1 hk2 => ?_⟩
      · simp only [go_sem, Nat.reduceEqDiff, Nat.reduceAdd, Nat.reduceSub, Nat.reduceLeDiff, Nat.reduceLT, Nat.reduceMul, Nat.reduceBEq, Int.reduceEq, Int.reduceLT, Int.reduceLE, Int.reduceNeg, Int.reduceToNat, reduceCtorEq, ho, Try.results128, hA k j hk]
      · rfl
      · rw [g5, List.getElem?_set] at hi
        by_cases hij : j = i
        · subst hij
          rw [if_pos rfl, if_pos g1] at hi
          cases hi
          simp only [go_sem, Nat.reduceEqDiff, Nat.reduceAdd, Nat.reduceSub, Nat.reduceLeDiff, Nat.reduceLT, Nat.reduceMul, Nat.reduceBEq, Int.reduceEq, Int.reduceLT, Int.reduceLE, Int.reduceNeg, Int.reduceToNat, reduceCtorEq, ho, Try.results128, hB]
          simp [Cd.enc]
        · rw [if_neg hij] at hi
          have hn1 : ¬ i = j := fun h => hij h.symm
          simp only [go_sem, Nat.reduceEqDiff, Nat.reduceAdd, Nat.reduceSub, Nat.reduceLeDiff, Nat.reduceLT, Nat.reduceMul, Nat.reduceBEq, Int.reduceEq, Int.reduceLT, Int.reduceLE, Int.reduceNeg, Int.reduceToNat, reduceCtorEq, ho, Try.results128, hB, hn1, Nat.add_left_cancel_iff]
          exact hrows i p hi
      · have hl1 : (gput G c).length = G.length := by rw [g5, List.length_set]
        have q1 : ¬ k = 1000 + j := by omega
        have q2 : ¬ k = 12 := by omega
        have q3 : ¬ k = 6 := by omega
        simp only [go_sem, Nat.reduceEqDiff, Nat.reduceAdd, Nat.reduceSub, Nat.reduceLeDiff, Nat.reduceLT, Nat.reduceMul, Nat.reduceBEq, Int.reduceEq, Int.reduceLT, Int.reduceLE, Int.reduceNeg, Int.reduceToNat, reduceCtorEq, ho, Try.results128, q1, q2, q3]
        exact hfree k (by omega) hk2
end Go.Proofs.Ytiefnninebilbaa
/- What the reference's check returns: kinds joined; no condition. -/
set_option maxRecDepth 100000
set_option linter.unusedVariables false
set_option linter.unusedSimpArgs false
namespace Go.Proofs.Ytiefnninebilbaa
open Go Go.Sx

theorem ok187 : okCode M0 Try.f187.ntmps (Try.f187.body.getD .skip) = true := by decide +kernel
theorem join_fn (l : List Int) (hl : l.length ≤ 1000000000) : Fc 187 [.sl (l.map (.int .i64))] (.tup [.int .i64 (unite l 0).1, .bool (unite l 0).2]) := by
  refine fn_of_awp (E := E0) (M := M0) follows Try.func187 rfl (by decide) ok187 (by decide) (by simp) fun o ho => ?_
  simp only [go_sem, Nat.reduceEqDiff, Nat.reduceAdd, Nat.reduceSub, Nat.reduceLeDiff, Nat.reduceLT, Nat.reduceMul, Nat.reduceBEq, Int.reduceEq, Int.reduceLT, Int.reduceLE, Int.reduceNeg, Int.reduceToNat, reduceCtorEq, ho, Try.results187]
  refine ⟨fun n st => ∃ (i : Nat) (rest : List Int) (k : Int), l.drop i = rest ∧ i + rest.length = l.length ∧ rest.length = n ∧ unite rest k = unite l 0 ∧ st.s 5 = .int .i64 i ∧ st.s 0 = .sl (l.map (.int .i64)) ∧ st.s 4 = .int .i64 k, l.length, ⟨0, l, 0, rfl, by simp, rfl, rfl, by simp only [go_sem, Nat.reduceEqDiff, Nat.reduceAdd, Nat.reduceSub, Nat.reduceLeDiff, Nat.reduceLT, Nat.reduceMul, Nat.reduceBEq, Int.reduceEq, Int.reduceLT, Int.reduceLE, Int.reduceNeg, Int.reduceToNat, reduceCtorEq, ho, Try.results187]; rfl, by simp only [go_sem, Nat.reduceEqDiff, Nat.reduceAdd, Nat.reduceSub, Nat.reduceLeDiff, Nat.reduceLT, Nat.reduceMul, Nat.reduceBEq, Int.reduceEq, Int.reduceLT, Int.reduceLE, Int.reduceNeg, Int.reduceToNat, reduceCtorEq, ho, Try.results187], by simp only [go_sem, Nat.reduceEqDiff, Nat.reduceAdd, Nat.reduceSub, Nat.reduceLeDiff, Nat.reduceLT, Nat.reduceMul, Nat.reduceBEq, Int.reduceEq, Int.reduceLT, Int.reduceLE, Int.reduceNeg, Int.reduceToNat, reduceCtorEq, ho, Try.results187]⟩, ?_⟩
  rintro n st ⟨i, rest, k, hr, hi, hn, ht, h5, h0, h4⟩
  have hw : IntKind.i64.wrap ((i : Int) + 1) = (i : Int) + 1 := wrap_fits (by omega) (by omega)
  cases rest with
  | nil =>
    have hlt : ¬ (i : Int) < (l.length : Int) := by simp at hi; omega
    simp only [go_sem, Nat.reduceEqDiff, Nat.reduceAdd, Nat.reduceSub, Nat.reduceLeDiff, Nat.reduceLT, Nat.reduceMul, Nat.reduceBEq, Int.reduceEq, Int.reduceLT, Int.reduceLE, Int.reduceNeg, Int.reduceToNat, reduceCtorEq, ho, Try.results187, h5, h0, hlt, h4]
    rw [← ht]; exact ⟨rfl, rfl⟩
  | cons x rest =>
    have hlt : (i : Int) < (l.length : Int) := by simp at hi; omega
    have hget : (l.map (PV.int .i64))[i]? = some (.int .i64 x) := by
      have : l[i]? = some x := by rw [← List.head?_drop, hr]; rfl
      rw [List.getElem?_map, this]; rfl
    have next : ∀ k', unite rest k' = unite l 0 → ∃ m, m < n ∧ ∃ (i' : Nat) (rest : List Int) (k : Int), l.drop i' = rest ∧ i' + rest.length = l.length ∧ rest.length = m ∧ unite rest k = unite l 0 ∧ ((i : Int) + 1 = (i' : Int)) ∧ k' = k := fun k' hk => ⟨rest.length, by simp at hn; omega, i + 1, rest, k', by rw [← List.drop_drop, hr]; rfl, by simp at hi; omega, rfl, hk, by simp, rfl⟩
    simp only [go_sem, Nat.reduceEqDiff, Nat.reduceAdd, Nat.reduceSub, Nat.reduceLeDiff, Nat.reduceLT, Nat.reduceMul, Nat.reduceBEq, Int.reduceEq, Int.reduceLT, Int.reduceLE, Int.reduceNeg, Int.reduceToNat, reduceCtorEq, ho, Try.results187, h5, h0, h4, hlt, hget, Int.natCast_nonneg, Int.toNat_natCast]
    repeat' (first | (refine AIf_cases (fun h => ?_) (fun h => ?_) <;> (try simp only [decide_eq_true_eq, decide_eq_false_iff_not, Bool.not_eq_true', Bool.not_eq_false', Bool.not_eq_true, Bool.not_eq_false] at h) <;> (try simp only [go_sem, Nat.reduceEqDiff, Nat.reduceAdd, Nat.reduceSub, Nat.reduceLeDiff, Nat.reduceLT, Nat.reduceMul, Nat.reduceBEq, Int.reduceEq, Int.reduceLT, Int.reduceLE, Int.reduceNeg, Int.reduceToNat, reduceCtorEq, ho, Try.results187, h, h5, h0, h4, hw, hlt, hget, Int.natCast_nonneg, Int.toNat_natCast])))
    all_goals simp only [unite] at ht
    all_goals (first | exact next _ (by simp_all) | (rw [if_neg ‹_›, if_pos ⟨‹_›, ‹_›⟩] at ht; rw [← ht]; exact ⟨rfl, rfl⟩))
end Go.Proofs.Ytiefnninebilbaa
/- What the reference's check returns: all kinds fit; no condition. -/
set_option maxRecDepth 100000
set_option linter.unusedVariables false
set_option linter.unusedSimpArgs false
namespace Go.Proofs.Ytiefnninebilbaa
open Go Go.Sx

def fitsKind (kind x : Int) : Bool := decide (x = kind) || decide (x = 0)
theorem unite_all (kind : Int) (hk : kind ≠ 0) : ∀ (l : List Int) (k : Int), (k = 0 ∨ k = kind) → ((unite (l ++ [kind]) k).2 && decide ((unite (l ++ [kind]) k).1 = kind)) = l.all (fitsKind kind)
  | [], k, h => by
    rcases h with rfl | rfl <;> simp [unite, hk]
  | x :: l, k, h => by
    by_cases hx : x = 0
    · subst hx
      simp only [List.cons_append, unite, if_true, List.all_cons]
      rw [unite_all kind hk l k h]
      simp [fitsKind]
    · by_cases hx2 : x = kind
      · subst hx2
        have : ¬ (k ≠ 0 ∧ k ≠ x) := by rintro ⟨h1, h2⟩; rcases h with h | h; exact h1 h; exact h2 h
        simp only [List.cons_append, unite, if_neg hx, if_neg this, List.all_cons]
        rw [unite_all x hk l x (.inr rfl)]
        simp [fitsKind]
      · have hf : fitsKind kind x = false := by simp [fitsKind, hx, hx2]
        simp only [List.cons_append, unite, if_neg hx, List.all_cons, hf, Bool.false_and]
        split
        · rfl
        · have key : ∀ (l : List Int), ((unite (l ++ [kind]) x).2 && decide ((unite (l ++ [kind]) x).1 = kind)) = false := by
            intro l
            induction l with
            | nil => simp [unite, hk, hx, hx2]
            | cons y l ih =>
              simp only [List.cons_append, unite]
              split
              · exact ih
              · split
                · rfl
                · rename_i h1 h2
                  have : y = x := by
                    by_cases h3 : x = y
                    · exact h3.symm
                    · exact absurd ⟨hx, h3⟩ h2
                  rw [this]
                  exact ih
          exact key l
theorem allKind_eq {kind : Int} (hk : kind ≠ 0) (l : List Int) : allKind l kind = l.all (fitsKind kind) := unite_all kind hk l 0 (.inl rfl)
end Go.Proofs.Ytiefnninebilbaa
/- What the reference's check returns: 'all'; no condition. -/
set_option maxRecDepth 100000
set_option linter.unusedVariables false
set_option linter.unusedSimpArgs false
namespace Go.Proofs.Ytiefnninebilbaa
open Go Go.Sx

theorem ok186 : okCode M0 Try.f186.ntmps (Try.f186.body.getD .skip) = true := by decide +kernel
theorem rall_fn (l : List Int) (kind : Int) (hk : kind ≠ 0) (hl : l.length ≤ 1000000000) : Fc 186 [.sl (l.map (.int .i64)), .int .i64 kind] (.bool (allKind l kind)) := by
  rw [allKind_eq hk]
  refine fn_of_awp (E := E0) (M := M0) follows Try.func186 rfl (by decide) ok186 (by decide) (by simp) fun o ho => ?_
  simp only [go_sem, Nat.reduceEqDiff, Nat.reduceAdd, Nat.reduceSub, Nat.reduceLeDiff, Nat.reduceLT, Nat.reduceMul, Nat.reduceBEq, Int.reduceEq, Int.reduceLT, Int.reduceLE, Int.reduceNeg, Int.reduceToNat, reduceCtorEq, ho, Try.results186]
  refine ⟨fun n st => ∃ (i : Nat) (rest : List Int), l.drop i = rest ∧ i + rest.length = l.length ∧ rest.length = n ∧ rest.all (fitsKind kind) = l.all (fitsKind kind) ∧ st.s 5 = .int .i64 i ∧ st.s 0 = .sl (l.map (.int .i64)) ∧ st.s 1 = .int .i64 kind, l.length, ⟨0, l, rfl, by simp, rfl, rfl, by simp only [go_sem, Nat.reduceEqDiff, Nat.reduceAdd, Nat.reduceSub, Nat.reduceLeDiff, Nat.reduceLT, Nat.reduceMul, Nat.reduceBEq, Int.reduceEq, Int.reduceLT, Int.reduceLE, Int.reduceNeg, Int.reduceToNat, reduceCtorEq, ho, Try.results186]; rfl, by simp only [go_sem, Nat.reduceEqDiff, Nat.reduceAdd, Nat.reduceSub, Nat.reduceLeDiff, Nat.reduceLT, Nat.reduceMul, Nat.reduceBEq, Int.reduceEq, Int.reduceLT, Int.reduceLE, Int.reduceNeg, Int.reduceToNat, reduceCtorEq, ho, Try.results186], by simp only [go_sem, Nat.reduceEqDiff, Nat.reduceAdd, Nat.reduceSub, Nat.reduceLeDiff, Nat.reduceLT, Nat.reduceMul, Nat.reduceBEq, Int.reduceEq, Int.reduceLT, Int.reduceLE, Int.reduceNeg, Int.reduceToNat, reduceCtorEq, ho, Try.results186]⟩, ?_⟩
  rintro n st ⟨i, rest, hr, hi, hn, ht, h5, h0, h1⟩
  have hw : IntKind.i64.wrap ((i : Int) + 1) = (i : Int) + 1 := wrap_fits (by omega) (by omega)
  cases rest with
  | nil =>
    have hlt : ¬ (i : Int) < (l.length : Int) := by simp at hi; omega
    simp only [go_sem, Nat.reduceEqDiff, Nat.reduceAdd, Nat.reduceSub, Nat.reduceLeDiff, Nat.reduceLT, Nat.reduceMul, Nat.reduceBEq, Int.reduceEq, Int.reduceLT, Int.reduceLE, Int.reduceNeg, Int.reduceToNat, reduceCtorEq, ho, Try.results186, h5, h0, hlt]
    rw [← ht]; rfl
  | cons x rest =>
    have hlt : (i : Int) < (l.length : Int) := by simp at hi; omega
    have hget : (l.map (PV.int .i64))[i]? = some (.int .i64 x) := by
      have : l[i]? = some x := by rw [← List.head?_drop, hr]; rfl
      rw [List.getElem?_map, this]; rfl
    have next : rest.all (fitsKind kind) = l.all (fitsKind kind) → ∃ m, m < n ∧ ∃ (i' : Nat) (rest : List Int), l.drop i' = rest ∧ i' + rest.length = l.length ∧ rest.length = m ∧ rest.all (fitsKind kind) = l.all (fitsKind kind) ∧ ((i : Int) + 1 = (i' : Int)) := fun hk => ⟨rest.length, by simp at hn; omega, i + 1, rest, by rw [← List.drop_drop, hr]; rfl, by simp at hi; omega, rfl, hk, by simp⟩
    rw [List.all_cons] at ht
    simp only [go_sem, Nat.reduceEqDiff, Nat.reduceAdd, Nat.reduceSub, Nat.reduceLeDiff, Nat.reduceLT, Nat.reduceMul, Nat.reduceBEq, Int.reduceEq, Int.reduceLT, Int.reduceLE, Int.reduceNeg, Int.reduceToNat, reduceCtorEq, ho, Try.results186, h5, h0, h1, hlt, hget, Int.natCast_nonneg, Int.toNat_natCast]
    repeat' (first | (refine AIf_cases (fun h => ?_) (fun h => ?_) <;> (try simp only [decide_eq_true_eq, decide_eq_false_iff_not, Bool.not_eq_true', Bool.not_eq_false', Bool.not_eq_true, Bool.not_eq_false] at h) <;> (try simp only [go_sem, Nat.reduceEqDiff, Nat.reduceAdd, Nat.reduceSub, Nat.reduceLeDiff, Nat.reduceLT, Nat.reduceMul, Nat.reduceBEq, Int.reduceEq, Int.reduceLT, Int.reduceLE, Int.reduceNeg, Int.reduceToNat, reduceCtorEq, ho, Try.results186, h, h5, h0, h1, hw, hlt, hget, Int.natCast_nonneg, Int.toNat_natCast])))
    · rw [← ht]; simp_all [fitsKind]
    · exact next (by rw [← ht]; simp_all [fitsKind])
    · exact next (by rw [← ht]; simp_all [fitsKind])
end Go.Proofs.Ytiefnninebilbaa
/- What the reference's check returns: 'result'; no condition. -/
set_option maxRecDepth 100000
set_option linter.unusedVariables false
set_option linter.unusedSimpArgs false
namespace Go.Proofs.Ytiefnninebilbaa
open Go Go.Sx

def rresultK (e : Ex) (l kinds : List Int) : Int × Bool := if e.op = 2 then (kinds[e.int.toNat]?.getD 0, true) else resultK e.op e.val.kind l
theorem ok156 : okCode M0 Try.f156.ntmps (Try.f156.body.getD .skip) = true := by decide +kernel
theorem rresult_fn (e : Ex) (l kinds : List Int) (hl : l.length ≤ 100000000) (hkn : known e.op = true) (h1 : e.op = 22 → 1 ≤ l.length) (hi : e.op = 2 → 0 ≤ e.int ∧ e.int < kinds.length) : Fc 156 [e.enc, .sl (l.map (.int .i64)), .sl (kinds.map (.int .i64))] (.tup [.int .i64 (rresultK e l kinds).1, .bool (rresultK e l kinds).2]) := by
  have hl' : l.length ≤ 1000000000 := by omega
  by_cases hop2 : e.op = 2
  · refine fn_of_awp (E := E0) (M := M0) follows Try.func156 rfl (by decide) ok156 (by decide) (by simp) fun o ho => ?_
    simp only [go_sem, Nat.reduceEqDiff, Nat.reduceAdd, Nat.reduceSub, Nat.reduceLeDiff, Nat.reduceLT, Nat.reduceMul, Nat.reduceBEq, Int.reduceEq, Int.reduceLT, Int.reduceLE, Int.reduceNeg, Int.reduceToNat, reduceCtorEq, ho, Try.results156, e.enc_eq]
    obtain ⟨hi0, hi1⟩ := hi hop2
    have hlt : e.int.toNat < kinds.length := by omega
    have hget : (kinds.map (PV.int .i64))[e.int.toNat]? = some (.int .i64 (kinds[e.int.toNat])) := by simp [hlt]
    simp only [go_sem, Nat.reduceEqDiff, Nat.reduceAdd, Nat.reduceSub, Nat.reduceLeDiff, Nat.reduceLT, Nat.reduceMul, Nat.reduceBEq, Int.reduceEq, Int.reduceLT, Int.reduceLE, Int.reduceNeg, Int.reduceToNat, reduceCtorEq, ho, Try.results156, hop2, hi0, hget]
    simp [rresultK, hop2, hlt]
  have key : rresultK e l kinds = resultK e.op e.val.kind l := if_neg hop2
  have hlast : e.op ≠ 1 → e.op ≠ 4 → e.op ≠ 5 → e.op ≠ 6 → e.op ≠ 7 → e.op ≠ 8 → e.op ≠ 9 → e.op ≠ 10 → e.op ≠ 11 → e.op ≠ 12 → e.op ≠ 13 → e.op ≠ 14 → e.op ≠ 15 → e.op ≠ 16 → e.op ≠ 17 → e.op ≠ 18 → e.op ≠ 19 → e.op ≠ 20 → e.op ≠ 21 → e.op ≠ 22 → e.op ≠ 23 → e.op = 24 := by
    simp [known] at hkn; omega
  rw [key]
  clear hi hkn key
  refine fn_of_awp (E := E0) (M := M0) follows Try.func156 rfl (by decide) ok156 (by decide) (by simp) fun o ho => ?_
  simp only [go_sem, Nat.reduceEqDiff, Nat.reduceAdd, Nat.reduceSub, Nat.reduceLeDiff, Nat.reduceLT, Nat.reduceMul, Nat.reduceBEq, Int.reduceEq, Int.reduceLT, Int.reduceLE, Int.reduceNeg, Int.reduceToNat, reduceCtorEq, ho, Try.results156, e.enc_eq]
  generalize e.op = op at *
  repeat' (first | (refine AIf_cases (fun h => ?_) (fun h => ?_) <;> (try simp only [decide_eq_true_eq, decide_eq_false_iff_not, Bool.not_eq_true', Bool.not_eq_false', Bool.not_eq_true, Bool.not_eq_false] at h) <;> (try simp only [go_sem, Nat.reduceEqDiff, Nat.reduceAdd, Nat.reduceSub, Nat.reduceLeDiff, Nat.reduceLT, Nat.reduceMul, Nat.reduceBEq, Int.reduceEq, Int.reduceLT, Int.reduceLE, Int.reduceNeg, Int.reduceToNat, reduceCtorEq, ho, Try.results156, h, hop2])) | (refine GCall.fr ?_ (rall_fn l 3 (by decide) hl') (.inl rfl) ?_; (focus (first | rfl | ((simp only [go_sem, Nat.reduceEqDiff, Nat.reduceAdd, Nat.reduceSub, Nat.reduceLeDiff, Nat.reduceLT, Nat.reduceMul, Nat.reduceBEq, Int.reduceEq, Int.reduceLT, Int.reduceLE, Int.reduceNeg, Int.reduceToNat, reduceCtorEq, ho, Try.results156, hop2]); done) | ((simp only [go_sem, Nat.reduceEqDiff, Nat.reduceAdd, Nat.reduceSub, Nat.reduceLeDiff, Nat.reduceLT, Nat.reduceMul, Nat.reduceBEq, Int.reduceEq, Int.reduceLT, Int.reduceLE, Int.reduceNeg, Int.reduceToNat, reduceCtorEq, ho, Try.results156, hop2]); rfl))); (try simp only [go_sem, Nat.reduceEqDiff, Nat.reduceAdd, Nat.reduceSub, Nat.reduceLeDiff, Nat.reduceLT, Nat.reduceMul, Nat.reduceBEq, Int.reduceEq, Int.reduceLT, Int.reduceLE, Int.reduceNeg, Int.reduceToNat, reduceCtorEq, ho, Try.results156, hop2])) | (refine QCall.fr ?_ (rall_fn l 3 (by decide) hl') (.inl rfl) ?_; (focus (first | rfl | ((simp only [go_sem, Nat.reduceEqDiff, Nat.reduceAdd, Nat.reduceSub, Nat.reduceLeDiff, Nat.reduceLT, Nat.reduceMul, Nat.reduceBEq, Int.reduceEq, Int.reduceLT, Int.reduceLE, Int.reduceNeg, Int.reduceToNat, reduceCtorEq, ho, Try.results156, hop2]); done) | ((simp only [go_sem, Nat.reduceEqDiff, Nat.reduceAdd, Nat.reduceSub, Nat.reduceLeDiff, Nat.reduceLT, Nat.reduceMul, Nat.reduceBEq, Int.reduceEq, Int.reduceLT, Int.reduceLE, Int.reduceNeg, Int.reduceToNat, reduceCtorEq, ho, Try.results156, hop2]); rfl))); (try simp only [go_sem, Nat.reduceEqDiff, Nat.reduceAdd, Nat.reduceSub, Nat.reduceLeDiff, Nat.reduceLT, Nat.reduceMul, Nat.reduceBEq, Int.reduceEq, Int.reduceLT, Int.reduceLE, Int.reduceNeg, Int.reduceToNat, reduceCtorEq, ho, Try.results156, hop2])) | (refine GCall.fr ?_ (rall_fn l 2 (by decide) hl') (.inl rfl) ?_; (focus (first | rfl | ((simp only [go_sem, Nat.reduceEqDiff, Nat.reduceAdd, Nat.reduceSub, Nat.reduceLeDiff, Nat.reduceLT, Nat.reduceMul, Nat.reduceBEq, Int.reduceEq, Int.reduceLT, Int.reduceLE, Int.reduceNeg, Int.reduceToNat, reduceCtorEq, ho, Try.results156, hop2]); done) | ((simp only [go_sem, Nat.reduceEqDiff, Nat.reduceAdd, Nat.reduceSub, Nat.reduceLeDiff, Nat.reduceLT, Nat.reduceMul, Nat.reduceBEq, Int.reduceEq, Int.reduceLT, Int.reduceLE, Int.reduceNeg, Int.reduceToNat, reduceCtorEq, ho, Try.results156, hop2]); rfl))); (try simp only [go_sem, Nat.reduceEqDiff, Nat.reduceAdd, Nat.reduceSub, Nat.reduceLeDiff, Nat.reduceLT, Nat.reduceMul, Nat.reduceBEq, Int.reduceEq, Int.reduceLT, Int.reduceLE, Int.reduceNeg, Int.reduceToNat, reduceCtorEq, ho, Try.results156, hop2])) | (refine QCall.fr ?_ (rall_fn l 2 (by decide) hl') (.inl rfl) ?_; (focus (first | rfl | ((simp only [go_sem, Nat.reduceEqDiff, Nat.reduceAdd, Nat.reduceSub, Nat.reduceLeDiff, Nat.reduceLT, Nat.reduceMul, Nat.reduceBEq, Int.reduceEq, Int.reduceLT, Int.reduceLE, Int.reduceNeg, Int.reduceToNat, reduceCtorEq, ho, Try.results156, hop2]); done) | ((simp only [go_sem, Nat.reduceEqDiff, Nat.reduceAdd, Nat.reduceSub, Nat.reduceLeDiff, Nat.reduceLT, Nat.reduceMul, Nat.reduceBEq, Int.reduceEq, Int.reduceLT, Int.reduceLE, Int.reduceNeg, Int.reduceToNat, reduceCtorEq, ho, Try.results156, hop2]); rfl))); (try simp only [go_sem, Nat.reduceEqDiff, Nat.reduceAdd, Nat.reduceSub, Nat.reduceLeDiff, Nat.reduceLT, Nat.reduceMul, Nat.reduceBEq, Int.reduceEq, Int.reduceLT, Int.reduceLE, Int.reduceNeg, Int.reduceToNat, reduceCtorEq, ho, Try.results156, hop2])) | (refine GCall.fr ?_ (rall_fn l 1 (by decide) hl') (.inl rfl) ?_; (focus (first | rfl | ((simp only [go_sem, Nat.reduceEqDiff, Nat.reduceAdd, Nat.reduceSub, Nat.reduceLeDiff, Nat.reduceLT, Nat.reduceMul, Nat.reduceBEq, Int.reduceEq, Int.reduceLT, Int.reduceLE, Int.reduceNeg, Int.reduceToNat, reduceCtorEq, ho, Try.results156, hop2]); done) | ((simp only [go_sem, Nat.reduceEqDiff, Nat.reduceAdd, Nat.reduceSub, Nat.reduceLeDiff, Nat.reduceLT, Nat.reduceMul, Nat.reduceBEq, Int.reduceEq, Int.reduceLT, Int.reduceLE, Int.reduceNeg, Int.reduceToNat, reduceCtorEq, ho, Try.results156, hop2]); rfl))); (try simp only [go_sem, Nat.reduceEqDiff, Nat.reduceAdd, Nat.reduceSub, Nat.reduceLeDiff, Nat.reduceLT, Nat.reduceMul, Nat.reduceBEq, Int.reduceEq, Int.reduceLT, Int.reduceLE, Int.reduceNeg, Int.reduceToNat, reduceCtorEq, ho, Try.results156, hop2])) | (refine QCall.fr ?_ (rall_fn l 1 (by decide) hl') (.inl rfl) ?_; (focus (first | rfl | ((simp only [go_sem, Nat.reduceEqDiff, Nat.reduceAdd, Nat.reduceSub, Nat.reduceLeDiff, Nat.reduceLT, Nat.reduceMul, Nat.reduceBEq, Int.reduceEq, Int.reduceLT, Int.reduceLE, Int.reduceNeg, Int.reduceToNat, reduceCtorEq, ho, Try.results156, hop2]); done) | ((simp only [go_sem, Nat.reduceEqDiff, Nat.reduceAdd, Nat.reduceSub, Nat.reduceLeDiff, Nat.reduceLT, Nat.reduceMul, Nat.reduceBEq, Int.reduceEq, Int.reduceLT, Int.reduceLE, Int.reduceNeg, Int.reduceToNat, reduceCtorEq, ho, Try.results156, hop2]); rfl))); (try simp only [go_sem, Nat.reduceEqDiff, Nat.reduceAdd, Nat.reduceSub, Nat.reduceLeDiff, Nat.reduceLT, Nat.reduceMul, Nat.reduceBEq, Int.reduceEq, Int.reduceLT, Int.reduceLE, Int.reduceNeg, Int.reduceToNat, reduceCtorEq, ho, Try.results156, hop2])) | (refine GCall.fr ?_ (join_fn l hl') (.inl rfl) ?_; (focus (first | rfl | ((simp only [go_sem, Nat.reduceEqDiff, Nat.reduceAdd, Nat.reduceSub, Nat.reduceLeDiff, Nat.reduceLT, Nat.reduceMul, Nat.reduceBEq, Int.reduceEq, Int.reduceLT, Int.reduceLE, Int.reduceNeg, Int.reduceToNat, reduceCtorEq, ho, Try.results156, hop2]); done) | ((simp only [go_sem, Nat.reduceEqDiff, Nat.reduceAdd, Nat.reduceSub, Nat.reduceLeDiff, Nat.reduceLT, Nat.reduceMul, Nat.reduceBEq, Int.reduceEq, Int.reduceLT, Int.reduceLE, Int.reduceNeg, Int.reduceToNat, reduceCtorEq, ho, Try.results156, hop2]); rfl))); (try simp only [go_sem, Nat.reduceEqDiff, Nat.reduceAdd, Nat.reduceSub, Nat.reduceLeDiff, Nat.reduceLT, Nat.reduceMul, Nat.reduceBEq, Int.reduceEq, Int.reduceLT, Int.reduceLE, Int.reduceNeg, Int.reduceToNat, reduceCtorEq, ho, Try.results156, hop2])) | (refine QCall.fr ?_ (join_fn l hl') (.inl rfl) ?_; (focus (first | rfl | ((simp only [go_sem, Nat.reduceEqDiff, Nat.reduceAdd, Nat.reduceSub, Nat.reduceLeDiff, Nat.reduceLT, Nat.reduceMul, Nat.reduceBEq, Int.reduceEq, Int.reduceLT, Int.reduceLE, Int.reduceNeg, Int.reduceToNat, reduceCtorEq, ho, Try.results156, hop2]); done) | ((simp only [go_sem, Nat.reduceEqDiff, Nat.reduceAdd, Nat.reduceSub, Nat.reduceLeDiff, Nat.reduceLT, Nat.reduceMul, Nat.reduceBEq, Int.reduceEq, Int.reduceLT, Int.reduceLE, Int.reduceNeg, Int.reduceToNat, reduceCtorEq, ho, Try.results156, hop2]); rfl))); (try simp only [go_sem, Nat.reduceEqDiff, Nat.reduceAdd, Nat.reduceSub, Nat.reduceLeDiff, Nat.reduceLT, Nat.reduceMul, Nat.reduceBEq, Int.reduceEq, Int.reduceLT, Int.reduceLE, Int.reduceNeg, Int.reduceToNat, reduceCtorEq, ho, Try.results156, hop2])))
  all_goals (first | exact ⟨rfl, rfl⟩ | skip)
  · have h2 : 1 ≤ l.length := h1 h
    clear hlast
    simp only [go_sem, Nat.reduceEqDiff, Nat.reduceAdd, Nat.reduceSub, Nat.reduceLeDiff, Nat.reduceLT, Nat.reduceMul, Nat.reduceBEq, Int.reduceEq, Int.reduceLT, Int.reduceLE, Int.reduceNeg, Int.reduceToNat, reduceCtorEq, ho, Try.results156, h2, eq_true (ints_len' (l := l)), List.take_length, ← List.map_drop, ← List.map_take, Nat.le_refl, true_and]
    refine GCall.fr ?_ (join_fn (l.drop 1) (by simp; omega)) (.inl rfl) ?_; (focus (first | rfl | ((simp only [go_sem, Nat.reduceEqDiff, Nat.reduceAdd, Nat.reduceSub, Nat.reduceLeDiff, Nat.reduceLT, Nat.reduceMul, Nat.reduceBEq, Int.reduceEq, Int.reduceLT, Int.reduceLE, Int.reduceNeg, Int.reduceToNat, reduceCtorEq, ho, Try.results156]); done) | ((simp only [go_sem, Nat.reduceEqDiff, Nat.reduceAdd, Nat.reduceSub, Nat.reduceLeDiff, Nat.reduceLT, Nat.reduceMul, Nat.reduceBEq, Int.reduceEq, Int.reduceLT, Int.reduceLE, Int.reduceNeg, Int.reduceToNat, reduceCtorEq, ho, Try.results156]); rfl)))
    simp only [go_sem, Nat.reduceEqDiff, Nat.reduceAdd, Nat.reduceSub, Nat.reduceLeDiff, Nat.reduceLT, Nat.reduceMul, Nat.reduceBEq, Int.reduceEq, Int.reduceLT, Int.reduceLE, Int.reduceNeg, Int.reduceToNat, reduceCtorEq, ho, Try.results156]
    repeat' (first | (refine AIf_cases (fun h => ?_) (fun h => ?_) <;> (try simp only [decide_eq_true_eq, decide_eq_false_iff_not, Bool.not_eq_true', Bool.not_eq_false', Bool.not_eq_true, Bool.not_eq_false] at h) <;> (try simp only [go_sem, Nat.reduceEqDiff, Nat.reduceAdd, Nat.reduceSub, Nat.reduceLeDiff, Nat.reduceLT, Nat.reduceMul, Nat.reduceBEq, Int.reduceEq, Int.reduceLT, Int.reduceLE, Int.reduceNeg, Int.reduceToNat, reduceCtorEq, ho, Try.results156, h, h2, eq_true (ints_len' (l := l)), List.take_length, ← List.map_drop, ← List.map_take, Nat.le_refl, true_and])) | (refine GCall.fr ?_ (rall_fn (l.take 1) 3 (by decide) (by simp; omega)) (.inl rfl) ?_; (focus (first | rfl | ((simp only [go_sem, Nat.reduceEqDiff, Nat.reduceAdd, Nat.reduceSub, Nat.reduceLeDiff, Nat.reduceLT, Nat.reduceMul, Nat.reduceBEq, Int.reduceEq, Int.reduceLT, Int.reduceLE, Int.reduceNeg, Int.reduceToNat, reduceCtorEq, ho, Try.results156, h2, eq_true (ints_len' (l := l)), List.take_length, ← List.map_drop, ← List.map_take, Nat.le_refl, true_and]); done) | ((simp only [go_sem, Nat.reduceEqDiff, Nat.reduceAdd, Nat.reduceSub, Nat.reduceLeDiff, Nat.reduceLT, Nat.reduceMul, Nat.reduceBEq, Int.reduceEq, Int.reduceLT, Int.reduceLE, Int.reduceNeg, Int.reduceToNat, reduceCtorEq, ho, Try.results156, h2, eq_true (ints_len' (l := l)), List.take_length, ← List.map_drop, ← List.map_take, Nat.le_refl, true_and]); rfl))); (try simp only [go_sem, Nat.reduceEqDiff, Nat.reduceAdd, Nat.reduceSub, Nat.reduceLeDiff, Nat.reduceLT, Nat.reduceMul, Nat.reduceBEq, Int.reduceEq, Int.reduceLT, Int.reduceLE, Int.reduceNeg, Int.reduceToNat, reduceCtorEq, ho, Try.results156, h2, eq_true (ints_len' (l := l)), List.take_length, ← List.map_drop, ← List.map_take, Nat.le_refl, true_and])) | (refine QCall.fr ?_ (rall_fn (l.take 1) 3 (by decide) (by simp; omega)) (.inl rfl) ?_; (focus (first | rfl | ((simp only [go_sem, Nat.reduceEqDiff, Nat.reduceAdd, Nat.reduceSub, Nat.reduceLeDiff, Nat.reduceLT, Nat.reduceMul, Nat.reduceBEq, Int.reduceEq, Int.reduceLT, Int.reduceLE, Int.reduceNeg, Int.reduceToNat, reduceCtorEq, ho, Try.results156, h2, eq_true (ints_len' (l := l)), List.take_length, ← List.map_drop, ← List.map_take, Nat.le_refl, true_and]); done) | ((simp only [go_sem, Nat.reduceEqDiff, Nat.reduceAdd, Nat.reduceSub, Nat.reduceLeDiff, Nat.reduceLT, Nat.reduceMul, Nat.reduceBEq, Int.reduceEq, Int.reduceLT, Int.reduceLE, Int.reduceNeg, Int.reduceToNat, reduceCtorEq, ho, Try.results156, h2, eq_true (ints_len' (l := l)), List.take_length, ← List.map_drop, ← List.map_take, Nat.le_refl, true_and]); rfl))); (try simp only [go_sem, Nat.reduceEqDiff, Nat.reduceAdd, Nat.reduceSub, Nat.reduceLeDiff, Nat.reduceLT, Nat.reduceMul, Nat.reduceBEq, Int.reduceEq, Int.reduceLT, Int.reduceLE, Int.reduceNeg, Int.reduceToNat, reduceCtorEq, ho, Try.results156, h2, eq_true (ints_len' (l := l)), List.take_length, ← List.map_drop, ← List.map_take, Nat.le_refl, true_and])))
    all_goals simp_all [resultK]
  · have h24 : op = 24 := by apply hlast <;> assumption
    subst h24
    exact ⟨rfl, rfl⟩
end Go.Proofs.Ytiefnninebilbaa
