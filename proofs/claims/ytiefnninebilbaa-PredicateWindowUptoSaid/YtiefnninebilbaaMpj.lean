/- What the reference's check returns: the depth; no condition. -/
import Derived.Test.YtiefnninebilbaaMpi
import Derived.Test.YtiefnninebilbaaMpe
import Derived.Test.YtiefnninebilbaaRows
import Derived.ChangeArms
import Derived.DataReads
import Derived.WideShapes
set_option maxRecDepth 100000
set_option linter.unusedVariables false
set_option linter.unusedSimpArgs false
namespace Go.Proofs.Ytiefnninebilbaa
open Go Go.Sx

theorem ok92 : okCode M0 Try.f92.ntmps (Try.f92.body.getD .skip) = true := by decide +kernel
theorem rdepth_fn : ∀ (n : Nat) (e : Ex), e.size ≤ n → n ≤ 1000000000 → Fc 92 [e.enc] (.int .i64 e.depth)
  | 0, e, h, _ => by have := e.size_pos; omega
  | n + 1, e, h, hn => by
    refine fn_of_awp (E := E0) (M := M0) follows Try.func92 rfl (by decide) ok92 (by decide) (by simp) fun o ho => ?_
    simp only [go_sem, Nat.reduceEqDiff, Nat.reduceAdd, Nat.reduceSub, Nat.reduceLeDiff, Nat.reduceLT, Nat.reduceMul, Nat.reduceBEq, Int.reduceEq, Int.reduceLT, Int.reduceLE, Int.reduceNeg, Int.reduceToNat, reduceCtorEq, ho, Try.results92, e.enc_eq]
    refine ⟨fun n st => ∃ (done rest : List Ex), e.args = done ++ rest ∧ n = rest.length ∧ st.s 4 = .int .i64 done.length ∧ st.s 3 = .int .i64 (Ex.depths done) ∧ st.s 1 = .ptr 1 1 0 ∧ getBox st.o 1 1 = some (49, e.enc.cells), e.args.length,
      ⟨[], e.args, rfl, rfl, by simp only [go_sem, Nat.reduceEqDiff, Nat.reduceAdd, Nat.reduceSub, Nat.reduceLeDiff, Nat.reduceLT, Nat.reduceMul, Nat.reduceBEq, Int.reduceEq, Int.reduceLT, Int.reduceLE, Int.reduceNeg, Int.reduceToNat, reduceCtorEq, ho, Try.results92]; rfl, by simp only [go_sem, Nat.reduceEqDiff, Nat.reduceAdd, Nat.reduceSub, Nat.reduceLeDiff, Nat.reduceLT, Nat.reduceMul, Nat.reduceBEq, Int.reduceEq, Int.reduceLT, Int.reduceLE, Int.reduceNeg, Int.reduceToNat, reduceCtorEq, ho, Try.results92, Ex.depths]; rfl, by simp only [go_sem, Nat.reduceEqDiff, Nat.reduceAdd, Nat.reduceSub, Nat.reduceLeDiff, Nat.reduceLT, Nat.reduceMul, Nat.reduceBEq, Int.reduceEq, Int.reduceLT, Int.reduceLE, Int.reduceNeg, Int.reduceToNat, reduceCtorEq, ho, Try.results92], by simp only [go_sem, Nat.reduceEqDiff, Nat.reduceAdd, Nat.reduceSub, Nat.reduceLeDiff, Nat.reduceLT, Nat.reduceMul, Nat.reduceBEq, Int.reduceEq, Int.reduceLT, Int.reduceLE, Int.reduceNeg, Int.reduceToNat, reduceCtorEq, ho, Try.results92]⟩, ?_⟩
    rintro m st ⟨done, rest, hl, rfl, h4, h3, hs1, hb⟩
    have hsz := e.size_eq
    have hde := e.depth_eq
    rw [hl, Ex.sizes_app] at hsz
    have hdl := Ex.len_sizes done
    have hdd := Ex.depths_le done
    cases rest with
    | nil =>
      have hlt : ¬ (done.length : Int) < (e.args.length : Int) := by simp [hl]
      have hw : IntKind.i64.wrap ((Ex.depths done : Int) + 1) = (Ex.depths done : Int) + 1 := wrap_fits (by omega) (by omega)
      simp only [go_sem, Nat.reduceEqDiff, Nat.reduceAdd, Nat.reduceSub, Nat.reduceLeDiff, Nat.reduceLT, Nat.reduceMul, Nat.reduceBEq, Int.reduceEq, Int.reduceLT, Int.reduceLE, Int.reduceNeg, Int.reduceToNat, reduceCtorEq, ho, Try.results92, h4, h3, hs1, hb, hlt, hw]
      simp at hl
      rw [hde, hl]
      simp
    | cons x rest =>
      have hlt : (done.length : Int) < (e.args.length : Int) := by simp [hl]; omega
      have hget : (e.args.map Ex.enc)[done.length]? = some x.enc := by simp [hl]
      have hxs : x.size ≤ n := by simp [Ex.sizes] at hsz; omega
      have hw : IntKind.i64.wrap ((done.length : Int) + 1) = (done.length : Int) + 1 := wrap_fits (by omega) (by omega)
      simp only [go_sem, Nat.reduceEqDiff, Nat.reduceAdd, Nat.reduceSub, Nat.reduceLeDiff, Nat.reduceLT, Nat.reduceMul, Nat.reduceBEq, Int.reduceEq, Int.reduceLT, Int.reduceLE, Int.reduceNeg, Int.reduceToNat, reduceCtorEq, ho, Try.results92, h4, h3, hs1, hb, hlt, hget, Int.natCast_nonneg, Int.toNat_natCast]
      refine GCall.fr ?_ (rdepth_fn n x hxs (by omega)) (.inl rfl) ?_; (focus (first | rfl | ((simp only [go_sem, Nat.reduceEqDiff, Nat.reduceAdd, Nat.reduceSub, Nat.reduceLeDiff, Nat.reduceLT, Nat.reduceMul, Nat.reduceBEq, Int.reduceEq, Int.reduceLT, Int.reduceLE, Int.reduceNeg, Int.reduceToNat, reduceCtorEq, ho, Try.results92, x.enc_eq]); done) | ((simp only [go_sem, Nat.reduceEqDiff, Nat.reduceAdd, Nat.reduceSub, Nat.reduceLeDiff, Nat.reduceLT, Nat.reduceMul, Nat.reduceBEq, Int.reduceEq, Int.reduceLT, Int.reduceLE, Int.reduceNeg, Int.reduceToNat, reduceCtorEq, ho, Try.results92, x.enc_eq]); rfl)))
      simp only [go_sem, Nat.reduceEqDiff, Nat.reduceAdd, Nat.reduceSub, Nat.reduceLeDiff, Nat.reduceLT, Nat.reduceMul, Nat.reduceBEq, Int.reduceEq, Int.reduceLT, Int.reduceLE, Int.reduceNeg, Int.reduceToNat, reduceCtorEq, ho, Try.results92, h4, h3, hs1, hb, hw]
      refine ⟨rest.length, by omega, done ++ [x], rest, by simp [hl], rfl, by simp, ?_⟩
      rw [Ex.depths_app]
      simp only [Ex.depths]
      congr 1
      split <;> omega
end Go.Proofs.Ytiefnninebilbaa
/- What the reference's check returns; no condition. -/
set_option maxRecDepth 100000
set_option linter.unusedVariables false
set_option linter.unusedSimpArgs false
namespace Go.Proofs.Ytiefnninebilbaa
open Go Go.Sx

theorem formed_args {e : Ex} (hf : e.formed = true) (h2 : e.op = 2) : e.args = [] := by
  have := formed_len hf
  rw [h2] at this
  exact List.eq_nil_of_length_eq_zero (by simpa [fitsN] using this)
theorem arity_known (op : Int) : decide ((arity op).1 < 0) = !known op := by
  by_cases h : 1 ≤ op ∧ op ≤ 24
  · have : op = 1 ∨ op = 2 ∨ op = 3 ∨ op = 4 ∨ op = 5 ∨ op = 6 ∨ op = 7 ∨ op = 8 ∨ op = 9 ∨ op = 10 ∨ op = 11 ∨ op = 12 ∨ op = 13 ∨ op = 14 ∨ op = 15 ∨ op = 16 ∨ op = 17 ∨ op = 18 ∨ op = 19 ∨ op = 20 ∨ op = 21 ∨ op = 22 ∨ op = 23 ∨ op = 24 := by omega
    rcases this with h | h | h | h | h | h | h | h | h | h | h | h | h | h | h | h | h | h | h | h | h | h | h | h <;> subst h <;> rfl
  · have e1 : known op = false := by simp [known]; omega
    have e2 : arity op = (-1, 0) := by
      unfold arity
      repeat rw [if_neg (by omega)]
    rw [e1, e2]
    rfl
theorem ok93 : okCode M0 Try.f93.ntmps (Try.f93.body.getD .skip) = true := by decide +kernel
theorem rcheck_fn (kinds : List Int) : ∀ (n : Nat) (e : Ex), e.size ≤ n → n ≤ 100000000 → Fc 93 [e.enc, .sl (kinds.map (.int .i64))] (.tup [.int .i64 (e.check kinds).1, .int .i64 (e.check kinds).2])
  | 0, e, h, _ => by have := e.size_pos; omega
  | n + 1, e, h, hn => by
    have hak := arity_known e.op
    have hchk := Ex.check_eq kinds e
    refine fn_of_awp (E := E0) (M := M0) follows Try.func93 rfl (by decide) ok93 (by decide) (by simp) fun o ho => ?_
    simp only [go_sem, Nat.reduceEqDiff, Nat.reduceAdd, Nat.reduceSub, Nat.reduceLeDiff, Nat.reduceLT, Nat.reduceMul, Nat.reduceBEq, Int.reduceEq, Int.reduceLT, Int.reduceLE, Int.reduceNeg, Int.reduceToNat, reduceCtorEq, ho, Try.results93, e.enc_eq]
    refine GCall.fr ?_ (arity_fn e.op) (.inl rfl) ?_; (focus (first | rfl | ((simp only [go_sem, Nat.reduceEqDiff, Nat.reduceAdd, Nat.reduceSub, Nat.reduceLeDiff, Nat.reduceLT, Nat.reduceMul, Nat.reduceBEq, Int.reduceEq, Int.reduceLT, Int.reduceLE, Int.reduceNeg, Int.reduceToNat, reduceCtorEq, ho, Try.results93]); done) | ((simp only [go_sem, Nat.reduceEqDiff, Nat.reduceAdd, Nat.reduceSub, Nat.reduceLeDiff, Nat.reduceLT, Nat.reduceMul, Nat.reduceBEq, Int.reduceEq, Int.reduceLT, Int.reduceLE, Int.reduceNeg, Int.reduceToNat, reduceCtorEq, ho, Try.results93]); rfl)))
    simp only [go_sem, Nat.reduceEqDiff, Nat.reduceAdd, Nat.reduceSub, Nat.reduceLeDiff, Nat.reduceLT, Nat.reduceMul, Nat.reduceBEq, Int.reduceEq, Int.reduceLT, Int.reduceLE, Int.reduceNeg, Int.reduceToNat, reduceCtorEq, ho, Try.results93]
    cases hk : known e.op with
    | false =>
      rw [hk] at hak
      rw [if_pos hk] at hchk
      simp only [go_sem, Nat.reduceEqDiff, Nat.reduceAdd, Nat.reduceSub, Nat.reduceLeDiff, Nat.reduceLT, Nat.reduceMul, Nat.reduceBEq, Int.reduceEq, Int.reduceLT, Int.reduceLE, Int.reduceNeg, Int.reduceToNat, reduceCtorEq, ho, Try.results93, hak, Bool.not_false, hchk]
    | true =>
    rw [hk] at hak
    rw [if_neg (by simp [hk])] at hchk
    simp only [go_sem, Nat.reduceEqDiff, Nat.reduceAdd, Nat.reduceSub, Nat.reduceLeDiff, Nat.reduceLT, Nat.reduceMul, Nat.reduceBEq, Int.reduceEq, Int.reduceLT, Int.reduceLE, Int.reduceNeg, Int.reduceToNat, reduceCtorEq, ho, Try.results93, hak, Bool.not_true]
    refine GCall.fr ?_ (rformed_fn e (by omega)) (.inl rfl) ?_; (focus (first | rfl | ((simp only [go_sem, Nat.reduceEqDiff, Nat.reduceAdd, Nat.reduceSub, Nat.reduceLeDiff, Nat.reduceLT, Nat.reduceMul, Nat.reduceBEq, Int.reduceEq, Int.reduceLT, Int.reduceLE, Int.reduceNeg, Int.reduceToNat, reduceCtorEq, ho, Try.results93, e.enc_eq]); done) | ((simp only [go_sem, Nat.reduceEqDiff, Nat.reduceAdd, Nat.reduceSub, Nat.reduceLeDiff, Nat.reduceLT, Nat.reduceMul, Nat.reduceBEq, Int.reduceEq, Int.reduceLT, Int.reduceLE, Int.reduceNeg, Int.reduceToNat, reduceCtorEq, ho, Try.results93, e.enc_eq]); rfl)))
    simp only [go_sem, Nat.reduceEqDiff, Nat.reduceAdd, Nat.reduceSub, Nat.reduceLeDiff, Nat.reduceLT, Nat.reduceMul, Nat.reduceBEq, Int.reduceEq, Int.reduceLT, Int.reduceLE, Int.reduceNeg, Int.reduceToNat, reduceCtorEq, ho, Try.results93]
    cases hf : e.formed with
    | false =>
      rw [if_pos hf] at hchk
      simp only [go_sem, Nat.reduceEqDiff, Nat.reduceAdd, Nat.reduceSub, Nat.reduceLeDiff, Nat.reduceLT, Nat.reduceMul, Nat.reduceBEq, Int.reduceEq, Int.reduceLT, Int.reduceLE, Int.reduceNeg, Int.reduceToNat, reduceCtorEq, ho, Try.results93, hf, hchk]
    | true =>
    rw [if_neg (by simp [hf])] at hchk
    simp only [go_sem, Nat.reduceEqDiff, Nat.reduceAdd, Nat.reduceSub, Nat.reduceLeDiff, Nat.reduceLT, Nat.reduceMul, Nat.reduceBEq, Int.reduceEq, Int.reduceLT, Int.reduceLE, Int.reduceNeg, Int.reduceToNat, reduceCtorEq, ho, Try.results93, hf]
    have hl100 : e.args.length ≤ 100000000 := by have := Ex.len_sizes e.args; have := e.size_eq; omega
    by_cases h2 : e.op = 2
    · rw [if_pos h2] at hchk
      by_cases hi : e.int < 0
      · rw [if_pos (.inl hi)] at hchk
        simp only [go_sem, Nat.reduceEqDiff, Nat.reduceAdd, Nat.reduceSub, Nat.reduceLeDiff, Nat.reduceLT, Nat.reduceMul, Nat.reduceBEq, Int.reduceEq, Int.reduceLT, Int.reduceLE, Int.reduceNeg, Int.reduceToNat, reduceCtorEq, ho, Try.results93, h2, hi, hchk]
      by_cases hi2 : (kinds.length : Int) ≤ e.int
      · rw [if_pos (.inr hi2)] at hchk
        simp only [go_sem, Nat.reduceEqDiff, Nat.reduceAdd, Nat.reduceSub, Nat.reduceLeDiff, Nat.reduceLT, Nat.reduceMul, Nat.reduceBEq, Int.reduceEq, Int.reduceLT, Int.reduceLE, Int.reduceNeg, Int.reduceToNat, reduceCtorEq, ho, Try.results93, h2, hi, hi2, List.length_map, hchk]
      rw [if_neg (by omega)] at hchk
      have hcol2 : e.op = 2 → 0 ≤ e.int ∧ e.int < kinds.length := fun _ => by omega
      have hfin : e.check kinds = (if (Ex.checks kinds e.args []).1 ≠ 0 then (0, (Ex.checks kinds e.args []).1) else if (rresultK e (Ex.checks kinds e.args []).2 kinds).2 then ((rresultK e (Ex.checks kinds e.args []).2 kinds).1, 0) else (0, 7)) := by
        rw [hchk, formed_args hf h2]
        simp [h2, Ex.checks, rresultK]
      simp only [go_sem, Nat.reduceEqDiff, Nat.reduceAdd, Nat.reduceSub, Nat.reduceLeDiff, Nat.reduceLT, Nat.reduceMul, Nat.reduceBEq, Int.reduceEq, Int.reduceLT, Int.reduceLE, Int.reduceNeg, Int.reduceToNat, reduceCtorEq, ho, Try.results93, h2, hi, hi2, List.length_map]
      refine ⟨fun m st => ∃ (done rest : List Ex) (acc : List Int), e.args = done ++ rest ∧ m = rest.length ∧ acc.length = done.length ∧ Ex.checks kinds rest acc = Ex.checks kinds e.args [] ∧ st.s 9 = .int .i64 done.length ∧ st.s 1 = .sl (kinds.map (.int .i64)) ∧ st.s 2 = .ptr 2 1 0 ∧ getBox st.o 2 1 = some (49, e.enc.cells) ∧ ((acc = [] ∧ st.s 8 = .nil) ∨ (acc ≠ [] ∧ ∃ v, st.s 8 = .ref 64 v ∧ st.o 64 = (v, some (true, .row 3 (acc.map (.int .i64)))))),
        e.args.length, ⟨[], e.args, [], rfl, rfl, rfl, rfl, by simp only [go_sem, Nat.reduceEqDiff, Nat.reduceAdd, Nat.reduceSub, Nat.reduceLeDiff, Nat.reduceLT, Nat.reduceMul, Nat.reduceBEq, Int.reduceEq, Int.reduceLT, Int.reduceLE, Int.reduceNeg, Int.reduceToNat, reduceCtorEq, ho, Try.results93]; rfl, by simp only [go_sem, Nat.reduceEqDiff, Nat.reduceAdd, Nat.reduceSub, Nat.reduceLeDiff, Nat.reduceLT, Nat.reduceMul, Nat.reduceBEq, Int.reduceEq, Int.reduceLT, Int.reduceLE, Int.reduceNeg, Int.reduceToNat, reduceCtorEq, ho, Try.results93], by simp only [go_sem, Nat.reduceEqDiff, Nat.reduceAdd, Nat.reduceSub, Nat.reduceLeDiff, Nat.reduceLT, Nat.reduceMul, Nat.reduceBEq, Int.reduceEq, Int.reduceLT, Int.reduceLE, Int.reduceNeg, Int.reduceToNat, reduceCtorEq, ho, Try.results93], by (first | (simp only [go_sem, Nat.reduceEqDiff, Nat.reduceAdd, Nat.reduceSub, Nat.reduceLeDiff, Nat.reduceLT, Nat.reduceMul, Nat.reduceBEq, Int.reduceEq, Int.reduceLT, Int.reduceLE, Int.reduceNeg, Int.reduceToNat, reduceCtorEq, ho, Try.results93, h2]; done) | simp only [go_sem, Nat.reduceEqDiff, Nat.reduceAdd, Nat.reduceSub, Nat.reduceLeDiff, Nat.reduceLT, Nat.reduceMul, Nat.reduceBEq, Int.reduceEq, Int.reduceLT, Int.reduceLE, Int.reduceNeg, Int.reduceToNat, reduceCtorEq, ho, Try.results93]), .inl ⟨rfl, by simp only [go_sem, Nat.reduceEqDiff, Nat.reduceAdd, Nat.reduceSub, Nat.reduceLeDiff, Nat.reduceLT, Nat.reduceMul, Nat.reduceBEq, Int.reduceEq, Int.reduceLT, Int.reduceLE, Int.reduceNeg, Int.reduceToNat, reduceCtorEq, ho, Try.results93]⟩⟩, ?_⟩
      rintro m st ⟨done, rest, acc, hl, rfl, hal, hck, h9, hs1, hs2, hb, h8⟩
      have hsz := e.size_eq
      rw [hl, Ex.sizes_app] at hsz
      have hdl := Ex.len_sizes done
      have hw : IntKind.i64.wrap ((done.length : Int) + 1) = (done.length : Int) + 1 := wrap_fits (by omega) (by omega)
      cases rest with
      | nil =>
        have hlt : ¬ (done.length : Int) < (e.args.length : Int) := by simp [hl]
        have hck' : Ex.checks kinds e.args [] = (0, acc) := by rw [← hck]; rfl
        have h22 : e.op = 22 → 1 ≤ acc.length := fun h => by
          have := formed_len hf
          rw [h] at this
          simp [fitsN] at this
          rw [hal]
          simp at hl
          rw [← hl]
          omega
        have hal' : acc.length ≤ 100000000 := by omega
        rw [hck'] at hfin
        simp only [ne_eq, not_true, if_false] at hfin
        rcases h8 with ⟨rfl, h8⟩ | ⟨hne, v, h8, h64⟩
        · simp only [go_sem, Nat.reduceEqDiff, Nat.reduceAdd, Nat.reduceSub, Nat.reduceLeDiff, Nat.reduceLT, Nat.reduceMul, Nat.reduceBEq, Int.reduceEq, Int.reduceLT, Int.reduceLE, Int.reduceNeg, Int.reduceToNat, reduceCtorEq, ho, Try.results93, h9, hlt, hs1, hs2, hb, h8]
          refine GCall.fr ?_ (rresult_fn e [] kinds (by simp) hk h22 hcol2) (.inl rfl) ?_; (focus (first | rfl | ((simp only [go_sem, Nat.reduceEqDiff, Nat.reduceAdd, Nat.reduceSub, Nat.reduceLeDiff, Nat.reduceLT, Nat.reduceMul, Nat.reduceBEq, Int.reduceEq, Int.reduceLT, Int.reduceLE, Int.reduceNeg, Int.reduceToNat, reduceCtorEq, ho, Try.results93, e.enc_eq]); done) | ((simp only [go_sem, Nat.reduceEqDiff, Nat.reduceAdd, Nat.reduceSub, Nat.reduceLeDiff, Nat.reduceLT, Nat.reduceMul, Nat.reduceBEq, Int.reduceEq, Int.reduceLT, Int.reduceLE, Int.reduceNeg, Int.reduceToNat, reduceCtorEq, ho, Try.results93, e.enc_eq]); rfl)))
          simp only [go_sem, Nat.reduceEqDiff, Nat.reduceAdd, Nat.reduceSub, Nat.reduceLeDiff, Nat.reduceLT, Nat.reduceMul, Nat.reduceBEq, Int.reduceEq, Int.reduceLT, Int.reduceLE, Int.reduceNeg, Int.reduceToNat, reduceCtorEq, ho, Try.results93]
          rw [hfin]
          repeat' (first | (refine AIf_cases (fun h => ?_) (fun h => ?_) <;> (try simp only [decide_eq_true_eq, decide_eq_false_iff_not, Bool.not_eq_true', Bool.not_eq_false', Bool.not_eq_true, Bool.not_eq_false] at h) <;> (try simp only [go_sem, Nat.reduceEqDiff, Nat.reduceAdd, Nat.reduceSub, Nat.reduceLeDiff, Nat.reduceLT, Nat.reduceMul, Nat.reduceBEq, Int.reduceEq, Int.reduceLT, Int.reduceLE, Int.reduceNeg, Int.reduceToNat, reduceCtorEq, ho, Try.results93, h])))
          all_goals simp_all
        · have hrow : getRow st.o 64 v = some (3, acc.map (.int .i64)) := by simp [getRow, h64]
          simp only [go_sem, Nat.reduceEqDiff, Nat.reduceAdd, Nat.reduceSub, Nat.reduceLeDiff, Nat.reduceLT, Nat.reduceMul, Nat.reduceBEq, Int.reduceEq, Int.reduceLT, Int.reduceLE, Int.reduceNeg, Int.reduceToNat, reduceCtorEq, ho, Try.results93, h9, hlt, hs1, hs2, hb, h8]
          refine GCall.fr ?_ (rresult_fn e acc kinds hal' hk h22 hcol2) (.inl rfl) ?_; (focus (first | rfl | ((simp only [go_sem, Nat.reduceEqDiff, Nat.reduceAdd, Nat.reduceSub, Nat.reduceLeDiff, Nat.reduceLT, Nat.reduceMul, Nat.reduceBEq, Int.reduceEq, Int.reduceLT, Int.reduceLE, Int.reduceNeg, Int.reduceToNat, reduceCtorEq, ho, Try.results93, e.enc_eq, hrow]); done) | ((simp only [go_sem, Nat.reduceEqDiff, Nat.reduceAdd, Nat.reduceSub, Nat.reduceLeDiff, Nat.reduceLT, Nat.reduceMul, Nat.reduceBEq, Int.reduceEq, Int.reduceLT, Int.reduceLE, Int.reduceNeg, Int.reduceToNat, reduceCtorEq, ho, Try.results93, e.enc_eq, hrow]); rfl)))
          simp only [go_sem, Nat.reduceEqDiff, Nat.reduceAdd, Nat.reduceSub, Nat.reduceLeDiff, Nat.reduceLT, Nat.reduceMul, Nat.reduceBEq, Int.reduceEq, Int.reduceLT, Int.reduceLE, Int.reduceNeg, Int.reduceToNat, reduceCtorEq, ho, Try.results93]
          rw [hfin]
          repeat' (first | (refine AIf_cases (fun h => ?_) (fun h => ?_) <;> (try simp only [decide_eq_true_eq, decide_eq_false_iff_not, Bool.not_eq_true', Bool.not_eq_false', Bool.not_eq_true, Bool.not_eq_false] at h) <;> (try simp only [go_sem, Nat.reduceEqDiff, Nat.reduceAdd, Nat.reduceSub, Nat.reduceLeDiff, Nat.reduceLT, Nat.reduceMul, Nat.reduceBEq, Int.reduceEq, Int.reduceLT, Int.reduceLE, Int.reduceNeg, Int.reduceToNat, reduceCtorEq, ho, Try.results93, h])))
          all_goals simp_all
      | cons x rest =>
        have hlt : (done.length : Int) < (e.args.length : Int) := by simp [hl]; omega
        have hget : (e.args.map Ex.enc)[done.length]? = some x.enc := by simp [hl]
        have hxs : x.size ≤ n := by simp [Ex.sizes] at hsz; omega
        simp only [go_sem, Nat.reduceEqDiff, Nat.reduceAdd, Nat.reduceSub, Nat.reduceLeDiff, Nat.reduceLT, Nat.reduceMul, Nat.reduceBEq, Int.reduceEq, Int.reduceLT, Int.reduceLE, Int.reduceNeg, Int.reduceToNat, reduceCtorEq, ho, Try.results93, h9, hs1, hs2, hb, hlt, hget, Int.natCast_nonneg, Int.toNat_natCast]
        refine GCall.fr ?_ (rcheck_fn kinds n x hxs (by omega)) (.inl rfl) ?_; (focus (first | rfl | ((simp only [go_sem, Nat.reduceEqDiff, Nat.reduceAdd, Nat.reduceSub, Nat.reduceLeDiff, Nat.reduceLT, Nat.reduceMul, Nat.reduceBEq, Int.reduceEq, Int.reduceLT, Int.reduceLE, Int.reduceNeg, Int.reduceToNat, reduceCtorEq, ho, Try.results93, x.enc_eq, hs1]); done) | ((simp only [go_sem, Nat.reduceEqDiff, Nat.reduceAdd, Nat.reduceSub, Nat.reduceLeDiff, Nat.reduceLT, Nat.reduceMul, Nat.reduceBEq, Int.reduceEq, Int.reduceLT, Int.reduceLE, Int.reduceNeg, Int.reduceToNat, reduceCtorEq, ho, Try.results93, x.enc_eq, hs1]); rfl)))
        simp only [go_sem, Nat.reduceEqDiff, Nat.reduceAdd, Nat.reduceSub, Nat.reduceLeDiff, Nat.reduceLT, Nat.reduceMul, Nat.reduceBEq, Int.reduceEq, Int.reduceLT, Int.reduceLE, Int.reduceNeg, Int.reduceToNat, reduceCtorEq, ho, Try.results93, h9, hs1, hs2, hb]
        rw [Ex.checks] at hck
        by_cases hx : (x.check kinds).2 = 0
        · have hbig : (acc.length + 1) * 9 ≤ 140737488355328 := by omega
          rw [if_neg (by simp [hx])] at hck
          have hb' := hb
          rw [e.enc_cells] at hb'
          rcases h8 with ⟨rfl, h8⟩ | ⟨hne, v, h8, h64⟩
          · simp only [go_sem, Nat.reduceEqDiff, Nat.reduceAdd, Nat.reduceSub, Nat.reduceLeDiff, Nat.reduceLT, Nat.reduceMul, Nat.reduceBEq, Int.reduceEq, Int.reduceLT, Int.reduceLE, Int.reduceNeg, Int.reduceToNat, reduceCtorEq, ho, Try.results93, hx, h9, hs1, hs2, hb, h8, hw]
            exact ⟨rest.length, by omega, done ++ [x], rest, _, by simp [hl], rfl, by simp [← hal], hck, by simp, .inr ⟨by simp, _, rfl, rfl⟩⟩
          · have hrow : getRow st.o 64 v = some (3, acc.map (.int .i64)) := by simp [getRow, h64]
            simp only [go_sem, Nat.reduceEqDiff, Nat.reduceAdd, Nat.reduceSub, Nat.reduceLeDiff, Nat.reduceLT, Nat.reduceMul, Nat.reduceBEq, Int.reduceEq, Int.reduceLT, Int.reduceLE, Int.reduceNeg, Int.reduceToNat, reduceCtorEq, ho, Try.results93, hx, h9, hs1, hs2, hb, h8, hw, h64, hbig]
            exact ⟨rest.length, by omega, done ++ [x], rest, _, by simp [hl], rfl, by simp [← hal], hck, by simp, .inr ⟨by simp, _, rfl, by simp⟩⟩
        · rw [if_pos (by simpa using hx)] at hck
          rw [← hck] at hfin
          rw [if_pos (by simpa using hx)] at hfin
          simp only [go_sem, Nat.reduceEqDiff, Nat.reduceAdd, Nat.reduceSub, Nat.reduceLeDiff, Nat.reduceLT, Nat.reduceMul, Nat.reduceBEq, Int.reduceEq, Int.reduceLT, Int.reduceLE, Int.reduceNeg, Int.reduceToNat, reduceCtorEq, ho, Try.results93, hx, h9, hs1, hs2, hb]
          rw [hfin]
          simp
    · rw [if_neg h2] at hchk
      have hcol2 : e.op = 2 → 0 ≤ e.int ∧ e.int < kinds.length := fun h => absurd h h2
      have hfin : e.check kinds = (if (Ex.checks kinds e.args []).1 ≠ 0 then (0, (Ex.checks kinds e.args []).1) else if (rresultK e (Ex.checks kinds e.args []).2 kinds).2 then ((rresultK e (Ex.checks kinds e.args []).2 kinds).1, 0) else (0, 7)) := by
        rw [hchk]
        simp [h2, rresultK]
      simp only [go_sem, Nat.reduceEqDiff, Nat.reduceAdd, Nat.reduceSub, Nat.reduceLeDiff, Nat.reduceLT, Nat.reduceMul, Nat.reduceBEq, Int.reduceEq, Int.reduceLT, Int.reduceLE, Int.reduceNeg, Int.reduceToNat, reduceCtorEq, ho, Try.results93, h2, List.length_map]
      refine ⟨fun m st => ∃ (done rest : List Ex) (acc : List Int), e.args = done ++ rest ∧ m = rest.length ∧ acc.length = done.length ∧ Ex.checks kinds rest acc = Ex.checks kinds e.args [] ∧ st.s 9 = .int .i64 done.length ∧ st.s 1 = .sl (kinds.map (.int .i64)) ∧ st.s 2 = .ptr 2 1 0 ∧ getBox st.o 2 1 = some (49, e.enc.cells) ∧ ((acc = [] ∧ st.s 8 = .nil) ∨ (acc ≠ [] ∧ ∃ v, st.s 8 = .ref 64 v ∧ st.o 64 = (v, some (true, .row 3 (acc.map (.int .i64)))))),
        e.args.length, ⟨[], e.args, [], rfl, rfl, rfl, rfl, by simp only [go_sem, Nat.reduceEqDiff, Nat.reduceAdd, Nat.reduceSub, Nat.reduceLeDiff, Nat.reduceLT, Nat.reduceMul, Nat.reduceBEq, Int.reduceEq, Int.reduceLT, Int.reduceLE, Int.reduceNeg, Int.reduceToNat, reduceCtorEq, ho, Try.results93]; rfl, by simp only [go_sem, Nat.reduceEqDiff, Nat.reduceAdd, Nat.reduceSub, Nat.reduceLeDiff, Nat.reduceLT, Nat.reduceMul, Nat.reduceBEq, Int.reduceEq, Int.reduceLT, Int.reduceLE, Int.reduceNeg, Int.reduceToNat, reduceCtorEq, ho, Try.results93], by simp only [go_sem, Nat.reduceEqDiff, Nat.reduceAdd, Nat.reduceSub, Nat.reduceLeDiff, Nat.reduceLT, Nat.reduceMul, Nat.reduceBEq, Int.reduceEq, Int.reduceLT, Int.reduceLE, Int.reduceNeg, Int.reduceToNat, reduceCtorEq, ho, Try.results93], by (first | (simp only [go_sem, Nat.reduceEqDiff, Nat.reduceAdd, Nat.reduceSub, Nat.reduceLeDiff, Nat.reduceLT, Nat.reduceMul, Nat.reduceBEq, Int.reduceEq, Int.reduceLT, Int.reduceLE, Int.reduceNeg, Int.reduceToNat, reduceCtorEq, ho, Try.results93, h2]; done) | simp only [go_sem, Nat.reduceEqDiff, Nat.reduceAdd, Nat.reduceSub, Nat.reduceLeDiff, Nat.reduceLT, Nat.reduceMul, Nat.reduceBEq, Int.reduceEq, Int.reduceLT, Int.reduceLE, Int.reduceNeg, Int.reduceToNat, reduceCtorEq, ho, Try.results93]), .inl ⟨rfl, by simp only [go_sem, Nat.reduceEqDiff, Nat.reduceAdd, Nat.reduceSub, Nat.reduceLeDiff, Nat.reduceLT, Nat.reduceMul, Nat.reduceBEq, Int.reduceEq, Int.reduceLT, Int.reduceLE, Int.reduceNeg, Int.reduceToNat, reduceCtorEq, ho, Try.results93]⟩⟩, ?_⟩
      rintro m st ⟨done, rest, acc, hl, rfl, hal, hck, h9, hs1, hs2, hb, h8⟩
      have hsz := e.size_eq
      rw [hl, Ex.sizes_app] at hsz
      have hdl := Ex.len_sizes done
      have hw : IntKind.i64.wrap ((done.length : Int) + 1) = (done.length : Int) + 1 := wrap_fits (by omega) (by omega)
      cases rest with
      | nil =>
        have hlt : ¬ (done.length : Int) < (e.args.length : Int) := by simp [hl]
        have hck' : Ex.checks kinds e.args [] = (0, acc) := by rw [← hck]; rfl
        have h22 : e.op = 22 → 1 ≤ acc.length := fun h => by
          have := formed_len hf
          rw [h] at this
          simp [fitsN] at this
          rw [hal]
          simp at hl
          rw [← hl]
          omega
        have hal' : acc.length ≤ 100000000 := by omega
        rw [hck'] at hfin
        simp only [ne_eq, not_true, if_false] at hfin
        rcases h8 with ⟨rfl, h8⟩ | ⟨hne, v, h8, h64⟩
        · simp only [go_sem, Nat.reduceEqDiff, Nat.reduceAdd, Nat.reduceSub, Nat.reduceLeDiff, Nat.reduceLT, Nat.reduceMul, Nat.reduceBEq, Int.reduceEq, Int.reduceLT, Int.reduceLE, Int.reduceNeg, Int.reduceToNat, reduceCtorEq, ho, Try.results93, h9, hlt, hs1, hs2, hb, h8]
          refine GCall.fr ?_ (rresult_fn e [] kinds (by simp) hk h22 hcol2) (.inl rfl) ?_; (focus (first | rfl | ((simp only [go_sem, Nat.reduceEqDiff, Nat.reduceAdd, Nat.reduceSub, Nat.reduceLeDiff, Nat.reduceLT, Nat.reduceMul, Nat.reduceBEq, Int.reduceEq, Int.reduceLT, Int.reduceLE, Int.reduceNeg, Int.reduceToNat, reduceCtorEq, ho, Try.results93, e.enc_eq]); done) | ((simp only [go_sem, Nat.reduceEqDiff, Nat.reduceAdd, Nat.reduceSub, Nat.reduceLeDiff, Nat.reduceLT, Nat.reduceMul, Nat.reduceBEq, Int.reduceEq, Int.reduceLT, Int.reduceLE, Int.reduceNeg, Int.reduceToNat, reduceCtorEq, ho, Try.results93, e.enc_eq]); rfl)))
          simp only [go_sem, Nat.reduceEqDiff, Nat.reduceAdd, Nat.reduceSub, Nat.reduceLeDiff, Nat.reduceLT, Nat.reduceMul, Nat.reduceBEq, Int.reduceEq, Int.reduceLT, Int.reduceLE, Int.reduceNeg, Int.reduceToNat, reduceCtorEq, ho, Try.results93]
          rw [hfin]
          repeat' (first | (refine AIf_cases (fun h => ?_) (fun h => ?_) <;> (try simp only [decide_eq_true_eq, decide_eq_false_iff_not, Bool.not_eq_true', Bool.not_eq_false', Bool.not_eq_true, Bool.not_eq_false] at h) <;> (try simp only [go_sem, Nat.reduceEqDiff, Nat.reduceAdd, Nat.reduceSub, Nat.reduceLeDiff, Nat.reduceLT, Nat.reduceMul, Nat.reduceBEq, Int.reduceEq, Int.reduceLT, Int.reduceLE, Int.reduceNeg, Int.reduceToNat, reduceCtorEq, ho, Try.results93, h])))
          all_goals simp_all
        · have hrow : getRow st.o 64 v = some (3, acc.map (.int .i64)) := by simp [getRow, h64]
          simp only [go_sem, Nat.reduceEqDiff, Nat.reduceAdd, Nat.reduceSub, Nat.reduceLeDiff, Nat.reduceLT, Nat.reduceMul, Nat.reduceBEq, Int.reduceEq, Int.reduceLT, Int.reduceLE, Int.reduceNeg, Int.reduceToNat, reduceCtorEq, ho, Try.results93, h9, hlt, hs1, hs2, hb, h8]
          refine GCall.fr ?_ (rresult_fn e acc kinds hal' hk h22 hcol2) (.inl rfl) ?_; (focus (first | rfl | ((simp only [go_sem, Nat.reduceEqDiff, Nat.reduceAdd, Nat.reduceSub, Nat.reduceLeDiff, Nat.reduceLT, Nat.reduceMul, Nat.reduceBEq, Int.reduceEq, Int.reduceLT, Int.reduceLE, Int.reduceNeg, Int.reduceToNat, reduceCtorEq, ho, Try.results93, e.enc_eq, hrow]); done) | ((simp only [go_sem, Nat.reduceEqDiff, Nat.reduceAdd, Nat.reduceSub, Nat.reduceLeDiff, Nat.reduceLT, Nat.reduceMul, Nat.reduceBEq, Int.reduceEq, Int.reduceLT, Int.reduceLE, Int.reduceNeg, Int.reduceToNat, reduceCtorEq, ho, Try.results93, e.enc_eq, hrow]); rfl)))
          simp only [go_sem, Nat.reduceEqDiff, Nat.reduceAdd, Nat.reduceSub, Nat.reduceLeDiff, Nat.reduceLT, Nat.reduceMul, Nat.reduceBEq, Int.reduceEq, Int.reduceLT, Int.reduceLE, Int.reduceNeg, Int.reduceToNat, reduceCtorEq, ho, Try.results93]
          rw [hfin]
          repeat' (first | (refine AIf_cases (fun h => ?_) (fun h => ?_) <;> (try simp only [decide_eq_true_eq, decide_eq_false_iff_not, Bool.not_eq_true', Bool.not_eq_false', Bool.not_eq_true, Bool.not_eq_false] at h) <;> (try simp only [go_sem, Nat.reduceEqDiff, Nat.reduceAdd, Nat.reduceSub, Nat.reduceLeDiff, Nat.reduceLT, Nat.reduceMul, Nat.reduceBEq, Int.reduceEq, Int.reduceLT, Int.reduceLE, Int.reduceNeg, Int.reduceToNat, reduceCtorEq, ho, Try.results93, h])))
          all_goals simp_all
      | cons x rest =>
        have hlt : (done.length : Int) < (e.args.length : Int) := by simp [hl]; omega
        have hget : (e.args.map Ex.enc)[done.length]? = some x.enc := by simp [hl]
        have hxs : x.size ≤ n := by simp [Ex.sizes] at hsz; omega
        simp only [go_sem, Nat.reduceEqDiff, Nat.reduceAdd, Nat.reduceSub, Nat.reduceLeDiff, Nat.reduceLT, Nat.reduceMul, Nat.reduceBEq, Int.reduceEq, Int.reduceLT, Int.reduceLE, Int.reduceNeg, Int.reduceToNat, reduceCtorEq, ho, Try.results93, h9, hs1, hs2, hb, hlt, hget, Int.natCast_nonneg, Int.toNat_natCast]
        refine GCall.fr ?_ (rcheck_fn kinds n x hxs (by omega)) (.inl rfl) ?_; (focus (first | rfl | ((simp only [go_sem, Nat.reduceEqDiff, Nat.reduceAdd, Nat.reduceSub, Nat.reduceLeDiff, Nat.reduceLT, Nat.reduceMul, Nat.reduceBEq, Int.reduceEq, Int.reduceLT, Int.reduceLE, Int.reduceNeg, Int.reduceToNat, reduceCtorEq, ho, Try.results93, x.enc_eq, hs1]); done) | ((simp only [go_sem, Nat.reduceEqDiff, Nat.reduceAdd, Nat.reduceSub, Nat.reduceLeDiff, Nat.reduceLT, Nat.reduceMul, Nat.reduceBEq, Int.reduceEq, Int.reduceLT, Int.reduceLE, Int.reduceNeg, Int.reduceToNat, reduceCtorEq, ho, Try.results93, x.enc_eq, hs1]); rfl)))
        simp only [go_sem, Nat.reduceEqDiff, Nat.reduceAdd, Nat.reduceSub, Nat.reduceLeDiff, Nat.reduceLT, Nat.reduceMul, Nat.reduceBEq, Int.reduceEq, Int.reduceLT, Int.reduceLE, Int.reduceNeg, Int.reduceToNat, reduceCtorEq, ho, Try.results93, h9, hs1, hs2, hb]
        rw [Ex.checks] at hck
        by_cases hx : (x.check kinds).2 = 0
        · have hbig : (acc.length + 1) * 9 ≤ 140737488355328 := by omega
          rw [if_neg (by simp [hx])] at hck
          have hb' := hb
          rw [e.enc_cells] at hb'
          rcases h8 with ⟨rfl, h8⟩ | ⟨hne, v, h8, h64⟩
          · simp only [go_sem, Nat.reduceEqDiff, Nat.reduceAdd, Nat.reduceSub, Nat.reduceLeDiff, Nat.reduceLT, Nat.reduceMul, Nat.reduceBEq, Int.reduceEq, Int.reduceLT, Int.reduceLE, Int.reduceNeg, Int.reduceToNat, reduceCtorEq, ho, Try.results93, hx, h9, hs1, hs2, hb, h8, hw]
            exact ⟨rest.length, by omega, done ++ [x], rest, _, by simp [hl], rfl, by simp [← hal], hck, by simp, .inr ⟨by simp, _, rfl, rfl⟩⟩
          · have hrow : getRow st.o 64 v = some (3, acc.map (.int .i64)) := by simp [getRow, h64]
            simp only [go_sem, Nat.reduceEqDiff, Nat.reduceAdd, Nat.reduceSub, Nat.reduceLeDiff, Nat.reduceLT, Nat.reduceMul, Nat.reduceBEq, Int.reduceEq, Int.reduceLT, Int.reduceLE, Int.reduceNeg, Int.reduceToNat, reduceCtorEq, ho, Try.results93, hx, h9, hs1, hs2, hb, h8, hw, h64, hbig]
            exact ⟨rest.length, by omega, done ++ [x], rest, _, by simp [hl], rfl, by simp [← hal], hck, by simp, .inr ⟨by simp, _, rfl, by simp⟩⟩
        · rw [if_pos (by simpa using hx)] at hck
          rw [← hck] at hfin
          rw [if_pos (by simpa using hx)] at hfin
          simp only [go_sem, Nat.reduceEqDiff, Nat.reduceAdd, Nat.reduceSub, Nat.reduceLeDiff, Nat.reduceLT, Nat.reduceMul, Nat.reduceBEq, Int.reduceEq, Int.reduceLT, Int.reduceLE, Int.reduceNeg, Int.reduceToNat, reduceCtorEq, ho, Try.results93, hx, h9, hs1, hs2, hb]
          rw [hfin]
          simp
end Go.Proofs.Ytiefnninebilbaa
/- What the reference's Check returns; no condition. -/
set_option maxRecDepth 100000
set_option linter.unusedVariables false
set_option linter.unusedSimpArgs false
namespace Go.Proofs.Ytiefnninebilbaa
open Go Go.Sx

theorem ok36 : okCode M0 Try.f36.ntmps (Try.f36.body.getD .skip) = true := by decide +kernel
theorem rchecked_fn (kinds : List Int) (e : Ex) (hs : e.size ≤ 100000000) : Fc 36 [e.enc, .sl (kinds.map (.int .i64))] (.tup [.int .i64 (e.checked kinds).1, .int .i64 (e.checked kinds).2]) := by
  refine fn_of_awp (E := E0) (M := M0) follows Try.func36 rfl (by decide) ok36 (by decide) (by simp) fun o ho => ?_
  simp only [go_sem, Nat.reduceEqDiff, Nat.reduceAdd, Nat.reduceSub, Nat.reduceLeDiff, Nat.reduceLT, Nat.reduceMul, Nat.reduceBEq, Int.reduceEq, Int.reduceLT, Int.reduceLE, Int.reduceNeg, Int.reduceToNat, reduceCtorEq, ho, Try.results36, e.enc_eq]
  refine GCall.fr ?_ (rdepth_fn _ e (Nat.le_refl _) (by omega)) (.inl rfl) ?_; (focus (first | rfl | ((simp only [go_sem, Nat.reduceEqDiff, Nat.reduceAdd, Nat.reduceSub, Nat.reduceLeDiff, Nat.reduceLT, Nat.reduceMul, Nat.reduceBEq, Int.reduceEq, Int.reduceLT, Int.reduceLE, Int.reduceNeg, Int.reduceToNat, reduceCtorEq, ho, Try.results36, e.enc_eq]); done) | ((simp only [go_sem, Nat.reduceEqDiff, Nat.reduceAdd, Nat.reduceSub, Nat.reduceLeDiff, Nat.reduceLT, Nat.reduceMul, Nat.reduceBEq, Int.reduceEq, Int.reduceLT, Int.reduceLE, Int.reduceNeg, Int.reduceToNat, reduceCtorEq, ho, Try.results36, e.enc_eq]); rfl)))
  simp only [go_sem, Nat.reduceEqDiff, Nat.reduceAdd, Nat.reduceSub, Nat.reduceLeDiff, Nat.reduceLT, Nat.reduceMul, Nat.reduceBEq, Int.reduceEq, Int.reduceLT, Int.reduceLE, Int.reduceNeg, Int.reduceToNat, reduceCtorEq, ho, Try.results36]
  by_cases h2 : 24 < e.depth
  · have h3 : (24 : Int) < (e.depth : Int) := by omega
    simp only [go_sem, Nat.reduceEqDiff, Nat.reduceAdd, Nat.reduceSub, Nat.reduceLeDiff, Nat.reduceLT, Nat.reduceMul, Nat.reduceBEq, Int.reduceEq, Int.reduceLT, Int.reduceLE, Int.reduceNeg, Int.reduceToNat, reduceCtorEq, ho, Try.results36, h3]
    simp [Ex.checked, h2]
  · have h3 : ¬ (24 : Int) < (e.depth : Int) := by omega
    simp only [go_sem, Nat.reduceEqDiff, Nat.reduceAdd, Nat.reduceSub, Nat.reduceLeDiff, Nat.reduceLT, Nat.reduceMul, Nat.reduceBEq, Int.reduceEq, Int.reduceLT, Int.reduceLE, Int.reduceNeg, Int.reduceToNat, reduceCtorEq, ho, Try.results36, h3, e.enc_eq]
    refine GCall.fr ?_ (rcheck_fn kinds _ e (Nat.le_refl _) hs) (.inl rfl) ?_; (focus (first | rfl | ((simp only [go_sem, Nat.reduceEqDiff, Nat.reduceAdd, Nat.reduceSub, Nat.reduceLeDiff, Nat.reduceLT, Nat.reduceMul, Nat.reduceBEq, Int.reduceEq, Int.reduceLT, Int.reduceLE, Int.reduceNeg, Int.reduceToNat, reduceCtorEq, ho, Try.results36, e.enc_eq]); done) | ((simp only [go_sem, Nat.reduceEqDiff, Nat.reduceAdd, Nat.reduceSub, Nat.reduceLeDiff, Nat.reduceLT, Nat.reduceMul, Nat.reduceBEq, Int.reduceEq, Int.reduceLT, Int.reduceLE, Int.reduceNeg, Int.reduceToNat, reduceCtorEq, ho, Try.results36, e.enc_eq]); rfl)))
    simp only [go_sem, Nat.reduceEqDiff, Nat.reduceAdd, Nat.reduceSub, Nat.reduceLeDiff, Nat.reduceLT, Nat.reduceMul, Nat.reduceBEq, Int.reduceEq, Int.reduceLT, Int.reduceLE, Int.reduceNeg, Int.reduceToNat, reduceCtorEq, ho, Try.results36]
    simp [Ex.checked, h2]
end Go.Proofs.Ytiefnninebilbaa
/- How arguments read as plain data: a datum that is read at a type of the program is the picture of plain data that is no larger than the datum's bulk; no condition. -/
set_option maxRecDepth 100000
set_option linter.unusedVariables false
set_option linter.unusedSimpArgs false
namespace Go.Proofs.Ytiefnninebilbaa
open Go Go.Sx

theorem bulk_pos {H : Type} (d : DataW H) : 1 ≤ Rows.uptoBulk d := by
  cases d with
  | lit l => cases l <;> simp [Rows.uptoBulk]
  | nil => simp [Rows.uptoBulk]
  | ptr d => simp [Rows.uptoBulk]
  | slice elems spare => simp [Rows.uptoBulk]
  | agg parts => simp [Rows.uptoBulk]
  | iface t d => simp [Rows.uptoBulk]
  | map entries => simp [Rows.uptoBulk]
  | held h => simp [Rows.uptoBulk]
theorem bulkAll_sum {H : Type} : ∀ l : List (DataW H), Rows.uptoBulkAll l = (l.map Rows.uptoBulk).sum
  | [] => by simp [Rows.uptoBulkAll]
  | d :: l => by simp [Rows.uptoBulkAll, bulkAll_sum l]
abbrev Bk (w : World) : Nat → Prop := fun b => b < w.heap.size
def RdL (w : World) : List PV → List Value → Prop
  | [], [] => True
  | z :: zs, u :: us => (z.one = true ∧ Rd w (Bk w) z u) ∧ RdL w zs us
  | _, _ => False
theorem RdL.len {w : World} : ∀ {zs : List PV} {us : List Value}, RdL w zs us → us.length = zs.length
  | [], [], _ => rfl
  | z :: zs, u :: us, h => by simp [RdL.len h.2]
  | [], _ :: _, h => h.elim
  | _ :: _, [], h => h.elim
theorem RdL.at {w : World} : ∀ {zs : List PV} {us : List Value}, RdL w zs us → ∀ (j : Nat) (z : PV), zs[j]? = some z → z.one = true ∧ ∃ u, us[j]? = some u ∧ Rd w (Bk w) z u
  | [], [], _, j, z, hz => by simp at hz
  | z :: zs, u :: us, h, 0, y, hz => by simp at hz; subst hz; exact ⟨h.1.1, u, rfl, h.1.2⟩
  | z :: zs, u :: us, h, j + 1, y, hz => by simpa using RdL.at h.2 j y (by simpa using hz)
  | [], _ :: _, h, _, _, _ => h.elim
  | _ :: _, [], h, _, _, _ => h.elim

section
variable {H : Type} {enc : TypeId × Value → H} {w : World}
def Reads (enc : TypeId × Value → H) (w : World) (n : Nat) (t : TypeId) {α : Type} (pic : α → PV) (sz : α → Nat) : Prop :=
  ∀ (fuel : Nat), fuel ≤ n → ∀ (cs : List Value) (x : DataW H × List MemPlace), DataW.trod enc P0 w 0 (fun _ => true) true fuel t cs = some x → ∃ a, RdL w (pic a).cells cs ∧ sz a ≤ Rows.uptoBulk x.1
theorem Reads.mono {n m : Nat} {t : TypeId} {α : Type} {pic : α → PV} {sz : α → Nat} (h : Reads enc w n t pic sz) (hm : m ≤ n) : Reads enc w m t pic sz := fun f hf => h f (Nat.le_trans hf hm)

theorem reads_int {k : IntKind} {t : TypeId} (ht : P0.underlying t = some (.int k)) (n : Nat) : Reads enc w n t (PV.int k) (fun _ => 1) := by
  intro fuel _ cs x hx
  obtain ⟨m, rfl, rfl, _⟩ := DataW.trod_int ht hx
  exact ⟨m, ⟨⟨rfl, .int k m⟩, trivial⟩, bulk_pos _⟩
/-- A whole number's bulk, so that bounded bulk says that it fits. -/
def intB (n : Int) : Nat := if -9223372036854775808 ≤ n ∧ n ≤ 9223372036854775807 then 0 else 2097152
theorem intB_fits {n : Int} (h : intB n ≤ 1048576) : -9223372036854775808 ≤ n ∧ n ≤ 9223372036854775807 := by
  unfold intB at h
  split at h
  · assumption
  · omega
theorem intB_of_wf {n : Int} (h : (Lit.int .i64 n).wf = true) : intB n = 0 := by
  unfold intB
  rw [if_pos]
  have h1 : IntKind.i64.min = -9223372036854775808 := by decide
  have h2 : IntKind.i64.max = 9223372036854775807 := by decide
  simp [Lit.wf, h1, h2] at h
  omega
theorem reads_i64 {t : TypeId} (ht : P0.underlying t = some (.int .i64)) (n : Nat) : Reads enc w n t (PV.int .i64) (fun n => 1 + intB n) := by
  intro fuel _ cs x hx
  obtain ⟨m, rfl, rfl, hwf⟩ := DataW.trod_int ht hx
  exact ⟨m, ⟨⟨rfl, .int .i64 m⟩, trivial⟩, by show 1 + intB m ≤ _; rw [intB_of_wf hwf]; exact bulk_pos _⟩
theorem reads_bool {t : TypeId} (ht : P0.underlying t = some .bool) (n : Nat) : Reads enc w n t PV.bool (fun _ => 1) := by
  intro fuel _ cs x hx
  obtain ⟨m, rfl, rfl⟩ := DataW.trod_bool ht hx
  exact ⟨m, ⟨⟨rfl, .bool m⟩, trivial⟩, bulk_pos _⟩
theorem reads_str {t : TypeId} (ht : P0.underlying t = some .string) (n : Nat) : Reads enc w n t PV.str (fun s => s.size + 1) := by
  intro fuel _ cs x hx
  obtain ⟨s, rfl, rfl, _⟩ := DataW.trod_string ht hx
  exact ⟨s, ⟨⟨rfl, .str s⟩, trivial⟩, by simp [Rows.uptoBulk]⟩
theorem reads_build {α β : Type} {sz : α → Nat} {bk : β → Nat} {G : Nat → α → Prop} : ∀ (els : List β) (k : Nat), (∀ (i : Nat) (y : β), els[i]? = some y → ∃ a, G (k + i) a ∧ sz a ≤ bk y) →
    ∃ l : List α, l.length = els.length ∧ (∀ (i : Nat) (a : α), l[i]? = some a → G (k + i) a) ∧ (l.map sz).sum ≤ (els.map bk).sum
  | [], k, _ => ⟨[], rfl, fun i a h => by simp at h, by simp⟩
  | y :: els, k, h => by
    obtain ⟨a, ha, hs⟩ := h 0 y rfl
    obtain ⟨l, hl, hg, hsum⟩ := reads_build (sz := sz) (bk := bk) (G := G) els (k + 1) (fun i z hz => by have := h (i + 1) z (by simpa using hz); rwa [show k + 1 + i = k + (i + 1) by omega])
    refine ⟨a :: l, by simp [hl], fun i b hb => ?_, by simp; omega⟩
    cases i with
    | zero => simp at hb; subst hb; exact ha
    | succ i => have := hg i b (by simpa using hb); rwa [show k + 1 + i = k + (i + 1) by omega] at this
theorem cell_lt {w : World} {a : Addr} {v : Value} (h : w.cell? a = some v) : a.block < w.heap.size := by
  rcases Nat.lt_or_ge a.block w.heap.size with h' | h'
  · exact h'
  · have : w.heap[a.block]? = none := by simp [h']
    simp [World.cell?, this] at h
theorem reads_slice {t e : TypeId} {n : Nat} {α : Type} {pic : α → PV} {sz : α → Nat} (ht : P0.underlying t = some (.slice e)) (hc : ∀ a, (pic a).cells.length = P0.cellsOf e) (hp : 0 < P0.cellsOf e) (h : Reads enc w n e pic sz) :
    Reads enc w (n + 1) t (fun l : List α => PV.sl (l.map pic)) (fun l => 1 + (l.map sz).sum) := by
  intro fuel hf cs x hx
  rcases DataW.trod_slice ht hx with ⟨rfl, rfl⟩ | ⟨a, len, cap, elems, rest, m, rfl, rfl, rfl, hb, hl, hm, hlen, hel, hsp, hns⟩
  · exact ⟨[], ⟨⟨rfl, .sl0 none 0⟩, trivial⟩, by simp [Rows.uptoBulk]⟩
  · obtain ⟨l, hll, hg, hsum⟩ := reads_build (α := α) (sz := sz) (bk := fun y : DataW H × List MemPlace => Rows.uptoBulk y.1) (G := fun i a' => ∃ cs', w.cells? 0 (a.add (i * P0.cellsOf e)) (P0.cellsOf e) = some cs' ∧ RdL w (pic a').cells cs') elems 0 (fun i y hy => by
      have hi : i < len := by rw [← hlen]; exact (List.getElem?_eq_some_iff.1 hy).1
      have := hel i hi
      rw [hy] at this
      obtain ⟨cs', h1, h2⟩ := Option.bind_eq_some_iff.1 this
      obtain ⟨a', ha, hs⟩ := h m (by omega) cs' y h2
      exact ⟨a', ⟨cs', by rw [Nat.zero_add]; exact h1, ha⟩, hs⟩)
    refine ⟨l, ⟨⟨rfl, ?_⟩, trivial⟩, ?_⟩
    · by_cases h0 : 0 < len
      · have cell : ∀ (i : Nat) (y : PV) (j : Nat) (z : PV), (l.map pic)[i]? = some y → y.cells[j]? = some z → z.one = true ∧ ∃ u, w.cell? (a.add (i * P0.cellsOf e + j)) = some u ∧ Rd w (Bk w) z u := by
          intro i y j z hy hz
          rw [List.getElem?_map] at hy
          obtain ⟨a', ha', rfl⟩ := Option.map_eq_some_iff.1 hy
          obtain ⟨cs', h1, h2⟩ := hg i a' ha'
          rw [Nat.zero_add] at h1
          obtain ⟨_, hl', hcell⟩ := World.cells?_some h1
          obtain ⟨ho, u, hu, hr⟩ := h2.at j z hz
          have hj : j < P0.cellsOf e := by rw [← hl']; exact (List.getElem?_eq_some_iff.1 hu).1
          refine ⟨ho, u, ?_, hr⟩
          rw [← Sx.add_add, hcell j hj, hu]
        refine .sl _ a len cap (P0.cellsOf e) (fun i j => (w.cell? (a.add (i * P0.cellsOf e + j))).getD default) (by simp [hll, hlen]) h0 hl ?_ ?_ ?_ ?_
        · cases l with
          | nil => simp at hll; omega
          | cons b l =>
            have hcb := hc b
            obtain ⟨z, hz⟩ : ∃ z, (pic b).cells[0]? = some z := ⟨(pic b).cells[0], List.getElem?_eq_getElem (by omega)⟩
            obtain ⟨_, u, hu, _⟩ := cell 0 (pic b) 0 z rfl hz
            have := cell_lt hu
            rwa [add_block] at this
        · intro i y hy
          rw [List.getElem?_map] at hy
          obtain ⟨a', _, rfl⟩ := Option.map_eq_some_iff.1 hy
          exact hc a'
        · intro i y j z hy hz
          obtain ⟨ho, u, hu, _⟩ := cell i y j z hy hz
          exact ⟨ho, by simp [hu]⟩
        · intro i y j z hy hz
          obtain ⟨_, u, hu, hr⟩ := cell i y j z hy hz
          simpa [hu] using hr
      · have h1 : len = 0 := by omega
        have h2 : l = [] := by
          apply List.eq_nil_of_length_eq_zero
          omega
        subst h1 h2
        exact .sl0 _ _
    · simp only [Rows.uptoBulk, bulkAll_sum, List.map_map]
      have e1 : (elems.map fun y => Rows.uptoBulk y.1).sum = (elems.map (Rows.uptoBulk ∘ fun x => x.1)).sum := rfl
      omega

def Vl.bulk (v : Vl) : Nat := 4 + v.text.size + intB v.kind + intB v.int
theorem fields3 {α : Type} {l : List α} (h : l.length = 3) : ∃ a b c, l = [a, b, c] := by
  match l, h with
  | [a, b, c], _ => exact ⟨a, b, c, rfl⟩
theorem fields5 {α : Type} {l : List α} (h : l.length = 5) : ∃ a b c d e, l = [a, b, c, d, e] := by
  match l, h with
  | [a, b, c, d, e], _ => exact ⟨a, b, c, d, e, rfl⟩
theorem fields7 {α : Type} {l : List α} (h : l.length = 7) : ∃ a b c d e f g, l = [a, b, c, d, e, f, g] := by
  match l, h with
  | [a, b, c, d, e, f, g], _ => exact ⟨a, b, c, d, e, f, g, rfl⟩
theorem cells3 : P0.cellsOf 3 = 1 := by kernel_rfl
theorem cells4 : P0.cellsOf 4 = 1 := by kernel_rfl
theorem cells9 : P0.cellsOf 9 = 1 := by kernel_rfl
theorem cells23 : P0.cellsOf 23 = 1 := by kernel_rfl
theorem cells25 : P0.cellsOf 25 = 1 := by kernel_rfl
theorem cells33 : P0.cellsOf 33 = 1 := by kernel_rfl
theorem cells42 : P0.cellsOf 42 = 3 := by kernel_rfl
theorem cells49 : P0.cellsOf 49 = 7 := by kernel_rfl
theorem reads_vl (n : Nat) : Reads enc w n 42 Vl.enc Vl.bulk := by
  intro fuel _ cs x hx
  obtain ⟨xs, m, rfl, rfl, hcl, hxl, hf⟩ := DataW.trod_struct (fs := _) Try.underlying42 hx
  obtain ⟨c0, c1, c2, rfl⟩ := fields3 (hcl.trans cells42)
  obtain ⟨y0, y1, y2, rfl⟩ := fields3 hxl
  have h0 : DataW.trod enc P0 w 0 (fun _ => true) true m 3 (List.take (P0.cellsOf 3) (List.drop 0 [c0, c1, c2])) = some y0 := hf 0 _ rfl
  have h1 : DataW.trod enc P0 w 0 (fun _ => true) true m 3 (List.take (P0.cellsOf 3) (List.drop 1 [c0, c1, c2])) = some y1 := hf 1 _ rfl
  have h2 : DataW.trod enc P0 w 0 (fun _ => true) true m 9 (List.take (P0.cellsOf 9) (List.drop 2 [c0, c1, c2])) = some y2 := hf 2 _ rfl
  rw [cells3] at h0 h1
  rw [cells9] at h2
  obtain ⟨k, hk, bk⟩ := reads_i64 (enc := enc) (w := w) Try.underlying3 m m (Nat.le_refl _) [c0] y0 h0
  obtain ⟨i, hi, bi⟩ := reads_i64 (enc := enc) (w := w) Try.underlying3 m m (Nat.le_refl _) [c1] y1 h1
  obtain ⟨t, ht, bt⟩ := reads_str (enc := enc) (w := w) Try.underlying9 m m (Nat.le_refl _) [c2] y2 h2
  refine ⟨⟨k, i, t⟩, ⟨hk.1, hi.1, ht.1, trivial⟩, ?_⟩
  have b0 : 1 + intB k ≤ Rows.uptoBulk y0.1 := bk
  have b1 : 1 + intB i ≤ Rows.uptoBulk y1.1 := bi
  have b2 : t.size + 1 ≤ Rows.uptoBulk y2.1 := bt
  simp only [Rows.uptoBulk, Rows.uptoBulkAll, List.map, Vl.bulk]
  omega
mutual
def Ex.bulk : Ex → Nat
  | .mk op int v name args => 9 + v.text.size + name.size + intB op + intB int + intB v.kind + intB v.int + Ex.bulks args
def Ex.bulks : List Ex → Nat
  | [] => 0
  | e :: l => e.bulk + Ex.bulks l
end
theorem Ex.bulks_sum : ∀ l, Ex.bulks l = (l.map Ex.bulk).sum
  | [] => rfl
  | e :: l => by rw [Ex.bulks, Ex.bulks_sum l]; simp
theorem reads_ex : ∀ (n : Nat), Reads enc w n 49 Ex.enc Ex.bulk
  | 0 => fun fuel hfu cs x hx => by
    obtain rfl : fuel = 0 := by omega
    simp [DataW.trod] at hx
  | n + 1 => by
    intro fuel hfu cs x hx
    obtain ⟨xs, m, rfl, rfl, hcl, hxl, hf⟩ := DataW.trod_struct (fs := _) Try.underlying49 hx
    obtain ⟨c0, c1, c2, c3, c4, c5, c6, rfl⟩ := fields7 (hcl.trans cells49)
    obtain ⟨y0, y1, y2, y3, y4, rfl⟩ := fields5 hxl
    have h0 : DataW.trod enc P0 w 0 (fun _ => true) true m 3 (List.take (P0.cellsOf 3) (List.drop 0 [c0, c1, c2, c3, c4, c5, c6])) = some y0 := hf 0 _ rfl
    have h1 : DataW.trod enc P0 w 0 (fun _ => true) true m 3 (List.take (P0.cellsOf 3) (List.drop 1 [c0, c1, c2, c3, c4, c5, c6])) = some y1 := hf 1 _ rfl
    have h2 : DataW.trod enc P0 w 0 (fun _ => true) true m 42 (List.take (P0.cellsOf 42) (List.drop 2 [c0, c1, c2, c3, c4, c5, c6])) = some y2 := hf 2 _ rfl
    have h3 : DataW.trod enc P0 w 0 (fun _ => true) true m 9 (List.take (P0.cellsOf 9) (List.drop 5 [c0, c1, c2, c3, c4, c5, c6])) = some y3 := hf 3 _ rfl
    have h4 : DataW.trod enc P0 w 0 (fun _ => true) true m 25 (List.take (P0.cellsOf 25) (List.drop 6 [c0, c1, c2, c3, c4, c5, c6])) = some y4 := hf 4 _ rfl
    rw [cells3] at h0 h1
    rw [cells42] at h2
    rw [cells9] at h3
    rw [cells25] at h4
    obtain ⟨k, hk, bk⟩ := reads_i64 (enc := enc) (w := w) Try.underlying3 m m (Nat.le_refl _) [c0] y0 h0
    obtain ⟨i, hi, bi⟩ := reads_i64 (enc := enc) (w := w) Try.underlying3 m m (Nat.le_refl _) [c1] y1 h1
    obtain ⟨v, hv, bv⟩ := reads_vl m m (Nat.le_refl _) [c2, c3, c4] y2 h2
    obtain ⟨t, ht, bt⟩ := reads_str (enc := enc) (w := w) Try.underlying9 m m (Nat.le_refl _) [c5] y3 h3
    obtain ⟨l, hl, bl⟩ := (reads_slice Try.underlying25 (fun a => by rw [Ex.enc_cells, cells49]; rfl) (by rw [cells49]; decide) ((reads_ex n).mono (by omega : m ≤ n))) m (by omega) [c6] y4 h4
    refine ⟨.mk k i v t l, ?_, ?_⟩
    · rw [Ex.enc_cells]
      exact ⟨hk.1, hi.1, hv.1, hv.2.1, hv.2.2.1, ht.1, hl.1, trivial⟩
    · have b0 : 1 + intB k ≤ Rows.uptoBulk y0.1 := bk
      have b1 : 1 + intB i ≤ Rows.uptoBulk y1.1 := bi
      have b2 : 4 + v.text.size + intB v.kind + intB v.int ≤ Rows.uptoBulk y2.1 := bv
      have b3 : t.size + 1 ≤ Rows.uptoBulk y3.1 := bt
      have b4 : 1 + (l.map Ex.bulk).sum ≤ Rows.uptoBulk y4.1 := bl
      simp only [Rows.uptoBulk, Rows.uptoBulkAll, List.map, Ex.bulk, Ex.bulks_sum]
      omega
mutual
theorem Ex.size_bulk : ∀ e : Ex, e.size ≤ e.bulk
  | .mk _ _ _ _ args => by have := Ex.sizes_bulks args; simp [Ex.size, Ex.bulk]; omega
theorem Ex.sizes_bulks : ∀ l, Ex.sizes l ≤ Ex.bulks l
  | [] => by simp [Ex.sizes, Ex.bulks]
  | e :: l => by have := Ex.size_bulk e; have := Ex.sizes_bulks l; simp [Ex.sizes, Ex.bulks]; omega
end
open Go.WideShapes
theorem arg_one {t : TypeId} {α : Type} {pic : α → PV} {sz : α → Nat} {v : Value} {d : DataW H} {ps : List MemPlace} (hr : ∀ n, Reads enc w n t pic sz) (hv : v.cells = #[v]) (hp : ∀ a, (pic a).cells = [pic a]) (h : DataW.Trod enc P0 w 0 (fun _ => true) true t v d ps) :
    ∃ a, Rd w (Bk w) (pic a) v ∧ sz a ≤ Rows.uptoBulk d := by
  obtain ⟨m, hm⟩ := h
  obtain ⟨a, ha, hb⟩ := hr m m (Nat.le_refl _) _ _ hm
  rw [hv, hp] at ha
  exact ⟨a, ha.1.2, hb⟩
theorem arg_agg {t : TypeId} {α : Type} {pic : α → PV} {sz : α → Nat} {us : Array Value} {d : DataW H} {ps : List MemPlace} (hr : ∀ n, Reads enc w n t pic sz) (hp : ∀ a, pic a = .agg (pic a).cells) (h : DataW.Trod enc P0 w 0 (fun _ => true) true t (.agg us) d ps) :
    ∃ a, Rd w (Bk w) (pic a) (.agg us) ∧ sz a ≤ Rows.uptoBulk d := by
  obtain ⟨m, hm⟩ := h
  obtain ⟨a, ha, hb⟩ := hr m m (Nat.le_refl _) _ _ hm
  refine ⟨a, ?_, hb⟩
  have hcs : (Value.agg us).cells.toList = us.toList := rfl
  rw [hcs] at ha
  rw [hp a]
  refine .agg _ _ (by have := ha.len; simpa using this) (fun j z hz => (ha.at j z hz).1) fun j z u hz hu => ?_
  obtain ⟨_, u', hu', hr'⟩ := ha.at j z hz
  have : us.toList[j]? = some u := by simpa using hu
  rw [this] at hu'
  cases hu'
  exact hr'
variable {W : World} {base : Nat}
theorem arg_int {v : Value} {d : DataW H} {ps : List MemPlace} (hv : Value.okWide P0 W .any base 3 v) (h : DataW.Trod enc P0 w 0 (fun _ => true) true 3 v d ps) : ∃ a : Int, Rd w (Bk w) (.int .i64 a) v ∧ 1 + intB a ≤ Rows.uptoBulk d := by
  obtain ⟨n, rfl⟩ := okWide_int Try.underlying3 hv
  exact arg_one (fun n => reads_i64 Try.underlying3 n) rfl (fun _ => rfl) h
theorem arg_str {v : Value} {d : DataW H} {ps : List MemPlace} (hv : Value.okWide P0 W .any base 9 v) (h : DataW.Trod enc P0 w 0 (fun _ => true) true 9 v d ps) : ∃ a : ByteArray, Rd w (Bk w) (.str a) v ∧ a.size + 1 ≤ Rows.uptoBulk d := by
  obtain ⟨n, rfl⟩ := okWide_string Try.underlying9 hv
  exact arg_one (fun n => reads_str Try.underlying9 n) rfl (fun _ => rfl) h
theorem reads_ints (n : Nat) : Reads enc w n 23 (fun l : List Int => PV.sl (l.map (PV.int .i64))) (fun l => 1 + (l.map fun _ => 1).sum) := (reads_slice Try.underlying23 (fun a => by rw [cells3]; rfl) (by rw [cells3]; decide) (reads_int Try.underlying3 n)).mono (Nat.le_succ n)
theorem reads_vals (n : Nat) : Reads enc w n 33 (fun l : List Vl => PV.sl (l.map Vl.enc)) (fun l => 1 + (l.map Vl.bulk).sum) := (reads_slice Try.underlying33 (fun a => by rw [cells42]; rfl) (by rw [cells42]; decide) (reads_vl n)).mono (Nat.le_succ n)
theorem reads_exs (n : Nat) : Reads enc w n 25 (fun l : List Ex => PV.sl (l.map Ex.enc)) (fun l => 1 + (l.map Ex.bulk).sum) := (reads_slice Try.underlying25 (fun a => by rw [Ex.enc_cells, cells49]; rfl) (by rw [cells49]; decide) (reads_ex n)).mono (Nat.le_succ n)
theorem sum_ones {α : Type} : ∀ l : List α, (l.map fun _ => 1).sum = l.length
  | [] => rfl
  | a :: l => by simp [sum_ones l]; omega
theorem arg_ints {v : Value} {d : DataW H} {ps : List MemPlace} (hv : Value.okWide P0 W .any base 23 v) (h : DataW.Trod enc P0 w 0 (fun _ => true) true 23 v d ps) : ∃ a : List Int, Rd w (Bk w) (.sl (a.map (PV.int .i64))) v ∧ 1 + a.length ≤ Rows.uptoBulk d := by
  obtain ⟨a, len, cap, rfl⟩ := okWide_slice Try.underlying23 hv
  obtain ⟨l, hl, hb⟩ := arg_one (fun n => reads_ints n) rfl (fun _ => rfl) h
  exact ⟨l, hl, by simpa only [sum_ones] using hb⟩
theorem arg_vals {v : Value} {d : DataW H} {ps : List MemPlace} (hv : Value.okWide P0 W .any base 33 v) (h : DataW.Trod enc P0 w 0 (fun _ => true) true 33 v d ps) : ∃ a : List Vl, Rd w (Bk w) (.sl (a.map Vl.enc)) v ∧ 1 + (a.map Vl.bulk).sum ≤ Rows.uptoBulk d := by
  obtain ⟨a, len, cap, rfl⟩ := okWide_slice Try.underlying33 hv
  exact arg_one (fun n => reads_vals n) rfl (fun _ => rfl) h
theorem arg_exs {v : Value} {d : DataW H} {ps : List MemPlace} (hv : Value.okWide P0 W .any base 25 v) (h : DataW.Trod enc P0 w 0 (fun _ => true) true 25 v d ps) : ∃ a : List Ex, Rd w (Bk w) (.sl (a.map Ex.enc)) v ∧ 1 + (a.map Ex.bulk).sum ≤ Rows.uptoBulk d := by
  obtain ⟨a, len, cap, rfl⟩ := okWide_slice Try.underlying25 hv
  exact arg_one (fun n => reads_exs n) rfl (fun _ => rfl) h
theorem arg_ex {v : Value} {d : DataW H} {ps : List MemPlace} (hv : Value.okWide P0 W .any base 49 v) (h : DataW.Trod enc P0 w 0 (fun _ => true) true 49 v d ps) : ∃ a : Ex, Rd w (Bk w) a.enc v ∧ a.bulk ≤ Rows.uptoBulk d := by
  obtain ⟨us, rfl, _⟩ := okWide_struct Try.underlying49 hv
  exact arg_agg (fun n => reads_ex n) (fun a => by rw [Ex.enc_cells, Ex.enc_eq]) h
end
def okI (n : Int) : Prop := -9223372036854775808 ≤ n ∧ n ≤ 9223372036854775807
mutual
def Ex.wf : Ex → Prop
  | .mk op int v _ args => okI op ∧ okI int ∧ okI v.kind ∧ okI v.int ∧ Ex.wfs args
def Ex.wfs : List Ex → Prop
  | [] => True
  | e :: l => e.wf ∧ Ex.wfs l
end
mutual
theorem Ex.bulk_wf : ∀ e : Ex, e.bulk ≤ 1048576 → e.wf
  | .mk op int v name args, h => by
    simp only [Ex.bulk] at h
    exact ⟨intB_fits (by omega), intB_fits (by omega), intB_fits (by omega), intB_fits (by omega), Ex.bulks_wf args (by omega)⟩
theorem Ex.bulks_wf : ∀ l, Ex.bulks l ≤ 1048576 → Ex.wfs l
  | [], _ => trivial
  | e :: l, h => by
    simp only [Ex.bulks] at h
    exact ⟨Ex.bulk_wf e (by omega), Ex.bulks_wf l (by omega)⟩
end
end Go.Proofs.Ytiefnninebilbaa
/- The law's function on the checking of expressions returns true; no condition. -/
set_option maxRecDepth 100000
set_option linter.unusedVariables false
set_option linter.unusedSimpArgs false
namespace Go.Proofs.Ytiefnninebilbaa
open Go Go.Sx

theorem ok8 : okCode M0 Try.f8.ntmps (Try.f8.body.getD .skip) = true := by decide +kernel
theorem exprChecks_fn (e : Ex) (kinds : List Int) (h : e.bulk + kinds.length ≤ 1048576) : Fc 8 [e.enc, .sl (kinds.map (.int .i64))] (.bool true) := by
  have hs := e.size_bulk
  refine fn_of_awp (E := E0) (M := M0) follows Try.func8 rfl (by decide) ok8 (by decide) (by simp) fun o ho => ?_
  simp only [go_sem, Nat.reduceEqDiff, Nat.reduceAdd, Nat.reduceSub, Nat.reduceLeDiff, Nat.reduceLT, Nat.reduceMul, Nat.reduceBEq, Int.reduceEq, Int.reduceLT, Int.reduceLE, Int.reduceNeg, Int.reduceToNat, reduceCtorEq, ho, Try.results8, e.enc_eq]
  refine GCall.fr ?_ (checked_fn kinds e (by omega)) (.inl rfl) ?_; (focus (first | rfl | ((simp only [go_sem, Nat.reduceEqDiff, Nat.reduceAdd, Nat.reduceSub, Nat.reduceLeDiff, Nat.reduceLT, Nat.reduceMul, Nat.reduceBEq, Int.reduceEq, Int.reduceLT, Int.reduceLE, Int.reduceNeg, Int.reduceToNat, reduceCtorEq, ho, Try.results8, e.enc_eq]); done) | ((simp only [go_sem, Nat.reduceEqDiff, Nat.reduceAdd, Nat.reduceSub, Nat.reduceLeDiff, Nat.reduceLT, Nat.reduceMul, Nat.reduceBEq, Int.reduceEq, Int.reduceLT, Int.reduceLE, Int.reduceNeg, Int.reduceToNat, reduceCtorEq, ho, Try.results8, e.enc_eq]); rfl)))
  simp only [go_sem, Nat.reduceEqDiff, Nat.reduceAdd, Nat.reduceSub, Nat.reduceLeDiff, Nat.reduceLT, Nat.reduceMul, Nat.reduceBEq, Int.reduceEq, Int.reduceLT, Int.reduceLE, Int.reduceNeg, Int.reduceToNat, reduceCtorEq, ho, Try.results8, e.enc_eq]
  refine GCall.fr ?_ (rchecked_fn kinds e (by omega)) (.inl rfl) ?_; (focus (first | rfl | ((simp only [go_sem, Nat.reduceEqDiff, Nat.reduceAdd, Nat.reduceSub, Nat.reduceLeDiff, Nat.reduceLT, Nat.reduceMul, Nat.reduceBEq, Int.reduceEq, Int.reduceLT, Int.reduceLE, Int.reduceNeg, Int.reduceToNat, reduceCtorEq, ho, Try.results8, e.enc_eq]); done) | ((simp only [go_sem, Nat.reduceEqDiff, Nat.reduceAdd, Nat.reduceSub, Nat.reduceLeDiff, Nat.reduceLT, Nat.reduceMul, Nat.reduceBEq, Int.reduceEq, Int.reduceLT, Int.reduceLE, Int.reduceNeg, Int.reduceToNat, reduceCtorEq, ho, Try.results8, e.enc_eq]); rfl)))
  simp only [go_sem, Nat.reduceEqDiff, Nat.reduceAdd, Nat.reduceSub, Nat.reduceLeDiff, Nat.reduceLT, Nat.reduceMul, Nat.reduceBEq, Int.reduceEq, Int.reduceLT, Int.reduceLE, Int.reduceNeg, Int.reduceToNat, reduceCtorEq, ho, Try.results8, decide_true, eq_self]
  refine GCall.fr ?_ (awake_fn) (.inl rfl) ?_; (focus (first | rfl | ((simp only [go_sem, Nat.reduceEqDiff, Nat.reduceAdd, Nat.reduceSub, Nat.reduceLeDiff, Nat.reduceLT, Nat.reduceMul, Nat.reduceBEq, Int.reduceEq, Int.reduceLT, Int.reduceLE, Int.reduceNeg, Int.reduceToNat, reduceCtorEq, ho, Try.results8]); done) | ((simp only [go_sem, Nat.reduceEqDiff, Nat.reduceAdd, Nat.reduceSub, Nat.reduceLeDiff, Nat.reduceLT, Nat.reduceMul, Nat.reduceBEq, Int.reduceEq, Int.reduceLT, Int.reduceLE, Int.reduceNeg, Int.reduceToNat, reduceCtorEq, ho, Try.results8]); rfl)))
  simp only [go_sem, Nat.reduceEqDiff, Nat.reduceAdd, Nat.reduceSub, Nat.reduceLeDiff, Nat.reduceLT, Nat.reduceMul, Nat.reduceBEq, Int.reduceEq, Int.reduceLT, Int.reduceLE, Int.reduceNeg, Int.reduceToNat, reduceCtorEq, ho, Try.results8]
end Go.Proofs.Ytiefnninebilbaa
/- The law's function on the comparison of expressions returns true; no condition. -/
set_option maxRecDepth 100000
set_option linter.unusedVariables false
set_option linter.unusedSimpArgs false
namespace Go.Proofs.Ytiefnninebilbaa
open Go Go.Sx

def Vl.eqB (a b : Vl) : Bool := decide (a.kind = b.kind) && (decide (a.int = b.int) && decide (a.text = b.text))
mutual
def Ex.same : Ex → Ex → Bool
  | .mk o i v n l, .mk o' i' v' n' l' => decide (o = o') && (decide (i = i') && (Vl.eqB v v' && (decide (n = n') && Ex.sames l l')))
def Ex.sames : List Ex → List Ex → Bool
  | [], [] => true
  | x :: l, y :: m => x.same y && Ex.sames l m
  | [], _ :: _ => false
  | _ :: _, [] => false
end
theorem Ex.same_eq (a b : Ex) : a.same b = (decide (a.op = b.op) && (decide (a.int = b.int) && (Vl.eqB a.val b.val && (decide (a.name = b.name) && Ex.sames a.args b.args)))) := by
  cases a; cases b; rfl
mutual
theorem Ex.same_self : ∀ e : Ex, e.same e = true
  | .mk o i v n l => by simp [Ex.same, Vl.eqB, Ex.sames_self l]
theorem Ex.sames_self : ∀ l : List Ex, Ex.sames l l = true
  | [] => rfl
  | e :: l => by simp [Ex.sames, Ex.same_self e, Ex.sames_self l]
end
theorem Ex.sames_len : ∀ {l m : List Ex}, Ex.sames l m = true → l.length = m.length
  | [], [], _ => rfl
  | x :: l, y :: m, h => by
    simp only [Ex.sames, Bool.and_eq_true] at h
    simp [Ex.sames_len h.2]
  | [], _ :: _, h => by simp [Ex.sames] at h
  | _ :: _, [], h => by simp [Ex.sames] at h
theorem exs_get {l done rest : List Ex} {x : Ex} (h : l = done ++ x :: rest) : (l.map Ex.enc)[done.length]? = some x.enc := by simp [h]
theorem ok121 : okCode M0 Try.f121.ntmps (Try.f121.body.getD .skip) = true := by decide +kernel
theorem eqf_fn (n : Nat) (IH : ∀ x y : Ex, x.size ≤ n → Fc 43 [x.enc, y.enc] (.bool (x.same y))) (l m : List Ex) (hs : Ex.sizes l ≤ n) (hl : l.length ≤ 1000000000) : Fc 121 [.sl (l.map Ex.enc), .sl (m.map Ex.enc), .fn 43 [] []] (.bool (Ex.sames l m)) := by
  refine fn_of_awp (E := E0) (M := M0) follows Try.func121 rfl (by decide) ok121 (by decide) (by simp) fun o ho => ?_
  simp only [go_sem, Nat.reduceEqDiff, Nat.reduceAdd, Nat.reduceSub, Nat.reduceLeDiff, Nat.reduceLT, Nat.reduceMul, Nat.reduceBEq, Int.reduceEq, Int.reduceLT, Int.reduceLE, Int.reduceNeg, Int.reduceToNat, reduceCtorEq, ho, Try.results121, List.length_map]
  by_cases hlen : l.length = m.length
  · have hlen' : (l.length : Int) = (m.length : Int) := by omega
    simp only [go_sem, Nat.reduceEqDiff, Nat.reduceAdd, Nat.reduceSub, Nat.reduceLeDiff, Nat.reduceLT, Nat.reduceMul, Nat.reduceBEq, Int.reduceEq, Int.reduceLT, Int.reduceLE, Int.reduceNeg, Int.reduceToNat, reduceCtorEq, ho, Try.results121, hlen', List.length_map]
    refine ⟨fun k st => ∃ (d1 r1 d2 r2 : List Ex), l = d1 ++ r1 ∧ m = d2 ++ r2 ∧ d1.length = d2.length ∧ r1.length = k ∧ Ex.sames r1 r2 = Ex.sames l m ∧ st.s 17 = .int .i64 d1.length ∧ st.s 16 = .int .i64 l.length ∧ st.s 15 = .sl (l.map Ex.enc) ∧ st.s 1 = .sl (m.map Ex.enc) ∧ st.s 2 = .fn 43 [] [], l.length,
      ⟨[], l, [], m, rfl, rfl, rfl, rfl, rfl, by simp only [go_sem, Nat.reduceEqDiff, Nat.reduceAdd, Nat.reduceSub, Nat.reduceLeDiff, Nat.reduceLT, Nat.reduceMul, Nat.reduceBEq, Int.reduceEq, Int.reduceLT, Int.reduceLE, Int.reduceNeg, Int.reduceToNat, reduceCtorEq, ho, Try.results121]; rfl, by simp only [go_sem, Nat.reduceEqDiff, Nat.reduceAdd, Nat.reduceSub, Nat.reduceLeDiff, Nat.reduceLT, Nat.reduceMul, Nat.reduceBEq, Int.reduceEq, Int.reduceLT, Int.reduceLE, Int.reduceNeg, Int.reduceToNat, reduceCtorEq, ho, Try.results121, hlen'], by simp only [go_sem, Nat.reduceEqDiff, Nat.reduceAdd, Nat.reduceSub, Nat.reduceLeDiff, Nat.reduceLT, Nat.reduceMul, Nat.reduceBEq, Int.reduceEq, Int.reduceLT, Int.reduceLE, Int.reduceNeg, Int.reduceToNat, reduceCtorEq, ho, Try.results121], by simp only [go_sem, Nat.reduceEqDiff, Nat.reduceAdd, Nat.reduceSub, Nat.reduceLeDiff, Nat.reduceLT, Nat.reduceMul, Nat.reduceBEq, Int.reduceEq, Int.reduceLT, Int.reduceLE, Int.reduceNeg, Int.reduceToNat, reduceCtorEq, ho, Try.results121], by simp only [go_sem, Nat.reduceEqDiff, Nat.reduceAdd, Nat.reduceSub, Nat.reduceLeDiff, Nat.reduceLT, Nat.reduceMul, Nat.reduceBEq, Int.reduceEq, Int.reduceLT, Int.reduceLE, Int.reduceNeg, Int.reduceToNat, reduceCtorEq, ho, Try.results121]⟩, ?_⟩
    rintro k st ⟨d1, r1, d2, r2, h1, h2, hd, hn, hf, h17, h16, h15, hs1, hs2⟩
    have hl1 : d1.length + r1.length = l.length := by rw [h1]; simp
    have hl2 : d2.length + r2.length = m.length := by rw [h2]; simp
    have hw : IntKind.i64.wrap ((d1.length : Int) + 1) = (d1.length : Int) + 1 := wrap_fits (by omega) (by omega)
    cases r1 with
    | nil =>
      have hlt : ¬ (d1.length : Int) < (l.length : Int) := by simp at hl1; omega
      obtain rfl : r2 = [] := List.eq_nil_of_length_eq_zero (by simp at hl1; omega)
      simp only [go_sem, Nat.reduceEqDiff, Nat.reduceAdd, Nat.reduceSub, Nat.reduceLeDiff, Nat.reduceLT, Nat.reduceMul, Nat.reduceBEq, Int.reduceEq, Int.reduceLT, Int.reduceLE, Int.reduceNeg, Int.reduceToNat, reduceCtorEq, ho, Try.results121, h17, h16, hlt]
      rw [← hf]; rfl
    | cons x r1 =>
      cases r2 with
      | nil => simp at hl1 hl2; omega
      | cons y r2 =>
        have hlt : (d1.length : Int) < (l.length : Int) := by simp at hl1; omega
        have hget := exs_get h1
        have hget2 : (m.map Ex.enc)[d1.length]? = some y.enc := by rw [hd, h2]; simp
        have hx : x.size ≤ n := by rw [h1, Ex.sizes_app] at hs; simp [Ex.sizes] at hs; omega
        rw [Ex.sames] at hf
        simp only [go_sem, Nat.reduceEqDiff, Nat.reduceAdd, Nat.reduceSub, Nat.reduceLeDiff, Nat.reduceLT, Nat.reduceMul, Nat.reduceBEq, Int.reduceEq, Int.reduceLT, Int.reduceLE, Int.reduceNeg, Int.reduceToNat, reduceCtorEq, ho, Try.results121, h17, h16, h15, hs1, hs2, hlt, hget, hget2, Int.natCast_nonneg, Int.toNat_natCast, List.nil_append, List.append_nil]
        refine GCall.fr ?_ (IH x y hx) (.inl rfl) ?_; (focus (first | rfl | ((simp only [go_sem, Nat.reduceEqDiff, Nat.reduceAdd, Nat.reduceSub, Nat.reduceLeDiff, Nat.reduceLT, Nat.reduceMul, Nat.reduceBEq, Int.reduceEq, Int.reduceLT, Int.reduceLE, Int.reduceNeg, Int.reduceToNat, reduceCtorEq, ho, Try.results121, x.enc_eq, y.enc_eq]); done) | ((simp only [go_sem, Nat.reduceEqDiff, Nat.reduceAdd, Nat.reduceSub, Nat.reduceLeDiff, Nat.reduceLT, Nat.reduceMul, Nat.reduceBEq, Int.reduceEq, Int.reduceLT, Int.reduceLE, Int.reduceNeg, Int.reduceToNat, reduceCtorEq, ho, Try.results121, x.enc_eq, y.enc_eq]); rfl)))
        simp only [go_sem, Nat.reduceEqDiff, Nat.reduceAdd, Nat.reduceSub, Nat.reduceLeDiff, Nat.reduceLT, Nat.reduceMul, Nat.reduceBEq, Int.reduceEq, Int.reduceLT, Int.reduceLE, Int.reduceNeg, Int.reduceToNat, reduceCtorEq, ho, Try.results121, h17, h16, h15, hs1, hs2]
        cases hxy : x.same y with
        | true =>
          rw [hxy, Bool.true_and] at hf
          simp only [go_sem, Nat.reduceEqDiff, Nat.reduceAdd, Nat.reduceSub, Nat.reduceLeDiff, Nat.reduceLT, Nat.reduceMul, Nat.reduceBEq, Int.reduceEq, Int.reduceLT, Int.reduceLE, Int.reduceNeg, Int.reduceToNat, reduceCtorEq, ho, Try.results121, hxy, h17, h16, h15, hs1, hs2, hw]
          exact ⟨r1.length, by simp at hn; omega, d1 ++ [x], r1, d2 ++ [y], r2, by simp [h1], by simp [h2], by simp [hd], rfl, hf, by simp⟩
        | false =>
          rw [hxy, Bool.false_and] at hf
          simp only [go_sem, Nat.reduceEqDiff, Nat.reduceAdd, Nat.reduceSub, Nat.reduceLeDiff, Nat.reduceLT, Nat.reduceMul, Nat.reduceBEq, Int.reduceEq, Int.reduceLT, Int.reduceLE, Int.reduceNeg, Int.reduceToNat, reduceCtorEq, ho, Try.results121, hxy]
          rw [← hf]
  · have hlen' : ¬ (l.length : Int) = (m.length : Int) := by omega
    simp only [go_sem, Nat.reduceEqDiff, Nat.reduceAdd, Nat.reduceSub, Nat.reduceLeDiff, Nat.reduceLT, Nat.reduceMul, Nat.reduceBEq, Int.reduceEq, Int.reduceLT, Int.reduceLE, Int.reduceNeg, Int.reduceToNat, reduceCtorEq, ho, Try.results121, hlen']
    cases hf : Ex.sames l m with
    | false => rfl
    | true => exact absurd (Ex.sames_len hf) hlen
theorem ok43 : okCode M0 Try.f43.ntmps (Try.f43.body.getD .skip) = true := by decide +kernel
theorem same_fn : ∀ (n : Nat), n ≤ 100000000 → ∀ a b : Ex, a.size ≤ n → Fc 43 [a.enc, b.enc] (.bool (a.same b))
  | 0, _, a, b, h => by have := a.size_pos; omega
  | n + 1, hn, a, b, h => by
    have hsz := a.size_eq
    have hlen := Ex.len_sizes a.args
    refine fn_of_awp (E := E0) (M := M0) follows Try.func43 rfl (by decide) ok43 (by decide) (by simp) fun o ho => ?_
    rw [Ex.same_eq]
    simp only [go_sem, Nat.reduceEqDiff, Nat.reduceAdd, Nat.reduceSub, Nat.reduceLeDiff, Nat.reduceLT, Nat.reduceMul, Nat.reduceBEq, Int.reduceEq, Int.reduceLT, Int.reduceLE, Int.reduceNeg, Int.reduceToNat, reduceCtorEq, ho, Try.results43, a.enc_eq, b.enc_eq]
    repeat' (first | (refine AIf_cases (fun h => ?_) (fun h => ?_) <;> (try simp only [decide_eq_true_eq, decide_eq_false_iff_not, Bool.not_eq_true', Bool.not_eq_false', Bool.not_eq_true, Bool.not_eq_false] at h) <;> (try simp only [go_sem, Nat.reduceEqDiff, Nat.reduceAdd, Nat.reduceSub, Nat.reduceLeDiff, Nat.reduceLT, Nat.reduceMul, Nat.reduceBEq, Int.reduceEq, Int.reduceLT, Int.reduceLE, Int.reduceNeg, Int.reduceToNat, reduceCtorEq, ho, Try.results43, h, a.enc_eq, b.enc_eq])) | (refine GCall.fr ?_ (eqf_fn n (same_fn n (by omega)) a.args b.args (by omega) (by omega)) (.inl rfl) ?_; (focus (first | rfl | ((simp only [go_sem, Nat.reduceEqDiff, Nat.reduceAdd, Nat.reduceSub, Nat.reduceLeDiff, Nat.reduceLT, Nat.reduceMul, Nat.reduceBEq, Int.reduceEq, Int.reduceLT, Int.reduceLE, Int.reduceNeg, Int.reduceToNat, reduceCtorEq, ho, Try.results43, a.enc_eq, b.enc_eq]); done) | ((simp only [go_sem, Nat.reduceEqDiff, Nat.reduceAdd, Nat.reduceSub, Nat.reduceLeDiff, Nat.reduceLT, Nat.reduceMul, Nat.reduceBEq, Int.reduceEq, Int.reduceLT, Int.reduceLE, Int.reduceNeg, Int.reduceToNat, reduceCtorEq, ho, Try.results43, a.enc_eq, b.enc_eq]); rfl))); (try simp only [go_sem, Nat.reduceEqDiff, Nat.reduceAdd, Nat.reduceSub, Nat.reduceLeDiff, Nat.reduceLT, Nat.reduceMul, Nat.reduceBEq, Int.reduceEq, Int.reduceLT, Int.reduceLE, Int.reduceNeg, Int.reduceToNat, reduceCtorEq, ho, Try.results43, a.enc_eq, b.enc_eq])) | (refine QCall.fr ?_ (eqf_fn n (same_fn n (by omega)) a.args b.args (by omega) (by omega)) (.inl rfl) ?_; (focus (first | rfl | ((simp only [go_sem, Nat.reduceEqDiff, Nat.reduceAdd, Nat.reduceSub, Nat.reduceLeDiff, Nat.reduceLT, Nat.reduceMul, Nat.reduceBEq, Int.reduceEq, Int.reduceLT, Int.reduceLE, Int.reduceNeg, Int.reduceToNat, reduceCtorEq, ho, Try.results43, a.enc_eq, b.enc_eq]); done) | ((simp only [go_sem, Nat.reduceEqDiff, Nat.reduceAdd, Nat.reduceSub, Nat.reduceLeDiff, Nat.reduceLT, Nat.reduceMul, Nat.reduceBEq, Int.reduceEq, Int.reduceLT, Int.reduceLE, Int.reduceNeg, Int.reduceToNat, reduceCtorEq, ho, Try.results43, a.enc_eq, b.enc_eq]); rfl))); (try simp only [go_sem, Nat.reduceEqDiff, Nat.reduceAdd, Nat.reduceSub, Nat.reduceLeDiff, Nat.reduceLT, Nat.reduceMul, Nat.reduceBEq, Int.reduceEq, Int.reduceLT, Int.reduceLE, Int.reduceNeg, Int.reduceToNat, reduceCtorEq, ho, Try.results43, a.enc_eq, b.enc_eq])))
    all_goals simp_all [Vl.eqB]
theorem ok44 : okCode M0 Try.f44.ntmps (Try.f44.body.getD .skip) = true := by decide +kernel
theorem rsame_fn : ∀ (n : Nat), n ≤ 100000000 → ∀ a b : Ex, a.size ≤ n → Fc 44 [a.enc, b.enc] (.bool (a.same b))
  | 0, _, a, b, h => by have := a.size_pos; omega
  | n + 1, hn, a, b, h => by
    have hsz := a.size_eq
    have hlen := Ex.len_sizes a.args
    refine fn_of_awp (E := E0) (M := M0) follows Try.func44 rfl (by decide) ok44 (by decide) (by simp) fun o ho => ?_
    simp only [go_sem, Nat.reduceEqDiff, Nat.reduceAdd, Nat.reduceSub, Nat.reduceLeDiff, Nat.reduceLT, Nat.reduceMul, Nat.reduceBEq, Int.reduceEq, Int.reduceLT, Int.reduceLE, Int.reduceNeg, Int.reduceToNat, reduceCtorEq, ho, Try.results44, a.enc_eq, b.enc_eq, List.length_map]
    by_cases hq : a.op = b.op
    case neg =>
      simp only [go_sem, Nat.reduceEqDiff, Nat.reduceAdd, Nat.reduceSub, Nat.reduceLeDiff, Nat.reduceLT, Nat.reduceMul, Nat.reduceBEq, Int.reduceEq, Int.reduceLT, Int.reduceLE, Int.reduceNeg, Int.reduceToNat, reduceCtorEq, ho, Try.results44, hq, Bool.and_false, Bool.false_and, decide_true, Bool.true_and, Bool.and_self, List.length_map]
      rw [Ex.same_eq]; simp [Vl.eqB, hq]
    by_cases hi : a.int = b.int
    case neg =>
      simp only [go_sem, Nat.reduceEqDiff, Nat.reduceAdd, Nat.reduceSub, Nat.reduceLeDiff, Nat.reduceLT, Nat.reduceMul, Nat.reduceBEq, Int.reduceEq, Int.reduceLT, Int.reduceLE, Int.reduceNeg, Int.reduceToNat, reduceCtorEq, ho, Try.results44, eq_true hq, hi, Bool.and_false, Bool.false_and, decide_true, Bool.true_and, Bool.and_self, List.length_map]
      rw [Ex.same_eq]; simp [Vl.eqB, hi]
    by_cases hk : a.val.kind = b.val.kind
    case neg =>
      simp only [go_sem, Nat.reduceEqDiff, Nat.reduceAdd, Nat.reduceSub, Nat.reduceLeDiff, Nat.reduceLT, Nat.reduceMul, Nat.reduceBEq, Int.reduceEq, Int.reduceLT, Int.reduceLE, Int.reduceNeg, Int.reduceToNat, reduceCtorEq, ho, Try.results44, eq_true hq, eq_true hi, hk, Bool.and_false, Bool.false_and, decide_true, Bool.true_and, Bool.and_self, List.length_map]
      rw [Ex.same_eq]; simp [Vl.eqB, hk]
    by_cases hv : a.val.int = b.val.int
    case neg =>
      simp only [go_sem, Nat.reduceEqDiff, Nat.reduceAdd, Nat.reduceSub, Nat.reduceLeDiff, Nat.reduceLT, Nat.reduceMul, Nat.reduceBEq, Int.reduceEq, Int.reduceLT, Int.reduceLE, Int.reduceNeg, Int.reduceToNat, reduceCtorEq, ho, Try.results44, eq_true hq, eq_true hi, eq_true hk, hv, Bool.and_false, Bool.false_and, decide_true, Bool.true_and, Bool.and_self, List.length_map]
      rw [Ex.same_eq]; simp [Vl.eqB, hv]
    by_cases ht : a.val.text = b.val.text
    case neg =>
      simp only [go_sem, Nat.reduceEqDiff, Nat.reduceAdd, Nat.reduceSub, Nat.reduceLeDiff, Nat.reduceLT, Nat.reduceMul, Nat.reduceBEq, Int.reduceEq, Int.reduceLT, Int.reduceLE, Int.reduceNeg, Int.reduceToNat, reduceCtorEq, ho, Try.results44, eq_true hq, eq_true hi, eq_true hk, eq_true hv, ht, Bool.and_false, Bool.false_and, decide_true, Bool.true_and, Bool.and_self, List.length_map]
      rw [Ex.same_eq]; simp [Vl.eqB, ht]
    by_cases hn' : a.name = b.name
    case neg =>
      simp only [go_sem, Nat.reduceEqDiff, Nat.reduceAdd, Nat.reduceSub, Nat.reduceLeDiff, Nat.reduceLT, Nat.reduceMul, Nat.reduceBEq, Int.reduceEq, Int.reduceLT, Int.reduceLE, Int.reduceNeg, Int.reduceToNat, reduceCtorEq, ho, Try.results44, eq_true hq, eq_true hi, eq_true hk, eq_true hv, eq_true ht, hn', Bool.and_false, Bool.false_and, decide_true, Bool.true_and, Bool.and_self, List.length_map]
      rw [Ex.same_eq]; simp [Vl.eqB, hn']
    by_cases hl : (a.args.length : Int) = (b.args.length : Int)
    case neg =>
      simp only [go_sem, Nat.reduceEqDiff, Nat.reduceAdd, Nat.reduceSub, Nat.reduceLeDiff, Nat.reduceLT, Nat.reduceMul, Nat.reduceBEq, Int.reduceEq, Int.reduceLT, Int.reduceLE, Int.reduceNeg, Int.reduceToNat, reduceCtorEq, ho, Try.results44, eq_true hq, eq_true hi, eq_true hk, eq_true hv, eq_true ht, eq_true hn', hl, Bool.and_false, Bool.false_and, decide_true, Bool.true_and, Bool.and_self, List.length_map]
      cases hf : a.same b with
      | false => rfl
      | true =>
        rw [Ex.same_eq] at hf
        simp only [Bool.and_eq_true] at hf
        exact absurd (congrArg (fun n : Nat => (n : Int)) (Ex.sames_len hf.2.2.2.2)) hl
    have hsame : a.same b = Ex.sames a.args b.args := by rw [Ex.same_eq]; simp [Vl.eqB, hq, hi, hk, hv, ht, hn']
    rw [hsame]
    simp only [go_sem, Nat.reduceEqDiff, Nat.reduceAdd, Nat.reduceSub, Nat.reduceLeDiff, Nat.reduceLT, Nat.reduceMul, Nat.reduceBEq, Int.reduceEq, Int.reduceLT, Int.reduceLE, Int.reduceNeg, Int.reduceToNat, reduceCtorEq, ho, Try.results44, eq_true hq, eq_true hi, eq_true hk, eq_true hv, eq_true ht, eq_true hn', eq_true hl, decide_true, Bool.true_and, Bool.and_self, List.length_map]
    refine ⟨fun k st => ∃ (d1 r1 d2 r2 : List Ex), a.args = d1 ++ r1 ∧ b.args = d2 ++ r2 ∧ d1.length = d2.length ∧ r1.length = k ∧ Ex.sames r1 r2 = Ex.sames a.args b.args ∧ st.s 5 = .int .i64 d1.length ∧ st.s 2 = .ptr 2 1 0 ∧ st.s 3 = .ptr 3 1 0 ∧ getBox st.o 2 1 = some (49, a.enc.cells) ∧ getBox st.o 3 1 = some (49, b.enc.cells), a.args.length,
      ⟨[], a.args, [], b.args, rfl, rfl, rfl, rfl, rfl, by simp only [go_sem, Nat.reduceEqDiff, Nat.reduceAdd, Nat.reduceSub, Nat.reduceLeDiff, Nat.reduceLT, Nat.reduceMul, Nat.reduceBEq, Int.reduceEq, Int.reduceLT, Int.reduceLE, Int.reduceNeg, Int.reduceToNat, reduceCtorEq, ho, Try.results44]; rfl, by simp only [go_sem, Nat.reduceEqDiff, Nat.reduceAdd, Nat.reduceSub, Nat.reduceLeDiff, Nat.reduceLT, Nat.reduceMul, Nat.reduceBEq, Int.reduceEq, Int.reduceLT, Int.reduceLE, Int.reduceNeg, Int.reduceToNat, reduceCtorEq, ho, Try.results44], by simp only [go_sem, Nat.reduceEqDiff, Nat.reduceAdd, Nat.reduceSub, Nat.reduceLeDiff, Nat.reduceLT, Nat.reduceMul, Nat.reduceBEq, Int.reduceEq, Int.reduceLT, Int.reduceLE, Int.reduceNeg, Int.reduceToNat, reduceCtorEq, ho, Try.results44], by simp only [go_sem, Nat.reduceEqDiff, Nat.reduceAdd, Nat.reduceSub, Nat.reduceLeDiff, Nat.reduceLT, Nat.reduceMul, Nat.reduceBEq, Int.reduceEq, Int.reduceLT, Int.reduceLE, Int.reduceNeg, Int.reduceToNat, reduceCtorEq, ho, Try.results44], by simp only [go_sem, Nat.reduceEqDiff, Nat.reduceAdd, Nat.reduceSub, Nat.reduceLeDiff, Nat.reduceLT, Nat.reduceMul, Nat.reduceBEq, Int.reduceEq, Int.reduceLT, Int.reduceLE, Int.reduceNeg, Int.reduceToNat, reduceCtorEq, ho, Try.results44]⟩, ?_⟩
    rintro k st ⟨d1, r1, d2, r2, h1, h2, hd, hm, hf, h5, hs2, hs3, hb2, hb3⟩
    have hl1 : d1.length + r1.length = a.args.length := by rw [h1]; simp
    have hl2 : d2.length + r2.length = b.args.length := by rw [h2]; simp
    have hw : IntKind.i64.wrap ((d1.length : Int) + 1) = (d1.length : Int) + 1 := wrap_fits (by omega) (by omega)
    cases r1 with
    | nil =>
      have hlt : ¬ (d1.length : Int) < (a.args.length : Int) := by simp at hl1; omega
      obtain rfl : r2 = [] := List.eq_nil_of_length_eq_zero (by simp at hl1; omega)
      simp only [go_sem, Nat.reduceEqDiff, Nat.reduceAdd, Nat.reduceSub, Nat.reduceLeDiff, Nat.reduceLT, Nat.reduceMul, Nat.reduceBEq, Int.reduceEq, Int.reduceLT, Int.reduceLE, Int.reduceNeg, Int.reduceToNat, reduceCtorEq, ho, Try.results44, h5, hs2, hb2, hlt, List.length_map]
      rw [← hf]; rfl
    | cons x r1 =>
      cases r2 with
      | nil => simp at hl1 hl2; omega
      | cons y r2 =>
        have hlt : (d1.length : Int) < (a.args.length : Int) := by simp at hl1; omega
        have hget := exs_get h1
        have hget2 : (b.args.map Ex.enc)[d1.length]? = some y.enc := by rw [hd, h2]; simp
        have hx : x.size ≤ n := by have := hsz; rw [h1, Ex.sizes_app] at this; simp [Ex.sizes] at this; omega
        rw [Ex.sames] at hf
        simp only [go_sem, Nat.reduceEqDiff, Nat.reduceAdd, Nat.reduceSub, Nat.reduceLeDiff, Nat.reduceLT, Nat.reduceMul, Nat.reduceBEq, Int.reduceEq, Int.reduceLT, Int.reduceLE, Int.reduceNeg, Int.reduceToNat, reduceCtorEq, ho, Try.results44, h5, hs2, hs3, hb2, hb3, hlt, hget, hget2, Int.natCast_nonneg, Int.toNat_natCast, List.length_map]
        refine QCall.fr ?_ (rsame_fn n (by omega) x y hx) (.inl rfl) ?_; (focus (first | rfl | ((simp only [go_sem, Nat.reduceEqDiff, Nat.reduceAdd, Nat.reduceSub, Nat.reduceLeDiff, Nat.reduceLT, Nat.reduceMul, Nat.reduceBEq, Int.reduceEq, Int.reduceLT, Int.reduceLE, Int.reduceNeg, Int.reduceToNat, reduceCtorEq, ho, Try.results44, x.enc_eq, y.enc_eq]); done) | ((simp only [go_sem, Nat.reduceEqDiff, Nat.reduceAdd, Nat.reduceSub, Nat.reduceLeDiff, Nat.reduceLT, Nat.reduceMul, Nat.reduceBEq, Int.reduceEq, Int.reduceLT, Int.reduceLE, Int.reduceNeg, Int.reduceToNat, reduceCtorEq, ho, Try.results44, x.enc_eq, y.enc_eq]); rfl)))
        simp only [go_sem, Nat.reduceEqDiff, Nat.reduceAdd, Nat.reduceSub, Nat.reduceLeDiff, Nat.reduceLT, Nat.reduceMul, Nat.reduceBEq, Int.reduceEq, Int.reduceLT, Int.reduceLE, Int.reduceNeg, Int.reduceToNat, reduceCtorEq, ho, Try.results44, h5, hs2, hs3, hb2, hb3]
        cases hxy : x.same y with
        | true =>
          rw [hxy, Bool.true_and] at hf
          have hb2' := hb2
          rw [a.enc_cells] at hb2'
          have hb3' := hb3
          rw [b.enc_cells] at hb3'
          simp only [go_sem, Nat.reduceEqDiff, Nat.reduceAdd, Nat.reduceSub, Nat.reduceLeDiff, Nat.reduceLT, Nat.reduceMul, Nat.reduceBEq, Int.reduceEq, Int.reduceLT, Int.reduceLE, Int.reduceNeg, Int.reduceToNat, reduceCtorEq, ho, Try.results44, hxy, h5, hs2, hs3, hb2', hb3', hw]
          exact ⟨r1.length, by simp at hm; omega, d1 ++ [x], r1, d2 ++ [y], r2, by simp [h1], by simp [h2], by simp [hd], rfl, hf, by simp⟩
        | false =>
          rw [hxy, Bool.false_and] at hf
          simp only [go_sem, Nat.reduceEqDiff, Nat.reduceAdd, Nat.reduceSub, Nat.reduceLeDiff, Nat.reduceLT, Nat.reduceMul, Nat.reduceBEq, Int.reduceEq, Int.reduceLT, Int.reduceLE, Int.reduceNeg, Int.reduceToNat, reduceCtorEq, ho, Try.results44, hxy]
          rw [← hf]
theorem ok46 : okCode M0 Try.f46.ntmps (Try.f46.body.getD .skip) = true := by decide +kernel
theorem rdepthMax_fn (e : Ex) (h : e.size ≤ 1000000000) : Fc 46 [e.enc] (.int .i64 (min (e.depth : Int) 25)) := by
  refine fn_of_awp (E := E0) (M := M0) follows Try.func46 rfl (by decide) ok46 (by decide) (by simp) fun o ho => ?_
  simp only [go_sem, Nat.reduceEqDiff, Nat.reduceAdd, Nat.reduceSub, Nat.reduceLeDiff, Nat.reduceLT, Nat.reduceMul, Nat.reduceBEq, Int.reduceEq, Int.reduceLT, Int.reduceLE, Int.reduceNeg, Int.reduceToNat, reduceCtorEq, ho, Try.results46, e.enc_eq]
  refine GCall.fr ?_ (rdepth_fn _ e (Nat.le_refl _) h) (.inl rfl) ?_; (focus (first | rfl | ((simp only [go_sem, Nat.reduceEqDiff, Nat.reduceAdd, Nat.reduceSub, Nat.reduceLeDiff, Nat.reduceLT, Nat.reduceMul, Nat.reduceBEq, Int.reduceEq, Int.reduceLT, Int.reduceLE, Int.reduceNeg, Int.reduceToNat, reduceCtorEq, ho, Try.results46, e.enc_eq]); done) | ((simp only [go_sem, Nat.reduceEqDiff, Nat.reduceAdd, Nat.reduceSub, Nat.reduceLeDiff, Nat.reduceLT, Nat.reduceMul, Nat.reduceBEq, Int.reduceEq, Int.reduceLT, Int.reduceLE, Int.reduceNeg, Int.reduceToNat, reduceCtorEq, ho, Try.results46, e.enc_eq]); rfl)))
  simp only [go_sem, Nat.reduceEqDiff, Nat.reduceAdd, Nat.reduceSub, Nat.reduceLeDiff, Nat.reduceLT, Nat.reduceMul, Nat.reduceBEq, Int.reduceEq, Int.reduceLT, Int.reduceLE, Int.reduceNeg, Int.reduceToNat, reduceCtorEq, ho, Try.results46]
  split <;> omega
theorem ok11 : okCode M0 Try.f11.ntmps (Try.f11.body.getD .skip) = true := by decide +kernel
theorem exprCompares_fn (a b : Ex) (h : a.bulk + b.bulk ≤ 1048576) : Fc 11 [a.enc, b.enc] (.bool true) := by
  have hs := a.size_bulk
  refine fn_of_awp (E := E0) (M := M0) follows Try.func11 rfl (by decide) ok11 (by decide) (by simp) fun o ho => ?_
  simp only [go_sem, Nat.reduceEqDiff, Nat.reduceAdd, Nat.reduceSub, Nat.reduceLeDiff, Nat.reduceLT, Nat.reduceMul, Nat.reduceBEq, Int.reduceEq, Int.reduceLT, Int.reduceLE, Int.reduceNeg, Int.reduceToNat, reduceCtorEq, ho, Try.results11, a.enc_eq, b.enc_eq]
  refine QCall.fr ?_ (same_fn _ (by omega) a b (Nat.le_refl _)) (.inl rfl) ?_; (focus (first | rfl | ((simp only [go_sem, Nat.reduceEqDiff, Nat.reduceAdd, Nat.reduceSub, Nat.reduceLeDiff, Nat.reduceLT, Nat.reduceMul, Nat.reduceBEq, Int.reduceEq, Int.reduceLT, Int.reduceLE, Int.reduceNeg, Int.reduceToNat, reduceCtorEq, ho, Try.results11, a.enc_eq, b.enc_eq]); done) | ((simp only [go_sem, Nat.reduceEqDiff, Nat.reduceAdd, Nat.reduceSub, Nat.reduceLeDiff, Nat.reduceLT, Nat.reduceMul, Nat.reduceBEq, Int.reduceEq, Int.reduceLT, Int.reduceLE, Int.reduceNeg, Int.reduceToNat, reduceCtorEq, ho, Try.results11, a.enc_eq, b.enc_eq]); rfl)))
  simp only [go_sem, Nat.reduceEqDiff, Nat.reduceAdd, Nat.reduceSub, Nat.reduceLeDiff, Nat.reduceLT, Nat.reduceMul, Nat.reduceBEq, Int.reduceEq, Int.reduceLT, Int.reduceLE, Int.reduceNeg, Int.reduceToNat, reduceCtorEq, ho, Try.results11, a.enc_eq, b.enc_eq]
  refine QCall.fr ?_ (rsame_fn _ (by omega) a b (Nat.le_refl _)) (.inl rfl) ?_; (focus (first | rfl | ((simp only [go_sem, Nat.reduceEqDiff, Nat.reduceAdd, Nat.reduceSub, Nat.reduceLeDiff, Nat.reduceLT, Nat.reduceMul, Nat.reduceBEq, Int.reduceEq, Int.reduceLT, Int.reduceLE, Int.reduceNeg, Int.reduceToNat, reduceCtorEq, ho, Try.results11, a.enc_eq, b.enc_eq]); done) | ((simp only [go_sem, Nat.reduceEqDiff, Nat.reduceAdd, Nat.reduceSub, Nat.reduceLeDiff, Nat.reduceLT, Nat.reduceMul, Nat.reduceBEq, Int.reduceEq, Int.reduceLT, Int.reduceLE, Int.reduceNeg, Int.reduceToNat, reduceCtorEq, ho, Try.results11, a.enc_eq, b.enc_eq]); rfl)))
  simp only [go_sem, Nat.reduceEqDiff, Nat.reduceAdd, Nat.reduceSub, Nat.reduceLeDiff, Nat.reduceLT, Nat.reduceMul, Nat.reduceBEq, Int.reduceEq, Int.reduceLT, Int.reduceLE, Int.reduceNeg, Int.reduceToNat, reduceCtorEq, ho, Try.results11, a.enc_eq, b.enc_eq, beq_self_eq_true]
  refine QCall.fr ?_ (same_fn _ (by omega) a a (Nat.le_refl _)) (.inl rfl) ?_; (focus (first | rfl | ((simp only [go_sem, Nat.reduceEqDiff, Nat.reduceAdd, Nat.reduceSub, Nat.reduceLeDiff, Nat.reduceLT, Nat.reduceMul, Nat.reduceBEq, Int.reduceEq, Int.reduceLT, Int.reduceLE, Int.reduceNeg, Int.reduceToNat, reduceCtorEq, ho, Try.results11, a.enc_eq, b.enc_eq]); done) | ((simp only [go_sem, Nat.reduceEqDiff, Nat.reduceAdd, Nat.reduceSub, Nat.reduceLeDiff, Nat.reduceLT, Nat.reduceMul, Nat.reduceBEq, Int.reduceEq, Int.reduceLT, Int.reduceLE, Int.reduceNeg, Int.reduceToNat, reduceCtorEq, ho, Try.results11, a.enc_eq, b.enc_eq]); rfl)))
  simp only [go_sem, Nat.reduceEqDiff, Nat.reduceAdd, Nat.reduceSub, Nat.reduceLeDiff, Nat.reduceLT, Nat.reduceMul, Nat.reduceBEq, Int.reduceEq, Int.reduceLT, Int.reduceLE, Int.reduceNeg, Int.reduceToNat, reduceCtorEq, ho, Try.results11, Ex.same_self]
  refine QCall.fr ?_ (depthMax_fn a (by omega)) (.inl rfl) ?_; (focus (first | rfl | ((simp only [go_sem, Nat.reduceEqDiff, Nat.reduceAdd, Nat.reduceSub, Nat.reduceLeDiff, Nat.reduceLT, Nat.reduceMul, Nat.reduceBEq, Int.reduceEq, Int.reduceLT, Int.reduceLE, Int.reduceNeg, Int.reduceToNat, reduceCtorEq, ho, Try.results11, a.enc_eq]); done) | ((simp only [go_sem, Nat.reduceEqDiff, Nat.reduceAdd, Nat.reduceSub, Nat.reduceLeDiff, Nat.reduceLT, Nat.reduceMul, Nat.reduceBEq, Int.reduceEq, Int.reduceLT, Int.reduceLE, Int.reduceNeg, Int.reduceToNat, reduceCtorEq, ho, Try.results11, a.enc_eq]); rfl)))
  simp only [go_sem, Nat.reduceEqDiff, Nat.reduceAdd, Nat.reduceSub, Nat.reduceLeDiff, Nat.reduceLT, Nat.reduceMul, Nat.reduceBEq, Int.reduceEq, Int.reduceLT, Int.reduceLE, Int.reduceNeg, Int.reduceToNat, reduceCtorEq, ho, Try.results11]
  refine QCall.fr ?_ (rdepthMax_fn a (by omega)) (.inl rfl) ?_; (focus (first | rfl | ((simp only [go_sem, Nat.reduceEqDiff, Nat.reduceAdd, Nat.reduceSub, Nat.reduceLeDiff, Nat.reduceLT, Nat.reduceMul, Nat.reduceBEq, Int.reduceEq, Int.reduceLT, Int.reduceLE, Int.reduceNeg, Int.reduceToNat, reduceCtorEq, ho, Try.results11, a.enc_eq]); done) | ((simp only [go_sem, Nat.reduceEqDiff, Nat.reduceAdd, Nat.reduceSub, Nat.reduceLeDiff, Nat.reduceLT, Nat.reduceMul, Nat.reduceBEq, Int.reduceEq, Int.reduceLT, Int.reduceLE, Int.reduceNeg, Int.reduceToNat, reduceCtorEq, ho, Try.results11, a.enc_eq]); rfl)))
  simp only [go_sem, Nat.reduceEqDiff, Nat.reduceAdd, Nat.reduceSub, Nat.reduceLeDiff, Nat.reduceLT, Nat.reduceMul, Nat.reduceBEq, Int.reduceEq, Int.reduceLT, Int.reduceLE, Int.reduceNeg, Int.reduceToNat, reduceCtorEq, ho, Try.results11, decide_true, eq_self]
  refine QCall.fr ?_ (awake_fn) (.inl rfl) ?_; (focus (first | rfl | ((simp only [go_sem, Nat.reduceEqDiff, Nat.reduceAdd, Nat.reduceSub, Nat.reduceLeDiff, Nat.reduceLT, Nat.reduceMul, Nat.reduceBEq, Int.reduceEq, Int.reduceLT, Int.reduceLE, Int.reduceNeg, Int.reduceToNat, reduceCtorEq, ho, Try.results11]); done) | ((simp only [go_sem, Nat.reduceEqDiff, Nat.reduceAdd, Nat.reduceSub, Nat.reduceLeDiff, Nat.reduceLT, Nat.reduceMul, Nat.reduceBEq, Int.reduceEq, Int.reduceLT, Int.reduceLE, Int.reduceNeg, Int.reduceToNat, reduceCtorEq, ho, Try.results11]); rfl)))
  simp only [go_sem, Nat.reduceEqDiff, Nat.reduceAdd, Nat.reduceSub, Nat.reduceLeDiff, Nat.reduceLT, Nat.reduceMul, Nat.reduceBEq, Int.reduceEq, Int.reduceLT, Int.reduceLE, Int.reduceNeg, Int.reduceToNat, reduceCtorEq, ho, Try.results11]
end Go.Proofs.Ytiefnninebilbaa
/- The examples of the chapter on predicates hold; no condition. -/
set_option maxRecDepth 100000
set_option linter.unusedVariables false
set_option linter.unusedSimpArgs false
namespace Go.Proofs.Ytiefnninebilbaa
open Go Go.Sx

def cmpE (op col n : Int) : Ex := .mk op 0 Vl.null emp [.mk 2 col Vl.null emp [], .mk 1 0 ⟨1, n, emp⟩ emp []]
def andE (a b : Ex) : Ex := .mk 5 0 Vl.null emp [a, b]
theorem ok126 : okCode M0 Try.f126.ntmps (Try.f126.body.getD .skip) = true := by decide +kernel
theorem cmpE_fn (op col n : Int) : Fc 126 [.int .i64 op, .int .i64 col, .int .i64 n] (cmpE op col n).enc := by
  refine fn_of_awp (E := E0) (M := M0) follows Try.func126 rfl (by decide) ok126 (by decide) (by simp) fun o ho => ?_
  simp only [go_sem, Nat.reduceEqDiff, Nat.reduceAdd, Nat.reduceSub, Nat.reduceLeDiff, Nat.reduceLT, Nat.reduceMul, Nat.reduceBEq, Int.reduceEq, Int.reduceLT, Int.reduceLE, Int.reduceNeg, Int.reduceToNat, reduceCtorEq, ho, Try.results126, cmpE, Ex.enc, Ex.encs, Vl.null]
theorem ok127 : okCode M0 Try.f127.ntmps (Try.f127.body.getD .skip) = true := by decide +kernel
theorem andE_fn (a b : Ex) : Fc 127 [a.enc, b.enc] (andE a b).enc := by
  refine fn_of_awp (E := E0) (M := M0) follows Try.func127 rfl (by decide) ok127 (by decide) (by simp) fun o ho => ?_
  simp only [go_sem, Nat.reduceEqDiff, Nat.reduceAdd, Nat.reduceSub, Nat.reduceLeDiff, Nat.reduceLT, Nat.reduceMul, Nat.reduceBEq, Int.reduceEq, Int.reduceLT, Int.reduceLE, Int.reduceNeg, Int.reduceToNat, reduceCtorEq, ho, Try.results127, a.enc_eq, b.enc_eq]
  simp [andE, Ex.enc, Ex.encs, Vl.null, a.enc_eq, b.enc_eq]
def lt30 : Ex := .mk 9 0 Vl.null emp [.mk 1 0 ⟨1, 3, emp⟩ emp [], .mk 2 0 Vl.null emp []]
def aw1 : Ex := andE (cmpE 10 0 5) (cmpE 11 1 5)
def aw2 : Ex := andE aw1 (cmpE 8 2 0)
def aw3 : Ex := andE lt30 (cmpE 10 0 4)
def aw4 : Ex := andE lt30 (cmpE 9 0 4)
theorem awW : winPV (winL 0 1 aw1.conds (0, 1099511627775) (1, 1099511627776)) = .tup [.agg [.int .i64 5, .int .i64 6], .bool true] := by kernel_rfl
theorem awC : aw2.conj.flatMap newConj = [(cmpE 10 0 5).enc, (cmpE 11 1 5).enc, (cmpE 8 2 0).enc] := by kernel_rfl
theorem awD : aw3.conds.map Cd.enc = [.agg [.int .i64 11, .int .i64 0, .int .i64 1, .int .i64 3, .str emp], .agg [.int .i64 10, .int .i64 0, .int .i64 1, .int .i64 4, .str emp]] := by kernel_rfl
theorem awS : (cmpE 8 2 0).same (cmpE 8 2 0) = true := by kernel_rfl
theorem awN3 : neverP aw3 = false := by kernel_rfl
theorem awN4 : neverP aw4 = true := by kernel_rfl
def M49 : Nat → Nat → Option Md := fun id i => if id = 5 then (if i = 2 then some .t else none) else if id = 6 then (if i = 48 then some .t else if i = 55 then some .t else none) else none
theorem ok49 : okCode M49 Try.f49.ntmps (Try.f49.body.getD .skip) = true := by decide +kernel
set_option maxHeartbeats 4000000 in
theorem awakeP_fn : Fc 49 [] (.bool true) := by
  have n3 : ((3 : Nat) : Int) = 3 := rfl
  have n2 : ((2 : Nat) : Int) = 2 := rfl
  refine fn_of_awp (E := E0) (M := M49) follows Try.func49 rfl (by decide) ok49 (by decide) (by simp) fun o ho => ?_
  simp only [go_sem, Nat.reduceEqDiff, Nat.reduceAdd, Nat.reduceSub, Nat.reduceLeDiff, Nat.reduceLT, Nat.reduceMul, Nat.reduceBEq, Int.reduceEq, Int.reduceLT, Int.reduceLE, Int.reduceNeg, Int.reduceToNat, reduceCtorEq, ho, Try.results49]
  refine GCall.fr ?_ (cmpE_fn 10 0 5) (.inr rfl) ?_; (focus (first | rfl | ((simp only [go_sem, Nat.reduceEqDiff, Nat.reduceAdd, Nat.reduceSub, Nat.reduceLeDiff, Nat.reduceLT, Nat.reduceMul, Nat.reduceBEq, Int.reduceEq, Int.reduceLT, Int.reduceLE, Int.reduceNeg, Int.reduceToNat, reduceCtorEq, ho, Try.results49, Ex.enc, Ex.encs, Vl.null, Vl.enc, cmpE, andE, lt30, aw1, aw2, aw3, aw4]); done) | ((simp only [go_sem, Nat.reduceEqDiff, Nat.reduceAdd, Nat.reduceSub, Nat.reduceLeDiff, Nat.reduceLT, Nat.reduceMul, Nat.reduceBEq, Int.reduceEq, Int.reduceLT, Int.reduceLE, Int.reduceNeg, Int.reduceToNat, reduceCtorEq, ho, Try.results49, Ex.enc, Ex.encs, Vl.null, Vl.enc, cmpE, andE, lt30, aw1, aw2, aw3, aw4]); rfl)))
  simp only [go_sem, Nat.reduceEqDiff, Nat.reduceAdd, Nat.reduceSub, Nat.reduceLeDiff, Nat.reduceLT, Nat.reduceMul, Nat.reduceBEq, Int.reduceEq, Int.reduceLT, Int.reduceLE, Int.reduceNeg, Int.reduceToNat, reduceCtorEq, ho, Try.results49]
  refine GCall.fr ?_ (cmpE_fn 11 1 5) (.inr rfl) ?_; (focus (first | rfl | ((simp only [go_sem, Nat.reduceEqDiff, Nat.reduceAdd, Nat.reduceSub, Nat.reduceLeDiff, Nat.reduceLT, Nat.reduceMul, Nat.reduceBEq, Int.reduceEq, Int.reduceLT, Int.reduceLE, Int.reduceNeg, Int.reduceToNat, reduceCtorEq, ho, Try.results49, Ex.enc, Ex.encs, Vl.null, Vl.enc, cmpE, andE, lt30, aw1, aw2, aw3, aw4]); done) | ((simp only [go_sem, Nat.reduceEqDiff, Nat.reduceAdd, Nat.reduceSub, Nat.reduceLeDiff, Nat.reduceLT, Nat.reduceMul, Nat.reduceBEq, Int.reduceEq, Int.reduceLT, Int.reduceLE, Int.reduceNeg, Int.reduceToNat, reduceCtorEq, ho, Try.results49, Ex.enc, Ex.encs, Vl.null, Vl.enc, cmpE, andE, lt30, aw1, aw2, aw3, aw4]); rfl)))
  simp only [go_sem, Nat.reduceEqDiff, Nat.reduceAdd, Nat.reduceSub, Nat.reduceLeDiff, Nat.reduceLT, Nat.reduceMul, Nat.reduceBEq, Int.reduceEq, Int.reduceLT, Int.reduceLE, Int.reduceNeg, Int.reduceToNat, reduceCtorEq, ho, Try.results49]
  refine GCall.fr ?_ (cmpE_fn 8 2 0) (.inr rfl) ?_; (focus (first | rfl | ((simp only [go_sem, Nat.reduceEqDiff, Nat.reduceAdd, Nat.reduceSub, Nat.reduceLeDiff, Nat.reduceLT, Nat.reduceMul, Nat.reduceBEq, Int.reduceEq, Int.reduceLT, Int.reduceLE, Int.reduceNeg, Int.reduceToNat, reduceCtorEq, ho, Try.results49, Ex.enc, Ex.encs, Vl.null, Vl.enc, cmpE, andE, lt30, aw1, aw2, aw3, aw4]); done) | ((simp only [go_sem, Nat.reduceEqDiff, Nat.reduceAdd, Nat.reduceSub, Nat.reduceLeDiff, Nat.reduceLT, Nat.reduceMul, Nat.reduceBEq, Int.reduceEq, Int.reduceLT, Int.reduceLE, Int.reduceNeg, Int.reduceToNat, reduceCtorEq, ho, Try.results49, Ex.enc, Ex.encs, Vl.null, Vl.enc, cmpE, andE, lt30, aw1, aw2, aw3, aw4]); rfl)))
  simp only [go_sem, Nat.reduceEqDiff, Nat.reduceAdd, Nat.reduceSub, Nat.reduceLeDiff, Nat.reduceLT, Nat.reduceMul, Nat.reduceBEq, Int.reduceEq, Int.reduceLT, Int.reduceLE, Int.reduceNeg, Int.reduceToNat, reduceCtorEq, ho, Try.results49, Ex.enc, Ex.encs, Vl.null, Vl.enc, cmpE, andE, lt30, aw1, aw2, aw3, aw4]
  refine GCall.fr ?_ (andE_fn (cmpE 10 0 5) (cmpE 11 1 5)) (.inr rfl) ?_; (focus (first | rfl | ((simp only [go_sem, Nat.reduceEqDiff, Nat.reduceAdd, Nat.reduceSub, Nat.reduceLeDiff, Nat.reduceLT, Nat.reduceMul, Nat.reduceBEq, Int.reduceEq, Int.reduceLT, Int.reduceLE, Int.reduceNeg, Int.reduceToNat, reduceCtorEq, ho, Try.results49, Ex.enc, Ex.encs, Vl.null, Vl.enc, cmpE, andE, lt30, aw1, aw2, aw3, aw4]); done) | ((simp only [go_sem, Nat.reduceEqDiff, Nat.reduceAdd, Nat.reduceSub, Nat.reduceLeDiff, Nat.reduceLT, Nat.reduceMul, Nat.reduceBEq, Int.reduceEq, Int.reduceLT, Int.reduceLE, Int.reduceNeg, Int.reduceToNat, reduceCtorEq, ho, Try.results49, Ex.enc, Ex.encs, Vl.null, Vl.enc, cmpE, andE, lt30, aw1, aw2, aw3, aw4]); rfl)))
  (try simp only [go_sem, Nat.reduceEqDiff, Nat.reduceAdd, Nat.reduceSub, Nat.reduceLeDiff, Nat.reduceLT, Nat.reduceMul, Nat.reduceBEq, Int.reduceEq, Int.reduceLT, Int.reduceLE, Int.reduceNeg, Int.reduceToNat, reduceCtorEq, ho, Try.results49])
  refine GCall.fr ?_ (window_fn aw1 0 1 (by decide)) (.inl rfl) ?_; (focus (first | rfl | ((simp only [go_sem, Nat.reduceEqDiff, Nat.reduceAdd, Nat.reduceSub, Nat.reduceLeDiff, Nat.reduceLT, Nat.reduceMul, Nat.reduceBEq, Int.reduceEq, Int.reduceLT, Int.reduceLE, Int.reduceNeg, Int.reduceToNat, reduceCtorEq, ho, Try.results49, Ex.enc, Ex.encs, Vl.null, Vl.enc, cmpE, andE, lt30, aw1, aw2, aw3, aw4]); done) | ((simp only [go_sem, Nat.reduceEqDiff, Nat.reduceAdd, Nat.reduceSub, Nat.reduceLeDiff, Nat.reduceLT, Nat.reduceMul, Nat.reduceBEq, Int.reduceEq, Int.reduceLT, Int.reduceLE, Int.reduceNeg, Int.reduceToNat, reduceCtorEq, ho, Try.results49, Ex.enc, Ex.encs, Vl.null, Vl.enc, cmpE, andE, lt30, aw1, aw2, aw3, aw4]); rfl)))
  simp only [go_sem, Nat.reduceEqDiff, Nat.reduceAdd, Nat.reduceSub, Nat.reduceLeDiff, Nat.reduceLT, Nat.reduceMul, Nat.reduceBEq, Int.reduceEq, Int.reduceLT, Int.reduceLE, Int.reduceNeg, Int.reduceToNat, reduceCtorEq, ho, Try.results49, awW]
  (try simp only [go_sem, Nat.reduceEqDiff, Nat.reduceAdd, Nat.reduceSub, Nat.reduceLeDiff, Nat.reduceLT, Nat.reduceMul, Nat.reduceBEq, Int.reduceEq, Int.reduceLT, Int.reduceLE, Int.reduceNeg, Int.reduceToNat, reduceCtorEq, ho, Try.results49, Ex.enc, Ex.encs, Vl.null, Vl.enc, cmpE, andE, lt30, aw1, aw2, aw3, aw4])
  refine QCall.fr ?_ (andE_fn (cmpE 10 0 5) (cmpE 11 1 5)) (.inr rfl) ?_; (focus (first | rfl | ((simp only [go_sem, Nat.reduceEqDiff, Nat.reduceAdd, Nat.reduceSub, Nat.reduceLeDiff, Nat.reduceLT, Nat.reduceMul, Nat.reduceBEq, Int.reduceEq, Int.reduceLT, Int.reduceLE, Int.reduceNeg, Int.reduceToNat, reduceCtorEq, ho, Try.results49, Ex.enc, Ex.encs, Vl.null, Vl.enc, cmpE, andE, lt30, aw1, aw2, aw3, aw4]); done) | ((simp only [go_sem, Nat.reduceEqDiff, Nat.reduceAdd, Nat.reduceSub, Nat.reduceLeDiff, Nat.reduceLT, Nat.reduceMul, Nat.reduceBEq, Int.reduceEq, Int.reduceLT, Int.reduceLE, Int.reduceNeg, Int.reduceToNat, reduceCtorEq, ho, Try.results49, Ex.enc, Ex.encs, Vl.null, Vl.enc, cmpE, andE, lt30, aw1, aw2, aw3, aw4]); rfl)))
  simp only [go_sem, Nat.reduceEqDiff, Nat.reduceAdd, Nat.reduceSub, Nat.reduceLeDiff, Nat.reduceLT, Nat.reduceMul, Nat.reduceBEq, Int.reduceEq, Int.reduceLT, Int.reduceLE, Int.reduceNeg, Int.reduceToNat, reduceCtorEq, ho, Try.results49, Ex.enc, Ex.encs, Vl.null, Vl.enc, cmpE, andE, lt30, aw1, aw2, aw3, aw4]
  refine QCall.fr ?_ (andE_fn aw1 (cmpE 8 2 0)) (.inr rfl) ?_; (focus (first | rfl | ((simp only [go_sem, Nat.reduceEqDiff, Nat.reduceAdd, Nat.reduceSub, Nat.reduceLeDiff, Nat.reduceLT, Nat.reduceMul, Nat.reduceBEq, Int.reduceEq, Int.reduceLT, Int.reduceLE, Int.reduceNeg, Int.reduceToNat, reduceCtorEq, ho, Try.results49, Ex.enc, Ex.encs, Vl.null, Vl.enc, cmpE, andE, lt30, aw1, aw2, aw3, aw4]); done) | ((simp only [go_sem, Nat.reduceEqDiff, Nat.reduceAdd, Nat.reduceSub, Nat.reduceLeDiff, Nat.reduceLT, Nat.reduceMul, Nat.reduceBEq, Int.reduceEq, Int.reduceLT, Int.reduceLE, Int.reduceNeg, Int.reduceToNat, reduceCtorEq, ho, Try.results49, Ex.enc, Ex.encs, Vl.null, Vl.enc, cmpE, andE, lt30, aw1, aw2, aw3, aw4]); rfl)))
  (try simp only [go_sem, Nat.reduceEqDiff, Nat.reduceAdd, Nat.reduceSub, Nat.reduceLeDiff, Nat.reduceLT, Nat.reduceMul, Nat.reduceBEq, Int.reduceEq, Int.reduceLT, Int.reduceLE, Int.reduceNeg, Int.reduceToNat, reduceCtorEq, ho, Try.results49])
  refine QCall.fr ?_ (conjuncts_fn aw2 (by decide)) (.inr rfl) ?_; (focus (first | rfl | ((simp only [go_sem, Nat.reduceEqDiff, Nat.reduceAdd, Nat.reduceSub, Nat.reduceLeDiff, Nat.reduceLT, Nat.reduceMul, Nat.reduceBEq, Int.reduceEq, Int.reduceLT, Int.reduceLE, Int.reduceNeg, Int.reduceToNat, reduceCtorEq, ho, Try.results49, Ex.enc, Ex.encs, Vl.null, Vl.enc, cmpE, andE, lt30, aw1, aw2, aw3, aw4]); done) | ((simp only [go_sem, Nat.reduceEqDiff, Nat.reduceAdd, Nat.reduceSub, Nat.reduceLeDiff, Nat.reduceLT, Nat.reduceMul, Nat.reduceBEq, Int.reduceEq, Int.reduceLT, Int.reduceLE, Int.reduceNeg, Int.reduceToNat, reduceCtorEq, ho, Try.results49, Ex.enc, Ex.encs, Vl.null, Vl.enc, cmpE, andE, lt30, aw1, aw2, aw3, aw4]); rfl)))
  simp only [go_sem, Nat.reduceEqDiff, Nat.reduceAdd, Nat.reduceSub, Nat.reduceLeDiff, Nat.reduceLT, Nat.reduceMul, Nat.reduceBEq, Int.reduceEq, Int.reduceLT, Int.reduceLE, Int.reduceNeg, Int.reduceToNat, reduceCtorEq, ho, Try.results49, awC]
  (try simp only [go_sem, Nat.reduceEqDiff, Nat.reduceAdd, Nat.reduceSub, Nat.reduceLeDiff, Nat.reduceLT, Nat.reduceMul, Nat.reduceBEq, Int.reduceEq, Int.reduceLT, Int.reduceLE, Int.reduceNeg, Int.reduceToNat, reduceCtorEq, ho, Try.results49, Ex.enc, Ex.encs, Vl.null, Vl.enc, cmpE, andE, lt30, aw1, aw2, aw3, aw4])
  refine GCall.fr ?_ (cmpE_fn 7 0 3) (.inr rfl) ?_; (focus (first | rfl | ((simp only [go_sem, Nat.reduceEqDiff, Nat.reduceAdd, Nat.reduceSub, Nat.reduceLeDiff, Nat.reduceLT, Nat.reduceMul, Nat.reduceBEq, Int.reduceEq, Int.reduceLT, Int.reduceLE, Int.reduceNeg, Int.reduceToNat, reduceCtorEq, ho, Try.results49, Ex.enc, Ex.encs, Vl.null, Vl.enc, cmpE, andE, lt30, aw1, aw2, aw3, aw4]); done) | ((simp only [go_sem, Nat.reduceEqDiff, Nat.reduceAdd, Nat.reduceSub, Nat.reduceLeDiff, Nat.reduceLT, Nat.reduceMul, Nat.reduceBEq, Int.reduceEq, Int.reduceLT, Int.reduceLE, Int.reduceNeg, Int.reduceToNat, reduceCtorEq, ho, Try.results49, Ex.enc, Ex.encs, Vl.null, Vl.enc, cmpE, andE, lt30, aw1, aw2, aw3, aw4]); rfl)))
  simp only [go_sem, Nat.reduceEqDiff, Nat.reduceAdd, Nat.reduceSub, Nat.reduceLeDiff, Nat.reduceLT, Nat.reduceMul, Nat.reduceBEq, Int.reduceEq, Int.reduceLT, Int.reduceLE, Int.reduceNeg, Int.reduceToNat, reduceCtorEq, ho, Try.results49, Ex.enc, Ex.encs, Vl.null, Vl.enc, cmpE, andE, lt30, aw1, aw2, aw3, aw4]
  (try simp only [go_sem, Nat.reduceEqDiff, Nat.reduceAdd, Nat.reduceSub, Nat.reduceLeDiff, Nat.reduceLT, Nat.reduceMul, Nat.reduceBEq, Int.reduceEq, Int.reduceLT, Int.reduceLE, Int.reduceNeg, Int.reduceToNat, reduceCtorEq, ho, Try.results49, Ex.enc, Ex.encs, Vl.null, Vl.enc, cmpE, andE, lt30, aw1, aw2, aw3, aw4, mdOf, M49, Option.getD_some, Option.getD_none, if_true, if_false])
  refine QCall.fr ?_ (cmpE_fn 10 0 4) (.inr rfl) ?_; (focus (first | rfl | ((simp only [go_sem, Nat.reduceEqDiff, Nat.reduceAdd, Nat.reduceSub, Nat.reduceLeDiff, Nat.reduceLT, Nat.reduceMul, Nat.reduceBEq, Int.reduceEq, Int.reduceLT, Int.reduceLE, Int.reduceNeg, Int.reduceToNat, reduceCtorEq, ho, Try.results49, Ex.enc, Ex.encs, Vl.null, Vl.enc, cmpE, andE, lt30, aw1, aw2, aw3, aw4, mdOf, M49, Option.getD_some, Option.getD_none, if_true, if_false]); done) | ((simp only [go_sem, Nat.reduceEqDiff, Nat.reduceAdd, Nat.reduceSub, Nat.reduceLeDiff, Nat.reduceLT, Nat.reduceMul, Nat.reduceBEq, Int.reduceEq, Int.reduceLT, Int.reduceLE, Int.reduceNeg, Int.reduceToNat, reduceCtorEq, ho, Try.results49, Ex.enc, Ex.encs, Vl.null, Vl.enc, cmpE, andE, lt30, aw1, aw2, aw3, aw4, mdOf, M49, Option.getD_some, Option.getD_none, if_true, if_false]); rfl)))
  simp only [go_sem, Nat.reduceEqDiff, Nat.reduceAdd, Nat.reduceSub, Nat.reduceLeDiff, Nat.reduceLT, Nat.reduceMul, Nat.reduceBEq, Int.reduceEq, Int.reduceLT, Int.reduceLE, Int.reduceNeg, Int.reduceToNat, reduceCtorEq, ho, Try.results49, Ex.enc, Ex.encs, Vl.null, Vl.enc, cmpE, andE, lt30, aw1, aw2, aw3, aw4, mdOf, M49, Option.getD_some, Option.getD_none, if_true, if_false]
  refine GCall.frz ?_ (andE_fn lt30 (cmpE 10 0 4)) ?_; (focus (first | rfl | ((simp only [go_sem, Nat.reduceEqDiff, Nat.reduceAdd, Nat.reduceSub, Nat.reduceLeDiff, Nat.reduceLT, Nat.reduceMul, Nat.reduceBEq, Int.reduceEq, Int.reduceLT, Int.reduceLE, Int.reduceNeg, Int.reduceToNat, reduceCtorEq, ho, Try.results49, Ex.enc, Ex.encs, Vl.null, Vl.enc, cmpE, andE, lt30, aw1, aw2, aw3, aw4, mdOf, M49, Option.getD_some, Option.getD_none, if_true, if_false]); done) | ((simp only [go_sem, Nat.reduceEqDiff, Nat.reduceAdd, Nat.reduceSub, Nat.reduceLeDiff, Nat.reduceLT, Nat.reduceMul, Nat.reduceBEq, Int.reduceEq, Int.reduceLT, Int.reduceLE, Int.reduceNeg, Int.reduceToNat, reduceCtorEq, ho, Try.results49, Ex.enc, Ex.encs, Vl.null, Vl.enc, cmpE, andE, lt30, aw1, aw2, aw3, aw4, mdOf, M49, Option.getD_some, Option.getD_none, if_true, if_false]); rfl)))
  simp only [go_sem, Nat.reduceEqDiff, Nat.reduceAdd, Nat.reduceSub, Nat.reduceLeDiff, Nat.reduceLT, Nat.reduceMul, Nat.reduceBEq, Int.reduceEq, Int.reduceLT, Int.reduceLE, Int.reduceNeg, Int.reduceToNat, reduceCtorEq, ho, Try.results49, Ex.enc, Ex.encs, Vl.null, Vl.enc, cmpE, andE, lt30, aw1, aw2, aw3, aw4, mdOf, M49, Option.getD_some, Option.getD_none, if_true, if_false]
  refine QCall.fr ?_ (conditions_fn' aw3 (by decide)) (.inr rfl) ?_; (focus (first | rfl | ((simp only [go_sem, Nat.reduceEqDiff, Nat.reduceAdd, Nat.reduceSub, Nat.reduceLeDiff, Nat.reduceLT, Nat.reduceMul, Nat.reduceBEq, Int.reduceEq, Int.reduceLT, Int.reduceLE, Int.reduceNeg, Int.reduceToNat, reduceCtorEq, ho, Try.results49, Ex.enc, Ex.encs, Vl.null, Vl.enc, cmpE, andE, lt30, aw1, aw2, aw3, aw4, mdOf, M49, Option.getD_some, Option.getD_none, if_true, if_false]); done) | ((simp only [go_sem, Nat.reduceEqDiff, Nat.reduceAdd, Nat.reduceSub, Nat.reduceLeDiff, Nat.reduceLT, Nat.reduceMul, Nat.reduceBEq, Int.reduceEq, Int.reduceLT, Int.reduceLE, Int.reduceNeg, Int.reduceToNat, reduceCtorEq, ho, Try.results49, Ex.enc, Ex.encs, Vl.null, Vl.enc, cmpE, andE, lt30, aw1, aw2, aw3, aw4, mdOf, M49, Option.getD_some, Option.getD_none, if_true, if_false]); rfl)))
  simp only [go_sem, Nat.reduceEqDiff, Nat.reduceAdd, Nat.reduceSub, Nat.reduceLeDiff, Nat.reduceLT, Nat.reduceMul, Nat.reduceBEq, Int.reduceEq, Int.reduceLT, Int.reduceLE, Int.reduceNeg, Int.reduceToNat, reduceCtorEq, ho, Try.results49, awD, mdOf, M49, Option.getD_some, Option.getD_none, if_true, if_false]
  refine QCall.fr ?_ (rsame_fn 100000000 (Nat.le_refl _) (cmpE 8 2 0) (cmpE 8 2 0) (by decide)) (.inl rfl) ?_; (focus (first | rfl | ((simp only [go_sem, Nat.reduceEqDiff, Nat.reduceAdd, Nat.reduceSub, Nat.reduceLeDiff, Nat.reduceLT, Nat.reduceMul, Nat.reduceBEq, Int.reduceEq, Int.reduceLT, Int.reduceLE, Int.reduceNeg, Int.reduceToNat, reduceCtorEq, ho, Try.results49, Ex.enc, Ex.encs, Vl.null, Vl.enc, cmpE, andE, lt30, aw1, aw2, aw3, aw4, mdOf, M49, Option.getD_some, Option.getD_none, if_true, if_false, n3, n2, eq_self, decide_true]); done) | ((simp only [go_sem, Nat.reduceEqDiff, Nat.reduceAdd, Nat.reduceSub, Nat.reduceLeDiff, Nat.reduceLT, Nat.reduceMul, Nat.reduceBEq, Int.reduceEq, Int.reduceLT, Int.reduceLE, Int.reduceNeg, Int.reduceToNat, reduceCtorEq, ho, Try.results49, Ex.enc, Ex.encs, Vl.null, Vl.enc, cmpE, andE, lt30, aw1, aw2, aw3, aw4, mdOf, M49, Option.getD_some, Option.getD_none, if_true, if_false, n3, n2, eq_self, decide_true]); rfl)))
  simp only [go_sem, Nat.reduceEqDiff, Nat.reduceAdd, Nat.reduceSub, Nat.reduceLeDiff, Nat.reduceLT, Nat.reduceMul, Nat.reduceBEq, Int.reduceEq, Int.reduceLT, Int.reduceLE, Int.reduceNeg, Int.reduceToNat, reduceCtorEq, ho, Try.results49, awS, mdOf, M49, Option.getD_some, Option.getD_none, if_true, if_false, n3, n2, eq_self, decide_true]
  (try simp only [go_sem, Nat.reduceEqDiff, Nat.reduceAdd, Nat.reduceSub, Nat.reduceLeDiff, Nat.reduceLT, Nat.reduceMul, Nat.reduceBEq, Int.reduceEq, Int.reduceLT, Int.reduceLE, Int.reduceNeg, Int.reduceToNat, reduceCtorEq, ho, Try.results49, Ex.enc, Ex.encs, Vl.null, Vl.enc, cmpE, andE, lt30, aw1, aw2, aw3, aw4, mdOf, M49, Option.getD_some, Option.getD_none, if_true, if_false, n3, n2, eq_self, decide_true])
  refine QCall.fr ?_ (cmpE_fn 10 0 4) (.inr rfl) ?_; (focus (first | rfl | ((simp only [go_sem, Nat.reduceEqDiff, Nat.reduceAdd, Nat.reduceSub, Nat.reduceLeDiff, Nat.reduceLT, Nat.reduceMul, Nat.reduceBEq, Int.reduceEq, Int.reduceLT, Int.reduceLE, Int.reduceNeg, Int.reduceToNat, reduceCtorEq, ho, Try.results49, Ex.enc, Ex.encs, Vl.null, Vl.enc, cmpE, andE, lt30, aw1, aw2, aw3, aw4, mdOf, M49, Option.getD_some, Option.getD_none, if_true, if_false, n3, n2, eq_self, decide_true]); done) | ((simp only [go_sem, Nat.reduceEqDiff, Nat.reduceAdd, Nat.reduceSub, Nat.reduceLeDiff, Nat.reduceLT, Nat.reduceMul, Nat.reduceBEq, Int.reduceEq, Int.reduceLT, Int.reduceLE, Int.reduceNeg, Int.reduceToNat, reduceCtorEq, ho, Try.results49, Ex.enc, Ex.encs, Vl.null, Vl.enc, cmpE, andE, lt30, aw1, aw2, aw3, aw4, mdOf, M49, Option.getD_some, Option.getD_none, if_true, if_false, n3, n2, eq_self, decide_true]); rfl)))
  simp only [go_sem, Nat.reduceEqDiff, Nat.reduceAdd, Nat.reduceSub, Nat.reduceLeDiff, Nat.reduceLT, Nat.reduceMul, Nat.reduceBEq, Int.reduceEq, Int.reduceLT, Int.reduceLE, Int.reduceNeg, Int.reduceToNat, reduceCtorEq, ho, Try.results49, Ex.enc, Ex.encs, Vl.null, Vl.enc, cmpE, andE, lt30, aw1, aw2, aw3, aw4, mdOf, M49, Option.getD_some, Option.getD_none, if_true, if_false, n3, n2, eq_self, decide_true]
  refine GCall.frz ?_ (andE_fn lt30 (cmpE 10 0 4)) ?_; (focus (first | rfl | ((simp only [go_sem, Nat.reduceEqDiff, Nat.reduceAdd, Nat.reduceSub, Nat.reduceLeDiff, Nat.reduceLT, Nat.reduceMul, Nat.reduceBEq, Int.reduceEq, Int.reduceLT, Int.reduceLE, Int.reduceNeg, Int.reduceToNat, reduceCtorEq, ho, Try.results49, Ex.enc, Ex.encs, Vl.null, Vl.enc, cmpE, andE, lt30, aw1, aw2, aw3, aw4, mdOf, M49, Option.getD_some, Option.getD_none, if_true, if_false, n3, n2, eq_self, decide_true]); done) | ((simp only [go_sem, Nat.reduceEqDiff, Nat.reduceAdd, Nat.reduceSub, Nat.reduceLeDiff, Nat.reduceLT, Nat.reduceMul, Nat.reduceBEq, Int.reduceEq, Int.reduceLT, Int.reduceLE, Int.reduceNeg, Int.reduceToNat, reduceCtorEq, ho, Try.results49, Ex.enc, Ex.encs, Vl.null, Vl.enc, cmpE, andE, lt30, aw1, aw2, aw3, aw4, mdOf, M49, Option.getD_some, Option.getD_none, if_true, if_false, n3, n2, eq_self, decide_true]); rfl)))
  (try simp only [go_sem, Nat.reduceEqDiff, Nat.reduceAdd, Nat.reduceSub, Nat.reduceLeDiff, Nat.reduceLT, Nat.reduceMul, Nat.reduceBEq, Int.reduceEq, Int.reduceLT, Int.reduceLE, Int.reduceNeg, Int.reduceToNat, reduceCtorEq, ho, Try.results49])
  refine QCall.fr ?_ (never_fn aw3 (by decide)) (.inl rfl) ?_; (focus (first | rfl | ((simp only [go_sem, Nat.reduceEqDiff, Nat.reduceAdd, Nat.reduceSub, Nat.reduceLeDiff, Nat.reduceLT, Nat.reduceMul, Nat.reduceBEq, Int.reduceEq, Int.reduceLT, Int.reduceLE, Int.reduceNeg, Int.reduceToNat, reduceCtorEq, ho, Try.results49, Ex.enc, Ex.encs, Vl.null, Vl.enc, cmpE, andE, lt30, aw1, aw2, aw3, aw4, mdOf, M49, Option.getD_some, Option.getD_none, if_true, if_false, n3, n2, eq_self, decide_true]); done) | ((simp only [go_sem, Nat.reduceEqDiff, Nat.reduceAdd, Nat.reduceSub, Nat.reduceLeDiff, Nat.reduceLT, Nat.reduceMul, Nat.reduceBEq, Int.reduceEq, Int.reduceLT, Int.reduceLE, Int.reduceNeg, Int.reduceToNat, reduceCtorEq, ho, Try.results49, Ex.enc, Ex.encs, Vl.null, Vl.enc, cmpE, andE, lt30, aw1, aw2, aw3, aw4, mdOf, M49, Option.getD_some, Option.getD_none, if_true, if_false, n3, n2, eq_self, decide_true]); rfl)))
  simp only [go_sem, Nat.reduceEqDiff, Nat.reduceAdd, Nat.reduceSub, Nat.reduceLeDiff, Nat.reduceLT, Nat.reduceMul, Nat.reduceBEq, Int.reduceEq, Int.reduceLT, Int.reduceLE, Int.reduceNeg, Int.reduceToNat, reduceCtorEq, ho, Try.results49, awN3, mdOf, M49, Option.getD_some, Option.getD_none, if_true, if_false, n3, n2, eq_self, decide_true]
  (try simp only [go_sem, Nat.reduceEqDiff, Nat.reduceAdd, Nat.reduceSub, Nat.reduceLeDiff, Nat.reduceLT, Nat.reduceMul, Nat.reduceBEq, Int.reduceEq, Int.reduceLT, Int.reduceLE, Int.reduceNeg, Int.reduceToNat, reduceCtorEq, ho, Try.results49, Ex.enc, Ex.encs, Vl.null, Vl.enc, cmpE, andE, lt30, aw1, aw2, aw3, aw4, mdOf, M49, Option.getD_some, Option.getD_none, if_true, if_false, n3, n2, eq_self, decide_true])
  refine QCall.fr ?_ (cmpE_fn 9 0 4) (.inr rfl) ?_; (focus (first | rfl | ((simp only [go_sem, Nat.reduceEqDiff, Nat.reduceAdd, Nat.reduceSub, Nat.reduceLeDiff, Nat.reduceLT, Nat.reduceMul, Nat.reduceBEq, Int.reduceEq, Int.reduceLT, Int.reduceLE, Int.reduceNeg, Int.reduceToNat, reduceCtorEq, ho, Try.results49, Ex.enc, Ex.encs, Vl.null, Vl.enc, cmpE, andE, lt30, aw1, aw2, aw3, aw4, mdOf, M49, Option.getD_some, Option.getD_none, if_true, if_false, n3, n2, eq_self, decide_true]); done) | ((simp only [go_sem, Nat.reduceEqDiff, Nat.reduceAdd, Nat.reduceSub, Nat.reduceLeDiff, Nat.reduceLT, Nat.reduceMul, Nat.reduceBEq, Int.reduceEq, Int.reduceLT, Int.reduceLE, Int.reduceNeg, Int.reduceToNat, reduceCtorEq, ho, Try.results49, Ex.enc, Ex.encs, Vl.null, Vl.enc, cmpE, andE, lt30, aw1, aw2, aw3, aw4, mdOf, M49, Option.getD_some, Option.getD_none, if_true, if_false, n3, n2, eq_self, decide_true]); rfl)))
  simp only [go_sem, Nat.reduceEqDiff, Nat.reduceAdd, Nat.reduceSub, Nat.reduceLeDiff, Nat.reduceLT, Nat.reduceMul, Nat.reduceBEq, Int.reduceEq, Int.reduceLT, Int.reduceLE, Int.reduceNeg, Int.reduceToNat, reduceCtorEq, ho, Try.results49, Ex.enc, Ex.encs, Vl.null, Vl.enc, cmpE, andE, lt30, aw1, aw2, aw3, aw4, mdOf, M49, Option.getD_some, Option.getD_none, if_true, if_false, n3, n2, eq_self, decide_true]
  refine GCall.frz ?_ (andE_fn lt30 (cmpE 9 0 4)) ?_; (focus (first | rfl | ((simp only [go_sem, Nat.reduceEqDiff, Nat.reduceAdd, Nat.reduceSub, Nat.reduceLeDiff, Nat.reduceLT, Nat.reduceMul, Nat.reduceBEq, Int.reduceEq, Int.reduceLT, Int.reduceLE, Int.reduceNeg, Int.reduceToNat, reduceCtorEq, ho, Try.results49, Ex.enc, Ex.encs, Vl.null, Vl.enc, cmpE, andE, lt30, aw1, aw2, aw3, aw4, mdOf, M49, Option.getD_some, Option.getD_none, if_true, if_false, n3, n2, eq_self, decide_true]); done) | ((simp only [go_sem, Nat.reduceEqDiff, Nat.reduceAdd, Nat.reduceSub, Nat.reduceLeDiff, Nat.reduceLT, Nat.reduceMul, Nat.reduceBEq, Int.reduceEq, Int.reduceLT, Int.reduceLE, Int.reduceNeg, Int.reduceToNat, reduceCtorEq, ho, Try.results49, Ex.enc, Ex.encs, Vl.null, Vl.enc, cmpE, andE, lt30, aw1, aw2, aw3, aw4, mdOf, M49, Option.getD_some, Option.getD_none, if_true, if_false, n3, n2, eq_self, decide_true]); rfl)))
  (try simp only [go_sem, Nat.reduceEqDiff, Nat.reduceAdd, Nat.reduceSub, Nat.reduceLeDiff, Nat.reduceLT, Nat.reduceMul, Nat.reduceBEq, Int.reduceEq, Int.reduceLT, Int.reduceLE, Int.reduceNeg, Int.reduceToNat, reduceCtorEq, ho, Try.results49])
  refine QCall.fr ?_ (never_fn aw4 (by decide)) (.inl rfl) ?_; (focus (first | rfl | ((simp only [go_sem, Nat.reduceEqDiff, Nat.reduceAdd, Nat.reduceSub, Nat.reduceLeDiff, Nat.reduceLT, Nat.reduceMul, Nat.reduceBEq, Int.reduceEq, Int.reduceLT, Int.reduceLE, Int.reduceNeg, Int.reduceToNat, reduceCtorEq, ho, Try.results49, Ex.enc, Ex.encs, Vl.null, Vl.enc, cmpE, andE, lt30, aw1, aw2, aw3, aw4, mdOf, M49, Option.getD_some, Option.getD_none, if_true, if_false, n3, n2, eq_self, decide_true]); done) | ((simp only [go_sem, Nat.reduceEqDiff, Nat.reduceAdd, Nat.reduceSub, Nat.reduceLeDiff, Nat.reduceLT, Nat.reduceMul, Nat.reduceBEq, Int.reduceEq, Int.reduceLT, Int.reduceLE, Int.reduceNeg, Int.reduceToNat, reduceCtorEq, ho, Try.results49, Ex.enc, Ex.encs, Vl.null, Vl.enc, cmpE, andE, lt30, aw1, aw2, aw3, aw4, mdOf, M49, Option.getD_some, Option.getD_none, if_true, if_false, n3, n2, eq_self, decide_true]); rfl)))
  simp only [go_sem, Nat.reduceEqDiff, Nat.reduceAdd, Nat.reduceSub, Nat.reduceLeDiff, Nat.reduceLT, Nat.reduceMul, Nat.reduceBEq, Int.reduceEq, Int.reduceLT, Int.reduceLE, Int.reduceNeg, Int.reduceToNat, reduceCtorEq, ho, Try.results49, awN4, mdOf, M49, Option.getD_some, Option.getD_none, if_true, if_false, n3, n2, eq_self, decide_true]
  trace_state
end Go.Proofs.Ytiefnninebilbaa
/- The reference's conjuncts and conditions; no condition. -/
set_option maxRecDepth 100000
set_option linter.unusedVariables false
set_option linter.unusedSimpArgs false
namespace Go.Proofs.Ytiefnninebilbaa
open Go Go.Sx

theorem formed_and (e : Ex) (h : e.op = 5) : e.formed = e.isAnd := by
  have h2 : decide ((2 : Int) ≤ (e.args.length : Int)) = decide (2 ≤ e.args.length) := by
    by_cases hq : 2 ≤ e.args.length
    · rw [decide_eq_true hq, decide_eq_true (by omega)]
    · rw [decide_eq_false hq, decide_eq_false (by omega)]
  unfold Ex.formed Ex.isAnd fitsN
  rw [h, h2]
  simp only [Int.reduceEq, or_self, or_false, false_or, or_true, true_or, if_true, if_false, decide_true, Bool.true_and]
  cases decide (2 ≤ e.args.length) <;> cases decide (e.name = emp) <;> cases decide (e.int = 0) <;> rfl
theorem Ex.sizes_mem {l done rest : List Ex} {x : Ex} (h : l = done ++ x :: rest) : x.size + Ex.sizes done ≤ Ex.sizes l := by rw [h, Ex.sizes_app]; simp only [Ex.sizes]; omega
theorem Ex.conj_ne : ∀ e : Ex, e.conj ≠ [] := by
  refine Ex.ind fun e ih => ?_
  rw [Ex.conj_eq]
  split
  · rename_i h
    simp only [Ex.isAnd, Bool.and_eq_true, decide_eq_true_eq] at h
    cases ha : e.args with
    | nil => rw [ha] at h; simp at h
    | cons x l =>
      have := ih x (by rw [ha]; simp)
      simp [Ex.conjs, this]
  · simp
theorem ok59 : okCode M0 Try.f59.ntmps (Try.f59.body.getD .skip) = true := by decide +kernel
theorem rconj_fn : ∀ (n : Nat) (e : Ex), e.size ≤ n → n ≤ 10000000 → Fc 59 [e.enc] (.sl (e.conj.map Ex.enc)) := by
  intro n
  induction n with
  | zero => intro e he; have := e.size_pos; omega
  | succ n ih =>
  intro e he hn8
  have hse := e.size_eq
  have hlen := Ex.len_sizes e.args
  refine fn_of_awp (E := E0) (M := M0) follows Try.func59 rfl (by decide) ok59 (by decide) (by simp) fun o ho => ?_
  simp only [go_sem, Nat.reduceEqDiff, Nat.reduceAdd, Nat.reduceSub, Nat.reduceLeDiff, Nat.reduceLT, Nat.reduceMul, Nat.reduceBEq, Int.reduceEq, Int.reduceLT, Int.reduceLE, Int.reduceNeg, Int.reduceToNat, reduceCtorEq, ho, Try.results59, e.enc_eq]
  by_cases h5 : e.op = 5
  · simp only [go_sem, Nat.reduceEqDiff, Nat.reduceAdd, Nat.reduceSub, Nat.reduceLeDiff, Nat.reduceLT, Nat.reduceMul, Nat.reduceBEq, Int.reduceEq, Int.reduceLT, Int.reduceLE, Int.reduceNeg, Int.reduceToNat, reduceCtorEq, ho, Try.results59, h5]
    refine GCall.fr ?_ (rformed_fn e (by omega)) (.inl rfl) ?_; (focus (first | rfl | ((simp only [go_sem, Nat.reduceEqDiff, Nat.reduceAdd, Nat.reduceSub, Nat.reduceLeDiff, Nat.reduceLT, Nat.reduceMul, Nat.reduceBEq, Int.reduceEq, Int.reduceLT, Int.reduceLE, Int.reduceNeg, Int.reduceToNat, reduceCtorEq, ho, Try.results59, e.enc_eq, h5]); done) | ((simp only [go_sem, Nat.reduceEqDiff, Nat.reduceAdd, Nat.reduceSub, Nat.reduceLeDiff, Nat.reduceLT, Nat.reduceMul, Nat.reduceBEq, Int.reduceEq, Int.reduceLT, Int.reduceLE, Int.reduceNeg, Int.reduceToNat, reduceCtorEq, ho, Try.results59, e.enc_eq, h5]); rfl)))
    simp only [go_sem, Nat.reduceEqDiff, Nat.reduceAdd, Nat.reduceSub, Nat.reduceLeDiff, Nat.reduceLT, Nat.reduceMul, Nat.reduceBEq, Int.reduceEq, Int.reduceLT, Int.reduceLE, Int.reduceNeg, Int.reduceToNat, reduceCtorEq, ho, Try.results59]
    cases hA : e.isAnd with
    | false =>
      rw [formed_and e h5, hA]
      simp only [go_sem, Nat.reduceEqDiff, Nat.reduceAdd, Nat.reduceSub, Nat.reduceLeDiff, Nat.reduceLT, Nat.reduceMul, Nat.reduceBEq, Int.reduceEq, Int.reduceLT, Int.reduceLE, Int.reduceNeg, Int.reduceToNat, reduceCtorEq, ho, Try.results59]
      have hcj : e.conj = [e] := by rw [Ex.conj_eq, hA]; rfl
      rw [hcj]
      simp [e.enc_eq, h5]
    | true =>
      rw [formed_and e h5, hA]
      have hcj : e.conj = Ex.conjs e.args := by rw [Ex.conj_eq, hA]; rfl
      rw [hcj]
      simp only [go_sem, Nat.reduceEqDiff, Nat.reduceAdd, Nat.reduceSub, Nat.reduceLeDiff, Nat.reduceLT, Nat.reduceMul, Nat.reduceBEq, Int.reduceEq, Int.reduceLT, Int.reduceLE, Int.reduceNeg, Int.reduceToNat, reduceCtorEq, ho, Try.results59]
      refine ⟨fun m st => ∃ (done rest : List Ex), e.args = done ++ rest ∧ rest.length = m ∧ st.s 4 = .int .i64 done.length ∧ st.s 1 = .ptr 1 1 0 ∧ getBox st.o 1 1 = some (49, [.int .i64 5, .int .i64 e.int, .int .i64 e.val.kind, .int .i64 e.val.int, .str e.val.text, .str e.name, .sl (e.args.map Ex.enc)]) ∧ ((Ex.conjs done = [] ∧ st.s 3 = .nil) ∨ (Ex.conjs done ≠ [] ∧ ∃ v, st.s 3 = .ref 30 v ∧ st.o 30 = (v, some (true, .row 49 ((Ex.conjs done).map Ex.enc))))), e.args.length,
        ⟨[], e.args, rfl, rfl, by simp only [go_sem, Nat.reduceEqDiff, Nat.reduceAdd, Nat.reduceSub, Nat.reduceLeDiff, Nat.reduceLT, Nat.reduceMul, Nat.reduceBEq, Int.reduceEq, Int.reduceLT, Int.reduceLE, Int.reduceNeg, Int.reduceToNat, reduceCtorEq, ho, Try.results59]; rfl, by simp only [go_sem, Nat.reduceEqDiff, Nat.reduceAdd, Nat.reduceSub, Nat.reduceLeDiff, Nat.reduceLT, Nat.reduceMul, Nat.reduceBEq, Int.reduceEq, Int.reduceLT, Int.reduceLE, Int.reduceNeg, Int.reduceToNat, reduceCtorEq, ho, Try.results59], by simp only [go_sem, Nat.reduceEqDiff, Nat.reduceAdd, Nat.reduceSub, Nat.reduceLeDiff, Nat.reduceLT, Nat.reduceMul, Nat.reduceBEq, Int.reduceEq, Int.reduceLT, Int.reduceLE, Int.reduceNeg, Int.reduceToNat, reduceCtorEq, ho, Try.results59], .inl ⟨rfl, by simp only [go_sem, Nat.reduceEqDiff, Nat.reduceAdd, Nat.reduceSub, Nat.reduceLeDiff, Nat.reduceLT, Nat.reduceMul, Nat.reduceBEq, Int.reduceEq, Int.reduceLT, Int.reduceLE, Int.reduceNeg, Int.reduceToNat, reduceCtorEq, ho, Try.results59]⟩⟩, ?_⟩
      rintro m st ⟨done, rest, hl', hn, h4, hs1, hb1, h3⟩
      have hlen2 : done.length + rest.length = e.args.length := by rw [hl']; simp
      have hw : IntKind.i64.wrap ((done.length : Int) + 1) = (done.length : Int) + 1 := wrap_fits (by omega) (by omega)
      cases rest with
      | nil =>
        have hlt : ¬ (done.length : Int) < (e.args.length : Int) := by simp at hlen2; omega
        have hd : e.args = done := by simpa using hl'
        rcases h3 with ⟨hd0, h3⟩ | ⟨hne, v, h3, h30⟩
        · simp only [go_sem, Nat.reduceEqDiff, Nat.reduceAdd, Nat.reduceSub, Nat.reduceLeDiff, Nat.reduceLT, Nat.reduceMul, Nat.reduceBEq, Int.reduceEq, Int.reduceLT, Int.reduceLE, Int.reduceNeg, Int.reduceToNat, reduceCtorEq, ho, Try.results59, h4, hs1, hb1, hlt, h3, List.length_map]
          simp [hd, hd0]
        · have hrow : getRow st.o 30 v = some (49, (Ex.conjs done).map Ex.enc) := by simp [getRow, h30]
          simp only [go_sem, Nat.reduceEqDiff, Nat.reduceAdd, Nat.reduceSub, Nat.reduceLeDiff, Nat.reduceLT, Nat.reduceMul, Nat.reduceBEq, Int.reduceEq, Int.reduceLT, Int.reduceLE, Int.reduceNeg, Int.reduceToNat, reduceCtorEq, ho, Try.results59, h4, hs1, hb1, hlt, h3, hrow, List.length_map]
          simp [hd]
      | cons x rest =>
        have hlt : (done.length : Int) < (e.args.length : Int) := by simp at hlen2; omega
        have hget : (e.args.map Ex.enc)[done.length]? = some x.enc := by simp [hl']
        have hsz := Ex.sizes_mem hl'
        have hc1 := Ex.conjs_len done
        have hc2 := x.conj_len
        have hbig : ((Ex.conjs done).length + x.conj.length) * 89 ≤ 140737488355328 := by omega
        have hbig2 : x.conj.length * 89 ≤ 140737488355328 := by omega
        have hca : Ex.conjs (done ++ [x]) = Ex.conjs done ++ x.conj := by rw [Ex.conjs_app]; simp [Ex.conjs]
        have hne : x.conj ≠ [] := Ex.conj_ne x
        have hcells : ∀ z ∈ x.conj.map Ex.enc, z.cells.length = 7 := by
          intro z hz
          obtain ⟨y, _, rfl⟩ := List.mem_map.1 hz
          rw [y.enc_cells]; rfl
        simp only [go_sem, Nat.reduceEqDiff, Nat.reduceAdd, Nat.reduceSub, Nat.reduceLeDiff, Nat.reduceLT, Nat.reduceMul, Nat.reduceBEq, Int.reduceEq, Int.reduceLT, Int.reduceLE, Int.reduceNeg, Int.reduceToNat, reduceCtorEq, ho, Try.results59, h4, hs1, hb1, hlt, hget, Int.natCast_nonneg, Int.toNat_natCast, List.length_map, x.enc_eq]
        refine GCall.fr ?_ (ih x (by omega) (by omega)) (.inr rfl) ?_; (focus (first | rfl | ((simp only [go_sem, Nat.reduceEqDiff, Nat.reduceAdd, Nat.reduceSub, Nat.reduceLeDiff, Nat.reduceLT, Nat.reduceMul, Nat.reduceBEq, Int.reduceEq, Int.reduceLT, Int.reduceLE, Int.reduceNeg, Int.reduceToNat, reduceCtorEq, ho, Try.results59, x.enc_eq]); done) | ((simp only [go_sem, Nat.reduceEqDiff, Nat.reduceAdd, Nat.reduceSub, Nat.reduceLeDiff, Nat.reduceLT, Nat.reduceMul, Nat.reduceBEq, Int.reduceEq, Int.reduceLT, Int.reduceLE, Int.reduceNeg, Int.reduceToNat, reduceCtorEq, ho, Try.results59, x.enc_eq]); rfl)))
        have hnem : ¬ x.conj.map Ex.enc = [] := by simp [hne]
        rcases h3 with ⟨hd0, h3⟩ | ⟨hned, v, h3, h30⟩
        · simp only [go_sem, Nat.reduceEqDiff, Nat.reduceAdd, Nat.reduceSub, Nat.reduceLeDiff, Nat.reduceLT, Nat.reduceMul, Nat.reduceBEq, Int.reduceEq, Int.reduceLT, Int.reduceLE, Int.reduceNeg, Int.reduceToNat, reduceCtorEq, ho, Try.results59, h3, h4, hs1, hb1, hw, eq_true hcells, hnem, hbig2, List.length_map]
          exact ⟨rest.length, by simp at hn; omega, done ++ [x], rest, by simp [hl'], rfl, by simp, .inr ⟨by rw [hca]; simp [hne], _, rfl, by rw [hca, hd0]; simp⟩⟩
        · simp only [go_sem, Nat.reduceEqDiff, Nat.reduceAdd, Nat.reduceSub, Nat.reduceLeDiff, Nat.reduceLT, Nat.reduceMul, Nat.reduceBEq, Int.reduceEq, Int.reduceLT, Int.reduceLE, Int.reduceNeg, Int.reduceToNat, reduceCtorEq, ho, Try.results59, h3, h4, h30, hs1, hb1, hw, eq_true hcells, hnem, hbig, List.length_map]
          exact ⟨rest.length, by simp at hn; omega, done ++ [x], rest, by simp [hl'], rfl, by simp, .inr ⟨by rw [hca]; simp [hne], _, rfl, by rw [hca]; simp⟩⟩
  · have hA : e.isAnd = false := by simp [Ex.isAnd, h5]
    have hcj : e.conj = [e] := by rw [Ex.conj_eq, hA]; rfl
    simp only [go_sem, Nat.reduceEqDiff, Nat.reduceAdd, Nat.reduceSub, Nat.reduceLeDiff, Nat.reduceLT, Nat.reduceMul, Nat.reduceBEq, Int.reduceEq, Int.reduceLT, Int.reduceLE, Int.reduceNeg, Int.reduceToNat, reduceCtorEq, ho, Try.results59, h5]
    rw [hcj]
    simp [e.enc_eq]
theorem ok179 : okCode M0 Try.f179.ntmps (Try.f179.body.getD .skip) = true := by decide +kernel
theorem rplain_fn (e : Ex) : Fc 179 [e.enc] (.bool e.plain) := by
  refine fn_of_awp (E := E0) (M := M0) follows Try.func179 rfl (by decide) ok179 (by decide) (by simp) fun o ho => ?_
  simp only [go_sem, Nat.reduceEqDiff, Nat.reduceAdd, Nat.reduceSub, Nat.reduceLeDiff, Nat.reduceLT, Nat.reduceMul, Nat.reduceBEq, Int.reduceEq, Int.reduceLT, Int.reduceLE, Int.reduceNeg, Int.reduceToNat, reduceCtorEq, ho, Try.results179, e.enc_eq]
  repeat' (first | (refine AIf_cases (fun h => ?_) (fun h => ?_) <;> (try simp only [decide_eq_true_eq, decide_eq_false_iff_not, Bool.not_eq_true', Bool.not_eq_false', Bool.not_eq_true, Bool.not_eq_false] at h) <;> (try simp only [go_sem, Nat.reduceEqDiff, Nat.reduceAdd, Nat.reduceSub, Nat.reduceLeDiff, Nat.reduceLT, Nat.reduceMul, Nat.reduceBEq, Int.reduceEq, Int.reduceLT, Int.reduceLE, Int.reduceNeg, Int.reduceToNat, reduceCtorEq, ho, Try.results179, h])) | (refine GCall.fr ?_ (rvalid_fn e.val) (.inl rfl) ?_; (focus (first | rfl | ((simp only [go_sem, Nat.reduceEqDiff, Nat.reduceAdd, Nat.reduceSub, Nat.reduceLeDiff, Nat.reduceLT, Nat.reduceMul, Nat.reduceBEq, Int.reduceEq, Int.reduceLT, Int.reduceLE, Int.reduceNeg, Int.reduceToNat, reduceCtorEq, ho, Try.results179]); done) | ((simp only [go_sem, Nat.reduceEqDiff, Nat.reduceAdd, Nat.reduceSub, Nat.reduceLeDiff, Nat.reduceLT, Nat.reduceMul, Nat.reduceBEq, Int.reduceEq, Int.reduceLT, Int.reduceLE, Int.reduceNeg, Int.reduceToNat, reduceCtorEq, ho, Try.results179]); rfl))); (try simp only [go_sem, Nat.reduceEqDiff, Nat.reduceAdd, Nat.reduceSub, Nat.reduceLeDiff, Nat.reduceLT, Nat.reduceMul, Nat.reduceBEq, Int.reduceEq, Int.reduceLT, Int.reduceLE, Int.reduceNeg, Int.reduceToNat, reduceCtorEq, ho, Try.results179])) | (refine QCall.fr ?_ (rvalid_fn e.val) (.inl rfl) ?_; (focus (first | rfl | ((simp only [go_sem, Nat.reduceEqDiff, Nat.reduceAdd, Nat.reduceSub, Nat.reduceLeDiff, Nat.reduceLT, Nat.reduceMul, Nat.reduceBEq, Int.reduceEq, Int.reduceLT, Int.reduceLE, Int.reduceNeg, Int.reduceToNat, reduceCtorEq, ho, Try.results179]); done) | ((simp only [go_sem, Nat.reduceEqDiff, Nat.reduceAdd, Nat.reduceSub, Nat.reduceLeDiff, Nat.reduceLT, Nat.reduceMul, Nat.reduceBEq, Int.reduceEq, Int.reduceLT, Int.reduceLE, Int.reduceNeg, Int.reduceToNat, reduceCtorEq, ho, Try.results179]); rfl))); (try simp only [go_sem, Nat.reduceEqDiff, Nat.reduceAdd, Nat.reduceSub, Nat.reduceLeDiff, Nat.reduceLT, Nat.reduceMul, Nat.reduceBEq, Int.reduceEq, Int.reduceLT, Int.reduceLE, Int.reduceNeg, Int.reduceToNat, reduceCtorEq, ho, Try.results179])))
  all_goals (first | (simp_all [Ex.plain]; done) | (simp_all [Ex.plain]; omega) | (simp_all [Ex.plain]; intros; omega) | (simp_all [Ex.plain]; (repeat' split) <;> (first | (simp_all; done) | (simp_all; omega) | omega)))
end Go.Proofs.Ytiefnninebilbaa
/- The condition that a comparison states, as the reference finds it; no condition. -/
set_option maxRecDepth 100000
set_option linter.unusedVariables false
set_option linter.unusedSimpArgs false
namespace Go.Proofs.Ytiefnninebilbaa
open Go Go.Sx

theorem ok132 : okCode M0 Try.f132.ntmps (Try.f132.body.getD .skip) = true := by decide +kernel
set_option maxHeartbeats 4000000 in
theorem rcond2_fn (op int : Int) (v : Vl) (n : ByteArray) (a b : Ex) (hc : op = 7 ∨ op = 9 ∨ op = 10 ∨ op = 11 ∨ op = 12) : Fc 132 [(Ex.mk op int v n [a, b]).enc] (condPV (Ex.cond2 op a b)) := by
  refine fn_of_awp (E := E0) (M := M0) follows Try.func132 rfl (by decide) ok132 (by decide) (by simp) fun o ho => ?_
  simp only [go_sem, Nat.reduceEqDiff, Nat.reduceAdd, Nat.reduceSub, Nat.reduceLeDiff, Nat.reduceLT, Nat.reduceMul, Nat.reduceBEq, Int.reduceEq, Int.reduceLT, Int.reduceLE, Int.reduceNeg, Int.reduceToNat, reduceCtorEq, ho, Try.results132, Ex.enc_eq (Ex.mk op int v n [a, b]), Ex.mk_op, Ex.mk_int, Ex.mk_val, Ex.mk_name, Ex.mk_args]
  have two : ((2 : Nat) : Int) = 2 := rfl
  have hm := rmirrored_fn op
  rcases hc with rfl | rfl | rfl | rfl | rfl
  all_goals
    simp only [go_sem, Nat.reduceEqDiff, Nat.reduceAdd, Nat.reduceSub, Nat.reduceLeDiff, Nat.reduceLT, Nat.reduceMul, Nat.reduceBEq, Int.reduceEq, Int.reduceLT, Int.reduceLE, Int.reduceNeg, Int.reduceToNat, reduceCtorEq, ho, Try.results132, two, eq_self, decide_true]
    by_cases ha : a.op = 2
    · simp only [go_sem, Nat.reduceEqDiff, Nat.reduceAdd, Nat.reduceSub, Nat.reduceLeDiff, Nat.reduceLT, Nat.reduceMul, Nat.reduceBEq, Int.reduceEq, Int.reduceLT, Int.reduceLE, Int.reduceNeg, Int.reduceToNat, reduceCtorEq, ho, Try.results132, ha, b.enc_eq]
      refine GCall.fr ?_ (rplain_fn b) (.inl rfl) ?_; (focus (first | rfl | ((simp only [go_sem, Nat.reduceEqDiff, Nat.reduceAdd, Nat.reduceSub, Nat.reduceLeDiff, Nat.reduceLT, Nat.reduceMul, Nat.reduceBEq, Int.reduceEq, Int.reduceLT, Int.reduceLE, Int.reduceNeg, Int.reduceToNat, reduceCtorEq, ho, Try.results132, b.enc_eq]); done) | ((simp only [go_sem, Nat.reduceEqDiff, Nat.reduceAdd, Nat.reduceSub, Nat.reduceLeDiff, Nat.reduceLT, Nat.reduceMul, Nat.reduceBEq, Int.reduceEq, Int.reduceLT, Int.reduceLE, Int.reduceNeg, Int.reduceToNat, reduceCtorEq, ho, Try.results132, b.enc_eq]); rfl)))
      simp only [go_sem, Nat.reduceEqDiff, Nat.reduceAdd, Nat.reduceSub, Nat.reduceLeDiff, Nat.reduceLT, Nat.reduceMul, Nat.reduceBEq, Int.reduceEq, Int.reduceLT, Int.reduceLE, Int.reduceNeg, Int.reduceToNat, reduceCtorEq, ho, Try.results132]
      have ha1 : ¬ a.op = 1 := by omega
      cases hp : b.plain with
      | true =>
        simp only [go_sem, Nat.reduceEqDiff, Nat.reduceAdd, Nat.reduceSub, Nat.reduceLeDiff, Nat.reduceLT, Nat.reduceMul, Nat.reduceBEq, Int.reduceEq, Int.reduceLT, Int.reduceLE, Int.reduceNeg, Int.reduceToNat, reduceCtorEq, ho, Try.results132, hp]
        have hp' := hp
        simp only [Ex.plain, Bool.and_eq_true, decide_eq_true_eq] at hp'
        obtain ⟨p1, p2, p3⟩ := hp'
        have : ∀ op, Ex.cond2 op a b = some ⟨op, a.int, b.val⟩ := fun op => by simp [Ex.cond2, ha, p1, p2, p3]
        rw [this]
        simp [condPV, Cd.enc]
      | false =>
        have : ∀ op, Ex.cond2 op a b = none := fun op => by
          simp only [Ex.cond2, ha1, if_false]
          rw [if_neg]
          rintro ⟨_, q1, q2, q3⟩
          simp [Ex.plain, q1, q2, q3] at hp
        rw [this]
        simp only [go_sem, Nat.reduceEqDiff, Nat.reduceAdd, Nat.reduceSub, Nat.reduceLeDiff, Nat.reduceLT, Nat.reduceMul, Nat.reduceBEq, Int.reduceEq, Int.reduceLT, Int.reduceLE, Int.reduceNeg, Int.reduceToNat, reduceCtorEq, ho, Try.results132, hp, a.enc_eq]
        by_cases hb : b.op = 2
        · simp only [go_sem, Nat.reduceEqDiff, Nat.reduceAdd, Nat.reduceSub, Nat.reduceLeDiff, Nat.reduceLT, Nat.reduceMul, Nat.reduceBEq, Int.reduceEq, Int.reduceLT, Int.reduceLE, Int.reduceNeg, Int.reduceToNat, reduceCtorEq, ho, Try.results132, hb]
          refine GCall.fr ?_ (rplain_fn a) (.inl rfl) ?_; (focus (first | rfl | ((simp only [go_sem, Nat.reduceEqDiff, Nat.reduceAdd, Nat.reduceSub, Nat.reduceLeDiff, Nat.reduceLT, Nat.reduceMul, Nat.reduceBEq, Int.reduceEq, Int.reduceLT, Int.reduceLE, Int.reduceNeg, Int.reduceToNat, reduceCtorEq, ho, Try.results132, a.enc_eq, ha]); done) | ((simp only [go_sem, Nat.reduceEqDiff, Nat.reduceAdd, Nat.reduceSub, Nat.reduceLeDiff, Nat.reduceLT, Nat.reduceMul, Nat.reduceBEq, Int.reduceEq, Int.reduceLT, Int.reduceLE, Int.reduceNeg, Int.reduceToNat, reduceCtorEq, ho, Try.results132, a.enc_eq, ha]); rfl)))
          simp only [go_sem, Nat.reduceEqDiff, Nat.reduceAdd, Nat.reduceSub, Nat.reduceLeDiff, Nat.reduceLT, Nat.reduceMul, Nat.reduceBEq, Int.reduceEq, Int.reduceLT, Int.reduceLE, Int.reduceNeg, Int.reduceToNat, reduceCtorEq, ho, Try.results132, show a.plain = false by simp [Ex.plain, ha1], condPV, Cd.enc, Cd.zero]
        · simp only [go_sem, Nat.reduceEqDiff, Nat.reduceAdd, Nat.reduceSub, Nat.reduceLeDiff, Nat.reduceLT, Nat.reduceMul, Nat.reduceBEq, Int.reduceEq, Int.reduceLT, Int.reduceLE, Int.reduceNeg, Int.reduceToNat, reduceCtorEq, ho, Try.results132, hb, condPV, Cd.enc, Cd.zero]
    · simp only [go_sem, Nat.reduceEqDiff, Nat.reduceAdd, Nat.reduceSub, Nat.reduceLeDiff, Nat.reduceLT, Nat.reduceMul, Nat.reduceBEq, Int.reduceEq, Int.reduceLT, Int.reduceLE, Int.reduceNeg, Int.reduceToNat, reduceCtorEq, ho, Try.results132, ha]
      by_cases hb : b.op = 2
      · simp only [go_sem, Nat.reduceEqDiff, Nat.reduceAdd, Nat.reduceSub, Nat.reduceLeDiff, Nat.reduceLT, Nat.reduceMul, Nat.reduceBEq, Int.reduceEq, Int.reduceLT, Int.reduceLE, Int.reduceNeg, Int.reduceToNat, reduceCtorEq, ho, Try.results132, hb, a.enc_eq]
        refine GCall.fr ?_ (rplain_fn a) (.inl rfl) ?_; (focus (first | rfl | ((simp only [go_sem, Nat.reduceEqDiff, Nat.reduceAdd, Nat.reduceSub, Nat.reduceLeDiff, Nat.reduceLT, Nat.reduceMul, Nat.reduceBEq, Int.reduceEq, Int.reduceLT, Int.reduceLE, Int.reduceNeg, Int.reduceToNat, reduceCtorEq, ho, Try.results132, a.enc_eq]); done) | ((simp only [go_sem, Nat.reduceEqDiff, Nat.reduceAdd, Nat.reduceSub, Nat.reduceLeDiff, Nat.reduceLT, Nat.reduceMul, Nat.reduceBEq, Int.reduceEq, Int.reduceLT, Int.reduceLE, Int.reduceNeg, Int.reduceToNat, reduceCtorEq, ho, Try.results132, a.enc_eq]); rfl)))
        simp only [go_sem, Nat.reduceEqDiff, Nat.reduceAdd, Nat.reduceSub, Nat.reduceLeDiff, Nat.reduceLT, Nat.reduceMul, Nat.reduceBEq, Int.reduceEq, Int.reduceLT, Int.reduceLE, Int.reduceNeg, Int.reduceToNat, reduceCtorEq, ho, Try.results132]
        cases hp : a.plain with
        | true =>
          simp only [go_sem, Nat.reduceEqDiff, Nat.reduceAdd, Nat.reduceSub, Nat.reduceLeDiff, Nat.reduceLT, Nat.reduceMul, Nat.reduceBEq, Int.reduceEq, Int.reduceLT, Int.reduceLE, Int.reduceNeg, Int.reduceToNat, reduceCtorEq, ho, Try.results132, hp]
          refine QCall.fr ?_ (hm) (.inl rfl) ?_; (focus (first | rfl | ((simp only [go_sem, Nat.reduceEqDiff, Nat.reduceAdd, Nat.reduceSub, Nat.reduceLeDiff, Nat.reduceLT, Nat.reduceMul, Nat.reduceBEq, Int.reduceEq, Int.reduceLT, Int.reduceLE, Int.reduceNeg, Int.reduceToNat, reduceCtorEq, ho, Try.results132]); done) | ((simp only [go_sem, Nat.reduceEqDiff, Nat.reduceAdd, Nat.reduceSub, Nat.reduceLeDiff, Nat.reduceLT, Nat.reduceMul, Nat.reduceBEq, Int.reduceEq, Int.reduceLT, Int.reduceLE, Int.reduceNeg, Int.reduceToNat, reduceCtorEq, ho, Try.results132]); rfl)))
          simp only [go_sem, Nat.reduceEqDiff, Nat.reduceAdd, Nat.reduceSub, Nat.reduceLeDiff, Nat.reduceLT, Nat.reduceMul, Nat.reduceBEq, Int.reduceEq, Int.reduceLT, Int.reduceLE, Int.reduceNeg, Int.reduceToNat, reduceCtorEq, ho, Try.results132]
          have hp' := hp
          simp only [Ex.plain, Bool.and_eq_true, decide_eq_true_eq] at hp'
          obtain ⟨p1, p2, p3⟩ := hp'
          have : ∀ op, Ex.cond2 op a b = some ⟨mirrored op, b.int, a.val⟩ := fun op => by simp [Ex.cond2, hb, p1, p2, p3]
          rw [this]
          simp [condPV, Cd.enc]
        | false =>
          have : ∀ op, Ex.cond2 op a b = none := fun op => by
            unfold Ex.cond2
            split
            · rw [if_neg]
              rintro ⟨q0, q2, q3⟩
              rename_i q1
              simp [Ex.plain, q1, q2, q3] at hp
            · rw [if_neg]
              rintro ⟨q1, _⟩
              exact ha q1
          rw [this]
          simp only [go_sem, Nat.reduceEqDiff, Nat.reduceAdd, Nat.reduceSub, Nat.reduceLeDiff, Nat.reduceLT, Nat.reduceMul, Nat.reduceBEq, Int.reduceEq, Int.reduceLT, Int.reduceLE, Int.reduceNeg, Int.reduceToNat, reduceCtorEq, ho, Try.results132, hp, condPV, Cd.enc, Cd.zero]
      · have : ∀ op, Ex.cond2 op a b = none := fun op => by
          unfold Ex.cond2
          split
          · rw [if_neg]
            rintro ⟨q1, _⟩
            exact hb q1
          · rw [if_neg]
            rintro ⟨q1, _⟩
            exact ha q1
        rw [this]
        simp only [go_sem, Nat.reduceEqDiff, Nat.reduceAdd, Nat.reduceSub, Nat.reduceLeDiff, Nat.reduceLT, Nat.reduceMul, Nat.reduceBEq, Int.reduceEq, Int.reduceLT, Int.reduceLE, Int.reduceNeg, Int.reduceToNat, reduceCtorEq, ho, Try.results132, hb, condPV, Cd.enc, Cd.zero]
set_option maxHeartbeats 2000000 in
theorem rcondRest_fn (e : Ex) (h : ¬ (isCmp e.op = true ∧ e.args.length = 2)) : Fc 132 [e.enc] (condPV none) := by
  refine fn_of_awp (E := E0) (M := M0) follows Try.func132 rfl (by decide) ok132 (by decide) (by simp) fun o ho => ?_
  simp only [go_sem, Nat.reduceEqDiff, Nat.reduceAdd, Nat.reduceSub, Nat.reduceLeDiff, Nat.reduceLT, Nat.reduceMul, Nat.reduceBEq, Int.reduceEq, Int.reduceLT, Int.reduceLE, Int.reduceNeg, Int.reduceToNat, reduceCtorEq, ho, Try.results132, e.enc_eq, List.length_map]
  by_cases hc : isCmp e.op = true
  · have hl : ¬ (e.args.length : Int) = 2 := fun hh => h ⟨hc, by omega⟩
    simp only [isCmp, Bool.or_eq_true, decide_eq_true_eq] at hc
    repeat' (first | (refine AIf_cases (fun h => ?_) (fun h => ?_) <;> (try simp only [decide_eq_true_eq, decide_eq_false_iff_not, Bool.not_eq_true', Bool.not_eq_false', Bool.not_eq_true, Bool.not_eq_false] at h) <;> (try simp only [go_sem, Nat.reduceEqDiff, Nat.reduceAdd, Nat.reduceSub, Nat.reduceLeDiff, Nat.reduceLT, Nat.reduceMul, Nat.reduceBEq, Int.reduceEq, Int.reduceLT, Int.reduceLE, Int.reduceNeg, Int.reduceToNat, reduceCtorEq, ho, Try.results132, h, hl, List.length_map])))
    all_goals (first | (simp_all; done) | (simp_all [condPV, Cd.enc, Cd.zero]; done))
  · simp only [isCmp, Bool.or_eq_true, decide_eq_true_eq, not_or] at hc
    obtain ⟨c1, c2, c3, c4, c5⟩ := hc
    simp only [go_sem, Nat.reduceEqDiff, Nat.reduceAdd, Nat.reduceSub, Nat.reduceLeDiff, Nat.reduceLT, Nat.reduceMul, Nat.reduceBEq, Int.reduceEq, Int.reduceLT, Int.reduceLE, Int.reduceNeg, Int.reduceToNat, reduceCtorEq, ho, Try.results132, c1, c2, c3, c4, c5, condPV, Cd.enc, Cd.zero]
theorem rcond_fn (e : Ex) : Fc 132 [e.enc] (condPV e.cond) := by
  by_cases h : isCmp e.op = true ∧ e.args.length = 2
  · obtain ⟨h1, h2⟩ := h
    obtain ⟨op, int, v, n, args⟩ := e
    simp only [Ex.args] at h2
    obtain ⟨a, b, rfl⟩ : ∃ a b, args = [a, b] := by
      match args, h2 with
      | [a, b], _ => exact ⟨a, b, rfl⟩
    have hc : (Ex.mk op int v n [a, b]).cond = Ex.cond2 op a b := by
      unfold Ex.cond
      rw [if_pos h1]
      rfl
    rw [hc]
    refine rcond2_fn op int v n a b (show op = 7 ∨ op = 9 ∨ op = 10 ∨ op = 11 ∨ op = 12 from ?_)
    have h1 : isCmp op = true := h1
    simp only [isCmp, Bool.or_eq_true, decide_eq_true_eq] at h1
    exact h1
  · have hc : e.cond = none := by
      unfold Ex.cond
      split
      · rename_i hc
        split
        · rename_i a b hab
          exact absurd ⟨hc, by rw [hab]; rfl⟩ h
        · rfl
      · rfl
    rw [hc]
    exact rcondRest_fn e h
end Go.Proofs.Ytiefnninebilbaa
/- The reference's window, and that it is the program's; no condition. -/
set_option maxRecDepth 100000
set_option linter.unusedVariables false
set_option linter.unusedSimpArgs false
namespace Go.Proofs.Ytiefnninebilbaa
open Go Go.Sx

def onC (l : List Cd) (col : Int) : List Cd := l.filter fun c => decide (c.col = col)
theorem ok174 : okCode M0 Try.f174.ntmps (Try.f174.body.getD .skip) = true := by decide +kernel
theorem on_fn (l : List Cd) (col : Int) (hl : l.length ≤ 100000000) : Fc 174 [.sl (l.map Cd.enc), .int .i64 col] (.sl ((onC l col).map Cd.enc)) := by
  refine fn_of_awp (E := E0) (M := M0) follows Try.func174 rfl (by decide) ok174 (by decide) (by simp) fun o ho => ?_
  simp only [go_sem, Nat.reduceEqDiff, Nat.reduceAdd, Nat.reduceSub, Nat.reduceLeDiff, Nat.reduceLT, Nat.reduceMul, Nat.reduceBEq, Int.reduceEq, Int.reduceLT, Int.reduceLE, Int.reduceNeg, Int.reduceToNat, reduceCtorEq, ho, Try.results174]
  refine ⟨fun m st => ∃ (done rest : List Cd), l = done ++ rest ∧ rest.length = m ∧ st.s 6 = .int .i64 done.length ∧ st.s 0 = .sl (l.map Cd.enc) ∧ st.s 1 = .int .i64 col ∧ ((onC done col = [] ∧ st.s 5 = .nil) ∨ (onC done col ≠ [] ∧ ∃ v, st.s 5 = .ref 27 v ∧ st.o 27 = (v, some (true, .row 72 ((onC done col).map Cd.enc))))), l.length,
    ⟨[], l, rfl, rfl, by simp only [go_sem, Nat.reduceEqDiff, Nat.reduceAdd, Nat.reduceSub, Nat.reduceLeDiff, Nat.reduceLT, Nat.reduceMul, Nat.reduceBEq, Int.reduceEq, Int.reduceLT, Int.reduceLE, Int.reduceNeg, Int.reduceToNat, reduceCtorEq, ho, Try.results174]; rfl, by simp only [go_sem, Nat.reduceEqDiff, Nat.reduceAdd, Nat.reduceSub, Nat.reduceLeDiff, Nat.reduceLT, Nat.reduceMul, Nat.reduceBEq, Int.reduceEq, Int.reduceLT, Int.reduceLE, Int.reduceNeg, Int.reduceToNat, reduceCtorEq, ho, Try.results174], by simp only [go_sem, Nat.reduceEqDiff, Nat.reduceAdd, Nat.reduceSub, Nat.reduceLeDiff, Nat.reduceLT, Nat.reduceMul, Nat.reduceBEq, Int.reduceEq, Int.reduceLT, Int.reduceLE, Int.reduceNeg, Int.reduceToNat, reduceCtorEq, ho, Try.results174], .inl ⟨rfl, by simp only [go_sem, Nat.reduceEqDiff, Nat.reduceAdd, Nat.reduceSub, Nat.reduceLeDiff, Nat.reduceLT, Nat.reduceMul, Nat.reduceBEq, Int.reduceEq, Int.reduceLT, Int.reduceLE, Int.reduceNeg, Int.reduceToNat, reduceCtorEq, ho, Try.results174]⟩⟩, ?_⟩
  rintro m st ⟨done, rest, hl', hn, h6, hs0, hs1, h5⟩
  have hlen2 : done.length + rest.length = l.length := by rw [hl']; simp
  have hw : IntKind.i64.wrap ((done.length : Int) + 1) = (done.length : Int) + 1 := wrap_fits (by omega) (by omega)
  cases rest with
  | nil =>
    have hlt : ¬ (done.length : Int) < (l.length : Int) := by simp at hlen2; omega
    have hd : l = done := by simpa using hl'
    rcases h5 with ⟨hd0, h5⟩ | ⟨hne, v, h5, h27⟩
    · simp only [go_sem, Nat.reduceEqDiff, Nat.reduceAdd, Nat.reduceSub, Nat.reduceLeDiff, Nat.reduceLT, Nat.reduceMul, Nat.reduceBEq, Int.reduceEq, Int.reduceLT, Int.reduceLE, Int.reduceNeg, Int.reduceToNat, reduceCtorEq, ho, Try.results174, h6, hs0, hlt, h5, List.length_map]
      rw [hd, hd0]; rfl
    · have hrow : getRow st.o 27 v = some (72, (onC done col).map Cd.enc) := by simp [getRow, h27]
      simp only [go_sem, Nat.reduceEqDiff, Nat.reduceAdd, Nat.reduceSub, Nat.reduceLeDiff, Nat.reduceLT, Nat.reduceMul, Nat.reduceBEq, Int.reduceEq, Int.reduceLT, Int.reduceLE, Int.reduceNeg, Int.reduceToNat, reduceCtorEq, ho, Try.results174, h6, hs0, hlt, h5, hrow, List.length_map]
      rw [hd]
  | cons c rest =>
    have hlt : (done.length : Int) < (l.length : Int) := by simp at hlen2; omega
    have hget := cds_get hl'
    have hfl := List.length_filter_le (fun c : Cd => decide (c.col = col)) done
    have hbig : ((onC done col).length + 1) * 49 ≤ 140737488355328 := by unfold onC; omega
    have hfa : onC (done ++ [c]) col = if c.col = col then onC done col ++ [c] else onC done col := by
      unfold onC
      rw [List.filter_append]
      by_cases h : c.col = col <;> simp [h]
    simp only [go_sem, Nat.reduceEqDiff, Nat.reduceAdd, Nat.reduceSub, Nat.reduceLeDiff, Nat.reduceLT, Nat.reduceMul, Nat.reduceBEq, Int.reduceEq, Int.reduceLT, Int.reduceLE, Int.reduceNeg, Int.reduceToNat, reduceCtorEq, ho, Try.results174, h6, hs0, hs1, hlt, hget, Int.natCast_nonneg, Int.toNat_natCast, List.length_map, Cd.enc]
    by_cases hc : c.col = col
    · rw [if_pos hc] at hfa
      simp only [go_sem, Nat.reduceEqDiff, Nat.reduceAdd, Nat.reduceSub, Nat.reduceLeDiff, Nat.reduceLT, Nat.reduceMul, Nat.reduceBEq, Int.reduceEq, Int.reduceLT, Int.reduceLE, Int.reduceNeg, Int.reduceToNat, reduceCtorEq, ho, Try.results174, hc, eq_self, h6, hs0, hs1, hget, Int.natCast_nonneg, Int.toNat_natCast, Cd.enc]
      rcases h5 with ⟨hd0, h5⟩ | ⟨hne, v, h5, h27⟩
      · simp only [go_sem, Nat.reduceEqDiff, Nat.reduceAdd, Nat.reduceSub, Nat.reduceLeDiff, Nat.reduceLT, Nat.reduceMul, Nat.reduceBEq, Int.reduceEq, Int.reduceLT, Int.reduceLE, Int.reduceNeg, Int.reduceToNat, reduceCtorEq, ho, Try.results174, h5, h6, hs0, hs1, hw, Cd.enc]
        exact ⟨rest.length, by simp at hn; omega, done ++ [c], rest, by simp [hl'], rfl, by simp, .inr ⟨by rw [hfa]; simp, _, rfl, by rw [hfa, hd0]; simp [Cd.enc, hc]⟩⟩
      · simp only [go_sem, Nat.reduceEqDiff, Nat.reduceAdd, Nat.reduceSub, Nat.reduceLeDiff, Nat.reduceLT, Nat.reduceMul, Nat.reduceBEq, Int.reduceEq, Int.reduceLT, Int.reduceLE, Int.reduceNeg, Int.reduceToNat, reduceCtorEq, ho, Try.results174, h5, h27, h6, hs0, hs1, hw, hbig, List.length_map, Cd.enc]
        exact ⟨rest.length, by simp at hn; omega, done ++ [c], rest, by simp [hl'], rfl, by simp, .inr ⟨by rw [hfa]; simp, _, rfl, by rw [hfa]; simp [Cd.enc, hc]⟩⟩
    · rw [if_neg hc] at hfa
      simp only [go_sem, Nat.reduceEqDiff, Nat.reduceAdd, Nat.reduceSub, Nat.reduceLeDiff, Nat.reduceLT, Nat.reduceMul, Nat.reduceBEq, Int.reduceEq, Int.reduceLT, Int.reduceLE, Int.reduceNeg, Int.reduceToNat, reduceCtorEq, ho, Try.results174, hc, h6, hs0, hs1, hw]
      refine ⟨rest.length, by simp at hn; omega, done ++ [c], rest, by simp [hl'], rfl, by simp, ?_⟩
      rw [hfa]
      exact h5
def narrow (r : Int × Int) (c : Cd) : Int × Int :=
  if c.op = 7 then (mxI r.1 c.val.int, mnI r.2 c.val.int)
  else if c.op = 9 then (r.1, mnI r.2 (IntKind.i64.wrap (c.val.int - 1)))
  else if c.op = 10 then (r.1, mnI r.2 c.val.int)
  else if c.op = 11 then (mxI r.1 (IntKind.i64.wrap (c.val.int + 1)), r.2)
  else (mxI r.1 c.val.int, r.2)
theorem narrow_meet (r : Int × Int) (c : Cd) (h : isCmp c.op = true) : narrow r c = (meetLo c.op c.val.int r.1, meetHi c.op c.val.int r.2) := by
  simp only [isCmp, Bool.or_eq_true, decide_eq_true_eq] at h
  rcases h with h | h | h | h | h <;> simp [narrow, meetLo, meetHi, h]
theorem ok175 : okCode M0 Try.f175.ntmps (Try.f175.body.getD .skip) = true := by decide +kernel
theorem narrow_fn (lo hi : Int) (c : Cd) : Fc 175 [.agg [.int .i64 lo, .int .i64 hi], c.enc] (.agg [.int .i64 (narrow (lo, hi) c).1, .int .i64 (narrow (lo, hi) c).2]) := by
  refine fn_of_awp (E := E0) (M := M0) follows Try.func175 rfl (by decide) ok175 (by decide) (by simp) fun o ho => ?_
  simp only [go_sem, Nat.reduceEqDiff, Nat.reduceAdd, Nat.reduceSub, Nat.reduceLeDiff, Nat.reduceLT, Nat.reduceMul, Nat.reduceBEq, Int.reduceEq, Int.reduceLT, Int.reduceLE, Int.reduceNeg, Int.reduceToNat, reduceCtorEq, ho, Try.results175, Cd.enc]
  by_cases h7 : c.op = 7
  · simp only [go_sem, Nat.reduceEqDiff, Nat.reduceAdd, Nat.reduceSub, Nat.reduceLeDiff, Nat.reduceLT, Nat.reduceMul, Nat.reduceBEq, Int.reduceEq, Int.reduceLT, Int.reduceLE, Int.reduceNeg, Int.reduceToNat, reduceCtorEq, ho, Try.results175, h7]
    simp only [narrow, h7, if_true]
    exact ⟨rfl, rfl⟩
  by_cases h9 : c.op = 9
  · simp only [go_sem, Nat.reduceEqDiff, Nat.reduceAdd, Nat.reduceSub, Nat.reduceLeDiff, Nat.reduceLT, Nat.reduceMul, Nat.reduceBEq, Int.reduceEq, Int.reduceLT, Int.reduceLE, Int.reduceNeg, Int.reduceToNat, reduceCtorEq, ho, Try.results175, h9]
    simp only [narrow, h9, if_true, if_false, Int.reduceEq]
    first | rfl | exact ⟨rfl, rfl⟩ | exact ⟨trivial, rfl⟩ | exact ⟨rfl, trivial⟩
  by_cases h10 : c.op = 10
  · simp only [go_sem, Nat.reduceEqDiff, Nat.reduceAdd, Nat.reduceSub, Nat.reduceLeDiff, Nat.reduceLT, Nat.reduceMul, Nat.reduceBEq, Int.reduceEq, Int.reduceLT, Int.reduceLE, Int.reduceNeg, Int.reduceToNat, reduceCtorEq, ho, Try.results175, h10]
    simp only [narrow, h10, if_true, if_false, Int.reduceEq]
    first | rfl | exact ⟨rfl, rfl⟩ | exact ⟨trivial, rfl⟩ | exact ⟨rfl, trivial⟩
  by_cases h11 : c.op = 11
  · simp only [go_sem, Nat.reduceEqDiff, Nat.reduceAdd, Nat.reduceSub, Nat.reduceLeDiff, Nat.reduceLT, Nat.reduceMul, Nat.reduceBEq, Int.reduceEq, Int.reduceLT, Int.reduceLE, Int.reduceNeg, Int.reduceToNat, reduceCtorEq, ho, Try.results175, h11]
    simp only [narrow, h11, if_true, if_false, Int.reduceEq]
    first | rfl | exact ⟨rfl, rfl⟩ | exact ⟨trivial, rfl⟩ | exact ⟨rfl, trivial⟩
  simp only [go_sem, Nat.reduceEqDiff, Nat.reduceAdd, Nat.reduceSub, Nat.reduceLeDiff, Nat.reduceLT, Nat.reduceMul, Nat.reduceBEq, Int.reduceEq, Int.reduceLT, Int.reduceLE, Int.reduceNeg, Int.reduceToNat, reduceCtorEq, ho, Try.results175, h7, h9, h10, h11]
  simp only [narrow, h7, h9, h10, h11, if_false]
  first | rfl | exact ⟨rfl, rfl⟩ | exact ⟨trivial, rfl⟩ | exact ⟨rfl, trivial⟩
def bnd : List Cd → Int × Int → (Int × Int) × Bool
  | [], r => (r, true)
  | c :: l, r => if c.val.kind ≠ 1 then (r, false) else bnd l (narrow r c)
def bndPV (x : (Int × Int) × Bool) : PV := .tup [.agg [.int .i64 x.1.1, .int .i64 x.1.2], .bool x.2]
theorem ok125 : okCode M0 Try.f125.ntmps (Try.f125.body.getD .skip) = true := by decide +kernel
theorem bounds_fn (l : List Cd) (col lo hi : Int) (hl : l.length ≤ 100000000) : Fc 125 [.sl (l.map Cd.enc), .int .i64 col, .int .i64 lo, .int .i64 hi] (bndPV (bnd (onC l col) (lo, hi))) := by
  have hfl := List.length_filter_le (fun c : Cd => decide (c.col = col)) l
  have hon : (onC l col).length ≤ 100000000 := by unfold onC; omega
  refine fn_of_awp (E := E0) (M := M0) follows Try.func125 rfl (by decide) ok125 (by decide) (by simp) fun o ho => ?_
  simp only [go_sem, Nat.reduceEqDiff, Nat.reduceAdd, Nat.reduceSub, Nat.reduceLeDiff, Nat.reduceLT, Nat.reduceMul, Nat.reduceBEq, Int.reduceEq, Int.reduceLT, Int.reduceLE, Int.reduceNeg, Int.reduceToNat, reduceCtorEq, ho, Try.results125]
  refine GCall.fr ?_ (on_fn l col hl) (.inr rfl) ?_; (focus (first | rfl | ((simp only [go_sem, Nat.reduceEqDiff, Nat.reduceAdd, Nat.reduceSub, Nat.reduceLeDiff, Nat.reduceLT, Nat.reduceMul, Nat.reduceBEq, Int.reduceEq, Int.reduceLT, Int.reduceLE, Int.reduceNeg, Int.reduceToNat, reduceCtorEq, ho, Try.results125, Cd.enc]); done) | ((simp only [go_sem, Nat.reduceEqDiff, Nat.reduceAdd, Nat.reduceSub, Nat.reduceLeDiff, Nat.reduceLT, Nat.reduceMul, Nat.reduceBEq, Int.reduceEq, Int.reduceLT, Int.reduceLE, Int.reduceNeg, Int.reduceToNat, reduceCtorEq, ho, Try.results125, Cd.enc]); rfl)))
  simp only [go_sem, Nat.reduceEqDiff, Nat.reduceAdd, Nat.reduceSub, Nat.reduceLeDiff, Nat.reduceLT, Nat.reduceMul, Nat.reduceBEq, Int.reduceEq, Int.reduceLT, Int.reduceLE, Int.reduceNeg, Int.reduceToNat, reduceCtorEq, ho, Try.results125]
  generalize hq : onC l col = q at hon ⊢
  refine ⟨fun m st => ∃ (done rest : List Cd) (a1 a2 : Int), q = done ++ rest ∧ rest.length = m ∧ bnd rest (a1, a2) = bnd q (lo, hi) ∧ st.s 12 = .int .i64 done.length ∧ st.s 11 = .sl (q.map Cd.enc) ∧ st.s 10 = .ptr 10 1 0 ∧ st.o 10 = (1, some (true, .box 118 [.int .i64 a1, .int .i64 a2])) ∧ st.s 8 = .ptr 8 1 0 ∧ st.o 8 = (1, some (true, .box 118 [.int .i64 0, .int .i64 0])), q.length,
    ⟨[], q, lo, hi, rfl, rfl, rfl, by simp only [go_sem, Nat.reduceEqDiff, Nat.reduceAdd, Nat.reduceSub, Nat.reduceLeDiff, Nat.reduceLT, Nat.reduceMul, Nat.reduceBEq, Int.reduceEq, Int.reduceLT, Int.reduceLE, Int.reduceNeg, Int.reduceToNat, reduceCtorEq, ho, Try.results125]; rfl, by simp only [go_sem, Nat.reduceEqDiff, Nat.reduceAdd, Nat.reduceSub, Nat.reduceLeDiff, Nat.reduceLT, Nat.reduceMul, Nat.reduceBEq, Int.reduceEq, Int.reduceLT, Int.reduceLE, Int.reduceNeg, Int.reduceToNat, reduceCtorEq, ho, Try.results125], by simp only [go_sem, Nat.reduceEqDiff, Nat.reduceAdd, Nat.reduceSub, Nat.reduceLeDiff, Nat.reduceLT, Nat.reduceMul, Nat.reduceBEq, Int.reduceEq, Int.reduceLT, Int.reduceLE, Int.reduceNeg, Int.reduceToNat, reduceCtorEq, ho, Try.results125], by simp only [go_sem, Nat.reduceEqDiff, Nat.reduceAdd, Nat.reduceSub, Nat.reduceLeDiff, Nat.reduceLT, Nat.reduceMul, Nat.reduceBEq, Int.reduceEq, Int.reduceLT, Int.reduceLE, Int.reduceNeg, Int.reduceToNat, reduceCtorEq, ho, Try.results125], by simp only [go_sem, Nat.reduceEqDiff, Nat.reduceAdd, Nat.reduceSub, Nat.reduceLeDiff, Nat.reduceLT, Nat.reduceMul, Nat.reduceBEq, Int.reduceEq, Int.reduceLT, Int.reduceLE, Int.reduceNeg, Int.reduceToNat, reduceCtorEq, ho, Try.results125], by simp only [go_sem, Nat.reduceEqDiff, Nat.reduceAdd, Nat.reduceSub, Nat.reduceLeDiff, Nat.reduceLT, Nat.reduceMul, Nat.reduceBEq, Int.reduceEq, Int.reduceLT, Int.reduceLE, Int.reduceNeg, Int.reduceToNat, reduceCtorEq, ho, Try.results125]⟩, ?_⟩
  rintro m st ⟨done, rest, a1, a2, hl', hn, hb, h12, h11, hs10, ho10, hs8, ho8⟩
  have hlen2 : done.length + rest.length = q.length := by rw [hl']; simp
  have hw : IntKind.i64.wrap ((done.length : Int) + 1) = (done.length : Int) + 1 := wrap_fits (by omega) (by omega)
  have hg10 : getBox st.o 10 1 = some (118, [.int .i64 a1, .int .i64 a2]) := by simp [getBox, ho10]
  have hg8 : getBox st.o 8 1 = some (118, [.int .i64 0, .int .i64 0]) := by simp [getBox, ho8]
  rw [← hb]
  cases rest with
  | nil =>
    have hlt : ¬ (done.length : Int) < (q.length : Int) := by simp at hlen2; omega
    simp only [go_sem, Nat.reduceEqDiff, Nat.reduceAdd, Nat.reduceSub, Nat.reduceLeDiff, Nat.reduceLT, Nat.reduceMul, Nat.reduceBEq, Int.reduceEq, Int.reduceLT, Int.reduceLE, Int.reduceNeg, Int.reduceToNat, reduceCtorEq, ho, Try.results125, h12, h11, hlt, hs10, ho10, hg10, hs8, ho8, hg8, List.length_map, bnd, bndPV]
  | cons c rest =>
    have hlt : (done.length : Int) < (q.length : Int) := by simp at hlen2; omega
    have hget := cds_get hl'
    simp only [go_sem, Nat.reduceEqDiff, Nat.reduceAdd, Nat.reduceSub, Nat.reduceLeDiff, Nat.reduceLT, Nat.reduceMul, Nat.reduceBEq, Int.reduceEq, Int.reduceLT, Int.reduceLE, Int.reduceNeg, Int.reduceToNat, reduceCtorEq, ho, Try.results125, h12, h11, hlt, hget, Int.natCast_nonneg, Int.toNat_natCast, List.length_map, Cd.enc]
    by_cases hk : c.val.kind = 1
    · simp only [go_sem, Nat.reduceEqDiff, Nat.reduceAdd, Nat.reduceSub, Nat.reduceLeDiff, Nat.reduceLT, Nat.reduceMul, Nat.reduceBEq, Int.reduceEq, Int.reduceLT, Int.reduceLE, Int.reduceNeg, Int.reduceToNat, reduceCtorEq, ho, Try.results125, hk, h12, h11, hs10, hg10, ho10, hget, Int.natCast_nonneg, Int.toNat_natCast, Cd.enc]
      refine QCall.fr ?_ (narrow_fn a1 a2 c) (.inl rfl) ?_; (focus (first | rfl | ((simp only [go_sem, Nat.reduceEqDiff, Nat.reduceAdd, Nat.reduceSub, Nat.reduceLeDiff, Nat.reduceLT, Nat.reduceMul, Nat.reduceBEq, Int.reduceEq, Int.reduceLT, Int.reduceLE, Int.reduceNeg, Int.reduceToNat, reduceCtorEq, ho, Try.results125, Cd.enc, hk]); done) | ((simp only [go_sem, Nat.reduceEqDiff, Nat.reduceAdd, Nat.reduceSub, Nat.reduceLeDiff, Nat.reduceLT, Nat.reduceMul, Nat.reduceBEq, Int.reduceEq, Int.reduceLT, Int.reduceLE, Int.reduceNeg, Int.reduceToNat, reduceCtorEq, ho, Try.results125, Cd.enc, hk]); rfl)))
      simp only [go_sem, Nat.reduceEqDiff, Nat.reduceAdd, Nat.reduceSub, Nat.reduceLeDiff, Nat.reduceLT, Nat.reduceMul, Nat.reduceBEq, Int.reduceEq, Int.reduceLT, Int.reduceLE, Int.reduceNeg, Int.reduceToNat, reduceCtorEq, ho, Try.results125, h12, h11, hs10, hg10, ho10, hs8, ho8, hw]
      exact ⟨rest.length, by simp at hn; omega, done ++ [c], rest, _, _, by simp [hl'], rfl, by rw [show bnd (c :: rest) (a1, a2) = bnd rest (narrow (a1, a2) c) from if_neg (by simp [hk])], by simp, rfl⟩
    · simp only [go_sem, Nat.reduceEqDiff, Nat.reduceAdd, Nat.reduceSub, Nat.reduceLeDiff, Nat.reduceLT, Nat.reduceMul, Nat.reduceBEq, Int.reduceEq, Int.reduceLT, Int.reduceLE, Int.reduceNeg, Int.reduceToNat, reduceCtorEq, ho, Try.results125, hk, hs10, hg10, ho10, hs8, ho8, hg8]
      simp [bndPV, bnd, hk]
def rwin (l : List Cd) (f t : Int) : Pd × Bool :=
  if (bnd (onC l f) (0, 1099511627775)).2 = false ∨ (bnd (onC l t) (1, 1099511627776)).2 = false then (⟨0, 0⟩, false)
  else winOf (some ((bnd (onC l f) (0, 1099511627775)).1, (bnd (onC l t) (1, 1099511627776)).1))
theorem win_both (f t : Int) : ∀ (l : List Cd) (a b : Int × Int), (∀ c ∈ l, isCmp c.op = true) → winL f t l a b = if (bnd (onC l f) a).2 = false ∨ (bnd (onC l t) b).2 = false then none else some ((bnd (onC l f) a).1, (bnd (onC l t) b).1)
  | [], a, b, _ => by simp [winL, onC, bnd]
  | c :: l, a, b, h => by
    have ih := fun a b => win_both f t l a b (fun c hc => h c (by simp [hc]))
    have hc := h c (by simp)
    have ef : onC (c :: l) f = if c.col = f then c :: onC l f else onC l f := by
      unfold onC; rw [List.filter_cons]; by_cases h : c.col = f <;> simp [h]
    have et : onC (c :: l) t = if c.col = t then c :: onC l t else onC l t := by
      unfold onC; rw [List.filter_cons]; by_cases h : c.col = t <;> simp [h]
    rw [winL, ef, et]
    by_cases hf : c.col = f
    · by_cases hk : c.val.kind = 1
      · by_cases ht : c.col = t
        · rw [if_neg (by simp [hf]), if_neg (by simp [hk]), if_pos hf, if_pos ht, if_pos hf, if_pos ht, ih]
          simp only [bnd, hk, ne_eq, not_true_eq_false, if_false, narrow_meet _ _ hc]
        · rw [if_neg (by simp [hf]), if_neg (by simp [hk]), if_pos hf, if_neg ht, if_pos hf, if_neg ht, ih]
          simp only [bnd, hk, ne_eq, not_true_eq_false, if_false, narrow_meet _ _ hc]
      · rw [if_neg (by simp [hf]), if_pos hk, if_pos hf]
        have : (bnd (c :: onC l f) a).2 = false := by simp [bnd, hk]
        rw [if_pos (.inl this)]
    · by_cases ht : c.col = t
      · by_cases hk : c.val.kind = 1
        · rw [if_neg (by simp [ht]), if_neg (by simp [hk]), if_neg hf, if_pos ht, if_neg hf, if_pos ht, ih]
          simp only [bnd, hk, ne_eq, not_true_eq_false, if_false, narrow_meet _ _ hc]
        · rw [if_neg (by simp [ht]), if_pos hk, if_pos ht]
          have : (bnd (c :: onC l t) b).2 = false := by simp [bnd, hk]
          rw [if_pos (.inr this)]
      · rw [if_pos ⟨hf, ht⟩, if_neg hf, if_neg ht, ih]
theorem cond_isCmp {e : Ex} {c : Cd} (h : e.cond = some c) : isCmp c.op = true := by
  have hm : ∀ op, isCmp op = true → isCmp (mirrored op) = true := by
    intro op h
    simp only [isCmp, Bool.or_eq_true, decide_eq_true_eq] at h
    rcases h with h | h | h | h | h <;> subst h <;> decide
  unfold Ex.cond at h
  split at h
  · rename_i hc
    split at h
    · rename_i a b _
      unfold Ex.cond2 at h
      split at h
      · split at h
        · cases h; exact hm _ hc
        · cases h
      · split at h
        · cases h; exact hc
        · cases h
    · cases h
  · cases h
theorem conds_isCmp (e : Ex) : ∀ c ∈ e.conds, isCmp c.op = true := by
  intro c hc
  unfold Ex.conds at hc
  obtain ⟨x, _, hx⟩ := List.mem_filterMap.1 hc
  exact cond_isCmp hx
theorem win_eq (e : Ex) (f t : Int) : winOf (winL f t e.conds (0, 1099511627775) (1, 1099511627776)) = rwin e.conds f t := by
  rw [win_both f t e.conds _ _ (conds_isCmp e), rwin]
  split <;> rfl
end Go.Proofs.Ytiefnninebilbaa
/- The reference's window, and that it is the program's; no condition. -/
set_option maxRecDepth 100000
set_option linter.unusedVariables false
set_option linter.unusedSimpArgs false
namespace Go.Proofs.Ytiefnninebilbaa
open Go Go.Sx

theorem ok54 : okCode M0 Try.f54.ntmps (Try.f54.body.getD .skip) = true := by decide +kernel
theorem rconds_fn (e : Ex) (h : e.size ≤ 10000000) : Fc 54 [e.enc] (.sl (e.conds.map Cd.enc)) := by
  have hcl := e.conj_len
  refine fn_of_awp (E := E0) (M := M0) follows Try.func54 rfl (by decide) ok54 (by decide) (by simp) fun o ho => ?_
  simp only [go_sem, Nat.reduceEqDiff, Nat.reduceAdd, Nat.reduceSub, Nat.reduceLeDiff, Nat.reduceLT, Nat.reduceMul, Nat.reduceBEq, Int.reduceEq, Int.reduceLT, Int.reduceLE, Int.reduceNeg, Int.reduceToNat, reduceCtorEq, ho, Try.results54, e.enc_eq]
  refine GCall.fr ?_ (rconj_fn _ e (Nat.le_refl _) h) (.inr rfl) ?_; (focus (first | rfl | ((simp only [go_sem, Nat.reduceEqDiff, Nat.reduceAdd, Nat.reduceSub, Nat.reduceLeDiff, Nat.reduceLT, Nat.reduceMul, Nat.reduceBEq, Int.reduceEq, Int.reduceLT, Int.reduceLE, Int.reduceNeg, Int.reduceToNat, reduceCtorEq, ho, Try.results54, e.enc_eq]); done) | ((simp only [go_sem, Nat.reduceEqDiff, Nat.reduceAdd, Nat.reduceSub, Nat.reduceLeDiff, Nat.reduceLT, Nat.reduceMul, Nat.reduceBEq, Int.reduceEq, Int.reduceLT, Int.reduceLE, Int.reduceNeg, Int.reduceToNat, reduceCtorEq, ho, Try.results54, e.enc_eq]); rfl)))
  simp only [go_sem, Nat.reduceEqDiff, Nat.reduceAdd, Nat.reduceSub, Nat.reduceLeDiff, Nat.reduceLT, Nat.reduceMul, Nat.reduceBEq, Int.reduceEq, Int.reduceLT, Int.reduceLE, Int.reduceNeg, Int.reduceToNat, reduceCtorEq, ho, Try.results54]
  refine ⟨fun m st => ∃ (done rest : List Ex), e.conj = done ++ rest ∧ rest.length = m ∧ st.s 5 = .int .i64 done.length ∧ st.s 4 = .sl (e.conj.map Ex.enc) ∧ ((done.filterMap Ex.cond = [] ∧ st.s 3 = .nil) ∨ (done.filterMap Ex.cond ≠ [] ∧ ∃ v, st.s 3 = .ref 29 v ∧ st.o 29 = (v, some (true, .row 72 ((done.filterMap Ex.cond).map Cd.enc))))), e.conj.length,
    ⟨[], e.conj, rfl, rfl, by simp only [go_sem, Nat.reduceEqDiff, Nat.reduceAdd, Nat.reduceSub, Nat.reduceLeDiff, Nat.reduceLT, Nat.reduceMul, Nat.reduceBEq, Int.reduceEq, Int.reduceLT, Int.reduceLE, Int.reduceNeg, Int.reduceToNat, reduceCtorEq, ho, Try.results54]; rfl, by simp only [go_sem, Nat.reduceEqDiff, Nat.reduceAdd, Nat.reduceSub, Nat.reduceLeDiff, Nat.reduceLT, Nat.reduceMul, Nat.reduceBEq, Int.reduceEq, Int.reduceLT, Int.reduceLE, Int.reduceNeg, Int.reduceToNat, reduceCtorEq, ho, Try.results54], .inl ⟨rfl, by simp only [go_sem, Nat.reduceEqDiff, Nat.reduceAdd, Nat.reduceSub, Nat.reduceLeDiff, Nat.reduceLT, Nat.reduceMul, Nat.reduceBEq, Int.reduceEq, Int.reduceLT, Int.reduceLE, Int.reduceNeg, Int.reduceToNat, reduceCtorEq, ho, Try.results54]⟩⟩, ?_⟩
  rintro m st ⟨done, rest, hl', hn, h5, h4, h3⟩
  have hlen2 : done.length + rest.length = e.conj.length := by rw [hl']; simp
  have hw : IntKind.i64.wrap ((done.length : Int) + 1) = (done.length : Int) + 1 := wrap_fits (by omega) (by omega)
  cases rest with
  | nil =>
    have hlt : ¬ (done.length : Int) < (e.conj.length : Int) := by simp at hlen2; omega
    have hd : e.conj = done := by simpa using hl'
    have hcd : e.conds = done.filterMap Ex.cond := by unfold Ex.conds; rw [hd]
    rw [hcd]
    rcases h3 with ⟨hd0, h3⟩ | ⟨hne, v, h3, h29⟩
    · simp only [go_sem, Nat.reduceEqDiff, Nat.reduceAdd, Nat.reduceSub, Nat.reduceLeDiff, Nat.reduceLT, Nat.reduceMul, Nat.reduceBEq, Int.reduceEq, Int.reduceLT, Int.reduceLE, Int.reduceNeg, Int.reduceToNat, reduceCtorEq, ho, Try.results54, h5, h4, hlt, h3, List.length_map]
      rw [hd0]; rfl
    · have hrow : getRow st.o 29 v = some (72, (done.filterMap Ex.cond).map Cd.enc) := by simp [getRow, h29]
      simp only [go_sem, Nat.reduceEqDiff, Nat.reduceAdd, Nat.reduceSub, Nat.reduceLeDiff, Nat.reduceLT, Nat.reduceMul, Nat.reduceBEq, Int.reduceEq, Int.reduceLT, Int.reduceLE, Int.reduceNeg, Int.reduceToNat, reduceCtorEq, ho, Try.results54, h5, h4, hlt, h3, hrow, List.length_map]
  | cons x rest =>
    have hlt : (done.length : Int) < (e.conj.length : Int) := by simp at hlen2; omega
    have hget : (e.conj.map Ex.enc)[done.length]? = some x.enc := by simp [hl']
    have hfl := List.length_filterMap_le Ex.cond done
    have hbig : ((done.filterMap Ex.cond).length + 1) * 49 ≤ 140737488355328 := by omega
    have hcf := rcond_fn x
    simp only [go_sem, Nat.reduceEqDiff, Nat.reduceAdd, Nat.reduceSub, Nat.reduceLeDiff, Nat.reduceLT, Nat.reduceMul, Nat.reduceBEq, Int.reduceEq, Int.reduceLT, Int.reduceLE, Int.reduceNeg, Int.reduceToNat, reduceCtorEq, ho, Try.results54, h5, h4, hlt, hget, Int.natCast_nonneg, Int.toNat_natCast, List.length_map, x.enc_eq]
    cases hc : x.cond with
    | none =>
      rw [hc] at hcf
      have hfa : (done ++ [x]).filterMap Ex.cond = done.filterMap Ex.cond := by simp [List.filterMap_append, hc]
      refine GCall.fr ?_ (hcf) (.inl rfl) ?_; (focus (first | rfl | ((simp only [go_sem, Nat.reduceEqDiff, Nat.reduceAdd, Nat.reduceSub, Nat.reduceLeDiff, Nat.reduceLT, Nat.reduceMul, Nat.reduceBEq, Int.reduceEq, Int.reduceLT, Int.reduceLE, Int.reduceNeg, Int.reduceToNat, reduceCtorEq, ho, Try.results54, x.enc_eq]); done) | ((simp only [go_sem, Nat.reduceEqDiff, Nat.reduceAdd, Nat.reduceSub, Nat.reduceLeDiff, Nat.reduceLT, Nat.reduceMul, Nat.reduceBEq, Int.reduceEq, Int.reduceLT, Int.reduceLE, Int.reduceNeg, Int.reduceToNat, reduceCtorEq, ho, Try.results54, x.enc_eq]); rfl)))
      simp only [go_sem, Nat.reduceEqDiff, Nat.reduceAdd, Nat.reduceSub, Nat.reduceLeDiff, Nat.reduceLT, Nat.reduceMul, Nat.reduceBEq, Int.reduceEq, Int.reduceLT, Int.reduceLE, Int.reduceNeg, Int.reduceToNat, reduceCtorEq, ho, Try.results54, condPV, Cd.enc, Cd.zero, h5, h4, hw]
      refine ⟨rest.length, by simp at hn; omega, done ++ [x], rest, by simp [hl'], rfl, by simp, ?_⟩
      rw [hfa]
      rcases h3 with ⟨hd0, h3⟩ | ⟨hne, v, h3, h29⟩
      · exact .inl ⟨hd0, h3⟩
      · exact .inr ⟨hne, v, h3, h29⟩
    | some c =>
      rw [hc] at hcf
      have hfa : (done ++ [x]).filterMap Ex.cond = done.filterMap Ex.cond ++ [c] := by simp [List.filterMap_append, hc]
      refine GCall.fr ?_ (hcf) (.inl rfl) ?_; (focus (first | rfl | ((simp only [go_sem, Nat.reduceEqDiff, Nat.reduceAdd, Nat.reduceSub, Nat.reduceLeDiff, Nat.reduceLT, Nat.reduceMul, Nat.reduceBEq, Int.reduceEq, Int.reduceLT, Int.reduceLE, Int.reduceNeg, Int.reduceToNat, reduceCtorEq, ho, Try.results54, x.enc_eq]); done) | ((simp only [go_sem, Nat.reduceEqDiff, Nat.reduceAdd, Nat.reduceSub, Nat.reduceLeDiff, Nat.reduceLT, Nat.reduceMul, Nat.reduceBEq, Int.reduceEq, Int.reduceLT, Int.reduceLE, Int.reduceNeg, Int.reduceToNat, reduceCtorEq, ho, Try.results54, x.enc_eq]); rfl)))
      simp only [go_sem, Nat.reduceEqDiff, Nat.reduceAdd, Nat.reduceSub, Nat.reduceLeDiff, Nat.reduceLT, Nat.reduceMul, Nat.reduceBEq, Int.reduceEq, Int.reduceLT, Int.reduceLE, Int.reduceNeg, Int.reduceToNat, reduceCtorEq, ho, Try.results54, condPV, Cd.enc, h5, h4, hw]
      rcases h3 with ⟨hd0, h3⟩ | ⟨hne, v, h3, h29⟩
      · simp only [go_sem, Nat.reduceEqDiff, Nat.reduceAdd, Nat.reduceSub, Nat.reduceLeDiff, Nat.reduceLT, Nat.reduceMul, Nat.reduceBEq, Int.reduceEq, Int.reduceLT, Int.reduceLE, Int.reduceNeg, Int.reduceToNat, reduceCtorEq, ho, Try.results54, h3, h5, h4, hw]
        exact ⟨rest.length, by simp at hn; omega, done ++ [x], rest, by simp [hl'], rfl, by simp, .inr ⟨by rw [hfa]; simp, _, rfl, by rw [hfa, hd0]; simp [Cd.enc]⟩⟩
      · simp only [go_sem, Nat.reduceEqDiff, Nat.reduceAdd, Nat.reduceSub, Nat.reduceLeDiff, Nat.reduceLT, Nat.reduceMul, Nat.reduceBEq, Int.reduceEq, Int.reduceLT, Int.reduceLE, Int.reduceNeg, Int.reduceToNat, reduceCtorEq, ho, Try.results54, h3, h29, h5, h4, hw, hbig, List.length_map]
        exact ⟨rest.length, by simp at hn; omega, done ++ [x], rest, by simp [hl'], rfl, by simp, .inr ⟨by rw [hfa]; simp, _, rfl, by rw [hfa]; simp [Cd.enc]⟩⟩
theorem ok48 : okCode M0 Try.f48.ntmps (Try.f48.body.getD .skip) = true := by decide +kernel
theorem rwindow_fn (e : Ex) (f t : Int) (h : e.size ≤ 10000000) : Fc 48 [e.enc, .int .i64 f, .int .i64 t] (.tup [(rwin e.conds f t).1.enc, .bool (rwin e.conds f t).2]) := by
  have hcl := conds_len e
  refine fn_of_awp (E := E0) (M := M0) follows Try.func48 rfl (by decide) ok48 (by decide) (by simp) fun o ho => ?_
  simp only [go_sem, Nat.reduceEqDiff, Nat.reduceAdd, Nat.reduceSub, Nat.reduceLeDiff, Nat.reduceLT, Nat.reduceMul, Nat.reduceBEq, Int.reduceEq, Int.reduceLT, Int.reduceLE, Int.reduceNeg, Int.reduceToNat, reduceCtorEq, ho, Try.results48, e.enc_eq]
  refine GCall.fr ?_ (rconds_fn e h) (.inr rfl) ?_; (focus (first | rfl | ((simp only [go_sem, Nat.reduceEqDiff, Nat.reduceAdd, Nat.reduceSub, Nat.reduceLeDiff, Nat.reduceLT, Nat.reduceMul, Nat.reduceBEq, Int.reduceEq, Int.reduceLT, Int.reduceLE, Int.reduceNeg, Int.reduceToNat, reduceCtorEq, ho, Try.results48, e.enc_eq]); done) | ((simp only [go_sem, Nat.reduceEqDiff, Nat.reduceAdd, Nat.reduceSub, Nat.reduceLeDiff, Nat.reduceLT, Nat.reduceMul, Nat.reduceBEq, Int.reduceEq, Int.reduceLT, Int.reduceLE, Int.reduceNeg, Int.reduceToNat, reduceCtorEq, ho, Try.results48, e.enc_eq]); rfl)))
  simp only [go_sem, Nat.reduceEqDiff, Nat.reduceAdd, Nat.reduceSub, Nat.reduceLeDiff, Nat.reduceLT, Nat.reduceMul, Nat.reduceBEq, Int.reduceEq, Int.reduceLT, Int.reduceLE, Int.reduceNeg, Int.reduceToNat, reduceCtorEq, ho, Try.results48]
  refine GCall.fr ?_ (bounds_fn e.conds f 0 1099511627775 (by omega)) (.inl rfl) ?_; (focus (first | rfl | ((simp only [go_sem, Nat.reduceEqDiff, Nat.reduceAdd, Nat.reduceSub, Nat.reduceLeDiff, Nat.reduceLT, Nat.reduceMul, Nat.reduceBEq, Int.reduceEq, Int.reduceLT, Int.reduceLE, Int.reduceNeg, Int.reduceToNat, reduceCtorEq, ho, Try.results48]); done) | ((simp only [go_sem, Nat.reduceEqDiff, Nat.reduceAdd, Nat.reduceSub, Nat.reduceLeDiff, Nat.reduceLT, Nat.reduceMul, Nat.reduceBEq, Int.reduceEq, Int.reduceLT, Int.reduceLE, Int.reduceNeg, Int.reduceToNat, reduceCtorEq, ho, Try.results48]); rfl)))
  simp only [go_sem, Nat.reduceEqDiff, Nat.reduceAdd, Nat.reduceSub, Nat.reduceLeDiff, Nat.reduceLT, Nat.reduceMul, Nat.reduceBEq, Int.reduceEq, Int.reduceLT, Int.reduceLE, Int.reduceNeg, Int.reduceToNat, reduceCtorEq, ho, Try.results48, bndPV]
  refine GCall.fr ?_ (bounds_fn e.conds t 1 1099511627776 (by omega)) (.inl rfl) ?_; (focus (first | rfl | ((simp only [go_sem, Nat.reduceEqDiff, Nat.reduceAdd, Nat.reduceSub, Nat.reduceLeDiff, Nat.reduceLT, Nat.reduceMul, Nat.reduceBEq, Int.reduceEq, Int.reduceLT, Int.reduceLE, Int.reduceNeg, Int.reduceToNat, reduceCtorEq, ho, Try.results48]); done) | ((simp only [go_sem, Nat.reduceEqDiff, Nat.reduceAdd, Nat.reduceSub, Nat.reduceLeDiff, Nat.reduceLT, Nat.reduceMul, Nat.reduceBEq, Int.reduceEq, Int.reduceLT, Int.reduceLE, Int.reduceNeg, Int.reduceToNat, reduceCtorEq, ho, Try.results48]); rfl)))
  simp only [go_sem, Nat.reduceEqDiff, Nat.reduceAdd, Nat.reduceSub, Nat.reduceLeDiff, Nat.reduceLT, Nat.reduceMul, Nat.reduceBEq, Int.reduceEq, Int.reduceLT, Int.reduceLE, Int.reduceNeg, Int.reduceToNat, reduceCtorEq, ho, Try.results48, bndPV]
  unfold rwin
  generalize bnd (onC e.conds f) (0, 1099511627775) = p
  generalize bnd (onC e.conds t) (1, 1099511627776) = q
  obtain ⟨⟨a1, a2⟩, a3⟩ := p
  obtain ⟨⟨b1, b2⟩, b3⟩ := q
  cases a3
  · simp only [go_sem, Nat.reduceEqDiff, Nat.reduceAdd, Nat.reduceSub, Nat.reduceLeDiff, Nat.reduceLT, Nat.reduceMul, Nat.reduceBEq, Int.reduceEq, Int.reduceLT, Int.reduceLE, Int.reduceNeg, Int.reduceToNat, reduceCtorEq, ho, Try.results48]
    simp [Pd.enc]
  cases b3
  · simp only [go_sem, Nat.reduceEqDiff, Nat.reduceAdd, Nat.reduceSub, Nat.reduceLeDiff, Nat.reduceLT, Nat.reduceMul, Nat.reduceBEq, Int.reduceEq, Int.reduceLT, Int.reduceLE, Int.reduceNeg, Int.reduceToNat, reduceCtorEq, ho, Try.results48]
    simp [Pd.enc]
  simp only [go_sem, Nat.reduceEqDiff, Nat.reduceAdd, Nat.reduceSub, Nat.reduceLeDiff, Nat.reduceLT, Nat.reduceMul, Nat.reduceBEq, Int.reduceEq, Int.reduceLT, Int.reduceLE, Int.reduceNeg, Int.reduceToNat, reduceCtorEq, ho, Try.results48]
  by_cases h1 : a2 < a1
  · simp only [go_sem, Nat.reduceEqDiff, Nat.reduceAdd, Nat.reduceSub, Nat.reduceLeDiff, Nat.reduceLT, Nat.reduceMul, Nat.reduceBEq, Int.reduceEq, Int.reduceLT, Int.reduceLE, Int.reduceNeg, Int.reduceToNat, reduceCtorEq, ho, Try.results48, h1]
    simp [winOf, h1, Pd.enc]
  simp only [go_sem, Nat.reduceEqDiff, Nat.reduceAdd, Nat.reduceSub, Nat.reduceLeDiff, Nat.reduceLT, Nat.reduceMul, Nat.reduceBEq, Int.reduceEq, Int.reduceLT, Int.reduceLE, Int.reduceNeg, Int.reduceToNat, reduceCtorEq, ho, Try.results48, h1]
  by_cases h2 : b2 < b1
  · simp only [go_sem, Nat.reduceEqDiff, Nat.reduceAdd, Nat.reduceSub, Nat.reduceLeDiff, Nat.reduceLT, Nat.reduceMul, Nat.reduceBEq, Int.reduceEq, Int.reduceLT, Int.reduceLE, Int.reduceNeg, Int.reduceToNat, reduceCtorEq, ho, Try.results48, h2]
    simp [winOf, h1, h2, Pd.enc]
  simp only [go_sem, Nat.reduceEqDiff, Nat.reduceAdd, Nat.reduceSub, Nat.reduceLeDiff, Nat.reduceLT, Nat.reduceMul, Nat.reduceBEq, Int.reduceEq, Int.reduceLT, Int.reduceLE, Int.reduceNeg, Int.reduceToNat, reduceCtorEq, ho, Try.results48, h2]
  by_cases h3 : b2 ≤ a1
  · simp only [go_sem, Nat.reduceEqDiff, Nat.reduceAdd, Nat.reduceSub, Nat.reduceLeDiff, Nat.reduceLT, Nat.reduceMul, Nat.reduceBEq, Int.reduceEq, Int.reduceLT, Int.reduceLE, Int.reduceNeg, Int.reduceToNat, reduceCtorEq, ho, Try.results48, h3]
    simp [winOf, h1, h2, h3, Pd.enc]
  simp only [go_sem, Nat.reduceEqDiff, Nat.reduceAdd, Nat.reduceSub, Nat.reduceLeDiff, Nat.reduceLT, Nat.reduceMul, Nat.reduceBEq, Int.reduceEq, Int.reduceLT, Int.reduceLE, Int.reduceNeg, Int.reduceToNat, reduceCtorEq, ho, Try.results48, h3]
  by_cases h4 : a2 < b1
  · simp only [go_sem, Nat.reduceEqDiff, Nat.reduceAdd, Nat.reduceSub, Nat.reduceLeDiff, Nat.reduceLT, Nat.reduceMul, Nat.reduceBEq, Int.reduceEq, Int.reduceLT, Int.reduceLE, Int.reduceNeg, Int.reduceToNat, reduceCtorEq, ho, Try.results48, h4]
    simp [winOf, h1, h2, h3, h4, Pd.enc]
  · simp only [go_sem, Nat.reduceEqDiff, Nat.reduceAdd, Nat.reduceSub, Nat.reduceLeDiff, Nat.reduceLT, Nat.reduceMul, Nat.reduceBEq, Int.reduceEq, Int.reduceLT, Int.reduceLE, Int.reduceNeg, Int.reduceToNat, reduceCtorEq, ho, Try.results48, h4]
    simp [winOf, h1, h2, h3, h4, Pd.enc]
end Go.Proofs.Ytiefnninebilbaa
/- The law's function on windows returns true; no condition. -/
set_option maxRecDepth 100000
set_option linter.unusedVariables false
set_option linter.unusedSimpArgs false
namespace Go.Proofs.Ytiefnninebilbaa
open Go Go.Sx

theorem ok12 : okCode M0 Try.f12.ntmps (Try.f12.body.getD .skip) = true := by decide +kernel
theorem predicateWindow_fn (e : Ex) (f t : Int) (h : e.bulk + intB f + intB t ≤ 1048576) : Fc 12 [e.enc, .int .i64 f, .int .i64 t] (.bool true) := by
  have hs := e.size_bulk
  have hw := win_eq e f t
  refine fn_of_awp (E := E0) (M := M0) follows Try.func12 rfl (by decide) ok12 (by decide) (by simp) fun o ho => ?_
  simp only [go_sem, Nat.reduceEqDiff, Nat.reduceAdd, Nat.reduceSub, Nat.reduceLeDiff, Nat.reduceLT, Nat.reduceMul, Nat.reduceBEq, Int.reduceEq, Int.reduceLT, Int.reduceLE, Int.reduceNeg, Int.reduceToNat, reduceCtorEq, ho, Try.results12, e.enc_eq]
  refine GCall.fr ?_ (window_fn e f t (by omega)) (.inl rfl) ?_; (focus (first | rfl | ((simp only [go_sem, Nat.reduceEqDiff, Nat.reduceAdd, Nat.reduceSub, Nat.reduceLeDiff, Nat.reduceLT, Nat.reduceMul, Nat.reduceBEq, Int.reduceEq, Int.reduceLT, Int.reduceLE, Int.reduceNeg, Int.reduceToNat, reduceCtorEq, ho, Try.results12, e.enc_eq]); done) | ((simp only [go_sem, Nat.reduceEqDiff, Nat.reduceAdd, Nat.reduceSub, Nat.reduceLeDiff, Nat.reduceLT, Nat.reduceMul, Nat.reduceBEq, Int.reduceEq, Int.reduceLT, Int.reduceLE, Int.reduceNeg, Int.reduceToNat, reduceCtorEq, ho, Try.results12, e.enc_eq]); rfl)))
  simp only [go_sem, Nat.reduceEqDiff, Nat.reduceAdd, Nat.reduceSub, Nat.reduceLeDiff, Nat.reduceLT, Nat.reduceMul, Nat.reduceBEq, Int.reduceEq, Int.reduceLT, Int.reduceLE, Int.reduceNeg, Int.reduceToNat, reduceCtorEq, ho, Try.results12, winPV, hw, Pd.enc, e.enc_eq]
  refine GCall.fr ?_ (rwindow_fn e f t (by omega)) (.inl rfl) ?_; (focus (first | rfl | ((simp only [go_sem, Nat.reduceEqDiff, Nat.reduceAdd, Nat.reduceSub, Nat.reduceLeDiff, Nat.reduceLT, Nat.reduceMul, Nat.reduceBEq, Int.reduceEq, Int.reduceLT, Int.reduceLE, Int.reduceNeg, Int.reduceToNat, reduceCtorEq, ho, Try.results12, e.enc_eq]); done) | ((simp only [go_sem, Nat.reduceEqDiff, Nat.reduceAdd, Nat.reduceSub, Nat.reduceLeDiff, Nat.reduceLT, Nat.reduceMul, Nat.reduceBEq, Int.reduceEq, Int.reduceLT, Int.reduceLE, Int.reduceNeg, Int.reduceToNat, reduceCtorEq, ho, Try.results12, e.enc_eq]); rfl)))
  simp only [go_sem, Nat.reduceEqDiff, Nat.reduceAdd, Nat.reduceSub, Nat.reduceLeDiff, Nat.reduceLT, Nat.reduceMul, Nat.reduceBEq, Int.reduceEq, Int.reduceLT, Int.reduceLE, Int.reduceNeg, Int.reduceToNat, reduceCtorEq, ho, Try.results12, Pd.enc, decide_true, eq_self]
  refine GCall.fr ?_ (awakeP_fn) (.inl rfl) ?_; (focus (first | rfl | ((simp only [go_sem, Nat.reduceEqDiff, Nat.reduceAdd, Nat.reduceSub, Nat.reduceLeDiff, Nat.reduceLT, Nat.reduceMul, Nat.reduceBEq, Int.reduceEq, Int.reduceLT, Int.reduceLE, Int.reduceNeg, Int.reduceToNat, reduceCtorEq, ho, Try.results12]); done) | ((simp only [go_sem, Nat.reduceEqDiff, Nat.reduceAdd, Nat.reduceSub, Nat.reduceLeDiff, Nat.reduceLT, Nat.reduceMul, Nat.reduceBEq, Int.reduceEq, Int.reduceLT, Int.reduceLE, Int.reduceNeg, Int.reduceToNat, reduceCtorEq, ho, Try.results12]); rfl)))
  simp only [go_sem, Nat.reduceEqDiff, Nat.reduceAdd, Nat.reduceSub, Nat.reduceLeDiff, Nat.reduceLT, Nat.reduceMul, Nat.reduceBEq, Int.reduceEq, Int.reduceLT, Int.reduceLE, Int.reduceNeg, Int.reduceToNat, reduceCtorEq, ho, Try.results12]
end Go.Proofs.Ytiefnninebilbaa
