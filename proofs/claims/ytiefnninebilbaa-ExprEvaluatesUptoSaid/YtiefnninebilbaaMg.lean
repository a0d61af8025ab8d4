/- What Allen's relations and their evaluation return; no condition. -/
import Derived.Test.YtiefnninebilbaaMf
import Derived.RegionTactic
import Derived.ChangeAlike
import Derived.Laws.ResultCell
import Derived.BigRegion
set_option maxRecDepth 100000
set_option linter.unusedVariables false
set_option linter.unusedSimpArgs false
namespace Go.Proofs.Ytiefnninebilbaa
open Go Go.Sx

theorem ok189 : okCode M0 Try.f189.ntmps (Try.f189.body.getD .skip) = true := by decide +kernel
theorem pvalid_fn (p : Pd) : Fc 189 [p.enc] (.bool p.valid) := by
  refine fn_of_awp (E := E0) (M := M0) follows Try.func189 rfl (by decide) ok189 (by decide) (by simp) fun o ho => ?_
  simp only [go_sem, Nat.reduceEqDiff, Nat.reduceAdd, Nat.reduceSub, Nat.reduceLeDiff, Nat.reduceLT, Nat.reduceMul, Nat.reduceBEq, Int.reduceEq, Int.reduceLT, Int.reduceLE, Int.reduceNeg, Int.reduceToNat, reduceCtorEq, ho, Try.results189, Pd.enc]
  repeat' (first | (refine AIf_cases (fun h => ?_) (fun h => ?_) <;> (try simp only [decide_eq_true_eq, decide_eq_false_iff_not, Bool.not_eq_true', Bool.not_eq_false', Bool.not_eq_true, Bool.not_eq_false] at h) <;> (try simp only [go_sem, Nat.reduceEqDiff, Nat.reduceAdd, Nat.reduceSub, Nat.reduceLeDiff, Nat.reduceLT, Nat.reduceMul, Nat.reduceBEq, Int.reduceEq, Int.reduceLT, Int.reduceLE, Int.reduceNeg, Int.reduceToNat, reduceCtorEq, ho, Try.results189, h])))
  all_goals (first | (simp_all [Pd.valid]; done) | (simp_all [Pd.valid]; omega) | (simp_all [Pd.valid]; intros; omega) | (simp_all [Pd.valid]; (repeat' split) <;> (first | (simp_all; done) | (simp_all; omega) | omega)))
set_option maxHeartbeats 2000000 in
theorem ok161 : okCode M0 Try.f161.ntmps (Try.f161.body.getD .skip) = true := by decide +kernel
set_option maxHeartbeats 2000000 in
theorem rel_fn (p q : Pd) : Fc 161 [p.enc, q.enc] (.tup [.int .i64 (Pd.rel p q).1, .bool (Pd.rel p q).2]) := by
  refine fn_of_awp (E := E0) (M := M0) follows Try.func161 rfl (by decide) ok161 (by decide) (by simp) fun o ho => ?_
  simp only [go_sem, Nat.reduceEqDiff, Nat.reduceAdd, Nat.reduceSub, Nat.reduceLeDiff, Nat.reduceLT, Nat.reduceMul, Nat.reduceBEq, Int.reduceEq, Int.reduceLT, Int.reduceLE, Int.reduceNeg, Int.reduceToNat, reduceCtorEq, ho, Try.results161, Pd.enc]
  refine GCall.fr ?_ (pvalid_fn p) (.inl rfl) ?_; (focus (first | rfl | ((simp only [go_sem, Nat.reduceEqDiff, Nat.reduceAdd, Nat.reduceSub, Nat.reduceLeDiff, Nat.reduceLT, Nat.reduceMul, Nat.reduceBEq, Int.reduceEq, Int.reduceLT, Int.reduceLE, Int.reduceNeg, Int.reduceToNat, reduceCtorEq, ho, Try.results161]); done) | ((simp only [go_sem, Nat.reduceEqDiff, Nat.reduceAdd, Nat.reduceSub, Nat.reduceLeDiff, Nat.reduceLT, Nat.reduceMul, Nat.reduceBEq, Int.reduceEq, Int.reduceLT, Int.reduceLE, Int.reduceNeg, Int.reduceToNat, reduceCtorEq, ho, Try.results161]); rfl)))
  simp only [go_sem, Nat.reduceEqDiff, Nat.reduceAdd, Nat.reduceSub, Nat.reduceLeDiff, Nat.reduceLT, Nat.reduceMul, Nat.reduceBEq, Int.reduceEq, Int.reduceLT, Int.reduceLE, Int.reduceNeg, Int.reduceToNat, reduceCtorEq, ho, Try.results161]
  cases hp : p.valid with
  | false =>
    simp only [go_sem, Nat.reduceEqDiff, Nat.reduceAdd, Nat.reduceSub, Nat.reduceLeDiff, Nat.reduceLT, Nat.reduceMul, Nat.reduceBEq, Int.reduceEq, Int.reduceLT, Int.reduceLE, Int.reduceNeg, Int.reduceToNat, reduceCtorEq, ho, Try.results161, hp]
    simp [Pd.rel, hp]
  | true =>
  simp only [go_sem, Nat.reduceEqDiff, Nat.reduceAdd, Nat.reduceSub, Nat.reduceLeDiff, Nat.reduceLT, Nat.reduceMul, Nat.reduceBEq, Int.reduceEq, Int.reduceLT, Int.reduceLE, Int.reduceNeg, Int.reduceToNat, reduceCtorEq, ho, Try.results161, hp]
  refine GCall.fr ?_ (pvalid_fn q) (.inl rfl) ?_; (focus (first | rfl | ((simp only [go_sem, Nat.reduceEqDiff, Nat.reduceAdd, Nat.reduceSub, Nat.reduceLeDiff, Nat.reduceLT, Nat.reduceMul, Nat.reduceBEq, Int.reduceEq, Int.reduceLT, Int.reduceLE, Int.reduceNeg, Int.reduceToNat, reduceCtorEq, ho, Try.results161]); done) | ((simp only [go_sem, Nat.reduceEqDiff, Nat.reduceAdd, Nat.reduceSub, Nat.reduceLeDiff, Nat.reduceLT, Nat.reduceMul, Nat.reduceBEq, Int.reduceEq, Int.reduceLT, Int.reduceLE, Int.reduceNeg, Int.reduceToNat, reduceCtorEq, ho, Try.results161]); rfl)))
  simp only [go_sem, Nat.reduceEqDiff, Nat.reduceAdd, Nat.reduceSub, Nat.reduceLeDiff, Nat.reduceLT, Nat.reduceMul, Nat.reduceBEq, Int.reduceEq, Int.reduceLT, Int.reduceLE, Int.reduceNeg, Int.reduceToNat, reduceCtorEq, ho, Try.results161]
  cases hq : q.valid with
  | false =>
    simp only [go_sem, Nat.reduceEqDiff, Nat.reduceAdd, Nat.reduceSub, Nat.reduceLeDiff, Nat.reduceLT, Nat.reduceMul, Nat.reduceBEq, Int.reduceEq, Int.reduceLT, Int.reduceLE, Int.reduceNeg, Int.reduceToNat, reduceCtorEq, ho, Try.results161, hq]
    simp [Pd.rel, hq]
  | true =>
  have key : Pd.rel p q = if p.t < q.f then (0, true) else if p.t = q.f then (1, true) else if q.t < p.f then (12, true) else if q.t = p.f then (11, true)
    else if p.f = q.f ∧ p.t = q.t then (6, true) else if p.f = q.f ∧ p.t < q.t then (3, true) else if p.f = q.f then (9, true)
    else if p.t = q.t ∧ q.f < p.f then (5, true) else if p.t = q.t then (7, true) else if p.f < q.f ∧ q.t < p.t then (8, true)
    else if q.f < p.f ∧ p.t < q.t then (4, true) else if p.f < q.f then (2, true) else (10, true) := by
    unfold Pd.rel; rw [if_neg (by simp [hp, hq])]
  rw [key]
  clear key
  simp only [go_sem, Nat.reduceEqDiff, Nat.reduceAdd, Nat.reduceSub, Nat.reduceLeDiff, Nat.reduceLT, Nat.reduceMul, Nat.reduceBEq, Int.reduceEq, Int.reduceLT, Int.reduceLE, Int.reduceNeg, Int.reduceToNat, reduceCtorEq, ho, Try.results161, hq]
  repeat' (first | (refine AIf_cases (fun h => ?_) (fun h => ?_) <;> (try simp only [decide_eq_true_eq, decide_eq_false_iff_not, Bool.not_eq_true', Bool.not_eq_false', Bool.not_eq_true, Bool.not_eq_false] at h) <;> (try simp only [go_sem, Nat.reduceEqDiff, Nat.reduceAdd, Nat.reduceSub, Nat.reduceLeDiff, Nat.reduceLT, Nat.reduceMul, Nat.reduceBEq, Int.reduceEq, Int.reduceLT, Int.reduceLE, Int.reduceNeg, Int.reduceToNat, reduceCtorEq, ho, Try.results161, h])))
  all_goals clear hp hq ho
  all_goals (first | exact ⟨rfl, rfl⟩ | (simp_all; done) | (simp_all; omega))
end Go.Proofs.Ytiefnninebilbaa
/- The contract of the period between two values, shown at the machine itself; no condition. -/
set_option maxRecDepth 100000
set_option linter.unusedVariables false
set_option linter.unusedSimpArgs false
namespace Go.Proofs.Ytiefnninebilbaa
open Go Go.Sx Go.RowKit

theorem balloc {a w : World} (h : Below a.heap.size a w) (o : Obj) : Below a.heap.size a (w.alloc o) := h.alloc h.size o
theorem three_alloc (w : World) (a b c : Obj) : (((w.alloc a).alloc b).alloc c).drew.heap[w.heap.size + 1 + 1]? = some c := by
  show (((w.heap.push a).push b).push c)[w.heap.size + 1 + 1]? = some c
  have e : w.heap.size + 1 + 1 = ((w.heap.push a).push b).size := by simp
  rw [e, Array.getElem?_push_size]
set_option maxHeartbeats 1000000 in
theorem period_run (ak ai bk bi : Int) (s t : ByteArray) (w : World) : Calls Try.prog 160 #[.agg #[.int .i64 ak, .int .i64 ai, .string s], .agg #[.int .i64 bk, .int .i64 bi, .string t]] w
    fun e w' => e = .returned (.tuple #[.agg #[.int .i64 ai, .int .i64 bi], .bool (decide (ak = 1) && decide (bk = 1))]) ∧ Below w.heap.size w w' := by
  by_cases hk : ak = 1
  · subst hk
    go_enter Try.func160, Try.ntmps160
    go_wp2
    go_region
    go_wp2
    refine bodyPost_ret (v := .tuple #[.agg #[.int .i64 ai, .int .i64 bi], .bool (decide (bk = 1))]) (by
      rw [results_cell_tmp Try.results160]
      exact congrArg (fun r => Result.andThen r fun v w₂ => Result.ok (Value.tuple #[v, .bool (decide (bk = 1))]) w₂) (run_loadVar_row (P := Try.prog) _ _ 61 61 #[.int .i64 ai, .int .i64 bi] (0, 0) _ (three_alloc _ _ _ _) Try.underlying61 rfl (by kernel_rfl))) rfl ?_
    exact ⟨by simp, (balloc (balloc (balloc (Below.refl _ _) _) _) _).drew⟩
  · have hd : decide (ak = 1) = false := by simp [hk]
    rw [hd]
    go_enter Try.func160, Try.ntmps160
    go_wp2
    go_region
    go_wp2
    refine bodyPost_ret (v := .tuple #[.agg #[.int .i64 ai, .int .i64 bi], .bool false]) (by
      rw [results_cell_tmp Try.results160]
      exact congrArg (fun r => Result.andThen r fun v w₂ => Result.ok (Value.tuple #[v, .bool false]) w₂) (run_loadVar_row (P := Try.prog) _ _ 61 61 #[.int .i64 ai, .int .i64 bi] (0, 0) _ (three_alloc _ _ _ _) Try.underlying61 rfl (by kernel_rfl))) rfl ?_
    exact ⟨by simp, (balloc (balloc (balloc (Below.refl _ _) _) _) _).drew⟩
theorem vl_val {w : World} {B : Nat → Prop} {v : Vl} {u : Value} (h : Rd w B v.enc u) : u = .agg #[.int .i64 v.kind, .int .i64 v.int, .string v.text] := by
  unfold Vl.enc at h
  cases h with
  | agg cs vs hn h1 hr =>
    obtain ⟨l⟩ := vs
    match l, hn with
    | [a, b, c], _ =>
      have ha := hr 0 _ a rfl rfl
      have hb := hr 1 _ b rfl rfl
      have hc := hr 2 _ c rfl rfl
      cases ha; cases hb; cases hc
      rfl
theorem period_fn (a b : Vl) : Fc 160 [a.enc, b.enc] (.tup [(Pd.mk a.int b.int).enc, .bool (decide (a.kind = 1) && decide (b.kind = 1))]) where
  enter := enters Try.func160 rfl (by decide)
  calls vs w B hB hn hv := by
    obtain ⟨u, v, rfl, h1, h2⟩ := two_args hn hv
    rw [vl_val h1, vl_val h2]
    refine (period_run a.kind a.int b.kind b.int a.text b.text w).mono ?_
    rintro e w' ⟨rfl, hb⟩
    refine ⟨_, rfl, hb, .tup _ _ rfl ?_⟩
    intro j z u hz hu
    match j, hz, hu with
    | 0, hz, hu =>
      cases hz; cases hu
      refine .agg _ _ rfl (fun j z hz => ?_) (fun j z u hz hu => ?_)
      · match j, hz with
        | 0, hz => cases hz; rfl
        | 1, hz => cases hz; rfl
        | j + 2, hz => simp at hz
      · match j, hz, hu with
        | 0, hz, hu => cases hz; cases hu; exact .int _ _
        | 1, hz, hu => cases hz; cases hu; exact .int _ _
        | j + 2, hz, hu => simp at hz
    | 1, hz, hu => cases hz; cases hu; exact .bool _
    | j + 2, hz, hu => simp at hz
end Go.Proofs.Ytiefnninebilbaa
/- What the evaluation of Allen's relations returns; no condition. -/
set_option maxRecDepth 100000
set_option linter.unusedVariables false
set_option linter.unusedSimpArgs false
namespace Go.Proofs.Ytiefnninebilbaa
open Go Go.Sx

def M101 : Nat → Nat → Option Md := fun id i =>
  if id = 1 then (if i < 9 then some (.h [5]) else if i = 9 then some .n else none)
  else if id = 2 then (if i < 9 then some (.h [7]) else if i = 9 then some .n else none) else none
theorem related_null {rel : Int} {a b c d : Vl} {l : List Vl} (h : ¬ (a.kind = 1 ∧ b.kind = 1 ∧ c.kind = 1 ∧ d.kind = 1 ∧ (Pd.rel ⟨a.int, b.int⟩ ⟨c.int, d.int⟩).2 = true)) : related rel (a :: b :: c :: d :: l) = Vl.null := if_neg h
theorem ok101 : okCode M101 Try.f101.ntmps (Try.f101.body.getD .skip) = true := by decide +kernel
theorem related_fn (rel : Int) (a b c d : Vl) (l : List Vl) : Fc 101 [.int .i64 rel, .sl ((a :: b :: c :: d :: l).map Vl.enc)] (related rel (a :: b :: c :: d :: l)).enc := by
  refine fn_of_awp (E := E0) (M := M101) follows Try.func101 rfl (by decide) ok101 (by decide) (by simp) fun o ho => ?_
  simp only [go_sem, Nat.reduceEqDiff, Nat.reduceAdd, Nat.reduceSub, Nat.reduceLeDiff, Nat.reduceLT, Nat.reduceMul, Nat.reduceBEq, Int.reduceEq, Int.reduceLT, Int.reduceLE, Int.reduceNeg, Int.reduceToNat, reduceCtorEq, ho, Try.results101, mdOf, M101, Option.getD_some, Option.getD_none, if_true, if_false]
  refine QCall.fr ?_ (period_fn a b) (.inl rfl) ?_; (focus (first | rfl | ((simp only [go_sem, Nat.reduceEqDiff, Nat.reduceAdd, Nat.reduceSub, Nat.reduceLeDiff, Nat.reduceLT, Nat.reduceMul, Nat.reduceBEq, Int.reduceEq, Int.reduceLT, Int.reduceLE, Int.reduceNeg, Int.reduceToNat, reduceCtorEq, ho, Try.results101, Vl.enc]); done) | ((simp only [go_sem, Nat.reduceEqDiff, Nat.reduceAdd, Nat.reduceSub, Nat.reduceLeDiff, Nat.reduceLT, Nat.reduceMul, Nat.reduceBEq, Int.reduceEq, Int.reduceLT, Int.reduceLE, Int.reduceNeg, Int.reduceToNat, reduceCtorEq, ho, Try.results101, Vl.enc]); rfl)))
  simp only [go_sem, Nat.reduceEqDiff, Nat.reduceAdd, Nat.reduceSub, Nat.reduceLeDiff, Nat.reduceLT, Nat.reduceMul, Nat.reduceBEq, Int.reduceEq, Int.reduceLT, Int.reduceLE, Int.reduceNeg, Int.reduceToNat, reduceCtorEq, ho, Try.results101, mdOf, M101, Option.getD_some, Option.getD_none, if_true, if_false, Pd.enc]
  refine QCall.fr ?_ (period_fn c d) (.inl rfl) ?_; (focus (first | rfl | ((simp only [go_sem, Nat.reduceEqDiff, Nat.reduceAdd, Nat.reduceSub, Nat.reduceLeDiff, Nat.reduceLT, Nat.reduceMul, Nat.reduceBEq, Int.reduceEq, Int.reduceLT, Int.reduceLE, Int.reduceNeg, Int.reduceToNat, reduceCtorEq, ho, Try.results101, Vl.enc]); done) | ((simp only [go_sem, Nat.reduceEqDiff, Nat.reduceAdd, Nat.reduceSub, Nat.reduceLeDiff, Nat.reduceLT, Nat.reduceMul, Nat.reduceBEq, Int.reduceEq, Int.reduceLT, Int.reduceLE, Int.reduceNeg, Int.reduceToNat, reduceCtorEq, ho, Try.results101, Vl.enc]); rfl)))
  simp only [go_sem, Nat.reduceEqDiff, Nat.reduceAdd, Nat.reduceSub, Nat.reduceLeDiff, Nat.reduceLT, Nat.reduceMul, Nat.reduceBEq, Int.reduceEq, Int.reduceLT, Int.reduceLE, Int.reduceNeg, Int.reduceToNat, reduceCtorEq, ho, Try.results101, mdOf, M101, Option.getD_some, Option.getD_none, if_true, if_false, Pd.enc]
  refine GCall.fr ?_ (rel_fn ⟨a.int, b.int⟩ ⟨c.int, d.int⟩) (.inl rfl) ?_; (focus (first | rfl | ((simp only [go_sem, Nat.reduceEqDiff, Nat.reduceAdd, Nat.reduceSub, Nat.reduceLeDiff, Nat.reduceLT, Nat.reduceMul, Nat.reduceBEq, Int.reduceEq, Int.reduceLT, Int.reduceLE, Int.reduceNeg, Int.reduceToNat, reduceCtorEq, ho, Try.results101, Pd.enc]); done) | ((simp only [go_sem, Nat.reduceEqDiff, Nat.reduceAdd, Nat.reduceSub, Nat.reduceLeDiff, Nat.reduceLT, Nat.reduceMul, Nat.reduceBEq, Int.reduceEq, Int.reduceLT, Int.reduceLE, Int.reduceNeg, Int.reduceToNat, reduceCtorEq, ho, Try.results101, Pd.enc]); rfl)))
  simp only [go_sem, Nat.reduceEqDiff, Nat.reduceAdd, Nat.reduceSub, Nat.reduceLeDiff, Nat.reduceLT, Nat.reduceMul, Nat.reduceBEq, Int.reduceEq, Int.reduceLT, Int.reduceLE, Int.reduceNeg, Int.reduceToNat, reduceCtorEq, ho, Try.results101]
  repeat' (first | (refine AIf_cases (fun h => ?_) (fun h => ?_) <;> (try simp only [decide_eq_true_eq, decide_eq_false_iff_not, Bool.not_eq_true', Bool.not_eq_false', Bool.not_eq_true, Bool.not_eq_false] at h) <;> (try simp only [go_sem, Nat.reduceEqDiff, Nat.reduceAdd, Nat.reduceSub, Nat.reduceLeDiff, Nat.reduceLT, Nat.reduceMul, Nat.reduceBEq, Int.reduceEq, Int.reduceLT, Int.reduceLE, Int.reduceNeg, Int.reduceToNat, reduceCtorEq, ho, Try.results101, h, Vl.enc, Vl.null])) | (refine GCall.fr ?_ (null_fn) (.inl rfl) ?_; (focus (first | rfl | ((simp only [go_sem, Nat.reduceEqDiff, Nat.reduceAdd, Nat.reduceSub, Nat.reduceLeDiff, Nat.reduceLT, Nat.reduceMul, Nat.reduceBEq, Int.reduceEq, Int.reduceLT, Int.reduceLE, Int.reduceNeg, Int.reduceToNat, reduceCtorEq, ho, Try.results101, Vl.enc, Vl.null]); done) | ((simp only [go_sem, Nat.reduceEqDiff, Nat.reduceAdd, Nat.reduceSub, Nat.reduceLeDiff, Nat.reduceLT, Nat.reduceMul, Nat.reduceBEq, Int.reduceEq, Int.reduceLT, Int.reduceLE, Int.reduceNeg, Int.reduceToNat, reduceCtorEq, ho, Try.results101, Vl.enc, Vl.null]); rfl))); (try simp only [go_sem, Nat.reduceEqDiff, Nat.reduceAdd, Nat.reduceSub, Nat.reduceLeDiff, Nat.reduceLT, Nat.reduceMul, Nat.reduceBEq, Int.reduceEq, Int.reduceLT, Int.reduceLE, Int.reduceNeg, Int.reduceToNat, reduceCtorEq, ho, Try.results101, Vl.enc, Vl.null])) | (refine QCall.fr ?_ (null_fn) (.inl rfl) ?_; (focus (first | rfl | ((simp only [go_sem, Nat.reduceEqDiff, Nat.reduceAdd, Nat.reduceSub, Nat.reduceLeDiff, Nat.reduceLT, Nat.reduceMul, Nat.reduceBEq, Int.reduceEq, Int.reduceLT, Int.reduceLE, Int.reduceNeg, Int.reduceToNat, reduceCtorEq, ho, Try.results101, Vl.enc, Vl.null]); done) | ((simp only [go_sem, Nat.reduceEqDiff, Nat.reduceAdd, Nat.reduceSub, Nat.reduceLeDiff, Nat.reduceLT, Nat.reduceMul, Nat.reduceBEq, Int.reduceEq, Int.reduceLT, Int.reduceLE, Int.reduceNeg, Int.reduceToNat, reduceCtorEq, ho, Try.results101, Vl.enc, Vl.null]); rfl))); (try simp only [go_sem, Nat.reduceEqDiff, Nat.reduceAdd, Nat.reduceSub, Nat.reduceLeDiff, Nat.reduceLT, Nat.reduceMul, Nat.reduceBEq, Int.reduceEq, Int.reduceLT, Int.reduceLE, Int.reduceNeg, Int.reduceToNat, reduceCtorEq, ho, Try.results101, Vl.enc, Vl.null])) | (refine GCall.fr ?_ (bool_fn (decide ((Pd.rel ⟨a.int, b.int⟩ ⟨c.int, d.int⟩).1 = rel))) (.inl rfl) ?_; (focus (first | rfl | ((simp only [go_sem, Nat.reduceEqDiff, Nat.reduceAdd, Nat.reduceSub, Nat.reduceLeDiff, Nat.reduceLT, Nat.reduceMul, Nat.reduceBEq, Int.reduceEq, Int.reduceLT, Int.reduceLE, Int.reduceNeg, Int.reduceToNat, reduceCtorEq, ho, Try.results101, Vl.enc, Vl.null]); done) | ((simp only [go_sem, Nat.reduceEqDiff, Nat.reduceAdd, Nat.reduceSub, Nat.reduceLeDiff, Nat.reduceLT, Nat.reduceMul, Nat.reduceBEq, Int.reduceEq, Int.reduceLT, Int.reduceLE, Int.reduceNeg, Int.reduceToNat, reduceCtorEq, ho, Try.results101, Vl.enc, Vl.null]); rfl))); (try simp only [go_sem, Nat.reduceEqDiff, Nat.reduceAdd, Nat.reduceSub, Nat.reduceLeDiff, Nat.reduceLT, Nat.reduceMul, Nat.reduceBEq, Int.reduceEq, Int.reduceLT, Int.reduceLE, Int.reduceNeg, Int.reduceToNat, reduceCtorEq, ho, Try.results101, Vl.enc, Vl.null])) | (refine QCall.fr ?_ (bool_fn (decide ((Pd.rel ⟨a.int, b.int⟩ ⟨c.int, d.int⟩).1 = rel))) (.inl rfl) ?_; (focus (first | rfl | ((simp only [go_sem, Nat.reduceEqDiff, Nat.reduceAdd, Nat.reduceSub, Nat.reduceLeDiff, Nat.reduceLT, Nat.reduceMul, Nat.reduceBEq, Int.reduceEq, Int.reduceLT, Int.reduceLE, Int.reduceNeg, Int.reduceToNat, reduceCtorEq, ho, Try.results101, Vl.enc, Vl.null]); done) | ((simp only [go_sem, Nat.reduceEqDiff, Nat.reduceAdd, Nat.reduceSub, Nat.reduceLeDiff, Nat.reduceLT, Nat.reduceMul, Nat.reduceBEq, Int.reduceEq, Int.reduceLT, Int.reduceLE, Int.reduceNeg, Int.reduceToNat, reduceCtorEq, ho, Try.results101, Vl.enc, Vl.null]); rfl))); (try simp only [go_sem, Nat.reduceEqDiff, Nat.reduceAdd, Nat.reduceSub, Nat.reduceLeDiff, Nat.reduceLT, Nat.reduceMul, Nat.reduceBEq, Int.reduceEq, Int.reduceLT, Int.reduceLE, Int.reduceNeg, Int.reduceToNat, reduceCtorEq, ho, Try.results101, Vl.enc, Vl.null])))
  all_goals (first | (simp_all [related, nth, Vl.null]; done) | (rw [related_null (fun hh => by obtain ⟨h1, h2, h3, h4, h5⟩ := hh; simp_all)]; exact ⟨rfl, rfl, rfl⟩))
end Go.Proofs.Ytiefnninebilbaa
/- What the evaluation of an expression returns, the small cases; no condition. -/
set_option maxRecDepth 100000
set_option linter.unusedVariables false
set_option linter.unusedSimpArgs false
namespace Go.Proofs.Ytiefnninebilbaa
open Go Go.Sx

theorem evo_1 (row : List Vl) (i : Int) (v : Vl) (l : List Vl) : evalOp row 1 i v l = v := by simp [evalOp]
theorem evo_2 (row : List Vl) (i : Int) (v : Vl) (l : List Vl) : evalOp row 2 i v l = column row i := by simp [evalOp]
theorem evo_22 (row : List Vl) (i : Int) (v : Vl) (l : List Vl) : evalOp row 22 i v l = if (nth l 0).truth = 2 then nth l 1 else nth l 2 := by simp [evalOp]
theorem evo_4 (row : List Vl) (i : Int) (v : Vl) (l : List Vl) : evalOp row 4 i v l = logicV 4 l := by simp [evalOp]
theorem evo_5 (row : List Vl) (i : Int) (v : Vl) (l : List Vl) : evalOp row 5 i v l = logicV 5 l := by simp [evalOp]
theorem evo_6 (row : List Vl) (i : Int) (v : Vl) (l : List Vl) : evalOp row 6 i v l = logicV 6 l := by simp [evalOp]
theorem evo_21 (row : List Vl) (i : Int) (v : Vl) (l : List Vl) : evalOp row 21 i v l = Vl.bool (decide ((nth l 0).kind = 0)) := by simp [evalOp]
theorem evo_23 (row : List Vl) (i : Int) (v : Vl) (l : List Vl) : evalOp row 23 i v l = firstV l := by simp [evalOp]
theorem evo_24 (row : List Vl) (i : Int) (v : Vl) (l : List Vl) : evalOp row 24 i v l = related i l := by simp [evalOp]
theorem evo_19 (row : List Vl) (i : Int) (v : Vl) (l : List Vl) : evalOp row 19 i v l = textV 19 l := by simp [evalOp]
theorem evo_20 (row : List Vl) (i : Int) (v : Vl) (l : List Vl) : evalOp row 20 i v l = textV 20 l := by simp [evalOp]
theorem evo_13 (row : List Vl) (i : Int) (v : Vl) (l : List Vl) : evalOp row 13 i v l = arith 13 l := by simp [evalOp]
theorem evo_14 (row : List Vl) (i : Int) (v : Vl) (l : List Vl) : evalOp row 14 i v l = arith 14 l := by simp [evalOp]
theorem evo_15 (row : List Vl) (i : Int) (v : Vl) (l : List Vl) : evalOp row 15 i v l = arith 15 l := by simp [evalOp]
theorem evo_16 (row : List Vl) (i : Int) (v : Vl) (l : List Vl) : evalOp row 16 i v l = arith 16 l := by simp [evalOp]
theorem evo_17 (row : List Vl) (i : Int) (v : Vl) (l : List Vl) : evalOp row 17 i v l = arith 17 l := by simp [evalOp]
theorem evo_18 (row : List Vl) (i : Int) (v : Vl) (l : List Vl) : evalOp row 18 i v l = arith 18 l := by simp [evalOp]
theorem evo_7 (row : List Vl) (i : Int) (v : Vl) (l : List Vl) : evalOp row 7 i v l = Vl.of (Vl.compared 7 (nth l 0) (nth l 1)) := by simp [evalOp]
theorem evo_8 (row : List Vl) (i : Int) (v : Vl) (l : List Vl) : evalOp row 8 i v l = Vl.of (Vl.compared 8 (nth l 0) (nth l 1)) := by simp [evalOp]
theorem evo_9 (row : List Vl) (i : Int) (v : Vl) (l : List Vl) : evalOp row 9 i v l = Vl.of (Vl.compared 9 (nth l 0) (nth l 1)) := by simp [evalOp]
theorem evo_10 (row : List Vl) (i : Int) (v : Vl) (l : List Vl) : evalOp row 10 i v l = Vl.of (Vl.compared 10 (nth l 0) (nth l 1)) := by simp [evalOp]
theorem evo_11 (row : List Vl) (i : Int) (v : Vl) (l : List Vl) : evalOp row 11 i v l = Vl.of (Vl.compared 11 (nth l 0) (nth l 1)) := by simp [evalOp]
theorem evo_12 (row : List Vl) (i : Int) (v : Vl) (l : List Vl) : evalOp row 12 i v l = Vl.of (Vl.compared 12 (nth l 0) (nth l 1)) := by simp [evalOp]
theorem three {α : Type} {l : List α} (h : l.length = 3) : ∃ a b c, l = [a, b, c] := by
  match l, h with
  | [a, b, c], _ => exact ⟨a, b, c, rfl⟩
theorem fits_pos {op : Int} {l : List Vl} (h : fitsN op l.length = true) (h1 : op ≠ 1) (h2 : op ≠ 2) : 0 < l.length := by
  unfold fitsN at h
  repeat' split at h
  all_goals first | omega | (simp only [decide_eq_true_eq] at h; omega) | simp at h
theorem logicL_fn (op : Int) (l : List Vl) (hl : l.length ≤ 1000000000) (h : 0 < l.length) : Fc 99 [.int .i64 op, .sl (l.map Vl.enc)] (logicV op l).enc := by
  cases l with
  | nil => simp at h
  | cons x l => exact logic_fn op x l (by simp at hl; omega)
theorem relatedL_fn (rel : Int) (l : List Vl) (h : l.length = 4) : Fc 101 [.int .i64 rel, .sl (l.map Vl.enc)] (related rel l).enc := by
  match l, h with
  | [a, b, c, d], _ => exact related_fn rel a b c d []
theorem ok38 : okCode M0 Try.f38.ntmps (Try.f38.body.getD .skip) = true := by decide +kernel
theorem ok40 : okCode M0 Try.f40.ntmps (Try.f40.body.getD .skip) = true := by decide +kernel
theorem truthE_fn (row : List Vl) (e : Ex) (he : Fc 38 [e.enc, .sl (row.map Vl.enc)] (e.eval row).enc) : Fc 40 [e.enc, .sl (row.map Vl.enc)] (.int .i64 (e.eval row).truth) := by
  refine fn_of_awp (E := E0) (M := M0) follows Try.func40 rfl (by decide) ok40 (by decide) (by simp) fun o ho => ?_
  simp only [go_sem, Nat.reduceEqDiff, Nat.reduceAdd, Nat.reduceSub, Nat.reduceLeDiff, Nat.reduceLT, Nat.reduceMul, Nat.reduceBEq, Int.reduceEq, Int.reduceLT, Int.reduceLE, Int.reduceNeg, Int.reduceToNat, reduceCtorEq, ho, Try.results40, e.enc_eq]
  refine GCall.fr ?_ (he) (.inl rfl) ?_; (focus (first | rfl | ((simp only [go_sem, Nat.reduceEqDiff, Nat.reduceAdd, Nat.reduceSub, Nat.reduceLeDiff, Nat.reduceLT, Nat.reduceMul, Nat.reduceBEq, Int.reduceEq, Int.reduceLT, Int.reduceLE, Int.reduceNeg, Int.reduceToNat, reduceCtorEq, ho, Try.results40, e.enc_eq]); done) | ((simp only [go_sem, Nat.reduceEqDiff, Nat.reduceAdd, Nat.reduceSub, Nat.reduceLeDiff, Nat.reduceLT, Nat.reduceMul, Nat.reduceBEq, Int.reduceEq, Int.reduceLT, Int.reduceLE, Int.reduceNeg, Int.reduceToNat, reduceCtorEq, ho, Try.results40, e.enc_eq]); rfl)))
  simp only [go_sem, Nat.reduceEqDiff, Nat.reduceAdd, Nat.reduceSub, Nat.reduceLeDiff, Nat.reduceLT, Nat.reduceMul, Nat.reduceBEq, Int.reduceEq, Int.reduceLT, Int.reduceLE, Int.reduceNeg, Int.reduceToNat, reduceCtorEq, ho, Try.results40, Vl.enc]
  refine GCall.fr ?_ (truth_fn (e.eval row)) (.inl rfl) ?_; (focus (first | rfl | ((simp only [go_sem, Nat.reduceEqDiff, Nat.reduceAdd, Nat.reduceSub, Nat.reduceLeDiff, Nat.reduceLT, Nat.reduceMul, Nat.reduceBEq, Int.reduceEq, Int.reduceLT, Int.reduceLE, Int.reduceNeg, Int.reduceToNat, reduceCtorEq, ho, Try.results40]); done) | ((simp only [go_sem, Nat.reduceEqDiff, Nat.reduceAdd, Nat.reduceSub, Nat.reduceLeDiff, Nat.reduceLT, Nat.reduceMul, Nat.reduceBEq, Int.reduceEq, Int.reduceLT, Int.reduceLE, Int.reduceNeg, Int.reduceToNat, reduceCtorEq, ho, Try.results40]); rfl)))
  simp only [go_sem, Nat.reduceEqDiff, Nat.reduceAdd, Nat.reduceSub, Nat.reduceLeDiff, Nat.reduceLT, Nat.reduceMul, Nat.reduceBEq, Int.reduceEq, Int.reduceLT, Int.reduceLE, Int.reduceNeg, Int.reduceToNat, reduceCtorEq, ho, Try.results40]
theorem evalc_f (row : List Vl) (e : Ex) (hf : e.formed = false) : Fc 38 [e.enc, .sl (row.map Vl.enc)] (e.eval row).enc := by
  refine fn_of_awp (E := E0) (M := M0) follows Try.func38 rfl (by decide) ok38 (by decide) (by simp) fun o ho => ?_
  simp only [go_sem, Nat.reduceEqDiff, Nat.reduceAdd, Nat.reduceSub, Nat.reduceLeDiff, Nat.reduceLT, Nat.reduceMul, Nat.reduceBEq, Int.reduceEq, Int.reduceLT, Int.reduceLE, Int.reduceNeg, Int.reduceToNat, reduceCtorEq, ho, Try.results38, e.enc_eq]
  refine GCall.fr ?_ (formed_fn e) (.inl rfl) ?_; (focus (first | rfl | ((simp only [go_sem, Nat.reduceEqDiff, Nat.reduceAdd, Nat.reduceSub, Nat.reduceLeDiff, Nat.reduceLT, Nat.reduceMul, Nat.reduceBEq, Int.reduceEq, Int.reduceLT, Int.reduceLE, Int.reduceNeg, Int.reduceToNat, reduceCtorEq, ho, Try.results38, e.enc_eq]); done) | ((simp only [go_sem, Nat.reduceEqDiff, Nat.reduceAdd, Nat.reduceSub, Nat.reduceLeDiff, Nat.reduceLT, Nat.reduceMul, Nat.reduceBEq, Int.reduceEq, Int.reduceLT, Int.reduceLE, Int.reduceNeg, Int.reduceToNat, reduceCtorEq, ho, Try.results38, e.enc_eq]); rfl)))
  simp only [go_sem, Nat.reduceEqDiff, Nat.reduceAdd, Nat.reduceSub, Nat.reduceLeDiff, Nat.reduceLT, Nat.reduceMul, Nat.reduceBEq, Int.reduceEq, Int.reduceLT, Int.reduceLE, Int.reduceNeg, Int.reduceToNat, reduceCtorEq, ho, Try.results38, hf]
  refine GCall.fr ?_ (null_fn) (.inl rfl) ?_; (focus (first | rfl | ((simp only [go_sem, Nat.reduceEqDiff, Nat.reduceAdd, Nat.reduceSub, Nat.reduceLeDiff, Nat.reduceLT, Nat.reduceMul, Nat.reduceBEq, Int.reduceEq, Int.reduceLT, Int.reduceLE, Int.reduceNeg, Int.reduceToNat, reduceCtorEq, ho, Try.results38]); done) | ((simp only [go_sem, Nat.reduceEqDiff, Nat.reduceAdd, Nat.reduceSub, Nat.reduceLeDiff, Nat.reduceLT, Nat.reduceMul, Nat.reduceBEq, Int.reduceEq, Int.reduceLT, Int.reduceLE, Int.reduceNeg, Int.reduceToNat, reduceCtorEq, ho, Try.results38]); rfl)))
  simp only [go_sem, Nat.reduceEqDiff, Nat.reduceAdd, Nat.reduceSub, Nat.reduceLeDiff, Nat.reduceLT, Nat.reduceMul, Nat.reduceBEq, Int.reduceEq, Int.reduceLT, Int.reduceLE, Int.reduceNeg, Int.reduceToNat, reduceCtorEq, ho, Try.results38, Vl.enc, Vl.null]
  rw [Ex.eval_eq, hf]
  simp [Vl.null]
theorem evalc_1 (row : List Vl) (n : Nat) (hn : n + 1 ≤ 100000000) (IH : ∀ x : Ex, x.size ≤ n → Fc 38 [x.enc, .sl (row.map Vl.enc)] (x.eval row).enc) (e : Ex) (h : e.size ≤ n + 1) (hf : e.formed = true) (hop : e.op = 1) : Fc 38 [e.enc, .sl (row.map Vl.enc)] (e.eval row).enc := by
  have hev : e.eval row = evalOp row 1 e.int e.val (e.args.map (Ex.eval row)) := by rw [Ex.eval_eq, hf, hop]; rfl
  have hsz := e.size_eq
  have hlen := Ex.len_sizes e.args
  have hfit := formed_len hf
  rw [hop] at hfit
  refine fn_of_awp (E := E0) (M := M0) follows Try.func38 rfl (by decide) ok38 (by decide) (by simp) fun o ho => ?_
  rw [hev]
  simp only [go_sem, Nat.reduceEqDiff, Nat.reduceAdd, Nat.reduceSub, Nat.reduceLeDiff, Nat.reduceLT, Nat.reduceMul, Nat.reduceBEq, Int.reduceEq, Int.reduceLT, Int.reduceLE, Int.reduceNeg, Int.reduceToNat, reduceCtorEq, ho, Try.results38, e.enc_eq]
  refine GCall.fr ?_ (formed_fn e) (.inl rfl) ?_; (focus (first | rfl | ((simp only [go_sem, Nat.reduceEqDiff, Nat.reduceAdd, Nat.reduceSub, Nat.reduceLeDiff, Nat.reduceLT, Nat.reduceMul, Nat.reduceBEq, Int.reduceEq, Int.reduceLT, Int.reduceLE, Int.reduceNeg, Int.reduceToNat, reduceCtorEq, ho, Try.results38, e.enc_eq]); done) | ((simp only [go_sem, Nat.reduceEqDiff, Nat.reduceAdd, Nat.reduceSub, Nat.reduceLeDiff, Nat.reduceLT, Nat.reduceMul, Nat.reduceBEq, Int.reduceEq, Int.reduceLT, Int.reduceLE, Int.reduceNeg, Int.reduceToNat, reduceCtorEq, ho, Try.results38, e.enc_eq]); rfl)))
  simp only [go_sem, Nat.reduceEqDiff, Nat.reduceAdd, Nat.reduceSub, Nat.reduceLeDiff, Nat.reduceLT, Nat.reduceMul, Nat.reduceBEq, Int.reduceEq, Int.reduceLT, Int.reduceLE, Int.reduceNeg, Int.reduceToNat, reduceCtorEq, ho, Try.results38, hf, hop]
  rw [evo_1]; rfl
theorem evalc_2 (row : List Vl) (n : Nat) (hn : n + 1 ≤ 100000000) (IH : ∀ x : Ex, x.size ≤ n → Fc 38 [x.enc, .sl (row.map Vl.enc)] (x.eval row).enc) (e : Ex) (h : e.size ≤ n + 1) (hf : e.formed = true) (hop : e.op = 2) : Fc 38 [e.enc, .sl (row.map Vl.enc)] (e.eval row).enc := by
  have hev : e.eval row = evalOp row 2 e.int e.val (e.args.map (Ex.eval row)) := by rw [Ex.eval_eq, hf, hop]; rfl
  have hsz := e.size_eq
  have hlen := Ex.len_sizes e.args
  have hfit := formed_len hf
  rw [hop] at hfit
  refine fn_of_awp (E := E0) (M := M0) follows Try.func38 rfl (by decide) ok38 (by decide) (by simp) fun o ho => ?_
  rw [hev]
  simp only [go_sem, Nat.reduceEqDiff, Nat.reduceAdd, Nat.reduceSub, Nat.reduceLeDiff, Nat.reduceLT, Nat.reduceMul, Nat.reduceBEq, Int.reduceEq, Int.reduceLT, Int.reduceLE, Int.reduceNeg, Int.reduceToNat, reduceCtorEq, ho, Try.results38, e.enc_eq]
  refine GCall.fr ?_ (formed_fn e) (.inl rfl) ?_; (focus (first | rfl | ((simp only [go_sem, Nat.reduceEqDiff, Nat.reduceAdd, Nat.reduceSub, Nat.reduceLeDiff, Nat.reduceLT, Nat.reduceMul, Nat.reduceBEq, Int.reduceEq, Int.reduceLT, Int.reduceLE, Int.reduceNeg, Int.reduceToNat, reduceCtorEq, ho, Try.results38, e.enc_eq]); done) | ((simp only [go_sem, Nat.reduceEqDiff, Nat.reduceAdd, Nat.reduceSub, Nat.reduceLeDiff, Nat.reduceLT, Nat.reduceMul, Nat.reduceBEq, Int.reduceEq, Int.reduceLT, Int.reduceLE, Int.reduceNeg, Int.reduceToNat, reduceCtorEq, ho, Try.results38, e.enc_eq]); rfl)))
  simp only [go_sem, Nat.reduceEqDiff, Nat.reduceAdd, Nat.reduceSub, Nat.reduceLeDiff, Nat.reduceLT, Nat.reduceMul, Nat.reduceBEq, Int.reduceEq, Int.reduceLT, Int.reduceLE, Int.reduceNeg, Int.reduceToNat, reduceCtorEq, ho, Try.results38, hf, hop]
  refine GCall.fr ?_ (column_fn row e.int) (.inl rfl) ?_; (focus (first | rfl | ((simp only [go_sem, Nat.reduceEqDiff, Nat.reduceAdd, Nat.reduceSub, Nat.reduceLeDiff, Nat.reduceLT, Nat.reduceMul, Nat.reduceBEq, Int.reduceEq, Int.reduceLT, Int.reduceLE, Int.reduceNeg, Int.reduceToNat, reduceCtorEq, ho, Try.results38]); done) | ((simp only [go_sem, Nat.reduceEqDiff, Nat.reduceAdd, Nat.reduceSub, Nat.reduceLeDiff, Nat.reduceLT, Nat.reduceMul, Nat.reduceBEq, Int.reduceEq, Int.reduceLT, Int.reduceLE, Int.reduceNeg, Int.reduceToNat, reduceCtorEq, ho, Try.results38]); rfl)))
  simp only [go_sem, Nat.reduceEqDiff, Nat.reduceAdd, Nat.reduceSub, Nat.reduceLeDiff, Nat.reduceLT, Nat.reduceMul, Nat.reduceBEq, Int.reduceEq, Int.reduceLT, Int.reduceLE, Int.reduceNeg, Int.reduceToNat, reduceCtorEq, ho, Try.results38, Vl.enc]
  rw [evo_2]; exact ⟨rfl, rfl, rfl⟩
theorem evalc_22 (row : List Vl) (n : Nat) (hn : n + 1 ≤ 100000000) (IH : ∀ x : Ex, x.size ≤ n → Fc 38 [x.enc, .sl (row.map Vl.enc)] (x.eval row).enc) (e : Ex) (h : e.size ≤ n + 1) (hf : e.formed = true) (hop : e.op = 22) : Fc 38 [e.enc, .sl (row.map Vl.enc)] (e.eval row).enc := by
  obtain ⟨a, b, c, habc⟩ : ∃ a b c, e.args = [a, b, c] := by
    have hfit := formed_len hf
    rw [hop] at hfit
    have h3 : (e.args.length : Int) = 3 := by simpa [fitsN] using hfit
    exact three (by omega)
  have hev : e.eval row = evalOp row 22 e.int e.val (e.args.map (Ex.eval row)) := by rw [Ex.eval_eq, hf, hop]; rfl
  have hsz := e.size_eq
  have hlen := Ex.len_sizes e.args
  have hfit := formed_len hf
  rw [hop] at hfit
  refine fn_of_awp (E := E0) (M := M0) follows Try.func38 rfl (by decide) ok38 (by decide) (by simp) fun o ho => ?_
  rw [hev]
  simp only [go_sem, Nat.reduceEqDiff, Nat.reduceAdd, Nat.reduceSub, Nat.reduceLeDiff, Nat.reduceLT, Nat.reduceMul, Nat.reduceBEq, Int.reduceEq, Int.reduceLT, Int.reduceLE, Int.reduceNeg, Int.reduceToNat, reduceCtorEq, ho, Try.results38, e.enc_eq]
  refine GCall.fr ?_ (formed_fn e) (.inl rfl) ?_; (focus (first | rfl | ((simp only [go_sem, Nat.reduceEqDiff, Nat.reduceAdd, Nat.reduceSub, Nat.reduceLeDiff, Nat.reduceLT, Nat.reduceMul, Nat.reduceBEq, Int.reduceEq, Int.reduceLT, Int.reduceLE, Int.reduceNeg, Int.reduceToNat, reduceCtorEq, ho, Try.results38, e.enc_eq]); done) | ((simp only [go_sem, Nat.reduceEqDiff, Nat.reduceAdd, Nat.reduceSub, Nat.reduceLeDiff, Nat.reduceLT, Nat.reduceMul, Nat.reduceBEq, Int.reduceEq, Int.reduceLT, Int.reduceLE, Int.reduceNeg, Int.reduceToNat, reduceCtorEq, ho, Try.results38, e.enc_eq]); rfl)))
  simp only [go_sem, Nat.reduceEqDiff, Nat.reduceAdd, Nat.reduceSub, Nat.reduceLeDiff, Nat.reduceLT, Nat.reduceMul, Nat.reduceBEq, Int.reduceEq, Int.reduceLT, Int.reduceLE, Int.reduceNeg, Int.reduceToNat, reduceCtorEq, ho, Try.results38, hf, hop]
  have hs3 : a.size + (b.size + c.size) ≤ n := by rw [habc] at hsz; simp [Ex.sizes] at hsz; omega
  simp only [go_sem, Nat.reduceEqDiff, Nat.reduceAdd, Nat.reduceSub, Nat.reduceLeDiff, Nat.reduceLT, Nat.reduceMul, Nat.reduceBEq, Int.reduceEq, Int.reduceLT, Int.reduceLE, Int.reduceNeg, Int.reduceToNat, reduceCtorEq, ho, Try.results38, habc, List.map, List.length_cons, List.length_nil]
  refine GCall.fr ?_ (truthE_fn row a (IH a (by omega))) (.inl rfl) ?_; (focus (first | rfl | ((simp only [go_sem, Nat.reduceEqDiff, Nat.reduceAdd, Nat.reduceSub, Nat.reduceLeDiff, Nat.reduceLT, Nat.reduceMul, Nat.reduceBEq, Int.reduceEq, Int.reduceLT, Int.reduceLE, Int.reduceNeg, Int.reduceToNat, reduceCtorEq, ho, Try.results38, a.enc_eq]); done) | ((simp only [go_sem, Nat.reduceEqDiff, Nat.reduceAdd, Nat.reduceSub, Nat.reduceLeDiff, Nat.reduceLT, Nat.reduceMul, Nat.reduceBEq, Int.reduceEq, Int.reduceLT, Int.reduceLE, Int.reduceNeg, Int.reduceToNat, reduceCtorEq, ho, Try.results38, a.enc_eq]); rfl)))
  simp only [go_sem, Nat.reduceEqDiff, Nat.reduceAdd, Nat.reduceSub, Nat.reduceLeDiff, Nat.reduceLT, Nat.reduceMul, Nat.reduceBEq, Int.reduceEq, Int.reduceLT, Int.reduceLE, Int.reduceNeg, Int.reduceToNat, reduceCtorEq, ho, Try.results38]
  rw [evo_22]
  simp only [nth, List.getElem?_cons_zero, List.getElem?_cons_succ, Option.getD_some]
  by_cases ht : (a.eval row).truth = 2
  · simp only [go_sem, Nat.reduceEqDiff, Nat.reduceAdd, Nat.reduceSub, Nat.reduceLeDiff, Nat.reduceLT, Nat.reduceMul, Nat.reduceBEq, Int.reduceEq, Int.reduceLT, Int.reduceLE, Int.reduceNeg, Int.reduceToNat, reduceCtorEq, ho, Try.results38, ht, habc, List.map]
    refine GCall.fr ?_ (IH b (by omega)) (.inl rfl) ?_; (focus (first | rfl | ((simp only [go_sem, Nat.reduceEqDiff, Nat.reduceAdd, Nat.reduceSub, Nat.reduceLeDiff, Nat.reduceLT, Nat.reduceMul, Nat.reduceBEq, Int.reduceEq, Int.reduceLT, Int.reduceLE, Int.reduceNeg, Int.reduceToNat, reduceCtorEq, ho, Try.results38, b.enc_eq]); done) | ((simp only [go_sem, Nat.reduceEqDiff, Nat.reduceAdd, Nat.reduceSub, Nat.reduceLeDiff, Nat.reduceLT, Nat.reduceMul, Nat.reduceBEq, Int.reduceEq, Int.reduceLT, Int.reduceLE, Int.reduceNeg, Int.reduceToNat, reduceCtorEq, ho, Try.results38, b.enc_eq]); rfl)))
    simp only [go_sem, Nat.reduceEqDiff, Nat.reduceAdd, Nat.reduceSub, Nat.reduceLeDiff, Nat.reduceLT, Nat.reduceMul, Nat.reduceBEq, Int.reduceEq, Int.reduceLT, Int.reduceLE, Int.reduceNeg, Int.reduceToNat, reduceCtorEq, ho, Try.results38, Vl.enc]
  · simp only [go_sem, Nat.reduceEqDiff, Nat.reduceAdd, Nat.reduceSub, Nat.reduceLeDiff, Nat.reduceLT, Nat.reduceMul, Nat.reduceBEq, Int.reduceEq, Int.reduceLT, Int.reduceLE, Int.reduceNeg, Int.reduceToNat, reduceCtorEq, ho, Try.results38, ht, habc, List.map]
    refine GCall.fr ?_ (IH c (by omega)) (.inl rfl) ?_; (focus (first | rfl | ((simp only [go_sem, Nat.reduceEqDiff, Nat.reduceAdd, Nat.reduceSub, Nat.reduceLeDiff, Nat.reduceLT, Nat.reduceMul, Nat.reduceBEq, Int.reduceEq, Int.reduceLT, Int.reduceLE, Int.reduceNeg, Int.reduceToNat, reduceCtorEq, ho, Try.results38, c.enc_eq]); done) | ((simp only [go_sem, Nat.reduceEqDiff, Nat.reduceAdd, Nat.reduceSub, Nat.reduceLeDiff, Nat.reduceLT, Nat.reduceMul, Nat.reduceBEq, Int.reduceEq, Int.reduceLT, Int.reduceLE, Int.reduceNeg, Int.reduceToNat, reduceCtorEq, ho, Try.results38, c.enc_eq]); rfl)))
    simp only [go_sem, Nat.reduceEqDiff, Nat.reduceAdd, Nat.reduceSub, Nat.reduceLeDiff, Nat.reduceLT, Nat.reduceMul, Nat.reduceBEq, Int.reduceEq, Int.reduceLT, Int.reduceLE, Int.reduceNeg, Int.reduceToNat, reduceCtorEq, ho, Try.results38, Vl.enc]
end Go.Proofs.Ytiefnninebilbaa
