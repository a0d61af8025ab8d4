/- What the checking of an expression returns: the program's check; no condition. -/
import Derived.Test.YtiefnninebilbaaMd
set_option maxRecDepth 100000
set_option linter.unusedVariables false
set_option linter.unusedSimpArgs false
namespace Go.Proofs.Ytiefnninebilbaa
open Go Go.Sx

theorem ints_len {l : List Int} : ∀ z ∈ l.map (PV.int .i64), z.cells.length = 1 := by
  intro z hz
  obtain ⟨n, _, rfl⟩ := List.mem_map.1 hz
  rfl
def allKind (l : List Int) (kind : Int) : Bool := (unite (l ++ [kind]) 0).2 && decide ((unite (l ++ [kind]) 0).1 = kind)
theorem ok184 : okCode M0 Try.f184.ntmps (Try.f184.body.getD .skip) = true := by decide +kernel
theorem all_fn (l : List Int) (kind : Int) (hl : l.length ≤ 100000000) : Fc 184 [.sl (l.map (.int .i64)), .int .i64 kind] (.bool (allKind l kind)) := by
  refine fn_of_awp (E := E0) (M := M0) follows Try.func184 rfl (by decide) ok184 (by decide) (by simp) fun o ho => ?_
  simp only [go_sem, Nat.reduceEqDiff, Nat.reduceAdd, Nat.reduceSub, Nat.reduceLeDiff, Nat.reduceLT, Nat.reduceMul, Nat.reduceBEq, Int.reduceEq, Int.reduceLT, Int.reduceLE, Int.reduceNeg, Int.reduceToNat, reduceCtorEq, ho, Try.results184]
  cases l with
  | nil =>
    refine GCall.fr ?_ (clone_empty) (.inr rfl) ?_; (focus (first | rfl | ((simp only [go_sem, Nat.reduceEqDiff, Nat.reduceAdd, Nat.reduceSub, Nat.reduceLeDiff, Nat.reduceLT, Nat.reduceMul, Nat.reduceBEq, Int.reduceEq, Int.reduceLT, Int.reduceLE, Int.reduceNeg, Int.reduceToNat, reduceCtorEq, ho, Try.results184]); done) | ((simp only [go_sem, Nat.reduceEqDiff, Nat.reduceAdd, Nat.reduceSub, Nat.reduceLeDiff, Nat.reduceLT, Nat.reduceMul, Nat.reduceBEq, Int.reduceEq, Int.reduceLT, Int.reduceLE, Int.reduceNeg, Int.reduceToNat, reduceCtorEq, ho, Try.results184]); rfl)))
    simp only [go_sem, Nat.reduceEqDiff, Nat.reduceAdd, Nat.reduceSub, Nat.reduceLeDiff, Nat.reduceLT, Nat.reduceMul, Nat.reduceBEq, Int.reduceEq, Int.reduceLT, Int.reduceLE, Int.reduceNeg, Int.reduceToNat, reduceCtorEq, ho, Try.results184]
    refine GCall.fr ?_ (unite_fn [kind] (by simp)) (.inl rfl) ?_; (focus (first | rfl | ((simp only [go_sem, Nat.reduceEqDiff, Nat.reduceAdd, Nat.reduceSub, Nat.reduceLeDiff, Nat.reduceLT, Nat.reduceMul, Nat.reduceBEq, Int.reduceEq, Int.reduceLT, Int.reduceLE, Int.reduceNeg, Int.reduceToNat, reduceCtorEq, ho, Try.results184]); done) | ((simp only [go_sem, Nat.reduceEqDiff, Nat.reduceAdd, Nat.reduceSub, Nat.reduceLeDiff, Nat.reduceLT, Nat.reduceMul, Nat.reduceBEq, Int.reduceEq, Int.reduceLT, Int.reduceLE, Int.reduceNeg, Int.reduceToNat, reduceCtorEq, ho, Try.results184]); rfl)))
    simp only [go_sem, Nat.reduceEqDiff, Nat.reduceAdd, Nat.reduceSub, Nat.reduceLeDiff, Nat.reduceLT, Nat.reduceMul, Nat.reduceBEq, Int.reduceEq, Int.reduceLT, Int.reduceLE, Int.reduceNeg, Int.reduceToNat, reduceCtorEq, ho, Try.results184]
    repeat' (first | (refine AIf_cases (fun h => ?_) (fun h => ?_) <;> (try simp only [decide_eq_true_eq, decide_eq_false_iff_not, Bool.not_eq_true', Bool.not_eq_false', Bool.not_eq_true, Bool.not_eq_false] at h) <;> (try simp only [go_sem, Nat.reduceEqDiff, Nat.reduceAdd, Nat.reduceSub, Nat.reduceLeDiff, Nat.reduceLT, Nat.reduceMul, Nat.reduceBEq, Int.reduceEq, Int.reduceLT, Int.reduceLE, Int.reduceNeg, Int.reduceToNat, reduceCtorEq, ho, Try.results184, h])))
    all_goals simp_all [allKind]
  | cons x l =>
    refine GCall.mk ?_ (clone_fn (.int .i64 x) (l.map (.int .i64)) (by have := ints_len (l := x :: l); simpa using this) (by simp at hl ⊢; omega)) rfl ?_
    · simp only [go_sem, Nat.reduceEqDiff, Nat.reduceAdd, Nat.reduceSub, Nat.reduceLeDiff, Nat.reduceLT, Nat.reduceMul, Nat.reduceBEq, Int.reduceEq, Int.reduceLT, Int.reduceLE, Int.reduceNeg, Int.reduceToNat, reduceCtorEq, ho, Try.results184]
    · have hb : (l.length + 1 + 1) * 9 ≤ 140737488355328 := by simp at hl; omega
      simp only [go_sem, Nat.reduceEqDiff, Nat.reduceAdd, Nat.reduceSub, Nat.reduceLeDiff, Nat.reduceLT, Nat.reduceMul, Nat.reduceBEq, Int.reduceEq, Int.reduceLT, Int.reduceLE, Int.reduceNeg, Int.reduceToNat, reduceCtorEq, ho, Try.results184, List.length_map, hb]
      refine GCall.fr ?_ (unite_fn (x :: l ++ [kind]) (by simp at hl ⊢; omega)) (.inl rfl) ?_; (focus (first | rfl | ((simp only [go_sem, Nat.reduceEqDiff, Nat.reduceAdd, Nat.reduceSub, Nat.reduceLeDiff, Nat.reduceLT, Nat.reduceMul, Nat.reduceBEq, Int.reduceEq, Int.reduceLT, Int.reduceLE, Int.reduceNeg, Int.reduceToNat, reduceCtorEq, ho, Try.results184, List.map_append]); done) | ((simp only [go_sem, Nat.reduceEqDiff, Nat.reduceAdd, Nat.reduceSub, Nat.reduceLeDiff, Nat.reduceLT, Nat.reduceMul, Nat.reduceBEq, Int.reduceEq, Int.reduceLT, Int.reduceLE, Int.reduceNeg, Int.reduceToNat, reduceCtorEq, ho, Try.results184, List.map_append]); rfl)))
      simp only [go_sem, Nat.reduceEqDiff, Nat.reduceAdd, Nat.reduceSub, Nat.reduceLeDiff, Nat.reduceLT, Nat.reduceMul, Nat.reduceBEq, Int.reduceEq, Int.reduceLT, Int.reduceLE, Int.reduceNeg, Int.reduceToNat, reduceCtorEq, ho, Try.results184]
      repeat' (first | (refine AIf_cases (fun h => ?_) (fun h => ?_) <;> (try simp only [decide_eq_true_eq, decide_eq_false_iff_not, Bool.not_eq_true', Bool.not_eq_false', Bool.not_eq_true, Bool.not_eq_false] at h) <;> (try simp only [go_sem, Nat.reduceEqDiff, Nat.reduceAdd, Nat.reduceSub, Nat.reduceLeDiff, Nat.reduceLT, Nat.reduceMul, Nat.reduceBEq, Int.reduceEq, Int.reduceLT, Int.reduceLE, Int.reduceNeg, Int.reduceToNat, reduceCtorEq, ho, Try.results184, h])))
      all_goals simp_all [allKind]
def resultK (op vk : Int) (l : List Int) : Int × Bool :=
  if op = 1 then (vk, true)
  else if op = 4 ∨ op = 5 ∨ op = 6 then (3, allKind l 3)
  else if op = 7 ∨ op = 8 ∨ op = 9 ∨ op = 10 ∨ op = 11 ∨ op = 12 then (3, (unite l 0).2)
  else if op = 19 then (2, allKind l 2)
  else if op = 20 then (1, allKind l 2)
  else if op = 21 then (3, true)
  else if op = 22 then ((unite (l.drop 1) 0).1, (unite (l.drop 1) 0).2 && allKind (l.take 1) 3)
  else if op = 23 then unite l 0
  else if op = 24 then (3, allKind l 1)
  else (1, allKind l 1)
theorem ints_len' {l : List Int} : ∀ z, z ∈ l.map (PV.int .i64) → z.cells.length = 1 := ints_len
theorem ok154 : okCode M0 Try.f154.ntmps (Try.f154.body.getD .skip) = true := by decide +kernel
theorem result_fn (e : Ex) (l : List Int) (hl : l.length ≤ 100000000) (h1 : e.op = 22 → 1 ≤ l.length) : Fc 154 [e.enc, .sl (l.map (.int .i64))] (.tup [.int .i64 (resultK e.op e.val.kind l).1, .bool (resultK e.op e.val.kind l).2]) := by
  have hl' : l.length ≤ 1000000000 := by omega
  refine fn_of_awp (E := E0) (M := M0) follows Try.func154 rfl (by decide) ok154 (by decide) (by simp) fun o ho => ?_
  simp only [go_sem, Nat.reduceEqDiff, Nat.reduceAdd, Nat.reduceSub, Nat.reduceLeDiff, Nat.reduceLT, Nat.reduceMul, Nat.reduceBEq, Int.reduceEq, Int.reduceLT, Int.reduceLE, Int.reduceNeg, Int.reduceToNat, reduceCtorEq, ho, Try.results154, e.enc_eq]
  repeat' (first | (refine AIf_cases (fun h => ?_) (fun h => ?_) <;> (try simp only [decide_eq_true_eq, decide_eq_false_iff_not, Bool.not_eq_true', Bool.not_eq_false', Bool.not_eq_true, Bool.not_eq_false] at h) <;> (try simp only [go_sem, Nat.reduceEqDiff, Nat.reduceAdd, Nat.reduceSub, Nat.reduceLeDiff, Nat.reduceLT, Nat.reduceMul, Nat.reduceBEq, Int.reduceEq, Int.reduceLT, Int.reduceLE, Int.reduceNeg, Int.reduceToNat, reduceCtorEq, ho, Try.results154, h])) | (refine GCall.fr ?_ (all_fn l 3 hl) (.inl rfl) ?_; (focus (first | rfl | ((simp only [go_sem, Nat.reduceEqDiff, Nat.reduceAdd, Nat.reduceSub, Nat.reduceLeDiff, Nat.reduceLT, Nat.reduceMul, Nat.reduceBEq, Int.reduceEq, Int.reduceLT, Int.reduceLE, Int.reduceNeg, Int.reduceToNat, reduceCtorEq, ho, Try.results154]); done) | ((simp only [go_sem, Nat.reduceEqDiff, Nat.reduceAdd, Nat.reduceSub, Nat.reduceLeDiff, Nat.reduceLT, Nat.reduceMul, Nat.reduceBEq, Int.reduceEq, Int.reduceLT, Int.reduceLE, Int.reduceNeg, Int.reduceToNat, reduceCtorEq, ho, Try.results154]); rfl))); (try simp only [go_sem, Nat.reduceEqDiff, Nat.reduceAdd, Nat.reduceSub, Nat.reduceLeDiff, Nat.reduceLT, Nat.reduceMul, Nat.reduceBEq, Int.reduceEq, Int.reduceLT, Int.reduceLE, Int.reduceNeg, Int.reduceToNat, reduceCtorEq, ho, Try.results154])) | (refine QCall.fr ?_ (all_fn l 3 hl) (.inl rfl) ?_; (focus (first | rfl | ((simp only [go_sem, Nat.reduceEqDiff, Nat.reduceAdd, Nat.reduceSub, Nat.reduceLeDiff, Nat.reduceLT, Nat.reduceMul, Nat.reduceBEq, Int.reduceEq, Int.reduceLT, Int.reduceLE, Int.reduceNeg, Int.reduceToNat, reduceCtorEq, ho, Try.results154]); done) | ((simp only [go_sem, Nat.reduceEqDiff, Nat.reduceAdd, Nat.reduceSub, Nat.reduceLeDiff, Nat.reduceLT, Nat.reduceMul, Nat.reduceBEq, Int.reduceEq, Int.reduceLT, Int.reduceLE, Int.reduceNeg, Int.reduceToNat, reduceCtorEq, ho, Try.results154]); rfl))); (try simp only [go_sem, Nat.reduceEqDiff, Nat.reduceAdd, Nat.reduceSub, Nat.reduceLeDiff, Nat.reduceLT, Nat.reduceMul, Nat.reduceBEq, Int.reduceEq, Int.reduceLT, Int.reduceLE, Int.reduceNeg, Int.reduceToNat, reduceCtorEq, ho, Try.results154])) | (refine GCall.fr ?_ (all_fn l 2 hl) (.inl rfl) ?_; (focus (first | rfl | ((simp only [go_sem, Nat.reduceEqDiff, Nat.reduceAdd, Nat.reduceSub, Nat.reduceLeDiff, Nat.reduceLT, Nat.reduceMul, Nat.reduceBEq, Int.reduceEq, Int.reduceLT, Int.reduceLE, Int.reduceNeg, Int.reduceToNat, reduceCtorEq, ho, Try.results154]); done) | ((simp only [go_sem, Nat.reduceEqDiff, Nat.reduceAdd, Nat.reduceSub, Nat.reduceLeDiff, Nat.reduceLT, Nat.reduceMul, Nat.reduceBEq, Int.reduceEq, Int.reduceLT, Int.reduceLE, Int.reduceNeg, Int.reduceToNat, reduceCtorEq, ho, Try.results154]); rfl))); (try simp only [go_sem, Nat.reduceEqDiff, Nat.reduceAdd, Nat.reduceSub, Nat.reduceLeDiff, Nat.reduceLT, Nat.reduceMul, Nat.reduceBEq, Int.reduceEq, Int.reduceLT, Int.reduceLE, Int.reduceNeg, Int.reduceToNat, reduceCtorEq, ho, Try.results154])) | (refine QCall.fr ?_ (all_fn l 2 hl) (.inl rfl) ?_; (focus (first | rfl | ((simp only [go_sem, Nat.reduceEqDiff, Nat.reduceAdd, Nat.reduceSub, Nat.reduceLeDiff, Nat.reduceLT, Nat.reduceMul, Nat.reduceBEq, Int.reduceEq, Int.reduceLT, Int.reduceLE, Int.reduceNeg, Int.reduceToNat, reduceCtorEq, ho, Try.results154]); done) | ((simp only [go_sem, Nat.reduceEqDiff, Nat.reduceAdd, Nat.reduceSub, Nat.reduceLeDiff, Nat.reduceLT, Nat.reduceMul, Nat.reduceBEq, Int.reduceEq, Int.reduceLT, Int.reduceLE, Int.reduceNeg, Int.reduceToNat, reduceCtorEq, ho, Try.results154]); rfl))); (try simp only [go_sem, Nat.reduceEqDiff, Nat.reduceAdd, Nat.reduceSub, Nat.reduceLeDiff, Nat.reduceLT, Nat.reduceMul, Nat.reduceBEq, Int.reduceEq, Int.reduceLT, Int.reduceLE, Int.reduceNeg, Int.reduceToNat, reduceCtorEq, ho, Try.results154])) | (refine GCall.fr ?_ (all_fn l 1 hl) (.inl rfl) ?_; (focus (first | rfl | ((simp only [go_sem, Nat.reduceEqDiff, Nat.reduceAdd, Nat.reduceSub, Nat.reduceLeDiff, Nat.reduceLT, Nat.reduceMul, Nat.reduceBEq, Int.reduceEq, Int.reduceLT, Int.reduceLE, Int.reduceNeg, Int.reduceToNat, reduceCtorEq, ho, Try.results154]); done) | ((simp only [go_sem, Nat.reduceEqDiff, Nat.reduceAdd, Nat.reduceSub, Nat.reduceLeDiff, Nat.reduceLT, Nat.reduceMul, Nat.reduceBEq, Int.reduceEq, Int.reduceLT, Int.reduceLE, Int.reduceNeg, Int.reduceToNat, reduceCtorEq, ho, Try.results154]); rfl))); (try simp only [go_sem, Nat.reduceEqDiff, Nat.reduceAdd, Nat.reduceSub, Nat.reduceLeDiff, Nat.reduceLT, Nat.reduceMul, Nat.reduceBEq, Int.reduceEq, Int.reduceLT, Int.reduceLE, Int.reduceNeg, Int.reduceToNat, reduceCtorEq, ho, Try.results154])) | (refine QCall.fr ?_ (all_fn l 1 hl) (.inl rfl) ?_; (focus (first | rfl | ((simp only [go_sem, Nat.reduceEqDiff, Nat.reduceAdd, Nat.reduceSub, Nat.reduceLeDiff, Nat.reduceLT, Nat.reduceMul, Nat.reduceBEq, Int.reduceEq, Int.reduceLT, Int.reduceLE, Int.reduceNeg, Int.reduceToNat, reduceCtorEq, ho, Try.results154]); done) | ((simp only [go_sem, Nat.reduceEqDiff, Nat.reduceAdd, Nat.reduceSub, Nat.reduceLeDiff, Nat.reduceLT, Nat.reduceMul, Nat.reduceBEq, Int.reduceEq, Int.reduceLT, Int.reduceLE, Int.reduceNeg, Int.reduceToNat, reduceCtorEq, ho, Try.results154]); rfl))); (try simp only [go_sem, Nat.reduceEqDiff, Nat.reduceAdd, Nat.reduceSub, Nat.reduceLeDiff, Nat.reduceLT, Nat.reduceMul, Nat.reduceBEq, Int.reduceEq, Int.reduceLT, Int.reduceLE, Int.reduceNeg, Int.reduceToNat, reduceCtorEq, ho, Try.results154])) | (refine GCall.fr ?_ (unite_fn l hl' ) (.inl rfl) ?_; (focus (first | rfl | ((simp only [go_sem, Nat.reduceEqDiff, Nat.reduceAdd, Nat.reduceSub, Nat.reduceLeDiff, Nat.reduceLT, Nat.reduceMul, Nat.reduceBEq, Int.reduceEq, Int.reduceLT, Int.reduceLE, Int.reduceNeg, Int.reduceToNat, reduceCtorEq, ho, Try.results154]); done) | ((simp only [go_sem, Nat.reduceEqDiff, Nat.reduceAdd, Nat.reduceSub, Nat.reduceLeDiff, Nat.reduceLT, Nat.reduceMul, Nat.reduceBEq, Int.reduceEq, Int.reduceLT, Int.reduceLE, Int.reduceNeg, Int.reduceToNat, reduceCtorEq, ho, Try.results154]); rfl))); (try simp only [go_sem, Nat.reduceEqDiff, Nat.reduceAdd, Nat.reduceSub, Nat.reduceLeDiff, Nat.reduceLT, Nat.reduceMul, Nat.reduceBEq, Int.reduceEq, Int.reduceLT, Int.reduceLE, Int.reduceNeg, Int.reduceToNat, reduceCtorEq, ho, Try.results154])) | (refine QCall.fr ?_ (unite_fn l hl' ) (.inl rfl) ?_; (focus (first | rfl | ((simp only [go_sem, Nat.reduceEqDiff, Nat.reduceAdd, Nat.reduceSub, Nat.reduceLeDiff, Nat.reduceLT, Nat.reduceMul, Nat.reduceBEq, Int.reduceEq, Int.reduceLT, Int.reduceLE, Int.reduceNeg, Int.reduceToNat, reduceCtorEq, ho, Try.results154]); done) | ((simp only [go_sem, Nat.reduceEqDiff, Nat.reduceAdd, Nat.reduceSub, Nat.reduceLeDiff, Nat.reduceLT, Nat.reduceMul, Nat.reduceBEq, Int.reduceEq, Int.reduceLT, Int.reduceLE, Int.reduceNeg, Int.reduceToNat, reduceCtorEq, ho, Try.results154]); rfl))); (try simp only [go_sem, Nat.reduceEqDiff, Nat.reduceAdd, Nat.reduceSub, Nat.reduceLeDiff, Nat.reduceLT, Nat.reduceMul, Nat.reduceBEq, Int.reduceEq, Int.reduceLT, Int.reduceLE, Int.reduceNeg, Int.reduceToNat, reduceCtorEq, ho, Try.results154])))
  all_goals (first | (simp_all [resultK]; done) | skip)
  have h2 : 1 ≤ l.length := h1 h
  simp only [go_sem, Nat.reduceEqDiff, Nat.reduceAdd, Nat.reduceSub, Nat.reduceLeDiff, Nat.reduceLT, Nat.reduceMul, Nat.reduceBEq, Int.reduceEq, Int.reduceLT, Int.reduceLE, Int.reduceNeg, Int.reduceToNat, reduceCtorEq, ho, Try.results154, List.length_map, h2, eq_true (ints_len' (l := l)), List.take_length, ← List.map_drop, ← List.map_take, Nat.le_refl]
  refine GCall.fr ?_ (unite_fn (l.drop 1) (by simp; omega)) (.inl rfl) ?_; (focus (first | rfl | ((simp only [go_sem, Nat.reduceEqDiff, Nat.reduceAdd, Nat.reduceSub, Nat.reduceLeDiff, Nat.reduceLT, Nat.reduceMul, Nat.reduceBEq, Int.reduceEq, Int.reduceLT, Int.reduceLE, Int.reduceNeg, Int.reduceToNat, reduceCtorEq, ho, Try.results154]); done) | ((simp only [go_sem, Nat.reduceEqDiff, Nat.reduceAdd, Nat.reduceSub, Nat.reduceLeDiff, Nat.reduceLT, Nat.reduceMul, Nat.reduceBEq, Int.reduceEq, Int.reduceLT, Int.reduceLE, Int.reduceNeg, Int.reduceToNat, reduceCtorEq, ho, Try.results154]); rfl)))
  simp only [go_sem, Nat.reduceEqDiff, Nat.reduceAdd, Nat.reduceSub, Nat.reduceLeDiff, Nat.reduceLT, Nat.reduceMul, Nat.reduceBEq, Int.reduceEq, Int.reduceLT, Int.reduceLE, Int.reduceNeg, Int.reduceToNat, reduceCtorEq, ho, Try.results154]
  repeat' (first | (refine AIf_cases (fun h => ?_) (fun h => ?_) <;> (try simp only [decide_eq_true_eq, decide_eq_false_iff_not, Bool.not_eq_true', Bool.not_eq_false', Bool.not_eq_true, Bool.not_eq_false] at h) <;> (try simp only [go_sem, Nat.reduceEqDiff, Nat.reduceAdd, Nat.reduceSub, Nat.reduceLeDiff, Nat.reduceLT, Nat.reduceMul, Nat.reduceBEq, Int.reduceEq, Int.reduceLT, Int.reduceLE, Int.reduceNeg, Int.reduceToNat, reduceCtorEq, ho, Try.results154, h, List.length_map, h2, eq_true (ints_len' (l := l)), List.take_length, ← List.map_drop, ← List.map_take, Nat.le_refl])) | (refine GCall.fr ?_ (all_fn (l.take 1) 3 (by simp; omega)) (.inl rfl) ?_; (focus (first | rfl | ((simp only [go_sem, Nat.reduceEqDiff, Nat.reduceAdd, Nat.reduceSub, Nat.reduceLeDiff, Nat.reduceLT, Nat.reduceMul, Nat.reduceBEq, Int.reduceEq, Int.reduceLT, Int.reduceLE, Int.reduceNeg, Int.reduceToNat, reduceCtorEq, ho, Try.results154, List.length_map, h2, eq_true (ints_len' (l := l)), List.take_length, ← List.map_drop, ← List.map_take, Nat.le_refl]); done) | ((simp only [go_sem, Nat.reduceEqDiff, Nat.reduceAdd, Nat.reduceSub, Nat.reduceLeDiff, Nat.reduceLT, Nat.reduceMul, Nat.reduceBEq, Int.reduceEq, Int.reduceLT, Int.reduceLE, Int.reduceNeg, Int.reduceToNat, reduceCtorEq, ho, Try.results154, List.length_map, h2, eq_true (ints_len' (l := l)), List.take_length, ← List.map_drop, ← List.map_take, Nat.le_refl]); rfl))); (try simp only [go_sem, Nat.reduceEqDiff, Nat.reduceAdd, Nat.reduceSub, Nat.reduceLeDiff, Nat.reduceLT, Nat.reduceMul, Nat.reduceBEq, Int.reduceEq, Int.reduceLT, Int.reduceLE, Int.reduceNeg, Int.reduceToNat, reduceCtorEq, ho, Try.results154, List.length_map, h2, eq_true (ints_len' (l := l)), List.take_length, ← List.map_drop, ← List.map_take, Nat.le_refl])) | (refine QCall.fr ?_ (all_fn (l.take 1) 3 (by simp; omega)) (.inl rfl) ?_; (focus (first | rfl | ((simp only [go_sem, Nat.reduceEqDiff, Nat.reduceAdd, Nat.reduceSub, Nat.reduceLeDiff, Nat.reduceLT, Nat.reduceMul, Nat.reduceBEq, Int.reduceEq, Int.reduceLT, Int.reduceLE, Int.reduceNeg, Int.reduceToNat, reduceCtorEq, ho, Try.results154, List.length_map, h2, eq_true (ints_len' (l := l)), List.take_length, ← List.map_drop, ← List.map_take, Nat.le_refl]); done) | ((simp only [go_sem, Nat.reduceEqDiff, Nat.reduceAdd, Nat.reduceSub, Nat.reduceLeDiff, Nat.reduceLT, Nat.reduceMul, Nat.reduceBEq, Int.reduceEq, Int.reduceLT, Int.reduceLE, Int.reduceNeg, Int.reduceToNat, reduceCtorEq, ho, Try.results154, List.length_map, h2, eq_true (ints_len' (l := l)), List.take_length, ← List.map_drop, ← List.map_take, Nat.le_refl]); rfl))); (try simp only [go_sem, Nat.reduceEqDiff, Nat.reduceAdd, Nat.reduceSub, Nat.reduceLeDiff, Nat.reduceLT, Nat.reduceMul, Nat.reduceBEq, Int.reduceEq, Int.reduceLT, Int.reduceLE, Int.reduceNeg, Int.reduceToNat, reduceCtorEq, ho, Try.results154, List.length_map, h2, eq_true (ints_len' (l := l)), List.take_length, ← List.map_drop, ← List.map_take, Nat.le_refl])))
  all_goals simp_all [resultK]
end Go.Proofs.Ytiefnninebilbaa
/- What the checking of an expression returns: the program's check and Check; no condition. -/
set_option maxRecDepth 100000
set_option linter.unusedVariables false
set_option linter.unusedSimpArgs false
namespace Go.Proofs.Ytiefnninebilbaa
open Go Go.Sx

mutual
def Ex.check (kinds : List Int) : Ex → Int × Int
  | .mk op int v name args =>
    if known op = false then (0, 7) else if Ex.formed (.mk op int v name args) = false then (0, 8)
    else if op = 2 then (if int < 0 ∨ (kinds.length : Int) ≤ int then (0, 13) else (kinds[int.toNat]?.getD 0, 0))
    else if (Ex.checks kinds args []).1 ≠ 0 then (0, (Ex.checks kinds args []).1)
    else if (resultK op v.kind (Ex.checks kinds args []).2).2 then ((resultK op v.kind (Ex.checks kinds args []).2).1, 0) else (0, 7)
def Ex.checks (kinds : List Int) : List Ex → List Int → Int × List Int
  | [], acc => (0, acc)
  | e :: l, acc => if (e.check kinds).2 ≠ 0 then ((e.check kinds).2, []) else Ex.checks kinds l (acc ++ [(e.check kinds).1])
end
theorem Ex.check_eq (kinds : List Int) (e : Ex) : e.check kinds =
    if known e.op = false then (0, 7) else if e.formed = false then (0, 8)
    else if e.op = 2 then (if e.int < 0 ∨ (kinds.length : Int) ≤ e.int then (0, 13) else (kinds[e.int.toNat]?.getD 0, 0))
    else if (Ex.checks kinds e.args []).1 ≠ 0 then (0, (Ex.checks kinds e.args []).1)
    else if (resultK e.op e.val.kind (Ex.checks kinds e.args []).2).2 then ((resultK e.op e.val.kind (Ex.checks kinds e.args []).2).1, 0) else (0, 7) := by
  cases e; rfl
theorem formed_len {e : Ex} (h : e.formed = true) : fitsN e.op e.args.length = true := by
  unfold Ex.formed at h
  simp only [Bool.and_eq_true] at h
  exact h.1
theorem ok91 : okCode M0 Try.f91.ntmps (Try.f91.body.getD .skip) = true := by decide +kernel
theorem check_fn (kinds : List Int) : ∀ (n : Nat) (e : Ex), e.size ≤ n → n ≤ 100000000 → Fc 91 [e.enc, .sl (kinds.map (.int .i64))] (.tup [.int .i64 (e.check kinds).1, .int .i64 (e.check kinds).2])
  | 0, e, h, _ => by have := e.size_pos; omega
  | n + 1, e, h, hn => by
    refine fn_of_awp (E := E0) (M := M0) follows Try.func91 rfl (by decide) ok91 (by decide) (by simp) fun o ho => ?_
    rw [Ex.check_eq]
    simp only [go_sem, Nat.reduceEqDiff, Nat.reduceAdd, Nat.reduceSub, Nat.reduceLeDiff, Nat.reduceLT, Nat.reduceMul, Nat.reduceBEq, Int.reduceEq, Int.reduceLT, Int.reduceLE, Int.reduceNeg, Int.reduceToNat, reduceCtorEq, ho, Try.results91, e.enc_eq]
    refine GCall.fr ?_ (counts_fn e.op e.args.length) (.inl rfl) ?_; (focus (first | rfl | ((simp only [go_sem, Nat.reduceEqDiff, Nat.reduceAdd, Nat.reduceSub, Nat.reduceLeDiff, Nat.reduceLT, Nat.reduceMul, Nat.reduceBEq, Int.reduceEq, Int.reduceLT, Int.reduceLE, Int.reduceNeg, Int.reduceToNat, reduceCtorEq, ho, Try.results91, List.length_map]); done) | ((simp only [go_sem, Nat.reduceEqDiff, Nat.reduceAdd, Nat.reduceSub, Nat.reduceLeDiff, Nat.reduceLT, Nat.reduceMul, Nat.reduceBEq, Int.reduceEq, Int.reduceLT, Int.reduceLE, Int.reduceNeg, Int.reduceToNat, reduceCtorEq, ho, Try.results91, List.length_map]); rfl)))
    simp only [go_sem, Nat.reduceEqDiff, Nat.reduceAdd, Nat.reduceSub, Nat.reduceLeDiff, Nat.reduceLT, Nat.reduceMul, Nat.reduceBEq, Int.reduceEq, Int.reduceLT, Int.reduceLE, Int.reduceNeg, Int.reduceToNat, reduceCtorEq, ho, Try.results91]
    cases hk : known e.op with
    | false => simp only [go_sem, Nat.reduceEqDiff, Nat.reduceAdd, Nat.reduceSub, Nat.reduceLeDiff, Nat.reduceLT, Nat.reduceMul, Nat.reduceBEq, Int.reduceEq, Int.reduceLT, Int.reduceLE, Int.reduceNeg, Int.reduceToNat, reduceCtorEq, ho, Try.results91, hk]
    | true =>
    simp only [go_sem, Nat.reduceEqDiff, Nat.reduceAdd, Nat.reduceSub, Nat.reduceLeDiff, Nat.reduceLT, Nat.reduceMul, Nat.reduceBEq, Int.reduceEq, Int.reduceLT, Int.reduceLE, Int.reduceNeg, Int.reduceToNat, reduceCtorEq, ho, Try.results91, hk]
    refine GCall.fr ?_ (formed_fn e) (.inl rfl) ?_; (focus (first | rfl | ((simp only [go_sem, Nat.reduceEqDiff, Nat.reduceAdd, Nat.reduceSub, Nat.reduceLeDiff, Nat.reduceLT, Nat.reduceMul, Nat.reduceBEq, Int.reduceEq, Int.reduceLT, Int.reduceLE, Int.reduceNeg, Int.reduceToNat, reduceCtorEq, ho, Try.results91, e.enc_eq]); done) | ((simp only [go_sem, Nat.reduceEqDiff, Nat.reduceAdd, Nat.reduceSub, Nat.reduceLeDiff, Nat.reduceLT, Nat.reduceMul, Nat.reduceBEq, Int.reduceEq, Int.reduceLT, Int.reduceLE, Int.reduceNeg, Int.reduceToNat, reduceCtorEq, ho, Try.results91, e.enc_eq]); rfl)))
    simp only [go_sem, Nat.reduceEqDiff, Nat.reduceAdd, Nat.reduceSub, Nat.reduceLeDiff, Nat.reduceLT, Nat.reduceMul, Nat.reduceBEq, Int.reduceEq, Int.reduceLT, Int.reduceLE, Int.reduceNeg, Int.reduceToNat, reduceCtorEq, ho, Try.results91]
    cases hf : e.formed with
    | false => simp only [go_sem, Nat.reduceEqDiff, Nat.reduceAdd, Nat.reduceSub, Nat.reduceLeDiff, Nat.reduceLT, Nat.reduceMul, Nat.reduceBEq, Int.reduceEq, Int.reduceLT, Int.reduceLE, Int.reduceNeg, Int.reduceToNat, reduceCtorEq, ho, Try.results91, hf]
    | true =>
    simp only [go_sem, Nat.reduceEqDiff, Nat.reduceAdd, Nat.reduceSub, Nat.reduceLeDiff, Nat.reduceLT, Nat.reduceMul, Nat.reduceBEq, Int.reduceEq, Int.reduceLT, Int.reduceLE, Int.reduceNeg, Int.reduceToNat, reduceCtorEq, ho, Try.results91, hf]
    by_cases h2 : e.op = 2
    · simp only [go_sem, Nat.reduceEqDiff, Nat.reduceAdd, Nat.reduceSub, Nat.reduceLeDiff, Nat.reduceLT, Nat.reduceMul, Nat.reduceBEq, Int.reduceEq, Int.reduceLT, Int.reduceLE, Int.reduceNeg, Int.reduceToNat, reduceCtorEq, ho, Try.results91, h2, List.length_map]
      by_cases hi : e.int < 0
      · simp only [go_sem, Nat.reduceEqDiff, Nat.reduceAdd, Nat.reduceSub, Nat.reduceLeDiff, Nat.reduceLT, Nat.reduceMul, Nat.reduceBEq, Int.reduceEq, Int.reduceLT, Int.reduceLE, Int.reduceNeg, Int.reduceToNat, reduceCtorEq, ho, Try.results91, hi]
      by_cases hi2 : (kinds.length : Int) ≤ e.int
      · simp only [go_sem, Nat.reduceEqDiff, Nat.reduceAdd, Nat.reduceSub, Nat.reduceLeDiff, Nat.reduceLT, Nat.reduceMul, Nat.reduceBEq, Int.reduceEq, Int.reduceLT, Int.reduceLE, Int.reduceNeg, Int.reduceToNat, reduceCtorEq, ho, Try.results91, hi, hi2]
      have hlt : e.int.toNat < kinds.length := by omega
      have hget : (kinds.map (PV.int .i64))[e.int.toNat]? = some (.int .i64 (kinds[e.int.toNat])) := by simp [hlt]
      have h0 : 0 ≤ e.int := by omega
      simp only [go_sem, Nat.reduceEqDiff, Nat.reduceAdd, Nat.reduceSub, Nat.reduceLeDiff, Nat.reduceLT, Nat.reduceMul, Nat.reduceBEq, Int.reduceEq, Int.reduceLT, Int.reduceLE, Int.reduceNeg, Int.reduceToNat, reduceCtorEq, ho, Try.results91, hi, hi2, h0, hget]
      simp [hlt]
    simp only [go_sem, Nat.reduceEqDiff, Nat.reduceAdd, Nat.reduceSub, Nat.reduceLeDiff, Nat.reduceLT, Nat.reduceMul, Nat.reduceBEq, Int.reduceEq, Int.reduceLT, Int.reduceLE, Int.reduceNeg, Int.reduceToNat, reduceCtorEq, ho, Try.results91, h2, List.length_map]
    refine ⟨fun m st => ∃ (done rest : List Ex) (acc : List Int), e.args = done ++ rest ∧ m = rest.length ∧ acc.length = done.length ∧ Ex.checks kinds rest acc = Ex.checks kinds e.args [] ∧ st.s 50 = .int .i64 done.length ∧ st.s 49 = .int .i64 e.args.length ∧ st.s 48 = .sl (e.args.map Ex.enc) ∧ st.s 1 = .sl (kinds.map (.int .i64)) ∧ st.s 2 = .ptr 2 1 0 ∧ getBox st.o 2 1 = some (49, e.enc.cells) ∧ ((acc = [] ∧ st.s 8 = .nil) ∨ (acc ≠ [] ∧ ∃ v, st.s 8 = .ref 66 v ∧ st.o 66 = (v, some (true, .row 3 (acc.map (.int .i64)))))),
      e.args.length, ⟨[], e.args, [], rfl, rfl, rfl, rfl, by simp only [go_sem, Nat.reduceEqDiff, Nat.reduceAdd, Nat.reduceSub, Nat.reduceLeDiff, Nat.reduceLT, Nat.reduceMul, Nat.reduceBEq, Int.reduceEq, Int.reduceLT, Int.reduceLE, Int.reduceNeg, Int.reduceToNat, reduceCtorEq, ho, Try.results91]; rfl, by simp only [go_sem, Nat.reduceEqDiff, Nat.reduceAdd, Nat.reduceSub, Nat.reduceLeDiff, Nat.reduceLT, Nat.reduceMul, Nat.reduceBEq, Int.reduceEq, Int.reduceLT, Int.reduceLE, Int.reduceNeg, Int.reduceToNat, reduceCtorEq, ho, Try.results91], by simp only [go_sem, Nat.reduceEqDiff, Nat.reduceAdd, Nat.reduceSub, Nat.reduceLeDiff, Nat.reduceLT, Nat.reduceMul, Nat.reduceBEq, Int.reduceEq, Int.reduceLT, Int.reduceLE, Int.reduceNeg, Int.reduceToNat, reduceCtorEq, ho, Try.results91], by simp only [go_sem, Nat.reduceEqDiff, Nat.reduceAdd, Nat.reduceSub, Nat.reduceLeDiff, Nat.reduceLT, Nat.reduceMul, Nat.reduceBEq, Int.reduceEq, Int.reduceLT, Int.reduceLE, Int.reduceNeg, Int.reduceToNat, reduceCtorEq, ho, Try.results91], by simp only [go_sem, Nat.reduceEqDiff, Nat.reduceAdd, Nat.reduceSub, Nat.reduceLeDiff, Nat.reduceLT, Nat.reduceMul, Nat.reduceBEq, Int.reduceEq, Int.reduceLT, Int.reduceLE, Int.reduceNeg, Int.reduceToNat, reduceCtorEq, ho, Try.results91], by simp only [go_sem, Nat.reduceEqDiff, Nat.reduceAdd, Nat.reduceSub, Nat.reduceLeDiff, Nat.reduceLT, Nat.reduceMul, Nat.reduceBEq, Int.reduceEq, Int.reduceLT, Int.reduceLE, Int.reduceNeg, Int.reduceToNat, reduceCtorEq, ho, Try.results91], .inl ⟨rfl, by simp only [go_sem, Nat.reduceEqDiff, Nat.reduceAdd, Nat.reduceSub, Nat.reduceLeDiff, Nat.reduceLT, Nat.reduceMul, Nat.reduceBEq, Int.reduceEq, Int.reduceLT, Int.reduceLE, Int.reduceNeg, Int.reduceToNat, reduceCtorEq, ho, Try.results91]⟩⟩, ?_⟩
    rintro m st ⟨done, rest, acc, hl, rfl, hal, hck, h50, h49, h48, hs1, hs2, hb, h8⟩
    have hsz := e.size_eq
    rw [hl, Ex.sizes_app] at hsz
    have hdl := Ex.len_sizes done
    have hw : IntKind.i64.wrap ((done.length : Int) + 1) = (done.length : Int) + 1 := wrap_fits (by omega) (by omega)
    cases rest with
    | nil =>
      have hlt : ¬ (done.length : Int) < (e.args.length : Int) := by simp [hl]
      have hck' : Ex.checks kinds e.args [] = (0, acc) := by rw [← hck]; rfl
      have h22 : e.op = 22 → 1 ≤ acc.length := fun h => by
        have := formed_len hf
        rw [h] at this
        simp [fitsN] at this
        rw [hal]
        simp at hl
        rw [← hl]
        omega
      have hal' : acc.length ≤ 100000000 := by omega
      have fin : ∀ {q : PV}, st.s 8 = q → res st.o 4 q = some (.sl (acc.map (.int .i64))) → awp P0 E0 M0 (Code.seq Code.skip Code.skip) (fun _ _ => True) st := fun _ _ => trivial
      rcases h8 with ⟨rfl, h8⟩ | ⟨hne, v, h8, h66⟩
      · simp only [go_sem, Nat.reduceEqDiff, Nat.reduceAdd, Nat.reduceSub, Nat.reduceLeDiff, Nat.reduceLT, Nat.reduceMul, Nat.reduceBEq, Int.reduceEq, Int.reduceLT, Int.reduceLE, Int.reduceNeg, Int.reduceToNat, reduceCtorEq, ho, Try.results91, h50, h49, hlt, hs2, hb, hck', h8]
        refine GCall.fr ?_ (result_fn e [] (by simp) h22) (.inl rfl) ?_; (focus (first | rfl | ((simp only [go_sem, Nat.reduceEqDiff, Nat.reduceAdd, Nat.reduceSub, Nat.reduceLeDiff, Nat.reduceLT, Nat.reduceMul, Nat.reduceBEq, Int.reduceEq, Int.reduceLT, Int.reduceLE, Int.reduceNeg, Int.reduceToNat, reduceCtorEq, ho, Try.results91, e.enc_eq]); done) | ((simp only [go_sem, Nat.reduceEqDiff, Nat.reduceAdd, Nat.reduceSub, Nat.reduceLeDiff, Nat.reduceLT, Nat.reduceMul, Nat.reduceBEq, Int.reduceEq, Int.reduceLT, Int.reduceLE, Int.reduceNeg, Int.reduceToNat, reduceCtorEq, ho, Try.results91, e.enc_eq]); rfl)))
        simp only [go_sem, Nat.reduceEqDiff, Nat.reduceAdd, Nat.reduceSub, Nat.reduceLeDiff, Nat.reduceLT, Nat.reduceMul, Nat.reduceBEq, Int.reduceEq, Int.reduceLT, Int.reduceLE, Int.reduceNeg, Int.reduceToNat, reduceCtorEq, ho, Try.results91]
        repeat' (first | (refine AIf_cases (fun h => ?_) (fun h => ?_) <;> (try simp only [decide_eq_true_eq, decide_eq_false_iff_not, Bool.not_eq_true', Bool.not_eq_false', Bool.not_eq_true, Bool.not_eq_false] at h) <;> (try simp only [go_sem, Nat.reduceEqDiff, Nat.reduceAdd, Nat.reduceSub, Nat.reduceLeDiff, Nat.reduceLT, Nat.reduceMul, Nat.reduceBEq, Int.reduceEq, Int.reduceLT, Int.reduceLE, Int.reduceNeg, Int.reduceToNat, reduceCtorEq, ho, Try.results91, h])))
        all_goals simp_all
      · have hrow : getRow st.o 66 v = some (3, acc.map (.int .i64)) := by simp [getRow, h66]
        simp only [go_sem, Nat.reduceEqDiff, Nat.reduceAdd, Nat.reduceSub, Nat.reduceLeDiff, Nat.reduceLT, Nat.reduceMul, Nat.reduceBEq, Int.reduceEq, Int.reduceLT, Int.reduceLE, Int.reduceNeg, Int.reduceToNat, reduceCtorEq, ho, Try.results91, h50, h49, hlt, hs2, hb, hck', h8]
        refine GCall.fr ?_ (result_fn e acc hal' h22) (.inl rfl) ?_; (focus (first | rfl | ((simp only [go_sem, Nat.reduceEqDiff, Nat.reduceAdd, Nat.reduceSub, Nat.reduceLeDiff, Nat.reduceLT, Nat.reduceMul, Nat.reduceBEq, Int.reduceEq, Int.reduceLT, Int.reduceLE, Int.reduceNeg, Int.reduceToNat, reduceCtorEq, ho, Try.results91, e.enc_eq, hrow]); done) | ((simp only [go_sem, Nat.reduceEqDiff, Nat.reduceAdd, Nat.reduceSub, Nat.reduceLeDiff, Nat.reduceLT, Nat.reduceMul, Nat.reduceBEq, Int.reduceEq, Int.reduceLT, Int.reduceLE, Int.reduceNeg, Int.reduceToNat, reduceCtorEq, ho, Try.results91, e.enc_eq, hrow]); rfl)))
        simp only [go_sem, Nat.reduceEqDiff, Nat.reduceAdd, Nat.reduceSub, Nat.reduceLeDiff, Nat.reduceLT, Nat.reduceMul, Nat.reduceBEq, Int.reduceEq, Int.reduceLT, Int.reduceLE, Int.reduceNeg, Int.reduceToNat, reduceCtorEq, ho, Try.results91]
        repeat' (first | (refine AIf_cases (fun h => ?_) (fun h => ?_) <;> (try simp only [decide_eq_true_eq, decide_eq_false_iff_not, Bool.not_eq_true', Bool.not_eq_false', Bool.not_eq_true, Bool.not_eq_false] at h) <;> (try simp only [go_sem, Nat.reduceEqDiff, Nat.reduceAdd, Nat.reduceSub, Nat.reduceLeDiff, Nat.reduceLT, Nat.reduceMul, Nat.reduceBEq, Int.reduceEq, Int.reduceLT, Int.reduceLE, Int.reduceNeg, Int.reduceToNat, reduceCtorEq, ho, Try.results91, h])))
        all_goals simp_all
    | cons x rest =>
      have hlt : (done.length : Int) < (e.args.length : Int) := by simp [hl]; omega
      have hget : (e.args.map Ex.enc)[done.length]? = some x.enc := by simp [hl]
      have hxs : x.size ≤ n := by simp [Ex.sizes] at hsz; omega
      simp only [go_sem, Nat.reduceEqDiff, Nat.reduceAdd, Nat.reduceSub, Nat.reduceLeDiff, Nat.reduceLT, Nat.reduceMul, Nat.reduceBEq, Int.reduceEq, Int.reduceLT, Int.reduceLE, Int.reduceNeg, Int.reduceToNat, reduceCtorEq, ho, Try.results91, h50, h49, h48, hs1, hs2, hb, hlt, hget, Int.natCast_nonneg, Int.toNat_natCast]
      refine GCall.fr ?_ (check_fn kinds n x hxs (by omega)) (.inl rfl) ?_; (focus (first | rfl | ((simp only [go_sem, Nat.reduceEqDiff, Nat.reduceAdd, Nat.reduceSub, Nat.reduceLeDiff, Nat.reduceLT, Nat.reduceMul, Nat.reduceBEq, Int.reduceEq, Int.reduceLT, Int.reduceLE, Int.reduceNeg, Int.reduceToNat, reduceCtorEq, ho, Try.results91, x.enc_eq, hs1]); done) | ((simp only [go_sem, Nat.reduceEqDiff, Nat.reduceAdd, Nat.reduceSub, Nat.reduceLeDiff, Nat.reduceLT, Nat.reduceMul, Nat.reduceBEq, Int.reduceEq, Int.reduceLT, Int.reduceLE, Int.reduceNeg, Int.reduceToNat, reduceCtorEq, ho, Try.results91, x.enc_eq, hs1]); rfl)))
      simp only [go_sem, Nat.reduceEqDiff, Nat.reduceAdd, Nat.reduceSub, Nat.reduceLeDiff, Nat.reduceLT, Nat.reduceMul, Nat.reduceBEq, Int.reduceEq, Int.reduceLT, Int.reduceLE, Int.reduceNeg, Int.reduceToNat, reduceCtorEq, ho, Try.results91, h50, h49, h48, hs1, hs2, hb]
      rw [Ex.checks] at hck
      have hb' := hb
      rw [e.enc_cells] at hb'
      by_cases hx : (x.check kinds).2 = 0
      · have hbig : (acc.length + 1) * 9 ≤ 140737488355328 := by omega
        rw [if_neg (by simp [hx])] at hck
        rcases h8 with ⟨rfl, h8⟩ | ⟨hne, v, h8, h66⟩
        · simp only [go_sem, Nat.reduceEqDiff, Nat.reduceAdd, Nat.reduceSub, Nat.reduceLeDiff, Nat.reduceLT, Nat.reduceMul, Nat.reduceBEq, Int.reduceEq, Int.reduceLT, Int.reduceLE, Int.reduceNeg, Int.reduceToNat, reduceCtorEq, ho, Try.results91, hx, h50, h49, h48, hs1, hs2, hb, h8, hw]
          exact ⟨rest.length, by omega, done ++ [x], rest, _, by simp [hl], rfl, by simp [← hal], hck, by simp, .inr ⟨by simp, _, rfl, rfl⟩⟩
        · have hrow : getRow st.o 66 v = some (3, acc.map (.int .i64)) := by simp [getRow, h66]
          simp only [go_sem, Nat.reduceEqDiff, Nat.reduceAdd, Nat.reduceSub, Nat.reduceLeDiff, Nat.reduceLT, Nat.reduceMul, Nat.reduceBEq, Int.reduceEq, Int.reduceLT, Int.reduceLE, Int.reduceNeg, Int.reduceToNat, reduceCtorEq, ho, Try.results91, hx, h50, h49, h48, hs1, hs2, hb, h8, hw, h66, hbig]
          exact ⟨rest.length, by omega, done ++ [x], rest, _, by simp [hl], rfl, by simp [← hal], hck, by simp, .inr ⟨by simp, _, rfl, by simp⟩⟩
      · rw [if_pos (by simpa using hx)] at hck
        simp only [go_sem, Nat.reduceEqDiff, Nat.reduceAdd, Nat.reduceSub, Nat.reduceLeDiff, Nat.reduceLT, Nat.reduceMul, Nat.reduceBEq, Int.reduceEq, Int.reduceLT, Int.reduceLE, Int.reduceNeg, Int.reduceToNat, reduceCtorEq, ho, Try.results91, hx, h50, h49, h48, hs1, hs2, hb]
        rw [← hck]
        simp [hx]
end Go.Proofs.Ytiefnninebilbaa
/- What the checking of an expression returns: Check; no condition. -/
set_option maxRecDepth 100000
set_option linter.unusedVariables false
set_option linter.unusedSimpArgs false
namespace Go.Proofs.Ytiefnninebilbaa
open Go Go.Sx

def Ex.checked (kinds : List Int) (e : Ex) : Int × Int := if 24 < e.depth then (0, 26) else e.check kinds
theorem ok35 : okCode M0 Try.f35.ntmps (Try.f35.body.getD .skip) = true := by decide +kernel
theorem checked_fn (kinds : List Int) (e : Ex) (hs : e.size ≤ 100000000) : Fc 35 [e.enc, .sl (kinds.map (.int .i64))] (.tup [.int .i64 (e.checked kinds).1, .int .i64 (e.checked kinds).2]) := by
  refine fn_of_awp (E := E0) (M := M0) follows Try.func35 rfl (by decide) ok35 (by decide) (by simp) fun o ho => ?_
  simp only [go_sem, Nat.reduceEqDiff, Nat.reduceAdd, Nat.reduceSub, Nat.reduceLeDiff, Nat.reduceLT, Nat.reduceMul, Nat.reduceBEq, Int.reduceEq, Int.reduceLT, Int.reduceLE, Int.reduceNeg, Int.reduceToNat, reduceCtorEq, ho, Try.results35, e.enc_eq]
  refine GCall.fr ?_ (depthMax_fn e (by omega)) (.inl rfl) ?_; (focus (first | rfl | ((simp only [go_sem, Nat.reduceEqDiff, Nat.reduceAdd, Nat.reduceSub, Nat.reduceLeDiff, Nat.reduceLT, Nat.reduceMul, Nat.reduceBEq, Int.reduceEq, Int.reduceLT, Int.reduceLE, Int.reduceNeg, Int.reduceToNat, reduceCtorEq, ho, Try.results35, e.enc_eq]); done) | ((simp only [go_sem, Nat.reduceEqDiff, Nat.reduceAdd, Nat.reduceSub, Nat.reduceLeDiff, Nat.reduceLT, Nat.reduceMul, Nat.reduceBEq, Int.reduceEq, Int.reduceLT, Int.reduceLE, Int.reduceNeg, Int.reduceToNat, reduceCtorEq, ho, Try.results35, e.enc_eq]); rfl)))
  simp only [go_sem, Nat.reduceEqDiff, Nat.reduceAdd, Nat.reduceSub, Nat.reduceLeDiff, Nat.reduceLT, Nat.reduceMul, Nat.reduceBEq, Int.reduceEq, Int.reduceLT, Int.reduceLE, Int.reduceNeg, Int.reduceToNat, reduceCtorEq, ho, Try.results35]
  repeat' (first | (refine AIf_cases (fun h => ?_) (fun h => ?_) <;> (try simp only [decide_eq_true_eq, decide_eq_false_iff_not, Bool.not_eq_true', Bool.not_eq_false', Bool.not_eq_true, Bool.not_eq_false] at h) <;> (try simp only [go_sem, Nat.reduceEqDiff, Nat.reduceAdd, Nat.reduceSub, Nat.reduceLeDiff, Nat.reduceLT, Nat.reduceMul, Nat.reduceBEq, Int.reduceEq, Int.reduceLT, Int.reduceLE, Int.reduceNeg, Int.reduceToNat, reduceCtorEq, ho, Try.results35, h, e.enc_eq])) | (refine GCall.fr ?_ (check_fn kinds _ e (Nat.le_refl _) hs) (.inl rfl) ?_; (focus (first | rfl | ((simp only [go_sem, Nat.reduceEqDiff, Nat.reduceAdd, Nat.reduceSub, Nat.reduceLeDiff, Nat.reduceLT, Nat.reduceMul, Nat.reduceBEq, Int.reduceEq, Int.reduceLT, Int.reduceLE, Int.reduceNeg, Int.reduceToNat, reduceCtorEq, ho, Try.results35, e.enc_eq]); done) | ((simp only [go_sem, Nat.reduceEqDiff, Nat.reduceAdd, Nat.reduceSub, Nat.reduceLeDiff, Nat.reduceLT, Nat.reduceMul, Nat.reduceBEq, Int.reduceEq, Int.reduceLT, Int.reduceLE, Int.reduceNeg, Int.reduceToNat, reduceCtorEq, ho, Try.results35, e.enc_eq]); rfl))); (try simp only [go_sem, Nat.reduceEqDiff, Nat.reduceAdd, Nat.reduceSub, Nat.reduceLeDiff, Nat.reduceLT, Nat.reduceMul, Nat.reduceBEq, Int.reduceEq, Int.reduceLT, Int.reduceLE, Int.reduceNeg, Int.reduceToNat, reduceCtorEq, ho, Try.results35, e.enc_eq])))
  · have h2 : 24 < e.depth := by omega
    simp [Ex.checked, h2]
  · have h2 : ¬ 24 < e.depth := by omega
    simp [Ex.checked, h2]
end Go.Proofs.Ytiefnninebilbaa
/- What the reference's functions over values and its check return; no condition. -/
set_option maxRecDepth 100000
set_option linter.unusedVariables false
set_option linter.unusedSimpArgs false
namespace Go.Proofs.Ytiefnninebilbaa
open Go Go.Sx

theorem ok63 : okCode M0 Try.f63.ntmps (Try.f63.body.getD .skip) = true := by decide +kernel
theorem rnull_fn : Fc 63 [] (Vl.enc Vl.null) := by
  refine fn_of_awp (E := E0) (M := M0) follows Try.func63 rfl (by decide) ok63 (by decide) (by simp) fun o ho => ?_
  simp only [go_sem, Nat.reduceEqDiff, Nat.reduceAdd, Nat.reduceSub, Nat.reduceLeDiff, Nat.reduceLT, Nat.reduceMul, Nat.reduceBEq, Int.reduceEq, Int.reduceLT, Int.reduceLE, Int.reduceNeg, Int.reduceToNat, reduceCtorEq, ho, Try.results63, Vl.enc, Vl.null]
theorem ok120 : okCode M0 Try.f120.ntmps (Try.f120.body.getD .skip) = true := by decide +kernel
theorem rprintable_fn (s : ByteArray) (hs : s.size ≤ 9223372036854775806) : Fc 120 [.str s] (.bool (printable s)) := by
  refine fn_of_awp (E := E0) (M := M0) follows Try.func120 rfl (by decide) ok120 (by decide) (by simp) fun o ho => ?_
  simp only [go_sem, Nat.reduceEqDiff, Nat.reduceAdd, Nat.reduceSub, Nat.reduceLeDiff, Nat.reduceLT, Nat.reduceMul, Nat.reduceBEq, Int.reduceEq, Int.reduceLT, Int.reduceLE, Int.reduceNeg, Int.reduceToNat, reduceCtorEq, ho, Try.results120]
  refine ⟨fun n st => ∃ i : Nat, i + n = s.size ∧ st.s 3 = .int .i64 i ∧ st.s 0 = .str s ∧ ∀ j (hj : j < s.size), j < i → okByte s[j] = true, s.size, ⟨0, by omega, by simp only [go_sem, Nat.reduceEqDiff, Nat.reduceAdd, Nat.reduceSub, Nat.reduceLeDiff, Nat.reduceLT, Nat.reduceMul, Nat.reduceBEq, Int.reduceEq, Int.reduceLT, Int.reduceLE, Int.reduceNeg, Int.reduceToNat, reduceCtorEq, ho, Try.results120]; rfl, by simp only [go_sem, Nat.reduceEqDiff, Nat.reduceAdd, Nat.reduceSub, Nat.reduceLeDiff, Nat.reduceLT, Nat.reduceMul, Nat.reduceBEq, Int.reduceEq, Int.reduceLT, Int.reduceLE, Int.reduceNeg, Int.reduceToNat, reduceCtorEq, ho, Try.results120], fun j _ h => absurd h (Nat.not_lt_zero j)⟩, ?_⟩
  rintro n st ⟨i, hi, h3, h0, hall⟩
  have hw : IntKind.i64.wrap ((i : Int) + 1) = (i : Int) + 1 := wrap_fits (by omega) (by omega)
  by_cases hlt : i < s.size
  · have hlt' : (i : Int) < (s.size : Int) := by omega
    have hget := ba_get hlt
    have next : okByte s[i] = true → ∃ m, m < n ∧ ∃ k : Nat, k + m = s.size ∧ ((i : Int) + 1 = (k : Int)) ∧ ∀ j (hj : j < s.size), j < k → okByte s[j] = true := fun hok => ⟨n - 1, by omega, i + 1, by omega, by omega, fun j hj hji => by
      rcases Nat.lt_succ_iff_lt_or_eq.1 hji with h | rfl
      · exact hall j hj h
      · exact hok⟩
    simp only [go_sem, Nat.reduceEqDiff, Nat.reduceAdd, Nat.reduceSub, Nat.reduceLeDiff, Nat.reduceLT, Nat.reduceMul, Nat.reduceBEq, Int.reduceEq, Int.reduceLT, Int.reduceLE, Int.reduceNeg, Int.reduceToNat, reduceCtorEq, ho, Try.results120, h3, h0, hlt', Int.natCast_nonneg, Int.toNat_natCast, hget]
    repeat' (first | (refine AIf_cases (fun h => ?_) (fun h => ?_) <;> (try simp only [decide_eq_true_eq, decide_eq_false_iff_not, Bool.not_eq_true', Bool.not_eq_false', Bool.not_eq_true, Bool.not_eq_false] at h) <;> (try simp only [go_sem, Nat.reduceEqDiff, Nat.reduceAdd, Nat.reduceSub, Nat.reduceLeDiff, Nat.reduceLT, Nat.reduceMul, Nat.reduceBEq, Int.reduceEq, Int.reduceLT, Int.reduceLE, Int.reduceNeg, Int.reduceToNat, reduceCtorEq, ho, Try.results120, h, h3, h0, hlt', Int.natCast_nonneg, Int.toNat_natCast, hget, hw])))
    · exact (printable_at hlt (by simp [okByte]; omega)).symm
    · exact next (by simp [okByte]; omega)
    · exact (printable_at hlt (by simp [okByte]; omega)).symm
  · have hlt' : ¬ (i : Int) < (s.size : Int) := by omega
    simp only [go_sem, Nat.reduceEqDiff, Nat.reduceAdd, Nat.reduceSub, Nat.reduceLeDiff, Nat.reduceLT, Nat.reduceMul, Nat.reduceBEq, Int.reduceEq, Int.reduceLT, Int.reduceLE, Int.reduceNeg, Int.reduceToNat, reduceCtorEq, ho, Try.results120, h3, h0, hlt']
    have : printable s = true := by
      rw [printable, List.all_eq_true]
      intro b hb
      obtain ⟨j, hj, rfl⟩ := List.getElem_of_mem hb
      exact hall j (by simpa using hj) (by simp at hj; have : s.size = s.data.size := rfl; omega)
    rw [this]
theorem ok42 : okCode M0 Try.f42.ntmps (Try.f42.body.getD .skip) = true := by decide +kernel
theorem rvalid_fn (v : Vl) : Fc 42 [v.enc] (.bool v.valid) := by
  refine fn_of_awp (E := E0) (M := M0) follows Try.func42 rfl (by decide) ok42 (by decide) (by simp) fun o ho => ?_
  simp only [go_sem, Nat.reduceEqDiff, Nat.reduceAdd, Nat.reduceSub, Nat.reduceLeDiff, Nat.reduceLT, Nat.reduceMul, Nat.reduceBEq, Int.reduceEq, Int.reduceLT, Int.reduceLE, Int.reduceNeg, Int.reduceToNat, reduceCtorEq, ho, Try.results42, Vl.enc]
  repeat' (first | (refine AIf_cases (fun h => ?_) (fun h => ?_) <;> (try simp only [decide_eq_true_eq, decide_eq_false_iff_not, Bool.not_eq_true', Bool.not_eq_false', Bool.not_eq_true, Bool.not_eq_false] at h) <;> (try simp only [go_sem, Nat.reduceEqDiff, Nat.reduceAdd, Nat.reduceSub, Nat.reduceLeDiff, Nat.reduceLT, Nat.reduceMul, Nat.reduceBEq, Int.reduceEq, Int.reduceLT, Int.reduceLE, Int.reduceNeg, Int.reduceToNat, reduceCtorEq, ho, Try.results42, h])) | (refine GCall.fr ?_ (rprintable_fn v.text (by omega)) (.inl rfl) ?_; (focus (first | rfl | ((simp only [go_sem, Nat.reduceEqDiff, Nat.reduceAdd, Nat.reduceSub, Nat.reduceLeDiff, Nat.reduceLT, Nat.reduceMul, Nat.reduceBEq, Int.reduceEq, Int.reduceLT, Int.reduceLE, Int.reduceNeg, Int.reduceToNat, reduceCtorEq, ho, Try.results42]); done) | ((simp only [go_sem, Nat.reduceEqDiff, Nat.reduceAdd, Nat.reduceSub, Nat.reduceLeDiff, Nat.reduceLT, Nat.reduceMul, Nat.reduceBEq, Int.reduceEq, Int.reduceLT, Int.reduceLE, Int.reduceNeg, Int.reduceToNat, reduceCtorEq, ho, Try.results42]); rfl))); (try simp only [go_sem, Nat.reduceEqDiff, Nat.reduceAdd, Nat.reduceSub, Nat.reduceLeDiff, Nat.reduceLT, Nat.reduceMul, Nat.reduceBEq, Int.reduceEq, Int.reduceLT, Int.reduceLE, Int.reduceNeg, Int.reduceToNat, reduceCtorEq, ho, Try.results42])))
  all_goals (first | (simp_all [Vl.valid]; done) | (simp_all [Vl.valid]; omega) | (simp_all [Vl.valid]; intros; omega) | (simp_all [Vl.valid]; (repeat' split) <;> (first | (simp_all; done) | (simp_all; omega) | omega)))
def arity (op : Int) : Int × Int :=
  if op = 1 ∨ op = 2 then (0, 0)
  else if op = 4 ∨ op = 18 ∨ op = 20 ∨ op = 21 then (1, 1)
  else if op = 5 ∨ op = 6 then (2, 1099511627776)
  else if op = 7 ∨ op = 8 ∨ op = 9 ∨ op = 10 ∨ op = 11 ∨ op = 12 ∨ op = 13 ∨ op = 14 ∨ op = 15 ∨ op = 16 ∨ op = 17 ∨ op = 19 then (2, 2)
  else if op = 22 then (3, 3)
  else if op = 23 then (1, 1099511627776)
  else if op = 24 then (4, 4)
  else (-1, 0)
theorem ok155 : okCode M0 Try.f155.ntmps (Try.f155.body.getD .skip) = true := by decide +kernel
theorem arity_fn (op : Int) : Fc 155 [.int .i64 op] (.tup [.int .i64 (arity op).1, .int .i64 (arity op).2]) := by
  refine fn_of_awp (E := E0) (M := M0) follows Try.func155 rfl (by decide) ok155 (by decide) (by simp) fun o ho => ?_
  simp only [go_sem, Nat.reduceEqDiff, Nat.reduceAdd, Nat.reduceSub, Nat.reduceLeDiff, Nat.reduceLT, Nat.reduceMul, Nat.reduceBEq, Int.reduceEq, Int.reduceLT, Int.reduceLE, Int.reduceNeg, Int.reduceToNat, reduceCtorEq, ho, Try.results155]
  repeat' (first | (refine AIf_cases (fun h => ?_) (fun h => ?_) <;> (try simp only [decide_eq_true_eq, decide_eq_false_iff_not, Bool.not_eq_true', Bool.not_eq_false', Bool.not_eq_true, Bool.not_eq_false] at h) <;> (try simp only [go_sem, Nat.reduceEqDiff, Nat.reduceAdd, Nat.reduceSub, Nat.reduceLeDiff, Nat.reduceLT, Nat.reduceMul, Nat.reduceBEq, Int.reduceEq, Int.reduceLT, Int.reduceLE, Int.reduceNeg, Int.reduceToNat, reduceCtorEq, ho, Try.results155, h])))
  all_goals (first | (subst_vars; exact ⟨rfl, rfl⟩) | skip)
  exact ⟨by simp [arity, *], by simp [arity, *]⟩
end Go.Proofs.Ytiefnninebilbaa
/- What the reference's check returns: its small parts; no condition. -/
set_option maxRecDepth 100000
set_option linter.unusedVariables false
set_option linter.unusedSimpArgs false
namespace Go.Proofs.Ytiefnninebilbaa
open Go Go.Sx

theorem fits_arity (op n : Int) (h0 : 0 ≤ n) (hn : n ≤ 1000000000) : fitsN op n = (!decide ((arity op).1 < 0) && (!decide (n < (arity op).1) && !decide ((arity op).2 < n))) := by
  unfold fitsN arity
  repeat' split
  all_goals (rw [Bool.eq_iff_iff]; simp only [Bool.and_eq_true, Bool.not_eq_true', decide_eq_true_eq, decide_eq_false_iff_not, Bool.false_eq_true]; first | omega | simp)
theorem ok106 : okCode M0 Try.f106.ntmps (Try.f106.body.getD .skip) = true := by decide +kernel
theorem rformed_fn (e : Ex) (hs : e.size ≤ 1000000000) : Fc 106 [e.enc] (.bool e.formed) := by
  have hlen : e.args.length ≤ 1000000000 := by have := Ex.len_sizes e.args; have := e.size_eq; omega
  have hfit := fits_arity e.op e.args.length (by omega) (by omega)
  refine fn_of_awp (E := E0) (M := M0) follows Try.func106 rfl (by decide) ok106 (by decide) (by simp) fun o ho => ?_
  simp only [go_sem, Nat.reduceEqDiff, Nat.reduceAdd, Nat.reduceSub, Nat.reduceLeDiff, Nat.reduceLT, Nat.reduceMul, Nat.reduceBEq, Int.reduceEq, Int.reduceLT, Int.reduceLE, Int.reduceNeg, Int.reduceToNat, reduceCtorEq, ho, Try.results106, e.enc_eq]
  refine GCall.fr ?_ (arity_fn e.op) (.inl rfl) ?_; (focus (first | rfl | ((simp only [go_sem, Nat.reduceEqDiff, Nat.reduceAdd, Nat.reduceSub, Nat.reduceLeDiff, Nat.reduceLT, Nat.reduceMul, Nat.reduceBEq, Int.reduceEq, Int.reduceLT, Int.reduceLE, Int.reduceNeg, Int.reduceToNat, reduceCtorEq, ho, Try.results106]); done) | ((simp only [go_sem, Nat.reduceEqDiff, Nat.reduceAdd, Nat.reduceSub, Nat.reduceLeDiff, Nat.reduceLT, Nat.reduceMul, Nat.reduceBEq, Int.reduceEq, Int.reduceLT, Int.reduceLE, Int.reduceNeg, Int.reduceToNat, reduceCtorEq, ho, Try.results106]); rfl)))
  simp only [go_sem, Nat.reduceEqDiff, Nat.reduceAdd, Nat.reduceSub, Nat.reduceLeDiff, Nat.reduceLT, Nat.reduceMul, Nat.reduceBEq, Int.reduceEq, Int.reduceLT, Int.reduceLE, Int.reduceNeg, Int.reduceToNat, reduceCtorEq, ho, Try.results106]
  repeat' (first | (refine AIf_cases (fun h => ?_) (fun h => ?_) <;> (try simp only [decide_eq_true_eq, decide_eq_false_iff_not, Bool.not_eq_true', Bool.not_eq_false', Bool.not_eq_true, Bool.not_eq_false] at h) <;> (try simp only [go_sem, Nat.reduceEqDiff, Nat.reduceAdd, Nat.reduceSub, Nat.reduceLeDiff, Nat.reduceLT, Nat.reduceMul, Nat.reduceBEq, Int.reduceEq, Int.reduceLT, Int.reduceLE, Int.reduceNeg, Int.reduceToNat, reduceCtorEq, ho, Try.results106, h, Vl.enc, Vl.null])) | (refine GCall.fr ?_ (rvalid_fn e.val) (.inl rfl) ?_; (focus (first | rfl | ((simp only [go_sem, Nat.reduceEqDiff, Nat.reduceAdd, Nat.reduceSub, Nat.reduceLeDiff, Nat.reduceLT, Nat.reduceMul, Nat.reduceBEq, Int.reduceEq, Int.reduceLT, Int.reduceLE, Int.reduceNeg, Int.reduceToNat, reduceCtorEq, ho, Try.results106, Vl.enc, Vl.null]); done) | ((simp only [go_sem, Nat.reduceEqDiff, Nat.reduceAdd, Nat.reduceSub, Nat.reduceLeDiff, Nat.reduceLT, Nat.reduceMul, Nat.reduceBEq, Int.reduceEq, Int.reduceLT, Int.reduceLE, Int.reduceNeg, Int.reduceToNat, reduceCtorEq, ho, Try.results106, Vl.enc, Vl.null]); rfl))); (try simp only [go_sem, Nat.reduceEqDiff, Nat.reduceAdd, Nat.reduceSub, Nat.reduceLeDiff, Nat.reduceLT, Nat.reduceMul, Nat.reduceBEq, Int.reduceEq, Int.reduceLT, Int.reduceLE, Int.reduceNeg, Int.reduceToNat, reduceCtorEq, ho, Try.results106, Vl.enc, Vl.null])) | (refine QCall.fr ?_ (rvalid_fn e.val) (.inl rfl) ?_; (focus (first | rfl | ((simp only [go_sem, Nat.reduceEqDiff, Nat.reduceAdd, Nat.reduceSub, Nat.reduceLeDiff, Nat.reduceLT, Nat.reduceMul, Nat.reduceBEq, Int.reduceEq, Int.reduceLT, Int.reduceLE, Int.reduceNeg, Int.reduceToNat, reduceCtorEq, ho, Try.results106, Vl.enc, Vl.null]); done) | ((simp only [go_sem, Nat.reduceEqDiff, Nat.reduceAdd, Nat.reduceSub, Nat.reduceLeDiff, Nat.reduceLT, Nat.reduceMul, Nat.reduceBEq, Int.reduceEq, Int.reduceLT, Int.reduceLE, Int.reduceNeg, Int.reduceToNat, reduceCtorEq, ho, Try.results106, Vl.enc, Vl.null]); rfl))); (try simp only [go_sem, Nat.reduceEqDiff, Nat.reduceAdd, Nat.reduceSub, Nat.reduceLeDiff, Nat.reduceLT, Nat.reduceMul, Nat.reduceBEq, Int.reduceEq, Int.reduceLT, Int.reduceLE, Int.reduceNeg, Int.reduceToNat, reduceCtorEq, ho, Try.results106, Vl.enc, Vl.null])) | (refine GCall.fr ?_ (rnull_fn) (.inl rfl) ?_; (focus (first | rfl | ((simp only [go_sem, Nat.reduceEqDiff, Nat.reduceAdd, Nat.reduceSub, Nat.reduceLeDiff, Nat.reduceLT, Nat.reduceMul, Nat.reduceBEq, Int.reduceEq, Int.reduceLT, Int.reduceLE, Int.reduceNeg, Int.reduceToNat, reduceCtorEq, ho, Try.results106, Vl.enc, Vl.null]); done) | ((simp only [go_sem, Nat.reduceEqDiff, Nat.reduceAdd, Nat.reduceSub, Nat.reduceLeDiff, Nat.reduceLT, Nat.reduceMul, Nat.reduceBEq, Int.reduceEq, Int.reduceLT, Int.reduceLE, Int.reduceNeg, Int.reduceToNat, reduceCtorEq, ho, Try.results106, Vl.enc, Vl.null]); rfl))); (try simp only [go_sem, Nat.reduceEqDiff, Nat.reduceAdd, Nat.reduceSub, Nat.reduceLeDiff, Nat.reduceLT, Nat.reduceMul, Nat.reduceBEq, Int.reduceEq, Int.reduceLT, Int.reduceLE, Int.reduceNeg, Int.reduceToNat, reduceCtorEq, ho, Try.results106, Vl.enc, Vl.null])) | (refine QCall.fr ?_ (rnull_fn) (.inl rfl) ?_; (focus (first | rfl | ((simp only [go_sem, Nat.reduceEqDiff, Nat.reduceAdd, Nat.reduceSub, Nat.reduceLeDiff, Nat.reduceLT, Nat.reduceMul, Nat.reduceBEq, Int.reduceEq, Int.reduceLT, Int.reduceLE, Int.reduceNeg, Int.reduceToNat, reduceCtorEq, ho, Try.results106, Vl.enc, Vl.null]); done) | ((simp only [go_sem, Nat.reduceEqDiff, Nat.reduceAdd, Nat.reduceSub, Nat.reduceLeDiff, Nat.reduceLT, Nat.reduceMul, Nat.reduceBEq, Int.reduceEq, Int.reduceLT, Int.reduceLE, Int.reduceNeg, Int.reduceToNat, reduceCtorEq, ho, Try.results106, Vl.enc, Vl.null]); rfl))); (try simp only [go_sem, Nat.reduceEqDiff, Nat.reduceAdd, Nat.reduceSub, Nat.reduceLeDiff, Nat.reduceLT, Nat.reduceMul, Nat.reduceBEq, Int.reduceEq, Int.reduceLT, Int.reduceLE, Int.reduceNeg, Int.reduceToNat, reduceCtorEq, ho, Try.results106, Vl.enc, Vl.null])))
  all_goals (first | (simp_all [Ex.formed]; done) | (simp_all [Ex.formed]; omega) | (simp_all [Ex.formed]; intros; omega) | (simp_all [Ex.formed]; (repeat' split) <;> (first | (simp_all; done) | (simp_all; omega) | omega)))
end Go.Proofs.Ytiefnninebilbaa
/- What the reference's check returns: kinds joined; no condition. -/
set_option maxRecDepth 100000
set_option linter.unusedVariables false
set_option linter.unusedSimpArgs false
namespace Go.Proofs.Ytiefnninebilbaa
open Go Go.Sx

theorem ok187 : okCode M0 Try.f187.ntmps (Try.f187.body.getD .skip) = true := by decide +kernel
theorem join_fn (l : List Int) (hl : l.length ≤ 1000000000) : Fc 187 [.sl (l.map (.int .i64))] (.tup [.int .i64 (unite l 0).1, .bool (unite l 0).2]) := by
  refine fn_of_awp (E := E0) (M := M0) follows Try.func187 rfl (by decide) ok187 (by decide) (by simp) fun o ho => ?_
  simp only [go_sem, Nat.reduceEqDiff, Nat.reduceAdd, Nat.reduceSub, Nat.reduceLeDiff, Nat.reduceLT, Nat.reduceMul, Nat.reduceBEq, Int.reduceEq, Int.reduceLT, Int.reduceLE, Int.reduceNeg, Int.reduceToNat, reduceCtorEq, ho, Try.results187]
  refine ⟨fun n st => ∃ (i : Nat) (rest : List Int) (k : Int), l.drop i = rest ∧ i + rest.length = l.length ∧ rest.length = n ∧ unite rest k = unite l 0 ∧ st.s 5 = .int .i64 i ∧ st.s 0 = .sl (l.map (.int .i64)) ∧ st.s 4 = .int .i64 k, l.length, ⟨0, l, 0, rfl, by simp, rfl, rfl, by simp only [go_sem, Nat.reduceEqDiff, Nat.reduceAdd, Nat.reduceSub, Nat.reduceLeDiff, Nat.reduceLT, Nat.reduceMul, Nat.reduceBEq, Int.reduceEq, Int.reduceLT, Int.reduceLE, Int.reduceNeg, Int.reduceToNat, reduceCtorEq, ho, Try.results187]; rfl, by simp only [go_sem, Nat.reduceEqDiff, Nat.reduceAdd, Nat.reduceSub, Nat.reduceLeDiff, Nat.reduceLT, Nat.reduceMul, Nat.reduceBEq, Int.reduceEq, Int.reduceLT, Int.reduceLE, Int.reduceNeg, Int.reduceToNat, reduceCtorEq, ho, Try.results187], by simp only [go_sem, Nat.reduceEqDiff, Nat.reduceAdd, Nat.reduceSub, Nat.reduceLeDiff, Nat.reduceLT, Nat.reduceMul, Nat.reduceBEq, Int.reduceEq, Int.reduceLT, Int.reduceLE, Int.reduceNeg, Int.reduceToNat, reduceCtorEq, ho, Try.results187]⟩, ?_⟩
  rintro n st ⟨i, rest, k, hr, hi, hn, ht, h5, h0, h4⟩
  have hw : IntKind.i64.wrap ((i : Int) + 1) = (i : Int) + 1 := wrap_fits (by omega) (by omega)
  cases rest with
  | nil =>
    have hlt : ¬ (i : Int) < (l.length : Int) := by simp at hi; omega
    simp only [go_sem, Nat.reduceEqDiff, Nat.reduceAdd, Nat.reduceSub, Nat.reduceLeDiff, Nat.reduceLT, Nat.reduceMul, Nat.reduceBEq, Int.reduceEq, Int.reduceLT, Int.reduceLE, Int.reduceNeg, Int.reduceToNat, reduceCtorEq, ho, Try.results187, h5, h0, hlt, h4]
    rw [← ht]; exact ⟨rfl, rfl⟩
  | cons x rest =>
    have hlt : (i : Int) < (l.length : Int) := by simp at hi; omega
    have hget : (l.map (PV.int .i64))[i]? = some (.int .i64 x) := by
      have : l[i]? = some x := by rw [← List.head?_drop, hr]; rfl
      rw [List.getElem?_map, this]; rfl
    have next : ∀ k', unite rest k' = unite l 0 → ∃ m, m < n ∧ ∃ (i' : Nat) (rest : List Int) (k : Int), l.drop i' = rest ∧ i' + rest.length = l.length ∧ rest.length = m ∧ unite rest k = unite l 0 ∧ ((i : Int) + 1 = (i' : Int)) ∧ k' = k := fun k' hk => ⟨rest.length, by simp at hn; omega, i + 1, rest, k', by rw [← List.drop_drop, hr]; rfl, by simp at hi; omega, rfl, hk, by simp, rfl⟩
    simp only [go_sem, Nat.reduceEqDiff, Nat.reduceAdd, Nat.reduceSub, Nat.reduceLeDiff, Nat.reduceLT, Nat.reduceMul, Nat.reduceBEq, Int.reduceEq, Int.reduceLT, Int.reduceLE, Int.reduceNeg, Int.reduceToNat, reduceCtorEq, ho, Try.results187, h5, h0, h4, hlt, hget, Int.natCast_nonneg, Int.toNat_natCast]
    repeat' (first | (refine AIf_cases (fun h => ?_) (fun h => ?_) <;> (try simp only [decide_eq_true_eq, decide_eq_false_iff_not, Bool.not_eq_true', Bool.not_eq_false', Bool.not_eq_true, Bool.not_eq_false] at h) <;> (try simp only [go_sem, Nat.reduceEqDiff, Nat.reduceAdd, Nat.reduceSub, Nat.reduceLeDiff, Nat.reduceLT, Nat.reduceMul, Nat.reduceBEq, Int.reduceEq, Int.reduceLT, Int.reduceLE, Int.reduceNeg, Int.reduceToNat, reduceCtorEq, ho, Try.results187, h, h5, h0, h4, hw, hlt, hget, Int.natCast_nonneg, Int.toNat_natCast])))
    all_goals simp only [unite] at ht
    all_goals (first | exact next _ (by simp_all) | (rw [if_neg ‹_›, if_pos ⟨‹_›, ‹_›⟩] at ht; rw [← ht]; exact ⟨rfl, rfl⟩))
end Go.Proofs.Ytiefnninebilbaa
/- What the reference's check returns: all kinds fit; no condition. -/
set_option maxRecDepth 100000
set_option linter.unusedVariables false
set_option linter.unusedSimpArgs false
namespace Go.Proofs.Ytiefnninebilbaa
open Go Go.Sx

def fitsKind (kind x : Int) : Bool := decide (x = kind) || decide (x = 0)
theorem unite_all (kind : Int) (hk : kind ≠ 0) : ∀ (l : List Int) (k : Int), (k = 0 ∨ k = kind) → ((unite (l ++ [kind]) k).2 && decide ((unite (l ++ [kind]) k).1 = kind)) = l.all (fitsKind kind)
  | [], k, h => by
    rcases h with rfl | rfl <;> simp [unite, hk]
  | x :: l, k, h => by
    by_cases hx : x = 0
    · subst hx
      simp only [List.cons_append, unite, if_true, List.all_cons]
      rw [unite_all kind hk l k h]
      simp [fitsKind]
    · by_cases hx2 : x = kind
      · subst hx2
        have : ¬ (k ≠ 0 ∧ k ≠ x) := by rintro ⟨h1, h2⟩; rcases h with h | h; exact h1 h; exact h2 h
        simp only [List.cons_append, unite, if_neg hx, if_neg this, List.all_cons]
        rw [unite_all x hk l x (.inr rfl)]
        simp [fitsKind]
      · have hf : fitsKind kind x = false := by simp [fitsKind, hx, hx2]
        simp only [List.cons_append, unite, if_neg hx, List.all_cons, hf, Bool.false_and]
        split
        · rfl
        · have key : ∀ (l : List Int), ((unite (l ++ [kind]) x).2 && decide ((unite (l ++ [kind]) x).1 = kind)) = false := by
            intro l
            induction l with
            | nil => simp [unite, hk, hx, hx2]
            | cons y l ih =>
              simp only [List.cons_append, unite]
              split
              · exact ih
              · split
                · rfl
                · rename_i h1 h2
                  have : y = x := by
                    by_cases h3 : x = y
                    · exact h3.symm
                    · exact absurd ⟨hx, h3⟩ h2
                  rw [this]
                  exact ih
          exact key l
theorem allKind_eq {kind : Int} (hk : kind ≠ 0) (l : List Int) : allKind l kind = l.all (fitsKind kind) := unite_all kind hk l 0 (.inl rfl)
end Go.Proofs.Ytiefnninebilbaa
/- What the reference's check returns: 'all'; no condition. -/
set_option maxRecDepth 100000
set_option linter.unusedVariables false
set_option linter.unusedSimpArgs false
namespace Go.Proofs.Ytiefnninebilbaa
open Go Go.Sx

theorem ok186 : okCode M0 Try.f186.ntmps (Try.f186.body.getD .skip) = true := by decide +kernel
theorem rall_fn (l : List Int) (kind : Int) (hk : kind ≠ 0) (hl : l.length ≤ 1000000000) : Fc 186 [.sl (l.map (.int .i64)), .int .i64 kind] (.bool (allKind l kind)) := by
  rw [allKind_eq hk]
  refine fn_of_awp (E := E0) (M := M0) follows Try.func186 rfl (by decide) ok186 (by decide) (by simp) fun o ho => ?_
  simp only [go_sem, Nat.reduceEqDiff, Nat.reduceAdd, Nat.reduceSub, Nat.reduceLeDiff, Nat.reduceLT, Nat.reduceMul, Nat.reduceBEq, Int.reduceEq, Int.reduceLT, Int.reduceLE, Int.reduceNeg, Int.reduceToNat, reduceCtorEq, ho, Try.results186]
  refine ⟨fun n st => ∃ (i : Nat) (rest : List Int), l.drop i = rest ∧ i + rest.length = l.length ∧ rest.length = n ∧ rest.all (fitsKind kind) = l.all (fitsKind kind) ∧ st.s 5 = .int .i64 i ∧ st.s 0 = .sl (l.map (.int .i64)) ∧ st.s 1 = .int .i64 kind, l.length, ⟨0, l, rfl, by simp, rfl, rfl, by simp only [go_sem, Nat.reduceEqDiff, Nat.reduceAdd, Nat.reduceSub, Nat.reduceLeDiff, Nat.reduceLT, Nat.reduceMul, Nat.reduceBEq, Int.reduceEq, Int.reduceLT, Int.reduceLE, Int.reduceNeg, Int.reduceToNat, reduceCtorEq, ho, Try.results186]; rfl, by simp only [go_sem, Nat.reduceEqDiff, Nat.reduceAdd, Nat.reduceSub, Nat.reduceLeDiff, Nat.reduceLT, Nat.reduceMul, Nat.reduceBEq, Int.reduceEq, Int.reduceLT, Int.reduceLE, Int.reduceNeg, Int.reduceToNat, reduceCtorEq, ho, Try.results186], by simp only [go_sem, Nat.reduceEqDiff, Nat.reduceAdd, Nat.reduceSub, Nat.reduceLeDiff, Nat.reduceLT, Nat.reduceMul, Nat.reduceBEq, Int.reduceEq, Int.reduceLT, Int.reduceLE, Int.reduceNeg, Int.reduceToNat, reduceCtorEq, ho, Try.results186]⟩, ?_⟩
  rintro n st ⟨i, rest, hr, hi, hn, ht, h5, h0, h1⟩
  have hw : IntKind.i64.wrap ((i : Int) + 1) = (i : Int) + 1 := wrap_fits (by omega) (by omega)
  cases rest with
  | nil =>
    have hlt : ¬ (i : Int) < (l.length : Int) := by simp at hi; omega
    simp only [go_sem, Nat.reduceEqDiff, Nat.reduceAdd, Nat.reduceSub, Nat.reduceLeDiff, Nat.reduceLT, Nat.reduceMul, Nat.reduceBEq, Int.reduceEq, Int.reduceLT, Int.reduceLE, Int.reduceNeg, Int.reduceToNat, reduceCtorEq, ho, Try.results186, h5, h0, hlt]
    rw [← ht]; rfl
  | cons x rest =>
    have hlt : (i : Int) < (l.length : Int) := by simp at hi; omega
    have hget : (l.map (PV.int .i64))[i]? = some (.int .i64 x) := by
      have : l[i]? = some x := by rw [← List.head?_drop, hr]; rfl
      rw [List.getElem?_map, this]; rfl
    have next : rest.all (fitsKind kind) = l.all (fitsKind kind) → ∃ m, m < n ∧ ∃ (i' : Nat) (rest : List Int), l.drop i' = rest ∧ i' + rest.length = l.length ∧ rest.length = m ∧ rest.all (fitsKind kind) = l.all (fitsKind kind) ∧ ((i : Int) + 1 = (i' : Int)) := fun hk => ⟨rest.length, by simp at hn; omega, i + 1, rest, by rw [← List.drop_drop, hr]; rfl, by simp at hi; omega, rfl, hk, by simp⟩
    rw [List.all_cons] at ht
    simp only [go_sem, Nat.reduceEqDiff, Nat.reduceAdd, Nat.reduceSub, Nat.reduceLeDiff, Nat.reduceLT, Nat.reduceMul, Nat.reduceBEq, Int.reduceEq, Int.reduceLT, Int.reduceLE, Int.reduceNeg, Int.reduceToNat, reduceCtorEq, ho, Try.results186, h5, h0, h1, hlt, hget, Int.natCast_nonneg, Int.toNat_natCast]
    repeat' (first | (refine AIf_cases (fun h => ?_) (fun h => ?_) <;> (try simp only [decide_eq_true_eq, decide_eq_false_iff_not, Bool.not_eq_true', Bool.not_eq_false', Bool.not_eq_true, Bool.not_eq_false] at h) <;> (try simp only [go_sem, Nat.reduceEqDiff, Nat.reduceAdd, Nat.reduceSub, Nat.reduceLeDiff, Nat.reduceLT, Nat.reduceMul, Nat.reduceBEq, Int.reduceEq, Int.reduceLT, Int.reduceLE, Int.reduceNeg, Int.reduceToNat, reduceCtorEq, ho, Try.results186, h, h5, h0, h1, hw, hlt, hget, Int.natCast_nonneg, Int.toNat_natCast])))
    · rw [← ht]; simp_all [fitsKind]
    · exact next (by rw [← ht]; simp_all [fitsKind])
    · exact next (by rw [← ht]; simp_all [fitsKind])
end Go.Proofs.Ytiefnninebilbaa
/- What the reference's check returns: 'result'; no condition. -/
set_option maxRecDepth 100000
set_option linter.unusedVariables false
set_option linter.unusedSimpArgs false
namespace Go.Proofs.Ytiefnninebilbaa
open Go Go.Sx

def rresultK (e : Ex) (l kinds : List Int) : Int × Bool := if e.op = 2 then (kinds[e.int.toNat]?.getD 0, true) else resultK e.op e.val.kind l
theorem ok156 : okCode M0 Try.f156.ntmps (Try.f156.body.getD .skip) = true := by decide +kernel
theorem rresult_fn (e : Ex) (l kinds : List Int) (hl : l.length ≤ 100000000) (hkn : known e.op = true) (h1 : e.op = 22 → 1 ≤ l.length) (hi : e.op = 2 → 0 ≤ e.int ∧ e.int < kinds.length) : Fc 156 [e.enc, .sl (l.map (.int .i64)), .sl (kinds.map (.int .i64))] (.tup [.int .i64 (rresultK e l kinds).1, .bool (rresultK e l kinds).2]) := by
  have hl' : l.length ≤ 1000000000 := by omega
  by_cases hop2 : e.op = 2
  · refine fn_of_awp (E := E0) (M := M0) follows Try.func156 rfl (by decide) ok156 (by decide) (by simp) fun o ho => ?_
    simp only [go_sem, Nat.reduceEqDiff, Nat.reduceAdd, Nat.reduceSub, Nat.reduceLeDiff, Nat.reduceLT, Nat.reduceMul, Nat.reduceBEq, Int.reduceEq, Int.reduceLT, Int.reduceLE, Int.reduceNeg, Int.reduceToNat, reduceCtorEq, ho, Try.results156, e.enc_eq]
    obtain ⟨hi0, hi1⟩ := hi hop2
    have hlt : e.int.toNat < kinds.length := by omega
    have hget : (kinds.map (PV.int .i64))[e.int.toNat]? = some (.int .i64 (kinds[e.int.toNat])) := by simp [hlt]
    simp only [go_sem, Nat.reduceEqDiff, Nat.reduceAdd, Nat.reduceSub, Nat.reduceLeDiff, Nat.reduceLT, Nat.reduceMul, Nat.reduceBEq, Int.reduceEq, Int.reduceLT, Int.reduceLE, Int.reduceNeg, Int.reduceToNat, reduceCtorEq, ho, Try.results156, hop2, hi0, hget]
    simp [rresultK, hop2, hlt]
  have key : rresultK e l kinds = resultK e.op e.val.kind l := if_neg hop2
  have hlast : e.op ≠ 1 → e.op ≠ 4 → e.op ≠ 5 → e.op ≠ 6 → e.op ≠ 7 → e.op ≠ 8 → e.op ≠ 9 → e.op ≠ 10 → e.op ≠ 11 → e.op ≠ 12 → e.op ≠ 13 → e.op ≠ 14 → e.op ≠ 15 → e.op ≠ 16 → e.op ≠ 17 → e.op ≠ 18 → e.op ≠ 19 → e.op ≠ 20 → e.op ≠ 21 → e.op ≠ 22 → e.op ≠ 23 → e.op = 24 := by
    simp [known] at hkn; omega
  rw [key]
  clear hi hkn key
  refine fn_of_awp (E := E0) (M := M0) follows Try.func156 rfl (by decide) ok156 (by decide) (by simp) fun o ho => ?_
  simp only [go_sem, Nat.reduceEqDiff, Nat.reduceAdd, Nat.reduceSub, Nat.reduceLeDiff, Nat.reduceLT, Nat.reduceMul, Nat.reduceBEq, Int.reduceEq, Int.reduceLT, Int.reduceLE, Int.reduceNeg, Int.reduceToNat, reduceCtorEq, ho, Try.results156, e.enc_eq]
  generalize e.op = op at *
  repeat' (first | (refine AIf_cases (fun h => ?_) (fun h => ?_) <;> (try simp only [decide_eq_true_eq, decide_eq_false_iff_not, Bool.not_eq_true', Bool.not_eq_false', Bool.not_eq_true, Bool.not_eq_false] at h) <;> (try simp only [go_sem, Nat.reduceEqDiff, Nat.reduceAdd, Nat.reduceSub, Nat.reduceLeDiff, Nat.reduceLT, Nat.reduceMul, Nat.reduceBEq, Int.reduceEq, Int.reduceLT, Int.reduceLE, Int.reduceNeg, Int.reduceToNat, reduceCtorEq, ho, Try.results156, h, hop2])) | (refine GCall.fr ?_ (rall_fn l 3 (by decide) hl') (.inl rfl) ?_; (focus (first | rfl | ((simp only [go_sem, Nat.reduceEqDiff, Nat.reduceAdd, Nat.reduceSub, Nat.reduceLeDiff, Nat.reduceLT, Nat.reduceMul, Nat.reduceBEq, Int.reduceEq, Int.reduceLT, Int.reduceLE, Int.reduceNeg, Int.reduceToNat, reduceCtorEq, ho, Try.results156, hop2]); done) | ((simp only [go_sem, Nat.reduceEqDiff, Nat.reduceAdd, Nat.reduceSub, Nat.reduceLeDiff, Nat.reduceLT, Nat.reduceMul, Nat.reduceBEq, Int.reduceEq, Int.reduceLT, Int.reduceLE, Int.reduceNeg, Int.reduceToNat, reduceCtorEq, ho, Try.results156, hop2]); rfl))); (try simp only [go_sem, Nat.reduceEqDiff, Nat.reduceAdd, Nat.reduceSub, Nat.reduceLeDiff, Nat.reduceLT, Nat.reduceMul, Nat.reduceBEq, Int.reduceEq, Int.reduceLT, Int.reduceLE, Int.reduceNeg, Int.reduceToNat, reduceCtorEq, ho, Try.results156, hop2])) | (refine QCall.fr ?_ (rall_fn l 3 (by decide) hl') (.inl rfl) ?_; (focus (first | rfl | ((simp only [go_sem, Nat.reduceEqDiff, Nat.reduceAdd, Nat.reduceSub, Nat.reduceLeDiff, Nat.reduceLT, Nat.reduceMul, Nat.reduceBEq, Int.reduceEq, Int.reduceLT, Int.reduceLE, Int.reduceNeg, Int.reduceToNat, reduceCtorEq, ho, Try.results156, hop2]); done) | ((simp only [go_sem, Nat.reduceEqDiff, Nat.reduceAdd, Nat.reduceSub, Nat.reduceLeDiff, Nat.reduceLT, Nat.reduceMul, Nat.reduceBEq, Int.reduceEq, Int.reduceLT, Int.reduceLE, Int.reduceNeg, Int.reduceToNat, reduceCtorEq, ho, Try.results156, hop2]); rfl))); (try simp only [go_sem, Nat.reduceEqDiff, Nat.reduceAdd, Nat.reduceSub, Nat.reduceLeDiff, Nat.reduceLT, Nat.reduceMul, Nat.reduceBEq, Int.reduceEq, Int.reduceLT, Int.reduceLE, Int.reduceNeg, Int.reduceToNat, reduceCtorEq, ho, Try.results156, hop2])) | (refine GCall.fr ?_ (rall_fn l 2 (by decide) hl') (.inl rfl) ?_; (focus (first | rfl | ((simp only [go_sem, Nat.reduceEqDiff, Nat.reduceAdd, Nat.reduceSub, Nat.reduceLeDiff, Nat.reduceLT, Nat.reduceMul, Nat.reduceBEq, Int.reduceEq, Int.reduceLT, Int.reduceLE, Int.reduceNeg, Int.reduceToNat, reduceCtorEq, ho, Try.results156, hop2]); done) | ((simp only [go_sem, Nat.reduceEqDiff, Nat.reduceAdd, Nat.reduceSub, Nat.reduceLeDiff, Nat.reduceLT, Nat.reduceMul, Nat.reduceBEq, Int.reduceEq, Int.reduceLT, Int.reduceLE, Int.reduceNeg, Int.reduceToNat, reduceCtorEq, ho, Try.results156, hop2]); rfl))); (try simp only [go_sem, Nat.reduceEqDiff, Nat.reduceAdd, Nat.reduceSub, Nat.reduceLeDiff, Nat.reduceLT, Nat.reduceMul, Nat.reduceBEq, Int.reduceEq, Int.reduceLT, Int.reduceLE, Int.reduceNeg, Int.reduceToNat, reduceCtorEq, ho, Try.results156, hop2])) | (refine QCall.fr ?_ (rall_fn l 2 (by decide) hl') (.inl rfl) ?_; (focus (first | rfl | ((simp only [go_sem, Nat.reduceEqDiff, Nat.reduceAdd, Nat.reduceSub, Nat.reduceLeDiff, Nat.reduceLT, Nat.reduceMul, Nat.reduceBEq, Int.reduceEq, Int.reduceLT, Int.reduceLE, Int.reduceNeg, Int.reduceToNat, reduceCtorEq, ho, Try.results156, hop2]); done) | ((simp only [go_sem, Nat.reduceEqDiff, Nat.reduceAdd, Nat.reduceSub, Nat.reduceLeDiff, Nat.reduceLT, Nat.reduceMul, Nat.reduceBEq, Int.reduceEq, Int.reduceLT, Int.reduceLE, Int.reduceNeg, Int.reduceToNat, reduceCtorEq, ho, Try.results156, hop2]); rfl))); (try simp only [go_sem, Nat.reduceEqDiff, Nat.reduceAdd, Nat.reduceSub, Nat.reduceLeDiff, Nat.reduceLT, Nat.reduceMul, Nat.reduceBEq, Int.reduceEq, Int.reduceLT, Int.reduceLE, Int.reduceNeg, Int.reduceToNat, reduceCtorEq, ho, Try.results156, hop2])) | (refine GCall.fr ?_ (rall_fn l 1 (by decide) hl') (.inl rfl) ?_; (focus (first | rfl | ((simp only [go_sem, Nat.reduceEqDiff, Nat.reduceAdd, Nat.reduceSub, Nat.reduceLeDiff, Nat.reduceLT, Nat.reduceMul, Nat.reduceBEq, Int.reduceEq, Int.reduceLT, Int.reduceLE, Int.reduceNeg, Int.reduceToNat, reduceCtorEq, ho, Try.results156, hop2]); done) | ((simp only [go_sem, Nat.reduceEqDiff, Nat.reduceAdd, Nat.reduceSub, Nat.reduceLeDiff, Nat.reduceLT, Nat.reduceMul, Nat.reduceBEq, Int.reduceEq, Int.reduceLT, Int.reduceLE, Int.reduceNeg, Int.reduceToNat, reduceCtorEq, ho, Try.results156, hop2]); rfl))); (try simp only [go_sem, Nat.reduceEqDiff, Nat.reduceAdd, Nat.reduceSub, Nat.reduceLeDiff, Nat.reduceLT, Nat.reduceMul, Nat.reduceBEq, Int.reduceEq, Int.reduceLT, Int.reduceLE, Int.reduceNeg, Int.reduceToNat, reduceCtorEq, ho, Try.results156, hop2])) | (refine QCall.fr ?_ (rall_fn l 1 (by decide) hl') (.inl rfl) ?_; (focus (first | rfl | ((simp only [go_sem, Nat.reduceEqDiff, Nat.reduceAdd, Nat.reduceSub, Nat.reduceLeDiff, Nat.reduceLT, Nat.reduceMul, Nat.reduceBEq, Int.reduceEq, Int.reduceLT, Int.reduceLE, Int.reduceNeg, Int.reduceToNat, reduceCtorEq, ho, Try.results156, hop2]); done) | ((simp only [go_sem, Nat.reduceEqDiff, Nat.reduceAdd, Nat.reduceSub, Nat.reduceLeDiff, Nat.reduceLT, Nat.reduceMul, Nat.reduceBEq, Int.reduceEq, Int.reduceLT, Int.reduceLE, Int.reduceNeg, Int.reduceToNat, reduceCtorEq, ho, Try.results156, hop2]); rfl))); (try simp only [go_sem, Nat.reduceEqDiff, Nat.reduceAdd, Nat.reduceSub, Nat.reduceLeDiff, Nat.reduceLT, Nat.reduceMul, Nat.reduceBEq, Int.reduceEq, Int.reduceLT, Int.reduceLE, Int.reduceNeg, Int.reduceToNat, reduceCtorEq, ho, Try.results156, hop2])) | (refine GCall.fr ?_ (join_fn l hl') (.inl rfl) ?_; (focus (first | rfl | ((simp only [go_sem, Nat.reduceEqDiff, Nat.reduceAdd, Nat.reduceSub, Nat.reduceLeDiff, Nat.reduceLT, Nat.reduceMul, Nat.reduceBEq, Int.reduceEq, Int.reduceLT, Int.reduceLE, Int.reduceNeg, Int.reduceToNat, reduceCtorEq, ho, Try.results156, hop2]); done) | ((simp only [go_sem, Nat.reduceEqDiff, Nat.reduceAdd, Nat.reduceSub, Nat.reduceLeDiff, Nat.reduceLT, Nat.reduceMul, Nat.reduceBEq, Int.reduceEq, Int.reduceLT, Int.reduceLE, Int.reduceNeg, Int.reduceToNat, reduceCtorEq, ho, Try.results156, hop2]); rfl))); (try simp only [go_sem, Nat.reduceEqDiff, Nat.reduceAdd, Nat.reduceSub, Nat.reduceLeDiff, Nat.reduceLT, Nat.reduceMul, Nat.reduceBEq, Int.reduceEq, Int.reduceLT, Int.reduceLE, Int.reduceNeg, Int.reduceToNat, reduceCtorEq, ho, Try.results156, hop2])) | (refine QCall.fr ?_ (join_fn l hl') (.inl rfl) ?_; (focus (first | rfl | ((simp only [go_sem, Nat.reduceEqDiff, Nat.reduceAdd, Nat.reduceSub, Nat.reduceLeDiff, Nat.reduceLT, Nat.reduceMul, Nat.reduceBEq, Int.reduceEq, Int.reduceLT, Int.reduceLE, Int.reduceNeg, Int.reduceToNat, reduceCtorEq, ho, Try.results156, hop2]); done) | ((simp only [go_sem, Nat.reduceEqDiff, Nat.reduceAdd, Nat.reduceSub, Nat.reduceLeDiff, Nat.reduceLT, Nat.reduceMul, Nat.reduceBEq, Int.reduceEq, Int.reduceLT, Int.reduceLE, Int.reduceNeg, Int.reduceToNat, reduceCtorEq, ho, Try.results156, hop2]); rfl))); (try simp only [go_sem, Nat.reduceEqDiff, Nat.reduceAdd, Nat.reduceSub, Nat.reduceLeDiff, Nat.reduceLT, Nat.reduceMul, Nat.reduceBEq, Int.reduceEq, Int.reduceLT, Int.reduceLE, Int.reduceNeg, Int.reduceToNat, reduceCtorEq, ho, Try.results156, hop2])))
  all_goals (first | exact ⟨rfl, rfl⟩ | skip)
  · have h2 : 1 ≤ l.length := h1 h
    clear hlast
    simp only [go_sem, Nat.reduceEqDiff, Nat.reduceAdd, Nat.reduceSub, Nat.reduceLeDiff, Nat.reduceLT, Nat.reduceMul, Nat.reduceBEq, Int.reduceEq, Int.reduceLT, Int.reduceLE, Int.reduceNeg, Int.reduceToNat, reduceCtorEq, ho, Try.results156, h2, eq_true (ints_len' (l := l)), List.take_length, ← List.map_drop, ← List.map_take, Nat.le_refl, true_and]
    refine GCall.fr ?_ (join_fn (l.drop 1) (by simp; omega)) (.inl rfl) ?_; (focus (first | rfl | ((simp only [go_sem, Nat.reduceEqDiff, Nat.reduceAdd, Nat.reduceSub, Nat.reduceLeDiff, Nat.reduceLT, Nat.reduceMul, Nat.reduceBEq, Int.reduceEq, Int.reduceLT, Int.reduceLE, Int.reduceNeg, Int.reduceToNat, reduceCtorEq, ho, Try.results156]); done) | ((simp only [go_sem, Nat.reduceEqDiff, Nat.reduceAdd, Nat.reduceSub, Nat.reduceLeDiff, Nat.reduceLT, Nat.reduceMul, Nat.reduceBEq, Int.reduceEq, Int.reduceLT, Int.reduceLE, Int.reduceNeg, Int.reduceToNat, reduceCtorEq, ho, Try.results156]); rfl)))
    simp only [go_sem, Nat.reduceEqDiff, Nat.reduceAdd, Nat.reduceSub, Nat.reduceLeDiff, Nat.reduceLT, Nat.reduceMul, Nat.reduceBEq, Int.reduceEq, Int.reduceLT, Int.reduceLE, Int.reduceNeg, Int.reduceToNat, reduceCtorEq, ho, Try.results156]
    repeat' (first | (refine AIf_cases (fun h => ?_) (fun h => ?_) <;> (try simp only [decide_eq_true_eq, decide_eq_false_iff_not, Bool.not_eq_true', Bool.not_eq_false', Bool.not_eq_true, Bool.not_eq_false] at h) <;> (try simp only [go_sem, Nat.reduceEqDiff, Nat.reduceAdd, Nat.reduceSub, Nat.reduceLeDiff, Nat.reduceLT, Nat.reduceMul, Nat.reduceBEq, Int.reduceEq, Int.reduceLT, Int.reduceLE, Int.reduceNeg, Int.reduceToNat, reduceCtorEq, ho, Try.results156, h, h2, eq_true (ints_len' (l := l)), List.take_length, ← List.map_drop, ← List.map_take, Nat.le_refl, true_and])) | (refine GCall.fr ?_ (rall_fn (l.take 1) 3 (by decide) (by simp; omega)) (.inl rfl) ?_; (focus (first | rfl | ((simp only [go_sem, Nat.reduceEqDiff, Nat.reduceAdd, Nat.reduceSub, Nat.reduceLeDiff, Nat.reduceLT, Nat.reduceMul, Nat.reduceBEq, Int.reduceEq, Int.reduceLT, Int.reduceLE, Int.reduceNeg, Int.reduceToNat, reduceCtorEq, ho, Try.results156, h2, eq_true (ints_len' (l := l)), List.take_length, ← List.map_drop, ← List.map_take, Nat.le_refl, true_and]); done) | ((simp only [go_sem, Nat.reduceEqDiff, Nat.reduceAdd, Nat.reduceSub, Nat.reduceLeDiff, Nat.reduceLT, Nat.reduceMul, Nat.reduceBEq, Int.reduceEq, Int.reduceLT, Int.reduceLE, Int.reduceNeg, Int.reduceToNat, reduceCtorEq, ho, Try.results156, h2, eq_true (ints_len' (l := l)), List.take_length, ← List.map_drop, ← List.map_take, Nat.le_refl, true_and]); rfl))); (try simp only [go_sem, Nat.reduceEqDiff, Nat.reduceAdd, Nat.reduceSub, Nat.reduceLeDiff, Nat.reduceLT, Nat.reduceMul, Nat.reduceBEq, Int.reduceEq, Int.reduceLT, Int.reduceLE, Int.reduceNeg, Int.reduceToNat, reduceCtorEq, ho, Try.results156, h2, eq_true (ints_len' (l := l)), List.take_length, ← List.map_drop, ← List.map_take, Nat.le_refl, true_and])) | (refine QCall.fr ?_ (rall_fn (l.take 1) 3 (by decide) (by simp; omega)) (.inl rfl) ?_; (focus (first | rfl | ((simp only [go_sem, Nat.reduceEqDiff, Nat.reduceAdd, Nat.reduceSub, Nat.reduceLeDiff, Nat.reduceLT, Nat.reduceMul, Nat.reduceBEq, Int.reduceEq, Int.reduceLT, Int.reduceLE, Int.reduceNeg, Int.reduceToNat, reduceCtorEq, ho, Try.results156, h2, eq_true (ints_len' (l := l)), List.take_length, ← List.map_drop, ← List.map_take, Nat.le_refl, true_and]); done) | ((simp only [go_sem, Nat.reduceEqDiff, Nat.reduceAdd, Nat.reduceSub, Nat.reduceLeDiff, Nat.reduceLT, Nat.reduceMul, Nat.reduceBEq, Int.reduceEq, Int.reduceLT, Int.reduceLE, Int.reduceNeg, Int.reduceToNat, reduceCtorEq, ho, Try.results156, h2, eq_true (ints_len' (l := l)), List.take_length, ← List.map_drop, ← List.map_take, Nat.le_refl, true_and]); rfl))); (try simp only [go_sem, Nat.reduceEqDiff, Nat.reduceAdd, Nat.reduceSub, Nat.reduceLeDiff, Nat.reduceLT, Nat.reduceMul, Nat.reduceBEq, Int.reduceEq, Int.reduceLT, Int.reduceLE, Int.reduceNeg, Int.reduceToNat, reduceCtorEq, ho, Try.results156, h2, eq_true (ints_len' (l := l)), List.take_length, ← List.map_drop, ← List.map_take, Nat.le_refl, true_and])))
    all_goals simp_all [resultK]
  · have h24 : op = 24 := by apply hlast <;> assumption
    subst h24
    exact ⟨rfl, rfl⟩
end Go.Proofs.Ytiefnninebilbaa
/- What the reference's check returns: the depth; no condition. -/
set_option maxRecDepth 100000
set_option linter.unusedVariables false
set_option linter.unusedSimpArgs false
namespace Go.Proofs.Ytiefnninebilbaa
open Go Go.Sx

theorem ok92 : okCode M0 Try.f92.ntmps (Try.f92.body.getD .skip) = true := by decide +kernel
theorem rdepth_fn : ∀ (n : Nat) (e : Ex), e.size ≤ n → n ≤ 1000000000 → Fc 92 [e.enc] (.int .i64 e.depth)
  | 0, e, h, _ => by have := e.size_pos; omega
  | n + 1, e, h, hn => by
    refine fn_of_awp (E := E0) (M := M0) follows Try.func92 rfl (by decide) ok92 (by decide) (by simp) fun o ho => ?_
    simp only [go_sem, Nat.reduceEqDiff, Nat.reduceAdd, Nat.reduceSub, Nat.reduceLeDiff, Nat.reduceLT, Nat.reduceMul, Nat.reduceBEq, Int.reduceEq, Int.reduceLT, Int.reduceLE, Int.reduceNeg, Int.reduceToNat, reduceCtorEq, ho, Try.results92, e.enc_eq]
    refine ⟨fun n st => ∃ (done rest : List Ex), e.args = done ++ rest ∧ n = rest.length ∧ st.s 4 = .int .i64 done.length ∧ st.s 3 = .int .i64 (Ex.depths done) ∧ st.s 1 = .ptr 1 1 0 ∧ getBox st.o 1 1 = some (49, e.enc.cells), e.args.length,
      ⟨[], e.args, rfl, rfl, by simp only [go_sem, Nat.reduceEqDiff, Nat.reduceAdd, Nat.reduceSub, Nat.reduceLeDiff, Nat.reduceLT, Nat.reduceMul, Nat.reduceBEq, Int.reduceEq, Int.reduceLT, Int.reduceLE, Int.reduceNeg, Int.reduceToNat, reduceCtorEq, ho, Try.results92]; rfl, by simp only [go_sem, Nat.reduceEqDiff, Nat.reduceAdd, Nat.reduceSub, Nat.reduceLeDiff, Nat.reduceLT, Nat.reduceMul, Nat.reduceBEq, Int.reduceEq, Int.reduceLT, Int.reduceLE, Int.reduceNeg, Int.reduceToNat, reduceCtorEq, ho, Try.results92, Ex.depths]; rfl, by simp only [go_sem, Nat.reduceEqDiff, Nat.reduceAdd, Nat.reduceSub, Nat.reduceLeDiff, Nat.reduceLT, Nat.reduceMul, Nat.reduceBEq, Int.reduceEq, Int.reduceLT, Int.reduceLE, Int.reduceNeg, Int.reduceToNat, reduceCtorEq, ho, Try.results92], by simp only [go_sem, Nat.reduceEqDiff, Nat.reduceAdd, Nat.reduceSub, Nat.reduceLeDiff, Nat.reduceLT, Nat.reduceMul, Nat.reduceBEq, Int.reduceEq, Int.reduceLT, Int.reduceLE, Int.reduceNeg, Int.reduceToNat, reduceCtorEq, ho, Try.results92]⟩, ?_⟩
    rintro m st ⟨done, rest, hl, rfl, h4, h3, hs1, hb⟩
    have hsz := e.size_eq
    have hde := e.depth_eq
    rw [hl, Ex.sizes_app] at hsz
    have hdl := Ex.len_sizes done
    have hdd := Ex.depths_le done
    cases rest with
    | nil =>
      have hlt : ¬ (done.length : Int) < (e.args.length : Int) := by simp [hl]
      have hw : IntKind.i64.wrap ((Ex.depths done : Int) + 1) = (Ex.depths done : Int) + 1 := wrap_fits (by omega) (by omega)
      simp only [go_sem, Nat.reduceEqDiff, Nat.reduceAdd, Nat.reduceSub, Nat.reduceLeDiff, Nat.reduceLT, Nat.reduceMul, Nat.reduceBEq, Int.reduceEq, Int.reduceLT, Int.reduceLE, Int.reduceNeg, Int.reduceToNat, reduceCtorEq, ho, Try.results92, h4, h3, hs1, hb, hlt, hw]
      simp at hl
      rw [hde, hl]
      simp
    | cons x rest =>
      have hlt : (done.length : Int) < (e.args.length : Int) := by simp [hl]; omega
      have hget : (e.args.map Ex.enc)[done.length]? = some x.enc := by simp [hl]
      have hxs : x.size ≤ n := by simp [Ex.sizes] at hsz; omega
      have hw : IntKind.i64.wrap ((done.length : Int) + 1) = (done.length : Int) + 1 := wrap_fits (by omega) (by omega)
      simp only [go_sem, Nat.reduceEqDiff, Nat.reduceAdd, Nat.reduceSub, Nat.reduceLeDiff, Nat.reduceLT, Nat.reduceMul, Nat.reduceBEq, Int.reduceEq, Int.reduceLT, Int.reduceLE, Int.reduceNeg, Int.reduceToNat, reduceCtorEq, ho, Try.results92, h4, h3, hs1, hb, hlt, hget, Int.natCast_nonneg, Int.toNat_natCast]
      refine GCall.fr ?_ (rdepth_fn n x hxs (by omega)) (.inl rfl) ?_; (focus (first | rfl | ((simp only [go_sem, Nat.reduceEqDiff, Nat.reduceAdd, Nat.reduceSub, Nat.reduceLeDiff, Nat.reduceLT, Nat.reduceMul, Nat.reduceBEq, Int.reduceEq, Int.reduceLT, Int.reduceLE, Int.reduceNeg, Int.reduceToNat, reduceCtorEq, ho, Try.results92, x.enc_eq]); done) | ((simp only [go_sem, Nat.reduceEqDiff, Nat.reduceAdd, Nat.reduceSub, Nat.reduceLeDiff, Nat.reduceLT, Nat.reduceMul, Nat.reduceBEq, Int.reduceEq, Int.reduceLT, Int.reduceLE, Int.reduceNeg, Int.reduceToNat, reduceCtorEq, ho, Try.results92, x.enc_eq]); rfl)))
      simp only [go_sem, Nat.reduceEqDiff, Nat.reduceAdd, Nat.reduceSub, Nat.reduceLeDiff, Nat.reduceLT, Nat.reduceMul, Nat.reduceBEq, Int.reduceEq, Int.reduceLT, Int.reduceLE, Int.reduceNeg, Int.reduceToNat, reduceCtorEq, ho, Try.results92, h4, h3, hs1, hb, hw]
      refine ⟨rest.length, by omega, done ++ [x], rest, by simp [hl], rfl, by simp, ?_⟩
      rw [Ex.depths_app]
      simp only [Ex.depths]
      congr 1
      split <;> omega
end Go.Proofs.Ytiefnninebilbaa
/- What the reference's check returns; no condition. -/
set_option maxRecDepth 100000
set_option linter.unusedVariables false
set_option linter.unusedSimpArgs false
namespace Go.Proofs.Ytiefnninebilbaa
open Go Go.Sx

theorem formed_args {e : Ex} (hf : e.formed = true) (h2 : e.op = 2) : e.args = [] := by
  have := formed_len hf
  rw [h2] at this
  exact List.eq_nil_of_length_eq_zero (by simpa [fitsN] using this)
theorem arity_known (op : Int) : decide ((arity op).1 < 0) = !known op := by
  by_cases h : 1 ≤ op ∧ op ≤ 24
  · have : op = 1 ∨ op = 2 ∨ op = 3 ∨ op = 4 ∨ op = 5 ∨ op = 6 ∨ op = 7 ∨ op = 8 ∨ op = 9 ∨ op = 10 ∨ op = 11 ∨ op = 12 ∨ op = 13 ∨ op = 14 ∨ op = 15 ∨ op = 16 ∨ op = 17 ∨ op = 18 ∨ op = 19 ∨ op = 20 ∨ op = 21 ∨ op = 22 ∨ op = 23 ∨ op = 24 := by omega
    rcases this with h | h | h | h | h | h | h | h | h | h | h | h | h | h | h | h | h | h | h | h | h | h | h | h <;> subst h <;> rfl
  · have e1 : known op = false := by simp [known]; omega
    have e2 : arity op = (-1, 0) := by
      unfold arity
      repeat rw [if_neg (by omega)]
    rw [e1, e2]
    rfl
theorem ok93 : okCode M0 Try.f93.ntmps (Try.f93.body.getD .skip) = true := by decide +kernel
theorem rcheck_fn (kinds : List Int) : ∀ (n : Nat) (e : Ex), e.size ≤ n → n ≤ 100000000 → Fc 93 [e.enc, .sl (kinds.map (.int .i64))] (.tup [.int .i64 (e.check kinds).1, .int .i64 (e.check kinds).2])
  | 0, e, h, _ => by have := e.size_pos; omega
  | n + 1, e, h, hn => by
    have hak := arity_known e.op
    have hchk := Ex.check_eq kinds e
    refine fn_of_awp (E := E0) (M := M0) follows Try.func93 rfl (by decide) ok93 (by decide) (by simp) fun o ho => ?_
    simp only [go_sem, Nat.reduceEqDiff, Nat.reduceAdd, Nat.reduceSub, Nat.reduceLeDiff, Nat.reduceLT, Nat.reduceMul, Nat.reduceBEq, Int.reduceEq, Int.reduceLT, Int.reduceLE, Int.reduceNeg, Int.reduceToNat, reduceCtorEq, ho, Try.results93, e.enc_eq]
    refine GCall.fr ?_ (arity_fn e.op) (.inl rfl) ?_; (focus (first | rfl | ((simp only [go_sem, Nat.reduceEqDiff, Nat.reduceAdd, Nat.reduceSub, Nat.reduceLeDiff, Nat.reduceLT, Nat.reduceMul, Nat.reduceBEq, Int.reduceEq, Int.reduceLT, Int.reduceLE, Int.reduceNeg, Int.reduceToNat, reduceCtorEq, ho, Try.results93]); done) | ((simp only [go_sem, Nat.reduceEqDiff, Nat.reduceAdd, Nat.reduceSub, Nat.reduceLeDiff, Nat.reduceLT, Nat.reduceMul, Nat.reduceBEq, Int.reduceEq, Int.reduceLT, Int.reduceLE, Int.reduceNeg, Int.reduceToNat, reduceCtorEq, ho, Try.results93]); rfl)))
    simp only [go_sem, Nat.reduceEqDiff, Nat.reduceAdd, Nat.reduceSub, Nat.reduceLeDiff, Nat.reduceLT, Nat.reduceMul, Nat.reduceBEq, Int.reduceEq, Int.reduceLT, Int.reduceLE, Int.reduceNeg, Int.reduceToNat, reduceCtorEq, ho, Try.results93]
    cases hk : known e.op with
    | false =>
      rw [hk] at hak
      rw [if_pos hk] at hchk
      simp only [go_sem, Nat.reduceEqDiff, Nat.reduceAdd, Nat.reduceSub, Nat.reduceLeDiff, Nat.reduceLT, Nat.reduceMul, Nat.reduceBEq, Int.reduceEq, Int.reduceLT, Int.reduceLE, Int.reduceNeg, Int.reduceToNat, reduceCtorEq, ho, Try.results93, hak, Bool.not_false, hchk]
    | true =>
    rw [hk] at hak
    rw [if_neg (by simp [hk])] at hchk
    simp only [go_sem, Nat.reduceEqDiff, Nat.reduceAdd, Nat.reduceSub, Nat.reduceLeDiff, Nat.reduceLT, Nat.reduceMul, Nat.reduceBEq, Int.reduceEq, Int.reduceLT, Int.reduceLE, Int.reduceNeg, Int.reduceToNat, reduceCtorEq, ho, Try.results93, hak, Bool.not_true]
    refine GCall.fr ?_ (rformed_fn e (by omega)) (.inl rfl) ?_; (focus (first | rfl | ((simp only [go_sem, Nat.reduceEqDiff, Nat.reduceAdd, Nat.reduceSub, Nat.reduceLeDiff, Nat.reduceLT, Nat.reduceMul, Nat.reduceBEq, Int.reduceEq, Int.reduceLT, Int.reduceLE, Int.reduceNeg, Int.reduceToNat, reduceCtorEq, ho, Try.results93, e.enc_eq]); done) | ((simp only [go_sem, Nat.reduceEqDiff, Nat.reduceAdd, Nat.reduceSub, Nat.reduceLeDiff, Nat.reduceLT, Nat.reduceMul, Nat.reduceBEq, Int.reduceEq, Int.reduceLT, Int.reduceLE, Int.reduceNeg, Int.reduceToNat, reduceCtorEq, ho, Try.results93, e.enc_eq]); rfl)))
    simp only [go_sem, Nat.reduceEqDiff, Nat.reduceAdd, Nat.reduceSub, Nat.reduceLeDiff, Nat.reduceLT, Nat.reduceMul, Nat.reduceBEq, Int.reduceEq, Int.reduceLT, Int.reduceLE, Int.reduceNeg, Int.reduceToNat, reduceCtorEq, ho, Try.results93]
    cases hf : e.formed with
    | false =>
      rw [if_pos hf] at hchk
      simp only [go_sem, Nat.reduceEqDiff, Nat.reduceAdd, Nat.reduceSub, Nat.reduceLeDiff, Nat.reduceLT, Nat.reduceMul, Nat.reduceBEq, Int.reduceEq, Int.reduceLT, Int.reduceLE, Int.reduceNeg, Int.reduceToNat, reduceCtorEq, ho, Try.results93, hf, hchk]
    | true =>
    rw [if_neg (by simp [hf])] at hchk
    simp only [go_sem, Nat.reduceEqDiff, Nat.reduceAdd, Nat.reduceSub, Nat.reduceLeDiff, Nat.reduceLT, Nat.reduceMul, Nat.reduceBEq, Int.reduceEq, Int.reduceLT, Int.reduceLE, Int.reduceNeg, Int.reduceToNat, reduceCtorEq, ho, Try.results93, hf]
    have hl100 : e.args.length ≤ 100000000 := by have := Ex.len_sizes e.args; have := e.size_eq; omega
    by_cases h2 : e.op = 2
    · rw [if_pos h2] at hchk
      by_cases hi : e.int < 0
      · rw [if_pos (.inl hi)] at hchk
        simp only [go_sem, Nat.reduceEqDiff, Nat.reduceAdd, Nat.reduceSub, Nat.reduceLeDiff, Nat.reduceLT, Nat.reduceMul, Nat.reduceBEq, Int.reduceEq, Int.reduceLT, Int.reduceLE, Int.reduceNeg, Int.reduceToNat, reduceCtorEq, ho, Try.results93, h2, hi, hchk]
      by_cases hi2 : (kinds.length : Int) ≤ e.int
      · rw [if_pos (.inr hi2)] at hchk
        simp only [go_sem, Nat.reduceEqDiff, Nat.reduceAdd, Nat.reduceSub, Nat.reduceLeDiff, Nat.reduceLT, Nat.reduceMul, Nat.reduceBEq, Int.reduceEq, Int.reduceLT, Int.reduceLE, Int.reduceNeg, Int.reduceToNat, reduceCtorEq, ho, Try.results93, h2, hi, hi2, List.length_map, hchk]
      rw [if_neg (by omega)] at hchk
      have hcol2 : e.op = 2 → 0 ≤ e.int ∧ e.int < kinds.length := fun _ => by omega
      have hfin : e.check kinds = (if (Ex.checks kinds e.args []).1 ≠ 0 then (0, (Ex.checks kinds e.args []).1) else if (rresultK e (Ex.checks kinds e.args []).2 kinds).2 then ((rresultK e (Ex.checks kinds e.args []).2 kinds).1, 0) else (0, 7)) := by
        rw [hchk, formed_args hf h2]
        simp [h2, Ex.checks, rresultK]
      simp only [go_sem, Nat.reduceEqDiff, Nat.reduceAdd, Nat.reduceSub, Nat.reduceLeDiff, Nat.reduceLT, Nat.reduceMul, Nat.reduceBEq, Int.reduceEq, Int.reduceLT, Int.reduceLE, Int.reduceNeg, Int.reduceToNat, reduceCtorEq, ho, Try.results93, h2, hi, hi2, List.length_map]
      refine ⟨fun m st => ∃ (done rest : List Ex) (acc : List Int), e.args = done ++ rest ∧ m = rest.length ∧ acc.length = done.length ∧ Ex.checks kinds rest acc = Ex.checks kinds e.args [] ∧ st.s 9 = .int .i64 done.length ∧ st.s 1 = .sl (kinds.map (.int .i64)) ∧ st.s 2 = .ptr 2 1 0 ∧ getBox st.o 2 1 = some (49, e.enc.cells) ∧ ((acc = [] ∧ st.s 8 = .nil) ∨ (acc ≠ [] ∧ ∃ v, st.s 8 = .ref 64 v ∧ st.o 64 = (v, some (true, .row 3 (acc.map (.int .i64)))))),
        e.args.length, ⟨[], e.args, [], rfl, rfl, rfl, rfl, by simp only [go_sem, Nat.reduceEqDiff, Nat.reduceAdd, Nat.reduceSub, Nat.reduceLeDiff, Nat.reduceLT, Nat.reduceMul, Nat.reduceBEq, Int.reduceEq, Int.reduceLT, Int.reduceLE, Int.reduceNeg, Int.reduceToNat, reduceCtorEq, ho, Try.results93]; rfl, by simp only [go_sem, Nat.reduceEqDiff, Nat.reduceAdd, Nat.reduceSub, Nat.reduceLeDiff, Nat.reduceLT, Nat.reduceMul, Nat.reduceBEq, Int.reduceEq, Int.reduceLT, Int.reduceLE, Int.reduceNeg, Int.reduceToNat, reduceCtorEq, ho, Try.results93], by simp only [go_sem, Nat.reduceEqDiff, Nat.reduceAdd, Nat.reduceSub, Nat.reduceLeDiff, Nat.reduceLT, Nat.reduceMul, Nat.reduceBEq, Int.reduceEq, Int.reduceLT, Int.reduceLE, Int.reduceNeg, Int.reduceToNat, reduceCtorEq, ho, Try.results93], by (first | (simp only [go_sem, Nat.reduceEqDiff, Nat.reduceAdd, Nat.reduceSub, Nat.reduceLeDiff, Nat.reduceLT, Nat.reduceMul, Nat.reduceBEq, Int.reduceEq, Int.reduceLT, Int.reduceLE, Int.reduceNeg, Int.reduceToNat, reduceCtorEq, ho, Try.results93, h2]; done) | simp only [go_sem, Nat.reduceEqDiff, Nat.reduceAdd, Nat.reduceSub, Nat.reduceLeDiff, Nat.reduceLT, Nat.reduceMul, Nat.reduceBEq, Int.reduceEq, Int.reduceLT, Int.reduceLE, Int.reduceNeg, Int.reduceToNat, reduceCtorEq, ho, Try.results93]), .inl ⟨rfl, by simp only [go_sem, Nat.reduceEqDiff, Nat.reduceAdd, Nat.reduceSub, Nat.reduceLeDiff, Nat.reduceLT, Nat.reduceMul, Nat.reduceBEq, Int.reduceEq, Int.reduceLT, Int.reduceLE, Int.reduceNeg, Int.reduceToNat, reduceCtorEq, ho, Try.results93]⟩⟩, ?_⟩
      rintro m st ⟨done, rest, acc, hl, rfl, hal, hck, h9, hs1, hs2, hb, h8⟩
      have hsz := e.size_eq
      rw [hl, Ex.sizes_app] at hsz
      have hdl := Ex.len_sizes done
      have hw : IntKind.i64.wrap ((done.length : Int) + 1) = (done.length : Int) + 1 := wrap_fits (by omega) (by omega)
      cases rest with
      | nil =>
        have hlt : ¬ (done.length : Int) < (e.args.length : Int) := by simp [hl]
        have hck' : Ex.checks kinds e.args [] = (0, acc) := by rw [← hck]; rfl
        have h22 : e.op = 22 → 1 ≤ acc.length := fun h => by
          have := formed_len hf
          rw [h] at this
          simp [fitsN] at this
          rw [hal]
          simp at hl
          rw [← hl]
          omega
        have hal' : acc.length ≤ 100000000 := by omega
        rw [hck'] at hfin
        simp only [ne_eq, not_true, if_false] at hfin
        rcases h8 with ⟨rfl, h8⟩ | ⟨hne, v, h8, h64⟩
        · simp only [go_sem, Nat.reduceEqDiff, Nat.reduceAdd, Nat.reduceSub, Nat.reduceLeDiff, Nat.reduceLT, Nat.reduceMul, Nat.reduceBEq, Int.reduceEq, Int.reduceLT, Int.reduceLE, Int.reduceNeg, Int.reduceToNat, reduceCtorEq, ho, Try.results93, h9, hlt, hs1, hs2, hb, h8]
          refine GCall.fr ?_ (rresult_fn e [] kinds (by simp) hk h22 hcol2) (.inl rfl) ?_; (focus (first | rfl | ((simp only [go_sem, Nat.reduceEqDiff, Nat.reduceAdd, Nat.reduceSub, Nat.reduceLeDiff, Nat.reduceLT, Nat.reduceMul, Nat.reduceBEq, Int.reduceEq, Int.reduceLT, Int.reduceLE, Int.reduceNeg, Int.reduceToNat, reduceCtorEq, ho, Try.results93, e.enc_eq]); done) | ((simp only [go_sem, Nat.reduceEqDiff, Nat.reduceAdd, Nat.reduceSub, Nat.reduceLeDiff, Nat.reduceLT, Nat.reduceMul, Nat.reduceBEq, Int.reduceEq, Int.reduceLT, Int.reduceLE, Int.reduceNeg, Int.reduceToNat, reduceCtorEq, ho, Try.results93, e.enc_eq]); rfl)))
          simp only [go_sem, Nat.reduceEqDiff, Nat.reduceAdd, Nat.reduceSub, Nat.reduceLeDiff, Nat.reduceLT, Nat.reduceMul, Nat.reduceBEq, Int.reduceEq, Int.reduceLT, Int.reduceLE, Int.reduceNeg, Int.reduceToNat, reduceCtorEq, ho, Try.results93]
          rw [hfin]
          repeat' (first | (refine AIf_cases (fun h => ?_) (fun h => ?_) <;> (try simp only [decide_eq_true_eq, decide_eq_false_iff_not, Bool.not_eq_true', Bool.not_eq_false', Bool.not_eq_true, Bool.not_eq_false] at h) <;> (try simp only [go_sem, Nat.reduceEqDiff, Nat.reduceAdd, Nat.reduceSub, Nat.reduceLeDiff, Nat.reduceLT, Nat.reduceMul, Nat.reduceBEq, Int.reduceEq, Int.reduceLT, Int.reduceLE, Int.reduceNeg, Int.reduceToNat, reduceCtorEq, ho, Try.results93, h])))
          all_goals simp_all
        · have hrow : getRow st.o 64 v = some (3, acc.map (.int .i64)) := by simp [getRow, h64]
          simp only [go_sem, Nat.reduceEqDiff, Nat.reduceAdd, Nat.reduceSub, Nat.reduceLeDiff, Nat.reduceLT, Nat.reduceMul, Nat.reduceBEq, Int.reduceEq, Int.reduceLT, Int.reduceLE, Int.reduceNeg, Int.reduceToNat, reduceCtorEq, ho, Try.results93, h9, hlt, hs1, hs2, hb, h8]
          refine GCall.fr ?_ (rresult_fn e acc kinds hal' hk h22 hcol2) (.inl rfl) ?_; (focus (first | rfl | ((simp only [go_sem, Nat.reduceEqDiff, Nat.reduceAdd, Nat.reduceSub, Nat.reduceLeDiff, Nat.reduceLT, Nat.reduceMul, Nat.reduceBEq, Int.reduceEq, Int.reduceLT, Int.reduceLE, Int.reduceNeg, Int.reduceToNat, reduceCtorEq, ho, Try.results93, e.enc_eq, hrow]); done) | ((simp only [go_sem, Nat.reduceEqDiff, Nat.reduceAdd, Nat.reduceSub, Nat.reduceLeDiff, Nat.reduceLT, Nat.reduceMul, Nat.reduceBEq, Int.reduceEq, Int.reduceLT, Int.reduceLE, Int.reduceNeg, Int.reduceToNat, reduceCtorEq, ho, Try.results93, e.enc_eq, hrow]); rfl)))
          simp only [go_sem, Nat.reduceEqDiff, Nat.reduceAdd, Nat.reduceSub, Nat.reduceLeDiff, Nat.reduceLT, Nat.reduceMul, Nat.reduceBEq, Int.reduceEq, Int.reduceLT, Int.reduceLE, Int.reduceNeg, Int.reduceToNat, reduceCtorEq, ho, Try.results93]
          rw [hfin]
          repeat' (first | (refine AIf_cases (fun h => ?_) (fun h => ?_) <;> (try simp only [decide_eq_true_eq, decide_eq_false_iff_not, Bool.not_eq_true', Bool.not_eq_false', Bool.not_eq_true, Bool.not_eq_false] at h) <;> (try simp only [go_sem, Nat.reduceEqDiff, Nat.reduceAdd, Nat.reduceSub, Nat.reduceLeDiff, Nat.reduceLT, Nat.reduceMul, Nat.reduceBEq, Int.reduceEq, Int.reduceLT, Int.reduceLE, Int.reduceNeg, Int.reduceToNat, reduceCtorEq, ho, Try.results93, h])))
          all_goals simp_all
      | cons x rest =>
        have hlt : (done.length : Int) < (e.args.length : Int) := by simp [hl]; omega
        have hget : (e.args.map Ex.enc)[done.length]? = some x.enc := by simp [hl]
        have hxs : x.size ≤ n := by simp [Ex.sizes] at hsz; omega
        simp only [go_sem, Nat.reduceEqDiff, Nat.reduceAdd, Nat.reduceSub, Nat.reduceLeDiff, Nat.reduceLT, Nat.reduceMul, Nat.reduceBEq, Int.reduceEq, Int.reduceLT, Int.reduceLE, Int.reduceNeg, Int.reduceToNat, reduceCtorEq, ho, Try.results93, h9, hs1, hs2, hb, hlt, hget, Int.natCast_nonneg, Int.toNat_natCast]
        refine GCall.fr ?_ (rcheck_fn kinds n x hxs (by omega)) (.inl rfl) ?_; (focus (first | rfl | ((simp only [go_sem, Nat.reduceEqDiff, Nat.reduceAdd, Nat.reduceSub, Nat.reduceLeDiff, Nat.reduceLT, Nat.reduceMul, Nat.reduceBEq, Int.reduceEq, Int.reduceLT, Int.reduceLE, Int.reduceNeg, Int.reduceToNat, reduceCtorEq, ho, Try.results93, x.enc_eq, hs1]); done) | ((simp only [go_sem, Nat.reduceEqDiff, Nat.reduceAdd, Nat.reduceSub, Nat.reduceLeDiff, Nat.reduceLT, Nat.reduceMul, Nat.reduceBEq, Int.reduceEq, Int.reduceLT, Int.reduceLE, Int.reduceNeg, Int.reduceToNat, reduceCtorEq, ho, Try.results93, x.enc_eq, hs1]); rfl)))
        simp only [go_sem, Nat.reduceEqDiff, Nat.reduceAdd, Nat.reduceSub, Nat.reduceLeDiff, Nat.reduceLT, Nat.reduceMul, Nat.reduceBEq, Int.reduceEq, Int.reduceLT, Int.reduceLE, Int.reduceNeg, Int.reduceToNat, reduceCtorEq, ho, Try.results93, h9, hs1, hs2, hb]
        rw [Ex.checks] at hck
        by_cases hx : (x.check kinds).2 = 0
        · have hbig : (acc.length + 1) * 9 ≤ 140737488355328 := by omega
          rw [if_neg (by simp [hx])] at hck
          have hb' := hb
          rw [e.enc_cells] at hb'
          rcases h8 with ⟨rfl, h8⟩ | ⟨hne, v, h8, h64⟩
          · simp only [go_sem, Nat.reduceEqDiff, Nat.reduceAdd, Nat.reduceSub, Nat.reduceLeDiff, Nat.reduceLT, Nat.reduceMul, Nat.reduceBEq, Int.reduceEq, Int.reduceLT, Int.reduceLE, Int.reduceNeg, Int.reduceToNat, reduceCtorEq, ho, Try.results93, hx, h9, hs1, hs2, hb, h8, hw]
            exact ⟨rest.length, by omega, done ++ [x], rest, _, by simp [hl], rfl, by simp [← hal], hck, by simp, .inr ⟨by simp, _, rfl, rfl⟩⟩
          · have hrow : getRow st.o 64 v = some (3, acc.map (.int .i64)) := by simp [getRow, h64]
            simp only [go_sem, Nat.reduceEqDiff, Nat.reduceAdd, Nat.reduceSub, Nat.reduceLeDiff, Nat.reduceLT, Nat.reduceMul, Nat.reduceBEq, Int.reduceEq, Int.reduceLT, Int.reduceLE, Int.reduceNeg, Int.reduceToNat, reduceCtorEq, ho, Try.results93, hx, h9, hs1, hs2, hb, h8, hw, h64, hbig]
            exact ⟨rest.length, by omega, done ++ [x], rest, _, by simp [hl], rfl, by simp [← hal], hck, by simp, .inr ⟨by simp, _, rfl, by simp⟩⟩
        · rw [if_pos (by simpa using hx)] at hck
          rw [← hck] at hfin
          rw [if_pos (by simpa using hx)] at hfin
          simp only [go_sem, Nat.reduceEqDiff, Nat.reduceAdd, Nat.reduceSub, Nat.reduceLeDiff, Nat.reduceLT, Nat.reduceMul, Nat.reduceBEq, Int.reduceEq, Int.reduceLT, Int.reduceLE, Int.reduceNeg, Int.reduceToNat, reduceCtorEq, ho, Try.results93, hx, h9, hs1, hs2, hb]
          rw [hfin]
          simp
    · rw [if_neg h2] at hchk
      have hcol2 : e.op = 2 → 0 ≤ e.int ∧ e.int < kinds.length := fun h => absurd h h2
      have hfin : e.check kinds = (if (Ex.checks kinds e.args []).1 ≠ 0 then (0, (Ex.checks kinds e.args []).1) else if (rresultK e (Ex.checks kinds e.args []).2 kinds).2 then ((rresultK e (Ex.checks kinds e.args []).2 kinds).1, 0) else (0, 7)) := by
        rw [hchk]
        simp [h2, rresultK]
      simp only [go_sem, Nat.reduceEqDiff, Nat.reduceAdd, Nat.reduceSub, Nat.reduceLeDiff, Nat.reduceLT, Nat.reduceMul, Nat.reduceBEq, Int.reduceEq, Int.reduceLT, Int.reduceLE, Int.reduceNeg, Int.reduceToNat, reduceCtorEq, ho, Try.results93, h2, List.length_map]
      refine ⟨fun m st => ∃ (done rest : List Ex) (acc : List Int), e.args = done ++ rest ∧ m = rest.length ∧ acc.length = done.length ∧ Ex.checks kinds rest acc = Ex.checks kinds e.args [] ∧ st.s 9 = .int .i64 done.length ∧ st.s 1 = .sl (kinds.map (.int .i64)) ∧ st.s 2 = .ptr 2 1 0 ∧ getBox st.o 2 1 = some (49, e.enc.cells) ∧ ((acc = [] ∧ st.s 8 = .nil) ∨ (acc ≠ [] ∧ ∃ v, st.s 8 = .ref 64 v ∧ st.o 64 = (v, some (true, .row 3 (acc.map (.int .i64)))))),
        e.args.length, ⟨[], e.args, [], rfl, rfl, rfl, rfl, by simp only [go_sem, Nat.reduceEqDiff, Nat.reduceAdd, Nat.reduceSub, Nat.reduceLeDiff, Nat.reduceLT, Nat.reduceMul, Nat.reduceBEq, Int.reduceEq, Int.reduceLT, Int.reduceLE, Int.reduceNeg, Int.reduceToNat, reduceCtorEq, ho, Try.results93]; rfl, by simp only [go_sem, Nat.reduceEqDiff, Nat.reduceAdd, Nat.reduceSub, Nat.reduceLeDiff, Nat.reduceLT, Nat.reduceMul, Nat.reduceBEq, Int.reduceEq, Int.reduceLT, Int.reduceLE, Int.reduceNeg, Int.reduceToNat, reduceCtorEq, ho, Try.results93], by simp only [go_sem, Nat.reduceEqDiff, Nat.reduceAdd, Nat.reduceSub, Nat.reduceLeDiff, Nat.reduceLT, Nat.reduceMul, Nat.reduceBEq, Int.reduceEq, Int.reduceLT, Int.reduceLE, Int.reduceNeg, Int.reduceToNat, reduceCtorEq, ho, Try.results93], by (first | (simp only [go_sem, Nat.reduceEqDiff, Nat.reduceAdd, Nat.reduceSub, Nat.reduceLeDiff, Nat.reduceLT, Nat.reduceMul, Nat.reduceBEq, Int.reduceEq, Int.reduceLT, Int.reduceLE, Int.reduceNeg, Int.reduceToNat, reduceCtorEq, ho, Try.results93, h2]; done) | simp only [go_sem, Nat.reduceEqDiff, Nat.reduceAdd, Nat.reduceSub, Nat.reduceLeDiff, Nat.reduceLT, Nat.reduceMul, Nat.reduceBEq, Int.reduceEq, Int.reduceLT, Int.reduceLE, Int.reduceNeg, Int.reduceToNat, reduceCtorEq, ho, Try.results93]), .inl ⟨rfl, by simp only [go_sem, Nat.reduceEqDiff, Nat.reduceAdd, Nat.reduceSub, Nat.reduceLeDiff, Nat.reduceLT, Nat.reduceMul, Nat.reduceBEq, Int.reduceEq, Int.reduceLT, Int.reduceLE, Int.reduceNeg, Int.reduceToNat, reduceCtorEq, ho, Try.results93]⟩⟩, ?_⟩
      rintro m st ⟨done, rest, acc, hl, rfl, hal, hck, h9, hs1, hs2, hb, h8⟩
      have hsz := e.size_eq
      rw [hl, Ex.sizes_app] at hsz
      have hdl := Ex.len_sizes done
      have hw : IntKind.i64.wrap ((done.length : Int) + 1) = (done.length : Int) + 1 := wrap_fits (by omega) (by omega)
      cases rest with
      | nil =>
        have hlt : ¬ (done.length : Int) < (e.args.length : Int) := by simp [hl]
        have hck' : Ex.checks kinds e.args [] = (0, acc) := by rw [← hck]; rfl
        have h22 : e.op = 22 → 1 ≤ acc.length := fun h => by
          have := formed_len hf
          rw [h] at this
          simp [fitsN] at this
          rw [hal]
          simp at hl
          rw [← hl]
          omega
        have hal' : acc.length ≤ 100000000 := by omega
        rw [hck'] at hfin
        simp only [ne_eq, not_true, if_false] at hfin
        rcases h8 with ⟨rfl, h8⟩ | ⟨hne, v, h8, h64⟩
        · simp only [go_sem, Nat.reduceEqDiff, Nat.reduceAdd, Nat.reduceSub, Nat.reduceLeDiff, Nat.reduceLT, Nat.reduceMul, Nat.reduceBEq, Int.reduceEq, Int.reduceLT, Int.reduceLE, Int.reduceNeg, Int.reduceToNat, reduceCtorEq, ho, Try.results93, h9, hlt, hs1, hs2, hb, h8]
          refine GCall.fr ?_ (rresult_fn e [] kinds (by simp) hk h22 hcol2) (.inl rfl) ?_; (focus (first | rfl | ((simp only [go_sem, Nat.reduceEqDiff, Nat.reduceAdd, Nat.reduceSub, Nat.reduceLeDiff, Nat.reduceLT, Nat.reduceMul, Nat.reduceBEq, Int.reduceEq, Int.reduceLT, Int.reduceLE, Int.reduceNeg, Int.reduceToNat, reduceCtorEq, ho, Try.results93, e.enc_eq]); done) | ((simp only [go_sem, Nat.reduceEqDiff, Nat.reduceAdd, Nat.reduceSub, Nat.reduceLeDiff, Nat.reduceLT, Nat.reduceMul, Nat.reduceBEq, Int.reduceEq, Int.reduceLT, Int.reduceLE, Int.reduceNeg, Int.reduceToNat, reduceCtorEq, ho, Try.results93, e.enc_eq]); rfl)))
          simp only [go_sem, Nat.reduceEqDiff, Nat.reduceAdd, Nat.reduceSub, Nat.reduceLeDiff, Nat.reduceLT, Nat.reduceMul, Nat.reduceBEq, Int.reduceEq, Int.reduceLT, Int.reduceLE, Int.reduceNeg, Int.reduceToNat, reduceCtorEq, ho, Try.results93]
          rw [hfin]
          repeat' (first | (refine AIf_cases (fun h => ?_) (fun h => ?_) <;> (try simp only [decide_eq_true_eq, decide_eq_false_iff_not, Bool.not_eq_true', Bool.not_eq_false', Bool.not_eq_true, Bool.not_eq_false] at h) <;> (try simp only [go_sem, Nat.reduceEqDiff, Nat.reduceAdd, Nat.reduceSub, Nat.reduceLeDiff, Nat.reduceLT, Nat.reduceMul, Nat.reduceBEq, Int.reduceEq, Int.reduceLT, Int.reduceLE, Int.reduceNeg, Int.reduceToNat, reduceCtorEq, ho, Try.results93, h])))
          all_goals simp_all
        · have hrow : getRow st.o 64 v = some (3, acc.map (.int .i64)) := by simp [getRow, h64]
          simp only [go_sem, Nat.reduceEqDiff, Nat.reduceAdd, Nat.reduceSub, Nat.reduceLeDiff, Nat.reduceLT, Nat.reduceMul, Nat.reduceBEq, Int.reduceEq, Int.reduceLT, Int.reduceLE, Int.reduceNeg, Int.reduceToNat, reduceCtorEq, ho, Try.results93, h9, hlt, hs1, hs2, hb, h8]
          refine GCall.fr ?_ (rresult_fn e acc kinds hal' hk h22 hcol2) (.inl rfl) ?_; (focus (first | rfl | ((simp only [go_sem, Nat.reduceEqDiff, Nat.reduceAdd, Nat.reduceSub, Nat.reduceLeDiff, Nat.reduceLT, Nat.reduceMul, Nat.reduceBEq, Int.reduceEq, Int.reduceLT, Int.reduceLE, Int.reduceNeg, Int.reduceToNat, reduceCtorEq, ho, Try.results93, e.enc_eq, hrow]); done) | ((simp only [go_sem, Nat.reduceEqDiff, Nat.reduceAdd, Nat.reduceSub, Nat.reduceLeDiff, Nat.reduceLT, Nat.reduceMul, Nat.reduceBEq, Int.reduceEq, Int.reduceLT, Int.reduceLE, Int.reduceNeg, Int.reduceToNat, reduceCtorEq, ho, Try.results93, e.enc_eq, hrow]); rfl)))
          simp only [go_sem, Nat.reduceEqDiff, Nat.reduceAdd, Nat.reduceSub, Nat.reduceLeDiff, Nat.reduceLT, Nat.reduceMul, Nat.reduceBEq, Int.reduceEq, Int.reduceLT, Int.reduceLE, Int.reduceNeg, Int.reduceToNat, reduceCtorEq, ho, Try.results93]
          rw [hfin]
          repeat' (first | (refine AIf_cases (fun h => ?_) (fun h => ?_) <;> (try simp only [decide_eq_true_eq, decide_eq_false_iff_not, Bool.not_eq_true', Bool.not_eq_false', Bool.not_eq_true, Bool.not_eq_false] at h) <;> (try simp only [go_sem, Nat.reduceEqDiff, Nat.reduceAdd, Nat.reduceSub, Nat.reduceLeDiff, Nat.reduceLT, Nat.reduceMul, Nat.reduceBEq, Int.reduceEq, Int.reduceLT, Int.reduceLE, Int.reduceNeg, Int.reduceToNat, reduceCtorEq, ho, Try.results93, h])))
          all_goals simp_all
      | cons x rest =>
        have hlt : (done.length : Int) < (e.args.length : Int) := by simp [hl]; omega
        have hget : (e.args.map Ex.enc)[done.length]? = some x.enc := by simp [hl]
        have hxs : x.size ≤ n := by simp [Ex.sizes] at hsz; omega
        simp only [go_sem, Nat.reduceEqDiff, Nat.reduceAdd, Nat.reduceSub, Nat.reduceLeDiff, Nat.reduceLT, Nat.reduceMul, Nat.reduceBEq, Int.reduceEq, Int.reduceLT, Int.reduceLE, Int.reduceNeg, Int.reduceToNat, reduceCtorEq, ho, Try.results93, h9, hs1, hs2, hb, hlt, hget, Int.natCast_nonneg, Int.toNat_natCast]
        refine GCall.fr ?_ (rcheck_fn kinds n x hxs (by omega)) (.inl rfl) ?_; (focus (first | rfl | ((simp only [go_sem, Nat.reduceEqDiff, Nat.reduceAdd, Nat.reduceSub, Nat.reduceLeDiff, Nat.reduceLT, Nat.reduceMul, Nat.reduceBEq, Int.reduceEq, Int.reduceLT, Int.reduceLE, Int.reduceNeg, Int.reduceToNat, reduceCtorEq, ho, Try.results93, x.enc_eq, hs1]); done) | ((simp only [go_sem, Nat.reduceEqDiff, Nat.reduceAdd, Nat.reduceSub, Nat.reduceLeDiff, Nat.reduceLT, Nat.reduceMul, Nat.reduceBEq, Int.reduceEq, Int.reduceLT, Int.reduceLE, Int.reduceNeg, Int.reduceToNat, reduceCtorEq, ho, Try.results93, x.enc_eq, hs1]); rfl)))
        simp only [go_sem, Nat.reduceEqDiff, Nat.reduceAdd, Nat.reduceSub, Nat.reduceLeDiff, Nat.reduceLT, Nat.reduceMul, Nat.reduceBEq, Int.reduceEq, Int.reduceLT, Int.reduceLE, Int.reduceNeg, Int.reduceToNat, reduceCtorEq, ho, Try.results93, h9, hs1, hs2, hb]
        rw [Ex.checks] at hck
        by_cases hx : (x.check kinds).2 = 0
        · have hbig : (acc.length + 1) * 9 ≤ 140737488355328 := by omega
          rw [if_neg (by simp [hx])] at hck
          have hb' := hb
          rw [e.enc_cells] at hb'
          rcases h8 with ⟨rfl, h8⟩ | ⟨hne, v, h8, h64⟩
          · simp only [go_sem, Nat.reduceEqDiff, Nat.reduceAdd, Nat.reduceSub, Nat.reduceLeDiff, Nat.reduceLT, Nat.reduceMul, Nat.reduceBEq, Int.reduceEq, Int.reduceLT, Int.reduceLE, Int.reduceNeg, Int.reduceToNat, reduceCtorEq, ho, Try.results93, hx, h9, hs1, hs2, hb, h8, hw]
            exact ⟨rest.length, by omega, done ++ [x], rest, _, by simp [hl], rfl, by simp [← hal], hck, by simp, .inr ⟨by simp, _, rfl, rfl⟩⟩
          · have hrow : getRow st.o 64 v = some (3, acc.map (.int .i64)) := by simp [getRow, h64]
            simp only [go_sem, Nat.reduceEqDiff, Nat.reduceAdd, Nat.reduceSub, Nat.reduceLeDiff, Nat.reduceLT, Nat.reduceMul, Nat.reduceBEq, Int.reduceEq, Int.reduceLT, Int.reduceLE, Int.reduceNeg, Int.reduceToNat, reduceCtorEq, ho, Try.results93, hx, h9, hs1, hs2, hb, h8, hw, h64, hbig]
            exact ⟨rest.length, by omega, done ++ [x], rest, _, by simp [hl], rfl, by simp [← hal], hck, by simp, .inr ⟨by simp, _, rfl, by simp⟩⟩
        · rw [if_pos (by simpa using hx)] at hck
          rw [← hck] at hfin
          rw [if_pos (by simpa using hx)] at hfin
          simp only [go_sem, Nat.reduceEqDiff, Nat.reduceAdd, Nat.reduceSub, Nat.reduceLeDiff, Nat.reduceLT, Nat.reduceMul, Nat.reduceBEq, Int.reduceEq, Int.reduceLT, Int.reduceLE, Int.reduceNeg, Int.reduceToNat, reduceCtorEq, ho, Try.results93, hx, h9, hs1, hs2, hb]
          rw [hfin]
          simp
end Go.Proofs.Ytiefnninebilbaa
/- What the reference's Check returns; no condition. -/
set_option maxRecDepth 100000
set_option linter.unusedVariables false
set_option linter.unusedSimpArgs false
namespace Go.Proofs.Ytiefnninebilbaa
open Go Go.Sx

theorem ok36 : okCode M0 Try.f36.ntmps (Try.f36.body.getD .skip) = true := by decide +kernel
theorem rchecked_fn (kinds : List Int) (e : Ex) (hs : e.size ≤ 100000000) : Fc 36 [e.enc, .sl (kinds.map (.int .i64))] (.tup [.int .i64 (e.checked kinds).1, .int .i64 (e.checked kinds).2]) := by
  refine fn_of_awp (E := E0) (M := M0) follows Try.func36 rfl (by decide) ok36 (by decide) (by simp) fun o ho => ?_
  simp only [go_sem, Nat.reduceEqDiff, Nat.reduceAdd, Nat.reduceSub, Nat.reduceLeDiff, Nat.reduceLT, Nat.reduceMul, Nat.reduceBEq, Int.reduceEq, Int.reduceLT, Int.reduceLE, Int.reduceNeg, Int.reduceToNat, reduceCtorEq, ho, Try.results36, e.enc_eq]
  refine GCall.fr ?_ (rdepth_fn _ e (Nat.le_refl _) (by omega)) (.inl rfl) ?_; (focus (first | rfl | ((simp only [go_sem, Nat.reduceEqDiff, Nat.reduceAdd, Nat.reduceSub, Nat.reduceLeDiff, Nat.reduceLT, Nat.reduceMul, Nat.reduceBEq, Int.reduceEq, Int.reduceLT, Int.reduceLE, Int.reduceNeg, Int.reduceToNat, reduceCtorEq, ho, Try.results36, e.enc_eq]); done) | ((simp only [go_sem, Nat.reduceEqDiff, Nat.reduceAdd, Nat.reduceSub, Nat.reduceLeDiff, Nat.reduceLT, Nat.reduceMul, Nat.reduceBEq, Int.reduceEq, Int.reduceLT, Int.reduceLE, Int.reduceNeg, Int.reduceToNat, reduceCtorEq, ho, Try.results36, e.enc_eq]); rfl)))
  simp only [go_sem, Nat.reduceEqDiff, Nat.reduceAdd, Nat.reduceSub, Nat.reduceLeDiff, Nat.reduceLT, Nat.reduceMul, Nat.reduceBEq, Int.reduceEq, Int.reduceLT, Int.reduceLE, Int.reduceNeg, Int.reduceToNat, reduceCtorEq, ho, Try.results36]
  by_cases h2 : 24 < e.depth
  · have h3 : (24 : Int) < (e.depth : Int) := by omega
    simp only [go_sem, Nat.reduceEqDiff, Nat.reduceAdd, Nat.reduceSub, Nat.reduceLeDiff, Nat.reduceLT, Nat.reduceMul, Nat.reduceBEq, Int.reduceEq, Int.reduceLT, Int.reduceLE, Int.reduceNeg, Int.reduceToNat, reduceCtorEq, ho, Try.results36, h3]
    simp [Ex.checked, h2]
  · have h3 : ¬ (24 : Int) < (e.depth : Int) := by omega
    simp only [go_sem, Nat.reduceEqDiff, Nat.reduceAdd, Nat.reduceSub, Nat.reduceLeDiff, Nat.reduceLT, Nat.reduceMul, Nat.reduceBEq, Int.reduceEq, Int.reduceLT, Int.reduceLE, Int.reduceNeg, Int.reduceToNat, reduceCtorEq, ho, Try.results36, h3, e.enc_eq]
    refine GCall.fr ?_ (rcheck_fn kinds _ e (Nat.le_refl _) hs) (.inl rfl) ?_; (focus (first | rfl | ((simp only [go_sem, Nat.reduceEqDiff, Nat.reduceAdd, Nat.reduceSub, Nat.reduceLeDiff, Nat.reduceLT, Nat.reduceMul, Nat.reduceBEq, Int.reduceEq, Int.reduceLT, Int.reduceLE, Int.reduceNeg, Int.reduceToNat, reduceCtorEq, ho, Try.results36, e.enc_eq]); done) | ((simp only [go_sem, Nat.reduceEqDiff, Nat.reduceAdd, Nat.reduceSub, Nat.reduceLeDiff, Nat.reduceLT, Nat.reduceMul, Nat.reduceBEq, Int.reduceEq, Int.reduceLT, Int.reduceLE, Int.reduceNeg, Int.reduceToNat, reduceCtorEq, ho, Try.results36, e.enc_eq]); rfl)))
    simp only [go_sem, Nat.reduceEqDiff, Nat.reduceAdd, Nat.reduceSub, Nat.reduceLeDiff, Nat.reduceLT, Nat.reduceMul, Nat.reduceBEq, Int.reduceEq, Int.reduceLT, Int.reduceLE, Int.reduceNeg, Int.reduceToNat, reduceCtorEq, ho, Try.results36]
    simp [Ex.checked, h2]
end Go.Proofs.Ytiefnninebilbaa
