/- The examples of the chapter on definitions hold; no condition. -/
import Derived.Test.YtiefnninebilbaaMsg
import Derived.Test.YtiefnninebilbaaMsh
import Derived.Test.YtiefnninebilbaaMse
import Derived.Test.YtiefnninebilbaaRows
import Derived.ChangeArms
import Derived.DataReads
import Derived.WideShapes
set_option maxRecDepth 100000
set_option linter.unusedVariables false
set_option linter.unusedSimpArgs false
namespace Go.Proofs.Ytiefnninebilbaa
open Go Go.Sx

def Col.a : Col := ⟨⟨#[97]⟩, 1, false⟩
def Col.b : Col := ⟨⟨#[98]⟩, 2, true⟩
def Tb.sample (k : Int) : Tb := ⟨⟨#[116]⟩, [Col.a, Col.b], [k], [], []⟩
theorem ok82 : okCode M0 Try.f82.ntmps (Try.f82.body.getD .skip) = true := by decide +kernel
theorem sample_fn : Fc 82 [] (Tb.sample 0).enc := by
  refine fn_of_awp (E := E0) (M := M0) follows Try.func82 rfl (by decide) ok82 (by decide) (by simp) fun o ho => ?_
  simp only [go_sem, Nat.reduceEqDiff, Nat.reduceAdd, Nat.reduceSub, Nat.reduceLeDiff, Nat.reduceLT, Nat.reduceMul, Nat.reduceBEq, Int.reduceEq, Int.reduceLT, Int.reduceLE, Int.reduceNeg, Int.reduceToNat, reduceCtorEq, ho, Try.results82, Tb.enc, Tb.sample, Col.a, Col.b, Col.enc]
def sampleO (o : Objs) : Objs := upd (upd o 503 (1, some (true, .row 38 [Col.a.enc, Col.b.enc]))) 504 (1, some (true, .row 3 [.int .i64 0]))
theorem sample_run (o : Objs) (kd : Option Nat) (ho : ∀ k, 500 ≤ k ∧ k < 506 → o k = (0, none)) : CallRun P0 82 [] kd o (.agg [.str ⟨#[116]⟩, .ref 503 1, .ref 504 1, .nil, .nil]) (sampleO o) := by
  refine CallRun.of_awp _ _ (fun k => k = 500) (E := (E0.at 500)) (M := M0) follows Try.func82 rfl (by decide) ok82 (fun d hd => ?_) (by decide) ?_ ?_ ?_ ?_ ?_
  · show 500 + d < 1000000
    have : d < 6 := hd
    omega
  · rintro k rfl
    simp [sampleO, upd, ho]
  · intro k hk
    have h1 : k ≠ 503 := by omega
    have h2 : k ≠ 504 := by omega
    simp [sampleO, upd, h1, h2]
  · intro k ver b t cs hk
    by_cases h1 : k = 504
    · subst h1; simp [sampleO, upd] at hk
    by_cases h2 : k = 503
    · subst h2; simp [sampleO, upd] at hk
    simp [sampleO, upd, h1, h2]
  · simp only [go_sem]; decide
  · simp only [go_sem, Nat.reduceEqDiff, Nat.reduceAdd, Nat.reduceSub, Nat.reduceLeDiff, Nat.reduceLT, Nat.reduceMul, Nat.reduceBEq, Int.reduceEq, Int.reduceLT, Int.reduceLE, Int.reduceNeg, Int.reduceToNat, reduceCtorEq, ho, Try.results82, Col.a, Col.b, Col.enc, sampleO]
    intro k hk
    simp only [if_neg hk]
theorem nm1 : nameOk ⟨#[120, 95, 49]⟩ = true := by decide
theorem nm2 : nameOk ⟨#[115, 101, 108, 101, 99, 116]⟩ = false := by decide
theorem nm3 : nameOk ⟨#[83, 101, 108, 101, 99, 116]⟩ = false := by decide
theorem sampleOk (k : Int) : (Tb.sample k).Ok := by
  have e : ∀ n : Nat, n ≤ 2 → n ≤ 1048576 := fun n h => by omega
  refine ⟨e 1 (by decide), e 2 (by decide), ?_, e 1 (by decide), e 0 (by decide), ?_, ?_, e 0 (by decide), ?_⟩
  · intro c hc
    simp only [Tb.sample, List.mem_cons, List.not_mem_nil, or_false] at hc
    rcases hc with rfl | rfl <;> decide
  · intro f hf; simp [Tb.sample] at hf
  · intro f hf; simp [Tb.sample] at hf
  · intro f hf; simp [Tb.sample] at hf
theorem smp1 : (Tb.sample 0).checkE = 0 := by kernel_rfl
theorem smp2 : (Tb.sample 1).checkE = 12 := by kernel_rfl
def Vl.one : Vl := ⟨1, 1, emp⟩
def Vl.ex : Vl := ⟨2, 0, ⟨#[120]⟩⟩
theorem one_eq : Vl.num 1 = Vl.one := by kernel_rfl
theorem ex_eq : Vl.txt ⟨#[120]⟩ = Vl.ex := by kernel_rfl
theorem sac1 : (Tb.sample 0).accepts [Vl.one, Vl.null] = 0 := by kernel_rfl
theorem sac2 : (Tb.sample 0).accepts [Vl.null, Vl.ex] = 12 := by kernel_rfl
theorem sac3 : (Tb.sample 0).accepts [Vl.ex, Vl.ex] = 7 := by kernel_rfl
theorem ok23 : okCode M0 Try.f23.ntmps (Try.f23.body.getD .skip) = true := by decide +kernel
theorem awakeS_fn : Fc 23 [] (.bool true) := by
  refine fn_of_awp (E := E0) (M := M0) follows Try.func23 rfl (by decide) ok23 (by decide) (by simp) fun o ho => ?_
  simp only [go_sem, Nat.reduceEqDiff, Nat.reduceAdd, Nat.reduceSub, Nat.reduceLeDiff, Nat.reduceLT, Nat.reduceMul, Nat.reduceBEq, Int.reduceEq, Int.reduceLT, Int.reduceLE, Int.reduceNeg, Int.reduceToNat, reduceCtorEq, ho, Try.results23]
  refine GCall.fr ?_ (sample_fn) (.inr rfl) ?_; (focus (first | rfl | ((simp only [go_sem, Nat.reduceEqDiff, Nat.reduceAdd, Nat.reduceSub, Nat.reduceLeDiff, Nat.reduceLT, Nat.reduceMul, Nat.reduceBEq, Int.reduceEq, Int.reduceLT, Int.reduceLE, Int.reduceNeg, Int.reduceToNat, reduceCtorEq, ho, Try.results23, Tb.enc, Tb.sample, Col.a, Col.b, Col.enc]); done) | ((simp only [go_sem, Nat.reduceEqDiff, Nat.reduceAdd, Nat.reduceSub, Nat.reduceLeDiff, Nat.reduceLT, Nat.reduceMul, Nat.reduceBEq, Int.reduceEq, Int.reduceLT, Int.reduceLE, Int.reduceNeg, Int.reduceToNat, reduceCtorEq, ho, Try.results23, Tb.enc, Tb.sample, Col.a, Col.b, Col.enc]); rfl)))
  simp only [go_sem, Nat.reduceEqDiff, Nat.reduceAdd, Nat.reduceSub, Nat.reduceLeDiff, Nat.reduceLT, Nat.reduceMul, Nat.reduceBEq, Int.reduceEq, Int.reduceLT, Int.reduceLE, Int.reduceNeg, Int.reduceToNat, reduceCtorEq, ho, Try.results23, Tb.enc, Tb.sample, Col.a, Col.b, Col.enc]
  refine GCall.fr ?_ (rnum_fn 1) (.inl rfl) ?_; (focus (first | rfl | ((simp only [go_sem, Nat.reduceEqDiff, Nat.reduceAdd, Nat.reduceSub, Nat.reduceLeDiff, Nat.reduceLT, Nat.reduceMul, Nat.reduceBEq, Int.reduceEq, Int.reduceLT, Int.reduceLE, Int.reduceNeg, Int.reduceToNat, reduceCtorEq, ho, Try.results23]); done) | ((simp only [go_sem, Nat.reduceEqDiff, Nat.reduceAdd, Nat.reduceSub, Nat.reduceLeDiff, Nat.reduceLT, Nat.reduceMul, Nat.reduceBEq, Int.reduceEq, Int.reduceLT, Int.reduceLE, Int.reduceNeg, Int.reduceToNat, reduceCtorEq, ho, Try.results23]); rfl)))
  simp only [go_sem, Nat.reduceEqDiff, Nat.reduceAdd, Nat.reduceSub, Nat.reduceLeDiff, Nat.reduceLT, Nat.reduceMul, Nat.reduceBEq, Int.reduceEq, Int.reduceLT, Int.reduceLE, Int.reduceNeg, Int.reduceToNat, reduceCtorEq, ho, Try.results23, one_eq, Vl.one, Vl.enc]
  refine GCall.fr ?_ (rtxt_fn ⟨#[120]⟩) (.inl rfl) ?_; (focus (first | rfl | ((simp only [go_sem, Nat.reduceEqDiff, Nat.reduceAdd, Nat.reduceSub, Nat.reduceLeDiff, Nat.reduceLT, Nat.reduceMul, Nat.reduceBEq, Int.reduceEq, Int.reduceLT, Int.reduceLE, Int.reduceNeg, Int.reduceToNat, reduceCtorEq, ho, Try.results23]); done) | ((simp only [go_sem, Nat.reduceEqDiff, Nat.reduceAdd, Nat.reduceSub, Nat.reduceLeDiff, Nat.reduceLT, Nat.reduceMul, Nat.reduceBEq, Int.reduceEq, Int.reduceLT, Int.reduceLE, Int.reduceNeg, Int.reduceToNat, reduceCtorEq, ho, Try.results23]); rfl)))
  simp only [go_sem, Nat.reduceEqDiff, Nat.reduceAdd, Nat.reduceSub, Nat.reduceLeDiff, Nat.reduceLT, Nat.reduceMul, Nat.reduceBEq, Int.reduceEq, Int.reduceLT, Int.reduceLE, Int.reduceNeg, Int.reduceToNat, reduceCtorEq, ho, Try.results23, ex_eq, Vl.ex, Vl.enc]
  refine GCall.fr ?_ (rnull_fn) (.inl rfl) ?_; (focus (first | rfl | ((simp only [go_sem, Nat.reduceEqDiff, Nat.reduceAdd, Nat.reduceSub, Nat.reduceLeDiff, Nat.reduceLT, Nat.reduceMul, Nat.reduceBEq, Int.reduceEq, Int.reduceLT, Int.reduceLE, Int.reduceNeg, Int.reduceToNat, reduceCtorEq, ho, Try.results23]); done) | ((simp only [go_sem, Nat.reduceEqDiff, Nat.reduceAdd, Nat.reduceSub, Nat.reduceLeDiff, Nat.reduceLT, Nat.reduceMul, Nat.reduceBEq, Int.reduceEq, Int.reduceLT, Int.reduceLE, Int.reduceNeg, Int.reduceToNat, reduceCtorEq, ho, Try.results23]); rfl)))
  simp only [go_sem, Nat.reduceEqDiff, Nat.reduceAdd, Nat.reduceSub, Nat.reduceLeDiff, Nat.reduceLT, Nat.reduceMul, Nat.reduceBEq, Int.reduceEq, Int.reduceLT, Int.reduceLE, Int.reduceNeg, Int.reduceToNat, reduceCtorEq, ho, Try.results23, Vl.null, Vl.enc]
  refine GCall.turn (sample_run _ _ (fun k hk => ?_)) ?_
  · have h1 : k < 1000000 := by omega
    have h2 : ∀ j, j < 500 → ¬ k = j := by intro j hj; omega
    simp only [go_sem, Nat.reduceEqDiff, Nat.reduceAdd, Nat.reduceSub, Nat.reduceLeDiff, Nat.reduceLT, Nat.reduceMul, Nat.reduceBEq, Int.reduceEq, Int.reduceLT, Int.reduceLE, Int.reduceNeg, Int.reduceToNat, reduceCtorEq, ho, Try.results23, h1, h2]
  simp only [go_sem, Nat.reduceEqDiff, Nat.reduceAdd, Nat.reduceSub, Nat.reduceLeDiff, Nat.reduceLT, Nat.reduceMul, Nat.reduceBEq, Int.reduceEq, Int.reduceLT, Int.reduceLE, Int.reduceNeg, Int.reduceToNat, reduceCtorEq, ho, Try.results23, sampleO]
  refine GCall.fr ?_ (name_fn ⟨#[120, 95, 49]⟩ (by decide)) (.inl rfl) ?_; (focus (first | rfl | ((simp only [go_sem, Nat.reduceEqDiff, Nat.reduceAdd, Nat.reduceSub, Nat.reduceLeDiff, Nat.reduceLT, Nat.reduceMul, Nat.reduceBEq, Int.reduceEq, Int.reduceLT, Int.reduceLE, Int.reduceNeg, Int.reduceToNat, reduceCtorEq, ho, Try.results23]); done) | ((simp only [go_sem, Nat.reduceEqDiff, Nat.reduceAdd, Nat.reduceSub, Nat.reduceLeDiff, Nat.reduceLT, Nat.reduceMul, Nat.reduceBEq, Int.reduceEq, Int.reduceLT, Int.reduceLE, Int.reduceNeg, Int.reduceToNat, reduceCtorEq, ho, Try.results23]); rfl)))
  simp only [go_sem, Nat.reduceEqDiff, Nat.reduceAdd, Nat.reduceSub, Nat.reduceLeDiff, Nat.reduceLT, Nat.reduceMul, Nat.reduceBEq, Int.reduceEq, Int.reduceLT, Int.reduceLE, Int.reduceNeg, Int.reduceToNat, reduceCtorEq, ho, Try.results23, nm1]
  refine GCall.fr ?_ (name_fn ⟨#[115, 101, 108, 101, 99, 116]⟩ (by decide)) (.inl rfl) ?_; (focus (first | rfl | ((simp only [go_sem, Nat.reduceEqDiff, Nat.reduceAdd, Nat.reduceSub, Nat.reduceLeDiff, Nat.reduceLT, Nat.reduceMul, Nat.reduceBEq, Int.reduceEq, Int.reduceLT, Int.reduceLE, Int.reduceNeg, Int.reduceToNat, reduceCtorEq, ho, Try.results23]); done) | ((simp only [go_sem, Nat.reduceEqDiff, Nat.reduceAdd, Nat.reduceSub, Nat.reduceLeDiff, Nat.reduceLT, Nat.reduceMul, Nat.reduceBEq, Int.reduceEq, Int.reduceLT, Int.reduceLE, Int.reduceNeg, Int.reduceToNat, reduceCtorEq, ho, Try.results23]); rfl)))
  simp only [go_sem, Nat.reduceEqDiff, Nat.reduceAdd, Nat.reduceSub, Nat.reduceLeDiff, Nat.reduceLT, Nat.reduceMul, Nat.reduceBEq, Int.reduceEq, Int.reduceLT, Int.reduceLE, Int.reduceNeg, Int.reduceToNat, reduceCtorEq, ho, Try.results23, nm2]
  refine GCall.fr ?_ (name_fn ⟨#[83, 101, 108, 101, 99, 116]⟩ (by decide)) (.inl rfl) ?_; (focus (first | rfl | ((simp only [go_sem, Nat.reduceEqDiff, Nat.reduceAdd, Nat.reduceSub, Nat.reduceLeDiff, Nat.reduceLT, Nat.reduceMul, Nat.reduceBEq, Int.reduceEq, Int.reduceLT, Int.reduceLE, Int.reduceNeg, Int.reduceToNat, reduceCtorEq, ho, Try.results23]); done) | ((simp only [go_sem, Nat.reduceEqDiff, Nat.reduceAdd, Nat.reduceSub, Nat.reduceLeDiff, Nat.reduceLT, Nat.reduceMul, Nat.reduceBEq, Int.reduceEq, Int.reduceLT, Int.reduceLE, Int.reduceNeg, Int.reduceToNat, reduceCtorEq, ho, Try.results23]); rfl)))
  simp only [go_sem, Nat.reduceEqDiff, Nat.reduceAdd, Nat.reduceSub, Nat.reduceLeDiff, Nat.reduceLT, Nat.reduceMul, Nat.reduceBEq, Int.reduceEq, Int.reduceLT, Int.reduceLE, Int.reduceNeg, Int.reduceToNat, reduceCtorEq, ho, Try.results23, nm3]
  refine GCall.fr ?_ (tcheck_fn (Tb.sample 0) (sampleOk 0)) (.inl rfl) ?_; (focus (first | rfl | ((simp only [go_sem, Nat.reduceEqDiff, Nat.reduceAdd, Nat.reduceSub, Nat.reduceLeDiff, Nat.reduceLT, Nat.reduceMul, Nat.reduceBEq, Int.reduceEq, Int.reduceLT, Int.reduceLE, Int.reduceNeg, Int.reduceToNat, reduceCtorEq, ho, Try.results23, Tb.enc, Tb.sample, Col.a, Col.b, Col.enc]); done) | ((simp only [go_sem, Nat.reduceEqDiff, Nat.reduceAdd, Nat.reduceSub, Nat.reduceLeDiff, Nat.reduceLT, Nat.reduceMul, Nat.reduceBEq, Int.reduceEq, Int.reduceLT, Int.reduceLE, Int.reduceNeg, Int.reduceToNat, reduceCtorEq, ho, Try.results23, Tb.enc, Tb.sample, Col.a, Col.b, Col.enc]); rfl)))
  simp only [go_sem, Nat.reduceEqDiff, Nat.reduceAdd, Nat.reduceSub, Nat.reduceLeDiff, Nat.reduceLT, Nat.reduceMul, Nat.reduceBEq, Int.reduceEq, Int.reduceLT, Int.reduceLE, Int.reduceNeg, Int.reduceToNat, reduceCtorEq, ho, Try.results23, smp1]
  refine GCall.fr ?_ (tcheck_fn (Tb.sample 1) (sampleOk 1)) (.inl rfl) ?_; (focus (first | rfl | ((simp only [go_sem, Nat.reduceEqDiff, Nat.reduceAdd, Nat.reduceSub, Nat.reduceLeDiff, Nat.reduceLT, Nat.reduceMul, Nat.reduceBEq, Int.reduceEq, Int.reduceLT, Int.reduceLE, Int.reduceNeg, Int.reduceToNat, reduceCtorEq, ho, Try.results23, Tb.enc, Tb.sample, Col.a, Col.b, Col.enc]); done) | ((simp only [go_sem, Nat.reduceEqDiff, Nat.reduceAdd, Nat.reduceSub, Nat.reduceLeDiff, Nat.reduceLT, Nat.reduceMul, Nat.reduceBEq, Int.reduceEq, Int.reduceLT, Int.reduceLE, Int.reduceNeg, Int.reduceToNat, reduceCtorEq, ho, Try.results23, Tb.enc, Tb.sample, Col.a, Col.b, Col.enc]); rfl)))
  simp only [go_sem, Nat.reduceEqDiff, Nat.reduceAdd, Nat.reduceSub, Nat.reduceLeDiff, Nat.reduceLT, Nat.reduceMul, Nat.reduceBEq, Int.reduceEq, Int.reduceLT, Int.reduceLE, Int.reduceNeg, Int.reduceToNat, reduceCtorEq, ho, Try.results23, smp2]
  refine GCall.fr ?_ (accepts_fn (Tb.sample 0) [Vl.one, Vl.null] (by decide)) (.inl rfl) ?_; (focus (first | rfl | ((simp only [go_sem, Nat.reduceEqDiff, Nat.reduceAdd, Nat.reduceSub, Nat.reduceLeDiff, Nat.reduceLT, Nat.reduceMul, Nat.reduceBEq, Int.reduceEq, Int.reduceLT, Int.reduceLE, Int.reduceNeg, Int.reduceToNat, reduceCtorEq, ho, Try.results23, Tb.enc, Tb.sample, Col.a, Col.b, Col.enc, Vl.one, Vl.null, Vl.enc]); done) | ((simp only [go_sem, Nat.reduceEqDiff, Nat.reduceAdd, Nat.reduceSub, Nat.reduceLeDiff, Nat.reduceLT, Nat.reduceMul, Nat.reduceBEq, Int.reduceEq, Int.reduceLT, Int.reduceLE, Int.reduceNeg, Int.reduceToNat, reduceCtorEq, ho, Try.results23, Tb.enc, Tb.sample, Col.a, Col.b, Col.enc, Vl.one, Vl.null, Vl.enc]); rfl)))
  simp only [go_sem, Nat.reduceEqDiff, Nat.reduceAdd, Nat.reduceSub, Nat.reduceLeDiff, Nat.reduceLT, Nat.reduceMul, Nat.reduceBEq, Int.reduceEq, Int.reduceLT, Int.reduceLE, Int.reduceNeg, Int.reduceToNat, reduceCtorEq, ho, Try.results23, sac1]
  refine GCall.fr ?_ (accepts_fn (Tb.sample 0) [Vl.null, Vl.ex] (by decide)) (.inl rfl) ?_; (focus (first | rfl | ((simp only [go_sem, Nat.reduceEqDiff, Nat.reduceAdd, Nat.reduceSub, Nat.reduceLeDiff, Nat.reduceLT, Nat.reduceMul, Nat.reduceBEq, Int.reduceEq, Int.reduceLT, Int.reduceLE, Int.reduceNeg, Int.reduceToNat, reduceCtorEq, ho, Try.results23, Tb.enc, Tb.sample, Col.a, Col.b, Col.enc, Vl.ex, Vl.null, Vl.enc]); done) | ((simp only [go_sem, Nat.reduceEqDiff, Nat.reduceAdd, Nat.reduceSub, Nat.reduceLeDiff, Nat.reduceLT, Nat.reduceMul, Nat.reduceBEq, Int.reduceEq, Int.reduceLT, Int.reduceLE, Int.reduceNeg, Int.reduceToNat, reduceCtorEq, ho, Try.results23, Tb.enc, Tb.sample, Col.a, Col.b, Col.enc, Vl.ex, Vl.null, Vl.enc]); rfl)))
  simp only [go_sem, Nat.reduceEqDiff, Nat.reduceAdd, Nat.reduceSub, Nat.reduceLeDiff, Nat.reduceLT, Nat.reduceMul, Nat.reduceBEq, Int.reduceEq, Int.reduceLT, Int.reduceLE, Int.reduceNeg, Int.reduceToNat, reduceCtorEq, ho, Try.results23, sac2]
  refine GCall.fr ?_ (accepts_fn (Tb.sample 0) [Vl.ex, Vl.ex] (by decide)) (.inl rfl) ?_; (focus (first | rfl | ((simp only [go_sem, Nat.reduceEqDiff, Nat.reduceAdd, Nat.reduceSub, Nat.reduceLeDiff, Nat.reduceLT, Nat.reduceMul, Nat.reduceBEq, Int.reduceEq, Int.reduceLT, Int.reduceLE, Int.reduceNeg, Int.reduceToNat, reduceCtorEq, ho, Try.results23, Tb.enc, Tb.sample, Col.a, Col.b, Col.enc, Vl.ex, Vl.enc]); done) | ((simp only [go_sem, Nat.reduceEqDiff, Nat.reduceAdd, Nat.reduceSub, Nat.reduceLeDiff, Nat.reduceLT, Nat.reduceMul, Nat.reduceBEq, Int.reduceEq, Int.reduceLT, Int.reduceLE, Int.reduceNeg, Int.reduceToNat, reduceCtorEq, ho, Try.results23, Tb.enc, Tb.sample, Col.a, Col.b, Col.enc, Vl.ex, Vl.enc]); rfl)))
  simp only [go_sem, Nat.reduceEqDiff, Nat.reduceAdd, Nat.reduceSub, Nat.reduceLeDiff, Nat.reduceLT, Nat.reduceMul, Nat.reduceBEq, Int.reduceEq, Int.reduceLT, Int.reduceLE, Int.reduceNeg, Int.reduceToNat, reduceCtorEq, ho, Try.results23, sac3]
end Go.Proofs.Ytiefnninebilbaa
/- How arguments read as plain data: a datum that is read at a type of the program is the picture of plain data that is no larger than the datum's bulk; no condition. -/
set_option maxRecDepth 100000
set_option linter.unusedVariables false
set_option linter.unusedSimpArgs false
namespace Go.Proofs.Ytiefnninebilbaa
open Go Go.Sx

theorem bulk_pos {H : Type} (d : DataW H) : 1 ≤ Rows.uptoBulk d := by
  cases d with
  | lit l => cases l <;> simp [Rows.uptoBulk]
  | nil => simp [Rows.uptoBulk]
  | ptr d => simp [Rows.uptoBulk]
  | slice elems spare => simp [Rows.uptoBulk]
  | agg parts => simp [Rows.uptoBulk]
  | iface t d => simp [Rows.uptoBulk]
  | map entries => simp [Rows.uptoBulk]
  | held h => simp [Rows.uptoBulk]
theorem bulkAll_sum {H : Type} : ∀ l : List (DataW H), Rows.uptoBulkAll l = (l.map Rows.uptoBulk).sum
  | [] => by simp [Rows.uptoBulkAll]
  | d :: l => by simp [Rows.uptoBulkAll, bulkAll_sum l]
abbrev Bk (w : World) : Nat → Prop := fun b => b < w.heap.size
def RdL (w : World) : List PV → List Value → Prop
  | [], [] => True
  | z :: zs, u :: us => (z.one = true ∧ Rd w (Bk w) z u) ∧ RdL w zs us
  | _, _ => False
theorem RdL.len {w : World} : ∀ {zs : List PV} {us : List Value}, RdL w zs us → us.length = zs.length
  | [], [], _ => rfl
  | z :: zs, u :: us, h => by simp [RdL.len h.2]
  | [], _ :: _, h => h.elim
  | _ :: _, [], h => h.elim
theorem RdL.at {w : World} : ∀ {zs : List PV} {us : List Value}, RdL w zs us → ∀ (j : Nat) (z : PV), zs[j]? = some z → z.one = true ∧ ∃ u, us[j]? = some u ∧ Rd w (Bk w) z u
  | [], [], _, j, z, hz => by simp at hz
  | z :: zs, u :: us, h, 0, y, hz => by simp at hz; subst hz; exact ⟨h.1.1, u, rfl, h.1.2⟩
  | z :: zs, u :: us, h, j + 1, y, hz => by simpa using RdL.at h.2 j y (by simpa using hz)
  | [], _ :: _, h, _, _, _ => h.elim
  | _ :: _, [], h, _, _, _ => h.elim

section
variable {H : Type} {enc : TypeId × Value → H} {w : World}
def Reads (enc : TypeId × Value → H) (w : World) (n : Nat) (t : TypeId) {α : Type} (pic : α → PV) (sz : α → Nat) : Prop :=
  ∀ (fuel : Nat), fuel ≤ n → ∀ (cs : List Value) (x : DataW H × List MemPlace), DataW.trod enc P0 w 0 (fun _ => true) true fuel t cs = some x → ∃ a, RdL w (pic a).cells cs ∧ sz a ≤ Rows.uptoBulk x.1
theorem Reads.mono {n m : Nat} {t : TypeId} {α : Type} {pic : α → PV} {sz : α → Nat} (h : Reads enc w n t pic sz) (hm : m ≤ n) : Reads enc w m t pic sz := fun f hf => h f (Nat.le_trans hf hm)

theorem reads_int {k : IntKind} {t : TypeId} (ht : P0.underlying t = some (.int k)) (n : Nat) : Reads enc w n t (PV.int k) (fun _ => 1) := by
  intro fuel _ cs x hx
  obtain ⟨m, rfl, rfl, _⟩ := DataW.trod_int ht hx
  exact ⟨m, ⟨⟨rfl, .int k m⟩, trivial⟩, bulk_pos _⟩
theorem reads_bool {t : TypeId} (ht : P0.underlying t = some .bool) (n : Nat) : Reads enc w n t PV.bool (fun _ => 1) := by
  intro fuel _ cs x hx
  obtain ⟨m, rfl, rfl⟩ := DataW.trod_bool ht hx
  exact ⟨m, ⟨⟨rfl, .bool m⟩, trivial⟩, bulk_pos _⟩
theorem reads_str {t : TypeId} (ht : P0.underlying t = some .string) (n : Nat) : Reads enc w n t PV.str (fun s => s.size + 1) := by
  intro fuel _ cs x hx
  obtain ⟨s, rfl, rfl, _⟩ := DataW.trod_string ht hx
  exact ⟨s, ⟨⟨rfl, .str s⟩, trivial⟩, by simp [Rows.uptoBulk]⟩
theorem reads_build {α β : Type} {sz : α → Nat} {bk : β → Nat} {G : Nat → α → Prop} : ∀ (els : List β) (k : Nat), (∀ (i : Nat) (y : β), els[i]? = some y → ∃ a, G (k + i) a ∧ sz a ≤ bk y) →
    ∃ l : List α, l.length = els.length ∧ (∀ (i : Nat) (a : α), l[i]? = some a → G (k + i) a) ∧ (l.map sz).sum ≤ (els.map bk).sum
  | [], k, _ => ⟨[], rfl, fun i a h => by simp at h, by simp⟩
  | y :: els, k, h => by
    obtain ⟨a, ha, hs⟩ := h 0 y rfl
    obtain ⟨l, hl, hg, hsum⟩ := reads_build (sz := sz) (bk := bk) (G := G) els (k + 1) (fun i z hz => by have := h (i + 1) z (by simpa using hz); rwa [show k + 1 + i = k + (i + 1) by omega])
    refine ⟨a :: l, by simp [hl], fun i b hb => ?_, by simp; omega⟩
    cases i with
    | zero => simp at hb; subst hb; exact ha
    | succ i => have := hg i b (by simpa using hb); rwa [show k + 1 + i = k + (i + 1) by omega] at this
theorem cell_lt {w : World} {a : Addr} {v : Value} (h : w.cell? a = some v) : a.block < w.heap.size := by
  rcases Nat.lt_or_ge a.block w.heap.size with h' | h'
  · exact h'
  · have : w.heap[a.block]? = none := by simp [h']
    simp [World.cell?, this] at h
theorem reads_slice {t e : TypeId} {n : Nat} {α : Type} {pic : α → PV} {sz : α → Nat} (ht : P0.underlying t = some (.slice e)) (hc : ∀ a, (pic a).cells.length = P0.cellsOf e) (hp : 0 < P0.cellsOf e) (h : Reads enc w n e pic sz) :
    Reads enc w (n + 1) t (fun l : List α => PV.sl (l.map pic)) (fun l => 1 + (l.map sz).sum) := by
  intro fuel hf cs x hx
  rcases DataW.trod_slice ht hx with ⟨rfl, rfl⟩ | ⟨a, len, cap, elems, rest, m, rfl, rfl, rfl, hb, hl, hm, hlen, hel, hsp, hns⟩
  · exact ⟨[], ⟨⟨rfl, .sl0 none 0⟩, trivial⟩, by simp [Rows.uptoBulk]⟩
  · obtain ⟨l, hll, hg, hsum⟩ := reads_build (α := α) (sz := sz) (bk := fun y : DataW H × List MemPlace => Rows.uptoBulk y.1) (G := fun i a' => ∃ cs', w.cells? 0 (a.add (i * P0.cellsOf e)) (P0.cellsOf e) = some cs' ∧ RdL w (pic a').cells cs') elems 0 (fun i y hy => by
      have hi : i < len := by rw [← hlen]; exact (List.getElem?_eq_some_iff.1 hy).1
      have := hel i hi
      rw [hy] at this
      obtain ⟨cs', h1, h2⟩ := Option.bind_eq_some_iff.1 this
      obtain ⟨a', ha, hs⟩ := h m (by omega) cs' y h2
      exact ⟨a', ⟨cs', by rw [Nat.zero_add]; exact h1, ha⟩, hs⟩)
    refine ⟨l, ⟨⟨rfl, ?_⟩, trivial⟩, ?_⟩
    · by_cases h0 : 0 < len
      · have cell : ∀ (i : Nat) (y : PV) (j : Nat) (z : PV), (l.map pic)[i]? = some y → y.cells[j]? = some z → z.one = true ∧ ∃ u, w.cell? (a.add (i * P0.cellsOf e + j)) = some u ∧ Rd w (Bk w) z u := by
          intro i y j z hy hz
          rw [List.getElem?_map] at hy
          obtain ⟨a', ha', rfl⟩ := Option.map_eq_some_iff.1 hy
          obtain ⟨cs', h1, h2⟩ := hg i a' ha'
          rw [Nat.zero_add] at h1
          obtain ⟨_, hl', hcell⟩ := World.cells?_some h1
          obtain ⟨ho, u, hu, hr⟩ := h2.at j z hz
          have hj : j < P0.cellsOf e := by rw [← hl']; exact (List.getElem?_eq_some_iff.1 hu).1
          refine ⟨ho, u, ?_, hr⟩
          rw [← Sx.add_add, hcell j hj, hu]
        refine .sl _ a len cap (P0.cellsOf e) (fun i j => (w.cell? (a.add (i * P0.cellsOf e + j))).getD default) (by simp [hll, hlen]) h0 hl ?_ ?_ ?_ ?_
        · cases l with
          | nil => simp at hll; omega
          | cons b l =>
            have hcb := hc b
            obtain ⟨z, hz⟩ : ∃ z, (pic b).cells[0]? = some z := ⟨(pic b).cells[0], List.getElem?_eq_getElem (by omega)⟩
            obtain ⟨_, u, hu, _⟩ := cell 0 (pic b) 0 z rfl hz
            have := cell_lt hu
            rwa [add_block] at this
        · intro i y hy
          rw [List.getElem?_map] at hy
          obtain ⟨a', _, rfl⟩ := Option.map_eq_some_iff.1 hy
          exact hc a'
        · intro i y j z hy hz
          obtain ⟨ho, u, hu, _⟩ := cell i y j z hy hz
          exact ⟨ho, by simp [hu]⟩
        · intro i y j z hy hz
          obtain ⟨_, u, hu, hr⟩ := cell i y j z hy hz
          simpa [hu] using hr
      · have h1 : len = 0 := by omega
        have h2 : l = [] := by
          apply List.eq_nil_of_length_eq_zero
          omega
        subst h1 h2
        exact .sl0 _ _
    · simp only [Rows.uptoBulk, bulkAll_sum, List.map_map]
      have e1 : (elems.map fun y => Rows.uptoBulk y.1).sum = (elems.map (Rows.uptoBulk ∘ fun x => x.1)).sum := rfl
      omega

def Vl.bulk (v : Vl) : Nat := 4 + v.text.size
theorem fields3 {α : Type} {l : List α} (h : l.length = 3) : ∃ a b c, l = [a, b, c] := by
  match l, h with
  | [a, b, c], _ => exact ⟨a, b, c, rfl⟩
theorem fields5 {α : Type} {l : List α} (h : l.length = 5) : ∃ a b c d e, l = [a, b, c, d, e] := by
  match l, h with
  | [a, b, c, d, e], _ => exact ⟨a, b, c, d, e, rfl⟩
theorem fields7 {α : Type} {l : List α} (h : l.length = 7) : ∃ a b c d e f g, l = [a, b, c, d, e, f, g] := by
  match l, h with
  | [a, b, c, d, e, f, g], _ => exact ⟨a, b, c, d, e, f, g, rfl⟩
theorem cells3 : P0.cellsOf 3 = 1 := by kernel_rfl
theorem cells4 : P0.cellsOf 4 = 1 := by kernel_rfl
theorem cells9 : P0.cellsOf 9 = 1 := by kernel_rfl
theorem cells23 : P0.cellsOf 23 = 1 := by kernel_rfl
theorem cells25 : P0.cellsOf 25 = 1 := by kernel_rfl
theorem cells33 : P0.cellsOf 33 = 1 := by kernel_rfl
theorem cells42 : P0.cellsOf 42 = 3 := by kernel_rfl
theorem cells49 : P0.cellsOf 49 = 7 := by kernel_rfl
theorem reads_vl (n : Nat) : Reads enc w n 42 Vl.enc Vl.bulk := by
  intro fuel _ cs x hx
  obtain ⟨xs, m, rfl, rfl, hcl, hxl, hf⟩ := DataW.trod_struct (fs := _) Try.underlying42 hx
  obtain ⟨c0, c1, c2, rfl⟩ := fields3 (hcl.trans cells42)
  obtain ⟨y0, y1, y2, rfl⟩ := fields3 hxl
  have h0 : DataW.trod enc P0 w 0 (fun _ => true) true m 3 (List.take (P0.cellsOf 3) (List.drop 0 [c0, c1, c2])) = some y0 := hf 0 _ rfl
  have h1 : DataW.trod enc P0 w 0 (fun _ => true) true m 3 (List.take (P0.cellsOf 3) (List.drop 1 [c0, c1, c2])) = some y1 := hf 1 _ rfl
  have h2 : DataW.trod enc P0 w 0 (fun _ => true) true m 9 (List.take (P0.cellsOf 9) (List.drop 2 [c0, c1, c2])) = some y2 := hf 2 _ rfl
  rw [cells3] at h0 h1
  rw [cells9] at h2
  obtain ⟨k, hk, bk⟩ := reads_int (enc := enc) (w := w) (k := .i64) Try.underlying3 m m (Nat.le_refl _) [c0] y0 h0
  obtain ⟨i, hi, bi⟩ := reads_int (enc := enc) (w := w) (k := .i64) Try.underlying3 m m (Nat.le_refl _) [c1] y1 h1
  obtain ⟨t, ht, bt⟩ := reads_str (enc := enc) (w := w) Try.underlying9 m m (Nat.le_refl _) [c2] y2 h2
  refine ⟨⟨k, i, t⟩, ⟨hk.1, hi.1, ht.1, trivial⟩, ?_⟩
  have b0 : 1 ≤ Rows.uptoBulk y0.1 := bk
  have b1 : 1 ≤ Rows.uptoBulk y1.1 := bi
  have b2 : t.size + 1 ≤ Rows.uptoBulk y2.1 := bt
  simp only [Rows.uptoBulk, Rows.uptoBulkAll, List.map, Vl.bulk]
  omega
mutual
def Ex.bulk : Ex → Nat
  | .mk op int v name args => 9 + v.text.size + name.size + Ex.bulks args
def Ex.bulks : List Ex → Nat
  | [] => 0
  | e :: l => e.bulk + Ex.bulks l
end
theorem Ex.bulks_sum : ∀ l, Ex.bulks l = (l.map Ex.bulk).sum
  | [] => rfl
  | e :: l => by rw [Ex.bulks, Ex.bulks_sum l]; simp
theorem reads_ex : ∀ (n : Nat), Reads enc w n 49 Ex.enc Ex.bulk
  | 0 => fun fuel hfu cs x hx => by
    obtain rfl : fuel = 0 := by omega
    simp [DataW.trod] at hx
  | n + 1 => by
    intro fuel hfu cs x hx
    obtain ⟨xs, m, rfl, rfl, hcl, hxl, hf⟩ := DataW.trod_struct (fs := _) Try.underlying49 hx
    obtain ⟨c0, c1, c2, c3, c4, c5, c6, rfl⟩ := fields7 (hcl.trans cells49)
    obtain ⟨y0, y1, y2, y3, y4, rfl⟩ := fields5 hxl
    have h0 : DataW.trod enc P0 w 0 (fun _ => true) true m 3 (List.take (P0.cellsOf 3) (List.drop 0 [c0, c1, c2, c3, c4, c5, c6])) = some y0 := hf 0 _ rfl
    have h1 : DataW.trod enc P0 w 0 (fun _ => true) true m 3 (List.take (P0.cellsOf 3) (List.drop 1 [c0, c1, c2, c3, c4, c5, c6])) = some y1 := hf 1 _ rfl
    have h2 : DataW.trod enc P0 w 0 (fun _ => true) true m 42 (List.take (P0.cellsOf 42) (List.drop 2 [c0, c1, c2, c3, c4, c5, c6])) = some y2 := hf 2 _ rfl
    have h3 : DataW.trod enc P0 w 0 (fun _ => true) true m 9 (List.take (P0.cellsOf 9) (List.drop 5 [c0, c1, c2, c3, c4, c5, c6])) = some y3 := hf 3 _ rfl
    have h4 : DataW.trod enc P0 w 0 (fun _ => true) true m 25 (List.take (P0.cellsOf 25) (List.drop 6 [c0, c1, c2, c3, c4, c5, c6])) = some y4 := hf 4 _ rfl
    rw [cells3] at h0 h1
    rw [cells42] at h2
    rw [cells9] at h3
    rw [cells25] at h4
    obtain ⟨k, hk, bk⟩ := reads_int (enc := enc) (w := w) (k := .i64) Try.underlying3 m m (Nat.le_refl _) [c0] y0 h0
    obtain ⟨i, hi, bi⟩ := reads_int (enc := enc) (w := w) (k := .i64) Try.underlying3 m m (Nat.le_refl _) [c1] y1 h1
    obtain ⟨v, hv, bv⟩ := reads_vl m m (Nat.le_refl _) [c2, c3, c4] y2 h2
    obtain ⟨t, ht, bt⟩ := reads_str (enc := enc) (w := w) Try.underlying9 m m (Nat.le_refl _) [c5] y3 h3
    obtain ⟨l, hl, bl⟩ := (reads_slice Try.underlying25 (fun a => by rw [Ex.enc_cells, cells49]; rfl) (by rw [cells49]; decide) ((reads_ex n).mono (by omega : m ≤ n))) m (by omega) [c6] y4 h4
    refine ⟨.mk k i v t l, ?_, ?_⟩
    · rw [Ex.enc_cells]
      exact ⟨hk.1, hi.1, hv.1, hv.2.1, hv.2.2.1, ht.1, hl.1, trivial⟩
    · have b0 : 1 ≤ Rows.uptoBulk y0.1 := bk
      have b1 : 1 ≤ Rows.uptoBulk y1.1 := bi
      have b2 : 4 + v.text.size ≤ Rows.uptoBulk y2.1 := bv
      have b3 : t.size + 1 ≤ Rows.uptoBulk y3.1 := bt
      have b4 : 1 + (l.map Ex.bulk).sum ≤ Rows.uptoBulk y4.1 := bl
      simp only [Rows.uptoBulk, Rows.uptoBulkAll, List.map, Ex.bulk, Ex.bulks_sum]
      omega
mutual
theorem Ex.size_bulk : ∀ e : Ex, e.size ≤ e.bulk
  | .mk _ _ _ _ args => by have := Ex.sizes_bulks args; simp [Ex.size, Ex.bulk]; omega
theorem Ex.sizes_bulks : ∀ l, Ex.sizes l ≤ Ex.bulks l
  | [] => by simp [Ex.sizes, Ex.bulks]
  | e :: l => by have := Ex.size_bulk e; have := Ex.sizes_bulks l; simp [Ex.sizes, Ex.bulks]; omega
end
open Go.WideShapes
theorem arg_one {t : TypeId} {α : Type} {pic : α → PV} {sz : α → Nat} {v : Value} {d : DataW H} {ps : List MemPlace} (hr : ∀ n, Reads enc w n t pic sz) (hv : v.cells = #[v]) (hp : ∀ a, (pic a).cells = [pic a]) (h : DataW.Trod enc P0 w 0 (fun _ => true) true t v d ps) :
    ∃ a, Rd w (Bk w) (pic a) v ∧ sz a ≤ Rows.uptoBulk d := by
  obtain ⟨m, hm⟩ := h
  obtain ⟨a, ha, hb⟩ := hr m m (Nat.le_refl _) _ _ hm
  rw [hv, hp] at ha
  exact ⟨a, ha.1.2, hb⟩
theorem arg_agg {t : TypeId} {α : Type} {pic : α → PV} {sz : α → Nat} {us : Array Value} {d : DataW H} {ps : List MemPlace} (hr : ∀ n, Reads enc w n t pic sz) (hp : ∀ a, pic a = .agg (pic a).cells) (h : DataW.Trod enc P0 w 0 (fun _ => true) true t (.agg us) d ps) :
    ∃ a, Rd w (Bk w) (pic a) (.agg us) ∧ sz a ≤ Rows.uptoBulk d := by
  obtain ⟨m, hm⟩ := h
  obtain ⟨a, ha, hb⟩ := hr m m (Nat.le_refl _) _ _ hm
  refine ⟨a, ?_, hb⟩
  have hcs : (Value.agg us).cells.toList = us.toList := rfl
  rw [hcs] at ha
  rw [hp a]
  refine .agg _ _ (by have := ha.len; simpa using this) (fun j z hz => (ha.at j z hz).1) fun j z u hz hu => ?_
  obtain ⟨_, u', hu', hr'⟩ := ha.at j z hz
  have : us.toList[j]? = some u := by simpa using hu
  rw [this] at hu'
  cases hu'
  exact hr'
variable {W : World} {base : Nat}
theorem arg_int {v : Value} {d : DataW H} {ps : List MemPlace} (hv : Value.okWide P0 W .any base 3 v) (h : DataW.Trod enc P0 w 0 (fun _ => true) true 3 v d ps) : ∃ a : Int, Rd w (Bk w) (.int .i64 a) v ∧ 1 ≤ Rows.uptoBulk d := by
  obtain ⟨n, rfl⟩ := okWide_int Try.underlying3 hv
  exact arg_one (fun n => reads_int Try.underlying3 n) rfl (fun _ => rfl) h
theorem arg_str {v : Value} {d : DataW H} {ps : List MemPlace} (hv : Value.okWide P0 W .any base 9 v) (h : DataW.Trod enc P0 w 0 (fun _ => true) true 9 v d ps) : ∃ a : ByteArray, Rd w (Bk w) (.str a) v ∧ a.size + 1 ≤ Rows.uptoBulk d := by
  obtain ⟨n, rfl⟩ := okWide_string Try.underlying9 hv
  exact arg_one (fun n => reads_str Try.underlying9 n) rfl (fun _ => rfl) h
theorem reads_ints (n : Nat) : Reads enc w n 23 (fun l : List Int => PV.sl (l.map (PV.int .i64))) (fun l => 1 + (l.map fun _ => 1).sum) := (reads_slice Try.underlying23 (fun a => by rw [cells3]; rfl) (by rw [cells3]; decide) (reads_int Try.underlying3 n)).mono (Nat.le_succ n)
theorem reads_vals (n : Nat) : Reads enc w n 33 (fun l : List Vl => PV.sl (l.map Vl.enc)) (fun l => 1 + (l.map Vl.bulk).sum) := (reads_slice Try.underlying33 (fun a => by rw [cells42]; rfl) (by rw [cells42]; decide) (reads_vl n)).mono (Nat.le_succ n)
theorem reads_exs (n : Nat) : Reads enc w n 25 (fun l : List Ex => PV.sl (l.map Ex.enc)) (fun l => 1 + (l.map Ex.bulk).sum) := (reads_slice Try.underlying25 (fun a => by rw [Ex.enc_cells, cells49]; rfl) (by rw [cells49]; decide) (reads_ex n)).mono (Nat.le_succ n)
theorem sum_ones {α : Type} : ∀ l : List α, (l.map fun _ => 1).sum = l.length
  | [] => rfl
  | a :: l => by simp [sum_ones l]; omega
theorem arg_ints {v : Value} {d : DataW H} {ps : List MemPlace} (hv : Value.okWide P0 W .any base 23 v) (h : DataW.Trod enc P0 w 0 (fun _ => true) true 23 v d ps) : ∃ a : List Int, Rd w (Bk w) (.sl (a.map (PV.int .i64))) v ∧ 1 + a.length ≤ Rows.uptoBulk d := by
  obtain ⟨a, len, cap, rfl⟩ := okWide_slice Try.underlying23 hv
  obtain ⟨l, hl, hb⟩ := arg_one (fun n => reads_ints n) rfl (fun _ => rfl) h
  exact ⟨l, hl, by simpa only [sum_ones] using hb⟩
theorem arg_vals {v : Value} {d : DataW H} {ps : List MemPlace} (hv : Value.okWide P0 W .any base 33 v) (h : DataW.Trod enc P0 w 0 (fun _ => true) true 33 v d ps) : ∃ a : List Vl, Rd w (Bk w) (.sl (a.map Vl.enc)) v ∧ 1 + (a.map Vl.bulk).sum ≤ Rows.uptoBulk d := by
  obtain ⟨a, len, cap, rfl⟩ := okWide_slice Try.underlying33 hv
  exact arg_one (fun n => reads_vals n) rfl (fun _ => rfl) h
theorem arg_exs {v : Value} {d : DataW H} {ps : List MemPlace} (hv : Value.okWide P0 W .any base 25 v) (h : DataW.Trod enc P0 w 0 (fun _ => true) true 25 v d ps) : ∃ a : List Ex, Rd w (Bk w) (.sl (a.map Ex.enc)) v ∧ 1 + (a.map Ex.bulk).sum ≤ Rows.uptoBulk d := by
  obtain ⟨a, len, cap, rfl⟩ := okWide_slice Try.underlying25 hv
  exact arg_one (fun n => reads_exs n) rfl (fun _ => rfl) h
theorem arg_ex {v : Value} {d : DataW H} {ps : List MemPlace} (hv : Value.okWide P0 W .any base 49 v) (h : DataW.Trod enc P0 w 0 (fun _ => true) true 49 v d ps) : ∃ a : Ex, Rd w (Bk w) a.enc v ∧ a.bulk ≤ Rows.uptoBulk d := by
  obtain ⟨us, rfl, _⟩ := okWide_struct Try.underlying49 hv
  exact arg_agg (fun n => reads_ex n) (fun a => by rw [Ex.enc_cells, Ex.enc_eq]) h
end
end Go.Proofs.Ytiefnninebilbaa
/- How definitions of tables read as plain data; no condition. -/
set_option maxRecDepth 100000
set_option linter.unusedVariables false
set_option linter.unusedSimpArgs false
namespace Go.Proofs.Ytiefnninebilbaa
open Go Go.Sx
theorem cells22 : P0.cellsOf 22 = 1 := by kernel_rfl
theorem cells24 : P0.cellsOf 24 = 1 := by kernel_rfl
theorem cells27 : P0.cellsOf 27 = 5 := by kernel_rfl
theorem cells38 : P0.cellsOf 38 = 3 := by kernel_rfl
theorem cells137 : P0.cellsOf 137 = 2 := by kernel_rfl
def Col.bulk (c : Col) : Nat := 4 + c.name.size
def Fo.bulk (f : Fo) : Nat := 3 + f.cols.length + f.tab.size
def Tb.bulk (t : Tb) : Nat := 6 + t.name.size + (t.cols.map Col.bulk).sum + t.key.length + (t.fors.map Fo.bulk).sum + (t.chks.map Ex.bulk).sum
theorem fields2 {α : Type} {l : List α} (h : l.length = 2) : ∃ a b, l = [a, b] := by
  match l, h with
  | [a, b], _ => exact ⟨a, b, rfl⟩
section
variable {H : Type} {enc : TypeId × Value → H} {w : World}
theorem reads_col (n : Nat) : Reads enc w n 38 Col.enc Col.bulk := by
  intro fuel _ cs x hx
  obtain ⟨xs, m, rfl, rfl, hcl, hxl, hf⟩ := DataW.trod_struct (fs := _) Try.underlying38 hx
  obtain ⟨c0, c1, c2, rfl⟩ := fields3 (hcl.trans cells38)
  obtain ⟨y0, y1, y2, rfl⟩ := fields3 hxl
  have h0 : DataW.trod enc P0 w 0 (fun _ => true) true m 9 (List.take (P0.cellsOf 9) (List.drop 0 [c0, c1, c2])) = some y0 := hf 0 _ rfl
  have h1 : DataW.trod enc P0 w 0 (fun _ => true) true m 3 (List.take (P0.cellsOf 3) (List.drop 1 [c0, c1, c2])) = some y1 := hf 1 _ rfl
  have h2 : DataW.trod enc P0 w 0 (fun _ => true) true m 4 (List.take (P0.cellsOf 4) (List.drop 2 [c0, c1, c2])) = some y2 := hf 2 _ rfl
  rw [cells9] at h0
  rw [cells3] at h1
  rw [cells4] at h2
  obtain ⟨t, ht, bt⟩ := reads_str (enc := enc) (w := w) Try.underlying9 m m (Nat.le_refl _) [c0] y0 h0
  obtain ⟨k, hk, bk⟩ := reads_int (enc := enc) (w := w) (k := .i64) Try.underlying3 m m (Nat.le_refl _) [c1] y1 h1
  obtain ⟨b, hb, bb⟩ := reads_bool (enc := enc) (w := w) Try.underlying4 m m (Nat.le_refl _) [c2] y2 h2
  refine ⟨⟨t, k, b⟩, ⟨ht.1, hk.1, hb.1, trivial⟩, ?_⟩
  have b0 : t.size + 1 ≤ Rows.uptoBulk y0.1 := bt
  have b1 : 1 ≤ Rows.uptoBulk y1.1 := bk
  have b2 : 1 ≤ Rows.uptoBulk y2.1 := bb
  simp only [Rows.uptoBulk, Rows.uptoBulkAll, List.map, Col.bulk]
  omega
theorem reads_fo (n : Nat) : Reads enc w n 137 Fo.enc Fo.bulk := by
  intro fuel _ cs x hx
  obtain ⟨xs, m, rfl, rfl, hcl, hxl, hf⟩ := DataW.trod_struct (fs := _) Try.underlying137 hx
  obtain ⟨c0, c1, rfl⟩ := fields2 (hcl.trans cells137)
  obtain ⟨y0, y1, rfl⟩ := fields2 hxl
  have h0 : DataW.trod enc P0 w 0 (fun _ => true) true m 23 (List.take (P0.cellsOf 23) (List.drop 0 [c0, c1])) = some y0 := hf 0 _ rfl
  have h1 : DataW.trod enc P0 w 0 (fun _ => true) true m 9 (List.take (P0.cellsOf 9) (List.drop 1 [c0, c1])) = some y1 := hf 1 _ rfl
  rw [cells23] at h0
  rw [cells9] at h1
  obtain ⟨l, hl, bl⟩ := reads_ints (enc := enc) (w := w) m m (Nat.le_refl _) [c0] y0 h0
  obtain ⟨t, ht, bt⟩ := reads_str (enc := enc) (w := w) Try.underlying9 m m (Nat.le_refl _) [c1] y1 h1
  refine ⟨⟨l, t⟩, ⟨hl.1, ht.1, trivial⟩, ?_⟩
  have b0 : 1 + l.length ≤ Rows.uptoBulk y0.1 := by simpa only [sum_ones] using bl
  have b1 : t.size + 1 ≤ Rows.uptoBulk y1.1 := bt
  simp only [Rows.uptoBulk, Rows.uptoBulkAll, List.map, Fo.bulk]
  omega
theorem reads_tb (n : Nat) : Reads enc w n 27 Tb.enc Tb.bulk := by
  intro fuel _ cs x hx
  obtain ⟨xs, m, rfl, rfl, hcl, hxl, hf⟩ := DataW.trod_struct (fs := _) Try.underlying27 hx
  obtain ⟨c0, c1, c2, c3, c4, rfl⟩ := fields5 (hcl.trans cells27)
  obtain ⟨y0, y1, y2, y3, y4, rfl⟩ := fields5 hxl
  have h0 : DataW.trod enc P0 w 0 (fun _ => true) true m 9 (List.take (P0.cellsOf 9) (List.drop 0 [c0, c1, c2, c3, c4])) = some y0 := hf 0 _ rfl
  have h1 : DataW.trod enc P0 w 0 (fun _ => true) true m 22 (List.take (P0.cellsOf 22) (List.drop 1 [c0, c1, c2, c3, c4])) = some y1 := hf 1 _ rfl
  have h2 : DataW.trod enc P0 w 0 (fun _ => true) true m 23 (List.take (P0.cellsOf 23) (List.drop 2 [c0, c1, c2, c3, c4])) = some y2 := hf 2 _ rfl
  have h3 : DataW.trod enc P0 w 0 (fun _ => true) true m 24 (List.take (P0.cellsOf 24) (List.drop 3 [c0, c1, c2, c3, c4])) = some y3 := hf 3 _ rfl
  have h4 : DataW.trod enc P0 w 0 (fun _ => true) true m 25 (List.take (P0.cellsOf 25) (List.drop 4 [c0, c1, c2, c3, c4])) = some y4 := hf 4 _ rfl
  rw [cells9] at h0
  rw [cells22] at h1
  rw [cells23] at h2
  rw [cells24] at h3
  rw [cells25] at h4
  obtain ⟨t, ht, bt⟩ := reads_str (enc := enc) (w := w) Try.underlying9 m m (Nat.le_refl _) [c0] y0 h0
  obtain ⟨l1, hl1, b1⟩ := (reads_slice Try.underlying22 (fun a => by rw [Col.enc_cells, cells38]; rfl) (by rw [cells38]; decide) (reads_col m)) m (by omega) [c1] y1 h1
  obtain ⟨l2, hl2, b2⟩ := reads_ints (enc := enc) (w := w) m m (Nat.le_refl _) [c2] y2 h2
  obtain ⟨l3, hl3, b3⟩ := (reads_slice Try.underlying24 (fun a => by rw [Fo.enc_cells, cells137]; rfl) (by rw [cells137]; decide) (reads_fo m)) m (by omega) [c3] y3 h3
  obtain ⟨l4, hl4, b4⟩ := reads_exs (enc := enc) (w := w) m m (Nat.le_refl _) [c4] y4 h4
  refine ⟨⟨t, l1, l2, l3, l4⟩, ?_, ?_⟩
  · rw [Tb.enc_cells]
    exact ⟨ht.1, hl1.1, hl2.1, hl3.1, hl4.1, trivial⟩
  · have b0 : t.size + 1 ≤ Rows.uptoBulk y0.1 := bt
    have b1' : 1 + (l1.map Col.bulk).sum ≤ Rows.uptoBulk y1.1 := b1
    have b2' : 1 + l2.length ≤ Rows.uptoBulk y2.1 := by simpa only [sum_ones] using b2
    have b3' : 1 + (l3.map Fo.bulk).sum ≤ Rows.uptoBulk y3.1 := b3
    have b4' : 1 + (l4.map Ex.bulk).sum ≤ Rows.uptoBulk y4.1 := b4
    simp only [Rows.uptoBulk, Rows.uptoBulkAll, List.map, Tb.bulk]
    omega
open Go.WideShapes
variable {W : World} {base : Nat}
theorem arg_table {v : Value} {d : DataW H} {ps : List MemPlace} (hv : Value.okWide P0 W .any base 27 v) (h : DataW.Trod enc P0 w 0 (fun _ => true) true 27 v d ps) : ∃ a : Tb, Rd w (Bk w) a.enc v ∧ a.bulk ≤ Rows.uptoBulk d := by
  obtain ⟨us, rfl, _⟩ := okWide_struct Try.underlying27 hv
  exact arg_agg (fun n => reads_tb n) (fun a => rfl) h
end
theorem mem_sum {α : Type} (f : α → Nat) : ∀ (l : List α) (a : α), a ∈ l → f a ≤ (l.map f).sum
  | b :: l, a, h => by
    simp only [List.map_cons, List.sum_cons]
    rcases List.mem_cons.1 h with rfl | h
    · omega
    · have := mem_sum f l a h; omega
theorem len_sum {α : Type} (f : α → Nat) (h : ∀ a, 1 ≤ f a) : ∀ (l : List α), l.length ≤ (l.map f).sum
  | [] => by simp
  | b :: l => by have := len_sum f h l; have := h b; simp only [List.length_cons, List.map_cons, List.sum_cons]; omega
theorem Ex.bulk_pos : ∀ e : Ex, 1 ≤ e.bulk
  | .mk _ _ _ _ _ => by simp only [Ex.bulk]; omega
theorem Tb.bulk_ok (t : Tb) (h : t.bulk ≤ 1048576) : t.Ok := by
  have h' := h
  unfold Tb.bulk at h'
  have c1 := len_sum Col.bulk (fun a => by unfold Col.bulk; omega) t.cols
  have c2 := len_sum Fo.bulk (fun a => by unfold Fo.bulk; omega) t.fors
  have c3 := len_sum Ex.bulk Ex.bulk_pos t.chks
  refine ⟨by omega, by omega, fun c hc => ?_, by omega, by omega, fun f hf => ?_, fun f hf => ?_, by omega, fun x hx => ?_⟩
  · have := mem_sum Col.bulk t.cols c hc; have e : Col.bulk c = 4 + c.name.size := rfl; omega
  · have := mem_sum Fo.bulk t.fors f hf; have e : Fo.bulk f = 3 + f.cols.length + f.tab.size := rfl; omega
  · have := mem_sum Fo.bulk t.fors f hf; have e : Fo.bulk f = 3 + f.cols.length + f.tab.size := rfl; omega
  · have := mem_sum Ex.bulk t.chks x hx; have := x.size_bulk; omega
end Go.Proofs.Ytiefnninebilbaa
/- The value of an accepted expression for a row that fits has the kind that the checking returns, or is a null; no condition. -/
set_option maxRecDepth 100000
set_option linter.unusedVariables false
set_option linter.unusedSimpArgs false
namespace Go.Proofs.Ytiefnninebilbaa
open Go Go.Sx

def fitsRow : List Vl → List Int → Bool
  | [], [] => true
  | v :: row, k :: kinds => v.valid && (decide (v.kind = 0) || decide (v.kind = k)) && fitsRow row kinds
  | _, _ => false
theorem fitsRow_len : ∀ {row : List Vl} {kinds : List Int}, fitsRow row kinds = true → row.length = kinds.length
  | [], [], _ => rfl
  | v :: row, k :: kinds, h => by
    simp only [fitsRow, Bool.and_eq_true] at h
    simp [fitsRow_len h.2]
  | [], _ :: _, h => by simp [fitsRow] at h
  | _ :: _, [], h => by simp [fitsRow] at h
theorem fitsRow_at : ∀ {row : List Vl} {kinds : List Int} (i : Nat), fitsRow row kinds = true → i < row.length → (row[i]?.getD Vl.null).valid = true ∧ ((row[i]?.getD Vl.null).kind = 0 ∨ (row[i]?.getD Vl.null).kind = kinds[i]?.getD 0)
  | v :: row, k :: kinds, 0, h, _ => by
    simp only [fitsRow, Bool.and_eq_true, Bool.or_eq_true, decide_eq_true_eq] at h
    simpa using h.1
  | v :: row, k :: kinds, i + 1, h, hi => by
    simp only [fitsRow, Bool.and_eq_true] at h
    simpa using fitsRow_at i h.2 (by simpa using hi)
  | [], [], i, _, hi => by simp at hi
  | [], _ :: _, i, h, _ => by simp [fitsRow] at h
  | _ :: _, [], i, h, _ => by simp [fitsRow] at h
def KindIs (v : Vl) (k : Int) : Prop := v.kind = k ∨ v.kind = 0
theorem null_kind : Vl.null.kind = 0 := rfl
theorem orNull_kind (v : Vl) : KindIs v.orNull v.kind := by
  unfold Vl.orNull KindIs
  split
  · exact .inl rfl
  · exact .inr rfl
theorem bool_kind (b : Bool) : (Vl.bool b).kind = 3 := rfl
theorem of_kind (t : Int) : KindIs (Vl.of t) 3 := by
  unfold Vl.of KindIs
  split
  · exact .inr rfl
  · exact .inl rfl
theorem num_kind (n : Int) : KindIs (Vl.num n) 1 := orNull_kind _
theorem txt_kind (s : ByteArray) : KindIs (Vl.txt s) 2 := orNull_kind _
theorem kind_null (k : Int) : KindIs Vl.null k := .inr rfl
inductive Kinds : List Vl → List Int → Prop where
  | nil : Kinds [] []
  | cons {v : Vl} {k : Int} {l : List Vl} {ks : List Int} : KindIs v k → Kinds l ks → Kinds (v :: l) (k :: ks)
theorem Kinds.nth : ∀ {l : List Vl} {ks : List Int}, Kinds l ks → ∀ i : Nat, i < l.length → ∃ k, ks[i]? = some k ∧ KindIs (nth l i) k
  | _, _, .cons h _, 0, _ => ⟨_, rfl, h⟩
  | _, _, .cons (l := l) _ h, i + 1, hi => by simpa [Go.Proofs.Ytiefnninebilbaa.nth] using Kinds.nth h i (by simpa using hi)
  | _, _, .nil, i, hi => by simp at hi
theorem Kinds.len : ∀ {l : List Vl} {ks : List Int}, Kinds l ks → l.length = ks.length
  | _, _, .nil => rfl
  | _, _, .cons _ h => by simp [Kinds.len h]
theorem unite_fit : ∀ (ks : List Int) (k0 k : Int), unite ks k0 = (k, true) → (k0 ≠ 0 → k = k0) ∧ ∀ x ∈ ks, x = 0 ∨ x = k
  | [], k0, k, h => by
    simp [unite] at h
    exact ⟨fun _ => h.symm, fun x hx => by simp at hx⟩
  | x :: ks, k0, k, h => by
    by_cases hx : x = 0
    · simp only [unite, hx, if_true] at h
      obtain ⟨h1, h2⟩ := unite_fit ks k0 k h
      exact ⟨h1, fun y hy => by
        rcases List.mem_cons.1 hy with rfl | hy
        · exact .inl hx
        · exact h2 y hy⟩
    · simp only [unite, hx, if_false] at h
      split at h
      · cases h
      · rename_i hc
        obtain ⟨h1, h2⟩ := unite_fit ks x k h
        have hk := h1 hx
        refine ⟨fun h0 => ?_, fun y hy => ?_⟩
        · by_cases e : k0 = x
          · rw [e, hk]
          · exact absurd ⟨h0, e⟩ hc
        · rcases List.mem_cons.1 hy with rfl | hy
          · exact .inr hk.symm
          · exact h2 y hy
theorem firstV_kind {k : Int} : ∀ {l : List Vl} {ks : List Int}, Kinds l ks → (∀ x ∈ ks, x = 0 ∨ x = k) → KindIs (firstV l) k
  | _, _, .nil, _ => .inr rfl
  | _, _, .cons (v := v) (k := x) h hr, hk => by
    unfold firstV
    split
    · rename_i hv
      rcases h with h | h
      · rcases hk x (by simp) with h0 | h0
        · rw [h0] at h; exact absurd h hv
        · exact .inl (h.trans h0)
      · exact absurd h hv
    · exact firstV_kind hr fun y hy => hk y (by simp [hy])
theorem checks_kinds {kinds : List Int} {row : List Vl} : ∀ (l : List Ex) (acc : List Int) (ks : List Int), (∀ x ∈ l, (x.check kinds).2 = 0 → KindIs (x.eval row) (x.check kinds).1) → Ex.checks kinds l acc = (0, ks) →
    ∃ ks', ks = acc ++ ks' ∧ Kinds (l.map (Ex.eval row)) ks'
  | [], acc, ks, _, h => by
    simp [Ex.checks] at h
    exact ⟨[], by simp [h], .nil⟩
  | x :: l, acc, ks, hx, h => by
    rw [Ex.checks] at h
    split at h
    · rename_i hne
      exact absurd (congrArg Prod.fst h) hne
    · rename_i he
      have he' : (x.check kinds).2 = 0 := by simpa using he
      obtain ⟨ks', rfl, hk⟩ := checks_kinds l _ ks (fun y hy => hx y (by simp [hy])) h
      exact ⟨(x.check kinds).1 :: ks', by simp, .cons (hx x (by simp) he') hk⟩
theorem KindIs.of_le {v : Vl} {x k : Int} (h : KindIs v x) (hx : x = 0 ∨ x = k) : KindIs v k := by
  rcases h with h | h
  · rcases hx with rfl | rfl
    · exact .inr h
    · exact .inl h
  · exact .inr h
theorem evalOp_kind {row : List Vl} {op int : Int} {v : Vl} {l : List Vl} {ks : List Int} {k : Int} (h2 : op ≠ 2) (hl : fitsN op l.length = true) (hk : Kinds l ks) (hr : resultK op v.kind ks = (k, true)) : KindIs (evalOp row op int v l) k := by
  have hlen := hk.len
  unfold evalOp
  unfold resultK at hr
  by_cases h1 : op = 1
  · simp only [h1, if_true] at hr ⊢
    exact .inl (by simpa using congrArg Prod.fst hr)
  rw [if_neg h1] at hr ⊢
  rw [if_neg h2]
  by_cases h22 : op = 22
  · have e3 : l.length = 3 := by
      subst h22
      have : (l.length : Int) = 3 := by simpa [fitsN] using hl
      omega
    subst h22
    simp only [if_true] at hr ⊢
    rw [if_neg (by decide), if_neg (by decide), if_neg (by decide), if_neg (by decide), if_neg (by decide)] at hr
    simp only [Prod.mk.injEq, Bool.and_eq_true] at hr
    obtain ⟨hr1, hr2, _⟩ := hr
    obtain ⟨_, hu⟩ := unite_fit (ks.drop 1) 0 k (Prod.ext hr1 hr2)
    obtain ⟨k1, e1, n1⟩ := hk.nth 1 (by omega)
    obtain ⟨k2, e2, n2⟩ := hk.nth 2 (by omega)
    split
    · exact n1.of_le (hu k1 (List.mem_of_getElem? (i := 0) (by simpa using e1)))
    · exact n2.of_le (hu k2 (List.mem_of_getElem? (i := 1) (by simpa using e2)))
  rw [if_neg h22]
  by_cases h4 : op = 4 ∨ op = 5 ∨ op = 6
  · rw [if_pos h4] at hr ⊢
    have : k = 3 := by simpa using (congrArg Prod.fst hr).symm
    subst this
    unfold logicV
    (repeat' split) <;> exact of_kind _
  rw [if_neg h4] at hr ⊢
  by_cases h7 : op = 7 ∨ op = 8 ∨ op = 9 ∨ op = 10 ∨ op = 11 ∨ op = 12
  · rw [if_pos h7] at hr
    have : k = 3 := by simpa using (congrArg Prod.fst hr).symm
    subst this
    rw [if_neg (by omega), if_neg (by omega), if_neg (by omega), if_neg (by omega), if_neg (by omega)]
    exact of_kind _
  rw [if_neg h7] at hr
  by_cases h21 : op = 21
  · rw [if_pos h21]
    rw [if_neg (by omega), if_neg (by omega), if_pos h21] at hr
    have : k = 3 := by simpa using (congrArg Prod.fst hr).symm
    subst this
    exact .inl rfl
  rw [if_neg h21]
  by_cases h23 : op = 23
  · rw [if_pos h23]
    rw [if_neg (by omega), if_neg (by omega), if_neg (by omega), if_neg (by omega), if_pos h23] at hr
    exact firstV_kind hk (unite_fit ks 0 k hr).2
  rw [if_neg h23]
  by_cases h24 : op = 24
  · rw [if_pos h24]
    rw [if_neg (by omega), if_neg (by omega), if_neg (by omega), if_neg (by omega), if_neg (by omega), if_pos h24] at hr
    have : k = 3 := by simpa using (congrArg Prod.fst hr).symm
    subst this
    unfold related
    split
    · exact .inl rfl
    · exact .inr rfl
  rw [if_neg h24]
  by_cases h19 : op = 19
  · rw [if_pos (.inl h19)]
    rw [if_pos h19] at hr
    have : k = 2 := by simpa using (congrArg Prod.fst hr).symm
    subst this
    unfold textV
    split
    · first | exact txt_kind _ | (rw [if_neg (by omega)]; exact txt_kind _)
    · exact .inr rfl
  rw [if_neg h19] at hr
  by_cases h20 : op = 20
  · rw [if_pos (.inr h20)]
    rw [if_pos h20] at hr
    have : k = 1 := by simpa using (congrArg Prod.fst hr).symm
    subst this
    unfold textV
    split
    · first | exact num_kind _ | (rw [if_pos h20]; exact num_kind _)
    · exact .inr rfl
  rw [if_neg (by omega)]
  rw [if_neg h20, if_neg h21, if_neg h22, if_neg h23, if_neg h24] at hr
  have : k = 1 := by simpa using (congrArg Prod.fst hr).symm
  subst this
  split
  · unfold arith computed product
    (repeat' split) <;> first | exact .inr rfl | exact num_kind _
  · rename_i hne
    exfalso
    unfold fitsN at hl
    repeat (first | rw [if_neg (by omega)] at hl | (rw [if_pos (by omega)] at hl; omega))
    simp at hl
theorem check_kind {kinds : List Int} {row : List Vl} (hfit : fitsRow row kinds = true) (e : Ex) : (e.check kinds).2 = 0 → KindIs (e.eval row) (e.check kinds).1 := by
  induction e using Ex.ind with
  | h e ih =>
    intro hc
    rw [Ex.eval_eq]
    rw [Ex.check_eq] at hc ⊢
    by_cases hk : known e.op = false
    · rw [if_pos hk] at hc; simp at hc
    rw [if_neg hk] at hc ⊢
    by_cases hf : e.formed = false
    · rw [if_pos hf] at hc; simp at hc
    rw [if_neg hf] at hc ⊢
    have hf' : e.formed = true := by simpa using hf
    rw [if_pos hf']
    by_cases h2 : e.op = 2
    · rw [if_pos h2] at hc ⊢
      by_cases hi : e.int < 0 ∨ (kinds.length : Int) ≤ e.int
      · rw [if_pos hi] at hc; simp at hc
      rw [if_neg hi]
      have hlen := fitsRow_len hfit
      have hi' : ¬ (e.int < 0 ∨ (row.length : Int) ≤ e.int) := by omega
      obtain ⟨hv, hkd⟩ := fitsRow_at e.int.toNat hfit (by omega)
      simp only [evalOp, h2, if_true]
      rw [if_neg (by decide)]
      unfold column Vl.at
      rw [if_neg hi']
      unfold Vl.orNull
      rw [if_pos hv]
      exact hkd.symm
    rw [if_neg h2] at hc ⊢
    by_cases h0 : (Ex.checks kinds e.args []).1 ≠ 0
    · rw [if_pos h0] at hc; exact absurd hc h0
    rw [if_neg h0] at hc ⊢
    have h0' : (Ex.checks kinds e.args []).1 = 0 := by simpa using h0
    obtain ⟨ks, hks, hkk⟩ := checks_kinds (row := row) e.args [] (Ex.checks kinds e.args []).2 ih (Prod.ext h0' rfl)
    rw [List.nil_append] at hks
    rw [hks] at hc ⊢
    by_cases hr : (resultK e.op e.val.kind ks).2 = true
    · rw [if_pos hr]
      exact evalOp_kind h2 (by rw [List.length_map]; exact formed_len hf') hkk (Prod.ext rfl hr)
    · rw [if_neg hr] at hc; simp at hc
end Go.Proofs.Ytiefnninebilbaa
/- A row fits kinds: what the reference returns; no condition. -/
set_option maxRecDepth 100000
set_option linter.unusedVariables false
set_option linter.unusedSimpArgs false
namespace Go.Proofs.Ytiefnninebilbaa
open Go Go.Sx

theorem ok28 : okCode M0 Try.f28.ntmps (Try.f28.body.getD .skip) = true := by decide +kernel
theorem fits_fn (row : List Vl) (kinds : List Int) (hl : row.length ≤ 1000000000) : Fc 28 [.sl (row.map Vl.enc), .sl (kinds.map (.int .i64))] (.bool (fitsRow row kinds)) := by
  refine fn_of_awp (E := E0) (M := M0) follows Try.func28 rfl (by decide) ok28 (by decide) (by simp) fun o ho => ?_
  simp only [go_sem, Nat.reduceEqDiff, Nat.reduceAdd, Nat.reduceSub, Nat.reduceLeDiff, Nat.reduceLT, Nat.reduceMul, Nat.reduceBEq, Int.reduceEq, Int.reduceLT, Int.reduceLE, Int.reduceNeg, Int.reduceToNat, reduceCtorEq, ho, Try.results28, List.length_map]
  by_cases hlen : row.length = kinds.length
  · have hlen' : (row.length : Int) = (kinds.length : Int) := by omega
    simp only [go_sem, Nat.reduceEqDiff, Nat.reduceAdd, Nat.reduceSub, Nat.reduceLeDiff, Nat.reduceLT, Nat.reduceMul, Nat.reduceBEq, Int.reduceEq, Int.reduceLT, Int.reduceLE, Int.reduceNeg, Int.reduceToNat, reduceCtorEq, ho, Try.results28, hlen']
    refine ⟨fun n st => ∃ (d1 r1 : List Vl) (d2 r2 : List Int), row = d1 ++ r1 ∧ kinds = d2 ++ r2 ∧ d1.length = d2.length ∧ r1.length = n ∧ fitsRow r1 r2 = fitsRow row kinds ∧ st.s 5 = .int .i64 d1.length ∧ st.s 0 = .sl (row.map Vl.enc) ∧ st.s 1 = .sl (kinds.map (.int .i64)), row.length,
      ⟨[], row, [], kinds, rfl, rfl, rfl, rfl, rfl, by simp only [go_sem, Nat.reduceEqDiff, Nat.reduceAdd, Nat.reduceSub, Nat.reduceLeDiff, Nat.reduceLT, Nat.reduceMul, Nat.reduceBEq, Int.reduceEq, Int.reduceLT, Int.reduceLE, Int.reduceNeg, Int.reduceToNat, reduceCtorEq, ho, Try.results28]; rfl, by simp only [go_sem, Nat.reduceEqDiff, Nat.reduceAdd, Nat.reduceSub, Nat.reduceLeDiff, Nat.reduceLT, Nat.reduceMul, Nat.reduceBEq, Int.reduceEq, Int.reduceLT, Int.reduceLE, Int.reduceNeg, Int.reduceToNat, reduceCtorEq, ho, Try.results28], by simp only [go_sem, Nat.reduceEqDiff, Nat.reduceAdd, Nat.reduceSub, Nat.reduceLeDiff, Nat.reduceLT, Nat.reduceMul, Nat.reduceBEq, Int.reduceEq, Int.reduceLT, Int.reduceLE, Int.reduceNeg, Int.reduceToNat, reduceCtorEq, ho, Try.results28]⟩, ?_⟩
    rintro n st ⟨d1, r1, d2, r2, h1, h2, hd, hn, hf, h5, hs0, hs1⟩
    have hl1 : d1.length + r1.length = row.length := by rw [h1]; simp
    have hl2 : d2.length + r2.length = kinds.length := by rw [h2]; simp
    have hw : IntKind.i64.wrap ((d1.length : Int) + 1) = (d1.length : Int) + 1 := wrap_fits (by omega) (by omega)
    cases r1 with
    | nil =>
      have hlt : ¬ (d1.length : Int) < (row.length : Int) := by simp at hl1; omega
      obtain rfl : r2 = [] := List.eq_nil_of_length_eq_zero (by simp at hl1; omega)
      simp only [go_sem, Nat.reduceEqDiff, Nat.reduceAdd, Nat.reduceSub, Nat.reduceLeDiff, Nat.reduceLT, Nat.reduceMul, Nat.reduceBEq, Int.reduceEq, Int.reduceLT, Int.reduceLE, Int.reduceNeg, Int.reduceToNat, reduceCtorEq, ho, Try.results28, h5, hs0, hlt, List.length_map]
      rw [← hf]; rfl
    | cons v r1 =>
      cases r2 with
      | nil => simp at hl1 hl2; omega
      | cons k r2 =>
        have hlt : (d1.length : Int) < (row.length : Int) := by simp at hl1; omega
        have hget := vals_get h1
        have hget2 : (kinds.map (PV.int .i64))[d1.length]? = some (.int .i64 k) := by rw [hd, h2]; simp
        rw [fitsRow] at hf
        simp only [go_sem, Nat.reduceEqDiff, Nat.reduceAdd, Nat.reduceSub, Nat.reduceLeDiff, Nat.reduceLT, Nat.reduceMul, Nat.reduceBEq, Int.reduceEq, Int.reduceLT, Int.reduceLE, Int.reduceNeg, Int.reduceToNat, reduceCtorEq, ho, Try.results28, h5, hs0, hs1, hlt, List.length_map, hget, hget2, Int.natCast_nonneg, Int.toNat_natCast]
        refine QCall.fr ?_ (rvalid_fn v) (.inl rfl) ?_; (focus (first | rfl | ((simp only [go_sem, Nat.reduceEqDiff, Nat.reduceAdd, Nat.reduceSub, Nat.reduceLeDiff, Nat.reduceLT, Nat.reduceMul, Nat.reduceBEq, Int.reduceEq, Int.reduceLT, Int.reduceLE, Int.reduceNeg, Int.reduceToNat, reduceCtorEq, ho, Try.results28]); done) | ((simp only [go_sem, Nat.reduceEqDiff, Nat.reduceAdd, Nat.reduceSub, Nat.reduceLeDiff, Nat.reduceLT, Nat.reduceMul, Nat.reduceBEq, Int.reduceEq, Int.reduceLT, Int.reduceLE, Int.reduceNeg, Int.reduceToNat, reduceCtorEq, ho, Try.results28]); rfl)))
        simp only [go_sem, Nat.reduceEqDiff, Nat.reduceAdd, Nat.reduceSub, Nat.reduceLeDiff, Nat.reduceLT, Nat.reduceMul, Nat.reduceBEq, Int.reduceEq, Int.reduceLT, Int.reduceLE, Int.reduceNeg, Int.reduceToNat, reduceCtorEq, ho, Try.results28, h5, hs0, hs1, hget, hget2, Int.natCast_nonneg, Int.toNat_natCast, Vl.enc]
        have next : v.valid = true → (v.kind = 0 ∨ v.kind = k) → ∃ m, m < n ∧ ∃ (d1' r1 : List Vl) (d2 r2 : List Int), row = d1' ++ r1 ∧ kinds = d2 ++ r2 ∧ d1'.length = d2.length ∧ r1.length = m ∧ fitsRow r1 r2 = fitsRow row kinds ∧ ((d1.length : Int) + 1 = (d1'.length : Int)) := fun hv hk => ⟨r1.length, by simp at hn; omega, d1 ++ [v], r1, d2 ++ [k], r2, by simp [h1], by simp [h2], by simp [hd], rfl, by rw [← hf]; rcases hk with hk | hk <;> simp [hv, hk], by simp⟩
        repeat' (first | (refine AIf_cases (fun h => ?_) (fun h => ?_) <;> (try simp only [decide_eq_true_eq, decide_eq_false_iff_not, Bool.not_eq_true', Bool.not_eq_false', Bool.not_eq_true, Bool.not_eq_false] at h) <;> (try simp only [go_sem, Nat.reduceEqDiff, Nat.reduceAdd, Nat.reduceSub, Nat.reduceLeDiff, Nat.reduceLT, Nat.reduceMul, Nat.reduceBEq, Int.reduceEq, Int.reduceLT, Int.reduceLE, Int.reduceNeg, Int.reduceToNat, reduceCtorEq, ho, Try.results28, h, h5, hs0, hs1, hget, hget2, hw, Int.natCast_nonneg, Int.toNat_natCast, Vl.enc])))
        all_goals (first | exact next ‹_› (.inl ‹_›) | exact next ‹_› (.inr ‹_›) | (rw [← hf]; simp [*]))
  · have hlen' : ¬ (row.length : Int) = (kinds.length : Int) := by omega
    simp only [go_sem, Nat.reduceEqDiff, Nat.reduceAdd, Nat.reduceSub, Nat.reduceLeDiff, Nat.reduceLT, Nat.reduceMul, Nat.reduceBEq, Int.reduceEq, Int.reduceLT, Int.reduceLE, Int.reduceNeg, Int.reduceToNat, reduceCtorEq, ho, Try.results28, hlen']
    cases hf : fitsRow row kinds with
    | false => rfl
    | true => exact absurd (fitsRow_len hf) hlen
theorem len_bulk : ∀ l : List Vl, l.length ≤ (l.map Vl.bulk).sum
  | [] => by simp
  | v :: l => by have := len_bulk l; simp [Vl.bulk]; omega
end Go.Proofs.Ytiefnninebilbaa
/- The law's functions on definitions of tables return true; no condition. -/
set_option maxRecDepth 100000
set_option linter.unusedVariables false
set_option linter.unusedSimpArgs false
namespace Go.Proofs.Ytiefnninebilbaa
open Go Go.Sx

theorem ok3 : okCode M0 Try.f3.ntmps (Try.f3.body.getD .skip) = true := by decide +kernel
theorem schemaChecks_fn (s : ByteArray) (t : Tb) (h : s.size + t.bulk ≤ 1048576) : Fc 3 [.str s, t.enc] (.bool true) := by
  have hk := t.bulk_ok (by omega)
  refine fn_of_awp (E := E0) (M := M0) follows Try.func3 rfl (by decide) ok3 (by decide) (by simp) fun o ho => ?_
  simp only [go_sem, Nat.reduceEqDiff, Nat.reduceAdd, Nat.reduceSub, Nat.reduceLeDiff, Nat.reduceLT, Nat.reduceMul, Nat.reduceBEq, Int.reduceEq, Int.reduceLT, Int.reduceLE, Int.reduceNeg, Int.reduceToNat, reduceCtorEq, ho, Try.results3, Tb.enc]
  refine QCall.fr ?_ (name_fn s (by omega)) (.inl rfl) ?_; (focus (first | rfl | ((simp only [go_sem, Nat.reduceEqDiff, Nat.reduceAdd, Nat.reduceSub, Nat.reduceLeDiff, Nat.reduceLT, Nat.reduceMul, Nat.reduceBEq, Int.reduceEq, Int.reduceLT, Int.reduceLE, Int.reduceNeg, Int.reduceToNat, reduceCtorEq, ho, Try.results3]); done) | ((simp only [go_sem, Nat.reduceEqDiff, Nat.reduceAdd, Nat.reduceSub, Nat.reduceLeDiff, Nat.reduceLT, Nat.reduceMul, Nat.reduceBEq, Int.reduceEq, Int.reduceLT, Int.reduceLE, Int.reduceNeg, Int.reduceToNat, reduceCtorEq, ho, Try.results3]); rfl)))
  simp only [go_sem, Nat.reduceEqDiff, Nat.reduceAdd, Nat.reduceSub, Nat.reduceLeDiff, Nat.reduceLT, Nat.reduceMul, Nat.reduceBEq, Int.reduceEq, Int.reduceLT, Int.reduceLE, Int.reduceNeg, Int.reduceToNat, reduceCtorEq, ho, Try.results3]
  refine QCall.fr ?_ (rname_fn s (by omega)) (.inl rfl) ?_; (focus (first | rfl | ((simp only [go_sem, Nat.reduceEqDiff, Nat.reduceAdd, Nat.reduceSub, Nat.reduceLeDiff, Nat.reduceLT, Nat.reduceMul, Nat.reduceBEq, Int.reduceEq, Int.reduceLT, Int.reduceLE, Int.reduceNeg, Int.reduceToNat, reduceCtorEq, ho, Try.results3]); done) | ((simp only [go_sem, Nat.reduceEqDiff, Nat.reduceAdd, Nat.reduceSub, Nat.reduceLeDiff, Nat.reduceLT, Nat.reduceMul, Nat.reduceBEq, Int.reduceEq, Int.reduceLT, Int.reduceLE, Int.reduceNeg, Int.reduceToNat, reduceCtorEq, ho, Try.results3]); rfl)))
  simp only [go_sem, Nat.reduceEqDiff, Nat.reduceAdd, Nat.reduceSub, Nat.reduceLeDiff, Nat.reduceLT, Nat.reduceMul, Nat.reduceBEq, Int.reduceEq, Int.reduceLT, Int.reduceLE, Int.reduceNeg, Int.reduceToNat, reduceCtorEq, ho, Try.results3, decide_true, eq_self]
  refine QCall.fr ?_ (tcheck_fn t hk) (.inl rfl) ?_; (focus (first | rfl | ((simp only [go_sem, Nat.reduceEqDiff, Nat.reduceAdd, Nat.reduceSub, Nat.reduceLeDiff, Nat.reduceLT, Nat.reduceMul, Nat.reduceBEq, Int.reduceEq, Int.reduceLT, Int.reduceLE, Int.reduceNeg, Int.reduceToNat, reduceCtorEq, ho, Try.results3, Tb.enc]); done) | ((simp only [go_sem, Nat.reduceEqDiff, Nat.reduceAdd, Nat.reduceSub, Nat.reduceLeDiff, Nat.reduceLT, Nat.reduceMul, Nat.reduceBEq, Int.reduceEq, Int.reduceLT, Int.reduceLE, Int.reduceNeg, Int.reduceToNat, reduceCtorEq, ho, Try.results3, Tb.enc]); rfl)))
  simp only [go_sem, Nat.reduceEqDiff, Nat.reduceAdd, Nat.reduceSub, Nat.reduceLeDiff, Nat.reduceLT, Nat.reduceMul, Nat.reduceBEq, Int.reduceEq, Int.reduceLT, Int.reduceLE, Int.reduceNeg, Int.reduceToNat, reduceCtorEq, ho, Try.results3]
  refine QCall.fr ?_ (rtcheck_fn t hk) (.inl rfl) ?_; (focus (first | rfl | ((simp only [go_sem, Nat.reduceEqDiff, Nat.reduceAdd, Nat.reduceSub, Nat.reduceLeDiff, Nat.reduceLT, Nat.reduceMul, Nat.reduceBEq, Int.reduceEq, Int.reduceLT, Int.reduceLE, Int.reduceNeg, Int.reduceToNat, reduceCtorEq, ho, Try.results3, Tb.enc]); done) | ((simp only [go_sem, Nat.reduceEqDiff, Nat.reduceAdd, Nat.reduceSub, Nat.reduceLeDiff, Nat.reduceLT, Nat.reduceMul, Nat.reduceBEq, Int.reduceEq, Int.reduceLT, Int.reduceLE, Int.reduceNeg, Int.reduceToNat, reduceCtorEq, ho, Try.results3, Tb.enc]); rfl)))
  simp only [go_sem, Nat.reduceEqDiff, Nat.reduceAdd, Nat.reduceSub, Nat.reduceLeDiff, Nat.reduceLT, Nat.reduceMul, Nat.reduceBEq, Int.reduceEq, Int.reduceLT, Int.reduceLE, Int.reduceNeg, Int.reduceToNat, reduceCtorEq, ho, Try.results3, decide_true, eq_self]
  refine QCall.fr ?_ (awakeS_fn) (.inl rfl) ?_; (focus (first | rfl | ((simp only [go_sem, Nat.reduceEqDiff, Nat.reduceAdd, Nat.reduceSub, Nat.reduceLeDiff, Nat.reduceLT, Nat.reduceMul, Nat.reduceBEq, Int.reduceEq, Int.reduceLT, Int.reduceLE, Int.reduceNeg, Int.reduceToNat, reduceCtorEq, ho, Try.results3]); done) | ((simp only [go_sem, Nat.reduceEqDiff, Nat.reduceAdd, Nat.reduceSub, Nat.reduceLeDiff, Nat.reduceLT, Nat.reduceMul, Nat.reduceBEq, Int.reduceEq, Int.reduceLT, Int.reduceLE, Int.reduceNeg, Int.reduceToNat, reduceCtorEq, ho, Try.results3]); rfl)))
  simp only [go_sem, Nat.reduceEqDiff, Nat.reduceAdd, Nat.reduceSub, Nat.reduceLeDiff, Nat.reduceLT, Nat.reduceMul, Nat.reduceBEq, Int.reduceEq, Int.reduceLT, Int.reduceLE, Int.reduceNeg, Int.reduceToNat, reduceCtorEq, ho, Try.results3]
theorem ok4 : okCode M0 Try.f4.ntmps (Try.f4.body.getD .skip) = true := by decide +kernel
theorem schemaAccepts_fn (t : Tb) (row : List Vl) (h : t.bulk + (row.map Vl.bulk).sum ≤ 1048576) : Fc 4 [t.enc, .sl (row.map Vl.enc)] (.bool true) := by
  have hr := len_bulk row
  refine fn_of_awp (E := E0) (M := M0) follows Try.func4 rfl (by decide) ok4 (by decide) (by simp) fun o ho => ?_
  simp only [go_sem, Nat.reduceEqDiff, Nat.reduceAdd, Nat.reduceSub, Nat.reduceLeDiff, Nat.reduceLT, Nat.reduceMul, Nat.reduceBEq, Int.reduceEq, Int.reduceLT, Int.reduceLE, Int.reduceNeg, Int.reduceToNat, reduceCtorEq, ho, Try.results4, Tb.enc]
  refine QCall.fr ?_ (accepts_fn t row (by omega)) (.inl rfl) ?_; (focus (first | rfl | ((simp only [go_sem, Nat.reduceEqDiff, Nat.reduceAdd, Nat.reduceSub, Nat.reduceLeDiff, Nat.reduceLT, Nat.reduceMul, Nat.reduceBEq, Int.reduceEq, Int.reduceLT, Int.reduceLE, Int.reduceNeg, Int.reduceToNat, reduceCtorEq, ho, Try.results4, Tb.enc]); done) | ((simp only [go_sem, Nat.reduceEqDiff, Nat.reduceAdd, Nat.reduceSub, Nat.reduceLeDiff, Nat.reduceLT, Nat.reduceMul, Nat.reduceBEq, Int.reduceEq, Int.reduceLT, Int.reduceLE, Int.reduceNeg, Int.reduceToNat, reduceCtorEq, ho, Try.results4, Tb.enc]); rfl)))
  simp only [go_sem, Nat.reduceEqDiff, Nat.reduceAdd, Nat.reduceSub, Nat.reduceLeDiff, Nat.reduceLT, Nat.reduceMul, Nat.reduceBEq, Int.reduceEq, Int.reduceLT, Int.reduceLE, Int.reduceNeg, Int.reduceToNat, reduceCtorEq, ho, Try.results4]
  refine QCall.fr ?_ (raccepts_fn t row (by omega)) (.inl rfl) ?_; (focus (first | rfl | ((simp only [go_sem, Nat.reduceEqDiff, Nat.reduceAdd, Nat.reduceSub, Nat.reduceLeDiff, Nat.reduceLT, Nat.reduceMul, Nat.reduceBEq, Int.reduceEq, Int.reduceLT, Int.reduceLE, Int.reduceNeg, Int.reduceToNat, reduceCtorEq, ho, Try.results4, Tb.enc]); done) | ((simp only [go_sem, Nat.reduceEqDiff, Nat.reduceAdd, Nat.reduceSub, Nat.reduceLeDiff, Nat.reduceLT, Nat.reduceMul, Nat.reduceBEq, Int.reduceEq, Int.reduceLT, Int.reduceLE, Int.reduceNeg, Int.reduceToNat, reduceCtorEq, ho, Try.results4, Tb.enc]); rfl)))
  simp only [go_sem, Nat.reduceEqDiff, Nat.reduceAdd, Nat.reduceSub, Nat.reduceLeDiff, Nat.reduceLT, Nat.reduceMul, Nat.reduceBEq, Int.reduceEq, Int.reduceLT, Int.reduceLE, Int.reduceNeg, Int.reduceToNat, reduceCtorEq, ho, Try.results4, decide_true, eq_self]
  refine QCall.fr ?_ (awakeS_fn) (.inl rfl) ?_; (focus (first | rfl | ((simp only [go_sem, Nat.reduceEqDiff, Nat.reduceAdd, Nat.reduceSub, Nat.reduceLeDiff, Nat.reduceLT, Nat.reduceMul, Nat.reduceBEq, Int.reduceEq, Int.reduceLT, Int.reduceLE, Int.reduceNeg, Int.reduceToNat, reduceCtorEq, ho, Try.results4]); done) | ((simp only [go_sem, Nat.reduceEqDiff, Nat.reduceAdd, Nat.reduceSub, Nat.reduceLeDiff, Nat.reduceLT, Nat.reduceMul, Nat.reduceBEq, Int.reduceEq, Int.reduceLT, Int.reduceLE, Int.reduceNeg, Int.reduceToNat, reduceCtorEq, ho, Try.results4]); rfl)))
  simp only [go_sem, Nat.reduceEqDiff, Nat.reduceAdd, Nat.reduceSub, Nat.reduceLeDiff, Nat.reduceLT, Nat.reduceMul, Nat.reduceBEq, Int.reduceEq, Int.reduceLT, Int.reduceLE, Int.reduceNeg, Int.reduceToNat, reduceCtorEq, ho, Try.results4]
theorem ok7 : okCode M0 Try.f7.ntmps (Try.f7.body.getD .skip) = true := by decide +kernel
theorem schemaQueries_fn (t : Tb) (name : ByteArray) (row : List Vl) (h : t.bulk + name.size + (row.map Vl.bulk).sum ≤ 1048576) : Fc 7 [t.enc, .str name, .sl (row.map Vl.enc)] (.bool true) := by
  have hk := t.bulk_ok (by omega)
  have hc := hk.c
  have hkk := hk.k
  refine fn_of_awp (E := E0) (M := M0) follows Try.func7 rfl (by decide) ok7 (by decide) (by simp) fun o ho => ?_
  simp only [go_sem, Nat.reduceEqDiff, Nat.reduceAdd, Nat.reduceSub, Nat.reduceLeDiff, Nat.reduceLT, Nat.reduceMul, Nat.reduceBEq, Int.reduceEq, Int.reduceLT, Int.reduceLE, Int.reduceNeg, Int.reduceToNat, reduceCtorEq, ho, Try.results7, Tb.enc]
  refine QCall.fr ?_ (kinds_fn t (by omega)) (.inr rfl) ?_; (focus (first | rfl | ((simp only [go_sem, Nat.reduceEqDiff, Nat.reduceAdd, Nat.reduceSub, Nat.reduceLeDiff, Nat.reduceLT, Nat.reduceMul, Nat.reduceBEq, Int.reduceEq, Int.reduceLT, Int.reduceLE, Int.reduceNeg, Int.reduceToNat, reduceCtorEq, ho, Try.results7, Tb.enc]); done) | ((simp only [go_sem, Nat.reduceEqDiff, Nat.reduceAdd, Nat.reduceSub, Nat.reduceLeDiff, Nat.reduceLT, Nat.reduceMul, Nat.reduceBEq, Int.reduceEq, Int.reduceLT, Int.reduceLE, Int.reduceNeg, Int.reduceToNat, reduceCtorEq, ho, Try.results7, Tb.enc]); rfl)))
  simp only [go_sem, Nat.reduceEqDiff, Nat.reduceAdd, Nat.reduceSub, Nat.reduceLeDiff, Nat.reduceLT, Nat.reduceMul, Nat.reduceBEq, Int.reduceEq, Int.reduceLT, Int.reduceLE, Int.reduceNeg, Int.reduceToNat, reduceCtorEq, ho, Try.results7]
  refine QCall.fr ?_ (rkinds_fn t (by omega)) (.inr rfl) ?_; (focus (first | rfl | ((simp only [go_sem, Nat.reduceEqDiff, Nat.reduceAdd, Nat.reduceSub, Nat.reduceLeDiff, Nat.reduceLT, Nat.reduceMul, Nat.reduceBEq, Int.reduceEq, Int.reduceLT, Int.reduceLE, Int.reduceNeg, Int.reduceToNat, reduceCtorEq, ho, Try.results7, Tb.enc]); done) | ((simp only [go_sem, Nat.reduceEqDiff, Nat.reduceAdd, Nat.reduceSub, Nat.reduceLeDiff, Nat.reduceLT, Nat.reduceMul, Nat.reduceBEq, Int.reduceEq, Int.reduceLT, Int.reduceLE, Int.reduceNeg, Int.reduceToNat, reduceCtorEq, ho, Try.results7, Tb.enc]); rfl)))
  simp only [go_sem, Nat.reduceEqDiff, Nat.reduceAdd, Nat.reduceSub, Nat.reduceLeDiff, Nat.reduceLT, Nat.reduceMul, Nat.reduceBEq, Int.reduceEq, Int.reduceLT, Int.reduceLE, Int.reduceNeg, Int.reduceToNat, reduceCtorEq, ho, Try.results7]
  refine QCall.fr ?_ (ints_fn t.kinds t.kinds (by simp [Tb.kinds]; omega)) (.inl rfl) ?_; (focus (first | rfl | ((simp only [go_sem, Nat.reduceEqDiff, Nat.reduceAdd, Nat.reduceSub, Nat.reduceLeDiff, Nat.reduceLT, Nat.reduceMul, Nat.reduceBEq, Int.reduceEq, Int.reduceLT, Int.reduceLE, Int.reduceNeg, Int.reduceToNat, reduceCtorEq, ho, Try.results7]); done) | ((simp only [go_sem, Nat.reduceEqDiff, Nat.reduceAdd, Nat.reduceSub, Nat.reduceLeDiff, Nat.reduceLT, Nat.reduceMul, Nat.reduceBEq, Int.reduceEq, Int.reduceLT, Int.reduceLE, Int.reduceNeg, Int.reduceToNat, reduceCtorEq, ho, Try.results7]); rfl)))
  simp only [go_sem, Nat.reduceEqDiff, Nat.reduceAdd, Nat.reduceSub, Nat.reduceLeDiff, Nat.reduceLT, Nat.reduceMul, Nat.reduceBEq, Int.reduceEq, Int.reduceLT, Int.reduceLE, Int.reduceNeg, Int.reduceToNat, reduceCtorEq, ho, Try.results7, decide_true, eq_self]
  refine QCall.fr ?_ (find_fn t name (by omega)) (.inl rfl) ?_; (focus (first | rfl | ((simp only [go_sem, Nat.reduceEqDiff, Nat.reduceAdd, Nat.reduceSub, Nat.reduceLeDiff, Nat.reduceLT, Nat.reduceMul, Nat.reduceBEq, Int.reduceEq, Int.reduceLT, Int.reduceLE, Int.reduceNeg, Int.reduceToNat, reduceCtorEq, ho, Try.results7, Tb.enc]); done) | ((simp only [go_sem, Nat.reduceEqDiff, Nat.reduceAdd, Nat.reduceSub, Nat.reduceLeDiff, Nat.reduceLT, Nat.reduceMul, Nat.reduceBEq, Int.reduceEq, Int.reduceLT, Int.reduceLE, Int.reduceNeg, Int.reduceToNat, reduceCtorEq, ho, Try.results7, Tb.enc]); rfl)))
  simp only [go_sem, Nat.reduceEqDiff, Nat.reduceAdd, Nat.reduceSub, Nat.reduceLeDiff, Nat.reduceLT, Nat.reduceMul, Nat.reduceBEq, Int.reduceEq, Int.reduceLT, Int.reduceLE, Int.reduceNeg, Int.reduceToNat, reduceCtorEq, ho, Try.results7]
  refine QCall.fr ?_ (rfind_fn t name (by omega)) (.inl rfl) ?_; (focus (first | rfl | ((simp only [go_sem, Nat.reduceEqDiff, Nat.reduceAdd, Nat.reduceSub, Nat.reduceLeDiff, Nat.reduceLT, Nat.reduceMul, Nat.reduceBEq, Int.reduceEq, Int.reduceLT, Int.reduceLE, Int.reduceNeg, Int.reduceToNat, reduceCtorEq, ho, Try.results7, Tb.enc]); done) | ((simp only [go_sem, Nat.reduceEqDiff, Nat.reduceAdd, Nat.reduceSub, Nat.reduceLeDiff, Nat.reduceLT, Nat.reduceMul, Nat.reduceBEq, Int.reduceEq, Int.reduceLT, Int.reduceLE, Int.reduceNeg, Int.reduceToNat, reduceCtorEq, ho, Try.results7, Tb.enc]); rfl)))
  simp only [go_sem, Nat.reduceEqDiff, Nat.reduceAdd, Nat.reduceSub, Nat.reduceLeDiff, Nat.reduceLT, Nat.reduceMul, Nat.reduceBEq, Int.reduceEq, Int.reduceLT, Int.reduceLE, Int.reduceNeg, Int.reduceToNat, reduceCtorEq, ho, Try.results7, decide_true, eq_self]
  refine QCall.fr ?_ (keyOf_fn t row (by omega)) (.inr rfl) ?_; (focus (first | rfl | ((simp only [go_sem, Nat.reduceEqDiff, Nat.reduceAdd, Nat.reduceSub, Nat.reduceLeDiff, Nat.reduceLT, Nat.reduceMul, Nat.reduceBEq, Int.reduceEq, Int.reduceLT, Int.reduceLE, Int.reduceNeg, Int.reduceToNat, reduceCtorEq, ho, Try.results7, Tb.enc]); done) | ((simp only [go_sem, Nat.reduceEqDiff, Nat.reduceAdd, Nat.reduceSub, Nat.reduceLeDiff, Nat.reduceLT, Nat.reduceMul, Nat.reduceBEq, Int.reduceEq, Int.reduceLT, Int.reduceLE, Int.reduceNeg, Int.reduceToNat, reduceCtorEq, ho, Try.results7, Tb.enc]); rfl)))
  simp only [go_sem, Nat.reduceEqDiff, Nat.reduceAdd, Nat.reduceSub, Nat.reduceLeDiff, Nat.reduceLT, Nat.reduceMul, Nat.reduceBEq, Int.reduceEq, Int.reduceLT, Int.reduceLE, Int.reduceNeg, Int.reduceToNat, reduceCtorEq, ho, Try.results7]
  refine QCall.fr ?_ (rkeyOf_fn t row (by omega)) (.inr rfl) ?_; (focus (first | rfl | ((simp only [go_sem, Nat.reduceEqDiff, Nat.reduceAdd, Nat.reduceSub, Nat.reduceLeDiff, Nat.reduceLT, Nat.reduceMul, Nat.reduceBEq, Int.reduceEq, Int.reduceLT, Int.reduceLE, Int.reduceNeg, Int.reduceToNat, reduceCtorEq, ho, Try.results7, Tb.enc]); done) | ((simp only [go_sem, Nat.reduceEqDiff, Nat.reduceAdd, Nat.reduceSub, Nat.reduceLeDiff, Nat.reduceLT, Nat.reduceMul, Nat.reduceBEq, Int.reduceEq, Int.reduceLT, Int.reduceLE, Int.reduceNeg, Int.reduceToNat, reduceCtorEq, ho, Try.results7, Tb.enc]); rfl)))
  simp only [go_sem, Nat.reduceEqDiff, Nat.reduceAdd, Nat.reduceSub, Nat.reduceLeDiff, Nat.reduceLT, Nat.reduceMul, Nat.reduceBEq, Int.reduceEq, Int.reduceLT, Int.reduceLE, Int.reduceNeg, Int.reduceToNat, reduceCtorEq, ho, Try.results7]
  refine QCall.fr ?_ (requal_fn (t.pick row) (by simp [Tb.pick]; omega)) (.inl rfl) ?_; (focus (first | rfl | ((simp only [go_sem, Nat.reduceEqDiff, Nat.reduceAdd, Nat.reduceSub, Nat.reduceLeDiff, Nat.reduceLT, Nat.reduceMul, Nat.reduceBEq, Int.reduceEq, Int.reduceLT, Int.reduceLE, Int.reduceNeg, Int.reduceToNat, reduceCtorEq, ho, Try.results7]); done) | ((simp only [go_sem, Nat.reduceEqDiff, Nat.reduceAdd, Nat.reduceSub, Nat.reduceLeDiff, Nat.reduceLT, Nat.reduceMul, Nat.reduceBEq, Int.reduceEq, Int.reduceLT, Int.reduceLE, Int.reduceNeg, Int.reduceToNat, reduceCtorEq, ho, Try.results7]); rfl)))
  simp only [go_sem, Nat.reduceEqDiff, Nat.reduceAdd, Nat.reduceSub, Nat.reduceLeDiff, Nat.reduceLT, Nat.reduceMul, Nat.reduceBEq, Int.reduceEq, Int.reduceLT, Int.reduceLE, Int.reduceNeg, Int.reduceToNat, reduceCtorEq, ho, Try.results7]
  refine QCall.fr ?_ (awakeS_fn) (.inl rfl) ?_; (focus (first | rfl | ((simp only [go_sem, Nat.reduceEqDiff, Nat.reduceAdd, Nat.reduceSub, Nat.reduceLeDiff, Nat.reduceLT, Nat.reduceMul, Nat.reduceBEq, Int.reduceEq, Int.reduceLT, Int.reduceLE, Int.reduceNeg, Int.reduceToNat, reduceCtorEq, ho, Try.results7]); done) | ((simp only [go_sem, Nat.reduceEqDiff, Nat.reduceAdd, Nat.reduceSub, Nat.reduceLeDiff, Nat.reduceLT, Nat.reduceMul, Nat.reduceBEq, Int.reduceEq, Int.reduceLT, Int.reduceLE, Int.reduceNeg, Int.reduceToNat, reduceCtorEq, ho, Try.results7]); rfl)))
  simp only [go_sem, Nat.reduceEqDiff, Nat.reduceAdd, Nat.reduceSub, Nat.reduceLeDiff, Nat.reduceLT, Nat.reduceMul, Nat.reduceBEq, Int.reduceEq, Int.reduceLT, Int.reduceLE, Int.reduceNeg, Int.reduceToNat, reduceCtorEq, ho, Try.results7]
theorem checkE_parts (t : Tb) (h : t.checkE = 0) : nameOk t.name = true ∧ t.colsE = 0 ∧ t.keyE = 0 := by
  unfold Tb.checkE at h
  split at h
  · cases h
  · rename_i hn
    split at h
    · omega
    · split at h
      · omega
      · exact ⟨by simpa using hn, by omega, by omega⟩
theorem colL_parts : ∀ (rest done : List Col), colL done rest = 0 → (∀ c ∈ rest, nameOk c.name = true) ∧ ∀ (a b : List Col) (c : Col), rest = a ++ c :: b → ((done ++ a).any fun d => decide (d.name = c.name)) = false
  | [], done, h => ⟨by simp, by simp⟩
  | x :: rest, done, h => by
    rw [colL] at h
    split at h
    · cases h
    · rename_i hn
      split at h
      · cases h
      · split at h
        · cases h
        · rename_i hd
          obtain ⟨h1, h2⟩ := colL_parts rest (done ++ [x]) h
          refine ⟨?_, ?_⟩
          · intro c hc
            rcases List.mem_cons.1 hc with rfl | hc
            · simpa using hn
            · exact h1 c hc
          · intro a b c hab
            cases a with
            | nil =>
              simp at hab
              obtain ⟨rfl, _⟩ := hab
              rw [List.append_nil]
              simpa using hd
            | cons y a =>
              simp at hab
              obtain ⟨rfl, hab⟩ := hab
              have := h2 a b c hab
              rw [List.append_assoc] at this
              exact this
theorem find_at (t : Tb) (h : t.colsE = 0) (a b : List Col) (c : Col) (hab : t.cols = a ++ c :: b) : t.find c.name = (a.length : Int) := by
  have hc : colL [] t.cols = 0 := by
    unfold Tb.colsE at h
    split at h
    · cases h
    · exact h
  have h2 := (colL_parts t.cols [] hc).2 a b c hab
  rw [List.nil_append] at h2
  have key : ∀ (a : List Col) (i : Nat), (a.any fun d => decide (d.name = c.name)) = false → findL c.name (a ++ c :: b) i = ((i + a.length : Nat) : Int) := by
    intro a
    induction a with
    | nil => intro i _; simp [findL]
    | cons d a ih =>
      intro i hd
      simp only [List.any_cons, Bool.or_eq_false_iff, decide_eq_false_iff_not] at hd
      simp only [List.cons_append, findL, if_neg hd.1]
      rw [ih (i + 1) hd.2]
      simp only [List.length_cons]
      omega
  rw [Tb.find, hab, key a 0 h2]
  omega
theorem ok5 : okCode M0 Try.f5.ntmps (Try.f5.body.getD .skip) = true := by decide +kernel
theorem schemaFinds_fn (t : Tb) (h : t.bulk ≤ 1048576) : Fc 5 [t.enc] (.bool true) := by
  have hk := t.bulk_ok h
  have hc := hk.c
  refine fn_of_awp (E := E0) (M := M0) follows Try.func5 rfl (by decide) ok5 (by decide) (by simp) fun o ho => ?_
  simp only [go_sem, Nat.reduceEqDiff, Nat.reduceAdd, Nat.reduceSub, Nat.reduceLeDiff, Nat.reduceLT, Nat.reduceMul, Nat.reduceBEq, Int.reduceEq, Int.reduceLT, Int.reduceLE, Int.reduceNeg, Int.reduceToNat, reduceCtorEq, ho, Try.results5, Tb.enc]
  refine GCall.fr ?_ (tcheck_fn t hk) (.inl rfl) ?_; (focus (first | rfl | ((simp only [go_sem, Nat.reduceEqDiff, Nat.reduceAdd, Nat.reduceSub, Nat.reduceLeDiff, Nat.reduceLT, Nat.reduceMul, Nat.reduceBEq, Int.reduceEq, Int.reduceLT, Int.reduceLE, Int.reduceNeg, Int.reduceToNat, reduceCtorEq, ho, Try.results5, Tb.enc]); done) | ((simp only [go_sem, Nat.reduceEqDiff, Nat.reduceAdd, Nat.reduceSub, Nat.reduceLeDiff, Nat.reduceLT, Nat.reduceMul, Nat.reduceBEq, Int.reduceEq, Int.reduceLT, Int.reduceLE, Int.reduceNeg, Int.reduceToNat, reduceCtorEq, ho, Try.results5, Tb.enc]); rfl)))
  simp only [go_sem, Nat.reduceEqDiff, Nat.reduceAdd, Nat.reduceSub, Nat.reduceLeDiff, Nat.reduceLT, Nat.reduceMul, Nat.reduceBEq, Int.reduceEq, Int.reduceLT, Int.reduceLE, Int.reduceNeg, Int.reduceToNat, reduceCtorEq, ho, Try.results5]
  by_cases hce : t.checkE = 0
  · obtain ⟨p1, p2, p3⟩ := checkE_parts t hce
    have hcl : colL [] t.cols = 0 := by
      unfold Tb.colsE at p2
      split at p2
      · cases p2
      · exact p2
    simp only [go_sem, Nat.reduceEqDiff, Nat.reduceAdd, Nat.reduceSub, Nat.reduceLeDiff, Nat.reduceLT, Nat.reduceMul, Nat.reduceBEq, Int.reduceEq, Int.reduceLT, Int.reduceLE, Int.reduceNeg, Int.reduceToNat, reduceCtorEq, ho, Try.results5, hce, List.length_map]
    refine ⟨fun n st => ∃ (done rest : List Col), t.cols = done ++ rest ∧ rest.length = n ∧ st.s 11 = .int .i64 done.length ∧ st.s 10 = .int .i64 t.cols.length ∧ st.s 1 = .ptr 1 1 0 ∧ getBox st.o 1 1 = some (27, t.enc.cells), t.cols.length,
      ⟨[], t.cols, rfl, rfl, by simp only [go_sem, Nat.reduceEqDiff, Nat.reduceAdd, Nat.reduceSub, Nat.reduceLeDiff, Nat.reduceLT, Nat.reduceMul, Nat.reduceBEq, Int.reduceEq, Int.reduceLT, Int.reduceLE, Int.reduceNeg, Int.reduceToNat, reduceCtorEq, ho, Try.results5]; rfl, by simp only [go_sem, Nat.reduceEqDiff, Nat.reduceAdd, Nat.reduceSub, Nat.reduceLeDiff, Nat.reduceLT, Nat.reduceMul, Nat.reduceBEq, Int.reduceEq, Int.reduceLT, Int.reduceLE, Int.reduceNeg, Int.reduceToNat, reduceCtorEq, ho, Try.results5], by simp only [go_sem, Nat.reduceEqDiff, Nat.reduceAdd, Nat.reduceSub, Nat.reduceLeDiff, Nat.reduceLT, Nat.reduceMul, Nat.reduceBEq, Int.reduceEq, Int.reduceLT, Int.reduceLE, Int.reduceNeg, Int.reduceToNat, reduceCtorEq, ho, Try.results5], by simp only [go_sem, Nat.reduceEqDiff, Nat.reduceAdd, Nat.reduceSub, Nat.reduceLeDiff, Nat.reduceLT, Nat.reduceMul, Nat.reduceBEq, Int.reduceEq, Int.reduceLT, Int.reduceLE, Int.reduceNeg, Int.reduceToNat, reduceCtorEq, ho, Try.results5]⟩, ?_⟩
    rintro n st ⟨done, rest, hl', hn, h11, h10, hs1, hb1⟩
    have hlen2 : done.length + rest.length = t.cols.length := by rw [hl']; simp
    have hw : IntKind.i64.wrap ((done.length : Int) + 1) = (done.length : Int) + 1 := wrap_fits (by omega) (by omega)
    have hb1' := hb1
    rw [t.enc_cells] at hb1'
    cases rest with
    | nil =>
      have hlt : ¬ (done.length : Int) < (t.cols.length : Int) := by simp at hlen2; omega
      simp only [go_sem, Nat.reduceEqDiff, Nat.reduceAdd, Nat.reduceSub, Nat.reduceLeDiff, Nat.reduceLT, Nat.reduceMul, Nat.reduceBEq, Int.reduceEq, Int.reduceLT, Int.reduceLE, Int.reduceNeg, Int.reduceToNat, reduceCtorEq, ho, Try.results5, h11, h10, hlt, hs1, hb1']
      refine GCall.fr ?_ (name_fn t.name (by have := hk.n; omega)) (.inl rfl) ?_; (focus (first | rfl | ((simp only [go_sem, Nat.reduceEqDiff, Nat.reduceAdd, Nat.reduceSub, Nat.reduceLeDiff, Nat.reduceLT, Nat.reduceMul, Nat.reduceBEq, Int.reduceEq, Int.reduceLT, Int.reduceLE, Int.reduceNeg, Int.reduceToNat, reduceCtorEq, ho, Try.results5]); done) | ((simp only [go_sem, Nat.reduceEqDiff, Nat.reduceAdd, Nat.reduceSub, Nat.reduceLeDiff, Nat.reduceLT, Nat.reduceMul, Nat.reduceBEq, Int.reduceEq, Int.reduceLT, Int.reduceLE, Int.reduceNeg, Int.reduceToNat, reduceCtorEq, ho, Try.results5]); rfl)))
      simp only [go_sem, Nat.reduceEqDiff, Nat.reduceAdd, Nat.reduceSub, Nat.reduceLeDiff, Nat.reduceLT, Nat.reduceMul, Nat.reduceBEq, Int.reduceEq, Int.reduceLT, Int.reduceLE, Int.reduceNeg, Int.reduceToNat, reduceCtorEq, ho, Try.results5, p1]
      refine GCall.fr ?_ (awakeS_fn) (.inl rfl) ?_; (focus (first | rfl | ((simp only [go_sem, Nat.reduceEqDiff, Nat.reduceAdd, Nat.reduceSub, Nat.reduceLeDiff, Nat.reduceLT, Nat.reduceMul, Nat.reduceBEq, Int.reduceEq, Int.reduceLT, Int.reduceLE, Int.reduceNeg, Int.reduceToNat, reduceCtorEq, ho, Try.results5]); done) | ((simp only [go_sem, Nat.reduceEqDiff, Nat.reduceAdd, Nat.reduceSub, Nat.reduceLeDiff, Nat.reduceLT, Nat.reduceMul, Nat.reduceBEq, Int.reduceEq, Int.reduceLT, Int.reduceLE, Int.reduceNeg, Int.reduceToNat, reduceCtorEq, ho, Try.results5]); rfl)))
      simp only [go_sem, Nat.reduceEqDiff, Nat.reduceAdd, Nat.reduceSub, Nat.reduceLeDiff, Nat.reduceLT, Nat.reduceMul, Nat.reduceBEq, Int.reduceEq, Int.reduceLT, Int.reduceLE, Int.reduceNeg, Int.reduceToNat, reduceCtorEq, ho, Try.results5]
    | cons c rest =>
      have hlt : (done.length : Int) < (t.cols.length : Int) := by simp at hlen2; omega
      have hget := cols_get hl'
      have hcm : c ∈ t.cols := by simp [hl']
      have hcn := hk.cn c hcm
      have hfind := find_at t p2 done rest c hl'
      have hnm := (colL_parts t.cols [] hcl).1 c hcm
      simp only [go_sem, Nat.reduceEqDiff, Nat.reduceAdd, Nat.reduceSub, Nat.reduceLeDiff, Nat.reduceLT, Nat.reduceMul, Nat.reduceBEq, Int.reduceEq, Int.reduceLT, Int.reduceLE, Int.reduceNeg, Int.reduceToNat, reduceCtorEq, ho, Try.results5, h11, h10, hlt, hs1, hb1', hget, Int.natCast_nonneg, Int.toNat_natCast, Col.enc]
      refine QCall.fr ?_ (find_fn t c.name (by omega)) (.inl rfl) ?_; (focus (first | rfl | ((simp only [go_sem, Nat.reduceEqDiff, Nat.reduceAdd, Nat.reduceSub, Nat.reduceLeDiff, Nat.reduceLT, Nat.reduceMul, Nat.reduceBEq, Int.reduceEq, Int.reduceLT, Int.reduceLE, Int.reduceNeg, Int.reduceToNat, reduceCtorEq, ho, Try.results5, Tb.enc]); done) | ((simp only [go_sem, Nat.reduceEqDiff, Nat.reduceAdd, Nat.reduceSub, Nat.reduceLeDiff, Nat.reduceLT, Nat.reduceMul, Nat.reduceBEq, Int.reduceEq, Int.reduceLT, Int.reduceLE, Int.reduceNeg, Int.reduceToNat, reduceCtorEq, ho, Try.results5, Tb.enc]); rfl)))
      simp only [go_sem, Nat.reduceEqDiff, Nat.reduceAdd, Nat.reduceSub, Nat.reduceLeDiff, Nat.reduceLT, Nat.reduceMul, Nat.reduceBEq, Int.reduceEq, Int.reduceLT, Int.reduceLE, Int.reduceNeg, Int.reduceToNat, reduceCtorEq, ho, Try.results5, hfind, hs1, hb1', hget, Int.natCast_nonneg, Int.toNat_natCast, Col.enc]
      refine QCall.fr ?_ (name_fn c.name (by omega)) (.inl rfl) ?_; (focus (first | rfl | ((simp only [go_sem, Nat.reduceEqDiff, Nat.reduceAdd, Nat.reduceSub, Nat.reduceLeDiff, Nat.reduceLT, Nat.reduceMul, Nat.reduceBEq, Int.reduceEq, Int.reduceLT, Int.reduceLE, Int.reduceNeg, Int.reduceToNat, reduceCtorEq, ho, Try.results5]); done) | ((simp only [go_sem, Nat.reduceEqDiff, Nat.reduceAdd, Nat.reduceSub, Nat.reduceLeDiff, Nat.reduceLT, Nat.reduceMul, Nat.reduceBEq, Int.reduceEq, Int.reduceLT, Int.reduceLE, Int.reduceNeg, Int.reduceToNat, reduceCtorEq, ho, Try.results5]); rfl)))
      simp only [go_sem, Nat.reduceEqDiff, Nat.reduceAdd, Nat.reduceSub, Nat.reduceLeDiff, Nat.reduceLT, Nat.reduceMul, Nat.reduceBEq, Int.reduceEq, Int.reduceLT, Int.reduceLE, Int.reduceNeg, Int.reduceToNat, reduceCtorEq, ho, Try.results5, hnm, h11, h10, hs1, hb1', hw]
      exact ⟨rest.length, by simp at hn; omega, done ++ [c], rest, by simp [hl'], rfl, by simp⟩
  · simp only [go_sem, Nat.reduceEqDiff, Nat.reduceAdd, Nat.reduceSub, Nat.reduceLeDiff, Nat.reduceLT, Nat.reduceMul, Nat.reduceBEq, Int.reduceEq, Int.reduceLT, Int.reduceLE, Int.reduceNeg, Int.reduceToNat, reduceCtorEq, ho, Try.results5, hce]
    refine GCall.fr ?_ (awakeS_fn) (.inl rfl) ?_; (focus (first | rfl | ((simp only [go_sem, Nat.reduceEqDiff, Nat.reduceAdd, Nat.reduceSub, Nat.reduceLeDiff, Nat.reduceLT, Nat.reduceMul, Nat.reduceBEq, Int.reduceEq, Int.reduceLT, Int.reduceLE, Int.reduceNeg, Int.reduceToNat, reduceCtorEq, ho, Try.results5]); done) | ((simp only [go_sem, Nat.reduceEqDiff, Nat.reduceAdd, Nat.reduceSub, Nat.reduceLeDiff, Nat.reduceLT, Nat.reduceMul, Nat.reduceBEq, Int.reduceEq, Int.reduceLT, Int.reduceLE, Int.reduceNeg, Int.reduceToNat, reduceCtorEq, ho, Try.results5]); rfl)))
    simp only [go_sem, Nat.reduceEqDiff, Nat.reduceAdd, Nat.reduceSub, Nat.reduceLeDiff, Nat.reduceLT, Nat.reduceMul, Nat.reduceBEq, Int.reduceEq, Int.reduceLT, Int.reduceLE, Int.reduceNeg, Int.reduceToNat, reduceCtorEq, ho, Try.results5]
theorem acc_parts (kinds : List Col → List Int) (hk : ∀ c cs, kinds (c :: cs) = c.kind :: kinds cs) (h0 : kinds [] = []) : ∀ (row : List Vl) (cols : List Col), row.length = cols.length → acc row cols = 0 → fitsRow row (kinds cols) = true ∧ ∀ (i : Nat) (v : Vl) (c : Col), row[i]? = some v → cols[i]? = some c → v.kind = 0 → c.nul = true
  | [], [], _, _ => by simp [h0, fitsRow]
  | [], c :: cs, h, _ => by simp at h
  | v :: r, [], h, _ => by simp at h
  | v :: r, c :: cs, h, ha => by
    rw [acc] at ha
    split at ha
    · cases ha
    · rename_i hv
      split at ha
      · cases ha
      · rename_i hn
        split at ha
        · cases ha
        · rename_i hkd
          obtain ⟨h1, h2⟩ := acc_parts kinds hk h0 r cs (by simpa using h) ha
          refine ⟨?_, ?_⟩
          · rw [hk, fitsRow, h1]
            have hv' : v.valid = true := by simpa using hv
            rw [hv']
            by_cases k0 : v.kind = 0
            · simp [k0]
            · have : v.kind = c.kind := by
                by_cases e : v.kind = c.kind
                · exact e
                · exact absurd ⟨k0, e⟩ hkd
              simp [this]
          · intro i v' c' hi hc hz
            cases i with
            | zero =>
              simp at hi hc
              subst hi; subst hc
              cases hcn : c.nul with
              | true => rfl
              | false => exact absurd ⟨hz, hcn⟩ hn
            | succ i => exact h2 i v' c' (by simpa using hi) (by simpa using hc) hz
theorem keyL_parts (t : Tb) : ∀ (l done : List Int), keyL t done l = 0 → ∀ k ∈ l, t.has k = true ∧ nulAt t k = false
  | [], _, _ => by simp
  | x :: l, done, h => by
    rw [keyL] at h
    split at h
    · cases h
    · rename_i hh
      split at h
      · cases h
      · rename_i hn
        intro k hk
        rcases List.mem_cons.1 hk with rfl | hk
        · refine ⟨?_, by simpa using hn⟩
          cases hx : t.has k with
          | true => rfl
          | false => exact absurd (.inl hx) hh
        · exact keyL_parts t l _ h k hk
theorem rows_plain (t : Tb) (row : List Vl) (h1 : t.checkE = 0) (h2 : t.accepts row = 0) : fitsRow row t.kinds = true ∧ ∀ v ∈ t.pick row, v.kind ≠ 0 := by
  obtain ⟨p1, p2, p3⟩ := checkE_parts t h1
  unfold Tb.accepts at h2
  split at h2
  · cases h2
  · rename_i hlen
    have hlen : row.length = t.cols.length := by simpa using hlen
    obtain ⟨a1, a2⟩ := acc_parts (fun l => l.map Col.kind) (fun _ _ => rfl) rfl row t.cols hlen h2
    refine ⟨a1, ?_⟩
    intro v hv hz
    obtain ⟨k, hk, rfl⟩ := List.mem_map.1 hv
    unfold Tb.keyE at p3
    split at p3
    · cases p3
    · obtain ⟨hh, hn⟩ := keyL_parts t t.key [] p3 k hk
      simp only [Tb.has, Bool.and_eq_true, decide_eq_true_eq] at hh
      have hlt : k.toNat < t.cols.length := by omega
      have hlt2 : k.toNat < row.length := by omega
      have hat : Vl.at row k = row[k.toNat] := by
        unfold Vl.at
        rw [if_neg (by omega)]
        simp [hlt2]
      have := a2 k.toNat row[k.toNat] t.cols[k.toNat] (by simp [hlt2]) (by simp [hlt]) (by rw [← hat]; exact hz)
      simp [nulAt, hlt, this] at hn
theorem ok6 : okCode M0 Try.f6.ntmps (Try.f6.body.getD .skip) = true := by decide +kernel
theorem schemaRows_fn (t : Tb) (row : List Vl) (h : t.bulk + (row.map Vl.bulk).sum ≤ 1048576) : Fc 6 [t.enc, .sl (row.map Vl.enc)] (.bool true) := by
  have hk := t.bulk_ok (by omega)
  have hr := len_bulk row
  have hkk := hk.k
  have hc := hk.c
  refine fn_of_awp (E := E0) (M := M0) follows Try.func6 rfl (by decide) ok6 (by decide) (by simp) fun o ho => ?_
  simp only [go_sem, Nat.reduceEqDiff, Nat.reduceAdd, Nat.reduceSub, Nat.reduceLeDiff, Nat.reduceLT, Nat.reduceMul, Nat.reduceBEq, Int.reduceEq, Int.reduceLT, Int.reduceLE, Int.reduceNeg, Int.reduceToNat, reduceCtorEq, ho, Try.results6, Tb.enc]
  refine GCall.fr ?_ (tcheck_fn t hk) (.inl rfl) ?_; (focus (first | rfl | ((simp only [go_sem, Nat.reduceEqDiff, Nat.reduceAdd, Nat.reduceSub, Nat.reduceLeDiff, Nat.reduceLT, Nat.reduceMul, Nat.reduceBEq, Int.reduceEq, Int.reduceLT, Int.reduceLE, Int.reduceNeg, Int.reduceToNat, reduceCtorEq, ho, Try.results6, Tb.enc]); done) | ((simp only [go_sem, Nat.reduceEqDiff, Nat.reduceAdd, Nat.reduceSub, Nat.reduceLeDiff, Nat.reduceLT, Nat.reduceMul, Nat.reduceBEq, Int.reduceEq, Int.reduceLT, Int.reduceLE, Int.reduceNeg, Int.reduceToNat, reduceCtorEq, ho, Try.results6, Tb.enc]); rfl)))
  simp only [go_sem, Nat.reduceEqDiff, Nat.reduceAdd, Nat.reduceSub, Nat.reduceLeDiff, Nat.reduceLT, Nat.reduceMul, Nat.reduceBEq, Int.reduceEq, Int.reduceLT, Int.reduceLE, Int.reduceNeg, Int.reduceToNat, reduceCtorEq, ho, Try.results6]
  by_cases hce : t.checkE = 0
  · simp only [go_sem, Nat.reduceEqDiff, Nat.reduceAdd, Nat.reduceSub, Nat.reduceLeDiff, Nat.reduceLT, Nat.reduceMul, Nat.reduceBEq, Int.reduceEq, Int.reduceLT, Int.reduceLE, Int.reduceNeg, Int.reduceToNat, reduceCtorEq, ho, Try.results6, hce]
    refine GCall.fr ?_ (accepts_fn t row (by omega)) (.inl rfl) ?_; (focus (first | rfl | ((simp only [go_sem, Nat.reduceEqDiff, Nat.reduceAdd, Nat.reduceSub, Nat.reduceLeDiff, Nat.reduceLT, Nat.reduceMul, Nat.reduceBEq, Int.reduceEq, Int.reduceLT, Int.reduceLE, Int.reduceNeg, Int.reduceToNat, reduceCtorEq, ho, Try.results6, Tb.enc]); done) | ((simp only [go_sem, Nat.reduceEqDiff, Nat.reduceAdd, Nat.reduceSub, Nat.reduceLeDiff, Nat.reduceLT, Nat.reduceMul, Nat.reduceBEq, Int.reduceEq, Int.reduceLT, Int.reduceLE, Int.reduceNeg, Int.reduceToNat, reduceCtorEq, ho, Try.results6, Tb.enc]); rfl)))
    simp only [go_sem, Nat.reduceEqDiff, Nat.reduceAdd, Nat.reduceSub, Nat.reduceLeDiff, Nat.reduceLT, Nat.reduceMul, Nat.reduceBEq, Int.reduceEq, Int.reduceLT, Int.reduceLE, Int.reduceNeg, Int.reduceToNat, reduceCtorEq, ho, Try.results6]
    by_cases hac : t.accepts row = 0
    · obtain ⟨q1, q2⟩ := rows_plain t row hce hac
      have hpl : (t.pick row).length = t.key.length := by simp [Tb.pick]
      simp only [go_sem, Nat.reduceEqDiff, Nat.reduceAdd, Nat.reduceSub, Nat.reduceLeDiff, Nat.reduceLT, Nat.reduceMul, Nat.reduceBEq, Int.reduceEq, Int.reduceLT, Int.reduceLE, Int.reduceNeg, Int.reduceToNat, reduceCtorEq, ho, Try.results6, hac]
      refine GCall.fr ?_ (keyOf_fn t row (by omega)) (.inr rfl) ?_; (focus (first | rfl | ((simp only [go_sem, Nat.reduceEqDiff, Nat.reduceAdd, Nat.reduceSub, Nat.reduceLeDiff, Nat.reduceLT, Nat.reduceMul, Nat.reduceBEq, Int.reduceEq, Int.reduceLT, Int.reduceLE, Int.reduceNeg, Int.reduceToNat, reduceCtorEq, ho, Try.results6, Tb.enc]); done) | ((simp only [go_sem, Nat.reduceEqDiff, Nat.reduceAdd, Nat.reduceSub, Nat.reduceLeDiff, Nat.reduceLT, Nat.reduceMul, Nat.reduceBEq, Int.reduceEq, Int.reduceLT, Int.reduceLE, Int.reduceNeg, Int.reduceToNat, reduceCtorEq, ho, Try.results6, Tb.enc]); rfl)))
      simp only [go_sem, Nat.reduceEqDiff, Nat.reduceAdd, Nat.reduceSub, Nat.reduceLeDiff, Nat.reduceLT, Nat.reduceMul, Nat.reduceBEq, Int.reduceEq, Int.reduceLT, Int.reduceLE, Int.reduceNeg, Int.reduceToNat, reduceCtorEq, ho, Try.results6, List.length_map]
      refine ⟨fun n st => ∃ (done rest : List Vl), t.pick row = done ++ rest ∧ rest.length = n ∧ st.s 22 = .int .i64 done.length ∧ st.s 21 = .int .i64 (t.pick row).length ∧ st.s 5 = .sl ((t.pick row).map Vl.enc) ∧ st.s 1 = .sl (row.map Vl.enc) ∧ st.s 2 = .ptr 2 1 0 ∧ getBox st.o 2 1 = some (27, t.enc.cells), (t.pick row).length,
        ⟨[], t.pick row, rfl, rfl, by simp only [go_sem, Nat.reduceEqDiff, Nat.reduceAdd, Nat.reduceSub, Nat.reduceLeDiff, Nat.reduceLT, Nat.reduceMul, Nat.reduceBEq, Int.reduceEq, Int.reduceLT, Int.reduceLE, Int.reduceNeg, Int.reduceToNat, reduceCtorEq, ho, Try.results6]; rfl, by simp only [go_sem, Nat.reduceEqDiff, Nat.reduceAdd, Nat.reduceSub, Nat.reduceLeDiff, Nat.reduceLT, Nat.reduceMul, Nat.reduceBEq, Int.reduceEq, Int.reduceLT, Int.reduceLE, Int.reduceNeg, Int.reduceToNat, reduceCtorEq, ho, Try.results6], by simp only [go_sem, Nat.reduceEqDiff, Nat.reduceAdd, Nat.reduceSub, Nat.reduceLeDiff, Nat.reduceLT, Nat.reduceMul, Nat.reduceBEq, Int.reduceEq, Int.reduceLT, Int.reduceLE, Int.reduceNeg, Int.reduceToNat, reduceCtorEq, ho, Try.results6], by simp only [go_sem, Nat.reduceEqDiff, Nat.reduceAdd, Nat.reduceSub, Nat.reduceLeDiff, Nat.reduceLT, Nat.reduceMul, Nat.reduceBEq, Int.reduceEq, Int.reduceLT, Int.reduceLE, Int.reduceNeg, Int.reduceToNat, reduceCtorEq, ho, Try.results6], by simp only [go_sem, Nat.reduceEqDiff, Nat.reduceAdd, Nat.reduceSub, Nat.reduceLeDiff, Nat.reduceLT, Nat.reduceMul, Nat.reduceBEq, Int.reduceEq, Int.reduceLT, Int.reduceLE, Int.reduceNeg, Int.reduceToNat, reduceCtorEq, ho, Try.results6], by simp only [go_sem, Nat.reduceEqDiff, Nat.reduceAdd, Nat.reduceSub, Nat.reduceLeDiff, Nat.reduceLT, Nat.reduceMul, Nat.reduceBEq, Int.reduceEq, Int.reduceLT, Int.reduceLE, Int.reduceNeg, Int.reduceToNat, reduceCtorEq, ho, Try.results6]⟩, ?_⟩
      rintro n st ⟨done, rest, hl', hn, h22, h21, h5, hs1, hs2, hb2⟩
      have hlen2 : done.length + rest.length = (t.pick row).length := by rw [hl']; simp
      have hw : IntKind.i64.wrap ((done.length : Int) + 1) = (done.length : Int) + 1 := wrap_fits (by omega) (by omega)
      have hb2' := hb2
      rw [t.enc_cells] at hb2'
      cases rest with
      | nil =>
        have hlt : ¬ (done.length : Int) < ((t.pick row).length : Int) := by simp at hlen2; omega
        have he : ((t.pick row).length : Int) = (t.key.length : Int) := by omega
        have hlt' : ¬ (done.length : Int) < (t.key.length : Int) := by omega
        simp only [go_sem, Nat.reduceEqDiff, Nat.reduceAdd, Nat.reduceSub, Nat.reduceLeDiff, Nat.reduceLT, Nat.reduceMul, Nat.reduceBEq, Int.reduceEq, Int.reduceLT, Int.reduceLE, Int.reduceNeg, Int.reduceToNat, reduceCtorEq, ho, Try.results6, h22, h21, hlt', h5, hs1, hs2, hb2', List.length_map, he, eq_self, decide_true]
        refine GCall.fr ?_ (kinds_fn t (by omega)) (.inr rfl) ?_; (focus (first | rfl | ((simp only [go_sem, Nat.reduceEqDiff, Nat.reduceAdd, Nat.reduceSub, Nat.reduceLeDiff, Nat.reduceLT, Nat.reduceMul, Nat.reduceBEq, Int.reduceEq, Int.reduceLT, Int.reduceLE, Int.reduceNeg, Int.reduceToNat, reduceCtorEq, ho, Try.results6, Tb.enc]); done) | ((simp only [go_sem, Nat.reduceEqDiff, Nat.reduceAdd, Nat.reduceSub, Nat.reduceLeDiff, Nat.reduceLT, Nat.reduceMul, Nat.reduceBEq, Int.reduceEq, Int.reduceLT, Int.reduceLE, Int.reduceNeg, Int.reduceToNat, reduceCtorEq, ho, Try.results6, Tb.enc]); rfl)))
        simp only [go_sem, Nat.reduceEqDiff, Nat.reduceAdd, Nat.reduceSub, Nat.reduceLeDiff, Nat.reduceLT, Nat.reduceMul, Nat.reduceBEq, Int.reduceEq, Int.reduceLT, Int.reduceLE, Int.reduceNeg, Int.reduceToNat, reduceCtorEq, ho, Try.results6]
        refine GCall.fr ?_ (fits_fn row t.kinds (by omega)) (.inl rfl) ?_; (focus (first | rfl | ((simp only [go_sem, Nat.reduceEqDiff, Nat.reduceAdd, Nat.reduceSub, Nat.reduceLeDiff, Nat.reduceLT, Nat.reduceMul, Nat.reduceBEq, Int.reduceEq, Int.reduceLT, Int.reduceLE, Int.reduceNeg, Int.reduceToNat, reduceCtorEq, ho, Try.results6]); done) | ((simp only [go_sem, Nat.reduceEqDiff, Nat.reduceAdd, Nat.reduceSub, Nat.reduceLeDiff, Nat.reduceLT, Nat.reduceMul, Nat.reduceBEq, Int.reduceEq, Int.reduceLT, Int.reduceLE, Int.reduceNeg, Int.reduceToNat, reduceCtorEq, ho, Try.results6]); rfl)))
        simp only [go_sem, Nat.reduceEqDiff, Nat.reduceAdd, Nat.reduceSub, Nat.reduceLeDiff, Nat.reduceLT, Nat.reduceMul, Nat.reduceBEq, Int.reduceEq, Int.reduceLT, Int.reduceLE, Int.reduceNeg, Int.reduceToNat, reduceCtorEq, ho, Try.results6, q1]
        refine GCall.fr ?_ (awakeS_fn) (.inl rfl) ?_; (focus (first | rfl | ((simp only [go_sem, Nat.reduceEqDiff, Nat.reduceAdd, Nat.reduceSub, Nat.reduceLeDiff, Nat.reduceLT, Nat.reduceMul, Nat.reduceBEq, Int.reduceEq, Int.reduceLT, Int.reduceLE, Int.reduceNeg, Int.reduceToNat, reduceCtorEq, ho, Try.results6]); done) | ((simp only [go_sem, Nat.reduceEqDiff, Nat.reduceAdd, Nat.reduceSub, Nat.reduceLeDiff, Nat.reduceLT, Nat.reduceMul, Nat.reduceBEq, Int.reduceEq, Int.reduceLT, Int.reduceLE, Int.reduceNeg, Int.reduceToNat, reduceCtorEq, ho, Try.results6]); rfl)))
        simp only [go_sem, Nat.reduceEqDiff, Nat.reduceAdd, Nat.reduceSub, Nat.reduceLeDiff, Nat.reduceLT, Nat.reduceMul, Nat.reduceBEq, Int.reduceEq, Int.reduceLT, Int.reduceLE, Int.reduceNeg, Int.reduceToNat, reduceCtorEq, ho, Try.results6]
      | cons v rest =>
        have hlt : (done.length : Int) < ((t.pick row).length : Int) := by simp at hlen2; omega
        have hget := vals_get hl'
        have hv0 : ¬ v.kind = 0 := q2 v (by rw [hl']; simp)
        simp only [go_sem, Nat.reduceEqDiff, Nat.reduceAdd, Nat.reduceSub, Nat.reduceLeDiff, Nat.reduceLT, Nat.reduceMul, Nat.reduceBEq, Int.reduceEq, Int.reduceLT, Int.reduceLE, Int.reduceNeg, Int.reduceToNat, reduceCtorEq, ho, Try.results6, h22, h21, hlt, h5, hget, Int.natCast_nonneg, Int.toNat_natCast, Vl.enc, hv0, hs1, hs2, hb2', hw]
        exact ⟨rest.length, by simp at hn; omega, done ++ [v], rest, by simp [hl'], rfl, by simp⟩
    · simp only [go_sem, Nat.reduceEqDiff, Nat.reduceAdd, Nat.reduceSub, Nat.reduceLeDiff, Nat.reduceLT, Nat.reduceMul, Nat.reduceBEq, Int.reduceEq, Int.reduceLT, Int.reduceLE, Int.reduceNeg, Int.reduceToNat, reduceCtorEq, ho, Try.results6, hac]
      refine GCall.fr ?_ (awakeS_fn) (.inl rfl) ?_; (focus (first | rfl | ((simp only [go_sem, Nat.reduceEqDiff, Nat.reduceAdd, Nat.reduceSub, Nat.reduceLeDiff, Nat.reduceLT, Nat.reduceMul, Nat.reduceBEq, Int.reduceEq, Int.reduceLT, Int.reduceLE, Int.reduceNeg, Int.reduceToNat, reduceCtorEq, ho, Try.results6]); done) | ((simp only [go_sem, Nat.reduceEqDiff, Nat.reduceAdd, Nat.reduceSub, Nat.reduceLeDiff, Nat.reduceLT, Nat.reduceMul, Nat.reduceBEq, Int.reduceEq, Int.reduceLT, Int.reduceLE, Int.reduceNeg, Int.reduceToNat, reduceCtorEq, ho, Try.results6]); rfl)))
      simp only [go_sem, Nat.reduceEqDiff, Nat.reduceAdd, Nat.reduceSub, Nat.reduceLeDiff, Nat.reduceLT, Nat.reduceMul, Nat.reduceBEq, Int.reduceEq, Int.reduceLT, Int.reduceLE, Int.reduceNeg, Int.reduceToNat, reduceCtorEq, ho, Try.results6]
  · simp only [go_sem, Nat.reduceEqDiff, Nat.reduceAdd, Nat.reduceSub, Nat.reduceLeDiff, Nat.reduceLT, Nat.reduceMul, Nat.reduceBEq, Int.reduceEq, Int.reduceLT, Int.reduceLE, Int.reduceNeg, Int.reduceToNat, reduceCtorEq, ho, Try.results6, hce]
    refine GCall.fr ?_ (awakeS_fn) (.inl rfl) ?_; (focus (first | rfl | ((simp only [go_sem, Nat.reduceEqDiff, Nat.reduceAdd, Nat.reduceSub, Nat.reduceLeDiff, Nat.reduceLT, Nat.reduceMul, Nat.reduceBEq, Int.reduceEq, Int.reduceLT, Int.reduceLE, Int.reduceNeg, Int.reduceToNat, reduceCtorEq, ho, Try.results6]); done) | ((simp only [go_sem, Nat.reduceEqDiff, Nat.reduceAdd, Nat.reduceSub, Nat.reduceLeDiff, Nat.reduceLT, Nat.reduceMul, Nat.reduceBEq, Int.reduceEq, Int.reduceLT, Int.reduceLE, Int.reduceNeg, Int.reduceToNat, reduceCtorEq, ho, Try.results6]); rfl)))
    simp only [go_sem, Nat.reduceEqDiff, Nat.reduceAdd, Nat.reduceSub, Nat.reduceLeDiff, Nat.reduceLT, Nat.reduceMul, Nat.reduceBEq, Int.reduceEq, Int.reduceLT, Int.reduceLE, Int.reduceNeg, Int.reduceToNat, reduceCtorEq, ho, Try.results6]
end Go.Proofs.Ytiefnninebilbaa
