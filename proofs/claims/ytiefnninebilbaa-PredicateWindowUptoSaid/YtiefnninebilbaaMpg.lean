/- A function value that turns its own variables, called for the conjuncts of an expression in order; no condition. -/
import Derived.Test.YtiefnninebilbaaMpe
import Derived.Test.YtiefnninebilbaaMpf
import Derived.Lib.Bytealg
import Derived.Lib.Strings
set_option maxRecDepth 100000
set_option linter.unusedVariables false
set_option linter.unusedSimpArgs false
namespace Go.Proofs.Ytiefnninebilbaa
open Go Go.Sx

def Ex.isAnd (e : Ex) : Bool := decide (e.op = 5) && (decide (2 ≤ e.args.length) && (decide (e.int = 0) && (decide (e.name = emp) && (decide (e.val.kind = 0) && (decide (e.val.int = 0) && decide (e.val.text = emp))))))
mutual
def Ex.conj : Ex → List Ex
  | .mk op int v n args => if (Ex.mk op int v n args).isAnd = true then Ex.conjs args else [.mk op int v n args]
def Ex.conjs : List Ex → List Ex
  | [] => []
  | e :: l => e.conj ++ Ex.conjs l
end
theorem Ex.conj_eq (e : Ex) : e.conj = if e.isAnd = true then Ex.conjs e.args else [e] := by cases e; rw [Ex.conj]; rfl
theorem Ex.conjs_app : ∀ l m, Ex.conjs (l ++ m) = Ex.conjs l ++ Ex.conjs m
  | [], m => rfl
  | e :: l, m => by simp [Ex.conjs, Ex.conjs_app l m]
mutual
theorem Ex.conj_len : ∀ e : Ex, e.conj.length ≤ e.size
  | .mk op int v n args => by
    rw [Ex.conj, Ex.size]
    have := Ex.conjs_len args
    split
    · omega
    · simp
theorem Ex.conjs_len : ∀ l, (Ex.conjs l).length ≤ Ex.sizes l
  | [] => by simp [Ex.conjs]
  | e :: l => by have := Ex.conj_len e; have := Ex.conjs_len l; simp only [Ex.conjs, Ex.sizes, List.length_append]; omega
end
mutual
theorem Ex.conj_size : ∀ (e x : Ex), x ∈ e.conj → x.size ≤ e.size
  | .mk op int v n args, x, h => by
    rw [Ex.conj] at h
    rw [Ex.size]
    split at h
    · have := Ex.conjs_size args x h; omega
    · simp at h; subst h; rw [Ex.size]; omega
theorem Ex.conjs_size : ∀ (l : List Ex) (x : Ex), x ∈ Ex.conjs l → x.size ≤ Ex.sizes l
  | [], x, h => by simp [Ex.conjs] at h
  | e :: l, x, h => by
    rw [Ex.conjs] at h
    rcases List.mem_append.1 h with h | h
    · have := Ex.conj_size e x h; simp only [Ex.sizes]; omega
    · have := Ex.conjs_size l x h; simp only [Ex.sizes]; omega
end
/-- A function value that turns the objects under its own keys, and no others. -/
structure Clo {σ : Type} (c : FuncId) (caps : List PV) (own : Nat → Prop) (b0 : Nat) (step : Ex → Objs → Objs) (f : σ → Ex → σ) (S : σ → Objs → Prop) (sz : σ → Nat) (N : Nat) : Prop where
  low : ∀ k, own k → k < b0
  frame : ∀ x o k, ¬ own k → step x o k = o k
  det : ∀ x o o', (∀ k, own k → o k = o' k) → ∀ k, own k → step x o k = step x o' k
  loc : ∀ s o o', (∀ k, own k → o k = o' k) → S s o → S s o'
  next : ∀ s o x, S s o → S (f s x) (step x o)
  lowS : ∀ s o k ver b y, S s o → own k → o k = (ver, some (b, y)) → ObLow (fun k' => b0 ≤ k') y
  szs : ∀ s x, sz (f s x) ≤ sz s + 1
  run : ∀ s o x b kd, b0 ≤ b → b ≤ 950000000 → S s o → sz s ≤ 100000000 → x.size ≤ N → (∀ k, b ≤ k → k < 1000000000 → (o k).2 = none) → CallRun P0 c (x.enc :: caps) kd o (.tup []) (step x o)
def steps (step : Ex → Objs → Objs) : List Ex → Objs → Objs
  | [], o => o
  | x :: l, o => steps step l (step x o)
theorem steps_app (step : Ex → Objs → Objs) : ∀ (l m : List Ex) (o : Objs), steps step (l ++ m) o = steps step m (steps step l o)
  | [], m, o => rfl
  | x :: l, m, o => by simp only [List.cons_append, steps]; exact steps_app step l m _
section
variable {σ : Type} {c : FuncId} {caps : List PV} {own : Nat → Prop} {b0 : Nat} {step : Ex → Objs → Objs} {f : σ → Ex → σ} {S : σ → Objs → Prop} {sz : σ → Nat} {N : Nat}
theorem Clo.stepsFrame (C : Clo c caps own b0 step f S sz N) : ∀ (l : List Ex) (o : Objs) (k : Nat), ¬ own k → steps step l o k = o k
  | [], o, k, h => rfl
  | x :: l, o, k, h => by rw [steps, C.stepsFrame l _ k h, C.frame x o k h]
theorem Clo.stepsDet (C : Clo c caps own b0 step f S sz N) : ∀ (l : List Ex) (o o' : Objs), (∀ k, own k → o k = o' k) → ∀ k, own k → steps step l o k = steps step l o' k
  | [], o, o', h, k, hk => h k hk
  | x :: l, o, o', h, k, hk => C.stepsDet l _ _ (C.det x o o' h) k hk
theorem Clo.stepsS (C : Clo c caps own b0 step f S sz N) : ∀ (l : List Ex) (s : σ) (o : Objs), S s o → S (l.foldl f s) (steps step l o)
  | [], s, o, h => h
  | x :: l, s, o, h => C.stepsS l _ _ (C.next s o x h)
theorem Clo.stepsSz (C : Clo c caps own b0 step f S sz N) : ∀ (l : List Ex) (s : σ), sz (l.foldl f s) ≤ sz s + l.length
  | [], s => by simp
  | x :: l, s => by have := C.stepsSz l (f s x); have := C.szs s x; simp only [List.foldl_cons, List.length_cons]; omega
/-- Agreement outside of what a call makes for itself goes on. -/
theorem Clo.agree (C : Clo c caps own b0 step f S sz N) {b : Nat} (hb : b0 ≤ b) (l : List Ex) {o1 o2 : Objs} (h : ∀ k, ¬ (b ≤ k ∧ k < 1000000000) → o1 k = o2 k) : ∀ k, ¬ (b ≤ k ∧ k < 1000000000) → steps step l o1 k = steps step l o2 k := by
  intro k hk
  by_cases ho : own k
  · exact C.stepsDet l o1 o2 (fun j hj => h j (by have := C.low j hj; omega)) k ho
  · rw [C.stepsFrame l o1 k ho, C.stepsFrame l o2 k ho]; exact h k hk
theorem ok129 : okCode M0 Try.f129.ntmps (Try.f129.body.getD .skip) = true := by decide +kernel
theorem Clo.each (C : Clo c caps own b0 step f S sz N) : ∀ (n : Nat) (e : Ex), e.size ≤ n → e.size ≤ N → ∀ (s : σ) (o : Objs) (b : Nat) (kd : Option Nat), b0 ≤ b → b + 45 * e.size ≤ 900000000 → S s o → sz s + e.size ≤ 100000000 → (∀ k, b ≤ k → k < 1000000000 → (o k).2 = none) →
    CallRun P0 129 [e.enc, .fn c [] caps] kd o (.tup []) (steps step e.conj o) := by
  intro n
  induction n with
  | zero => intro e he; have := e.size_pos; omega
  | succ n ih =>
    intro e he heN s o b kd hb hbig hS hsz ho
    have hpos := e.size_pos
    have hown : ∀ k, own k → k < b := fun k hk => Nat.lt_of_lt_of_le (C.low k hk) hb
    refine CallRun.of_awp _ _ (fun k => b ≤ k ∧ k < 1000000000) (E := (E0.at b)) (M := M0) follows Try.func129 rfl (by decide) ok129 (fun d hd => ?_) (by simp) (fun k hk => ⟨ho k hk.1 hk.2, ?_⟩) (fun k hk => ?_) (fun k ver bb y hk => ?_) ?_ ?_
    · show b + d < 1000000000
      have : d < 45 := hd
      omega
    · exact C.stepsFrame _ _ _ fun h => by have := hown k h; omega
    · exact C.stepsFrame _ _ _ fun h => by have := hown k h; omega
    · by_cases hok : own k
      · exact .inr ((C.lowS _ _ k ver bb y (C.stepsS e.conj s o hS) hok hk).mono fun j hj => by omega)
      · exact .inl (C.stepsFrame _ _ _ hok)
    · simp only [go_sem]
    have hne : ∀ j, j < 45 → ¬ own (b + j) := fun j hj h => by have := hown _ h; omega
    simp only [go_sem, Nat.reduceEqDiff, Nat.reduceAdd, Nat.reduceSub, Nat.reduceLeDiff, Nat.reduceLT, Nat.reduceMul, Nat.reduceBEq, Int.reduceEq, Int.reduceLT, Int.reduceLE, Int.reduceNeg, Int.reduceToNat, reduceCtorEq, ho, Try.results129, e.enc_eq, eq_self, Nat.add_left_cancel_iff, Nat.left_eq_add, Nat.add_eq_left, List.length_map]
    by_cases hA : e.isAnd = true
    · have hA' := hA
      simp only [Ex.isAnd, Bool.and_eq_true, decide_eq_true_eq] at hA'
      obtain ⟨a1, a2, a3, a4, a5, a6, a7⟩ := hA'
      have hcj : e.conj = Ex.conjs e.args := by rw [Ex.conj_eq, if_pos hA]
      have a2' : ¬ (e.args.length : Int) < 2 := by omega
      have hse := e.size_eq
      have hlen := Ex.len_sizes e.args
      simp only [go_sem, Nat.reduceEqDiff, Nat.reduceAdd, Nat.reduceSub, Nat.reduceLeDiff, Nat.reduceLT, Nat.reduceMul, Nat.reduceBEq, Int.reduceEq, Int.reduceLT, Int.reduceLE, Int.reduceNeg, Int.reduceToNat, reduceCtorEq, ho, Try.results129, a1, a2', a3, a4, a5, a6, a7, eq_self, Nat.add_left_cancel_iff, Nat.left_eq_add, Nat.add_eq_left, List.length_map, decide_true]
      rw [hcj]
      refine ⟨fun m st => ∃ (done rest : List Ex), e.args = done ++ rest ∧ rest.length = m ∧ st.s 37 = .int .i64 done.length ∧ st.s 36 = .int .i64 e.args.length ∧ st.s 35 = .sl (e.args.map Ex.enc) ∧ st.s 1 = .fn c [] caps ∧ (∀ k, ¬ (b ≤ k ∧ k < 1000000000) → st.o k = steps step (Ex.conjs done) o k) ∧ (∀ k, b + 45 ≤ k → k < 1000000000 → (st.o k).2 = none), e.args.length,
        ⟨[], e.args, rfl, rfl, by simp only [go_sem, Nat.reduceEqDiff, Nat.reduceAdd, Nat.reduceSub, Nat.reduceLeDiff, Nat.reduceLT, Nat.reduceMul, Nat.reduceBEq, Int.reduceEq, Int.reduceLT, Int.reduceLE, Int.reduceNeg, Int.reduceToNat, reduceCtorEq, ho, Try.results129]; rfl, by simp only [go_sem, Nat.reduceEqDiff, Nat.reduceAdd, Nat.reduceSub, Nat.reduceLeDiff, Nat.reduceLT, Nat.reduceMul, Nat.reduceBEq, Int.reduceEq, Int.reduceLT, Int.reduceLE, Int.reduceNeg, Int.reduceToNat, reduceCtorEq, ho, Try.results129], by simp only [go_sem, Nat.reduceEqDiff, Nat.reduceAdd, Nat.reduceSub, Nat.reduceLeDiff, Nat.reduceLT, Nat.reduceMul, Nat.reduceBEq, Int.reduceEq, Int.reduceLT, Int.reduceLE, Int.reduceNeg, Int.reduceToNat, reduceCtorEq, ho, Try.results129], by simp only [go_sem, Nat.reduceEqDiff, Nat.reduceAdd, Nat.reduceSub, Nat.reduceLeDiff, Nat.reduceLT, Nat.reduceMul, Nat.reduceBEq, Int.reduceEq, Int.reduceLT, Int.reduceLE, Int.reduceNeg, Int.reduceToNat, reduceCtorEq, ho, Try.results129], fun k hk => ?_, fun k h1 h2 => ?_⟩, ?_⟩
      · have h1 : ¬ k = b + 2 := by omega
        simp only [go_sem, Nat.reduceEqDiff, Nat.reduceAdd, Nat.reduceSub, Nat.reduceLeDiff, Nat.reduceLT, Nat.reduceMul, Nat.reduceBEq, Int.reduceEq, Int.reduceLT, Int.reduceLE, Int.reduceNeg, Int.reduceToNat, reduceCtorEq, ho, Try.results129, h1, Ex.conjs, steps]
      · have h3 : ¬ k = b + 2 := by omega
        simp only [go_sem, Nat.reduceEqDiff, Nat.reduceAdd, Nat.reduceSub, Nat.reduceLeDiff, Nat.reduceLT, Nat.reduceMul, Nat.reduceBEq, Int.reduceEq, Int.reduceLT, Int.reduceLE, Int.reduceNeg, Int.reduceToNat, reduceCtorEq, ho, Try.results129, h3]
        exact ho k (by omega) h2
      rintro m st ⟨done, rest, hl', hn, h37, h36, h35, hs1, hag, hab⟩
      have hlen2 : done.length + rest.length = e.args.length := by rw [hl']; simp
      have hw : IntKind.i64.wrap ((done.length : Int) + 1) = (done.length : Int) + 1 := wrap_fits (by omega) (by omega)
      cases rest with
      | nil =>
        have hlt : ¬ (done.length : Int) < (e.args.length : Int) := by simp at hlen2; omega
        have hd : e.args = done := by simpa using hl'
        simp only [go_sem, Nat.reduceEqDiff, Nat.reduceAdd, Nat.reduceSub, Nat.reduceLeDiff, Nat.reduceLT, Nat.reduceMul, Nat.reduceBEq, Int.reduceEq, Int.reduceLT, Int.reduceLE, Int.reduceNeg, Int.reduceToNat, reduceCtorEq, ho, Try.results129, h37, h36, hlt]
        rw [hd]
        exact hag
      | cons x rest =>
        have hlt : (done.length : Int) < (e.args.length : Int) := by simp at hlen2; omega
        have hget : (e.args.map Ex.enc)[done.length]? = some x.enc := by simp [hl']
        have hxs : x.size + Ex.sizes done ≤ Ex.sizes e.args := by rw [hl', Ex.sizes_app]; simp only [Ex.sizes]; omega
        have hcl := Ex.conjs_len done
        have hfs := C.stepsSz (Ex.conjs done) s
        simp only [go_sem, Nat.reduceEqDiff, Nat.reduceAdd, Nat.reduceSub, Nat.reduceLeDiff, Nat.reduceLT, Nat.reduceMul, Nat.reduceBEq, Int.reduceEq, Int.reduceLT, Int.reduceLE, Int.reduceNeg, Int.reduceToNat, reduceCtorEq, ho, Try.results129, h37, h36, h35, hs1, hlt, hget, Int.natCast_nonneg, Int.toNat_natCast, eq_self, Nat.add_left_cancel_iff, Nat.left_eq_add, Nat.add_eq_left]
        refine GCall.turn' (args' := [x.enc, .fn c [] caps]) (by rw [x.enc_eq]) (ih x (by omega) (by omega) ((Ex.conjs done).foldl f s) _ (b + 45) _ (by omega) (by omega) ?_ (by omega) ?_) ?_
        · refine C.loc _ _ _ (fun k hk => ?_) (C.stepsS (Ex.conjs done) s o hS)
          have h1 := hown k hk
          have h2 : ¬ k = b + 5 := by omega
          rw [← hag k (by omega)]
          simp only [go_sem, Nat.reduceEqDiff, Nat.reduceAdd, Nat.reduceSub, Nat.reduceLeDiff, Nat.reduceLT, Nat.reduceMul, Nat.reduceBEq, Int.reduceEq, Int.reduceLT, Int.reduceLE, Int.reduceNeg, Int.reduceToNat, reduceCtorEq, ho, Try.results129, h2]
        · intro k h1 h2
          have h3 : ¬ k = b + 5 := by omega
          simp only [go_sem, Nat.reduceEqDiff, Nat.reduceAdd, Nat.reduceSub, Nat.reduceLeDiff, Nat.reduceLT, Nat.reduceMul, Nat.reduceBEq, Int.reduceEq, Int.reduceLT, Int.reduceLE, Int.reduceNeg, Int.reduceToNat, reduceCtorEq, ho, Try.results129, h3]
          exact hab k h1 h2
        simp only [go_sem, Nat.reduceEqDiff, Nat.reduceAdd, Nat.reduceSub, Nat.reduceLeDiff, Nat.reduceLT, Nat.reduceMul, Nat.reduceBEq, Int.reduceEq, Int.reduceLT, Int.reduceLE, Int.reduceNeg, Int.reduceToNat, reduceCtorEq, ho, Try.results129, h37, h36, h35, hs1, hw, eq_self, Nat.add_left_cancel_iff, Nat.left_eq_add, Nat.add_eq_left]
        refine ⟨rest.length, by simp at hn; omega, done ++ [x], rest, by simp [hl'], rfl, by simp, fun k hk => ?_, fun k h1 h2 => ?_⟩
        · rw [Ex.conjs_app, steps_app, show Ex.conjs [x] = x.conj by simp [Ex.conjs]]
          refine C.agree hb x.conj (fun j hj => ?_) k hk
          have h3 : ¬ j = b + 5 := by omega
          rw [← hag j hj]
          simp only [go_sem, Nat.reduceEqDiff, Nat.reduceAdd, Nat.reduceSub, Nat.reduceLeDiff, Nat.reduceLT, Nat.reduceMul, Nat.reduceBEq, Int.reduceEq, Int.reduceLT, Int.reduceLE, Int.reduceNeg, Int.reduceToNat, reduceCtorEq, ho, Try.results129, h3]
        · rw [C.stepsFrame _ _ k fun h => by have := hown k h; omega]
          have h3 : ¬ k = b + 5 := by omega
          simp only [go_sem, Nat.reduceEqDiff, Nat.reduceAdd, Nat.reduceSub, Nat.reduceLeDiff, Nat.reduceLT, Nat.reduceMul, Nat.reduceBEq, Int.reduceEq, Int.reduceLT, Int.reduceLE, Int.reduceNeg, Int.reduceToNat, reduceCtorEq, ho, Try.results129, h3]
          exact hab k h1 h2
    · have hcj : e.conj = [e] := by rw [Ex.conj_eq, if_neg hA]
      rw [hcj]
      have hnot : ¬ (e.op = 5 ∧ 2 ≤ e.args.length ∧ e.int = 0 ∧ e.name = emp ∧ e.val.kind = 0 ∧ e.val.int = 0 ∧ e.val.text = emp) := fun hh => hA (by simp [Ex.isAnd, hh])
      repeat' (first | (refine AIf_cases (fun h => ?_) (fun h => ?_) <;> (try simp only [decide_eq_true_eq, decide_eq_false_iff_not, Bool.not_eq_true', Bool.not_eq_false', Bool.not_eq_true, Bool.not_eq_false] at h) <;> (try simp only [go_sem, Nat.reduceEqDiff, Nat.reduceAdd, Nat.reduceSub, Nat.reduceLeDiff, Nat.reduceLT, Nat.reduceMul, Nat.reduceBEq, Int.reduceEq, Int.reduceLT, Int.reduceLE, Int.reduceNeg, Int.reduceToNat, reduceCtorEq, ho, Try.results129, h, eq_self, Nat.add_left_cancel_iff, Nat.left_eq_add, Nat.add_eq_left, List.length_map])))
      all_goals first
        | (exfalso; apply hnot; simp_all; omega)
        | (refine GCall.turn' (args' := e.enc :: caps) (by first | (rw [e.enc_eq]; done) | (rw [e.enc_eq]; simp [*])) (C.run s _ e (b + 45) _ (by omega) (by omega) (C.loc s o _ (fun k hk => ?_) hS) (by omega) heN fun k h1 h2 => ?_) ?_
           · have h1 := hown k hk
             have h2 : ¬ k = b + 2 := by omega
             simp only [go_sem, Nat.reduceEqDiff, Nat.reduceAdd, Nat.reduceSub, Nat.reduceLeDiff, Nat.reduceLT, Nat.reduceMul, Nat.reduceBEq, Int.reduceEq, Int.reduceLT, Int.reduceLE, Int.reduceNeg, Int.reduceToNat, reduceCtorEq, ho, Try.results129, h2]
           · have h3 : ¬ k = b + 2 := by omega
             simp only [go_sem, Nat.reduceEqDiff, Nat.reduceAdd, Nat.reduceSub, Nat.reduceLeDiff, Nat.reduceLT, Nat.reduceMul, Nat.reduceBEq, Int.reduceEq, Int.reduceLT, Int.reduceLE, Int.reduceNeg, Int.reduceToNat, reduceCtorEq, ho, Try.results129, h3]
             exact ho k (by omega) h2
           · simp only [go_sem, Nat.reduceEqDiff, Nat.reduceAdd, Nat.reduceSub, Nat.reduceLeDiff, Nat.reduceLT, Nat.reduceMul, Nat.reduceBEq, Int.reduceEq, Int.reduceLT, Int.reduceLE, Int.reduceNeg, Int.reduceToNat, reduceCtorEq, ho, Try.results129, eq_self]
             refine C.agree hb [e] fun j hj => ?_
             have h3 : ¬ j = b + 2 := by omega
             simp only [go_sem, Nat.reduceEqDiff, Nat.reduceAdd, Nat.reduceSub, Nat.reduceLeDiff, Nat.reduceLT, Nat.reduceMul, Nat.reduceBEq, Int.reduceEq, Int.reduceLT, Int.reduceLE, Int.reduceNeg, Int.reduceToNat, reduceCtorEq, ho, Try.results129, h3])
end
end Go.Proofs.Ytiefnninebilbaa
/- Contracts shown at the machine itself: the comparison of strings, the copy of a slice of integers; no condition. -/
set_option maxRecDepth 100000
set_option linter.unusedVariables false
set_option linter.unusedSimpArgs false
namespace Go.Proofs.Ytiefnninebilbaa
open Go Go.Sx Go.RowKit

set_option maxHeartbeats 1000000 in
theorem cmpString_run (a b : ByteArray) (w : World) : Calls Try.prog 219 #[.string a, .string b] w fun e w' => e = .returned (.int .i64 (Lib.compareBytes a.data.toList b.data.toList)) ∧ w' = w := by
  go_enter Try.func219, Try.ntmps219
  go_wp2
  rw [run_callFunc_extern Try.func221 (by kernel_rfl) (by kernel_rfl) (by kernel_rfl) (e := Extern.BytealgCompare.compare) (by kernel_rfl), Lib.run_compareString]
  simp only [Result.andThen]
  rw [Oper.upon_value]
  go_wp2
  go_ret
  exact ⟨rfl, rfl⟩
theorem enters {f : FuncId} {fn : Func} {c : Code} (hf : P0.funcs[f]? = some fn) (hb : fn.body = some c) (hname : (fn.name == "runtime.NumGoroutine") = false) (vs : Array Value) (w : World) : (callFunc f vs).run P0 w = .ok (.enter f vs) w := by
  have hname' : ¬ fn.name = "runtime.NumGoroutine" := by simpa using hname
  simp [callFunc, hf, hname', hb]
theorem two_args {w : World} {B : Nat → Prop} {vs : Array Value} {x y : PV} (hn : vs.size = 2) (hv : ∀ (j : Nat) (z : PV) (u : Value), [x, y][j]? = some z → vs[j]? = some u → Rd w B z u) : ∃ u v, vs = #[u, v] ∧ Rd w B x u ∧ Rd w B y v := by
  obtain ⟨l⟩ := vs
  match l, hn with
  | [u, v], _ => exact ⟨u, v, rfl, hv 0 x u rfl rfl, hv 1 y v rfl rfl⟩
theorem one_arg {w : World} {B : Nat → Prop} {vs : Array Value} {x : PV} (hn : vs.size = 1) (hv : ∀ (j : Nat) (z : PV) (u : Value), [x][j]? = some z → vs[j]? = some u → Rd w B z u) : ∃ u, vs = #[u] ∧ Rd w B x u := by
  obtain ⟨l⟩ := vs
  match l, hn with
  | [u], _ => exact ⟨u, rfl, hv 0 x u rfl rfl⟩
theorem cmpString_fn (a b : ByteArray) : Fc 219 [.str a, .str b] (.int .i64 (Lib.compareBytes a.data.toList b.data.toList)) where
  enter := enters Try.func219 rfl (by decide)
  calls vs w B hB hn hv := by
    obtain ⟨u, v, rfl, h1, h2⟩ := two_args hn hv
    cases h1
    cases h2
    refine (cmpString_run a b w).mono ?_
    rintro e w' ⟨rfl, rfl⟩
    exact ⟨_, rfl, Below.refl _ _, .int _ _⟩
theorem eq_nil_slice {P : Program} {T e : TypeId} (hu : P.underlying T = some (.slice e)) (a : Option Addr) (n c : Nat) (w : World) : (binOp .eql T (.slice a n c) (.slice none 0 0)).run P w = .ok (.bool a.isNone) w := by
  have h : ∀ d, (Op.equalIn (d + 1) T (.slice a n c) (.slice none 0 0)).run P w = .ok a.isNone w := by
    intro d
    cases a <;> simp [Op.equalIn, run_underlying hu]
  have h1 : (Op.equal T (.slice a n c) (.slice none 0 0)).run P w = .ok a.isNone w := h 9999
  simp [binOp, h1]
set_option maxHeartbeats 1000000 in
theorem clone_nil (w : World) (c : Nat) : Calls Try.prog 207 #[.slice none 0 c] w fun e w' => e = .returned (.slice none 0 0) ∧ w' = w := by
  have h := eq_nil_slice (P := Try.prog) (T := 23) (e := 3) (by kernel_rfl) none 0 c w
  go_enter Try.func207, Try.ntmps207
  go_wp2
  go_ret
  exact ⟨rfl, rfl⟩
set_option maxHeartbeats 1000000 in
theorem clone_zero (w : World) (a : Addr) (c : Nat) : Calls Try.prog 207 #[.slice (some a) 0 c] w fun e w' => e = .returned (.slice (some ⟨w.heap.size, 0, none⟩) 0 0) ∧ w' = w.alloc (.cells #[] 3) := by
  have he := eq_nil_slice (P := Try.prog) (T := 23) (e := 3) (by kernel_rfl) (some a) 0 c w
  go_enter Try.func207, Try.ntmps207
  go_wp2
  go_ret
  exact ⟨rfl, rfl⟩
theorem clone_empty : Fc 207 [.sl []] .nil where
  enter := enters Try.func207 rfl (by decide)
  calls vs w B hB hn hv := by
    obtain ⟨u, rfl, h1⟩ := one_arg hn hv
    cases h1 with
    | sl0 a c =>
      cases a with
      | none =>
        refine (clone_nil w c).mono ?_
        rintro e w' ⟨rfl, rfl⟩
        exact ⟨_, rfl, Below.refl _ _, .nil _⟩
      | some a =>
        refine (clone_zero w a c).mono ?_
        rintro e w' ⟨rfl, rfl⟩
        exact ⟨_, rfl, (Below.refl _ _).alloc (Nat.le_refl _) _, .nil _⟩
    | sl _ ad n c sz us hn' h0 => subst hn'; simp at h0
theorem ok207 : okCode M0 Try.f207.ntmps (Try.f207.body.getD .skip) = true := by decide +kernel
theorem clone_fn (y : PV) (ys : List PV) (hz : ∀ z ∈ y :: ys, z.cells.length = 1) (hl : (y :: ys).length ≤ 1000000000) : FnR P0 207 [.sl (y :: ys)] (.row 3 (y :: ys)) := by
  refine fn_of_awp (E := E0) (M := M0) follows Try.func207 rfl (by decide) ok207 (by decide) (by simp) fun o ho => ?_
  have hb : (ys.length + 1) * 9 ≤ 140737488355328 := by simp at hl; omega
  have h1 : y.cells.length = 1 := hz y (by simp)
  have h2 : ∀ x, x ∈ ys → x.cells.length = 1 := fun x hx => hz x (by simp [hx])
  simp only [go_sem, Nat.reduceEqDiff, Nat.reduceAdd, Nat.reduceSub, Nat.reduceLeDiff, Nat.reduceLT, Nat.reduceMul, Nat.reduceBEq, Int.reduceEq, Int.reduceLT, Int.reduceLE, Int.reduceNeg, Int.reduceToNat, reduceCtorEq, ho, Try.results207, List.forall_mem_cons, h1, eq_true h2, hb]
end Go.Proofs.Ytiefnninebilbaa
/- What the checking of an expression returns: the program's functions; no condition. -/
set_option maxRecDepth 100000
set_option linter.unusedVariables false
set_option linter.unusedSimpArgs false
namespace Go.Proofs.Ytiefnninebilbaa
open Go Go.Sx

def known (op : Int) : Bool := decide (1 ≤ op) && decide (op ≤ 24) && !decide (op = 3)
def fitsN (op n : Int) : Bool :=
  if op = 1 ∨ op = 2 then decide (n = 0)
  else if op = 4 ∨ op = 18 ∨ op = 20 ∨ op = 21 then decide (n = 1)
  else if op = 7 ∨ op = 8 ∨ op = 9 ∨ op = 10 ∨ op = 11 ∨ op = 12 ∨ op = 13 ∨ op = 14 ∨ op = 15 ∨ op = 16 ∨ op = 17 ∨ op = 19 then decide (n = 2)
  else if op = 5 ∨ op = 6 then decide (2 ≤ n)
  else if op = 22 then decide (n = 3)
  else if op = 23 then decide (1 ≤ n)
  else if op = 24 then decide (n = 4)
  else false
theorem ok153 : okCode M0 Try.f153.ntmps (Try.f153.body.getD .skip) = true := by decide +kernel
theorem counts_fn (op n : Int) : Fc 153 [.int .i64 op, .int .i64 n] (.tup [.bool (fitsN op n), .bool (known op)]) := by
  refine fn_of_awp (E := E0) (M := M0) follows Try.func153 rfl (by decide) ok153 (by decide) (by simp) fun o ho => ?_
  simp only [go_sem, Nat.reduceEqDiff, Nat.reduceAdd, Nat.reduceSub, Nat.reduceLeDiff, Nat.reduceLT, Nat.reduceMul, Nat.reduceBEq, Int.reduceEq, Int.reduceLT, Int.reduceLE, Int.reduceNeg, Int.reduceToNat, reduceCtorEq, ho, Try.results153]
  repeat' (first | (refine AIf_cases (fun h => ?_) (fun h => ?_) <;> (try simp only [decide_eq_true_eq, decide_eq_false_iff_not, Bool.not_eq_true', Bool.not_eq_false', Bool.not_eq_true, Bool.not_eq_false] at h) <;> (try simp only [go_sem, Nat.reduceEqDiff, Nat.reduceAdd, Nat.reduceSub, Nat.reduceLeDiff, Nat.reduceLT, Nat.reduceMul, Nat.reduceBEq, Int.reduceEq, Int.reduceLT, Int.reduceLE, Int.reduceNeg, Int.reduceToNat, reduceCtorEq, ho, Try.results153, h])))
  all_goals (first | (subst_vars; exact ⟨rfl, rfl⟩) | skip)
  exact ⟨by simp [fitsN, *], by simp [known]; omega⟩
def Ex.formed (e : Ex) : Bool :=
  fitsN e.op e.args.length && (decide (e.name = emp) &&
    (if e.op = 1 then decide (e.int = 0) && e.val.valid
    else if e.op = 24 then decide (0 ≤ e.int) && (decide (e.int < 13) && (decide (e.val.kind = 0) && (decide (e.val.int = 0) && decide (e.val.text = emp))))
    else if e.op = 2 then decide (e.val.kind = 0) && (decide (e.val.int = 0) && decide (e.val.text = emp))
    else decide (e.int = 0) && (decide (e.val.kind = 0) && (decide (e.val.int = 0) && decide (e.val.text = emp)))))
theorem ok96 : okCode M0 Try.f96.ntmps (Try.f96.body.getD .skip) = true := by decide +kernel
theorem formed_fn (e : Ex) : Fc 96 [e.enc] (.bool e.formed) := by
  refine fn_of_awp (E := E0) (M := M0) follows Try.func96 rfl (by decide) ok96 (by decide) (by simp) fun o ho => ?_
  simp only [go_sem, Nat.reduceEqDiff, Nat.reduceAdd, Nat.reduceSub, Nat.reduceLeDiff, Nat.reduceLT, Nat.reduceMul, Nat.reduceBEq, Int.reduceEq, Int.reduceLT, Int.reduceLE, Int.reduceNeg, Int.reduceToNat, reduceCtorEq, ho, Try.results96, e.enc_eq]
  refine GCall.fr ?_ (counts_fn e.op e.args.length) (.inl rfl) ?_; (focus (first | rfl | ((simp only [go_sem, Nat.reduceEqDiff, Nat.reduceAdd, Nat.reduceSub, Nat.reduceLeDiff, Nat.reduceLT, Nat.reduceMul, Nat.reduceBEq, Int.reduceEq, Int.reduceLT, Int.reduceLE, Int.reduceNeg, Int.reduceToNat, reduceCtorEq, ho, Try.results96, List.length_map]); done) | ((simp only [go_sem, Nat.reduceEqDiff, Nat.reduceAdd, Nat.reduceSub, Nat.reduceLeDiff, Nat.reduceLT, Nat.reduceMul, Nat.reduceBEq, Int.reduceEq, Int.reduceLT, Int.reduceLE, Int.reduceNeg, Int.reduceToNat, reduceCtorEq, ho, Try.results96, List.length_map]); rfl)))
  simp only [go_sem, Nat.reduceEqDiff, Nat.reduceAdd, Nat.reduceSub, Nat.reduceLeDiff, Nat.reduceLT, Nat.reduceMul, Nat.reduceBEq, Int.reduceEq, Int.reduceLT, Int.reduceLE, Int.reduceNeg, Int.reduceToNat, reduceCtorEq, ho, Try.results96, List.length_map]
  repeat' (first | (refine AIf_cases (fun h => ?_) (fun h => ?_) <;> (try simp only [decide_eq_true_eq, decide_eq_false_iff_not, Bool.not_eq_true', Bool.not_eq_false', Bool.not_eq_true, Bool.not_eq_false] at h) <;> (try simp only [go_sem, Nat.reduceEqDiff, Nat.reduceAdd, Nat.reduceSub, Nat.reduceLeDiff, Nat.reduceLT, Nat.reduceMul, Nat.reduceBEq, Int.reduceEq, Int.reduceLT, Int.reduceLE, Int.reduceNeg, Int.reduceToNat, reduceCtorEq, ho, Try.results96, h])) | (refine GCall.fr ?_ (valid_fn e.val) (.inl rfl) ?_; (focus (first | rfl | ((simp only [go_sem, Nat.reduceEqDiff, Nat.reduceAdd, Nat.reduceSub, Nat.reduceLeDiff, Nat.reduceLT, Nat.reduceMul, Nat.reduceBEq, Int.reduceEq, Int.reduceLT, Int.reduceLE, Int.reduceNeg, Int.reduceToNat, reduceCtorEq, ho, Try.results96]); done) | ((simp only [go_sem, Nat.reduceEqDiff, Nat.reduceAdd, Nat.reduceSub, Nat.reduceLeDiff, Nat.reduceLT, Nat.reduceMul, Nat.reduceBEq, Int.reduceEq, Int.reduceLT, Int.reduceLE, Int.reduceNeg, Int.reduceToNat, reduceCtorEq, ho, Try.results96]); rfl))); (try simp only [go_sem, Nat.reduceEqDiff, Nat.reduceAdd, Nat.reduceSub, Nat.reduceLeDiff, Nat.reduceLT, Nat.reduceMul, Nat.reduceBEq, Int.reduceEq, Int.reduceLT, Int.reduceLE, Int.reduceNeg, Int.reduceToNat, reduceCtorEq, ho, Try.results96])) | (refine QCall.fr ?_ (valid_fn e.val) (.inl rfl) ?_; (focus (first | rfl | ((simp only [go_sem, Nat.reduceEqDiff, Nat.reduceAdd, Nat.reduceSub, Nat.reduceLeDiff, Nat.reduceLT, Nat.reduceMul, Nat.reduceBEq, Int.reduceEq, Int.reduceLT, Int.reduceLE, Int.reduceNeg, Int.reduceToNat, reduceCtorEq, ho, Try.results96]); done) | ((simp only [go_sem, Nat.reduceEqDiff, Nat.reduceAdd, Nat.reduceSub, Nat.reduceLeDiff, Nat.reduceLT, Nat.reduceMul, Nat.reduceBEq, Int.reduceEq, Int.reduceLT, Int.reduceLE, Int.reduceNeg, Int.reduceToNat, reduceCtorEq, ho, Try.results96]); rfl))); (try simp only [go_sem, Nat.reduceEqDiff, Nat.reduceAdd, Nat.reduceSub, Nat.reduceLeDiff, Nat.reduceLT, Nat.reduceMul, Nat.reduceBEq, Int.reduceEq, Int.reduceLT, Int.reduceLE, Int.reduceNeg, Int.reduceToNat, reduceCtorEq, ho, Try.results96])))
  all_goals (first | (simp_all [Ex.formed]; done) | (simp_all [Ex.formed]; omega) | (simp_all [Ex.formed]; intros; omega) | (simp_all [Ex.formed]; (repeat' split) <;> (first | (simp_all; done) | (simp_all; omega) | omega)))
mutual
def Ex.depth : Ex → Nat
  | .mk _ _ _ _ args => Ex.depths args + 1
def Ex.depths : List Ex → Nat
  | [] => 0
  | e :: l => max e.depth (Ex.depths l)
end
mutual
theorem Ex.depth_le : ∀ e : Ex, e.depth ≤ e.size
  | .mk _ _ _ _ args => by have := Ex.depths_le args; simp [Ex.depth, Ex.size]; omega
theorem Ex.depths_le : ∀ l, Ex.depths l ≤ Ex.sizes l
  | [] => by simp [Ex.depths]
  | e :: l => by have := Ex.depth_le e; have := Ex.depths_le l; simp [Ex.depths, Ex.sizes]; omega
end
theorem Ex.depths_app : ∀ l m, Ex.depths (l ++ m) = max (Ex.depths l) (Ex.depths m)
  | [], m => by simp [Ex.depths]
  | e :: l, m => by simp [Ex.depths, Ex.depths_app l m, Nat.max_assoc]
theorem Ex.depth_eq (e : Ex) : e.depth = Ex.depths e.args + 1 := by cases e; rfl
theorem ok122 : okCode M0 Try.f122.ntmps (Try.f122.body.getD .skip) = true := by decide +kernel
theorem depthP_fn : ∀ (n : Nat) (e : Ex) (most : Int), e.size ≤ n → n ≤ 1000000000 → 1 ≤ most → most ≤ 1000000000 → Fc 122 [e.enc, .int .i64 most] (.int .i64 (min (e.depth : Int) most))
  | 0, e, most, h, _, _, _ => by have := e.size_pos; omega
  | n + 1, e, most, h, hn, h1, hm => by
    have hde := e.depth_eq
    refine fn_of_awp (E := E0) (M := M0) follows Try.func122 rfl (by decide) ok122 (by decide) (by simp) fun o ho => ?_
    simp only [go_sem, Nat.reduceEqDiff, Nat.reduceAdd, Nat.reduceSub, Nat.reduceLeDiff, Nat.reduceLT, Nat.reduceMul, Nat.reduceBEq, Int.reduceEq, Int.reduceLT, Int.reduceLE, Int.reduceNeg, Int.reduceToNat, reduceCtorEq, ho, Try.results122, e.enc_eq]
    by_cases hmost : most ≤ 1
    · simp only [go_sem, Nat.reduceEqDiff, Nat.reduceAdd, Nat.reduceSub, Nat.reduceLeDiff, Nat.reduceLT, Nat.reduceMul, Nat.reduceBEq, Int.reduceEq, Int.reduceLT, Int.reduceLE, Int.reduceNeg, Int.reduceToNat, reduceCtorEq, ho, Try.results122, hmost]
      omega
    have hw1 : IntKind.i64.wrap (most - 1) = most - 1 := wrap_fits (by omega) (by omega)
    simp only [go_sem, Nat.reduceEqDiff, Nat.reduceAdd, Nat.reduceSub, Nat.reduceLeDiff, Nat.reduceLT, Nat.reduceMul, Nat.reduceBEq, Int.reduceEq, Int.reduceLT, Int.reduceLE, Int.reduceNeg, Int.reduceToNat, reduceCtorEq, ho, Try.results122, hmost, List.length_map]
    refine ⟨fun n st => ∃ (i : Nat) (done rest : List Ex), e.args = done ++ rest ∧ i = done.length ∧ n = rest.length ∧ st.s 13 = .int .i64 i ∧ st.s 12 = .int .i64 e.args.length ∧ st.s 11 = .sl (e.args.map Ex.enc) ∧ st.s 5 = .int .i64 (min ((Ex.depths done : Int) + 1) most) ∧ st.s 1 = .int .i64 most, e.args.length, ⟨0, [], e.args, rfl, rfl, rfl, by simp only [go_sem, Nat.reduceEqDiff, Nat.reduceAdd, Nat.reduceSub, Nat.reduceLeDiff, Nat.reduceLT, Nat.reduceMul, Nat.reduceBEq, Int.reduceEq, Int.reduceLT, Int.reduceLE, Int.reduceNeg, Int.reduceToNat, reduceCtorEq, ho, Try.results122]; rfl, by simp only [go_sem, Nat.reduceEqDiff, Nat.reduceAdd, Nat.reduceSub, Nat.reduceLeDiff, Nat.reduceLT, Nat.reduceMul, Nat.reduceBEq, Int.reduceEq, Int.reduceLT, Int.reduceLE, Int.reduceNeg, Int.reduceToNat, reduceCtorEq, ho, Try.results122], by simp only [go_sem, Nat.reduceEqDiff, Nat.reduceAdd, Nat.reduceSub, Nat.reduceLeDiff, Nat.reduceLT, Nat.reduceMul, Nat.reduceBEq, Int.reduceEq, Int.reduceLT, Int.reduceLE, Int.reduceNeg, Int.reduceToNat, reduceCtorEq, ho, Try.results122], by simp only [go_sem, Nat.reduceEqDiff, Nat.reduceAdd, Nat.reduceSub, Nat.reduceLeDiff, Nat.reduceLT, Nat.reduceMul, Nat.reduceBEq, Int.reduceEq, Int.reduceLT, Int.reduceLE, Int.reduceNeg, Int.reduceToNat, reduceCtorEq, ho, Try.results122, Ex.depths]; omega, by simp only [go_sem, Nat.reduceEqDiff, Nat.reduceAdd, Nat.reduceSub, Nat.reduceLeDiff, Nat.reduceLT, Nat.reduceMul, Nat.reduceBEq, Int.reduceEq, Int.reduceLT, Int.reduceLE, Int.reduceNeg, Int.reduceToNat, reduceCtorEq, ho, Try.results122]⟩, ?_⟩
    rintro m st ⟨i, done, rest, hl, rfl, rfl, h13, h12, h11, h5, hs1⟩
    have hsz := e.size_eq
    rw [hl, Ex.sizes_app] at hsz
    have hdl := Ex.len_sizes done
    have hw : IntKind.i64.wrap ((done.length : Int) + 1) = (done.length : Int) + 1 := wrap_fits (by omega) (by omega)
    cases rest with
    | nil =>
      have hlt : ¬ (done.length : Int) < (e.args.length : Int) := by simp [hl]
      simp only [go_sem, Nat.reduceEqDiff, Nat.reduceAdd, Nat.reduceSub, Nat.reduceLeDiff, Nat.reduceLT, Nat.reduceMul, Nat.reduceBEq, Int.reduceEq, Int.reduceLT, Int.reduceLE, Int.reduceNeg, Int.reduceToNat, reduceCtorEq, ho, Try.results122, h13, h12, hlt, h5]
      simp at hl
      rw [hde, hl]
      simp
    | cons x rest =>
      have hlt : (done.length : Int) < (e.args.length : Int) := by simp [hl]; omega
      have hget : (e.args.map Ex.enc)[done.length]? = some x.enc := by simp [hl]
      have hxs : x.size ≤ n := by simp [Ex.sizes] at hsz; omega
      have hw2 : IntKind.i64.wrap (1 + min (x.depth : Int) (most - 1)) = 1 + min (x.depth : Int) (most - 1) := wrap_fits (by omega) (by omega)
      simp only [go_sem, Nat.reduceEqDiff, Nat.reduceAdd, Nat.reduceSub, Nat.reduceLeDiff, Nat.reduceLT, Nat.reduceMul, Nat.reduceBEq, Int.reduceEq, Int.reduceLT, Int.reduceLE, Int.reduceNeg, Int.reduceToNat, reduceCtorEq, ho, Try.results122, h13, h12, h11, h5, hs1, hlt, hget, Int.natCast_nonneg, Int.toNat_natCast, hw1, List.length_map]
      refine GCall.fr ?_ (depthP_fn n x (most - 1) hxs (by omega) (by omega) (by omega)) (.inl rfl) ?_; (focus (first | rfl | ((simp only [go_sem, Nat.reduceEqDiff, Nat.reduceAdd, Nat.reduceSub, Nat.reduceLeDiff, Nat.reduceLT, Nat.reduceMul, Nat.reduceBEq, Int.reduceEq, Int.reduceLT, Int.reduceLE, Int.reduceNeg, Int.reduceToNat, reduceCtorEq, ho, Try.results122, x.enc_eq]); done) | ((simp only [go_sem, Nat.reduceEqDiff, Nat.reduceAdd, Nat.reduceSub, Nat.reduceLeDiff, Nat.reduceLT, Nat.reduceMul, Nat.reduceBEq, Int.reduceEq, Int.reduceLT, Int.reduceLE, Int.reduceNeg, Int.reduceToNat, reduceCtorEq, ho, Try.results122, x.enc_eq]); rfl)))
      simp only [go_sem, Nat.reduceEqDiff, Nat.reduceAdd, Nat.reduceSub, Nat.reduceLeDiff, Nat.reduceLT, Nat.reduceMul, Nat.reduceBEq, Int.reduceEq, Int.reduceLT, Int.reduceLE, Int.reduceNeg, Int.reduceToNat, reduceCtorEq, ho, Try.results122, h13, h12, h11, h5, hs1, hw, hw2]
      refine ⟨rest.length, by omega, done.length + 1, done ++ [x], rest, by simp [hl], by simp, rfl, by simp, ?_⟩
      rw [Ex.depths_app]
      simp only [Ex.depths]
      split <;> omega
theorem ok45 : okCode M0 Try.f45.ntmps (Try.f45.body.getD .skip) = true := by decide +kernel
theorem depthMax_fn (e : Ex) (h : e.size ≤ 1000000000) : Fc 45 [e.enc] (.int .i64 (min (e.depth : Int) 25)) := by
  refine fn_of_awp (E := E0) (M := M0) follows Try.func45 rfl (by decide) ok45 (by decide) (by simp) fun o ho => ?_
  simp only [go_sem, Nat.reduceEqDiff, Nat.reduceAdd, Nat.reduceSub, Nat.reduceLeDiff, Nat.reduceLT, Nat.reduceMul, Nat.reduceBEq, Int.reduceEq, Int.reduceLT, Int.reduceLE, Int.reduceNeg, Int.reduceToNat, reduceCtorEq, ho, Try.results45, e.enc_eq]
  refine GCall.fr ?_ (depthP_fn _ e 25 (Nat.le_refl _) h (by omega) (by omega)) (.inl rfl) ?_; (focus (first | rfl | ((simp only [go_sem, Nat.reduceEqDiff, Nat.reduceAdd, Nat.reduceSub, Nat.reduceLeDiff, Nat.reduceLT, Nat.reduceMul, Nat.reduceBEq, Int.reduceEq, Int.reduceLT, Int.reduceLE, Int.reduceNeg, Int.reduceToNat, reduceCtorEq, ho, Try.results45, e.enc_eq]); done) | ((simp only [go_sem, Nat.reduceEqDiff, Nat.reduceAdd, Nat.reduceSub, Nat.reduceLeDiff, Nat.reduceLT, Nat.reduceMul, Nat.reduceBEq, Int.reduceEq, Int.reduceLT, Int.reduceLE, Int.reduceNeg, Int.reduceToNat, reduceCtorEq, ho, Try.results45, e.enc_eq]); rfl)))
  simp only [go_sem, Nat.reduceEqDiff, Nat.reduceAdd, Nat.reduceSub, Nat.reduceLeDiff, Nat.reduceLT, Nat.reduceMul, Nat.reduceBEq, Int.reduceEq, Int.reduceLT, Int.reduceLE, Int.reduceNeg, Int.reduceToNat, reduceCtorEq, ho, Try.results45]
def unite : List Int → Int → Int × Bool
  | [], k => (k, true)
  | x :: l, k => if x = 0 then unite l k else if k ≠ 0 ∧ k ≠ x then (0, false) else unite l x
theorem ok185 : okCode M0 Try.f185.ntmps (Try.f185.body.getD .skip) = true := by decide +kernel
theorem unite_fn (l : List Int) (hl : l.length ≤ 1000000000) : Fc 185 [.sl (l.map (.int .i64))] (.tup [.int .i64 (unite l 0).1, .bool (unite l 0).2]) := by
  refine fn_of_awp (E := E0) (M := M0) follows Try.func185 rfl (by decide) ok185 (by decide) (by simp) fun o ho => ?_
  simp only [go_sem, Nat.reduceEqDiff, Nat.reduceAdd, Nat.reduceSub, Nat.reduceLeDiff, Nat.reduceLT, Nat.reduceMul, Nat.reduceBEq, Int.reduceEq, Int.reduceLT, Int.reduceLE, Int.reduceNeg, Int.reduceToNat, reduceCtorEq, ho, Try.results185, List.length_map]
  refine ⟨fun n st => ∃ (i : Nat) (rest : List Int) (k : Int), l.drop i = rest ∧ i + rest.length = l.length ∧ rest.length = n ∧ unite rest k = unite l 0 ∧ st.s 9 = .int .i64 i ∧ st.s 8 = .int .i64 l.length ∧ st.s 7 = .sl (l.map (.int .i64)) ∧ st.s 4 = .int .i64 k, l.length, ⟨0, l, 0, rfl, by simp, rfl, rfl, by simp only [go_sem, Nat.reduceEqDiff, Nat.reduceAdd, Nat.reduceSub, Nat.reduceLeDiff, Nat.reduceLT, Nat.reduceMul, Nat.reduceBEq, Int.reduceEq, Int.reduceLT, Int.reduceLE, Int.reduceNeg, Int.reduceToNat, reduceCtorEq, ho, Try.results185]; rfl, by simp only [go_sem, Nat.reduceEqDiff, Nat.reduceAdd, Nat.reduceSub, Nat.reduceLeDiff, Nat.reduceLT, Nat.reduceMul, Nat.reduceBEq, Int.reduceEq, Int.reduceLT, Int.reduceLE, Int.reduceNeg, Int.reduceToNat, reduceCtorEq, ho, Try.results185], by simp only [go_sem, Nat.reduceEqDiff, Nat.reduceAdd, Nat.reduceSub, Nat.reduceLeDiff, Nat.reduceLT, Nat.reduceMul, Nat.reduceBEq, Int.reduceEq, Int.reduceLT, Int.reduceLE, Int.reduceNeg, Int.reduceToNat, reduceCtorEq, ho, Try.results185], by simp only [go_sem, Nat.reduceEqDiff, Nat.reduceAdd, Nat.reduceSub, Nat.reduceLeDiff, Nat.reduceLT, Nat.reduceMul, Nat.reduceBEq, Int.reduceEq, Int.reduceLT, Int.reduceLE, Int.reduceNeg, Int.reduceToNat, reduceCtorEq, ho, Try.results185]⟩, ?_⟩
  rintro n st ⟨i, rest, k, hr, hi, hn, ht, h9, h8, h7, h4⟩
  have hw : IntKind.i64.wrap ((i : Int) + 1) = (i : Int) + 1 := wrap_fits (by omega) (by omega)
  cases rest with
  | nil =>
    have hlt : ¬ (i : Int) < (l.length : Int) := by simp at hi; omega
    simp only [go_sem, Nat.reduceEqDiff, Nat.reduceAdd, Nat.reduceSub, Nat.reduceLeDiff, Nat.reduceLT, Nat.reduceMul, Nat.reduceBEq, Int.reduceEq, Int.reduceLT, Int.reduceLE, Int.reduceNeg, Int.reduceToNat, reduceCtorEq, ho, Try.results185, h9, h8, hlt, h4]
    rw [← ht]; exact ⟨rfl, rfl⟩
  | cons x rest =>
    have hlt : (i : Int) < (l.length : Int) := by simp at hi; omega
    have hget : (l.map (PV.int .i64))[i]? = some (.int .i64 x) := by
      have : l[i]? = some x := by rw [← List.head?_drop, hr]; rfl
      rw [List.getElem?_map, this]; rfl
    have next : ∀ k', unite rest k' = unite l 0 → ∃ m, m < n ∧ ∃ (i' : Nat) (rest : List Int) (k : Int), l.drop i' = rest ∧ i' + rest.length = l.length ∧ rest.length = m ∧ unite rest k = unite l 0 ∧ ((i : Int) + 1 = (i' : Int)) ∧ k' = k := fun k' hk => ⟨rest.length, by simp at hn; omega, i + 1, rest, k', by rw [← List.drop_drop, hr]; rfl, by simp at hi; omega, rfl, hk, by simp, rfl⟩
    simp only [go_sem, Nat.reduceEqDiff, Nat.reduceAdd, Nat.reduceSub, Nat.reduceLeDiff, Nat.reduceLT, Nat.reduceMul, Nat.reduceBEq, Int.reduceEq, Int.reduceLT, Int.reduceLE, Int.reduceNeg, Int.reduceToNat, reduceCtorEq, ho, Try.results185, h9, h8, h7, h4, hlt, hget, Int.natCast_nonneg, Int.toNat_natCast]
    repeat' (first | (refine AIf_cases (fun h => ?_) (fun h => ?_) <;> (try simp only [decide_eq_true_eq, decide_eq_false_iff_not, Bool.not_eq_true', Bool.not_eq_false', Bool.not_eq_true, Bool.not_eq_false] at h) <;> (try simp only [go_sem, Nat.reduceEqDiff, Nat.reduceAdd, Nat.reduceSub, Nat.reduceLeDiff, Nat.reduceLT, Nat.reduceMul, Nat.reduceBEq, Int.reduceEq, Int.reduceLT, Int.reduceLE, Int.reduceNeg, Int.reduceToNat, reduceCtorEq, ho, Try.results185, h, h9, h8, h7, h4, hw])))
    all_goals simp only [unite] at ht
    all_goals (first | exact next _ (by simp_all) | (rw [if_neg ‹_›, if_pos ⟨‹_›, ‹_›⟩] at ht; rw [← ht]; exact ⟨rfl, rfl⟩))
end Go.Proofs.Ytiefnninebilbaa
/- What the checking of an expression returns: the program's check; no condition. -/
set_option maxRecDepth 100000
set_option linter.unusedVariables false
set_option linter.unusedSimpArgs false
namespace Go.Proofs.Ytiefnninebilbaa
open Go Go.Sx

theorem ints_len {l : List Int} : ∀ z ∈ l.map (PV.int .i64), z.cells.length = 1 := by
  intro z hz
  obtain ⟨n, _, rfl⟩ := List.mem_map.1 hz
  rfl
def allKind (l : List Int) (kind : Int) : Bool := (unite (l ++ [kind]) 0).2 && decide ((unite (l ++ [kind]) 0).1 = kind)
theorem ok184 : okCode M0 Try.f184.ntmps (Try.f184.body.getD .skip) = true := by decide +kernel
theorem all_fn (l : List Int) (kind : Int) (hl : l.length ≤ 100000000) : Fc 184 [.sl (l.map (.int .i64)), .int .i64 kind] (.bool (allKind l kind)) := by
  refine fn_of_awp (E := E0) (M := M0) follows Try.func184 rfl (by decide) ok184 (by decide) (by simp) fun o ho => ?_
  simp only [go_sem, Nat.reduceEqDiff, Nat.reduceAdd, Nat.reduceSub, Nat.reduceLeDiff, Nat.reduceLT, Nat.reduceMul, Nat.reduceBEq, Int.reduceEq, Int.reduceLT, Int.reduceLE, Int.reduceNeg, Int.reduceToNat, reduceCtorEq, ho, Try.results184]
  cases l with
  | nil =>
    refine GCall.fr ?_ (clone_empty) (.inr rfl) ?_; (focus (first | rfl | ((simp only [go_sem, Nat.reduceEqDiff, Nat.reduceAdd, Nat.reduceSub, Nat.reduceLeDiff, Nat.reduceLT, Nat.reduceMul, Nat.reduceBEq, Int.reduceEq, Int.reduceLT, Int.reduceLE, Int.reduceNeg, Int.reduceToNat, reduceCtorEq, ho, Try.results184]); done) | ((simp only [go_sem, Nat.reduceEqDiff, Nat.reduceAdd, Nat.reduceSub, Nat.reduceLeDiff, Nat.reduceLT, Nat.reduceMul, Nat.reduceBEq, Int.reduceEq, Int.reduceLT, Int.reduceLE, Int.reduceNeg, Int.reduceToNat, reduceCtorEq, ho, Try.results184]); rfl)))
    simp only [go_sem, Nat.reduceEqDiff, Nat.reduceAdd, Nat.reduceSub, Nat.reduceLeDiff, Nat.reduceLT, Nat.reduceMul, Nat.reduceBEq, Int.reduceEq, Int.reduceLT, Int.reduceLE, Int.reduceNeg, Int.reduceToNat, reduceCtorEq, ho, Try.results184]
    refine GCall.fr ?_ (unite_fn [kind] (by simp)) (.inl rfl) ?_; (focus (first | rfl | ((simp only [go_sem, Nat.reduceEqDiff, Nat.reduceAdd, Nat.reduceSub, Nat.reduceLeDiff, Nat.reduceLT, Nat.reduceMul, Nat.reduceBEq, Int.reduceEq, Int.reduceLT, Int.reduceLE, Int.reduceNeg, Int.reduceToNat, reduceCtorEq, ho, Try.results184]); done) | ((simp only [go_sem, Nat.reduceEqDiff, Nat.reduceAdd, Nat.reduceSub, Nat.reduceLeDiff, Nat.reduceLT, Nat.reduceMul, Nat.reduceBEq, Int.reduceEq, Int.reduceLT, Int.reduceLE, Int.reduceNeg, Int.reduceToNat, reduceCtorEq, ho, Try.results184]); rfl)))
    simp only [go_sem, Nat.reduceEqDiff, Nat.reduceAdd, Nat.reduceSub, Nat.reduceLeDiff, Nat.reduceLT, Nat.reduceMul, Nat.reduceBEq, Int.reduceEq, Int.reduceLT, Int.reduceLE, Int.reduceNeg, Int.reduceToNat, reduceCtorEq, ho, Try.results184]
    repeat' (first | (refine AIf_cases (fun h => ?_) (fun h => ?_) <;> (try simp only [decide_eq_true_eq, decide_eq_false_iff_not, Bool.not_eq_true', Bool.not_eq_false', Bool.not_eq_true, Bool.not_eq_false] at h) <;> (try simp only [go_sem, Nat.reduceEqDiff, Nat.reduceAdd, Nat.reduceSub, Nat.reduceLeDiff, Nat.reduceLT, Nat.reduceMul, Nat.reduceBEq, Int.reduceEq, Int.reduceLT, Int.reduceLE, Int.reduceNeg, Int.reduceToNat, reduceCtorEq, ho, Try.results184, h])))
    all_goals simp_all [allKind]
  | cons x l =>
    refine GCall.mk ?_ (clone_fn (.int .i64 x) (l.map (.int .i64)) (by have := ints_len (l := x :: l); simpa using this) (by simp at hl ⊢; omega)) rfl ?_
    · simp only [go_sem, Nat.reduceEqDiff, Nat.reduceAdd, Nat.reduceSub, Nat.reduceLeDiff, Nat.reduceLT, Nat.reduceMul, Nat.reduceBEq, Int.reduceEq, Int.reduceLT, Int.reduceLE, Int.reduceNeg, Int.reduceToNat, reduceCtorEq, ho, Try.results184]
    · have hb : (l.length + 1 + 1) * 9 ≤ 140737488355328 := by simp at hl; omega
      simp only [go_sem, Nat.reduceEqDiff, Nat.reduceAdd, Nat.reduceSub, Nat.reduceLeDiff, Nat.reduceLT, Nat.reduceMul, Nat.reduceBEq, Int.reduceEq, Int.reduceLT, Int.reduceLE, Int.reduceNeg, Int.reduceToNat, reduceCtorEq, ho, Try.results184, List.length_map, hb]
      refine GCall.fr ?_ (unite_fn (x :: l ++ [kind]) (by simp at hl ⊢; omega)) (.inl rfl) ?_; (focus (first | rfl | ((simp only [go_sem, Nat.reduceEqDiff, Nat.reduceAdd, Nat.reduceSub, Nat.reduceLeDiff, Nat.reduceLT, Nat.reduceMul, Nat.reduceBEq, Int.reduceEq, Int.reduceLT, Int.reduceLE, Int.reduceNeg, Int.reduceToNat, reduceCtorEq, ho, Try.results184, List.map_append]); done) | ((simp only [go_sem, Nat.reduceEqDiff, Nat.reduceAdd, Nat.reduceSub, Nat.reduceLeDiff, Nat.reduceLT, Nat.reduceMul, Nat.reduceBEq, Int.reduceEq, Int.reduceLT, Int.reduceLE, Int.reduceNeg, Int.reduceToNat, reduceCtorEq, ho, Try.results184, List.map_append]); rfl)))
      simp only [go_sem, Nat.reduceEqDiff, Nat.reduceAdd, Nat.reduceSub, Nat.reduceLeDiff, Nat.reduceLT, Nat.reduceMul, Nat.reduceBEq, Int.reduceEq, Int.reduceLT, Int.reduceLE, Int.reduceNeg, Int.reduceToNat, reduceCtorEq, ho, Try.results184]
      repeat' (first | (refine AIf_cases (fun h => ?_) (fun h => ?_) <;> (try simp only [decide_eq_true_eq, decide_eq_false_iff_not, Bool.not_eq_true', Bool.not_eq_false', Bool.not_eq_true, Bool.not_eq_false] at h) <;> (try simp only [go_sem, Nat.reduceEqDiff, Nat.reduceAdd, Nat.reduceSub, Nat.reduceLeDiff, Nat.reduceLT, Nat.reduceMul, Nat.reduceBEq, Int.reduceEq, Int.reduceLT, Int.reduceLE, Int.reduceNeg, Int.reduceToNat, reduceCtorEq, ho, Try.results184, h])))
      all_goals simp_all [allKind]
def resultK (op vk : Int) (l : List Int) : Int × Bool :=
  if op = 1 then (vk, true)
  else if op = 4 ∨ op = 5 ∨ op = 6 then (3, allKind l 3)
  else if op = 7 ∨ op = 8 ∨ op = 9 ∨ op = 10 ∨ op = 11 ∨ op = 12 then (3, (unite l 0).2)
  else if op = 19 then (2, allKind l 2)
  else if op = 20 then (1, allKind l 2)
  else if op = 21 then (3, true)
  else if op = 22 then ((unite (l.drop 1) 0).1, (unite (l.drop 1) 0).2 && allKind (l.take 1) 3)
  else if op = 23 then unite l 0
  else if op = 24 then (3, allKind l 1)
  else (1, allKind l 1)
theorem ints_len' {l : List Int} : ∀ z, z ∈ l.map (PV.int .i64) → z.cells.length = 1 := ints_len
theorem ok154 : okCode M0 Try.f154.ntmps (Try.f154.body.getD .skip) = true := by decide +kernel
theorem result_fn (e : Ex) (l : List Int) (hl : l.length ≤ 100000000) (h1 : e.op = 22 → 1 ≤ l.length) : Fc 154 [e.enc, .sl (l.map (.int .i64))] (.tup [.int .i64 (resultK e.op e.val.kind l).1, .bool (resultK e.op e.val.kind l).2]) := by
  have hl' : l.length ≤ 1000000000 := by omega
  refine fn_of_awp (E := E0) (M := M0) follows Try.func154 rfl (by decide) ok154 (by decide) (by simp) fun o ho => ?_
  simp only [go_sem, Nat.reduceEqDiff, Nat.reduceAdd, Nat.reduceSub, Nat.reduceLeDiff, Nat.reduceLT, Nat.reduceMul, Nat.reduceBEq, Int.reduceEq, Int.reduceLT, Int.reduceLE, Int.reduceNeg, Int.reduceToNat, reduceCtorEq, ho, Try.results154, e.enc_eq]
  repeat' (first | (refine AIf_cases (fun h => ?_) (fun h => ?_) <;> (try simp only [decide_eq_true_eq, decide_eq_false_iff_not, Bool.not_eq_true', Bool.not_eq_false', Bool.not_eq_true, Bool.not_eq_false] at h) <;> (try simp only [go_sem, Nat.reduceEqDiff, Nat.reduceAdd, Nat.reduceSub, Nat.reduceLeDiff, Nat.reduceLT, Nat.reduceMul, Nat.reduceBEq, Int.reduceEq, Int.reduceLT, Int.reduceLE, Int.reduceNeg, Int.reduceToNat, reduceCtorEq, ho, Try.results154, h])) | (refine GCall.fr ?_ (all_fn l 3 hl) (.inl rfl) ?_; (focus (first | rfl | ((simp only [go_sem, Nat.reduceEqDiff, Nat.reduceAdd, Nat.reduceSub, Nat.reduceLeDiff, Nat.reduceLT, Nat.reduceMul, Nat.reduceBEq, Int.reduceEq, Int.reduceLT, Int.reduceLE, Int.reduceNeg, Int.reduceToNat, reduceCtorEq, ho, Try.results154]); done) | ((simp only [go_sem, Nat.reduceEqDiff, Nat.reduceAdd, Nat.reduceSub, Nat.reduceLeDiff, Nat.reduceLT, Nat.reduceMul, Nat.reduceBEq, Int.reduceEq, Int.reduceLT, Int.reduceLE, Int.reduceNeg, Int.reduceToNat, reduceCtorEq, ho, Try.results154]); rfl))); (try simp only [go_sem, Nat.reduceEqDiff, Nat.reduceAdd, Nat.reduceSub, Nat.reduceLeDiff, Nat.reduceLT, Nat.reduceMul, Nat.reduceBEq, Int.reduceEq, Int.reduceLT, Int.reduceLE, Int.reduceNeg, Int.reduceToNat, reduceCtorEq, ho, Try.results154])) | (refine QCall.fr ?_ (all_fn l 3 hl) (.inl rfl) ?_; (focus (first | rfl | ((simp only [go_sem, Nat.reduceEqDiff, Nat.reduceAdd, Nat.reduceSub, Nat.reduceLeDiff, Nat.reduceLT, Nat.reduceMul, Nat.reduceBEq, Int.reduceEq, Int.reduceLT, Int.reduceLE, Int.reduceNeg, Int.reduceToNat, reduceCtorEq, ho, Try.results154]); done) | ((simp only [go_sem, Nat.reduceEqDiff, Nat.reduceAdd, Nat.reduceSub, Nat.reduceLeDiff, Nat.reduceLT, Nat.reduceMul, Nat.reduceBEq, Int.reduceEq, Int.reduceLT, Int.reduceLE, Int.reduceNeg, Int.reduceToNat, reduceCtorEq, ho, Try.results154]); rfl))); (try simp only [go_sem, Nat.reduceEqDiff, Nat.reduceAdd, Nat.reduceSub, Nat.reduceLeDiff, Nat.reduceLT, Nat.reduceMul, Nat.reduceBEq, Int.reduceEq, Int.reduceLT, Int.reduceLE, Int.reduceNeg, Int.reduceToNat, reduceCtorEq, ho, Try.results154])) | (refine GCall.fr ?_ (all_fn l 2 hl) (.inl rfl) ?_; (focus (first | rfl | ((simp only [go_sem, Nat.reduceEqDiff, Nat.reduceAdd, Nat.reduceSub, Nat.reduceLeDiff, Nat.reduceLT, Nat.reduceMul, Nat.reduceBEq, Int.reduceEq, Int.reduceLT, Int.reduceLE, Int.reduceNeg, Int.reduceToNat, reduceCtorEq, ho, Try.results154]); done) | ((simp only [go_sem, Nat.reduceEqDiff, Nat.reduceAdd, Nat.reduceSub, Nat.reduceLeDiff, Nat.reduceLT, Nat.reduceMul, Nat.reduceBEq, Int.reduceEq, Int.reduceLT, Int.reduceLE, Int.reduceNeg, Int.reduceToNat, reduceCtorEq, ho, Try.results154]); rfl))); (try simp only [go_sem, Nat.reduceEqDiff, Nat.reduceAdd, Nat.reduceSub, Nat.reduceLeDiff, Nat.reduceLT, Nat.reduceMul, Nat.reduceBEq, Int.reduceEq, Int.reduceLT, Int.reduceLE, Int.reduceNeg, Int.reduceToNat, reduceCtorEq, ho, Try.results154])) | (refine QCall.fr ?_ (all_fn l 2 hl) (.inl rfl) ?_; (focus (first | rfl | ((simp only [go_sem, Nat.reduceEqDiff, Nat.reduceAdd, Nat.reduceSub, Nat.reduceLeDiff, Nat.reduceLT, Nat.reduceMul, Nat.reduceBEq, Int.reduceEq, Int.reduceLT, Int.reduceLE, Int.reduceNeg, Int.reduceToNat, reduceCtorEq, ho, Try.results154]); done) | ((simp only [go_sem, Nat.reduceEqDiff, Nat.reduceAdd, Nat.reduceSub, Nat.reduceLeDiff, Nat.reduceLT, Nat.reduceMul, Nat.reduceBEq, Int.reduceEq, Int.reduceLT, Int.reduceLE, Int.reduceNeg, Int.reduceToNat, reduceCtorEq, ho, Try.results154]); rfl))); (try simp only [go_sem, Nat.reduceEqDiff, Nat.reduceAdd, Nat.reduceSub, Nat.reduceLeDiff, Nat.reduceLT, Nat.reduceMul, Nat.reduceBEq, Int.reduceEq, Int.reduceLT, Int.reduceLE, Int.reduceNeg, Int.reduceToNat, reduceCtorEq, ho, Try.results154])) | (refine GCall.fr ?_ (all_fn l 1 hl) (.inl rfl) ?_; (focus (first | rfl | ((simp only [go_sem, Nat.reduceEqDiff, Nat.reduceAdd, Nat.reduceSub, Nat.reduceLeDiff, Nat.reduceLT, Nat.reduceMul, Nat.reduceBEq, Int.reduceEq, Int.reduceLT, Int.reduceLE, Int.reduceNeg, Int.reduceToNat, reduceCtorEq, ho, Try.results154]); done) | ((simp only [go_sem, Nat.reduceEqDiff, Nat.reduceAdd, Nat.reduceSub, Nat.reduceLeDiff, Nat.reduceLT, Nat.reduceMul, Nat.reduceBEq, Int.reduceEq, Int.reduceLT, Int.reduceLE, Int.reduceNeg, Int.reduceToNat, reduceCtorEq, ho, Try.results154]); rfl))); (try simp only [go_sem, Nat.reduceEqDiff, Nat.reduceAdd, Nat.reduceSub, Nat.reduceLeDiff, Nat.reduceLT, Nat.reduceMul, Nat.reduceBEq, Int.reduceEq, Int.reduceLT, Int.reduceLE, Int.reduceNeg, Int.reduceToNat, reduceCtorEq, ho, Try.results154])) | (refine QCall.fr ?_ (all_fn l 1 hl) (.inl rfl) ?_; (focus (first | rfl | ((simp only [go_sem, Nat.reduceEqDiff, Nat.reduceAdd, Nat.reduceSub, Nat.reduceLeDiff, Nat.reduceLT, Nat.reduceMul, Nat.reduceBEq, Int.reduceEq, Int.reduceLT, Int.reduceLE, Int.reduceNeg, Int.reduceToNat, reduceCtorEq, ho, Try.results154]); done) | ((simp only [go_sem, Nat.reduceEqDiff, Nat.reduceAdd, Nat.reduceSub, Nat.reduceLeDiff, Nat.reduceLT, Nat.reduceMul, Nat.reduceBEq, Int.reduceEq, Int.reduceLT, Int.reduceLE, Int.reduceNeg, Int.reduceToNat, reduceCtorEq, ho, Try.results154]); rfl))); (try simp only [go_sem, Nat.reduceEqDiff, Nat.reduceAdd, Nat.reduceSub, Nat.reduceLeDiff, Nat.reduceLT, Nat.reduceMul, Nat.reduceBEq, Int.reduceEq, Int.reduceLT, Int.reduceLE, Int.reduceNeg, Int.reduceToNat, reduceCtorEq, ho, Try.results154])) | (refine GCall.fr ?_ (unite_fn l hl' ) (.inl rfl) ?_; (focus (first | rfl | ((simp only [go_sem, Nat.reduceEqDiff, Nat.reduceAdd, Nat.reduceSub, Nat.reduceLeDiff, Nat.reduceLT, Nat.reduceMul, Nat.reduceBEq, Int.reduceEq, Int.reduceLT, Int.reduceLE, Int.reduceNeg, Int.reduceToNat, reduceCtorEq, ho, Try.results154]); done) | ((simp only [go_sem, Nat.reduceEqDiff, Nat.reduceAdd, Nat.reduceSub, Nat.reduceLeDiff, Nat.reduceLT, Nat.reduceMul, Nat.reduceBEq, Int.reduceEq, Int.reduceLT, Int.reduceLE, Int.reduceNeg, Int.reduceToNat, reduceCtorEq, ho, Try.results154]); rfl))); (try simp only [go_sem, Nat.reduceEqDiff, Nat.reduceAdd, Nat.reduceSub, Nat.reduceLeDiff, Nat.reduceLT, Nat.reduceMul, Nat.reduceBEq, Int.reduceEq, Int.reduceLT, Int.reduceLE, Int.reduceNeg, Int.reduceToNat, reduceCtorEq, ho, Try.results154])) | (refine QCall.fr ?_ (unite_fn l hl' ) (.inl rfl) ?_; (focus (first | rfl | ((simp only [go_sem, Nat.reduceEqDiff, Nat.reduceAdd, Nat.reduceSub, Nat.reduceLeDiff, Nat.reduceLT, Nat.reduceMul, Nat.reduceBEq, Int.reduceEq, Int.reduceLT, Int.reduceLE, Int.reduceNeg, Int.reduceToNat, reduceCtorEq, ho, Try.results154]); done) | ((simp only [go_sem, Nat.reduceEqDiff, Nat.reduceAdd, Nat.reduceSub, Nat.reduceLeDiff, Nat.reduceLT, Nat.reduceMul, Nat.reduceBEq, Int.reduceEq, Int.reduceLT, Int.reduceLE, Int.reduceNeg, Int.reduceToNat, reduceCtorEq, ho, Try.results154]); rfl))); (try simp only [go_sem, Nat.reduceEqDiff, Nat.reduceAdd, Nat.reduceSub, Nat.reduceLeDiff, Nat.reduceLT, Nat.reduceMul, Nat.reduceBEq, Int.reduceEq, Int.reduceLT, Int.reduceLE, Int.reduceNeg, Int.reduceToNat, reduceCtorEq, ho, Try.results154])))
  all_goals (first | (simp_all [resultK]; done) | skip)
  have h2 : 1 ≤ l.length := h1 h
  simp only [go_sem, Nat.reduceEqDiff, Nat.reduceAdd, Nat.reduceSub, Nat.reduceLeDiff, Nat.reduceLT, Nat.reduceMul, Nat.reduceBEq, Int.reduceEq, Int.reduceLT, Int.reduceLE, Int.reduceNeg, Int.reduceToNat, reduceCtorEq, ho, Try.results154, List.length_map, h2, eq_true (ints_len' (l := l)), List.take_length, ← List.map_drop, ← List.map_take, Nat.le_refl]
  refine GCall.fr ?_ (unite_fn (l.drop 1) (by simp; omega)) (.inl rfl) ?_; (focus (first | rfl | ((simp only [go_sem, Nat.reduceEqDiff, Nat.reduceAdd, Nat.reduceSub, Nat.reduceLeDiff, Nat.reduceLT, Nat.reduceMul, Nat.reduceBEq, Int.reduceEq, Int.reduceLT, Int.reduceLE, Int.reduceNeg, Int.reduceToNat, reduceCtorEq, ho, Try.results154]); done) | ((simp only [go_sem, Nat.reduceEqDiff, Nat.reduceAdd, Nat.reduceSub, Nat.reduceLeDiff, Nat.reduceLT, Nat.reduceMul, Nat.reduceBEq, Int.reduceEq, Int.reduceLT, Int.reduceLE, Int.reduceNeg, Int.reduceToNat, reduceCtorEq, ho, Try.results154]); rfl)))
  simp only [go_sem, Nat.reduceEqDiff, Nat.reduceAdd, Nat.reduceSub, Nat.reduceLeDiff, Nat.reduceLT, Nat.reduceMul, Nat.reduceBEq, Int.reduceEq, Int.reduceLT, Int.reduceLE, Int.reduceNeg, Int.reduceToNat, reduceCtorEq, ho, Try.results154]
  repeat' (first | (refine AIf_cases (fun h => ?_) (fun h => ?_) <;> (try simp only [decide_eq_true_eq, decide_eq_false_iff_not, Bool.not_eq_true', Bool.not_eq_false', Bool.not_eq_true, Bool.not_eq_false] at h) <;> (try simp only [go_sem, Nat.reduceEqDiff, Nat.reduceAdd, Nat.reduceSub, Nat.reduceLeDiff, Nat.reduceLT, Nat.reduceMul, Nat.reduceBEq, Int.reduceEq, Int.reduceLT, Int.reduceLE, Int.reduceNeg, Int.reduceToNat, reduceCtorEq, ho, Try.results154, h, List.length_map, h2, eq_true (ints_len' (l := l)), List.take_length, ← List.map_drop, ← List.map_take, Nat.le_refl])) | (refine GCall.fr ?_ (all_fn (l.take 1) 3 (by simp; omega)) (.inl rfl) ?_; (focus (first | rfl | ((simp only [go_sem, Nat.reduceEqDiff, Nat.reduceAdd, Nat.reduceSub, Nat.reduceLeDiff, Nat.reduceLT, Nat.reduceMul, Nat.reduceBEq, Int.reduceEq, Int.reduceLT, Int.reduceLE, Int.reduceNeg, Int.reduceToNat, reduceCtorEq, ho, Try.results154, List.length_map, h2, eq_true (ints_len' (l := l)), List.take_length, ← List.map_drop, ← List.map_take, Nat.le_refl]); done) | ((simp only [go_sem, Nat.reduceEqDiff, Nat.reduceAdd, Nat.reduceSub, Nat.reduceLeDiff, Nat.reduceLT, Nat.reduceMul, Nat.reduceBEq, Int.reduceEq, Int.reduceLT, Int.reduceLE, Int.reduceNeg, Int.reduceToNat, reduceCtorEq, ho, Try.results154, List.length_map, h2, eq_true (ints_len' (l := l)), List.take_length, ← List.map_drop, ← List.map_take, Nat.le_refl]); rfl))); (try simp only [go_sem, Nat.reduceEqDiff, Nat.reduceAdd, Nat.reduceSub, Nat.reduceLeDiff, Nat.reduceLT, Nat.reduceMul, Nat.reduceBEq, Int.reduceEq, Int.reduceLT, Int.reduceLE, Int.reduceNeg, Int.reduceToNat, reduceCtorEq, ho, Try.results154, List.length_map, h2, eq_true (ints_len' (l := l)), List.take_length, ← List.map_drop, ← List.map_take, Nat.le_refl])) | (refine QCall.fr ?_ (all_fn (l.take 1) 3 (by simp; omega)) (.inl rfl) ?_; (focus (first | rfl | ((simp only [go_sem, Nat.reduceEqDiff, Nat.reduceAdd, Nat.reduceSub, Nat.reduceLeDiff, Nat.reduceLT, Nat.reduceMul, Nat.reduceBEq, Int.reduceEq, Int.reduceLT, Int.reduceLE, Int.reduceNeg, Int.reduceToNat, reduceCtorEq, ho, Try.results154, List.length_map, h2, eq_true (ints_len' (l := l)), List.take_length, ← List.map_drop, ← List.map_take, Nat.le_refl]); done) | ((simp only [go_sem, Nat.reduceEqDiff, Nat.reduceAdd, Nat.reduceSub, Nat.reduceLeDiff, Nat.reduceLT, Nat.reduceMul, Nat.reduceBEq, Int.reduceEq, Int.reduceLT, Int.reduceLE, Int.reduceNeg, Int.reduceToNat, reduceCtorEq, ho, Try.results154, List.length_map, h2, eq_true (ints_len' (l := l)), List.take_length, ← List.map_drop, ← List.map_take, Nat.le_refl]); rfl))); (try simp only [go_sem, Nat.reduceEqDiff, Nat.reduceAdd, Nat.reduceSub, Nat.reduceLeDiff, Nat.reduceLT, Nat.reduceMul, Nat.reduceBEq, Int.reduceEq, Int.reduceLT, Int.reduceLE, Int.reduceNeg, Int.reduceToNat, reduceCtorEq, ho, Try.results154, List.length_map, h2, eq_true (ints_len' (l := l)), List.take_length, ← List.map_drop, ← List.map_take, Nat.le_refl])))
  all_goals simp_all [resultK]
end Go.Proofs.Ytiefnninebilbaa
/- What the checking of an expression returns: the program's check and Check; no condition. -/
set_option maxRecDepth 100000
set_option linter.unusedVariables false
set_option linter.unusedSimpArgs false
namespace Go.Proofs.Ytiefnninebilbaa
open Go Go.Sx

mutual
def Ex.check (kinds : List Int) : Ex → Int × Int
  | .mk op int v name args =>
    if known op = false then (0, 7) else if Ex.formed (.mk op int v name args) = false then (0, 8)
    else if op = 2 then (if int < 0 ∨ (kinds.length : Int) ≤ int then (0, 13) else (kinds[int.toNat]?.getD 0, 0))
    else if (Ex.checks kinds args []).1 ≠ 0 then (0, (Ex.checks kinds args []).1)
    else if (resultK op v.kind (Ex.checks kinds args []).2).2 then ((resultK op v.kind (Ex.checks kinds args []).2).1, 0) else (0, 7)
def Ex.checks (kinds : List Int) : List Ex → List Int → Int × List Int
  | [], acc => (0, acc)
  | e :: l, acc => if (e.check kinds).2 ≠ 0 then ((e.check kinds).2, []) else Ex.checks kinds l (acc ++ [(e.check kinds).1])
end
theorem Ex.check_eq (kinds : List Int) (e : Ex) : e.check kinds =
    if known e.op = false then (0, 7) else if e.formed = false then (0, 8)
    else if e.op = 2 then (if e.int < 0 ∨ (kinds.length : Int) ≤ e.int then (0, 13) else (kinds[e.int.toNat]?.getD 0, 0))
    else if (Ex.checks kinds e.args []).1 ≠ 0 then (0, (Ex.checks kinds e.args []).1)
    else if (resultK e.op e.val.kind (Ex.checks kinds e.args []).2).2 then ((resultK e.op e.val.kind (Ex.checks kinds e.args []).2).1, 0) else (0, 7) := by
  cases e; rfl
theorem formed_len {e : Ex} (h : e.formed = true) : fitsN e.op e.args.length = true := by
  unfold Ex.formed at h
  simp only [Bool.and_eq_true] at h
  exact h.1
theorem ok91 : okCode M0 Try.f91.ntmps (Try.f91.body.getD .skip) = true := by decide +kernel
theorem check_fn (kinds : List Int) : ∀ (n : Nat) (e : Ex), e.size ≤ n → n ≤ 100000000 → Fc 91 [e.enc, .sl (kinds.map (.int .i64))] (.tup [.int .i64 (e.check kinds).1, .int .i64 (e.check kinds).2])
  | 0, e, h, _ => by have := e.size_pos; omega
  | n + 1, e, h, hn => by
    refine fn_of_awp (E := E0) (M := M0) follows Try.func91 rfl (by decide) ok91 (by decide) (by simp) fun o ho => ?_
    rw [Ex.check_eq]
    simp only [go_sem, Nat.reduceEqDiff, Nat.reduceAdd, Nat.reduceSub, Nat.reduceLeDiff, Nat.reduceLT, Nat.reduceMul, Nat.reduceBEq, Int.reduceEq, Int.reduceLT, Int.reduceLE, Int.reduceNeg, Int.reduceToNat, reduceCtorEq, ho, Try.results91, e.enc_eq]
    refine GCall.fr ?_ (counts_fn e.op e.args.length) (.inl rfl) ?_; (focus (first | rfl | ((simp only [go_sem, Nat.reduceEqDiff, Nat.reduceAdd, Nat.reduceSub, Nat.reduceLeDiff, Nat.reduceLT, Nat.reduceMul, Nat.reduceBEq, Int.reduceEq, Int.reduceLT, Int.reduceLE, Int.reduceNeg, Int.reduceToNat, reduceCtorEq, ho, Try.results91, List.length_map]); done) | ((simp only [go_sem, Nat.reduceEqDiff, Nat.reduceAdd, Nat.reduceSub, Nat.reduceLeDiff, Nat.reduceLT, Nat.reduceMul, Nat.reduceBEq, Int.reduceEq, Int.reduceLT, Int.reduceLE, Int.reduceNeg, Int.reduceToNat, reduceCtorEq, ho, Try.results91, List.length_map]); rfl)))
    simp only [go_sem, Nat.reduceEqDiff, Nat.reduceAdd, Nat.reduceSub, Nat.reduceLeDiff, Nat.reduceLT, Nat.reduceMul, Nat.reduceBEq, Int.reduceEq, Int.reduceLT, Int.reduceLE, Int.reduceNeg, Int.reduceToNat, reduceCtorEq, ho, Try.results91]
    cases hk : known e.op with
    | false => simp only [go_sem, Nat.reduceEqDiff, Nat.reduceAdd, Nat.reduceSub, Nat.reduceLeDiff, Nat.reduceLT, Nat.reduceMul, Nat.reduceBEq, Int.reduceEq, Int.reduceLT, Int.reduceLE, Int.reduceNeg, Int.reduceToNat, reduceCtorEq, ho, Try.results91, hk]
    | true =>
    simp only [go_sem, Nat.reduceEqDiff, Nat.reduceAdd, Nat.reduceSub, Nat.reduceLeDiff, Nat.reduceLT, Nat.reduceMul, Nat.reduceBEq, Int.reduceEq, Int.reduceLT, Int.reduceLE, Int.reduceNeg, Int.reduceToNat, reduceCtorEq, ho, Try.results91, hk]
    refine GCall.fr ?_ (formed_fn e) (.inl rfl) ?_; (focus (first | rfl | ((simp only [go_sem, Nat.reduceEqDiff, Nat.reduceAdd, Nat.reduceSub, Nat.reduceLeDiff, Nat.reduceLT, Nat.reduceMul, Nat.reduceBEq, Int.reduceEq, Int.reduceLT, Int.reduceLE, Int.reduceNeg, Int.reduceToNat, reduceCtorEq, ho, Try.results91, e.enc_eq]); done) | ((simp only [go_sem, Nat.reduceEqDiff, Nat.reduceAdd, Nat.reduceSub, Nat.reduceLeDiff, Nat.reduceLT, Nat.reduceMul, Nat.reduceBEq, Int.reduceEq, Int.reduceLT, Int.reduceLE, Int.reduceNeg, Int.reduceToNat, reduceCtorEq, ho, Try.results91, e.enc_eq]); rfl)))
    simp only [go_sem, Nat.reduceEqDiff, Nat.reduceAdd, Nat.reduceSub, Nat.reduceLeDiff, Nat.reduceLT, Nat.reduceMul, Nat.reduceBEq, Int.reduceEq, Int.reduceLT, Int.reduceLE, Int.reduceNeg, Int.reduceToNat, reduceCtorEq, ho, Try.results91]
    cases hf : e.formed with
    | false => simp only [go_sem, Nat.reduceEqDiff, Nat.reduceAdd, Nat.reduceSub, Nat.reduceLeDiff, Nat.reduceLT, Nat.reduceMul, Nat.reduceBEq, Int.reduceEq, Int.reduceLT, Int.reduceLE, Int.reduceNeg, Int.reduceToNat, reduceCtorEq, ho, Try.results91, hf]
    | true =>
    simp only [go_sem, Nat.reduceEqDiff, Nat.reduceAdd, Nat.reduceSub, Nat.reduceLeDiff, Nat.reduceLT, Nat.reduceMul, Nat.reduceBEq, Int.reduceEq, Int.reduceLT, Int.reduceLE, Int.reduceNeg, Int.reduceToNat, reduceCtorEq, ho, Try.results91, hf]
    by_cases h2 : e.op = 2
    · simp only [go_sem, Nat.reduceEqDiff, Nat.reduceAdd, Nat.reduceSub, Nat.reduceLeDiff, Nat.reduceLT, Nat.reduceMul, Nat.reduceBEq, Int.reduceEq, Int.reduceLT, Int.reduceLE, Int.reduceNeg, Int.reduceToNat, reduceCtorEq, ho, Try.results91, h2, List.length_map]
      by_cases hi : e.int < 0
      · simp only [go_sem, Nat.reduceEqDiff, Nat.reduceAdd, Nat.reduceSub, Nat.reduceLeDiff, Nat.reduceLT, Nat.reduceMul, Nat.reduceBEq, Int.reduceEq, Int.reduceLT, Int.reduceLE, Int.reduceNeg, Int.reduceToNat, reduceCtorEq, ho, Try.results91, hi]
      by_cases hi2 : (kinds.length : Int) ≤ e.int
      · simp only [go_sem, Nat.reduceEqDiff, Nat.reduceAdd, Nat.reduceSub, Nat.reduceLeDiff, Nat.reduceLT, Nat.reduceMul, Nat.reduceBEq, Int.reduceEq, Int.reduceLT, Int.reduceLE, Int.reduceNeg, Int.reduceToNat, reduceCtorEq, ho, Try.results91, hi, hi2]
      have hlt : e.int.toNat < kinds.length := by omega
      have hget : (kinds.map (PV.int .i64))[e.int.toNat]? = some (.int .i64 (kinds[e.int.toNat])) := by simp [hlt]
      have h0 : 0 ≤ e.int := by omega
      simp only [go_sem, Nat.reduceEqDiff, Nat.reduceAdd, Nat.reduceSub, Nat.reduceLeDiff, Nat.reduceLT, Nat.reduceMul, Nat.reduceBEq, Int.reduceEq, Int.reduceLT, Int.reduceLE, Int.reduceNeg, Int.reduceToNat, reduceCtorEq, ho, Try.results91, hi, hi2, h0, hget]
      simp [hlt]
    simp only [go_sem, Nat.reduceEqDiff, Nat.reduceAdd, Nat.reduceSub, Nat.reduceLeDiff, Nat.reduceLT, Nat.reduceMul, Nat.reduceBEq, Int.reduceEq, Int.reduceLT, Int.reduceLE, Int.reduceNeg, Int.reduceToNat, reduceCtorEq, ho, Try.results91, h2, List.length_map]
    refine ⟨fun m st => ∃ (done rest : List Ex) (acc : List Int), e.args = done ++ rest ∧ m = rest.length ∧ acc.length = done.length ∧ Ex.checks kinds rest acc = Ex.checks kinds e.args [] ∧ st.s 50 = .int .i64 done.length ∧ st.s 49 = .int .i64 e.args.length ∧ st.s 48 = .sl (e.args.map Ex.enc) ∧ st.s 1 = .sl (kinds.map (.int .i64)) ∧ st.s 2 = .ptr 2 1 0 ∧ getBox st.o 2 1 = some (49, e.enc.cells) ∧ ((acc = [] ∧ st.s 8 = .nil) ∨ (acc ≠ [] ∧ ∃ v, st.s 8 = .ref 66 v ∧ st.o 66 = (v, some (true, .row 3 (acc.map (.int .i64)))))),
      e.args.length, ⟨[], e.args, [], rfl, rfl, rfl, rfl, by simp only [go_sem, Nat.reduceEqDiff, Nat.reduceAdd, Nat.reduceSub, Nat.reduceLeDiff, Nat.reduceLT, Nat.reduceMul, Nat.reduceBEq, Int.reduceEq, Int.reduceLT, Int.reduceLE, Int.reduceNeg, Int.reduceToNat, reduceCtorEq, ho, Try.results91]; rfl, by simp only [go_sem, Nat.reduceEqDiff, Nat.reduceAdd, Nat.reduceSub, Nat.reduceLeDiff, Nat.reduceLT, Nat.reduceMul, Nat.reduceBEq, Int.reduceEq, Int.reduceLT, Int.reduceLE, Int.reduceNeg, Int.reduceToNat, reduceCtorEq, ho, Try.results91], by simp only [go_sem, Nat.reduceEqDiff, Nat.reduceAdd, Nat.reduceSub, Nat.reduceLeDiff, Nat.reduceLT, Nat.reduceMul, Nat.reduceBEq, Int.reduceEq, Int.reduceLT, Int.reduceLE, Int.reduceNeg, Int.reduceToNat, reduceCtorEq, ho, Try.results91], by simp only [go_sem, Nat.reduceEqDiff, Nat.reduceAdd, Nat.reduceSub, Nat.reduceLeDiff, Nat.reduceLT, Nat.reduceMul, Nat.reduceBEq, Int.reduceEq, Int.reduceLT, Int.reduceLE, Int.reduceNeg, Int.reduceToNat, reduceCtorEq, ho, Try.results91], by simp only [go_sem, Nat.reduceEqDiff, Nat.reduceAdd, Nat.reduceSub, Nat.reduceLeDiff, Nat.reduceLT, Nat.reduceMul, Nat.reduceBEq, Int.reduceEq, Int.reduceLT, Int.reduceLE, Int.reduceNeg, Int.reduceToNat, reduceCtorEq, ho, Try.results91], by simp only [go_sem, Nat.reduceEqDiff, Nat.reduceAdd, Nat.reduceSub, Nat.reduceLeDiff, Nat.reduceLT, Nat.reduceMul, Nat.reduceBEq, Int.reduceEq, Int.reduceLT, Int.reduceLE, Int.reduceNeg, Int.reduceToNat, reduceCtorEq, ho, Try.results91], .inl ⟨rfl, by simp only [go_sem, Nat.reduceEqDiff, Nat.reduceAdd, Nat.reduceSub, Nat.reduceLeDiff, Nat.reduceLT, Nat.reduceMul, Nat.reduceBEq, Int.reduceEq, Int.reduceLT, Int.reduceLE, Int.reduceNeg, Int.reduceToNat, reduceCtorEq, ho, Try.results91]⟩⟩, ?_⟩
    rintro m st ⟨done, rest, acc, hl, rfl, hal, hck, h50, h49, h48, hs1, hs2, hb, h8⟩
    have hsz := e.size_eq
    rw [hl, Ex.sizes_app] at hsz
    have hdl := Ex.len_sizes done
    have hw : IntKind.i64.wrap ((done.length : Int) + 1) = (done.length : Int) + 1 := wrap_fits (by omega) (by omega)
    cases rest with
    | nil =>
      have hlt : ¬ (done.length : Int) < (e.args.length : Int) := by simp [hl]
      have hck' : Ex.checks kinds e.args [] = (0, acc) := by rw [← hck]; rfl
      have h22 : e.op = 22 → 1 ≤ acc.length := fun h => by
        have := formed_len hf
        rw [h] at this
        simp [fitsN] at this
        rw [hal]
        simp at hl
        rw [← hl]
        omega
      have hal' : acc.length ≤ 100000000 := by omega
      have fin : ∀ {q : PV}, st.s 8 = q → res st.o 4 q = some (.sl (acc.map (.int .i64))) → awp P0 E0 M0 (Code.seq Code.skip Code.skip) (fun _ _ => True) st := fun _ _ => trivial
      rcases h8 with ⟨rfl, h8⟩ | ⟨hne, v, h8, h66⟩
      · simp only [go_sem, Nat.reduceEqDiff, Nat.reduceAdd, Nat.reduceSub, Nat.reduceLeDiff, Nat.reduceLT, Nat.reduceMul, Nat.reduceBEq, Int.reduceEq, Int.reduceLT, Int.reduceLE, Int.reduceNeg, Int.reduceToNat, reduceCtorEq, ho, Try.results91, h50, h49, hlt, hs2, hb, hck', h8]
        refine GCall.fr ?_ (result_fn e [] (by simp) h22) (.inl rfl) ?_; (focus (first | rfl | ((simp only [go_sem, Nat.reduceEqDiff, Nat.reduceAdd, Nat.reduceSub, Nat.reduceLeDiff, Nat.reduceLT, Nat.reduceMul, Nat.reduceBEq, Int.reduceEq, Int.reduceLT, Int.reduceLE, Int.reduceNeg, Int.reduceToNat, reduceCtorEq, ho, Try.results91, e.enc_eq]); done) | ((simp only [go_sem, Nat.reduceEqDiff, Nat.reduceAdd, Nat.reduceSub, Nat.reduceLeDiff, Nat.reduceLT, Nat.reduceMul, Nat.reduceBEq, Int.reduceEq, Int.reduceLT, Int.reduceLE, Int.reduceNeg, Int.reduceToNat, reduceCtorEq, ho, Try.results91, e.enc_eq]); rfl)))
        simp only [go_sem, Nat.reduceEqDiff, Nat.reduceAdd, Nat.reduceSub, Nat.reduceLeDiff, Nat.reduceLT, Nat.reduceMul, Nat.reduceBEq, Int.reduceEq, Int.reduceLT, Int.reduceLE, Int.reduceNeg, Int.reduceToNat, reduceCtorEq, ho, Try.results91]
        repeat' (first | (refine AIf_cases (fun h => ?_) (fun h => ?_) <;> (try simp only [decide_eq_true_eq, decide_eq_false_iff_not, Bool.not_eq_true', Bool.not_eq_false', Bool.not_eq_true, Bool.not_eq_false] at h) <;> (try simp only [go_sem, Nat.reduceEqDiff, Nat.reduceAdd, Nat.reduceSub, Nat.reduceLeDiff, Nat.reduceLT, Nat.reduceMul, Nat.reduceBEq, Int.reduceEq, Int.reduceLT, Int.reduceLE, Int.reduceNeg, Int.reduceToNat, reduceCtorEq, ho, Try.results91, h])))
        all_goals simp_all
      · have hrow : getRow st.o 66 v = some (3, acc.map (.int .i64)) := by simp [getRow, h66]
        simp only [go_sem, Nat.reduceEqDiff, Nat.reduceAdd, Nat.reduceSub, Nat.reduceLeDiff, Nat.reduceLT, Nat.reduceMul, Nat.reduceBEq, Int.reduceEq, Int.reduceLT, Int.reduceLE, Int.reduceNeg, Int.reduceToNat, reduceCtorEq, ho, Try.results91, h50, h49, hlt, hs2, hb, hck', h8]
        refine GCall.fr ?_ (result_fn e acc hal' h22) (.inl rfl) ?_; (focus (first | rfl | ((simp only [go_sem, Nat.reduceEqDiff, Nat.reduceAdd, Nat.reduceSub, Nat.reduceLeDiff, Nat.reduceLT, Nat.reduceMul, Nat.reduceBEq, Int.reduceEq, Int.reduceLT, Int.reduceLE, Int.reduceNeg, Int.reduceToNat, reduceCtorEq, ho, Try.results91, e.enc_eq, hrow]); done) | ((simp only [go_sem, Nat.reduceEqDiff, Nat.reduceAdd, Nat.reduceSub, Nat.reduceLeDiff, Nat.reduceLT, Nat.reduceMul, Nat.reduceBEq, Int.reduceEq, Int.reduceLT, Int.reduceLE, Int.reduceNeg, Int.reduceToNat, reduceCtorEq, ho, Try.results91, e.enc_eq, hrow]); rfl)))
        simp only [go_sem, Nat.reduceEqDiff, Nat.reduceAdd, Nat.reduceSub, Nat.reduceLeDiff, Nat.reduceLT, Nat.reduceMul, Nat.reduceBEq, Int.reduceEq, Int.reduceLT, Int.reduceLE, Int.reduceNeg, Int.reduceToNat, reduceCtorEq, ho, Try.results91]
        repeat' (first | (refine AIf_cases (fun h => ?_) (fun h => ?_) <;> (try simp only [decide_eq_true_eq, decide_eq_false_iff_not, Bool.not_eq_true', Bool.not_eq_false', Bool.not_eq_true, Bool.not_eq_false] at h) <;> (try simp only [go_sem, Nat.reduceEqDiff, Nat.reduceAdd, Nat.reduceSub, Nat.reduceLeDiff, Nat.reduceLT, Nat.reduceMul, Nat.reduceBEq, Int.reduceEq, Int.reduceLT, Int.reduceLE, Int.reduceNeg, Int.reduceToNat, reduceCtorEq, ho, Try.results91, h])))
        all_goals simp_all
    | cons x rest =>
      have hlt : (done.length : Int) < (e.args.length : Int) := by simp [hl]; omega
      have hget : (e.args.map Ex.enc)[done.length]? = some x.enc := by simp [hl]
      have hxs : x.size ≤ n := by simp [Ex.sizes] at hsz; omega
      simp only [go_sem, Nat.reduceEqDiff, Nat.reduceAdd, Nat.reduceSub, Nat.reduceLeDiff, Nat.reduceLT, Nat.reduceMul, Nat.reduceBEq, Int.reduceEq, Int.reduceLT, Int.reduceLE, Int.reduceNeg, Int.reduceToNat, reduceCtorEq, ho, Try.results91, h50, h49, h48, hs1, hs2, hb, hlt, hget, Int.natCast_nonneg, Int.toNat_natCast]
      refine GCall.fr ?_ (check_fn kinds n x hxs (by omega)) (.inl rfl) ?_; (focus (first | rfl | ((simp only [go_sem, Nat.reduceEqDiff, Nat.reduceAdd, Nat.reduceSub, Nat.reduceLeDiff, Nat.reduceLT, Nat.reduceMul, Nat.reduceBEq, Int.reduceEq, Int.reduceLT, Int.reduceLE, Int.reduceNeg, Int.reduceToNat, reduceCtorEq, ho, Try.results91, x.enc_eq, hs1]); done) | ((simp only [go_sem, Nat.reduceEqDiff, Nat.reduceAdd, Nat.reduceSub, Nat.reduceLeDiff, Nat.reduceLT, Nat.reduceMul, Nat.reduceBEq, Int.reduceEq, Int.reduceLT, Int.reduceLE, Int.reduceNeg, Int.reduceToNat, reduceCtorEq, ho, Try.results91, x.enc_eq, hs1]); rfl)))
      simp only [go_sem, Nat.reduceEqDiff, Nat.reduceAdd, Nat.reduceSub, Nat.reduceLeDiff, Nat.reduceLT, Nat.reduceMul, Nat.reduceBEq, Int.reduceEq, Int.reduceLT, Int.reduceLE, Int.reduceNeg, Int.reduceToNat, reduceCtorEq, ho, Try.results91, h50, h49, h48, hs1, hs2, hb]
      rw [Ex.checks] at hck
      have hb' := hb
      rw [e.enc_cells] at hb'
      by_cases hx : (x.check kinds).2 = 0
      · have hbig : (acc.length + 1) * 9 ≤ 140737488355328 := by omega
        rw [if_neg (by simp [hx])] at hck
        rcases h8 with ⟨rfl, h8⟩ | ⟨hne, v, h8, h66⟩
        · simp only [go_sem, Nat.reduceEqDiff, Nat.reduceAdd, Nat.reduceSub, Nat.reduceLeDiff, Nat.reduceLT, Nat.reduceMul, Nat.reduceBEq, Int.reduceEq, Int.reduceLT, Int.reduceLE, Int.reduceNeg, Int.reduceToNat, reduceCtorEq, ho, Try.results91, hx, h50, h49, h48, hs1, hs2, hb, h8, hw]
          exact ⟨rest.length, by omega, done ++ [x], rest, _, by simp [hl], rfl, by simp [← hal], hck, by simp, .inr ⟨by simp, _, rfl, rfl⟩⟩
        · have hrow : getRow st.o 66 v = some (3, acc.map (.int .i64)) := by simp [getRow, h66]
          simp only [go_sem, Nat.reduceEqDiff, Nat.reduceAdd, Nat.reduceSub, Nat.reduceLeDiff, Nat.reduceLT, Nat.reduceMul, Nat.reduceBEq, Int.reduceEq, Int.reduceLT, Int.reduceLE, Int.reduceNeg, Int.reduceToNat, reduceCtorEq, ho, Try.results91, hx, h50, h49, h48, hs1, hs2, hb, h8, hw, h66, hbig]
          exact ⟨rest.length, by omega, done ++ [x], rest, _, by simp [hl], rfl, by simp [← hal], hck, by simp, .inr ⟨by simp, _, rfl, by simp⟩⟩
      · rw [if_pos (by simpa using hx)] at hck
        simp only [go_sem, Nat.reduceEqDiff, Nat.reduceAdd, Nat.reduceSub, Nat.reduceLeDiff, Nat.reduceLT, Nat.reduceMul, Nat.reduceBEq, Int.reduceEq, Int.reduceLT, Int.reduceLE, Int.reduceNeg, Int.reduceToNat, reduceCtorEq, ho, Try.results91, hx, h50, h49, h48, hs1, hs2, hb]
        rw [← hck]
        simp [hx]
end Go.Proofs.Ytiefnninebilbaa
/- What the checking of an expression returns: Check; no condition. -/
set_option maxRecDepth 100000
set_option linter.unusedVariables false
set_option linter.unusedSimpArgs false
namespace Go.Proofs.Ytiefnninebilbaa
open Go Go.Sx

def Ex.checked (kinds : List Int) (e : Ex) : Int × Int := if 24 < e.depth then (0, 26) else e.check kinds
theorem ok35 : okCode M0 Try.f35.ntmps (Try.f35.body.getD .skip) = true := by decide +kernel
theorem checked_fn (kinds : List Int) (e : Ex) (hs : e.size ≤ 100000000) : Fc 35 [e.enc, .sl (kinds.map (.int .i64))] (.tup [.int .i64 (e.checked kinds).1, .int .i64 (e.checked kinds).2]) := by
  refine fn_of_awp (E := E0) (M := M0) follows Try.func35 rfl (by decide) ok35 (by decide) (by simp) fun o ho => ?_
  simp only [go_sem, Nat.reduceEqDiff, Nat.reduceAdd, Nat.reduceSub, Nat.reduceLeDiff, Nat.reduceLT, Nat.reduceMul, Nat.reduceBEq, Int.reduceEq, Int.reduceLT, Int.reduceLE, Int.reduceNeg, Int.reduceToNat, reduceCtorEq, ho, Try.results35, e.enc_eq]
  refine GCall.fr ?_ (depthMax_fn e (by omega)) (.inl rfl) ?_; (focus (first | rfl | ((simp only [go_sem, Nat.reduceEqDiff, Nat.reduceAdd, Nat.reduceSub, Nat.reduceLeDiff, Nat.reduceLT, Nat.reduceMul, Nat.reduceBEq, Int.reduceEq, Int.reduceLT, Int.reduceLE, Int.reduceNeg, Int.reduceToNat, reduceCtorEq, ho, Try.results35, e.enc_eq]); done) | ((simp only [go_sem, Nat.reduceEqDiff, Nat.reduceAdd, Nat.reduceSub, Nat.reduceLeDiff, Nat.reduceLT, Nat.reduceMul, Nat.reduceBEq, Int.reduceEq, Int.reduceLT, Int.reduceLE, Int.reduceNeg, Int.reduceToNat, reduceCtorEq, ho, Try.results35, e.enc_eq]); rfl)))
  simp only [go_sem, Nat.reduceEqDiff, Nat.reduceAdd, Nat.reduceSub, Nat.reduceLeDiff, Nat.reduceLT, Nat.reduceMul, Nat.reduceBEq, Int.reduceEq, Int.reduceLT, Int.reduceLE, Int.reduceNeg, Int.reduceToNat, reduceCtorEq, ho, Try.results35]
  repeat' (first | (refine AIf_cases (fun h => ?_) (fun h => ?_) <;> (try simp only [decide_eq_true_eq, decide_eq_false_iff_not, Bool.not_eq_true', Bool.not_eq_false', Bool.not_eq_true, Bool.not_eq_false] at h) <;> (try simp only [go_sem, Nat.reduceEqDiff, Nat.reduceAdd, Nat.reduceSub, Nat.reduceLeDiff, Nat.reduceLT, Nat.reduceMul, Nat.reduceBEq, Int.reduceEq, Int.reduceLT, Int.reduceLE, Int.reduceNeg, Int.reduceToNat, reduceCtorEq, ho, Try.results35, h, e.enc_eq])) | (refine GCall.fr ?_ (check_fn kinds _ e (Nat.le_refl _) hs) (.inl rfl) ?_; (focus (first | rfl | ((simp only [go_sem, Nat.reduceEqDiff, Nat.reduceAdd, Nat.reduceSub, Nat.reduceLeDiff, Nat.reduceLT, Nat.reduceMul, Nat.reduceBEq, Int.reduceEq, Int.reduceLT, Int.reduceLE, Int.reduceNeg, Int.reduceToNat, reduceCtorEq, ho, Try.results35, e.enc_eq]); done) | ((simp only [go_sem, Nat.reduceEqDiff, Nat.reduceAdd, Nat.reduceSub, Nat.reduceLeDiff, Nat.reduceLT, Nat.reduceMul, Nat.reduceBEq, Int.reduceEq, Int.reduceLT, Int.reduceLE, Int.reduceNeg, Int.reduceToNat, reduceCtorEq, ho, Try.results35, e.enc_eq]); rfl))); (try simp only [go_sem, Nat.reduceEqDiff, Nat.reduceAdd, Nat.reduceSub, Nat.reduceLeDiff, Nat.reduceLT, Nat.reduceMul, Nat.reduceBEq, Int.reduceEq, Int.reduceLT, Int.reduceLE, Int.reduceNeg, Int.reduceToNat, reduceCtorEq, ho, Try.results35, e.enc_eq])) | (refine QCall.fr ?_ (check_fn kinds _ e (Nat.le_refl _) hs) (.inl rfl) ?_; (focus (first | rfl | ((simp only [go_sem, Nat.reduceEqDiff, Nat.reduceAdd, Nat.reduceSub, Nat.reduceLeDiff, Nat.reduceLT, Nat.reduceMul, Nat.reduceBEq, Int.reduceEq, Int.reduceLT, Int.reduceLE, Int.reduceNeg, Int.reduceToNat, reduceCtorEq, ho, Try.results35, e.enc_eq]); done) | ((simp only [go_sem, Nat.reduceEqDiff, Nat.reduceAdd, Nat.reduceSub, Nat.reduceLeDiff, Nat.reduceLT, Nat.reduceMul, Nat.reduceBEq, Int.reduceEq, Int.reduceLT, Int.reduceLE, Int.reduceNeg, Int.reduceToNat, reduceCtorEq, ho, Try.results35, e.enc_eq]); rfl))); (try simp only [go_sem, Nat.reduceEqDiff, Nat.reduceAdd, Nat.reduceSub, Nat.reduceLeDiff, Nat.reduceLT, Nat.reduceMul, Nat.reduceBEq, Int.reduceEq, Int.reduceLT, Int.reduceLE, Int.reduceNeg, Int.reduceToNat, reduceCtorEq, ho, Try.results35, e.enc_eq])))
  · have h2 : 24 < e.depth := by omega
    simp [Ex.checked, h2]
  · have h2 : ¬ 24 < e.depth := by omega
    simp [Ex.checked, h2]
end Go.Proofs.Ytiefnninebilbaa
/- What the reference's functions over values and its check return; no condition. -/
set_option maxRecDepth 100000
set_option linter.unusedVariables false
set_option linter.unusedSimpArgs false
namespace Go.Proofs.Ytiefnninebilbaa
open Go Go.Sx

theorem ok63 : okCode M0 Try.f63.ntmps (Try.f63.body.getD .skip) = true := by decide +kernel
theorem rnull_fn : Fc 63 [] (Vl.enc Vl.null) := by
  refine fn_of_awp (E := E0) (M := M0) follows Try.func63 rfl (by decide) ok63 (by decide) (by simp) fun o ho => ?_
  simp only [go_sem, Nat.reduceEqDiff, Nat.reduceAdd, Nat.reduceSub, Nat.reduceLeDiff, Nat.reduceLT, Nat.reduceMul, Nat.reduceBEq, Int.reduceEq, Int.reduceLT, Int.reduceLE, Int.reduceNeg, Int.reduceToNat, reduceCtorEq, ho, Try.results63, Vl.enc, Vl.null]
theorem ok120 : okCode M0 Try.f120.ntmps (Try.f120.body.getD .skip) = true := by decide +kernel
theorem rprintable_fn (s : ByteArray) (hs : s.size ≤ 9223372036854775806) : Fc 120 [.str s] (.bool (printable s)) := by
  refine fn_of_awp (E := E0) (M := M0) follows Try.func120 rfl (by decide) ok120 (by decide) (by simp) fun o ho => ?_
  simp only [go_sem, Nat.reduceEqDiff, Nat.reduceAdd, Nat.reduceSub, Nat.reduceLeDiff, Nat.reduceLT, Nat.reduceMul, Nat.reduceBEq, Int.reduceEq, Int.reduceLT, Int.reduceLE, Int.reduceNeg, Int.reduceToNat, reduceCtorEq, ho, Try.results120]
  refine ⟨fun n st => ∃ i : Nat, i + n = s.size ∧ st.s 3 = .int .i64 i ∧ st.s 0 = .str s ∧ ∀ j (hj : j < s.size), j < i → okByte s[j] = true, s.size, ⟨0, by omega, by simp only [go_sem, Nat.reduceEqDiff, Nat.reduceAdd, Nat.reduceSub, Nat.reduceLeDiff, Nat.reduceLT, Nat.reduceMul, Nat.reduceBEq, Int.reduceEq, Int.reduceLT, Int.reduceLE, Int.reduceNeg, Int.reduceToNat, reduceCtorEq, ho, Try.results120]; rfl, by simp only [go_sem, Nat.reduceEqDiff, Nat.reduceAdd, Nat.reduceSub, Nat.reduceLeDiff, Nat.reduceLT, Nat.reduceMul, Nat.reduceBEq, Int.reduceEq, Int.reduceLT, Int.reduceLE, Int.reduceNeg, Int.reduceToNat, reduceCtorEq, ho, Try.results120], fun j _ h => absurd h (Nat.not_lt_zero j)⟩, ?_⟩
  rintro n st ⟨i, hi, h3, h0, hall⟩
  have hw : IntKind.i64.wrap ((i : Int) + 1) = (i : Int) + 1 := wrap_fits (by omega) (by omega)
  by_cases hlt : i < s.size
  · have hlt' : (i : Int) < (s.size : Int) := by omega
    have hget := ba_get hlt
    have next : okByte s[i] = true → ∃ m, m < n ∧ ∃ k : Nat, k + m = s.size ∧ ((i : Int) + 1 = (k : Int)) ∧ ∀ j (hj : j < s.size), j < k → okByte s[j] = true := fun hok => ⟨n - 1, by omega, i + 1, by omega, by omega, fun j hj hji => by
      rcases Nat.lt_succ_iff_lt_or_eq.1 hji with h | rfl
      · exact hall j hj h
      · exact hok⟩
    simp only [go_sem, Nat.reduceEqDiff, Nat.reduceAdd, Nat.reduceSub, Nat.reduceLeDiff, Nat.reduceLT, Nat.reduceMul, Nat.reduceBEq, Int.reduceEq, Int.reduceLT, Int.reduceLE, Int.reduceNeg, Int.reduceToNat, reduceCtorEq, ho, Try.results120, h3, h0, hlt', Int.natCast_nonneg, Int.toNat_natCast, hget]
    repeat' (first | (refine AIf_cases (fun h => ?_) (fun h => ?_) <;> (try simp only [decide_eq_true_eq, decide_eq_false_iff_not, Bool.not_eq_true', Bool.not_eq_false', Bool.not_eq_true, Bool.not_eq_false] at h) <;> (try simp only [go_sem, Nat.reduceEqDiff, Nat.reduceAdd, Nat.reduceSub, Nat.reduceLeDiff, Nat.reduceLT, Nat.reduceMul, Nat.reduceBEq, Int.reduceEq, Int.reduceLT, Int.reduceLE, Int.reduceNeg, Int.reduceToNat, reduceCtorEq, ho, Try.results120, h, h3, h0, hlt', Int.natCast_nonneg, Int.toNat_natCast, hget, hw])))
    · exact (printable_at hlt (by simp [okByte]; omega)).symm
    · exact next (by simp [okByte]; omega)
    · exact (printable_at hlt (by simp [okByte]; omega)).symm
  · have hlt' : ¬ (i : Int) < (s.size : Int) := by omega
    simp only [go_sem, Nat.reduceEqDiff, Nat.reduceAdd, Nat.reduceSub, Nat.reduceLeDiff, Nat.reduceLT, Nat.reduceMul, Nat.reduceBEq, Int.reduceEq, Int.reduceLT, Int.reduceLE, Int.reduceNeg, Int.reduceToNat, reduceCtorEq, ho, Try.results120, h3, h0, hlt']
    have : printable s = true := by
      rw [printable, List.all_eq_true]
      intro b hb
      obtain ⟨j, hj, rfl⟩ := List.getElem_of_mem hb
      exact hall j (by simpa using hj) (by simp at hj; have : s.size = s.data.size := rfl; omega)
    rw [this]
theorem ok42 : okCode M0 Try.f42.ntmps (Try.f42.body.getD .skip) = true := by decide +kernel
theorem rvalid_fn (v : Vl) : Fc 42 [v.enc] (.bool v.valid) := by
  refine fn_of_awp (E := E0) (M := M0) follows Try.func42 rfl (by decide) ok42 (by decide) (by simp) fun o ho => ?_
  simp only [go_sem, Nat.reduceEqDiff, Nat.reduceAdd, Nat.reduceSub, Nat.reduceLeDiff, Nat.reduceLT, Nat.reduceMul, Nat.reduceBEq, Int.reduceEq, Int.reduceLT, Int.reduceLE, Int.reduceNeg, Int.reduceToNat, reduceCtorEq, ho, Try.results42, Vl.enc]
  repeat' (first | (refine AIf_cases (fun h => ?_) (fun h => ?_) <;> (try simp only [decide_eq_true_eq, decide_eq_false_iff_not, Bool.not_eq_true', Bool.not_eq_false', Bool.not_eq_true, Bool.not_eq_false] at h) <;> (try simp only [go_sem, Nat.reduceEqDiff, Nat.reduceAdd, Nat.reduceSub, Nat.reduceLeDiff, Nat.reduceLT, Nat.reduceMul, Nat.reduceBEq, Int.reduceEq, Int.reduceLT, Int.reduceLE, Int.reduceNeg, Int.reduceToNat, reduceCtorEq, ho, Try.results42, h])) | (refine GCall.fr ?_ (rprintable_fn v.text (by omega)) (.inl rfl) ?_; (focus (first | rfl | ((simp only [go_sem, Nat.reduceEqDiff, Nat.reduceAdd, Nat.reduceSub, Nat.reduceLeDiff, Nat.reduceLT, Nat.reduceMul, Nat.reduceBEq, Int.reduceEq, Int.reduceLT, Int.reduceLE, Int.reduceNeg, Int.reduceToNat, reduceCtorEq, ho, Try.results42]); done) | ((simp only [go_sem, Nat.reduceEqDiff, Nat.reduceAdd, Nat.reduceSub, Nat.reduceLeDiff, Nat.reduceLT, Nat.reduceMul, Nat.reduceBEq, Int.reduceEq, Int.reduceLT, Int.reduceLE, Int.reduceNeg, Int.reduceToNat, reduceCtorEq, ho, Try.results42]); rfl))); (try simp only [go_sem, Nat.reduceEqDiff, Nat.reduceAdd, Nat.reduceSub, Nat.reduceLeDiff, Nat.reduceLT, Nat.reduceMul, Nat.reduceBEq, Int.reduceEq, Int.reduceLT, Int.reduceLE, Int.reduceNeg, Int.reduceToNat, reduceCtorEq, ho, Try.results42])) | (refine QCall.fr ?_ (rprintable_fn v.text (by omega)) (.inl rfl) ?_; (focus (first | rfl | ((simp only [go_sem, Nat.reduceEqDiff, Nat.reduceAdd, Nat.reduceSub, Nat.reduceLeDiff, Nat.reduceLT, Nat.reduceMul, Nat.reduceBEq, Int.reduceEq, Int.reduceLT, Int.reduceLE, Int.reduceNeg, Int.reduceToNat, reduceCtorEq, ho, Try.results42]); done) | ((simp only [go_sem, Nat.reduceEqDiff, Nat.reduceAdd, Nat.reduceSub, Nat.reduceLeDiff, Nat.reduceLT, Nat.reduceMul, Nat.reduceBEq, Int.reduceEq, Int.reduceLT, Int.reduceLE, Int.reduceNeg, Int.reduceToNat, reduceCtorEq, ho, Try.results42]); rfl))); (try simp only [go_sem, Nat.reduceEqDiff, Nat.reduceAdd, Nat.reduceSub, Nat.reduceLeDiff, Nat.reduceLT, Nat.reduceMul, Nat.reduceBEq, Int.reduceEq, Int.reduceLT, Int.reduceLE, Int.reduceNeg, Int.reduceToNat, reduceCtorEq, ho, Try.results42])))
  all_goals (first | (simp_all [Vl.valid]; done) | (simp_all [Vl.valid]; omega) | (simp_all [Vl.valid]; intros; omega) | (simp_all [Vl.valid]; (repeat' split) <;> (first | (simp_all; done) | (simp_all; omega) | omega)))
def arity (op : Int) : Int × Int :=
  if op = 1 ∨ op = 2 then (0, 0)
  else if op = 4 ∨ op = 18 ∨ op = 20 ∨ op = 21 then (1, 1)
  else if op = 5 ∨ op = 6 then (2, 1099511627776)
  else if op = 7 ∨ op = 8 ∨ op = 9 ∨ op = 10 ∨ op = 11 ∨ op = 12 ∨ op = 13 ∨ op = 14 ∨ op = 15 ∨ op = 16 ∨ op = 17 ∨ op = 19 then (2, 2)
  else if op = 22 then (3, 3)
  else if op = 23 then (1, 1099511627776)
  else if op = 24 then (4, 4)
  else (-1, 0)
theorem ok155 : okCode M0 Try.f155.ntmps (Try.f155.body.getD .skip) = true := by decide +kernel
theorem arity_fn (op : Int) : Fc 155 [.int .i64 op] (.tup [.int .i64 (arity op).1, .int .i64 (arity op).2]) := by
  refine fn_of_awp (E := E0) (M := M0) follows Try.func155 rfl (by decide) ok155 (by decide) (by simp) fun o ho => ?_
  simp only [go_sem, Nat.reduceEqDiff, Nat.reduceAdd, Nat.reduceSub, Nat.reduceLeDiff, Nat.reduceLT, Nat.reduceMul, Nat.reduceBEq, Int.reduceEq, Int.reduceLT, Int.reduceLE, Int.reduceNeg, Int.reduceToNat, reduceCtorEq, ho, Try.results155]
  repeat' (first | (refine AIf_cases (fun h => ?_) (fun h => ?_) <;> (try simp only [decide_eq_true_eq, decide_eq_false_iff_not, Bool.not_eq_true', Bool.not_eq_false', Bool.not_eq_true, Bool.not_eq_false] at h) <;> (try simp only [go_sem, Nat.reduceEqDiff, Nat.reduceAdd, Nat.reduceSub, Nat.reduceLeDiff, Nat.reduceLT, Nat.reduceMul, Nat.reduceBEq, Int.reduceEq, Int.reduceLT, Int.reduceLE, Int.reduceNeg, Int.reduceToNat, reduceCtorEq, ho, Try.results155, h])))
  all_goals (first | (subst_vars; exact ⟨rfl, rfl⟩) | skip)
  exact ⟨by simp [arity, *], by simp [arity, *]⟩
end Go.Proofs.Ytiefnninebilbaa
/- What the reference's check returns: its small parts; no condition. -/
set_option maxRecDepth 100000
set_option linter.unusedVariables false
set_option linter.unusedSimpArgs false
namespace Go.Proofs.Ytiefnninebilbaa
open Go Go.Sx

theorem fits_arity (op n : Int) (h0 : 0 ≤ n) (hn : n ≤ 1000000000) : fitsN op n = (!decide ((arity op).1 < 0) && (!decide (n < (arity op).1) && !decide ((arity op).2 < n))) := by
  unfold fitsN arity
  repeat' split
  all_goals (rw [Bool.eq_iff_iff]; simp only [Bool.and_eq_true, Bool.not_eq_true', decide_eq_true_eq, decide_eq_false_iff_not, Bool.false_eq_true]; first | omega | simp)
theorem ok106 : okCode M0 Try.f106.ntmps (Try.f106.body.getD .skip) = true := by decide +kernel
theorem rformed_fn (e : Ex) (hs : e.size ≤ 1000000000) : Fc 106 [e.enc] (.bool e.formed) := by
  have hlen : e.args.length ≤ 1000000000 := by have := Ex.len_sizes e.args; have := e.size_eq; omega
  have hfit := fits_arity e.op e.args.length (by omega) (by omega)
  refine fn_of_awp (E := E0) (M := M0) follows Try.func106 rfl (by decide) ok106 (by decide) (by simp) fun o ho => ?_
  simp only [go_sem, Nat.reduceEqDiff, Nat.reduceAdd, Nat.reduceSub, Nat.reduceLeDiff, Nat.reduceLT, Nat.reduceMul, Nat.reduceBEq, Int.reduceEq, Int.reduceLT, Int.reduceLE, Int.reduceNeg, Int.reduceToNat, reduceCtorEq, ho, Try.results106, e.enc_eq]
  refine GCall.fr ?_ (arity_fn e.op) (.inl rfl) ?_; (focus (first | rfl | ((simp only [go_sem, Nat.reduceEqDiff, Nat.reduceAdd, Nat.reduceSub, Nat.reduceLeDiff, Nat.reduceLT, Nat.reduceMul, Nat.reduceBEq, Int.reduceEq, Int.reduceLT, Int.reduceLE, Int.reduceNeg, Int.reduceToNat, reduceCtorEq, ho, Try.results106]); done) | ((simp only [go_sem, Nat.reduceEqDiff, Nat.reduceAdd, Nat.reduceSub, Nat.reduceLeDiff, Nat.reduceLT, Nat.reduceMul, Nat.reduceBEq, Int.reduceEq, Int.reduceLT, Int.reduceLE, Int.reduceNeg, Int.reduceToNat, reduceCtorEq, ho, Try.results106]); rfl)))
  simp only [go_sem, Nat.reduceEqDiff, Nat.reduceAdd, Nat.reduceSub, Nat.reduceLeDiff, Nat.reduceLT, Nat.reduceMul, Nat.reduceBEq, Int.reduceEq, Int.reduceLT, Int.reduceLE, Int.reduceNeg, Int.reduceToNat, reduceCtorEq, ho, Try.results106]
  repeat' (first | (refine AIf_cases (fun h => ?_) (fun h => ?_) <;> (try simp only [decide_eq_true_eq, decide_eq_false_iff_not, Bool.not_eq_true', Bool.not_eq_false', Bool.not_eq_true, Bool.not_eq_false] at h) <;> (try simp only [go_sem, Nat.reduceEqDiff, Nat.reduceAdd, Nat.reduceSub, Nat.reduceLeDiff, Nat.reduceLT, Nat.reduceMul, Nat.reduceBEq, Int.reduceEq, Int.reduceLT, Int.reduceLE, Int.reduceNeg, Int.reduceToNat, reduceCtorEq, ho, Try.results106, h, Vl.enc, Vl.null])) | (refine GCall.fr ?_ (rvalid_fn e.val) (.inl rfl) ?_; (focus (first | rfl | ((simp only [go_sem, Nat.reduceEqDiff, Nat.reduceAdd, Nat.reduceSub, Nat.reduceLeDiff, Nat.reduceLT, Nat.reduceMul, Nat.reduceBEq, Int.reduceEq, Int.reduceLT, Int.reduceLE, Int.reduceNeg, Int.reduceToNat, reduceCtorEq, ho, Try.results106, Vl.enc, Vl.null]); done) | ((simp only [go_sem, Nat.reduceEqDiff, Nat.reduceAdd, Nat.reduceSub, Nat.reduceLeDiff, Nat.reduceLT, Nat.reduceMul, Nat.reduceBEq, Int.reduceEq, Int.reduceLT, Int.reduceLE, Int.reduceNeg, Int.reduceToNat, reduceCtorEq, ho, Try.results106, Vl.enc, Vl.null]); rfl))); (try simp only [go_sem, Nat.reduceEqDiff, Nat.reduceAdd, Nat.reduceSub, Nat.reduceLeDiff, Nat.reduceLT, Nat.reduceMul, Nat.reduceBEq, Int.reduceEq, Int.reduceLT, Int.reduceLE, Int.reduceNeg, Int.reduceToNat, reduceCtorEq, ho, Try.results106, Vl.enc, Vl.null])) | (refine QCall.fr ?_ (rvalid_fn e.val) (.inl rfl) ?_; (focus (first | rfl | ((simp only [go_sem, Nat.reduceEqDiff, Nat.reduceAdd, Nat.reduceSub, Nat.reduceLeDiff, Nat.reduceLT, Nat.reduceMul, Nat.reduceBEq, Int.reduceEq, Int.reduceLT, Int.reduceLE, Int.reduceNeg, Int.reduceToNat, reduceCtorEq, ho, Try.results106, Vl.enc, Vl.null]); done) | ((simp only [go_sem, Nat.reduceEqDiff, Nat.reduceAdd, Nat.reduceSub, Nat.reduceLeDiff, Nat.reduceLT, Nat.reduceMul, Nat.reduceBEq, Int.reduceEq, Int.reduceLT, Int.reduceLE, Int.reduceNeg, Int.reduceToNat, reduceCtorEq, ho, Try.results106, Vl.enc, Vl.null]); rfl))); (try simp only [go_sem, Nat.reduceEqDiff, Nat.reduceAdd, Nat.reduceSub, Nat.reduceLeDiff, Nat.reduceLT, Nat.reduceMul, Nat.reduceBEq, Int.reduceEq, Int.reduceLT, Int.reduceLE, Int.reduceNeg, Int.reduceToNat, reduceCtorEq, ho, Try.results106, Vl.enc, Vl.null])) | (refine GCall.fr ?_ (rnull_fn) (.inl rfl) ?_; (focus (first | rfl | ((simp only [go_sem, Nat.reduceEqDiff, Nat.reduceAdd, Nat.reduceSub, Nat.reduceLeDiff, Nat.reduceLT, Nat.reduceMul, Nat.reduceBEq, Int.reduceEq, Int.reduceLT, Int.reduceLE, Int.reduceNeg, Int.reduceToNat, reduceCtorEq, ho, Try.results106, Vl.enc, Vl.null]); done) | ((simp only [go_sem, Nat.reduceEqDiff, Nat.reduceAdd, Nat.reduceSub, Nat.reduceLeDiff, Nat.reduceLT, Nat.reduceMul, Nat.reduceBEq, Int.reduceEq, Int.reduceLT, Int.reduceLE, Int.reduceNeg, Int.reduceToNat, reduceCtorEq, ho, Try.results106, Vl.enc, Vl.null]); rfl))); (try simp only [go_sem, Nat.reduceEqDiff, Nat.reduceAdd, Nat.reduceSub, Nat.reduceLeDiff, Nat.reduceLT, Nat.reduceMul, Nat.reduceBEq, Int.reduceEq, Int.reduceLT, Int.reduceLE, Int.reduceNeg, Int.reduceToNat, reduceCtorEq, ho, Try.results106, Vl.enc, Vl.null])) | (refine QCall.fr ?_ (rnull_fn) (.inl rfl) ?_; (focus (first | rfl | ((simp only [go_sem, Nat.reduceEqDiff, Nat.reduceAdd, Nat.reduceSub, Nat.reduceLeDiff, Nat.reduceLT, Nat.reduceMul, Nat.reduceBEq, Int.reduceEq, Int.reduceLT, Int.reduceLE, Int.reduceNeg, Int.reduceToNat, reduceCtorEq, ho, Try.results106, Vl.enc, Vl.null]); done) | ((simp only [go_sem, Nat.reduceEqDiff, Nat.reduceAdd, Nat.reduceSub, Nat.reduceLeDiff, Nat.reduceLT, Nat.reduceMul, Nat.reduceBEq, Int.reduceEq, Int.reduceLT, Int.reduceLE, Int.reduceNeg, Int.reduceToNat, reduceCtorEq, ho, Try.results106, Vl.enc, Vl.null]); rfl))); (try simp only [go_sem, Nat.reduceEqDiff, Nat.reduceAdd, Nat.reduceSub, Nat.reduceLeDiff, Nat.reduceLT, Nat.reduceMul, Nat.reduceBEq, Int.reduceEq, Int.reduceLT, Int.reduceLE, Int.reduceNeg, Int.reduceToNat, reduceCtorEq, ho, Try.results106, Vl.enc, Vl.null])))
  all_goals (first | (simp_all [Ex.formed]; done) | (simp_all [Ex.formed]; omega) | (simp_all [Ex.formed]; intros; omega) | (simp_all [Ex.formed]; (repeat' split) <;> (first | (simp_all; done) | (simp_all; omega) | omega)))
end Go.Proofs.Ytiefnninebilbaa
/- The condition that a comparison states: program and reference; no condition. -/
set_option maxRecDepth 100000
set_option linter.unusedVariables false
set_option linter.unusedSimpArgs false
namespace Go.Proofs.Ytiefnninebilbaa
open Go Go.Sx

structure Cd where
  op : Int
  col : Int
  val : Vl
def Cd.enc (c : Cd) : PV := .agg [.int .i64 c.op, .int .i64 c.col, .int .i64 c.val.kind, .int .i64 c.val.int, .str c.val.text]
@[go_sem] theorem Cd.enc_cells (c : Cd) : c.enc.cells = [.int .i64 c.op, .int .i64 c.col, .int .i64 c.val.kind, .int .i64 c.val.int, .str c.val.text] := rfl
def Cd.zero : Cd := ⟨0, 0, ⟨0, 0, ⟨#[]⟩⟩⟩
def condPV : Option Cd → PV
  | some c => .tup [c.enc, .bool true]
  | none => .tup [Cd.zero.enc, .bool false]
def mirrored (op : Int) : Int := if op = 9 then 11 else if op = 11 then 9 else if op = 10 then 12 else if op = 12 then 10 else op
def isCmp (op : Int) : Bool := decide (op = 7) || (decide (op = 9) || (decide (op = 10) || (decide (op = 11) || decide (op = 12))))
/-- A constant that is not a null. -/
def Ex.plain (e : Ex) : Bool := decide (e.op = 1) && (e.val.valid && decide (e.val.kind ≠ 0))
def Ex.cond2 (op : Int) (a b : Ex) : Option Cd :=
  if a.op = 1 then (if b.op = 2 ∧ a.val.kind ≠ 0 ∧ a.val.valid = true then some ⟨mirrored op, b.int, a.val⟩ else none)
  else if a.op = 2 ∧ b.op = 1 ∧ b.val.kind ≠ 0 ∧ b.val.valid = true then some ⟨op, a.int, b.val⟩ else none
def Ex.cond (e : Ex) : Option Cd :=
  if isCmp e.op = true then (match e.args with
    | [a, b] => Ex.cond2 e.op a b
    | _ => none) else none
theorem ok178 : okCode M0 Try.f178.ntmps (Try.f178.body.getD .skip) = true := by decide +kernel
theorem mirrored_fn (op : Int) : Fc 178 [.int .i64 op] (.int .i64 (mirrored op)) := by
  refine fn_of_awp (E := E0) (M := M0) follows Try.func178 rfl (by decide) ok178 (by decide) (by simp) fun o ho => ?_
  simp only [go_sem, Nat.reduceEqDiff, Nat.reduceAdd, Nat.reduceSub, Nat.reduceLeDiff, Nat.reduceLT, Nat.reduceMul, Nat.reduceBEq, Int.reduceEq, Int.reduceLT, Int.reduceLE, Int.reduceNeg, Int.reduceToNat, reduceCtorEq, ho, Try.results178]
  repeat' (first | (refine AIf_cases (fun h => ?_) (fun h => ?_) <;> (try simp only [decide_eq_true_eq, decide_eq_false_iff_not, Bool.not_eq_true', Bool.not_eq_false', Bool.not_eq_true, Bool.not_eq_false] at h) <;> (try simp only [go_sem, Nat.reduceEqDiff, Nat.reduceAdd, Nat.reduceSub, Nat.reduceLeDiff, Nat.reduceLT, Nat.reduceMul, Nat.reduceBEq, Int.reduceEq, Int.reduceLT, Int.reduceLE, Int.reduceNeg, Int.reduceToNat, reduceCtorEq, ho, Try.results178, h])))
  all_goals simp_all [mirrored]
theorem ok180 : okCode M0 Try.f180.ntmps (Try.f180.body.getD .skip) = true := by decide +kernel
theorem rmirrored_fn (op : Int) : Fc 180 [.int .i64 op] (.int .i64 (mirrored op)) := by
  refine fn_of_awp (E := E0) (M := M0) follows Try.func180 rfl (by decide) ok180 (by decide) (by simp) fun o ho => ?_
  simp only [go_sem, Nat.reduceEqDiff, Nat.reduceAdd, Nat.reduceSub, Nat.reduceLeDiff, Nat.reduceLT, Nat.reduceMul, Nat.reduceBEq, Int.reduceEq, Int.reduceLT, Int.reduceLE, Int.reduceNeg, Int.reduceToNat, reduceCtorEq, ho, Try.results180]
  repeat' (first | (refine AIf_cases (fun h => ?_) (fun h => ?_) <;> (try simp only [decide_eq_true_eq, decide_eq_false_iff_not, Bool.not_eq_true', Bool.not_eq_false', Bool.not_eq_true, Bool.not_eq_false] at h) <;> (try simp only [go_sem, Nat.reduceEqDiff, Nat.reduceAdd, Nat.reduceSub, Nat.reduceLeDiff, Nat.reduceLT, Nat.reduceMul, Nat.reduceBEq, Int.reduceEq, Int.reduceLT, Int.reduceLE, Int.reduceNeg, Int.reduceToNat, reduceCtorEq, ho, Try.results180, h])))
  all_goals simp_all [mirrored]
def M131 : Nat → Nat → Option Md := fun id i =>
  if id = 10 then (if i < 10 then some (.h [4, 5]) else if i = 12 then some (.s 4) else if i = 13 then some (.s 5) else none) else none
theorem ok131 : okCode M131 Try.f131.ntmps (Try.f131.body.getD .skip) = true := by decide +kernel
set_option maxHeartbeats 4000000 in
theorem cond2_fn (op int : Int) (v : Vl) (n : ByteArray) (a b : Ex) (hc : op = 7 ∨ op = 9 ∨ op = 10 ∨ op = 11 ∨ op = 12) : Fc 131 [(Ex.mk op int v n [a, b]).enc] (condPV (Ex.cond2 op a b)) := by
  refine fn_of_awp (E := E0) (M := M131) follows Try.func131 rfl (by decide) ok131 (by decide) (by simp) fun o ho => ?_
  simp only [go_sem, Nat.reduceEqDiff, Nat.reduceAdd, Nat.reduceSub, Nat.reduceLeDiff, Nat.reduceLT, Nat.reduceMul, Nat.reduceBEq, Int.reduceEq, Int.reduceLT, Int.reduceLE, Int.reduceNeg, Int.reduceToNat, reduceCtorEq, ho, Try.results131, Ex.enc_eq (Ex.mk op int v n [a, b]), Ex.op, Ex.int, Ex.val, Ex.name, Ex.args]
  have two : ((2 : Nat) : Int) = 2 := rfl
  rcases hc with rfl | rfl | rfl | rfl | rfl
  all_goals
    simp only [go_sem, Nat.reduceEqDiff, Nat.reduceAdd, Nat.reduceSub, Nat.reduceLeDiff, Nat.reduceLT, Nat.reduceMul, Nat.reduceBEq, Int.reduceEq, Int.reduceLT, Int.reduceLE, Int.reduceNeg, Int.reduceToNat, reduceCtorEq, ho, Try.results131, mdOf, M131, Option.getD_some, Option.getD_none, if_true, if_false, two, eq_self, decide_true]
    by_cases ha : a.op = 1
    · simp only [go_sem, Nat.reduceEqDiff, Nat.reduceAdd, Nat.reduceSub, Nat.reduceLeDiff, Nat.reduceLT, Nat.reduceMul, Nat.reduceBEq, Int.reduceEq, Int.reduceLT, Int.reduceLE, Int.reduceNeg, Int.reduceToNat, reduceCtorEq, ho, Try.results131, mdOf, M131, Option.getD_some, Option.getD_none, if_true, if_false, ha]
      first | refine QCall.fr ?_ (mirrored_fn 7) (.inl rfl) ?_; (focus (first | rfl | ((simp only [go_sem, Nat.reduceEqDiff, Nat.reduceAdd, Nat.reduceSub, Nat.reduceLeDiff, Nat.reduceLT, Nat.reduceMul, Nat.reduceBEq, Int.reduceEq, Int.reduceLT, Int.reduceLE, Int.reduceNeg, Int.reduceToNat, reduceCtorEq, ho, Try.results131]); done) | ((simp only [go_sem, Nat.reduceEqDiff, Nat.reduceAdd, Nat.reduceSub, Nat.reduceLeDiff, Nat.reduceLT, Nat.reduceMul, Nat.reduceBEq, Int.reduceEq, Int.reduceLT, Int.reduceLE, Int.reduceNeg, Int.reduceToNat, reduceCtorEq, ho, Try.results131]); rfl))) | refine QCall.fr ?_ (mirrored_fn 9) (.inl rfl) ?_; (focus (first | rfl | ((simp only [go_sem, Nat.reduceEqDiff, Nat.reduceAdd, Nat.reduceSub, Nat.reduceLeDiff, Nat.reduceLT, Nat.reduceMul, Nat.reduceBEq, Int.reduceEq, Int.reduceLT, Int.reduceLE, Int.reduceNeg, Int.reduceToNat, reduceCtorEq, ho, Try.results131]); done) | ((simp only [go_sem, Nat.reduceEqDiff, Nat.reduceAdd, Nat.reduceSub, Nat.reduceLeDiff, Nat.reduceLT, Nat.reduceMul, Nat.reduceBEq, Int.reduceEq, Int.reduceLT, Int.reduceLE, Int.reduceNeg, Int.reduceToNat, reduceCtorEq, ho, Try.results131]); rfl))) | refine QCall.fr ?_ (mirrored_fn 10) (.inl rfl) ?_; (focus (first | rfl | ((simp only [go_sem, Nat.reduceEqDiff, Nat.reduceAdd, Nat.reduceSub, Nat.reduceLeDiff, Nat.reduceLT, Nat.reduceMul, Nat.reduceBEq, Int.reduceEq, Int.reduceLT, Int.reduceLE, Int.reduceNeg, Int.reduceToNat, reduceCtorEq, ho, Try.results131]); done) | ((simp only [go_sem, Nat.reduceEqDiff, Nat.reduceAdd, Nat.reduceSub, Nat.reduceLeDiff, Nat.reduceLT, Nat.reduceMul, Nat.reduceBEq, Int.reduceEq, Int.reduceLT, Int.reduceLE, Int.reduceNeg, Int.reduceToNat, reduceCtorEq, ho, Try.results131]); rfl))) | refine QCall.fr ?_ (mirrored_fn 11) (.inl rfl) ?_; (focus (first | rfl | ((simp only [go_sem, Nat.reduceEqDiff, Nat.reduceAdd, Nat.reduceSub, Nat.reduceLeDiff, Nat.reduceLT, Nat.reduceMul, Nat.reduceBEq, Int.reduceEq, Int.reduceLT, Int.reduceLE, Int.reduceNeg, Int.reduceToNat, reduceCtorEq, ho, Try.results131]); done) | ((simp only [go_sem, Nat.reduceEqDiff, Nat.reduceAdd, Nat.reduceSub, Nat.reduceLeDiff, Nat.reduceLT, Nat.reduceMul, Nat.reduceBEq, Int.reduceEq, Int.reduceLT, Int.reduceLE, Int.reduceNeg, Int.reduceToNat, reduceCtorEq, ho, Try.results131]); rfl))) | refine QCall.fr ?_ (mirrored_fn 12) (.inl rfl) ?_; (focus (first | rfl | ((simp only [go_sem, Nat.reduceEqDiff, Nat.reduceAdd, Nat.reduceSub, Nat.reduceLeDiff, Nat.reduceLT, Nat.reduceMul, Nat.reduceBEq, Int.reduceEq, Int.reduceLT, Int.reduceLE, Int.reduceNeg, Int.reduceToNat, reduceCtorEq, ho, Try.results131]); done) | ((simp only [go_sem, Nat.reduceEqDiff, Nat.reduceAdd, Nat.reduceSub, Nat.reduceLeDiff, Nat.reduceLT, Nat.reduceMul, Nat.reduceBEq, Int.reduceEq, Int.reduceLT, Int.reduceLE, Int.reduceNeg, Int.reduceToNat, reduceCtorEq, ho, Try.results131]); rfl)))
      simp only [go_sem, Nat.reduceEqDiff, Nat.reduceAdd, Nat.reduceSub, Nat.reduceLeDiff, Nat.reduceLT, Nat.reduceMul, Nat.reduceBEq, Int.reduceEq, Int.reduceLT, Int.reduceLE, Int.reduceNeg, Int.reduceToNat, reduceCtorEq, ho, Try.results131, mdOf, M131, Option.getD_some, Option.getD_none, if_true, if_false, ha, Vl.enc]
      repeat' (first | (refine AIf_cases (fun h => ?_) (fun h => ?_) <;> (try simp only [decide_eq_true_eq, decide_eq_false_iff_not, Bool.not_eq_true', Bool.not_eq_false', Bool.not_eq_true, Bool.not_eq_false] at h) <;> (try simp only [go_sem, Nat.reduceEqDiff, Nat.reduceAdd, Nat.reduceSub, Nat.reduceLeDiff, Nat.reduceLT, Nat.reduceMul, Nat.reduceBEq, Int.reduceEq, Int.reduceLT, Int.reduceLE, Int.reduceNeg, Int.reduceToNat, reduceCtorEq, ho, Try.results131, h, ha, Vl.enc])) | (refine GCall.fr ?_ (valid_fn a.val) (.inl rfl) ?_; (focus (first | rfl | ((simp only [go_sem, Nat.reduceEqDiff, Nat.reduceAdd, Nat.reduceSub, Nat.reduceLeDiff, Nat.reduceLT, Nat.reduceMul, Nat.reduceBEq, Int.reduceEq, Int.reduceLT, Int.reduceLE, Int.reduceNeg, Int.reduceToNat, reduceCtorEq, ho, Try.results131, ha, Vl.enc]); done) | ((simp only [go_sem, Nat.reduceEqDiff, Nat.reduceAdd, Nat.reduceSub, Nat.reduceLeDiff, Nat.reduceLT, Nat.reduceMul, Nat.reduceBEq, Int.reduceEq, Int.reduceLT, Int.reduceLE, Int.reduceNeg, Int.reduceToNat, reduceCtorEq, ho, Try.results131, ha, Vl.enc]); rfl))); (try simp only [go_sem, Nat.reduceEqDiff, Nat.reduceAdd, Nat.reduceSub, Nat.reduceLeDiff, Nat.reduceLT, Nat.reduceMul, Nat.reduceBEq, Int.reduceEq, Int.reduceLT, Int.reduceLE, Int.reduceNeg, Int.reduceToNat, reduceCtorEq, ho, Try.results131, ha, Vl.enc])) | (refine QCall.fr ?_ (valid_fn a.val) (.inl rfl) ?_; (focus (first | rfl | ((simp only [go_sem, Nat.reduceEqDiff, Nat.reduceAdd, Nat.reduceSub, Nat.reduceLeDiff, Nat.reduceLT, Nat.reduceMul, Nat.reduceBEq, Int.reduceEq, Int.reduceLT, Int.reduceLE, Int.reduceNeg, Int.reduceToNat, reduceCtorEq, ho, Try.results131, ha, Vl.enc]); done) | ((simp only [go_sem, Nat.reduceEqDiff, Nat.reduceAdd, Nat.reduceSub, Nat.reduceLeDiff, Nat.reduceLT, Nat.reduceMul, Nat.reduceBEq, Int.reduceEq, Int.reduceLT, Int.reduceLE, Int.reduceNeg, Int.reduceToNat, reduceCtorEq, ho, Try.results131, ha, Vl.enc]); rfl))); (try simp only [go_sem, Nat.reduceEqDiff, Nat.reduceAdd, Nat.reduceSub, Nat.reduceLeDiff, Nat.reduceLT, Nat.reduceMul, Nat.reduceBEq, Int.reduceEq, Int.reduceLT, Int.reduceLE, Int.reduceNeg, Int.reduceToNat, reduceCtorEq, ho, Try.results131, ha, Vl.enc])))
      all_goals (first | (simp_all [Ex.cond2, condPV, Cd.enc, Cd.zero]; done) | (simp [Ex.cond2, condPV, Cd.enc, Cd.zero, *]; done))
    · simp only [go_sem, Nat.reduceEqDiff, Nat.reduceAdd, Nat.reduceSub, Nat.reduceLeDiff, Nat.reduceLT, Nat.reduceMul, Nat.reduceBEq, Int.reduceEq, Int.reduceLT, Int.reduceLE, Int.reduceNeg, Int.reduceToNat, reduceCtorEq, ho, Try.results131, mdOf, M131, Option.getD_some, Option.getD_none, if_true, if_false, ha, Vl.enc]
      repeat' (first | (refine AIf_cases (fun h => ?_) (fun h => ?_) <;> (try simp only [decide_eq_true_eq, decide_eq_false_iff_not, Bool.not_eq_true', Bool.not_eq_false', Bool.not_eq_true, Bool.not_eq_false] at h) <;> (try simp only [go_sem, Nat.reduceEqDiff, Nat.reduceAdd, Nat.reduceSub, Nat.reduceLeDiff, Nat.reduceLT, Nat.reduceMul, Nat.reduceBEq, Int.reduceEq, Int.reduceLT, Int.reduceLE, Int.reduceNeg, Int.reduceToNat, reduceCtorEq, ho, Try.results131, h, ha, Vl.enc])) | (refine GCall.fr ?_ (valid_fn b.val) (.inl rfl) ?_; (focus (first | rfl | ((simp only [go_sem, Nat.reduceEqDiff, Nat.reduceAdd, Nat.reduceSub, Nat.reduceLeDiff, Nat.reduceLT, Nat.reduceMul, Nat.reduceBEq, Int.reduceEq, Int.reduceLT, Int.reduceLE, Int.reduceNeg, Int.reduceToNat, reduceCtorEq, ho, Try.results131, ha, Vl.enc]); done) | ((simp only [go_sem, Nat.reduceEqDiff, Nat.reduceAdd, Nat.reduceSub, Nat.reduceLeDiff, Nat.reduceLT, Nat.reduceMul, Nat.reduceBEq, Int.reduceEq, Int.reduceLT, Int.reduceLE, Int.reduceNeg, Int.reduceToNat, reduceCtorEq, ho, Try.results131, ha, Vl.enc]); rfl))); (try simp only [go_sem, Nat.reduceEqDiff, Nat.reduceAdd, Nat.reduceSub, Nat.reduceLeDiff, Nat.reduceLT, Nat.reduceMul, Nat.reduceBEq, Int.reduceEq, Int.reduceLT, Int.reduceLE, Int.reduceNeg, Int.reduceToNat, reduceCtorEq, ho, Try.results131, ha, Vl.enc])) | (refine QCall.fr ?_ (valid_fn b.val) (.inl rfl) ?_; (focus (first | rfl | ((simp only [go_sem, Nat.reduceEqDiff, Nat.reduceAdd, Nat.reduceSub, Nat.reduceLeDiff, Nat.reduceLT, Nat.reduceMul, Nat.reduceBEq, Int.reduceEq, Int.reduceLT, Int.reduceLE, Int.reduceNeg, Int.reduceToNat, reduceCtorEq, ho, Try.results131, ha, Vl.enc]); done) | ((simp only [go_sem, Nat.reduceEqDiff, Nat.reduceAdd, Nat.reduceSub, Nat.reduceLeDiff, Nat.reduceLT, Nat.reduceMul, Nat.reduceBEq, Int.reduceEq, Int.reduceLT, Int.reduceLE, Int.reduceNeg, Int.reduceToNat, reduceCtorEq, ho, Try.results131, ha, Vl.enc]); rfl))); (try simp only [go_sem, Nat.reduceEqDiff, Nat.reduceAdd, Nat.reduceSub, Nat.reduceLeDiff, Nat.reduceLT, Nat.reduceMul, Nat.reduceBEq, Int.reduceEq, Int.reduceLT, Int.reduceLE, Int.reduceNeg, Int.reduceToNat, reduceCtorEq, ho, Try.results131, ha, Vl.enc])))
      all_goals (first | (simp_all [Ex.cond2, condPV, Cd.enc, Cd.zero]; done) | (simp [Ex.cond2, condPV, Cd.enc, Cd.zero, *]; done))
end Go.Proofs.Ytiefnninebilbaa
/- The condition that a comparison states: program and reference; no condition. -/
set_option maxRecDepth 100000
set_option linter.unusedVariables false
set_option linter.unusedSimpArgs false
namespace Go.Proofs.Ytiefnninebilbaa
open Go Go.Sx

set_option maxHeartbeats 2000000 in
theorem condRest_fn (e : Ex) (h : ¬ (isCmp e.op = true ∧ e.args.length = 2)) : Fc 131 [e.enc] (condPV none) := by
  refine fn_of_awp (E := E0) (M := M131) follows Try.func131 rfl (by decide) ok131 (by decide) (by simp) fun o ho => ?_
  simp only [go_sem, Nat.reduceEqDiff, Nat.reduceAdd, Nat.reduceSub, Nat.reduceLeDiff, Nat.reduceLT, Nat.reduceMul, Nat.reduceBEq, Int.reduceEq, Int.reduceLT, Int.reduceLE, Int.reduceNeg, Int.reduceToNat, reduceCtorEq, ho, Try.results131, e.enc_eq, List.length_map]
  have two : ((2 : Nat) : Int) = 2 := rfl
  by_cases hc : isCmp e.op = true
  · have hl : ¬ (e.args.length : Int) = 2 := fun hh => h ⟨hc, by omega⟩
    simp only [isCmp, Bool.or_eq_true, decide_eq_true_eq] at hc
    repeat' (first | (refine AIf_cases (fun h => ?_) (fun h => ?_) <;> (try simp only [decide_eq_true_eq, decide_eq_false_iff_not, Bool.not_eq_true', Bool.not_eq_false', Bool.not_eq_true, Bool.not_eq_false] at h) <;> (try simp only [go_sem, Nat.reduceEqDiff, Nat.reduceAdd, Nat.reduceSub, Nat.reduceLeDiff, Nat.reduceLT, Nat.reduceMul, Nat.reduceBEq, Int.reduceEq, Int.reduceLT, Int.reduceLE, Int.reduceNeg, Int.reduceToNat, reduceCtorEq, ho, Try.results131, h, hl, List.length_map])))
    all_goals (first | (simp_all; done) | (simp_all [condPV, Cd.enc, Cd.zero]; done))
  · simp only [isCmp, Bool.or_eq_true, decide_eq_true_eq, not_or] at hc
    obtain ⟨c1, c2, c3, c4, c5⟩ := hc
    simp only [go_sem, Nat.reduceEqDiff, Nat.reduceAdd, Nat.reduceSub, Nat.reduceLeDiff, Nat.reduceLT, Nat.reduceMul, Nat.reduceBEq, Int.reduceEq, Int.reduceLT, Int.reduceLE, Int.reduceNeg, Int.reduceToNat, reduceCtorEq, ho, Try.results131, c1, c2, c3, c4, c5, condPV, Cd.enc, Cd.zero]
theorem cond_fn (e : Ex) : Fc 131 [e.enc] (condPV e.cond) := by
  by_cases h : isCmp e.op = true ∧ e.args.length = 2
  · obtain ⟨h1, h2⟩ := h
    obtain ⟨op, int, v, n, args⟩ := e
    simp only [Ex.args] at h2
    obtain ⟨a, b, rfl⟩ : ∃ a b, args = [a, b] := by
      match args, h2 with
      | [a, b], _ => exact ⟨a, b, rfl⟩
    have hc : (Ex.mk op int v n [a, b]).cond = Ex.cond2 op a b := by
      unfold Ex.cond
      rw [if_pos h1]
      rfl
    rw [hc]
    refine cond2_fn op int v n a b (show op = 7 ∨ op = 9 ∨ op = 10 ∨ op = 11 ∨ op = 12 from ?_)
    have h1 : isCmp op = true := h1
    simp only [isCmp, Bool.or_eq_true, decide_eq_true_eq] at h1
    exact h1
  · have hc : e.cond = none := by
      unfold Ex.cond
      split
      · rename_i hc
        split
        · rename_i a b hab
          exact absurd ⟨hc, by rw [hab]; rfl⟩ h
        · rfl
      · rfl
    rw [hc]
    exact condRest_fn e h
end Go.Proofs.Ytiefnninebilbaa
/- Expressions are rebuilt with their columns turned: what the shift returns; no condition. -/
set_option maxRecDepth 100000
set_option linter.unusedVariables false
set_option linter.unusedSimpArgs false
namespace Go.Proofs.Ytiefnninebilbaa
open Go Go.Sx

mutual
def Ex.mapc (g : Ex → Ex) : Ex → Ex
  | .mk op int v n args => if op = 2 then g (.mk op int v n (Ex.mapcs g args)) else .mk op int v n (Ex.mapcs g args)
def Ex.mapcs (g : Ex → Ex) : List Ex → List Ex
  | [] => []
  | e :: l => e.mapc g :: Ex.mapcs g l
end
theorem Ex.mapcs_map (g : Ex → Ex) : ∀ l, Ex.mapcs g l = l.map (Ex.mapc g)
  | [] => rfl
  | e :: l => by rw [Ex.mapcs, Ex.mapcs_map g l]; rfl
def Ex.inner (g : Ex → Ex) (e : Ex) : Ex := .mk e.op e.int e.val e.name (Ex.mapcs g e.args)
theorem Ex.mapc_eq (g : Ex → Ex) (e : Ex) : e.mapc g = if e.op = 2 then g (e.inner g) else e.inner g := by cases e; rw [Ex.mapc]; rfl
theorem Ex.inner_enc (g : Ex → Ex) (e : Ex) : (e.inner g).enc = .agg [.int .i64 e.op, .int .i64 e.int, .int .i64 e.val.kind, .int .i64 e.val.int, .str e.val.text, .str e.name, .sl ((e.args.map (Ex.mapc g)).map Ex.enc)] := by
  rw [(e.inner g).enc_eq]
  show PV.agg [.int .i64 e.op, .int .i64 e.int, .int .i64 e.val.kind, .int .i64 e.val.int, .str e.val.text, .str e.name, .sl ((Ex.mapcs g e.args).map Ex.enc)] = _
  rw [Ex.mapcs_map]
theorem exs_get' {l done rest : List Ex} {x : Ex} (h : l = done ++ x :: rest) : (l.map Ex.enc)[done.length]? = some x.enc := by simp [h]
theorem ok140 : okCode M0 Try.f140.ntmps (Try.f140.body.getD .skip) = true := by decide +kernel
theorem mapped_fn (c : FuncId) (caps : List PV) (g : Ex → Ex) (hc : ∀ x : Ex, Fc c (x.enc :: caps) (g x).enc) (hcap0 : ∀ o n, caps.mapM (res o (n + 1)) = some caps) (hkey0 : ∀ o n, caps.flatMap (keysOf o (n + 1)) = []) : ∀ (n : Nat) (e : Ex), e.size ≤ n → n ≤ 100000000 → Fc 140 [e.enc, .fn c [] caps] (e.mapc g).enc := by
  intro n
  induction n with
  | zero => intro e he; have := e.size_pos; omega
  | succ n ih =>
  intro e he hn8
  have hse := e.size_eq
  have hlen := Ex.len_sizes e.args
  have hcap : ∀ o, caps.mapM (res o 3) = some caps := fun o => hcap0 o 2
  have hcap4 : ∀ o, caps.mapM (res o 4) = some caps := fun o => hcap0 o 3
  have hkey : ∀ o, caps.flatMap (keysOf o 3) = [] := fun o => hkey0 o 2
  have hkey4 : ∀ o, caps.flatMap (keysOf o 4) = [] := fun o => hkey0 o 3
  refine fn_of_awp (E := E0) (M := M0) follows Try.func140 rfl (by decide) ok140 (by decide) (by simp) fun o ho => ?_
  simp only [go_sem, Nat.reduceEqDiff, Nat.reduceAdd, Nat.reduceSub, Nat.reduceLeDiff, Nat.reduceLT, Nat.reduceMul, Nat.reduceBEq, Int.reduceEq, Int.reduceLT, Int.reduceLE, Int.reduceNeg, Int.reduceToNat, reduceCtorEq, ho, Try.results140, e.enc_eq, List.length_map]
  refine ⟨fun m st => ∃ (done rest : List Ex), e.args = done ++ rest ∧ rest.length = m ∧ st.s 11 = .int .i64 done.length ∧ st.s 10 = .int .i64 e.args.length ∧ st.s 9 = .sl (e.args.map Ex.enc) ∧ st.s 1 = .fn c [] caps ∧ st.s 2 = .ptr 2 1 0 ∧ getBox st.o 2 1 = some (49, e.enc.cells) ∧ st.o 2 = (1, some (true, .box 49 e.enc.cells)) ∧ st.s 4 = .ptr 4 1 0 ∧ (∃ cs, cs.length = 7 ∧ st.o 4 = (1, some (true, .box 49 cs))) ∧ ((done = [] ∧ st.s 5 = .nil) ∨ (done ≠ [] ∧ ∃ v, st.s 5 = .ref 20 v ∧ st.o 20 = (v, some (true, .row 49 ((done.map (Ex.mapc g)).map Ex.enc))))), e.args.length,
    ⟨[], e.args, rfl, rfl, by simp only [go_sem, Nat.reduceEqDiff, Nat.reduceAdd, Nat.reduceSub, Nat.reduceLeDiff, Nat.reduceLT, Nat.reduceMul, Nat.reduceBEq, Int.reduceEq, Int.reduceLT, Int.reduceLE, Int.reduceNeg, Int.reduceToNat, reduceCtorEq, ho, Try.results140]; rfl, by simp only [go_sem, Nat.reduceEqDiff, Nat.reduceAdd, Nat.reduceSub, Nat.reduceLeDiff, Nat.reduceLT, Nat.reduceMul, Nat.reduceBEq, Int.reduceEq, Int.reduceLT, Int.reduceLE, Int.reduceNeg, Int.reduceToNat, reduceCtorEq, ho, Try.results140], by simp only [go_sem, Nat.reduceEqDiff, Nat.reduceAdd, Nat.reduceSub, Nat.reduceLeDiff, Nat.reduceLT, Nat.reduceMul, Nat.reduceBEq, Int.reduceEq, Int.reduceLT, Int.reduceLE, Int.reduceNeg, Int.reduceToNat, reduceCtorEq, ho, Try.results140], by simp only [go_sem, Nat.reduceEqDiff, Nat.reduceAdd, Nat.reduceSub, Nat.reduceLeDiff, Nat.reduceLT, Nat.reduceMul, Nat.reduceBEq, Int.reduceEq, Int.reduceLT, Int.reduceLE, Int.reduceNeg, Int.reduceToNat, reduceCtorEq, ho, Try.results140], by simp only [go_sem, Nat.reduceEqDiff, Nat.reduceAdd, Nat.reduceSub, Nat.reduceLeDiff, Nat.reduceLT, Nat.reduceMul, Nat.reduceBEq, Int.reduceEq, Int.reduceLT, Int.reduceLE, Int.reduceNeg, Int.reduceToNat, reduceCtorEq, ho, Try.results140], by simp only [go_sem, Nat.reduceEqDiff, Nat.reduceAdd, Nat.reduceSub, Nat.reduceLeDiff, Nat.reduceLT, Nat.reduceMul, Nat.reduceBEq, Int.reduceEq, Int.reduceLT, Int.reduceLE, Int.reduceNeg, Int.reduceToNat, reduceCtorEq, ho, Try.results140], by simp only [go_sem, Nat.reduceEqDiff, Nat.reduceAdd, Nat.reduceSub, Nat.reduceLeDiff, Nat.reduceLT, Nat.reduceMul, Nat.reduceBEq, Int.reduceEq, Int.reduceLT, Int.reduceLE, Int.reduceNeg, Int.reduceToNat, reduceCtorEq, ho, Try.results140], by simp only [go_sem, Nat.reduceEqDiff, Nat.reduceAdd, Nat.reduceSub, Nat.reduceLeDiff, Nat.reduceLT, Nat.reduceMul, Nat.reduceBEq, Int.reduceEq, Int.reduceLT, Int.reduceLE, Int.reduceNeg, Int.reduceToNat, reduceCtorEq, ho, Try.results140], ⟨[.int .i64 0, .int .i64 0, .int .i64 0, .int .i64 0, .str ⟨#[]⟩, .str ⟨#[]⟩, .nil], rfl, by simp only [go_sem, Nat.reduceEqDiff, Nat.reduceAdd, Nat.reduceSub, Nat.reduceLeDiff, Nat.reduceLT, Nat.reduceMul, Nat.reduceBEq, Int.reduceEq, Int.reduceLT, Int.reduceLE, Int.reduceNeg, Int.reduceToNat, reduceCtorEq, ho, Try.results140]⟩, .inl ⟨rfl, by simp only [go_sem, Nat.reduceEqDiff, Nat.reduceAdd, Nat.reduceSub, Nat.reduceLeDiff, Nat.reduceLT, Nat.reduceMul, Nat.reduceBEq, Int.reduceEq, Int.reduceLT, Int.reduceLE, Int.reduceNeg, Int.reduceToNat, reduceCtorEq, ho, Try.results140]⟩⟩, ?_⟩
  rintro m st ⟨done, rest, hl', hn, h11, h10, h9, hs1, hs2, hb2, ho2, hs4, ⟨cs, hcs, ho4⟩, h5⟩
  have hlen2 : done.length + rest.length = e.args.length := by rw [hl']; simp
  have hw : IntKind.i64.wrap ((done.length : Int) + 1) = (done.length : Int) + 1 := wrap_fits (by omega) (by omega)
  have hb2' := hb2
  rw [e.enc_cells] at hb2' ho2
  cases rest with
  | nil =>
    have hlt : ¬ (done.length : Int) < (e.args.length : Int) := by simp at hlen2; omega
    have hd : e.args = done := by simpa using hl'
    rcases h5 with ⟨hd0, h5⟩ | ⟨hne, v, h5, h20⟩
    · skip
      by_cases h2 : e.op = 2
      · have hin : (e.inner g).enc = .agg [.int .i64 2, .int .i64 e.int, .int .i64 e.val.kind, .int .i64 e.val.int, .str e.val.text, .str e.name, .sl []] := by
          rw [Ex.inner_enc, hd, h2, hd0, List.map_nil, List.map_nil]
        have hmc : e.mapc g = g (e.inner g) := by rw [Ex.mapc_eq, if_pos h2]
        rw [hmc]
        simp only [go_sem, Nat.reduceEqDiff, Nat.reduceAdd, Nat.reduceSub, Nat.reduceLeDiff, Nat.reduceLT, Nat.reduceMul, Nat.reduceBEq, Int.reduceEq, Int.reduceLT, Int.reduceLE, Int.reduceNeg, Int.reduceToNat, reduceCtorEq, ho, Try.results140, h11, h10, hlt, h5, hs1, hs2, hb2', ho2, hs4, ho4, hcs, h2]
        refine GCall.frz ?_ (hc (e.inner g)) ?_; (focus (first | rfl | ((simp only [go_sem, Nat.reduceEqDiff, Nat.reduceAdd, Nat.reduceSub, Nat.reduceLeDiff, Nat.reduceLT, Nat.reduceMul, Nat.reduceBEq, Int.reduceEq, Int.reduceLT, Int.reduceLE, Int.reduceNeg, Int.reduceToNat, reduceCtorEq, ho, Try.results140, hin, hcap, hcap4, hkey, hkey4, h5]); done) | ((simp only [go_sem, Nat.reduceEqDiff, Nat.reduceAdd, Nat.reduceSub, Nat.reduceLeDiff, Nat.reduceLT, Nat.reduceMul, Nat.reduceBEq, Int.reduceEq, Int.reduceLT, Int.reduceLE, Int.reduceNeg, Int.reduceToNat, reduceCtorEq, ho, Try.results140, hin, hcap, hcap4, hkey, hkey4, h5]); rfl)))
        simp only [go_sem, Nat.reduceEqDiff, Nat.reduceAdd, Nat.reduceSub, Nat.reduceLeDiff, Nat.reduceLT, Nat.reduceMul, Nat.reduceBEq, Int.reduceEq, Int.reduceLT, Int.reduceLE, Int.reduceNeg, Int.reduceToNat, reduceCtorEq, ho, Try.results140, h11, h10, hlt, h5, hs1, hs2, hb2', ho2, hs4, ho4, hcs, h2, hkey, hkey4, (g (e.inner g)).enc_eq]
      · have hin : (e.mapc g).enc = .agg [.int .i64 e.op, .int .i64 e.int, .int .i64 e.val.kind, .int .i64 e.val.int, .str e.val.text, .str e.name, .sl []] := by
          rw [Ex.mapc_eq, if_neg h2, Ex.inner_enc, hd, hd0, List.map_nil, List.map_nil]
        rw [hin]
        simp only [go_sem, Nat.reduceEqDiff, Nat.reduceAdd, Nat.reduceSub, Nat.reduceLeDiff, Nat.reduceLT, Nat.reduceMul, Nat.reduceBEq, Int.reduceEq, Int.reduceLT, Int.reduceLE, Int.reduceNeg, Int.reduceToNat, reduceCtorEq, ho, Try.results140, h11, h10, hlt, h5, hs1, hs2, hb2', ho2, hs4, ho4, hcs, h2]
    · have hrow : getRow st.o 20 v = some (49, ((done.map (Ex.mapc g)).map Ex.enc)) := by simp [getRow, h20]
      by_cases h2 : e.op = 2
      · have hin : (e.inner g).enc = .agg [.int .i64 2, .int .i64 e.int, .int .i64 e.val.kind, .int .i64 e.val.int, .str e.val.text, .str e.name, .sl ((done.map (Ex.mapc g)).map Ex.enc)] := by
          rw [Ex.inner_enc, hd, h2]
        have hmc : e.mapc g = g (e.inner g) := by rw [Ex.mapc_eq, if_pos h2]
        rw [hmc]
        simp only [go_sem, Nat.reduceEqDiff, Nat.reduceAdd, Nat.reduceSub, Nat.reduceLeDiff, Nat.reduceLT, Nat.reduceMul, Nat.reduceBEq, Int.reduceEq, Int.reduceLT, Int.reduceLE, Int.reduceNeg, Int.reduceToNat, reduceCtorEq, ho, Try.results140, h11, h10, hlt, h5, hs1, hs2, hb2', ho2, hs4, ho4, hcs, h2, hrow, h20]
        refine GCall.frz ?_ (hc (e.inner g)) ?_; (focus (first | rfl | ((simp only [go_sem, Nat.reduceEqDiff, Nat.reduceAdd, Nat.reduceSub, Nat.reduceLeDiff, Nat.reduceLT, Nat.reduceMul, Nat.reduceBEq, Int.reduceEq, Int.reduceLT, Int.reduceLE, Int.reduceNeg, Int.reduceToNat, reduceCtorEq, ho, Try.results140, hin, hcap, hcap4, hkey, hkey4, h5, hrow, h20]); done) | ((simp only [go_sem, Nat.reduceEqDiff, Nat.reduceAdd, Nat.reduceSub, Nat.reduceLeDiff, Nat.reduceLT, Nat.reduceMul, Nat.reduceBEq, Int.reduceEq, Int.reduceLT, Int.reduceLE, Int.reduceNeg, Int.reduceToNat, reduceCtorEq, ho, Try.results140, hin, hcap, hcap4, hkey, hkey4, h5, hrow, h20]); rfl)))
        simp only [go_sem, Nat.reduceEqDiff, Nat.reduceAdd, Nat.reduceSub, Nat.reduceLeDiff, Nat.reduceLT, Nat.reduceMul, Nat.reduceBEq, Int.reduceEq, Int.reduceLT, Int.reduceLE, Int.reduceNeg, Int.reduceToNat, reduceCtorEq, ho, Try.results140, h11, h10, hlt, h5, hs1, hs2, hb2', ho2, hs4, ho4, hcs, h2, hkey, hkey4, (g (e.inner g)).enc_eq, hrow, h20]
      · have hin : (e.mapc g).enc = .agg [.int .i64 e.op, .int .i64 e.int, .int .i64 e.val.kind, .int .i64 e.val.int, .str e.val.text, .str e.name, .sl ((done.map (Ex.mapc g)).map Ex.enc)] := by
          rw [Ex.mapc_eq, if_neg h2, Ex.inner_enc, hd]
        rw [hin]
        simp only [go_sem, Nat.reduceEqDiff, Nat.reduceAdd, Nat.reduceSub, Nat.reduceLeDiff, Nat.reduceLT, Nat.reduceMul, Nat.reduceBEq, Int.reduceEq, Int.reduceLT, Int.reduceLE, Int.reduceNeg, Int.reduceToNat, reduceCtorEq, ho, Try.results140, h11, h10, hlt, h5, hs1, hs2, hb2', ho2, hs4, ho4, hcs, h2, hrow, h20]
  | cons x rest =>
    have hlt : (done.length : Int) < (e.args.length : Int) := by simp at hlen2; omega
    have hget := exs_get' hl'
    have hxs : x.size + Ex.sizes done ≤ Ex.sizes e.args := by rw [hl', Ex.sizes_app]; simp only [Ex.sizes]; omega
    have hbig : (done.length + 1) * 89 ≤ 140737488355328 := by omega
    simp only [go_sem, Nat.reduceEqDiff, Nat.reduceAdd, Nat.reduceSub, Nat.reduceLeDiff, Nat.reduceLT, Nat.reduceMul, Nat.reduceBEq, Int.reduceEq, Int.reduceLT, Int.reduceLE, Int.reduceNeg, Int.reduceToNat, reduceCtorEq, ho, Try.results140, h11, h10, h9, hs1, hs2, hlt, hget, Int.natCast_nonneg, Int.toNat_natCast]
    refine GCall.frz ?_ (ih x (by omega) (by omega)) ?_; (focus (first | rfl | ((simp only [go_sem, Nat.reduceEqDiff, Nat.reduceAdd, Nat.reduceSub, Nat.reduceLeDiff, Nat.reduceLT, Nat.reduceMul, Nat.reduceBEq, Int.reduceEq, Int.reduceLT, Int.reduceLE, Int.reduceNeg, Int.reduceToNat, reduceCtorEq, ho, Try.results140, x.enc_eq, hcap, hcap4, hkey, hkey4]); done) | ((simp only [go_sem, Nat.reduceEqDiff, Nat.reduceAdd, Nat.reduceSub, Nat.reduceLeDiff, Nat.reduceLT, Nat.reduceMul, Nat.reduceBEq, Int.reduceEq, Int.reduceLT, Int.reduceLE, Int.reduceNeg, Int.reduceToNat, reduceCtorEq, ho, Try.results140, x.enc_eq, hcap, hcap4, hkey, hkey4]); rfl)))
    simp only [go_sem, Nat.reduceEqDiff, Nat.reduceAdd, Nat.reduceSub, Nat.reduceLeDiff, Nat.reduceLT, Nat.reduceMul, Nat.reduceBEq, Int.reduceEq, Int.reduceLT, Int.reduceLE, Int.reduceNeg, Int.reduceToNat, reduceCtorEq, ho, Try.results140, (x.mapc g).enc_eq, hkey]
    rcases h5 with ⟨rfl, h5⟩ | ⟨hne, v, h5, h20⟩
    · simp only [go_sem, Nat.reduceEqDiff, Nat.reduceAdd, Nat.reduceSub, Nat.reduceLeDiff, Nat.reduceLT, Nat.reduceMul, Nat.reduceBEq, Int.reduceEq, Int.reduceLT, Int.reduceLE, Int.reduceNeg, Int.reduceToNat, reduceCtorEq, ho, Try.results140, h11, h10, h9, hs1, hs2, hb2, ho2, hs4, ho4, h5, hw, (x.mapc g).enc_eq]
      refine ⟨rest.length, by simp at hn; omega, [x], rest, by simpa using hl', rfl, rfl, ⟨cs, hcs, rfl⟩, .inr ⟨by simp, _, rfl, by simp [(x.mapc g).enc_eq]⟩⟩
    · simp only [go_sem, Nat.reduceEqDiff, Nat.reduceAdd, Nat.reduceSub, Nat.reduceLeDiff, Nat.reduceLT, Nat.reduceMul, Nat.reduceBEq, Int.reduceEq, Int.reduceLT, Int.reduceLE, Int.reduceNeg, Int.reduceToNat, reduceCtorEq, ho, Try.results140, h11, h10, h9, hs1, hs2, hb2, ho2, hs4, ho4, h5, h20, hw, hbig, List.length_map, (x.mapc g).enc_eq]
      refine ⟨rest.length, by simp at hn; omega, done ++ [x], rest, by simp [hl'], rfl, by simp, ⟨cs, hcs, rfl⟩, .inr ⟨by simp, _, rfl, by simp [(x.mapc g).enc_eq]⟩⟩
def Ex.add (n : Int) (e : Ex) : Ex := .mk e.op (IntKind.i64.wrap (e.int + n)) e.val e.name e.args
def Ex.shift (n : Int) (e : Ex) : Ex := e.mapc (Ex.add n)
theorem ok141 : okCode M0 Try.f141.ntmps (Try.f141.body.getD .skip) = true := by decide +kernel
theorem add_fn (n : Int) (e : Ex) : Fc 141 [e.enc, .mem [.int .i64 n]] (Ex.add n e).enc := by
  refine fn_of_awp (E := E0) (M := M0) follows Try.func141 rfl (by decide) ok141 (by decide) (by simp) fun o ho => ?_
  simp only [go_sem, Nat.reduceEqDiff, Nat.reduceAdd, Nat.reduceSub, Nat.reduceLeDiff, Nat.reduceLT, Nat.reduceMul, Nat.reduceBEq, Int.reduceEq, Int.reduceLT, Int.reduceLE, Int.reduceNeg, Int.reduceToNat, reduceCtorEq, ho, Try.results141, e.enc_eq, (Ex.add n e).enc_eq]
  exact ⟨rfl, rfl, rfl, rfl, rfl, rfl, rfl⟩
theorem ok64 : okCode M0 Try.f64.ntmps (Try.f64.body.getD .skip) = true := by decide +kernel
theorem shift_fn (e : Ex) (n : Int) (h : e.size ≤ 100000000) : Fc 64 [e.enc, .int .i64 n] (e.shift n).enc := by
  have hm := mapped_fn 141 [.mem [.int .i64 n]] (Ex.add n) (fun x => add_fn n x) (fun o m => by cases m <;> rfl) (fun o m => by cases m <;> rfl) _ e (Nat.le_refl _) h
  refine fn_of_awp (E := E0) (M := M0) follows Try.func64 rfl (by decide) ok64 (by decide) (by simp) fun o ho => ?_
  simp only [go_sem, Nat.reduceEqDiff, Nat.reduceAdd, Nat.reduceSub, Nat.reduceLeDiff, Nat.reduceLT, Nat.reduceMul, Nat.reduceBEq, Int.reduceEq, Int.reduceLT, Int.reduceLE, Int.reduceNeg, Int.reduceToNat, reduceCtorEq, ho, Try.results64, e.enc_eq]
  refine GCall.frz ?_ (hm) ?_; (focus (first | rfl | ((simp only [go_sem, Nat.reduceEqDiff, Nat.reduceAdd, Nat.reduceSub, Nat.reduceLeDiff, Nat.reduceLT, Nat.reduceMul, Nat.reduceBEq, Int.reduceEq, Int.reduceLT, Int.reduceLE, Int.reduceNeg, Int.reduceToNat, reduceCtorEq, ho, Try.results64, e.enc_eq]); done) | ((simp only [go_sem, Nat.reduceEqDiff, Nat.reduceAdd, Nat.reduceSub, Nat.reduceLeDiff, Nat.reduceLT, Nat.reduceMul, Nat.reduceBEq, Int.reduceEq, Int.reduceLT, Int.reduceLE, Int.reduceNeg, Int.reduceToNat, reduceCtorEq, ho, Try.results64, e.enc_eq]); rfl)))
  simp only [go_sem, Nat.reduceEqDiff, Nat.reduceAdd, Nat.reduceSub, Nat.reduceLeDiff, Nat.reduceLT, Nat.reduceMul, Nat.reduceBEq, Int.reduceEq, Int.reduceLT, Int.reduceLE, Int.reduceNeg, Int.reduceToNat, reduceCtorEq, ho, Try.results64, (e.shift n).enc_eq, show e.mapc (Ex.add n) = e.shift n from rfl]
end Go.Proofs.Ytiefnninebilbaa
/- Function values that gather into a slice variable of their maker's; no condition. -/
set_option maxRecDepth 100000
set_option linter.unusedVariables false
set_option linter.unusedSimpArgs false
namespace Go.Proofs.Ytiefnninebilbaa
open Go Go.Sx

def rowAt (kr : Nat) (o : Objs) : List PV := match o kr with
  | (_, some (_, .row _ xs)) => xs
  | _ => []
def colStep (kl kr : Nat) (T e : TypeId) (new : Ex → List PV) (x : Ex) (o : Objs) : Objs :=
  if (new x).isEmpty = true then o
  else upd (upd o kr ((o kr).1 + 1, some (true, .row e (rowAt kr o ++ new x)))) kl ((o kl).1, some (true, .box T [.ref kr ((o kr).1 + 1)]))
def ColS (kl kr vl : Nat) (T e : TypeId) (l : List PV) (o : Objs) : Prop :=
  ∃ vr, (l = [] ∧ o kl = (vl, some (true, .box T [.nil])) ∧ o kr = (vr, none)) ∨ (l ≠ [] ∧ o kl = (vl, some (true, .box T [.ref kr vr])) ∧ o kr = (vr, some (true, .row e l)))
theorem col_next {kl kr vl : Nat} {T e : TypeId} {new : Ex → List PV} (hne : kl ≠ kr) {l : List PV} {o : Objs} (x : Ex) (h : ColS kl kr vl T e l o) : ColS kl kr vl T e (l ++ new x) (colStep kl kr T e new x o) := by
  unfold colStep
  split
  · rename_i hn
    rw [List.isEmpty_iff.1 hn, List.append_nil]
    exact h
  · rename_i hn
    have hn' : new x ≠ [] := fun hh => hn (by rw [hh]; rfl)
    obtain ⟨vr, ⟨rfl, h1, h2⟩ | ⟨h0, h1, h2⟩⟩ := h
    · refine ⟨vr + 1, .inr ⟨by simpa using hn', ?_, ?_⟩⟩
      · rw [upd_same, h1, h2]
      · rw [upd_ne _ _ (Ne.symm hne), upd_same, h2]
        simp [rowAt, h2]
    · refine ⟨vr + 1, .inr ⟨by simp [hn'], ?_, ?_⟩⟩
      · rw [upd_same, h1, h2]
      · rw [upd_ne _ _ (Ne.symm hne), upd_same, h2]
        simp [rowAt, h2]
theorem col_clo {c : FuncId} {caps : List PV} {b0 kl kr vl : Nat} {T e : TypeId} {new : Ex → List PV} {N : Nat} {xk : Nat → Prop} {X : Objs → Prop} (hne : kl ≠ kr) (hkl : kl < b0) (hkr : kr < b0) (h1 : ∀ x, (new x).length ≤ 1)
    (hxk : ∀ k, xk k → k < b0 ∧ k ≠ kl ∧ k ≠ kr) (hX : ∀ o o', (∀ k, xk k → o k = o' k) → X o → X o') (hXl : ∀ o k ver b y, X o → xk k → o k = (ver, some (b, y)) → ObLow (fun k' => b0 ≤ k') y)
    (run : ∀ l o x b kd, b0 ≤ b → b ≤ 950000000 → ColS kl kr vl T e l o → X o → l.length ≤ 100000000 → x.size ≤ N → (∀ k, b ≤ k → k < 1000000000 → (o k).2 = none) → CallRun P0 c (x.enc :: caps) kd o (.tup []) (colStep kl kr T e new x o)) :
    Clo c caps (fun k => k = kl ∨ k = kr ∨ xk k) b0 (colStep kl kr T e new) (fun l x => l ++ new x) (fun l o => ColS kl kr vl T e l o ∧ X o) List.length N where
  low k hk := by
    rcases hk with rfl | rfl | hk
    · assumption
    · assumption
    · exact (hxk k hk).1
  frame x o k hk := by
    simp only [not_or] at hk
    unfold colStep
    split
    · rfl
    · rw [upd_ne _ _ hk.1, upd_ne _ _ hk.2.1]
  det x o o' h k hk := by
    have e1 := h kl (.inl rfl)
    have e2 := h kr (.inr (.inl rfl))
    unfold colStep
    split
    · exact h k hk
    · simp only [rowAt, e1, e2, upd]
      rw [h k hk]
  loc s o o' h hs := by
    have e1 := h kl (.inl rfl)
    have e2 := h kr (.inr (.inl rfl))
    obtain ⟨⟨vr, hs⟩, hx⟩ := hs
    exact ⟨⟨vr, by rw [← e1, ← e2]; exact hs⟩, hX o o' (fun k hk => h k (.inr (.inr hk))) hx⟩
  next s o x h := ⟨col_next hne x h.1, hX o _ (fun k hk => by
    obtain ⟨_, h1, h2⟩ := hxk k hk
    unfold colStep
    split
    · rfl
    · rw [upd_ne _ _ h1, upd_ne _ _ h2]) h.2⟩
  lowS s o k ver b y h hk ho := by
    obtain ⟨⟨vr, ⟨_, a1, a2⟩ | ⟨_, a1, a2⟩⟩, hx⟩ := h
    · rcases hk with rfl | rfl | hk
      · rw [a1] at ho
        simp only [Prod.mk.injEq, Option.some.injEq] at ho
        obtain ⟨_, _, rfl⟩ := ho
        intro z hz k' v hh
        simp only [List.mem_singleton] at hz
        subst hz
        cases hh
      · rw [a2] at ho; simp at ho
      · exact hXl o k ver b y hx hk ho
    · rcases hk with rfl | rfl | hk
      · rw [a1] at ho
        simp only [Prod.mk.injEq, Option.some.injEq] at ho
        obtain ⟨_, _, rfl⟩ := ho
        intro z hz k' v hh
        simp only [List.mem_singleton] at hz
        subst hz
        cases hh
        omega
      · rw [a2] at ho
        simp only [Prod.mk.injEq, Option.some.injEq] at ho
        obtain ⟨_, _, rfl⟩ := ho
        trivial
      · exact hXl o k ver b y hx hk ho
  szs s x := by simp only [List.length_append]; have := h1 x; omega
  run s o x b kd h1 h2 h3 h4 h5 h6 := run s o x b kd h1 h2 h3.1 h3.2 h4 h5 h6
/-- What a gathering function value leaves alone, and what its variable leads to. -/
theorem col_frame {kl kr : Nat} {T e : TypeId} {new : Ex → List PV} {x : Ex} {o : Objs} : ∀ k, ¬ (k = kl ∨ k = kr) → colStep kl kr T e new x o k = o k := fun k hk => by
  simp only [not_or] at hk
  unfold colStep
  split
  · rfl
  · rw [upd_ne _ _ hk.1, upd_ne _ _ hk.2]
theorem col_box {kl kr vl b : Nat} {T e : TypeId} {new : Ex → List PV} {x : Ex} {l : List PV} {o : Objs} (hne : kl ≠ kr) (hkr : kr < b) (hS : ColS kl kr vl T e l o) {k ver : Nat} {bb : Bool} {y : Ob} (hk : colStep kl kr T e new x o k = (ver, some (bb, y))) :
    colStep kl kr T e new x o k = o k ∨ ObLow (fun k => b ≤ k ∧ k < 1000000000) y := by
  by_cases h1 : k = kl ∨ k = kr
  · right
    obtain ⟨vr, hS'⟩ := col_next (new := new) hne x hS
    rcases hS' with ⟨_, a1, a2⟩ | ⟨_, a1, a2⟩
    · rcases h1 with rfl | rfl
      · rw [a1] at hk
        simp only [Prod.mk.injEq, Option.some.injEq] at hk
        obtain ⟨_, _, rfl⟩ := hk
        intro z hz k' v hh hj
        simp only [List.mem_singleton] at hz
        subst hz
        cases hh
      · rw [a2] at hk; simp at hk
    · rcases h1 with rfl | rfl
      · rw [a1] at hk
        simp only [Prod.mk.injEq, Option.some.injEq] at hk
        obtain ⟨_, _, rfl⟩ := hk
        intro z hz k' v hh hj
        simp only [List.mem_singleton] at hz
        subst hz
        cases hh
        omega
      · rw [a2] at hk
        simp only [Prod.mk.injEq, Option.some.injEq] at hk
        obtain ⟨_, _, rfl⟩ := hk
        trivial
  · exact .inl (col_frame k h1)
def newCd (x : Ex) : List PV := match x.cond with
  | some c => [c.enc]
  | none => []
theorem ok130 : okCode M0 Try.f130.ntmps (Try.f130.body.getD .skip) = true := by decide +kernel
theorem condClo_run (kl kr vl b0 : Nat) (hne : kl ≠ kr) (hkl : kl < b0) (hkr : kr < b0) (l : List PV) (o : Objs) (x : Ex) (b : Nat) (kd : Option Nat) (hb : b0 ≤ b) (hb9 : b ≤ 950000000) (hS : ColS kl kr vl 69 72 l o) (hl : l.length ≤ 100000000) (ho : ∀ k, b ≤ k → k < 1000000000 → (o k).2 = none) :
    CallRun P0 130 [x.enc, .ptr kl vl 0] kd o (.tup []) (colStep kl kr 69 72 newCd x o) := by
  have hkl' : kl < b := by omega
  have hkr' : kr < b := by omega
  have f1 : ∀ j, ¬ b + j = kl := fun j => by omega
  have f2 : ∀ j, ¬ b + j = kr := fun j => by omega
  have f3 : ∀ j, ¬ kl = b + j := fun j => by omega
  have f4 : ∀ j, ¬ kr = b + j := fun j => by omega
  have f5 : ¬ kr = kl := fun h => hne h.symm
  have f6 : ∀ j, (kl == b + j) = false := fun j => by simpa using f3 j
  have f7 : ∀ j, (kr == b + j) = false := fun j => by simpa using f4 j
  have f10 : kr < 1000000000 := by omega
  refine CallRun.of_awp _ _ (fun k => b ≤ k ∧ k < 1000000000) (E := (E0.col b 14 kr kl ⟨hkr', hkl', hne⟩)) (M := M0) follows Try.func130 rfl (by decide) ok130 (fun d hd => ?_) (by simp) (fun k hk => ⟨ho k hk.1 hk.2, col_frame k (by omega)⟩) (fun k hk => col_frame k (by omega)) (fun k ver bb y hk => ?_) ?_ ?_
  · show (if d = 14 then kr else if d = 1000 then kl else b + d) < 1000000000
    have : d < 15 := hd
    split
    · omega
    · split <;> omega
  · exact col_box hne hkr' hS hk
  · simp only [go_sem]
  have hbig : (l.length + 1) * 49 ≤ 140737488355328 := by omega
  simp only [go_sem, Nat.reduceEqDiff, Nat.reduceAdd, Nat.reduceSub, Nat.reduceLeDiff, Nat.reduceLT, Nat.reduceMul, Nat.reduceBEq, Int.reduceEq, Int.reduceLT, Int.reduceLE, Int.reduceNeg, Int.reduceToNat, reduceCtorEq, ho, Try.results130, x.enc_eq, eq_self, Nat.add_left_cancel_iff, Nat.left_eq_add, Nat.add_eq_left, f1, f2, f3, f4, f5, f6, f7, f10, hne]
  have hcf := cond_fn x
  cases hc : x.cond with
  | none =>
    rw [hc] at hcf
    have hcs : colStep kl kr 69 72 newCd x o = o := by simp [colStep, newCd, hc]
    refine GCall.fr ?_ (hcf) (.inl rfl) ?_; (focus (first | rfl | ((simp only [go_sem, Nat.reduceEqDiff, Nat.reduceAdd, Nat.reduceSub, Nat.reduceLeDiff, Nat.reduceLT, Nat.reduceMul, Nat.reduceBEq, Int.reduceEq, Int.reduceLT, Int.reduceLE, Int.reduceNeg, Int.reduceToNat, reduceCtorEq, ho, Try.results130, x.enc_eq]); done) | ((simp only [go_sem, Nat.reduceEqDiff, Nat.reduceAdd, Nat.reduceSub, Nat.reduceLeDiff, Nat.reduceLT, Nat.reduceMul, Nat.reduceBEq, Int.reduceEq, Int.reduceLT, Int.reduceLE, Int.reduceNeg, Int.reduceToNat, reduceCtorEq, ho, Try.results130, x.enc_eq]); rfl)))
    simp only [go_sem, Nat.reduceEqDiff, Nat.reduceAdd, Nat.reduceSub, Nat.reduceLeDiff, Nat.reduceLT, Nat.reduceMul, Nat.reduceBEq, Int.reduceEq, Int.reduceLT, Int.reduceLE, Int.reduceNeg, Int.reduceToNat, reduceCtorEq, ho, Try.results130, condPV, Cd.enc, Cd.zero, eq_self, Nat.add_left_cancel_iff, Nat.left_eq_add, Nat.add_eq_left, f1, f2, f3, f4, f5, f6, f7, f10, hne]
    rw [hcs]
    intro k hk
    have g1 : ∀ j, j < 50 → ¬ k = b + j := fun j hj => by omega
    simp only [go_sem, Nat.reduceEqDiff, Nat.reduceAdd, Nat.reduceSub, Nat.reduceLeDiff, Nat.reduceLT, Nat.reduceMul, Nat.reduceBEq, Int.reduceEq, Int.reduceLT, Int.reduceLE, Int.reduceNeg, Int.reduceToNat, reduceCtorEq, ho, Try.results130, g1]
  | some c =>
    rw [hc] at hcf
    refine GCall.fr ?_ (hcf) (.inl rfl) ?_; (focus (first | rfl | ((simp only [go_sem, Nat.reduceEqDiff, Nat.reduceAdd, Nat.reduceSub, Nat.reduceLeDiff, Nat.reduceLT, Nat.reduceMul, Nat.reduceBEq, Int.reduceEq, Int.reduceLT, Int.reduceLE, Int.reduceNeg, Int.reduceToNat, reduceCtorEq, ho, Try.results130, x.enc_eq]); done) | ((simp only [go_sem, Nat.reduceEqDiff, Nat.reduceAdd, Nat.reduceSub, Nat.reduceLeDiff, Nat.reduceLT, Nat.reduceMul, Nat.reduceBEq, Int.reduceEq, Int.reduceLT, Int.reduceLE, Int.reduceNeg, Int.reduceToNat, reduceCtorEq, ho, Try.results130, x.enc_eq]); rfl)))
    simp only [go_sem, Nat.reduceEqDiff, Nat.reduceAdd, Nat.reduceSub, Nat.reduceLeDiff, Nat.reduceLT, Nat.reduceMul, Nat.reduceBEq, Int.reduceEq, Int.reduceLT, Int.reduceLE, Int.reduceNeg, Int.reduceToNat, reduceCtorEq, ho, Try.results130, condPV, Cd.enc, eq_self, Nat.add_left_cancel_iff, Nat.left_eq_add, Nat.add_eq_left, f1, f2, f3, f4, f5, f6, f7, f10, hne]
    have hcs : colStep kl kr 69 72 newCd x o = upd (upd o kr ((o kr).1 + 1, some (true, .row 72 (rowAt kr o ++ [c.enc])))) kl ((o kl).1, some (true, .box 69 [.ref kr ((o kr).1 + 1)])) := by simp [colStep, newCd, hc]
    rw [hcs]
    obtain ⟨vr, ⟨rfl, a1, a2⟩ | ⟨h0, a1, a2⟩⟩ := hS
    · have hgb : getBox o kl vl = some (69, [.nil]) := by simp [getBox, a1]
      simp only [go_sem, Nat.reduceEqDiff, Nat.reduceAdd, Nat.reduceSub, Nat.reduceLeDiff, Nat.reduceLT, Nat.reduceMul, Nat.reduceBEq, Int.reduceEq, Int.reduceLT, Int.reduceLE, Int.reduceNeg, Int.reduceToNat, reduceCtorEq, ho, Try.results130, a1, a2, hgb, eq_self, Nat.add_left_cancel_iff, Nat.left_eq_add, Nat.add_eq_left, f1, f2, f3, f4, f5, f6, f7, f10, hne]
      intro k hk
      have g1 : ∀ j, j < 50 → ¬ k = b + j := fun j hj => by omega
      have g2 : ∀ j, j < 50 → (k == b + j) = false := fun j hj => by simpa using g1 j hj
      simp only [go_sem, Nat.reduceEqDiff, Nat.reduceAdd, Nat.reduceSub, Nat.reduceLeDiff, Nat.reduceLT, Nat.reduceMul, Nat.reduceBEq, Int.reduceEq, Int.reduceLT, Int.reduceLE, Int.reduceNeg, Int.reduceToNat, reduceCtorEq, ho, Try.results130, g1, g2, rowAt, a2, Cd.enc]
    · have hgb : getBox o kl vl = some (69, [.ref kr vr]) := by simp [getBox, a1]
      simp only [go_sem, Nat.reduceEqDiff, Nat.reduceAdd, Nat.reduceSub, Nat.reduceLeDiff, Nat.reduceLT, Nat.reduceMul, Nat.reduceBEq, Int.reduceEq, Int.reduceLT, Int.reduceLE, Int.reduceNeg, Int.reduceToNat, reduceCtorEq, ho, Try.results130, a1, a2, hgb, hbig, eq_self, Nat.add_left_cancel_iff, Nat.left_eq_add, Nat.add_eq_left, f1, f2, f3, f4, f5, f6, f7, f10, hne]
      intro k hk
      have g1 : ∀ j, j < 50 → ¬ k = b + j := fun j hj => by omega
      have g2 : ∀ j, j < 50 → (k == b + j) = false := fun j hj => by simpa using g1 j hj
      simp only [go_sem, Nat.reduceEqDiff, Nat.reduceAdd, Nat.reduceSub, Nat.reduceLeDiff, Nat.reduceLT, Nat.reduceMul, Nat.reduceBEq, Int.reduceEq, Int.reduceLT, Int.reduceLE, Int.reduceNeg, Int.reduceToNat, reduceCtorEq, ho, Try.results130, g1, g2, rowAt, a2, Cd.enc]
end Go.Proofs.Ytiefnninebilbaa
/- Function values that gather conjuncts, equations, columns; no condition. -/
set_option maxRecDepth 100000
set_option linter.unusedVariables false
set_option linter.unusedSimpArgs false
namespace Go.Proofs.Ytiefnninebilbaa
open Go Go.Sx

def newCol (x : Ex) : List PV := if x.op = 2 then [.int .i64 x.int] else []
theorem ok137 : okCode M0 Try.f137.ntmps (Try.f137.body.getD .skip) = true := by decide +kernel
theorem colsClo_run (kl kr vl b0 : Nat) (hne : kl ≠ kr) (hkl : kl < b0) (hkr : kr < b0) (l : List PV) (o : Objs) (x : Ex) (b : Nat) (kd : Option Nat) (hb : b0 ≤ b) (hb9 : b ≤ 950000000) (hS : ColS kl kr vl 23 3 l o) (hl : l.length ≤ 100000000) (hx : x.size ≤ 100000000) (ho : ∀ k, b ≤ k → k < 1000000000 → (o k).2 = none) :
    CallRun P0 137 (x.enc :: [.ptr kl vl 0]) kd o (.tup []) (colStep kl kr 23 3 newCol x o) := by
  have hkl' : kl < b := by omega
  have hkr' : kr < b := by omega
  have f1 : ∀ j, ¬ b + j = kl := fun j => by omega
  have f2 : ∀ j, ¬ b + j = kr := fun j => by omega
  have f3 : ∀ j, ¬ kl = b + j := fun j => by omega
  have f4 : ∀ j, ¬ kr = b + j := fun j => by omega
  have f5 : ¬ kr = kl := fun h => hne h.symm
  have f6 : ∀ j, (kl == b + j) = false := fun j => by simpa using f3 j
  have f7 : ∀ j, (kr == b + j) = false := fun j => by simpa using f4 j
  have f10 : kr < 1000000000 := by omega
  have f8 : (kr == kl) = false := by simpa using f5
  refine CallRun.of_awp _ _ (fun k => b ≤ k ∧ k < 1000000000) (E := (E0.col b 10 kr kl ⟨hkr', hkl', hne⟩)) (M := M0) follows Try.func137 rfl (by decide) ok137 (fun d hd => ?_) (by simp) (fun k hk => ⟨ho k hk.1 hk.2, col_frame k (by omega)⟩) (fun k hk => col_frame k (by omega)) (fun k ver bb y hk => ?_) ?_ ?_
  · show (if d = 10 then kr else if d = 1000 then kl else b + d) < 1000000000
    have : d < 11 := hd
    split
    · omega
    · split <;> omega
  · exact col_box hne hkr' hS hk
  · simp only [go_sem]
  have hbig : (l.length + 1) * 9 ≤ 140737488355328 := by omega
  simp only [go_sem, Nat.reduceEqDiff, Nat.reduceAdd, Nat.reduceSub, Nat.reduceLeDiff, Nat.reduceLT, Nat.reduceMul, Nat.reduceBEq, Int.reduceEq, Int.reduceLT, Int.reduceLE, Int.reduceNeg, Int.reduceToNat, reduceCtorEq, ho, Try.results137, x.enc_eq, eq_self, Nat.add_left_cancel_iff, Nat.left_eq_add, Nat.add_eq_left, f1, f2, f3, f4, f5, f6, f7, f10, hne]
  by_cases h2 : x.op = 2
  · simp only [go_sem, Nat.reduceEqDiff, Nat.reduceAdd, Nat.reduceSub, Nat.reduceLeDiff, Nat.reduceLT, Nat.reduceMul, Nat.reduceBEq, Int.reduceEq, Int.reduceLT, Int.reduceLE, Int.reduceNeg, Int.reduceToNat, reduceCtorEq, ho, Try.results137, h2, eq_self, Nat.add_left_cancel_iff, Nat.left_eq_add, Nat.add_eq_left, f1, f2, f3, f4, f5, f6, f7, f10, hne]
    have hcs : colStep kl kr 23 3 newCol x o = upd (upd o kr ((o kr).1 + 1, some (true, .row 3 (rowAt kr o ++ [.int .i64 x.int])))) kl ((o kl).1, some (true, .box 23 [.ref kr ((o kr).1 + 1)])) := by simp [colStep, newCol, h2]
    rw [hcs]
    obtain ⟨vr, ⟨rfl, a1, a2⟩ | ⟨h0, a1, a2⟩⟩ := hS
    · have hgb : getBox o kl vl = some (23, [.nil]) := by simp [getBox, a1]
      simp only [go_sem, Nat.reduceEqDiff, Nat.reduceAdd, Nat.reduceSub, Nat.reduceLeDiff, Nat.reduceLT, Nat.reduceMul, Nat.reduceBEq, Int.reduceEq, Int.reduceLT, Int.reduceLE, Int.reduceNeg, Int.reduceToNat, reduceCtorEq, ho, Try.results137, a1, a2, hgb, eq_self, Nat.add_left_cancel_iff, Nat.left_eq_add, Nat.add_eq_left, f1, f2, f3, f4, f5, f6, f7, f10, hne]
      intro k hk
      have g1 : ∀ j, j < 80 → ¬ k = b + j := fun j hj => by omega
      have g2 : ∀ j, j < 80 → (k == b + j) = false := fun j hj => by simpa using g1 j hj
      simp only [go_sem, Nat.reduceEqDiff, Nat.reduceAdd, Nat.reduceSub, Nat.reduceLeDiff, Nat.reduceLT, Nat.reduceMul, Nat.reduceBEq, Int.reduceEq, Int.reduceLT, Int.reduceLE, Int.reduceNeg, Int.reduceToNat, reduceCtorEq, ho, Try.results137, g1, g2, rowAt, a2]
    · have hgb : getBox o kl vl = some (23, [.ref kr vr]) := by simp [getBox, a1]
      simp only [go_sem, Nat.reduceEqDiff, Nat.reduceAdd, Nat.reduceSub, Nat.reduceLeDiff, Nat.reduceLT, Nat.reduceMul, Nat.reduceBEq, Int.reduceEq, Int.reduceLT, Int.reduceLE, Int.reduceNeg, Int.reduceToNat, reduceCtorEq, ho, Try.results137, a1, a2, hgb, hbig, eq_self, Nat.add_left_cancel_iff, Nat.left_eq_add, Nat.add_eq_left, f1, f2, f3, f4, f5, f6, f7, f10, hne]
      intro k hk
      have g1 : ∀ j, j < 80 → ¬ k = b + j := fun j hj => by omega
      have g2 : ∀ j, j < 80 → (k == b + j) = false := fun j hj => by simpa using g1 j hj
      simp only [go_sem, Nat.reduceEqDiff, Nat.reduceAdd, Nat.reduceSub, Nat.reduceLeDiff, Nat.reduceLT, Nat.reduceMul, Nat.reduceBEq, Int.reduceEq, Int.reduceLT, Int.reduceLE, Int.reduceNeg, Int.reduceToNat, reduceCtorEq, ho, Try.results137, g1, g2, rowAt, a2]
  · have hcs : colStep kl kr 23 3 newCol x o = o := by simp [colStep, newCol, h2]
    simp only [go_sem, Nat.reduceEqDiff, Nat.reduceAdd, Nat.reduceSub, Nat.reduceLeDiff, Nat.reduceLT, Nat.reduceMul, Nat.reduceBEq, Int.reduceEq, Int.reduceLT, Int.reduceLE, Int.reduceNeg, Int.reduceToNat, reduceCtorEq, ho, Try.results137, h2, eq_self, Nat.add_left_cancel_iff, Nat.left_eq_add, Nat.add_eq_left, f1, f2, f3, f4, f5, f6, f7, f10, hne]
    rw [hcs]
    intro k hk
    have g1 : ∀ j, j < 80 → ¬ k = b + j := fun j hj => by omega
    simp only [go_sem, Nat.reduceEqDiff, Nat.reduceAdd, Nat.reduceSub, Nat.reduceLeDiff, Nat.reduceLT, Nat.reduceMul, Nat.reduceBEq, Int.reduceEq, Int.reduceLT, Int.reduceLE, Int.reduceNeg, Int.reduceToNat, reduceCtorEq, ho, Try.results137, g1]
def newConj (x : Ex) : List PV := [(x.shift 0).enc]
def M134 : Nat → Nat → Option Md := fun id i => if id = 1 then (if i = 6 then some (.h [1000]) else if i = 7 then some (.s 8) else if i = 8 then some (.s 1000) else none) else none
theorem ok134 : okCode M134 Try.f134.ntmps (Try.f134.body.getD .skip) = true := by decide +kernel
theorem conjClo_run (kl kr vl b0 : Nat) (hne : kl ≠ kr) (hkl : kl < b0) (hkr : kr < b0) (l : List PV) (o : Objs) (x : Ex) (b : Nat) (kd : Option Nat) (hb : b0 ≤ b) (hb9 : b ≤ 950000000) (hS : ColS kl kr vl 25 49 l o) (hl : l.length ≤ 100000000) (hx : x.size ≤ 100000000) (ho : ∀ k, b ≤ k → k < 1000000000 → (o k).2 = none) :
    CallRun P0 134 (x.enc :: [.ptr kl vl 0]) kd o (.tup []) (colStep kl kr 25 49 newConj x o) := by
  have hkl' : kl < b := by omega
  have hkr' : kr < b := by omega
  have f1 : ∀ j, ¬ b + j = kl := fun j => by omega
  have f2 : ∀ j, ¬ b + j = kr := fun j => by omega
  have f3 : ∀ j, ¬ kl = b + j := fun j => by omega
  have f4 : ∀ j, ¬ kr = b + j := fun j => by omega
  have f5 : ¬ kr = kl := fun h => hne h.symm
  have f6 : ∀ j, (kl == b + j) = false := fun j => by simpa using f3 j
  have f7 : ∀ j, (kr == b + j) = false := fun j => by simpa using f4 j
  have f10 : kr < 1000000000 := by omega
  have f8 : (kr == kl) = false := by simpa using f5
  refine CallRun.of_awp _ _ (fun k => b ≤ k ∧ k < 1000000000) (E := (E0.col b 8 kr kl ⟨hkr', hkl', hne⟩)) (M := M134) follows Try.func134 rfl (by decide) ok134 (fun d hd => ?_) (by simp) (fun k hk => ⟨ho k hk.1 hk.2, col_frame k (by omega)⟩) (fun k hk => col_frame k (by omega)) (fun k ver bb y hk => ?_) ?_ ?_
  · show (if d = 8 then kr else if d = 1000 then kl else b + d) < 1000000000
    have : d < 10 := hd
    split
    · omega
    · split <;> omega
  · exact col_box hne hkr' hS hk
  · simp only [go_sem]
  have hbig : (l.length + 1) * 89 ≤ 140737488355328 := by omega
  have hn0 : (0 : Int) ≤ (l.length : Int) := by omega
  have hlt : (l.length : Int) < ((l.length + 1 : Nat) : Int) := by omega
  have hget : ∀ z : PV, (l ++ [z])[l.length]? = some z := fun z => by simp
  have h01 : (0 : Int) < ((1 : Nat) : Int) := by decide
  have hset : ∀ y z : PV, (l ++ [z]).set l.length y = l ++ [y] := fun y z => by simp
  have hcs : colStep kl kr 25 49 newConj x o = upd (upd o kr ((o kr).1 + 1, some (true, .row 49 (rowAt kr o ++ [(x.shift 0).enc])))) kl ((o kl).1, some (true, .box 25 [.ref kr ((o kr).1 + 1)])) := by simp [colStep, newConj]
  rw [hcs]
  obtain ⟨vr, ⟨rfl, a1, a2⟩ | ⟨h0, a1, a2⟩⟩ := hS
  · have hgb : getBox o kl vl = some (25, [.nil]) := by simp [getBox, a1]
    simp only [go_sem, Nat.reduceEqDiff, Nat.reduceAdd, Nat.reduceSub, Nat.reduceLeDiff, Nat.reduceLT, Nat.reduceMul, Nat.reduceBEq, Int.reduceEq, Int.reduceLT, Int.reduceLE, Int.reduceNeg, Int.reduceToNat, reduceCtorEq, ho, Try.results134, x.enc_eq, a1, a2, hgb, mdOf, M134, Option.getD_some, Option.getD_none, if_true, if_false, eq_self, Nat.add_left_cancel_iff, Nat.left_eq_add, Nat.add_eq_left, f1, f2, f3, f4, f5, f6, f7, f10, hne, f8]
    refine QCall.fr ?_ (shift_fn x 0 hx) (.inr rfl) ?_; (focus (first | rfl | ((simp only [go_sem, Nat.reduceEqDiff, Nat.reduceAdd, Nat.reduceSub, Nat.reduceLeDiff, Nat.reduceLT, Nat.reduceMul, Nat.reduceBEq, Int.reduceEq, Int.reduceLT, Int.reduceLE, Int.reduceNeg, Int.reduceToNat, reduceCtorEq, ho, Try.results134, x.enc_eq]); done) | ((simp only [go_sem, Nat.reduceEqDiff, Nat.reduceAdd, Nat.reduceSub, Nat.reduceLeDiff, Nat.reduceLT, Nat.reduceMul, Nat.reduceBEq, Int.reduceEq, Int.reduceLT, Int.reduceLE, Int.reduceNeg, Int.reduceToNat, reduceCtorEq, ho, Try.results134, x.enc_eq]); rfl)))
    simp only [go_sem, Nat.reduceEqDiff, Nat.reduceAdd, Nat.reduceSub, Nat.reduceLeDiff, Nat.reduceLT, Nat.reduceMul, Nat.reduceBEq, Int.reduceEq, Int.reduceLT, Int.reduceLE, Int.reduceNeg, Int.reduceToNat, reduceCtorEq, ho, Try.results134, (x.shift 0).enc_eq, a1, a2, hgb, h01, List.set_cons_zero, mdOf, M134, Option.getD_some, Option.getD_none, if_true, if_false, eq_self, Nat.add_left_cancel_iff, Nat.left_eq_add, Nat.add_eq_left, f1, f2, f3, f4, f5, f6, f7, f10, hne, f8]
    intro k hk
    have g1 : ∀ j, j < 80 → ¬ k = b + j := fun j hj => by omega
    have g2 : ∀ j, j < 80 → (k == b + j) = false := fun j hj => by simpa using g1 j hj
    simp only [go_sem, Nat.reduceEqDiff, Nat.reduceAdd, Nat.reduceSub, Nat.reduceLeDiff, Nat.reduceLT, Nat.reduceMul, Nat.reduceBEq, Int.reduceEq, Int.reduceLT, Int.reduceLE, Int.reduceNeg, Int.reduceToNat, reduceCtorEq, ho, Try.results134, g1, g2, rowAt, a2, (x.shift 0).enc_eq]
  · have hgb : getBox o kl vl = some (25, [.ref kr vr]) := by simp [getBox, a1]
    have hgr : getRow o kr vr = some (49, l) := by simp [getRow, a2]
    simp only [go_sem, Nat.reduceEqDiff, Nat.reduceAdd, Nat.reduceSub, Nat.reduceLeDiff, Nat.reduceLT, Nat.reduceMul, Nat.reduceBEq, Int.reduceEq, Int.reduceLT, Int.reduceLE, Int.reduceNeg, Int.reduceToNat, reduceCtorEq, ho, Try.results134, x.enc_eq, a1, a2, hgb, mdOf, M134, Option.getD_some, Option.getD_none, if_true, if_false, eq_self, Nat.add_left_cancel_iff, Nat.left_eq_add, Nat.add_eq_left, f1, f2, f3, f4, f5, f6, f7, f10, hne, f8]
    refine QCall.fr ?_ (shift_fn x 0 hx) (.inr rfl) ?_; (focus (first | rfl | ((simp only [go_sem, Nat.reduceEqDiff, Nat.reduceAdd, Nat.reduceSub, Nat.reduceLeDiff, Nat.reduceLT, Nat.reduceMul, Nat.reduceBEq, Int.reduceEq, Int.reduceLT, Int.reduceLE, Int.reduceNeg, Int.reduceToNat, reduceCtorEq, ho, Try.results134, x.enc_eq]); done) | ((simp only [go_sem, Nat.reduceEqDiff, Nat.reduceAdd, Nat.reduceSub, Nat.reduceLeDiff, Nat.reduceLT, Nat.reduceMul, Nat.reduceBEq, Int.reduceEq, Int.reduceLT, Int.reduceLE, Int.reduceNeg, Int.reduceToNat, reduceCtorEq, ho, Try.results134, x.enc_eq]); rfl)))
    simp only [go_sem, Nat.reduceEqDiff, Nat.reduceAdd, Nat.reduceSub, Nat.reduceLeDiff, Nat.reduceLT, Nat.reduceMul, Nat.reduceBEq, Int.reduceEq, Int.reduceLT, Int.reduceLE, Int.reduceNeg, Int.reduceToNat, reduceCtorEq, ho, Try.results134, (x.shift 0).enc_eq, a1, a2, hgb, hgr, hbig, hn0, hlt, hget, hset, List.length_append, Int.toNat_natCast, mdOf, M134, Option.getD_some, Option.getD_none, if_true, if_false, eq_self, Nat.add_left_cancel_iff, Nat.left_eq_add, Nat.add_eq_left, f1, f2, f3, f4, f5, f6, f7, f10, hne, f8]
    intro k hk
    have g1 : ∀ j, j < 80 → ¬ k = b + j := fun j hj => by omega
    have g2 : ∀ j, j < 80 → (k == b + j) = false := fun j hj => by simpa using g1 j hj
    simp only [go_sem, Nat.reduceEqDiff, Nat.reduceAdd, Nat.reduceSub, Nat.reduceLeDiff, Nat.reduceLT, Nat.reduceMul, Nat.reduceBEq, Int.reduceEq, Int.reduceLT, Int.reduceLE, Int.reduceNeg, Int.reduceToNat, reduceCtorEq, ho, Try.results134, g1, g2, rowAt, a2, (x.shift 0).enc_eq]
end Go.Proofs.Ytiefnninebilbaa
/- Conjuncts, conditions and equations as the program finds them; no condition. -/
set_option maxRecDepth 100000
set_option linter.unusedVariables false
set_option linter.unusedSimpArgs false
namespace Go.Proofs.Ytiefnninebilbaa
open Go Go.Sx

def mnI (a b : Int) : Int := if b < a then b else a
def mxI (a b : Int) : Int := if a < b then b else a
def Ex.eqn (split : Int) (x : Ex) : Option (Int × Int) :=
  match x.args with
  | [a, b] => if x.op = 7 ∧ a.op = 2 ∧ b.op = 2 ∧ mnI a.int b.int < split ∧ split ≤ mxI a.int b.int then some (mnI a.int b.int, mxI a.int b.int) else none
  | _ => none
theorem Ex.eqn_mk (split op int : Int) (v : Vl) (n : ByteArray) (a b : Ex) : (Ex.mk op int v n [a, b]).eqn split = if op = 7 ∧ a.op = 2 ∧ b.op = 2 ∧ mnI a.int b.int < split ∧ split ≤ mxI a.int b.int then some (mnI a.int b.int, mxI a.int b.int) else none := rfl
theorem Ex.mk_op (op int : Int) (v : Vl) (n : ByteArray) (l : List Ex) : (Ex.mk op int v n l).op = op := rfl
theorem Ex.mk_int (op int : Int) (v : Vl) (n : ByteArray) (l : List Ex) : (Ex.mk op int v n l).int = int := rfl
theorem Ex.mk_val (op int : Int) (v : Vl) (n : ByteArray) (l : List Ex) : (Ex.mk op int v n l).val = v := rfl
theorem Ex.mk_name (op int : Int) (v : Vl) (n : ByteArray) (l : List Ex) : (Ex.mk op int v n l).name = n := rfl
theorem Ex.mk_args (op int : Int) (v : Vl) (n : ByteArray) (l : List Ex) : (Ex.mk op int v n l).args = l := rfl
def newEqn (split : Int) (x : Ex) : List PV := match x.eqn split with
  | some p => [.agg [.int .i64 p.1, .int .i64 p.2]]
  | none => []
theorem beq_add (b i j : Nat) : (b + i == b + j) = (i == j) := by
  by_cases h : i = j
  · subst h; rw [beq_self_eq_true, beq_self_eq_true]
  · have h2 : ¬ b + i = b + j := by omega
    rw [beq_eq_false_iff_ne.2 h, beq_eq_false_iff_ne.2 h2]
def M133 : Nat → Nat → Option Md := fun id i => if id = 2 then (if i < 23 then some (.h [4]) else none) else none
theorem ok133 : okCode M133 Try.f133.ntmps (Try.f133.body.getD .skip) = true := by decide +kernel
theorem eqnClo_run (split : Int) (ks vs kl kr vl b0 : Nat) (hks : ks < b0 ∧ ks ≠ kl ∧ ks ≠ kr) (hne : kl ≠ kr) (hkl : kl < b0) (hkr : kr < b0) (l : List PV) (o : Objs) (x : Ex) (b : Nat) (kd : Option Nat) (hb : b0 ≤ b) (hb9 : b ≤ 950000000) (hS : ColS kl kr vl 73 76 l o) (hs : ∃ bb, o ks = (vs, some (bb, .box 3 [.int .i64 split]))) (hl : l.length ≤ 100000000) (ho : ∀ k, b ≤ k → k < 1000000000 → (o k).2 = none) :
    CallRun P0 133 [x.enc, .ptr ks vs 0, .ptr kl vl 0] kd o (.tup []) (colStep kl kr 73 76 (newEqn split) x o) := by
  have hkl' : kl < b := by omega
  have hkr' : kr < b := by omega
  have f1 : ∀ j, ¬ b + j = kl := fun j => by omega
  have f2 : ∀ j, ¬ b + j = kr := fun j => by omega
  have f3 : ∀ j, ¬ kl = b + j := fun j => by omega
  have f4 : ∀ j, ¬ kr = b + j := fun j => by omega
  have f5 : ¬ kr = kl := fun h => hne h.symm
  have f6 : ∀ j, (kl == b + j) = false := fun j => by simpa using f3 j
  have f7 : ∀ j, (kr == b + j) = false := fun j => by simpa using f4 j
  have f10 : kr < 1000000000 := by omega
  have f9 : ∀ j, ¬ ks = b + j := fun j => by omega
  obtain ⟨bs, hs⟩ := hs
  have hgs : getBox o ks vs = some (3, [.int .i64 split]) := by simp [getBox, hs]
  refine CallRun.of_awp _ _ (fun k => b ≤ k ∧ k < 1000000000) (E := (E0.col b 66 kr kl ⟨hkr', hkl', hne⟩)) (M := M133) follows Try.func133 rfl (by decide) ok133 (fun d hd => ?_) (by simp) (fun k hk => ⟨ho k hk.1 hk.2, col_frame k (by omega)⟩) (fun k hk => col_frame k (by omega)) (fun k ver bb y hk => ?_) ?_ ?_
  · show (if d = 66 then kr else if d = 1000 then kl else b + d) < 1000000000
    have : d < 67 := hd
    split
    · omega
    · split <;> omega
  · exact col_box hne hkr' hS hk
  · simp only [go_sem]
  have hbig : (l.length + 1) * 17 ≤ 140737488355328 := by omega
  have none_ : x.eqn split = none → colStep kl kr 73 76 (newEqn split) x o = o := fun h => by simp [colStep, newEqn, h]
  by_cases hx : x.op = 7 ∧ x.args.length = 2
  · obtain ⟨x1, x2⟩ := hx
    obtain ⟨op, int, v, n, args⟩ := x
    simp only [Ex.op] at x1
    simp only [Ex.args] at x2
    subst x1
    obtain ⟨a, c, rfl⟩ : ∃ a c, args = [a, c] := by
      match args, x2 with
      | [a, c], _ => exact ⟨a, c, rfl⟩
    have two : ((2 : Nat) : Int) = 2 := rfl
    simp only [go_sem, Nat.reduceEqDiff, Nat.reduceAdd, Nat.reduceSub, Nat.reduceLeDiff, Nat.reduceLT, Nat.reduceMul, Nat.reduceBEq, Int.reduceEq, Int.reduceLT, Int.reduceLE, Int.reduceNeg, Int.reduceToNat, reduceCtorEq, ho, Try.results133, Ex.enc_eq (Ex.mk 7 int v n [a, c]), Ex.mk_op, Ex.mk_int, Ex.mk_val, Ex.mk_name, Ex.mk_args, two, eq_self, Nat.add_left_cancel_iff, Nat.left_eq_add, Nat.add_eq_left, f1, f2, f3, f4, f5, f6, f7, f10, hne, beq_add]
    by_cases ha : a.op = 2
    · by_cases hc : c.op = 2
      · simp only [go_sem, Nat.reduceEqDiff, Nat.reduceAdd, Nat.reduceSub, Nat.reduceLeDiff, Nat.reduceLT, Nat.reduceMul, Nat.reduceBEq, Int.reduceEq, Int.reduceLT, Int.reduceLE, Int.reduceNeg, Int.reduceToNat, reduceCtorEq, ho, Try.results133, ha, hc, hgs, mdOf, M133, Option.getD_some, Option.getD_none, if_true, if_false, f9, eq_self, Nat.add_left_cancel_iff, Nat.left_eq_add, Nat.add_eq_left, f1, f2, f3, f4, f5, f6, f7, f10, hne, beq_add]
        have e1 : (if c.int < a.int then c.int else a.int) = mnI a.int c.int := rfl
        have e2 : (if a.int < c.int then c.int else a.int) = mxI a.int c.int := rfl
        simp only [go_sem, Nat.reduceEqDiff, Nat.reduceAdd, Nat.reduceSub, Nat.reduceLeDiff, Nat.reduceLT, Nat.reduceMul, Nat.reduceBEq, Int.reduceEq, Int.reduceLT, Int.reduceLE, Int.reduceNeg, Int.reduceToNat, reduceCtorEq, ho, Try.results133, e1, e2]
        by_cases h1 : mnI a.int c.int < split
        · by_cases h2 : split ≤ mxI a.int c.int
          · have hcs : colStep kl kr 73 76 (newEqn split) (Ex.mk 7 int v n [a, c]) o = upd (upd o kr ((o kr).1 + 1, some (true, .row 76 (rowAt kr o ++ [.agg [.int .i64 (mnI a.int c.int), .int .i64 (mxI a.int c.int)]])))) kl ((o kl).1, some (true, .box 73 [.ref kr ((o kr).1 + 1)])) := by simp [colStep, newEqn, Ex.eqn_mk, ha, hc, h1, h2]
            rw [hcs]
            obtain ⟨vr, ⟨rfl, a1, a2⟩ | ⟨h0, a1, a2⟩⟩ := hS
            · have hgb : getBox o kl vl = some (73, [.nil]) := by simp [getBox, a1]
              simp only [go_sem, Nat.reduceEqDiff, Nat.reduceAdd, Nat.reduceSub, Nat.reduceLeDiff, Nat.reduceLT, Nat.reduceMul, Nat.reduceBEq, Int.reduceEq, Int.reduceLT, Int.reduceLE, Int.reduceNeg, Int.reduceToNat, reduceCtorEq, ho, Try.results133, h1, h2, a1, a2, hgb, hgs, f9, eq_self, Nat.add_left_cancel_iff, Nat.left_eq_add, Nat.add_eq_left, f1, f2, f3, f4, f5, f6, f7, f10, hne, beq_add]
              intro k hk
              have g1 : ∀ j, j < 80 → ¬ k = b + j := fun j hj => by omega
              have g2 : ∀ j, j < 80 → (k == b + j) = false := fun j hj => by simpa using g1 j hj
              simp only [go_sem, Nat.reduceEqDiff, Nat.reduceAdd, Nat.reduceSub, Nat.reduceLeDiff, Nat.reduceLT, Nat.reduceMul, Nat.reduceBEq, Int.reduceEq, Int.reduceLT, Int.reduceLE, Int.reduceNeg, Int.reduceToNat, reduceCtorEq, ho, Try.results133, g1, g2, rowAt, a2]
            · have hgb : getBox o kl vl = some (73, [.ref kr vr]) := by simp [getBox, a1]
              simp only [go_sem, Nat.reduceEqDiff, Nat.reduceAdd, Nat.reduceSub, Nat.reduceLeDiff, Nat.reduceLT, Nat.reduceMul, Nat.reduceBEq, Int.reduceEq, Int.reduceLT, Int.reduceLE, Int.reduceNeg, Int.reduceToNat, reduceCtorEq, ho, Try.results133, h1, h2, a1, a2, hgb, hbig, hgs, f9, eq_self, Nat.add_left_cancel_iff, Nat.left_eq_add, Nat.add_eq_left, f1, f2, f3, f4, f5, f6, f7, f10, hne, beq_add]
              intro k hk
              have g1 : ∀ j, j < 80 → ¬ k = b + j := fun j hj => by omega
              have g2 : ∀ j, j < 80 → (k == b + j) = false := fun j hj => by simpa using g1 j hj
              simp only [go_sem, Nat.reduceEqDiff, Nat.reduceAdd, Nat.reduceSub, Nat.reduceLeDiff, Nat.reduceLT, Nat.reduceMul, Nat.reduceBEq, Int.reduceEq, Int.reduceLT, Int.reduceLE, Int.reduceNeg, Int.reduceToNat, reduceCtorEq, ho, Try.results133, g1, g2, rowAt, a2]
          · have hcs := none_ (by simp [Ex.eqn_mk, h2])
            simp only [go_sem, Nat.reduceEqDiff, Nat.reduceAdd, Nat.reduceSub, Nat.reduceLeDiff, Nat.reduceLT, Nat.reduceMul, Nat.reduceBEq, Int.reduceEq, Int.reduceLT, Int.reduceLE, Int.reduceNeg, Int.reduceToNat, reduceCtorEq, ho, Try.results133, h1, h2, hgs, f9, eq_self, Nat.add_left_cancel_iff, Nat.left_eq_add, Nat.add_eq_left, f1, f2, f3, f4, f5, f6, f7, f10, hne, beq_add]
            rw [hcs]
            intro k hk
            have g1 : ∀ j, j < 80 → ¬ k = b + j := fun j hj => by omega
            simp only [go_sem, Nat.reduceEqDiff, Nat.reduceAdd, Nat.reduceSub, Nat.reduceLeDiff, Nat.reduceLT, Nat.reduceMul, Nat.reduceBEq, Int.reduceEq, Int.reduceLT, Int.reduceLE, Int.reduceNeg, Int.reduceToNat, reduceCtorEq, ho, Try.results133, g1]
        · have hcs := none_ (by simp [Ex.eqn_mk, h1])
          simp only [go_sem, Nat.reduceEqDiff, Nat.reduceAdd, Nat.reduceSub, Nat.reduceLeDiff, Nat.reduceLT, Nat.reduceMul, Nat.reduceBEq, Int.reduceEq, Int.reduceLT, Int.reduceLE, Int.reduceNeg, Int.reduceToNat, reduceCtorEq, ho, Try.results133, h1, hgs, f9, eq_self, Nat.add_left_cancel_iff, Nat.left_eq_add, Nat.add_eq_left, f1, f2, f3, f4, f5, f6, f7, f10, hne, beq_add]
          rw [hcs]
          intro k hk
          have g1 : ∀ j, j < 80 → ¬ k = b + j := fun j hj => by omega
          simp only [go_sem, Nat.reduceEqDiff, Nat.reduceAdd, Nat.reduceSub, Nat.reduceLeDiff, Nat.reduceLT, Nat.reduceMul, Nat.reduceBEq, Int.reduceEq, Int.reduceLT, Int.reduceLE, Int.reduceNeg, Int.reduceToNat, reduceCtorEq, ho, Try.results133, g1]
      · have hcs := none_ (by simp [Ex.eqn_mk, hc])
        simp only [go_sem, Nat.reduceEqDiff, Nat.reduceAdd, Nat.reduceSub, Nat.reduceLeDiff, Nat.reduceLT, Nat.reduceMul, Nat.reduceBEq, Int.reduceEq, Int.reduceLT, Int.reduceLE, Int.reduceNeg, Int.reduceToNat, reduceCtorEq, ho, Try.results133, ha, hc, eq_self, Nat.add_left_cancel_iff, Nat.left_eq_add, Nat.add_eq_left, f1, f2, f3, f4, f5, f6, f7, f10, hne, beq_add]
        rw [hcs]
        intro k hk
        have g1 : ∀ j, j < 80 → ¬ k = b + j := fun j hj => by omega
        simp only [go_sem, Nat.reduceEqDiff, Nat.reduceAdd, Nat.reduceSub, Nat.reduceLeDiff, Nat.reduceLT, Nat.reduceMul, Nat.reduceBEq, Int.reduceEq, Int.reduceLT, Int.reduceLE, Int.reduceNeg, Int.reduceToNat, reduceCtorEq, ho, Try.results133, g1]
    · have hcs := none_ (by simp [Ex.eqn_mk, ha])
      simp only [go_sem, Nat.reduceEqDiff, Nat.reduceAdd, Nat.reduceSub, Nat.reduceLeDiff, Nat.reduceLT, Nat.reduceMul, Nat.reduceBEq, Int.reduceEq, Int.reduceLT, Int.reduceLE, Int.reduceNeg, Int.reduceToNat, reduceCtorEq, ho, Try.results133, ha, eq_self, Nat.add_left_cancel_iff, Nat.left_eq_add, Nat.add_eq_left, f1, f2, f3, f4, f5, f6, f7, f10, hne, beq_add]
      rw [hcs]
      intro k hk
      have g1 : ∀ j, j < 80 → ¬ k = b + j := fun j hj => by omega
      simp only [go_sem, Nat.reduceEqDiff, Nat.reduceAdd, Nat.reduceSub, Nat.reduceLeDiff, Nat.reduceLT, Nat.reduceMul, Nat.reduceBEq, Int.reduceEq, Int.reduceLT, Int.reduceLE, Int.reduceNeg, Int.reduceToNat, reduceCtorEq, ho, Try.results133, g1]
  · have hn : x.eqn split = none := by
      unfold Ex.eqn
      split
      · rename_i a c hac
        rw [if_neg]
        rintro ⟨h1, _⟩
        exact hx ⟨h1, by rw [hac]; rfl⟩
      · rfl
    have hcs := none_ hn
    rw [hcs]
    simp only [go_sem, Nat.reduceEqDiff, Nat.reduceAdd, Nat.reduceSub, Nat.reduceLeDiff, Nat.reduceLT, Nat.reduceMul, Nat.reduceBEq, Int.reduceEq, Int.reduceLT, Int.reduceLE, Int.reduceNeg, Int.reduceToNat, reduceCtorEq, ho, Try.results133, x.enc_eq, List.length_map, eq_self, Nat.add_left_cancel_iff, Nat.left_eq_add, Nat.add_eq_left, f1, f2, f3, f4, f5, f6, f7, f10, hne, beq_add]
    by_cases h7 : x.op = 7
    · have h2 : ¬ (x.args.length : Int) = 2 := fun h => hx ⟨h7, by omega⟩
      simp only [go_sem, Nat.reduceEqDiff, Nat.reduceAdd, Nat.reduceSub, Nat.reduceLeDiff, Nat.reduceLT, Nat.reduceMul, Nat.reduceBEq, Int.reduceEq, Int.reduceLT, Int.reduceLE, Int.reduceNeg, Int.reduceToNat, reduceCtorEq, ho, Try.results133, h7, h2, List.length_map, eq_self, Nat.add_left_cancel_iff, Nat.left_eq_add, Nat.add_eq_left, f1, f2, f3, f4, f5, f6, f7, f10, hne, beq_add]
      intro k hk
      have g1 : ∀ j, j < 80 → ¬ k = b + j := fun j hj => by omega
      simp only [go_sem, Nat.reduceEqDiff, Nat.reduceAdd, Nat.reduceSub, Nat.reduceLeDiff, Nat.reduceLT, Nat.reduceMul, Nat.reduceBEq, Int.reduceEq, Int.reduceLT, Int.reduceLE, Int.reduceNeg, Int.reduceToNat, reduceCtorEq, ho, Try.results133, g1]
    · simp only [go_sem, Nat.reduceEqDiff, Nat.reduceAdd, Nat.reduceSub, Nat.reduceLeDiff, Nat.reduceLT, Nat.reduceMul, Nat.reduceBEq, Int.reduceEq, Int.reduceLT, Int.reduceLE, Int.reduceNeg, Int.reduceToNat, reduceCtorEq, ho, Try.results133, h7, eq_self, Nat.add_left_cancel_iff, Nat.left_eq_add, Nat.add_eq_left, f1, f2, f3, f4, f5, f6, f7, f10, hne, beq_add]
      intro k hk
      have g1 : ∀ j, j < 80 → ¬ k = b + j := fun j hj => by omega
      simp only [go_sem, Nat.reduceEqDiff, Nat.reduceAdd, Nat.reduceSub, Nat.reduceLeDiff, Nat.reduceLT, Nat.reduceMul, Nat.reduceBEq, Int.reduceEq, Int.reduceLT, Int.reduceLE, Int.reduceNeg, Int.reduceToNat, reduceCtorEq, ho, Try.results133, g1]
theorem foldl_flat {α : Type} (f : Ex → List α) : ∀ (l : List Ex) (s : List α), l.foldl (fun s x => s ++ f x) s = s ++ l.flatMap f
  | [], s => by simp
  | x :: l, s => by rw [List.foldl_cons, foldl_flat f l, List.flatMap_cons, List.append_assoc]
theorem newConj_len (x : Ex) : (newConj x).length ≤ 1 := by simp [newConj]
theorem newCd_len (x : Ex) : (newCd x).length ≤ 1 := by unfold newCd; split <;> simp
theorem newEqn_len (s : Int) (x : Ex) : (newEqn s x).length ≤ 1 := by unfold newEqn; split <;> simp
/-- A call of 'each' with a gathering function value. -/
theorem Clo.gather {c : FuncId} {caps : List PV} {own : Nat → Prop} {b0 kl kr vl : Nat} {T t : TypeId} {new : Ex → List PV} {N : Nat} {X : Objs → Prop} (C : Clo c caps own b0 (colStep kl kr T t new) (fun l x => l ++ new x) (fun l o => ColS kl kr vl T t l o ∧ X o) List.length N) (e : Ex) (hN : e.size ≤ N) (h8 : e.size ≤ 10000000) (hb : b0 ≤ 1000) (o : Objs) (kd : Option Nat) (hS : ColS kl kr vl T t [] o) (hX : X o) (ho : ∀ k, b0 ≤ k → k < 1000000000 → (o k).2 = none) :
    ∃ ob, CallRun P0 129 [e.enc, .fn c [] caps] kd o (.tup []) ob ∧ ColS kl kr vl T t (e.conj.flatMap new) ob := by
  refine ⟨_, C.each e.size e (Nat.le_refl _) hN [] o b0 kd (Nat.le_refl _) (by omega) ⟨hS, hX⟩ (by simp; omega) ho, ?_⟩
  have := (C.stepsS e.conj [] o ⟨hS, hX⟩).1
  rw [foldl_flat, List.nil_append] at this
  exact this
theorem ok58 : okCode M0 Try.f58.ntmps (Try.f58.body.getD .skip) = true := by decide +kernel
theorem conjuncts_fn (e : Ex) (h : e.size ≤ 10000000) : Fc 58 [e.enc] (.sl (e.conj.flatMap newConj)) := by
  refine fn_of_awp (E := E0) (M := M0) follows Try.func58 rfl (by decide) ok58 (by decide) (by simp) fun o ho => ?_
  simp only [go_sem, Nat.reduceEqDiff, Nat.reduceAdd, Nat.reduceSub, Nat.reduceLeDiff, Nat.reduceLT, Nat.reduceMul, Nat.reduceBEq, Int.reduceEq, Int.reduceLT, Int.reduceLE, Int.reduceNeg, Int.reduceToNat, reduceCtorEq, ho, Try.results58, e.enc_eq]
  refine GCall.turnE (args' := [e.enc, .fn 134 [] [.ptr 3 1 0]]) (by rw [e.enc_eq]) (Clo.gather (col_clo (kl := 3) (kr := 8) (vl := 1) (b0 := 9) (N := 100000000) (xk := fun _ => False) (X := fun _ => True) (by decide) (by decide) (by decide) newConj_len (fun _ h => h.elim) (fun _ _ _ _ => trivial) (fun _ _ _ _ _ _ h => h.elim) fun l o x b kd h1 h2 h3 _ h4 h5 h6 => conjClo_run 3 8 1 9 (by decide) (by decide) (by decide) l o x b kd h1 h2 h3 h4 h5 h6) e (by omega) h (by decide) _ _ ⟨0, .inl ⟨rfl, by simp only [go_sem, Nat.reduceEqDiff, Nat.reduceAdd, Nat.reduceSub, Nat.reduceLeDiff, Nat.reduceLT, Nat.reduceMul, Nat.reduceBEq, Int.reduceEq, Int.reduceLT, Int.reduceLE, Int.reduceNeg, Int.reduceToNat, reduceCtorEq, ho, Try.results58], by simp only [go_sem, Nat.reduceEqDiff, Nat.reduceAdd, Nat.reduceSub, Nat.reduceLeDiff, Nat.reduceLT, Nat.reduceMul, Nat.reduceBEq, Int.reduceEq, Int.reduceLT, Int.reduceLE, Int.reduceNeg, Int.reduceToNat, reduceCtorEq, ho, Try.results58]⟩⟩ trivial fun k h1 h2 => ?_) ?_
  · have g : ∀ j, j < 9 → ¬ k = j := fun j hj => by omega
    simp only [go_sem, Nat.reduceEqDiff, Nat.reduceAdd, Nat.reduceSub, Nat.reduceLeDiff, Nat.reduceLT, Nat.reduceMul, Nat.reduceBEq, Int.reduceEq, Int.reduceLT, Int.reduceLE, Int.reduceNeg, Int.reduceToNat, reduceCtorEq, ho, Try.results58, g, h2]
  rintro ob ⟨vr, ⟨h0, a1, a2⟩ | ⟨h0, a1, a2⟩⟩
  · have hgb : getBox ob 3 1 = some (25, [.nil]) := by simp [getBox, a1]
    simp only [go_sem, Nat.reduceEqDiff, Nat.reduceAdd, Nat.reduceSub, Nat.reduceLeDiff, Nat.reduceLT, Nat.reduceMul, Nat.reduceBEq, Int.reduceEq, Int.reduceLT, Int.reduceLE, Int.reduceNeg, Int.reduceToNat, reduceCtorEq, ho, Try.results58, hgb, h0]
  · have hgb : getBox ob 3 1 = some (25, [.ref 8 vr]) := by simp [getBox, a1]
    have hgr : getRow ob 8 vr = some (49, e.conj.flatMap newConj) := by simp [getRow, a2]
    simp only [go_sem, Nat.reduceEqDiff, Nat.reduceAdd, Nat.reduceSub, Nat.reduceLeDiff, Nat.reduceLT, Nat.reduceMul, Nat.reduceBEq, Int.reduceEq, Int.reduceLT, Int.reduceLE, Int.reduceNeg, Int.reduceToNat, reduceCtorEq, ho, Try.results58, hgb, hgr]
theorem ok53 : okCode M0 Try.f53.ntmps (Try.f53.body.getD .skip) = true := by decide +kernel
theorem conditions_fn (e : Ex) (h : e.size ≤ 10000000) : Fc 53 [e.enc] (.sl (e.conj.flatMap newCd)) := by
  refine fn_of_awp (E := E0) (M := M0) follows Try.func53 rfl (by decide) ok53 (by decide) (by simp) fun o ho => ?_
  simp only [go_sem, Nat.reduceEqDiff, Nat.reduceAdd, Nat.reduceSub, Nat.reduceLeDiff, Nat.reduceLT, Nat.reduceMul, Nat.reduceBEq, Int.reduceEq, Int.reduceLT, Int.reduceLE, Int.reduceNeg, Int.reduceToNat, reduceCtorEq, ho, Try.results53, e.enc_eq]
  refine GCall.turnE (args' := [e.enc, .fn 130 [] [.ptr 3 1 0]]) (by rw [e.enc_eq]) (Clo.gather (col_clo (kl := 3) (kr := 8) (vl := 1) (b0 := 9) (N := 100000000) (xk := fun _ => False) (X := fun _ => True) (by decide) (by decide) (by decide) newCd_len (fun _ h => h.elim) (fun _ _ _ _ => trivial) (fun _ _ _ _ _ _ h => h.elim) fun l o x b kd h1 h2 h3 _ h4 h5 h6 => condClo_run 3 8 1 9 (by decide) (by decide) (by decide) l o x b kd h1 h2 h3 h4 h6) e (by omega) h (by decide) _ _ ⟨0, .inl ⟨rfl, by simp only [go_sem, Nat.reduceEqDiff, Nat.reduceAdd, Nat.reduceSub, Nat.reduceLeDiff, Nat.reduceLT, Nat.reduceMul, Nat.reduceBEq, Int.reduceEq, Int.reduceLT, Int.reduceLE, Int.reduceNeg, Int.reduceToNat, reduceCtorEq, ho, Try.results53], by simp only [go_sem, Nat.reduceEqDiff, Nat.reduceAdd, Nat.reduceSub, Nat.reduceLeDiff, Nat.reduceLT, Nat.reduceMul, Nat.reduceBEq, Int.reduceEq, Int.reduceLT, Int.reduceLE, Int.reduceNeg, Int.reduceToNat, reduceCtorEq, ho, Try.results53]⟩⟩ trivial fun k h1 h2 => ?_) ?_
  · have g : ∀ j, j < 9 → ¬ k = j := fun j hj => by omega
    simp only [go_sem, Nat.reduceEqDiff, Nat.reduceAdd, Nat.reduceSub, Nat.reduceLeDiff, Nat.reduceLT, Nat.reduceMul, Nat.reduceBEq, Int.reduceEq, Int.reduceLT, Int.reduceLE, Int.reduceNeg, Int.reduceToNat, reduceCtorEq, ho, Try.results53, g, h2]
  rintro ob ⟨vr, ⟨h0, a1, a2⟩ | ⟨h0, a1, a2⟩⟩
  · have hgb : getBox ob 3 1 = some (69, [.nil]) := by simp [getBox, a1]
    simp only [go_sem, Nat.reduceEqDiff, Nat.reduceAdd, Nat.reduceSub, Nat.reduceLeDiff, Nat.reduceLT, Nat.reduceMul, Nat.reduceBEq, Int.reduceEq, Int.reduceLT, Int.reduceLE, Int.reduceNeg, Int.reduceToNat, reduceCtorEq, ho, Try.results53, hgb, h0]
  · have hgb : getBox ob 3 1 = some (69, [.ref 8 vr]) := by simp [getBox, a1]
    have hgr : getRow ob 8 vr = some (72, e.conj.flatMap newCd) := by simp [getRow, a2]
    simp only [go_sem, Nat.reduceEqDiff, Nat.reduceAdd, Nat.reduceSub, Nat.reduceLeDiff, Nat.reduceLT, Nat.reduceMul, Nat.reduceBEq, Int.reduceEq, Int.reduceLT, Int.reduceLE, Int.reduceNeg, Int.reduceToNat, reduceCtorEq, ho, Try.results53, hgb, hgr]
theorem ok55 : okCode M0 Try.f55.ntmps (Try.f55.body.getD .skip) = true := by decide +kernel
theorem equations_fn (e : Ex) (split : Int) (h : e.size ≤ 10000000) : Fc 55 [e.enc, .int .i64 split] (.sl (e.conj.flatMap (newEqn split))) := by
  refine fn_of_awp (E := E0) (M := M0) follows Try.func55 rfl (by decide) ok55 (by decide) (by simp) fun o ho => ?_
  simp only [go_sem, Nat.reduceEqDiff, Nat.reduceAdd, Nat.reduceSub, Nat.reduceLeDiff, Nat.reduceLT, Nat.reduceMul, Nat.reduceBEq, Int.reduceEq, Int.reduceLT, Int.reduceLE, Int.reduceNeg, Int.reduceToNat, reduceCtorEq, ho, Try.results55, e.enc_eq]
  refine GCall.turnE (args' := [e.enc, .fn 133 [] [.ptr 3 1 0, .ptr 5 1 0]]) (by rw [e.enc_eq]) (Clo.gather (col_clo (kl := 5) (kr := 10) (vl := 1) (b0 := 11) (N := 100000000) (xk := fun k => k = 3) (X := fun o => ∃ bb, o 3 = (1, some (bb, .box 3 [.int .i64 split]))) (by decide) (by decide) (by decide) (newEqn_len split) (fun k h => by subst h; decide) (fun o o' h hx => by rw [← h 3 rfl]; exact hx) (fun o k ver b y hx hk ho => by subst hk; obtain ⟨bb, hx⟩ := hx; rw [hx] at ho; simp only [Prod.mk.injEq, Option.some.injEq] at ho; obtain ⟨_, _, rfl⟩ := ho; intro z hz k' v hh; simp only [List.mem_singleton] at hz; subst hz; cases hh) fun l o x b kd h1 h2 h3 hx h4 h5 h6 => eqnClo_run split 3 1 5 10 1 11 (by decide) (by decide) (by decide) (by decide) l o x b kd h1 h2 h3 hx h4 h6) e (by omega) h (by decide) _ _ ⟨0, .inl ⟨rfl, by simp only [go_sem, Nat.reduceEqDiff, Nat.reduceAdd, Nat.reduceSub, Nat.reduceLeDiff, Nat.reduceLT, Nat.reduceMul, Nat.reduceBEq, Int.reduceEq, Int.reduceLT, Int.reduceLE, Int.reduceNeg, Int.reduceToNat, reduceCtorEq, ho, Try.results55], by simp only [go_sem, Nat.reduceEqDiff, Nat.reduceAdd, Nat.reduceSub, Nat.reduceLeDiff, Nat.reduceLT, Nat.reduceMul, Nat.reduceBEq, Int.reduceEq, Int.reduceLT, Int.reduceLE, Int.reduceNeg, Int.reduceToNat, reduceCtorEq, ho, Try.results55]⟩⟩ ⟨true, by simp only [go_sem, Nat.reduceEqDiff, Nat.reduceAdd, Nat.reduceSub, Nat.reduceLeDiff, Nat.reduceLT, Nat.reduceMul, Nat.reduceBEq, Int.reduceEq, Int.reduceLT, Int.reduceLE, Int.reduceNeg, Int.reduceToNat, reduceCtorEq, ho, Try.results55]⟩ fun k h1 h2 => ?_) ?_
  · have g : ∀ j, j < 11 → ¬ k = j := fun j hj => by omega
    simp only [go_sem, Nat.reduceEqDiff, Nat.reduceAdd, Nat.reduceSub, Nat.reduceLeDiff, Nat.reduceLT, Nat.reduceMul, Nat.reduceBEq, Int.reduceEq, Int.reduceLT, Int.reduceLE, Int.reduceNeg, Int.reduceToNat, reduceCtorEq, ho, Try.results55, g, h2]
  rintro ob ⟨vr, ⟨h0, a1, a2⟩ | ⟨h0, a1, a2⟩⟩
  · have hgb : getBox ob 5 1 = some (73, [.nil]) := by simp [getBox, a1]
    simp only [go_sem, Nat.reduceEqDiff, Nat.reduceAdd, Nat.reduceSub, Nat.reduceLeDiff, Nat.reduceLT, Nat.reduceMul, Nat.reduceBEq, Int.reduceEq, Int.reduceLT, Int.reduceLE, Int.reduceNeg, Int.reduceToNat, reduceCtorEq, ho, Try.results55, hgb, h0]
  · have hgb : getBox ob 5 1 = some (73, [.ref 10 vr]) := by simp [getBox, a1]
    have hgr : getRow ob 10 vr = some (76, e.conj.flatMap (newEqn split)) := by simp [getRow, a2]
    simp only [go_sem, Nat.reduceEqDiff, Nat.reduceAdd, Nat.reduceSub, Nat.reduceLeDiff, Nat.reduceLT, Nat.reduceMul, Nat.reduceBEq, Int.reduceEq, Int.reduceLT, Int.reduceLE, Int.reduceNeg, Int.reduceToNat, reduceCtorEq, ho, Try.results55, hgb, hgr]
end Go.Proofs.Ytiefnninebilbaa
/- The value of an expression, as plain Lean; no condition. -/
set_option maxRecDepth 100000
set_option linter.unusedVariables false
set_option linter.unusedSimpArgs false
namespace Go.Proofs.Ytiefnninebilbaa
open Go Go.Sx

def cmpI (a b : Int) : Int := if a < b then -1 else if b < a then 1 else 0
def cmpB (a b : ByteArray) : Int := Lib.compareBytes a.data.toList b.data.toList
def Vl.cmp (a b : Vl) : Int := if cmpI a.kind b.kind ≠ 0 then cmpI a.kind b.kind else if cmpI a.int b.int ≠ 0 then cmpI a.int b.int else cmpB a.text b.text
def Vl.dec (a b : Vl) (is : Bool) : Int := if a.kind = 0 ∨ a.kind ≠ b.kind then 1 else if is then 2 else 0
def Vl.eql (a b : Vl) : Int := Vl.dec a b (decide (a.cmp b = 0))
def Vl.less (a b : Vl) : Int := Vl.dec a b (decide (a.cmp b < 0))
def tand (a b : Int) : Int := least [a, b] 2
def tor (a b : Int) : Int := tnot (least [tnot a, tnot b] 2)
def Vl.compared (op : Int) (a b : Vl) : Int :=
  if op = 7 then a.eql b else if op = 8 then tnot (a.eql b) else if op = 9 then a.less b else if op = 11 then b.less a else if op = 10 then tnot (b.less a) else tnot (a.less b)
def Vl.at (row : List Vl) (i : Int) : Vl := if i < 0 ∨ (row.length : Int) ≤ i then Vl.null else row[i.toNat]?.getD Vl.null
def column (row : List Vl) (i : Int) : Vl := (Vl.at row i).orNull
def nth (l : List Vl) (i : Nat) : Vl := l[i]?.getD Vl.null
def logicV (op : Int) (l : List Vl) : Vl :=
  if op = 4 then Vl.of (tnot (nth l 0).truth)
  else if op = 5 then Vl.of ((l.drop 1).foldl (fun t v => tand t v.truth) (nth l 0).truth)
  else Vl.of ((l.drop 1).foldl (fun t v => tor t v.truth) (nth l 0).truth)
def allK (k : Int) (l : List Vl) : Bool := l.all fun v => decide (v.kind = k)
def sizeV (l : List Vl) : Nat := l.foldl (fun n v => n + v.text.size) 0
def catV (l : List Vl) : ByteArray := l.foldl (fun s v => s ++ v.text) emp
def textV (op : Int) (l : List Vl) : Vl := if allK 2 l then (if op = 20 then Vl.num (sizeV l) else Vl.txt (catV l)) else Vl.null
def absI (a : Int) : Int := if a < IntKind.i64.wrap (0 - a) then IntKind.i64.wrap (0 - a) else a
def product (a b : Int) : Vl := if a ≠ 0 ∧ IntKind.i64.wrap (Int.tdiv 1125899906842624 (absI a)) < absI b then Vl.null else Vl.num (IntKind.i64.wrap (a * b))
def computed (op a b : Int) : Vl :=
  if op = 13 then Vl.num (IntKind.i64.wrap (a + b)) else if op = 14 then Vl.num (IntKind.i64.wrap (a - b)) else if op = 15 then product a b
  else if op = 18 then Vl.num (IntKind.i64.wrap (0 - a)) else if b = 0 then Vl.null
  else if op = 16 then Vl.num (IntKind.i64.wrap (a.tdiv b)) else Vl.num (a.tmod b)
def arith (op : Int) (l : List Vl) : Vl := if allK 1 l then computed op (nth l 0).int (nth l (l.length - 1)).int else Vl.null
structure Pd where
  f : Int
  t : Int
def Pd.enc (p : Pd) : PV := .agg [.int .i64 p.f, .int .i64 p.t]
def Pd.valid (p : Pd) : Bool := decide (0 ≤ p.f) && (decide (p.f < p.t) && decide (p.t ≤ 1099511627776))
def Pd.rel (p q : Pd) : Int × Bool :=
  if p.valid = false ∨ q.valid = false then (0, false)
  else if p.t < q.f then (0, true) else if p.t = q.f then (1, true) else if q.t < p.f then (12, true) else if q.t = p.f then (11, true)
  else if p.f = q.f ∧ p.t = q.t then (6, true) else if p.f = q.f ∧ p.t < q.t then (3, true) else if p.f = q.f then (9, true)
  else if p.t = q.t ∧ q.f < p.f then (5, true) else if p.t = q.t then (7, true) else if p.f < q.f ∧ q.t < p.t then (8, true)
  else if q.f < p.f ∧ p.t < q.t then (4, true) else if p.f < q.f then (2, true) else (10, true)
def related (rel : Int) (l : List Vl) : Vl :=
  if (nth l 0).kind = 1 ∧ (nth l 1).kind = 1 ∧ (nth l 2).kind = 1 ∧ (nth l 3).kind = 1 ∧ (Pd.rel ⟨(nth l 0).int, (nth l 1).int⟩ ⟨(nth l 2).int, (nth l 3).int⟩).2 = true
  then Vl.bool (decide ((Pd.rel ⟨(nth l 0).int, (nth l 1).int⟩ ⟨(nth l 2).int, (nth l 3).int⟩).1 = rel)) else Vl.null
def firstV : List Vl → Vl
  | [] => Vl.null
  | v :: l => if v.kind ≠ 0 then v else firstV l
def evalOp (row : List Vl) (op int : Int) (v : Vl) (l : List Vl) : Vl :=
  if op = 1 then v else if op = 2 then column row int
  else if op = 22 then (if (nth l 0).truth = 2 then nth l 1 else nth l 2)
  else if op = 4 ∨ op = 5 ∨ op = 6 then logicV op l
  else if op = 21 then Vl.bool (decide ((nth l 0).kind = 0))
  else if op = 23 then firstV l
  else if op = 24 then related int l
  else if op = 19 ∨ op = 20 then textV op l
  else if op = 13 ∨ op = 14 ∨ op = 15 ∨ op = 16 ∨ op = 17 ∨ op = 18 then arith op l
  else Vl.of (Vl.compared op (nth l 0) (nth l 1))
mutual
def Ex.eval (row : List Vl) : Ex → Vl
  | .mk op int v name args => if (Ex.mk op int v name args).formed then evalOp row op int v (Ex.evals row args) else Vl.null
def Ex.evals (row : List Vl) : List Ex → List Vl
  | [] => []
  | e :: l => e.eval row :: Ex.evals row l
end
theorem Ex.evals_map (row : List Vl) : ∀ l, Ex.evals row l = l.map (Ex.eval row)
  | [] => rfl
  | e :: l => by rw [Ex.evals, Ex.evals_map row l]; rfl
theorem Ex.eval_eq (row : List Vl) (e : Ex) : e.eval row = if e.formed then evalOp row e.op e.int e.val (e.args.map (Ex.eval row)) else Vl.null := by
  cases e; rw [Ex.eval, Ex.evals_map]; rfl
theorem null_valid : Vl.null.valid = true := by decide
theorem bool_valid (b : Bool) : (Vl.bool b).valid = true := by cases b <;> decide
theorem orNull_valid (v : Vl) : v.orNull.valid = true := by
  unfold Vl.orNull
  split
  · assumption
  · exact null_valid
theorem of_valid (t : Int) : (Vl.of t).valid = true := by
  unfold Vl.of
  split
  · exact null_valid
  · exact bool_valid _
theorem num_valid (n : Int) : (Vl.num n).valid = true := orNull_valid _
theorem txt_valid (s : ByteArray) : (Vl.txt s).valid = true := orNull_valid _
theorem nth_valid {l : List Vl} (h : ∀ v ∈ l, v.valid = true) (i : Nat) : (nth l i).valid = true := by
  unfold nth
  cases hi : l[i]? with
  | none => exact null_valid
  | some v => exact h v (List.mem_of_getElem? hi)
theorem computed_valid (op a b : Int) : (computed op a b).valid = true := by
  unfold computed product
  repeat' split
  all_goals (first | exact null_valid | exact num_valid _)
theorem firstV_valid : ∀ {l : List Vl}, (∀ v ∈ l, v.valid = true) → (firstV l).valid = true
  | [], _ => null_valid
  | v :: l, h => by
    unfold firstV
    split
    · exact h v (by simp)
    · exact firstV_valid fun x hx => h x (by simp [hx])
theorem evalOp_valid {row : List Vl} {op int : Int} {v : Vl} {l : List Vl} (hv : op = 1 → v.valid = true) (h : ∀ v ∈ l, v.valid = true) : (evalOp row op int v l).valid = true := by
  unfold evalOp
  split
  · exact hv ‹_›
  split
  · exact orNull_valid _
  split
  · split <;> exact nth_valid h _
  split
  · unfold logicV; (repeat' split) <;> exact of_valid _
  split
  · exact bool_valid _
  split
  · exact firstV_valid h
  split
  · unfold related; split
    · exact bool_valid _
    · exact null_valid
  split
  · unfold textV; (repeat' split) <;> first | exact null_valid | exact num_valid _ | exact txt_valid _
  split
  · unfold arith; split
    · exact computed_valid _ _ _
    · exact null_valid
  · exact of_valid _
theorem formed_val {e : Ex} (h : e.formed = true) (h1 : e.op = 1) : e.val.valid = true := by
  unfold Ex.formed at h
  simp only [h1, if_true, Bool.and_eq_true] at h
  exact h.2.2.2
theorem Ex.eval_valid (row : List Vl) (e : Ex) : (e.eval row).valid = true := by
  induction e using Ex.ind with
  | h e ih =>
    rw [Ex.eval_eq]
    split
    · rename_i hf
      refine evalOp_valid (formed_val hf) fun v hv => ?_
      obtain ⟨x, hx, rfl⟩ := List.mem_map.1 hv
      exact ih x hx
    · exact null_valid
end Go.Proofs.Ytiefnninebilbaa
/- What the comparison of values and the logic of truth values return; no condition. -/
set_option maxRecDepth 100000
set_option linter.unusedVariables false
set_option linter.unusedSimpArgs false
namespace Go.Proofs.Ytiefnninebilbaa
open Go Go.Sx

theorem ok218 : okCode M0 Try.f218.ntmps (Try.f218.body.getD .skip) = true := by decide +kernel
theorem isNaN_fn (a : Int) : Fc 218 [.int .i64 a] (.bool false) := by
  refine fn_of_awp (E := E0) (M := M0) follows Try.func218 rfl (by decide) ok218 (by decide) (by simp) fun o ho => ?_
  simp only [go_sem, Nat.reduceEqDiff, Nat.reduceAdd, Nat.reduceSub, Nat.reduceLeDiff, Nat.reduceLT, Nat.reduceMul, Nat.reduceBEq, Int.reduceEq, Int.reduceLT, Int.reduceLE, Int.reduceNeg, Int.reduceToNat, reduceCtorEq, ho, Try.results218]
theorem ok209 : okCode M0 Try.f209.ntmps (Try.f209.body.getD .skip) = true := by decide +kernel
theorem cmpI_fn (a b : Int) : Fc 209 [.int .i64 a, .int .i64 b] (.int .i64 (cmpI a b)) := by
  refine fn_of_awp (E := E0) (M := M0) follows Try.func209 rfl (by decide) ok209 (by decide) (by simp) fun o ho => ?_
  simp only [go_sem, Nat.reduceEqDiff, Nat.reduceAdd, Nat.reduceSub, Nat.reduceLeDiff, Nat.reduceLT, Nat.reduceMul, Nat.reduceBEq, Int.reduceEq, Int.reduceLT, Int.reduceLE, Int.reduceNeg, Int.reduceToNat, reduceCtorEq, ho, Try.results209]
  refine GCall.fr ?_ (isNaN_fn a) (.inl rfl) ?_; (focus (first | rfl | ((simp only [go_sem, Nat.reduceEqDiff, Nat.reduceAdd, Nat.reduceSub, Nat.reduceLeDiff, Nat.reduceLT, Nat.reduceMul, Nat.reduceBEq, Int.reduceEq, Int.reduceLT, Int.reduceLE, Int.reduceNeg, Int.reduceToNat, reduceCtorEq, ho, Try.results209]); done) | ((simp only [go_sem, Nat.reduceEqDiff, Nat.reduceAdd, Nat.reduceSub, Nat.reduceLeDiff, Nat.reduceLT, Nat.reduceMul, Nat.reduceBEq, Int.reduceEq, Int.reduceLT, Int.reduceLE, Int.reduceNeg, Int.reduceToNat, reduceCtorEq, ho, Try.results209]); rfl)))
  simp only [go_sem, Nat.reduceEqDiff, Nat.reduceAdd, Nat.reduceSub, Nat.reduceLeDiff, Nat.reduceLT, Nat.reduceMul, Nat.reduceBEq, Int.reduceEq, Int.reduceLT, Int.reduceLE, Int.reduceNeg, Int.reduceToNat, reduceCtorEq, ho, Try.results209]
  refine GCall.fr ?_ (isNaN_fn b) (.inl rfl) ?_; (focus (first | rfl | ((simp only [go_sem, Nat.reduceEqDiff, Nat.reduceAdd, Nat.reduceSub, Nat.reduceLeDiff, Nat.reduceLT, Nat.reduceMul, Nat.reduceBEq, Int.reduceEq, Int.reduceLT, Int.reduceLE, Int.reduceNeg, Int.reduceToNat, reduceCtorEq, ho, Try.results209]); done) | ((simp only [go_sem, Nat.reduceEqDiff, Nat.reduceAdd, Nat.reduceSub, Nat.reduceLeDiff, Nat.reduceLT, Nat.reduceMul, Nat.reduceBEq, Int.reduceEq, Int.reduceLT, Int.reduceLE, Int.reduceNeg, Int.reduceToNat, reduceCtorEq, ho, Try.results209]); rfl)))
  simp only [go_sem, Nat.reduceEqDiff, Nat.reduceAdd, Nat.reduceSub, Nat.reduceLeDiff, Nat.reduceLT, Nat.reduceMul, Nat.reduceBEq, Int.reduceEq, Int.reduceLT, Int.reduceLE, Int.reduceNeg, Int.reduceToNat, reduceCtorEq, ho, Try.results209]
  repeat' (first | (refine AIf_cases (fun h => ?_) (fun h => ?_) <;> (try simp only [decide_eq_true_eq, decide_eq_false_iff_not, Bool.not_eq_true', Bool.not_eq_false', Bool.not_eq_true, Bool.not_eq_false] at h) <;> (try simp only [go_sem, Nat.reduceEqDiff, Nat.reduceAdd, Nat.reduceSub, Nat.reduceLeDiff, Nat.reduceLT, Nat.reduceMul, Nat.reduceBEq, Int.reduceEq, Int.reduceLT, Int.reduceLE, Int.reduceNeg, Int.reduceToNat, reduceCtorEq, ho, Try.results209, h])))
  all_goals (first | (simp_all [cmpI]; done) | (simp_all [cmpI]; omega) | (simp_all [cmpI]; intros; omega) | (simp_all [cmpI]; (repeat' split) <;> (first | (simp_all; done) | (simp_all; omega) | omega)))
def orI : List Int → Int
  | [] => 0
  | x :: l => if x ≠ 0 then x else orI l
theorem ok208 : okCode M0 Try.f208.ntmps (Try.f208.body.getD .skip) = true := by decide +kernel
theorem orI_fn (l : List Int) (hl : l.length ≤ 1000000000) : Fc 208 [.sl (l.map (.int .i64))] (.int .i64 (orI l)) := by
  refine fn_of_awp (E := E0) (M := M0) follows Try.func208 rfl (by decide) ok208 (by decide) (by simp) fun o ho => ?_
  simp only [go_sem, Nat.reduceEqDiff, Nat.reduceAdd, Nat.reduceSub, Nat.reduceLeDiff, Nat.reduceLT, Nat.reduceMul, Nat.reduceBEq, Int.reduceEq, Int.reduceLT, Int.reduceLE, Int.reduceNeg, Int.reduceToNat, reduceCtorEq, ho, Try.results208]
  refine ⟨fun n st => ∃ (i : Nat) (rest : List Int), l.drop i = rest ∧ i + rest.length = l.length ∧ rest.length = n ∧ orI rest = orI l ∧ st.s 8 = .int .i64 i ∧ st.s 7 = .int .i64 l.length ∧ st.s 6 = .sl (l.map (.int .i64)) ∧ st.s 3 = .int .i64 0, l.length, ⟨0, l, rfl, by simp, rfl, rfl, by simp only [go_sem, Nat.reduceEqDiff, Nat.reduceAdd, Nat.reduceSub, Nat.reduceLeDiff, Nat.reduceLT, Nat.reduceMul, Nat.reduceBEq, Int.reduceEq, Int.reduceLT, Int.reduceLE, Int.reduceNeg, Int.reduceToNat, reduceCtorEq, ho, Try.results208]; rfl, by simp only [go_sem, Nat.reduceEqDiff, Nat.reduceAdd, Nat.reduceSub, Nat.reduceLeDiff, Nat.reduceLT, Nat.reduceMul, Nat.reduceBEq, Int.reduceEq, Int.reduceLT, Int.reduceLE, Int.reduceNeg, Int.reduceToNat, reduceCtorEq, ho, Try.results208], by simp only [go_sem, Nat.reduceEqDiff, Nat.reduceAdd, Nat.reduceSub, Nat.reduceLeDiff, Nat.reduceLT, Nat.reduceMul, Nat.reduceBEq, Int.reduceEq, Int.reduceLT, Int.reduceLE, Int.reduceNeg, Int.reduceToNat, reduceCtorEq, ho, Try.results208], by simp only [go_sem, Nat.reduceEqDiff, Nat.reduceAdd, Nat.reduceSub, Nat.reduceLeDiff, Nat.reduceLT, Nat.reduceMul, Nat.reduceBEq, Int.reduceEq, Int.reduceLT, Int.reduceLE, Int.reduceNeg, Int.reduceToNat, reduceCtorEq, ho, Try.results208]⟩, ?_⟩
  rintro n st ⟨i, rest, hr, hi, hn, ht, h8, h7, h6, h3⟩
  have hw : IntKind.i64.wrap ((i : Int) + 1) = (i : Int) + 1 := wrap_fits (by omega) (by omega)
  cases rest with
  | nil =>
    have hlt : ¬ (i : Int) < (l.length : Int) := by simp at hi; omega
    simp only [go_sem, Nat.reduceEqDiff, Nat.reduceAdd, Nat.reduceSub, Nat.reduceLeDiff, Nat.reduceLT, Nat.reduceMul, Nat.reduceBEq, Int.reduceEq, Int.reduceLT, Int.reduceLE, Int.reduceNeg, Int.reduceToNat, reduceCtorEq, ho, Try.results208, h8, h7, hlt, h3]
    rw [← ht]; rfl
  | cons x rest =>
    have hlt : (i : Int) < (l.length : Int) := by simp at hi; omega
    have hget : (l.map (PV.int .i64))[i]? = some (.int .i64 x) := by
      have : l[i]? = some x := by rw [← List.head?_drop, hr]; rfl
      rw [List.getElem?_map, this]; rfl
    simp only [go_sem, Nat.reduceEqDiff, Nat.reduceAdd, Nat.reduceSub, Nat.reduceLeDiff, Nat.reduceLT, Nat.reduceMul, Nat.reduceBEq, Int.reduceEq, Int.reduceLT, Int.reduceLE, Int.reduceNeg, Int.reduceToNat, reduceCtorEq, ho, Try.results208, h8, h7, h6, h3, hlt, hget, Int.natCast_nonneg, Int.toNat_natCast]
    rw [orI] at ht
    by_cases hx : x = 0
    · rw [if_neg (by simpa using hx)] at ht
      simp only [go_sem, Nat.reduceEqDiff, Nat.reduceAdd, Nat.reduceSub, Nat.reduceLeDiff, Nat.reduceLT, Nat.reduceMul, Nat.reduceBEq, Int.reduceEq, Int.reduceLT, Int.reduceLE, Int.reduceNeg, Int.reduceToNat, reduceCtorEq, ho, Try.results208, hx, h8, h7, h6, h3, hw]
      exact ⟨rest.length, by simp at hn; omega, i + 1, rest, by rw [← List.drop_drop, hr]; rfl, by simp at hi; omega, rfl, ht, by simp⟩
    · rw [if_pos hx] at ht
      simp only [go_sem, Nat.reduceEqDiff, Nat.reduceAdd, Nat.reduceSub, Nat.reduceLeDiff, Nat.reduceLT, Nat.reduceMul, Nat.reduceBEq, Int.reduceEq, Int.reduceLT, Int.reduceLE, Int.reduceNeg, Int.reduceToNat, reduceCtorEq, ho, Try.results208, hx, h8, h7, h6, h3, hw]
      rw [← ht]
theorem ok210 : okCode M0 Try.f210.ntmps (Try.f210.body.getD .skip) = true := by decide +kernel
theorem cmpB_fn (a b : ByteArray) : Fc 210 [.str a, .str b] (.int .i64 (cmpB a b)) := by
  refine fn_of_awp (E := E0) (M := M0) follows Try.func210 rfl (by decide) ok210 (by decide) (by simp) fun o ho => ?_
  simp only [go_sem, Nat.reduceEqDiff, Nat.reduceAdd, Nat.reduceSub, Nat.reduceLeDiff, Nat.reduceLT, Nat.reduceMul, Nat.reduceBEq, Int.reduceEq, Int.reduceLT, Int.reduceLE, Int.reduceNeg, Int.reduceToNat, reduceCtorEq, ho, Try.results210]
  refine GCall.fr ?_ (cmpString_fn a b) (.inl rfl) ?_; (focus (first | rfl | ((simp only [go_sem, Nat.reduceEqDiff, Nat.reduceAdd, Nat.reduceSub, Nat.reduceLeDiff, Nat.reduceLT, Nat.reduceMul, Nat.reduceBEq, Int.reduceEq, Int.reduceLT, Int.reduceLE, Int.reduceNeg, Int.reduceToNat, reduceCtorEq, ho, Try.results210]); done) | ((simp only [go_sem, Nat.reduceEqDiff, Nat.reduceAdd, Nat.reduceSub, Nat.reduceLeDiff, Nat.reduceLT, Nat.reduceMul, Nat.reduceBEq, Int.reduceEq, Int.reduceLT, Int.reduceLE, Int.reduceNeg, Int.reduceToNat, reduceCtorEq, ho, Try.results210]); rfl)))
  simp only [go_sem, Nat.reduceEqDiff, Nat.reduceAdd, Nat.reduceSub, Nat.reduceLeDiff, Nat.reduceLT, Nat.reduceMul, Nat.reduceBEq, Int.reduceEq, Int.reduceLT, Int.reduceLE, Int.reduceNeg, Int.reduceToNat, reduceCtorEq, ho, Try.results210, cmpB]
theorem cmp_or (a b : Vl) : a.cmp b = orI [cmpI a.kind b.kind, cmpI a.int b.int, cmpB a.text b.text] := by
  simp only [Vl.cmp, orI]
  split
  · rfl
  · split
    · rfl
    · split
      · rfl
      · rename_i h
        simpa using h
theorem ok192 : okCode M0 Try.f192.ntmps (Try.f192.body.getD .skip) = true := by decide +kernel
theorem cmp_fn (a b : Vl) : Fc 192 [a.enc, b.enc] (.int .i64 (a.cmp b)) := by
  refine fn_of_awp (E := E0) (M := M0) follows Try.func192 rfl (by decide) ok192 (by decide) (by simp) fun o ho => ?_
  simp only [go_sem, Nat.reduceEqDiff, Nat.reduceAdd, Nat.reduceSub, Nat.reduceLeDiff, Nat.reduceLT, Nat.reduceMul, Nat.reduceBEq, Int.reduceEq, Int.reduceLT, Int.reduceLE, Int.reduceNeg, Int.reduceToNat, reduceCtorEq, ho, Try.results192, Vl.enc]
  refine QCall.fr ?_ (cmpI_fn a.kind b.kind) (.inl rfl) ?_; (focus (first | rfl | ((simp only [go_sem, Nat.reduceEqDiff, Nat.reduceAdd, Nat.reduceSub, Nat.reduceLeDiff, Nat.reduceLT, Nat.reduceMul, Nat.reduceBEq, Int.reduceEq, Int.reduceLT, Int.reduceLE, Int.reduceNeg, Int.reduceToNat, reduceCtorEq, ho, Try.results192]); done) | ((simp only [go_sem, Nat.reduceEqDiff, Nat.reduceAdd, Nat.reduceSub, Nat.reduceLeDiff, Nat.reduceLT, Nat.reduceMul, Nat.reduceBEq, Int.reduceEq, Int.reduceLT, Int.reduceLE, Int.reduceNeg, Int.reduceToNat, reduceCtorEq, ho, Try.results192]); rfl)))
  simp only [go_sem, Nat.reduceEqDiff, Nat.reduceAdd, Nat.reduceSub, Nat.reduceLeDiff, Nat.reduceLT, Nat.reduceMul, Nat.reduceBEq, Int.reduceEq, Int.reduceLT, Int.reduceLE, Int.reduceNeg, Int.reduceToNat, reduceCtorEq, ho, Try.results192]
  refine QCall.fr ?_ (cmpI_fn a.int b.int) (.inl rfl) ?_; (focus (first | rfl | ((simp only [go_sem, Nat.reduceEqDiff, Nat.reduceAdd, Nat.reduceSub, Nat.reduceLeDiff, Nat.reduceLT, Nat.reduceMul, Nat.reduceBEq, Int.reduceEq, Int.reduceLT, Int.reduceLE, Int.reduceNeg, Int.reduceToNat, reduceCtorEq, ho, Try.results192]); done) | ((simp only [go_sem, Nat.reduceEqDiff, Nat.reduceAdd, Nat.reduceSub, Nat.reduceLeDiff, Nat.reduceLT, Nat.reduceMul, Nat.reduceBEq, Int.reduceEq, Int.reduceLT, Int.reduceLE, Int.reduceNeg, Int.reduceToNat, reduceCtorEq, ho, Try.results192]); rfl)))
  simp only [go_sem, Nat.reduceEqDiff, Nat.reduceAdd, Nat.reduceSub, Nat.reduceLeDiff, Nat.reduceLT, Nat.reduceMul, Nat.reduceBEq, Int.reduceEq, Int.reduceLT, Int.reduceLE, Int.reduceNeg, Int.reduceToNat, reduceCtorEq, ho, Try.results192]
  refine QCall.fr ?_ (cmpB_fn a.text b.text) (.inl rfl) ?_; (focus (first | rfl | ((simp only [go_sem, Nat.reduceEqDiff, Nat.reduceAdd, Nat.reduceSub, Nat.reduceLeDiff, Nat.reduceLT, Nat.reduceMul, Nat.reduceBEq, Int.reduceEq, Int.reduceLT, Int.reduceLE, Int.reduceNeg, Int.reduceToNat, reduceCtorEq, ho, Try.results192]); done) | ((simp only [go_sem, Nat.reduceEqDiff, Nat.reduceAdd, Nat.reduceSub, Nat.reduceLeDiff, Nat.reduceLT, Nat.reduceMul, Nat.reduceBEq, Int.reduceEq, Int.reduceLT, Int.reduceLE, Int.reduceNeg, Int.reduceToNat, reduceCtorEq, ho, Try.results192]); rfl)))
  simp only [go_sem, Nat.reduceEqDiff, Nat.reduceAdd, Nat.reduceSub, Nat.reduceLeDiff, Nat.reduceLT, Nat.reduceMul, Nat.reduceBEq, Int.reduceEq, Int.reduceLT, Int.reduceLE, Int.reduceNeg, Int.reduceToNat, reduceCtorEq, ho, Try.results192]
  refine QCall.fr ?_ (orI_fn [cmpI a.kind b.kind, cmpI a.int b.int, cmpB a.text b.text] (by simp)) (.inl rfl) ?_; (focus (first | rfl | ((simp only [go_sem, Nat.reduceEqDiff, Nat.reduceAdd, Nat.reduceSub, Nat.reduceLeDiff, Nat.reduceLT, Nat.reduceMul, Nat.reduceBEq, Int.reduceEq, Int.reduceLT, Int.reduceLE, Int.reduceNeg, Int.reduceToNat, reduceCtorEq, ho, Try.results192]); done) | ((simp only [go_sem, Nat.reduceEqDiff, Nat.reduceAdd, Nat.reduceSub, Nat.reduceLeDiff, Nat.reduceLT, Nat.reduceMul, Nat.reduceBEq, Int.reduceEq, Int.reduceLT, Int.reduceLE, Int.reduceNeg, Int.reduceToNat, reduceCtorEq, ho, Try.results192]); rfl)))
  simp only [go_sem, Nat.reduceEqDiff, Nat.reduceAdd, Nat.reduceSub, Nat.reduceLeDiff, Nat.reduceLT, Nat.reduceMul, Nat.reduceBEq, Int.reduceEq, Int.reduceLT, Int.reduceLE, Int.reduceNeg, Int.reduceToNat, reduceCtorEq, ho, Try.results192, cmp_or]
theorem ok191 : okCode M0 Try.f191.ntmps (Try.f191.body.getD .skip) = true := by decide +kernel
theorem dec_fn (a b : Vl) (is : Bool) : Fc 191 [a.enc, b.enc, .bool is] (.int .i64 (Vl.dec a b is)) := by
  refine fn_of_awp (E := E0) (M := M0) follows Try.func191 rfl (by decide) ok191 (by decide) (by simp) fun o ho => ?_
  simp only [go_sem, Nat.reduceEqDiff, Nat.reduceAdd, Nat.reduceSub, Nat.reduceLeDiff, Nat.reduceLT, Nat.reduceMul, Nat.reduceBEq, Int.reduceEq, Int.reduceLT, Int.reduceLE, Int.reduceNeg, Int.reduceToNat, reduceCtorEq, ho, Try.results191, Vl.enc]
  repeat' (first | (refine AIf_cases (fun h => ?_) (fun h => ?_) <;> (try simp only [decide_eq_true_eq, decide_eq_false_iff_not, Bool.not_eq_true', Bool.not_eq_false', Bool.not_eq_true, Bool.not_eq_false] at h) <;> (try simp only [go_sem, Nat.reduceEqDiff, Nat.reduceAdd, Nat.reduceSub, Nat.reduceLeDiff, Nat.reduceLT, Nat.reduceMul, Nat.reduceBEq, Int.reduceEq, Int.reduceLT, Int.reduceLE, Int.reduceNeg, Int.reduceToNat, reduceCtorEq, ho, Try.results191, h])))
  all_goals (first | (simp_all [Vl.dec]; done) | (simp_all [Vl.dec]; omega) | (simp_all [Vl.dec]; intros; omega) | (simp_all [Vl.dec]; (repeat' split) <;> (first | (simp_all; done) | (simp_all; omega) | omega)))
theorem ok166 : okCode M0 Try.f166.ntmps (Try.f166.body.getD .skip) = true := by decide +kernel
theorem eql_fn (a b : Vl) : Fc 166 [a.enc, b.enc] (.int .i64 (a.eql b)) := by
  refine fn_of_awp (E := E0) (M := M0) follows Try.func166 rfl (by decide) ok166 (by decide) (by simp) fun o ho => ?_
  simp only [go_sem, Nat.reduceEqDiff, Nat.reduceAdd, Nat.reduceSub, Nat.reduceLeDiff, Nat.reduceLT, Nat.reduceMul, Nat.reduceBEq, Int.reduceEq, Int.reduceLT, Int.reduceLE, Int.reduceNeg, Int.reduceToNat, reduceCtorEq, ho, Try.results166, Vl.enc]
  refine QCall.fr ?_ (cmp_fn a b) (.inl rfl) ?_; (focus (first | rfl | ((simp only [go_sem, Nat.reduceEqDiff, Nat.reduceAdd, Nat.reduceSub, Nat.reduceLeDiff, Nat.reduceLT, Nat.reduceMul, Nat.reduceBEq, Int.reduceEq, Int.reduceLT, Int.reduceLE, Int.reduceNeg, Int.reduceToNat, reduceCtorEq, ho, Try.results166, Vl.enc]); done) | ((simp only [go_sem, Nat.reduceEqDiff, Nat.reduceAdd, Nat.reduceSub, Nat.reduceLeDiff, Nat.reduceLT, Nat.reduceMul, Nat.reduceBEq, Int.reduceEq, Int.reduceLT, Int.reduceLE, Int.reduceNeg, Int.reduceToNat, reduceCtorEq, ho, Try.results166, Vl.enc]); rfl)))
  simp only [go_sem, Nat.reduceEqDiff, Nat.reduceAdd, Nat.reduceSub, Nat.reduceLeDiff, Nat.reduceLT, Nat.reduceMul, Nat.reduceBEq, Int.reduceEq, Int.reduceLT, Int.reduceLE, Int.reduceNeg, Int.reduceToNat, reduceCtorEq, ho, Try.results166]
  refine QCall.fr ?_ (dec_fn a b (decide (a.cmp b = 0))) (.inl rfl) ?_; (focus (first | rfl | ((simp only [go_sem, Nat.reduceEqDiff, Nat.reduceAdd, Nat.reduceSub, Nat.reduceLeDiff, Nat.reduceLT, Nat.reduceMul, Nat.reduceBEq, Int.reduceEq, Int.reduceLT, Int.reduceLE, Int.reduceNeg, Int.reduceToNat, reduceCtorEq, ho, Try.results166, Vl.enc]); done) | ((simp only [go_sem, Nat.reduceEqDiff, Nat.reduceAdd, Nat.reduceSub, Nat.reduceLeDiff, Nat.reduceLT, Nat.reduceMul, Nat.reduceBEq, Int.reduceEq, Int.reduceLT, Int.reduceLE, Int.reduceNeg, Int.reduceToNat, reduceCtorEq, ho, Try.results166, Vl.enc]); rfl)))
  simp only [go_sem, Nat.reduceEqDiff, Nat.reduceAdd, Nat.reduceSub, Nat.reduceLeDiff, Nat.reduceLT, Nat.reduceMul, Nat.reduceBEq, Int.reduceEq, Int.reduceLT, Int.reduceLE, Int.reduceNeg, Int.reduceToNat, reduceCtorEq, ho, Try.results166, Vl.eql]
theorem ok167 : okCode M0 Try.f167.ntmps (Try.f167.body.getD .skip) = true := by decide +kernel
theorem less_fn (a b : Vl) : Fc 167 [a.enc, b.enc] (.int .i64 (a.less b)) := by
  refine fn_of_awp (E := E0) (M := M0) follows Try.func167 rfl (by decide) ok167 (by decide) (by simp) fun o ho => ?_
  simp only [go_sem, Nat.reduceEqDiff, Nat.reduceAdd, Nat.reduceSub, Nat.reduceLeDiff, Nat.reduceLT, Nat.reduceMul, Nat.reduceBEq, Int.reduceEq, Int.reduceLT, Int.reduceLE, Int.reduceNeg, Int.reduceToNat, reduceCtorEq, ho, Try.results167, Vl.enc]
  refine QCall.fr ?_ (cmp_fn a b) (.inl rfl) ?_; (focus (first | rfl | ((simp only [go_sem, Nat.reduceEqDiff, Nat.reduceAdd, Nat.reduceSub, Nat.reduceLeDiff, Nat.reduceLT, Nat.reduceMul, Nat.reduceBEq, Int.reduceEq, Int.reduceLT, Int.reduceLE, Int.reduceNeg, Int.reduceToNat, reduceCtorEq, ho, Try.results167, Vl.enc]); done) | ((simp only [go_sem, Nat.reduceEqDiff, Nat.reduceAdd, Nat.reduceSub, Nat.reduceLeDiff, Nat.reduceLT, Nat.reduceMul, Nat.reduceBEq, Int.reduceEq, Int.reduceLT, Int.reduceLE, Int.reduceNeg, Int.reduceToNat, reduceCtorEq, ho, Try.results167, Vl.enc]); rfl)))
  simp only [go_sem, Nat.reduceEqDiff, Nat.reduceAdd, Nat.reduceSub, Nat.reduceLeDiff, Nat.reduceLT, Nat.reduceMul, Nat.reduceBEq, Int.reduceEq, Int.reduceLT, Int.reduceLE, Int.reduceNeg, Int.reduceToNat, reduceCtorEq, ho, Try.results167]
  refine QCall.fr ?_ (dec_fn a b (decide (a.cmp b < 0))) (.inl rfl) ?_; (focus (first | rfl | ((simp only [go_sem, Nat.reduceEqDiff, Nat.reduceAdd, Nat.reduceSub, Nat.reduceLeDiff, Nat.reduceLT, Nat.reduceMul, Nat.reduceBEq, Int.reduceEq, Int.reduceLT, Int.reduceLE, Int.reduceNeg, Int.reduceToNat, reduceCtorEq, ho, Try.results167, Vl.enc]); done) | ((simp only [go_sem, Nat.reduceEqDiff, Nat.reduceAdd, Nat.reduceSub, Nat.reduceLeDiff, Nat.reduceLT, Nat.reduceMul, Nat.reduceBEq, Int.reduceEq, Int.reduceLT, Int.reduceLE, Int.reduceNeg, Int.reduceToNat, reduceCtorEq, ho, Try.results167, Vl.enc]); rfl)))
  simp only [go_sem, Nat.reduceEqDiff, Nat.reduceAdd, Nat.reduceSub, Nat.reduceLeDiff, Nat.reduceLT, Nat.reduceMul, Nat.reduceBEq, Int.reduceEq, Int.reduceLT, Int.reduceLE, Int.reduceNeg, Int.reduceToNat, reduceCtorEq, ho, Try.results167, Vl.less]
theorem ok158 : okCode M0 Try.f158.ntmps (Try.f158.body.getD .skip) = true := by decide +kernel
theorem and_fn (a b : Int) : Fc 158 [.int .i64 a, .int .i64 b] (.int .i64 (tand a b)) := by
  refine fn_of_awp (E := E0) (M := M0) follows Try.func158 rfl (by decide) ok158 (by decide) (by simp) fun o ho => ?_
  simp only [go_sem, Nat.reduceEqDiff, Nat.reduceAdd, Nat.reduceSub, Nat.reduceLeDiff, Nat.reduceLT, Nat.reduceMul, Nat.reduceBEq, Int.reduceEq, Int.reduceLT, Int.reduceLE, Int.reduceNeg, Int.reduceToNat, reduceCtorEq, ho, Try.results158]
  refine GCall.fr ?_ (least_fn [a, b] (by simp)) (.inl rfl) ?_; (focus (first | rfl | ((simp only [go_sem, Nat.reduceEqDiff, Nat.reduceAdd, Nat.reduceSub, Nat.reduceLeDiff, Nat.reduceLT, Nat.reduceMul, Nat.reduceBEq, Int.reduceEq, Int.reduceLT, Int.reduceLE, Int.reduceNeg, Int.reduceToNat, reduceCtorEq, ho, Try.results158]); done) | ((simp only [go_sem, Nat.reduceEqDiff, Nat.reduceAdd, Nat.reduceSub, Nat.reduceLeDiff, Nat.reduceLT, Nat.reduceMul, Nat.reduceBEq, Int.reduceEq, Int.reduceLT, Int.reduceLE, Int.reduceNeg, Int.reduceToNat, reduceCtorEq, ho, Try.results158]); rfl)))
  simp only [go_sem, Nat.reduceEqDiff, Nat.reduceAdd, Nat.reduceSub, Nat.reduceLeDiff, Nat.reduceLT, Nat.reduceMul, Nat.reduceBEq, Int.reduceEq, Int.reduceLT, Int.reduceLE, Int.reduceNeg, Int.reduceToNat, reduceCtorEq, ho, Try.results158, tand]
theorem ok159 : okCode M0 Try.f159.ntmps (Try.f159.body.getD .skip) = true := by decide +kernel
theorem or_fn (a b : Int) : Fc 159 [.int .i64 a, .int .i64 b] (.int .i64 (tor a b)) := by
  refine fn_of_awp (E := E0) (M := M0) follows Try.func159 rfl (by decide) ok159 (by decide) (by simp) fun o ho => ?_
  simp only [go_sem, Nat.reduceEqDiff, Nat.reduceAdd, Nat.reduceSub, Nat.reduceLeDiff, Nat.reduceLT, Nat.reduceMul, Nat.reduceBEq, Int.reduceEq, Int.reduceLT, Int.reduceLE, Int.reduceNeg, Int.reduceToNat, reduceCtorEq, ho, Try.results159]
  refine GCall.fr ?_ (not_fn a) (.inl rfl) ?_; (focus (first | rfl | ((simp only [go_sem, Nat.reduceEqDiff, Nat.reduceAdd, Nat.reduceSub, Nat.reduceLeDiff, Nat.reduceLT, Nat.reduceMul, Nat.reduceBEq, Int.reduceEq, Int.reduceLT, Int.reduceLE, Int.reduceNeg, Int.reduceToNat, reduceCtorEq, ho, Try.results159]); done) | ((simp only [go_sem, Nat.reduceEqDiff, Nat.reduceAdd, Nat.reduceSub, Nat.reduceLeDiff, Nat.reduceLT, Nat.reduceMul, Nat.reduceBEq, Int.reduceEq, Int.reduceLT, Int.reduceLE, Int.reduceNeg, Int.reduceToNat, reduceCtorEq, ho, Try.results159]); rfl)))
  simp only [go_sem, Nat.reduceEqDiff, Nat.reduceAdd, Nat.reduceSub, Nat.reduceLeDiff, Nat.reduceLT, Nat.reduceMul, Nat.reduceBEq, Int.reduceEq, Int.reduceLT, Int.reduceLE, Int.reduceNeg, Int.reduceToNat, reduceCtorEq, ho, Try.results159]
  refine GCall.fr ?_ (not_fn b) (.inl rfl) ?_; (focus (first | rfl | ((simp only [go_sem, Nat.reduceEqDiff, Nat.reduceAdd, Nat.reduceSub, Nat.reduceLeDiff, Nat.reduceLT, Nat.reduceMul, Nat.reduceBEq, Int.reduceEq, Int.reduceLT, Int.reduceLE, Int.reduceNeg, Int.reduceToNat, reduceCtorEq, ho, Try.results159]); done) | ((simp only [go_sem, Nat.reduceEqDiff, Nat.reduceAdd, Nat.reduceSub, Nat.reduceLeDiff, Nat.reduceLT, Nat.reduceMul, Nat.reduceBEq, Int.reduceEq, Int.reduceLT, Int.reduceLE, Int.reduceNeg, Int.reduceToNat, reduceCtorEq, ho, Try.results159]); rfl)))
  simp only [go_sem, Nat.reduceEqDiff, Nat.reduceAdd, Nat.reduceSub, Nat.reduceLeDiff, Nat.reduceLT, Nat.reduceMul, Nat.reduceBEq, Int.reduceEq, Int.reduceLT, Int.reduceLE, Int.reduceNeg, Int.reduceToNat, reduceCtorEq, ho, Try.results159]
  refine GCall.fr ?_ (least_fn [tnot a, tnot b] (by simp)) (.inl rfl) ?_; (focus (first | rfl | ((simp only [go_sem, Nat.reduceEqDiff, Nat.reduceAdd, Nat.reduceSub, Nat.reduceLeDiff, Nat.reduceLT, Nat.reduceMul, Nat.reduceBEq, Int.reduceEq, Int.reduceLT, Int.reduceLE, Int.reduceNeg, Int.reduceToNat, reduceCtorEq, ho, Try.results159]); done) | ((simp only [go_sem, Nat.reduceEqDiff, Nat.reduceAdd, Nat.reduceSub, Nat.reduceLeDiff, Nat.reduceLT, Nat.reduceMul, Nat.reduceBEq, Int.reduceEq, Int.reduceLT, Int.reduceLE, Int.reduceNeg, Int.reduceToNat, reduceCtorEq, ho, Try.results159]); rfl)))
  simp only [go_sem, Nat.reduceEqDiff, Nat.reduceAdd, Nat.reduceSub, Nat.reduceLeDiff, Nat.reduceLT, Nat.reduceMul, Nat.reduceBEq, Int.reduceEq, Int.reduceLT, Int.reduceLE, Int.reduceNeg, Int.reduceToNat, reduceCtorEq, ho, Try.results159]
  refine GCall.fr ?_ (not_fn (least [tnot a, tnot b] 2)) (.inl rfl) ?_; (focus (first | rfl | ((simp only [go_sem, Nat.reduceEqDiff, Nat.reduceAdd, Nat.reduceSub, Nat.reduceLeDiff, Nat.reduceLT, Nat.reduceMul, Nat.reduceBEq, Int.reduceEq, Int.reduceLT, Int.reduceLE, Int.reduceNeg, Int.reduceToNat, reduceCtorEq, ho, Try.results159]); done) | ((simp only [go_sem, Nat.reduceEqDiff, Nat.reduceAdd, Nat.reduceSub, Nat.reduceLeDiff, Nat.reduceLT, Nat.reduceMul, Nat.reduceBEq, Int.reduceEq, Int.reduceLT, Int.reduceLE, Int.reduceNeg, Int.reduceToNat, reduceCtorEq, ho, Try.results159]); rfl)))
  simp only [go_sem, Nat.reduceEqDiff, Nat.reduceAdd, Nat.reduceSub, Nat.reduceLeDiff, Nat.reduceLT, Nat.reduceMul, Nat.reduceBEq, Int.reduceEq, Int.reduceLT, Int.reduceLE, Int.reduceNeg, Int.reduceToNat, reduceCtorEq, ho, Try.results159, tor]
end Go.Proofs.Ytiefnninebilbaa
/- What the evaluation of columns, logical operators and Allen's relations returns; no condition. -/
set_option maxRecDepth 100000
set_option linter.unusedVariables false
set_option linter.unusedSimpArgs false
namespace Go.Proofs.Ytiefnninebilbaa
open Go Go.Sx

theorem ok151 : okCode M0 Try.f151.ntmps (Try.f151.body.getD .skip) = true := by decide +kernel
theorem at_fn (row : List Vl) (i : Int) : Fc 151 [.sl (row.map Vl.enc), .int .i64 i] (Vl.at row i).enc := by
  refine fn_of_awp (E := E0) (M := M0) follows Try.func151 rfl (by decide) ok151 (by decide) (by simp) fun o ho => ?_
  simp only [go_sem, Nat.reduceEqDiff, Nat.reduceAdd, Nat.reduceSub, Nat.reduceLeDiff, Nat.reduceLT, Nat.reduceMul, Nat.reduceBEq, Int.reduceEq, Int.reduceLT, Int.reduceLE, Int.reduceNeg, Int.reduceToNat, reduceCtorEq, ho, Try.results151]
  by_cases h0 : i < 0
  · simp only [go_sem, Nat.reduceEqDiff, Nat.reduceAdd, Nat.reduceSub, Nat.reduceLeDiff, Nat.reduceLT, Nat.reduceMul, Nat.reduceBEq, Int.reduceEq, Int.reduceLT, Int.reduceLE, Int.reduceNeg, Int.reduceToNat, reduceCtorEq, ho, Try.results151, h0]
    refine GCall.fr ?_ (null_fn) (.inl rfl) ?_; (focus (first | rfl | ((simp only [go_sem, Nat.reduceEqDiff, Nat.reduceAdd, Nat.reduceSub, Nat.reduceLeDiff, Nat.reduceLT, Nat.reduceMul, Nat.reduceBEq, Int.reduceEq, Int.reduceLT, Int.reduceLE, Int.reduceNeg, Int.reduceToNat, reduceCtorEq, ho, Try.results151]); done) | ((simp only [go_sem, Nat.reduceEqDiff, Nat.reduceAdd, Nat.reduceSub, Nat.reduceLeDiff, Nat.reduceLT, Nat.reduceMul, Nat.reduceBEq, Int.reduceEq, Int.reduceLT, Int.reduceLE, Int.reduceNeg, Int.reduceToNat, reduceCtorEq, ho, Try.results151]); rfl)))
    simp only [go_sem, Nat.reduceEqDiff, Nat.reduceAdd, Nat.reduceSub, Nat.reduceLeDiff, Nat.reduceLT, Nat.reduceMul, Nat.reduceBEq, Int.reduceEq, Int.reduceLT, Int.reduceLE, Int.reduceNeg, Int.reduceToNat, reduceCtorEq, ho, Try.results151, Vl.enc, Vl.null]
    simp [Vl.at, h0, Vl.null]
  by_cases h1 : (row.length : Int) ≤ i
  · simp only [go_sem, Nat.reduceEqDiff, Nat.reduceAdd, Nat.reduceSub, Nat.reduceLeDiff, Nat.reduceLT, Nat.reduceMul, Nat.reduceBEq, Int.reduceEq, Int.reduceLT, Int.reduceLE, Int.reduceNeg, Int.reduceToNat, reduceCtorEq, ho, Try.results151, h0, h1]
    refine GCall.fr ?_ (null_fn) (.inl rfl) ?_; (focus (first | rfl | ((simp only [go_sem, Nat.reduceEqDiff, Nat.reduceAdd, Nat.reduceSub, Nat.reduceLeDiff, Nat.reduceLT, Nat.reduceMul, Nat.reduceBEq, Int.reduceEq, Int.reduceLT, Int.reduceLE, Int.reduceNeg, Int.reduceToNat, reduceCtorEq, ho, Try.results151]); done) | ((simp only [go_sem, Nat.reduceEqDiff, Nat.reduceAdd, Nat.reduceSub, Nat.reduceLeDiff, Nat.reduceLT, Nat.reduceMul, Nat.reduceBEq, Int.reduceEq, Int.reduceLT, Int.reduceLE, Int.reduceNeg, Int.reduceToNat, reduceCtorEq, ho, Try.results151]); rfl)))
    simp only [go_sem, Nat.reduceEqDiff, Nat.reduceAdd, Nat.reduceSub, Nat.reduceLeDiff, Nat.reduceLT, Nat.reduceMul, Nat.reduceBEq, Int.reduceEq, Int.reduceLT, Int.reduceLE, Int.reduceNeg, Int.reduceToNat, reduceCtorEq, ho, Try.results151, Vl.enc, Vl.null]
    simp [Vl.at, h1, Vl.null]
  have hlt : i.toNat < row.length := by omega
  have hget : (row.map Vl.enc)[i.toNat]? = some row[i.toNat].enc := by simp [hlt]
  have h2 : 0 ≤ i := by omega
  simp only [go_sem, Nat.reduceEqDiff, Nat.reduceAdd, Nat.reduceSub, Nat.reduceLeDiff, Nat.reduceLT, Nat.reduceMul, Nat.reduceBEq, Int.reduceEq, Int.reduceLT, Int.reduceLE, Int.reduceNeg, Int.reduceToNat, reduceCtorEq, ho, Try.results151, h0, h1, h2, hget, Vl.enc]
  simp [Vl.at, h0, h1, hlt]
theorem ok88 : okCode M0 Try.f88.ntmps (Try.f88.body.getD .skip) = true := by decide +kernel
theorem pick_fn (row : List Vl) (l : List Int) (hl : l.length ≤ 1000000000) : FnR P0 88 [.sl (row.map Vl.enc), .sl (l.map (.int .i64))] (.row 42 ((l.map (Vl.at row)).map Vl.enc)) := by
  refine fn_of_awp (E := E0) (M := M0) follows Try.func88 rfl (by decide) ok88 (by decide) (by simp) fun o ho => ?_
  have hm : (l.length : Int) * (((32 : Nat) : Int) + 1) ≤ 140737488355328 := by omega
  simp only [go_sem, Nat.reduceEqDiff, Nat.reduceAdd, Nat.reduceSub, Nat.reduceLeDiff, Nat.reduceLT, Nat.reduceMul, Nat.reduceBEq, Int.reduceEq, Int.reduceLT, Int.reduceLE, Int.reduceNeg, Int.reduceToNat, reduceCtorEq, ho, Try.results88, Int.natCast_nonneg, hm, true_and, List.replicate]
  refine ⟨fun n st => ∃ (done rest : List Int), l = done ++ rest ∧ rest.length = n ∧ st.s 13 = .int .i64 done.length ∧ st.s 12 = .int .i64 l.length ∧ st.s 11 = .sl (l.map (.int .i64)) ∧ st.s 0 = .sl (row.map Vl.enc) ∧ ((done = [] ∧ st.s 5 = .ref 10 1 ∧ st.o 10 = (1, some (true, .row 42 []))) ∨ (done ≠ [] ∧ ∃ v, st.s 5 = .ref 22 v ∧ st.o 22 = (v, some (true, .row 42 ((done.map (Vl.at row)).map Vl.enc))))), l.length, ⟨[], l, rfl, rfl, by simp only [go_sem, Nat.reduceEqDiff, Nat.reduceAdd, Nat.reduceSub, Nat.reduceLeDiff, Nat.reduceLT, Nat.reduceMul, Nat.reduceBEq, Int.reduceEq, Int.reduceLT, Int.reduceLE, Int.reduceNeg, Int.reduceToNat, reduceCtorEq, ho, Try.results88]; rfl, by simp only [go_sem, Nat.reduceEqDiff, Nat.reduceAdd, Nat.reduceSub, Nat.reduceLeDiff, Nat.reduceLT, Nat.reduceMul, Nat.reduceBEq, Int.reduceEq, Int.reduceLT, Int.reduceLE, Int.reduceNeg, Int.reduceToNat, reduceCtorEq, ho, Try.results88], by simp only [go_sem, Nat.reduceEqDiff, Nat.reduceAdd, Nat.reduceSub, Nat.reduceLeDiff, Nat.reduceLT, Nat.reduceMul, Nat.reduceBEq, Int.reduceEq, Int.reduceLT, Int.reduceLE, Int.reduceNeg, Int.reduceToNat, reduceCtorEq, ho, Try.results88], by simp only [go_sem, Nat.reduceEqDiff, Nat.reduceAdd, Nat.reduceSub, Nat.reduceLeDiff, Nat.reduceLT, Nat.reduceMul, Nat.reduceBEq, Int.reduceEq, Int.reduceLT, Int.reduceLE, Int.reduceNeg, Int.reduceToNat, reduceCtorEq, ho, Try.results88], .inl ⟨rfl, by simp only [go_sem, Nat.reduceEqDiff, Nat.reduceAdd, Nat.reduceSub, Nat.reduceLeDiff, Nat.reduceLT, Nat.reduceMul, Nat.reduceBEq, Int.reduceEq, Int.reduceLT, Int.reduceLE, Int.reduceNeg, Int.reduceToNat, reduceCtorEq, ho, Try.results88], by simp only [go_sem, Nat.reduceEqDiff, Nat.reduceAdd, Nat.reduceSub, Nat.reduceLeDiff, Nat.reduceLT, Nat.reduceMul, Nat.reduceBEq, Int.reduceEq, Int.reduceLT, Int.reduceLE, Int.reduceNeg, Int.reduceToNat, reduceCtorEq, ho, Try.results88]⟩⟩, ?_⟩
  rintro n st ⟨done, rest, hl', hn, h13, h12, h11, hs0, h5⟩
  have hlen : done.length + rest.length = l.length := by rw [hl']; simp
  have hw : IntKind.i64.wrap ((done.length : Int) + 1) = (done.length : Int) + 1 := wrap_fits (by omega) (by omega)
  cases rest with
  | nil =>
    have hlt : ¬ (done.length : Int) < (l.length : Int) := by simp at hlen; omega
    obtain rfl : l = done := by simpa using hl'
    rcases h5 with ⟨rfl, h5, h10⟩ | ⟨hne, v, h5, h22⟩
    · simp only [go_sem, Nat.reduceEqDiff, Nat.reduceAdd, Nat.reduceSub, Nat.reduceLeDiff, Nat.reduceLT, Nat.reduceMul, Nat.reduceBEq, Int.reduceEq, Int.reduceLT, Int.reduceLE, Int.reduceNeg, Int.reduceToNat, reduceCtorEq, ho, Try.results88, h13, h12, hlt, h5, h10, Int.lt_irrefl, List.length_nil]
    · simp only [go_sem, Nat.reduceEqDiff, Nat.reduceAdd, Nat.reduceSub, Nat.reduceLeDiff, Nat.reduceLT, Nat.reduceMul, Nat.reduceBEq, Int.reduceEq, Int.reduceLT, Int.reduceLE, Int.reduceNeg, Int.reduceToNat, reduceCtorEq, ho, Try.results88, h13, h12, hlt, h5, h22]
  | cons x rest =>
    have hlt : (done.length : Int) < (l.length : Int) := by simp at hlen; omega
    have hget : (l.map (PV.int .i64))[done.length]? = some (.int .i64 x) := by simp [hl']
    simp only [go_sem, Nat.reduceEqDiff, Nat.reduceAdd, Nat.reduceSub, Nat.reduceLeDiff, Nat.reduceLT, Nat.reduceMul, Nat.reduceBEq, Int.reduceEq, Int.reduceLT, Int.reduceLE, Int.reduceNeg, Int.reduceToNat, reduceCtorEq, ho, Try.results88, h13, h12, h11, hs0, hlt, hget, Int.natCast_nonneg, Int.toNat_natCast]
    refine GCall.fr ?_ (at_fn row x) (.inl rfl) ?_; (focus (first | rfl | ((simp only [go_sem, Nat.reduceEqDiff, Nat.reduceAdd, Nat.reduceSub, Nat.reduceLeDiff, Nat.reduceLT, Nat.reduceMul, Nat.reduceBEq, Int.reduceEq, Int.reduceLT, Int.reduceLE, Int.reduceNeg, Int.reduceToNat, reduceCtorEq, ho, Try.results88]); done) | ((simp only [go_sem, Nat.reduceEqDiff, Nat.reduceAdd, Nat.reduceSub, Nat.reduceLeDiff, Nat.reduceLT, Nat.reduceMul, Nat.reduceBEq, Int.reduceEq, Int.reduceLT, Int.reduceLE, Int.reduceNeg, Int.reduceToNat, reduceCtorEq, ho, Try.results88]); rfl)))
    simp only [go_sem, Nat.reduceEqDiff, Nat.reduceAdd, Nat.reduceSub, Nat.reduceLeDiff, Nat.reduceLT, Nat.reduceMul, Nat.reduceBEq, Int.reduceEq, Int.reduceLT, Int.reduceLE, Int.reduceNeg, Int.reduceToNat, reduceCtorEq, ho, Try.results88, h13, h12, h11, hs0]
    have hbig : (done.length + 1) * 33 ≤ 140737488355328 := by omega
    rcases h5 with ⟨rfl, h5, h10⟩ | ⟨hne, v, h5, h22⟩
    · simp only [go_sem, Nat.reduceEqDiff, Nat.reduceAdd, Nat.reduceSub, Nat.reduceLeDiff, Nat.reduceLT, Nat.reduceMul, Nat.reduceBEq, Int.reduceEq, Int.reduceLT, Int.reduceLE, Int.reduceNeg, Int.reduceToNat, reduceCtorEq, ho, Try.results88, h13, h12, h11, hs0, h5, h10, hw, Vl.enc]
      exact ⟨rest.length, by simp at hn; omega, [x], rest, by simpa using hl', rfl, rfl, .inr ⟨by simp, _, rfl, by simp [Vl.enc]⟩⟩
    · simp only [go_sem, Nat.reduceEqDiff, Nat.reduceAdd, Nat.reduceSub, Nat.reduceLeDiff, Nat.reduceLT, Nat.reduceMul, Nat.reduceBEq, Int.reduceEq, Int.reduceLT, Int.reduceLE, Int.reduceNeg, Int.reduceToNat, reduceCtorEq, ho, Try.results88, h13, h12, h11, hs0, h5, h22, hw, hbig, Vl.enc]
      exact ⟨rest.length, by simp at hn; omega, done ++ [x], rest, by simp [hl'], rfl, by simp, .inr ⟨by simp, _, rfl, by simp [Vl.enc]⟩⟩
theorem ok98 : okCode M0 Try.f98.ntmps (Try.f98.body.getD .skip) = true := by decide +kernel
theorem column_fn (row : List Vl) (i : Int) : Fc 98 [.sl (row.map Vl.enc), .int .i64 i] (column row i).enc := by
  refine fn_of_awp (E := E0) (M := M0) follows Try.func98 rfl (by decide) ok98 (by decide) (by simp) fun o ho => ?_
  simp only [go_sem, Nat.reduceEqDiff, Nat.reduceAdd, Nat.reduceSub, Nat.reduceLeDiff, Nat.reduceLT, Nat.reduceMul, Nat.reduceBEq, Int.reduceEq, Int.reduceLT, Int.reduceLE, Int.reduceNeg, Int.reduceToNat, reduceCtorEq, ho, Try.results98]
  refine GCall.mk ?_ (pick_fn row [i] (by simp)) rfl ?_
  · simp only [go_sem, Nat.reduceEqDiff, Nat.reduceAdd, Nat.reduceSub, Nat.reduceLeDiff, Nat.reduceLT, Nat.reduceMul, Nat.reduceBEq, Int.reduceEq, Int.reduceLT, Int.reduceLE, Int.reduceNeg, Int.reduceToNat, reduceCtorEq, ho, Try.results98]
  have h01 : (0 : Int) < ((1 : Nat) : Int) := by decide
  simp only [go_sem, Nat.reduceEqDiff, Nat.reduceAdd, Nat.reduceSub, Nat.reduceLeDiff, Nat.reduceLT, Nat.reduceMul, Nat.reduceBEq, Int.reduceEq, Int.reduceLT, Int.reduceLE, Int.reduceNeg, Int.reduceToNat, reduceCtorEq, ho, Try.results98, Vl.enc, h01]
  refine GCall.fr ?_ (valid_fn (Vl.at row i)) (.inl rfl) ?_; (focus (first | rfl | ((simp only [go_sem, Nat.reduceEqDiff, Nat.reduceAdd, Nat.reduceSub, Nat.reduceLeDiff, Nat.reduceLT, Nat.reduceMul, Nat.reduceBEq, Int.reduceEq, Int.reduceLT, Int.reduceLE, Int.reduceNeg, Int.reduceToNat, reduceCtorEq, ho, Try.results98]); done) | ((simp only [go_sem, Nat.reduceEqDiff, Nat.reduceAdd, Nat.reduceSub, Nat.reduceLeDiff, Nat.reduceLT, Nat.reduceMul, Nat.reduceBEq, Int.reduceEq, Int.reduceLT, Int.reduceLE, Int.reduceNeg, Int.reduceToNat, reduceCtorEq, ho, Try.results98]); rfl)))
  simp only [go_sem, Nat.reduceEqDiff, Nat.reduceAdd, Nat.reduceSub, Nat.reduceLeDiff, Nat.reduceLT, Nat.reduceMul, Nat.reduceBEq, Int.reduceEq, Int.reduceLT, Int.reduceLE, Int.reduceNeg, Int.reduceToNat, reduceCtorEq, ho, Try.results98]
  repeat' (first | (refine AIf_cases (fun h => ?_) (fun h => ?_) <;> (try simp only [decide_eq_true_eq, decide_eq_false_iff_not, Bool.not_eq_true', Bool.not_eq_false', Bool.not_eq_true, Bool.not_eq_false] at h) <;> (try simp only [go_sem, Nat.reduceEqDiff, Nat.reduceAdd, Nat.reduceSub, Nat.reduceLeDiff, Nat.reduceLT, Nat.reduceMul, Nat.reduceBEq, Int.reduceEq, Int.reduceLT, Int.reduceLE, Int.reduceNeg, Int.reduceToNat, reduceCtorEq, ho, Try.results98, h])))
  · refine GCall.fr ?_ (null_fn) (.inl rfl) ?_; (focus (first | rfl | ((simp only [go_sem, Nat.reduceEqDiff, Nat.reduceAdd, Nat.reduceSub, Nat.reduceLeDiff, Nat.reduceLT, Nat.reduceMul, Nat.reduceBEq, Int.reduceEq, Int.reduceLT, Int.reduceLE, Int.reduceNeg, Int.reduceToNat, reduceCtorEq, ho, Try.results98]); done) | ((simp only [go_sem, Nat.reduceEqDiff, Nat.reduceAdd, Nat.reduceSub, Nat.reduceLeDiff, Nat.reduceLT, Nat.reduceMul, Nat.reduceBEq, Int.reduceEq, Int.reduceLT, Int.reduceLE, Int.reduceNeg, Int.reduceToNat, reduceCtorEq, ho, Try.results98]); rfl)))
    simp only [go_sem, Nat.reduceEqDiff, Nat.reduceAdd, Nat.reduceSub, Nat.reduceLeDiff, Nat.reduceLT, Nat.reduceMul, Nat.reduceBEq, Int.reduceEq, Int.reduceLT, Int.reduceLE, Int.reduceNeg, Int.reduceToNat, reduceCtorEq, ho, Try.results98, Vl.enc, Vl.null]
    simp_all [column, Vl.orNull, Vl.null]
  · simp_all [column, Vl.orNull]
theorem vals_len {l : List Vl} : ∀ z, z ∈ l.map Vl.enc → z.cells.length = 3 := by
  intro z hz
  obtain ⟨n, _, rfl⟩ := List.mem_map.1 hz
  rfl
theorem vals_get {l done rest : List Vl} {v : Vl} (h : l = done ++ v :: rest) : (l.map Vl.enc)[done.length]? = some v.enc := by simp [h]
theorem ok99 : okCode M0 Try.f99.ntmps (Try.f99.body.getD .skip) = true := by decide +kernel
theorem logic_fn (op : Int) (x : Vl) (l : List Vl) (hl : l.length ≤ 1000000000) : Fc 99 [.int .i64 op, .sl ((x :: l).map Vl.enc)] (logicV op (x :: l)).enc := by
  refine fn_of_awp (E := E0) (M := M0) follows Try.func99 rfl (by decide) ok99 (by decide) (by simp) fun o ho => ?_
  simp only [go_sem, Nat.reduceEqDiff, Nat.reduceAdd, Nat.reduceSub, Nat.reduceLeDiff, Nat.reduceLT, Nat.reduceMul, Nat.reduceBEq, Int.reduceEq, Int.reduceLT, Int.reduceLE, Int.reduceNeg, Int.reduceToNat, reduceCtorEq, ho, Try.results99, Vl.enc]
  refine GCall.fr ?_ (truth_fn x) (.inl rfl) ?_; (focus (first | rfl | ((simp only [go_sem, Nat.reduceEqDiff, Nat.reduceAdd, Nat.reduceSub, Nat.reduceLeDiff, Nat.reduceLT, Nat.reduceMul, Nat.reduceBEq, Int.reduceEq, Int.reduceLT, Int.reduceLE, Int.reduceNeg, Int.reduceToNat, reduceCtorEq, ho, Try.results99]); done) | ((simp only [go_sem, Nat.reduceEqDiff, Nat.reduceAdd, Nat.reduceSub, Nat.reduceLeDiff, Nat.reduceLT, Nat.reduceMul, Nat.reduceBEq, Int.reduceEq, Int.reduceLT, Int.reduceLE, Int.reduceNeg, Int.reduceToNat, reduceCtorEq, ho, Try.results99]); rfl)))
  simp only [go_sem, Nat.reduceEqDiff, Nat.reduceAdd, Nat.reduceSub, Nat.reduceLeDiff, Nat.reduceLT, Nat.reduceMul, Nat.reduceBEq, Int.reduceEq, Int.reduceLT, Int.reduceLE, Int.reduceNeg, Int.reduceToNat, reduceCtorEq, ho, Try.results99]
  by_cases h4 : op = 4
  · simp only [go_sem, Nat.reduceEqDiff, Nat.reduceAdd, Nat.reduceSub, Nat.reduceLeDiff, Nat.reduceLT, Nat.reduceMul, Nat.reduceBEq, Int.reduceEq, Int.reduceLT, Int.reduceLE, Int.reduceNeg, Int.reduceToNat, reduceCtorEq, ho, Try.results99, h4]
    refine GCall.fr ?_ (not_fn x.truth) (.inl rfl) ?_; (focus (first | rfl | ((simp only [go_sem, Nat.reduceEqDiff, Nat.reduceAdd, Nat.reduceSub, Nat.reduceLeDiff, Nat.reduceLT, Nat.reduceMul, Nat.reduceBEq, Int.reduceEq, Int.reduceLT, Int.reduceLE, Int.reduceNeg, Int.reduceToNat, reduceCtorEq, ho, Try.results99]); done) | ((simp only [go_sem, Nat.reduceEqDiff, Nat.reduceAdd, Nat.reduceSub, Nat.reduceLeDiff, Nat.reduceLT, Nat.reduceMul, Nat.reduceBEq, Int.reduceEq, Int.reduceLT, Int.reduceLE, Int.reduceNeg, Int.reduceToNat, reduceCtorEq, ho, Try.results99]); rfl)))
    simp only [go_sem, Nat.reduceEqDiff, Nat.reduceAdd, Nat.reduceSub, Nat.reduceLeDiff, Nat.reduceLT, Nat.reduceMul, Nat.reduceBEq, Int.reduceEq, Int.reduceLT, Int.reduceLE, Int.reduceNeg, Int.reduceToNat, reduceCtorEq, ho, Try.results99]
    refine GCall.fr ?_ (of_fn (tnot x.truth)) (.inl rfl) ?_; (focus (first | rfl | ((simp only [go_sem, Nat.reduceEqDiff, Nat.reduceAdd, Nat.reduceSub, Nat.reduceLeDiff, Nat.reduceLT, Nat.reduceMul, Nat.reduceBEq, Int.reduceEq, Int.reduceLT, Int.reduceLE, Int.reduceNeg, Int.reduceToNat, reduceCtorEq, ho, Try.results99]); done) | ((simp only [go_sem, Nat.reduceEqDiff, Nat.reduceAdd, Nat.reduceSub, Nat.reduceLeDiff, Nat.reduceLT, Nat.reduceMul, Nat.reduceBEq, Int.reduceEq, Int.reduceLT, Int.reduceLE, Int.reduceNeg, Int.reduceToNat, reduceCtorEq, ho, Try.results99]); rfl)))
    simp only [go_sem, Nat.reduceEqDiff, Nat.reduceAdd, Nat.reduceSub, Nat.reduceLeDiff, Nat.reduceLT, Nat.reduceMul, Nat.reduceBEq, Int.reduceEq, Int.reduceLT, Int.reduceLE, Int.reduceNeg, Int.reduceToNat, reduceCtorEq, ho, Try.results99, Vl.enc]
    simp [logicV, nth]
  have htake : List.take l.length (l.map Vl.enc) = l.map Vl.enc := List.take_of_length_le (by simp)
  by_cases h5 : op = 5
  · simp only [go_sem, Nat.reduceEqDiff, Nat.reduceAdd, Nat.reduceSub, Nat.reduceLeDiff, Nat.reduceLT, Nat.reduceMul, Nat.reduceBEq, Int.reduceEq, Int.reduceLT, Int.reduceLE, Int.reduceNeg, Int.reduceToNat, reduceCtorEq, ho, Try.results99, h5, Nat.le_refl, eq_true (vals_len (l := l)), htake, true_and]
    refine ⟨fun n st => ∃ (done rest : List Vl) (t : Int), l = done ++ rest ∧ rest.length = n ∧ rest.foldl (fun t v => tand t v.truth) t = l.foldl (fun t v => tand t v.truth) x.truth ∧ st.s 37 = .int .i64 done.length ∧ st.s 36 = .int .i64 l.length ∧ st.s 35 = .sl (l.map Vl.enc) ∧ st.s 5 = .int .i64 t ∧ st.s 4 = .ptr 4 1 0 ∧ st.o 4 = (1, some (true, .box 42 [.int .i64 0, .int .i64 0, .str ⟨#[]⟩])), l.length, ⟨[], l, x.truth, rfl, rfl, rfl, by simp only [go_sem, Nat.reduceEqDiff, Nat.reduceAdd, Nat.reduceSub, Nat.reduceLeDiff, Nat.reduceLT, Nat.reduceMul, Nat.reduceBEq, Int.reduceEq, Int.reduceLT, Int.reduceLE, Int.reduceNeg, Int.reduceToNat, reduceCtorEq, ho, Try.results99]; rfl, by simp only [go_sem, Nat.reduceEqDiff, Nat.reduceAdd, Nat.reduceSub, Nat.reduceLeDiff, Nat.reduceLT, Nat.reduceMul, Nat.reduceBEq, Int.reduceEq, Int.reduceLT, Int.reduceLE, Int.reduceNeg, Int.reduceToNat, reduceCtorEq, ho, Try.results99], by simp only [go_sem, Nat.reduceEqDiff, Nat.reduceAdd, Nat.reduceSub, Nat.reduceLeDiff, Nat.reduceLT, Nat.reduceMul, Nat.reduceBEq, Int.reduceEq, Int.reduceLT, Int.reduceLE, Int.reduceNeg, Int.reduceToNat, reduceCtorEq, ho, Try.results99], by simp only [go_sem, Nat.reduceEqDiff, Nat.reduceAdd, Nat.reduceSub, Nat.reduceLeDiff, Nat.reduceLT, Nat.reduceMul, Nat.reduceBEq, Int.reduceEq, Int.reduceLT, Int.reduceLE, Int.reduceNeg, Int.reduceToNat, reduceCtorEq, ho, Try.results99], by simp only [go_sem, Nat.reduceEqDiff, Nat.reduceAdd, Nat.reduceSub, Nat.reduceLeDiff, Nat.reduceLT, Nat.reduceMul, Nat.reduceBEq, Int.reduceEq, Int.reduceLT, Int.reduceLE, Int.reduceNeg, Int.reduceToNat, reduceCtorEq, ho, Try.results99], by simp only [go_sem, Nat.reduceEqDiff, Nat.reduceAdd, Nat.reduceSub, Nat.reduceLeDiff, Nat.reduceLT, Nat.reduceMul, Nat.reduceBEq, Int.reduceEq, Int.reduceLT, Int.reduceLE, Int.reduceNeg, Int.reduceToNat, reduceCtorEq, ho, Try.results99]⟩, ?_⟩
    rintro n st ⟨done, rest, t, hl', hn, hf, hi, hlen, hs, h5', h4', hb⟩
    have hlen2 : done.length + rest.length = l.length := by rw [hl']; simp
    have hw : IntKind.i64.wrap ((done.length : Int) + 1) = (done.length : Int) + 1 := wrap_fits (by omega) (by omega)
    cases rest with
    | nil =>
      have hlt : ¬ (done.length : Int) < (l.length : Int) := by simp at hlen2; omega
      simp only [go_sem, Nat.reduceEqDiff, Nat.reduceAdd, Nat.reduceSub, Nat.reduceLeDiff, Nat.reduceLT, Nat.reduceMul, Nat.reduceBEq, Int.reduceEq, Int.reduceLT, Int.reduceLE, Int.reduceNeg, Int.reduceToNat, reduceCtorEq, ho, Try.results99, hi, hlen, hlt, h5', h4', hb]
      refine GCall.fr ?_ (of_fn t) (.inl rfl) ?_; (focus (first | rfl | ((simp only [go_sem, Nat.reduceEqDiff, Nat.reduceAdd, Nat.reduceSub, Nat.reduceLeDiff, Nat.reduceLT, Nat.reduceMul, Nat.reduceBEq, Int.reduceEq, Int.reduceLT, Int.reduceLE, Int.reduceNeg, Int.reduceToNat, reduceCtorEq, ho, Try.results99]); done) | ((simp only [go_sem, Nat.reduceEqDiff, Nat.reduceAdd, Nat.reduceSub, Nat.reduceLeDiff, Nat.reduceLT, Nat.reduceMul, Nat.reduceBEq, Int.reduceEq, Int.reduceLT, Int.reduceLE, Int.reduceNeg, Int.reduceToNat, reduceCtorEq, ho, Try.results99]); rfl)))
      simp only [go_sem, Nat.reduceEqDiff, Nat.reduceAdd, Nat.reduceSub, Nat.reduceLeDiff, Nat.reduceLT, Nat.reduceMul, Nat.reduceBEq, Int.reduceEq, Int.reduceLT, Int.reduceLE, Int.reduceNeg, Int.reduceToNat, reduceCtorEq, ho, Try.results99, Vl.enc, hi, hlen, hlt, h5', h4', hb]
      simp at hf
      simp [logicV, hf, nth]
    | cons v rest =>
      have hlt : (done.length : Int) < (l.length : Int) := by simp at hlen2; omega
      have hget := vals_get hl'
      simp only [go_sem, Nat.reduceEqDiff, Nat.reduceAdd, Nat.reduceSub, Nat.reduceLeDiff, Nat.reduceLT, Nat.reduceMul, Nat.reduceBEq, Int.reduceEq, Int.reduceLT, Int.reduceLE, Int.reduceNeg, Int.reduceToNat, reduceCtorEq, ho, Try.results99, hi, hlen, hs, hlt, hget, Int.natCast_nonneg, Int.toNat_natCast, h5', h4', hb, Vl.enc]
      refine GCall.fr ?_ (truth_fn v) (.inl rfl) ?_; (focus (first | rfl | ((simp only [go_sem, Nat.reduceEqDiff, Nat.reduceAdd, Nat.reduceSub, Nat.reduceLeDiff, Nat.reduceLT, Nat.reduceMul, Nat.reduceBEq, Int.reduceEq, Int.reduceLT, Int.reduceLE, Int.reduceNeg, Int.reduceToNat, reduceCtorEq, ho, Try.results99, Vl.enc]); done) | ((simp only [go_sem, Nat.reduceEqDiff, Nat.reduceAdd, Nat.reduceSub, Nat.reduceLeDiff, Nat.reduceLT, Nat.reduceMul, Nat.reduceBEq, Int.reduceEq, Int.reduceLT, Int.reduceLE, Int.reduceNeg, Int.reduceToNat, reduceCtorEq, ho, Try.results99, Vl.enc]); rfl)))
      simp only [go_sem, Nat.reduceEqDiff, Nat.reduceAdd, Nat.reduceSub, Nat.reduceLeDiff, Nat.reduceLT, Nat.reduceMul, Nat.reduceBEq, Int.reduceEq, Int.reduceLT, Int.reduceLE, Int.reduceNeg, Int.reduceToNat, reduceCtorEq, ho, Try.results99, hi, hlen, hs, h5', h4', hb]
      refine GCall.fr ?_ (and_fn t v.truth) (.inl rfl) ?_; (focus (first | rfl | ((simp only [go_sem, Nat.reduceEqDiff, Nat.reduceAdd, Nat.reduceSub, Nat.reduceLeDiff, Nat.reduceLT, Nat.reduceMul, Nat.reduceBEq, Int.reduceEq, Int.reduceLT, Int.reduceLE, Int.reduceNeg, Int.reduceToNat, reduceCtorEq, ho, Try.results99]); done) | ((simp only [go_sem, Nat.reduceEqDiff, Nat.reduceAdd, Nat.reduceSub, Nat.reduceLeDiff, Nat.reduceLT, Nat.reduceMul, Nat.reduceBEq, Int.reduceEq, Int.reduceLT, Int.reduceLE, Int.reduceNeg, Int.reduceToNat, reduceCtorEq, ho, Try.results99]); rfl)))
      simp only [go_sem, Nat.reduceEqDiff, Nat.reduceAdd, Nat.reduceSub, Nat.reduceLeDiff, Nat.reduceLT, Nat.reduceMul, Nat.reduceBEq, Int.reduceEq, Int.reduceLT, Int.reduceLE, Int.reduceNeg, Int.reduceToNat, reduceCtorEq, ho, Try.results99, hi, hlen, hs, h5', h4', hb, hw]
      exact ⟨rest.length, by simp at hn; omega, done ++ [v], rest, _, by simp [hl'], rfl, hf, by simp, rfl⟩
  · simp only [go_sem, Nat.reduceEqDiff, Nat.reduceAdd, Nat.reduceSub, Nat.reduceLeDiff, Nat.reduceLT, Nat.reduceMul, Nat.reduceBEq, Int.reduceEq, Int.reduceLT, Int.reduceLE, Int.reduceNeg, Int.reduceToNat, reduceCtorEq, ho, Try.results99, h4, h5, Nat.le_refl, eq_true (vals_len (l := l)), htake, true_and]
    refine ⟨fun n st => ∃ (done rest : List Vl) (t : Int), l = done ++ rest ∧ rest.length = n ∧ rest.foldl (fun t v => tor t v.truth) t = l.foldl (fun t v => tor t v.truth) x.truth ∧ st.s 18 = .int .i64 done.length ∧ st.s 17 = .int .i64 l.length ∧ st.s 16 = .sl (l.map Vl.enc) ∧ st.s 5 = .int .i64 t ∧ st.s 4 = .ptr 4 1 0 ∧ st.o 4 = (1, some (true, .box 42 [.int .i64 0, .int .i64 0, .str ⟨#[]⟩])), l.length, ⟨[], l, x.truth, rfl, rfl, rfl, by simp only [go_sem, Nat.reduceEqDiff, Nat.reduceAdd, Nat.reduceSub, Nat.reduceLeDiff, Nat.reduceLT, Nat.reduceMul, Nat.reduceBEq, Int.reduceEq, Int.reduceLT, Int.reduceLE, Int.reduceNeg, Int.reduceToNat, reduceCtorEq, ho, Try.results99]; rfl, by simp only [go_sem, Nat.reduceEqDiff, Nat.reduceAdd, Nat.reduceSub, Nat.reduceLeDiff, Nat.reduceLT, Nat.reduceMul, Nat.reduceBEq, Int.reduceEq, Int.reduceLT, Int.reduceLE, Int.reduceNeg, Int.reduceToNat, reduceCtorEq, ho, Try.results99], by simp only [go_sem, Nat.reduceEqDiff, Nat.reduceAdd, Nat.reduceSub, Nat.reduceLeDiff, Nat.reduceLT, Nat.reduceMul, Nat.reduceBEq, Int.reduceEq, Int.reduceLT, Int.reduceLE, Int.reduceNeg, Int.reduceToNat, reduceCtorEq, ho, Try.results99], by simp only [go_sem, Nat.reduceEqDiff, Nat.reduceAdd, Nat.reduceSub, Nat.reduceLeDiff, Nat.reduceLT, Nat.reduceMul, Nat.reduceBEq, Int.reduceEq, Int.reduceLT, Int.reduceLE, Int.reduceNeg, Int.reduceToNat, reduceCtorEq, ho, Try.results99], by simp only [go_sem, Nat.reduceEqDiff, Nat.reduceAdd, Nat.reduceSub, Nat.reduceLeDiff, Nat.reduceLT, Nat.reduceMul, Nat.reduceBEq, Int.reduceEq, Int.reduceLT, Int.reduceLE, Int.reduceNeg, Int.reduceToNat, reduceCtorEq, ho, Try.results99], by simp only [go_sem, Nat.reduceEqDiff, Nat.reduceAdd, Nat.reduceSub, Nat.reduceLeDiff, Nat.reduceLT, Nat.reduceMul, Nat.reduceBEq, Int.reduceEq, Int.reduceLT, Int.reduceLE, Int.reduceNeg, Int.reduceToNat, reduceCtorEq, ho, Try.results99]⟩, ?_⟩
    rintro n st ⟨done, rest, t, hl', hn, hf, hi, hlen, hs, h5', h4', hb⟩
    have hlen2 : done.length + rest.length = l.length := by rw [hl']; simp
    have hw : IntKind.i64.wrap ((done.length : Int) + 1) = (done.length : Int) + 1 := wrap_fits (by omega) (by omega)
    cases rest with
    | nil =>
      have hlt : ¬ (done.length : Int) < (l.length : Int) := by simp at hlen2; omega
      simp only [go_sem, Nat.reduceEqDiff, Nat.reduceAdd, Nat.reduceSub, Nat.reduceLeDiff, Nat.reduceLT, Nat.reduceMul, Nat.reduceBEq, Int.reduceEq, Int.reduceLT, Int.reduceLE, Int.reduceNeg, Int.reduceToNat, reduceCtorEq, ho, Try.results99, hi, hlen, hlt, h5', h4', hb]
      refine GCall.fr ?_ (of_fn t) (.inl rfl) ?_; (focus (first | rfl | ((simp only [go_sem, Nat.reduceEqDiff, Nat.reduceAdd, Nat.reduceSub, Nat.reduceLeDiff, Nat.reduceLT, Nat.reduceMul, Nat.reduceBEq, Int.reduceEq, Int.reduceLT, Int.reduceLE, Int.reduceNeg, Int.reduceToNat, reduceCtorEq, ho, Try.results99]); done) | ((simp only [go_sem, Nat.reduceEqDiff, Nat.reduceAdd, Nat.reduceSub, Nat.reduceLeDiff, Nat.reduceLT, Nat.reduceMul, Nat.reduceBEq, Int.reduceEq, Int.reduceLT, Int.reduceLE, Int.reduceNeg, Int.reduceToNat, reduceCtorEq, ho, Try.results99]); rfl)))
      simp only [go_sem, Nat.reduceEqDiff, Nat.reduceAdd, Nat.reduceSub, Nat.reduceLeDiff, Nat.reduceLT, Nat.reduceMul, Nat.reduceBEq, Int.reduceEq, Int.reduceLT, Int.reduceLE, Int.reduceNeg, Int.reduceToNat, reduceCtorEq, ho, Try.results99, Vl.enc, hi, hlen, hlt, h5', h4', hb]
      simp at hf
      simp [logicV, hf, nth, h4, h5]
    | cons v rest =>
      have hlt : (done.length : Int) < (l.length : Int) := by simp at hlen2; omega
      have hget := vals_get hl'
      simp only [go_sem, Nat.reduceEqDiff, Nat.reduceAdd, Nat.reduceSub, Nat.reduceLeDiff, Nat.reduceLT, Nat.reduceMul, Nat.reduceBEq, Int.reduceEq, Int.reduceLT, Int.reduceLE, Int.reduceNeg, Int.reduceToNat, reduceCtorEq, ho, Try.results99, hi, hlen, hs, hlt, hget, Int.natCast_nonneg, Int.toNat_natCast, h5', h4', hb, Vl.enc]
      refine GCall.fr ?_ (truth_fn v) (.inl rfl) ?_; (focus (first | rfl | ((simp only [go_sem, Nat.reduceEqDiff, Nat.reduceAdd, Nat.reduceSub, Nat.reduceLeDiff, Nat.reduceLT, Nat.reduceMul, Nat.reduceBEq, Int.reduceEq, Int.reduceLT, Int.reduceLE, Int.reduceNeg, Int.reduceToNat, reduceCtorEq, ho, Try.results99, Vl.enc]); done) | ((simp only [go_sem, Nat.reduceEqDiff, Nat.reduceAdd, Nat.reduceSub, Nat.reduceLeDiff, Nat.reduceLT, Nat.reduceMul, Nat.reduceBEq, Int.reduceEq, Int.reduceLT, Int.reduceLE, Int.reduceNeg, Int.reduceToNat, reduceCtorEq, ho, Try.results99, Vl.enc]); rfl)))
      simp only [go_sem, Nat.reduceEqDiff, Nat.reduceAdd, Nat.reduceSub, Nat.reduceLeDiff, Nat.reduceLT, Nat.reduceMul, Nat.reduceBEq, Int.reduceEq, Int.reduceLT, Int.reduceLE, Int.reduceNeg, Int.reduceToNat, reduceCtorEq, ho, Try.results99, hi, hlen, hs, h5', h4', hb]
      refine GCall.fr ?_ (or_fn t v.truth) (.inl rfl) ?_; (focus (first | rfl | ((simp only [go_sem, Nat.reduceEqDiff, Nat.reduceAdd, Nat.reduceSub, Nat.reduceLeDiff, Nat.reduceLT, Nat.reduceMul, Nat.reduceBEq, Int.reduceEq, Int.reduceLT, Int.reduceLE, Int.reduceNeg, Int.reduceToNat, reduceCtorEq, ho, Try.results99]); done) | ((simp only [go_sem, Nat.reduceEqDiff, Nat.reduceAdd, Nat.reduceSub, Nat.reduceLeDiff, Nat.reduceLT, Nat.reduceMul, Nat.reduceBEq, Int.reduceEq, Int.reduceLT, Int.reduceLE, Int.reduceNeg, Int.reduceToNat, reduceCtorEq, ho, Try.results99]); rfl)))
      simp only [go_sem, Nat.reduceEqDiff, Nat.reduceAdd, Nat.reduceSub, Nat.reduceLeDiff, Nat.reduceLT, Nat.reduceMul, Nat.reduceBEq, Int.reduceEq, Int.reduceLT, Int.reduceLE, Int.reduceNeg, Int.reduceToNat, reduceCtorEq, ho, Try.results99, hi, hlen, hs, h5', h4', hb, hw]
      exact ⟨rest.length, by simp at hn; omega, done ++ [v], rest, _, by simp [hl'], rfl, hf, by simp, rfl⟩
end Go.Proofs.Ytiefnninebilbaa
