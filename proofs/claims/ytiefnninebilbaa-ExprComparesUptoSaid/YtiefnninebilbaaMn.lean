/- The law's function on the comparison of expressions returns true; no condition. -/
import Derived.Test.YtiefnninebilbaaMl
set_option maxRecDepth 100000
set_option linter.unusedVariables false
set_option linter.unusedSimpArgs false
namespace Go.Proofs.Ytiefnninebilbaa
open Go Go.Sx

def Vl.eqB (a b : Vl) : Bool := decide (a.kind = b.kind) && (decide (a.int = b.int) && decide (a.text = b.text))
mutual
def Ex.same : Ex → Ex → Bool
  | .mk o i v n l, .mk o' i' v' n' l' => decide (o = o') && (decide (i = i') && (Vl.eqB v v' && (decide (n = n') && Ex.sames l l')))
def Ex.sames : List Ex → List Ex → Bool
  | [], [] => true
  | x :: l, y :: m => x.same y && Ex.sames l m
  | [], _ :: _ => false
  | _ :: _, [] => false
end
theorem Ex.same_eq (a b : Ex) : a.same b = (decide (a.op = b.op) && (decide (a.int = b.int) && (Vl.eqB a.val b.val && (decide (a.name = b.name) && Ex.sames a.args b.args)))) := by
  cases a; cases b; rfl
mutual
theorem Ex.same_self : ∀ e : Ex, e.same e = true
  | .mk o i v n l => by simp [Ex.same, Vl.eqB, Ex.sames_self l]
theorem Ex.sames_self : ∀ l : List Ex, Ex.sames l l = true
  | [] => rfl
  | e :: l => by simp [Ex.sames, Ex.same_self e, Ex.sames_self l]
end
theorem Ex.sames_len : ∀ {l m : List Ex}, Ex.sames l m = true → l.length = m.length
  | [], [], _ => rfl
  | x :: l, y :: m, h => by
    simp only [Ex.sames, Bool.and_eq_true] at h
    simp [Ex.sames_len h.2]
  | [], _ :: _, h => by simp [Ex.sames] at h
  | _ :: _, [], h => by simp [Ex.sames] at h
theorem exs_get {l done rest : List Ex} {x : Ex} (h : l = done ++ x :: rest) : (l.map Ex.enc)[done.length]? = some x.enc := by simp [h]
theorem ok121 : okCode M0 Try.f121.ntmps (Try.f121.body.getD .skip) = true := by decide +kernel
theorem eqf_fn (n : Nat) (IH : ∀ x y : Ex, x.size ≤ n → Fc 43 [x.enc, y.enc] (.bool (x.same y))) (l m : List Ex) (hs : Ex.sizes l ≤ n) (hl : l.length ≤ 1000000000) : Fc 121 [.sl (l.map Ex.enc), .sl (m.map Ex.enc), .fn 43 [] []] (.bool (Ex.sames l m)) := by
  refine fn_of_awp (E := E0) (M := M0) follows Try.func121 rfl (by decide) ok121 (by decide) (by simp) fun o ho => ?_
  simp only [go_sem, Nat.reduceEqDiff, Nat.reduceAdd, Nat.reduceSub, Nat.reduceLeDiff, Nat.reduceLT, Nat.reduceMul, Nat.reduceBEq, Int.reduceEq, Int.reduceLT, Int.reduceLE, Int.reduceNeg, Int.reduceToNat, reduceCtorEq, ho, Try.results121, List.length_map]
  by_cases hlen : l.length = m.length
  · have hlen' : (l.length : Int) = (m.length : Int) := by omega
    simp only [go_sem, Nat.reduceEqDiff, Nat.reduceAdd, Nat.reduceSub, Nat.reduceLeDiff, Nat.reduceLT, Nat.reduceMul, Nat.reduceBEq, Int.reduceEq, Int.reduceLT, Int.reduceLE, Int.reduceNeg, Int.reduceToNat, reduceCtorEq, ho, Try.results121, hlen', List.length_map]
    refine ⟨fun k st => ∃ (d1 r1 d2 r2 : List Ex), l = d1 ++ r1 ∧ m = d2 ++ r2 ∧ d1.length = d2.length ∧ r1.length = k ∧ Ex.sames r1 r2 = Ex.sames l m ∧ st.s 17 = .int .i64 d1.length ∧ st.s 16 = .int .i64 l.length ∧ st.s 15 = .sl (l.map Ex.enc) ∧ st.s 1 = .sl (m.map Ex.enc) ∧ st.s 2 = .fn 43 [] [], l.length,
      ⟨[], l, [], m, rfl, rfl, rfl, rfl, rfl, by simp only [go_sem, Nat.reduceEqDiff, Nat.reduceAdd, Nat.reduceSub, Nat.reduceLeDiff, Nat.reduceLT, Nat.reduceMul, Nat.reduceBEq, Int.reduceEq, Int.reduceLT, Int.reduceLE, Int.reduceNeg, Int.reduceToNat, reduceCtorEq, ho, Try.results121]; rfl, by simp only [go_sem, Nat.reduceEqDiff, Nat.reduceAdd, Nat.reduceSub, Nat.reduceLeDiff, Nat.reduceLT, Nat.reduceMul, Nat.reduceBEq, Int.reduceEq, Int.reduceLT, Int.reduceLE, Int.reduceNeg, Int.reduceToNat, reduceCtorEq, ho, Try.results121, hlen'], by simp only [go_sem, Nat.reduceEqDiff, Nat.reduceAdd, Nat.reduceSub, Nat.reduceLeDiff, Nat.reduceLT, Nat.reduceMul, Nat.reduceBEq, Int.reduceEq, Int.reduceLT, Int.reduceLE, Int.reduceNeg, Int.reduceToNat, reduceCtorEq, ho, Try.results121], by simp only [go_sem, Nat.reduceEqDiff, Nat.reduceAdd, Nat.reduceSub, Nat.reduceLeDiff, Nat.reduceLT, Nat.reduceMul, Nat.reduceBEq, Int.reduceEq, Int.reduceLT, Int.reduceLE, Int.reduceNeg, Int.reduceToNat, reduceCtorEq, ho, Try.results121], by simp only [go_sem, Nat.reduceEqDiff, Nat.reduceAdd, Nat.reduceSub, Nat.reduceLeDiff, Nat.reduceLT, Nat.reduceMul, Nat.reduceBEq, Int.reduceEq, Int.reduceLT, Int.reduceLE, Int.reduceNeg, Int.reduceToNat, reduceCtorEq, ho, Try.results121]⟩, ?_⟩
    rintro k st ⟨d1, r1, d2, r2, h1, h2, hd, hn, hf, h17, h16, h15, hs1, hs2⟩
    have hl1 : d1.length + r1.length = l.length := by rw [h1]; simp
    have hl2 : d2.length + r2.length = m.length := by rw [h2]; simp
    have hw : IntKind.i64.wrap ((d1.length : Int) + 1) = (d1.length : Int) + 1 := wrap_fits (by omega) (by omega)
    cases r1 with
    | nil =>
      have hlt : ¬ (d1.length : Int) < (l.length : Int) := by simp at hl1; omega
      obtain rfl : r2 = [] := List.eq_nil_of_length_eq_zero (by simp at hl1; omega)
      simp only [go_sem, Nat.reduceEqDiff, Nat.reduceAdd, Nat.reduceSub, Nat.reduceLeDiff, Nat.reduceLT, Nat.reduceMul, Nat.reduceBEq, Int.reduceEq, Int.reduceLT, Int.reduceLE, Int.reduceNeg, Int.reduceToNat, reduceCtorEq, ho, Try.results121, h17, h16, hlt]
      rw [← hf]; rfl
    | cons x r1 =>
      cases r2 with
      | nil => simp at hl1 hl2; omega
      | cons y r2 =>
        have hlt : (d1.length : Int) < (l.length : Int) := by simp at hl1; omega
        have hget := exs_get h1
        have hget2 : (m.map Ex.enc)[d1.length]? = some y.enc := by rw [hd, h2]; simp
        have hx : x.size ≤ n := by rw [h1, Ex.sizes_app] at hs; simp [Ex.sizes] at hs; omega
        rw [Ex.sames] at hf
        simp only [go_sem, Nat.reduceEqDiff, Nat.reduceAdd, Nat.reduceSub, Nat.reduceLeDiff, Nat.reduceLT, Nat.reduceMul, Nat.reduceBEq, Int.reduceEq, Int.reduceLT, Int.reduceLE, Int.reduceNeg, Int.reduceToNat, reduceCtorEq, ho, Try.results121, h17, h16, h15, hs1, hs2, hlt, hget, hget2, Int.natCast_nonneg, Int.toNat_natCast, List.nil_append, List.append_nil]
        refine GCall.fr ?_ (IH x y hx) (.inl rfl) ?_; (focus (first | rfl | ((simp only [go_sem, Nat.reduceEqDiff, Nat.reduceAdd, Nat.reduceSub, Nat.reduceLeDiff, Nat.reduceLT, Nat.reduceMul, Nat.reduceBEq, Int.reduceEq, Int.reduceLT, Int.reduceLE, Int.reduceNeg, Int.reduceToNat, reduceCtorEq, ho, Try.results121, x.enc_eq, y.enc_eq]); done) | ((simp only [go_sem, Nat.reduceEqDiff, Nat.reduceAdd, Nat.reduceSub, Nat.reduceLeDiff, Nat.reduceLT, Nat.reduceMul, Nat.reduceBEq, Int.reduceEq, Int.reduceLT, Int.reduceLE, Int.reduceNeg, Int.reduceToNat, reduceCtorEq, ho, Try.results121, x.enc_eq, y.enc_eq]); rfl)))
        simp only [go_sem, Nat.reduceEqDiff, Nat.reduceAdd, Nat.reduceSub, Nat.reduceLeDiff, Nat.reduceLT, Nat.reduceMul, Nat.reduceBEq, Int.reduceEq, Int.reduceLT, Int.reduceLE, Int.reduceNeg, Int.reduceToNat, reduceCtorEq, ho, Try.results121, h17, h16, h15, hs1, hs2]
        cases hxy : x.same y with
        | true =>
          rw [hxy, Bool.true_and] at hf
          simp only [go_sem, Nat.reduceEqDiff, Nat.reduceAdd, Nat.reduceSub, Nat.reduceLeDiff, Nat.reduceLT, Nat.reduceMul, Nat.reduceBEq, Int.reduceEq, Int.reduceLT, Int.reduceLE, Int.reduceNeg, Int.reduceToNat, reduceCtorEq, ho, Try.results121, hxy, h17, h16, h15, hs1, hs2, hw]
          exact ⟨r1.length, by simp at hn; omega, d1 ++ [x], r1, d2 ++ [y], r2, by simp [h1], by simp [h2], by simp [hd], rfl, hf, by simp⟩
        | false =>
          rw [hxy, Bool.false_and] at hf
          simp only [go_sem, Nat.reduceEqDiff, Nat.reduceAdd, Nat.reduceSub, Nat.reduceLeDiff, Nat.reduceLT, Nat.reduceMul, Nat.reduceBEq, Int.reduceEq, Int.reduceLT, Int.reduceLE, Int.reduceNeg, Int.reduceToNat, reduceCtorEq, ho, Try.results121, hxy]
          rw [← hf]
  · have hlen' : ¬ (l.length : Int) = (m.length : Int) := by omega
    simp only [go_sem, Nat.reduceEqDiff, Nat.reduceAdd, Nat.reduceSub, Nat.reduceLeDiff, Nat.reduceLT, Nat.reduceMul, Nat.reduceBEq, Int.reduceEq, Int.reduceLT, Int.reduceLE, Int.reduceNeg, Int.reduceToNat, reduceCtorEq, ho, Try.results121, hlen']
    cases hf : Ex.sames l m with
    | false => rfl
    | true => exact absurd (Ex.sames_len hf) hlen
theorem ok43 : okCode M0 Try.f43.ntmps (Try.f43.body.getD .skip) = true := by decide +kernel
theorem same_fn : ∀ (n : Nat), n ≤ 100000000 → ∀ a b : Ex, a.size ≤ n → Fc 43 [a.enc, b.enc] (.bool (a.same b))
  | 0, _, a, b, h => by have := a.size_pos; omega
  | n + 1, hn, a, b, h => by
    have hsz := a.size_eq
    have hlen := Ex.len_sizes a.args
    refine fn_of_awp (E := E0) (M := M0) follows Try.func43 rfl (by decide) ok43 (by decide) (by simp) fun o ho => ?_
    rw [Ex.same_eq]
    simp only [go_sem, Nat.reduceEqDiff, Nat.reduceAdd, Nat.reduceSub, Nat.reduceLeDiff, Nat.reduceLT, Nat.reduceMul, Nat.reduceBEq, Int.reduceEq, Int.reduceLT, Int.reduceLE, Int.reduceNeg, Int.reduceToNat, reduceCtorEq, ho, Try.results43, a.enc_eq, b.enc_eq]
    repeat' (first | (refine AIf_cases (fun h => ?_) (fun h => ?_) <;> (try simp only [decide_eq_true_eq, decide_eq_false_iff_not, Bool.not_eq_true', Bool.not_eq_false', Bool.not_eq_true, Bool.not_eq_false] at h) <;> (try simp only [go_sem, Nat.reduceEqDiff, Nat.reduceAdd, Nat.reduceSub, Nat.reduceLeDiff, Nat.reduceLT, Nat.reduceMul, Nat.reduceBEq, Int.reduceEq, Int.reduceLT, Int.reduceLE, Int.reduceNeg, Int.reduceToNat, reduceCtorEq, ho, Try.results43, h, a.enc_eq, b.enc_eq])) | (refine GCall.fr ?_ (eqf_fn n (same_fn n (by omega)) a.args b.args (by omega) (by omega)) (.inl rfl) ?_; (focus (first | rfl | ((simp only [go_sem, Nat.reduceEqDiff, Nat.reduceAdd, Nat.reduceSub, Nat.reduceLeDiff, Nat.reduceLT, Nat.reduceMul, Nat.reduceBEq, Int.reduceEq, Int.reduceLT, Int.reduceLE, Int.reduceNeg, Int.reduceToNat, reduceCtorEq, ho, Try.results43, a.enc_eq, b.enc_eq]); done) | ((simp only [go_sem, Nat.reduceEqDiff, Nat.reduceAdd, Nat.reduceSub, Nat.reduceLeDiff, Nat.reduceLT, Nat.reduceMul, Nat.reduceBEq, Int.reduceEq, Int.reduceLT, Int.reduceLE, Int.reduceNeg, Int.reduceToNat, reduceCtorEq, ho, Try.results43, a.enc_eq, b.enc_eq]); rfl))); (try simp only [go_sem, Nat.reduceEqDiff, Nat.reduceAdd, Nat.reduceSub, Nat.reduceLeDiff, Nat.reduceLT, Nat.reduceMul, Nat.reduceBEq, Int.reduceEq, Int.reduceLT, Int.reduceLE, Int.reduceNeg, Int.reduceToNat, reduceCtorEq, ho, Try.results43, a.enc_eq, b.enc_eq])) | (refine QCall.fr ?_ (eqf_fn n (same_fn n (by omega)) a.args b.args (by omega) (by omega)) (.inl rfl) ?_; (focus (first | rfl | ((simp only [go_sem, Nat.reduceEqDiff, Nat.reduceAdd, Nat.reduceSub, Nat.reduceLeDiff, Nat.reduceLT, Nat.reduceMul, Nat.reduceBEq, Int.reduceEq, Int.reduceLT, Int.reduceLE, Int.reduceNeg, Int.reduceToNat, reduceCtorEq, ho, Try.results43, a.enc_eq, b.enc_eq]); done) | ((simp only [go_sem, Nat.reduceEqDiff, Nat.reduceAdd, Nat.reduceSub, Nat.reduceLeDiff, Nat.reduceLT, Nat.reduceMul, Nat.reduceBEq, Int.reduceEq, Int.reduceLT, Int.reduceLE, Int.reduceNeg, Int.reduceToNat, reduceCtorEq, ho, Try.results43, a.enc_eq, b.enc_eq]); rfl))); (try simp only [go_sem, Nat.reduceEqDiff, Nat.reduceAdd, Nat.reduceSub, Nat.reduceLeDiff, Nat.reduceLT, Nat.reduceMul, Nat.reduceBEq, Int.reduceEq, Int.reduceLT, Int.reduceLE, Int.reduceNeg, Int.reduceToNat, reduceCtorEq, ho, Try.results43, a.enc_eq, b.enc_eq])))
    all_goals simp_all [Vl.eqB]
theorem ok44 : okCode M0 Try.f44.ntmps (Try.f44.body.getD .skip) = true := by decide +kernel
theorem rsame_fn : ∀ (n : Nat), n ≤ 100000000 → ∀ a b : Ex, a.size ≤ n → Fc 44 [a.enc, b.enc] (.bool (a.same b))
  | 0, _, a, b, h => by have := a.size_pos; omega
  | n + 1, hn, a, b, h => by
    have hsz := a.size_eq
    have hlen := Ex.len_sizes a.args
    refine fn_of_awp (E := E0) (M := M0) follows Try.func44 rfl (by decide) ok44 (by decide) (by simp) fun o ho => ?_
    simp only [go_sem, Nat.reduceEqDiff, Nat.reduceAdd, Nat.reduceSub, Nat.reduceLeDiff, Nat.reduceLT, Nat.reduceMul, Nat.reduceBEq, Int.reduceEq, Int.reduceLT, Int.reduceLE, Int.reduceNeg, Int.reduceToNat, reduceCtorEq, ho, Try.results44, a.enc_eq, b.enc_eq, List.length_map]
    by_cases hq : a.op = b.op
    case neg =>
      simp only [go_sem, Nat.reduceEqDiff, Nat.reduceAdd, Nat.reduceSub, Nat.reduceLeDiff, Nat.reduceLT, Nat.reduceMul, Nat.reduceBEq, Int.reduceEq, Int.reduceLT, Int.reduceLE, Int.reduceNeg, Int.reduceToNat, reduceCtorEq, ho, Try.results44, hq, Bool.and_false, Bool.false_and, decide_true, Bool.true_and, Bool.and_self, List.length_map]
      rw [Ex.same_eq]; simp [Vl.eqB, hq]
    by_cases hi : a.int = b.int
    case neg =>
      simp only [go_sem, Nat.reduceEqDiff, Nat.reduceAdd, Nat.reduceSub, Nat.reduceLeDiff, Nat.reduceLT, Nat.reduceMul, Nat.reduceBEq, Int.reduceEq, Int.reduceLT, Int.reduceLE, Int.reduceNeg, Int.reduceToNat, reduceCtorEq, ho, Try.results44, eq_true hq, hi, Bool.and_false, Bool.false_and, decide_true, Bool.true_and, Bool.and_self, List.length_map]
      rw [Ex.same_eq]; simp [Vl.eqB, hi]
    by_cases hk : a.val.kind = b.val.kind
    case neg =>
      simp only [go_sem, Nat.reduceEqDiff, Nat.reduceAdd, Nat.reduceSub, Nat.reduceLeDiff, Nat.reduceLT, Nat.reduceMul, Nat.reduceBEq, Int.reduceEq, Int.reduceLT, Int.reduceLE, Int.reduceNeg, Int.reduceToNat, reduceCtorEq, ho, Try.results44, eq_true hq, eq_true hi, hk, Bool.and_false, Bool.false_and, decide_true, Bool.true_and, Bool.and_self, List.length_map]
      rw [Ex.same_eq]; simp [Vl.eqB, hk]
    by_cases hv : a.val.int = b.val.int
    case neg =>
      simp only [go_sem, Nat.reduceEqDiff, Nat.reduceAdd, Nat.reduceSub, Nat.reduceLeDiff, Nat.reduceLT, Nat.reduceMul, Nat.reduceBEq, Int.reduceEq, Int.reduceLT, Int.reduceLE, Int.reduceNeg, Int.reduceToNat, reduceCtorEq, ho, Try.results44, eq_true hq, eq_true hi, eq_true hk, hv, Bool.and_false, Bool.false_and, decide_true, Bool.true_and, Bool.and_self, List.length_map]
      rw [Ex.same_eq]; simp [Vl.eqB, hv]
    by_cases ht : a.val.text = b.val.text
    case neg =>
      simp only [go_sem, Nat.reduceEqDiff, Nat.reduceAdd, Nat.reduceSub, Nat.reduceLeDiff, Nat.reduceLT, Nat.reduceMul, Nat.reduceBEq, Int.reduceEq, Int.reduceLT, Int.reduceLE, Int.reduceNeg, Int.reduceToNat, reduceCtorEq, ho, Try.results44, eq_true hq, eq_true hi, eq_true hk, eq_true hv, ht, Bool.and_false, Bool.false_and, decide_true, Bool.true_and, Bool.and_self, List.length_map]
      rw [Ex.same_eq]; simp [Vl.eqB, ht]
    by_cases hn' : a.name = b.name
    case neg =>
      simp only [go_sem, Nat.reduceEqDiff, Nat.reduceAdd, Nat.reduceSub, Nat.reduceLeDiff, Nat.reduceLT, Nat.reduceMul, Nat.reduceBEq, Int.reduceEq, Int.reduceLT, Int.reduceLE, Int.reduceNeg, Int.reduceToNat, reduceCtorEq, ho, Try.results44, eq_true hq, eq_true hi, eq_true hk, eq_true hv, eq_true ht, hn', Bool.and_false, Bool.false_and, decide_true, Bool.true_and, Bool.and_self, List.length_map]
      rw [Ex.same_eq]; simp [Vl.eqB, hn']
    by_cases hl : (a.args.length : Int) = (b.args.length : Int)
    case neg =>
      simp only [go_sem, Nat.reduceEqDiff, Nat.reduceAdd, Nat.reduceSub, Nat.reduceLeDiff, Nat.reduceLT, Nat.reduceMul, Nat.reduceBEq, Int.reduceEq, Int.reduceLT, Int.reduceLE, Int.reduceNeg, Int.reduceToNat, reduceCtorEq, ho, Try.results44, eq_true hq, eq_true hi, eq_true hk, eq_true hv, eq_true ht, eq_true hn', hl, Bool.and_false, Bool.false_and, decide_true, Bool.true_and, Bool.and_self, List.length_map]
      cases hf : a.same b with
      | false => rfl
      | true =>
        rw [Ex.same_eq] at hf
        simp only [Bool.and_eq_true] at hf
        exact absurd (congrArg (fun n : Nat => (n : Int)) (Ex.sames_len hf.2.2.2.2)) hl
    have hsame : a.same b = Ex.sames a.args b.args := by rw [Ex.same_eq]; simp [Vl.eqB, hq, hi, hk, hv, ht, hn']
    rw [hsame]
    simp only [go_sem, Nat.reduceEqDiff, Nat.reduceAdd, Nat.reduceSub, Nat.reduceLeDiff, Nat.reduceLT, Nat.reduceMul, Nat.reduceBEq, Int.reduceEq, Int.reduceLT, Int.reduceLE, Int.reduceNeg, Int.reduceToNat, reduceCtorEq, ho, Try.results44, eq_true hq, eq_true hi, eq_true hk, eq_true hv, eq_true ht, eq_true hn', eq_true hl, decide_true, Bool.true_and, Bool.and_self, List.length_map]
    refine ⟨fun k st => ∃ (d1 r1 d2 r2 : List Ex), a.args = d1 ++ r1 ∧ b.args = d2 ++ r2 ∧ d1.length = d2.length ∧ r1.length = k ∧ Ex.sames r1 r2 = Ex.sames a.args b.args ∧ st.s 5 = .int .i64 d1.length ∧ st.s 2 = .ptr 2 1 0 ∧ st.s 3 = .ptr 3 1 0 ∧ getBox st.o 2 1 = some (49, a.enc.cells) ∧ getBox st.o 3 1 = some (49, b.enc.cells), a.args.length,
      ⟨[], a.args, [], b.args, rfl, rfl, rfl, rfl, rfl, by simp only [go_sem, Nat.reduceEqDiff, Nat.reduceAdd, Nat.reduceSub, Nat.reduceLeDiff, Nat.reduceLT, Nat.reduceMul, Nat.reduceBEq, Int.reduceEq, Int.reduceLT, Int.reduceLE, Int.reduceNeg, Int.reduceToNat, reduceCtorEq, ho, Try.results44]; rfl, by simp only [go_sem, Nat.reduceEqDiff, Nat.reduceAdd, Nat.reduceSub, Nat.reduceLeDiff, Nat.reduceLT, Nat.reduceMul, Nat.reduceBEq, Int.reduceEq, Int.reduceLT, Int.reduceLE, Int.reduceNeg, Int.reduceToNat, reduceCtorEq, ho, Try.results44], by simp only [go_sem, Nat.reduceEqDiff, Nat.reduceAdd, Nat.reduceSub, Nat.reduceLeDiff, Nat.reduceLT, Nat.reduceMul, Nat.reduceBEq, Int.reduceEq, Int.reduceLT, Int.reduceLE, Int.reduceNeg, Int.reduceToNat, reduceCtorEq, ho, Try.results44], by simp only [go_sem, Nat.reduceEqDiff, Nat.reduceAdd, Nat.reduceSub, Nat.reduceLeDiff, Nat.reduceLT, Nat.reduceMul, Nat.reduceBEq, Int.reduceEq, Int.reduceLT, Int.reduceLE, Int.reduceNeg, Int.reduceToNat, reduceCtorEq, ho, Try.results44], by simp only [go_sem, Nat.reduceEqDiff, Nat.reduceAdd, Nat.reduceSub, Nat.reduceLeDiff, Nat.reduceLT, Nat.reduceMul, Nat.reduceBEq, Int.reduceEq, Int.reduceLT, Int.reduceLE, Int.reduceNeg, Int.reduceToNat, reduceCtorEq, ho, Try.results44]⟩, ?_⟩
    rintro k st ⟨d1, r1, d2, r2, h1, h2, hd, hm, hf, h5, hs2, hs3, hb2, hb3⟩
    have hl1 : d1.length + r1.length = a.args.length := by rw [h1]; simp
    have hl2 : d2.length + r2.length = b.args.length := by rw [h2]; simp
    have hw : IntKind.i64.wrap ((d1.length : Int) + 1) = (d1.length : Int) + 1 := wrap_fits (by omega) (by omega)
    cases r1 with
    | nil =>
      have hlt : ¬ (d1.length : Int) < (a.args.length : Int) := by simp at hl1; omega
      obtain rfl : r2 = [] := List.eq_nil_of_length_eq_zero (by simp at hl1; omega)
      simp only [go_sem, Nat.reduceEqDiff, Nat.reduceAdd, Nat.reduceSub, Nat.reduceLeDiff, Nat.reduceLT, Nat.reduceMul, Nat.reduceBEq, Int.reduceEq, Int.reduceLT, Int.reduceLE, Int.reduceNeg, Int.reduceToNat, reduceCtorEq, ho, Try.results44, h5, hs2, hb2, hlt, List.length_map]
      rw [← hf]; rfl
    | cons x r1 =>
      cases r2 with
      | nil => simp at hl1 hl2; omega
      | cons y r2 =>
        have hlt : (d1.length : Int) < (a.args.length : Int) := by simp at hl1; omega
        have hget := exs_get h1
        have hget2 : (b.args.map Ex.enc)[d1.length]? = some y.enc := by rw [hd, h2]; simp
        have hx : x.size ≤ n := by have := hsz; rw [h1, Ex.sizes_app] at this; simp [Ex.sizes] at this; omega
        rw [Ex.sames] at hf
        simp only [go_sem, Nat.reduceEqDiff, Nat.reduceAdd, Nat.reduceSub, Nat.reduceLeDiff, Nat.reduceLT, Nat.reduceMul, Nat.reduceBEq, Int.reduceEq, Int.reduceLT, Int.reduceLE, Int.reduceNeg, Int.reduceToNat, reduceCtorEq, ho, Try.results44, h5, hs2, hs3, hb2, hb3, hlt, hget, hget2, Int.natCast_nonneg, Int.toNat_natCast, List.length_map]
        refine QCall.fr ?_ (rsame_fn n (by omega) x y hx) (.inl rfl) ?_; (focus (first | rfl | ((simp only [go_sem, Nat.reduceEqDiff, Nat.reduceAdd, Nat.reduceSub, Nat.reduceLeDiff, Nat.reduceLT, Nat.reduceMul, Nat.reduceBEq, Int.reduceEq, Int.reduceLT, Int.reduceLE, Int.reduceNeg, Int.reduceToNat, reduceCtorEq, ho, Try.results44, x.enc_eq, y.enc_eq]); done) | ((simp only [go_sem, Nat.reduceEqDiff, Nat.reduceAdd, Nat.reduceSub, Nat.reduceLeDiff, Nat.reduceLT, Nat.reduceMul, Nat.reduceBEq, Int.reduceEq, Int.reduceLT, Int.reduceLE, Int.reduceNeg, Int.reduceToNat, reduceCtorEq, ho, Try.results44, x.enc_eq, y.enc_eq]); rfl)))
        simp only [go_sem, Nat.reduceEqDiff, Nat.reduceAdd, Nat.reduceSub, Nat.reduceLeDiff, Nat.reduceLT, Nat.reduceMul, Nat.reduceBEq, Int.reduceEq, Int.reduceLT, Int.reduceLE, Int.reduceNeg, Int.reduceToNat, reduceCtorEq, ho, Try.results44, h5, hs2, hs3, hb2, hb3]
        cases hxy : x.same y with
        | true =>
          rw [hxy, Bool.true_and] at hf
          have hb2' := hb2
          rw [a.enc_cells] at hb2'
          have hb3' := hb3
          rw [b.enc_cells] at hb3'
          simp only [go_sem, Nat.reduceEqDiff, Nat.reduceAdd, Nat.reduceSub, Nat.reduceLeDiff, Nat.reduceLT, Nat.reduceMul, Nat.reduceBEq, Int.reduceEq, Int.reduceLT, Int.reduceLE, Int.reduceNeg, Int.reduceToNat, reduceCtorEq, ho, Try.results44, hxy, h5, hs2, hs3, hb2', hb3', hw]
          exact ⟨r1.length, by simp at hm; omega, d1 ++ [x], r1, d2 ++ [y], r2, by simp [h1], by simp [h2], by simp [hd], rfl, hf, by simp⟩
        | false =>
          rw [hxy, Bool.false_and] at hf
          simp only [go_sem, Nat.reduceEqDiff, Nat.reduceAdd, Nat.reduceSub, Nat.reduceLeDiff, Nat.reduceLT, Nat.reduceMul, Nat.reduceBEq, Int.reduceEq, Int.reduceLT, Int.reduceLE, Int.reduceNeg, Int.reduceToNat, reduceCtorEq, ho, Try.results44, hxy]
          rw [← hf]
theorem ok46 : okCode M0 Try.f46.ntmps (Try.f46.body.getD .skip) = true := by decide +kernel
theorem rdepthMax_fn (e : Ex) (h : e.size ≤ 1000000000) : Fc 46 [e.enc] (.int .i64 (min (e.depth : Int) 25)) := by
  refine fn_of_awp (E := E0) (M := M0) follows Try.func46 rfl (by decide) ok46 (by decide) (by simp) fun o ho => ?_
  simp only [go_sem, Nat.reduceEqDiff, Nat.reduceAdd, Nat.reduceSub, Nat.reduceLeDiff, Nat.reduceLT, Nat.reduceMul, Nat.reduceBEq, Int.reduceEq, Int.reduceLT, Int.reduceLE, Int.reduceNeg, Int.reduceToNat, reduceCtorEq, ho, Try.results46, e.enc_eq]
  refine GCall.fr ?_ (rdepth_fn _ e (Nat.le_refl _) h) (.inl rfl) ?_; (focus (first | rfl | ((simp only [go_sem, Nat.reduceEqDiff, Nat.reduceAdd, Nat.reduceSub, Nat.reduceLeDiff, Nat.reduceLT, Nat.reduceMul, Nat.reduceBEq, Int.reduceEq, Int.reduceLT, Int.reduceLE, Int.reduceNeg, Int.reduceToNat, reduceCtorEq, ho, Try.results46, e.enc_eq]); done) | ((simp only [go_sem, Nat.reduceEqDiff, Nat.reduceAdd, Nat.reduceSub, Nat.reduceLeDiff, Nat.reduceLT, Nat.reduceMul, Nat.reduceBEq, Int.reduceEq, Int.reduceLT, Int.reduceLE, Int.reduceNeg, Int.reduceToNat, reduceCtorEq, ho, Try.results46, e.enc_eq]); rfl)))
  simp only [go_sem, Nat.reduceEqDiff, Nat.reduceAdd, Nat.reduceSub, Nat.reduceLeDiff, Nat.reduceLT, Nat.reduceMul, Nat.reduceBEq, Int.reduceEq, Int.reduceLT, Int.reduceLE, Int.reduceNeg, Int.reduceToNat, reduceCtorEq, ho, Try.results46]
  split <;> omega
theorem ok11 : okCode M0 Try.f11.ntmps (Try.f11.body.getD .skip) = true := by decide +kernel
theorem exprCompares_fn (a b : Ex) (h : a.bulk + b.bulk ≤ 1048576) : Fc 11 [a.enc, b.enc] (.bool true) := by
  have hs := a.size_bulk
  refine fn_of_awp (E := E0) (M := M0) follows Try.func11 rfl (by decide) ok11 (by decide) (by simp) fun o ho => ?_
  simp only [go_sem, Nat.reduceEqDiff, Nat.reduceAdd, Nat.reduceSub, Nat.reduceLeDiff, Nat.reduceLT, Nat.reduceMul, Nat.reduceBEq, Int.reduceEq, Int.reduceLT, Int.reduceLE, Int.reduceNeg, Int.reduceToNat, reduceCtorEq, ho, Try.results11, a.enc_eq, b.enc_eq]
  refine QCall.fr ?_ (same_fn _ (by omega) a b (Nat.le_refl _)) (.inl rfl) ?_; (focus (first | rfl | ((simp only [go_sem, Nat.reduceEqDiff, Nat.reduceAdd, Nat.reduceSub, Nat.reduceLeDiff, Nat.reduceLT, Nat.reduceMul, Nat.reduceBEq, Int.reduceEq, Int.reduceLT, Int.reduceLE, Int.reduceNeg, Int.reduceToNat, reduceCtorEq, ho, Try.results11, a.enc_eq, b.enc_eq]); done) | ((simp only [go_sem, Nat.reduceEqDiff, Nat.reduceAdd, Nat.reduceSub, Nat.reduceLeDiff, Nat.reduceLT, Nat.reduceMul, Nat.reduceBEq, Int.reduceEq, Int.reduceLT, Int.reduceLE, Int.reduceNeg, Int.reduceToNat, reduceCtorEq, ho, Try.results11, a.enc_eq, b.enc_eq]); rfl)))
  simp only [go_sem, Nat.reduceEqDiff, Nat.reduceAdd, Nat.reduceSub, Nat.reduceLeDiff, Nat.reduceLT, Nat.reduceMul, Nat.reduceBEq, Int.reduceEq, Int.reduceLT, Int.reduceLE, Int.reduceNeg, Int.reduceToNat, reduceCtorEq, ho, Try.results11, a.enc_eq, b.enc_eq]
  refine QCall.fr ?_ (rsame_fn _ (by omega) a b (Nat.le_refl _)) (.inl rfl) ?_; (focus (first | rfl | ((simp only [go_sem, Nat.reduceEqDiff, Nat.reduceAdd, Nat.reduceSub, Nat.reduceLeDiff, Nat.reduceLT, Nat.reduceMul, Nat.reduceBEq, Int.reduceEq, Int.reduceLT, Int.reduceLE, Int.reduceNeg, Int.reduceToNat, reduceCtorEq, ho, Try.results11, a.enc_eq, b.enc_eq]); done) | ((simp only [go_sem, Nat.reduceEqDiff, Nat.reduceAdd, Nat.reduceSub, Nat.reduceLeDiff, Nat.reduceLT, Nat.reduceMul, Nat.reduceBEq, Int.reduceEq, Int.reduceLT, Int.reduceLE, Int.reduceNeg, Int.reduceToNat, reduceCtorEq, ho, Try.results11, a.enc_eq, b.enc_eq]); rfl)))
  simp only [go_sem, Nat.reduceEqDiff, Nat.reduceAdd, Nat.reduceSub, Nat.reduceLeDiff, Nat.reduceLT, Nat.reduceMul, Nat.reduceBEq, Int.reduceEq, Int.reduceLT, Int.reduceLE, Int.reduceNeg, Int.reduceToNat, reduceCtorEq, ho, Try.results11, a.enc_eq, b.enc_eq, beq_self_eq_true]
  refine QCall.fr ?_ (same_fn _ (by omega) a a (Nat.le_refl _)) (.inl rfl) ?_; (focus (first | rfl | ((simp only [go_sem, Nat.reduceEqDiff, Nat.reduceAdd, Nat.reduceSub, Nat.reduceLeDiff, Nat.reduceLT, Nat.reduceMul, Nat.reduceBEq, Int.reduceEq, Int.reduceLT, Int.reduceLE, Int.reduceNeg, Int.reduceToNat, reduceCtorEq, ho, Try.results11, a.enc_eq, b.enc_eq]); done) | ((simp only [go_sem, Nat.reduceEqDiff, Nat.reduceAdd, Nat.reduceSub, Nat.reduceLeDiff, Nat.reduceLT, Nat.reduceMul, Nat.reduceBEq, Int.reduceEq, Int.reduceLT, Int.reduceLE, Int.reduceNeg, Int.reduceToNat, reduceCtorEq, ho, Try.results11, a.enc_eq, b.enc_eq]); rfl)))
  simp only [go_sem, Nat.reduceEqDiff, Nat.reduceAdd, Nat.reduceSub, Nat.reduceLeDiff, Nat.reduceLT, Nat.reduceMul, Nat.reduceBEq, Int.reduceEq, Int.reduceLT, Int.reduceLE, Int.reduceNeg, Int.reduceToNat, reduceCtorEq, ho, Try.results11, Ex.same_self]
  refine QCall.fr ?_ (depthMax_fn a (by omega)) (.inl rfl) ?_; (focus (first | rfl | ((simp only [go_sem, Nat.reduceEqDiff, Nat.reduceAdd, Nat.reduceSub, Nat.reduceLeDiff, Nat.reduceLT, Nat.reduceMul, Nat.reduceBEq, Int.reduceEq, Int.reduceLT, Int.reduceLE, Int.reduceNeg, Int.reduceToNat, reduceCtorEq, ho, Try.results11, a.enc_eq]); done) | ((simp only [go_sem, Nat.reduceEqDiff, Nat.reduceAdd, Nat.reduceSub, Nat.reduceLeDiff, Nat.reduceLT, Nat.reduceMul, Nat.reduceBEq, Int.reduceEq, Int.reduceLT, Int.reduceLE, Int.reduceNeg, Int.reduceToNat, reduceCtorEq, ho, Try.results11, a.enc_eq]); rfl)))
  simp only [go_sem, Nat.reduceEqDiff, Nat.reduceAdd, Nat.reduceSub, Nat.reduceLeDiff, Nat.reduceLT, Nat.reduceMul, Nat.reduceBEq, Int.reduceEq, Int.reduceLT, Int.reduceLE, Int.reduceNeg, Int.reduceToNat, reduceCtorEq, ho, Try.results11]
  refine QCall.fr ?_ (rdepthMax_fn a (by omega)) (.inl rfl) ?_; (focus (first | rfl | ((simp only [go_sem, Nat.reduceEqDiff, Nat.reduceAdd, Nat.reduceSub, Nat.reduceLeDiff, Nat.reduceLT, Nat.reduceMul, Nat.reduceBEq, Int.reduceEq, Int.reduceLT, Int.reduceLE, Int.reduceNeg, Int.reduceToNat, reduceCtorEq, ho, Try.results11, a.enc_eq]); done) | ((simp only [go_sem, Nat.reduceEqDiff, Nat.reduceAdd, Nat.reduceSub, Nat.reduceLeDiff, Nat.reduceLT, Nat.reduceMul, Nat.reduceBEq, Int.reduceEq, Int.reduceLT, Int.reduceLE, Int.reduceNeg, Int.reduceToNat, reduceCtorEq, ho, Try.results11, a.enc_eq]); rfl)))
  simp only [go_sem, Nat.reduceEqDiff, Nat.reduceAdd, Nat.reduceSub, Nat.reduceLeDiff, Nat.reduceLT, Nat.reduceMul, Nat.reduceBEq, Int.reduceEq, Int.reduceLT, Int.reduceLE, Int.reduceNeg, Int.reduceToNat, reduceCtorEq, ho, Try.results11, decide_true, eq_self]
  refine QCall.fr ?_ (awake_fn) (.inl rfl) ?_; (focus (first | rfl | ((simp only [go_sem, Nat.reduceEqDiff, Nat.reduceAdd, Nat.reduceSub, Nat.reduceLeDiff, Nat.reduceLT, Nat.reduceMul, Nat.reduceBEq, Int.reduceEq, Int.reduceLT, Int.reduceLE, Int.reduceNeg, Int.reduceToNat, reduceCtorEq, ho, Try.results11]); done) | ((simp only [go_sem, Nat.reduceEqDiff, Nat.reduceAdd, Nat.reduceSub, Nat.reduceLeDiff, Nat.reduceLT, Nat.reduceMul, Nat.reduceBEq, Int.reduceEq, Int.reduceLT, Int.reduceLE, Int.reduceNeg, Int.reduceToNat, reduceCtorEq, ho, Try.results11]); rfl)))
  simp only [go_sem, Nat.reduceEqDiff, Nat.reduceAdd, Nat.reduceSub, Nat.reduceLeDiff, Nat.reduceLT, Nat.reduceMul, Nat.reduceBEq, Int.reduceEq, Int.reduceLT, Int.reduceLE, Int.reduceNeg, Int.reduceToNat, reduceCtorEq, ho, Try.results11]
end Go.Proofs.Ytiefnninebilbaa
