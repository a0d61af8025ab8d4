/- Definitions of tables as plain data; what the kinds of their columns and the acceptance of rows return; no condition. -/
import Derived.Test.YtiefnninebilbaaMse
set_option maxRecDepth 100000
set_option linter.unusedVariables false
set_option linter.unusedSimpArgs false
namespace Go.Proofs.Ytiefnninebilbaa
open Go Go.Sx

structure Col where
  name : ByteArray
  kind : Int
  nul : Bool
structure Fo where
  cols : List Int
  tab : ByteArray
structure Tb where
  name : ByteArray
  cols : List Col
  key : List Int
  fors : List Fo
  chks : List Ex
def Col.enc (c : Col) : PV := .agg [.str c.name, .int .i64 c.kind, .bool c.nul]
@[go_sem] theorem Col.enc_cells (c : Col) : c.enc.cells = [.str c.name, .int .i64 c.kind, .bool c.nul] := rfl
def Fo.enc (f : Fo) : PV := .agg [.sl (f.cols.map (.int .i64)), .str f.tab]
@[go_sem] theorem Fo.enc_cells (f : Fo) : f.enc.cells = [.sl (f.cols.map (.int .i64)), .str f.tab] := rfl
def Tb.enc (t : Tb) : PV := .agg [.str t.name, .sl (t.cols.map Col.enc), .sl (t.key.map (.int .i64)), .sl (t.fors.map Fo.enc), .sl (t.chks.map Ex.enc)]
@[go_sem] theorem Tb.enc_cells (t : Tb) : t.enc.cells = [.str t.name, .sl (t.cols.map Col.enc), .sl (t.key.map (.int .i64)), .sl (t.fors.map Fo.enc), .sl (t.chks.map Ex.enc)] := rfl
theorem ok145 : okCode M0 Try.f145.ntmps (Try.f145.body.getD .skip) = true := by decide +kernel
theorem kindOK_fn (k : Int) : Fc 145 [.int .i64 k] (.bool (decide (1 ≤ k) && decide (k ≤ 3))) := by
  refine fn_of_awp (E := E0) (M := M0) follows Try.func145 rfl (by decide) ok145 (by decide) (by simp) fun o ho => ?_
  simp only [go_sem, Nat.reduceEqDiff, Nat.reduceAdd, Nat.reduceSub, Nat.reduceLeDiff, Nat.reduceLT, Nat.reduceMul, Nat.reduceBEq, Int.reduceEq, Int.reduceLT, Int.reduceLE, Int.reduceNeg, Int.reduceToNat, reduceCtorEq, ho, Try.results145]
  repeat' (first | (refine AIf_cases (fun h => ?_) (fun h => ?_) <;> (try simp only [decide_eq_true_eq, decide_eq_false_iff_not, Bool.not_eq_true', Bool.not_eq_false', Bool.not_eq_true, Bool.not_eq_false] at h) <;> (try simp only [go_sem, Nat.reduceEqDiff, Nat.reduceAdd, Nat.reduceSub, Nat.reduceLeDiff, Nat.reduceLT, Nat.reduceMul, Nat.reduceBEq, Int.reduceEq, Int.reduceLT, Int.reduceLE, Int.reduceNeg, Int.reduceToNat, reduceCtorEq, ho, Try.results145, h])))
  all_goals simp_all
def Tb.has (t : Tb) (i : Int) : Bool := decide (0 ≤ i) && decide (i < t.cols.length)
theorem ok146 : okCode M0 Try.f146.ntmps (Try.f146.body.getD .skip) = true := by decide +kernel
theorem has_fn (t : Tb) (i : Int) : Fc 146 [t.enc, .int .i64 i] (.bool (t.has i)) := by
  refine fn_of_awp (E := E0) (M := M0) follows Try.func146 rfl (by decide) ok146 (by decide) (by simp) fun o ho => ?_
  simp only [go_sem, Nat.reduceEqDiff, Nat.reduceAdd, Nat.reduceSub, Nat.reduceLeDiff, Nat.reduceLT, Nat.reduceMul, Nat.reduceBEq, Int.reduceEq, Int.reduceLT, Int.reduceLE, Int.reduceNeg, Int.reduceToNat, reduceCtorEq, ho, Try.results146, Tb.enc, List.length_map]
  repeat' (first | (refine AIf_cases (fun h => ?_) (fun h => ?_) <;> (try simp only [decide_eq_true_eq, decide_eq_false_iff_not, Bool.not_eq_true', Bool.not_eq_false', Bool.not_eq_true, Bool.not_eq_false] at h) <;> (try simp only [go_sem, Nat.reduceEqDiff, Nat.reduceAdd, Nat.reduceSub, Nat.reduceLeDiff, Nat.reduceLT, Nat.reduceMul, Nat.reduceBEq, Int.reduceEq, Int.reduceLT, Int.reduceLE, Int.reduceNeg, Int.reduceToNat, reduceCtorEq, ho, Try.results146, h, List.length_map])))
  all_goals (first | (simp_all [Tb.has]; done) | (simp_all [Tb.has]; intros; omega))
theorem ok147 : okCode M0 Try.f147.ntmps (Try.f147.body.getD .skip) = true := by decide +kernel
theorem rhas_fn (t : Tb) (i : Int) : Fc 147 [t.enc, .int .i64 i] (.bool (t.has i)) := by
  refine fn_of_awp (E := E0) (M := M0) follows Try.func147 rfl (by decide) ok147 (by decide) (by simp) fun o ho => ?_
  simp only [go_sem, Nat.reduceEqDiff, Nat.reduceAdd, Nat.reduceSub, Nat.reduceLeDiff, Nat.reduceLT, Nat.reduceMul, Nat.reduceBEq, Int.reduceEq, Int.reduceLT, Int.reduceLE, Int.reduceNeg, Int.reduceToNat, reduceCtorEq, ho, Try.results147, Tb.enc, List.length_map]
  repeat' (first | (refine AIf_cases (fun h => ?_) (fun h => ?_) <;> (try simp only [decide_eq_true_eq, decide_eq_false_iff_not, Bool.not_eq_true', Bool.not_eq_false', Bool.not_eq_true, Bool.not_eq_false] at h) <;> (try simp only [go_sem, Nat.reduceEqDiff, Nat.reduceAdd, Nat.reduceSub, Nat.reduceLeDiff, Nat.reduceLT, Nat.reduceMul, Nat.reduceBEq, Int.reduceEq, Int.reduceLT, Int.reduceLE, Int.reduceNeg, Int.reduceToNat, reduceCtorEq, ho, Try.results147, h, List.length_map])))
  all_goals (first | (simp_all [Tb.has]; done) | (simp_all [Tb.has]; intros; omega))
def Tb.kinds (t : Tb) : List Int := t.cols.map Col.kind
theorem cols_get {l done rest : List Col} {c : Col} (h : l = done ++ c :: rest) : (l.map Col.enc)[done.length]? = some c.enc := by simp [h]
theorem ok29 : okCode M0 Try.f29.ntmps (Try.f29.body.getD .skip) = true := by decide +kernel
theorem kinds_fn (t : Tb) (hl : t.cols.length ≤ 100000000) : Fc 29 [t.enc] (.sl (t.kinds.map (.int .i64))) := by
  refine fn_of_awp (E := E0) (M := M0) follows Try.func29 rfl (by decide) ok29 (by decide) (by simp) fun o ho => ?_
  simp only [go_sem, Nat.reduceEqDiff, Nat.reduceAdd, Nat.reduceSub, Nat.reduceLeDiff, Nat.reduceLT, Nat.reduceMul, Nat.reduceBEq, Int.reduceEq, Int.reduceLT, Int.reduceLE, Int.reduceNeg, Int.reduceToNat, reduceCtorEq, ho, Try.results29, Tb.enc, List.length_map]
  refine ⟨fun n st => ∃ (done rest : List Col), t.cols = done ++ rest ∧ rest.length = n ∧ st.s 9 = .int .i64 done.length ∧ st.s 8 = .int .i64 t.cols.length ∧ st.s 7 = .sl (t.cols.map Col.enc) ∧ ((done = [] ∧ st.s 3 = .nil) ∨ (done ≠ [] ∧ ∃ v, st.s 3 = .ref 17 v ∧ st.o 17 = (v, some (true, .row 3 ((done.map Col.kind).map (.int .i64)))))), t.cols.length,
    ⟨[], t.cols, rfl, rfl, by simp only [go_sem, Nat.reduceEqDiff, Nat.reduceAdd, Nat.reduceSub, Nat.reduceLeDiff, Nat.reduceLT, Nat.reduceMul, Nat.reduceBEq, Int.reduceEq, Int.reduceLT, Int.reduceLE, Int.reduceNeg, Int.reduceToNat, reduceCtorEq, ho, Try.results29]; rfl, by simp only [go_sem, Nat.reduceEqDiff, Nat.reduceAdd, Nat.reduceSub, Nat.reduceLeDiff, Nat.reduceLT, Nat.reduceMul, Nat.reduceBEq, Int.reduceEq, Int.reduceLT, Int.reduceLE, Int.reduceNeg, Int.reduceToNat, reduceCtorEq, ho, Try.results29], by simp only [go_sem, Nat.reduceEqDiff, Nat.reduceAdd, Nat.reduceSub, Nat.reduceLeDiff, Nat.reduceLT, Nat.reduceMul, Nat.reduceBEq, Int.reduceEq, Int.reduceLT, Int.reduceLE, Int.reduceNeg, Int.reduceToNat, reduceCtorEq, ho, Try.results29], .inl ⟨rfl, by simp only [go_sem, Nat.reduceEqDiff, Nat.reduceAdd, Nat.reduceSub, Nat.reduceLeDiff, Nat.reduceLT, Nat.reduceMul, Nat.reduceBEq, Int.reduceEq, Int.reduceLT, Int.reduceLE, Int.reduceNeg, Int.reduceToNat, reduceCtorEq, ho, Try.results29]⟩⟩, ?_⟩
  rintro n st ⟨done, rest, hl', hn, h9, h8, h7, h3⟩
  have hlen2 : done.length + rest.length = t.cols.length := by rw [hl']; simp
  have hw : IntKind.i64.wrap ((done.length : Int) + 1) = (done.length : Int) + 1 := wrap_fits (by omega) (by omega)
  cases rest with
  | nil =>
    have hlt : ¬ (done.length : Int) < (t.cols.length : Int) := by simp at hlen2; omega
    have hd : t.cols = done := by simpa using hl'
    rcases h3 with ⟨hd0, h3⟩ | ⟨hne, v, h3, h17⟩
    · simp only [go_sem, Nat.reduceEqDiff, Nat.reduceAdd, Nat.reduceSub, Nat.reduceLeDiff, Nat.reduceLT, Nat.reduceMul, Nat.reduceBEq, Int.reduceEq, Int.reduceLT, Int.reduceLE, Int.reduceNeg, Int.reduceToNat, reduceCtorEq, ho, Try.results29, h9, h8, hlt, h3]
      simp [Tb.kinds, hd, hd0]
    · have hrow : getRow st.o 17 v = some (3, (done.map Col.kind).map (.int .i64)) := by simp [getRow, h17]
      simp only [go_sem, Nat.reduceEqDiff, Nat.reduceAdd, Nat.reduceSub, Nat.reduceLeDiff, Nat.reduceLT, Nat.reduceMul, Nat.reduceBEq, Int.reduceEq, Int.reduceLT, Int.reduceLE, Int.reduceNeg, Int.reduceToNat, reduceCtorEq, ho, Try.results29, h9, h8, hlt, h3, hrow]
      simp [Tb.kinds, hd]
  | cons c rest =>
    have hlt : (done.length : Int) < (t.cols.length : Int) := by simp at hlen2; omega
    have hget := cols_get hl'
    have hbig : (done.length + 1) * 9 ≤ 140737488355328 := by omega
    simp only [go_sem, Nat.reduceEqDiff, Nat.reduceAdd, Nat.reduceSub, Nat.reduceLeDiff, Nat.reduceLT, Nat.reduceMul, Nat.reduceBEq, Int.reduceEq, Int.reduceLT, Int.reduceLE, Int.reduceNeg, Int.reduceToNat, reduceCtorEq, ho, Try.results29, h9, h8, h7, hlt, hget, Int.natCast_nonneg, Int.toNat_natCast, Col.enc]
    rcases h3 with ⟨rfl, h3⟩ | ⟨hne, v, h3, h17⟩
    · simp only [go_sem, Nat.reduceEqDiff, Nat.reduceAdd, Nat.reduceSub, Nat.reduceLeDiff, Nat.reduceLT, Nat.reduceMul, Nat.reduceBEq, Int.reduceEq, Int.reduceLT, Int.reduceLE, Int.reduceNeg, Int.reduceToNat, reduceCtorEq, ho, Try.results29, h9, h8, h7, h3, hw, Col.enc]
      exact ⟨rest.length, by simp at hn; omega, [c], rest, by simpa using hl', rfl, rfl, .inr ⟨by simp, _, rfl, by simp⟩⟩
    · simp only [go_sem, Nat.reduceEqDiff, Nat.reduceAdd, Nat.reduceSub, Nat.reduceLeDiff, Nat.reduceLT, Nat.reduceMul, Nat.reduceBEq, Int.reduceEq, Int.reduceLT, Int.reduceLE, Int.reduceNeg, Int.reduceToNat, reduceCtorEq, ho, Try.results29, h9, h8, h7, h3, h17, hbig, List.length_map, hw, Col.enc]
      exact ⟨rest.length, by simp at hn; omega, done ++ [c], rest, by simp [hl'], rfl, by simp, .inr ⟨by simp, _, rfl, by simp⟩⟩
def acc : List Vl → List Col → Int
  | v :: r, c :: cs => if v.valid = false then 8 else if v.kind = 0 ∧ c.nul = false then 12 else if v.kind ≠ 0 ∧ v.kind ≠ c.kind then 7 else acc r cs
  | _, _ => 0
def Tb.accepts (t : Tb) (row : List Vl) : Int := if row.length ≠ t.cols.length then 13 else acc row t.cols
theorem ok24 : okCode M0 Try.f24.ntmps (Try.f24.body.getD .skip) = true := by decide +kernel
theorem accepts_fn (t : Tb) (row : List Vl) (hl : row.length ≤ 100000000) : Fc 24 [t.enc, .sl (row.map Vl.enc)] (.int .i64 (t.accepts row)) := by
  refine fn_of_awp (E := E0) (M := M0) follows Try.func24 rfl (by decide) ok24 (by decide) (by simp) fun o ho => ?_
  simp only [go_sem, Nat.reduceEqDiff, Nat.reduceAdd, Nat.reduceSub, Nat.reduceLeDiff, Nat.reduceLT, Nat.reduceMul, Nat.reduceBEq, Int.reduceEq, Int.reduceLT, Int.reduceLE, Int.reduceNeg, Int.reduceToNat, reduceCtorEq, ho, Try.results24, Tb.enc, List.length_map]
  by_cases hlen : row.length = t.cols.length
  · have hlen' : (row.length : Int) = (t.cols.length : Int) := by omega
    have hacc : t.accepts row = acc row t.cols := if_neg (by simpa using hlen)
    rw [hacc]
    simp only [go_sem, Nat.reduceEqDiff, Nat.reduceAdd, Nat.reduceSub, Nat.reduceLeDiff, Nat.reduceLT, Nat.reduceMul, Nat.reduceBEq, Int.reduceEq, Int.reduceLT, Int.reduceLE, Int.reduceNeg, Int.reduceToNat, reduceCtorEq, ho, Try.results24, eq_true hlen', List.length_map]
    refine ⟨fun n st => ∃ (d1 r1 : List Vl) (d2 r2 : List Col), row = d1 ++ r1 ∧ t.cols = d2 ++ r2 ∧ d1.length = d2.length ∧ r1.length = n ∧ acc r1 r2 = acc row t.cols ∧ st.s 16 = .int .i64 d1.length ∧ st.s 15 = .int .i64 row.length ∧ st.s 14 = .sl (row.map Vl.enc) ∧ st.s 2 = .ptr 2 1 0 ∧ getBox st.o 2 1 = some (27, t.enc.cells), row.length,
      ⟨[], row, [], t.cols, rfl, rfl, rfl, rfl, rfl, by simp only [go_sem, Nat.reduceEqDiff, Nat.reduceAdd, Nat.reduceSub, Nat.reduceLeDiff, Nat.reduceLT, Nat.reduceMul, Nat.reduceBEq, Int.reduceEq, Int.reduceLT, Int.reduceLE, Int.reduceNeg, Int.reduceToNat, reduceCtorEq, ho, Try.results24]; rfl, by simp only [go_sem, Nat.reduceEqDiff, Nat.reduceAdd, Nat.reduceSub, Nat.reduceLeDiff, Nat.reduceLT, Nat.reduceMul, Nat.reduceBEq, Int.reduceEq, Int.reduceLT, Int.reduceLE, Int.reduceNeg, Int.reduceToNat, reduceCtorEq, ho, Try.results24], by simp only [go_sem, Nat.reduceEqDiff, Nat.reduceAdd, Nat.reduceSub, Nat.reduceLeDiff, Nat.reduceLT, Nat.reduceMul, Nat.reduceBEq, Int.reduceEq, Int.reduceLT, Int.reduceLE, Int.reduceNeg, Int.reduceToNat, reduceCtorEq, ho, Try.results24], by simp only [go_sem, Nat.reduceEqDiff, Nat.reduceAdd, Nat.reduceSub, Nat.reduceLeDiff, Nat.reduceLT, Nat.reduceMul, Nat.reduceBEq, Int.reduceEq, Int.reduceLT, Int.reduceLE, Int.reduceNeg, Int.reduceToNat, reduceCtorEq, ho, Try.results24], by simp only [go_sem, Nat.reduceEqDiff, Nat.reduceAdd, Nat.reduceSub, Nat.reduceLeDiff, Nat.reduceLT, Nat.reduceMul, Nat.reduceBEq, Int.reduceEq, Int.reduceLT, Int.reduceLE, Int.reduceNeg, Int.reduceToNat, reduceCtorEq, ho, Try.results24]⟩, ?_⟩
    rintro n st ⟨d1, r1, d2, r2, h1, h2, hd, hn, hf, h16, h15, h14, hs2, hb2⟩
    have hl1 : d1.length + r1.length = row.length := by rw [h1]; simp
    have hl2 : d2.length + r2.length = t.cols.length := by rw [h2]; simp
    have hw : IntKind.i64.wrap ((d1.length : Int) + 1) = (d1.length : Int) + 1 := wrap_fits (by omega) (by omega)
    cases r1 with
    | nil =>
      have hlt : ¬ (d1.length : Int) < (row.length : Int) := by simp at hl1; omega
      simp only [go_sem, Nat.reduceEqDiff, Nat.reduceAdd, Nat.reduceSub, Nat.reduceLeDiff, Nat.reduceLT, Nat.reduceMul, Nat.reduceBEq, Int.reduceEq, Int.reduceLT, Int.reduceLE, Int.reduceNeg, Int.reduceToNat, reduceCtorEq, ho, Try.results24, h16, h15, hlt]
      rw [← hf]; rfl
    | cons v r1 =>
      cases r2 with
      | nil => simp at hl1 hl2; omega
      | cons c r2 =>
        have hlt : (d1.length : Int) < (row.length : Int) := by simp at hl1; omega
        have hget := vals_get h1
        have hget2 : (t.cols.map Col.enc)[d1.length]? = some c.enc := by rw [hd]; exact cols_get h2
        rw [acc] at hf
        simp only [go_sem, Nat.reduceEqDiff, Nat.reduceAdd, Nat.reduceSub, Nat.reduceLeDiff, Nat.reduceLT, Nat.reduceMul, Nat.reduceBEq, Int.reduceEq, Int.reduceLT, Int.reduceLE, Int.reduceNeg, Int.reduceToNat, reduceCtorEq, ho, Try.results24, h16, h15, h14, hs2, hb2, hlt, hget, hget2, Int.natCast_nonneg, Int.toNat_natCast, Vl.enc, Col.enc]
        refine GCall.fr ?_ (valid_fn v) (.inl rfl) ?_; (focus (first | rfl | ((simp only [go_sem, Nat.reduceEqDiff, Nat.reduceAdd, Nat.reduceSub, Nat.reduceLeDiff, Nat.reduceLT, Nat.reduceMul, Nat.reduceBEq, Int.reduceEq, Int.reduceLT, Int.reduceLE, Int.reduceNeg, Int.reduceToNat, reduceCtorEq, ho, Try.results24]); done) | ((simp only [go_sem, Nat.reduceEqDiff, Nat.reduceAdd, Nat.reduceSub, Nat.reduceLeDiff, Nat.reduceLT, Nat.reduceMul, Nat.reduceBEq, Int.reduceEq, Int.reduceLT, Int.reduceLE, Int.reduceNeg, Int.reduceToNat, reduceCtorEq, ho, Try.results24]); rfl)))
        simp only [go_sem, Nat.reduceEqDiff, Nat.reduceAdd, Nat.reduceSub, Nat.reduceLeDiff, Nat.reduceLT, Nat.reduceMul, Nat.reduceBEq, Int.reduceEq, Int.reduceLT, Int.reduceLE, Int.reduceNeg, Int.reduceToNat, reduceCtorEq, ho, Try.results24]
        have next : v.valid = true → ¬ (v.kind = 0 ∧ c.nul = false) → ¬ (v.kind ≠ 0 ∧ v.kind ≠ c.kind) → ∃ m, m < n ∧ ∃ (d1' r1 : List Vl) (d2 r2 : List Col), row = d1' ++ r1 ∧ t.cols = d2 ++ r2 ∧ d1'.length = d2.length ∧ r1.length = m ∧ acc r1 r2 = acc row t.cols ∧ ((d1.length : Int) + 1 = (d1'.length : Int)) := fun a1 a2 a3 => ⟨r1.length, by simp at hn; omega, d1 ++ [v], r1, d2 ++ [c], r2, by simp [h1], by simp [h2], by simp [hd], rfl, by rw [← hf, if_neg (by simp [a1]), if_neg a2, if_neg a3], by simp⟩
        repeat' (first | (refine AIf_cases (fun h => ?_) (fun h => ?_) <;> (try simp only [decide_eq_true_eq, decide_eq_false_iff_not, Bool.not_eq_true', Bool.not_eq_false', Bool.not_eq_true, Bool.not_eq_false] at h) <;> (try simp only [go_sem, Nat.reduceEqDiff, Nat.reduceAdd, Nat.reduceSub, Nat.reduceLeDiff, Nat.reduceLT, Nat.reduceMul, Nat.reduceBEq, Int.reduceEq, Int.reduceLT, Int.reduceLE, Int.reduceNeg, Int.reduceToNat, reduceCtorEq, ho, Try.results24, h, h16, h15, h14, hs2, hb2, hw])))
        all_goals (first | exact next ‹_› (fun hh => by simp_all) (fun hh => by simp_all) | (rw [← hf]; clear hf next; simp_all))
  · have hlen' : ¬ (row.length : Int) = (t.cols.length : Int) := by omega
    simp only [go_sem, Nat.reduceEqDiff, Nat.reduceAdd, Nat.reduceSub, Nat.reduceLeDiff, Nat.reduceLT, Nat.reduceMul, Nat.reduceBEq, Int.reduceEq, Int.reduceLT, Int.reduceLE, Int.reduceNeg, Int.reduceToNat, reduceCtorEq, ho, Try.results24, hlen']
    simp [Tb.accepts, hlen]
end Go.Proofs.Ytiefnninebilbaa
/- What the reference says of kinds, of the acceptance of rows and of keys; what the program says of keys; no condition. -/
set_option maxRecDepth 100000
set_option linter.unusedVariables false
set_option linter.unusedSimpArgs false
namespace Go.Proofs.Ytiefnninebilbaa
open Go Go.Sx

theorem ok31 : okCode M0 Try.f31.ntmps (Try.f31.body.getD .skip) = true := by decide +kernel
theorem rkinds_fn (t : Tb) (hl : t.cols.length ≤ 100000000) : Fc 31 [t.enc] (.sl (t.kinds.map (.int .i64))) := by
  refine fn_of_awp (E := E0) (M := M0) follows Try.func31 rfl (by decide) ok31 (by decide) (by simp) fun o ho => ?_
  simp only [go_sem, Nat.reduceEqDiff, Nat.reduceAdd, Nat.reduceSub, Nat.reduceLeDiff, Nat.reduceLT, Nat.reduceMul, Nat.reduceBEq, Int.reduceEq, Int.reduceLT, Int.reduceLE, Int.reduceNeg, Int.reduceToNat, reduceCtorEq, ho, Try.results31, Tb.enc, List.length_map]
  refine ⟨fun n st => ∃ (done rest : List Col), t.cols = done ++ rest ∧ rest.length = n ∧ st.s 4 = .int .i64 done.length ∧ st.s 1 = .ptr 1 1 0 ∧ getBox st.o 1 1 = some (27, t.enc.cells) ∧ ((done = [] ∧ st.s 3 = .nil) ∨ (done ≠ [] ∧ ∃ v, st.s 3 = .ref 21 v ∧ st.o 21 = (v, some (true, .row 3 ((done.map Col.kind).map (.int .i64)))))), t.cols.length,
    ⟨[], t.cols, rfl, rfl, by simp only [go_sem, Nat.reduceEqDiff, Nat.reduceAdd, Nat.reduceSub, Nat.reduceLeDiff, Nat.reduceLT, Nat.reduceMul, Nat.reduceBEq, Int.reduceEq, Int.reduceLT, Int.reduceLE, Int.reduceNeg, Int.reduceToNat, reduceCtorEq, ho, Try.results31]; rfl, by simp only [go_sem, Nat.reduceEqDiff, Nat.reduceAdd, Nat.reduceSub, Nat.reduceLeDiff, Nat.reduceLT, Nat.reduceMul, Nat.reduceBEq, Int.reduceEq, Int.reduceLT, Int.reduceLE, Int.reduceNeg, Int.reduceToNat, reduceCtorEq, ho, Try.results31], by simp only [go_sem, Nat.reduceEqDiff, Nat.reduceAdd, Nat.reduceSub, Nat.reduceLeDiff, Nat.reduceLT, Nat.reduceMul, Nat.reduceBEq, Int.reduceEq, Int.reduceLT, Int.reduceLE, Int.reduceNeg, Int.reduceToNat, reduceCtorEq, ho, Try.results31], .inl ⟨rfl, by simp only [go_sem, Nat.reduceEqDiff, Nat.reduceAdd, Nat.reduceSub, Nat.reduceLeDiff, Nat.reduceLT, Nat.reduceMul, Nat.reduceBEq, Int.reduceEq, Int.reduceLT, Int.reduceLE, Int.reduceNeg, Int.reduceToNat, reduceCtorEq, ho, Try.results31]⟩⟩, ?_⟩
  rintro n st ⟨done, rest, hl', hn, h4, hs1, hb1, h3⟩
  have hlen2 : done.length + rest.length = t.cols.length := by rw [hl']; simp
  have hw : IntKind.i64.wrap ((done.length : Int) + 1) = (done.length : Int) + 1 := wrap_fits (by omega) (by omega)
  cases rest with
  | nil =>
    have hlt : ¬ (done.length : Int) < (t.cols.length : Int) := by simp at hlen2; omega
    have hd : t.cols = done := by simpa using hl'
    simp only [go_sem, Nat.reduceEqDiff, Nat.reduceAdd, Nat.reduceSub, Nat.reduceLeDiff, Nat.reduceLT, Nat.reduceMul, Nat.reduceBEq, Int.reduceEq, Int.reduceLT, Int.reduceLE, Int.reduceNeg, Int.reduceToNat, reduceCtorEq, ho, Try.results31, h4, hs1, hb1, hlt, List.length_map]
    rcases h3 with ⟨hd0, h3⟩ | ⟨hne, v, h3, h21⟩
    · simp only [go_sem, Nat.reduceEqDiff, Nat.reduceAdd, Nat.reduceSub, Nat.reduceLeDiff, Nat.reduceLT, Nat.reduceMul, Nat.reduceBEq, Int.reduceEq, Int.reduceLT, Int.reduceLE, Int.reduceNeg, Int.reduceToNat, reduceCtorEq, ho, Try.results31, h3]
      simp [Tb.kinds, hd, hd0]
    · have hrow : getRow st.o 21 v = some (3, (done.map Col.kind).map (.int .i64)) := by simp [getRow, h21]
      simp only [go_sem, Nat.reduceEqDiff, Nat.reduceAdd, Nat.reduceSub, Nat.reduceLeDiff, Nat.reduceLT, Nat.reduceMul, Nat.reduceBEq, Int.reduceEq, Int.reduceLT, Int.reduceLE, Int.reduceNeg, Int.reduceToNat, reduceCtorEq, ho, Try.results31, h3, hrow]
      simp [Tb.kinds, hd]
  | cons c rest =>
    have hlt : (done.length : Int) < (t.cols.length : Int) := by simp at hlen2; omega
    have hget := cols_get hl'
    have hbig : (done.length + 1) * 9 ≤ 140737488355328 := by omega
    have hb1' := hb1
    rw [t.enc_cells] at hb1'
    simp only [go_sem, Nat.reduceEqDiff, Nat.reduceAdd, Nat.reduceSub, Nat.reduceLeDiff, Nat.reduceLT, Nat.reduceMul, Nat.reduceBEq, Int.reduceEq, Int.reduceLT, Int.reduceLE, Int.reduceNeg, Int.reduceToNat, reduceCtorEq, ho, Try.results31, h4, hs1, hb1, hlt, hget, List.length_map, Int.natCast_nonneg, Int.toNat_natCast]
    rcases h3 with ⟨rfl, h3⟩ | ⟨hne, v, h3, h21⟩
    · simp only [go_sem, Nat.reduceEqDiff, Nat.reduceAdd, Nat.reduceSub, Nat.reduceLeDiff, Nat.reduceLT, Nat.reduceMul, Nat.reduceBEq, Int.reduceEq, Int.reduceLT, Int.reduceLE, Int.reduceNeg, Int.reduceToNat, reduceCtorEq, ho, Try.results31, h4, hs1, hb1', h3, hget, List.length_map, Int.natCast_nonneg, Int.toNat_natCast, hw]
      exact ⟨rest.length, by simp at hn; omega, [c], rest, by simpa using hl', rfl, rfl, .inr ⟨by simp, _, rfl, rfl⟩⟩
    · simp only [go_sem, Nat.reduceEqDiff, Nat.reduceAdd, Nat.reduceSub, Nat.reduceLeDiff, Nat.reduceLT, Nat.reduceMul, Nat.reduceBEq, Int.reduceEq, Int.reduceLT, Int.reduceLE, Int.reduceNeg, Int.reduceToNat, reduceCtorEq, ho, Try.results31, h4, hs1, hb1', h3, h21, hbig, hget, List.length_map, Int.natCast_nonneg, Int.toNat_natCast, hw]
      exact ⟨rest.length, by simp at hn; omega, done ++ [c], rest, by simp [hl'], rfl, by simp, .inr ⟨by simp, _, rfl, by simp⟩⟩
theorem ok25 : okCode M0 Try.f25.ntmps (Try.f25.body.getD .skip) = true := by decide +kernel
theorem raccepts_fn (t : Tb) (row : List Vl) (hl : row.length ≤ 100000000) : Fc 25 [t.enc, .sl (row.map Vl.enc)] (.int .i64 (t.accepts row)) := by
  refine fn_of_awp (E := E0) (M := M0) follows Try.func25 rfl (by decide) ok25 (by decide) (by simp) fun o ho => ?_
  simp only [go_sem, Nat.reduceEqDiff, Nat.reduceAdd, Nat.reduceSub, Nat.reduceLeDiff, Nat.reduceLT, Nat.reduceMul, Nat.reduceBEq, Int.reduceEq, Int.reduceLT, Int.reduceLE, Int.reduceNeg, Int.reduceToNat, reduceCtorEq, ho, Try.results25, Tb.enc, List.length_map]
  by_cases hlen : row.length = t.cols.length
  · have hlen' : (row.length : Int) = (t.cols.length : Int) := by omega
    have hacc : t.accepts row = acc row t.cols := if_neg (by simpa using hlen)
    rw [hacc]
    simp only [go_sem, Nat.reduceEqDiff, Nat.reduceAdd, Nat.reduceSub, Nat.reduceLeDiff, Nat.reduceLT, Nat.reduceMul, Nat.reduceBEq, Int.reduceEq, Int.reduceLT, Int.reduceLE, Int.reduceNeg, Int.reduceToNat, reduceCtorEq, ho, Try.results25, eq_true hlen', List.length_map]
    refine ⟨fun n st => ∃ (d1 r1 : List Vl) (d2 r2 : List Col), row = d1 ++ r1 ∧ t.cols = d2 ++ r2 ∧ d1.length = d2.length ∧ r1.length = n ∧ acc r1 r2 = acc row t.cols ∧ st.s 5 = .int .i64 d1.length ∧ st.s 1 = .sl (row.map Vl.enc) ∧ st.s 2 = .ptr 2 1 0 ∧ getBox st.o 2 1 = some (27, t.enc.cells), row.length,
      ⟨[], row, [], t.cols, rfl, rfl, rfl, rfl, rfl, by simp only [go_sem, Nat.reduceEqDiff, Nat.reduceAdd, Nat.reduceSub, Nat.reduceLeDiff, Nat.reduceLT, Nat.reduceMul, Nat.reduceBEq, Int.reduceEq, Int.reduceLT, Int.reduceLE, Int.reduceNeg, Int.reduceToNat, reduceCtorEq, ho, Try.results25]; rfl, by simp only [go_sem, Nat.reduceEqDiff, Nat.reduceAdd, Nat.reduceSub, Nat.reduceLeDiff, Nat.reduceLT, Nat.reduceMul, Nat.reduceBEq, Int.reduceEq, Int.reduceLT, Int.reduceLE, Int.reduceNeg, Int.reduceToNat, reduceCtorEq, ho, Try.results25], by simp only [go_sem, Nat.reduceEqDiff, Nat.reduceAdd, Nat.reduceSub, Nat.reduceLeDiff, Nat.reduceLT, Nat.reduceMul, Nat.reduceBEq, Int.reduceEq, Int.reduceLT, Int.reduceLE, Int.reduceNeg, Int.reduceToNat, reduceCtorEq, ho, Try.results25], by simp only [go_sem, Nat.reduceEqDiff, Nat.reduceAdd, Nat.reduceSub, Nat.reduceLeDiff, Nat.reduceLT, Nat.reduceMul, Nat.reduceBEq, Int.reduceEq, Int.reduceLT, Int.reduceLE, Int.reduceNeg, Int.reduceToNat, reduceCtorEq, ho, Try.results25]⟩, ?_⟩
    rintro n st ⟨d1, r1, d2, r2, h1, h2, hd, hn, hf, h5, hs1, hs2, hb2⟩
    have hl1 : d1.length + r1.length = row.length := by rw [h1]; simp
    have hl2 : d2.length + r2.length = t.cols.length := by rw [h2]; simp
    have hw : IntKind.i64.wrap ((d1.length : Int) + 1) = (d1.length : Int) + 1 := wrap_fits (by omega) (by omega)
    cases r1 with
    | nil =>
      have hlt : ¬ (d1.length : Int) < (row.length : Int) := by simp at hl1; omega
      simp only [go_sem, Nat.reduceEqDiff, Nat.reduceAdd, Nat.reduceSub, Nat.reduceLeDiff, Nat.reduceLT, Nat.reduceMul, Nat.reduceBEq, Int.reduceEq, Int.reduceLT, Int.reduceLE, Int.reduceNeg, Int.reduceToNat, reduceCtorEq, ho, Try.results25, h5, hs1, hlt, List.length_map]
      rw [← hf]; rfl
    | cons v r1 =>
      cases r2 with
      | nil => simp at hl1 hl2; omega
      | cons c r2 =>
        have hlt : (d1.length : Int) < (row.length : Int) := by simp at hl1; omega
        have hget := vals_get h1
        have hget2 : (t.cols.map Col.enc)[d1.length]? = some c.enc := by rw [hd]; exact cols_get h2
        have hb2' := hb2
        rw [t.enc_cells] at hb2'
        rw [acc] at hf
        simp only [go_sem, Nat.reduceEqDiff, Nat.reduceAdd, Nat.reduceSub, Nat.reduceLeDiff, Nat.reduceLT, Nat.reduceMul, Nat.reduceBEq, Int.reduceEq, Int.reduceLT, Int.reduceLE, Int.reduceNeg, Int.reduceToNat, reduceCtorEq, ho, Try.results25, h5, hs1, hs2, hlt, List.length_map, hget, Int.natCast_nonneg, Int.toNat_natCast]
        refine GCall.fr ?_ (rvalid_fn v) (.inl rfl) ?_; (focus (first | rfl | ((simp only [go_sem, Nat.reduceEqDiff, Nat.reduceAdd, Nat.reduceSub, Nat.reduceLeDiff, Nat.reduceLT, Nat.reduceMul, Nat.reduceBEq, Int.reduceEq, Int.reduceLT, Int.reduceLE, Int.reduceNeg, Int.reduceToNat, reduceCtorEq, ho, Try.results25, Vl.enc]); done) | ((simp only [go_sem, Nat.reduceEqDiff, Nat.reduceAdd, Nat.reduceSub, Nat.reduceLeDiff, Nat.reduceLT, Nat.reduceMul, Nat.reduceBEq, Int.reduceEq, Int.reduceLT, Int.reduceLE, Int.reduceNeg, Int.reduceToNat, reduceCtorEq, ho, Try.results25, Vl.enc]); rfl)))
        simp only [go_sem, Nat.reduceEqDiff, Nat.reduceAdd, Nat.reduceSub, Nat.reduceLeDiff, Nat.reduceLT, Nat.reduceMul, Nat.reduceBEq, Int.reduceEq, Int.reduceLT, Int.reduceLE, Int.reduceNeg, Int.reduceToNat, reduceCtorEq, ho, Try.results25]
        have next : v.valid = true → ¬ (v.kind = 0 ∧ c.nul = false) → ¬ (v.kind ≠ 0 ∧ v.kind ≠ c.kind) → ∃ m, m < n ∧ ∃ (d1' r1 : List Vl) (d2 r2 : List Col), row = d1' ++ r1 ∧ t.cols = d2 ++ r2 ∧ d1'.length = d2.length ∧ r1.length = m ∧ acc r1 r2 = acc row t.cols ∧ ((d1.length : Int) + 1 = (d1'.length : Int)) := fun a1 a2 a3 => ⟨r1.length, by simp at hn; omega, d1 ++ [v], r1, d2 ++ [c], r2, by simp [h1], by simp [h2], by simp [hd], rfl, by rw [← hf, if_neg (by simp [a1]), if_neg a2, if_neg a3], by simp⟩
        repeat' (first | (refine AIf_cases (fun h => ?_) (fun h => ?_) <;> (try simp only [decide_eq_true_eq, decide_eq_false_iff_not, Bool.not_eq_true', Bool.not_eq_false', Bool.not_eq_true, Bool.not_eq_false] at h) <;> (try simp only [go_sem, Nat.reduceEqDiff, Nat.reduceAdd, Nat.reduceSub, Nat.reduceLeDiff, Nat.reduceLT, Nat.reduceMul, Nat.reduceBEq, Int.reduceEq, Int.reduceLT, Int.reduceLE, Int.reduceNeg, Int.reduceToNat, reduceCtorEq, ho, Try.results25, h, h5, hs1, hs2, hb2', hget, hget2, hw, Int.natCast_nonneg, Int.toNat_natCast])))
        all_goals (first | exact next ‹_› (fun hh => by simp_all) (fun hh => by simp_all) | (rw [← hf]; clear hf next; simp_all))
  · have hlen' : ¬ (row.length : Int) = (t.cols.length : Int) := by omega
    simp only [go_sem, Nat.reduceEqDiff, Nat.reduceAdd, Nat.reduceSub, Nat.reduceLeDiff, Nat.reduceLT, Nat.reduceMul, Nat.reduceBEq, Int.reduceEq, Int.reduceLT, Int.reduceLE, Int.reduceNeg, Int.reduceToNat, reduceCtorEq, ho, Try.results25, hlen']
    simp [Tb.accepts, hlen]
end Go.Proofs.Ytiefnninebilbaa
/- What the program and the reference say of keys; no condition. -/
set_option maxRecDepth 100000
set_option linter.unusedVariables false
set_option linter.unusedSimpArgs false
namespace Go.Proofs.Ytiefnninebilbaa
open Go Go.Sx

def nulAt (t : Tb) (k : Int) : Bool := ((t.cols[k.toNat]?).map Col.nul).getD false
def keyL (t : Tb) : List Int → List Int → Int
  | _, [] => 0
  | done, k :: l => if t.has k = false ∨ (done ≠ [] ∧ k ≤ done.getLast?.getD 0) then 25 else if nulAt t k = true then 12 else keyL t (done ++ [k]) l
def Tb.keyE (t : Tb) : Int := if t.key = [] then 25 else keyL t [] t.key
theorem ints_get {l done rest : List Int} {x : Int} (h : l = done ++ x :: rest) : (l.map (PV.int .i64))[done.length]? = some (.int .i64 x) := by simp [h]
theorem has_get {t : Tb} {k : Int} (h : t.has k = true) : 0 ≤ k ∧ k < t.cols.length ∧ ∃ c : Col, (t.cols.map Col.enc)[k.toNat]? = some c.enc ∧ nulAt t k = c.nul := by
  simp only [Tb.has, Bool.and_eq_true, decide_eq_true_eq] at h
  have hlt : k.toNat < t.cols.length := by omega
  exact ⟨h.1, h.2, t.cols[k.toNat], by simp [hlt], by simp [nulAt, hlt]⟩
theorem ok76 : okCode M0 Try.f76.ntmps (Try.f76.body.getD .skip) = true := by decide +kernel
theorem key_fn (t : Tb) (hl : t.key.length ≤ 100000000) : Fc 76 [t.enc] (.int .i64 t.keyE) := by
  refine fn_of_awp (E := E0) (M := M0) follows Try.func76 rfl (by decide) ok76 (by decide) (by simp) fun o ho => ?_
  simp only [go_sem, Nat.reduceEqDiff, Nat.reduceAdd, Nat.reduceSub, Nat.reduceLeDiff, Nat.reduceLT, Nat.reduceMul, Nat.reduceBEq, Int.reduceEq, Int.reduceLT, Int.reduceLE, Int.reduceNeg, Int.reduceToNat, reduceCtorEq, ho, Try.results76, Tb.enc, List.length_map]
  by_cases h0 : t.key = []
  · have h0' : (t.key.length : Int) = 0 := by rw [h0]; rfl
    simp only [go_sem, Nat.reduceEqDiff, Nat.reduceAdd, Nat.reduceSub, Nat.reduceLeDiff, Nat.reduceLT, Nat.reduceMul, Nat.reduceBEq, Int.reduceEq, Int.reduceLT, Int.reduceLE, Int.reduceNeg, Int.reduceToNat, reduceCtorEq, ho, Try.results76, h0']
    simp [Tb.keyE, h0]
  have h0' : ¬ (t.key.length : Int) = 0 := fun h => h0 (List.eq_nil_of_length_eq_zero (by omega))
  have hke : t.keyE = keyL t [] t.key := if_neg h0
  rw [hke]
  simp only [go_sem, Nat.reduceEqDiff, Nat.reduceAdd, Nat.reduceSub, Nat.reduceLeDiff, Nat.reduceLT, Nat.reduceMul, Nat.reduceBEq, Int.reduceEq, Int.reduceLT, Int.reduceLE, Int.reduceNeg, Int.reduceToNat, reduceCtorEq, ho, Try.results76, h0', List.length_map]
  refine ⟨fun n st => ∃ (done rest : List Int), t.key = done ++ rest ∧ rest.length = n ∧ keyL t done rest = keyL t [] t.key ∧ st.s 12 = .int .i64 done.length ∧ st.s 11 = .int .i64 t.key.length ∧ st.s 10 = .sl (t.key.map (.int .i64)) ∧ st.s 1 = .ptr 1 1 0 ∧ getBox st.o 1 1 = some (27, t.enc.cells), t.key.length,
    ⟨[], t.key, rfl, rfl, rfl, by simp only [go_sem, Nat.reduceEqDiff, Nat.reduceAdd, Nat.reduceSub, Nat.reduceLeDiff, Nat.reduceLT, Nat.reduceMul, Nat.reduceBEq, Int.reduceEq, Int.reduceLT, Int.reduceLE, Int.reduceNeg, Int.reduceToNat, reduceCtorEq, ho, Try.results76]; rfl, by simp only [go_sem, Nat.reduceEqDiff, Nat.reduceAdd, Nat.reduceSub, Nat.reduceLeDiff, Nat.reduceLT, Nat.reduceMul, Nat.reduceBEq, Int.reduceEq, Int.reduceLT, Int.reduceLE, Int.reduceNeg, Int.reduceToNat, reduceCtorEq, ho, Try.results76], by simp only [go_sem, Nat.reduceEqDiff, Nat.reduceAdd, Nat.reduceSub, Nat.reduceLeDiff, Nat.reduceLT, Nat.reduceMul, Nat.reduceBEq, Int.reduceEq, Int.reduceLT, Int.reduceLE, Int.reduceNeg, Int.reduceToNat, reduceCtorEq, ho, Try.results76], by simp only [go_sem, Nat.reduceEqDiff, Nat.reduceAdd, Nat.reduceSub, Nat.reduceLeDiff, Nat.reduceLT, Nat.reduceMul, Nat.reduceBEq, Int.reduceEq, Int.reduceLT, Int.reduceLE, Int.reduceNeg, Int.reduceToNat, reduceCtorEq, ho, Try.results76], by simp only [go_sem, Nat.reduceEqDiff, Nat.reduceAdd, Nat.reduceSub, Nat.reduceLeDiff, Nat.reduceLT, Nat.reduceMul, Nat.reduceBEq, Int.reduceEq, Int.reduceLT, Int.reduceLE, Int.reduceNeg, Int.reduceToNat, reduceCtorEq, ho, Try.results76]⟩, ?_⟩
  rintro n st ⟨done, rest, hl', hn, hf, h12, h11, h10, hs1, hb1⟩
  have hlen2 : done.length + rest.length = t.key.length := by rw [hl']; simp
  have hw : IntKind.i64.wrap ((done.length : Int) + 1) = (done.length : Int) + 1 := wrap_fits (by omega) (by omega)
  cases rest with
  | nil =>
    have hlt : ¬ (done.length : Int) < (t.key.length : Int) := by simp at hlen2; omega
    simp only [go_sem, Nat.reduceEqDiff, Nat.reduceAdd, Nat.reduceSub, Nat.reduceLeDiff, Nat.reduceLT, Nat.reduceMul, Nat.reduceBEq, Int.reduceEq, Int.reduceLT, Int.reduceLE, Int.reduceNeg, Int.reduceToNat, reduceCtorEq, ho, Try.results76, h12, h11, hlt]
    rw [← hf]; rfl
  | cons x rest =>
    have hlt : (done.length : Int) < (t.key.length : Int) := by simp at hlen2; omega
    have hget := ints_get hl'
    have hb1' := hb1
    rw [t.enc_cells] at hb1'
    rw [keyL] at hf
    simp only [go_sem, Nat.reduceEqDiff, Nat.reduceAdd, Nat.reduceSub, Nat.reduceLeDiff, Nat.reduceLT, Nat.reduceMul, Nat.reduceBEq, Int.reduceEq, Int.reduceLT, Int.reduceLE, Int.reduceNeg, Int.reduceToNat, reduceCtorEq, ho, Try.results76, h12, h11, h10, hs1, hb1, hlt, hget, Int.natCast_nonneg, Int.toNat_natCast]
    refine GCall.fr ?_ (has_fn t x) (.inl rfl) ?_; (focus (first | rfl | ((simp only [go_sem, Nat.reduceEqDiff, Nat.reduceAdd, Nat.reduceSub, Nat.reduceLeDiff, Nat.reduceLT, Nat.reduceMul, Nat.reduceBEq, Int.reduceEq, Int.reduceLT, Int.reduceLE, Int.reduceNeg, Int.reduceToNat, reduceCtorEq, ho, Try.results76, Tb.enc]); done) | ((simp only [go_sem, Nat.reduceEqDiff, Nat.reduceAdd, Nat.reduceSub, Nat.reduceLeDiff, Nat.reduceLT, Nat.reduceMul, Nat.reduceBEq, Int.reduceEq, Int.reduceLT, Int.reduceLE, Int.reduceNeg, Int.reduceToNat, reduceCtorEq, ho, Try.results76, Tb.enc]); rfl)))
    simp only [go_sem, Nat.reduceEqDiff, Nat.reduceAdd, Nat.reduceSub, Nat.reduceLeDiff, Nat.reduceLT, Nat.reduceMul, Nat.reduceBEq, Int.reduceEq, Int.reduceLT, Int.reduceLE, Int.reduceNeg, Int.reduceToNat, reduceCtorEq, ho, Try.results76]
    cases hh : t.has x with
    | false =>
      simp only [go_sem, Nat.reduceEqDiff, Nat.reduceAdd, Nat.reduceSub, Nat.reduceLeDiff, Nat.reduceLT, Nat.reduceMul, Nat.reduceBEq, Int.reduceEq, Int.reduceLT, Int.reduceLE, Int.reduceNeg, Int.reduceToNat, reduceCtorEq, ho, Try.results76, hh, h12, hs1, hb1']
      rw [← hf, if_pos (.inl hh)]
    | true =>
      obtain ⟨g0, g1, c, gc, gn⟩ := has_get hh
      have hend : (¬ (done ≠ [] ∧ x ≤ done.getLast?.getD 0)) → nulAt t x = false → ∃ m, m < n ∧ ∃ (d' r' : List Int), t.key = d' ++ r' ∧ r'.length = m ∧ keyL t d' r' = keyL t [] t.key ∧ ((done.length : Int) + 1 = (d'.length : Int)) := fun a1 a2 => ⟨rest.length, by simp at hn; omega, done ++ [x], rest, by simp [hl'], rfl, by rw [← hf, if_neg (by simp only [hh]; rintro (h | h); exact absurd h (by simp); exact a1 h), if_neg (by simp [a2])], by simp⟩
      rcases List.eq_nil_or_concat done with rfl | ⟨d, q, hdq⟩
      · have hz : ¬ (0 : Int) < ((0 : Nat) : Int) := by decide
        simp only [go_sem, Nat.reduceEqDiff, Nat.reduceAdd, Nat.reduceSub, Nat.reduceLeDiff, Nat.reduceLT, Nat.reduceMul, Nat.reduceBEq, Int.reduceEq, Int.reduceLT, Int.reduceLE, Int.reduceNeg, Int.reduceToNat, reduceCtorEq, ho, Try.results76, hh, h12, hs1, hb1', List.length_nil, hz, g0, g1, gc, List.length_map]
        have hf1 : ¬ (t.has x = false ∨ (([] : List Int) ≠ [] ∧ x ≤ ([] : List Int).getLast?.getD 0)) := by
          rintro (h | h)
          · rw [hh] at h; cases h
          · exact h.1 rfl
        rw [if_neg hf1, gn] at hf
        cases hc : c.nul with
        | true =>
          rw [hc, if_pos rfl] at hf
          simp only [go_sem, Nat.reduceEqDiff, Nat.reduceAdd, Nat.reduceSub, Nat.reduceLeDiff, Nat.reduceLT, Nat.reduceMul, Nat.reduceBEq, Int.reduceEq, Int.reduceLT, Int.reduceLE, Int.reduceNeg, Int.reduceToNat, reduceCtorEq, ho, Try.results76, hc]
          exact hf
        | false =>
          have e1 : IntKind.i64.wrap (((0 : Nat) : Int) + 1) = ((0 : Nat) : Int) + 1 := rfl
          simp only [go_sem, Nat.reduceEqDiff, Nat.reduceAdd, Nat.reduceSub, Nat.reduceLeDiff, Nat.reduceLT, Nat.reduceMul, Nat.reduceBEq, Int.reduceEq, Int.reduceLT, Int.reduceLE, Int.reduceNeg, Int.reduceToNat, reduceCtorEq, ho, Try.results76, hc, h12, h11, h10, hs1, hb1', e1, List.length_nil]
          have := hend (fun h => h.1 rfl) (gn.trans hc)
          simpa using this
      · rw [List.concat_eq_append] at hdq
        subst hdq
        have hlast : (d ++ [q]).getLast?.getD 0 = q := by simp
        have hd9 : (d ++ [q]).length = d.length + 1 := by simp
        have hp : (0 : Int) < ((d ++ [q]).length : Int) := by omega
        have hw1 : IntKind.i64.wrap (((d ++ [q]).length : Int) - 1) = (d.length : Int) := by
          have e : (((d ++ [q]).length : Int) - 1) = (d.length : Int) := by simp
          rw [e]
          exact wrap_fits (by omega) (by omega)
        have hget1 : (t.key.map (PV.int .i64))[d.length]? = some (.int .i64 q) := by rw [hl']; simp
        simp only [go_sem, Nat.reduceEqDiff, Nat.reduceAdd, Nat.reduceSub, Nat.reduceLeDiff, Nat.reduceLT, Nat.reduceMul, Nat.reduceBEq, Int.reduceEq, Int.reduceLT, Int.reduceLE, Int.reduceNeg, Int.reduceToNat, reduceCtorEq, ho, Try.results76, hh, h12, hs1, hb1', hp, hw1, hget1, Int.natCast_nonneg, Int.toNat_natCast]
        by_cases hq : x ≤ q
        · simp only [go_sem, Nat.reduceEqDiff, Nat.reduceAdd, Nat.reduceSub, Nat.reduceLeDiff, Nat.reduceLT, Nat.reduceMul, Nat.reduceBEq, Int.reduceEq, Int.reduceLT, Int.reduceLE, Int.reduceNeg, Int.reduceToNat, reduceCtorEq, ho, Try.results76, hq]
          rw [← hf, if_pos (.inr ⟨by simp, by rw [hlast]; exact hq⟩)]
        · have hf1 : ¬ (t.has x = false ∨ (d ++ [q] ≠ [] ∧ x ≤ (d ++ [q]).getLast?.getD 0)) := by
            rintro (h | h)
            · rw [hh] at h; cases h
            · rw [hlast] at h; exact hq h.2
          rw [if_neg hf1, gn] at hf
          simp only [go_sem, Nat.reduceEqDiff, Nat.reduceAdd, Nat.reduceSub, Nat.reduceLeDiff, Nat.reduceLT, Nat.reduceMul, Nat.reduceBEq, Int.reduceEq, Int.reduceLT, Int.reduceLE, Int.reduceNeg, Int.reduceToNat, reduceCtorEq, ho, Try.results76, hq, hs1, hb1', g0, g1, gc, List.length_map]
          cases hc : c.nul with
          | true =>
            rw [hc, if_pos rfl] at hf
            simp only [go_sem, Nat.reduceEqDiff, Nat.reduceAdd, Nat.reduceSub, Nat.reduceLeDiff, Nat.reduceLT, Nat.reduceMul, Nat.reduceBEq, Int.reduceEq, Int.reduceLT, Int.reduceLE, Int.reduceNeg, Int.reduceToNat, reduceCtorEq, ho, Try.results76, hc]
            exact hf
          | false =>
            simp only [go_sem, Nat.reduceEqDiff, Nat.reduceAdd, Nat.reduceSub, Nat.reduceLeDiff, Nat.reduceLT, Nat.reduceMul, Nat.reduceBEq, Int.reduceEq, Int.reduceLT, Int.reduceLE, Int.reduceNeg, Int.reduceToNat, reduceCtorEq, ho, Try.results76, hc, h12, h11, h10, hs1, hb1', hw]
            have := hend (fun h => by rw [hlast] at h; exact hq h.2) (gn.trans hc)
            simpa using this
theorem ok80 : okCode M0 Try.f80.ntmps (Try.f80.body.getD .skip) = true := by decide +kernel
theorem rkey_fn (t : Tb) (hl : t.key.length ≤ 100000000) : Fc 80 [t.enc] (.int .i64 t.keyE) := by
  refine fn_of_awp (E := E0) (M := M0) follows Try.func80 rfl (by decide) ok80 (by decide) (by simp) fun o ho => ?_
  simp only [go_sem, Nat.reduceEqDiff, Nat.reduceAdd, Nat.reduceSub, Nat.reduceLeDiff, Nat.reduceLT, Nat.reduceMul, Nat.reduceBEq, Int.reduceEq, Int.reduceLT, Int.reduceLE, Int.reduceNeg, Int.reduceToNat, reduceCtorEq, ho, Try.results80, Tb.enc, List.length_map]
  by_cases h0 : t.key = []
  · have h0' : (t.key.length : Int) = 0 := by rw [h0]; rfl
    simp only [go_sem, Nat.reduceEqDiff, Nat.reduceAdd, Nat.reduceSub, Nat.reduceLeDiff, Nat.reduceLT, Nat.reduceMul, Nat.reduceBEq, Int.reduceEq, Int.reduceLT, Int.reduceLE, Int.reduceNeg, Int.reduceToNat, reduceCtorEq, ho, Try.results80, h0']
    simp [Tb.keyE, h0]
  have h0' : ¬ (t.key.length : Int) = 0 := fun h => h0 (List.eq_nil_of_length_eq_zero (by omega))
  have hke : t.keyE = keyL t [] t.key := if_neg h0
  rw [hke]
  simp only [go_sem, Nat.reduceEqDiff, Nat.reduceAdd, Nat.reduceSub, Nat.reduceLeDiff, Nat.reduceLT, Nat.reduceMul, Nat.reduceBEq, Int.reduceEq, Int.reduceLT, Int.reduceLE, Int.reduceNeg, Int.reduceToNat, reduceCtorEq, ho, Try.results80, h0', List.length_map]
  refine ⟨fun n st => ∃ (done rest : List Int), t.key = done ++ rest ∧ rest.length = n ∧ keyL t done rest = keyL t [] t.key ∧ st.s 3 = .int .i64 done.length ∧ st.s 1 = .ptr 1 1 0 ∧ getBox st.o 1 1 = some (27, t.enc.cells), t.key.length,
    ⟨[], t.key, rfl, rfl, rfl, by simp only [go_sem, Nat.reduceEqDiff, Nat.reduceAdd, Nat.reduceSub, Nat.reduceLeDiff, Nat.reduceLT, Nat.reduceMul, Nat.reduceBEq, Int.reduceEq, Int.reduceLT, Int.reduceLE, Int.reduceNeg, Int.reduceToNat, reduceCtorEq, ho, Try.results80]; rfl, by simp only [go_sem, Nat.reduceEqDiff, Nat.reduceAdd, Nat.reduceSub, Nat.reduceLeDiff, Nat.reduceLT, Nat.reduceMul, Nat.reduceBEq, Int.reduceEq, Int.reduceLT, Int.reduceLE, Int.reduceNeg, Int.reduceToNat, reduceCtorEq, ho, Try.results80], by simp only [go_sem, Nat.reduceEqDiff, Nat.reduceAdd, Nat.reduceSub, Nat.reduceLeDiff, Nat.reduceLT, Nat.reduceMul, Nat.reduceBEq, Int.reduceEq, Int.reduceLT, Int.reduceLE, Int.reduceNeg, Int.reduceToNat, reduceCtorEq, ho, Try.results80]⟩, ?_⟩
  rintro n st ⟨done, rest, hl', hn, hf, h3, hs1, hb1⟩
  have hlen2 : done.length + rest.length = t.key.length := by rw [hl']; simp
  have hw : IntKind.i64.wrap ((done.length : Int) + 1) = (done.length : Int) + 1 := wrap_fits (by omega) (by omega)
  cases rest with
  | nil =>
    have hlt : ¬ (done.length : Int) < (t.key.length : Int) := by simp at hlen2; omega
    simp only [go_sem, Nat.reduceEqDiff, Nat.reduceAdd, Nat.reduceSub, Nat.reduceLeDiff, Nat.reduceLT, Nat.reduceMul, Nat.reduceBEq, Int.reduceEq, Int.reduceLT, Int.reduceLE, Int.reduceNeg, Int.reduceToNat, reduceCtorEq, ho, Try.results80, h3, hs1, hb1, hlt, List.length_map]
    rw [← hf]; rfl
  | cons x rest =>
    have hlt : (done.length : Int) < (t.key.length : Int) := by simp at hlen2; omega
    have hget := ints_get hl'
    have hb1' := hb1
    rw [t.enc_cells] at hb1'
    rw [keyL] at hf
    simp only [go_sem, Nat.reduceEqDiff, Nat.reduceAdd, Nat.reduceSub, Nat.reduceLeDiff, Nat.reduceLT, Nat.reduceMul, Nat.reduceBEq, Int.reduceEq, Int.reduceLT, Int.reduceLE, Int.reduceNeg, Int.reduceToNat, reduceCtorEq, ho, Try.results80, h3, hs1, hb1, hlt, hget, List.length_map, Int.natCast_nonneg, Int.toNat_natCast]
    refine QCall.fr ?_ (rhas_fn t x) (.inl rfl) ?_; (focus (first | rfl | ((simp only [go_sem, Nat.reduceEqDiff, Nat.reduceAdd, Nat.reduceSub, Nat.reduceLeDiff, Nat.reduceLT, Nat.reduceMul, Nat.reduceBEq, Int.reduceEq, Int.reduceLT, Int.reduceLE, Int.reduceNeg, Int.reduceToNat, reduceCtorEq, ho, Try.results80, Tb.enc]); done) | ((simp only [go_sem, Nat.reduceEqDiff, Nat.reduceAdd, Nat.reduceSub, Nat.reduceLeDiff, Nat.reduceLT, Nat.reduceMul, Nat.reduceBEq, Int.reduceEq, Int.reduceLT, Int.reduceLE, Int.reduceNeg, Int.reduceToNat, reduceCtorEq, ho, Try.results80, Tb.enc]); rfl)))
    simp only [go_sem, Nat.reduceEqDiff, Nat.reduceAdd, Nat.reduceSub, Nat.reduceLeDiff, Nat.reduceLT, Nat.reduceMul, Nat.reduceBEq, Int.reduceEq, Int.reduceLT, Int.reduceLE, Int.reduceNeg, Int.reduceToNat, reduceCtorEq, ho, Try.results80]
    cases hh : t.has x with
    | false =>
      simp only [go_sem, Nat.reduceEqDiff, Nat.reduceAdd, Nat.reduceSub, Nat.reduceLeDiff, Nat.reduceLT, Nat.reduceMul, Nat.reduceBEq, Int.reduceEq, Int.reduceLT, Int.reduceLE, Int.reduceNeg, Int.reduceToNat, reduceCtorEq, ho, Try.results80, hh, h3, hs1, hb1']
      rw [← hf, if_pos (.inl hh)]
    | true =>
      obtain ⟨g0, g1, c, gc, gn⟩ := has_get hh
      have hend : (¬ (done ≠ [] ∧ x ≤ done.getLast?.getD 0)) → nulAt t x = false → ∃ m, m < n ∧ ∃ (d' r' : List Int), t.key = d' ++ r' ∧ r'.length = m ∧ keyL t d' r' = keyL t [] t.key ∧ ((done.length : Int) + 1 = (d'.length : Int)) := fun a1 a2 => ⟨rest.length, by simp at hn; omega, done ++ [x], rest, by simp [hl'], rfl, by rw [← hf, if_neg (by simp only [hh]; rintro (h | h); exact absurd h (by simp); exact a1 h), if_neg (by simp [a2])], by simp⟩
      rcases List.eq_nil_or_concat done with rfl | ⟨d, q, hdq⟩
      · have hz : ¬ (0 : Int) < ((0 : Nat) : Int) := by decide
        have hget0 : (t.key.map (PV.int .i64))[0]? = some (.int .i64 x) := hget
        have e0 : ((0 : Nat) : Int).toNat = 0 := rfl
        have n0 : (0 : Int) ≤ ((0 : Nat) : Int) := by decide
        simp only [go_sem, Nat.reduceEqDiff, Nat.reduceAdd, Nat.reduceSub, Nat.reduceLeDiff, Nat.reduceLT, Nat.reduceMul, Nat.reduceBEq, Int.reduceEq, Int.reduceLT, Int.reduceLE, Int.reduceNeg, Int.reduceToNat, reduceCtorEq, ho, Try.results80, hh, h3, hs1, hb1', List.length_nil, hz, g0, g1, gc, hget0, e0, n0, Int.natCast_nonneg, Int.toNat_natCast, List.length_map]
        have hf1 : ¬ (t.has x = false ∨ (([] : List Int) ≠ [] ∧ x ≤ ([] : List Int).getLast?.getD 0)) := by
          rintro (h | h)
          · rw [hh] at h; cases h
          · exact h.1 rfl
        rw [if_neg hf1, gn] at hf
        cases hc : c.nul with
        | true =>
          rw [hc, if_pos rfl] at hf
          simp only [go_sem, Nat.reduceEqDiff, Nat.reduceAdd, Nat.reduceSub, Nat.reduceLeDiff, Nat.reduceLT, Nat.reduceMul, Nat.reduceBEq, Int.reduceEq, Int.reduceLT, Int.reduceLE, Int.reduceNeg, Int.reduceToNat, reduceCtorEq, ho, Try.results80, hc]
          exact hf
        | false =>
          have e1 : IntKind.i64.wrap (((0 : Nat) : Int) + 1) = ((0 : Nat) : Int) + 1 := rfl
          simp only [go_sem, Nat.reduceEqDiff, Nat.reduceAdd, Nat.reduceSub, Nat.reduceLeDiff, Nat.reduceLT, Nat.reduceMul, Nat.reduceBEq, Int.reduceEq, Int.reduceLT, Int.reduceLE, Int.reduceNeg, Int.reduceToNat, reduceCtorEq, ho, Try.results80, hc, h3, hs1, hb1', e1, List.length_nil]
          have := hend (fun h => h.1 rfl) (gn.trans hc)
          simpa using this
      · rw [List.concat_eq_append] at hdq
        subst hdq
        have hlast : (d ++ [q]).getLast?.getD 0 = q := by simp
        have hd9 : (d ++ [q]).length = d.length + 1 := by simp
        have hp : (0 : Int) < ((d ++ [q]).length : Int) := by omega
        have hw1 : IntKind.i64.wrap (((d ++ [q]).length : Int) - 1) = (d.length : Int) := by
          have e : (((d ++ [q]).length : Int) - 1) = (d.length : Int) := by simp
          rw [e]
          exact wrap_fits (by omega) (by omega)
        have hget1 : (t.key.map (PV.int .i64))[d.length]? = some (.int .i64 q) := by rw [hl']; simp
        simp only [go_sem, Nat.reduceEqDiff, Nat.reduceAdd, Nat.reduceSub, Nat.reduceLeDiff, Nat.reduceLT, Nat.reduceMul, Nat.reduceBEq, Int.reduceEq, Int.reduceLT, Int.reduceLE, Int.reduceNeg, Int.reduceToNat, reduceCtorEq, ho, Try.results80, hh, h3, hs1, hb1', hp, hw1, hget, hget1, Int.natCast_nonneg, Int.toNat_natCast]
        by_cases hq : x ≤ q
        · simp only [go_sem, Nat.reduceEqDiff, Nat.reduceAdd, Nat.reduceSub, Nat.reduceLeDiff, Nat.reduceLT, Nat.reduceMul, Nat.reduceBEq, Int.reduceEq, Int.reduceLT, Int.reduceLE, Int.reduceNeg, Int.reduceToNat, reduceCtorEq, ho, Try.results80, hq]
          rw [← hf, if_pos (.inr ⟨by simp, by rw [hlast]; exact hq⟩)]
        · have hf1 : ¬ (t.has x = false ∨ (d ++ [q] ≠ [] ∧ x ≤ (d ++ [q]).getLast?.getD 0)) := by
            rintro (h | h)
            · rw [hh] at h; cases h
            · rw [hlast] at h; exact hq h.2
          rw [if_neg hf1, gn] at hf
          simp only [go_sem, Nat.reduceEqDiff, Nat.reduceAdd, Nat.reduceSub, Nat.reduceLeDiff, Nat.reduceLT, Nat.reduceMul, Nat.reduceBEq, Int.reduceEq, Int.reduceLT, Int.reduceLE, Int.reduceNeg, Int.reduceToNat, reduceCtorEq, ho, Try.results80, hq, h3, hs1, hb1', hget, g0, g1, gc, Int.natCast_nonneg, Int.toNat_natCast, List.length_map]
          cases hc : c.nul with
          | true =>
            rw [hc, if_pos rfl] at hf
            simp only [go_sem, Nat.reduceEqDiff, Nat.reduceAdd, Nat.reduceSub, Nat.reduceLeDiff, Nat.reduceLT, Nat.reduceMul, Nat.reduceBEq, Int.reduceEq, Int.reduceLT, Int.reduceLE, Int.reduceNeg, Int.reduceToNat, reduceCtorEq, ho, Try.results80, hc]
            exact hf
          | false =>
            simp only [go_sem, Nat.reduceEqDiff, Nat.reduceAdd, Nat.reduceSub, Nat.reduceLeDiff, Nat.reduceLT, Nat.reduceMul, Nat.reduceBEq, Int.reduceEq, Int.reduceLT, Int.reduceLE, Int.reduceNeg, Int.reduceToNat, reduceCtorEq, ho, Try.results80, hc, h3, hs1, hb1', hw]
            have := hend (fun h => by rw [hlast] at h; exact hq h.2) (gn.trans hc)
            simpa using this
end Go.Proofs.Ytiefnninebilbaa
/- Keywords: a chain of comparisons of one string with constants; what the two packages take for keywords; no condition. -/
set_option maxRecDepth 100000
set_option linter.unusedVariables false
set_option linter.unusedSimpArgs false
namespace Go.Proofs.Ytiefnninebilbaa
open Go Go.Sx

def inW (ws : List ByteArray) (s : ByteArray) : Bool := ws.any fun w => decide (s = w)
/-- One comparison: slot r says whether slot x holds the word. -/
def isWord (x r : Nat) (ops : Array Oper) : Option ByteArray := match ops.toList with
  | [⟨some d, .binOp .eql T (.tmp x') (.const (.string w)) U, t1, p1, a1, none⟩, ⟨some r', .assign (.tmp d'), t2, p2, a2, none⟩] =>
    if T = 9 ∧ x' = x ∧ r' = r ∧ d' = d ∧ d ≠ x ∧ r ≠ x then some w else none
  | _ => none
/-- The words of a chain: if the first is not the one, the next is tried. -/
def chainOf (x r : Nat) : Code → Option (List ByteArray)
  | .region _ ops false => (isWord x r ops).map fun w => [w]
  | .seq (.region _ ops false) (.cond (.tmp r') .skip c) => match isWord x r ops, chainOf x r c with
    | some w, some ws => if r' = r then some (w :: ws) else none
    | _, _ => none
  | _ => none
theorem word_awp {x r : Nat} {ops : Array Oper} {w : ByteArray} (h : isWord x r ops = some w) (id : Nat) (st : St) (s : ByteArray) (hs : st.s x = .str s) (Q : XQ)
    (hQ : ∀ st', st'.o = st.o → st'.s x = .str s → st'.s r = .bool (decide (s = w)) → Q .normal st') : awp P0 E0 M0 (.region id ops false) Q st := by
  have ho : True := trivial
  unfold isWord at h
  split at h
  · rename_i d T x' w' U t1 p1 a1 r' d' t2 p2 a2 hops
    split at h
    · rename_i hc
      obtain ⟨rfl, rfl, rfl, rfl, hdx, hrx⟩ := hc
      cases h
      have hops' : ops = ⟨[_, _]⟩ := Array.ext' hops
      rw [hops']
      simp only [go_sem, Nat.reduceEqDiff, Nat.reduceAdd, Nat.reduceSub, Nat.reduceLeDiff, Nat.reduceLT, Nat.reduceMul, Nat.reduceBEq, Int.reduceEq, Int.reduceLT, Int.reduceLE, Int.reduceNeg, Int.reduceToNat, reduceCtorEq, ho, hs, Ne.symm hdx, hdx]
      refine hQ _ (by simp only [go_sem, Nat.reduceEqDiff, Nat.reduceAdd, Nat.reduceSub, Nat.reduceLeDiff, Nat.reduceLT, Nat.reduceMul, Nat.reduceBEq, Int.reduceEq, Int.reduceLT, Int.reduceLE, Int.reduceNeg, Int.reduceToNat, reduceCtorEq, ho]) (by simp only [go_sem, Nat.reduceEqDiff, Nat.reduceAdd, Nat.reduceSub, Nat.reduceLeDiff, Nat.reduceLT, Nat.reduceMul, Nat.reduceBEq, Int.reduceEq, Int.reduceLT, Int.reduceLE, Int.reduceNeg, Int.reduceToNat, reduceCtorEq, ho, Ne.symm hdx, Ne.symm hrx, hs]) (by simp only [go_sem, Nat.reduceEqDiff, Nat.reduceAdd, Nat.reduceSub, Nat.reduceLeDiff, Nat.reduceLT, Nat.reduceMul, Nat.reduceBEq, Int.reduceEq, Int.reduceLT, Int.reduceLE, Int.reduceNeg, Int.reduceToNat, reduceCtorEq, ho])
    · cases h
  · cases h
theorem chain_awp {x r : Nat} : ∀ (c : Code) (ws : List ByteArray), chainOf x r c = some ws → ∀ (st : St) (s : ByteArray), st.s x = .str s → ∀ Q : XQ,
    (∀ st', st'.o = st.o → st'.s x = .str s → st'.s r = .bool (inW ws s) → Q .normal st') → awp P0 E0 M0 c Q st
  | .region id ops false, ws, h, st, s, hs, Q, hQ => by
    have ho : True := trivial
    simp only [chainOf] at h
    obtain ⟨w, hw, rfl⟩ := Option.map_eq_some_iff.1 h
    exact word_awp hw id st s hs Q fun st' h1 h2 h3 => hQ st' h1 h2 (by rw [h3]; simp [inW])
  | .seq (.region id ops false) (.cond (.tmp r') .skip c), ws, h, st, s, hs, Q, hQ => by
    have ho : True := trivial
    simp only [chainOf] at h
    split at h
    · rename_i w ws' hw hc
      split at h
      · rename_i hr
        subst hr
        cases h
        simp only [go_sem, Nat.reduceEqDiff, Nat.reduceAdd, Nat.reduceSub, Nat.reduceLeDiff, Nat.reduceLT, Nat.reduceMul, Nat.reduceBEq, Int.reduceEq, Int.reduceLT, Int.reduceLE, Int.reduceNeg, Int.reduceToNat, reduceCtorEq, ho]
        refine word_awp hw id st s hs _ fun st' h1 h2 h3 => ?_
        by_cases e : s = w
        · simp only [go_sem, Nat.reduceEqDiff, Nat.reduceAdd, Nat.reduceSub, Nat.reduceLeDiff, Nat.reduceLT, Nat.reduceMul, Nat.reduceBEq, Int.reduceEq, Int.reduceLT, Int.reduceLE, Int.reduceNeg, Int.reduceToNat, reduceCtorEq, ho, h3, e, decide_true]
          exact hQ st' h1 h2 (by rw [h3]; simp [inW, e])
        · simp only [go_sem, Nat.reduceEqDiff, Nat.reduceAdd, Nat.reduceSub, Nat.reduceLeDiff, Nat.reduceLT, Nat.reduceMul, Nat.reduceBEq, Int.reduceEq, Int.reduceLT, Int.reduceLE, Int.reduceNeg, Int.reduceToNat, reduceCtorEq, ho, h3, e]
          refine chain_awp c ws' hc st' s h2 Q fun st'' k1 k2 k3 => hQ st'' (k1.trans h1) k2 (by rw [k3]; simp [inW, e])
      · cases h
    · cases h
end Go.Proofs.Ytiefnninebilbaa
/- Keywords: what the two packages take for keywords; no condition. -/
set_option maxRecDepth 100000
set_option linter.unusedVariables false
set_option linter.unusedSimpArgs false
namespace Go.Proofs.Ytiefnninebilbaa
open Go Go.Sx

def kw1 : List ByteArray := [⟨#[97, 100, 100]⟩, ⟨#[97, 102, 116, 101, 114]⟩, ⟨#[97, 108, 108]⟩, ⟨#[97, 108, 116, 101, 114]⟩, ⟨#[97, 110, 100]⟩, ⟨#[97, 115]⟩, ⟨#[98, 101, 102, 111, 114, 101]⟩, ⟨#[98, 101, 103, 105, 110]⟩, ⟨#[98, 101, 116, 119, 101, 101, 110]⟩, ⟨#[98, 111, 111, 108]⟩, ⟨#[98, 121]⟩, ⟨#[99, 104, 101, 99, 107]⟩, ⟨#[99, 111, 97, 108, 101, 115, 99, 101]⟩, ⟨#[99, 111, 109, 109, 105, 116]⟩, ⟨#[99, 111, 110, 116, 97, 105, 110, 115]⟩, ⟨#[99, 111, 117, 110, 116]⟩, ⟨#[99, 114, 101, 97, 116, 101]⟩, ⟨#[100, 101, 102, 97, 117, 108, 116]⟩, ⟨#[100, 101, 108, 101, 116, 101]⟩, ⟨#[100, 101, 115, 99]⟩, ⟨#[100, 105, 115, 116, 105, 110, 99, 116]⟩, ⟨#[100, 114, 111, 112]⟩, ⟨#[100, 117, 114, 105, 110, 103]⟩, ⟨#[101, 113, 117, 97, 108, 115]⟩, ⟨#[101, 120, 99, 101, 112, 116]⟩, ⟨#[102, 97, 108, 115, 101]⟩, ⟨#[102, 105, 110, 105, 115, 104, 101, 100, 98, 121]⟩, ⟨#[102, 105, 110, 105, 115, 104, 101, 115]⟩, ⟨#[102, 111, 114, 101, 105, 103, 110]⟩, ⟨#[102, 111, 114, 101, 118, 101, 114]⟩, ⟨#[102, 114, 111, 109]⟩, ⟨#[103, 114, 111, 117, 112]⟩, ⟨#[104, 111, 108, 100]⟩, ⟨#[105, 102]⟩, ⟨#[105, 110, 115, 101, 114, 116]⟩, ⟨#[105, 110, 116]⟩, ⟨#[105, 110, 116, 101, 114, 115, 101, 99, 116]⟩, ⟨#[105, 110, 116, 111]⟩, ⟨#[105, 115]⟩, ⟨#[106, 111, 105, 110]⟩, ⟨#[107, 101, 121]⟩]
def kw2 : List ByteArray := [⟨#[108, 101, 102, 116]⟩, ⟨#[108, 101, 110, 103, 116, 104]⟩, ⟨#[108, 105, 109, 105, 116]⟩, ⟨#[109, 97, 120]⟩, ⟨#[109, 101, 101, 116, 115]⟩, ⟨#[109, 101, 116, 98, 121]⟩, ⟨#[109, 105, 110]⟩, ⟨#[110, 111, 110, 115, 101, 113, 117, 101, 110, 99, 101, 100]⟩, ⟨#[110, 111, 116]⟩, ⟨#[110, 111, 119]⟩, ⟨#[110, 117, 108, 108]⟩, ⟨#[111, 102]⟩, ⟨#[111, 110]⟩, ⟨#[111, 114]⟩, ⟨#[111, 114, 100, 101, 114]⟩, ⟨#[111, 118, 101, 114, 108, 97, 112, 112, 101, 100, 98, 121]⟩, ⟨#[111, 118, 101, 114, 108, 97, 112, 115]⟩, ⟨#[112, 114, 105, 109, 97, 114, 121]⟩, ⟨#[112, 114, 117, 110, 101]⟩, ⟨#[114, 101, 102, 101, 114, 101, 110, 99, 101, 115]⟩, ⟨#[114, 101, 108, 101, 97, 115, 101]⟩, ⟨#[114, 101, 110, 97, 109, 101]⟩, ⟨#[114, 101, 116, 97, 105, 110]⟩, ⟨#[114, 111, 108, 108, 98, 97, 99, 107]⟩, ⟨#[115, 101, 108, 101, 99, 116]⟩, ⟨#[115, 101, 113, 117, 101, 110, 99, 101, 100]⟩, ⟨#[115, 101, 116]⟩, ⟨#[115, 116, 97, 114, 116, 101, 100, 98, 121]⟩, ⟨#[115, 116, 97, 114, 116, 115]⟩, ⟨#[115, 117, 109]⟩, ⟨#[115, 121, 115, 116, 101, 109]⟩, ⟨#[115, 121, 115, 116, 101, 109, 102, 114, 111, 109]⟩, ⟨#[115, 121, 115, 116, 101, 109, 116, 111]⟩]
def kw3 : List ByteArray := [⟨#[116, 97, 98, 108, 101]⟩, ⟨#[116, 101, 120, 116]⟩, ⟨#[116, 111]⟩, ⟨#[116, 114, 117, 101]⟩, ⟨#[116, 120]⟩, ⟨#[117, 110, 100, 101, 114]⟩, ⟨#[117, 110, 105, 111, 110]⟩, ⟨#[117, 112, 100, 97, 116, 101]⟩, ⟨#[118, 97, 108, 105, 100]⟩, ⟨#[118, 97, 108, 105, 100, 102, 114, 111, 109]⟩, ⟨#[118, 97, 108, 105, 100, 116, 111]⟩, ⟨#[118, 97, 108, 117, 101, 115]⟩, ⟨#[119, 104, 101, 114, 101]⟩]
def kws : List ByteArray := kw1 ++ (kw2 ++ kw3)
theorem inW_app (a b : List ByteArray) (s : ByteArray) : inW (a ++ b) s = (inW a s || inW b s) := by simp [inW]
theorem reserved_shape : ∃ R0 R1 C1 X1 C2 X2 C3 X3 R9 : Code, Try.f72.body = some (.seq R0 (.seq (.seq R1 (.block 0 (.seq C1 (.cond (.tmp 4) X1 (.seq C2 (.cond (.tmp 46) X2 (.seq C3 (.cond (.tmp 80) X3 .skip)))))))) R9)) ∧
    chainOf 3 4 C1 = some kw1 ∧ chainOf 3 46 C2 = some kw2 ∧ chainOf 3 80 C3 = some kw3 ∧
    (∀ (Q : XQ) (st : St), awp P0 E0 M0 R0 Q st = Q .normal (st.put (some 2) (.bool false))) ∧ (∀ (Q : XQ) (st : St), awp P0 E0 M0 R1 Q st = Q .normal (st.put (some 3) (st.s 0))) ∧
    (∀ (Q : XQ) (st : St), awp P0 E0 M0 X1 Q st = Q .ret (st.put (some 2) (.bool true))) ∧ (∀ (Q : XQ) (st : St), awp P0 E0 M0 X2 Q st = Q .ret (st.put (some 2) (.bool true))) ∧
    (∀ (Q : XQ) (st : St), awp P0 E0 M0 X3 Q st = Q .ret (st.put (some 2) (.bool true))) ∧ (∀ (Q : XQ) (st : St), awp P0 E0 M0 R9 Q st = Q .ret (st.put (some 2) (.bool false))) :=
  ⟨_, _, _, _, _, _, _, _, _, rfl, by kernel_rfl, by kernel_rfl, by kernel_rfl, fun Q st => by simp only [go_sem], fun Q st => by simp only [go_sem], fun Q st => by simp only [go_sem], fun Q st => by simp only [go_sem], fun Q st => by simp only [go_sem], fun Q st => by simp only [go_sem]⟩
theorem ok72 : okCode M0 Try.f72.ntmps (Try.f72.body.getD .skip) = true := by decide +kernel
theorem reserved_fn (s : ByteArray) : Fc 72 [.str s] (.bool (inW kws s)) := by
  refine fn_of_awp (E := E0) (M := M0) follows Try.func72 rfl (by decide) ok72 (by decide) (by simp) fun o ho => ?_
  obtain ⟨R0, R1, C1, X1, C2, X2, C3, X3, R9, hbody, hc1, hc2, hc3, h0, h1, x1, x2, x3, h9⟩ := reserved_shape
  have hk : inW kws s = (inW kw1 s || (inW kw2 s || inW kw3 s)) := by rw [kws, inW_app, inW_app]
  rw [hk]
  change awp P0 E0 M0 (Try.f72.body.getD .skip) _ _
  rw [hbody, Option.getD_some, awp_seq, h0, Then_normal, awp_seq, awp_seq, h1, Then_normal, awp_block, awp_seq]
  refine chain_awp C1 kw1 hc1 _ s (by simp only [go_sem, Nat.reduceEqDiff, Nat.reduceAdd, Nat.reduceSub, Nat.reduceLeDiff, Nat.reduceLT, Nat.reduceMul, Nat.reduceBEq, Int.reduceEq, Int.reduceLT, Int.reduceLE, Int.reduceNeg, Int.reduceToNat, reduceCtorEq, ho, Try.results72]) _ fun st1 k1 k2 k3 => ?_
  rw [Then_normal, awp_cond, ev_tmp, k3, OKB_bool]
  cases w1 : inW kw1 s with
  | true =>
    rw [AIf_t, x1]
    simp only [go_sem, Nat.reduceEqDiff, Nat.reduceAdd, Nat.reduceSub, Nat.reduceLeDiff, Nat.reduceLT, Nat.reduceMul, Nat.reduceBEq, Int.reduceEq, Int.reduceLT, Int.reduceLE, Int.reduceNeg, Int.reduceToNat, reduceCtorEq, ho, Try.results72, Bool.true_or]
  | false =>
  rw [AIf_f, awp_seq]
  refine chain_awp C2 kw2 hc2 _ s k2 _ fun st2 m1 m2 m3 => ?_
  rw [Then_normal, awp_cond, ev_tmp, m3, OKB_bool]
  cases w2 : inW kw2 s with
  | true =>
    rw [AIf_t, x2]
    simp only [go_sem, Nat.reduceEqDiff, Nat.reduceAdd, Nat.reduceSub, Nat.reduceLeDiff, Nat.reduceLT, Nat.reduceMul, Nat.reduceBEq, Int.reduceEq, Int.reduceLT, Int.reduceLE, Int.reduceNeg, Int.reduceToNat, reduceCtorEq, ho, Try.results72, Bool.true_or, Bool.false_or]
  | false =>
  rw [AIf_f, awp_seq]
  refine chain_awp C3 kw3 hc3 _ s m2 _ fun st3 n1 n2 n3 => ?_
  rw [Then_normal, awp_cond, ev_tmp, n3, OKB_bool]
  cases w3 : inW kw3 s with
  | true =>
    rw [AIf_t, x3]
    simp only [go_sem, Nat.reduceEqDiff, Nat.reduceAdd, Nat.reduceSub, Nat.reduceLeDiff, Nat.reduceLT, Nat.reduceMul, Nat.reduceBEq, Int.reduceEq, Int.reduceLT, Int.reduceLE, Int.reduceNeg, Int.reduceToNat, reduceCtorEq, ho, Try.results72, Bool.or_true, Bool.false_or]
  | false =>
  rw [AIf_f]
  simp only [go_sem, Nat.reduceEqDiff, Nat.reduceAdd, Nat.reduceSub, Nat.reduceLeDiff, Nat.reduceLT, Nat.reduceMul, Nat.reduceBEq, Int.reduceEq, Int.reduceLT, Int.reduceLE, Int.reduceNeg, Int.reduceToNat, reduceCtorEq, ho, Try.results72, h9, Bool.false_or]
theorem ok74 : okCode M0 Try.f74.ntmps (Try.f74.body.getD .skip) = true := by decide +kernel
theorem words_fn : FnR P0 74 [] (.row 9 (kws.map PV.str)) := by
  refine fn_of_awp (E := E0) (M := M0) follows Try.func74 rfl (by decide) ok74 (by decide) (by simp) fun o ho => ?_
  simp only [go_sem, Nat.reduceEqDiff, Nat.reduceAdd, Nat.reduceSub, Nat.reduceLeDiff, Nat.reduceLT, Nat.reduceMul, Nat.reduceBEq, Int.reduceEq, Int.reduceLT, Int.reduceLE, Int.reduceNeg, Int.reduceToNat, reduceCtorEq, ho, Try.results74, List.append_eq, List.cons_append, List.nil_append]
  rfl
theorem ok73 : okCode M0 Try.f73.ntmps (Try.f73.body.getD .skip) = true := by decide +kernel
theorem in_fn (l : List ByteArray) (s : ByteArray) (hl : l.length ≤ 1000000000) : Fc 73 [.sl (l.map PV.str), .str s] (.bool (inW l s)) := by
  refine fn_of_awp (E := E0) (M := M0) follows Try.func73 rfl (by decide) ok73 (by decide) (by simp) fun o ho => ?_
  simp only [go_sem, Nat.reduceEqDiff, Nat.reduceAdd, Nat.reduceSub, Nat.reduceLeDiff, Nat.reduceLT, Nat.reduceMul, Nat.reduceBEq, Int.reduceEq, Int.reduceLT, Int.reduceLE, Int.reduceNeg, Int.reduceToNat, reduceCtorEq, ho, Try.results73]
  refine ⟨fun n st => ∃ (done rest : List ByteArray), l = done ++ rest ∧ rest.length = n ∧ inW rest s = inW l s ∧ st.s 5 = .int .i64 done.length ∧ st.s 0 = .sl (l.map PV.str) ∧ st.s 1 = .str s, l.length,
    ⟨[], l, rfl, rfl, rfl, by simp only [go_sem, Nat.reduceEqDiff, Nat.reduceAdd, Nat.reduceSub, Nat.reduceLeDiff, Nat.reduceLT, Nat.reduceMul, Nat.reduceBEq, Int.reduceEq, Int.reduceLT, Int.reduceLE, Int.reduceNeg, Int.reduceToNat, reduceCtorEq, ho, Try.results73]; rfl, by simp only [go_sem, Nat.reduceEqDiff, Nat.reduceAdd, Nat.reduceSub, Nat.reduceLeDiff, Nat.reduceLT, Nat.reduceMul, Nat.reduceBEq, Int.reduceEq, Int.reduceLT, Int.reduceLE, Int.reduceNeg, Int.reduceToNat, reduceCtorEq, ho, Try.results73], by simp only [go_sem, Nat.reduceEqDiff, Nat.reduceAdd, Nat.reduceSub, Nat.reduceLeDiff, Nat.reduceLT, Nat.reduceMul, Nat.reduceBEq, Int.reduceEq, Int.reduceLT, Int.reduceLE, Int.reduceNeg, Int.reduceToNat, reduceCtorEq, ho, Try.results73]⟩, ?_⟩
  rintro n st ⟨done, rest, hl', hn, ha, h5, hs0, hs1⟩
  have hlen2 : done.length + rest.length = l.length := by rw [hl']; simp
  have hw : IntKind.i64.wrap ((done.length : Int) + 1) = (done.length : Int) + 1 := wrap_fits (by omega) (by omega)
  cases rest with
  | nil =>
    have hlt : ¬ (done.length : Int) < (l.length : Int) := by simp at hlen2; omega
    simp only [go_sem, Nat.reduceEqDiff, Nat.reduceAdd, Nat.reduceSub, Nat.reduceLeDiff, Nat.reduceLT, Nat.reduceMul, Nat.reduceBEq, Int.reduceEq, Int.reduceLT, Int.reduceLE, Int.reduceNeg, Int.reduceToNat, reduceCtorEq, ho, Try.results73, h5, hs0, hlt, List.length_map]
    rw [← ha]; rfl
  | cons v rest =>
    have hlt : (done.length : Int) < (l.length : Int) := by simp at hlen2; omega
    have hget : (l.map PV.str)[done.length]? = some (.str v) := by simp [hl']
    simp only [go_sem, Nat.reduceEqDiff, Nat.reduceAdd, Nat.reduceSub, Nat.reduceLeDiff, Nat.reduceLT, Nat.reduceMul, Nat.reduceBEq, Int.reduceEq, Int.reduceLT, Int.reduceLE, Int.reduceNeg, Int.reduceToNat, reduceCtorEq, ho, Try.results73, h5, hs0, hs1, hlt, List.length_map, hget, Int.natCast_nonneg, Int.toNat_natCast]
    by_cases hk : v = s
    · simp only [go_sem, Nat.reduceEqDiff, Nat.reduceAdd, Nat.reduceSub, Nat.reduceLeDiff, Nat.reduceLT, Nat.reduceMul, Nat.reduceBEq, Int.reduceEq, Int.reduceLT, Int.reduceLE, Int.reduceNeg, Int.reduceToNat, reduceCtorEq, ho, Try.results73, eq_true hk]
      rw [← ha]; simp [inW, hk]
    · have hk' : ¬ s = v := fun h => hk h.symm
      simp only [go_sem, Nat.reduceEqDiff, Nat.reduceAdd, Nat.reduceSub, Nat.reduceLeDiff, Nat.reduceLT, Nat.reduceMul, Nat.reduceBEq, Int.reduceEq, Int.reduceLT, Int.reduceLE, Int.reduceNeg, Int.reduceToNat, reduceCtorEq, ho, Try.results73, hk, h5, hs0, hs1, hw]
      exact ⟨rest.length, by simp at hn; omega, done ++ [v], rest, by simp [hl'], rfl, by rw [← ha]; simp [inW, hk'], by simp⟩
end Go.Proofs.Ytiefnninebilbaa
/- What the reference takes for a name; no condition. -/
set_option maxRecDepth 100000
set_option linter.unusedVariables false
set_option linter.unusedSimpArgs false
namespace Go.Proofs.Ytiefnninebilbaa
open Go Go.Sx

def digit (b : UInt8) : Bool := decide (48 ≤ b.toNat) && decide (b.toNat ≤ 57)
def nameByte (b : UInt8) : Bool := (decide (97 ≤ b.toNat) && decide (b.toNat ≤ 122)) || (digit b || decide (b.toNat = 95))
def headOk (s : ByteArray) : Bool := match s.data.toList with
  | b :: _ => !digit b
  | [] => true
def nameOk (s : ByteArray) : Bool := decide (1 ≤ s.size) && (decide (s.size ≤ 24) && (headOk s && (s.data.toList.all nameByte && !inW kws s)))
theorem nameBytes_at {s : ByteArray} {i : Nat} (h : i < s.size) (hp : nameByte s[i] = false) : s.data.toList.all nameByte = false := by
  rw [List.all_eq_false]
  exact ⟨s[i], by rw [Array.mem_toList_iff]; exact Array.getElem_mem _, by simp [hp]⟩
theorem nameBytes_all {s : ByteArray} (h : ∀ j (hj : j < s.size), nameByte s[j] = true) : s.data.toList.all nameByte = true := by
  rw [List.all_eq_true]
  intro b hb
  obtain ⟨j, hj, rfl⟩ := List.getElem_of_mem hb
  exact h j (by simpa using hj)
theorem headOk_eq {s : ByteArray} (h : 0 < s.size) : headOk s = !digit s[0] := by
  obtain ⟨⟨l⟩⟩ := s
  cases l with
  | nil => exact absurd h (by decide)
  | cons b l => rfl
theorem size_zero {s : ByteArray} (h : s.size = 0) : s = emp := by
  obtain ⟨⟨l⟩⟩ := s
  cases l with
  | nil => rfl
  | cons b l => simp [ByteArray.size] at h
theorem ok20 : okCode M0 Try.f20.ntmps (Try.f20.body.getD .skip) = true := by decide +kernel
theorem rname_fn (s : ByteArray) (hs : s.size ≤ 9223372036854775806) : Fc 20 [.str s] (.bool (nameOk s)) := by
  refine fn_of_awp (E := E0) (M := M0) follows Try.func20 rfl (by decide) ok20 (by decide) (by simp) fun o ho => ?_
  simp only [go_sem, Nat.reduceEqDiff, Nat.reduceAdd, Nat.reduceSub, Nat.reduceLeDiff, Nat.reduceLT, Nat.reduceMul, Nat.reduceBEq, Int.reduceEq, Int.reduceLT, Int.reduceLE, Int.reduceNeg, Int.reduceToNat, reduceCtorEq, ho, Try.results20]
  by_cases he : s = emp
  · simp only [go_sem, Nat.reduceEqDiff, Nat.reduceAdd, Nat.reduceSub, Nat.reduceLeDiff, Nat.reduceLT, Nat.reduceMul, Nat.reduceBEq, Int.reduceEq, Int.reduceLT, Int.reduceLE, Int.reduceNeg, Int.reduceToNat, reduceCtorEq, ho, Try.results20, eq_true he]
    rw [he]; rfl
  have h0 : 0 < s.size := by
    rcases Nat.eq_zero_or_pos s.size with h | h
    · exact absurd (size_zero h) he
    · exact h
  by_cases h24 : (24 : Int) < (s.size : Int)
  · simp only [go_sem, Nat.reduceEqDiff, Nat.reduceAdd, Nat.reduceSub, Nat.reduceLeDiff, Nat.reduceLT, Nat.reduceMul, Nat.reduceBEq, Int.reduceEq, Int.reduceLT, Int.reduceLE, Int.reduceNeg, Int.reduceToNat, reduceCtorEq, ho, Try.results20, he, h24]
    have : ¬ s.size ≤ 24 := by omega
    simp [nameOk, this]
  have hget0 := ba_get h0
  have e00 : (0 : Int) ≤ 0 := by decide
  simp only [go_sem, Nat.reduceEqDiff, Nat.reduceAdd, Nat.reduceSub, Nat.reduceLeDiff, Nat.reduceLT, Nat.reduceMul, Nat.reduceBEq, Int.reduceEq, Int.reduceLT, Int.reduceLE, Int.reduceNeg, Int.reduceToNat, reduceCtorEq, ho, Try.results20, he, h24, hget0, e00]
  by_cases d1 : (48 : Int) ≤ (s[0].toNat : Int)
  · by_cases d2 : (s[0].toNat : Int) ≤ 57
    · have hd : digit s[0] = true := by simp [digit]; omega
      simp only [go_sem, Nat.reduceEqDiff, Nat.reduceAdd, Nat.reduceSub, Nat.reduceLeDiff, Nat.reduceLT, Nat.reduceMul, Nat.reduceBEq, Int.reduceEq, Int.reduceLT, Int.reduceLE, Int.reduceNeg, Int.reduceToNat, reduceCtorEq, ho, Try.results20, d1, d2, hget0, e00]
      have hho : headOk s = false := by rw [headOk_eq h0, hd]; rfl
      simp [nameOk, hho]
    have hnd : digit s[0] = false := by simp [digit]; omega
    simp only [go_sem, Nat.reduceEqDiff, Nat.reduceAdd, Nat.reduceSub, Nat.reduceLeDiff, Nat.reduceLT, Nat.reduceMul, Nat.reduceBEq, Int.reduceEq, Int.reduceLT, Int.reduceLE, Int.reduceNeg, Int.reduceToNat, reduceCtorEq, ho, Try.results20, d1, d2, hget0, e00]
    refine ⟨fun n st => ∃ i : Nat, i + n = s.size ∧ st.s 3 = .int .i64 i ∧ st.s 0 = .str s ∧ ∀ j (hj : j < s.size), j < i → nameByte s[j] = true, s.size, ⟨0, by omega, by simp only [go_sem, Nat.reduceEqDiff, Nat.reduceAdd, Nat.reduceSub, Nat.reduceLeDiff, Nat.reduceLT, Nat.reduceMul, Nat.reduceBEq, Int.reduceEq, Int.reduceLT, Int.reduceLE, Int.reduceNeg, Int.reduceToNat, reduceCtorEq, ho, Try.results20]; rfl, by simp only [go_sem, Nat.reduceEqDiff, Nat.reduceAdd, Nat.reduceSub, Nat.reduceLeDiff, Nat.reduceLT, Nat.reduceMul, Nat.reduceBEq, Int.reduceEq, Int.reduceLT, Int.reduceLE, Int.reduceNeg, Int.reduceToNat, reduceCtorEq, ho, Try.results20], fun j _ h => absurd h (Nat.not_lt_zero j)⟩, ?_⟩
    rintro n st ⟨i, hi, h3, hs0, hall⟩
    have hw : IntKind.i64.wrap ((i : Int) + 1) = (i : Int) + 1 := wrap_fits (by omega) (by omega)
    by_cases hlt : i < s.size
    · have hlt' : (i : Int) < (s.size : Int) := by omega
      have hget := ba_get hlt
      simp only [go_sem, Nat.reduceEqDiff, Nat.reduceAdd, Nat.reduceSub, Nat.reduceLeDiff, Nat.reduceLT, Nat.reduceMul, Nat.reduceBEq, Int.reduceEq, Int.reduceLT, Int.reduceLE, Int.reduceNeg, Int.reduceToNat, reduceCtorEq, ho, Try.results20, h3, hs0, hlt', Int.natCast_nonneg, Int.toNat_natCast, hget]
      have next : nameByte s[i] = true → ∃ m, m < n ∧ ∃ k : Nat, k + m = s.size ∧ ((i : Int) + 1 = (k : Int)) ∧ ∀ j (hj : j < s.size), j < k → nameByte s[j] = true := fun hok => ⟨n - 1, by omega, i + 1, by omega, by omega, fun j hj hji => by
        rcases Nat.lt_succ_iff_lt_or_eq.1 hji with h | rfl
        · exact hall j hj h
        · exact hok⟩
      have bad : nameByte s[i] = false → false = nameOk s := fun hb => by
        have := nameBytes_at hlt hb
        simp [nameOk, this]
      repeat' (first | (refine AIf_cases (fun h => ?_) (fun h => ?_) <;> (try simp only [decide_eq_true_eq, decide_eq_false_iff_not, Bool.not_eq_true', Bool.not_eq_false', Bool.not_eq_true, Bool.not_eq_false] at h) <;> (try simp only [go_sem, Nat.reduceEqDiff, Nat.reduceAdd, Nat.reduceSub, Nat.reduceLeDiff, Nat.reduceLT, Nat.reduceMul, Nat.reduceBEq, Int.reduceEq, Int.reduceLT, Int.reduceLE, Int.reduceNeg, Int.reduceToNat, reduceCtorEq, ho, Try.results20, h, h3, hs0, hlt', Int.natCast_nonneg, Int.toNat_natCast, hget, hw])))
      all_goals (first | (refine next ?_; simp [nameByte, digit]; omega) | (refine bad ?_; simp [nameByte, digit]; omega))
    · have hlt' : ¬ (i : Int) < (s.size : Int) := by omega
      have hb := nameBytes_all (s := s) fun j hj => hall j hj (by omega)
      simp only [go_sem, Nat.reduceEqDiff, Nat.reduceAdd, Nat.reduceSub, Nat.reduceLeDiff, Nat.reduceLT, Nat.reduceMul, Nat.reduceBEq, Int.reduceEq, Int.reduceLT, Int.reduceLE, Int.reduceNeg, Int.reduceToNat, reduceCtorEq, ho, Try.results20, h3, hs0, hlt']
      refine GCall.mk ?_ words_fn rfl ?_
      · simp only [go_sem, Nat.reduceEqDiff, Nat.reduceAdd, Nat.reduceSub, Nat.reduceLeDiff, Nat.reduceLT, Nat.reduceMul, Nat.reduceBEq, Int.reduceEq, Int.reduceLT, Int.reduceLE, Int.reduceNeg, Int.reduceToNat, reduceCtorEq, ho, Try.results20]
      simp only [go_sem, Nat.reduceEqDiff, Nat.reduceAdd, Nat.reduceSub, Nat.reduceLeDiff, Nat.reduceLT, Nat.reduceMul, Nat.reduceBEq, Int.reduceEq, Int.reduceLT, Int.reduceLE, Int.reduceNeg, Int.reduceToNat, reduceCtorEq, ho, Try.results20, hs0]
      refine GCall.fr ?_ (in_fn kws s (by decide)) (.inl rfl) ?_; (focus (first | rfl | ((simp only [go_sem, Nat.reduceEqDiff, Nat.reduceAdd, Nat.reduceSub, Nat.reduceLeDiff, Nat.reduceLT, Nat.reduceMul, Nat.reduceBEq, Int.reduceEq, Int.reduceLT, Int.reduceLE, Int.reduceNeg, Int.reduceToNat, reduceCtorEq, ho, Try.results20]); done) | ((simp only [go_sem, Nat.reduceEqDiff, Nat.reduceAdd, Nat.reduceSub, Nat.reduceLeDiff, Nat.reduceLT, Nat.reduceMul, Nat.reduceBEq, Int.reduceEq, Int.reduceLT, Int.reduceLE, Int.reduceNeg, Int.reduceToNat, reduceCtorEq, ho, Try.results20]); rfl)))
      simp only [go_sem, Nat.reduceEqDiff, Nat.reduceAdd, Nat.reduceSub, Nat.reduceLeDiff, Nat.reduceLT, Nat.reduceMul, Nat.reduceBEq, Int.reduceEq, Int.reduceLT, Int.reduceLE, Int.reduceNeg, Int.reduceToNat, reduceCtorEq, ho, Try.results20]
      have hho : headOk s = true := by rw [headOk_eq h0, hnd]; rfl
      have h1 : 1 ≤ s.size := h0
      have h24' : s.size ≤ 24 := by omega
      simp [nameOk, h1, h24', hho, hb]
  · have hnd : digit s[0] = false := by simp [digit]; omega
    simp only [go_sem, Nat.reduceEqDiff, Nat.reduceAdd, Nat.reduceSub, Nat.reduceLeDiff, Nat.reduceLT, Nat.reduceMul, Nat.reduceBEq, Int.reduceEq, Int.reduceLT, Int.reduceLE, Int.reduceNeg, Int.reduceToNat, reduceCtorEq, ho, Try.results20, d1, hget0, e00]
    refine ⟨fun n st => ∃ i : Nat, i + n = s.size ∧ st.s 3 = .int .i64 i ∧ st.s 0 = .str s ∧ ∀ j (hj : j < s.size), j < i → nameByte s[j] = true, s.size, ⟨0, by omega, by simp only [go_sem, Nat.reduceEqDiff, Nat.reduceAdd, Nat.reduceSub, Nat.reduceLeDiff, Nat.reduceLT, Nat.reduceMul, Nat.reduceBEq, Int.reduceEq, Int.reduceLT, Int.reduceLE, Int.reduceNeg, Int.reduceToNat, reduceCtorEq, ho, Try.results20]; rfl, by simp only [go_sem, Nat.reduceEqDiff, Nat.reduceAdd, Nat.reduceSub, Nat.reduceLeDiff, Nat.reduceLT, Nat.reduceMul, Nat.reduceBEq, Int.reduceEq, Int.reduceLT, Int.reduceLE, Int.reduceNeg, Int.reduceToNat, reduceCtorEq, ho, Try.results20], fun j _ h => absurd h (Nat.not_lt_zero j)⟩, ?_⟩
    rintro n st ⟨i, hi, h3, hs0, hall⟩
    have hw : IntKind.i64.wrap ((i : Int) + 1) = (i : Int) + 1 := wrap_fits (by omega) (by omega)
    by_cases hlt : i < s.size
    · have hlt' : (i : Int) < (s.size : Int) := by omega
      have hget := ba_get hlt
      simp only [go_sem, Nat.reduceEqDiff, Nat.reduceAdd, Nat.reduceSub, Nat.reduceLeDiff, Nat.reduceLT, Nat.reduceMul, Nat.reduceBEq, Int.reduceEq, Int.reduceLT, Int.reduceLE, Int.reduceNeg, Int.reduceToNat, reduceCtorEq, ho, Try.results20, h3, hs0, hlt', Int.natCast_nonneg, Int.toNat_natCast, hget]
      have next : nameByte s[i] = true → ∃ m, m < n ∧ ∃ k : Nat, k + m = s.size ∧ ((i : Int) + 1 = (k : Int)) ∧ ∀ j (hj : j < s.size), j < k → nameByte s[j] = true := fun hok => ⟨n - 1, by omega, i + 1, by omega, by omega, fun j hj hji => by
        rcases Nat.lt_succ_iff_lt_or_eq.1 hji with h | rfl
        · exact hall j hj h
        · exact hok⟩
      have bad : nameByte s[i] = false → false = nameOk s := fun hb => by
        have := nameBytes_at hlt hb
        simp [nameOk, this]
      repeat' (first | (refine AIf_cases (fun h => ?_) (fun h => ?_) <;> (try simp only [decide_eq_true_eq, decide_eq_false_iff_not, Bool.not_eq_true', Bool.not_eq_false', Bool.not_eq_true, Bool.not_eq_false] at h) <;> (try simp only [go_sem, Nat.reduceEqDiff, Nat.reduceAdd, Nat.reduceSub, Nat.reduceLeDiff, Nat.reduceLT, Nat.reduceMul, Nat.reduceBEq, Int.reduceEq, Int.reduceLT, Int.reduceLE, Int.reduceNeg, Int.reduceToNat, reduceCtorEq, ho, Try.results20, h, h3, hs0, hlt', Int.natCast_nonneg, Int.toNat_natCast, hget, hw])))
      all_goals (first | (refine next ?_; simp [nameByte, digit]; omega) | (refine bad ?_; simp [nameByte, digit]; omega))
    · have hlt' : ¬ (i : Int) < (s.size : Int) := by omega
      have hb := nameBytes_all (s := s) fun j hj => hall j hj (by omega)
      simp only [go_sem, Nat.reduceEqDiff, Nat.reduceAdd, Nat.reduceSub, Nat.reduceLeDiff, Nat.reduceLT, Nat.reduceMul, Nat.reduceBEq, Int.reduceEq, Int.reduceLT, Int.reduceLE, Int.reduceNeg, Int.reduceToNat, reduceCtorEq, ho, Try.results20, h3, hs0, hlt']
      refine GCall.mk ?_ words_fn rfl ?_
      · simp only [go_sem, Nat.reduceEqDiff, Nat.reduceAdd, Nat.reduceSub, Nat.reduceLeDiff, Nat.reduceLT, Nat.reduceMul, Nat.reduceBEq, Int.reduceEq, Int.reduceLT, Int.reduceLE, Int.reduceNeg, Int.reduceToNat, reduceCtorEq, ho, Try.results20]
      simp only [go_sem, Nat.reduceEqDiff, Nat.reduceAdd, Nat.reduceSub, Nat.reduceLeDiff, Nat.reduceLT, Nat.reduceMul, Nat.reduceBEq, Int.reduceEq, Int.reduceLT, Int.reduceLE, Int.reduceNeg, Int.reduceToNat, reduceCtorEq, ho, Try.results20, hs0]
      refine GCall.fr ?_ (in_fn kws s (by decide)) (.inl rfl) ?_; (focus (first | rfl | ((simp only [go_sem, Nat.reduceEqDiff, Nat.reduceAdd, Nat.reduceSub, Nat.reduceLeDiff, Nat.reduceLT, Nat.reduceMul, Nat.reduceBEq, Int.reduceEq, Int.reduceLT, Int.reduceLE, Int.reduceNeg, Int.reduceToNat, reduceCtorEq, ho, Try.results20]); done) | ((simp only [go_sem, Nat.reduceEqDiff, Nat.reduceAdd, Nat.reduceSub, Nat.reduceLeDiff, Nat.reduceLT, Nat.reduceMul, Nat.reduceBEq, Int.reduceEq, Int.reduceLT, Int.reduceLE, Int.reduceNeg, Int.reduceToNat, reduceCtorEq, ho, Try.results20]); rfl)))
      simp only [go_sem, Nat.reduceEqDiff, Nat.reduceAdd, Nat.reduceSub, Nat.reduceLeDiff, Nat.reduceLT, Nat.reduceMul, Nat.reduceBEq, Int.reduceEq, Int.reduceLT, Int.reduceLE, Int.reduceNeg, Int.reduceToNat, reduceCtorEq, ho, Try.results20]
      have hho : headOk s = true := by rw [headOk_eq h0, hnd]; rfl
      have h1 : 1 ≤ s.size := h0
      have h24' : s.size ≤ 24 := by omega
      simp [nameOk, h1, h24', hho, hb]
end Go.Proofs.Ytiefnninebilbaa
/- What the reference's check returns: its small parts; no condition. -/
set_option maxRecDepth 100000
set_option linter.unusedVariables false
set_option linter.unusedSimpArgs false
namespace Go.Proofs.Ytiefnninebilbaa
open Go Go.Sx

theorem fits_arity (op n : Int) (h0 : 0 ≤ n) (hn : n ≤ 1000000000) : fitsN op n = (!decide ((arity op).1 < 0) && (!decide (n < (arity op).1) && !decide ((arity op).2 < n))) := by
  unfold fitsN arity
  repeat' split
  all_goals (rw [Bool.eq_iff_iff]; simp only [Bool.and_eq_true, Bool.not_eq_true', decide_eq_true_eq, decide_eq_false_iff_not, Bool.false_eq_true]; first | omega | simp)
theorem ok106 : okCode M0 Try.f106.ntmps (Try.f106.body.getD .skip) = true := by decide +kernel
theorem rformed_fn (e : Ex) (hs : e.size ≤ 1000000000) : Fc 106 [e.enc] (.bool e.formed) := by
  have hlen : e.args.length ≤ 1000000000 := by have := Ex.len_sizes e.args; have := e.size_eq; omega
  have hfit := fits_arity e.op e.args.length (by omega) (by omega)
  refine fn_of_awp (E := E0) (M := M0) follows Try.func106 rfl (by decide) ok106 (by decide) (by simp) fun o ho => ?_
  simp only [go_sem, Nat.reduceEqDiff, Nat.reduceAdd, Nat.reduceSub, Nat.reduceLeDiff, Nat.reduceLT, Nat.reduceMul, Nat.reduceBEq, Int.reduceEq, Int.reduceLT, Int.reduceLE, Int.reduceNeg, Int.reduceToNat, reduceCtorEq, ho, Try.results106, e.enc_eq]
  refine GCall.fr ?_ (arity_fn e.op) (.inl rfl) ?_; (focus (first | rfl | ((simp only [go_sem, Nat.reduceEqDiff, Nat.reduceAdd, Nat.reduceSub, Nat.reduceLeDiff, Nat.reduceLT, Nat.reduceMul, Nat.reduceBEq, Int.reduceEq, Int.reduceLT, Int.reduceLE, Int.reduceNeg, Int.reduceToNat, reduceCtorEq, ho, Try.results106]); done) | ((simp only [go_sem, Nat.reduceEqDiff, Nat.reduceAdd, Nat.reduceSub, Nat.reduceLeDiff, Nat.reduceLT, Nat.reduceMul, Nat.reduceBEq, Int.reduceEq, Int.reduceLT, Int.reduceLE, Int.reduceNeg, Int.reduceToNat, reduceCtorEq, ho, Try.results106]); rfl)))
  simp only [go_sem, Nat.reduceEqDiff, Nat.reduceAdd, Nat.reduceSub, Nat.reduceLeDiff, Nat.reduceLT, Nat.reduceMul, Nat.reduceBEq, Int.reduceEq, Int.reduceLT, Int.reduceLE, Int.reduceNeg, Int.reduceToNat, reduceCtorEq, ho, Try.results106]
  repeat' (first | (refine AIf_cases (fun h => ?_) (fun h => ?_) <;> (try simp only [decide_eq_true_eq, decide_eq_false_iff_not, Bool.not_eq_true', Bool.not_eq_false', Bool.not_eq_true, Bool.not_eq_false] at h) <;> (try simp only [go_sem, Nat.reduceEqDiff, Nat.reduceAdd, Nat.reduceSub, Nat.reduceLeDiff, Nat.reduceLT, Nat.reduceMul, Nat.reduceBEq, Int.reduceEq, Int.reduceLT, Int.reduceLE, Int.reduceNeg, Int.reduceToNat, reduceCtorEq, ho, Try.results106, h, Vl.enc, Vl.null])) | (refine GCall.fr ?_ (rvalid_fn e.val) (.inl rfl) ?_; (focus (first | rfl | ((simp only [go_sem, Nat.reduceEqDiff, Nat.reduceAdd, Nat.reduceSub, Nat.reduceLeDiff, Nat.reduceLT, Nat.reduceMul, Nat.reduceBEq, Int.reduceEq, Int.reduceLT, Int.reduceLE, Int.reduceNeg, Int.reduceToNat, reduceCtorEq, ho, Try.results106, Vl.enc, Vl.null]); done) | ((simp only [go_sem, Nat.reduceEqDiff, Nat.reduceAdd, Nat.reduceSub, Nat.reduceLeDiff, Nat.reduceLT, Nat.reduceMul, Nat.reduceBEq, Int.reduceEq, Int.reduceLT, Int.reduceLE, Int.reduceNeg, Int.reduceToNat, reduceCtorEq, ho, Try.results106, Vl.enc, Vl.null]); rfl))); (try simp only [go_sem, Nat.reduceEqDiff, Nat.reduceAdd, Nat.reduceSub, Nat.reduceLeDiff, Nat.reduceLT, Nat.reduceMul, Nat.reduceBEq, Int.reduceEq, Int.reduceLT, Int.reduceLE, Int.reduceNeg, Int.reduceToNat, reduceCtorEq, ho, Try.results106, Vl.enc, Vl.null])) | (refine QCall.fr ?_ (rvalid_fn e.val) (.inl rfl) ?_; (focus (first | rfl | ((simp only [go_sem, Nat.reduceEqDiff, Nat.reduceAdd, Nat.reduceSub, Nat.reduceLeDiff, Nat.reduceLT, Nat.reduceMul, Nat.reduceBEq, Int.reduceEq, Int.reduceLT, Int.reduceLE, Int.reduceNeg, Int.reduceToNat, reduceCtorEq, ho, Try.results106, Vl.enc, Vl.null]); done) | ((simp only [go_sem, Nat.reduceEqDiff, Nat.reduceAdd, Nat.reduceSub, Nat.reduceLeDiff, Nat.reduceLT, Nat.reduceMul, Nat.reduceBEq, Int.reduceEq, Int.reduceLT, Int.reduceLE, Int.reduceNeg, Int.reduceToNat, reduceCtorEq, ho, Try.results106, Vl.enc, Vl.null]); rfl))); (try simp only [go_sem, Nat.reduceEqDiff, Nat.reduceAdd, Nat.reduceSub, Nat.reduceLeDiff, Nat.reduceLT, Nat.reduceMul, Nat.reduceBEq, Int.reduceEq, Int.reduceLT, Int.reduceLE, Int.reduceNeg, Int.reduceToNat, reduceCtorEq, ho, Try.results106, Vl.enc, Vl.null])) | (refine GCall.fr ?_ (rnull_fn) (.inl rfl) ?_; (focus (first | rfl | ((simp only [go_sem, Nat.reduceEqDiff, Nat.reduceAdd, Nat.reduceSub, Nat.reduceLeDiff, Nat.reduceLT, Nat.reduceMul, Nat.reduceBEq, Int.reduceEq, Int.reduceLT, Int.reduceLE, Int.reduceNeg, Int.reduceToNat, reduceCtorEq, ho, Try.results106, Vl.enc, Vl.null]); done) | ((simp only [go_sem, Nat.reduceEqDiff, Nat.reduceAdd, Nat.reduceSub, Nat.reduceLeDiff, Nat.reduceLT, Nat.reduceMul, Nat.reduceBEq, Int.reduceEq, Int.reduceLT, Int.reduceLE, Int.reduceNeg, Int.reduceToNat, reduceCtorEq, ho, Try.results106, Vl.enc, Vl.null]); rfl))); (try simp only [go_sem, Nat.reduceEqDiff, Nat.reduceAdd, Nat.reduceSub, Nat.reduceLeDiff, Nat.reduceLT, Nat.reduceMul, Nat.reduceBEq, Int.reduceEq, Int.reduceLT, Int.reduceLE, Int.reduceNeg, Int.reduceToNat, reduceCtorEq, ho, Try.results106, Vl.enc, Vl.null])) | (refine QCall.fr ?_ (rnull_fn) (.inl rfl) ?_; (focus (first | rfl | ((simp only [go_sem, Nat.reduceEqDiff, Nat.reduceAdd, Nat.reduceSub, Nat.reduceLeDiff, Nat.reduceLT, Nat.reduceMul, Nat.reduceBEq, Int.reduceEq, Int.reduceLT, Int.reduceLE, Int.reduceNeg, Int.reduceToNat, reduceCtorEq, ho, Try.results106, Vl.enc, Vl.null]); done) | ((simp only [go_sem, Nat.reduceEqDiff, Nat.reduceAdd, Nat.reduceSub, Nat.reduceLeDiff, Nat.reduceLT, Nat.reduceMul, Nat.reduceBEq, Int.reduceEq, Int.reduceLT, Int.reduceLE, Int.reduceNeg, Int.reduceToNat, reduceCtorEq, ho, Try.results106, Vl.enc, Vl.null]); rfl))); (try simp only [go_sem, Nat.reduceEqDiff, Nat.reduceAdd, Nat.reduceSub, Nat.reduceLeDiff, Nat.reduceLT, Nat.reduceMul, Nat.reduceBEq, Int.reduceEq, Int.reduceLT, Int.reduceLE, Int.reduceNeg, Int.reduceToNat, reduceCtorEq, ho, Try.results106, Vl.enc, Vl.null])))
  all_goals (first | (simp_all [Ex.formed]; done) | (simp_all [Ex.formed]; omega) | (simp_all [Ex.formed]; intros; omega) | (simp_all [Ex.formed]; (repeat' split) <;> (first | (simp_all; done) | (simp_all; omega) | omega)))
end Go.Proofs.Ytiefnninebilbaa
/- What the reference's check returns: kinds joined; no condition. -/
set_option maxRecDepth 100000
set_option linter.unusedVariables false
set_option linter.unusedSimpArgs false
namespace Go.Proofs.Ytiefnninebilbaa
open Go Go.Sx

theorem ok187 : okCode M0 Try.f187.ntmps (Try.f187.body.getD .skip) = true := by decide +kernel
theorem join_fn (l : List Int) (hl : l.length ≤ 1000000000) : Fc 187 [.sl (l.map (.int .i64))] (.tup [.int .i64 (unite l 0).1, .bool (unite l 0).2]) := by
  refine fn_of_awp (E := E0) (M := M0) follows Try.func187 rfl (by decide) ok187 (by decide) (by simp) fun o ho => ?_
  simp only [go_sem, Nat.reduceEqDiff, Nat.reduceAdd, Nat.reduceSub, Nat.reduceLeDiff, Nat.reduceLT, Nat.reduceMul, Nat.reduceBEq, Int.reduceEq, Int.reduceLT, Int.reduceLE, Int.reduceNeg, Int.reduceToNat, reduceCtorEq, ho, Try.results187]
  refine ⟨fun n st => ∃ (i : Nat) (rest : List Int) (k : Int), l.drop i = rest ∧ i + rest.length = l.length ∧ rest.length = n ∧ unite rest k = unite l 0 ∧ st.s 5 = .int .i64 i ∧ st.s 0 = .sl (l.map (.int .i64)) ∧ st.s 4 = .int .i64 k, l.length, ⟨0, l, 0, rfl, by simp, rfl, rfl, by simp only [go_sem, Nat.reduceEqDiff, Nat.reduceAdd, Nat.reduceSub, Nat.reduceLeDiff, Nat.reduceLT, Nat.reduceMul, Nat.reduceBEq, Int.reduceEq, Int.reduceLT, Int.reduceLE, Int.reduceNeg, Int.reduceToNat, reduceCtorEq, ho, Try.results187]; rfl, by simp only [go_sem, Nat.reduceEqDiff, Nat.reduceAdd, Nat.reduceSub, Nat.reduceLeDiff, Nat.reduceLT, Nat.reduceMul, Nat.reduceBEq, Int.reduceEq, Int.reduceLT, Int.reduceLE, Int.reduceNeg, Int.reduceToNat, reduceCtorEq, ho, Try.results187], by simp only [go_sem, Nat.reduceEqDiff, Nat.reduceAdd, Nat.reduceSub, Nat.reduceLeDiff, Nat.reduceLT, Nat.reduceMul, Nat.reduceBEq, Int.reduceEq, Int.reduceLT, Int.reduceLE, Int.reduceNeg, Int.reduceToNat, reduceCtorEq, ho, Try.results187]⟩, ?_⟩
  rintro n st ⟨i, rest, k, hr, hi, hn, ht, h5, h0, h4⟩
  have hw : IntKind.i64.wrap ((i : Int) + 1) = (i : Int) + 1 := wrap_fits (by omega) (by omega)
  cases rest with
  | nil =>
    have hlt : ¬ (i : Int) < (l.length : Int) := by simp at hi; omega
    simp only [go_sem, Nat.reduceEqDiff, Nat.reduceAdd, Nat.reduceSub, Nat.reduceLeDiff, Nat.reduceLT, Nat.reduceMul, Nat.reduceBEq, Int.reduceEq, Int.reduceLT, Int.reduceLE, Int.reduceNeg, Int.reduceToNat, reduceCtorEq, ho, Try.results187, h5, h0, hlt, h4]
    rw [← ht]; exact ⟨rfl, rfl⟩
  | cons x rest =>
    have hlt : (i : Int) < (l.length : Int) := by simp at hi; omega
    have hget : (l.map (PV.int .i64))[i]? = some (.int .i64 x) := by
      have : l[i]? = some x := by rw [← List.head?_drop, hr]; rfl
      rw [List.getElem?_map, this]; rfl
    have next : ∀ k', unite rest k' = unite l 0 → ∃ m, m < n ∧ ∃ (i' : Nat) (rest : List Int) (k : Int), l.drop i' = rest ∧ i' + rest.length = l.length ∧ rest.length = m ∧ unite rest k = unite l 0 ∧ ((i : Int) + 1 = (i' : Int)) ∧ k' = k := fun k' hk => ⟨rest.length, by simp at hn; omega, i + 1, rest, k', by rw [← List.drop_drop, hr]; rfl, by simp at hi; omega, rfl, hk, by simp, rfl⟩
    simp only [go_sem, Nat.reduceEqDiff, Nat.reduceAdd, Nat.reduceSub, Nat.reduceLeDiff, Nat.reduceLT, Nat.reduceMul, Nat.reduceBEq, Int.reduceEq, Int.reduceLT, Int.reduceLE, Int.reduceNeg, Int.reduceToNat, reduceCtorEq, ho, Try.results187, h5, h0, h4, hlt, hget, Int.natCast_nonneg, Int.toNat_natCast]
    repeat' (first | (refine AIf_cases (fun h => ?_) (fun h => ?_) <;> (try simp only [decide_eq_true_eq, decide_eq_false_iff_not, Bool.not_eq_true', Bool.not_eq_false', Bool.not_eq_true, Bool.not_eq_false] at h) <;> (try simp only [go_sem, Nat.reduceEqDiff, Nat.reduceAdd, Nat.reduceSub, Nat.reduceLeDiff, Nat.reduceLT, Nat.reduceMul, Nat.reduceBEq, Int.reduceEq, Int.reduceLT, Int.reduceLE, Int.reduceNeg, Int.reduceToNat, reduceCtorEq, ho, Try.results187, h, h5, h0, h4, hw, hlt, hget, Int.natCast_nonneg, Int.toNat_natCast])))
    all_goals simp only [unite] at ht
    all_goals (first | exact next _ (by simp_all) | (rw [if_neg ‹_›, if_pos ⟨‹_›, ‹_›⟩] at ht; rw [← ht]; exact ⟨rfl, rfl⟩))
end Go.Proofs.Ytiefnninebilbaa
/- What the reference's check returns: all kinds fit; no condition. -/
set_option maxRecDepth 100000
set_option linter.unusedVariables false
set_option linter.unusedSimpArgs false
namespace Go.Proofs.Ytiefnninebilbaa
open Go Go.Sx

def fitsKind (kind x : Int) : Bool := decide (x = kind) || decide (x = 0)
theorem unite_all (kind : Int) (hk : kind ≠ 0) : ∀ (l : List Int) (k : Int), (k = 0 ∨ k = kind) → ((unite (l ++ [kind]) k).2 && decide ((unite (l ++ [kind]) k).1 = kind)) = l.all (fitsKind kind)
  | [], k, h => by
    rcases h with rfl | rfl <;> simp [unite, hk]
  | x :: l, k, h => by
    by_cases hx : x = 0
    · subst hx
      simp only [List.cons_append, unite, if_true, List.all_cons]
      rw [unite_all kind hk l k h]
      simp [fitsKind]
    · by_cases hx2 : x = kind
      · subst hx2
        have : ¬ (k ≠ 0 ∧ k ≠ x) := by rintro ⟨h1, h2⟩; rcases h with h | h; exact h1 h; exact h2 h
        simp only [List.cons_append, unite, if_neg hx, if_neg this, List.all_cons]
        rw [unite_all x hk l x (.inr rfl)]
        simp [fitsKind]
      · have hf : fitsKind kind x = false := by simp [fitsKind, hx, hx2]
        simp only [List.cons_append, unite, if_neg hx, List.all_cons, hf, Bool.false_and]
        split
        · rfl
        · have key : ∀ (l : List Int), ((unite (l ++ [kind]) x).2 && decide ((unite (l ++ [kind]) x).1 = kind)) = false := by
            intro l
            induction l with
            | nil => simp [unite, hk, hx, hx2]
            | cons y l ih =>
              simp only [List.cons_append, unite]
              split
              · exact ih
              · split
                · rfl
                · rename_i h1 h2
                  have : y = x := by
                    by_cases h3 : x = y
                    · exact h3.symm
                    · exact absurd ⟨hx, h3⟩ h2
                  rw [this]
                  exact ih
          exact key l
theorem allKind_eq {kind : Int} (hk : kind ≠ 0) (l : List Int) : allKind l kind = l.all (fitsKind kind) := unite_all kind hk l 0 (.inl rfl)
end Go.Proofs.Ytiefnninebilbaa
/- What the reference's check returns: 'all'; no condition. -/
set_option maxRecDepth 100000
set_option linter.unusedVariables false
set_option linter.unusedSimpArgs false
namespace Go.Proofs.Ytiefnninebilbaa
open Go Go.Sx

theorem ok186 : okCode M0 Try.f186.ntmps (Try.f186.body.getD .skip) = true := by decide +kernel
theorem rall_fn (l : List Int) (kind : Int) (hk : kind ≠ 0) (hl : l.length ≤ 1000000000) : Fc 186 [.sl (l.map (.int .i64)), .int .i64 kind] (.bool (allKind l kind)) := by
  rw [allKind_eq hk]
  refine fn_of_awp (E := E0) (M := M0) follows Try.func186 rfl (by decide) ok186 (by decide) (by simp) fun o ho => ?_
  simp only [go_sem, Nat.reduceEqDiff, Nat.reduceAdd, Nat.reduceSub, Nat.reduceLeDiff, Nat.reduceLT, Nat.reduceMul, Nat.reduceBEq, Int.reduceEq, Int.reduceLT, Int.reduceLE, Int.reduceNeg, Int.reduceToNat, reduceCtorEq, ho, Try.results186]
  refine ⟨fun n st => ∃ (i : Nat) (rest : List Int), l.drop i = rest ∧ i + rest.length = l.length ∧ rest.length = n ∧ rest.all (fitsKind kind) = l.all (fitsKind kind) ∧ st.s 5 = .int .i64 i ∧ st.s 0 = .sl (l.map (.int .i64)) ∧ st.s 1 = .int .i64 kind, l.length, ⟨0, l, rfl, by simp, rfl, rfl, by simp only [go_sem, Nat.reduceEqDiff, Nat.reduceAdd, Nat.reduceSub, Nat.reduceLeDiff, Nat.reduceLT, Nat.reduceMul, Nat.reduceBEq, Int.reduceEq, Int.reduceLT, Int.reduceLE, Int.reduceNeg, Int.reduceToNat, reduceCtorEq, ho, Try.results186]; rfl, by simp only [go_sem, Nat.reduceEqDiff, Nat.reduceAdd, Nat.reduceSub, Nat.reduceLeDiff, Nat.reduceLT, Nat.reduceMul, Nat.reduceBEq, Int.reduceEq, Int.reduceLT, Int.reduceLE, Int.reduceNeg, Int.reduceToNat, reduceCtorEq, ho, Try.results186], by simp only [go_sem, Nat.reduceEqDiff, Nat.reduceAdd, Nat.reduceSub, Nat.reduceLeDiff, Nat.reduceLT, Nat.reduceMul, Nat.reduceBEq, Int.reduceEq, Int.reduceLT, Int.reduceLE, Int.reduceNeg, Int.reduceToNat, reduceCtorEq, ho, Try.results186]⟩, ?_⟩
  rintro n st ⟨i, rest, hr, hi, hn, ht, h5, h0, h1⟩
  have hw : IntKind.i64.wrap ((i : Int) + 1) = (i : Int) + 1 := wrap_fits (by omega) (by omega)
  cases rest with
  | nil =>
    have hlt : ¬ (i : Int) < (l.length : Int) := by simp at hi; omega
    simp only [go_sem, Nat.reduceEqDiff, Nat.reduceAdd, Nat.reduceSub, Nat.reduceLeDiff, Nat.reduceLT, Nat.reduceMul, Nat.reduceBEq, Int.reduceEq, Int.reduceLT, Int.reduceLE, Int.reduceNeg, Int.reduceToNat, reduceCtorEq, ho, Try.results186, h5, h0, hlt]
    rw [← ht]; rfl
  | cons x rest =>
    have hlt : (i : Int) < (l.length : Int) := by simp at hi; omega
    have hget : (l.map (PV.int .i64))[i]? = some (.int .i64 x) := by
      have : l[i]? = some x := by rw [← List.head?_drop, hr]; rfl
      rw [List.getElem?_map, this]; rfl
    have next : rest.all (fitsKind kind) = l.all (fitsKind kind) → ∃ m, m < n ∧ ∃ (i' : Nat) (rest : List Int), l.drop i' = rest ∧ i' + rest.length = l.length ∧ rest.length = m ∧ rest.all (fitsKind kind) = l.all (fitsKind kind) ∧ ((i : Int) + 1 = (i' : Int)) := fun hk => ⟨rest.length, by simp at hn; omega, i + 1, rest, by rw [← List.drop_drop, hr]; rfl, by simp at hi; omega, rfl, hk, by simp⟩
    rw [List.all_cons] at ht
    simp only [go_sem, Nat.reduceEqDiff, Nat.reduceAdd, Nat.reduceSub, Nat.reduceLeDiff, Nat.reduceLT, Nat.reduceMul, Nat.reduceBEq, Int.reduceEq, Int.reduceLT, Int.reduceLE, Int.reduceNeg, Int.reduceToNat, reduceCtorEq, ho, Try.results186, h5, h0, h1, hlt, hget, Int.natCast_nonneg, Int.toNat_natCast]
    repeat' (first | (refine AIf_cases (fun h => ?_) (fun h => ?_) <;> (try simp only [decide_eq_true_eq, decide_eq_false_iff_not, Bool.not_eq_true', Bool.not_eq_false', Bool.not_eq_true, Bool.not_eq_false] at h) <;> (try simp only [go_sem, Nat.reduceEqDiff, Nat.reduceAdd, Nat.reduceSub, Nat.reduceLeDiff, Nat.reduceLT, Nat.reduceMul, Nat.reduceBEq, Int.reduceEq, Int.reduceLT, Int.reduceLE, Int.reduceNeg, Int.reduceToNat, reduceCtorEq, ho, Try.results186, h, h5, h0, h1, hw, hlt, hget, Int.natCast_nonneg, Int.toNat_natCast])))
    · rw [← ht]; simp_all [fitsKind]
    · exact next (by rw [← ht]; simp_all [fitsKind])
    · exact next (by rw [← ht]; simp_all [fitsKind])
end Go.Proofs.Ytiefnninebilbaa
/- What the reference's check returns: 'result'; no condition. -/
set_option maxRecDepth 100000
set_option linter.unusedVariables false
set_option linter.unusedSimpArgs false
namespace Go.Proofs.Ytiefnninebilbaa
open Go Go.Sx

def rresultK (e : Ex) (l kinds : List Int) : Int × Bool := if e.op = 2 then (kinds[e.int.toNat]?.getD 0, true) else resultK e.op e.val.kind l
theorem ok156 : okCode M0 Try.f156.ntmps (Try.f156.body.getD .skip) = true := by decide +kernel
theorem rresult_fn (e : Ex) (l kinds : List Int) (hl : l.length ≤ 100000000) (hkn : known e.op = true) (h1 : e.op = 22 → 1 ≤ l.length) (hi : e.op = 2 → 0 ≤ e.int ∧ e.int < kinds.length) : Fc 156 [e.enc, .sl (l.map (.int .i64)), .sl (kinds.map (.int .i64))] (.tup [.int .i64 (rresultK e l kinds).1, .bool (rresultK e l kinds).2]) := by
  have hl' : l.length ≤ 1000000000 := by omega
  by_cases hop2 : e.op = 2
  · refine fn_of_awp (E := E0) (M := M0) follows Try.func156 rfl (by decide) ok156 (by decide) (by simp) fun o ho => ?_
    simp only [go_sem, Nat.reduceEqDiff, Nat.reduceAdd, Nat.reduceSub, Nat.reduceLeDiff, Nat.reduceLT, Nat.reduceMul, Nat.reduceBEq, Int.reduceEq, Int.reduceLT, Int.reduceLE, Int.reduceNeg, Int.reduceToNat, reduceCtorEq, ho, Try.results156, e.enc_eq]
    obtain ⟨hi0, hi1⟩ := hi hop2
    have hlt : e.int.toNat < kinds.length := by omega
    have hget : (kinds.map (PV.int .i64))[e.int.toNat]? = some (.int .i64 (kinds[e.int.toNat])) := by simp [hlt]
    simp only [go_sem, Nat.reduceEqDiff, Nat.reduceAdd, Nat.reduceSub, Nat.reduceLeDiff, Nat.reduceLT, Nat.reduceMul, Nat.reduceBEq, Int.reduceEq, Int.reduceLT, Int.reduceLE, Int.reduceNeg, Int.reduceToNat, reduceCtorEq, ho, Try.results156, hop2, hi0, hget]
    simp [rresultK, hop2, hlt]
  have key : rresultK e l kinds = resultK e.op e.val.kind l := if_neg hop2
  have hlast : e.op ≠ 1 → e.op ≠ 4 → e.op ≠ 5 → e.op ≠ 6 → e.op ≠ 7 → e.op ≠ 8 → e.op ≠ 9 → e.op ≠ 10 → e.op ≠ 11 → e.op ≠ 12 → e.op ≠ 13 → e.op ≠ 14 → e.op ≠ 15 → e.op ≠ 16 → e.op ≠ 17 → e.op ≠ 18 → e.op ≠ 19 → e.op ≠ 20 → e.op ≠ 21 → e.op ≠ 22 → e.op ≠ 23 → e.op = 24 := by
    simp [known] at hkn; omega
  rw [key]
  clear hi hkn key
  refine fn_of_awp (E := E0) (M := M0) follows Try.func156 rfl (by decide) ok156 (by decide) (by simp) fun o ho => ?_
  simp only [go_sem, Nat.reduceEqDiff, Nat.reduceAdd, Nat.reduceSub, Nat.reduceLeDiff, Nat.reduceLT, Nat.reduceMul, Nat.reduceBEq, Int.reduceEq, Int.reduceLT, Int.reduceLE, Int.reduceNeg, Int.reduceToNat, reduceCtorEq, ho, Try.results156, e.enc_eq]
  generalize e.op = op at *
  repeat' (first | (refine AIf_cases (fun h => ?_) (fun h => ?_) <;> (try simp only [decide_eq_true_eq, decide_eq_false_iff_not, Bool.not_eq_true', Bool.not_eq_false', Bool.not_eq_true, Bool.not_eq_false] at h) <;> (try simp only [go_sem, Nat.reduceEqDiff, Nat.reduceAdd, Nat.reduceSub, Nat.reduceLeDiff, Nat.reduceLT, Nat.reduceMul, Nat.reduceBEq, Int.reduceEq, Int.reduceLT, Int.reduceLE, Int.reduceNeg, Int.reduceToNat, reduceCtorEq, ho, Try.results156, h, hop2])) | (refine GCall.fr ?_ (rall_fn l 3 (by decide) hl') (.inl rfl) ?_; (focus (first | rfl | ((simp only [go_sem, Nat.reduceEqDiff, Nat.reduceAdd, Nat.reduceSub, Nat.reduceLeDiff, Nat.reduceLT, Nat.reduceMul, Nat.reduceBEq, Int.reduceEq, Int.reduceLT, Int.reduceLE, Int.reduceNeg, Int.reduceToNat, reduceCtorEq, ho, Try.results156, hop2]); done) | ((simp only [go_sem, Nat.reduceEqDiff, Nat.reduceAdd, Nat.reduceSub, Nat.reduceLeDiff, Nat.reduceLT, Nat.reduceMul, Nat.reduceBEq, Int.reduceEq, Int.reduceLT, Int.reduceLE, Int.reduceNeg, Int.reduceToNat, reduceCtorEq, ho, Try.results156, hop2]); rfl))); (try simp only [go_sem, Nat.reduceEqDiff, Nat.reduceAdd, Nat.reduceSub, Nat.reduceLeDiff, Nat.reduceLT, Nat.reduceMul, Nat.reduceBEq, Int.reduceEq, Int.reduceLT, Int.reduceLE, Int.reduceNeg, Int.reduceToNat, reduceCtorEq, ho, Try.results156, hop2])) | (refine QCall.fr ?_ (rall_fn l 3 (by decide) hl') (.inl rfl) ?_; (focus (first | rfl | ((simp only [go_sem, Nat.reduceEqDiff, Nat.reduceAdd, Nat.reduceSub, Nat.reduceLeDiff, Nat.reduceLT, Nat.reduceMul, Nat.reduceBEq, Int.reduceEq, Int.reduceLT, Int.reduceLE, Int.reduceNeg, Int.reduceToNat, reduceCtorEq, ho, Try.results156, hop2]); done) | ((simp only [go_sem, Nat.reduceEqDiff, Nat.reduceAdd, Nat.reduceSub, Nat.reduceLeDiff, Nat.reduceLT, Nat.reduceMul, Nat.reduceBEq, Int.reduceEq, Int.reduceLT, Int.reduceLE, Int.reduceNeg, Int.reduceToNat, reduceCtorEq, ho, Try.results156, hop2]); rfl))); (try simp only [go_sem, Nat.reduceEqDiff, Nat.reduceAdd, Nat.reduceSub, Nat.reduceLeDiff, Nat.reduceLT, Nat.reduceMul, Nat.reduceBEq, Int.reduceEq, Int.reduceLT, Int.reduceLE, Int.reduceNeg, Int.reduceToNat, reduceCtorEq, ho, Try.results156, hop2])) | (refine GCall.fr ?_ (rall_fn l 2 (by decide) hl') (.inl rfl) ?_; (focus (first | rfl | ((simp only [go_sem, Nat.reduceEqDiff, Nat.reduceAdd, Nat.reduceSub, Nat.reduceLeDiff, Nat.reduceLT, Nat.reduceMul, Nat.reduceBEq, Int.reduceEq, Int.reduceLT, Int.reduceLE, Int.reduceNeg, Int.reduceToNat, reduceCtorEq, ho, Try.results156, hop2]); done) | ((simp only [go_sem, Nat.reduceEqDiff, Nat.reduceAdd, Nat.reduceSub, Nat.reduceLeDiff, Nat.reduceLT, Nat.reduceMul, Nat.reduceBEq, Int.reduceEq, Int.reduceLT, Int.reduceLE, Int.reduceNeg, Int.reduceToNat, reduceCtorEq, ho, Try.results156, hop2]); rfl))); (try simp only [go_sem, Nat.reduceEqDiff, Nat.reduceAdd, Nat.reduceSub, Nat.reduceLeDiff, Nat.reduceLT, Nat.reduceMul, Nat.reduceBEq, Int.reduceEq, Int.reduceLT, Int.reduceLE, Int.reduceNeg, Int.reduceToNat, reduceCtorEq, ho, Try.results156, hop2])) | (refine QCall.fr ?_ (rall_fn l 2 (by decide) hl') (.inl rfl) ?_; (focus (first | rfl | ((simp only [go_sem, Nat.reduceEqDiff, Nat.reduceAdd, Nat.reduceSub, Nat.reduceLeDiff, Nat.reduceLT, Nat.reduceMul, Nat.reduceBEq, Int.reduceEq, Int.reduceLT, Int.reduceLE, Int.reduceNeg, Int.reduceToNat, reduceCtorEq, ho, Try.results156, hop2]); done) | ((simp only [go_sem, Nat.reduceEqDiff, Nat.reduceAdd, Nat.reduceSub, Nat.reduceLeDiff, Nat.reduceLT, Nat.reduceMul, Nat.reduceBEq, Int.reduceEq, Int.reduceLT, Int.reduceLE, Int.reduceNeg, Int.reduceToNat, reduceCtorEq, ho, Try.results156, hop2]); rfl))); (try simp only [go_sem, Nat.reduceEqDiff, Nat.reduceAdd, Nat.reduceSub, Nat.reduceLeDiff, Nat.reduceLT, Nat.reduceMul, Nat.reduceBEq, Int.reduceEq, Int.reduceLT, Int.reduceLE, Int.reduceNeg, Int.reduceToNat, reduceCtorEq, ho, Try.results156, hop2])) | (refine GCall.fr ?_ (rall_fn l 1 (by decide) hl') (.inl rfl) ?_; (focus (first | rfl | ((simp only [go_sem, Nat.reduceEqDiff, Nat.reduceAdd, Nat.reduceSub, Nat.reduceLeDiff, Nat.reduceLT, Nat.reduceMul, Nat.reduceBEq, Int.reduceEq, Int.reduceLT, Int.reduceLE, Int.reduceNeg, Int.reduceToNat, reduceCtorEq, ho, Try.results156, hop2]); done) | ((simp only [go_sem, Nat.reduceEqDiff, Nat.reduceAdd, Nat.reduceSub, Nat.reduceLeDiff, Nat.reduceLT, Nat.reduceMul, Nat.reduceBEq, Int.reduceEq, Int.reduceLT, Int.reduceLE, Int.reduceNeg, Int.reduceToNat, reduceCtorEq, ho, Try.results156, hop2]); rfl))); (try simp only [go_sem, Nat.reduceEqDiff, Nat.reduceAdd, Nat.reduceSub, Nat.reduceLeDiff, Nat.reduceLT, Nat.reduceMul, Nat.reduceBEq, Int.reduceEq, Int.reduceLT, Int.reduceLE, Int.reduceNeg, Int.reduceToNat, reduceCtorEq, ho, Try.results156, hop2])) | (refine QCall.fr ?_ (rall_fn l 1 (by decide) hl') (.inl rfl) ?_; (focus (first | rfl | ((simp only [go_sem, Nat.reduceEqDiff, Nat.reduceAdd, Nat.reduceSub, Nat.reduceLeDiff, Nat.reduceLT, Nat.reduceMul, Nat.reduceBEq, Int.reduceEq, Int.reduceLT, Int.reduceLE, Int.reduceNeg, Int.reduceToNat, reduceCtorEq, ho, Try.results156, hop2]); done) | ((simp only [go_sem, Nat.reduceEqDiff, Nat.reduceAdd, Nat.reduceSub, Nat.reduceLeDiff, Nat.reduceLT, Nat.reduceMul, Nat.reduceBEq, Int.reduceEq, Int.reduceLT, Int.reduceLE, Int.reduceNeg, Int.reduceToNat, reduceCtorEq, ho, Try.results156, hop2]); rfl))); (try simp only [go_sem, Nat.reduceEqDiff, Nat.reduceAdd, Nat.reduceSub, Nat.reduceLeDiff, Nat.reduceLT, Nat.reduceMul, Nat.reduceBEq, Int.reduceEq, Int.reduceLT, Int.reduceLE, Int.reduceNeg, Int.reduceToNat, reduceCtorEq, ho, Try.results156, hop2])) | (refine GCall.fr ?_ (join_fn l hl') (.inl rfl) ?_; (focus (first | rfl | ((simp only [go_sem, Nat.reduceEqDiff, Nat.reduceAdd, Nat.reduceSub, Nat.reduceLeDiff, Nat.reduceLT, Nat.reduceMul, Nat.reduceBEq, Int.reduceEq, Int.reduceLT, Int.reduceLE, Int.reduceNeg, Int.reduceToNat, reduceCtorEq, ho, Try.results156, hop2]); done) | ((simp only [go_sem, Nat.reduceEqDiff, Nat.reduceAdd, Nat.reduceSub, Nat.reduceLeDiff, Nat.reduceLT, Nat.reduceMul, Nat.reduceBEq, Int.reduceEq, Int.reduceLT, Int.reduceLE, Int.reduceNeg, Int.reduceToNat, reduceCtorEq, ho, Try.results156, hop2]); rfl))); (try simp only [go_sem, Nat.reduceEqDiff, Nat.reduceAdd, Nat.reduceSub, Nat.reduceLeDiff, Nat.reduceLT, Nat.reduceMul, Nat.reduceBEq, Int.reduceEq, Int.reduceLT, Int.reduceLE, Int.reduceNeg, Int.reduceToNat, reduceCtorEq, ho, Try.results156, hop2])) | (refine QCall.fr ?_ (join_fn l hl') (.inl rfl) ?_; (focus (first | rfl | ((simp only [go_sem, Nat.reduceEqDiff, Nat.reduceAdd, Nat.reduceSub, Nat.reduceLeDiff, Nat.reduceLT, Nat.reduceMul, Nat.reduceBEq, Int.reduceEq, Int.reduceLT, Int.reduceLE, Int.reduceNeg, Int.reduceToNat, reduceCtorEq, ho, Try.results156, hop2]); done) | ((simp only [go_sem, Nat.reduceEqDiff, Nat.reduceAdd, Nat.reduceSub, Nat.reduceLeDiff, Nat.reduceLT, Nat.reduceMul, Nat.reduceBEq, Int.reduceEq, Int.reduceLT, Int.reduceLE, Int.reduceNeg, Int.reduceToNat, reduceCtorEq, ho, Try.results156, hop2]); rfl))); (try simp only [go_sem, Nat.reduceEqDiff, Nat.reduceAdd, Nat.reduceSub, Nat.reduceLeDiff, Nat.reduceLT, Nat.reduceMul, Nat.reduceBEq, Int.reduceEq, Int.reduceLT, Int.reduceLE, Int.reduceNeg, Int.reduceToNat, reduceCtorEq, ho, Try.results156, hop2])))
  all_goals (first | exact ⟨rfl, rfl⟩ | skip)
  · have h2 : 1 ≤ l.length := h1 h
    clear hlast
    simp only [go_sem, Nat.reduceEqDiff, Nat.reduceAdd, Nat.reduceSub, Nat.reduceLeDiff, Nat.reduceLT, Nat.reduceMul, Nat.reduceBEq, Int.reduceEq, Int.reduceLT, Int.reduceLE, Int.reduceNeg, Int.reduceToNat, reduceCtorEq, ho, Try.results156, h2, eq_true (ints_len' (l := l)), List.take_length, ← List.map_drop, ← List.map_take, Nat.le_refl, true_and]
    refine GCall.fr ?_ (join_fn (l.drop 1) (by simp; omega)) (.inl rfl) ?_; (focus (first | rfl | ((simp only [go_sem, Nat.reduceEqDiff, Nat.reduceAdd, Nat.reduceSub, Nat.reduceLeDiff, Nat.reduceLT, Nat.reduceMul, Nat.reduceBEq, Int.reduceEq, Int.reduceLT, Int.reduceLE, Int.reduceNeg, Int.reduceToNat, reduceCtorEq, ho, Try.results156]); done) | ((simp only [go_sem, Nat.reduceEqDiff, Nat.reduceAdd, Nat.reduceSub, Nat.reduceLeDiff, Nat.reduceLT, Nat.reduceMul, Nat.reduceBEq, Int.reduceEq, Int.reduceLT, Int.reduceLE, Int.reduceNeg, Int.reduceToNat, reduceCtorEq, ho, Try.results156]); rfl)))
    simp only [go_sem, Nat.reduceEqDiff, Nat.reduceAdd, Nat.reduceSub, Nat.reduceLeDiff, Nat.reduceLT, Nat.reduceMul, Nat.reduceBEq, Int.reduceEq, Int.reduceLT, Int.reduceLE, Int.reduceNeg, Int.reduceToNat, reduceCtorEq, ho, Try.results156]
    repeat' (first | (refine AIf_cases (fun h => ?_) (fun h => ?_) <;> (try simp only [decide_eq_true_eq, decide_eq_false_iff_not, Bool.not_eq_true', Bool.not_eq_false', Bool.not_eq_true, Bool.not_eq_false] at h) <;> (try simp only [go_sem, Nat.reduceEqDiff, Nat.reduceAdd, Nat.reduceSub, Nat.reduceLeDiff, Nat.reduceLT, Nat.reduceMul, Nat.reduceBEq, Int.reduceEq, Int.reduceLT, Int.reduceLE, Int.reduceNeg, Int.reduceToNat, reduceCtorEq, ho, Try.results156, h, h2, eq_true (ints_len' (l := l)), List.take_length, ← List.map_drop, ← List.map_take, Nat.le_refl, true_and])) | (refine GCall.fr ?_ (rall_fn (l.take 1) 3 (by decide) (by simp; omega)) (.inl rfl) ?_; (focus (first | rfl | ((simp only [go_sem, Nat.reduceEqDiff, Nat.reduceAdd, Nat.reduceSub, Nat.reduceLeDiff, Nat.reduceLT, Nat.reduceMul, Nat.reduceBEq, Int.reduceEq, Int.reduceLT, Int.reduceLE, Int.reduceNeg, Int.reduceToNat, reduceCtorEq, ho, Try.results156, h2, eq_true (ints_len' (l := l)), List.take_length, ← List.map_drop, ← List.map_take, Nat.le_refl, true_and]); done) | ((simp only [go_sem, Nat.reduceEqDiff, Nat.reduceAdd, Nat.reduceSub, Nat.reduceLeDiff, Nat.reduceLT, Nat.reduceMul, Nat.reduceBEq, Int.reduceEq, Int.reduceLT, Int.reduceLE, Int.reduceNeg, Int.reduceToNat, reduceCtorEq, ho, Try.results156, h2, eq_true (ints_len' (l := l)), List.take_length, ← List.map_drop, ← List.map_take, Nat.le_refl, true_and]); rfl))); (try simp only [go_sem, Nat.reduceEqDiff, Nat.reduceAdd, Nat.reduceSub, Nat.reduceLeDiff, Nat.reduceLT, Nat.reduceMul, Nat.reduceBEq, Int.reduceEq, Int.reduceLT, Int.reduceLE, Int.reduceNeg, Int.reduceToNat, reduceCtorEq, ho, Try.results156, h2, eq_true (ints_len' (l := l)), List.take_length, ← List.map_drop, ← List.map_take, Nat.le_refl, true_and])) | (refine QCall.fr ?_ (rall_fn (l.take 1) 3 (by decide) (by simp; omega)) (.inl rfl) ?_; (focus (first | rfl | ((simp only [go_sem, Nat.reduceEqDiff, Nat.reduceAdd, Nat.reduceSub, Nat.reduceLeDiff, Nat.reduceLT, Nat.reduceMul, Nat.reduceBEq, Int.reduceEq, Int.reduceLT, Int.reduceLE, Int.reduceNeg, Int.reduceToNat, reduceCtorEq, ho, Try.results156, h2, eq_true (ints_len' (l := l)), List.take_length, ← List.map_drop, ← List.map_take, Nat.le_refl, true_and]); done) | ((simp only [go_sem, Nat.reduceEqDiff, Nat.reduceAdd, Nat.reduceSub, Nat.reduceLeDiff, Nat.reduceLT, Nat.reduceMul, Nat.reduceBEq, Int.reduceEq, Int.reduceLT, Int.reduceLE, Int.reduceNeg, Int.reduceToNat, reduceCtorEq, ho, Try.results156, h2, eq_true (ints_len' (l := l)), List.take_length, ← List.map_drop, ← List.map_take, Nat.le_refl, true_and]); rfl))); (try simp only [go_sem, Nat.reduceEqDiff, Nat.reduceAdd, Nat.reduceSub, Nat.reduceLeDiff, Nat.reduceLT, Nat.reduceMul, Nat.reduceBEq, Int.reduceEq, Int.reduceLT, Int.reduceLE, Int.reduceNeg, Int.reduceToNat, reduceCtorEq, ho, Try.results156, h2, eq_true (ints_len' (l := l)), List.take_length, ← List.map_drop, ← List.map_take, Nat.le_refl, true_and])))
    all_goals simp_all [resultK]
  · have h24 : op = 24 := by apply hlast <;> assumption
    subst h24
    exact ⟨rfl, rfl⟩
end Go.Proofs.Ytiefnninebilbaa
/- What the reference's check returns: the depth; no condition. -/
set_option maxRecDepth 100000
set_option linter.unusedVariables false
set_option linter.unusedSimpArgs false
namespace Go.Proofs.Ytiefnninebilbaa
open Go Go.Sx

theorem ok92 : okCode M0 Try.f92.ntmps (Try.f92.body.getD .skip) = true := by decide +kernel
theorem rdepth_fn : ∀ (n : Nat) (e : Ex), e.size ≤ n → n ≤ 1000000000 → Fc 92 [e.enc] (.int .i64 e.depth)
  | 0, e, h, _ => by have := e.size_pos; omega
  | n + 1, e, h, hn => by
    refine fn_of_awp (E := E0) (M := M0) follows Try.func92 rfl (by decide) ok92 (by decide) (by simp) fun o ho => ?_
    simp only [go_sem, Nat.reduceEqDiff, Nat.reduceAdd, Nat.reduceSub, Nat.reduceLeDiff, Nat.reduceLT, Nat.reduceMul, Nat.reduceBEq, Int.reduceEq, Int.reduceLT, Int.reduceLE, Int.reduceNeg, Int.reduceToNat, reduceCtorEq, ho, Try.results92, e.enc_eq]
    refine ⟨fun n st => ∃ (done rest : List Ex), e.args = done ++ rest ∧ n = rest.length ∧ st.s 4 = .int .i64 done.length ∧ st.s 3 = .int .i64 (Ex.depths done) ∧ st.s 1 = .ptr 1 1 0 ∧ getBox st.o 1 1 = some (49, e.enc.cells), e.args.length,
      ⟨[], e.args, rfl, rfl, by simp only [go_sem, Nat.reduceEqDiff, Nat.reduceAdd, Nat.reduceSub, Nat.reduceLeDiff, Nat.reduceLT, Nat.reduceMul, Nat.reduceBEq, Int.reduceEq, Int.reduceLT, Int.reduceLE, Int.reduceNeg, Int.reduceToNat, reduceCtorEq, ho, Try.results92]; rfl, by simp only [go_sem, Nat.reduceEqDiff, Nat.reduceAdd, Nat.reduceSub, Nat.reduceLeDiff, Nat.reduceLT, Nat.reduceMul, Nat.reduceBEq, Int.reduceEq, Int.reduceLT, Int.reduceLE, Int.reduceNeg, Int.reduceToNat, reduceCtorEq, ho, Try.results92, Ex.depths]; rfl, by simp only [go_sem, Nat.reduceEqDiff, Nat.reduceAdd, Nat.reduceSub, Nat.reduceLeDiff, Nat.reduceLT, Nat.reduceMul, Nat.reduceBEq, Int.reduceEq, Int.reduceLT, Int.reduceLE, Int.reduceNeg, Int.reduceToNat, reduceCtorEq, ho, Try.results92], by simp only [go_sem, Nat.reduceEqDiff, Nat.reduceAdd, Nat.reduceSub, Nat.reduceLeDiff, Nat.reduceLT, Nat.reduceMul, Nat.reduceBEq, Int.reduceEq, Int.reduceLT, Int.reduceLE, Int.reduceNeg, Int.reduceToNat, reduceCtorEq, ho, Try.results92]⟩, ?_⟩
    rintro m st ⟨done, rest, hl, rfl, h4, h3, hs1, hb⟩
    have hsz := e.size_eq
    have hde := e.depth_eq
    rw [hl, Ex.sizes_app] at hsz
    have hdl := Ex.len_sizes done
    have hdd := Ex.depths_le done
    cases rest with
    | nil =>
      have hlt : ¬ (done.length : Int) < (e.args.length : Int) := by simp [hl]
      have hw : IntKind.i64.wrap ((Ex.depths done : Int) + 1) = (Ex.depths done : Int) + 1 := wrap_fits (by omega) (by omega)
      simp only [go_sem, Nat.reduceEqDiff, Nat.reduceAdd, Nat.reduceSub, Nat.reduceLeDiff, Nat.reduceLT, Nat.reduceMul, Nat.reduceBEq, Int.reduceEq, Int.reduceLT, Int.reduceLE, Int.reduceNeg, Int.reduceToNat, reduceCtorEq, ho, Try.results92, h4, h3, hs1, hb, hlt, hw]
      simp at hl
      rw [hde, hl]
      simp
    | cons x rest =>
      have hlt : (done.length : Int) < (e.args.length : Int) := by simp [hl]; omega
      have hget : (e.args.map Ex.enc)[done.length]? = some x.enc := by simp [hl]
      have hxs : x.size ≤ n := by simp [Ex.sizes] at hsz; omega
      have hw : IntKind.i64.wrap ((done.length : Int) + 1) = (done.length : Int) + 1 := wrap_fits (by omega) (by omega)
      simp only [go_sem, Nat.reduceEqDiff, Nat.reduceAdd, Nat.reduceSub, Nat.reduceLeDiff, Nat.reduceLT, Nat.reduceMul, Nat.reduceBEq, Int.reduceEq, Int.reduceLT, Int.reduceLE, Int.reduceNeg, Int.reduceToNat, reduceCtorEq, ho, Try.results92, h4, h3, hs1, hb, hlt, hget, Int.natCast_nonneg, Int.toNat_natCast]
      refine GCall.fr ?_ (rdepth_fn n x hxs (by omega)) (.inl rfl) ?_; (focus (first | rfl | ((simp only [go_sem, Nat.reduceEqDiff, Nat.reduceAdd, Nat.reduceSub, Nat.reduceLeDiff, Nat.reduceLT, Nat.reduceMul, Nat.reduceBEq, Int.reduceEq, Int.reduceLT, Int.reduceLE, Int.reduceNeg, Int.reduceToNat, reduceCtorEq, ho, Try.results92, x.enc_eq]); done) | ((simp only [go_sem, Nat.reduceEqDiff, Nat.reduceAdd, Nat.reduceSub, Nat.reduceLeDiff, Nat.reduceLT, Nat.reduceMul, Nat.reduceBEq, Int.reduceEq, Int.reduceLT, Int.reduceLE, Int.reduceNeg, Int.reduceToNat, reduceCtorEq, ho, Try.results92, x.enc_eq]); rfl)))
      simp only [go_sem, Nat.reduceEqDiff, Nat.reduceAdd, Nat.reduceSub, Nat.reduceLeDiff, Nat.reduceLT, Nat.reduceMul, Nat.reduceBEq, Int.reduceEq, Int.reduceLT, Int.reduceLE, Int.reduceNeg, Int.reduceToNat, reduceCtorEq, ho, Try.results92, h4, h3, hs1, hb, hw]
      refine ⟨rest.length, by omega, done ++ [x], rest, by simp [hl], rfl, by simp, ?_⟩
      rw [Ex.depths_app]
      simp only [Ex.depths]
      congr 1
      split <;> omega
end Go.Proofs.Ytiefnninebilbaa
/- What the reference's check returns; no condition. -/
set_option maxRecDepth 100000
set_option linter.unusedVariables false
set_option linter.unusedSimpArgs false
namespace Go.Proofs.Ytiefnninebilbaa
open Go Go.Sx

theorem formed_args {e : Ex} (hf : e.formed = true) (h2 : e.op = 2) : e.args = [] := by
  have := formed_len hf
  rw [h2] at this
  exact List.eq_nil_of_length_eq_zero (by simpa [fitsN] using this)
theorem arity_known (op : Int) : decide ((arity op).1 < 0) = !known op := by
  by_cases h : 1 ≤ op ∧ op ≤ 24
  · have : op = 1 ∨ op = 2 ∨ op = 3 ∨ op = 4 ∨ op = 5 ∨ op = 6 ∨ op = 7 ∨ op = 8 ∨ op = 9 ∨ op = 10 ∨ op = 11 ∨ op = 12 ∨ op = 13 ∨ op = 14 ∨ op = 15 ∨ op = 16 ∨ op = 17 ∨ op = 18 ∨ op = 19 ∨ op = 20 ∨ op = 21 ∨ op = 22 ∨ op = 23 ∨ op = 24 := by omega
    rcases this with h | h | h | h | h | h | h | h | h | h | h | h | h | h | h | h | h | h | h | h | h | h | h | h <;> subst h <;> rfl
  · have e1 : known op = false := by simp [known]; omega
    have e2 : arity op = (-1, 0) := by
      unfold arity
      repeat rw [if_neg (by omega)]
    rw [e1, e2]
    rfl
theorem ok93 : okCode M0 Try.f93.ntmps (Try.f93.body.getD .skip) = true := by decide +kernel
theorem rcheck_fn (kinds : List Int) : ∀ (n : Nat) (e : Ex), e.size ≤ n → n ≤ 100000000 → Fc 93 [e.enc, .sl (kinds.map (.int .i64))] (.tup [.int .i64 (e.check kinds).1, .int .i64 (e.check kinds).2])
  | 0, e, h, _ => by have := e.size_pos; omega
  | n + 1, e, h, hn => by
    have hak := arity_known e.op
    have hchk := Ex.check_eq kinds e
    refine fn_of_awp (E := E0) (M := M0) follows Try.func93 rfl (by decide) ok93 (by decide) (by simp) fun o ho => ?_
    simp only [go_sem, Nat.reduceEqDiff, Nat.reduceAdd, Nat.reduceSub, Nat.reduceLeDiff, Nat.reduceLT, Nat.reduceMul, Nat.reduceBEq, Int.reduceEq, Int.reduceLT, Int.reduceLE, Int.reduceNeg, Int.reduceToNat, reduceCtorEq, ho, Try.results93, e.enc_eq]
    refine GCall.fr ?_ (arity_fn e.op) (.inl rfl) ?_; (focus (first | rfl | ((simp only [go_sem, Nat.reduceEqDiff, Nat.reduceAdd, Nat.reduceSub, Nat.reduceLeDiff, Nat.reduceLT, Nat.reduceMul, Nat.reduceBEq, Int.reduceEq, Int.reduceLT, Int.reduceLE, Int.reduceNeg, Int.reduceToNat, reduceCtorEq, ho, Try.results93]); done) | ((simp only [go_sem, Nat.reduceEqDiff, Nat.reduceAdd, Nat.reduceSub, Nat.reduceLeDiff, Nat.reduceLT, Nat.reduceMul, Nat.reduceBEq, Int.reduceEq, Int.reduceLT, Int.reduceLE, Int.reduceNeg, Int.reduceToNat, reduceCtorEq, ho, Try.results93]); rfl)))
    simp only [go_sem, Nat.reduceEqDiff, Nat.reduceAdd, Nat.reduceSub, Nat.reduceLeDiff, Nat.reduceLT, Nat.reduceMul, Nat.reduceBEq, Int.reduceEq, Int.reduceLT, Int.reduceLE, Int.reduceNeg, Int.reduceToNat, reduceCtorEq, ho, Try.results93]
    cases hk : known e.op with
    | false =>
      rw [hk] at hak
      rw [if_pos hk] at hchk
      simp only [go_sem, Nat.reduceEqDiff, Nat.reduceAdd, Nat.reduceSub, Nat.reduceLeDiff, Nat.reduceLT, Nat.reduceMul, Nat.reduceBEq, Int.reduceEq, Int.reduceLT, Int.reduceLE, Int.reduceNeg, Int.reduceToNat, reduceCtorEq, ho, Try.results93, hak, Bool.not_false, hchk]
    | true =>
    rw [hk] at hak
    rw [if_neg (by simp [hk])] at hchk
    simp only [go_sem, Nat.reduceEqDiff, Nat.reduceAdd, Nat.reduceSub, Nat.reduceLeDiff, Nat.reduceLT, Nat.reduceMul, Nat.reduceBEq, Int.reduceEq, Int.reduceLT, Int.reduceLE, Int.reduceNeg, Int.reduceToNat, reduceCtorEq, ho, Try.results93, hak, Bool.not_true]
    refine GCall.fr ?_ (rformed_fn e (by omega)) (.inl rfl) ?_; (focus (first | rfl | ((simp only [go_sem, Nat.reduceEqDiff, Nat.reduceAdd, Nat.reduceSub, Nat.reduceLeDiff, Nat.reduceLT, Nat.reduceMul, Nat.reduceBEq, Int.reduceEq, Int.reduceLT, Int.reduceLE, Int.reduceNeg, Int.reduceToNat, reduceCtorEq, ho, Try.results93, e.enc_eq]); done) | ((simp only [go_sem, Nat.reduceEqDiff, Nat.reduceAdd, Nat.reduceSub, Nat.reduceLeDiff, Nat.reduceLT, Nat.reduceMul, Nat.reduceBEq, Int.reduceEq, Int.reduceLT, Int.reduceLE, Int.reduceNeg, Int.reduceToNat, reduceCtorEq, ho, Try.results93, e.enc_eq]); rfl)))
    simp only [go_sem, Nat.reduceEqDiff, Nat.reduceAdd, Nat.reduceSub, Nat.reduceLeDiff, Nat.reduceLT, Nat.reduceMul, Nat.reduceBEq, Int.reduceEq, Int.reduceLT, Int.reduceLE, Int.reduceNeg, Int.reduceToNat, reduceCtorEq, ho, Try.results93]
    cases hf : e.formed with
    | false =>
      rw [if_pos hf] at hchk
      simp only [go_sem, Nat.reduceEqDiff, Nat.reduceAdd, Nat.reduceSub, Nat.reduceLeDiff, Nat.reduceLT, Nat.reduceMul, Nat.reduceBEq, Int.reduceEq, Int.reduceLT, Int.reduceLE, Int.reduceNeg, Int.reduceToNat, reduceCtorEq, ho, Try.results93, hf, hchk]
    | true =>
    rw [if_neg (by simp [hf])] at hchk
    simp only [go_sem, Nat.reduceEqDiff, Nat.reduceAdd, Nat.reduceSub, Nat.reduceLeDiff, Nat.reduceLT, Nat.reduceMul, Nat.reduceBEq, Int.reduceEq, Int.reduceLT, Int.reduceLE, Int.reduceNeg, Int.reduceToNat, reduceCtorEq, ho, Try.results93, hf]
    have hl100 : e.args.length ≤ 100000000 := by have := Ex.len_sizes e.args; have := e.size_eq; omega
    by_cases h2 : e.op = 2
    · rw [if_pos h2] at hchk
      by_cases hi : e.int < 0
      · rw [if_pos (.inl hi)] at hchk
        simp only [go_sem, Nat.reduceEqDiff, Nat.reduceAdd, Nat.reduceSub, Nat.reduceLeDiff, Nat.reduceLT, Nat.reduceMul, Nat.reduceBEq, Int.reduceEq, Int.reduceLT, Int.reduceLE, Int.reduceNeg, Int.reduceToNat, reduceCtorEq, ho, Try.results93, h2, hi, hchk]
      by_cases hi2 : (kinds.length : Int) ≤ e.int
      · rw [if_pos (.inr hi2)] at hchk
        simp only [go_sem, Nat.reduceEqDiff, Nat.reduceAdd, Nat.reduceSub, Nat.reduceLeDiff, Nat.reduceLT, Nat.reduceMul, Nat.reduceBEq, Int.reduceEq, Int.reduceLT, Int.reduceLE, Int.reduceNeg, Int.reduceToNat, reduceCtorEq, ho, Try.results93, h2, hi, hi2, List.length_map, hchk]
      rw [if_neg (by omega)] at hchk
      have hcol2 : e.op = 2 → 0 ≤ e.int ∧ e.int < kinds.length := fun _ => by omega
      have hfin : e.check kinds = (if (Ex.checks kinds e.args []).1 ≠ 0 then (0, (Ex.checks kinds e.args []).1) else if (rresultK e (Ex.checks kinds e.args []).2 kinds).2 then ((rresultK e (Ex.checks kinds e.args []).2 kinds).1, 0) else (0, 7)) := by
        rw [hchk, formed_args hf h2]
        simp [h2, Ex.checks, rresultK]
      simp only [go_sem, Nat.reduceEqDiff, Nat.reduceAdd, Nat.reduceSub, Nat.reduceLeDiff, Nat.reduceLT, Nat.reduceMul, Nat.reduceBEq, Int.reduceEq, Int.reduceLT, Int.reduceLE, Int.reduceNeg, Int.reduceToNat, reduceCtorEq, ho, Try.results93, h2, hi, hi2, List.length_map]
      refine ⟨fun m st => ∃ (done rest : List Ex) (acc : List Int), e.args = done ++ rest ∧ m = rest.length ∧ acc.length = done.length ∧ Ex.checks kinds rest acc = Ex.checks kinds e.args [] ∧ st.s 9 = .int .i64 done.length ∧ st.s 1 = .sl (kinds.map (.int .i64)) ∧ st.s 2 = .ptr 2 1 0 ∧ getBox st.o 2 1 = some (49, e.enc.cells) ∧ ((acc = [] ∧ st.s 8 = .nil) ∨ (acc ≠ [] ∧ ∃ v, st.s 8 = .ref 64 v ∧ st.o 64 = (v, some (true, .row 3 (acc.map (.int .i64)))))),
        e.args.length, ⟨[], e.args, [], rfl, rfl, rfl, rfl, by simp only [go_sem, Nat.reduceEqDiff, Nat.reduceAdd, Nat.reduceSub, Nat.reduceLeDiff, Nat.reduceLT, Nat.reduceMul, Nat.reduceBEq, Int.reduceEq, Int.reduceLT, Int.reduceLE, Int.reduceNeg, Int.reduceToNat, reduceCtorEq, ho, Try.results93]; rfl, by simp only [go_sem, Nat.reduceEqDiff, Nat.reduceAdd, Nat.reduceSub, Nat.reduceLeDiff, Nat.reduceLT, Nat.reduceMul, Nat.reduceBEq, Int.reduceEq, Int.reduceLT, Int.reduceLE, Int.reduceNeg, Int.reduceToNat, reduceCtorEq, ho, Try.results93], by simp only [go_sem, Nat.reduceEqDiff, Nat.reduceAdd, Nat.reduceSub, Nat.reduceLeDiff, Nat.reduceLT, Nat.reduceMul, Nat.reduceBEq, Int.reduceEq, Int.reduceLT, Int.reduceLE, Int.reduceNeg, Int.reduceToNat, reduceCtorEq, ho, Try.results93], by (first | (simp only [go_sem, Nat.reduceEqDiff, Nat.reduceAdd, Nat.reduceSub, Nat.reduceLeDiff, Nat.reduceLT, Nat.reduceMul, Nat.reduceBEq, Int.reduceEq, Int.reduceLT, Int.reduceLE, Int.reduceNeg, Int.reduceToNat, reduceCtorEq, ho, Try.results93, h2]; done) | simp only [go_sem, Nat.reduceEqDiff, Nat.reduceAdd, Nat.reduceSub, Nat.reduceLeDiff, Nat.reduceLT, Nat.reduceMul, Nat.reduceBEq, Int.reduceEq, Int.reduceLT, Int.reduceLE, Int.reduceNeg, Int.reduceToNat, reduceCtorEq, ho, Try.results93]), .inl ⟨rfl, by simp only [go_sem, Nat.reduceEqDiff, Nat.reduceAdd, Nat.reduceSub, Nat.reduceLeDiff, Nat.reduceLT, Nat.reduceMul, Nat.reduceBEq, Int.reduceEq, Int.reduceLT, Int.reduceLE, Int.reduceNeg, Int.reduceToNat, reduceCtorEq, ho, Try.results93]⟩⟩, ?_⟩
      rintro m st ⟨done, rest, acc, hl, rfl, hal, hck, h9, hs1, hs2, hb, h8⟩
      have hsz := e.size_eq
      rw [hl, Ex.sizes_app] at hsz
      have hdl := Ex.len_sizes done
      have hw : IntKind.i64.wrap ((done.length : Int) + 1) = (done.length : Int) + 1 := wrap_fits (by omega) (by omega)
      cases rest with
      | nil =>
        have hlt : ¬ (done.length : Int) < (e.args.length : Int) := by simp [hl]
        have hck' : Ex.checks kinds e.args [] = (0, acc) := by rw [← hck]; rfl
        have h22 : e.op = 22 → 1 ≤ acc.length := fun h => by
          have := formed_len hf
          rw [h] at this
          simp [fitsN] at this
          rw [hal]
          simp at hl
          rw [← hl]
          omega
        have hal' : acc.length ≤ 100000000 := by omega
        rw [hck'] at hfin
        simp only [ne_eq, not_true, if_false] at hfin
        rcases h8 with ⟨rfl, h8⟩ | ⟨hne, v, h8, h64⟩
        · simp only [go_sem, Nat.reduceEqDiff, Nat.reduceAdd, Nat.reduceSub, Nat.reduceLeDiff, Nat.reduceLT, Nat.reduceMul, Nat.reduceBEq, Int.reduceEq, Int.reduceLT, Int.reduceLE, Int.reduceNeg, Int.reduceToNat, reduceCtorEq, ho, Try.results93, h9, hlt, hs1, hs2, hb, h8]
          refine GCall.fr ?_ (rresult_fn e [] kinds (by simp) hk h22 hcol2) (.inl rfl) ?_; (focus (first | rfl | ((simp only [go_sem, Nat.reduceEqDiff, Nat.reduceAdd, Nat.reduceSub, Nat.reduceLeDiff, Nat.reduceLT, Nat.reduceMul, Nat.reduceBEq, Int.reduceEq, Int.reduceLT, Int.reduceLE, Int.reduceNeg, Int.reduceToNat, reduceCtorEq, ho, Try.results93, e.enc_eq]); done) | ((simp only [go_sem, Nat.reduceEqDiff, Nat.reduceAdd, Nat.reduceSub, Nat.reduceLeDiff, Nat.reduceLT, Nat.reduceMul, Nat.reduceBEq, Int.reduceEq, Int.reduceLT, Int.reduceLE, Int.reduceNeg, Int.reduceToNat, reduceCtorEq, ho, Try.results93, e.enc_eq]); rfl)))
          simp only [go_sem, Nat.reduceEqDiff, Nat.reduceAdd, Nat.reduceSub, Nat.reduceLeDiff, Nat.reduceLT, Nat.reduceMul, Nat.reduceBEq, Int.reduceEq, Int.reduceLT, Int.reduceLE, Int.reduceNeg, Int.reduceToNat, reduceCtorEq, ho, Try.results93]
          rw [hfin]
          repeat' (first | (refine AIf_cases (fun h => ?_) (fun h => ?_) <;> (try simp only [decide_eq_true_eq, decide_eq_false_iff_not, Bool.not_eq_true', Bool.not_eq_false', Bool.not_eq_true, Bool.not_eq_false] at h) <;> (try simp only [go_sem, Nat.reduceEqDiff, Nat.reduceAdd, Nat.reduceSub, Nat.reduceLeDiff, Nat.reduceLT, Nat.reduceMul, Nat.reduceBEq, Int.reduceEq, Int.reduceLT, Int.reduceLE, Int.reduceNeg, Int.reduceToNat, reduceCtorEq, ho, Try.results93, h])))
          all_goals simp_all
        · have hrow : getRow st.o 64 v = some (3, acc.map (.int .i64)) := by simp [getRow, h64]
          simp only [go_sem, Nat.reduceEqDiff, Nat.reduceAdd, Nat.reduceSub, Nat.reduceLeDiff, Nat.reduceLT, Nat.reduceMul, Nat.reduceBEq, Int.reduceEq, Int.reduceLT, Int.reduceLE, Int.reduceNeg, Int.reduceToNat, reduceCtorEq, ho, Try.results93, h9, hlt, hs1, hs2, hb, h8]
          refine GCall.fr ?_ (rresult_fn e acc kinds hal' hk h22 hcol2) (.inl rfl) ?_; (focus (first | rfl | ((simp only [go_sem, Nat.reduceEqDiff, Nat.reduceAdd, Nat.reduceSub, Nat.reduceLeDiff, Nat.reduceLT, Nat.reduceMul, Nat.reduceBEq, Int.reduceEq, Int.reduceLT, Int.reduceLE, Int.reduceNeg, Int.reduceToNat, reduceCtorEq, ho, Try.results93, e.enc_eq, hrow]); done) | ((simp only [go_sem, Nat.reduceEqDiff, Nat.reduceAdd, Nat.reduceSub, Nat.reduceLeDiff, Nat.reduceLT, Nat.reduceMul, Nat.reduceBEq, Int.reduceEq, Int.reduceLT, Int.reduceLE, Int.reduceNeg, Int.reduceToNat, reduceCtorEq, ho, Try.results93, e.enc_eq, hrow]); rfl)))
          simp only [go_sem, Nat.reduceEqDiff, Nat.reduceAdd, Nat.reduceSub, Nat.reduceLeDiff, Nat.reduceLT, Nat.reduceMul, Nat.reduceBEq, Int.reduceEq, Int.reduceLT, Int.reduceLE, Int.reduceNeg, Int.reduceToNat, reduceCtorEq, ho, Try.results93]
          rw [hfin]
          repeat' (first | (refine AIf_cases (fun h => ?_) (fun h => ?_) <;> (try simp only [decide_eq_true_eq, decide_eq_false_iff_not, Bool.not_eq_true', Bool.not_eq_false', Bool.not_eq_true, Bool.not_eq_false] at h) <;> (try simp only [go_sem, Nat.reduceEqDiff, Nat.reduceAdd, Nat.reduceSub, Nat.reduceLeDiff, Nat.reduceLT, Nat.reduceMul, Nat.reduceBEq, Int.reduceEq, Int.reduceLT, Int.reduceLE, Int.reduceNeg, Int.reduceToNat, reduceCtorEq, ho, Try.results93, h])))
          all_goals simp_all
      | cons x rest =>
        have hlt : (done.length : Int) < (e.args.length : Int) := by simp [hl]; omega
        have hget : (e.args.map Ex.enc)[done.length]? = some x.enc := by simp [hl]
        have hxs : x.size ≤ n := by simp [Ex.sizes] at hsz; omega
        simp only [go_sem, Nat.reduceEqDiff, Nat.reduceAdd, Nat.reduceSub, Nat.reduceLeDiff, Nat.reduceLT, Nat.reduceMul, Nat.reduceBEq, Int.reduceEq, Int.reduceLT, Int.reduceLE, Int.reduceNeg, Int.reduceToNat, reduceCtorEq, ho, Try.results93, h9, hs1, hs2, hb, hlt, hget, Int.natCast_nonneg, Int.toNat_natCast]
        refine GCall.fr ?_ (rcheck_fn kinds n x hxs (by omega)) (.inl rfl) ?_; (focus (first | rfl | ((simp only [go_sem, Nat.reduceEqDiff, Nat.reduceAdd, Nat.reduceSub, Nat.reduceLeDiff, Nat.reduceLT, Nat.reduceMul, Nat.reduceBEq, Int.reduceEq, Int.reduceLT, Int.reduceLE, Int.reduceNeg, Int.reduceToNat, reduceCtorEq, ho, Try.results93, x.enc_eq, hs1]); done) | ((simp only [go_sem, Nat.reduceEqDiff, Nat.reduceAdd, Nat.reduceSub, Nat.reduceLeDiff, Nat.reduceLT, Nat.reduceMul, Nat.reduceBEq, Int.reduceEq, Int.reduceLT, Int.reduceLE, Int.reduceNeg, Int.reduceToNat, reduceCtorEq, ho, Try.results93, x.enc_eq, hs1]); rfl)))
        simp only [go_sem, Nat.reduceEqDiff, Nat.reduceAdd, Nat.reduceSub, Nat.reduceLeDiff, Nat.reduceLT, Nat.reduceMul, Nat.reduceBEq, Int.reduceEq, Int.reduceLT, Int.reduceLE, Int.reduceNeg, Int.reduceToNat, reduceCtorEq, ho, Try.results93, h9, hs1, hs2, hb]
        rw [Ex.checks] at hck
        by_cases hx : (x.check kinds).2 = 0
        · have hbig : (acc.length + 1) * 9 ≤ 140737488355328 := by omega
          rw [if_neg (by simp [hx])] at hck
          have hb' := hb
          rw [e.enc_cells] at hb'
          rcases h8 with ⟨rfl, h8⟩ | ⟨hne, v, h8, h64⟩
          · simp only [go_sem, Nat.reduceEqDiff, Nat.reduceAdd, Nat.reduceSub, Nat.reduceLeDiff, Nat.reduceLT, Nat.reduceMul, Nat.reduceBEq, Int.reduceEq, Int.reduceLT, Int.reduceLE, Int.reduceNeg, Int.reduceToNat, reduceCtorEq, ho, Try.results93, hx, h9, hs1, hs2, hb, h8, hw]
            exact ⟨rest.length, by omega, done ++ [x], rest, _, by simp [hl], rfl, by simp [← hal], hck, by simp, .inr ⟨by simp, _, rfl, rfl⟩⟩
          · have hrow : getRow st.o 64 v = some (3, acc.map (.int .i64)) := by simp [getRow, h64]
            simp only [go_sem, Nat.reduceEqDiff, Nat.reduceAdd, Nat.reduceSub, Nat.reduceLeDiff, Nat.reduceLT, Nat.reduceMul, Nat.reduceBEq, Int.reduceEq, Int.reduceLT, Int.reduceLE, Int.reduceNeg, Int.reduceToNat, reduceCtorEq, ho, Try.results93, hx, h9, hs1, hs2, hb, h8, hw, h64, hbig]
            exact ⟨rest.length, by omega, done ++ [x], rest, _, by simp [hl], rfl, by simp [← hal], hck, by simp, .inr ⟨by simp, _, rfl, by simp⟩⟩
        · rw [if_pos (by simpa using hx)] at hck
          rw [← hck] at hfin
          rw [if_pos (by simpa using hx)] at hfin
          simp only [go_sem, Nat.reduceEqDiff, Nat.reduceAdd, Nat.reduceSub, Nat.reduceLeDiff, Nat.reduceLT, Nat.reduceMul, Nat.reduceBEq, Int.reduceEq, Int.reduceLT, Int.reduceLE, Int.reduceNeg, Int.reduceToNat, reduceCtorEq, ho, Try.results93, hx, h9, hs1, hs2, hb]
          rw [hfin]
          simp
    · rw [if_neg h2] at hchk
      have hcol2 : e.op = 2 → 0 ≤ e.int ∧ e.int < kinds.length := fun h => absurd h h2
      have hfin : e.check kinds = (if (Ex.checks kinds e.args []).1 ≠ 0 then (0, (Ex.checks kinds e.args []).1) else if (rresultK e (Ex.checks kinds e.args []).2 kinds).2 then ((rresultK e (Ex.checks kinds e.args []).2 kinds).1, 0) else (0, 7)) := by
        rw [hchk]
        simp [h2, rresultK]
      simp only [go_sem, Nat.reduceEqDiff, Nat.reduceAdd, Nat.reduceSub, Nat.reduceLeDiff, Nat.reduceLT, Nat.reduceMul, Nat.reduceBEq, Int.reduceEq, Int.reduceLT, Int.reduceLE, Int.reduceNeg, Int.reduceToNat, reduceCtorEq, ho, Try.results93, h2, List.length_map]
      refine ⟨fun m st => ∃ (done rest : List Ex) (acc : List Int), e.args = done ++ rest ∧ m = rest.length ∧ acc.length = done.length ∧ Ex.checks kinds rest acc = Ex.checks kinds e.args [] ∧ st.s 9 = .int .i64 done.length ∧ st.s 1 = .sl (kinds.map (.int .i64)) ∧ st.s 2 = .ptr 2 1 0 ∧ getBox st.o 2 1 = some (49, e.enc.cells) ∧ ((acc = [] ∧ st.s 8 = .nil) ∨ (acc ≠ [] ∧ ∃ v, st.s 8 = .ref 64 v ∧ st.o 64 = (v, some (true, .row 3 (acc.map (.int .i64)))))),
        e.args.length, ⟨[], e.args, [], rfl, rfl, rfl, rfl, by simp only [go_sem, Nat.reduceEqDiff, Nat.reduceAdd, Nat.reduceSub, Nat.reduceLeDiff, Nat.reduceLT, Nat.reduceMul, Nat.reduceBEq, Int.reduceEq, Int.reduceLT, Int.reduceLE, Int.reduceNeg, Int.reduceToNat, reduceCtorEq, ho, Try.results93]; rfl, by simp only [go_sem, Nat.reduceEqDiff, Nat.reduceAdd, Nat.reduceSub, Nat.reduceLeDiff, Nat.reduceLT, Nat.reduceMul, Nat.reduceBEq, Int.reduceEq, Int.reduceLT, Int.reduceLE, Int.reduceNeg, Int.reduceToNat, reduceCtorEq, ho, Try.results93], by simp only [go_sem, Nat.reduceEqDiff, Nat.reduceAdd, Nat.reduceSub, Nat.reduceLeDiff, Nat.reduceLT, Nat.reduceMul, Nat.reduceBEq, Int.reduceEq, Int.reduceLT, Int.reduceLE, Int.reduceNeg, Int.reduceToNat, reduceCtorEq, ho, Try.results93], by (first | (simp only [go_sem, Nat.reduceEqDiff, Nat.reduceAdd, Nat.reduceSub, Nat.reduceLeDiff, Nat.reduceLT, Nat.reduceMul, Nat.reduceBEq, Int.reduceEq, Int.reduceLT, Int.reduceLE, Int.reduceNeg, Int.reduceToNat, reduceCtorEq, ho, Try.results93, h2]; done) | simp only [go_sem, Nat.reduceEqDiff, Nat.reduceAdd, Nat.reduceSub, Nat.reduceLeDiff, Nat.reduceLT, Nat.reduceMul, Nat.reduceBEq, Int.reduceEq, Int.reduceLT, Int.reduceLE, Int.reduceNeg, Int.reduceToNat, reduceCtorEq, ho, Try.results93]), .inl ⟨rfl, by simp only [go_sem, Nat.reduceEqDiff, Nat.reduceAdd, Nat.reduceSub, Nat.reduceLeDiff, Nat.reduceLT, Nat.reduceMul, Nat.reduceBEq, Int.reduceEq, Int.reduceLT, Int.reduceLE, Int.reduceNeg, Int.reduceToNat, reduceCtorEq, ho, Try.results93]⟩⟩, ?_⟩
      rintro m st ⟨done, rest, acc, hl, rfl, hal, hck, h9, hs1, hs2, hb, h8⟩
      have hsz := e.size_eq
      rw [hl, Ex.sizes_app] at hsz
      have hdl := Ex.len_sizes done
      have hw : IntKind.i64.wrap ((done.length : Int) + 1) = (done.length : Int) + 1 := wrap_fits (by omega) (by omega)
      cases rest with
      | nil =>
        have hlt : ¬ (done.length : Int) < (e.args.length : Int) := by simp [hl]
        have hck' : Ex.checks kinds e.args [] = (0, acc) := by rw [← hck]; rfl
        have h22 : e.op = 22 → 1 ≤ acc.length := fun h => by
          have := formed_len hf
          rw [h] at this
          simp [fitsN] at this
          rw [hal]
          simp at hl
          rw [← hl]
          omega
        have hal' : acc.length ≤ 100000000 := by omega
        rw [hck'] at hfin
        simp only [ne_eq, not_true, if_false] at hfin
        rcases h8 with ⟨rfl, h8⟩ | ⟨hne, v, h8, h64⟩
        · simp only [go_sem, Nat.reduceEqDiff, Nat.reduceAdd, Nat.reduceSub, Nat.reduceLeDiff, Nat.reduceLT, Nat.reduceMul, Nat.reduceBEq, Int.reduceEq, Int.reduceLT, Int.reduceLE, Int.reduceNeg, Int.reduceToNat, reduceCtorEq, ho, Try.results93, h9, hlt, hs1, hs2, hb, h8]
          refine GCall.fr ?_ (rresult_fn e [] kinds (by simp) hk h22 hcol2) (.inl rfl) ?_; (focus (first | rfl | ((simp only [go_sem, Nat.reduceEqDiff, Nat.reduceAdd, Nat.reduceSub, Nat.reduceLeDiff, Nat.reduceLT, Nat.reduceMul, Nat.reduceBEq, Int.reduceEq, Int.reduceLT, Int.reduceLE, Int.reduceNeg, Int.reduceToNat, reduceCtorEq, ho, Try.results93, e.enc_eq]); done) | ((simp only [go_sem, Nat.reduceEqDiff, Nat.reduceAdd, Nat.reduceSub, Nat.reduceLeDiff, Nat.reduceLT, Nat.reduceMul, Nat.reduceBEq, Int.reduceEq, Int.reduceLT, Int.reduceLE, Int.reduceNeg, Int.reduceToNat, reduceCtorEq, ho, Try.results93, e.enc_eq]); rfl)))
          simp only [go_sem, Nat.reduceEqDiff, Nat.reduceAdd, Nat.reduceSub, Nat.reduceLeDiff, Nat.reduceLT, Nat.reduceMul, Nat.reduceBEq, Int.reduceEq, Int.reduceLT, Int.reduceLE, Int.reduceNeg, Int.reduceToNat, reduceCtorEq, ho, Try.results93]
          rw [hfin]
          repeat' (first | (refine AIf_cases (fun h => ?_) (fun h => ?_) <;> (try simp only [decide_eq_true_eq, decide_eq_false_iff_not, Bool.not_eq_true', Bool.not_eq_false', Bool.not_eq_true, Bool.not_eq_false] at h) <;> (try simp only [go_sem, Nat.reduceEqDiff, Nat.reduceAdd, Nat.reduceSub, Nat.reduceLeDiff, Nat.reduceLT, Nat.reduceMul, Nat.reduceBEq, Int.reduceEq, Int.reduceLT, Int.reduceLE, Int.reduceNeg, Int.reduceToNat, reduceCtorEq, ho, Try.results93, h])))
          all_goals simp_all
        · have hrow : getRow st.o 64 v = some (3, acc.map (.int .i64)) := by simp [getRow, h64]
          simp only [go_sem, Nat.reduceEqDiff, Nat.reduceAdd, Nat.reduceSub, Nat.reduceLeDiff, Nat.reduceLT, Nat.reduceMul, Nat.reduceBEq, Int.reduceEq, Int.reduceLT, Int.reduceLE, Int.reduceNeg, Int.reduceToNat, reduceCtorEq, ho, Try.results93, h9, hlt, hs1, hs2, hb, h8]
          refine GCall.fr ?_ (rresult_fn e acc kinds hal' hk h22 hcol2) (.inl rfl) ?_; (focus (first | rfl | ((simp only [go_sem, Nat.reduceEqDiff, Nat.reduceAdd, Nat.reduceSub, Nat.reduceLeDiff, Nat.reduceLT, Nat.reduceMul, Nat.reduceBEq, Int.reduceEq, Int.reduceLT, Int.reduceLE, Int.reduceNeg, Int.reduceToNat, reduceCtorEq, ho, Try.results93, e.enc_eq, hrow]); done) | ((simp only [go_sem, Nat.reduceEqDiff, Nat.reduceAdd, Nat.reduceSub, Nat.reduceLeDiff, Nat.reduceLT, Nat.reduceMul, Nat.reduceBEq, Int.reduceEq, Int.reduceLT, Int.reduceLE, Int.reduceNeg, Int.reduceToNat, reduceCtorEq, ho, Try.results93, e.enc_eq, hrow]); rfl)))
          simp only [go_sem, Nat.reduceEqDiff, Nat.reduceAdd, Nat.reduceSub, Nat.reduceLeDiff, Nat.reduceLT, Nat.reduceMul, Nat.reduceBEq, Int.reduceEq, Int.reduceLT, Int.reduceLE, Int.reduceNeg, Int.reduceToNat, reduceCtorEq, ho, Try.results93]
          rw [hfin]
          repeat' (first | (refine AIf_cases (fun h => ?_) (fun h => ?_) <;> (try simp only [decide_eq_true_eq, decide_eq_false_iff_not, Bool.not_eq_true', Bool.not_eq_false', Bool.not_eq_true, Bool.not_eq_false] at h) <;> (try simp only [go_sem, Nat.reduceEqDiff, Nat.reduceAdd, Nat.reduceSub, Nat.reduceLeDiff, Nat.reduceLT, Nat.reduceMul, Nat.reduceBEq, Int.reduceEq, Int.reduceLT, Int.reduceLE, Int.reduceNeg, Int.reduceToNat, reduceCtorEq, ho, Try.results93, h])))
          all_goals simp_all
      | cons x rest =>
        have hlt : (done.length : Int) < (e.args.length : Int) := by simp [hl]; omega
        have hget : (e.args.map Ex.enc)[done.length]? = some x.enc := by simp [hl]
        have hxs : x.size ≤ n := by simp [Ex.sizes] at hsz; omega
        simp only [go_sem, Nat.reduceEqDiff, Nat.reduceAdd, Nat.reduceSub, Nat.reduceLeDiff, Nat.reduceLT, Nat.reduceMul, Nat.reduceBEq, Int.reduceEq, Int.reduceLT, Int.reduceLE, Int.reduceNeg, Int.reduceToNat, reduceCtorEq, ho, Try.results93, h9, hs1, hs2, hb, hlt, hget, Int.natCast_nonneg, Int.toNat_natCast]
        refine GCall.fr ?_ (rcheck_fn kinds n x hxs (by omega)) (.inl rfl) ?_; (focus (first | rfl | ((simp only [go_sem, Nat.reduceEqDiff, Nat.reduceAdd, Nat.reduceSub, Nat.reduceLeDiff, Nat.reduceLT, Nat.reduceMul, Nat.reduceBEq, Int.reduceEq, Int.reduceLT, Int.reduceLE, Int.reduceNeg, Int.reduceToNat, reduceCtorEq, ho, Try.results93, x.enc_eq, hs1]); done) | ((simp only [go_sem, Nat.reduceEqDiff, Nat.reduceAdd, Nat.reduceSub, Nat.reduceLeDiff, Nat.reduceLT, Nat.reduceMul, Nat.reduceBEq, Int.reduceEq, Int.reduceLT, Int.reduceLE, Int.reduceNeg, Int.reduceToNat, reduceCtorEq, ho, Try.results93, x.enc_eq, hs1]); rfl)))
        simp only [go_sem, Nat.reduceEqDiff, Nat.reduceAdd, Nat.reduceSub, Nat.reduceLeDiff, Nat.reduceLT, Nat.reduceMul, Nat.reduceBEq, Int.reduceEq, Int.reduceLT, Int.reduceLE, Int.reduceNeg, Int.reduceToNat, reduceCtorEq, ho, Try.results93, h9, hs1, hs2, hb]
        rw [Ex.checks] at hck
        by_cases hx : (x.check kinds).2 = 0
        · have hbig : (acc.length + 1) * 9 ≤ 140737488355328 := by omega
          rw [if_neg (by simp [hx])] at hck
          have hb' := hb
          rw [e.enc_cells] at hb'
          rcases h8 with ⟨rfl, h8⟩ | ⟨hne, v, h8, h64⟩
          · simp only [go_sem, Nat.reduceEqDiff, Nat.reduceAdd, Nat.reduceSub, Nat.reduceLeDiff, Nat.reduceLT, Nat.reduceMul, Nat.reduceBEq, Int.reduceEq, Int.reduceLT, Int.reduceLE, Int.reduceNeg, Int.reduceToNat, reduceCtorEq, ho, Try.results93, hx, h9, hs1, hs2, hb, h8, hw]
            exact ⟨rest.length, by omega, done ++ [x], rest, _, by simp [hl], rfl, by simp [← hal], hck, by simp, .inr ⟨by simp, _, rfl, rfl⟩⟩
          · have hrow : getRow st.o 64 v = some (3, acc.map (.int .i64)) := by simp [getRow, h64]
            simp only [go_sem, Nat.reduceEqDiff, Nat.reduceAdd, Nat.reduceSub, Nat.reduceLeDiff, Nat.reduceLT, Nat.reduceMul, Nat.reduceBEq, Int.reduceEq, Int.reduceLT, Int.reduceLE, Int.reduceNeg, Int.reduceToNat, reduceCtorEq, ho, Try.results93, hx, h9, hs1, hs2, hb, h8, hw, h64, hbig]
            exact ⟨rest.length, by omega, done ++ [x], rest, _, by simp [hl], rfl, by simp [← hal], hck, by simp, .inr ⟨by simp, _, rfl, by simp⟩⟩
        · rw [if_pos (by simpa using hx)] at hck
          rw [← hck] at hfin
          rw [if_pos (by simpa using hx)] at hfin
          simp only [go_sem, Nat.reduceEqDiff, Nat.reduceAdd, Nat.reduceSub, Nat.reduceLeDiff, Nat.reduceLT, Nat.reduceMul, Nat.reduceBEq, Int.reduceEq, Int.reduceLT, Int.reduceLE, Int.reduceNeg, Int.reduceToNat, reduceCtorEq, ho, Try.results93, hx, h9, hs1, hs2, hb]
          rw [hfin]
          simp
end Go.Proofs.Ytiefnninebilbaa
/- What the reference's Check returns; no condition. -/
set_option maxRecDepth 100000
set_option linter.unusedVariables false
set_option linter.unusedSimpArgs false
namespace Go.Proofs.Ytiefnninebilbaa
open Go Go.Sx

theorem ok36 : okCode M0 Try.f36.ntmps (Try.f36.body.getD .skip) = true := by decide +kernel
theorem rchecked_fn (kinds : List Int) (e : Ex) (hs : e.size ≤ 100000000) : Fc 36 [e.enc, .sl (kinds.map (.int .i64))] (.tup [.int .i64 (e.checked kinds).1, .int .i64 (e.checked kinds).2]) := by
  refine fn_of_awp (E := E0) (M := M0) follows Try.func36 rfl (by decide) ok36 (by decide) (by simp) fun o ho => ?_
  simp only [go_sem, Nat.reduceEqDiff, Nat.reduceAdd, Nat.reduceSub, Nat.reduceLeDiff, Nat.reduceLT, Nat.reduceMul, Nat.reduceBEq, Int.reduceEq, Int.reduceLT, Int.reduceLE, Int.reduceNeg, Int.reduceToNat, reduceCtorEq, ho, Try.results36, e.enc_eq]
  refine GCall.fr ?_ (rdepth_fn _ e (Nat.le_refl _) (by omega)) (.inl rfl) ?_; (focus (first | rfl | ((simp only [go_sem, Nat.reduceEqDiff, Nat.reduceAdd, Nat.reduceSub, Nat.reduceLeDiff, Nat.reduceLT, Nat.reduceMul, Nat.reduceBEq, Int.reduceEq, Int.reduceLT, Int.reduceLE, Int.reduceNeg, Int.reduceToNat, reduceCtorEq, ho, Try.results36, e.enc_eq]); done) | ((simp only [go_sem, Nat.reduceEqDiff, Nat.reduceAdd, Nat.reduceSub, Nat.reduceLeDiff, Nat.reduceLT, Nat.reduceMul, Nat.reduceBEq, Int.reduceEq, Int.reduceLT, Int.reduceLE, Int.reduceNeg, Int.reduceToNat, reduceCtorEq, ho, Try.results36, e.enc_eq]); rfl)))
  simp only [go_sem, Nat.reduceEqDiff, Nat.reduceAdd, Nat.reduceSub, Nat.reduceLeDiff, Nat.reduceLT, Nat.reduceMul, Nat.reduceBEq, Int.reduceEq, Int.reduceLT, Int.reduceLE, Int.reduceNeg, Int.reduceToNat, reduceCtorEq, ho, Try.results36]
  by_cases h2 : 24 < e.depth
  · have h3 : (24 : Int) < (e.depth : Int) := by omega
    simp only [go_sem, Nat.reduceEqDiff, Nat.reduceAdd, Nat.reduceSub, Nat.reduceLeDiff, Nat.reduceLT, Nat.reduceMul, Nat.reduceBEq, Int.reduceEq, Int.reduceLT, Int.reduceLE, Int.reduceNeg, Int.reduceToNat, reduceCtorEq, ho, Try.results36, h3]
    simp [Ex.checked, h2]
  · have h3 : ¬ (24 : Int) < (e.depth : Int) := by omega
    simp only [go_sem, Nat.reduceEqDiff, Nat.reduceAdd, Nat.reduceSub, Nat.reduceLeDiff, Nat.reduceLT, Nat.reduceMul, Nat.reduceBEq, Int.reduceEq, Int.reduceLT, Int.reduceLE, Int.reduceNeg, Int.reduceToNat, reduceCtorEq, ho, Try.results36, h3, e.enc_eq]
    refine GCall.fr ?_ (rcheck_fn kinds _ e (Nat.le_refl _) hs) (.inl rfl) ?_; (focus (first | rfl | ((simp only [go_sem, Nat.reduceEqDiff, Nat.reduceAdd, Nat.reduceSub, Nat.reduceLeDiff, Nat.reduceLT, Nat.reduceMul, Nat.reduceBEq, Int.reduceEq, Int.reduceLT, Int.reduceLE, Int.reduceNeg, Int.reduceToNat, reduceCtorEq, ho, Try.results36, e.enc_eq]); done) | ((simp only [go_sem, Nat.reduceEqDiff, Nat.reduceAdd, Nat.reduceSub, Nat.reduceLeDiff, Nat.reduceLT, Nat.reduceMul, Nat.reduceBEq, Int.reduceEq, Int.reduceLT, Int.reduceLE, Int.reduceNeg, Int.reduceToNat, reduceCtorEq, ho, Try.results36, e.enc_eq]); rfl)))
    simp only [go_sem, Nat.reduceEqDiff, Nat.reduceAdd, Nat.reduceSub, Nat.reduceLeDiff, Nat.reduceLT, Nat.reduceMul, Nat.reduceBEq, Int.reduceEq, Int.reduceLT, Int.reduceLE, Int.reduceNeg, Int.reduceToNat, reduceCtorEq, ho, Try.results36]
    simp [Ex.checked, h2]
end Go.Proofs.Ytiefnninebilbaa
/- What the reference says of columns; what the program says of check constraints; no condition. -/
set_option maxRecDepth 100000
set_option linter.unusedVariables false
set_option linter.unusedSimpArgs false
namespace Go.Proofs.Ytiefnninebilbaa
open Go Go.Sx

def findL (name : ByteArray) : List Col → Nat → Int
  | [], _ => -1
  | c :: l, i => if c.name = name then (i : Int) else findL name l (i + 1)
def Tb.find (t : Tb) (name : ByteArray) : Int := findL name t.cols 0
theorem ok32 : okCode M0 Try.f32.ntmps (Try.f32.body.getD .skip) = true := by decide +kernel
theorem rfind_fn (t : Tb) (name : ByteArray) (hl : t.cols.length ≤ 100000000) : Fc 32 [t.enc, .str name] (.int .i64 (t.find name)) := by
  refine fn_of_awp (E := E0) (M := M0) follows Try.func32 rfl (by decide) ok32 (by decide) (by simp) fun o ho => ?_
  simp only [go_sem, Nat.reduceEqDiff, Nat.reduceAdd, Nat.reduceSub, Nat.reduceLeDiff, Nat.reduceLT, Nat.reduceMul, Nat.reduceBEq, Int.reduceEq, Int.reduceLT, Int.reduceLE, Int.reduceNeg, Int.reduceToNat, reduceCtorEq, ho, Try.results32, Tb.enc, List.length_map]
  refine ⟨fun n st => ∃ (done rest : List Col), t.cols = done ++ rest ∧ rest.length = n ∧ findL name rest done.length = t.find name ∧ st.s 5 = .int .i64 done.length ∧ st.s 1 = .str name ∧ st.s 2 = .ptr 2 1 0 ∧ getBox st.o 2 1 = some (27, t.enc.cells), t.cols.length,
    ⟨[], t.cols, rfl, rfl, rfl, by simp only [go_sem, Nat.reduceEqDiff, Nat.reduceAdd, Nat.reduceSub, Nat.reduceLeDiff, Nat.reduceLT, Nat.reduceMul, Nat.reduceBEq, Int.reduceEq, Int.reduceLT, Int.reduceLE, Int.reduceNeg, Int.reduceToNat, reduceCtorEq, ho, Try.results32]; rfl, by simp only [go_sem, Nat.reduceEqDiff, Nat.reduceAdd, Nat.reduceSub, Nat.reduceLeDiff, Nat.reduceLT, Nat.reduceMul, Nat.reduceBEq, Int.reduceEq, Int.reduceLT, Int.reduceLE, Int.reduceNeg, Int.reduceToNat, reduceCtorEq, ho, Try.results32], by simp only [go_sem, Nat.reduceEqDiff, Nat.reduceAdd, Nat.reduceSub, Nat.reduceLeDiff, Nat.reduceLT, Nat.reduceMul, Nat.reduceBEq, Int.reduceEq, Int.reduceLT, Int.reduceLE, Int.reduceNeg, Int.reduceToNat, reduceCtorEq, ho, Try.results32], by simp only [go_sem, Nat.reduceEqDiff, Nat.reduceAdd, Nat.reduceSub, Nat.reduceLeDiff, Nat.reduceLT, Nat.reduceMul, Nat.reduceBEq, Int.reduceEq, Int.reduceLT, Int.reduceLE, Int.reduceNeg, Int.reduceToNat, reduceCtorEq, ho, Try.results32]⟩, ?_⟩
  rintro n st ⟨done, rest, hl', hn, hf, h5, hs1, hs2, hb2⟩
  have hlen2 : done.length + rest.length = t.cols.length := by rw [hl']; simp
  have hw : IntKind.i64.wrap ((done.length : Int) + 1) = (done.length : Int) + 1 := wrap_fits (by omega) (by omega)
  cases rest with
  | nil =>
    have hlt : ¬ (done.length : Int) < (t.cols.length : Int) := by simp at hlen2; omega
    simp only [go_sem, Nat.reduceEqDiff, Nat.reduceAdd, Nat.reduceSub, Nat.reduceLeDiff, Nat.reduceLT, Nat.reduceMul, Nat.reduceBEq, Int.reduceEq, Int.reduceLT, Int.reduceLE, Int.reduceNeg, Int.reduceToNat, reduceCtorEq, ho, Try.results32, h5, hs2, hb2, hlt, List.length_map]
    rw [← hf]; rfl
  | cons c rest =>
    have hlt : (done.length : Int) < (t.cols.length : Int) := by simp at hlen2; omega
    have hget := cols_get hl'
    have hb2' := hb2
    rw [t.enc_cells] at hb2'
    rw [findL] at hf
    simp only [go_sem, Nat.reduceEqDiff, Nat.reduceAdd, Nat.reduceSub, Nat.reduceLeDiff, Nat.reduceLT, Nat.reduceMul, Nat.reduceBEq, Int.reduceEq, Int.reduceLT, Int.reduceLE, Int.reduceNeg, Int.reduceToNat, reduceCtorEq, ho, Try.results32, h5, hs1, hs2, hb2, hlt, hget, List.length_map, Int.natCast_nonneg, Int.toNat_natCast]
    by_cases hk : c.name = name
    · simp only [go_sem, Nat.reduceEqDiff, Nat.reduceAdd, Nat.reduceSub, Nat.reduceLeDiff, Nat.reduceLT, Nat.reduceMul, Nat.reduceBEq, Int.reduceEq, Int.reduceLT, Int.reduceLE, Int.reduceNeg, Int.reduceToNat, reduceCtorEq, ho, Try.results32, eq_true hk, h5]
      rw [← hf, if_pos hk]
    · rw [if_neg hk] at hf
      simp only [go_sem, Nat.reduceEqDiff, Nat.reduceAdd, Nat.reduceSub, Nat.reduceLeDiff, Nat.reduceLT, Nat.reduceMul, Nat.reduceBEq, Int.reduceEq, Int.reduceLT, Int.reduceLE, Int.reduceNeg, Int.reduceToNat, reduceCtorEq, ho, Try.results32, hk, h5, hs1, hs2, hb2', hw]
      exact ⟨rest.length, by simp at hn; omega, done ++ [c], rest, by simp [hl'], rfl, by rw [← hf]; simp, by simp⟩
def colL : List Col → List Col → Int
  | _, [] => 0
  | done, c :: l => if nameOk c.name = false then 1 else if ¬ (1 ≤ c.kind ∧ c.kind ≤ 3) then 7 else if (done.any fun d => decide (d.name = c.name)) = true then 10 else colL (done ++ [c]) l
def Tb.colsE (t : Tb) : Int := if t.cols.length < 1 ∨ 12 < t.cols.length then 13 else colL [] t.cols
theorem find_lt (c : Col) (rest : List Col) : ∀ (done : List Col) (i : Nat), decide (findL c.name (done ++ c :: rest) i < ((i + done.length : Nat) : Int)) = (done.any fun d => decide (d.name = c.name))
  | [], i => by simp [findL]
  | d :: done, i => by
    simp only [List.cons_append, findL, List.any_cons, List.length_cons]
    by_cases h : d.name = c.name
    · simp [h]; omega
    · simp only [if_neg h, h, decide_false, Bool.false_or]
      rw [← find_lt c rest done (i + 1)]
      congr 2
      omega
theorem ok79 : okCode M0 Try.f79.ntmps (Try.f79.body.getD .skip) = true := by decide +kernel
theorem rcols_fn (t : Tb) (hl : t.cols.length ≤ 100000000) (hs : ∀ c ∈ t.cols, c.name.size ≤ 9223372036854775806) : Fc 79 [t.enc] (.int .i64 t.colsE) := by
  refine fn_of_awp (E := E0) (M := M0) follows Try.func79 rfl (by decide) ok79 (by decide) (by simp) fun o ho => ?_
  simp only [go_sem, Nat.reduceEqDiff, Nat.reduceAdd, Nat.reduceSub, Nat.reduceLeDiff, Nat.reduceLT, Nat.reduceMul, Nat.reduceBEq, Int.reduceEq, Int.reduceLT, Int.reduceLE, Int.reduceNeg, Int.reduceToNat, reduceCtorEq, ho, Try.results79, Tb.enc, List.length_map]
  by_cases h1 : (t.cols.length : Int) < 1
  · have h1' : t.cols.length < 1 ∨ 12 < t.cols.length := by omega
    simp only [go_sem, Nat.reduceEqDiff, Nat.reduceAdd, Nat.reduceSub, Nat.reduceLeDiff, Nat.reduceLT, Nat.reduceMul, Nat.reduceBEq, Int.reduceEq, Int.reduceLT, Int.reduceLE, Int.reduceNeg, Int.reduceToNat, reduceCtorEq, ho, Try.results79, h1, List.length_map]
    rw [show t.colsE = 13 from if_pos h1']
  by_cases h12 : (12 : Int) < (t.cols.length : Int)
  · have h1' : t.cols.length < 1 ∨ 12 < t.cols.length := by omega
    simp only [go_sem, Nat.reduceEqDiff, Nat.reduceAdd, Nat.reduceSub, Nat.reduceLeDiff, Nat.reduceLT, Nat.reduceMul, Nat.reduceBEq, Int.reduceEq, Int.reduceLT, Int.reduceLE, Int.reduceNeg, Int.reduceToNat, reduceCtorEq, ho, Try.results79, h1, h12, List.length_map]
    rw [show t.colsE = 13 from if_pos h1']
  have hce : t.colsE = colL [] t.cols := if_neg (by omega)
  rw [hce]
  simp only [go_sem, Nat.reduceEqDiff, Nat.reduceAdd, Nat.reduceSub, Nat.reduceLeDiff, Nat.reduceLT, Nat.reduceMul, Nat.reduceBEq, Int.reduceEq, Int.reduceLT, Int.reduceLE, Int.reduceNeg, Int.reduceToNat, reduceCtorEq, ho, Try.results79, h1, h12, List.length_map]
  refine ⟨fun n st => ∃ (done rest : List Col), t.cols = done ++ rest ∧ rest.length = n ∧ colL done rest = colL [] t.cols ∧ st.s 3 = .int .i64 done.length ∧ st.s 1 = .ptr 1 1 0 ∧ getBox st.o 1 1 = some (27, t.enc.cells), t.cols.length,
    ⟨[], t.cols, rfl, rfl, rfl, by simp only [go_sem, Nat.reduceEqDiff, Nat.reduceAdd, Nat.reduceSub, Nat.reduceLeDiff, Nat.reduceLT, Nat.reduceMul, Nat.reduceBEq, Int.reduceEq, Int.reduceLT, Int.reduceLE, Int.reduceNeg, Int.reduceToNat, reduceCtorEq, ho, Try.results79]; rfl, by simp only [go_sem, Nat.reduceEqDiff, Nat.reduceAdd, Nat.reduceSub, Nat.reduceLeDiff, Nat.reduceLT, Nat.reduceMul, Nat.reduceBEq, Int.reduceEq, Int.reduceLT, Int.reduceLE, Int.reduceNeg, Int.reduceToNat, reduceCtorEq, ho, Try.results79], by simp only [go_sem, Nat.reduceEqDiff, Nat.reduceAdd, Nat.reduceSub, Nat.reduceLeDiff, Nat.reduceLT, Nat.reduceMul, Nat.reduceBEq, Int.reduceEq, Int.reduceLT, Int.reduceLE, Int.reduceNeg, Int.reduceToNat, reduceCtorEq, ho, Try.results79]⟩, ?_⟩
  rintro n st ⟨done, rest, hl', hn, hf, h3, hs1, hb1⟩
  have hlen2 : done.length + rest.length = t.cols.length := by rw [hl']; simp
  have hw : IntKind.i64.wrap ((done.length : Int) + 1) = (done.length : Int) + 1 := wrap_fits (by omega) (by omega)
  cases rest with
  | nil =>
    have hlt : ¬ (done.length : Int) < (t.cols.length : Int) := by simp at hlen2; omega
    simp only [go_sem, Nat.reduceEqDiff, Nat.reduceAdd, Nat.reduceSub, Nat.reduceLeDiff, Nat.reduceLT, Nat.reduceMul, Nat.reduceBEq, Int.reduceEq, Int.reduceLT, Int.reduceLE, Int.reduceNeg, Int.reduceToNat, reduceCtorEq, ho, Try.results79, h3, hs1, hb1, hlt, List.length_map]
    rw [← hf]; rfl
  | cons c rest =>
    have hlt : (done.length : Int) < (t.cols.length : Int) := by simp at hlen2; omega
    have hget := cols_get hl'
    have hb1' := hb1
    rw [t.enc_cells] at hb1'
    rw [colL] at hf
    have hfl := find_lt c rest done 0
    rw [Nat.zero_add, ← hl'] at hfl
    simp only [go_sem, Nat.reduceEqDiff, Nat.reduceAdd, Nat.reduceSub, Nat.reduceLeDiff, Nat.reduceLT, Nat.reduceMul, Nat.reduceBEq, Int.reduceEq, Int.reduceLT, Int.reduceLE, Int.reduceNeg, Int.reduceToNat, reduceCtorEq, ho, Try.results79, h3, hs1, hb1, hlt, hget, List.length_map, Int.natCast_nonneg, Int.toNat_natCast]
    refine GCall.fr ?_ (rname_fn c.name (hs c (by simp [hl']))) (.inl rfl) ?_; (focus (first | rfl | ((simp only [go_sem, Nat.reduceEqDiff, Nat.reduceAdd, Nat.reduceSub, Nat.reduceLeDiff, Nat.reduceLT, Nat.reduceMul, Nat.reduceBEq, Int.reduceEq, Int.reduceLT, Int.reduceLE, Int.reduceNeg, Int.reduceToNat, reduceCtorEq, ho, Try.results79]); done) | ((simp only [go_sem, Nat.reduceEqDiff, Nat.reduceAdd, Nat.reduceSub, Nat.reduceLeDiff, Nat.reduceLT, Nat.reduceMul, Nat.reduceBEq, Int.reduceEq, Int.reduceLT, Int.reduceLE, Int.reduceNeg, Int.reduceToNat, reduceCtorEq, ho, Try.results79]); rfl)))
    simp only [go_sem, Nat.reduceEqDiff, Nat.reduceAdd, Nat.reduceSub, Nat.reduceLeDiff, Nat.reduceLT, Nat.reduceMul, Nat.reduceBEq, Int.reduceEq, Int.reduceLT, Int.reduceLE, Int.reduceNeg, Int.reduceToNat, reduceCtorEq, ho, Try.results79]
    cases hnm : nameOk c.name with
    | false =>
      simp only [go_sem, Nat.reduceEqDiff, Nat.reduceAdd, Nat.reduceSub, Nat.reduceLeDiff, Nat.reduceLT, Nat.reduceMul, Nat.reduceBEq, Int.reduceEq, Int.reduceLT, Int.reduceLE, Int.reduceNeg, Int.reduceToNat, reduceCtorEq, ho, Try.results79, hnm]
      rw [← hf, if_pos hnm]
    | true =>
      rw [hnm] at hf
      simp only [go_sem, Nat.reduceEqDiff, Nat.reduceAdd, Nat.reduceSub, Nat.reduceLeDiff, Nat.reduceLT, Nat.reduceMul, Nat.reduceBEq, Int.reduceEq, Int.reduceLT, Int.reduceLE, Int.reduceNeg, Int.reduceToNat, reduceCtorEq, ho, Try.results79, hnm]
      by_cases k1 : c.kind < 1
      · simp only [go_sem, Nat.reduceEqDiff, Nat.reduceAdd, Nat.reduceSub, Nat.reduceLeDiff, Nat.reduceLT, Nat.reduceMul, Nat.reduceBEq, Int.reduceEq, Int.reduceLT, Int.reduceLE, Int.reduceNeg, Int.reduceToNat, reduceCtorEq, ho, Try.results79, k1]
        rw [← hf, if_neg (by simp), if_pos (by omega)]
      by_cases k3 : 3 < c.kind
      · simp only [go_sem, Nat.reduceEqDiff, Nat.reduceAdd, Nat.reduceSub, Nat.reduceLeDiff, Nat.reduceLT, Nat.reduceMul, Nat.reduceBEq, Int.reduceEq, Int.reduceLT, Int.reduceLE, Int.reduceNeg, Int.reduceToNat, reduceCtorEq, ho, Try.results79, k1, k3]
        rw [← hf, if_neg (by simp), if_pos (by omega)]
      rw [if_neg (by simp), if_neg (by omega)] at hf
      simp only [go_sem, Nat.reduceEqDiff, Nat.reduceAdd, Nat.reduceSub, Nat.reduceLeDiff, Nat.reduceLT, Nat.reduceMul, Nat.reduceBEq, Int.reduceEq, Int.reduceLT, Int.reduceLE, Int.reduceNeg, Int.reduceToNat, reduceCtorEq, ho, Try.results79, k1, k3, hs1, hb1']
      refine GCall.fr ?_ (rfind_fn t c.name hl) (.inl rfl) ?_; (focus (first | rfl | ((simp only [go_sem, Nat.reduceEqDiff, Nat.reduceAdd, Nat.reduceSub, Nat.reduceLeDiff, Nat.reduceLT, Nat.reduceMul, Nat.reduceBEq, Int.reduceEq, Int.reduceLT, Int.reduceLE, Int.reduceNeg, Int.reduceToNat, reduceCtorEq, ho, Try.results79, Tb.enc]); done) | ((simp only [go_sem, Nat.reduceEqDiff, Nat.reduceAdd, Nat.reduceSub, Nat.reduceLeDiff, Nat.reduceLT, Nat.reduceMul, Nat.reduceBEq, Int.reduceEq, Int.reduceLT, Int.reduceLE, Int.reduceNeg, Int.reduceToNat, reduceCtorEq, ho, Try.results79, Tb.enc]); rfl)))
      simp only [go_sem, Nat.reduceEqDiff, Nat.reduceAdd, Nat.reduceSub, Nat.reduceLeDiff, Nat.reduceLT, Nat.reduceMul, Nat.reduceBEq, Int.reduceEq, Int.reduceLT, Int.reduceLE, Int.reduceNeg, Int.reduceToNat, reduceCtorEq, ho, Try.results79, h3]
      have hfl' : decide (t.find c.name < (done.length : Int)) = (done.any fun d => decide (d.name = c.name)) := hfl
      cases hany : (done.any fun d => decide (d.name = c.name)) with
      | true =>
        rw [hany] at hf hfl'
        simp only [go_sem, Nat.reduceEqDiff, Nat.reduceAdd, Nat.reduceSub, Nat.reduceLeDiff, Nat.reduceLT, Nat.reduceMul, Nat.reduceBEq, Int.reduceEq, Int.reduceLT, Int.reduceLE, Int.reduceNeg, Int.reduceToNat, reduceCtorEq, ho, Try.results79, hfl']
        rw [← hf]; rfl
      | false =>
        rw [hany] at hf hfl'
        simp only [go_sem, Nat.reduceEqDiff, Nat.reduceAdd, Nat.reduceSub, Nat.reduceLeDiff, Nat.reduceLT, Nat.reduceMul, Nat.reduceBEq, Int.reduceEq, Int.reduceLT, Int.reduceLE, Int.reduceNeg, Int.reduceToNat, reduceCtorEq, ho, Try.results79, hfl', h3, hs1, hb1', hw]
        exact ⟨rest.length, by simp at hn; omega, done ++ [c], rest, by simp [hl'], rfl, by rw [← hf]; simp, by simp⟩
end Go.Proofs.Ytiefnninebilbaa
/- What the reference's functions over values return; no condition. -/
set_option maxRecDepth 100000
set_option linter.unusedVariables false
set_option linter.unusedSimpArgs false
namespace Go.Proofs.Ytiefnninebilbaa
open Go Go.Sx

theorem ok149 : okCode M0 Try.f149.ntmps (Try.f149.body.getD .skip) = true := by decide +kernel
theorem rorNull_fn (v : Vl) : Fc 149 [v.enc] v.orNull.enc := by
  refine fn_of_awp (E := E0) (M := M0) follows Try.func149 rfl (by decide) ok149 (by decide) (by simp) fun o ho => ?_
  simp only [go_sem, Nat.reduceEqDiff, Nat.reduceAdd, Nat.reduceSub, Nat.reduceLeDiff, Nat.reduceLT, Nat.reduceMul, Nat.reduceBEq, Int.reduceEq, Int.reduceLT, Int.reduceLE, Int.reduceNeg, Int.reduceToNat, reduceCtorEq, ho, Try.results149, Vl.enc]
  refine GCall.fr ?_ (rvalid_fn v) (.inl rfl) ?_; (focus (first | rfl | ((simp only [go_sem, Nat.reduceEqDiff, Nat.reduceAdd, Nat.reduceSub, Nat.reduceLeDiff, Nat.reduceLT, Nat.reduceMul, Nat.reduceBEq, Int.reduceEq, Int.reduceLT, Int.reduceLE, Int.reduceNeg, Int.reduceToNat, reduceCtorEq, ho, Try.results149]); done) | ((simp only [go_sem, Nat.reduceEqDiff, Nat.reduceAdd, Nat.reduceSub, Nat.reduceLeDiff, Nat.reduceLT, Nat.reduceMul, Nat.reduceBEq, Int.reduceEq, Int.reduceLT, Int.reduceLE, Int.reduceNeg, Int.reduceToNat, reduceCtorEq, ho, Try.results149]); rfl)))
  simp only [go_sem, Nat.reduceEqDiff, Nat.reduceAdd, Nat.reduceSub, Nat.reduceLeDiff, Nat.reduceLT, Nat.reduceMul, Nat.reduceBEq, Int.reduceEq, Int.reduceLT, Int.reduceLE, Int.reduceNeg, Int.reduceToNat, reduceCtorEq, ho, Try.results149]
  repeat' (first | (refine AIf_cases (fun h => ?_) (fun h => ?_) <;> (try simp only [decide_eq_true_eq, decide_eq_false_iff_not, Bool.not_eq_true', Bool.not_eq_false', Bool.not_eq_true, Bool.not_eq_false] at h) <;> (try simp only [go_sem, Nat.reduceEqDiff, Nat.reduceAdd, Nat.reduceSub, Nat.reduceLeDiff, Nat.reduceLT, Nat.reduceMul, Nat.reduceBEq, Int.reduceEq, Int.reduceLT, Int.reduceLE, Int.reduceNeg, Int.reduceToNat, reduceCtorEq, ho, Try.results149, h])))
  · simp_all [Vl.orNull]
  · refine GCall.fr ?_ (rnull_fn) (.inl rfl) ?_; (focus (first | rfl | ((simp only [go_sem, Nat.reduceEqDiff, Nat.reduceAdd, Nat.reduceSub, Nat.reduceLeDiff, Nat.reduceLT, Nat.reduceMul, Nat.reduceBEq, Int.reduceEq, Int.reduceLT, Int.reduceLE, Int.reduceNeg, Int.reduceToNat, reduceCtorEq, ho, Try.results149]); done) | ((simp only [go_sem, Nat.reduceEqDiff, Nat.reduceAdd, Nat.reduceSub, Nat.reduceLeDiff, Nat.reduceLT, Nat.reduceMul, Nat.reduceBEq, Int.reduceEq, Int.reduceLT, Int.reduceLE, Int.reduceNeg, Int.reduceToNat, reduceCtorEq, ho, Try.results149]); rfl)))
    simp only [go_sem, Nat.reduceEqDiff, Nat.reduceAdd, Nat.reduceSub, Nat.reduceLeDiff, Nat.reduceLT, Nat.reduceMul, Nat.reduceBEq, Int.reduceEq, Int.reduceLT, Int.reduceLE, Int.reduceNeg, Int.reduceToNat, reduceCtorEq, ho, Try.results149, Vl.enc, Vl.null]
    simp_all [Vl.orNull, Vl.null]
theorem ok83 : okCode M0 Try.f83.ntmps (Try.f83.body.getD .skip) = true := by decide +kernel
theorem rnum_fn (n : Int) : Fc 83 [.int .i64 n] (Vl.num n).enc := by
  refine fn_of_awp (E := E0) (M := M0) follows Try.func83 rfl (by decide) ok83 (by decide) (by simp) fun o ho => ?_
  simp only [go_sem, Nat.reduceEqDiff, Nat.reduceAdd, Nat.reduceSub, Nat.reduceLeDiff, Nat.reduceLT, Nat.reduceMul, Nat.reduceBEq, Int.reduceEq, Int.reduceLT, Int.reduceLE, Int.reduceNeg, Int.reduceToNat, reduceCtorEq, ho, Try.results83]
  refine GCall.fr ?_ (rorNull_fn ⟨1, n, emp⟩) (.inl rfl) ?_; (focus (first | rfl | ((simp only [go_sem, Nat.reduceEqDiff, Nat.reduceAdd, Nat.reduceSub, Nat.reduceLeDiff, Nat.reduceLT, Nat.reduceMul, Nat.reduceBEq, Int.reduceEq, Int.reduceLT, Int.reduceLE, Int.reduceNeg, Int.reduceToNat, reduceCtorEq, ho, Try.results83]); done) | ((simp only [go_sem, Nat.reduceEqDiff, Nat.reduceAdd, Nat.reduceSub, Nat.reduceLeDiff, Nat.reduceLT, Nat.reduceMul, Nat.reduceBEq, Int.reduceEq, Int.reduceLT, Int.reduceLE, Int.reduceNeg, Int.reduceToNat, reduceCtorEq, ho, Try.results83]); rfl)))
  simp only [go_sem, Nat.reduceEqDiff, Nat.reduceAdd, Nat.reduceSub, Nat.reduceLeDiff, Nat.reduceLT, Nat.reduceMul, Nat.reduceBEq, Int.reduceEq, Int.reduceLT, Int.reduceLE, Int.reduceNeg, Int.reduceToNat, reduceCtorEq, ho, Try.results83, Vl.enc, Vl.num]
theorem ok84 : okCode M0 Try.f84.ntmps (Try.f84.body.getD .skip) = true := by decide +kernel
theorem rtxt_fn (s : ByteArray) : Fc 84 [.str s] (Vl.txt s).enc := by
  refine fn_of_awp (E := E0) (M := M0) follows Try.func84 rfl (by decide) ok84 (by decide) (by simp) fun o ho => ?_
  simp only [go_sem, Nat.reduceEqDiff, Nat.reduceAdd, Nat.reduceSub, Nat.reduceLeDiff, Nat.reduceLT, Nat.reduceMul, Nat.reduceBEq, Int.reduceEq, Int.reduceLT, Int.reduceLE, Int.reduceNeg, Int.reduceToNat, reduceCtorEq, ho, Try.results84]
  refine GCall.fr ?_ (rorNull_fn ⟨2, 0, s⟩) (.inl rfl) ?_; (focus (first | rfl | ((simp only [go_sem, Nat.reduceEqDiff, Nat.reduceAdd, Nat.reduceSub, Nat.reduceLeDiff, Nat.reduceLT, Nat.reduceMul, Nat.reduceBEq, Int.reduceEq, Int.reduceLT, Int.reduceLE, Int.reduceNeg, Int.reduceToNat, reduceCtorEq, ho, Try.results84]); done) | ((simp only [go_sem, Nat.reduceEqDiff, Nat.reduceAdd, Nat.reduceSub, Nat.reduceLeDiff, Nat.reduceLT, Nat.reduceMul, Nat.reduceBEq, Int.reduceEq, Int.reduceLT, Int.reduceLE, Int.reduceNeg, Int.reduceToNat, reduceCtorEq, ho, Try.results84]); rfl)))
  simp only [go_sem, Nat.reduceEqDiff, Nat.reduceAdd, Nat.reduceSub, Nat.reduceLeDiff, Nat.reduceLT, Nat.reduceMul, Nat.reduceBEq, Int.reduceEq, Int.reduceLT, Int.reduceLE, Int.reduceNeg, Int.reduceToNat, reduceCtorEq, ho, Try.results84, Vl.enc, Vl.txt]
theorem ok115 : okCode M0 Try.f115.ntmps (Try.f115.body.getD .skip) = true := by decide +kernel
theorem rbool_fn (b : Bool) : Fc 115 [.bool b] (Vl.bool b).enc := by
  refine fn_of_awp (E := E0) (M := M0) follows Try.func115 rfl (by decide) ok115 (by decide) (by simp) fun o ho => ?_
  simp only [go_sem, Nat.reduceEqDiff, Nat.reduceAdd, Nat.reduceSub, Nat.reduceLeDiff, Nat.reduceLT, Nat.reduceMul, Nat.reduceBEq, Int.reduceEq, Int.reduceLT, Int.reduceLE, Int.reduceNeg, Int.reduceToNat, reduceCtorEq, ho, Try.results115, Vl.enc, Vl.bool]
  repeat' (first | (refine AIf_cases (fun h => ?_) (fun h => ?_) <;> (try simp only [decide_eq_true_eq, decide_eq_false_iff_not, Bool.not_eq_true', Bool.not_eq_false', Bool.not_eq_true, Bool.not_eq_false] at h) <;> (try simp only [go_sem, Nat.reduceEqDiff, Nat.reduceAdd, Nat.reduceSub, Nat.reduceLeDiff, Nat.reduceLT, Nat.reduceMul, Nat.reduceBEq, Int.reduceEq, Int.reduceLT, Int.reduceLE, Int.reduceNeg, Int.reduceToNat, reduceCtorEq, ho, Try.results115, h])))
theorem ok110 : okCode M0 Try.f110.ntmps (Try.f110.body.getD .skip) = true := by decide +kernel
theorem rtruth_fn (v : Vl) : Fc 110 [v.enc] (.int .i64 v.truth) := by
  refine fn_of_awp (E := E0) (M := M0) follows Try.func110 rfl (by decide) ok110 (by decide) (by simp) fun o ho => ?_
  simp only [go_sem, Nat.reduceEqDiff, Nat.reduceAdd, Nat.reduceSub, Nat.reduceLeDiff, Nat.reduceLT, Nat.reduceMul, Nat.reduceBEq, Int.reduceEq, Int.reduceLT, Int.reduceLE, Int.reduceNeg, Int.reduceToNat, reduceCtorEq, ho, Try.results110, Vl.enc]
  refine QCall.fr ?_ (rbool_fn true) (.inl rfl) ?_; (focus (first | rfl | ((simp only [go_sem, Nat.reduceEqDiff, Nat.reduceAdd, Nat.reduceSub, Nat.reduceLeDiff, Nat.reduceLT, Nat.reduceMul, Nat.reduceBEq, Int.reduceEq, Int.reduceLT, Int.reduceLE, Int.reduceNeg, Int.reduceToNat, reduceCtorEq, ho, Try.results110]); done) | ((simp only [go_sem, Nat.reduceEqDiff, Nat.reduceAdd, Nat.reduceSub, Nat.reduceLeDiff, Nat.reduceLT, Nat.reduceMul, Nat.reduceBEq, Int.reduceEq, Int.reduceLT, Int.reduceLE, Int.reduceNeg, Int.reduceToNat, reduceCtorEq, ho, Try.results110]); rfl)))
  simp only [go_sem, Nat.reduceEqDiff, Nat.reduceAdd, Nat.reduceSub, Nat.reduceLeDiff, Nat.reduceLT, Nat.reduceMul, Nat.reduceBEq, Int.reduceEq, Int.reduceLT, Int.reduceLE, Int.reduceNeg, Int.reduceToNat, reduceCtorEq, ho, Try.results110, Vl.enc, Vl.bool]
  repeat' (first | (refine AIf_cases (fun h => ?_) (fun h => ?_) <;> (try simp only [decide_eq_true_eq, decide_eq_false_iff_not, Bool.not_eq_true', Bool.not_eq_false', Bool.not_eq_true, Bool.not_eq_false] at h) <;> (try simp only [go_sem, Nat.reduceEqDiff, Nat.reduceAdd, Nat.reduceSub, Nat.reduceLeDiff, Nat.reduceLT, Nat.reduceMul, Nat.reduceBEq, Int.reduceEq, Int.reduceLT, Int.reduceLE, Int.reduceNeg, Int.reduceToNat, reduceCtorEq, ho, Try.results110, h])))
  · all_goals (first | (simp_all [Vl.truth]; done) | (simp_all [Vl.truth]; omega) | (simp_all [Vl.truth]; intros; omega) | (simp_all [Vl.truth]; (repeat' split) <;> (first | (simp_all; done) | (simp_all; omega) | omega)))
  · refine QCall.fr ?_ (rbool_fn false) (.inl rfl) ?_; (focus (first | rfl | ((simp only [go_sem, Nat.reduceEqDiff, Nat.reduceAdd, Nat.reduceSub, Nat.reduceLeDiff, Nat.reduceLT, Nat.reduceMul, Nat.reduceBEq, Int.reduceEq, Int.reduceLT, Int.reduceLE, Int.reduceNeg, Int.reduceToNat, reduceCtorEq, ho, Try.results110]); done) | ((simp only [go_sem, Nat.reduceEqDiff, Nat.reduceAdd, Nat.reduceSub, Nat.reduceLeDiff, Nat.reduceLT, Nat.reduceMul, Nat.reduceBEq, Int.reduceEq, Int.reduceLT, Int.reduceLE, Int.reduceNeg, Int.reduceToNat, reduceCtorEq, ho, Try.results110]); rfl)))
    simp only [go_sem, Nat.reduceEqDiff, Nat.reduceAdd, Nat.reduceSub, Nat.reduceLeDiff, Nat.reduceLT, Nat.reduceMul, Nat.reduceBEq, Int.reduceEq, Int.reduceLT, Int.reduceLE, Int.reduceNeg, Int.reduceToNat, reduceCtorEq, ho, Try.results110, Vl.enc, Vl.bool]
    repeat' (first | (refine AIf_cases (fun h => ?_) (fun h => ?_) <;> (try simp only [decide_eq_true_eq, decide_eq_false_iff_not, Bool.not_eq_true', Bool.not_eq_false', Bool.not_eq_true, Bool.not_eq_false] at h) <;> (try simp only [go_sem, Nat.reduceEqDiff, Nat.reduceAdd, Nat.reduceSub, Nat.reduceLeDiff, Nat.reduceLT, Nat.reduceMul, Nat.reduceBEq, Int.reduceEq, Int.reduceLT, Int.reduceLE, Int.reduceNeg, Int.reduceToNat, reduceCtorEq, ho, Try.results110, h])))
    all_goals (first | (simp_all [Vl.truth]; done) | (simp_all [Vl.truth]; omega) | (simp_all [Vl.truth]; intros; omega) | (simp_all [Vl.truth]; (repeat' split) <;> (first | (simp_all; done) | (simp_all; omega) | omega)))
theorem ok108 : okCode M0 Try.f108.ntmps (Try.f108.body.getD .skip) = true := by decide +kernel
theorem rof_fn (t : Int) : Fc 108 [.int .i64 t] (Vl.of t).enc := by
  have hn : normal t = if t = 0 ∨ t = 2 then t else 1 := rfl
  refine fn_of_awp (E := E0) (M := M0) follows Try.func108 rfl (by decide) ok108 (by decide) (by simp) fun o ho => ?_
  simp only [go_sem, Nat.reduceEqDiff, Nat.reduceAdd, Nat.reduceSub, Nat.reduceLeDiff, Nat.reduceLT, Nat.reduceMul, Nat.reduceBEq, Int.reduceEq, Int.reduceLT, Int.reduceLE, Int.reduceNeg, Int.reduceToNat, reduceCtorEq, ho, Try.results108]
  by_cases h2 : t = 2
  · simp only [go_sem, Nat.reduceEqDiff, Nat.reduceAdd, Nat.reduceSub, Nat.reduceLeDiff, Nat.reduceLT, Nat.reduceMul, Nat.reduceBEq, Int.reduceEq, Int.reduceLT, Int.reduceLE, Int.reduceNeg, Int.reduceToNat, reduceCtorEq, ho, Try.results108, h2]
    refine GCall.fr ?_ (rbool_fn true) (.inl rfl) ?_; (focus (first | rfl | ((simp only [go_sem, Nat.reduceEqDiff, Nat.reduceAdd, Nat.reduceSub, Nat.reduceLeDiff, Nat.reduceLT, Nat.reduceMul, Nat.reduceBEq, Int.reduceEq, Int.reduceLT, Int.reduceLE, Int.reduceNeg, Int.reduceToNat, reduceCtorEq, ho, Try.results108]); done) | ((simp only [go_sem, Nat.reduceEqDiff, Nat.reduceAdd, Nat.reduceSub, Nat.reduceLeDiff, Nat.reduceLT, Nat.reduceMul, Nat.reduceBEq, Int.reduceEq, Int.reduceLT, Int.reduceLE, Int.reduceNeg, Int.reduceToNat, reduceCtorEq, ho, Try.results108]); rfl)))
    simp only [go_sem, Nat.reduceEqDiff, Nat.reduceAdd, Nat.reduceSub, Nat.reduceLeDiff, Nat.reduceLT, Nat.reduceMul, Nat.reduceBEq, Int.reduceEq, Int.reduceLT, Int.reduceLE, Int.reduceNeg, Int.reduceToNat, reduceCtorEq, ho, Try.results108, Vl.enc, Vl.bool]
    exact ⟨rfl, rfl, rfl⟩
  by_cases h0 : t = 0
  · simp only [go_sem, Nat.reduceEqDiff, Nat.reduceAdd, Nat.reduceSub, Nat.reduceLeDiff, Nat.reduceLT, Nat.reduceMul, Nat.reduceBEq, Int.reduceEq, Int.reduceLT, Int.reduceLE, Int.reduceNeg, Int.reduceToNat, reduceCtorEq, ho, Try.results108, h2, h0]
    refine GCall.fr ?_ (rbool_fn false) (.inl rfl) ?_; (focus (first | rfl | ((simp only [go_sem, Nat.reduceEqDiff, Nat.reduceAdd, Nat.reduceSub, Nat.reduceLeDiff, Nat.reduceLT, Nat.reduceMul, Nat.reduceBEq, Int.reduceEq, Int.reduceLT, Int.reduceLE, Int.reduceNeg, Int.reduceToNat, reduceCtorEq, ho, Try.results108]); done) | ((simp only [go_sem, Nat.reduceEqDiff, Nat.reduceAdd, Nat.reduceSub, Nat.reduceLeDiff, Nat.reduceLT, Nat.reduceMul, Nat.reduceBEq, Int.reduceEq, Int.reduceLT, Int.reduceLE, Int.reduceNeg, Int.reduceToNat, reduceCtorEq, ho, Try.results108]); rfl)))
    simp only [go_sem, Nat.reduceEqDiff, Nat.reduceAdd, Nat.reduceSub, Nat.reduceLeDiff, Nat.reduceLT, Nat.reduceMul, Nat.reduceBEq, Int.reduceEq, Int.reduceLT, Int.reduceLE, Int.reduceNeg, Int.reduceToNat, reduceCtorEq, ho, Try.results108, Vl.enc, Vl.bool]
    exact ⟨rfl, rfl, rfl⟩
  simp only [go_sem, Nat.reduceEqDiff, Nat.reduceAdd, Nat.reduceSub, Nat.reduceLeDiff, Nat.reduceLT, Nat.reduceMul, Nat.reduceBEq, Int.reduceEq, Int.reduceLT, Int.reduceLE, Int.reduceNeg, Int.reduceToNat, reduceCtorEq, ho, Try.results108, h2, h0]
  refine GCall.fr ?_ (rnull_fn) (.inl rfl) ?_; (focus (first | rfl | ((simp only [go_sem, Nat.reduceEqDiff, Nat.reduceAdd, Nat.reduceSub, Nat.reduceLeDiff, Nat.reduceLT, Nat.reduceMul, Nat.reduceBEq, Int.reduceEq, Int.reduceLT, Int.reduceLE, Int.reduceNeg, Int.reduceToNat, reduceCtorEq, ho, Try.results108]); done) | ((simp only [go_sem, Nat.reduceEqDiff, Nat.reduceAdd, Nat.reduceSub, Nat.reduceLeDiff, Nat.reduceLT, Nat.reduceMul, Nat.reduceBEq, Int.reduceEq, Int.reduceLT, Int.reduceLE, Int.reduceNeg, Int.reduceToNat, reduceCtorEq, ho, Try.results108]); rfl)))
  simp only [go_sem, Nat.reduceEqDiff, Nat.reduceAdd, Nat.reduceSub, Nat.reduceLeDiff, Nat.reduceLT, Nat.reduceMul, Nat.reduceBEq, Int.reduceEq, Int.reduceLT, Int.reduceLE, Int.reduceNeg, Int.reduceToNat, reduceCtorEq, ho, Try.results108, Vl.enc, Vl.null]
  have : Vl.of t = Vl.null := by unfold Vl.of; rw [if_pos (by rw [hn]; exact if_neg (by omega))]
  rw [this]; exact ⟨rfl, rfl, rfl⟩
theorem tand_eq (a b : Int) : tand a b = if a = 0 ∨ b = 0 then 0 else if a = 2 ∧ b = 2 then 2 else 1 := by
  by_cases h1 : a = 0 <;> by_cases h2 : a = 2 <;> by_cases h3 : b = 0 <;> by_cases h4 : b = 2 <;> simp_all [tand, least, normal]
theorem tor_eq (a b : Int) : tor a b = if a = 2 ∨ b = 2 then 2 else if a = 0 ∧ b = 0 then 0 else 1 := by
  by_cases h1 : a = 0 <;> by_cases h2 : a = 2 <;> by_cases h3 : b = 0 <;> by_cases h4 : b = 2 <;> simp_all [tor, tnot, least, normal]
theorem ok109 : okCode M0 Try.f109.ntmps (Try.f109.body.getD .skip) = true := by decide +kernel
theorem rnot_fn (a : Int) : Fc 109 [.int .i64 a] (.int .i64 (tnot a)) := by
  refine fn_of_awp (E := E0) (M := M0) follows Try.func109 rfl (by decide) ok109 (by decide) (by simp) fun o ho => ?_
  simp only [go_sem, Nat.reduceEqDiff, Nat.reduceAdd, Nat.reduceSub, Nat.reduceLeDiff, Nat.reduceLT, Nat.reduceMul, Nat.reduceBEq, Int.reduceEq, Int.reduceLT, Int.reduceLE, Int.reduceNeg, Int.reduceToNat, reduceCtorEq, ho, Try.results109]
  repeat' (first | (refine AIf_cases (fun h => ?_) (fun h => ?_) <;> (try simp only [decide_eq_true_eq, decide_eq_false_iff_not, Bool.not_eq_true', Bool.not_eq_false', Bool.not_eq_true, Bool.not_eq_false] at h) <;> (try simp only [go_sem, Nat.reduceEqDiff, Nat.reduceAdd, Nat.reduceSub, Nat.reduceLeDiff, Nat.reduceLT, Nat.reduceMul, Nat.reduceBEq, Int.reduceEq, Int.reduceLT, Int.reduceLE, Int.reduceNeg, Int.reduceToNat, reduceCtorEq, ho, Try.results109, h])))
  all_goals simp_all [tnot, normal]
theorem ok168 : okCode M0 Try.f168.ntmps (Try.f168.body.getD .skip) = true := by decide +kernel
theorem rand_fn (a b : Int) : Fc 168 [.int .i64 a, .int .i64 b] (.int .i64 (tand a b)) := by
  rw [tand_eq]
  refine fn_of_awp (E := E0) (M := M0) follows Try.func168 rfl (by decide) ok168 (by decide) (by simp) fun o ho => ?_
  simp only [go_sem, Nat.reduceEqDiff, Nat.reduceAdd, Nat.reduceSub, Nat.reduceLeDiff, Nat.reduceLT, Nat.reduceMul, Nat.reduceBEq, Int.reduceEq, Int.reduceLT, Int.reduceLE, Int.reduceNeg, Int.reduceToNat, reduceCtorEq, ho, Try.results168]
  repeat' (first | (refine AIf_cases (fun h => ?_) (fun h => ?_) <;> (try simp only [decide_eq_true_eq, decide_eq_false_iff_not, Bool.not_eq_true', Bool.not_eq_false', Bool.not_eq_true, Bool.not_eq_false] at h) <;> (try simp only [go_sem, Nat.reduceEqDiff, Nat.reduceAdd, Nat.reduceSub, Nat.reduceLeDiff, Nat.reduceLT, Nat.reduceMul, Nat.reduceBEq, Int.reduceEq, Int.reduceLT, Int.reduceLE, Int.reduceNeg, Int.reduceToNat, reduceCtorEq, ho, Try.results168, h])))
  all_goals simp_all
theorem ok169 : okCode M0 Try.f169.ntmps (Try.f169.body.getD .skip) = true := by decide +kernel
theorem ror_fn (a b : Int) : Fc 169 [.int .i64 a, .int .i64 b] (.int .i64 (tor a b)) := by
  rw [tor_eq]
  refine fn_of_awp (E := E0) (M := M0) follows Try.func169 rfl (by decide) ok169 (by decide) (by simp) fun o ho => ?_
  simp only [go_sem, Nat.reduceEqDiff, Nat.reduceAdd, Nat.reduceSub, Nat.reduceLeDiff, Nat.reduceLT, Nat.reduceMul, Nat.reduceBEq, Int.reduceEq, Int.reduceLT, Int.reduceLE, Int.reduceNeg, Int.reduceToNat, reduceCtorEq, ho, Try.results169]
  repeat' (first | (refine AIf_cases (fun h => ?_) (fun h => ?_) <;> (try simp only [decide_eq_true_eq, decide_eq_false_iff_not, Bool.not_eq_true', Bool.not_eq_false', Bool.not_eq_true, Bool.not_eq_false] at h) <;> (try simp only [go_sem, Nat.reduceEqDiff, Nat.reduceAdd, Nat.reduceSub, Nat.reduceLeDiff, Nat.reduceLT, Nat.reduceMul, Nat.reduceBEq, Int.reduceEq, Int.reduceLT, Int.reduceLE, Int.reduceNeg, Int.reduceToNat, reduceCtorEq, ho, Try.results169, h])))
  all_goals simp_all
theorem ok183 : okCode M0 Try.f183.ntmps (Try.f183.body.getD .skip) = true := by decide +kernel
theorem sign_fn (a b : Bool) : Fc 183 [.bool a, .bool b] (.int .i64 (if a then -1 else if b then 1 else 0)) := by
  refine fn_of_awp (E := E0) (M := M0) follows Try.func183 rfl (by decide) ok183 (by decide) (by simp) fun o ho => ?_
  simp only [go_sem, Nat.reduceEqDiff, Nat.reduceAdd, Nat.reduceSub, Nat.reduceLeDiff, Nat.reduceLT, Nat.reduceMul, Nat.reduceBEq, Int.reduceEq, Int.reduceLT, Int.reduceLE, Int.reduceNeg, Int.reduceToNat, reduceCtorEq, ho, Try.results183]
  repeat' (first | (refine AIf_cases (fun h => ?_) (fun h => ?_) <;> (try simp only [decide_eq_true_eq, decide_eq_false_iff_not, Bool.not_eq_true', Bool.not_eq_false', Bool.not_eq_true, Bool.not_eq_false] at h) <;> (try simp only [go_sem, Nat.reduceEqDiff, Nat.reduceAdd, Nat.reduceSub, Nat.reduceLeDiff, Nat.reduceLT, Nat.reduceMul, Nat.reduceBEq, Int.reduceEq, Int.reduceLT, Int.reduceLE, Int.reduceNeg, Int.reduceToNat, reduceCtorEq, ho, Try.results183, h])))
  all_goals simp_all
theorem sign_int (a b : Int) : (if decide (a < b) then (-1 : Int) else if decide (b < a) then 1 else 0) = cmpI a b := by simp [cmpI]
theorem bytes_cmp : ∀ a b : List UInt8, Lib.compareBytes a b = if Op.bytesLess a b then -1 else if !(Op.bytesLess a b || a == b) then 1 else 0
  | [], [] => rfl
  | [], _ :: _ => rfl
  | _ :: _, [] => rfl
  | x :: a, y :: b => by
    have ih := bytes_cmp a b
    simp only [Lib.compareBytes, Op.bytesLess]
    by_cases h : x < y
    · simp [h]
    · by_cases h2 : y < x
      · have hne : ¬ x = y := by rintro rfl; exact h h2
        simp [h, h2, hne]
      · have he : x = y := by
          rw [UInt8.lt_iff_toNat_lt] at h h2
          exact UInt8.toNat_inj.1 (by omega)
        subst he
        simp [ih]
theorem cmpB_sign (a b : ByteArray) : (if Op.bytesLess a.toList b.toList then (-1 : Int) else if !(Op.bytesLess a.toList b.toList || a.toList == b.toList) then 1 else 0) = cmpB a b := by
  rw [cmpB, ← ByteArray.toList_eq, ← ByteArray.toList_eq, bytes_cmp]
theorem ok152 : okCode M0 Try.f152.ntmps (Try.f152.body.getD .skip) = true := by decide +kernel
theorem rcmp_fn (a b : Vl) : Fc 152 [a.enc, b.enc] (.int .i64 (a.cmp b)) := by
  have h3 := cmpB_sign a.text b.text
  rw [toList_beq] at h3
  refine fn_of_awp (E := E0) (M := M0) follows Try.func152 rfl (by decide) ok152 (by decide) (by simp) fun o ho => ?_
  simp only [go_sem, Nat.reduceEqDiff, Nat.reduceAdd, Nat.reduceSub, Nat.reduceLeDiff, Nat.reduceLT, Nat.reduceMul, Nat.reduceBEq, Int.reduceEq, Int.reduceLT, Int.reduceLE, Int.reduceNeg, Int.reduceToNat, reduceCtorEq, ho, Try.results152, Vl.enc]
  by_cases hk : a.kind = b.kind
  · have hk' := eq_true hk
    by_cases hi : a.int = b.int
    · simp only [go_sem, Nat.reduceEqDiff, Nat.reduceAdd, Nat.reduceSub, Nat.reduceLeDiff, Nat.reduceLT, Nat.reduceMul, Nat.reduceBEq, Int.reduceEq, Int.reduceLT, Int.reduceLE, Int.reduceNeg, Int.reduceToNat, reduceCtorEq, ho, Try.results152, hk', eq_true hi]
      refine GCall.fr ?_ (sign_fn (Op.bytesLess a.text.toList b.text.toList) (!(Op.bytesLess a.text.toList b.text.toList || decide (a.text = b.text)))) (.inl rfl) ?_; (focus (first | rfl | ((simp only [go_sem, Nat.reduceEqDiff, Nat.reduceAdd, Nat.reduceSub, Nat.reduceLeDiff, Nat.reduceLT, Nat.reduceMul, Nat.reduceBEq, Int.reduceEq, Int.reduceLT, Int.reduceLE, Int.reduceNeg, Int.reduceToNat, reduceCtorEq, ho, Try.results152]); done) | ((simp only [go_sem, Nat.reduceEqDiff, Nat.reduceAdd, Nat.reduceSub, Nat.reduceLeDiff, Nat.reduceLT, Nat.reduceMul, Nat.reduceBEq, Int.reduceEq, Int.reduceLT, Int.reduceLE, Int.reduceNeg, Int.reduceToNat, reduceCtorEq, ho, Try.results152]); rfl)))
      simp only [go_sem, Nat.reduceEqDiff, Nat.reduceAdd, Nat.reduceSub, Nat.reduceLeDiff, Nat.reduceLT, Nat.reduceMul, Nat.reduceBEq, Int.reduceEq, Int.reduceLT, Int.reduceLE, Int.reduceNeg, Int.reduceToNat, reduceCtorEq, ho, Try.results152]
      rw [h3]
      simp [Vl.cmp, hk, hi, cmpI]
    · simp only [go_sem, Nat.reduceEqDiff, Nat.reduceAdd, Nat.reduceSub, Nat.reduceLeDiff, Nat.reduceLT, Nat.reduceMul, Nat.reduceBEq, Int.reduceEq, Int.reduceLT, Int.reduceLE, Int.reduceNeg, Int.reduceToNat, reduceCtorEq, ho, Try.results152, hk', hi]
      refine GCall.fr ?_ (sign_fn (decide (a.int < b.int)) (decide (b.int < a.int))) (.inl rfl) ?_; (focus (first | rfl | ((simp only [go_sem, Nat.reduceEqDiff, Nat.reduceAdd, Nat.reduceSub, Nat.reduceLeDiff, Nat.reduceLT, Nat.reduceMul, Nat.reduceBEq, Int.reduceEq, Int.reduceLT, Int.reduceLE, Int.reduceNeg, Int.reduceToNat, reduceCtorEq, ho, Try.results152]); done) | ((simp only [go_sem, Nat.reduceEqDiff, Nat.reduceAdd, Nat.reduceSub, Nat.reduceLeDiff, Nat.reduceLT, Nat.reduceMul, Nat.reduceBEq, Int.reduceEq, Int.reduceLT, Int.reduceLE, Int.reduceNeg, Int.reduceToNat, reduceCtorEq, ho, Try.results152]); rfl)))
      simp only [go_sem, Nat.reduceEqDiff, Nat.reduceAdd, Nat.reduceSub, Nat.reduceLeDiff, Nat.reduceLT, Nat.reduceMul, Nat.reduceBEq, Int.reduceEq, Int.reduceLT, Int.reduceLE, Int.reduceNeg, Int.reduceToNat, reduceCtorEq, ho, Try.results152]
      rw [sign_int]
      have h0 : cmpI a.int b.int ≠ 0 := by unfold cmpI; (repeat' split) <;> omega
      have h1 : cmpI a.kind b.kind = 0 := by rw [hk]; simp [cmpI]
      simp [Vl.cmp, h0, h1]
  · simp only [go_sem, Nat.reduceEqDiff, Nat.reduceAdd, Nat.reduceSub, Nat.reduceLeDiff, Nat.reduceLT, Nat.reduceMul, Nat.reduceBEq, Int.reduceEq, Int.reduceLT, Int.reduceLE, Int.reduceNeg, Int.reduceToNat, reduceCtorEq, ho, Try.results152, hk]
    refine GCall.fr ?_ (sign_fn (decide (a.kind < b.kind)) (decide (b.kind < a.kind))) (.inl rfl) ?_; (focus (first | rfl | ((simp only [go_sem, Nat.reduceEqDiff, Nat.reduceAdd, Nat.reduceSub, Nat.reduceLeDiff, Nat.reduceLT, Nat.reduceMul, Nat.reduceBEq, Int.reduceEq, Int.reduceLT, Int.reduceLE, Int.reduceNeg, Int.reduceToNat, reduceCtorEq, ho, Try.results152]); done) | ((simp only [go_sem, Nat.reduceEqDiff, Nat.reduceAdd, Nat.reduceSub, Nat.reduceLeDiff, Nat.reduceLT, Nat.reduceMul, Nat.reduceBEq, Int.reduceEq, Int.reduceLT, Int.reduceLE, Int.reduceNeg, Int.reduceToNat, reduceCtorEq, ho, Try.results152]); rfl)))
    simp only [go_sem, Nat.reduceEqDiff, Nat.reduceAdd, Nat.reduceSub, Nat.reduceLeDiff, Nat.reduceLT, Nat.reduceMul, Nat.reduceBEq, Int.reduceEq, Int.reduceLT, Int.reduceLE, Int.reduceNeg, Int.reduceToNat, reduceCtorEq, ho, Try.results152]
    rw [sign_int]
    have h0 : cmpI a.kind b.kind ≠ 0 := by unfold cmpI; (repeat' split) <;> omega
    simp [Vl.cmp, h0]
theorem ok193 : okCode M0 Try.f193.ntmps (Try.f193.body.getD .skip) = true := by decide +kernel
theorem rdec_fn (a b : Vl) (is : Bool) : Fc 193 [a.enc, b.enc, .bool is] (.int .i64 (Vl.dec a b is)) := by
  refine fn_of_awp (E := E0) (M := M0) follows Try.func193 rfl (by decide) ok193 (by decide) (by simp) fun o ho => ?_
  simp only [go_sem, Nat.reduceEqDiff, Nat.reduceAdd, Nat.reduceSub, Nat.reduceLeDiff, Nat.reduceLT, Nat.reduceMul, Nat.reduceBEq, Int.reduceEq, Int.reduceLT, Int.reduceLE, Int.reduceNeg, Int.reduceToNat, reduceCtorEq, ho, Try.results193, Vl.enc]
  repeat' (first | (refine AIf_cases (fun h => ?_) (fun h => ?_) <;> (try simp only [decide_eq_true_eq, decide_eq_false_iff_not, Bool.not_eq_true', Bool.not_eq_false', Bool.not_eq_true, Bool.not_eq_false] at h) <;> (try simp only [go_sem, Nat.reduceEqDiff, Nat.reduceAdd, Nat.reduceSub, Nat.reduceLeDiff, Nat.reduceLT, Nat.reduceMul, Nat.reduceBEq, Int.reduceEq, Int.reduceLT, Int.reduceLE, Int.reduceNeg, Int.reduceToNat, reduceCtorEq, ho, Try.results193, h])))
  all_goals (first | (simp_all [Vl.dec]; done) | (simp_all [Vl.dec]; omega) | (simp_all [Vl.dec]; intros; omega) | (simp_all [Vl.dec]; (repeat' split) <;> (first | (simp_all; done) | (simp_all; omega) | omega)))
theorem ok170 : okCode M0 Try.f170.ntmps (Try.f170.body.getD .skip) = true := by decide +kernel
theorem reql_fn (a b : Vl) : Fc 170 [a.enc, b.enc] (.int .i64 (a.eql b)) := by
  refine fn_of_awp (E := E0) (M := M0) follows Try.func170 rfl (by decide) ok170 (by decide) (by simp) fun o ho => ?_
  simp only [go_sem, Nat.reduceEqDiff, Nat.reduceAdd, Nat.reduceSub, Nat.reduceLeDiff, Nat.reduceLT, Nat.reduceMul, Nat.reduceBEq, Int.reduceEq, Int.reduceLT, Int.reduceLE, Int.reduceNeg, Int.reduceToNat, reduceCtorEq, ho, Try.results170, Vl.enc]
  refine QCall.fr ?_ (rcmp_fn a b) (.inl rfl) ?_; (focus (first | rfl | ((simp only [go_sem, Nat.reduceEqDiff, Nat.reduceAdd, Nat.reduceSub, Nat.reduceLeDiff, Nat.reduceLT, Nat.reduceMul, Nat.reduceBEq, Int.reduceEq, Int.reduceLT, Int.reduceLE, Int.reduceNeg, Int.reduceToNat, reduceCtorEq, ho, Try.results170, Vl.enc]); done) | ((simp only [go_sem, Nat.reduceEqDiff, Nat.reduceAdd, Nat.reduceSub, Nat.reduceLeDiff, Nat.reduceLT, Nat.reduceMul, Nat.reduceBEq, Int.reduceEq, Int.reduceLT, Int.reduceLE, Int.reduceNeg, Int.reduceToNat, reduceCtorEq, ho, Try.results170, Vl.enc]); rfl)))
  simp only [go_sem, Nat.reduceEqDiff, Nat.reduceAdd, Nat.reduceSub, Nat.reduceLeDiff, Nat.reduceLT, Nat.reduceMul, Nat.reduceBEq, Int.reduceEq, Int.reduceLT, Int.reduceLE, Int.reduceNeg, Int.reduceToNat, reduceCtorEq, ho, Try.results170]
  refine QCall.fr ?_ (rdec_fn a b (decide (a.cmp b = 0))) (.inl rfl) ?_; (focus (first | rfl | ((simp only [go_sem, Nat.reduceEqDiff, Nat.reduceAdd, Nat.reduceSub, Nat.reduceLeDiff, Nat.reduceLT, Nat.reduceMul, Nat.reduceBEq, Int.reduceEq, Int.reduceLT, Int.reduceLE, Int.reduceNeg, Int.reduceToNat, reduceCtorEq, ho, Try.results170, Vl.enc]); done) | ((simp only [go_sem, Nat.reduceEqDiff, Nat.reduceAdd, Nat.reduceSub, Nat.reduceLeDiff, Nat.reduceLT, Nat.reduceMul, Nat.reduceBEq, Int.reduceEq, Int.reduceLT, Int.reduceLE, Int.reduceNeg, Int.reduceToNat, reduceCtorEq, ho, Try.results170, Vl.enc]); rfl)))
  simp only [go_sem, Nat.reduceEqDiff, Nat.reduceAdd, Nat.reduceSub, Nat.reduceLeDiff, Nat.reduceLT, Nat.reduceMul, Nat.reduceBEq, Int.reduceEq, Int.reduceLT, Int.reduceLE, Int.reduceNeg, Int.reduceToNat, reduceCtorEq, ho, Try.results170, Vl.eql]
theorem ok171 : okCode M0 Try.f171.ntmps (Try.f171.body.getD .skip) = true := by decide +kernel
theorem rless_fn (a b : Vl) : Fc 171 [a.enc, b.enc] (.int .i64 (a.less b)) := by
  refine fn_of_awp (E := E0) (M := M0) follows Try.func171 rfl (by decide) ok171 (by decide) (by simp) fun o ho => ?_
  simp only [go_sem, Nat.reduceEqDiff, Nat.reduceAdd, Nat.reduceSub, Nat.reduceLeDiff, Nat.reduceLT, Nat.reduceMul, Nat.reduceBEq, Int.reduceEq, Int.reduceLT, Int.reduceLE, Int.reduceNeg, Int.reduceToNat, reduceCtorEq, ho, Try.results171, Vl.enc]
  refine QCall.fr ?_ (rcmp_fn a b) (.inl rfl) ?_; (focus (first | rfl | ((simp only [go_sem, Nat.reduceEqDiff, Nat.reduceAdd, Nat.reduceSub, Nat.reduceLeDiff, Nat.reduceLT, Nat.reduceMul, Nat.reduceBEq, Int.reduceEq, Int.reduceLT, Int.reduceLE, Int.reduceNeg, Int.reduceToNat, reduceCtorEq, ho, Try.results171, Vl.enc]); done) | ((simp only [go_sem, Nat.reduceEqDiff, Nat.reduceAdd, Nat.reduceSub, Nat.reduceLeDiff, Nat.reduceLT, Nat.reduceMul, Nat.reduceBEq, Int.reduceEq, Int.reduceLT, Int.reduceLE, Int.reduceNeg, Int.reduceToNat, reduceCtorEq, ho, Try.results171, Vl.enc]); rfl)))
  simp only [go_sem, Nat.reduceEqDiff, Nat.reduceAdd, Nat.reduceSub, Nat.reduceLeDiff, Nat.reduceLT, Nat.reduceMul, Nat.reduceBEq, Int.reduceEq, Int.reduceLT, Int.reduceLE, Int.reduceNeg, Int.reduceToNat, reduceCtorEq, ho, Try.results171]
  refine QCall.fr ?_ (rdec_fn a b (decide (a.cmp b < 0))) (.inl rfl) ?_; (focus (first | rfl | ((simp only [go_sem, Nat.reduceEqDiff, Nat.reduceAdd, Nat.reduceSub, Nat.reduceLeDiff, Nat.reduceLT, Nat.reduceMul, Nat.reduceBEq, Int.reduceEq, Int.reduceLT, Int.reduceLE, Int.reduceNeg, Int.reduceToNat, reduceCtorEq, ho, Try.results171, Vl.enc]); done) | ((simp only [go_sem, Nat.reduceEqDiff, Nat.reduceAdd, Nat.reduceSub, Nat.reduceLeDiff, Nat.reduceLT, Nat.reduceMul, Nat.reduceBEq, Int.reduceEq, Int.reduceLT, Int.reduceLE, Int.reduceNeg, Int.reduceToNat, reduceCtorEq, ho, Try.results171, Vl.enc]); rfl)))
  simp only [go_sem, Nat.reduceEqDiff, Nat.reduceAdd, Nat.reduceSub, Nat.reduceLeDiff, Nat.reduceLT, Nat.reduceMul, Nat.reduceBEq, Int.reduceEq, Int.reduceLT, Int.reduceLE, Int.reduceNeg, Int.reduceToNat, reduceCtorEq, ho, Try.results171, Vl.less]
end Go.Proofs.Ytiefnninebilbaa
