/- The value of an accepted expression for a row that fits has the kind that the checking returns, or is a null; no condition. -/
import Derived.Test.YtiefnninebilbaaMf
import Derived.Test.YtiefnninebilbaaMl
set_option maxRecDepth 100000
set_option linter.unusedVariables false
set_option linter.unusedSimpArgs false
namespace Go.Proofs.Ytiefnninebilbaa
open Go Go.Sx

def fitsRow : List Vl → List Int → Bool
  | [], [] => true
  | v :: row, k :: kinds => v.valid && (decide (v.kind = 0) || decide (v.kind = k)) && fitsRow row kinds
  | _, _ => false
theorem fitsRow_len : ∀ {row : List Vl} {kinds : List Int}, fitsRow row kinds = true → row.length = kinds.length
  | [], [], _ => rfl
  | v :: row, k :: kinds, h => by
    simp only [fitsRow, Bool.and_eq_true] at h
    simp [fitsRow_len h.2]
  | [], _ :: _, h => by simp [fitsRow] at h
  | _ :: _, [], h => by simp [fitsRow] at h
theorem fitsRow_at : ∀ {row : List Vl} {kinds : List Int} (i : Nat), fitsRow row kinds = true → i < row.length → (row[i]?.getD Vl.null).valid = true ∧ ((row[i]?.getD Vl.null).kind = 0 ∨ (row[i]?.getD Vl.null).kind = kinds[i]?.getD 0)
  | v :: row, k :: kinds, 0, h, _ => by
    simp only [fitsRow, Bool.and_eq_true, Bool.or_eq_true, decide_eq_true_eq] at h
    simpa using h.1
  | v :: row, k :: kinds, i + 1, h, hi => by
    simp only [fitsRow, Bool.and_eq_true] at h
    simpa using fitsRow_at i h.2 (by simpa using hi)
  | [], [], i, _, hi => by simp at hi
  | [], _ :: _, i, h, _ => by simp [fitsRow] at h
  | _ :: _, [], i, h, _ => by simp [fitsRow] at h
def KindIs (v : Vl) (k : Int) : Prop := v.kind = k ∨ v.kind = 0
theorem null_kind : Vl.null.kind = 0 := rfl
theorem orNull_kind (v : Vl) : KindIs v.orNull v.kind := by
  unfold Vl.orNull KindIs
  split
  · exact .inl rfl
  · exact .inr rfl
theorem bool_kind (b : Bool) : (Vl.bool b).kind = 3 := rfl
theorem of_kind (t : Int) : KindIs (Vl.of t) 3 := by
  unfold Vl.of KindIs
  split
  · exact .inr rfl
  · exact .inl rfl
theorem num_kind (n : Int) : KindIs (Vl.num n) 1 := orNull_kind _
theorem txt_kind (s : ByteArray) : KindIs (Vl.txt s) 2 := orNull_kind _
theorem kind_null (k : Int) : KindIs Vl.null k := .inr rfl
inductive Kinds : List Vl → List Int → Prop where
  | nil : Kinds [] []
  | cons {v : Vl} {k : Int} {l : List Vl} {ks : List Int} : KindIs v k → Kinds l ks → Kinds (v :: l) (k :: ks)
theorem Kinds.nth : ∀ {l : List Vl} {ks : List Int}, Kinds l ks → ∀ i : Nat, i < l.length → ∃ k, ks[i]? = some k ∧ KindIs (nth l i) k
  | _, _, .cons h _, 0, _ => ⟨_, rfl, h⟩
  | _, _, .cons (l := l) _ h, i + 1, hi => by simpa [Go.Proofs.Ytiefnninebilbaa.nth] using Kinds.nth h i (by simpa using hi)
  | _, _, .nil, i, hi => by simp at hi
theorem Kinds.len : ∀ {l : List Vl} {ks : List Int}, Kinds l ks → l.length = ks.length
  | _, _, .nil => rfl
  | _, _, .cons _ h => by simp [Kinds.len h]
theorem unite_fit : ∀ (ks : List Int) (k0 k : Int), unite ks k0 = (k, true) → (k0 ≠ 0 → k = k0) ∧ ∀ x ∈ ks, x = 0 ∨ x = k
  | [], k0, k, h => by
    simp [unite] at h
    exact ⟨fun _ => h.symm, fun x hx => by simp at hx⟩
  | x :: ks, k0, k, h => by
    by_cases hx : x = 0
    · simp only [unite, hx, if_true] at h
      obtain ⟨h1, h2⟩ := unite_fit ks k0 k h
      exact ⟨h1, fun y hy => by
        rcases List.mem_cons.1 hy with rfl | hy
        · exact .inl hx
        · exact h2 y hy⟩
    · simp only [unite, hx, if_false] at h
      split at h
      · cases h
      · rename_i hc
        obtain ⟨h1, h2⟩ := unite_fit ks x k h
        have hk := h1 hx
        refine ⟨fun h0 => ?_, fun y hy => ?_⟩
        · by_cases e : k0 = x
          · rw [e, hk]
          · exact absurd ⟨h0, e⟩ hc
        · rcases List.mem_cons.1 hy with rfl | hy
          · exact .inr hk.symm
          · exact h2 y hy
theorem firstV_kind {k : Int} : ∀ {l : List Vl} {ks : List Int}, Kinds l ks → (∀ x ∈ ks, x = 0 ∨ x = k) → KindIs (firstV l) k
  | _, _, .nil, _ => .inr rfl
  | _, _, .cons (v := v) (k := x) h hr, hk => by
    unfold firstV
    split
    · rename_i hv
      rcases h with h | h
      · rcases hk x (by simp) with h0 | h0
        · rw [h0] at h; exact absurd h hv
        · exact .inl (h.trans h0)
      · exact absurd h hv
    · exact firstV_kind hr fun y hy => hk y (by simp [hy])
theorem checks_kinds {kinds : List Int} {row : List Vl} : ∀ (l : List Ex) (acc : List Int) (ks : List Int), (∀ x ∈ l, (x.check kinds).2 = 0 → KindIs (x.eval row) (x.check kinds).1) → Ex.checks kinds l acc = (0, ks) →
    ∃ ks', ks = acc ++ ks' ∧ Kinds (l.map (Ex.eval row)) ks'
  | [], acc, ks, _, h => by
    simp [Ex.checks] at h
    exact ⟨[], by simp [h], .nil⟩
  | x :: l, acc, ks, hx, h => by
    rw [Ex.checks] at h
    split at h
    · rename_i hne
      exact absurd (congrArg Prod.fst h) hne
    · rename_i he
      have he' : (x.check kinds).2 = 0 := by simpa using he
      obtain ⟨ks', rfl, hk⟩ := checks_kinds l _ ks (fun y hy => hx y (by simp [hy])) h
      exact ⟨(x.check kinds).1 :: ks', by simp, .cons (hx x (by simp) he') hk⟩
theorem KindIs.of_le {v : Vl} {x k : Int} (h : KindIs v x) (hx : x = 0 ∨ x = k) : KindIs v k := by
  rcases h with h | h
  · rcases hx with rfl | rfl
    · exact .inr h
    · exact .inl h
  · exact .inr h
theorem evalOp_kind {row : List Vl} {op int : Int} {v : Vl} {l : List Vl} {ks : List Int} {k : Int} (h2 : op ≠ 2) (hl : fitsN op l.length = true) (hk : Kinds l ks) (hr : resultK op v.kind ks = (k, true)) : KindIs (evalOp row op int v l) k := by
  have hlen := hk.len
  unfold evalOp
  unfold resultK at hr
  by_cases h1 : op = 1
  · simp only [h1, if_true] at hr ⊢
    exact .inl (by simpa using congrArg Prod.fst hr)
  rw [if_neg h1] at hr ⊢
  rw [if_neg h2]
  by_cases h22 : op = 22
  · have e3 : l.length = 3 := by
      subst h22
      have : (l.length : Int) = 3 := by simpa [fitsN] using hl
      omega
    subst h22
    simp only [if_true] at hr ⊢
    rw [if_neg (by decide), if_neg (by decide), if_neg (by decide), if_neg (by decide), if_neg (by decide)] at hr
    simp only [Prod.mk.injEq, Bool.and_eq_true] at hr
    obtain ⟨hr1, hr2, _⟩ := hr
    obtain ⟨_, hu⟩ := unite_fit (ks.drop 1) 0 k (Prod.ext hr1 hr2)
    obtain ⟨k1, e1, n1⟩ := hk.nth 1 (by omega)
    obtain ⟨k2, e2, n2⟩ := hk.nth 2 (by omega)
    split
    · exact n1.of_le (hu k1 (List.mem_of_getElem? (i := 0) (by simpa using e1)))
    · exact n2.of_le (hu k2 (List.mem_of_getElem? (i := 1) (by simpa using e2)))
  rw [if_neg h22]
  by_cases h4 : op = 4 ∨ op = 5 ∨ op = 6
  · rw [if_pos h4] at hr ⊢
    have : k = 3 := by simpa using (congrArg Prod.fst hr).symm
    subst this
    unfold logicV
    (repeat' split) <;> exact of_kind _
  rw [if_neg h4] at hr ⊢
  by_cases h7 : op = 7 ∨ op = 8 ∨ op = 9 ∨ op = 10 ∨ op = 11 ∨ op = 12
  · rw [if_pos h7] at hr
    have : k = 3 := by simpa using (congrArg Prod.fst hr).symm
    subst this
    rw [if_neg (by omega), if_neg (by omega), if_neg (by omega), if_neg (by omega), if_neg (by omega)]
    exact of_kind _
  rw [if_neg h7] at hr
  by_cases h21 : op = 21
  · rw [if_pos h21]
    rw [if_neg (by omega), if_neg (by omega), if_pos h21] at hr
    have : k = 3 := by simpa using (congrArg Prod.fst hr).symm
    subst this
    exact .inl rfl
  rw [if_neg h21]
  by_cases h23 : op = 23
  · rw [if_pos h23]
    rw [if_neg (by omega), if_neg (by omega), if_neg (by omega), if_neg (by omega), if_pos h23] at hr
    exact firstV_kind hk (unite_fit ks 0 k hr).2
  rw [if_neg h23]
  by_cases h24 : op = 24
  · rw [if_pos h24]
    rw [if_neg (by omega), if_neg (by omega), if_neg (by omega), if_neg (by omega), if_neg (by omega), if_pos h24] at hr
    have : k = 3 := by simpa using (congrArg Prod.fst hr).symm
    subst this
    unfold related
    split
    · exact .inl rfl
    · exact .inr rfl
  rw [if_neg h24]
  by_cases h19 : op = 19
  · rw [if_pos (.inl h19)]
    rw [if_pos h19] at hr
    have : k = 2 := by simpa using (congrArg Prod.fst hr).symm
    subst this
    unfold textV
    split
    · first | exact txt_kind _ | (rw [if_neg (by omega)]; exact txt_kind _)
    · exact .inr rfl
  rw [if_neg h19] at hr
  by_cases h20 : op = 20
  · rw [if_pos (.inr h20)]
    rw [if_pos h20] at hr
    have : k = 1 := by simpa using (congrArg Prod.fst hr).symm
    subst this
    unfold textV
    split
    · first | exact num_kind _ | (rw [if_pos h20]; exact num_kind _)
    · exact .inr rfl
  rw [if_neg (by omega)]
  rw [if_neg h20, if_neg h21, if_neg h22, if_neg h23, if_neg h24] at hr
  have : k = 1 := by simpa using (congrArg Prod.fst hr).symm
  subst this
  split
  · unfold arith computed product
    (repeat' split) <;> first | exact .inr rfl | exact num_kind _
  · rename_i hne
    exfalso
    unfold fitsN at hl
    repeat (first | rw [if_neg (by omega)] at hl | (rw [if_pos (by omega)] at hl; omega))
    simp at hl
theorem check_kind {kinds : List Int} {row : List Vl} (hfit : fitsRow row kinds = true) (e : Ex) : (e.check kinds).2 = 0 → KindIs (e.eval row) (e.check kinds).1 := by
  induction e using Ex.ind with
  | h e ih =>
    intro hc
    rw [Ex.eval_eq]
    rw [Ex.check_eq] at hc ⊢
    by_cases hk : known e.op = false
    · rw [if_pos hk] at hc; simp at hc
    rw [if_neg hk] at hc ⊢
    by_cases hf : e.formed = false
    · rw [if_pos hf] at hc; simp at hc
    rw [if_neg hf] at hc ⊢
    have hf' : e.formed = true := by simpa using hf
    rw [if_pos hf']
    by_cases h2 : e.op = 2
    · rw [if_pos h2] at hc ⊢
      by_cases hi : e.int < 0 ∨ (kinds.length : Int) ≤ e.int
      · rw [if_pos hi] at hc; simp at hc
      rw [if_neg hi]
      have hlen := fitsRow_len hfit
      have hi' : ¬ (e.int < 0 ∨ (row.length : Int) ≤ e.int) := by omega
      obtain ⟨hv, hkd⟩ := fitsRow_at e.int.toNat hfit (by omega)
      simp only [evalOp, h2, if_true]
      rw [if_neg (by decide)]
      unfold column Vl.at
      rw [if_neg hi']
      unfold Vl.orNull
      rw [if_pos hv]
      exact hkd.symm
    rw [if_neg h2] at hc ⊢
    by_cases h0 : (Ex.checks kinds e.args []).1 ≠ 0
    · rw [if_pos h0] at hc; exact absurd hc h0
    rw [if_neg h0] at hc ⊢
    have h0' : (Ex.checks kinds e.args []).1 = 0 := by simpa using h0
    obtain ⟨ks, hks, hkk⟩ := checks_kinds (row := row) e.args [] (Ex.checks kinds e.args []).2 ih (Prod.ext h0' rfl)
    rw [List.nil_append] at hks
    rw [hks] at hc ⊢
    by_cases hr : (resultK e.op e.val.kind ks).2 = true
    · rw [if_pos hr]
      exact evalOp_kind h2 (by rw [List.length_map]; exact formed_len hf') hkk (Prod.ext rfl hr)
    · rw [if_neg hr] at hc; simp at hc
end Go.Proofs.Ytiefnninebilbaa
/- The law's function on the kinds of expressions returns true; no condition. -/
set_option maxRecDepth 100000
set_option linter.unusedVariables false
set_option linter.unusedSimpArgs false
namespace Go.Proofs.Ytiefnninebilbaa
open Go Go.Sx

theorem ok28 : okCode M0 Try.f28.ntmps (Try.f28.body.getD .skip) = true := by decide +kernel
theorem fits_fn (row : List Vl) (kinds : List Int) (hl : row.length ≤ 1000000000) : Fc 28 [.sl (row.map Vl.enc), .sl (kinds.map (.int .i64))] (.bool (fitsRow row kinds)) := by
  refine fn_of_awp (E := E0) (M := M0) follows Try.func28 rfl (by decide) ok28 (by decide) (by simp) fun o ho => ?_
  simp only [go_sem, Nat.reduceEqDiff, Nat.reduceAdd, Nat.reduceSub, Nat.reduceLeDiff, Nat.reduceLT, Nat.reduceMul, Nat.reduceBEq, Int.reduceEq, Int.reduceLT, Int.reduceLE, Int.reduceNeg, Int.reduceToNat, reduceCtorEq, ho, Try.results28, List.length_map]
  by_cases hlen : row.length = kinds.length
  · have hlen' : (row.length : Int) = (kinds.length : Int) := by omega
    simp only [go_sem, Nat.reduceEqDiff, Nat.reduceAdd, Nat.reduceSub, Nat.reduceLeDiff, Nat.reduceLT, Nat.reduceMul, Nat.reduceBEq, Int.reduceEq, Int.reduceLT, Int.reduceLE, Int.reduceNeg, Int.reduceToNat, reduceCtorEq, ho, Try.results28, hlen']
    refine ⟨fun n st => ∃ (d1 r1 : List Vl) (d2 r2 : List Int), row = d1 ++ r1 ∧ kinds = d2 ++ r2 ∧ d1.length = d2.length ∧ r1.length = n ∧ fitsRow r1 r2 = fitsRow row kinds ∧ st.s 5 = .int .i64 d1.length ∧ st.s 0 = .sl (row.map Vl.enc) ∧ st.s 1 = .sl (kinds.map (.int .i64)), row.length,
      ⟨[], row, [], kinds, rfl, rfl, rfl, rfl, rfl, by simp only [go_sem, Nat.reduceEqDiff, Nat.reduceAdd, Nat.reduceSub, Nat.reduceLeDiff, Nat.reduceLT, Nat.reduceMul, Nat.reduceBEq, Int.reduceEq, Int.reduceLT, Int.reduceLE, Int.reduceNeg, Int.reduceToNat, reduceCtorEq, ho, Try.results28]; rfl, by simp only [go_sem, Nat.reduceEqDiff, Nat.reduceAdd, Nat.reduceSub, Nat.reduceLeDiff, Nat.reduceLT, Nat.reduceMul, Nat.reduceBEq, Int.reduceEq, Int.reduceLT, Int.reduceLE, Int.reduceNeg, Int.reduceToNat, reduceCtorEq, ho, Try.results28], by simp only [go_sem, Nat.reduceEqDiff, Nat.reduceAdd, Nat.reduceSub, Nat.reduceLeDiff, Nat.reduceLT, Nat.reduceMul, Nat.reduceBEq, Int.reduceEq, Int.reduceLT, Int.reduceLE, Int.reduceNeg, Int.reduceToNat, reduceCtorEq, ho, Try.results28]⟩, ?_⟩
    rintro n st ⟨d1, r1, d2, r2, h1, h2, hd, hn, hf, h5, hs0, hs1⟩
    have hl1 : d1.length + r1.length = row.length := by rw [h1]; simp
    have hl2 : d2.length + r2.length = kinds.length := by rw [h2]; simp
    have hw : IntKind.i64.wrap ((d1.length : Int) + 1) = (d1.length : Int) + 1 := wrap_fits (by omega) (by omega)
    cases r1 with
    | nil =>
      have hlt : ¬ (d1.length : Int) < (row.length : Int) := by simp at hl1; omega
      obtain rfl : r2 = [] := List.eq_nil_of_length_eq_zero (by simp at hl1; omega)
      simp only [go_sem, Nat.reduceEqDiff, Nat.reduceAdd, Nat.reduceSub, Nat.reduceLeDiff, Nat.reduceLT, Nat.reduceMul, Nat.reduceBEq, Int.reduceEq, Int.reduceLT, Int.reduceLE, Int.reduceNeg, Int.reduceToNat, reduceCtorEq, ho, Try.results28, h5, hs0, hlt, List.length_map]
      rw [← hf]; rfl
    | cons v r1 =>
      cases r2 with
      | nil => simp at hl1 hl2; omega
      | cons k r2 =>
        have hlt : (d1.length : Int) < (row.length : Int) := by simp at hl1; omega
        have hget := vals_get h1
        have hget2 : (kinds.map (PV.int .i64))[d1.length]? = some (.int .i64 k) := by rw [hd, h2]; simp
        rw [fitsRow] at hf
        simp only [go_sem, Nat.reduceEqDiff, Nat.reduceAdd, Nat.reduceSub, Nat.reduceLeDiff, Nat.reduceLT, Nat.reduceMul, Nat.reduceBEq, Int.reduceEq, Int.reduceLT, Int.reduceLE, Int.reduceNeg, Int.reduceToNat, reduceCtorEq, ho, Try.results28, h5, hs0, hs1, hlt, List.length_map, hget, hget2, Int.natCast_nonneg, Int.toNat_natCast]
        refine QCall.fr ?_ (rvalid_fn v) (.inl rfl) ?_; (focus (first | rfl | ((simp only [go_sem, Nat.reduceEqDiff, Nat.reduceAdd, Nat.reduceSub, Nat.reduceLeDiff, Nat.reduceLT, Nat.reduceMul, Nat.reduceBEq, Int.reduceEq, Int.reduceLT, Int.reduceLE, Int.reduceNeg, Int.reduceToNat, reduceCtorEq, ho, Try.results28]); done) | ((simp only [go_sem, Nat.reduceEqDiff, Nat.reduceAdd, Nat.reduceSub, Nat.reduceLeDiff, Nat.reduceLT, Nat.reduceMul, Nat.reduceBEq, Int.reduceEq, Int.reduceLT, Int.reduceLE, Int.reduceNeg, Int.reduceToNat, reduceCtorEq, ho, Try.results28]); rfl)))
        simp only [go_sem, Nat.reduceEqDiff, Nat.reduceAdd, Nat.reduceSub, Nat.reduceLeDiff, Nat.reduceLT, Nat.reduceMul, Nat.reduceBEq, Int.reduceEq, Int.reduceLT, Int.reduceLE, Int.reduceNeg, Int.reduceToNat, reduceCtorEq, ho, Try.results28, h5, hs0, hs1, hget, hget2, Int.natCast_nonneg, Int.toNat_natCast, Vl.enc]
        have next : v.valid = true → (v.kind = 0 ∨ v.kind = k) → ∃ m, m < n ∧ ∃ (d1' r1 : List Vl) (d2 r2 : List Int), row = d1' ++ r1 ∧ kinds = d2 ++ r2 ∧ d1'.length = d2.length ∧ r1.length = m ∧ fitsRow r1 r2 = fitsRow row kinds ∧ ((d1.length : Int) + 1 = (d1'.length : Int)) := fun hv hk => ⟨r1.length, by simp at hn; omega, d1 ++ [v], r1, d2 ++ [k], r2, by simp [h1], by simp [h2], by simp [hd], rfl, by rw [← hf]; rcases hk with hk | hk <;> simp [hv, hk], by simp⟩
        repeat' (first | (refine AIf_cases (fun h => ?_) (fun h => ?_) <;> (try simp only [decide_eq_true_eq, decide_eq_false_iff_not, Bool.not_eq_true', Bool.not_eq_false', Bool.not_eq_true, Bool.not_eq_false] at h) <;> (try simp only [go_sem, Nat.reduceEqDiff, Nat.reduceAdd, Nat.reduceSub, Nat.reduceLeDiff, Nat.reduceLT, Nat.reduceMul, Nat.reduceBEq, Int.reduceEq, Int.reduceLT, Int.reduceLE, Int.reduceNeg, Int.reduceToNat, reduceCtorEq, ho, Try.results28, h, h5, hs0, hs1, hget, hget2, hw, Int.natCast_nonneg, Int.toNat_natCast, Vl.enc])))
        all_goals (first | exact next ‹_› (.inl ‹_›) | exact next ‹_› (.inr ‹_›) | (rw [← hf]; simp [*]))
  · have hlen' : ¬ (row.length : Int) = (kinds.length : Int) := by omega
    simp only [go_sem, Nat.reduceEqDiff, Nat.reduceAdd, Nat.reduceSub, Nat.reduceLeDiff, Nat.reduceLT, Nat.reduceMul, Nat.reduceBEq, Int.reduceEq, Int.reduceLT, Int.reduceLE, Int.reduceNeg, Int.reduceToNat, reduceCtorEq, ho, Try.results28, hlen']
    cases hf : fitsRow row kinds with
    | false => rfl
    | true => exact absurd (fitsRow_len hf) hlen
theorem len_bulk : ∀ l : List Vl, l.length ≤ (l.map Vl.bulk).sum
  | [] => by simp
  | v :: l => by have := len_bulk l; simp [Vl.bulk]; omega
theorem ok10 : okCode M0 Try.f10.ntmps (Try.f10.body.getD .skip) = true := by decide +kernel
theorem exprKinds_fn (e : Ex) (kinds : List Int) (row : List Vl) (h : e.bulk + kinds.length + (row.map Vl.bulk).sum ≤ 1048576) : Fc 10 [e.enc, .sl (kinds.map (.int .i64)), .sl (row.map Vl.enc)] (.bool true) := by
  have hs := e.size_bulk
  have hr := len_bulk row
  refine fn_of_awp (E := E0) (M := M0) follows Try.func10 rfl (by decide) ok10 (by decide) (by simp) fun o ho => ?_
  simp only [go_sem, Nat.reduceEqDiff, Nat.reduceAdd, Nat.reduceSub, Nat.reduceLeDiff, Nat.reduceLT, Nat.reduceMul, Nat.reduceBEq, Int.reduceEq, Int.reduceLT, Int.reduceLE, Int.reduceNeg, Int.reduceToNat, reduceCtorEq, ho, Try.results10, e.enc_eq]
  refine GCall.fr ?_ (checked_fn kinds e (by omega)) (.inl rfl) ?_; (focus (first | rfl | ((simp only [go_sem, Nat.reduceEqDiff, Nat.reduceAdd, Nat.reduceSub, Nat.reduceLeDiff, Nat.reduceLT, Nat.reduceMul, Nat.reduceBEq, Int.reduceEq, Int.reduceLT, Int.reduceLE, Int.reduceNeg, Int.reduceToNat, reduceCtorEq, ho, Try.results10, e.enc_eq]); done) | ((simp only [go_sem, Nat.reduceEqDiff, Nat.reduceAdd, Nat.reduceSub, Nat.reduceLeDiff, Nat.reduceLT, Nat.reduceMul, Nat.reduceBEq, Int.reduceEq, Int.reduceLT, Int.reduceLE, Int.reduceNeg, Int.reduceToNat, reduceCtorEq, ho, Try.results10, e.enc_eq]); rfl)))
  simp only [go_sem, Nat.reduceEqDiff, Nat.reduceAdd, Nat.reduceSub, Nat.reduceLeDiff, Nat.reduceLT, Nat.reduceMul, Nat.reduceBEq, Int.reduceEq, Int.reduceLT, Int.reduceLE, Int.reduceNeg, Int.reduceToNat, reduceCtorEq, ho, Try.results10]
  by_cases hc : (e.checked kinds).2 = 0
  · simp only [go_sem, Nat.reduceEqDiff, Nat.reduceAdd, Nat.reduceSub, Nat.reduceLeDiff, Nat.reduceLT, Nat.reduceMul, Nat.reduceBEq, Int.reduceEq, Int.reduceLT, Int.reduceLE, Int.reduceNeg, Int.reduceToNat, reduceCtorEq, ho, Try.results10, hc]
    refine GCall.fr ?_ (fits_fn row kinds (by omega)) (.inl rfl) ?_; (focus (first | rfl | ((simp only [go_sem, Nat.reduceEqDiff, Nat.reduceAdd, Nat.reduceSub, Nat.reduceLeDiff, Nat.reduceLT, Nat.reduceMul, Nat.reduceBEq, Int.reduceEq, Int.reduceLT, Int.reduceLE, Int.reduceNeg, Int.reduceToNat, reduceCtorEq, ho, Try.results10]); done) | ((simp only [go_sem, Nat.reduceEqDiff, Nat.reduceAdd, Nat.reduceSub, Nat.reduceLeDiff, Nat.reduceLT, Nat.reduceMul, Nat.reduceBEq, Int.reduceEq, Int.reduceLT, Int.reduceLE, Int.reduceNeg, Int.reduceToNat, reduceCtorEq, ho, Try.results10]); rfl)))
    simp only [go_sem, Nat.reduceEqDiff, Nat.reduceAdd, Nat.reduceSub, Nat.reduceLeDiff, Nat.reduceLT, Nat.reduceMul, Nat.reduceBEq, Int.reduceEq, Int.reduceLT, Int.reduceLE, Int.reduceNeg, Int.reduceToNat, reduceCtorEq, ho, Try.results10]
    cases hf : fitsRow row kinds with
    | false =>
      simp only [go_sem, Nat.reduceEqDiff, Nat.reduceAdd, Nat.reduceSub, Nat.reduceLeDiff, Nat.reduceLT, Nat.reduceMul, Nat.reduceBEq, Int.reduceEq, Int.reduceLT, Int.reduceLE, Int.reduceNeg, Int.reduceToNat, reduceCtorEq, ho, Try.results10, hf]
      refine GCall.fr ?_ (awake_fn) (.inl rfl) ?_; (focus (first | rfl | ((simp only [go_sem, Nat.reduceEqDiff, Nat.reduceAdd, Nat.reduceSub, Nat.reduceLeDiff, Nat.reduceLT, Nat.reduceMul, Nat.reduceBEq, Int.reduceEq, Int.reduceLT, Int.reduceLE, Int.reduceNeg, Int.reduceToNat, reduceCtorEq, ho, Try.results10]); done) | ((simp only [go_sem, Nat.reduceEqDiff, Nat.reduceAdd, Nat.reduceSub, Nat.reduceLeDiff, Nat.reduceLT, Nat.reduceMul, Nat.reduceBEq, Int.reduceEq, Int.reduceLT, Int.reduceLE, Int.reduceNeg, Int.reduceToNat, reduceCtorEq, ho, Try.results10]); rfl)))
      simp only [go_sem, Nat.reduceEqDiff, Nat.reduceAdd, Nat.reduceSub, Nat.reduceLeDiff, Nat.reduceLT, Nat.reduceMul, Nat.reduceBEq, Int.reduceEq, Int.reduceLT, Int.reduceLE, Int.reduceNeg, Int.reduceToNat, reduceCtorEq, ho, Try.results10]
    | true =>
      have hck : (e.check kinds).2 = 0 ∧ (e.checked kinds).1 = (e.check kinds).1 := by
        unfold Ex.checked at hc ⊢
        split at hc
        · simp at hc
        · rename_i hd
          rw [if_neg hd]
          exact ⟨hc, rfl⟩
      have hk := check_kind hf e hck.1
      have hv := Ex.eval_valid row e
      rw [← hck.2] at hk
      simp only [go_sem, Nat.reduceEqDiff, Nat.reduceAdd, Nat.reduceSub, Nat.reduceLeDiff, Nat.reduceLT, Nat.reduceMul, Nat.reduceBEq, Int.reduceEq, Int.reduceLT, Int.reduceLE, Int.reduceNeg, Int.reduceToNat, reduceCtorEq, ho, Try.results10, hf, e.enc_eq]
      refine GCall.fr ?_ (evals_fn row e (by omega)) (.inl rfl) ?_; (focus (first | rfl | ((simp only [go_sem, Nat.reduceEqDiff, Nat.reduceAdd, Nat.reduceSub, Nat.reduceLeDiff, Nat.reduceLT, Nat.reduceMul, Nat.reduceBEq, Int.reduceEq, Int.reduceLT, Int.reduceLE, Int.reduceNeg, Int.reduceToNat, reduceCtorEq, ho, Try.results10, e.enc_eq]); done) | ((simp only [go_sem, Nat.reduceEqDiff, Nat.reduceAdd, Nat.reduceSub, Nat.reduceLeDiff, Nat.reduceLT, Nat.reduceMul, Nat.reduceBEq, Int.reduceEq, Int.reduceLT, Int.reduceLE, Int.reduceNeg, Int.reduceToNat, reduceCtorEq, ho, Try.results10, e.enc_eq]); rfl)))
      simp only [go_sem, Nat.reduceEqDiff, Nat.reduceAdd, Nat.reduceSub, Nat.reduceLeDiff, Nat.reduceLT, Nat.reduceMul, Nat.reduceBEq, Int.reduceEq, Int.reduceLT, Int.reduceLE, Int.reduceNeg, Int.reduceToNat, reduceCtorEq, ho, Try.results10, Vl.enc]
      refine GCall.fr ?_ (rvalid_fn (e.eval row)) (.inl rfl) ?_; (focus (first | rfl | ((simp only [go_sem, Nat.reduceEqDiff, Nat.reduceAdd, Nat.reduceSub, Nat.reduceLeDiff, Nat.reduceLT, Nat.reduceMul, Nat.reduceBEq, Int.reduceEq, Int.reduceLT, Int.reduceLE, Int.reduceNeg, Int.reduceToNat, reduceCtorEq, ho, Try.results10]); done) | ((simp only [go_sem, Nat.reduceEqDiff, Nat.reduceAdd, Nat.reduceSub, Nat.reduceLeDiff, Nat.reduceLT, Nat.reduceMul, Nat.reduceBEq, Int.reduceEq, Int.reduceLT, Int.reduceLE, Int.reduceNeg, Int.reduceToNat, reduceCtorEq, ho, Try.results10]); rfl)))
      simp only [go_sem, Nat.reduceEqDiff, Nat.reduceAdd, Nat.reduceSub, Nat.reduceLeDiff, Nat.reduceLT, Nat.reduceMul, Nat.reduceBEq, Int.reduceEq, Int.reduceLT, Int.reduceLE, Int.reduceNeg, Int.reduceToNat, reduceCtorEq, ho, Try.results10, hv]
      rcases hk with hk | hk
      · simp only [go_sem, Nat.reduceEqDiff, Nat.reduceAdd, Nat.reduceSub, Nat.reduceLeDiff, Nat.reduceLT, Nat.reduceMul, Nat.reduceBEq, Int.reduceEq, Int.reduceLT, Int.reduceLE, Int.reduceNeg, Int.reduceToNat, reduceCtorEq, ho, Try.results10, hk]
        refine GCall.fr ?_ (awake_fn) (.inl rfl) ?_; (focus (first | rfl | ((simp only [go_sem, Nat.reduceEqDiff, Nat.reduceAdd, Nat.reduceSub, Nat.reduceLeDiff, Nat.reduceLT, Nat.reduceMul, Nat.reduceBEq, Int.reduceEq, Int.reduceLT, Int.reduceLE, Int.reduceNeg, Int.reduceToNat, reduceCtorEq, ho, Try.results10]); done) | ((simp only [go_sem, Nat.reduceEqDiff, Nat.reduceAdd, Nat.reduceSub, Nat.reduceLeDiff, Nat.reduceLT, Nat.reduceMul, Nat.reduceBEq, Int.reduceEq, Int.reduceLT, Int.reduceLE, Int.reduceNeg, Int.reduceToNat, reduceCtorEq, ho, Try.results10]); rfl)))
        simp only [go_sem, Nat.reduceEqDiff, Nat.reduceAdd, Nat.reduceSub, Nat.reduceLeDiff, Nat.reduceLT, Nat.reduceMul, Nat.reduceBEq, Int.reduceEq, Int.reduceLT, Int.reduceLE, Int.reduceNeg, Int.reduceToNat, reduceCtorEq, ho, Try.results10]
      · by_cases hk2 : (e.eval row).kind = (e.checked kinds).1
        · simp only [go_sem, Nat.reduceEqDiff, Nat.reduceAdd, Nat.reduceSub, Nat.reduceLeDiff, Nat.reduceLT, Nat.reduceMul, Nat.reduceBEq, Int.reduceEq, Int.reduceLT, Int.reduceLE, Int.reduceNeg, Int.reduceToNat, reduceCtorEq, ho, Try.results10, hk2]
          refine GCall.fr ?_ (awake_fn) (.inl rfl) ?_; (focus (first | rfl | ((simp only [go_sem, Nat.reduceEqDiff, Nat.reduceAdd, Nat.reduceSub, Nat.reduceLeDiff, Nat.reduceLT, Nat.reduceMul, Nat.reduceBEq, Int.reduceEq, Int.reduceLT, Int.reduceLE, Int.reduceNeg, Int.reduceToNat, reduceCtorEq, ho, Try.results10]); done) | ((simp only [go_sem, Nat.reduceEqDiff, Nat.reduceAdd, Nat.reduceSub, Nat.reduceLeDiff, Nat.reduceLT, Nat.reduceMul, Nat.reduceBEq, Int.reduceEq, Int.reduceLT, Int.reduceLE, Int.reduceNeg, Int.reduceToNat, reduceCtorEq, ho, Try.results10]); rfl)))
          simp only [go_sem, Nat.reduceEqDiff, Nat.reduceAdd, Nat.reduceSub, Nat.reduceLeDiff, Nat.reduceLT, Nat.reduceMul, Nat.reduceBEq, Int.reduceEq, Int.reduceLT, Int.reduceLE, Int.reduceNeg, Int.reduceToNat, reduceCtorEq, ho, Try.results10]
        · have hk3 : ¬ (0 : Int) = (e.checked kinds).1 := by rw [← hk]; exact hk2
          simp only [go_sem, Nat.reduceEqDiff, Nat.reduceAdd, Nat.reduceSub, Nat.reduceLeDiff, Nat.reduceLT, Nat.reduceMul, Nat.reduceBEq, Int.reduceEq, Int.reduceLT, Int.reduceLE, Int.reduceNeg, Int.reduceToNat, reduceCtorEq, ho, Try.results10, hk, hk3]
          refine GCall.fr ?_ (awake_fn) (.inl rfl) ?_; (focus (first | rfl | ((simp only [go_sem, Nat.reduceEqDiff, Nat.reduceAdd, Nat.reduceSub, Nat.reduceLeDiff, Nat.reduceLT, Nat.reduceMul, Nat.reduceBEq, Int.reduceEq, Int.reduceLT, Int.reduceLE, Int.reduceNeg, Int.reduceToNat, reduceCtorEq, ho, Try.results10]); done) | ((simp only [go_sem, Nat.reduceEqDiff, Nat.reduceAdd, Nat.reduceSub, Nat.reduceLeDiff, Nat.reduceLT, Nat.reduceMul, Nat.reduceBEq, Int.reduceEq, Int.reduceLT, Int.reduceLE, Int.reduceNeg, Int.reduceToNat, reduceCtorEq, ho, Try.results10]); rfl)))
          simp only [go_sem, Nat.reduceEqDiff, Nat.reduceAdd, Nat.reduceSub, Nat.reduceLeDiff, Nat.reduceLT, Nat.reduceMul, Nat.reduceBEq, Int.reduceEq, Int.reduceLT, Int.reduceLE, Int.reduceNeg, Int.reduceToNat, reduceCtorEq, ho, Try.results10]
  · simp only [go_sem, Nat.reduceEqDiff, Nat.reduceAdd, Nat.reduceSub, Nat.reduceLeDiff, Nat.reduceLT, Nat.reduceMul, Nat.reduceBEq, Int.reduceEq, Int.reduceLT, Int.reduceLE, Int.reduceNeg, Int.reduceToNat, reduceCtorEq, ho, Try.results10, hc]
    refine GCall.fr ?_ (awake_fn) (.inl rfl) ?_; (focus (first | rfl | ((simp only [go_sem, Nat.reduceEqDiff, Nat.reduceAdd, Nat.reduceSub, Nat.reduceLeDiff, Nat.reduceLT, Nat.reduceMul, Nat.reduceBEq, Int.reduceEq, Int.reduceLT, Int.reduceLE, Int.reduceNeg, Int.reduceToNat, reduceCtorEq, ho, Try.results10]); done) | ((simp only [go_sem, Nat.reduceEqDiff, Nat.reduceAdd, Nat.reduceSub, Nat.reduceLeDiff, Nat.reduceLT, Nat.reduceMul, Nat.reduceBEq, Int.reduceEq, Int.reduceLT, Int.reduceLE, Int.reduceNeg, Int.reduceToNat, reduceCtorEq, ho, Try.results10]); rfl)))
    simp only [go_sem, Nat.reduceEqDiff, Nat.reduceAdd, Nat.reduceSub, Nat.reduceLeDiff, Nat.reduceLT, Nat.reduceMul, Nat.reduceBEq, Int.reduceEq, Int.reduceLT, Int.reduceLE, Int.reduceNeg, Int.reduceToNat, reduceCtorEq, ho, Try.results10]
end Go.Proofs.Ytiefnninebilbaa
