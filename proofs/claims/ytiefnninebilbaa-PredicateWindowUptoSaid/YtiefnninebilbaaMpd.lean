/- The abstract machine, part 21: '==' at a struct type of plain fields. -/
import Derived.Test.YtiefnninebilbaaMpc
set_option linter.unusedVariables false
set_option linter.unusedSimpArgs false
namespace Go.Sx
open Go Go.RowKit

def shapeFs (P : Program) (sub : TypeId → Option (Bool × List Sc)) : List Field → Nat → Option (List Sc)
  | [], _ => some []
  | f :: fs, off => if f.name ≠ "_" ∧ f.offset = off then
      match sub f.type, P.info? f.type with
      | some (_, sh), some i => if i.size = sh.length then (shapeFs P sub fs (off + sh.length)).map fun r => sh ++ r else none
      | _, _ => none
    else none
/-- A plain type's cells. -/
def shapeOf (P : Program) : Nat → TypeId → Option (Bool × List Sc)
  | 0, _ => none
  | n + 1, T => match P.underlying T with
    | some (.int k) => some (false, [.int k])
    | some .bool => some (false, [.bool])
    | some .string => some (false, [.str])
    | some (.struct fs) => if P.stoodInHeld T = false then (shapeFs P (shapeOf P n) fs.toList 0).map fun sh => (true, sh) else none
    | _ => none
def mkV (b : Bool) (xs : List PV) : Value := if b then .agg (xs.map scVal).toArray else scVal (xs.headD .undef)
theorem fits_len : ∀ {sh : List Sc} {xs : List PV}, fits sh xs = true → xs.length = sh.length
  | [], [], _ => rfl
  | [], _ :: _, h => by simp [fits] at h
  | s :: ss, [], h => by cases s <;> simp [fits] at h
  | s :: ss, x :: xs, h => by
    have : fits ss xs = true := by cases s <;> cases x <;> simp [fits] at h <;> first | exact h.2 | exact h
    simp [fits_len this]
theorem fits_append : ∀ {sh sh' : List Sc} {xs : List PV}, fits (sh ++ sh') xs = true → fits sh (xs.take sh.length) = true ∧ fits sh' (xs.drop sh.length) = true
  | [], sh', xs, h => by simp [fits]; exact h
  | s :: ss, sh', [], h => by cases s <;> simp [fits] at h
  | s :: ss, sh', x :: xs, h => by
    have key : fits (ss ++ sh') xs = true → fits ss (xs.take ss.length) = true ∧ fits sh' (xs.drop ss.length) = true := fits_append
    cases s <;> cases x <;> simp [fits] at h ⊢ <;> first | exact ⟨⟨h.1, (key h.2).1⟩, (key h.2).2⟩ | exact key h
theorem cellsEq_append : ∀ {a b c d : List PV}, a.length = b.length → cellsEq (a ++ c) (b ++ d) = (cellsEq a b && cellsEq c d)
  | [], [], c, d, _ => by simp [cellsEq]
  | x :: a, y :: b, c, d, h => by simp [cellsEq, cellsEq_append (a := a) (b := b) (by simpa using h), Bool.and_assoc]
  | [], _ :: _, c, d, h => by simp at h
  | _ :: _, [], c, d, h => by simp at h
theorem fits1_int {k : IntKind} {xs : List PV} (h : fits [.int k] xs = true) : ∃ a, xs = [.int k a] := by
  cases xs with
  | nil => simp [fits] at h
  | cons x xs =>
    cases x <;> simp [fits] at h
    obtain ⟨rfl, h⟩ := h
    cases xs with
    | nil => exact ⟨_, rfl⟩
    | cons y ys => simp [fits] at h
theorem fits1_bool {xs : List PV} (h : fits [.bool] xs = true) : ∃ a, xs = [.bool a] := by
  cases xs with
  | nil => simp [fits] at h
  | cons x xs =>
    cases x <;> simp [fits] at h
    cases xs with
    | nil => exact ⟨_, rfl⟩
    | cons y ys => simp [fits] at h
theorem fits1_str {xs : List PV} (h : fits [.str] xs = true) : ∃ a, xs = [.str a] := by
  cases xs with
  | nil => simp [fits] at h
  | cons x xs =>
    cases x <;> simp [fits] at h
    cases xs with
    | nil => exact ⟨_, rfl⟩
    | cons y ys => simp [fits] at h
section
variable {P : Program} {w : World}
theorem part_plain {n : Nat} {T : TypeId} {b : Bool} {sh : List Sc} {i : TypeInfo} {xs : List PV} {off : Nat} (h : shapeOf P n T = some (b, sh)) (hi : P.info? T = some i) (hs : i.size = sh.length) (hf : fits sh ((xs.drop off).take sh.length) = true) :
    (part T (xs.map scVal).toArray off).run P w = .ok (mkV b ((xs.drop off).take sh.length)) w := by
  cases n with
  | zero => simp [shapeOf] at h
  | succ n =>
    have hl := fits_len hf
    simp only [List.length_take, List.length_drop] at hl
    simp only [shapeOf] at h
    split at h
    · rename_i k hu
      cases h
      simp only [part, isAgg, Sem.run_bind, run_underlying hu, Result.andThen_ok, Sem.run_pure, Bool.false_eq_true, if_false, mkV]
      have hlt : off < xs.length := by simp at hl; omega
      simp [hlt]
      rw [List.drop_eq_getElem_cons hlt]
      rfl
    · rename_i hu
      cases h
      simp only [part, isAgg, Sem.run_bind, run_underlying hu, Result.andThen_ok, Sem.run_pure, Bool.false_eq_true, if_false, mkV]
      have hlt : off < xs.length := by simp at hl; omega
      simp [hlt]
      rw [List.drop_eq_getElem_cons hlt]
      rfl
    · rename_i hu
      cases h
      simp only [part, isAgg, Sem.run_bind, run_underlying hu, Result.andThen_ok, Sem.run_pure, Bool.false_eq_true, if_false, mkV]
      have hlt : off < xs.length := by simp at hl; omega
      simp [hlt]
      rw [List.drop_eq_getElem_cons hlt]
      rfl
    · rename_i fs hu
      split at h
      · obtain ⟨sh', h1, h2⟩ := Option.map_eq_some_iff.1 h
        cases h2
        simp only [part, isAgg, Sem.run_bind, run_underlying hu, Result.andThen_ok, Sem.run_pure, if_true, mkV, run_sizeOf hi, hs]
        congr 2
        apply Array.ext'
        simp [List.take_drop, List.map_take, List.map_drop]
      · cases h
    · cases h
def EqAt (P : Program) (n : Nat) : Prop := ∀ (d : Nat) {T : TypeId} {b : Bool} {sh : List Sc} {xs ys : List PV}, n ≤ d → shapeOf P n T = some (b, sh) → fits sh xs = true → fits sh ys = true → ∀ w : World, (Op.equalIn d T (mkV b xs) (mkV b ys)).run P w = .ok (cellsEq xs ys) w
theorem eqFields_plain {n d : Nat} (hd : n ≤ d) (ih : EqAt P n) : ∀ (fs : List Field) (off : Nat) {sh : List Sc} {xs ys : List PV}, shapeFs P (shapeOf P n) fs off = some sh → fits sh (xs.drop off) = true → fits sh (ys.drop off) = true → ∀ w : World,
    (Op.eqFields d (xs.map scVal).toArray (ys.map scVal).toArray fs).run P w = .ok (cellsEq (xs.drop off) (ys.drop off)) w
  | [], off, sh, xs, ys, h, hx, hy, w => by
    simp [shapeFs] at h
    subst h
    have h1 := List.eq_nil_of_length_eq_zero (fits_len hx)
    have h2 := List.eq_nil_of_length_eq_zero (fits_len hy)
    rw [h1, h2]
    simp [Op.eqFields, cellsEq]
  | f :: fs, off, sh, xs, ys, h, hx, hy, w => by
    simp only [shapeFs] at h
    split at h
    · rename_i hc
      obtain ⟨hn, rfl⟩ := hc
      split at h
      · rename_i b sh1 i hsh hi
        split at h
        · rename_i hs
          obtain ⟨r, hr, rfl⟩ := Option.map_eq_some_iff.1 h
          obtain ⟨hx1, hx2⟩ := fits_append hx
          obtain ⟨hy1, hy2⟩ := fits_append hy
          rw [List.drop_drop] at hx2 hy2
          have e1 : xs.drop f.offset = (xs.drop f.offset).take sh1.length ++ xs.drop (f.offset + sh1.length) := by
            rw [← List.drop_drop]; exact (List.take_append_drop _ _).symm
          have e2 : ys.drop f.offset = (ys.drop f.offset).take sh1.length ++ ys.drop (f.offset + sh1.length) := by
            rw [← List.drop_drop]; exact (List.take_append_drop _ _).symm
          have hrest := eqFields_plain hd ih fs (f.offset + sh1.length) hr hx2 hy2 w
          have heq := ih d hd hsh hx1 hy1 w
          rw [Op.eqFields]
          simp only [if_pos hn, Sem.run_bind, part_plain hsh hi hs hx1, part_plain hsh hi hs hy1, heq, Result.andThen_ok]
          rw [e1, e2, cellsEq_append (by rw [fits_len hx1, fits_len hy1]), ← e1, ← e2]
          cases hq : cellsEq ((xs.drop f.offset).take sh1.length) ((ys.drop f.offset).take sh1.length)
          · simp
          · simpa using hrest
        · cases h
      · cases h
    · cases h
theorem equalIn_plain : ∀ n : Nat, EqAt P n := by
  intro n
  induction n with
  | zero => intro d T b sh xs ys hd h; simp [shapeOf] at h
  | succ n ih =>
    intro d T b sh xs ys hd h hx hy w
    obtain ⟨d, rfl⟩ : ∃ d', d = d' + 1 := ⟨d - 1, by omega⟩
    simp only [shapeOf] at h
    split at h
    · rename_i k hu
      cases h
      obtain ⟨a, rfl⟩ := fits1_int hx
      obtain ⟨c, rfl⟩ := fits1_int hy
      simp only [mkV, Bool.false_eq_true, if_false, List.headD_cons, scVal]
      rw [run_equalIn_int w d T k k a c hu]
      simp [cellsEq, scEq]
    · rename_i hu
      cases h
      obtain ⟨a, rfl⟩ := fits1_bool hx
      obtain ⟨c, rfl⟩ := fits1_bool hy
      simp only [mkV, Bool.false_eq_true, if_false, List.headD_cons, scVal]
      rw [run_equalIn_bool' w d T a c hu]
      simp [cellsEq, scEq]
    · rename_i hu
      cases h
      obtain ⟨a, rfl⟩ := fits1_str hx
      obtain ⟨c, rfl⟩ := fits1_str hy
      simp only [mkV, Bool.false_eq_true, if_false, List.headD_cons, scVal]
      rw [run_equalIn_string w d T a c hu, ← beq_toListBytes]
      simp only [cellsEq, scEq, Bool.and_true]
    · rename_i fs hu
      split at h
      · rename_i hst
        obtain ⟨sh', h1, h2⟩ := Option.map_eq_some_iff.1 h
        cases h2
        simp only [mkV, if_true]
        have hf : P.fieldsOf T = fs := by simp [Program.fieldsOf, hu]
        rw [run_equalIn_struct (P := P) w d T _ _ (by rw [hf]; exact hu) hst, hf]
        have := eqFields_plain (P := P) (n := n) (d := d) (by omega) ih fs.toList 0 h1 (xs := xs) (ys := ys) hx hy w
        simpa using this
      · cases h
    · cases h
theorem eqRun_plain {n : Nat} {T : TypeId} {sh : List Sc} (h : shapeOf P n T = some (true, sh)) (hn : n ≤ 10000) (hg : P.eqGuardType P.depth T = false) : EqRun P T sh := by
  intro xs ys hx hy x y w
  have he := equalIn_plain (P := P) n Op.maxDepth (by unfold Op.maxDepth; omega) h hx hy w
  simp only [mkV, if_true] at he
  constructor
  · simp [eqGuard, hg, binOp, Op.equal, he]
  · simp [eqGuard, hg, binOp, Op.equal, he]
end
end Go.Sx
