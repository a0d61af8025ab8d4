/- Pure values, what they say of memory, and what keeps them true. Part 1 of an abstract machine over any program; no condition. -/
import Derived.WalkKit
import Derived.Below
import Derived.Orders
import Derived.Laws.AppendOwn
import Derived.Laws.Rows
import Derived.MapKept
import Derived.Great.BuildSlice
import Derived.Laws.MakeOwn
import Derived.Deep.Upon
set_option linter.unusedVariables false
set_option linter.unusedSimpArgs false
namespace Go.Sx
open Go Go.RowKit

/-- A pure value. 'sl': a slice whose memory nobody writes; 'nil': of length and capacity 0; 'agg': a struct, cell by cell; 'mem': a pointer to memory that nobody writes: its cells from there on; 'ref': a row of one's own (key, version); 'ptr': a cell of a variable of one's own; 'eptr': a cell of an element of a row of one's own; 'mref': a map of one's own. -/
inductive PV where
  | undef
  | int (k : IntKind) (n : Int)
  | bool (b : Bool)
  | str (s : ByteArray)
  | nil
  | sl (xs : List PV)
  | agg (cs : List PV)
  | tup (cs : List PV)
  | fn (f : FuncId) (first caps : List PV)
  | mem (cs : List PV)
  | ref (k v : Nat)
  | ptr (k v off : Nat)
  | eptr (k v i j : Nat)
  | mref (k v : Nat)
  deriving Inhabited

def PV.cells : PV → List PV
  | .agg cs => cs
  | x => [x]
def PV.one : PV → Bool
  | .undef | .agg _ | .tup _ | .mref _ _ => false
  | _ => true

/-- A map's entries: to integers, of strings or of integers; of integers to rows. -/
inductive Mp where
  | s (l : List (ByteArray × Int))
  | i (l : List (Int × Int))
  | r (l : List (Int × PV))
  | it (km vm n : Nat) (seen : List Nat)
/-- A way through a map of one's own, not a map. -/
def Mp.isIt : Mp → Bool
  | .it _ _ _ _ => true
  | _ => false
/-- The value that leads to it. -/
def Mp.at (m : Mp) (g : Nat) : Value := match m with
  | .it _ _ _ _ => .pointer (some ⟨g, 0, none⟩)
  | _ => .map (some g)
theorem Mp.at_congr {m m' : Mp} (h : m.isIt = m'.isIt) (g : Nat) : m.at g = m'.at g := by
  cases m <;> cases m' <;> simp [Mp.isIt] at h <;> rfl
theorem Mp.at_map {m : Mp} (h : m.isIt = false) (g : Nat) : m.at g = .map (some g) := by
  cases m <;> simp [Mp.isIt] at h <;> rfl
def Mp.pairs : Mp → List (Value × Value)
  | .s l => l.map fun p => (.string p.1, .int .i64 p.2)
  | .i l => l.map fun p => (.int .i64 p.1, .int .i64 p.2)
  | .r _ => []
  | .it _ _ _ _ => []
/-- These entries are what is said. -/
def EntR (R : PV → Value → Prop) : Mp → List MapEntry → Nat → Prop
  | .r l, es, c => es.length = l.length ∧ (∀ (j : Nat) (k : Int) (z : PV) (e : MapEntry), l[j]? = some (k, z) → es[j]? = some e → e.key = .int .i64 k ∧ R z e.val) ∧ es.map (·.born) = List.range l.length ∧ c = l.length
  | m, es, _ => es.map (fun e => (e.key, e.val)) = m.pairs
theorem EntR.mono {R R' : PV → Value → Prop} (h : ∀ z u, R z u → R' z u) {m : Mp} {es : List MapEntry} {c : Nat} (he : EntR R m es c) : EntR R' m es c := by
  cases m with
  | s l => exact he
  | i l => exact he
  | it km vm n seen => exact he
  | r l => exact ⟨he.1, fun j k z e hj hej => ⟨(he.2.1 j k z e hj hej).1, h _ _ (he.2.1 j k z e hj hej).2⟩, he.2.2⟩

/-- A block is what is said. -/
def MapR (R : PV → Value → Prop) (m : Mp) (x : Obj) : Prop := match m with
  | .it km vm n seen => ∃ g, x = .mapIter (some g) n seen.toArray n ∧ R (.mref km vm) (.map (some g))
  | m => ∃ es clock, x = .map es clock ∧ EntR R m es.toList clock
theorem MapR.of {R : PV → Value → Prop} {m : Mp} {es : Array MapEntry} {clock : Nat} (hm : m.isIt = false) (h : EntR R m es.toList clock) : MapR R m (.map es clock) := by
  cases m with
  | it km vm n seen => simp [Mp.isIt] at hm
  | s l => exact ⟨es, clock, rfl, h⟩
  | i l => exact ⟨es, clock, rfl, h⟩
  | r l => exact ⟨es, clock, rfl, h⟩
theorem MapR.map {R : PV → Value → Prop} {m : Mp} {x : Obj} (h : MapR R m x) (hm : m.isIt = false) : ∃ es clock, x = .map es clock ∧ EntR R m es.toList clock := by
  cases m with
  | it km vm n seen => simp [Mp.isIt] at hm
  | s l => exact h
  | i l => exact h
  | r l => exact h
theorem MapR.mono {R R' : PV → Value → Prop} (h : ∀ z u, R z u → R' z u) {m : Mp} {x : Obj} (hx : MapR R m x) : MapR R' m x := by
  cases m with
  | it km vm n seen => obtain ⟨g, h1, h2⟩ := hx; exact ⟨g, h1, h _ _ h2⟩
  | s l => obtain ⟨es, c, h1, h2⟩ := hx; exact ⟨es, c, h1, h2⟩
  | i l => obtain ⟨es, c, h1, h2⟩ := hx; exact ⟨es, c, h1, h2⟩
  | r l => obtain ⟨es, c, h1, h2⟩ := hx; exact ⟨es, c, h1, EntR.mono h h2⟩

/-- What a value of frozen memory says: every block that is read satisfies B. -/
inductive Rd (w : World) (B : Nat → Prop) : PV → Value → Prop where
  | int (k : IntKind) (n : Int) : Rd w B (.int k n) (.int k n)
  | bool (b : Bool) : Rd w B (.bool b) (.bool b)
  | str (s : ByteArray) : Rd w B (.str s) (.string s)
  | nil (a : Option Addr) : Rd w B .nil (.slice a 0 0)
  | sl0 (a : Option Addr) (c : Nat) : Rd w B (.sl []) (.slice a 0 c)
  | sl (xs : List PV) (ad : Addr) (n c sz : Nat) (us : Nat → Nat → Value) (hn : xs.length = n) (h0 : 0 < n) (hc : n ≤ c) (hB : B ad.block)
      (hz : ∀ (i : Nat) (y : PV), xs[i]? = some y → y.cells.length = sz)
      (hu : ∀ (i : Nat) (y : PV) (j : Nat) (z : PV), xs[i]? = some y → y.cells[j]? = some z → z.one = true ∧ w.cell? (ad.add (i * sz + j)) = some (us i j))
      (hr : ∀ (i : Nat) (y : PV) (j : Nat) (z : PV), xs[i]? = some y → y.cells[j]? = some z → Rd w B z (us i j)) : Rd w B (.sl xs) (.slice (some ad) n c)
  | agg (cs : List PV) (vs : Array Value) (hn : vs.size = cs.length) (h1 : ∀ (j : Nat) (z : PV), cs[j]? = some z → z.one = true)
      (hr : ∀ (j : Nat) (z : PV) (u : Value), cs[j]? = some z → vs[j]? = some u → Rd w B z u) : Rd w B (.agg cs) (.agg vs)
  | tup (cs : List PV) (vs : Array Value) (hn : vs.size = cs.length)
      (hr : ∀ (j : Nat) (z : PV) (u : Value), cs[j]? = some z → vs[j]? = some u → Rd w B z u) : Rd w B (.tup cs) (.tuple vs)
  | fn (f : FuncId) (fs cs : List PV) (vf vc : Array Value) (hf : vf.size = fs.length) (hc : vc.size = cs.length)
      (hrf : ∀ (j : Nat) (z : PV) (u : Value), fs[j]? = some z → vf[j]? = some u → Rd w B z u)
      (hrc : ∀ (j : Nat) (z : PV) (u : Value), cs[j]? = some z → vc[j]? = some u → Rd w B z u) : Rd w B (.fn f fs cs) (.func (.func f) vf vc)
  | mem (cs : List PV) (ad : Addr) (us : Nat → Value) (hB : cs ≠ [] → B ad.block)
      (hu : ∀ (j : Nat) (z : PV), cs[j]? = some z → z.one = true ∧ w.cell? (ad.add j) = some (us j))
      (hr : ∀ (j : Nat) (z : PV), cs[j]? = some z → Rd w B z (us j)) : Rd w B (.mem cs) (.pointer (some ad))

theorem add_block (a : Addr) (n : Nat) : (a.add n).block = a.block := by unfold Addr.add; split <;> rfl

theorem Rd.ext {w w' : World} {B B' : Nat → Prop} (h : ∀ b, B b → B' b ∧ w'.heap[b]? = w.heap[b]?) {x : PV} {v : Value} (hr : Rd w B x v) : Rd w' B' x v := by
  induction hr with
  | int k n => exact .int k n
  | bool b => exact .bool b
  | str s => exact .str s
  | nil a => exact .nil a
  | sl0 a c => exact .sl0 a c
  | sl xs ad n c sz us hn h0 hc hB hz hu hr ih =>
    refine .sl xs ad n c sz us hn h0 hc (h _ hB).1 hz (fun i y j z hy hj => ⟨(hu i y j z hy hj).1, ?_⟩) ih
    rw [← (hu i y j z hy hj).2]
    exact World.cell?_of_block (w := w) (by rw [add_block]; exact (h _ hB).2)
  | agg cs vs hn h1 hr ih => exact .agg cs vs hn h1 ih
  | tup cs vs hn hr ih => exact .tup cs vs hn ih
  | fn f fs cs vf vc hf hc hrf hrc ihf ihc => exact .fn f fs cs vf vc hf hc ihf ihc
  | mem cs ad us hB hu hr ih =>
    refine .mem cs ad us (fun hne => (h _ (hB hne)).1) (fun j z hj => ⟨(hu j z hj).1, ?_⟩) ih
    have hne : cs ≠ [] := by rintro rfl; simp at hj
    rw [← (hu j z hj).2]
    exact World.cell?_of_block (w := w) (by rw [add_block]; exact (h _ (hB hne)).2)

/-- An object of one's own. -/
inductive Ob where
  | box (t : TypeId) (cs : List PV)
  | row (e : TypeId) (xs : List PV)
  | other
  | mp (m : Mp)
/-- Of each key: its version; the object, and whether it may still be written. -/
abbrev Objs := Nat → Nat × Option (Bool × Ob)
/-- Of each key: its block, its capacity. -/
abbrev Places := Nat → Nat × Nat

def live (o : Objs) (k : Nat) : Prop := ∃ ver x, o k = (ver, some (true, x))
/-- A block that nobody writes. -/
def Fz (o : Objs) (τ : Places) (w : World) (b : Nat) : Prop := b < w.heap.size ∧ ∀ k, live o k → (τ k).1 ≠ b

section
variable (P : Program)
inductive ValB (o : Objs) (τ : Places) (w : World) (B : Nat → Prop) : PV → Value → Prop where
  | undef (v : Value) : ValB o τ w B .undef v
  | pure {x : PV} {v : Value} (h : Rd w B x v) : ValB o τ w B x v
  | ref (k ver : Nat) (v : Value) (hv : ver ≤ (o k).1) (h : ∀ b e xs, o k = (ver, some (b, .row e xs)) → v = .slice (some ⟨(τ k).1, 0, none⟩) xs.length (τ k).2) : ValB o τ w B (.ref k ver) v
  | ptr (k ver off : Nat) (v : Value) (hv : ver ≤ (o k).1) (h : ∀ b t cs, o k = (ver, some (b, .box t cs)) → v = .pointer (some ⟨(τ k).1, off, none⟩)) : ValB o τ w B (.ptr k ver off) v
  | eptr (k ver i j : Nat) (v : Value) (hv : ver ≤ (o k).1) (h : ∀ b e xs, o k = (ver, some (b, .row e xs)) → v = .pointer (some ⟨(τ k).1, i * P.cellsOf e + j, none⟩)) : ValB o τ w B (.eptr k ver i j) v
  | mref (k ver : Nat) (v : Value) (hv : ver ≤ (o k).1) (h : ∀ b m, o k = (ver, some (b, .mp m)) → v = m.at (τ k).1) : ValB o τ w B (.mref k ver) v
  | agg (cs : List PV) (vs : Array Value) (hn : vs.size = cs.length) (h1 : ∀ (j : Nat) (z : PV), cs[j]? = some z → z.one = true)
      (hr : ∀ (j : Nat) (z : PV) (u : Value), cs[j]? = some z → vs[j]? = some u → ValB o τ w B z u) : ValB o τ w B (.agg cs) (.agg vs)
  | tup (cs : List PV) (vs : Array Value) (hn : vs.size = cs.length)
      (hr : ∀ (j : Nat) (z : PV) (u : Value), cs[j]? = some z → vs[j]? = some u → ValB o τ w B z u) : ValB o τ w B (.tup cs) (.tuple vs)
  | fn (f : FuncId) (fs cs : List PV) (vf vc : Array Value) (hf : vf.size = fs.length) (hc : vc.size = cs.length)
      (hrf : ∀ (j : Nat) (z : PV) (u : Value), fs[j]? = some z → vf[j]? = some u → ValB o τ w B z u)
      (hrc : ∀ (j : Nat) (z : PV) (u : Value), cs[j]? = some z → vc[j]? = some u → ValB o τ w B z u) : ValB o τ w B (.fn f fs cs) (.func (.func f) vf vc)

abbrev Val (o : Objs) (τ : Places) (w : World) (x : PV) (v : Value) : Prop := ValB P o τ w (Fz o τ w) x v

/-- A block holds these entries. -/
def MapAt (o : Objs) (τ : Places) (w : World) (g : Nat) (m : Mp) : Prop := ∃ x, w.heap[g]? = some x ∧ MapR (Val P o τ w) m x
theorem MapAt.map {P : Program} {o : Objs} {τ : Places} {w : World} {g : Nat} {m : Mp} (h : MapAt P o τ w g m) (hm : m.isIt = false) : ∃ es clock, w.heap[g]? = some (.map es clock) ∧ EntR (Val P o τ w) m es.toList clock := by
  obtain ⟨x, h1, h2⟩ := h
  obtain ⟨es, clock, rfl, h3⟩ := h2.map hm
  exact ⟨es, clock, h1, h3⟩
/-- What the objects' blocks hold. -/
structure Holds (o : Objs) (τ : Places) (w : World) : Prop where
  box : ∀ k ver b t cs, o k = (ver, some (b, .box t cs)) → ∃ vs : Array Value, w.heap[(τ k).1]? = some (.cells vs t (0, 0)) ∧ vs.size = cs.length ∧ (∀ (j : Nat) (z : PV), cs[j]? = some z → z.one = true) ∧ ∀ (j : Nat) (z : PV) (u : Value), cs[j]? = some z → vs[j]? = some u → Val P o τ w z u
  row : ∀ k ver b e xs, o k = (ver, some (b, .row e xs)) → ∃ vs : Array Value, w.heap[(τ k).1]? = some (.cells vs e (0, 0)) ∧ vs.size = (τ k).2 * P.cellsOf e ∧ 0 < P.cellsOf e ∧ xs.length ≤ (τ k).2 ∧ (τ k).2 ≤ maxLen ∧
    (∀ (i : Nat) (y : PV), xs[i]? = some y → y.cells.length = P.cellsOf e) ∧ (∀ (i : Nat) (y : PV) (j : Nat) (z : PV), xs[i]? = some y → y.cells[j]? = some z → z.one = true) ∧
    ∀ (i : Nat) (y : PV) (j : Nat) (z : PV) (u : Value), xs[i]? = some y → y.cells[j]? = some z → vs[i * P.cellsOf e + j]? = some u → Rd w (Fz o τ w) z u
  oth : ∀ k ver b, o k = (ver, some (b, .other)) → (τ k).1 < w.heap.size
  inj : ∀ k k', live o k → live o k' → (τ k).1 = (τ k').1 → k = k'
  fro : ∀ k ver x, o k = (ver, some (false, x)) → Fz o τ w (τ k).1
  mp : ∀ k ver b m, o k = (ver, some (b, .mp m)) → MapAt P o τ w (τ k).1 m
end

def Ob.like : Ob → Ob → Prop
  | .box t cs, .box t' cs' => t = t' ∧ cs.length = cs'.length
  | .row e xs, .row e' xs' => e = e' ∧ xs.length = xs'.length
  | .other, .other => True
  | .mp m, .mp m' => m.isIt = m'.isIt
  | _, _ => False

/-- One state goes on to another: what was frozen stays, versions grow, what lives on under its version is the same object. -/
structure Ext (o : Objs) (τ : Places) (w : World) (o' : Objs) (τ' : Places) (w' : World) : Prop where
  fz : ∀ b, Fz o τ w b → Fz o' τ' w' b ∧ w'.heap[b]? = w.heap[b]?
  ver : ∀ k, (o k).1 ≤ (o' k).1
  same : ∀ k b' x', o' k = ((o k).1, some (b', x')) → ∃ b x, o k = ((o k).1, some (b, x)) ∧ x.like x' ∧ τ' k = τ k

theorem Ext.refl (o : Objs) (τ : Places) (w : World) : Ext o τ w o τ w where
  fz b h := ⟨h, rfl⟩
  ver k := Nat.le_refl _
  same k b' x' h := ⟨b', x', h, by cases x' <;> simp [Ob.like], rfl⟩

variable {P : Program}
theorem Val.ext {o o' : Objs} {τ τ' : Places} {w w' : World} (h : Ext o τ w o' τ' w') {x : PV} {v : Value} (hv : Val P o τ w x v) : Val P o' τ' w' x v := by
  induction hv with
  | undef v => exact .undef v
  | pure hr => exact .pure (hr.ext h.fz)
  | ref k ver v hv hh =>
    refine .ref k ver v (Nat.le_trans hv (h.ver k)) fun b' e xs' he => ?_
    have hle : (o k).1 = ver := Nat.le_antisymm (by have := h.ver k; rw [he] at this; exact this) hv
    obtain ⟨b, x, hx, hl, ht⟩ := h.same k _ _ (by rw [hle]; exact he)
    cases x with
    | box => simp [Ob.like] at hl
    | other => simp [Ob.like] at hl
    | mp => simp [Ob.like] at hl
    | row e0 xs =>
      obtain ⟨rfl, hl⟩ := hl
      rw [hh b e0 xs (by rw [hx, hle]), ht, hl]
  | ptr k ver off v hv hh =>
    refine .ptr k ver off v (Nat.le_trans hv (h.ver k)) fun b' t cs' he => ?_
    have hle : (o k).1 = ver := Nat.le_antisymm (by have := h.ver k; rw [he] at this; exact this) hv
    obtain ⟨b, x, hx, hl, ht⟩ := h.same k _ _ (by rw [hle]; exact he)
    cases x with
    | row => simp [Ob.like] at hl
    | other => simp [Ob.like] at hl
    | mp => simp [Ob.like] at hl
    | box t0 cs => rw [hh b t0 cs (by rw [hx, hle]), ht]
  | eptr k ver i j v hv hh =>
    refine .eptr k ver i j v (Nat.le_trans hv (h.ver k)) fun b' e xs' he => ?_
    have hle : (o k).1 = ver := Nat.le_antisymm (by have := h.ver k; rw [he] at this; exact this) hv
    obtain ⟨b, x, hx, hl, ht⟩ := h.same k _ _ (by rw [hle]; exact he)
    cases x with
    | box => simp [Ob.like] at hl
    | other => simp [Ob.like] at hl
    | mp => simp [Ob.like] at hl
    | row e0 xs =>
      obtain ⟨rfl, hl⟩ := hl
      rw [hh b e0 xs (by rw [hx, hle]), ht]
  | mref k ver v hv hh =>
    refine .mref k ver v (Nat.le_trans hv (h.ver k)) fun b' m' he => ?_
    have hle : (o k).1 = ver := Nat.le_antisymm (by have := h.ver k; rw [he] at this; exact this) hv
    obtain ⟨b, x, hx, hl, ht⟩ := h.same k _ _ (by rw [hle]; exact he)
    cases x with
    | box => simp [Ob.like] at hl
    | other => simp [Ob.like] at hl
    | row => simp [Ob.like] at hl
    | mp m => rw [hh b m (by rw [hx, hle]), ht]; exact Mp.at_congr hl _
  | agg cs vs hn h1 hr ih => exact .agg cs vs hn h1 ih
  | tup cs vs hn hr ih => exact .tup cs vs hn ih
  | fn f fs cs vf vc hf hc hrf hrc ihf ihc => exact .fn f fs cs vf vc hf hc ihf ihc

theorem MapAt.ext {o o' : Objs} {τ τ' : Places} {w w' : World} {g : Nat} {m : Mp} (h : MapAt P o τ w g m) (hx : Ext o τ w o' τ' w') (he : w'.heap[g]? = w.heap[g]?) : MapAt P o' τ' w' g m := by
  obtain ⟨x, h1, h2⟩ := h
  exact ⟨x, he.trans h1, h2.mono fun z u hz => hz.ext hx⟩
theorem MapAt.lt {o : Objs} {τ : Places} {w : World} {g : Nat} {m : Mp} (h : MapAt P o τ w g m) : g < w.heap.size := by
  obtain ⟨x, h1, h2⟩ := h
  exact (Array.getElem?_eq_some_iff.1 h1).1
end Go.Sx
/- The abstract machine, part 2: operations that only compute: what they come to on pure values, and that the model's operation comes to the same. -/
set_option linter.unusedVariables false
set_option linter.unusedSimpArgs false
namespace Go.Sx
open Go Go.RowKit

inductive Sc where
  | int (k : IntKind) | bool | str
def fits : List Sc → List PV → Bool
  | [], [] => true
  | .int k :: ss, .int k' _ :: xs => k == k' && fits ss xs
  | .bool :: ss, .bool _ :: xs => fits ss xs
  | .str :: ss, .str _ :: xs => fits ss xs
  | _, _ => false
def scVal : PV → Value
  | .int k n => .int k n
  | .bool b => .bool b
  | .str s => .string s
  | _ => .tuple #[]
def scEq : PV → PV → Bool
  | .int _ a, .int _ b => a == b
  | .bool a, .bool b => a == b
  | .str a, .str b => a == b
  | _, _ => false
def cellsEq : List PV → List PV → Bool
  | [], [] => true
  | x :: xs, y :: ys => scEq x y && cellsEq xs ys
  | _, _ => false
/-- The model's '==' at a struct type whose cells are plain. -/
def EqRun (P : Program) (T : TypeId) (sh : List Sc) : Prop :=
  ∀ (xs ys : List PV), fits sh xs = true → fits sh ys = true → ∀ (x y : Operand) (w : World),
    ((do eqGuard .eql T x y (.agg (xs.map scVal).toArray) (.agg (ys.map scVal).toArray); binOp .eql T (.agg (xs.map scVal).toArray) (.agg (ys.map scVal).toArray)) : Sem Value).run P w = .ok (.bool (cellsEq xs ys)) w ∧
    ((do eqGuard .neq T x y (.agg (xs.map scVal).toArray) (.agg (ys.map scVal).toArray); binOp .neq T (.agg (xs.map scVal).toArray) (.agg (ys.map scVal).toArray)) : Sem Value).run P w = .ok (.bool (!cellsEq xs ys)) w
/-- Which structs may be compared; under which key an object lies that a temporary makes. -/
structure Env (P : Program) where
  eqT : TypeId → Option (List Sc)
  ok : ∀ T sh, eqT T = some sh → EqRun P T sh
  key : Nat → Nat := fun d => d
  inj : ∀ d d', key d = key d' → d = d' := by intro d d' h; exact h
  akey : Nat → PV → Objs → Nat := fun d _ _ => key d

structure St where
  s : Nat → PV
  o : Objs
def St.put (st : St) (dst : Option Tmp) (x : PV) : St :=
  match dst with
  | some d => { st with s := fun i => if i = d then x else st.s i }
  | none => st
def ofConst : Value → PV
  | .int k n => .int k n
  | .bool b => .bool b
  | .string s => .str s
  | .slice none 0 0 => .nil
  | _ => .undef
/-- A constant; one of a struct: cell by cell. -/
def evC : Value → PV
  | .agg vs => if (vs.toList.map ofConst).all PV.one = true then .agg (vs.toList.map ofConst) else .undef
  | v => ofConst v
def St.ev (st : St) : Operand → PV
  | .tmp t => st.s t
  | .const v => evC v
  | .global _ => .undef
  | .func f => .fn f [] []

/-- Is it a struct (or an array)? How many cells has it? -/
def tinf (P : Program) (T : TypeId) : Option (Bool × Nat) :=
  match P.info? T, P.underlying T with
  | some i, some (.struct _) => some (true, i.size)
  | some i, some (.array _ _) => some (true, i.size)
  | some i, some _ => some (false, i.size)
  | _, _ => none
/-- A field's place and its cells. -/
def fld (P : Program) (T : TypeId) (f : Nat) : Option (Nat × Nat × TypeId) :=
  match P.underlying T with
  | some (.struct fs) => match fs[f]? with
    | some fd => match P.info? fd.type with
      | some i => some (fd.offset, i.size, fd.type)
      | none => none
    | none => none
  | _ => none
/-- A slice type's element: its type, its cells. -/
def selem (P : Program) (T : TypeId) : Option (TypeId × Nat) :=
  match P.underlying T with
  | some (.slice e) => match P.info? e with
    | some i => some (e, i.size)
    | none => none
  | _ => none
inductive Kd0 where
  | slice | string | bool | other
def kd (P : Program) (T : TypeId) : Kd0 :=
  match P.underlying T with
  | some (.slice _) => .slice
  | some .string => .string
  | some .bool => .bool
  | _ => .other
/-- A variable of type T out of the cells at its place. -/
def ofCells (P : Program) (T : TypeId) (cs : List PV) : Option PV :=
  match tinf P T with
  | some (true, n) => if n ≤ cs.length then some (.agg (cs.take n)) else none
  | some (false, _) => cs[0]?
  | none => none
def intBin (op : BinOp) (k : IntKind) (a b : Int) : Option PV :=
  match op with
  | .add => some (.int k (k.wrap (a + b)))
  | .sub => some (.int k (k.wrap (a - b)))
  | .mul => some (.int k (k.wrap (a * b)))
  | .quo => if b = 0 then none else some (.int k (k.wrap (a.tdiv b)))
  | .rem => if b = 0 then none else some (.int k (a.tmod b))
  | .eql => some (.bool (a == b))
  | .neq => some (.bool (a != b))
  | .lss => some (.bool (decide (a < b)))
  | .leq => some (.bool (decide (a ≤ b)))
  | .gtr => some (.bool (decide (a > b)))
  | .geq => some (.bool (decide (a ≥ b)))
  | _ => none
def strBin (op : BinOp) (a b : ByteArray) : Option PV :=
  match op with
  | .add => if a.size + b.size ≤ 9223372036854775807 then some (.str (a ++ b)) else none
  | .eql => some (.bool (a.toList == b.toList))
  | .neq => some (.bool (!(a.toList == b.toList)))
  | .lss => some (.bool (Op.bytesLess a.toList b.toList))
  | .leq => some (.bool (Op.bytesLess a.toList b.toList || a.toList == b.toList))
  | .gtr => some (.bool (!(Op.bytesLess a.toList b.toList || a.toList == b.toList)))
  | .geq => some (.bool (!(Op.bytesLess a.toList b.toList)))
  | _ => none
section
variable (P : Program) (E : Env P)
def absBin (op : BinOp) (T : TypeId) (x y : PV) : Option PV :=
  match x, y with
  | .int k a, .int k' b => if k = k' then intBin op k a b else none
  | .str a, .str b => strBin op a b
  | .bool a, .bool b =>
    match kd P T, op with
    | .bool, .eql => some (.bool (a == b))
    | .bool, .neq => some (.bool (!(a == b)))
    | _, _ => none
  | .agg xs, .agg ys =>
    match E.eqT T with
    | some sh => if fits sh xs && fits sh ys then (match op with | .eql => some (.bool (cellsEq xs ys)) | .neq => some (.bool (!cellsEq xs ys)) | _ => none) else none
    | none => none
  | _, _ => none
/-- A slice that is not empty, compared with nil. -/
def nilCmp (op : BinOp) (T : TypeId) (x : PV) (y : Operand) : Option PV :=
  match kd P T, y, x with
  | .slice, .const (.slice none 0 0), .sl (_ :: _) => match op with
    | .eql => some (.bool false)
    | .neq => some (.bool true)
    | _ => none
  | _, _, _ => none
def binPV (op : BinOp) (T : TypeId) (x : PV) (y : Operand) (yv : PV) : Option PV :=
  match nilCmp P op T x y with
  | some r => some r
  | none => absBin P E op T x yv
def getRow (o : Objs) (k v : Nat) : Option (TypeId × List PV) :=
  match o k with
  | (v', some (_, .row e xs)) => if v' = v then some (e, xs) else none
  | _ => none
def getBox (o : Objs) (k v : Nat) : Option (TypeId × List PV) :=
  match o k with
  | (v', some (_, .box t cs)) => if v' = v then some (t, cs) else none
  | _ => none
def absFieldAddr (ob : Objs) (T : TypeId) (x : PV) (f : Nat) : Option PV :=
  match fld P T f with
  | some (off, size, _) => if size = 0 then none else
      (match x with
      | .mem cs => some (.mem (cs.drop off))
      | .ptr k v o => (getBox ob k v).map fun _ => .ptr k v (o + off)
      | .eptr k v i j => (getRow ob k v).map fun _ => .eptr k v i (j + off)
      | _ => none)
  | none => none
def absLoad (o : Objs) (T : TypeId) (x : PV) : Option PV :=
  match x with
  | .mem cs => ofCells P T cs
  | .ptr k v off => match getBox o k v with
    | some (_, cs) => ofCells P T (cs.drop off)
    | none => none
  | .eptr k v i j => match getRow o k v with
    | some (_, xs) => match xs[i]? with
      | some y => ofCells P T (y.cells.drop j)
      | none => none
    | none => none
  | _ => none
def absIndexAddr (o : Objs) (T : TypeId) (x i : PV) : Option PV :=
  match selem P T, i with
  | some (e, sz), .int _ n => match x with
    | .sl xs => if 0 ≤ n then (match xs[n.toNat]? with | some y => if y.cells.length = sz then some (.mem y.cells) else none | none => none) else none
    | .ref k v => match getRow o k v with
      | some (e', xs) => if e' = e ∧ 0 ≤ n ∧ n < xs.length then some (.eptr k v n.toNat 0) else none
      | none => none
    | _ => none
  | _, _ => none
def absLen (o : Objs) (T : TypeId) (x : PV) : Option PV :=
  match kd P T, x with
  | .slice, .nil => some (.int .i64 0)
  | .slice, .sl xs => some (.int .i64 xs.length)
  | .slice, .ref k v => (getRow o k v).map fun p => .int .i64 p.2.length
  | .string, .str s => some (.int .i64 s.size)
  | _, _ => none
def bndOf (x : Option PV) (dflt : Nat) : Option Nat :=
  match x with
  | none => some dflt
  | some (.int _ n) => if 0 ≤ n then some n.toNat else none
  | some _ => none
/-- A cut of frozen memory, no capacity named, within the length. -/
def absSlice (T : TypeId) (x : PV) (lo hi : Option PV) : Option PV :=
  match selem P T, x with
  | some (_, sz), .sl xs => match bndOf lo 0, bndOf hi xs.length with
    | some l, some h => if l ≤ h ∧ h ≤ xs.length ∧ (∀ y ∈ xs, y.cells.length = sz) then some (.sl ((xs.take h).drop l)) else none
    | _, _ => none
  | _, _ => none
def absMax (x y : PV) : Option PV :=
  match x, y with
  | .int k a, .int k' b => if k = k' then some (.int k (if b > a then b else a)) else none
  | _, _ => none
def absMin (x y : PV) : Option PV :=
  match x, y with
  | .int k a, .int k' b => if k = k' then some (.int k (if b < a then b else a)) else none
  | _, _ => none
/-- A value of one cell, of which it is known what it is. -/
def ok1 (o : Objs) : PV → Bool
  | .undef | .agg _ | .tup _ | .mref _ _ => false
  | .ref k v => (getRow o k v).isSome
  | .eptr k v _ _ => (getRow o k v).isSome
  | .ptr k v _ => (getBox o k v).isSome
  | _ => true
/-- Parts laid into a struct's zero cells. -/
def absFill (o : Objs) (place : Nat → Option (Nat × Nat)) (cells : List PV) : List (Nat × PV) → Option (List PV)
  | [] => some cells
  | (i, x) :: rest =>
    match place i with
    | none => none
    | some (off, size) => if x.cells.length = size ∧ off + size ≤ cells.length ∧ x.cells.all (ok1 o) = true then absFill o place (cells.take off ++ x.cells ++ cells.drop (off + size)) rest else none
/-- A struct type's zero cells, and its fields' places and cells. -/
def bld (P : Program) (T : TypeId) : Option (List PV × List (Nat × Nat)) :=
  match P.info? T, P.underlying T with
  | some it, some (.struct fields) =>
    match it.zero, fields.toList.mapM (fun f => (P.info? f.type).map fun i => (f.offset, i.size)) with
    | some z, some places => if (z.cells.toList.map ofConst).all PV.one then some (z.cells.toList.map ofConst, places) else none
    | _, _ => none
  | _, _ => none
def absBuild (o : Objs) (T : TypeId) (parts : List (Nat × PV)) : Option PV :=
  match bld P T with
  | some (z, pl) => (absFill o (fun i => pl[i]?) z parts).map .agg
  | none => none
def absField (T : TypeId) (x : PV) (f : Nat) : Option PV :=
  match fld P T f, x with
  | some (off, size, F), .agg cs => if off + size ≤ cs.length then ofCells P F (cs.drop off) else none
  | _, _ => none

def zInt : Option Value → Bool
  | some (.int .i64 0) => true
  | _ => false
def zNil : Option Value → Bool
  | some (.slice none 0 0) => true
  | _ => false
/-- A map type: of strings to integers; of integers to integers; of integers to slices. -/
inductive Mk where
  | s | i | r
def mkd (P : Program) (T : TypeId) : Option Mk :=
  match P.underlying T with
  | some (.map k e) => match P.underlying k, P.info? e with
    | some .string, some i => if zInt i.zero = true then some .s else none
    | some (.int .i64), some i => if zInt i.zero = true then some .i else if zNil i.zero = true then some .r else none
    | _, _ => none
  | _ => none
def mgetP : List (Int × PV) → Int → PV
  | [], _ => .nil
  | (a, x) :: l, k => if a = k then x else mgetP l k
def mputP : List (Int × PV) → Int → PV → List (Int × PV)
  | [], k, v => [(k, v)]
  | (a, x) :: l, k, v => if a = k then (k, v) :: l else (a, x) :: mputP l k v
def mget {α : Type} [DecidableEq α] : List (α × Int) → α → Int
  | [], _ => 0
  | (a, x) :: l, k => if a = k then x else mget l k
def mput {α : Type} [DecidableEq α] : List (α × Int) → α → Int → List (α × Int)
  | [], k, v => [(k, v)]
  | (a, x) :: l, k, v => if a = k then (k, v) :: l else (a, x) :: mput l k v
theorem mget_mput {α : Type} [DecidableEq α] (k j : α) (v : Int) : ∀ l : List (α × Int), mget (mput l k v) j = if j = k then v else mget l j
  | [] => by
    simp only [mput, mget]
    by_cases h : k = j
    · rw [if_pos h, if_pos h.symm]
    · rw [if_neg h, if_neg (Ne.symm h)]
  | (a, x) :: l => by
    simp only [mput]
    by_cases h : a = k
    · rw [if_pos h]
      simp only [mget, h]
      by_cases h2 : k = j
      · rw [if_pos h2, if_pos h2.symm]
      · rw [if_neg h2, if_neg (Ne.symm h2), if_neg h2]
    · rw [if_neg h]
      simp only [mget]
      by_cases h2 : a = j
      · subst h2; rw [if_pos rfl, if_neg h, if_pos rfl]
      · rw [if_neg h2, if_neg h2, mget_mput k j v l]
def getMap (o : Objs) (k v : Nat) : Option Mp :=
  match o k with
  | (v', some (_, .mp m)) => if v' = v then some m else none
  | _ => none
def absLook (b : Option Mk) (m : Option Mp) (i : PV) : Option PV :=
  match b, m, i with
  | some .s, some (.s l), .str k => some (.int .i64 (mget l k))
  | some .i, some (.i l), .int .i64 k => some (.int .i64 (mget l k))
  | some .r, some (.r l), .int .i64 k => some (mgetP l k)
  | _, _, _ => none
def absMput (b : Option Mk) (m : Option Mp) (i x : PV) : Option Mp :=
  match b, m, i, x with
  | some .s, some (.s l), .str k, .int .i64 x => some (.s (mput l k x))
  | some .i, some (.i l), .int .i64 k, .int .i64 x => some (.i (mput l k x))
  | some .r, some (.r l), .int .i64 k, .ref a b => some (.r (mputP l k (.ref a b)))
  | _, _, _, _ => none
def mapOf (o : Objs) (x : PV) : Option Mp := match x with
  | .mref k v => getMap o k v
  | _ => none

/-- What an operation that only computes comes to. -/
def pureOp (st : St) : Op → Option PV
  | .move x | .assign x => some (st.ev x)
  | .pick c a b => match st.ev c with
    | .bool t => some (if t then st.ev a else st.ev b)
    | _ => none
  | .nilCheck x => match st.ev x with
    | .mem cs => some (.mem cs)
    | .ptr k v off => (getBox st.o k v).map fun _ => .ptr k v off
    | .fn f a b => some (.fn f a b)
    | _ => none
  | .binOp op T x y _ => binPV P E op T (st.ev x) y (st.ev y)
  | .unOp .not _ x => match st.ev x with
    | .bool b => some (.bool !b)
    | _ => none
  | .unOp .neg _ x => match st.ev x with
    | .int k n => some (.int k (k.wrap (0 - n)))
    | _ => none
  | .fieldAddr T x f => absFieldAddr P st.o T (st.ev x) f
  | .field T x f => absField P T (st.ev x) f
  | .indexAddr T x i => absIndexAddr P st.o T (st.ev x) (st.ev i)
  | .index T x i => match kd P T, st.ev x, st.ev i with
    | .string, .str s, .int _ n => if 0 ≤ n then (s[n.toNat]?).map fun b => .int .u8 b.toNat else none
    | _, _, _ => none
  | .load T x => absLoad P st.o T (st.ev x)
  | .lookup T x i false => absLook (mkd P T) (mapOf st.o (st.ev x)) (st.ev i)
  | .extract x i => match st.ev x with
    | .tup cs => cs[i]?
    | _ => none
  | .build T parts => absBuild P st.o T (parts.toList.map fun p => (p.1, st.ev p.2))
  | .makeFunc (.func f) first caps => some (.fn f (first.toList.map st.ev) (caps.toList.map st.ev))
  | .slice T x lo hi none => absSlice P T (st.ev x) (lo.map st.ev) (hi.map st.ev)
  | .call c => match c.callee, c.args.toList, c.argTypes.toList with
    | .builtin .len, [x], [T] => absLen P st.o T (st.ev x)
    | .builtin .max, [x, y], _ => absMax (st.ev x) (st.ev y)
    | .builtin .min, [x, y], _ => absMin (st.ev x) (st.ev y)
    | _, _, _ => none
  | _ => none
end
end Go.Sx
/- The abstract machine, part 3: the model's operations that only compute come to what 'pureOp' says. -/
set_option linter.unusedVariables false
set_option linter.unusedSimpArgs false
namespace Go.Sx
open Go Go.RowKit

section
variable {P : Program} {o : Objs} {τ : Places} {w : World}
theorem Rd.int_inv {B : Nat → Prop} {k : IntKind} {n : Int} {v : Value} (h : Rd w B (.int k n) v) : v = .int k n := by cases h; rfl
theorem Val.int_inv {k : IntKind} {n : Int} {v : Value} (h : Val P o τ w (.int k n) v) : v = .int k n := by cases h with | pure h => exact h.int_inv
theorem Val.bool_inv {b : Bool} {v : Value} (h : Val P o τ w (.bool b) v) : v = .bool b := by cases h with | pure h => cases h; rfl
theorem Val.str_inv {s : ByteArray} {v : Value} (h : Val P o τ w (.str s) v) : v = .string s := by cases h with | pure h => cases h; rfl
theorem Val.nil_inv {v : Value} (h : Val P o τ w .nil v) : ∃ a, v = .slice a 0 0 := by cases h with | pure h => cases h; exact ⟨_, rfl⟩
theorem Val.sl_inv {xs : List PV} {v : Value} (h : Val P o τ w (.sl xs) v) : Rd w (Fz o τ w) (.sl xs) v := by cases h with | pure h => exact h
theorem Val.mem_inv {cs : List PV} {v : Value} (h : Val P o τ w (.mem cs) v) : Rd w (Fz o τ w) (.mem cs) v := by cases h with | pure h => exact h
theorem Val.agg_inv {cs : List PV} {v : Value} (h : Val P o τ w (.agg cs) v) : ∃ vs : Array Value, v = .agg vs ∧ vs.size = cs.length ∧ (∀ (j : Nat) (z : PV), cs[j]? = some z → z.one = true) ∧ ∀ (j : Nat) (z : PV) (u : Value), cs[j]? = some z → vs[j]? = some u → Val P o τ w z u := by
  cases h with
  | pure h => cases h with | agg cs vs hn h1 hr => exact ⟨vs, rfl, hn, h1, fun j z u a b => .pure (hr j z u a b)⟩
  | agg cs vs hn h1 hr => exact ⟨vs, rfl, hn, h1, hr⟩
theorem Val.tup_inv {cs : List PV} {v : Value} (h : Val P o τ w (.tup cs) v) : ∃ vs : Array Value, v = .tuple vs ∧ vs.size = cs.length ∧ ∀ (j : Nat) (z : PV) (u : Value), cs[j]? = some z → vs[j]? = some u → Val P o τ w z u := by
  cases h with
  | pure h => cases h with | tup cs vs hn hr => exact ⟨vs, rfl, hn, fun j z u a b => .pure (hr j z u a b)⟩
  | tup cs vs hn hr => exact ⟨vs, rfl, hn, hr⟩
theorem Val.fn_inv {f : FuncId} {fs cs : List PV} {v : Value} (h : Val P o τ w (.fn f fs cs) v) : ∃ vf vc : Array Value, v = .func (.func f) vf vc ∧ vf.size = fs.length ∧ vc.size = cs.length ∧
    (∀ (j : Nat) (z : PV) (u : Value), fs[j]? = some z → vf[j]? = some u → Val P o τ w z u) ∧ ∀ (j : Nat) (z : PV) (u : Value), cs[j]? = some z → vc[j]? = some u → Val P o τ w z u := by
  cases h with
  | pure h => cases h with | fn f fs cs vf vc hf hc hrf hrc => exact ⟨vf, vc, rfl, hf, hc, fun j z u a b => .pure (hrf j z u a b), fun j z u a b => .pure (hrc j z u a b)⟩
  | fn f fs cs vf vc hf hc hrf hrc => exact ⟨vf, vc, rfl, hf, hc, hrf, hrc⟩
theorem Val.int_ (k : IntKind) (n : Int) : Val P o τ w (.int k n) (.int k n) := .pure (.int k n)
theorem Val.bool_ (b : Bool) : Val P o τ w (.bool b) (.bool b) := .pure (.bool b)
theorem Val.str_ (s : ByteArray) : Val P o τ w (.str s) (.string s) := .pure (.str s)

theorem Val.one_cell {x : PV} {v : Value} (h : Val P o τ w x v) (h1 : x.one = true) (hr : ∀ k ver, x = .ref k ver → ∃ b e xs, o k = (ver, some (b, .row e xs))) (hp : ∀ k ver off, x = .ptr k ver off → ∃ b t cs, o k = (ver, some (b, .box t cs))) (he : ∀ k ver i j, x = .eptr k ver i j → ∃ b e xs, o k = (ver, some (b, .row e xs))) : v.oneCell' = true := by
  cases h with
  | undef v => simp [PV.one] at h1
  | pure h => cases h <;> first | rfl | simp [PV.one] at h1
  | ref k ver v hv hh => obtain ⟨b, e, xs, h⟩ := hr k ver rfl; rw [hh b e xs h]; rfl
  | ptr k ver off v hv hh => obtain ⟨b, e, xs, h⟩ := hp k ver off rfl; rw [hh b e xs h]; rfl
  | eptr k ver i j v hv hh => obtain ⟨b, e, xs, h⟩ := he k ver i j rfl; rw [hh b e xs h]; rfl
  | mref => simp [PV.one] at h1
  | agg => simp [PV.one] at h1
  | tup => simp [PV.one] at h1
  | fn => rfl
theorem Rd.one_cell {B : Nat → Prop} {x : PV} {v : Value} (h : Rd w B x v) (h1 : x.one = true) : v.oneCell' = true := by
  cases h <;> first | rfl | simp [PV.one] at h1

theorem val_const (v : Value) : Val P o τ w (ofConst v) v := by
  unfold ofConst
  split
  · exact .int_ _ _
  · exact .bool_ _
  · exact .str_ _
  · exact .pure (.nil none)
  · exact .undef _
theorem val_evC (v : Value) : Val P o τ w (evC v) v := by
  unfold evC
  split
  · rename_i vs
    split
    · rename_i hc
      refine .agg _ _ (by simp) (fun j z hj => ?_) fun j z u hj hu => ?_
      · exact (List.all_eq_true.1 hc) z (List.mem_of_getElem? hj)
      · simp only [List.getElem?_map, Array.getElem?_toList, hu, Option.map_some, Option.some.injEq] at hj
        subst hj
        exact val_const u
    · exact .undef _
  · exact val_const _
theorem ev_val {st : St} {a : Act} (h : ∀ t, Val P st.o τ w (st.s t) (a.tmps.getD t undef)) (x : Operand) : Val P st.o τ w (st.ev x) (a.eval x) := by
  cases x with
  | tmp t => exact h t
  | const v => exact val_evC v
  | global g => exact .undef _
  | func f => exact .fn f [] [] #[] #[] rfl rfl (by simp) (by simp)

theorem add_add (a : Addr) (i j : Nat) : (a.add i).add j = a.add (i + j) := by
  unfold Addr.add
  by_cases hi : i = 0
  · subst hi; simp
  · by_cases hj : j = 0
    · subst hj; simp [hi]
    · simp [hi, hj, Nat.add_assoc]

theorem skolem_cells {cs : List PV} {f : Nat → Option Value} {R : PV → Value → Prop} (h : ∀ (j : Nat) (z : PV), cs[j]? = some z → ∃ u, f j = some u ∧ R z u) :
    ∃ us : Nat → Value, ∀ (j : Nat) (z : PV), cs[j]? = some z → f j = some (us j) ∧ R z (us j) := by
  have : ∀ j, ∃ u, ∀ z : PV, cs[j]? = some z → f j = some u ∧ R z u := by
    intro j
    cases hj : cs[j]? with
    | none => exact ⟨undef, fun z hz => by cases hz⟩
    | some z =>
      obtain ⟨u, hu⟩ := h j z hj
      exact ⟨u, fun z' hz' => by cases hz'; exact hu⟩
  obtain ⟨us, hus⟩ := Classical.axiomOfChoice this
  exact ⟨us, hus⟩

theorem run_sizeOf {T : TypeId} {i : TypeInfo} (h : P.info? T = some i) (w : World) : (sizeOf T).run P w = .ok i.size w := by simp [sizeOf, typeInfo, h]
theorem cellsOf_info {T : TypeId} {i : TypeInfo} (h : P.info? T = some i) : P.cellsOf T = i.size := by simp [Program.cellsOf, h]

theorem run_loadVar' {T : TypeId} {cs : List PV} {ad : Addr} {x : PV} (h : ∀ (j : Nat) (z : PV), cs[j]? = some z → ∃ u, w.cell? (ad.add j) = some u ∧ z.one = true ∧ Val P o τ w z u) (hx : ofCells P T cs = some x) :
    ∃ v, (loadVar T ad).run P w = .ok v w ∧ Val P o τ w x v := by
  obtain ⟨us, hus⟩ := skolem_cells h
  unfold ofCells at hx
  split at hx
  · rename_i n ht
    split at hx
    · rename_i hle
      cases hx
      have hc : ∀ j, j < n → w.cell? (ad.add j) = some (us j) := fun j hj => (hus j _ (List.getElem?_eq_getElem (by omega))).1
      have hrun := run_loadCells (P := P) w ad n us hc
      refine ⟨.agg ((List.range n).map us).toArray, ?_, .agg _ _ (by simp; omega) (fun j z hj => ?_) fun j z u hj hu => ?_⟩
      · unfold tinf at ht
        split at ht <;> first | (cases ht; done) | skip
        all_goals (rename_i i hi hu; simp only [Option.some.injEq, Prod.mk.injEq, true_and] at ht; subst ht; simp [loadVar, isAgg, run_underlying hu, run_sizeOf hi, hrun])
      · rw [List.getElem?_take] at hj
        split at hj
        · exact (hus j z hj).2.1
        · cases hj
      · rw [List.getElem?_take] at hj
        split at hj
        · rename_i hjn
          simp [List.getElem?_range, hjn] at hu
          subst hu
          exact (hus j z hj).2.2
        · cases hj
    · cases hx
  · rename_i n ht
    obtain ⟨h1, _, h2⟩ := hus 0 x hx
    have h1' : w.cell? ad = some (us 0) := by simpa [Addr.add] using h1
    refine ⟨us 0, ?_, h2⟩
    unfold tinf at ht
    split at ht <;> first | (cases ht; done) | skip
    rename_i i d hne hne' hi hd
    have : (isAgg T).run P w = .ok false w := by
      simp only [isAgg, Sem.run_bind, run_underlying hd, Result.andThen_ok]
      cases d <;> first | rfl | exact absurd rfl (hne _) | exact absurd rfl (hne' _ _)
    simp [loadVar, this, load, Sem.run, h1']
  · cases hx
end
end Go.Sx
/- The abstract machine, part 4: loads, addresses, lengths, cuts, structs; then all operations that only compute. -/
set_option linter.unusedVariables false
set_option linter.unusedSimpArgs false
namespace Go.Sx
open Go Go.RowKit

section
variable {P : Program} {o : Objs} {τ : Places} {w : World}
theorem add_lit (g off j : Nat) : (⟨g, off, none⟩ : Addr).add j = ⟨g, off + j, none⟩ := by unfold Addr.add; split <;> simp_all
theorem cell_blk {g off j : Nat} {vs : Array Value} {t : TypeId} {fr : Nat × Nat} (h : w.heap[g]? = some (.cells vs t fr)) : w.cell? ((⟨g, off, none⟩ : Addr).add j) = vs[off + j]? := by
  rw [add_lit]; exact cell_of_row w g (off + j) vs t fr h
theorem getBox_some {k v : Nat} {t : TypeId} {cs : List PV} (h : getBox o k v = some (t, cs)) : ∃ b, o k = (v, some (b, .box t cs)) := by
  unfold getBox at h
  split at h
  · rename_i v' b' t' cs' he
    split at h
    · rename_i hv; cases h; exact ⟨b', by rw [he, hv]⟩
    · cases h
  · cases h
theorem getRow_some {k v : Nat} {t : TypeId} {cs : List PV} (h : getRow o k v = some (t, cs)) : ∃ b, o k = (v, some (b, .row t cs)) := by
  unfold getRow at h
  split at h
  · rename_i v' b' t' cs' he
    split at h
    · rename_i hv; cases h; exact ⟨b', by rw [he, hv]⟩
    · cases h
  · cases h
theorem getElem?_of_size {vs : Array Value} {cs : List PV} (hn : vs.size = cs.length) {j : Nat} {z : PV} (h : cs[j]? = some z) : ∃ u, vs[j]? = some u := by
  have : j < vs.size := by rw [hn]; exact (List.getElem?_eq_some_iff.1 h).1
  exact ⟨_, Array.getElem?_eq_getElem this⟩

theorem load_sound {x : PV} {v : Value} {T : TypeId} {y : PV} (hh : Holds P o τ w) (hv : Val P o τ w x v) (h : absLoad P o T x = some y) : ∃ u, (Instr.loadAt T v).run P w = .ok u w ∧ Val P o τ w y u := by
  cases x <;> simp only [absLoad] at h <;> try (cases h; done)
  case mem cs =>
    cases hv.mem_inv with
    | mem cs ad us hB hu hr =>
      obtain ⟨u, h1, h2⟩ := run_loadVar' (P := P) (o := o) (τ := τ) (ad := ad) (fun j z hj => ⟨us j, (hu j z hj).2, (hu j z hj).1, .pure (hr j z hj)⟩) h
      exact ⟨u, by simpa [Instr.loadAt, Instr.sureAddr] using h1, h2⟩
  case ptr k ver off =>
    split at h
    · rename_i t cs hb
      obtain ⟨bb, hb'⟩ := getBox_some hb
      cases hv with
      | pure h' => cases h'
      | ptr k ver off v hv hp =>
        rw [hp bb t cs hb']
        obtain ⟨vs, hg, hn, h1, hr⟩ := hh.box k ver bb t cs hb'
        obtain ⟨u, e1, e2⟩ := run_loadVar' (P := P) (o := o) (τ := τ) (ad := ⟨(τ k).1, off, none⟩) (fun j z hj => by
          rw [List.getElem?_drop] at hj
          obtain ⟨u, hu⟩ := getElem?_of_size hn hj
          exact ⟨u, by rw [cell_blk hg]; exact hu, h1 _ _ hj, hr _ _ _ hj hu⟩) h
        exact ⟨u, by simpa [Instr.loadAt, Instr.sureAddr] using e1, e2⟩
    · cases h
  case eptr k ver i j =>
    split at h
    · rename_i e xs hb
      split at h
      · rename_i y hy
        obtain ⟨bb, hb'⟩ := getRow_some hb
        cases hv with
        | pure h' => cases h'
        | eptr k ver i j v hv hp =>
          rw [hp bb e xs hb']
          obtain ⟨vs, hg, hn, hs, hl, hm, hz, h1, hr⟩ := hh.row k ver bb e xs hb'
          obtain ⟨u, e1, e2⟩ := run_loadVar' (P := P) (o := o) (τ := τ) (ad := ⟨(τ k).1, i * P.cellsOf e + j, none⟩) (fun j' z hj => by
            rw [List.getElem?_drop] at hj
            have hlt : j + j' < P.cellsOf e := by rw [← hz i y hy]; exact (List.getElem?_eq_some_iff.1 hj).1
            have hi : i < xs.length := (List.getElem?_eq_some_iff.1 hy).1
            have hlt2 : i * P.cellsOf e + (j + j') < vs.size := by
              rw [hn]
              calc i * P.cellsOf e + (j + j') < i * P.cellsOf e + P.cellsOf e := by omega
                _ = (i + 1) * P.cellsOf e := by rw [Nat.add_mul, Nat.one_mul]
                _ ≤ (τ k).2 * P.cellsOf e := Nat.mul_le_mul_right _ (by omega)
            refine ⟨vs[i * P.cellsOf e + (j + j')], ?_, h1 i y _ z hy hj, .pure (hr i y _ z _ hy hj (Array.getElem?_eq_getElem hlt2))⟩
            rw [cell_blk hg, Nat.add_assoc]
            exact Array.getElem?_eq_getElem hlt2) h
          exact ⟨u, by simpa [Instr.loadAt, Instr.sureAddr] using e1, e2⟩
      · cases h
    · cases h

theorem fld_some {T : TypeId} {f off size : Nat} {F : TypeId} (h : fld P T f = some (off, size, F)) : ∃ fs fd i, P.underlying T = some (.struct fs) ∧ fs[f]? = some fd ∧ P.info? fd.type = some i ∧ fd.offset = off ∧ i.size = size ∧ fd.type = F := by
  unfold fld at h
  split at h
  · rename_i fs hu
    split at h
    · rename_i fd hf
      split at h
      · rename_i i hi
        simp only [Option.some.injEq, Prod.mk.injEq] at h
        exact ⟨fs, fd, i, hu, hf, hi, h.1, h.2.1, h.2.2⟩
      · cases h
    · cases h
  · cases h
theorem run_fieldAt {T : TypeId} {f off size : Nat} {F : TypeId} (h : fld P T f = some (off, size, F)) (hs : size ≠ 0) (ad : Addr) : (Instr.fieldAt T (.pointer (some ad)) f).run P w = .ok (.pointer (some (ad.add off))) w := by
  obtain ⟨fs, fd, i, hu, hf, hi, rfl, rfl, rfl⟩ := fld_some h
  simp [Instr.fieldAt, run_underlying hu, hf, Instr.sureAddr, fieldPlace, run_sizeOf hi, hs]
theorem fieldAddr_sound {x : PV} {v : Value} {T : TypeId} {f : Nat} {y : PV} (hv : Val P o τ w x v) (h : absFieldAddr P o T x f = some y) : ∃ u, (Instr.fieldAt T v f).run P w = .ok u w ∧ Val P o τ w y u := by
  unfold absFieldAddr at h
  split at h
  · rename_i off size F hf
    split at h
    · cases h
    · rename_i hs
      cases x <;> simp only [] at h <;> try (cases h; done)
      case mem cs =>
        cases h
        cases hv.mem_inv with
        | mem cs ad us hB hu hr =>
          refine ⟨_, run_fieldAt hf hs ad, .pure (.mem _ _ (fun j => us (off + j)) (fun hne => ?_) (fun j z hj => ?_) fun j z hj => ?_)⟩
          · rw [add_block]; exact hB (by rintro rfl; simp at hne)
          · rw [List.getElem?_drop] at hj
            rw [add_add]
            exact hu _ _ hj
          · rw [List.getElem?_drop] at hj
            exact hr _ _ hj
      case ptr k ver off' =>
        obtain ⟨⟨t, cs⟩, hb0, rfl⟩ := Option.map_eq_some_iff.1 h
        obtain ⟨bb, hb⟩ := getBox_some hb0
        cases hv with
        | pure h' => cases h'
        | ptr k ver off' v hv hp =>
          rw [hp bb t cs hb]
          refine ⟨_, run_fieldAt hf hs _, .ptr _ _ _ _ hv fun _ t' cs' _ => ?_⟩
          rw [add_lit]
      case eptr k ver i j =>
        obtain ⟨⟨e, xs⟩, hb0, rfl⟩ := Option.map_eq_some_iff.1 h
        obtain ⟨bb, hb⟩ := getRow_some hb0
        cases hv with
        | pure h' => cases h'
        | eptr k ver i j v hv hp =>
          rw [hp bb e xs hb]
          refine ⟨_, run_fieldAt hf hs _, .eptr _ _ _ _ _ hv fun _ e' xs' he => ?_⟩
          rw [hb] at he
          cases he
          rw [add_lit, Nat.add_assoc]
  · cases h
theorem selem_some {T e : TypeId} {sz : Nat} (h : selem P T = some (e, sz)) : P.underlying T = some (.slice e) ∧ ∃ i, P.info? e = some i ∧ i.size = sz := by
  unfold selem at h
  split at h
  · rename_i e' hu
    split at h
    · rename_i i hi
      simp only [Option.some.injEq, Prod.mk.injEq] at h
      obtain ⟨rfl, h⟩ := h
      exact ⟨hu, i, hi, h⟩
    · cases h
  · cases h
theorem elem_of {T e : TypeId} (h : P.underlying T = some (.slice e)) : P.elem T = e := by simp [Program.elem, h]
theorem run_indexAt' {T e : TypeId} {sz : Nat} (h : selem P T = some (e, sz)) (ad : Addr) (n c : Nat) (k : IntKind) (i : Int) (h0 : 0 ≤ i) (h1 : i < n) : (Instr.indexAt T (.slice (some ad) n c) (.int k i)).run P w = .ok (.pointer (some (ad.add (i.toNat * sz)))) w := by
  obtain ⟨hu, inf, hi, rfl⟩ := selem_some h
  rw [run_indexAt_slice w T ad n c k i (by rw [elem_of hu]; exact hu), if_pos ⟨h0, h1⟩, elem_of hu, run_sizeOf hi]
  rfl
theorem indexAddr_sound {x y z : PV} {v u : Value} {T : TypeId} (hv : Val P o τ w x v) (hu : Val P o τ w y u) (h : absIndexAddr P o T x y = some z) : ∃ r, (Instr.indexAt T v u).run P w = .ok r w ∧ Val P o τ w z r := by
  unfold absIndexAddr at h
  split at h
  · rename_i e sz k n hs
    rw [hu.int_inv]
    cases x <;> simp only [] at h <;> try (cases h; done)
    case sl xs =>
      split at h
      · rename_i h0
        split at h
        · rename_i y hy
          split at h
          · rename_i hl
            cases h
            have hlt : n.toNat < xs.length := (List.getElem?_eq_some_iff.1 hy).1
            cases hv.sl_inv with
            | sl0 a c => simp at hlt
            | sl xs ad n' c sz' us hn hp hc hB hz hcu hr =>
              have hsz : sz' = sz := by rw [← hz _ _ hy]; exact hl
              subst hsz
              refine ⟨_, run_indexAt' hs ad n' c k n h0 (by omega), .pure (.mem _ _ (fun j => us n.toNat j) (fun _ => by rw [add_block]; exact hB) (fun j z hj => ?_) fun j z hj => hr _ _ _ _ hy hj)⟩
              rw [add_add]
              exact hcu _ _ _ _ hy hj
          · cases h
        · cases h
      · cases h
    case ref kk ver =>
      split at h
      · rename_i e' xs hb
        obtain ⟨bb, hb'⟩ := getRow_some hb
        split at h
        · rename_i hc
          obtain ⟨rfl, h0, hlt⟩ := hc
          cases h
          cases hv with
          | pure h' => cases h'
          | ref kk ver v hv hp =>
            rw [hp bb _ xs hb']
            refine ⟨_, run_indexAt' hs _ _ _ k n h0 hlt, .eptr _ _ _ _ _ hv fun _ e2 xs2 he => ?_⟩
            rw [hb'] at he
            cases he
            obtain ⟨_, inf, hi, rfl⟩ := selem_some hs
            rw [add_lit, cellsOf_info hi]
            simp
        · cases h
      · cases h
  · cases h
theorem kd_slice {T : TypeId} (h : kd P T = .slice) : ∃ e, P.underlying T = some (.slice e) := by
  unfold kd at h
  split at h <;> first | exact ⟨_, by assumption⟩ | cases h
theorem kd_string {T : TypeId} (h : kd P T = .string) : P.underlying T = some .string := by
  unfold kd at h
  split at h <;> first | assumption | cases h
theorem kd_bool {T : TypeId} (h : kd P T = .bool) : P.underlying T = some .bool := by
  unfold kd at h
  split at h <;> first | assumption | cases h
theorem len_sound {x y : PV} {v : Value} {T ty : TypeId} (hv : Val P o τ w x v) (h : absLen P o T x = some y) : ∃ u, (Builtin.len_ #[T] ty #[v]).run P w = .ok u w ∧ Val P o τ w y u := by
  unfold absLen at h
  split at h
  · rename_i hk
    obtain ⟨e, he⟩ := kd_slice hk
    obtain ⟨a, rfl⟩ := hv.nil_inv
    cases h
    exact ⟨_, by simp [Builtin.len_, run_underlying he, goInt], .int_ _ _⟩
  · rename_i xs hk
    obtain ⟨e, he⟩ := kd_slice hk
    cases h
    cases hv.sl_inv with
    | sl0 a c => exact ⟨_, by simp [Builtin.len_, run_underlying he, goInt], .int_ _ _⟩
    | sl xs ad n' c sz' us hn hp hc hB hz hcu hr => exact ⟨.int .i64 n', by simp [Builtin.len_, run_underlying he, goInt], by rw [hn]; exact .int_ _ _⟩
  · rename_i k ver hk
    obtain ⟨e, he⟩ := kd_slice hk
    cases hb : getRow o k ver with
    | none => simp [hb] at h
    | some p =>
      simp only [hb, Option.map_some, Option.some.injEq] at h
      subst h
      obtain ⟨bb, hb'⟩ := getRow_some (t := p.1) (cs := p.2) hb
      cases hv with
      | pure h' => cases h'
      | ref k ver v hv hp =>
        rw [hp bb _ _ hb']
        exact ⟨_, by simp [Builtin.len_, run_underlying he, goInt], .int_ _ _⟩
  · rename_i s hk
    cases h
    rw [hv.str_inv]
    exact ⟨_, by simp [Builtin.len_, run_underlying (kd_string hk), goInt], .int_ _ _⟩
  · cases h
/-! Maps of one's own. -/
theorem find_s (d : TypeDesc) (hd : d = .string) (k : ByteArray) : ∀ (es : List MapEntry) (l : List (ByteArray × Int)) (i : Nat), es.map (fun e => (e.key, e.val)) = (Mp.s l).pairs →
    (Instr.findNow d (.string k) es i = some none ∧ mget l k = 0 ∧ (∀ v, mput l k v = l ++ [(k, v)])) ∨ ∃ j e, Instr.findNow d (.string k) es i = some (some (i + j, .int .i64 (mget l k))) ∧ es[j]? = some e ∧ e.key = .string k ∧ ∀ v, mput l k v = l.set j (k, v)
  | [], [], i, h => .inl ⟨rfl, rfl, fun v => rfl⟩
  | [], p :: l, i, h => by simp [Mp.pairs] at h
  | e :: es, [], i, h => by simp [Mp.pairs] at h
  | e :: es, (a, x) :: l, i, h => by
    subst hd
    simp only [Mp.pairs, List.map_cons, List.cons.injEq, Prod.mk.injEq] at h
    obtain ⟨⟨h1, h2⟩, h3⟩ := h
    by_cases hk : a = k
    · subst hk
      refine .inr ⟨0, e, ?_, rfl, h1, fun v => by simp [mput]⟩
      simp [Instr.findNow, h1, Instr.sameNow, h2, mget, (MapKept.bytes_beq a a).2 rfl]
    · have hb : (k == a) = false := by
        cases hq : (k == a) with
        | false => rfl
        | true => exact absurd ((MapKept.bytes_beq k a).1 hq).symm hk
      rcases find_s .string rfl k es l (i + 1) h3 with ⟨g1, g2, g3⟩ | ⟨j, e', g1, g2, g3, g4⟩
      · refine .inl ⟨by simp [Instr.findNow, h1, Instr.sameNow, hb, g1], by simp [mget, hk, g2], fun v => by simp [mput, hk, g3 v]⟩
      · refine .inr ⟨j + 1, e', by simp [Instr.findNow, h1, Instr.sameNow, hb, g1, mget, hk]; omega, g2, g3, fun v => by simp [mput, hk, g4 v]⟩
theorem find_i (d : TypeDesc) (hd : d = .int .i64) (k : Int) : ∀ (es : List MapEntry) (l : List (Int × Int)) (i : Nat), es.map (fun e => (e.key, e.val)) = (Mp.i l).pairs →
    (Instr.findNow d (.int .i64 k) es i = some none ∧ mget l k = 0 ∧ (∀ v, mput l k v = l ++ [(k, v)])) ∨ ∃ j e, Instr.findNow d (.int .i64 k) es i = some (some (i + j, .int .i64 (mget l k))) ∧ es[j]? = some e ∧ e.key = .int .i64 k ∧ ∀ v, mput l k v = l.set j (k, v)
  | [], [], i, h => .inl ⟨rfl, rfl, fun v => rfl⟩
  | [], p :: l, i, h => by simp [Mp.pairs] at h
  | e :: es, [], i, h => by simp [Mp.pairs] at h
  | e :: es, (a, x) :: l, i, h => by
    subst hd
    simp only [Mp.pairs, List.map_cons, List.cons.injEq, Prod.mk.injEq] at h
    obtain ⟨⟨h1, h2⟩, h3⟩ := h
    by_cases hk : a = k
    · subst hk
      refine .inr ⟨0, e, ?_, rfl, h1, fun v => by simp [mput]⟩
      simp [Instr.findNow, h1, Instr.sameNow, h2, mget]
    · have hb : (k == a) = false := by simpa using Ne.symm hk
      rcases find_i (.int .i64) rfl k es l (i + 1) h3 with ⟨g1, g2, g3⟩ | ⟨j, e', g1, g2, g3, g4⟩
      · refine .inl ⟨by simp [Instr.findNow, h1, Instr.sameNow, hb, g1], by simp [mget, hk, g2], fun v => by simp [mput, hk, g3 v]⟩
      · refine .inr ⟨j + 1, e', by simp [Instr.findNow, h1, Instr.sameNow, hb, g1, mget, hk]; omega, g2, g3, fun v => by simp [mput, hk, g4 v]⟩
theorem mkd_some {T : TypeId} {b : Mk} (h : mkd P T = some b) : ∃ k e i, P.underlying T = some (.map k e) ∧ P.underlying k = some (match b with | .s => .string | _ => .int .i64) ∧ P.info? e = some i ∧ i.zero = some (match b with | .r => .slice none 0 0 | _ => .int .i64 0) := by
  have hz : ∀ {x : Option Value}, zInt x = true → x = some (.int .i64 0) := by
    intro x hx
    unfold zInt at hx
    split at hx
    · rfl
    · cases hx
  have hn : ∀ {x : Option Value}, zNil x = true → x = some (.slice none 0 0) := by
    intro x hx
    unfold zNil at hx
    split at hx
    · rfl
    · cases hx
  unfold mkd at h
  split at h
  · rename_i k e hu
    split at h
    · rename_i i hk hi
      split at h
      · rename_i hq; cases h; exact ⟨k, e, i, hu, hk, hi, hz hq⟩
      · cases h
    · rename_i i hk hi
      split at h
      · rename_i hq; cases h; exact ⟨k, e, i, hu, hk, hi, hz hq⟩
      · split at h
        · rename_i hq; cases h; exact ⟨k, e, i, hu, hk, hi, hn hq⟩
        · cases h
    · cases h
  · cases h
theorem find_r {R : PV → Value → Prop} (d : TypeDesc) (hd : d = .int .i64) (k : Int) : ∀ (es : List MapEntry) (l : List (Int × PV)) (i : Nat), es.length = l.length → (∀ (j : Nat) (c : Int) (z : PV) (e : MapEntry), l[j]? = some (c, z) → es[j]? = some e → e.key = .int .i64 c ∧ R z e.val) →
    (Instr.findNow d (.int .i64 k) es i = some none ∧ mgetP l k = .nil ∧ (∀ v, mputP l k v = l ++ [(k, v)])) ∨ ∃ j e z, Instr.findNow d (.int .i64 k) es i = some (some (i + j, e.val)) ∧ es[j]? = some e ∧ l[j]? = some (k, z) ∧ mgetP l k = z ∧ R z e.val ∧ e.key = .int .i64 k ∧ ∀ v, mputP l k v = l.set j (k, v)
  | [], [], i, _, h => .inl ⟨rfl, rfl, fun v => rfl⟩
  | [], p :: l, i, hl, h => by simp at hl
  | e :: es, [], i, hl, h => by simp at hl
  | e :: es, (a, x) :: l, i, hl, h => by
    subst hd
    obtain ⟨h1, h2⟩ := h 0 a x e rfl rfl
    have h3 : ∀ (j : Nat) (c : Int) (z : PV) (e : MapEntry), l[j]? = some (c, z) → es[j]? = some e → e.key = .int .i64 c ∧ R z e.val := fun j c z e hz he => h (j + 1) c z e (by simpa using hz) (by simpa using he)
    by_cases hk : a = k
    · subst hk
      refine .inr ⟨0, e, x, ?_, rfl, rfl, by simp [mgetP], h2, h1, fun v => by simp [mputP]⟩
      simp [Instr.findNow, h1, Instr.sameNow]
    · have hb : (k == a) = false := by simpa using Ne.symm hk
      rcases find_r (.int .i64) rfl k es l (i + 1) (by simpa using hl) h3 with ⟨g1, g2, g3⟩ | ⟨j, e', z, g1, g2, g3, g4, g5, g6, g7⟩
      · refine .inl ⟨by simp [Instr.findNow, h1, Instr.sameNow, hb, g1], by simp [mgetP, hk, g2], fun v => by simp [mputP, hk, g3 v]⟩
      · refine .inr ⟨j + 1, e', z, by simp [Instr.findNow, h1, Instr.sameNow, hb, g1]; omega, by simpa using g2, by simpa using g3, by simp [mgetP, hk, g4], g5, g6, fun v => by simp [mputP, hk, g7 v]⟩
theorem getMap_some {k v : Nat} {m : Mp} (h : getMap o k v = some m) : ∃ b, o k = (v, some (b, .mp m)) := by
  unfold getMap at h
  split at h
  · rename_i v' b m' hk
    split at h
    · rename_i hv; cases h; subst hv; exact ⟨b, hk⟩
    · cases h
  · cases h
theorem mapOf_some {x : PV} {v : Value} {m : Mp} (hh : Holds P o τ w) (hv : Val P o τ w x v) (h : mapOf o x = some m) : ∃ k ver b, x = .mref k ver ∧ o k = (ver, some (b, .mp m)) ∧ v = m.at (τ k).1 ∧ MapAt P o τ w (τ k).1 m := by
  unfold mapOf at h
  split at h
  · rename_i k ver
    obtain ⟨b, hb⟩ := getMap_some h
    cases hv with
    | pure h' => cases h'
    | mref k ver v hv hp => exact ⟨k, ver, b, rfl, hb, hp b m hb, hh.mp k ver b m hb⟩
  · cases h
theorem look_sound {T : TypeId} {x i : PV} {v vi : Value} {y : PV} (hh : Holds P o τ w) (hv : Val P o τ w x v) (hi : Val P o τ w i vi) (h : absLook (mkd P T) (mapOf o x) i = some y) : ∃ u, (Instr.lookup T v vi false).run P w = .ok u w ∧ Val P o τ w y u := by
  unfold absLook at h
  split at h
  · rename_i l k hm ho
    cases h
    obtain ⟨kk, e, it, hT, hk, hz, h0⟩ := mkd_some hm
    obtain ⟨q, ver, b, rfl, hq, hvq, hma⟩ := mapOf_some hh hv ho
    rw [Mp.at_map rfl] at hvq
    subst hvq
    obtain ⟨es, clock, hb, hes⟩ := hma.map rfl
    obtain rfl := hi.str_inv
    refine ⟨.int .i64 (mget l k), ?_, .int_ _ _⟩
    have hik : MapKept.IsKey .string (.string k) := trivial
    rcases find_s .string rfl k es.toList l 0 hes with ⟨g1, g2, _⟩ | ⟨j, e', g1, _⟩
    · simp [Instr.lookup, run_underlying hT, MapKept.run_getObj_map hb, MapKept.run_checkKey hk hik, MapKept.run_findKey hk g1, zeroValue, typeInfo, hz, h0, g2, Result.andThen]
    · simp [Instr.lookup, run_underlying hT, MapKept.run_getObj_map hb, MapKept.run_checkKey hk hik, MapKept.run_findKey hk g1, Result.andThen]
  · rename_i l k hm ho
    cases h
    obtain ⟨kk, e, it, hT, hk, hz, h0⟩ := mkd_some hm
    obtain ⟨q, ver, b, rfl, hq, hvq, hma⟩ := mapOf_some hh hv ho
    rw [Mp.at_map rfl] at hvq
    subst hvq
    obtain ⟨es, clock, hb, hes⟩ := hma.map rfl
    obtain rfl := hi.int_inv
    refine ⟨.int .i64 (mget l k), ?_, .int_ _ _⟩
    have hik : MapKept.IsKey (.int .i64) (.int .i64 k) := by simp [MapKept.IsKey]
    rcases find_i (.int .i64) rfl k es.toList l 0 hes with ⟨g1, g2, _⟩ | ⟨j, e', g1, _⟩
    · simp [Instr.lookup, run_underlying hT, MapKept.run_getObj_map hb, MapKept.run_checkKey hk hik, MapKept.run_findKey hk g1, zeroValue, typeInfo, hz, h0, g2, Result.andThen]
    · simp [Instr.lookup, run_underlying hT, MapKept.run_getObj_map hb, MapKept.run_checkKey hk hik, MapKept.run_findKey hk g1, Result.andThen]
  · rename_i l k hm ho
    cases h
    obtain ⟨kk, e, it, hT, hk, hz, h0⟩ := mkd_some hm
    obtain ⟨q, ver, b, rfl, hq, hvq, hma⟩ := mapOf_some hh hv ho
    rw [Mp.at_map rfl] at hvq
    subst hvq
    obtain ⟨es, clock, hb, hes⟩ := hma.map rfl
    obtain rfl := hi.int_inv
    have hik : MapKept.IsKey (.int .i64) (.int .i64 k) := by simp [MapKept.IsKey]
    obtain ⟨e1, e2, _⟩ := hes
    rcases find_r (R := Val P o τ w) (.int .i64) rfl k es.toList l 0 e1 e2 with ⟨g1, g2, _⟩ | ⟨j, e', z, g1, g2, g3, g4, g5, _⟩
    · refine ⟨.slice none 0 0, ?_, by rw [g2]; exact .pure (.nil none)⟩
      simp [Instr.lookup, run_underlying hT, MapKept.run_getObj_map hb, MapKept.run_checkKey hk hik, MapKept.run_findKey hk g1, zeroValue, typeInfo, hz, h0, Result.andThen]
    · refine ⟨e'.val, ?_, by rw [g4]; exact g5⟩
      simp [Instr.lookup, run_underlying hT, MapKept.run_getObj_map hb, MapKept.run_checkKey hk hik, MapKept.run_findKey hk g1, Result.andThen]
  · cases h
theorem absMput_isIt {b : Option Mk} {m m' : Mp} {i x : PV} (h : absMput b (some m) i x = some m') : m.isIt = false ∧ m'.isIt = false := by
  unfold absMput at h
  split at h
  · rename_i hm; cases hm; cases h; exact ⟨rfl, rfl⟩
  · rename_i hm; cases hm; cases h; exact ⟨rfl, rfl⟩
  · rename_i hm; cases hm; cases h; exact ⟨rfl, rfl⟩
  · cases h
theorem put_run {T : TypeId} {g : Nat} {m m' : Mp} {i x : PV} {vi vx : Value} (hma : MapAt P o τ w g m) (hi : Val P o τ w i vi) (hx : Val P o τ w x vx) (h : absMput (mkd P T) (some m) i x = some m') :
    ∃ w', (Instr.mapUpdate T (.map (some g)) vi vx).run P w = .ok () w' ∧ (∃ x, w'.heap[g]? = some x ∧ MapR (Val P o τ w) m' x) ∧ (∀ b, b ≠ g → w'.heap[b]? = w.heap[b]?) ∧ w'.heap.size = w.heap.size ∧ w'.os = w.os ∧ w'.tape = w.tape ∧ w'.output = w.output := by
  obtain ⟨hni, hni'⟩ := absMput_isIt h
  obtain ⟨es, clock, hb, hes⟩ := hma.map hni
  have fin : ∀ (es' : Array MapEntry) (c' : Nat), EntR (Val P o τ w) m' es'.toList c' → (Instr.mapUpdate T (.map (some g)) vi vx).run P w = .ok () { w with heap := w.heap.setIfInBounds g (.map es' c') } →
      ∃ w', (Instr.mapUpdate T (.map (some g)) vi vx).run P w = .ok () w' ∧ (∃ x, w'.heap[g]? = some x ∧ MapR (Val P o τ w) m' x) ∧ (∀ b, b ≠ g → w'.heap[b]? = w.heap[b]?) ∧ w'.heap.size = w.heap.size ∧ w'.os = w.os ∧ w'.tape = w.tape ∧ w'.output = w.output :=
    fun es' c' he hr => ⟨_, hr, ⟨_, (MapKept.heap_set hb).1, .of hni' he⟩, (MapKept.heap_set hb).2, by simp, rfl, rfl, rfl⟩
  unfold absMput at h
  split at h
  · rename_i l k n hk0 hm0
    cases h
    cases hm0
    obtain ⟨kk, e, it, hT, hk, _⟩ := mkd_some hk0
    obtain rfl := hi.str_inv
    obtain rfl := hx.int_inv
    have hik : MapKept.IsKey .string (.string k) := trivial
    rcases find_s .string rfl k es.toList l 0 hes with ⟨g1, g2, g3⟩ | ⟨j, e', g1, g2, g3, g4⟩
    · refine fin (es.push { key := .string k, val := .int .i64 n, born := clock }) (clock + 1) ?_ ?_
      · rw [g3 n]; show List.map _ _ = _; have hes' : es.toList.map (fun e => (e.key, e.val)) = _ := hes; simp [hes', Mp.pairs]
      · simp [Instr.mapUpdate, run_underlying hT, MapKept.run_getObj_map hb, MapKept.run_checkKey hk hik, MapKept.run_findKey hk g1, MapKept.run_setObj_map _ hb, Result.andThen]
    · have hg : es[j]? = some e' := by simpa using g2
      refine fin (es.modify j fun e => { e with key := .string k, val := .int .i64 n }) clock ?_ ?_
      · rw [g4 n]
        show List.map _ _ = _
        have hes : es.toList.map (fun e => (e.key, e.val)) = _ := hes
        have hlen : es.toList.length = l.length := by have := congrArg List.length hes; simpa [Mp.pairs] using this
        apply List.ext_getElem?
        intro q
        have hq := congrArg (fun z => z[q]?) hes
        simp only [Mp.pairs, List.getElem?_map, Array.getElem?_toList, Array.getElem?_modify, List.getElem?_set] at hq ⊢
        by_cases hjq : j = q
        · subst hjq
          have hl : j < l.length := by rw [← hlen]; simp only [Array.length_toList]; exact (Array.getElem?_eq_some_iff.1 hg).1
          simp [hg, hl]
        · simp only [hjq, if_false]; exact hq
      · simp [Instr.mapUpdate, run_underlying hT, MapKept.run_getObj_map hb, MapKept.run_checkKey hk hik, MapKept.run_findKey hk g1, hg, g3, MapKept.run_keyThatStays hik, MapKept.run_setObj_map _ hb, Result.andThen]
  · rename_i l k n hk0 hm0
    cases h
    cases hm0
    obtain ⟨kk, e, it, hT, hk, _⟩ := mkd_some hk0
    obtain rfl := hi.int_inv
    obtain rfl := hx.int_inv
    have hik : MapKept.IsKey (.int .i64) (.int .i64 k) := by simp [MapKept.IsKey]
    rcases find_i (.int .i64) rfl k es.toList l 0 hes with ⟨g1, g2, g3⟩ | ⟨j, e', g1, g2, g3, g4⟩
    · refine fin (es.push { key := .int .i64 k, val := .int .i64 n, born := clock }) (clock + 1) ?_ ?_
      · rw [g3 n]; show List.map _ _ = _; have hes' : es.toList.map (fun e => (e.key, e.val)) = _ := hes; simp [hes', Mp.pairs]
      · simp [Instr.mapUpdate, run_underlying hT, MapKept.run_getObj_map hb, MapKept.run_checkKey hk hik, MapKept.run_findKey hk g1, MapKept.run_setObj_map _ hb, Result.andThen]
    · have hg : es[j]? = some e' := by simpa using g2
      refine fin (es.modify j fun e => { e with key := .int .i64 k, val := .int .i64 n }) clock ?_ ?_
      · rw [g4 n]
        show List.map _ _ = _
        have hes : es.toList.map (fun e => (e.key, e.val)) = _ := hes
        have hlen : es.toList.length = l.length := by have := congrArg List.length hes; simpa [Mp.pairs] using this
        apply List.ext_getElem?
        intro q
        have hq := congrArg (fun z => z[q]?) hes
        simp only [Mp.pairs, List.getElem?_map, Array.getElem?_toList, Array.getElem?_modify, List.getElem?_set] at hq ⊢
        by_cases hjq : j = q
        · subst hjq
          have hl : j < l.length := by rw [← hlen]; simp only [Array.length_toList]; exact (Array.getElem?_eq_some_iff.1 hg).1
          simp [hg, hl]
        · simp only [hjq, if_false]; exact hq
      · simp [Instr.mapUpdate, run_underlying hT, MapKept.run_getObj_map hb, MapKept.run_checkKey hk hik, MapKept.run_findKey hk g1, hg, g3, MapKept.run_keyThatStays hik, MapKept.run_setObj_map _ hb, Result.andThen]
  · rename_i l k ra rv hk0 hm0
    cases h
    cases hm0
    obtain ⟨kk, e, it, hT, hk, _⟩ := mkd_some hk0
    obtain rfl := hi.int_inv
    have hik : MapKept.IsKey (.int .i64) (.int .i64 k) := by simp [MapKept.IsKey]
    obtain ⟨e1, e2, e3, e4⟩ := hes
    have e1' : es.size = l.length := by simpa using e1
    rcases find_r (R := Val P o τ w) (.int .i64) rfl k es.toList l 0 e1 e2 with ⟨g1, g2, g3⟩ | ⟨j, e', z, g1, g2, g3, g4, g5, g6, g7⟩
    · refine fin (es.push { key := .int .i64 k, val := vx, born := clock }) (clock + 1) ?_ ?_
      · rw [g3]
        refine ⟨by simp [e1'], fun j c z e hj he => ?_, ?_, by simp [e4]⟩
        · rw [List.getElem?_append] at hj
          rw [Array.toList_push, List.getElem?_append, e1] at he
          split at hj
          · rename_i hlt
            rw [if_pos hlt] at he
            exact e2 j c z e hj he
          · rename_i hlt
            rw [if_neg hlt] at he
            cases hq : j - l.length with
            | zero =>
              rw [hq] at hj he
              simp only [List.getElem?_cons_zero, Option.some.injEq, Prod.mk.injEq] at hj he
              obtain ⟨rfl, rfl⟩ := hj
              subst he
              exact ⟨rfl, hx⟩
            | succ q => rw [hq] at hj; simp at hj
        · rw [Array.toList_push, List.map_append, e3, List.length_append, List.length_singleton, List.range_succ, e4]
          rfl
      · simp [Instr.mapUpdate, run_underlying hT, MapKept.run_getObj_map hb, MapKept.run_checkKey hk hik, MapKept.run_findKey hk g1, MapKept.run_setObj_map _ hb, Result.andThen]
    · have hg : es[j]? = some e' := by simpa using g2
      refine fin (es.modify j fun e => { e with key := .int .i64 k, val := vx }) clock ?_ ?_
      · rw [g7]
        have hget : ∀ q, (es.modify j fun e => { e with key := .int .i64 k, val := vx }).toList[q]? = if j = q then (es[q]?).map (fun e => { e with key := .int .i64 k, val := vx }) else es[q]? := fun q => by
          rw [Array.getElem?_toList, Array.getElem?_modify]
        have hborn : (es.modify j fun e => { e with key := .int .i64 k, val := vx }).toList.map (·.born) = es.toList.map (·.born) := by
          apply List.ext_getElem?
          intro q
          rw [List.getElem?_map, hget, List.getElem?_map, Array.getElem?_toList]
          split
          · cases es[q]? <;> rfl
          · rfl
        refine ⟨by simp [e1'], fun q c z2 e hq he => ?_, by rw [hborn, e3, List.length_set], by rw [e4, List.length_set]⟩
        · rw [hget] at he
          rw [List.getElem?_set] at hq
          split at he
          · rename_i hjq
            subst hjq
            have hl : j < l.length := (List.getElem?_eq_some_iff.1 g3).1
            rw [if_pos rfl, if_pos hl] at hq
            rw [hg] at he
            simp only [Option.map_some, Option.some.injEq, Prod.mk.injEq] at he hq
            obtain ⟨rfl, rfl⟩ := hq
            subst he
            exact ⟨rfl, hx⟩
          · rename_i hjq
            rw [if_neg hjq] at hq
            exact e2 q c z2 e hq (by simpa using he)
      · simp [Instr.mapUpdate, run_underlying hT, MapKept.run_getObj_map hb, MapKept.run_checkKey hk hik, MapKept.run_findKey hk g1, hg, g6, MapKept.run_keyThatStays hik, MapKept.run_setObj_map _ hb, Result.andThen]
  · cases h
end
end Go.Sx
/- The abstract machine, part 5: cuts, structs, tests; then every operation that only computes. -/
set_option linter.unusedVariables false
set_option linter.unusedSimpArgs false
namespace Go.Sx
open Go Go.RowKit

section
variable {P : Program} {o : Objs} {τ : Places} {w : World}

theorem bndOf_sound {x : Option PV} {v : Option Value} {d n : Nat} (hv : match x, v with | some x, some v => Val P o τ w x v | none, none => True | _, _ => False) (h : bndOf x d = some n) :
    (x = none ∧ v = none ∧ n = d) ∨ ∃ k, v = some (.int k (n : Int)) := by
  unfold bndOf at h
  split at h
  · cases h
    left
    cases v with
    | none => exact ⟨rfl, rfl, rfl⟩
    | some v => exact hv.elim
  · rename_i k m
    split at h
    · rename_i h0
      cases h
      right
      cases v with
      | none => exact hv.elim
      | some v => exact ⟨k, by rw [Val.int_inv hv, Int.toNat_of_nonneg h0]⟩
    · cases h
  · cases h

theorem run_slice' {T e : TypeId} {sz : Nat} (h : selem P T = some (e, sz)) (a : Option Addr) (n c : Nat) (lo hi : Option Value) (l m : Nat) (hl : (lo = none ∧ l = 0) ∨ ∃ k, lo = some (.int k (l : Int))) (hh : (hi = none ∧ m = n) ∨ ∃ k, hi = some (.int k (m : Int))) (h1 : l ≤ m) (h2 : m ≤ c) :
    (Instr.sliceAt T (.slice a n c) lo hi none).run P w = .ok (.slice (if c = l then a else a.map (·.add (l * sz))) (m - l) (c - l)) w := by
  obtain ⟨hu, inf, hi', rfl⟩ := selem_some h
  have hm : (m : Int) ≤ c := by omega
  have hlm : (l : Int) ≤ m := by omega
  rcases hl with ⟨rfl, rfl⟩ | ⟨k, rfl⟩ <;> rcases hh with ⟨rfl, rfl⟩ | ⟨k', rfl⟩ <;>
    simp [Instr.sliceAt, Instr.slice, run_underlying hu, Instr.sliceBounds, Instr.sliceBound, asIntOf, run_sizeOf hi', hm, hlm, h1, h2]

theorem slice_sound {x y : PV} {v : Value} {T : TypeId} {lo hi : Option PV} {vl vh : Option Value} (hv : Val P o τ w x v)
    (hl : match lo, vl with | some x, some v => Val P o τ w x v | none, none => True | _, _ => False) (hh : match hi, vh with | some x, some v => Val P o τ w x v | none, none => True | _, _ => False)
    (h : absSlice P T x lo hi = some y) : ∃ u, (Instr.sliceAt T v vl vh none).run P w = .ok u w ∧ Val P o τ w y u := by
  unfold absSlice at h
  split at h
  · rename_i e sz xs hs
    split at h
    · rename_i l m el em
      split at h
      · rename_i hc
        obtain ⟨h1, h2, h3⟩ := hc
        cases h
        have bl := bndOf_sound hl el
        have bh := bndOf_sound hh em
        have key : ∀ a c, v = .slice a xs.length c → xs.length ≤ c → (Instr.sliceAt T v vl vh none).run P w = .ok (.slice (if c = l then a else a.map (·.add (l * sz))) (m - l) (c - l)) w := by
          intro a c hv' hc
          rw [hv']
          exact run_slice' hs a xs.length c vl vh l m (bl.imp (fun h => ⟨h.2.1, h.2.2⟩) id) (bh.imp (fun h => ⟨h.2.1, h.2.2⟩) id) h1 (by omega)
        cases hv.sl_inv with
        | sl0 a c =>
          have e0 : l = 0 := by simp at h2; omega
          have e1 : m = 0 := by simp at h2; omega
          subst e0; subst e1
          exact ⟨_, key a c rfl (by simp), by simp; exact .pure (.sl0 _ _)⟩
        | sl xs ad n' c sz' us hn hp hc hB hz hcu hr =>
          refine ⟨_, key (some ad) c (by rw [hn]) (by omega), .pure ?_⟩
          have hsz : sz' = sz := by
            have h0 : 0 < xs.length := by omega
            rw [← hz 0 _ (List.getElem?_eq_getElem h0)]
            exact h3 _ (List.getElem_mem h0)
          subst hsz
          have hlen : ((xs.take m).drop l).length = m - l := by rw [List.length_drop, List.length_take]; omega
          rcases Nat.eq_zero_or_pos (m - l) with hz0 | hpos
          · have hnil : (xs.take m).drop l = [] := List.eq_nil_of_length_eq_zero (by omega)
            rw [hnil, hz0]
            exact .sl0 _ _
          · rw [if_neg (by omega)]
            have hget : ∀ (i : Nat) (y : PV), ((xs.take m).drop l)[i]? = some y → xs[l + i]? = some y := by
              intro i y hy
              rw [List.getElem?_drop, List.getElem?_take] at hy
              split at hy
              · exact hy
              · cases hy
            refine .sl _ _ _ _ sz' (fun i j => us (l + i) j) hlen hpos (by omega) (by rw [add_block]; exact hB) (fun i y hy => hz _ _ (hget i y hy)) (fun i y j z hy hj => ?_) fun i y j z hy hj => hr _ _ _ _ (hget i y hy) hj
            rw [add_add, ← Nat.add_assoc, ← Nat.add_mul]
            exact hcu _ _ _ _ (hget i y hy) hj
      · cases h
    · cases h
  · cases h

theorem extract_sound {cs : List PV} {v : Value} {i : Nat} {y : PV} (hv : Val P o τ w (.tup cs) v) (h : cs[i]? = some y) : ∃ u, (Instr.extract v i).run P w = .ok u w ∧ Val P o τ w y u := by
  obtain ⟨vs, rfl, hn, hr⟩ := hv.tup_inv
  obtain ⟨u, hu⟩ := getElem?_of_size hn h
  exact ⟨u, by simp [Instr.extract, hu], hr _ _ _ h hu⟩

theorem part_sound {T : TypeId} {cs : List PV} {vs : Array Value} {off : Nat} {y : PV} (hn : vs.size = cs.length) (h1 : ∀ (j : Nat) (z : PV), cs[j]? = some z → z.one = true) (hr : ∀ (j : Nat) (z : PV) (u : Value), cs[j]? = some z → vs[j]? = some u → Val P o τ w z u)
    (hle : off + P.cellsOf T ≤ cs.length) (h : ofCells P T (cs.drop off) = some y) : ∃ u, (part T vs off).run P w = .ok u w ∧ Val P o τ w y u := by
  unfold ofCells at h
  split at h
  · rename_i n ht
    split at h
    · rename_i hl
      cases h
      unfold tinf at ht
      split at ht <;> first | (cases ht; done) | skip
      all_goals
        rename_i hi hu
        simp only [Option.some.injEq, Prod.mk.injEq, true_and] at ht
        rw [cellsOf_info hi, ht] at hle
        refine ⟨.agg (vs.extract off (off + n)), by simp [part, isAgg, run_underlying hu, run_sizeOf hi, ht], .agg _ _ ?_ (fun j z hj => ?_) fun j z u hj hu' => ?_⟩
        · simp; omega
        · rw [List.getElem?_take] at hj
          split at hj
          · rw [List.getElem?_drop] at hj; exact h1 _ _ hj
          · cases hj
        · rw [List.getElem?_take] at hj
          split at hj
          · rename_i hlt
            rw [List.getElem?_drop] at hj
            rw [Array.getElem?_extract] at hu'
            split at hu'
            · exact hr _ _ _ hj hu'
            · cases hu'
          · cases hj
    · cases h
  · rename_i n ht
    rw [List.getElem?_drop] at h
    simp only [Nat.add_zero] at h
    obtain ⟨u, hu⟩ := getElem?_of_size hn h
    refine ⟨u, ?_, hr _ _ _ h hu⟩
    unfold tinf at ht
    split at ht <;> first | (cases ht; done) | skip
    rename_i i d hne hne' hi hd
    have : (isAgg T).run P w = .ok false w := by
      simp only [isAgg, Sem.run_bind, run_underlying hd, Result.andThen_ok]
      cases d <;> first | rfl | exact absurd rfl (hne _) | exact absurd rfl (hne' _ _)
    simp [part, this, hu]
  · cases h
theorem field_sound {x : PV} {v : Value} {T : TypeId} {f : Nat} {y : PV} (hv : Val P o τ w x v) (h : absField P T x f = some y) : ∃ u, (Instr.field T v f).run P w = .ok u w ∧ Val P o τ w y u := by
  unfold absField at h
  split at h
  · rename_i off size F cs hf
    split at h
    · rename_i hle
      obtain ⟨fs, fd, i, hu, hfd, hi, rfl, rfl, rfl⟩ := fld_some hf
      obtain ⟨vs, rfl, hn, h1, hr⟩ := hv.agg_inv
      obtain ⟨u, e1, e2⟩ := part_sound hn h1 hr (by rw [cellsOf_info hi]; exact hle) h
      exact ⟨u, by simp [Instr.field, run_underlying hu, hfd, asAgg, e1], e2⟩
    · cases h
  · cases h

theorem intBin_sound {op : BinOp} {k : IntKind} {a b : Int} {y : PV} (T : TypeId) (h : intBin op k a b = some y) : ∃ u, (binOp op T (.int k a) (.int k b)).run P w = .ok u w ∧ Val P o τ w y u := by
  unfold intBin at h
  split at h <;> first | (cases h; done) | skip
  case h_4 => 
    split at h
    · cases h
    · rename_i hb; cases h; exact ⟨_, by simp [binOp, Op.intDiv, hb], .int_ _ _⟩
  case h_5 => 
    split at h
    · cases h
    · rename_i hb; cases h; exact ⟨_, by simp [binOp, Op.intDiv, hb], .int_ _ _⟩
  all_goals
    cases h
    first
      | exact ⟨_, by simp [binOp, Op.intArith], .int_ _ _⟩
      | exact ⟨_, by simp [binOp, Op.intCmp], .bool_ _⟩
theorem strBin_sound {op : BinOp} {a b : ByteArray} {y : PV} (T : TypeId) (h : strBin op a b = some y) : ∃ u, (binOp op T (.string a) (.string b)).run P w = .ok u w ∧ Val P o τ w y u := by
  unfold strBin at h
  split at h <;> first | (cases h; done) | skip
  case h_1 =>
    split at h
    · rename_i hb
      cases h
      have : ¬ ((a.size + b.size : Nat) : Int) > IntKind.i64.max := by
        have : IntKind.i64.max = 9223372036854775807 := by decide
        omega
      exact ⟨.string (a ++ b), by simp only [binOp, Op.stringOp]; rw [if_neg this]; rfl, .str_ _⟩
    · cases h
  all_goals
    cases h
    exact ⟨_, by simp [binOp, Op.stringOp], .bool_ _⟩

theorem ok1_one {x : PV} (h : ok1 o x = true) : x.one = true := by cases x <;> first | rfl | simp [ok1] at h
theorem Val.one_cell' {x : PV} {v : Value} (h : Val P o τ w x v) (h1 : ok1 o x = true) : v.oneCell' = true := by
  refine h.one_cell (ok1_one h1) (fun k ver e => ?_) (fun k ver off e => ?_) (fun k ver i j e => ?_)
  · subst e
    simp only [ok1] at h1
    obtain ⟨p, hp⟩ := Option.isSome_iff_exists.1 h1
    obtain ⟨b, hb⟩ := getRow_some (t := p.1) (cs := p.2) hp
    exact ⟨b, p.1, p.2, hb⟩
  · subst e
    simp only [ok1] at h1
    obtain ⟨p, hp⟩ := Option.isSome_iff_exists.1 h1
    obtain ⟨b, hb⟩ := getBox_some (t := p.1) (cs := p.2) hp
    exact ⟨b, p.1, p.2, hb⟩
  · subst e
    simp only [ok1] at h1
    obtain ⟨p, hp⟩ := Option.isSome_iff_exists.1 h1
    obtain ⟨b, hb⟩ := getRow_some (t := p.1) (cs := p.2) hp
    exact ⟨b, p.1, p.2, hb⟩
theorem cells_of_one {v : Value} (h : v.oneCell' = true) : v.cells = #[v] := by cases v <;> first | rfl | simp [Value.oneCell'] at h
/-- A value's cells, abstract and real, one by one. -/
theorem cells_val {x : PV} {v : Value} (h : Val P o τ w x v) (h1 : x.cells.all (ok1 o) = true) : v.cells.size = x.cells.length ∧ ∀ (j : Nat) (z : PV) (u : Value), x.cells[j]? = some z → v.cells[j]? = some u → Val P o τ w z u ∧ z.one = true ∧ u.oneCell' = true := by
  have base : x.cells = [x] → v.cells.size = x.cells.length ∧ ∀ (j : Nat) (z : PV) (u : Value), x.cells[j]? = some z → v.cells[j]? = some u → Val P o τ w z u ∧ z.one = true ∧ u.oneCell' = true := by
    intro he
    have hx : ok1 o x = true := by rw [he] at h1; simpa using h1
    have hv := h.one_cell' hx
    rw [he, cells_of_one hv]
    refine ⟨rfl, fun j z u hz hu => ?_⟩
    cases j with
    | zero => simp at hz hu; subst hz; subst hu; exact ⟨h, ok1_one hx, hv⟩
    | succ j => simp at hz
  cases x <;> try exact base rfl
  case agg cs =>
    obtain ⟨vs, rfl, hn, ho, hr⟩ := h.agg_inv
    refine ⟨hn, fun j z u hz hu => ?_⟩
    have hz' : z ∈ cs := List.mem_of_getElem? hz
    have := (List.all_eq_true.1 h1) z hz'
    exact ⟨hr j z u hz hu, ho j z hz, (hr j z u hz hu).one_cell' this⟩

theorem foldl_setIfInBounds (off : Nat) : ∀ (l : List Value) (s : Nat) (cs : Array Value), off + s + l.length ≤ cs.size →
    ((l.zipIdx s).foldl (fun cs (p : Value × Nat) => cs.setIfInBounds (off + p.2) p.1) cs).toList = cs.toList.take (off + s) ++ l ++ cs.toList.drop (off + s + l.length)
  | [], s, cs, _ => by simp
  | v :: l, s, cs, h => by
    simp only [List.zipIdx_cons, List.foldl_cons]
    rw [foldl_setIfInBounds off l (s + 1) _ (by simp at h ⊢; omega)]
    simp only [Array.toList_setIfInBounds, List.length_cons] at h ⊢
    apply List.ext_getElem?
    intro i
    have hcs : cs.toList.length = cs.size := by simp
    simp only [List.getElem?_append, List.length_take, List.length_set, List.getElem?_take, List.getElem?_set, List.getElem?_drop, List.length_append, List.length_cons, List.getElem?_cons]
    grind

theorem fill_sound {place : Nat → Option (Nat × Nat)} : ∀ (parts : List (Nat × PV)) (vparts : List (Nat × Value)) (cells : List PV) (vs : Array Value) (r : List PV),
    (parts.length = vparts.length) → (∀ (j : Nat) (p : Nat × PV) (q : Nat × Value), parts[j]? = some p → vparts[j]? = some q → p.1 = q.1 ∧ Val P o τ w p.2 q.2) →
    vs.size = cells.length → (∀ (j : Nat) (z : PV), cells[j]? = some z → z.one = true) → (∀ (j : Nat) (z : PV) (u : Value), cells[j]? = some z → vs[j]? = some u → Val P o τ w z u) →
    absFill o place cells parts = some r → ∃ us, Instr.fill place vs vparts = some us ∧ us.size = r.length ∧ (∀ (j : Nat) (z : PV), r[j]? = some z → z.one = true) ∧ ∀ (j : Nat) (z : PV) (u : Value), r[j]? = some z → us[j]? = some u → Val P o τ w z u
  | [], vparts, cells, vs, r, hl, hp, hn, h1, hr, h => by
    cases vparts with
    | cons q vp => simp at hl
    | nil => cases h; exact ⟨vs, rfl, hn, h1, hr⟩
  | (i, x) :: parts, vparts, cells, vs, r, hl, hp, hn, h1, hr, h => by
    cases vparts with
    | nil => simp at hl
    | cons q vp =>
      obtain ⟨i', v⟩ := q
      obtain ⟨rfl, hv0⟩ := hp 0 (i, x) (i', v) rfl rfl
      have hv : Val P o τ w x v := hv0
      clear hv0
      simp only [absFill] at h
      split at h
      · cases h
      · rename_i off size hpl
        split at h
        · rename_i hc
          obtain ⟨e1, e2, e3⟩ := hc
          obtain ⟨hs, hcv⟩ := cells_val hv e3
          have hfold := foldl_setIfInBounds off v.cells.toList 0 vs (by simp; omega)
          simp only [Nat.add_zero, Array.length_toList] at hfold
          generalize hA : (v.cells.toList.zipIdx 0).foldl (fun cs (p : Value × Nat) => cs.setIfInBounds (off + p.2) p.1) vs = A at hfold
          have hA' : v.cells.zipIdx.foldl (fun cs (c, j) => cs.setIfInBounds (off + j) c) vs = A := by
            rw [← hA, ← Array.foldl_toList]; simp
          have hsz : A.size = (cells.take off ++ x.cells ++ cells.drop (off + size)).length := by
            rw [← Array.length_toList, hfold]; simp; omega
          have hsc : v.cells.size = size := by rw [hs, e1]
          have hget : ∀ (j : Nat), A[j]? = (vs.toList.take off ++ v.cells.toList ++ vs.toList.drop (off + size))[j]? := by
            intro j; rw [← Array.getElem?_toList, hfold, hsc]
          obtain ⟨us, f1, f2, f3, f4⟩ := fill_sound parts vp (cells.take off ++ x.cells ++ cells.drop (off + size)) A r (by simpa using hl) (fun j p q a b => hp (j + 1) p q a b) hsz
            (fun j z hz => by
              rw [List.getElem?_append] at hz
              split at hz
              · rw [List.getElem?_append] at hz
                split at hz
                · rw [List.getElem?_take] at hz
                  split at hz
                  · exact h1 _ _ hz
                  · cases hz
                · obtain ⟨u, hu⟩ := getElem?_of_size hs hz
                  exact (hcv _ _ u hz hu).2.1
              · rw [List.getElem?_drop] at hz
                exact h1 _ _ hz)
            (fun j z u hz hu => by
              rw [hget] at hu
              have hlt1 : (cells.take off).length = off := by rw [List.length_take]; omega
              have hlt2 : (vs.toList.take off).length = off := by rw [List.length_take]; simp; omega
              have hlx : (cells.take off ++ x.cells).length = off + size := by rw [List.length_append, hlt1, e1]
              have hlv : (vs.toList.take off ++ v.cells.toList).length = off + size := by rw [List.length_append, hlt2]; simp; exact hsc
              rw [List.getElem?_append, hlx] at hz
              rw [List.getElem?_append, hlv] at hu
              by_cases hj : j < off + size
              · rw [if_pos hj] at hz hu
                rw [List.getElem?_append, hlt1] at hz
                rw [List.getElem?_append, hlt2] at hu
                by_cases hj2 : j < off
                · rw [if_pos hj2] at hz hu
                  rw [List.getElem?_take, if_pos hj2] at hz hu
                  exact hr _ _ _ hz (by simpa using hu)
                · rw [if_neg hj2] at hz hu
                  exact (hcv _ _ _ hz (by simpa using hu)).1
              · rw [if_neg hj] at hz hu
                rw [List.getElem?_drop] at hz hu
                exact hr _ _ _ hz (by simpa using hu)) h
          refine ⟨us, ?_, f2, f3, f4⟩
          simp only [Instr.fill, hpl]
          rw [if_neg (by simp [hsc, hn]; omega)]
          rw [← hA'] at f1
          exact f1
        · cases h

theorem build_sound {st : St} {a : Act} (hs : ∀ t, Val P st.o τ w (st.s t) (a.tmps.getD t undef)) {T : TypeId} {parts : Array (Nat × Operand)} {y : PV} (h : absBuild P st.o T (parts.toList.map fun p => (p.1, st.ev p.2)) = some y) :
    ∃ u, (Instr.build T (parts.map fun (i, x) => (i, a.eval x))).run P w = .ok u w ∧ Val P st.o τ w y u := by
  unfold absBuild at h
  split at h
  · rename_i z pl hb
    obtain ⟨r, hr, rfl⟩ := Option.map_eq_some_iff.1 h
    unfold bld at hb
    split at hb
    · rename_i it fields hit hu
      split at hb
      · rename_i z0 places hz hp
        split at hb
        · rename_i hone
          simp only [Option.some.injEq, Prod.mk.injEq] at hb
          obtain ⟨rfl, rfl⟩ := hb
          obtain ⟨us, f1, f2, f3, f4⟩ := fill_sound (P := P) (τ := τ) (w := w) _ (parts.toList.map fun p => (p.1, a.eval p.2)) _ z0.cells r (by simp) (fun j p q hp hq => by
              rw [List.getElem?_map] at hp hq
              obtain ⟨p0, h0, rfl⟩ := Option.map_eq_some_iff.1 hp
              rw [h0] at hq
              cases hq
              exact ⟨rfl, ev_val hs _⟩) (by simp) (fun j z hz => (List.all_eq_true.1 hone) z (List.mem_of_getElem? hz)) (fun j z u hz hu => by
              rw [List.getElem?_map] at hz
              obtain ⟨c, hc, rfl⟩ := Option.map_eq_some_iff.1 hz
              rw [Array.getElem?_toList, hu] at hc
              cases hc
              exact val_const u) hr
          refine ⟨.agg us, run_build w T _ us ?_, .agg _ _ f2 f3 f4⟩
          simp only [Program.built, hit, hu, hz, hp]
          rw [show (parts.map fun (i, x) => (i, a.eval x)).toList = parts.toList.map fun p => (p.1, a.eval p.2) by simp]
          simpa using f1
        · cases hb
      · cases hb
    · cases hb
  · cases h
end
end Go.Sx
/- The abstract machine, part 6: every operation that only computes comes to what 'pureOp' says. -/
set_option linter.unusedVariables false
set_option linter.unusedSimpArgs false
namespace Go.Sx
open Go Go.RowKit

section
variable {P : Program} {E : Env P} {o : Objs} {τ : Places} {w : World}

theorem run_eqGuard (op : BinOp) (T : TypeId) (x y : Operand) (a b : Value) (h1 : ∀ as bs, a = .agg as → b = .agg bs → False) (h2 : a = .nilIface → False) : (eqGuard op T x y a b).run P w = .ok () w := by
  unfold eqGuard
  cases op <;> simp <;> (cases a <;> cases b <;> first | rfl | exact (h1 _ _ rfl rfl).elim | exact (h2 rfl).elim)
theorem fits_vals : ∀ {sh : List Sc} {xs : List PV} {vs : List Value}, fits sh xs = true → vs.length = xs.length → (∀ (j : Nat) (z : PV) (u : Value), xs[j]? = some z → vs[j]? = some u → Val P o τ w z u) → vs = xs.map scVal
  | sh, [], vs, h, hl, hr => by simpa using List.eq_nil_of_length_eq_zero (by simpa using hl)
  | sh, x :: xs, [], h, hl, hr => by simp at hl
  | [], x :: xs, v :: vs, h, hl, hr => by simp [fits] at h
  | s :: sh, x :: xs, v :: vs, h, hl, hr => by
    have h0 := hr 0 x v rfl rfl
    have ht : fits sh xs = true ∧ v = scVal x := by
      cases s <;> cases x <;> simp [fits] at h
      · exact ⟨h.2, h0.int_inv⟩
      · exact ⟨h, h0.bool_inv⟩
      · exact ⟨h, h0.str_inv⟩
    rw [List.map_cons, ← ht.2, ← fits_vals ht.1 (by simpa using hl) (fun j z u a b => hr (j + 1) z u a b)]

theorem run_equal_bool {T : TypeId} (h : P.underlying T = some .bool) (a b : Bool) : (Op.equal T (.bool a) (.bool b)).run P w = .ok (a == b) w := by
  have key : ∀ d, (Op.equalIn (d + 1) T (.bool a) (.bool b)).run P w = .ok (a == b) w := by
    intro d
    unfold Op.equalIn
    simp only [Sem.run_bind, run_underlying h, Result.andThen_ok, Sem.run_pure]
  exact key 9999
theorem bin_sound {op : BinOp} {T : TypeId} {x y z : PV} {u v : Value} (ox oy : Operand) (hu : Val P o τ w x u) (hv : Val P o τ w y v) (h : absBin P E op T x y = some z) :
    ∃ r, ((do eqGuard op T ox oy u v; binOp op T u v) : Sem Value).run P w = .ok r w ∧ Val P o τ w z r := by
  unfold absBin at h
  split at h
  · rename_i k a k' b
    split at h
    · rename_i hk
      subst hk
      rw [hu.int_inv, hv.int_inv]
      obtain ⟨r, h1, h2⟩ := intBin_sound (P := P) (o := o) (τ := τ) (w := w) T h
      exact ⟨r, by rw [Sem.run_bind, run_eqGuard _ _ _ _ _ _ (by simp) (by simp)]; exact h1, h2⟩
    · cases h
  · rename_i a b
    rw [hu.str_inv, hv.str_inv]
    obtain ⟨r, h1, h2⟩ := strBin_sound (P := P) (o := o) (τ := τ) (w := w) T h
    exact ⟨r, by rw [Sem.run_bind, run_eqGuard _ _ _ _ _ _ (by simp) (by simp)]; exact h1, h2⟩
  · rename_i a b
    rw [hu.bool_inv, hv.bool_inv]
    split at h
    · rename_i hk
      cases h
      exact ⟨_, by rw [Sem.run_bind, run_eqGuard _ _ _ _ _ _ (by simp) (by simp)]; simp only [Result.andThen_ok, binOp, Sem.run_bind, run_equal_bool (kd_bool hk), Sem.run_pure], .bool_ _⟩
    · rename_i hk
      cases h
      exact ⟨_, by rw [Sem.run_bind, run_eqGuard _ _ _ _ _ _ (by simp) (by simp)]; simp only [Result.andThen_ok, binOp, Sem.run_bind, run_equal_bool (kd_bool hk), Sem.run_pure], .bool_ _⟩
    · cases h
  · rename_i xs ys
    obtain ⟨us, rfl, hn, h1, hr⟩ := hu.agg_inv
    obtain ⟨vs, rfl, hn', h1', hr'⟩ := hv.agg_inv
    split at h
    · rename_i sh hsh
      split at h
      · rename_i hf
        rw [Bool.and_eq_true] at hf
        have e1 : us = (xs.map scVal).toArray := by
          rw [← fits_vals hf.1 (vs := us.toList) (by simpa using hn) (fun j z u a b => hr j z u a (by simpa using b))]
        have e2 : vs = (ys.map scVal).toArray := by
          rw [← fits_vals hf.2 (vs := vs.toList) (by simpa using hn') (fun j z u a b => hr' j z u a (by simpa using b))]
        have key := E.ok T sh hsh xs ys hf.1 hf.2 ox oy w
        rw [e1, e2]
        split at h
        · cases h; exact ⟨_, key.1, .bool_ _⟩
        · cases h; exact ⟨_, key.2, .bool_ _⟩
        · cases h
      · cases h
    · cases h
  · cases h

theorem optVal {st : St} {a : Act} (hs : ∀ t, Val P st.o τ w (st.s t) (a.tmps.getD t undef)) (x : Option Operand) : match x.map st.ev, x.map a.eval with | some x, some v => Val P st.o τ w x v | none, none => True | _, _ => False := by
  cases x with
  | none => trivial
  | some x => exact ev_val hs x

/-- The operations that only compute. -/
theorem nil_sound {op : BinOp} {T : TypeId} {x z : PV} {y : Operand} {u : Value} (ox oy : Operand) (ev : Operand → Value) (hev : ∀ v, ev (.const v) = v) (hu : Val P o τ w x u) (h : nilCmp P op T x y = some z) :
    ∃ r, ((do eqGuard op T ox oy u (ev y); binOp op T u (ev y)) : Sem Value).run P w = .ok r w ∧ Val P o τ w z r := by
  unfold nilCmp at h
  split at h
  · rename_i q xs hk
    obtain ⟨e, he⟩ := kd_slice hk
    rw [hev]
    have hu' := hu.sl_inv
    cases hu' with
    | sl _ ad n c sz us hn h0 hc hB hz hu hr =>
      have h1 : ∀ d, (Op.equalIn (d + 1) T (.slice (some ad) n c) (.slice none 0 0)).run P w = .ok false w := by
        intro d
        simp [Op.equalIn, run_underlying he]
      have h2 : (Op.equal T (.slice (some ad) n c) (.slice none 0 0)).run P w = .ok false w := h1 9999
      split at h
      · cases h
        exact ⟨.bool false, by rw [Sem.run_bind, run_eqGuard _ _ _ _ _ _ (by simp) (by simp)]; simp [binOp, h2], .bool_ _⟩
      · cases h
        exact ⟨.bool true, by rw [Sem.run_bind, run_eqGuard _ _ _ _ _ _ (by simp) (by simp)]; simp [binOp, h2], .bool_ _⟩
      · cases h
  · cases h
theorem pure_sound {st : St} {a : Act} (hs : ∀ t, Val P st.o τ w (st.s t) (a.tmps.getD t undef)) (hh : Holds P st.o τ w) {oper : Oper} {x : PV} (h : pureOp P E st oper.op = some x) :
    ∃ v, (execOp a.eval oper).run P w = .ok (.value v) w ∧ Val P st.o τ w x v := by
  obtain ⟨dst, op, type, pos, after, guard⟩ := oper
  have lift : ∀ {s : Sem Value}, (∃ v, s.run P w = .ok v w ∧ Val P st.o τ w x v) → ∃ v, ((do pure (.value (← s))) : Sem Next).run P w = .ok (.value v) w ∧ Val P st.o τ w x v := by
    rintro s ⟨v, h1, h2⟩
    exact ⟨v, by simp [h1], h2⟩
  unfold pureOp at h
  simp only at h
  split at h
  · rename_i y; cases h; exact ⟨_, rfl, ev_val hs y⟩
  · rename_i y; cases h; exact ⟨_, rfl, ev_val hs y⟩
  · rename_i c y z
    split at h
    · rename_i t ht
      cases h
      have hc := ev_val hs c
      rw [ht] at hc
      have hc := hc.bool_inv
      cases t
      · exact ⟨a.eval z, by simp [execOp, hc, asBool], ev_val hs z⟩
      · exact ⟨a.eval y, by simp [execOp, hc, asBool], ev_val hs y⟩
    · cases h
  · rename_i y
    have hy := ev_val hs y
    split at h
    · rename_i cs hc
      cases h
      rw [hc] at hy
      generalize hav : a.eval y = av at hy
      cases hy.mem_inv with
      | mem cs ad us hB hu hr => exact ⟨_, by simp [execOp, hav], hy⟩
    · rename_i k ver off hc
      rw [hc] at hy
      obtain ⟨⟨t, cs⟩, hb, rfl⟩ := Option.map_eq_some_iff.1 h
      obtain ⟨bb, hb'⟩ := getBox_some hb
      refine ⟨a.eval y, ?_, hy⟩
      cases hy with
      | pure h' => cases h'
      | ptr k ver off v hv hp => simp [execOp, hp bb t cs hb']
    · rename_i f b c hc
      cases h
      rw [hc] at hy
      obtain ⟨vf, vc, he, _⟩ := hy.fn_inv
      exact ⟨a.eval y, by simp [execOp, he], hy⟩
    · cases h
  · rename_i op T y z T'
    unfold binPV at h
    split at h
    · rename_i r hr
      cases h
      exact lift (nil_sound y z a.eval (fun _ => rfl) (ev_val hs y) hr)
    · exact lift (bin_sound y z (ev_val hs y) (ev_val hs z) h)
  · rename_i T y
    split at h
    · rename_i b hb
      cases h
      have hy := ev_val hs y
      rw [hb] at hy
      exact ⟨.bool !b, by simp [execOp, hy.bool_inv, Op.unary], .bool_ _⟩
    · cases h
  · rename_i T y
    split at h
    · rename_i k n hb
      cases h
      have hy := ev_val hs y
      rw [hb] at hy
      exact ⟨.int k (k.wrap (0 - n)), by simp [execOp, hy.int_inv, Op.unary, Op.intArith], .int_ _ _⟩
    · cases h
  · rename_i T y f
    exact lift (fieldAddr_sound (ev_val hs y) h)
  · rename_i T y f
    exact lift (field_sound (ev_val hs y) h)
  · rename_i T y i
    exact lift (indexAddr_sound (ev_val hs y) (ev_val hs i) h)
  · rename_i T y i
    have hy := ev_val hs y
    have hi := ev_val hs i
    split at h
    · rename_i s k n hk h1 h2
      rw [h1] at hy
      rw [h2] at hi
      split at h
      · rename_i h0
        obtain ⟨b, hb, rfl⟩ := Option.map_eq_some_iff.1 h
        exact ⟨.int .u8 b.toNat, by simp [execOp, hy.str_inv, hi.int_inv, Instr.index, asIntOf, run_underlying (kd_string hk), h0, hb], .int_ _ _⟩
      · cases h
    · cases h
  · rename_i T y
    exact lift (load_sound hh (ev_val hs y) h)
  · rename_i T y i
    exact lift (look_sound hh (ev_val hs y) (ev_val hs i) h)
  · rename_i y i
    have hy := ev_val hs y
    split at h
    · rename_i cs hc
      rw [hc] at hy
      exact lift (extract_sound hy h)
    · cases h
  · rename_i T parts
    exact lift (build_sound hs h)
  · rename_i f first caps
    cases h
    refine ⟨.func (.func f) (first.map a.eval) (caps.map a.eval), by simp [execOp, Instr.makeFunc], .fn _ _ _ _ _ (by simp) (by simp) (fun j z u hz hu => ?_) fun j z u hz hu => ?_⟩
    · rw [List.getElem?_map] at hz
      rw [Array.getElem?_map] at hu
      obtain ⟨x0, hx0, rfl⟩ := Option.map_eq_some_iff.1 hz
      rw [Array.getElem?_toList] at hx0
      rw [hx0] at hu
      cases hu
      exact ev_val hs x0
    · rw [List.getElem?_map] at hz
      rw [Array.getElem?_map] at hu
      obtain ⟨x0, hx0, rfl⟩ := Option.map_eq_some_iff.1 hz
      rw [Array.getElem?_toList] at hx0
      rw [hx0] at hu
      cases hu
      exact ev_val hs x0
  · rename_i T y lo hi
    exact lift (slice_sound (ev_val hs y) (optVal hs lo) (optVal hs hi) h)
  · rename_i c
    obtain ⟨callee, args, ts⟩ := c
    simp only at h
    split at h
    · rename_i y T e1 e2
      obtain rfl : args = #[y] := by apply Array.ext'; simpa using e1
      obtain rfl : ts = #[T] := by apply Array.ext'; simpa using e2
      obtain ⟨u, h1, h2⟩ := len_sound (P := P) (o := st.o) (τ := τ) (w := w) (ty := type) (ev_val hs y) h
      exact ⟨u, by simp [execOp, resolve, invoke, builtin, h1], h2⟩
    · rename_i ts' y z e1
      obtain rfl : args = #[y, z] := by apply Array.ext'; simpa using e1
      unfold absMax at h
      split at h
      · rename_i k c k' d e1 e2
        split at h
        · rename_i hk
          subst hk
          cases h
          have hy := ev_val hs y
          have hz := ev_val hs z
          rw [e1] at hy
          rw [e2] at hz
          exact ⟨.int k (if d > c then d else c), by simp [execOp, resolve, invoke, builtin, Builtin.max_, Builtin.max2, hy.int_inv, hz.int_inv], .int_ _ _⟩
        · cases h
      · cases h
    · rename_i ts' y z e1
      obtain rfl : args = #[y, z] := by apply Array.ext'; simpa using e1
      unfold absMin at h
      split at h
      · rename_i k c k' d e1 e2
        split at h
        · rename_i hk
          subst hk
          cases h
          have hy := ev_val hs y
          have hz := ev_val hs z
          rw [e1] at hy
          rw [e2] at hz
          exact ⟨.int k (if d < c then d else c), by simp [execOp, resolve, invoke, builtin, Builtin.min_, Builtin.min2, hy.int_inv, hz.int_inv], .int_ _ _⟩
        · cases h
      · cases h
    · cases h
  · cases h
end
end Go.Sx
/- The abstract machine, part 7: a state and the machine; what a value says once its rows are taken for frozen ('res'); giving up writing ('freeze'); a new object. -/
set_option linter.unusedVariables false
set_option linter.unusedSimpArgs false
namespace Go.Sx
open Go Go.RowKit

def upd {α : Type} (f : Nat → α) (k : Nat) (v : α) : Nat → α := fun i => if i = k then v else f i
@[simp] theorem upd_same {α : Type} (f : Nat → α) (k : Nat) (v : α) : upd f k v k = v := by simp [upd]
theorem upd_ne {α : Type} (f : Nat → α) {k i : Nat} (v : α) (h : i ≠ k) : upd f k v i = f i := by simp [upd, h]
def St.new (st : St) (k : Nat) (x : Ob) : St := { st with o := upd st.o k ((st.o k).1 + 1, some (true, x)) }
def St.set (st : St) (k v : Nat) (x : Ob) : St := { st with o := upd st.o k (v, some (true, x)) }
def St.kill (st : St) (k : Nat) : St := { st with o := upd st.o k ((st.o k).1, none) }
def frz : Nat × Option (Bool × Ob) → Nat × Option (Bool × Ob)
  | (v, some (b, .other)) => (v, some (b, .other))
  | (v, some (_, x)) => (v, some (false, x))
  | (v, none) => (v, none)
def St.freeze (st : St) (ks : List Nat) : St := { st with o := fun i => if ks.contains i then frz (st.o i) else st.o i }

/-- Of the memory that was there before: what may be written, what may be read. -/
structure Im where
  w : Nat → Prop
  old : Nat → Prop
  o : Objs
  τ : Places
structure Frame (w0 : World) (imp : Nat → Prop) (w : World) : Prop where
  os : w.os = w0.os
  tape : w.tape = w0.tape
  output : w.output = w0.output
  size : w0.heap.size ≤ w.heap.size
  block : ∀ b, b < w0.heap.size → ¬ imp b → w.heap[b]? = w0.heap[b]?

theorem Ob.like_refl (x : Ob) : x.like x := by cases x <;> simp [Ob.like]
theorem Ob.like_trans {x y z : Ob} (h1 : x.like y) (h2 : y.like z) : x.like z := by
  cases x <;> cases y <;> simp [Ob.like] at h1 <;> cases z <;> simp [Ob.like] at h2 ⊢
  · exact ⟨h1.1.trans h2.1, h1.2.trans h2.2⟩
  · exact ⟨h1.1.trans h2.1, h1.2.trans h2.2⟩
  · exact h1.trans h2
theorem Ext.trans {o o' o'' : Objs} {τ τ' τ'' : Places} {w w' w'' : World} (h : Ext o τ w o' τ' w') (g : Ext o' τ' w' o'' τ'' w'') : Ext o τ w o'' τ'' w'' where
  fz b hb := ⟨(g.fz b (h.fz b hb).1).1, (g.fz b (h.fz b hb).1).2.trans (h.fz b hb).2⟩
  ver k := Nat.le_trans (h.ver k) (g.ver k)
  same k b' x' hk := by
    have h1 := h.ver k
    have h2 := g.ver k
    rw [hk] at h2
    have e : (o' k).1 = (o k).1 := Nat.le_antisymm h2 h1
    obtain ⟨b1, x1, hk1, l1, t1⟩ := g.same k b' x' (by rw [e]; exact hk)
    obtain ⟨b2, x2, hk2, l2, t2⟩ := h.same k b1 x1 (by rw [hk1, e])
    exact ⟨b2, x2, hk2, Ob.like_trans l2 l1, t1.trans t2⟩
structure Sim (P : Program) (n : Nat) (w0 : World) (imp : Im) (st : St) (τ : Places) (a : Act) (w : World) : Prop where
  defers : a.defers = []
  size : a.tmps.size = n
  slots : ∀ t, Val P st.o τ w (st.s t) (a.tmps.getD t undef)
  holds : Holds P st.o τ w
  frame : Frame w0 imp.w w
  mine : ∀ k ver x, st.o k = (ver, some (true, x)) → x ≠ .other → w0.heap.size ≤ (τ k).1 ∨ imp.w (τ k).1
  far : ∀ b, b < w0.heap.size → imp.old b ∨ imp.w b ∨ ∃ k ver, 1000000000 ≤ k ∧ st.o k = (ver, some (true, .other)) ∧ (τ k).1 = b
  ext : Ext imp.o imp.τ w0 st.o τ w

section
variable {P : Program} {n : Nat} {w0 : World} {imp : Im} {st : St} {τ τ' : Places} {a : Act} {w w' : World} {o o' : Objs}

theorem getD_set {a : Array Value} {d t : Nat} {v : Value} (hd : d < a.size) : (a.setIfInBounds d v).getD t undef = if t = d then v else a.getD t undef := by
  simp only [Array.getD_eq_getD_getElem?, Array.getElem?_setIfInBounds]
  by_cases h : t = d
  · subst h; simp [hd]
  · simp [h, Ne.symm h]
theorem Sim.put (h : Sim P n w0 imp st τ a w) {dst : Option Tmp} (hd : ∀ d, dst = some d → d < n) {x : PV} {v : Value} (hv : Val P st.o τ w x v) : Sim P n w0 imp (st.put dst x) τ (a.put dst v) w := by
  cases dst with
  | none => exact h
  | some d =>
    refine ⟨h.defers, by simp [Act.put, h.size], fun t => ?_, h.holds, h.frame, h.mine, h.far, h.ext⟩
    show Val P st.o τ w (if t = d then x else st.s t) ((a.tmps.setIfInBounds d v).getD t undef)
    rw [getD_set (by rw [h.size]; exact hd d rfl)]
    split
    · exact hv
    · exact h.slots t
theorem Sim.put_undef (h : Sim P n w0 imp st τ a w) {dst : Option Tmp} (hd : ∀ d, dst = some d → d < n) (v : Value) : Sim P n w0 imp (st.put dst .undef) τ (a.put dst v) w := h.put hd (.undef v)
theorem Sim.step (h : Sim P n w0 imp st τ a w) (he : Ext st.o τ w o' τ' w') (hh : Holds P o' τ' w') (hf : Frame w0 imp.w w') (hm : ∀ k ver x, o' k = (ver, some (true, x)) → x ≠ .other → w0.heap.size ≤ (τ' k).1 ∨ imp.w (τ' k).1)
    (hft : ∀ k ver, 1000000000 ≤ k → st.o k = (ver, some (true, .other)) → o' k = (ver, some (true, .other)) ∧ (τ' k).1 = (τ k).1) : Sim P n w0 imp { st with o := o' } τ' a w' :=
  ⟨h.defers, h.size, fun t => (h.slots t).ext he, hh, hf, hm, fun b hb => (h.far b hb).imp id (Or.imp id fun ⟨k, ver, h1, h2, h3⟩ => ⟨k, ver, h1, (hft k ver h1 h2).1, (hft k ver h1 h2).2.trans h3⟩), h.ext.trans he⟩

theorem Holds.lt (hh : Holds P o τ w) {k ver : Nat} {b : Bool} {x : Ob} (h : o k = (ver, some (b, x))) : (τ k).1 < w.heap.size := by
  cases x with
  | box t cs => obtain ⟨vs, hg, _⟩ := hh.box k ver b t cs h; exact (Array.getElem?_eq_some_iff.1 hg).1
  | row e xs => obtain ⟨vs, hg, _⟩ := hh.row k ver b e xs h; exact (Array.getElem?_eq_some_iff.1 hg).1
  | other => exact hh.oth k ver b h
  | mp m => exact (hh.mp k ver b m h).lt

/-- A world with the same memory. -/
theorem Sim.same_heap (h : Sim P n w0 imp st τ a w) (hh : w'.heap = w.heap) (h1 : w'.os = w.os) (h2 : w'.tape = w.tape) (h3 : w'.output = w.output) : Sim P n w0 imp st τ a w' := by
  have he : Ext st.o τ w st.o τ w' := ⟨fun b hb => ⟨⟨by rw [hh]; exact hb.1, hb.2⟩, by rw [hh]⟩, fun k => Nat.le_refl _, fun k b' x' h => ⟨b', x', h, by cases x' <;> simp [Ob.like], rfl⟩⟩
  refine h.step he ⟨fun k ver b t cs hk => ?_, fun k ver b e xs hk => ?_, fun k ver b hk => by rw [hh]; exact h.holds.oth k ver b hk, h.holds.inj, fun k ver x hk => (he.fz _ (h.holds.fro k ver x hk)).1, fun k ver b m hk => (h.holds.mp k ver b m hk).ext he (by rw [hh])⟩ ⟨by rw [h1]; exact h.frame.os, by rw [h2]; exact h.frame.tape, by rw [h3]; exact h.frame.output, by rw [hh]; exact h.frame.size, fun b hb hi => by rw [hh]; exact h.frame.block b hb hi⟩ h.mine (fun k ver _ hk => ⟨hk, rfl⟩)
  · obtain ⟨vs, hg, hn, h1, hr⟩ := h.holds.box k ver b t cs hk
    exact ⟨vs, by rw [hh]; exact hg, hn, h1, fun j z u hz hu => (hr j z u hz hu).ext he⟩
  · obtain ⟨vs, hg, hn, hs, hl, hm, hz, h1, hr⟩ := h.holds.row k ver b e xs hk
    exact ⟨vs, by rw [hh]; exact hg, hn, hs, hl, hm, hz, h1, fun i y j z u hy hj hu => (hr i y j z u hy hj hu).ext he.fz⟩

theorem frz_some {p : Nat × Option (Bool × Ob)} {ver : Nat} {b : Bool} {x : Ob} (h : frz p = (ver, some (b, x))) : ∃ b', p = (ver, some (b', x)) ∧ (b = true → b' = true) ∧ (x ≠ .other → b = false) := by
  obtain ⟨v, q⟩ := p
  cases q with
  | none => simp [frz] at h
  | some q =>
    obtain ⟨b', x'⟩ := q
    cases x' <;> simp only [frz, Prod.mk.injEq, Option.some.injEq] at h <;> obtain ⟨rfl, rfl, rfl⟩ := h
    · exact ⟨b', rfl, by simp, by simp⟩
    · exact ⟨b', rfl, by simp, by simp⟩
    · exact ⟨b', rfl, by simp, by simp⟩
    · exact ⟨b', rfl, by simp, by simp⟩
theorem freeze_some {ks : List Nat} {k ver : Nat} {b : Bool} {x : Ob} (h : (st.freeze ks).o k = (ver, some (b, x))) : ∃ b', st.o k = (ver, some (b', x)) ∧ (b = true → b' = true) := by
  simp only [St.freeze] at h
  split at h
  · obtain ⟨b', h1, h2, _⟩ := frz_some h
    exact ⟨b', h1, h2⟩
  · exact ⟨b, h, fun hb => hb⟩
theorem freeze_other {ks : List Nat} {k ver : Nat} {b : Bool} (h : st.o k = (ver, some (b, .other))) : (st.freeze ks).o k = (ver, some (b, .other)) := by
  simp only [St.freeze]
  split
  · rw [h]; rfl
  · exact h
theorem freeze_keeps {ks : List Nat} {k ver : Nat} {b : Bool} {x : Ob} (h : st.o k = (ver, some (b, x))) : ∃ b', (st.freeze ks).o k = (ver, some (b', x)) := by
  simp only [St.freeze]
  split
  · rw [h]; cases x <;> exact ⟨_, rfl⟩
  · exact ⟨b, h⟩
theorem Sim.freeze (h : Sim P n w0 imp st τ a w) (ks : List Nat) : Sim P n w0 imp (st.freeze ks) τ a w := by
  have hlive : ∀ k, live (st.freeze ks).o k → live st.o k := by
    rintro k ⟨ver, x, hk⟩
    obtain ⟨b', h1, h2⟩ := freeze_some hk
    obtain rfl := h2 rfl
    exact ⟨ver, x, h1⟩
  have hver : ∀ k, ((st.freeze ks).o k).1 = (st.o k).1 := by
    intro k
    simp only [St.freeze]
    split
    · cases hp : st.o k with
      | mk v q => cases q with
        | none => rfl
        | some q => obtain ⟨b, x⟩ := q; cases x <;> rfl
    · rfl
  have he : Ext st.o τ w (st.freeze ks).o τ w := by
    refine ⟨fun b hb => ⟨⟨hb.1, fun k hk => hb.2 k (hlive k hk)⟩, rfl⟩, fun k => by rw [hver k]; exact Nat.le_refl _, fun k b' x' hk => ?_⟩
    obtain ⟨b, h1, _⟩ := freeze_some hk
    exact ⟨b, x', h1, by cases x' <;> simp [Ob.like], rfl⟩
  refine h.step he ⟨fun k ver b t cs hk => ?_, fun k ver b e xs hk => ?_, fun k ver b hk => ?_, fun k k' hk hk' => h.holds.inj k k' (hlive k hk) (hlive k' hk'), fun k ver x hk => ?_, fun k ver b m hk => ?_⟩ h.frame (fun k ver x hk hx => ?_) fun k ver _ hk => ⟨freeze_other hk, rfl⟩
  · obtain ⟨b', h1, _⟩ := freeze_some hk
    obtain ⟨vs, hg, hn, h1, hr⟩ := h.holds.box k ver b' t cs h1
    exact ⟨vs, hg, hn, h1, fun j z u hz hu => (hr j z u hz hu).ext he⟩
  · obtain ⟨b', h1, _⟩ := freeze_some hk
    obtain ⟨vs, hg, hn, hs, hl, hm, hz, h1, hr⟩ := h.holds.row k ver b' e xs h1
    exact ⟨vs, hg, hn, hs, hl, hm, hz, h1, fun i y j z u hy hj hu => (hr i y j z u hy hj hu).ext he.fz⟩
  · obtain ⟨b', h1, _⟩ := freeze_some hk
    exact h.holds.oth k ver b' h1
  · obtain ⟨b', h1, _⟩ := freeze_some hk
    cases b' with
    | false => exact (he.fz _ (h.holds.fro k ver x h1)).1
    | true =>
      refine ⟨h.holds.lt h1, fun k' hk' e => ?_⟩
      have := h.holds.inj k' k (hlive k' hk') ⟨ver, x, h1⟩ e
      subst this
      obtain ⟨v, y, hy⟩ := hk'
      have := hk.symm.trans hy
      simp at this
  · obtain ⟨b', h1, _⟩ := freeze_some hk
    exact (h.holds.mp k ver b' m h1).ext he rfl
  · obtain ⟨b', h1, h2⟩ := freeze_some hk
    obtain rfl := h2 rfl
    exact h.mine k ver x h1 hx

/-! A value whose rows and variables are taken for frozen memory. -/
def res (o : Objs) : Nat → PV → Option PV
  | 0, _ => none
  | n + 1, .ref k v => (getRow o k v).map fun p => .sl p.2
  | n + 1, .ptr k v off => match getBox o k v with
    | some (_, cs) => (cs.mapM (res o n)).map fun cs' => .mem (cs'.drop off)
    | none => none
  | n + 1, .agg cs => (cs.mapM (res o n)).map .agg
  | n + 1, .fn f fs cs => match fs.mapM (res o n), cs.mapM (res o n) with
    | some fs', some cs' => some (.fn f fs' cs')
    | _, _ => none
  | _ + 1, .undef => none
  | _ + 1, .eptr _ _ _ _ => none
  | _ + 1, .mref _ _ => none
  | n + 1, .tup cs => (cs.mapM (res o n)).map .tup
  | _ + 1, .int k n => some (.int k n)
  | _ + 1, .bool b => some (.bool b)
  | _ + 1, .str s => some (.str s)
  | _ + 1, .nil => some (.sl [])
  | _ + 1, .sl xs => some (.sl xs)
  | _ + 1, .mem cs => some (.mem cs)
/-- The objects that a value leads to. -/
def keysOf (o : Objs) : Nat → PV → List Nat
  | 0, _ => []
  | n + 1, .ref k v => [k]
  | n + 1, .ptr k v off => k :: match getBox o k v with
    | some (_, cs) => cs.flatMap (keysOf o n)
    | none => []
  | n + 1, .agg cs => cs.flatMap (keysOf o n)
  | n + 1, .tup cs => cs.flatMap (keysOf o n)
  | n + 1, .fn f fs cs => fs.flatMap (keysOf o n) ++ cs.flatMap (keysOf o n)
  | _ + 1, _ => []

theorem mapM_get {α β : Type} {f : α → Option β} : ∀ {l : List α} {r : List β}, l.mapM f = some r → r.length = l.length ∧ ∀ (j : Nat) (y : β), r[j]? = some y → ∃ x, l[j]? = some x ∧ f x = some y
  | [], r, h => by simp at h; subst h; exact ⟨rfl, by simp⟩
  | x :: l, r, h => by
    simp only [List.mapM_cons, Option.bind_eq_bind, Option.pure_def, Option.bind_eq_some_iff, Option.some.injEq] at h
    obtain ⟨y, hy, ys, hys, rfl⟩ := h
    obtain ⟨h1, h2⟩ := mapM_get hys
    refine ⟨by simp [h1], fun j z hz => ?_⟩
    cases j with
    | zero => simp at hz; subst hz; exact ⟨x, rfl, hy⟩
    | succ j => exact h2 j z (by simpa using hz)
theorem res_one {o : Objs} {n : Nat} {x y : PV} (h : res o n x = some y) (h1 : x.one = true) : y.one = true := by
  cases n with
  | zero => cases h
  | succ n =>
    cases x <;> simp only [res] at h <;> try (first | (cases h; done) | (cases h; rfl))
    case agg => simp [PV.one] at h1
    case tup => simp [PV.one] at h1
    case fn f fs cs =>
      split at h
      · cases h; rfl
      · cases h
    case ref k v => obtain ⟨p, _, rfl⟩ := Option.map_eq_some_iff.1 h; rfl
    case ptr k v off =>
      split at h
      · obtain ⟨p, _, rfl⟩ := Option.map_eq_some_iff.1 h; rfl
      · cases h

theorem res_sound (hh : Holds P o τ w) {B : Nat → Prop} (hB : ∀ b, Fz o τ w b → B b) : ∀ (n : Nat) {x y : PV} {v : Value}, Val P o τ w x v → res o n x = some y → (∀ k ∈ keysOf o n x, B (τ k).1) → Rd w B y v
  | 0, x, y, v, hv, h, hk => by cases h
  | n + 1, x, y, v, hv, h, hk => by
    have lift : ∀ {x : PV} {v : Value}, Rd w (Fz o τ w) x v → Rd w B x v := fun h => h.ext fun b hb => ⟨hB b hb, rfl⟩
    have cells : ∀ {cs cs' : List PV} {vs : Array Value}, cs.mapM (res o n) = some cs' → (∀ (j : Nat) (z : PV) (u : Value), cs[j]? = some z → vs[j]? = some u → Val P o τ w z u) → (∀ k ∈ cs.flatMap (keysOf o n), B (τ k).1) →
        ∀ (j : Nat) (z : PV) (u : Value), cs'[j]? = some z → vs[j]? = some u → Rd w B z u := by
      intro cs cs' vs hm hr hk j z u hz hu
      obtain ⟨x, hx, hf⟩ := (mapM_get hm).2 j z hz
      exact res_sound hh hB n (hr j x u hx hu) hf fun k hkk => hk k (List.mem_flatMap.2 ⟨x, List.mem_of_getElem? hx, hkk⟩)
    cases x <;> simp only [res] at h <;> try (cases h; done)
    case int => cases h; rw [hv.int_inv]; exact .int _ _
    case bool => cases h; rw [hv.bool_inv]; exact .bool _
    case str => cases h; rw [hv.str_inv]; exact .str _
    case nil => cases h; obtain ⟨a, rfl⟩ := hv.nil_inv; exact .sl0 _ _
    case sl => cases h; exact lift hv.sl_inv
    case mem => cases h; exact lift hv.mem_inv
    case agg cs =>
      obtain ⟨cs', hm, rfl⟩ := Option.map_eq_some_iff.1 h
      obtain ⟨vs, rfl, hn, h1, hr⟩ := hv.agg_inv
      refine .agg _ _ (by rw [hn, (mapM_get hm).1]) (fun j z hz => ?_) (cells hm hr hk)
      obtain ⟨x, hx, hf⟩ := (mapM_get hm).2 j z hz
      exact res_one hf (h1 j x hx)
    case tup cs =>
      obtain ⟨cs', hm, rfl⟩ := Option.map_eq_some_iff.1 h
      obtain ⟨vs, rfl, hn, hr⟩ := hv.tup_inv
      exact .tup _ _ (by rw [hn, (mapM_get hm).1]) (cells hm hr hk)
    case fn f fs cs =>
      split at h
      · rename_i fs' cs' e1 e2
        cases h
        obtain ⟨vf, vc, rfl, hf, hc, hrf, hrc⟩ := hv.fn_inv
        simp only [keysOf, List.mem_append] at hk
        exact .fn _ _ _ _ _ (by rw [hf, (mapM_get e1).1]) (by rw [hc, (mapM_get e2).1]) (cells e1 hrf fun k h => hk k (.inl h)) (cells e2 hrc fun k h => hk k (.inr h))
      · cases h
    case ref k ver =>
      obtain ⟨⟨e, xs⟩, hb, rfl⟩ := Option.map_eq_some_iff.1 h
      obtain ⟨bb, hb'⟩ := getRow_some hb
      cases hv with
      | pure h' => cases h'
      | ref k ver v hv hp =>
        rw [hp bb e xs hb']
        obtain ⟨vs, hg, hn, hs, hl, hm, hz, h1, hr⟩ := hh.row k ver bb e xs hb'
        rcases Nat.eq_zero_or_pos xs.length with h0 | h0
        · obtain rfl : xs = [] := List.eq_nil_of_length_eq_zero h0
          exact .sl0 _ _
        · have hlt : ∀ (i : Nat) (y : PV) (j : Nat) (z : PV), xs[i]? = some y → y.cells[j]? = some z → i * P.cellsOf e + j < vs.size := by
            intro i y j z hy hj
            have h1 : j < P.cellsOf e := by rw [← hz i y hy]; exact (List.getElem?_eq_some_iff.1 hj).1
            have h2 : i < xs.length := (List.getElem?_eq_some_iff.1 hy).1
            rw [hn]
            calc i * P.cellsOf e + j < i * P.cellsOf e + P.cellsOf e := by omega
              _ = (i + 1) * P.cellsOf e := by rw [Nat.add_mul, Nat.one_mul]
              _ ≤ (τ k).2 * P.cellsOf e := Nat.mul_le_mul_right _ (by omega)
          refine .sl _ _ _ _ (P.cellsOf e) (fun i j => vs.getD (i * P.cellsOf e + j) undef) rfl h0 hl (hk k (by simp [keysOf])) hz (fun i y j z hy hj => ⟨h1 i y j z hy hj, ?_⟩) fun i y j z hy hj => lift ?_
          · rw [cell_blk hg]; simp [Array.getD_eq_getD_getElem?, hlt i y j z hy hj]
          · exact hr i y j z _ hy hj (by simp [Array.getD_eq_getD_getElem?, hlt i y j z hy hj])
    case ptr k ver off =>
      split at h
      · rename_i t cs hb
        obtain ⟨cs', hm, rfl⟩ := Option.map_eq_some_iff.1 h
        obtain ⟨bb, hb'⟩ := getBox_some hb
        cases hv with
        | pure h' => cases h'
        | ptr k ver off v hv hp =>
          rw [hp bb t cs hb']
          obtain ⟨vs, hg, hn, h1, hr⟩ := hh.box k ver bb t cs hb'
          have hc := cells hm hr (fun k' hk' => hk k' (by simp only [keysOf, hb]; exact List.mem_cons_of_mem _ hk'))
          have hsz : vs.size = cs'.length := by rw [hn, (mapM_get hm).1]
          refine .mem _ _ (fun j => vs.getD (off + j) undef) (fun _ => hk k (by simp [keysOf])) (fun j z hj => ?_) fun j z hj => ?_
          · rw [List.getElem?_drop] at hj
            obtain ⟨u, hu⟩ := getElem?_of_size hsz hj
            obtain ⟨x, hx, hf⟩ := (mapM_get hm).2 _ z hj
            refine ⟨res_one hf (h1 _ x hx), ?_⟩
            rw [cell_blk hg]; simp [Array.getD_eq_getD_getElem?, hu]
          · rw [List.getElem?_drop] at hj
            obtain ⟨u, hu⟩ := getElem?_of_size hsz hj
            exact hc _ _ _ hj (by simp [Array.getD_eq_getD_getElem?, hu])
      · cases h
end
end Go.Sx
/- The abstract machine, part 8: what makes an object of one's own: a variable, a slice literal, a made slice. -/
set_option linter.unusedVariables false
set_option linter.unusedSimpArgs false
namespace Go.Sx
open Go Go.RowKit

section
variable {P : Program} {n : Nat} {w0 : World} {imp : Im} {st : St} {τ τ' : Places} {a : Act} {w w' : World} {o o' : Objs}

theorem alloc_size (w : World) (ob : Go.Obj) : (w.alloc ob).heap.size = w.heap.size + 1 := by show (w.heap.push ob).size = _; simp
theorem new_at {k : Nat} {x : Ob} {k' : Nat} (h : k' ≠ k) : (st.new k x).o k' = st.o k' := upd_ne _ _ h
theorem new_self {k : Nat} {x : Ob} : (st.new k x).o k = ((st.o k).1 + 1, some (true, x)) := by simp [St.new]
theorem live_new {k k' : Nat} {x : Ob} (h : live (st.new k x).o k') (hne : k' ≠ k) : live st.o k' := by
  obtain ⟨v, y, hk⟩ := h
  rw [new_at hne] at hk
  exact ⟨v, y, hk⟩
theorem new_ext (k : Nat) (x : Ob) (c : Nat) (ob : Go.Obj) : Ext st.o τ w (st.new k x).o (upd τ k (w.heap.size, c)) (w.alloc ob) := by
  refine ⟨fun b hb => ⟨⟨by rw [alloc_size]; exact Nat.lt_succ_of_lt hb.1, fun k' hk' => ?_⟩, Below.heap_alloc w ob b hb.1⟩, fun k' => ?_, fun k' b' x' hk' => ?_⟩
  · by_cases e : k' = k
    · subst e; simp only [upd_same]; exact Nat.ne_of_gt hb.1
    · rw [upd_ne _ _ e]; exact hb.2 k' (live_new hk' e)
  · by_cases e : k' = k
    · subst e; rw [new_self]; exact Nat.le_succ _
    · rw [new_at e]; exact Nat.le_refl _
  · by_cases e : k' = k
    · subst e
      rw [new_self] at hk'
      simp only [Prod.mk.injEq] at hk'
      omega
    · rw [new_at e] at hk'
      exact ⟨b', x', hk', by cases x' <;> simp [Ob.like], upd_ne _ _ e⟩
/-- What a block holds of an object. -/
def Cont (P : Program) (o : Objs) (τ : Places) (w : World) (x : Ob) (vs : Array Value) (t : TypeId) (c : Nat) : Prop :=
  match x with
  | .box t' cs => t' = t ∧ vs.size = cs.length ∧ (∀ (j : Nat) (z : PV), cs[j]? = some z → z.one = true) ∧ ∀ (j : Nat) (z : PV) (u : Value), cs[j]? = some z → vs[j]? = some u → Val P o τ w z u
  | .row e xs => e = t ∧ vs.size = c * P.cellsOf e ∧ 0 < P.cellsOf e ∧ xs.length ≤ c ∧ c ≤ maxLen ∧ (∀ (i : Nat) (y : PV), xs[i]? = some y → y.cells.length = P.cellsOf e) ∧
    (∀ (i : Nat) (y : PV) (j : Nat) (z : PV), xs[i]? = some y → y.cells[j]? = some z → z.one = true) ∧
    ∀ (i : Nat) (y : PV) (j : Nat) (z : PV) (u : Value), xs[i]? = some y → y.cells[j]? = some z → vs[i * P.cellsOf e + j]? = some u → Rd w (Fz o τ w) z u
  | .other => False
  | .mp _ => False
/-- A new object, its block made just now. -/
theorem Sim.newObj (h : Sim P n w0 imp st τ a w) (k : Nat) (hkn : k < 1000000000) (x : Ob) (c : Nat) (vs : Array Value) (t : TypeId)
    (hx : Cont P st.o τ w x vs t c) :
    Sim P n w0 imp (st.new k x) (upd τ k (w.heap.size, c)) a (w.alloc (.cells vs t)) := by
  have he : Ext st.o τ w (st.new k x).o (upd τ k (w.heap.size, c)) (w.alloc (.cells vs t)) := new_ext k x c _
  refine Sim.step (o' := (st.new k x).o) h he ⟨fun k' ver b t' cs hk => ?_, fun k' ver b e xs hk => ?_, fun k' ver b hk => ?_, fun k1 k2 h1 h2 e => ?_, fun k' ver y hk => ?_, fun k' ver b m hk => ?_⟩ ⟨h.frame.os, h.frame.tape, h.frame.output, by rw [alloc_size]; exact Nat.le_succ_of_le h.frame.size, fun b hb hi => by rw [Below.heap_alloc w _ b (Nat.lt_of_lt_of_le hb h.frame.size)]; exact h.frame.block b hb hi⟩ (fun k' ver y hk hy => ?_) fun k' ver hge hk => ⟨by rw [new_at (by omega)]; exact hk, by rw [upd_ne _ _ (by omega)]⟩
  · by_cases e : k' = k
    · subst e
      rw [new_self] at hk
      simp only [Prod.mk.injEq, Option.some.injEq] at hk
      obtain ⟨_, _, rfl⟩ := hk
      obtain ⟨rfl, hn, h1, hr⟩ := hx
      exact ⟨vs, by simp only [upd_same]; exact heap_alloc_new w _, hn, h1, fun j z u hz hu => (hr j z u hz hu).ext he⟩
    · rw [new_at e] at hk
      obtain ⟨vs', hg, hn, h1, hr⟩ := h.holds.box k' ver b t' cs hk
      exact ⟨vs', by rw [upd_ne _ _ e, Below.heap_alloc w _ _ (h.holds.lt hk)]; exact hg, hn, h1, fun j z u hz hu => (hr j z u hz hu).ext he⟩
  · by_cases e' : k' = k
    · subst e'
      rw [new_self] at hk
      simp only [Prod.mk.injEq, Option.some.injEq] at hk
      obtain ⟨_, _, rfl⟩ := hk
      obtain ⟨rfl, hn, hs, hl, hm, hz, h1, hr⟩ := hx
      simp only [upd_same]
      exact ⟨vs, heap_alloc_new w _, hn, hs, hl, hm, hz, h1, fun i y j z u hy hj hu => (hr i y j z u hy hj hu).ext he.fz⟩
    · rw [new_at e'] at hk
      obtain ⟨vs', hg, hn, hs, hl, hm, hz, h1, hr⟩ := h.holds.row k' ver b e xs hk
      rw [upd_ne _ _ e']
      exact ⟨vs', by rw [Below.heap_alloc w _ _ (h.holds.lt hk)]; exact hg, hn, hs, hl, hm, hz, h1, fun i y j z u hy hj hu => (hr i y j z u hy hj hu).ext he.fz⟩
  · by_cases e' : k' = k
    · subst e'
      rw [new_self] at hk
      simp only [Prod.mk.injEq, Option.some.injEq] at hk
      obtain ⟨_, _, rfl⟩ := hk
      exact hx.elim
    · rw [new_at e'] at hk
      rw [upd_ne _ _ e', alloc_size]
      exact Nat.lt_succ_of_lt (h.holds.oth k' ver b hk)
  · by_cases e1 : k1 = k <;> by_cases e2 : k2 = k
    · rw [e1, e2]
    · obtain ⟨v2, y2, hk2⟩ := live_new h2 e2
      have := h.holds.lt hk2
      subst e1
      rw [upd_same, upd_ne _ _ e2] at e
      simp only at e
      omega
    · obtain ⟨v1, y1, hk1⟩ := live_new h1 e1
      have := h.holds.lt hk1
      subst e2
      rw [upd_same, upd_ne _ _ e1] at e
      simp only at e
      omega
    · rw [upd_ne _ _ e1, upd_ne _ _ e2] at e
      exact h.holds.inj k1 k2 (live_new h1 e1) (live_new h2 e2) e
  · by_cases e : k' = k
    · subst e
      rw [new_self] at hk
      simp at hk
    · rw [new_at e] at hk
      rw [upd_ne _ _ e]
      exact (he.fz _ (h.holds.fro k' ver y hk)).1
  · by_cases e : k' = k
    · subst e
      rw [new_self] at hk
      simp only [Prod.mk.injEq, Option.some.injEq] at hk
      obtain ⟨_, _, rfl⟩ := hk
      exact hx.elim
    · rw [new_at e] at hk
      rw [upd_ne _ _ e]
      exact (h.holds.mp k' ver b m hk).ext he (Below.heap_alloc w _ _ (h.holds.lt hk))
  · by_cases e : k' = k
    · subst e; rw [upd_same]; exact .inl h.frame.size
    · rw [new_at e] at hk; rw [upd_ne _ _ e]; exact h.mine k' ver y hk hy

theorem Sim.newBox (h : Sim P n w0 imp st τ a w) (k : Nat) (hkn : k < 1000000000) (t : TypeId) {x : PV} {v : Value} (hv : Val P st.o τ w x v) (h1 : x.cells.all (ok1 st.o) = true) :
    Sim P n w0 imp (st.new k (.box t x.cells)) (upd τ k (w.heap.size, 0)) a (w.alloc (.cells v.cells t)) ∧
    Val P (st.new k (.box t x.cells)).o (upd τ k (w.heap.size, 0)) (w.alloc (.cells v.cells t)) (.ptr k ((st.o k).1 + 1) 0) (.pointer (some ⟨w.heap.size, 0, none⟩)) := by
  obtain ⟨hs, hc⟩ := cells_val hv h1
  refine ⟨h.newObj k hkn (.box t x.cells) 0 v.cells t ⟨rfl, hs, fun j z hz => ?_, fun j z u hz hu => (hc j z u hz hu).1⟩, .ptr _ _ _ _ (by rw [new_self]; exact Nat.le_refl _) fun b t' cs hk => ?_⟩
  · obtain ⟨u, hu⟩ := getElem?_of_size hs hz
    exact (hc j z u hz hu).2.1
  · simp only [upd_same]

/-! Slice literals and made slices. -/
theorem flat_get {sz : Nat} : ∀ {vs : List Value} {i j : Nat} {v : Value}, (∀ v ∈ vs, v.cells.size = sz) → vs[i]? = some v → j < sz → (vs.flatMap fun v => v.cells.toList)[i * sz + j]? = v.cells[j]?
  | [], i, j, v, hz, hv, hj => by simp at hv
  | u :: vs, 0, j, v, hz, hv, hj => by
    simp at hv
    subst hv
    have := hz u (by simp)
    rw [List.flatMap_cons, Nat.zero_mul, Nat.zero_add, List.getElem?_append_left (by simp; omega), Array.getElem?_toList]
  | u :: vs, i + 1, j, v, hz, hv, hj => by
    have hu := hz u (by simp)
    have ih := flat_get (j := j) (fun v hv => hz v (by simp [hv])) (show vs[i]? = some v by simpa using hv) hj
    rw [List.flatMap_cons, List.getElem?_append_right (by simp only [Array.length_toList, hu, Nat.add_mul]; omega), ← ih]
    congr 1
    simp only [Array.length_toList, hu, Nat.add_mul]; omega
theorem flat_length {sz : Nat} : ∀ {vs : List Value}, (∀ v ∈ vs, v.cells.size = sz) → (vs.flatMap fun v => v.cells.toList).length = vs.length * sz
  | [], h => by simp
  | u :: vs, h => by
    rw [List.flatMap_cons, List.length_append, flat_length (fun v hv => h v (by simp [hv])), Array.length_toList, h u (by simp), List.length_cons, Nat.add_mul, Nat.one_mul, Nat.add_comm]
theorem fill_rows {sz : Nat} : ∀ (vs : List Value) (s : Nat) (base : Array Value), (∀ v ∈ vs, v.cells.size = sz) → (s + vs.length) * sz ≤ base.size →
    ∃ us : Array Value, Instr.fill (fun i => some (i * sz, sz)) base ((vs.zipIdx s).map fun p => (p.2, p.1)) = some us ∧ us.toList = base.toList.take (s * sz) ++ vs.flatMap (fun v => v.cells.toList) ++ base.toList.drop ((s + vs.length) * sz)
  | [], s, base, hz, hl => ⟨base, by simp [Instr.fill], by simp⟩
  | v :: vs, s, base, hz, hl => by
    have hv := hz v (by simp)
    have e1 : (s + (v :: vs).length) * sz = (s + 1 + vs.length) * sz := by rw [List.length_cons, Nat.add_assoc, Nat.add_comm 1]
    have e2 : (s + 1 + vs.length) * sz = s * sz + sz + vs.length * sz := by rw [Nat.add_mul, Nat.add_mul, Nat.one_mul]
    rw [e1] at hl
    have hfold := foldl_setIfInBounds (s * sz) v.cells.toList 0 base (by simp; omega)
    generalize hA : (v.cells.toList.zipIdx 0).foldl (fun cs (p : Value × Nat) => cs.setIfInBounds (s * sz + p.2) p.1) base = A at hfold
    have hA' : v.cells.zipIdx.foldl (fun cs (c, j) => cs.setIfInBounds (s * sz + j) c) base = A := by
      rw [← hA, ← Array.foldl_toList]; simp
    have hAs : A.size = base.size := by
      rw [← Array.length_toList, hfold]; simp; omega
    obtain ⟨us, h1, h2⟩ := fill_rows vs (s + 1) A (fun v hv => hz v (by simp [hv])) (by rw [hAs]; exact hl)
    refine ⟨us, ?_, ?_⟩
    · simp only [List.zipIdx_cons, List.map_cons, Instr.fill]
      rw [if_neg (by simp; omega), hA']
      exact h1
    · rw [h2, hfold, e1, List.flatMap_cons]
      have e3 : (s + 1) * sz = s * sz + sz := by rw [Nat.add_mul, Nat.one_mul]
      simp only [Nat.add_zero, Array.length_toList, hv, e3, e2]
      apply List.ext_getElem?
      intro i
      have hb : base.toList.length = base.size := by simp
      have hvl : v.cells.toList.length = sz := by simpa using hv
      simp only [List.getElem?_append, List.length_append, List.length_take, List.length_drop, List.getElem?_take, List.getElem?_drop, hb, hvl]
      grind

/-- An element type: its cells, its bytes, its zero value's cells. -/
def einf (P : Program) (T : TypeId) : Option (TypeId × Nat × Nat × List PV) :=
  match P.underlying T with
  | some (.slice e) => match P.info? e with
    | some i => match i.zero with
      | some z => if z.cells.size = i.size ∧ 0 < i.size ∧ (z.cells.toList.map ofConst).all PV.one = true then some (e, i.size, i.bytes, z.cells.toList.map ofConst) else none
      | none => none
    | none => none
  | _ => none
theorem einf_some {T e : TypeId} {sz by_ : Nat} {zc : List PV} (h : einf P T = some (e, sz, by_, zc)) : ∃ i z, P.underlying T = some (.slice e) ∧ P.info? e = some i ∧ i.zero = some z ∧ z.cells.size = sz ∧ i.size = sz ∧ i.bytes = by_ ∧ 0 < sz ∧ zc = z.cells.toList.map ofConst ∧ zc.all PV.one = true ∧ P.cellsOf e = sz := by
  unfold einf at h
  split at h
  · rename_i e' hu
    split at h
    · rename_i i hi
      split at h
      · rename_i z hz
        split at h
        · rename_i hc
          obtain ⟨h1, h2, h3⟩ := hc
          simp only [Option.some.injEq, Prod.mk.injEq] at h
          obtain ⟨rfl, rfl, rfl, rfl⟩ := h
          exact ⟨i, z, hu, hi, hz, h1, rfl, rfl, h2, rfl, h3, cellsOf_info hi⟩
        · cases h
      · cases h
    · cases h
  · cases h
theorem einf_selem {T e : TypeId} {sz by_ : Nat} {zc : List PV} (h : einf P T = some (e, sz, by_, zc)) : selem P T = some (e, sz) := by
  obtain ⟨i, z, hu, hi, _, _, hs, _⟩ := einf_some h
  simp [selem, hu, hi, hs]

def einl (P : Program) (T : TypeId) : Option (TypeId × Nat) :=
  match P.underlying T with
  | some (.slice e) => match P.info? e with
    | some i => match i.zero with
      | some z => if z.cells.size = i.size ∧ 0 < i.size then some (e, i.size) else none
      | none => none
    | none => none
  | _ => none
theorem einl_some {T e : TypeId} {sz : Nat} (h : einl P T = some (e, sz)) : ∃ i z, P.underlying T = some (.slice e) ∧ P.info? e = some i ∧ i.zero = some z ∧ z.cells.size = sz ∧ i.size = sz ∧ 0 < sz ∧ P.cellsOf e = sz := by
  unfold einl at h
  split at h
  · rename_i e' hu
    split at h
    · rename_i i hi
      split at h
      · rename_i z hz
        split at h
        · rename_i hc
          obtain ⟨h1, h2⟩ := hc
          simp only [Option.some.injEq, Prod.mk.injEq] at h
          obtain ⟨rfl, rfl⟩ := h
          exact ⟨i, z, hu, hi, hz, h1, rfl, h2, cellsOf_info hi⟩
        · cases h
      · cases h
    · cases h
  · cases h
/-- A literal's elements, as read: they are frozen first. -/
theorem run_literal (hsl : ∀ t, Val P st.o τ w (st.s t) (a.tmps.getD t undef)) {T e : TypeId} {sz len : Nat} (h : einl P T = some (e, sz)) {parts : Array (Nat × Operand)} (hp : parts.toList.map Prod.fst = List.range len) (h24 : len * sz ≤ 16777216) (h0 : 0 < len)
    (hc : ∀ x ∈ parts.toList, (st.ev x.2).cells.length = sz ∧ (st.ev x.2).cells.all (ok1 st.o) = true) :
    ∃ us : Array Value, (Instr.buildSlice T len (parts.map fun (i, x) => (i, a.eval x))).run P w = .ok (.slice (some ⟨w.heap.size, 0, none⟩) len len) (w.alloc (.cells us e)) ∧ us.size = len * sz ∧
      ∀ (i j : Nat) (x : Nat × Operand), parts.toList[i]? = some x → j < sz → us[i * sz + j]? = (a.eval x.2).cells[j]? := by
  obtain ⟨inf, z, hu, hi, hz, hzs, hs, hp0, _⟩ := einl_some h
  have hlen : parts.toList.length = len := by have := congrArg List.length hp; simpa using this
  have hvs : ∀ v ∈ parts.toList.map (fun x => a.eval x.2), v.cells.size = sz := by
    intro v hv
    obtain ⟨x, hx, rfl⟩ := List.mem_map.1 hv
    rw [(cells_val (ev_val hsl x.2) (hc x hx).2).1, (hc x hx).1]
  obtain ⟨us, h1, h2⟩ := fill_rows (sz := sz) (parts.toList.map fun x => a.eval x.2) 0 ((Array.range (len * inf.size)).map (z.cells[· % z.cells.size]!)) hvs (by simp [hs]; rw [← hlen]; simp)
  have hparts : (parts.map fun (i, x) => (i, a.eval x)).toList = (((parts.toList.map fun x => a.eval x.2).zipIdx 0).map fun p => (p.2, p.1)) := by
    apply List.ext_getElem?
    intro i
    simp only [Array.toList_map, List.getElem?_map, List.getElem?_zipIdx]
    cases hx : parts.toList[i]? with
    | none => simp
    | some x =>
      have : (parts.toList.map Prod.fst)[i]? = some x.1 := by rw [List.getElem?_map, hx]; rfl
      rw [hp] at this
      have hil : i < len := by rw [← hlen]; exact (List.getElem?_eq_some_iff.1 hx).1
      rw [List.getElem?_range hil] at this
      cases this
      simp
  have husz : us.size = len * sz := by
    rw [← Array.length_toList, h2]
    simp only [Nat.zero_mul, List.take_zero, List.nil_append, List.length_append, flat_length hvs, List.length_map, hlen, List.length_drop]
    simp [hs, hlen]
  refine ⟨us, run_buildSlice w T e len _ us inf z hu hi hz (by rw [hs]; omega) (by rw [hs]; have := Nat.mul_pos h0 hp0; omega) ?_, husz, fun i j x hx hj => ?_⟩
  · rw [hparts, hs]
    rw [hs] at h1
    exact h1
  · have hi' : i < len := by rw [← hlen]; exact (List.getElem?_eq_some_iff.1 hx).1
    rw [← Array.getElem?_toList, h2]
    simp only [Nat.zero_mul, List.take_zero, List.nil_append]
    have hlt : i * sz + j < len * sz := by
      calc i * sz + j < i * sz + sz := by omega
        _ = (i + 1) * sz := by rw [Nat.add_mul, Nat.one_mul]
        _ ≤ len * sz := Nat.mul_le_mul_right _ hi'
    rw [List.getElem?_append_left (by rw [flat_length hvs, List.length_map, hlen]; exact hlt)]
    exact flat_get hvs (by rw [List.getElem?_map, hx]; rfl) hj
end
end Go.Sx
/- The abstract machine, part 9: an object is written, or moves to another key. -/
set_option linter.unusedVariables false
set_option linter.unusedSimpArgs false
namespace Go.Sx
open Go Go.RowKit

section
variable {P : Program} {n : Nat} {w0 : World} {imp : Im} {st : St} {τ τ' : Places} {a : Act} {w w' : World} {o o' : Objs}

def move2 (o : Objs) (k k2 v2 : Nat) (x : Ob) : Objs := upd (upd o k ((o k).1, none)) k2 (v2, some (true, x))

/-- The block of a writable object is written; the object lies under another key from now on, or under its own. -/
theorem Sim.write (h : Sim P n w0 imp st τ a w) {k k2 ver v2 cap : Nat} {old new : Ob} {vs : Array Value} {t : TypeId} (hk : st.o k = (ver, some (true, old))) (ho : old ≠ .other) (hkn : k2 = k ∨ k2 < 1000000000)
    (hv : (k2 = k ∧ v2 = ver ∧ old.like new ∧ cap = (τ k).2) ∨ v2 = (st.o k2).1 + 1)
    (hg : w'.heap[(τ k).1]? = some (.cells vs t (0, 0))) (hb : ∀ b, b ≠ (τ k).1 → w'.heap[b]? = w.heap[b]?) (hs : w'.heap.size = w.heap.size) (h1 : w'.os = w.os) (h2 : w'.tape = w.tape) (h3 : w'.output = w.output)
    (hc : Cont P st.o τ w new vs t cap) :
    Sim P n w0 imp { st with o := move2 st.o k k2 v2 new } (upd τ k2 ((τ k).1, cap)) a w' := by
  have hlive : ∀ k', live (move2 st.o k k2 v2 new) k' → k' ≠ k2 → live st.o k' ∧ k' ≠ k := by
    rintro k' ⟨v, y, hk'⟩ hne
    unfold move2 at hk'
    rw [upd_ne _ _ hne] at hk'
    by_cases e : k' = k
    · subst e; simp at hk'
    · rw [upd_ne _ _ e] at hk'
      exact ⟨⟨v, y, hk'⟩, e⟩
  have hkl : live st.o k := ⟨ver, old, hk⟩
  have hfz : ∀ b, Fz st.o τ w b → b ≠ (τ k).1 := fun b hb e => hb.2 k hkl e.symm
  have he : Ext st.o τ w (move2 st.o k k2 v2 new) (upd τ k2 ((τ k).1, cap)) w' := by
    refine ⟨fun b hbf => ⟨⟨by rw [hs]; exact hbf.1, fun k' hk' => ?_⟩, hb b (hfz b hbf)⟩, fun k' => ?_, fun k' b' x' hk' => ?_⟩
    · by_cases e : k' = k2
      · subst e; rw [upd_same]; exact (hfz b hbf).symm
      · rw [upd_ne _ _ e]; exact hbf.2 k' (hlive k' hk' e).1
    · unfold move2
      by_cases e : k' = k2
      · subst e
        rw [upd_same]
        rcases hv with ⟨rfl, rfl, _⟩ | rfl
        · rw [hk]; exact Nat.le_refl _
        · exact Nat.le_succ _
      · rw [upd_ne _ _ e]
        by_cases e1 : k' = k
        · subst e1; rw [upd_same]; exact Nat.le_refl _
        · rw [upd_ne _ _ e1]; exact Nat.le_refl _
    · unfold move2 at hk'
      by_cases e : k' = k2
      · subst e
        rw [upd_same] at hk'
        simp only [Prod.mk.injEq, Option.some.injEq] at hk'
        obtain ⟨e1, rfl, rfl⟩ := hk'
        rcases hv with ⟨rfl, rfl, hl, rfl⟩ | hv
        · rw [hk, upd_same]
          exact ⟨true, old, rfl, hl, rfl⟩
        · omega
      · rw [upd_ne _ _ e] at hk'
        by_cases e1 : k' = k
        · subst e1; simp at hk'
        · rw [upd_ne _ _ e1] at hk'
          exact ⟨b', x', hk', by cases x' <;> simp [Ob.like], upd_ne _ _ e⟩
  have hkeep : ∀ {k' : Nat} {v : Nat} {b : Bool} {y : Ob}, st.o k' = (v, some (b, y)) → k' ≠ k → (τ k').1 ≠ (τ k).1 := by
    intro k' v b y hk' hne e
    cases b with
    | true => exact hne (h.holds.inj k' k ⟨v, y, hk'⟩ hkl e)
    | false => exact hfz _ (h.holds.fro k' v y hk') e
  refine Sim.step h he ⟨fun k' v b t' cs hk' => ?_, fun k' v b e xs hk' => ?_, fun k' v b hk' => ?_, fun k1 k2' h1 h2 e => ?_, fun k' v y hk' => ?_, fun k' v b m hk' => ?_⟩ ⟨by rw [h1]; exact h.frame.os, by rw [h2]; exact h.frame.tape, by rw [h3]; exact h.frame.output, by rw [hs]; exact h.frame.size, fun b hbl hi => ?_⟩ (fun k' v y hk' hy => ?_) fun k' v hge hk' => ?_
  · unfold move2 at hk'
    by_cases e : k' = k2
    · subst e
      rw [upd_same] at hk' ⊢
      simp only [Prod.mk.injEq, Option.some.injEq] at hk'
      obtain ⟨_, _, rfl⟩ := hk'
      obtain ⟨rfl, hn, h1, hr⟩ := hc
      exact ⟨vs, hg, hn, h1, fun j z u hz hu => (hr j z u hz hu).ext he⟩
    · rw [upd_ne _ _ e] at hk' ⊢
      by_cases e1 : k' = k
      · subst e1; simp at hk'
      · rw [upd_ne _ _ e1] at hk'
        obtain ⟨us, hg', hn, h1, hr⟩ := h.holds.box k' v b t' cs hk'
        exact ⟨us, by rw [hb _ (hkeep hk' e1)]; exact hg', hn, h1, fun j z u hz hu => (hr j z u hz hu).ext he⟩
  · unfold move2 at hk'
    by_cases e' : k' = k2
    · subst e'
      rw [upd_same] at hk' ⊢
      simp only [Prod.mk.injEq, Option.some.injEq] at hk'
      obtain ⟨_, _, rfl⟩ := hk'
      obtain ⟨rfl, hn, hs, hl, hm, hz, h1, hr⟩ := hc
      exact ⟨vs, hg, hn, hs, hl, hm, hz, h1, fun i y j z u hy hj hu => (hr i y j z u hy hj hu).ext he.fz⟩
    · rw [upd_ne _ _ e'] at hk' ⊢
      by_cases e1 : k' = k
      · subst e1; simp at hk'
      · rw [upd_ne _ _ e1] at hk'
        obtain ⟨us, hg', hn, hs, hl, hm, hz, h1, hr⟩ := h.holds.row k' v b e xs hk'
        exact ⟨us, by rw [hb _ (hkeep hk' e1)]; exact hg', hn, hs, hl, hm, hz, h1, fun i y j z u hy hj hu => (hr i y j z u hy hj hu).ext he.fz⟩
  · unfold move2 at hk'
    rw [hs]
    by_cases e' : k' = k2
    · subst e'
      rw [upd_same] at hk'
      simp only [Prod.mk.injEq, Option.some.injEq] at hk'
      obtain ⟨_, _, rfl⟩ := hk'
      exact hc.elim
    · rw [upd_ne _ _ e'] at hk' ⊢
      by_cases e1 : k' = k
      · subst e1; simp at hk'
      · rw [upd_ne _ _ e1] at hk'
        exact h.holds.oth k' v b hk'
  · by_cases e1 : k1 = k2 <;> by_cases e2 : k2' = k2
    · rw [e1, e2]
    · obtain ⟨hl, hne⟩ := hlive k2' h2 e2
      subst e1
      rw [upd_same, upd_ne _ _ e2] at e
      exact absurd (h.holds.inj k2' k hl hkl e.symm) hne
    · obtain ⟨hl, hne⟩ := hlive k1 h1 e1
      subst e2
      rw [upd_same, upd_ne _ _ e1] at e
      exact absurd (h.holds.inj k1 k hl hkl e) hne
    · rw [upd_ne _ _ e1, upd_ne _ _ e2] at e
      exact h.holds.inj k1 k2' (hlive k1 h1 e1).1 (hlive k2' h2 e2).1 e
  · unfold move2 at hk'
    by_cases e : k' = k2
    · subst e; rw [upd_same] at hk'; simp at hk'
    · rw [upd_ne _ _ e] at hk' ⊢
      by_cases e1 : k' = k
      · subst e1; simp at hk'
      · rw [upd_ne _ _ e1] at hk'
        exact (he.fz _ (h.holds.fro k' v y hk')).1
  · unfold move2 at hk'
    by_cases e : k' = k2
    · subst e
      rw [upd_same] at hk'
      simp only [Prod.mk.injEq, Option.some.injEq] at hk'
      obtain ⟨_, _, rfl⟩ := hk'
      exact hc.elim
    · rw [upd_ne _ _ e] at hk' ⊢
      by_cases e1 : k' = k
      · subst e1; simp at hk'
      · rw [upd_ne _ _ e1] at hk'
        exact (h.holds.mp k' v b m hk').ext he (hb _ (hkeep hk' e1))
  · refine (hb b fun e => ?_).trans (h.frame.block b hbl hi)
    rcases h.mine k ver old hk ho with hm | hm
    · omega
    · rw [e] at hi; exact hi hm
  · unfold move2 at hk'
    by_cases e : k' = k2
    · subst e; rw [upd_same]; exact h.mine k ver old hk ho
    · rw [upd_ne _ _ e] at hk' ⊢
      by_cases e1 : k' = k
      · subst e1; simp at hk'
      · rw [upd_ne _ _ e1] at hk'
        exact h.mine k' v y hk' hy
  · have e1 : k' ≠ k := by
      rintro rfl
      rw [hk] at hk'
      simp only [Prod.mk.injEq, Option.some.injEq] at hk'
      exact ho hk'.2.2
    have e2 : k' ≠ k2 := by
      rcases hkn with rfl | hkn
      · exact e1
      · omega
    unfold move2
    rw [upd_ne _ _ e2, upd_ne _ _ e2, upd_ne _ _ e1]
    exact ⟨hk', rfl⟩

/-- An object is given up: its block is nobody's to write. -/
theorem Sim.kill (h : Sim P n w0 imp st τ a w) (k : Nat) {ver : Nat} {b : Bool} {old : Ob} (hk : st.o k = (ver, some (b, old))) (ho : old ≠ .other) : Sim P n w0 imp (st.kill k) τ a w := by
  have hsome : ∀ {k' v : Nat} {b : Bool} {y : Ob}, (st.kill k).o k' = (v, some (b, y)) → st.o k' = (v, some (b, y)) := by
    intro k' v b y hk'
    simp only [St.kill] at hk'
    by_cases e : k' = k
    · subst e; simp at hk'
    · rw [upd_ne _ _ e] at hk'; exact hk'
  have hlive : ∀ {k'}, live (st.kill k).o k' → live st.o k' := fun ⟨v, y, hk'⟩ => ⟨v, y, hsome hk'⟩
  have hver : ∀ k', ((st.kill k).o k').1 = (st.o k').1 := by
    intro k'
    simp only [St.kill]
    by_cases e : k' = k
    · subst e; simp
    · rw [upd_ne _ _ e]
  have he : Ext st.o τ w (st.kill k).o τ w := ⟨fun b hb => ⟨⟨hb.1, fun k' hk' => hb.2 k' (hlive hk')⟩, rfl⟩, fun k' => by rw [hver k']; exact Nat.le_refl _, fun k' b' x' hk' => ⟨b', x', hsome hk', by cases x' <;> simp [Ob.like], rfl⟩⟩
  refine Sim.step h he ⟨fun k' v b t' cs hk' => ?_, fun k' v b e xs hk' => ?_, fun k' v b hk' => h.holds.oth k' v b (hsome hk'), fun k1 k2 h1 h2 e => h.holds.inj k1 k2 (hlive h1) (hlive h2) e, fun k' v y hk' => (he.fz _ (h.holds.fro k' v y (hsome hk'))).1, fun k' v b m hk' => (h.holds.mp k' v b m (hsome hk')).ext he rfl⟩ h.frame (fun k' v y hk' hy => h.mine k' v y (hsome hk') hy) fun k' v hge hk' => ⟨?_, rfl⟩
  · obtain ⟨us, hg', hn, h1, hr⟩ := h.holds.box k' v b t' cs (hsome hk')
    exact ⟨us, hg', hn, h1, fun j z u hz hu => (hr j z u hz hu).ext he⟩
  · obtain ⟨us, hg', hn, hs, hl, hm, hz, h1, hr⟩ := h.holds.row k' v b e xs (hsome hk')
    exact ⟨us, hg', hn, hs, hl, hm, hz, h1, fun i y j z u hy hj hu => (hr i y j z u hy hj hu).ext he.fz⟩
  · have e1 : k' ≠ k := by
      rintro rfl
      rw [hk] at hk'
      simp only [Prod.mk.injEq, Option.some.injEq] at hk'
      exact ho hk'.2.2
    show upd st.o k _ k' = _
    rw [upd_ne _ _ e1]
    exact hk'

/-- A store into a row of cells. -/
theorem run_storeVar_at (T : TypeId) (g off : Nat) (t : TypeId) (cur : Array Value) (v : Value) {i : TypeInfo} (hi : P.info? T = some i) (hs : v.cells.size = i.size) (hg : w.heap[g]? = some (.cells cur t (0, 0))) (hl : off + v.cells.size ≤ cur.size) (h1 : ∀ u ∈ v.cells, u.oneCell' = true) :
    (Instr.storeAt T (.pointer (some ⟨g, off, none⟩)) v).run P w = .ok () (w.setRow g (cur.toList.take off ++ v.cells.toList ++ cur.toList.drop (off + v.cells.size)).toArray) := by
  have hst := run_storeCells_at P g off t v.cells.toList 0 cur w hg (by simpa using hl) (by simpa using h1)
  simp only [Nat.add_zero, Array.length_toList] at hst
  simp [Instr.storeAt, Instr.sureAddr, storeVar, sizeOf, typeInfo, hi, hs, hst]
theorem splice_get {α : Type} (xs ys : List α) (off : Nat) (h : off + ys.length ≤ xs.length) (j : Nat) : (xs.take off ++ ys ++ xs.drop (off + ys.length))[j]? = if j < off then xs[j]? else if j < off + ys.length then ys[j - off]? else xs[j]? := by
  have hm : min off xs.length = off := by omega
  simp only [List.getElem?_append, List.length_append, List.length_take, List.getElem?_take, List.getElem?_drop, hm]
  by_cases h1 : j < off
  · simp [h1, show j < off + ys.length by omega]
  · by_cases h2 : j < off + ys.length
    · simp [h1, h2]
    · simp only [h1, h2, if_false]
      congr 1
      omega

/-! Operations that make or turn objects. -/
/-- An operation comes to a value x, and the objects to ob. -/
def ORun (P : Program) (n : Nat) (w0 : World) (imp : Im) (oper : Oper) (st : St) (x : PV) (ob : Objs) : Prop :=
  ∀ τ a w, Sim P n w0 imp st τ a w → ∃ v w' τ', ((execOp a.eval oper).run P w = .ok (.value v) w' ∨ ((execOp a.eval oper).run P w = .ok .skip w' ∧ v = undef)) ∧ Sim P n w0 imp { st with o := ob } τ' a w' ∧ Val P ob τ' w' x v

/-- A type's zero value. -/
def zpv (P : Program) (T : TypeId) : Option PV :=
  match P.info? T with
  | some i => match i.zero with
    | some (.agg vs) => if (vs.toList.map ofConst).all PV.one then some (.agg (vs.toList.map ofConst)) else none
    | some v => if (ofConst v).one then some (ofConst v) else none
    | none => none
  | none => none
theorem ok1_const {o : Objs} {v : Value} (h : (ofConst v).one = true) : ok1 o (ofConst v) = true := by
  unfold ofConst at h ⊢
  split <;> first | rfl | simp_all [PV.one]
theorem one_cells {x : PV} (h : x.one = true) : x.cells = [x] := by cases x <;> first | rfl | simp [PV.one] at h
theorem zpv_some {T : TypeId} {x : PV} (h : zpv P T = some x) : ∃ i z, P.info? T = some i ∧ i.zero = some z ∧ (∀ o : Objs, x.cells.all (ok1 o) = true) ∧ ∀ (o : Objs) τ w, Val P o τ w x z := by
  unfold zpv at h
  split at h
  · rename_i i hi
    split at h
    · rename_i vs hz
      split at h
      · rename_i hc
        cases h
        refine ⟨i, _, hi, hz, fun o => ?_, fun o τ w => .agg _ _ (by simp) (fun j z hj => ?_) fun j z u hj hu => ?_⟩
        · simp only [PV.cells, List.all_eq_true, List.mem_map] at hc ⊢
          rintro _ ⟨v, hv, rfl⟩
          exact ok1_const (hc _ ⟨v, hv, rfl⟩)
        · simp only [List.all_eq_true] at hc
          exact hc z (List.mem_of_getElem? hj)
        · simp only [List.getElem?_map, Array.getElem?_toList, hu, Option.map_some, Option.some.injEq] at hj
          subst hj
          exact val_const u
      · cases h
    · rename_i v hne hz
      split at h
      · rename_i hc
        cases h
        refine ⟨i, v, hi, hz, fun o => by rw [one_cells hc]; simp [ok1_const hc], fun o τ w => val_const v⟩
      · cases h
    · cases h
  · cases h
theorem ORun.alloc {oper : Oper} {T : TypeId} {x : PV} (ho : oper.op = .alloc T) (hx : zpv P T = some x) (k : Nat) (hkn : k < 1000000000) : ORun P n w0 imp oper st (.ptr k ((st.o k).1 + 1) 0) (st.new k (.box T x.cells)).o := by
  intro τ a w h
  obtain ⟨i, z, hi, hz, h1, hv⟩ := zpv_some hx
  obtain ⟨hs, hv'⟩ := h.newBox k hkn T (hv st.o τ w) (h1 st.o)
  refine ⟨_, _, _, .inl ?_, hs, hv'⟩
  simp [execOp, ho, Instr.alloc, zeroValue, typeInfo, hi, hz, newVar, newRow]
theorem ORun.box {oper : Oper} {T : TypeId} {x : Operand} (ho : oper.op = .box T x) (h1 : (st.ev x).cells.all (ok1 st.o) = true) (k : Nat) (hkn : k < 1000000000) : ORun P n w0 imp oper st (.ptr k ((st.o k).1 + 1) 0) (st.new k (.box T (st.ev x).cells)).o := by
  intro τ a w h
  obtain ⟨hs, hv'⟩ := h.newBox k hkn T (ev_val h.slots x) h1
  refine ⟨_, _, _, .inl ?_, hs, hv'⟩
  simp [execOp, ho, Instr.box, newVar, newRow]
/-- What a store into a variable of one's own makes of it. -/
def PV.scal : PV → Bool
  | .int _ _ | .bool _ | .str _ | .sl _ | .nil => true
  | _ => false
def absStore (P : Program) (st : St) (T : TypeId) (x y : PV) : Option Objs :=
  match x, tinf P T with
  | .ptr k v off, some (_, sz) => match st.o k with
    | (v', some (true, .box t cs)) => if v' = v ∧ y.cells.length = sz ∧ off + sz ≤ cs.length ∧ y.cells.all (ok1 st.o) = true then some (move2 st.o k k v (.box t (cs.take off ++ y.cells ++ cs.drop (off + sz)))) else none
    | _ => none
  | .eptr k v i j, some (_, sz) => match st.o k with
    | (v', some (true, .row e xs)) => match xs[i]? with
      | some y0 => if v' = v ∧ j = 0 ∧ y0.cells.length = sz ∧ y.cells.length = sz ∧ y.cells.all PV.scal = true then some (move2 st.o k k v (.row e (xs.set i y))) else none
      | none => none
    | _ => none
  | _, _ => none
theorem scal_ok1 {o : Objs} {l : List PV} (h : l.all PV.scal = true) : l.all (ok1 o) = true := by
  simp only [List.all_eq_true] at h ⊢
  intro z hz
  have := h z hz
  cases z <;> first | rfl | simp [PV.scal] at this
theorem scal_rd {o : Objs} {τ : Places} {w : World} {z : PV} {u : Value} (hz : z.scal = true) (h : Val P o τ w z u) : Rd w (Fz o τ w) z u := by
  cases h with
  | pure h => exact h
  | _ => simp [PV.scal] at hz
theorem tinf_some {T : TypeId} {b : Bool} {sz : Nat} (h : tinf P T = some (b, sz)) : ∃ i, P.info? T = some i ∧ i.size = sz := by
  unfold tinf at h
  split at h <;> simp_all
theorem ORun.store {oper : Oper} {T : TypeId} {x y : Operand} (ho : oper.op = .store T x y) {ob : Objs} (hs : absStore P st T (st.ev x) (st.ev y) = some ob) : ORun P n w0 imp oper st .undef ob := by
  intro τ a w h
  unfold absStore at hs
  split at hs
  · rename_i k v off b sz hx ht
    split at hs
    · rename_i v' t cs hk
      split at hs
      · rename_i hc
        obtain ⟨rfl, hl, hoff, h1⟩ := hc
        cases hs
        obtain ⟨i, hi, hsz⟩ := tinf_some ht
        have hxv := ev_val h.slots x
        rw [hx] at hxv
        generalize hav : a.eval x = av at hxv
        cases hxv with
        | pure h' => cases h'
        | ptr k ver off v hv hp =>
          obtain rfl := hp _ _ _ hk
          obtain ⟨hys, hyc⟩ := cells_val (ev_val h.slots y) h1
          obtain ⟨vs, hg, hn, hone, hr⟩ := h.holds.box _ _ _ _ _ hk
          have hyo : ∀ u ∈ (a.eval y).cells, u.oneCell' = true := by
            intro u hu
            obtain ⟨j, hj⟩ := Array.getElem?_of_mem hu
            have hjl := (Array.getElem?_eq_some_iff.1 hj).1
            have : (st.ev y).cells[j]? = some (st.ev y).cells[j] := List.getElem?_eq_getElem (by omega)
            exact (hyc j _ u this hj).2.2
          have hrun := run_storeVar_at (P := P) (w := w) T (τ k).1 off t vs (a.eval y) hi (by omega) hg (by omega) hyo
          generalize hcur : (vs.toList.take off ++ (a.eval y).cells.toList ++ vs.toList.drop (off + (a.eval y).cells.size)).toArray = cur at hrun
          refine ⟨undef, w.setRow (τ k).1 cur, upd τ k ((τ k).1, (τ k).2), .inr ⟨?_, rfl⟩, h.write hk (by simp) (.inl rfl) (.inl ⟨rfl, rfl, ?_, rfl⟩) (setRow_heap w _ vs cur t _ hg) (fun b hb => setRow_other w _ b _ hb) (by simp [World.setRow]) rfl rfl rfl ⟨rfl, ?_, ?_, ?_⟩, .undef _⟩
          · simp only [execOp, ho, hav, Sem.run_bind, hrun, Result.andThen_ok, Sem.run_pure]
          · simp only [Ob.like, true_and, List.length_append, List.length_take, List.length_drop]
            omega
          · rw [← hcur]
            simp only [List.size_toArray, List.length_append, List.length_take, List.length_drop, Array.length_toList]
            omega
          · intro j z hj
            rw [← hl, splice_get _ _ _ (by omega)] at hj
            split at hj
            · exact hone j z hj
            · split at hj
              · obtain ⟨u, hu⟩ := getElem?_of_size hys hj
                exact (hyc _ z u hj hu).2.1
              · exact hone j z hj
          · intro j z u hj hu
            rw [← hl, splice_get _ _ _ (by omega)] at hj
            rw [← hcur, List.getElem?_toArray, show (a.eval y).cells.size = (a.eval y).cells.toList.length by simp, splice_get _ _ _ (by simp; omega)] at hu
            simp only [Array.length_toList, hys, Array.getElem?_toList] at hu
            split at hj
            · rename_i h1
              rw [if_pos h1] at hu
              exact hr j z u hj hu
            · rename_i h1
              rw [if_neg h1] at hu
              split at hj
              · rename_i h2
                rw [if_pos h2] at hu
                exact (hyc _ z u hj hu).1
              · rename_i h2
                rw [if_neg h2] at hu
                exact hr j z u hj hu
      · cases hs
    · cases hs
  · rename_i k v i j b sz hx ht
    split at hs
    · rename_i v' e xs hk
      split at hs
      · rename_i y0 hy0
        split at hs
        · rename_i hc
          obtain ⟨rfl, rfl, hl0, hl, hsc⟩ := hc
          cases hs
          obtain ⟨ii, hi, hsz⟩ := tinf_some ht
          have hxv := ev_val h.slots x
          rw [hx] at hxv
          generalize hav : a.eval x = av at hxv
          cases hxv with
          | pure h' => cases h'
          | eptr k ver i j v hv hp =>
            obtain rfl := hp _ _ _ hk
            obtain ⟨hys, hyc⟩ := cells_val (ev_val h.slots y) (scal_ok1 hsc)
            obtain ⟨vs, hg, hn, hpos, hxl, hm, hz, hone, hr⟩ := h.holds.row _ _ _ _ _ hk
            have hce : P.cellsOf e = sz := by rw [← hz _ _ hy0, hl0]
            have hil : i < xs.length := (List.getElem?_eq_some_iff.1 hy0).1
            have hmul : (i + 1) * sz ≤ (τ k).2 * sz := Nat.mul_le_mul_right sz (by omega)
            rw [Nat.succ_mul] at hmul
            have hyo : ∀ u ∈ (a.eval y).cells, u.oneCell' = true := by
              intro u hu
              obtain ⟨j, hj⟩ := Array.getElem?_of_mem hu
              have hjl := (Array.getElem?_eq_some_iff.1 hj).1
              have : (st.ev y).cells[j]? = some (st.ev y).cells[j] := List.getElem?_eq_getElem (by omega)
              exact (hyc j _ u this hj).2.2
            have hbound : i * P.cellsOf e + 0 + (a.eval y).cells.size ≤ vs.size := by rw [hn, hys, hl, hce]; omega
            have hrun := run_storeVar_at (P := P) (w := w) T (τ k).1 (i * P.cellsOf e + 0) e vs (a.eval y) hi (by omega) hg hbound hyo
            generalize hcur : (vs.toList.take (i * P.cellsOf e + 0) ++ (a.eval y).cells.toList ++ vs.toList.drop (i * P.cellsOf e + 0 + (a.eval y).cells.size)).toArray = cur at hrun
            refine ⟨undef, w.setRow (τ k).1 cur, upd τ k ((τ k).1, (τ k).2), .inr ⟨?_, rfl⟩, h.write hk (by simp) (.inl rfl) (.inl ⟨rfl, rfl, ?_, rfl⟩) (setRow_heap w _ vs cur e _ hg) (fun b hb => setRow_other w _ b _ hb) (by simp [World.setRow]) rfl rfl rfl ⟨rfl, ?_, hpos, ?_, hm, ?_, ?_, ?_⟩, .undef _⟩
            · simp only [execOp, ho, hav, Sem.run_bind, hrun, Result.andThen_ok, Sem.run_pure]
            · simp [Ob.like]
            · rw [← hcur, ← hn]
              simp only [List.size_toArray, List.length_append, List.length_take, List.length_drop, Array.length_toList]
              omega
            · simpa using hxl
            · intro i' y' hy'
              rw [List.getElem?_set] at hy'
              split at hy'
              · cases hy'; rw [hl, hce]
              · exact hz i' y' hy'
            · intro i' y' j z hy' hj
              rw [List.getElem?_set] at hy'
              split at hy'
              · cases hy'
                obtain ⟨u, hu⟩ := getElem?_of_size hys hj
                exact (hyc _ z u hj hu).2.1
              · exact hone i' y' j z hy' hj
            · intro i' y' j z u hy' hj hu
              have hsp := splice_get vs.toList (a.eval y).cells.toList (i * P.cellsOf e + 0) (by simpa using hbound) (i' * P.cellsOf e + j)
              rw [← hcur, List.getElem?_toArray, show (a.eval y).cells.size = (a.eval y).cells.toList.length by simp, hsp] at hu
              simp only [Array.length_toList, hys, hl, hce, Array.getElem?_toList, Nat.add_zero] at hu
              rw [List.getElem?_set] at hy'
              split at hy'
              · rename_i hii
                subst hii
                cases hy'
                have hjl : j < sz := by rw [← hl]; exact (List.getElem?_eq_some_iff.1 hj).1
                rw [if_neg (by omega), if_pos (by omega), show i * sz + j - i * sz = j by omega] at hu
                exact scal_rd (List.all_eq_true.1 hsc z (List.mem_of_getElem? hj)) (hyc _ z u hj hu).1
              · rename_i hii
                have hjl : j < sz := by rw [← hce, ← hz _ _ hy']; exact (List.getElem?_eq_some_iff.1 hj).1
                have hu' : vs[i' * sz + j]? = some u := by
                  rcases Nat.lt_or_gt_of_ne hii with hlt | hgt
                  · have h1 : (i + 1) * sz ≤ i' * sz := Nat.mul_le_mul_right sz (by omega)
                    rw [Nat.succ_mul] at h1
                    rw [if_neg (by omega), if_neg (by omega)] at hu
                    exact hu
                  · have h1 : (i' + 1) * sz ≤ i * sz := Nat.mul_le_mul_right sz (by omega)
                    rw [Nat.succ_mul] at h1
                    rw [if_pos (by omega)] at hu
                    exact hu
                rw [← hce] at hu'
                exact hr i' y' j z u hy' hj hu'
        · cases hs
      · cases hs
    · cases hs
  · cases hs
end
end Go.Sx
/- The abstract machine, part 10: slice literals, made slices, append. -/
set_option linter.unusedVariables false
set_option linter.unusedSimpArgs false
namespace Go.Sx
open Go Go.RowKit

section
variable {P : Program} {n : Nat} {w0 : World} {imp : Im} {st : St} {τ τ' : Places} {a : Act} {w w' : World} {o o' : Objs}

theorem St.freeze_nil (st : St) : st.freeze [] = st := by cases st; simp [St.freeze]
theorem keysOf_obj : ∀ (n : Nat) {x y : PV}, res o n x = some y → ∀ k ∈ keysOf o n x, ∃ ver b z, o k = (ver, some (b, z)) ∧ z ≠ .other
  | 0, x, y, h, k, hk => by cases h
  | n + 1, x, y, h, k, hk => by
    have cells : ∀ {cs cs' : List PV}, cs.mapM (res o n) = some cs' → k ∈ cs.flatMap (keysOf o n) → ∃ ver b z, o k = (ver, some (b, z)) ∧ z ≠ .other := by
      intro cs cs' hm hkc
      obtain ⟨x, hx, hkx⟩ := List.mem_flatMap.1 hkc
      obtain ⟨j, hj⟩ := List.getElem?_of_mem hx
      have hl := (List.getElem?_eq_some_iff.1 hj).1
      have hl' : j < cs'.length := by rw [(mapM_get hm).1]; exact hl
      obtain ⟨x', hx', hr⟩ := (mapM_get hm).2 j _ (List.getElem?_eq_getElem hl')
      rw [hj] at hx'
      cases hx'
      exact keysOf_obj n hr k hkx
    cases x <;> simp only [res] at h <;> simp only [keysOf, List.not_mem_nil] at hk <;> try (first | (cases h; done) | (exact hk.elim; done))
    case agg cs => obtain ⟨cs', hm, rfl⟩ := Option.map_eq_some_iff.1 h; exact cells hm hk
    case tup cs => obtain ⟨cs', hm, rfl⟩ := Option.map_eq_some_iff.1 h; exact cells hm hk
    case fn f fs cs =>
      split at h
      · rename_i e1 e2
        rcases List.mem_append.1 hk with hk | hk
        · exact cells e1 hk
        · exact cells e2 hk
      · cases h
    case ref k' v =>
      simp only [List.mem_singleton] at hk
      subst hk
      obtain ⟨p, hp, rfl⟩ := Option.map_eq_some_iff.1 h
      obtain ⟨b, hb⟩ := getRow_some (t := p.1) (cs := p.2) hp
      exact ⟨_, _, _, hb, by simp⟩
    case ptr k' v off =>
      split at h
      · rename_i t cs hb
        obtain ⟨cs', hm, rfl⟩ := Option.map_eq_some_iff.1 h
        rcases List.mem_cons.1 hk with rfl | hk
        · obtain ⟨b, hb'⟩ := getBox_some hb
          exact ⟨_, _, _, hb', by simp⟩
        · rw [hb] at hk
          exact cells hm hk
      · cases h
theorem Sim.freeze_key (h : Sim P n w0 imp st τ a w) {ks : List Nat} {k ver : Nat} {b : Bool} {x : Ob} (hk : ks.contains k = true) (ho : st.o k = (ver, some (b, x))) (hx : x ≠ .other) : Fz (st.freeze ks).o τ w (τ k).1 := by
  have : (st.freeze ks).o k = (ver, some (false, x)) := by
    simp only [St.freeze, hk, if_true, ho]
    cases x <;> first | rfl | exact absurd rfl hx
  exact (h.freeze ks).holds.fro k ver x this
theorem Sim.freeze_fz (h : Sim P n w0 imp st τ a w) (ks : List Nat) (b : Nat) (hb : Fz st.o τ w b) : Fz (st.freeze ks).o τ w b :=
  ⟨hb.1, fun k ⟨ver, x, hk⟩ => hb.2 k (by obtain ⟨b', h1, h2⟩ := freeze_some hk; obtain rfl := h2 rfl; exact ⟨ver, x, h1⟩)⟩
/-- A value, its rows and variables frozen. -/
theorem Sim.resolved (h : Sim P n w0 imp st τ a w) {ks : List Nat} {f : Nat} {x y : PV} {v : Value} (hv : Val P st.o τ w x v) (hr : res st.o f x = some y) (hk : ∀ k ∈ keysOf st.o f x, ks.contains k = true) : Rd w (Fz (st.freeze ks).o τ w) y v :=
  res_sound h.holds (h.freeze_fz ks) f hv hr fun k hkk => by
    obtain ⟨ver, b, z, ho, hz⟩ := keysOf_obj f hr k hkk
    exact h.freeze_key (hk k hkk) ho hz

theorem rd_const {B : Nat → Prop} {v : Value} (h : (ofConst v).one = true) : Rd w B (ofConst v) v := by
  unfold ofConst at h ⊢
  split
  · exact .int _ _
  · exact .bool _
  · exact .str _
  · exact .nil none
  · exact absurd h (by simp [PV.one])
theorem Rd.cells_val {B : Nat → Prop} {x : PV} {v : Value} (h : Rd w B x v) (h1 : ∀ z ∈ x.cells, z.one = true) : v.cells.size = x.cells.length ∧ ∀ (j : Nat) (z : PV) (u : Value), x.cells[j]? = some z → v.cells[j]? = some u → Rd w B z u ∧ u.oneCell' = true := by
  by_cases hx : ∃ cs, x = .agg cs
  · obtain ⟨cs, rfl⟩ := hx
    cases h with
    | agg cs vs hn ho hr => exact ⟨hn, fun j z u hz hu => ⟨hr j z u hz hu, (hr j z u hz hu).one_cell (ho j z hz)⟩⟩
  · have hc : x.cells = [x] := by cases x <;> first | rfl | exact absurd ⟨_, rfl⟩ hx
    have ho : x.one = true := h1 x (by rw [hc]; simp)
    have hv := h.one_cell ho
    rw [hc, cells_of_one hv]
    refine ⟨rfl, fun j z u hz hu => ?_⟩
    match j, hz, hu with
    | 0, hz, hu => simp at hz hu; subst hz; subst hu; exact ⟨h, hv⟩
    | j + 1, hz, hu => simp at hz

/-- A literal's elements, their rows and variables to be frozen. -/
def absLit (P : Program) (st : St) (T : TypeId) (len : Nat) (parts : List (Nat × Operand)) : Option (TypeId × List PV × List Nat) :=
  match einl P T with
  | some (e, sz) => match parts.mapM (fun p => res st.o 3 (st.ev p.2)) with
    | some ys => if parts.map Prod.fst = List.range len ∧ len * sz ≤ 16777216 ∧ 0 < len ∧ (∀ p ∈ parts, (st.ev p.2).cells.length = sz ∧ (st.ev p.2).cells.all (ok1 st.o) = true) ∧ (∀ y ∈ ys, y.cells.length = sz ∧ y.cells.all PV.one = true) then
        some (e, ys, parts.flatMap fun p => keysOf st.o 3 (st.ev p.2)) else none
    | none => none
  | none => none
theorem lit_row (h : Sim P n w0 imp st τ a w) {T e : TypeId} {len : Nat} {parts : Array (Nat × Operand)} {ys : List PV} {ks : List Nat} (hl : absLit P st T len parts.toList = some (e, ys, ks)) :
    ∃ us : Array Value, (Instr.buildSlice T len (parts.map fun (i, x) => (i, a.eval x))).run P w = .ok (.slice (some ⟨w.heap.size, 0, none⟩) len len) (w.alloc (.cells us e)) ∧ ys.length = len ∧ 0 < len ∧ len ≤ maxLen ∧ 0 < P.cellsOf e ∧ us.size = len * P.cellsOf e ∧
      (∀ (i : Nat) (y : PV), ys[i]? = some y → y.cells.length = P.cellsOf e) ∧ (∀ (i : Nat) (y : PV) (j : Nat) (z : PV), ys[i]? = some y → y.cells[j]? = some z → z.one = true) ∧
      ∀ (i : Nat) (y : PV) (j : Nat) (z : PV) (u : Value), ys[i]? = some y → y.cells[j]? = some z → us[i * P.cellsOf e + j]? = some u → Rd w (Fz (st.freeze ks).o τ w) z u := by
  unfold absLit at hl
  split at hl
  · rename_i e' sz hei
    split at hl
    · rename_i ys' hm
      split at hl
      · rename_i hc
        obtain ⟨hp, h24, h0, hcs, hys⟩ := hc
        cases hl
        obtain ⟨inf, z, hu, hi, hz, hzs, hs, hp0, hcell⟩ := einl_some hei
        obtain ⟨us, hrun, husz, hus⟩ := run_literal h.slots hei hp h24 h0 hcs
        obtain ⟨hlen, hget⟩ := mapM_get hm
        have hpl : parts.toList.length = len := by have := congrArg List.length hp; simpa using this
        refine ⟨us, hrun, by rw [hlen, hpl], h0, ?_, by rw [hcell]; exact hp0, by rw [hcell]; exact husz, fun i y hy => by rw [hcell]; exact (hys y (List.mem_of_getElem? hy)).1, fun i y j z hy hj => ?_, fun i y j z u hy hj hu => ?_⟩
        · have : len ≤ len * sz := Nat.le_mul_of_pos_right _ hp0
          simp only [maxLen]; omega
        · exact List.all_eq_true.1 (hys y (List.mem_of_getElem? hy)).2 z (List.mem_of_getElem? hj)
        · obtain ⟨p, hpp, hr⟩ := hget i y hy
          have hjs : j < sz := by rw [← (hys y (List.mem_of_getElem? hy)).1]; exact (List.getElem?_eq_some_iff.1 hj).1
          rw [hcell, hus i j p hpp hjs] at hu
          have hrd := h.resolved (ks := parts.toList.flatMap fun p => keysOf st.o 3 (st.ev p.2)) (ev_val h.slots p.2) hr (fun k hk => by
            rw [List.contains_iff_mem]
            exact List.mem_flatMap.2 ⟨p, List.mem_of_getElem? hpp, hk⟩)
          exact ((hrd.cells_val (fun z hz => List.all_eq_true.1 (hys y (List.mem_of_getElem? hy)).2 z hz)).2 j z u hj hu).1
      · cases hl
    · cases hl
  · cases hl
/-- A literal that is one's own. -/
theorem ORun.lit {oper : Oper} {T e : TypeId} {len : Nat} {parts : Array (Nat × Operand)} {ys : List PV} {ks : List Nat} (ho : oper.op = .buildSlice T len parts) (hl : absLit P st T len parts.toList = some (e, ys, ks)) (k : Nat) (hkn : k < 1000000000) :
    ORun P n w0 imp oper st (.ref k (((st.freeze ks).o k).1 + 1)) ((st.freeze ks).new k (.row e ys)).o := by
  intro τ a w h
  obtain ⟨us, hrun, hlen, h0, h63, hp0, husz, hz, h1, hr⟩ := lit_row h hl
  have h2 := (h.freeze ks).newObj k hkn (.row e ys) len us e ⟨rfl, husz, hp0, by omega, h63, hz, h1, hr⟩
  refine ⟨.slice (some ⟨w.heap.size, 0, none⟩) len len, _, _, .inl ?_, h2, .ref _ _ _ (by rw [new_self]; exact Nat.le_refl _) fun b e' xs hk => ?_⟩
  · simp only [execOp, ho, Sem.run_bind, hrun, Result.andThen_ok, Sem.run_pure]
  · rw [new_self] at hk
    simp only [Prod.mk.injEq, Option.some.injEq, Ob.row.injEq, true_and] at hk
    obtain ⟨_, _, rfl⟩ := hk
    rw [upd_same, hlen]
/-- A new block that nobody writes. -/
theorem Sim.newFrozen (h : Sim P n w0 imp st τ a w) (ob : Go.Obj) : Sim P n w0 imp st τ a (w.alloc ob) ∧ Fz st.o τ (w.alloc ob) w.heap.size ∧ ∀ b, Fz st.o τ w b → Fz st.o τ (w.alloc ob) b ∧ (w.alloc ob).heap[b]? = w.heap[b]? := by
  have hfz : ∀ b, Fz st.o τ w b → Fz st.o τ (w.alloc ob) b ∧ (w.alloc ob).heap[b]? = w.heap[b]? := fun b hb => ⟨⟨by rw [alloc_size]; exact Nat.lt_succ_of_lt hb.1, hb.2⟩, Below.heap_alloc w ob b hb.1⟩
  have he : Ext st.o τ w st.o τ (w.alloc ob) := ⟨hfz, fun k => Nat.le_refl _, fun k b' x' hk => ⟨b', x', hk, by cases x' <;> simp [Ob.like], rfl⟩⟩
  refine ⟨Sim.step h he ⟨fun k' v b t' cs hk' => ?_, fun k' v b e xs hk' => ?_, fun k' v b hk' => by rw [alloc_size]; exact Nat.lt_succ_of_lt (h.holds.oth k' v b hk'), h.holds.inj, fun k' v y hk' => (hfz _ (h.holds.fro k' v y hk')).1, fun k' v b m hk' => (h.holds.mp k' v b m hk').ext he (Below.heap_alloc w _ _ (h.holds.lt hk'))⟩ ⟨h.frame.os, h.frame.tape, h.frame.output, by rw [alloc_size]; exact Nat.le_succ_of_le h.frame.size, fun b hb hi => by rw [Below.heap_alloc w _ b (Nat.lt_of_lt_of_le hb h.frame.size)]; exact h.frame.block b hb hi⟩ h.mine (fun k ver _ hk => ⟨hk, rfl⟩), ⟨by rw [alloc_size]; exact Nat.lt_succ_self _, fun k ⟨v, y, hk⟩ => Nat.ne_of_lt (h.holds.lt hk)⟩, hfz⟩
  · obtain ⟨us, hg', hn, h1, hr⟩ := h.holds.box k' v b t' cs hk'
    exact ⟨us, by rw [Below.heap_alloc w _ _ (h.holds.lt hk')]; exact hg', hn, h1, fun j z u hz hu => (hr j z u hz hu).ext he⟩
  · obtain ⟨us, hg', hn, hs, hl, hm, hz, h1, hr⟩ := h.holds.row k' v b e xs hk'
    exact ⟨us, by rw [Below.heap_alloc w _ _ (h.holds.lt hk')]; exact hg', hn, hs, hl, hm, hz, h1, fun i y j z u hy hj hu => (hr i y j z u hy hj hu).ext he.fz⟩
/-- A row's block read as frozen memory. -/
theorem row_rd {B : Nat → Prop} {ys : List PV} {g len c sz : Nat} {us : Array Value} {e : TypeId} (hg : w.heap[g]? = some (.cells us e (0, 0))) (hB : B g) (hlen : ys.length = len) (h0 : 0 < len) (hc : len ≤ c) (husz : len * sz ≤ us.size) (hz : ∀ (i : Nat) (y : PV), ys[i]? = some y → y.cells.length = sz)
    (h1 : ∀ (i : Nat) (y : PV) (j : Nat) (z : PV), ys[i]? = some y → y.cells[j]? = some z → z.one = true)
    (hr : ∀ (i : Nat) (y : PV) (j : Nat) (z : PV) (u : Value), ys[i]? = some y → y.cells[j]? = some z → us[i * sz + j]? = some u → Rd w B z u) : Rd w B (.sl ys) (.slice (some ⟨g, 0, none⟩) len c) := by
  have hlt : ∀ (i : Nat) (y : PV) (j : Nat) (z : PV), ys[i]? = some y → y.cells[j]? = some z → i * sz + j < us.size := by
    intro i y j z hy hj
    have h1 : j < sz := by rw [← hz i y hy]; exact (List.getElem?_eq_some_iff.1 hj).1
    have h2 : i < ys.length := (List.getElem?_eq_some_iff.1 hy).1
    calc i * sz + j < i * sz + sz := by omega
      _ = (i + 1) * sz := by rw [Nat.add_mul, Nat.one_mul]
      _ ≤ len * sz := Nat.mul_le_mul_right _ (by omega)
      _ ≤ us.size := husz
  refine .sl _ _ _ _ sz (fun i j => us.getD (i * sz + j) undef) hlen h0 hc hB hz (fun i y j z hy hj => ⟨h1 i y j z hy hj, ?_⟩) fun i y j z hy hj => hr i y j z _ hy hj ?_
  · rw [cell_blk hg]; simp [Array.getD_eq_getD_getElem?, hlt i y j z hy hj]
  · simp [Array.getD_eq_getD_getElem?, hlt i y j z hy hj]
/-- A literal that nobody writes, of parts that nobody writes. -/
theorem ORun.litFrozen {oper : Oper} {T e : TypeId} {len : Nat} {parts : Array (Nat × Operand)} {ys : List PV} (ho : oper.op = .buildSlice T len parts) (hl : absLit P st T len parts.toList = some (e, ys, [])) :
    ORun P n w0 imp oper st (.sl ys) st.o := by
  intro τ a w h
  obtain ⟨us, hrun, hlen, h0, h63, hp0, husz, hz, h1, hr⟩ := lit_row h hl
  rw [St.freeze_nil] at hr
  obtain ⟨h2, h3, h4⟩ := h.newFrozen (.cells us e (0, 0))
  refine ⟨_, _, _, .inl ?_, h2, .pure (row_rd (heap_alloc_new w _) h3 hlen h0 (Nat.le_refl _) (Nat.le_of_eq husz.symm) hz h1 fun i y j z u hy hj hu => (hr i y j z u hy hj hu).ext h4)⟩
  simp only [execOp, ho, Sem.run_bind, hrun, Result.andThen_ok, Sem.run_pure]
/-- An empty literal. -/
theorem ORun.lit0 {oper : Oper} {T e : TypeId} {sz : Nat} (ho : oper.op = .buildSlice T 0 #[]) (hT : selem P T = some (e, sz)) : ORun P n w0 imp oper st .nil st.o := by
  intro τ a w h
  obtain ⟨hu, i, hi, hs⟩ := selem_some hT
  refine ⟨.slice (some ⟨w.heap.size, 0, none⟩) 0 0, w.alloc (.cells #[] e), _, .inl ?_, (h.newFrozen _).1, .pure (.nil _)⟩
  simp [execOp, ho, Instr.buildSlice, run_underlying hu, sizeOf, typeInfo, hi, Instr.fill, newRow, Array.range_zero']
/-! Maps of one's own: made, written. -/
theorem Sim.newMap (h : Sim P n w0 imp st τ a w) (k : Nat) (hkn : k < 1000000000) (m : Mp) (x : Obj) (hm : MapR (Val P st.o τ w) m x) :
    Sim P n w0 imp (st.new k (.mp m)) (upd τ k (w.heap.size, 0)) a (w.alloc x) := by
  have he : Ext st.o τ w (st.new k (.mp m)).o (upd τ k (w.heap.size, 0)) (w.alloc x) := new_ext k _ 0 _
  refine Sim.step (o' := (st.new k (.mp m)).o) h he ⟨fun k' ver b t' cs hk => ?_, fun k' ver b e xs hk => ?_, fun k' ver b hk => ?_, fun k1 k2 h1 h2 e => ?_, fun k' ver y hk => ?_, fun k' ver b m' hk => ?_⟩ ⟨h.frame.os, h.frame.tape, h.frame.output, by rw [alloc_size]; exact Nat.le_succ_of_le h.frame.size, fun b hb hi => by rw [Below.heap_alloc w _ b (Nat.lt_of_lt_of_le hb h.frame.size)]; exact h.frame.block b hb hi⟩ (fun k' ver y hk hy => ?_) fun k' ver hge hk => ⟨by rw [new_at (by omega)]; exact hk, by rw [upd_ne _ _ (by omega)]⟩
  · by_cases e : k' = k
    · subst e; rw [new_self] at hk; simp at hk
    · rw [new_at e] at hk
      obtain ⟨vs', hg, hn, h1, hr⟩ := h.holds.box k' ver b t' cs hk
      exact ⟨vs', by rw [upd_ne _ _ e, Below.heap_alloc w _ _ (h.holds.lt hk)]; exact hg, hn, h1, fun j z u hz hu => (hr j z u hz hu).ext he⟩
  · by_cases e' : k' = k
    · subst e'; rw [new_self] at hk; simp at hk
    · rw [new_at e'] at hk
      obtain ⟨vs', hg, hn, hs, hl, hm, hz, h1, hr⟩ := h.holds.row k' ver b e xs hk
      rw [upd_ne _ _ e']
      exact ⟨vs', by rw [Below.heap_alloc w _ _ (h.holds.lt hk)]; exact hg, hn, hs, hl, hm, hz, h1, fun i y j z u hy hj hu => (hr i y j z u hy hj hu).ext he.fz⟩
  · by_cases e' : k' = k
    · subst e'; rw [new_self] at hk; simp at hk
    · rw [new_at e'] at hk
      rw [upd_ne _ _ e', alloc_size]
      exact Nat.lt_succ_of_lt (h.holds.oth k' ver b hk)
  · by_cases e1 : k1 = k <;> by_cases e2 : k2 = k
    · rw [e1, e2]
    · obtain ⟨v2, y2, hk2⟩ := live_new h2 e2
      have := h.holds.lt hk2
      subst e1
      rw [upd_same, upd_ne _ _ e2] at e
      simp only at e
      omega
    · obtain ⟨v1, y1, hk1⟩ := live_new h1 e1
      have := h.holds.lt hk1
      subst e2
      rw [upd_same, upd_ne _ _ e1] at e
      simp only at e
      omega
    · rw [upd_ne _ _ e1, upd_ne _ _ e2] at e
      exact h.holds.inj k1 k2 (live_new h1 e1) (live_new h2 e2) e
  · by_cases e : k' = k
    · subst e
      rw [new_self] at hk
      simp at hk
    · rw [new_at e] at hk
      rw [upd_ne _ _ e]
      exact (he.fz _ (h.holds.fro k' ver y hk)).1
  · by_cases e : k' = k
    · subst e
      rw [new_self] at hk
      simp only [Prod.mk.injEq, Option.some.injEq, Ob.mp.injEq] at hk
      obtain ⟨_, _, rfl⟩ := hk
      rw [upd_same]
      exact ⟨x, heap_alloc_new w _, hm.mono fun z u hz => hz.ext he⟩
    · rw [new_at e] at hk
      rw [upd_ne _ _ e]
      exact (h.holds.mp k' ver b m' hk).ext he (Below.heap_alloc w _ _ (h.holds.lt hk))
  · by_cases e : k' = k
    · subst e; rw [upd_same]; exact .inl h.frame.size
    · rw [new_at e] at hk; rw [upd_ne _ _ e]; exact h.mine k' ver y hk hy
theorem Sim.writeMap (h : Sim P n w0 imp st τ a w) {k ver : Nat} {m m' : Mp} (hk : st.o k = (ver, some (true, .mp m))) (hit : m.isIt = m'.isIt) (hg : ∃ x, w'.heap[(τ k).1]? = some x ∧ MapR (Val P st.o τ w) m' x) (hb : ∀ b, b ≠ (τ k).1 → w'.heap[b]? = w.heap[b]?) (hs : w'.heap.size = w.heap.size) (h1 : w'.os = w.os) (h2 : w'.tape = w.tape) (h3 : w'.output = w.output) :
    Sim P n w0 imp { st with o := upd st.o k (ver, some (true, .mp m')) } τ a w' ∧ Ext st.o τ w (upd st.o k (ver, some (true, .mp m'))) τ w' := by
  have hkl : live st.o k := ⟨ver, _, hk⟩
  have hlive : ∀ k', live (upd st.o k (ver, some (true, .mp m'))) k' → live st.o k' := by
    rintro k' ⟨v, y, hk'⟩
    by_cases e : k' = k
    · subst e; exact hkl
    · rw [upd_ne _ _ e] at hk'; exact ⟨v, y, hk'⟩
  have hfz : ∀ b, Fz st.o τ w b → b ≠ (τ k).1 := fun b hb e => hb.2 k hkl e.symm
  have he : Ext st.o τ w (upd st.o k (ver, some (true, .mp m'))) τ w' := by
    refine ⟨fun b hbf => ⟨⟨by rw [hs]; exact hbf.1, fun k' hk' => hbf.2 k' (hlive k' hk')⟩, hb b (hfz b hbf)⟩, fun k' => ?_, fun k' b' x' hk' => ?_⟩
    · by_cases e : k' = k
      · subst e; rw [upd_same, hk]; exact Nat.le_refl _
      · rw [upd_ne _ _ e]; exact Nat.le_refl _
    · by_cases e : k' = k
      · subst e
        rw [upd_same] at hk'
        simp only [Prod.mk.injEq, Option.some.injEq] at hk'
        obtain ⟨_, rfl, rfl⟩ := hk'
        exact ⟨true, .mp m, by rw [hk], hit, rfl⟩
      · rw [upd_ne _ _ e] at hk'
        exact ⟨b', x', hk', by cases x' <;> simp [Ob.like], rfl⟩
  have hkeep : ∀ {k' : Nat} {v : Nat} {b : Bool} {y : Ob}, st.o k' = (v, some (b, y)) → k' ≠ k → (τ k').1 ≠ (τ k).1 := by
    intro k' v b y hk' hne e
    cases b with
    | true => exact hne (h.holds.inj k' k ⟨v, y, hk'⟩ hkl e)
    | false => exact hfz _ (h.holds.fro k' v y hk') e
  refine ⟨Sim.step h he ⟨fun k' v b t' cs hk' => ?_, fun k' v b e xs hk' => ?_, fun k' v b hk' => ?_, fun k1 k2 h1 h2 e => h.holds.inj k1 k2 (hlive k1 h1) (hlive k2 h2) e, fun k' v y hk' => ?_, fun k' v b m2 hk' => ?_⟩ ⟨by rw [h1]; exact h.frame.os, by rw [h2]; exact h.frame.tape, by rw [h3]; exact h.frame.output, by rw [hs]; exact h.frame.size, fun b hbl hi => ?_⟩ (fun k' v y hk' hy => ?_) fun k' v hge hk' => ?_, he⟩
  · by_cases e : k' = k
    · subst e; rw [upd_same] at hk'; simp at hk'
    · rw [upd_ne _ _ e] at hk'
      obtain ⟨us, hg', hn, h1, hr⟩ := h.holds.box k' v b t' cs hk'
      exact ⟨us, by rw [hb _ (hkeep hk' e)]; exact hg', hn, h1, fun j z u hz hu => (hr j z u hz hu).ext he⟩
  · by_cases e' : k' = k
    · subst e'; rw [upd_same] at hk'; simp at hk'
    · rw [upd_ne _ _ e'] at hk'
      obtain ⟨us, hg', hn, hs, hl, hm, hz, h1, hr⟩ := h.holds.row k' v b e xs hk'
      exact ⟨us, by rw [hb _ (hkeep hk' e')]; exact hg', hn, hs, hl, hm, hz, h1, fun i y j z u hy hj hu => (hr i y j z u hy hj hu).ext he.fz⟩
  · rw [hs]
    by_cases e' : k' = k
    · subst e'; rw [upd_same] at hk'; simp at hk'
    · rw [upd_ne _ _ e'] at hk'
      exact h.holds.oth k' v b hk'
  · by_cases e : k' = k
    · subst e; rw [upd_same] at hk'; simp at hk'
    · rw [upd_ne _ _ e] at hk'
      exact (he.fz _ (h.holds.fro k' v y hk')).1
  · by_cases e : k' = k
    · subst e
      rw [upd_same] at hk'
      simp only [Prod.mk.injEq, Option.some.injEq, Ob.mp.injEq] at hk'
      obtain ⟨_, _, rfl⟩ := hk'
      obtain ⟨x, g1, g2⟩ := hg
      exact ⟨x, g1, g2.mono fun z u hz => hz.ext he⟩
    · rw [upd_ne _ _ e] at hk'
      exact (h.holds.mp k' v b m2 hk').ext he (hb _ (hkeep hk' e))
  · refine (hb b fun e => ?_).trans (h.frame.block b hbl hi)
    rcases h.mine k ver _ hk (by simp) with hm | hm
    · omega
    · rw [e] at hi; exact hi hm
  · by_cases e : k' = k
    · subst e; exact h.mine k' ver _ hk (by simp)
    · rw [upd_ne _ _ e] at hk'
      exact h.mine k' v y hk' hy
  · have e1 : k' ≠ k := by
      rintro rfl
      rw [hk] at hk'
      simp at hk'
    rw [upd_ne _ _ e1]
    exact ⟨hk', rfl⟩
def mp0 : Mk → Mp
  | .s => .s []
  | .i => .i []
  | .r => .r []
theorem ORun.makeMap {oper : Oper} {T : TypeId} {b : Mk} (ho : oper.op = .makeMap T none) (hm : mkd P T = some b) (k : Nat) (hkn : k < 1000000000) :
    ORun P n w0 imp oper st (.mref k ((st.o k).1 + 1)) (st.new k (.mp (mp0 b))).o := by
  intro τ a w h
  have hp : ∀ R, EntR R (mp0 b) (#[] : Array MapEntry).toList 0 := fun R => by
    cases b
    · exact rfl
    · exact rfl
    · exact ⟨rfl, fun j k z e h => by simp at h, rfl, rfl⟩
  have hni : (mp0 b).isIt = false := by cases b <;> rfl
  refine ⟨.map (some w.heap.size), _, _, .inl ?_, h.newMap k hkn (mp0 b) (.map #[] 0) (.of hni (hp _)), .mref _ _ _ (by rw [new_self]; exact Nat.le_refl _) fun b' m hk => ?_⟩
  · simp [execOp, ho, Instr.makeMap]
  · rw [new_self] at hk
    simp only [Prod.mk.injEq, Option.some.injEq, Ob.mp.injEq] at hk
    obtain ⟨_, _, rfl⟩ := hk
    rw [upd_same, Mp.at_map hni]
def absMset (P : Program) (st : St) (T : TypeId) (x i z : PV) : Option Objs :=
  match x with
  | .mref k v => match st.o k with
    | (v', some (true, .mp m)) => if v' = v then (absMput (mkd P T) (some m) i z).map fun m' => upd st.o k (v, some (true, .mp m')) else none
    | _ => none
  | _ => none
theorem ORun.mapUpdate {oper : Oper} {T : TypeId} {y i z : Operand} {ob : Objs} (ho : oper.op = .mapUpdate T y i z) (hb : absMset P st T (st.ev y) (st.ev i) (st.ev z) = some ob) : ORun P n w0 imp oper st .undef ob := by
  intro τ a w h
  unfold absMset at hb
  split at hb
  · rename_i k v hx
    split at hb
    · rename_i v' m hk
      split at hb
      · rename_i hv
        subst hv
        obtain ⟨m', hm', rfl⟩ := Option.map_eq_some_iff.1 hb
        have hy := ev_val h.slots y
        rw [hx] at hy
        generalize hav : a.eval y = av at hy
        cases hy with
        | pure h' => cases h'
        | mref k v v' hv hp =>
          obtain ⟨hni, hni'⟩ := absMput_isIt hm'
          have hvm := hp true m hk
          rw [Mp.at_map hni] at hvm
          subst hvm
          obtain ⟨w', hrun, hat, e1, e2, e3, e4, e5⟩ := put_run (P := P) (h.holds.mp k _ true m hk) (ev_val h.slots i) (ev_val h.slots z) hm'
          refine ⟨undef, w', τ, .inr ⟨?_, rfl⟩, (h.writeMap hk (hni.trans hni'.symm) hat e1 e2 e3 e4 e5).1, .undef _⟩
          simp [execOp, ho, hav, hrun]
      · cases hb
    · cases hb
  · cases hb
end
end Go.Sx
/- The abstract machine, part 11: made slices and append. -/
set_option linter.unusedVariables false
set_option linter.unusedSimpArgs false
namespace Go.Sx
open Go Go.RowKit

section
variable {P : Program} {n : Nat} {w0 : World} {imp : Im} {st : St} {τ τ' : Places} {a : Act} {w w' : World} {o o' : Objs}

/-- An element type's zero value: its cells. -/
def absMake (P : Program) (T : TypeId) (l c : PV) : Option (TypeId × List PV) :=
  match l, c, einf P T with
  | .int _ ln, .int _ cn, some (e, sz, by_, zc) => match zpv P e with
    | some z => if 0 ≤ ln ∧ ln ≤ cn ∧ cn * (by_ + 1) ≤ 140737488355328 ∧ z.cells.length = sz then some (e, List.replicate ln.toNat z) else none
    | none => none
  | _, _, _ => none
theorem zpv_rd {T : TypeId} {x : PV} {i : TypeInfo} {z : Value} {B : Nat → Prop} (h : zpv P T = some x) (hi : P.info? T = some i) (hz : i.zero = some z) : Rd w B x z ∧ ∀ y ∈ x.cells, y.one = true := by
  unfold zpv at h
  rw [hi] at h
  simp only [hz] at h
  split at h
  · rename_i vs e
    cases e
    split at h
    · rename_i hc
      cases h
      simp only [List.all_eq_true] at hc
      refine ⟨.agg _ _ (by simp) (fun j z hj => hc z (List.mem_of_getElem? hj)) fun j z u hj hu => ?_, hc⟩
      have hm := List.mem_of_getElem? hj
      simp only [List.getElem?_map, Array.getElem?_toList, hu, Option.map_some, Option.some.injEq] at hj
      subst hj
      exact rd_const (hc _ hm)
    · cases h
  · rename_i v hne e
    cases e
    split at h
    · rename_i hc
      cases h
      refine ⟨rd_const hc, fun y hy => ?_⟩
      rw [one_cells hc] at hy
      simp at hy
      subst hy
      exact hc
    · cases h
  · cases h
theorem madeCells_get (z : Array Value) (i j c : Nat) (hj : j < z.size) (h : i < c) : (madeCells z (c * z.size))[i * z.size + j]? = z[j]? := by
  have hlt : i * z.size + j < c * z.size := by
    calc i * z.size + j < i * z.size + z.size := by omega
      _ = (i + 1) * z.size := by rw [Nat.add_mul, Nat.one_mul]
      _ ≤ c * z.size := Nat.mul_le_mul_right _ h
  have hmod : (i * z.size + j) % z.size = j := by rw [Nat.mul_comm, Nat.mul_add_mod, Nat.mod_eq_of_lt hj]
  unfold madeCells
  rw [Array.getElem?_map, Array.getElem?_range, if_pos hlt]
  simp [hmod, hj]
theorem ORun.make {oper : Oper} {T e : TypeId} {l c : Operand} {xs : List PV} (ho : oper.op = .makeSlice T l c) (hm : absMake P T (st.ev l) (st.ev c) = some (e, xs)) (k : Nat) (hkn : k < 1000000000) :
    ORun P n w0 imp oper st (.ref k ((st.o k).1 + 1)) (st.new k (.row e xs)).o := by
  intro τ a w h
  unfold absMake at hm
  split at hm
  · rename_i kl ln kc cn e' sz by_ zc hel hec hei
    split at hm
    · rename_i z hz
      split at hm
      · rename_i hc
        obtain ⟨h0, hlc, hb, hzl⟩ := hc
        cases hm
        obtain ⟨inf, zv, hu, hi, hzv, hzs, hs, hbb, hp0, _, _, hcell⟩ := einf_some hei
        obtain ⟨hrd, hone⟩ := zpv_rd (w := w) (B := Fz st.o τ w) hz hi hzv
        have hcells := hrd.cells_val hone
        have hl := ev_val h.slots l
        have hc := ev_val h.slots c
        rw [hel] at hl
        rw [hec] at hc
        have hl := hl.int_inv
        have hc := hc.int_inv
        have hcn : cn ≤ 140737488355328 := by
          have : cn * 1 ≤ cn * ((by_ : Int) + 1) := Int.mul_le_mul_of_nonneg_left (by omega) (by omega)
          omega
        have hbc : (by_ : Int) * cn ≤ 140737488355328 := by
          have : (by_ : Int) * cn ≤ cn * ((by_ : Int) + 1) := by rw [Int.mul_comm, Int.mul_add]; omega
          omega
        have hrun := run_make (P := P) w T e inf zv hu hi hzv kl kc ln cn h0 hlc (by rw [hbb]; omega) (by omega)
        rw [hs] at hrun
        have hlen : (List.replicate ln.toNat z).length = ln.toNat := by simp
        have hmem : ∀ {i : Nat} {y : PV}, (List.replicate ln.toNat z)[i]? = some y → y = z ∧ i < ln.toNat := by
          intro i y hy
          have hi := (List.getElem?_eq_some_iff.1 hy).1
          rw [hlen] at hi
          rw [List.getElem?_replicate, if_pos hi] at hy
          cases hy
          exact ⟨rfl, hi⟩
        have h2 := h.newObj k hkn (.row e (List.replicate ln.toNat z)) cn.toNat (madeCells zv.cells (cn.toNat * sz)) e ⟨rfl, by rw [size_madeCells, hcell], by rw [hcell]; exact hp0, by rw [hlen]; omega, by simp only [maxLen]; omega,
          fun i y hy => by rw [(hmem hy).1, hcell]; exact hzl, fun i y j z' hy hj => by rw [(hmem hy).1] at hj; exact hone z' (List.mem_of_getElem? hj), fun i y j z' u hy hj hu => ?_⟩
        · refine ⟨.slice (some ⟨w.heap.size, 0, none⟩) ln.toNat cn.toNat, _, _, .inl ?_, h2, .ref _ _ _ (by rw [new_self]; exact Nat.le_refl _) fun b e' xs hk => ?_⟩
          · simp only [execOp, ho, hl, hc, Sem.run_bind, hrun, Result.andThen_ok, Sem.run_pure]
          · rw [new_self] at hk
            simp only [Prod.mk.injEq, Option.some.injEq, Ob.row.injEq, true_and] at hk
            obtain ⟨_, _, rfl⟩ := hk
            rw [upd_same, hlen]
        · obtain ⟨rfl, hil⟩ := hmem hy
          have hjz : j < zv.cells.size := by rw [hzs, ← hzl]; exact (List.getElem?_eq_some_iff.1 hj).1
          rw [hcell, ← hzs, madeCells_get zv.cells i j cn.toNat hjz (by omega)] at hu
          exact (hcells.2 j z' u hj hu).1
      · cases hm
    · cases hm
  · cases hm

/-! Append. -/
/-- Frozen elements as a list of cells. -/
theorem rd_news {B : Nat → Prop} {ys : List PV} {v : Value} (h : Rd w B (.sl ys) v) (hne : ys ≠ []) : ∃ (ad : Addr) (c sz : Nat) (news : List Value), v = .slice (some ad) ys.length c ∧ (∀ (i : Nat) (y : PV), ys[i]? = some y → y.cells.length = sz) ∧ (∀ (i : Nat) (y : PV) (j : Nat) (z : PV), ys[i]? = some y → y.cells[j]? = some z → z.one = true) ∧ (0 < sz → news.length = ys.length * sz ∧ (∀ (j : Nat) (u : Value), news[j]? = some u → w.cell? (ad.add j) = some u) ∧ (∀ u ∈ news, u.oneCell' = true) ∧
      ∀ (i : Nat) (y : PV) (j : Nat) (z : PV) (u : Value), ys[i]? = some y → y.cells[j]? = some z → news[i * sz + j]? = some u → Rd w B z u) := by
  cases h with
  | sl0 => exact absurd rfl hne
  | sl xs ad m c sz us hn h0 hc hB hz hu hr =>
    subst hn
    refine ⟨ad, c, sz, (List.range (ys.length * sz)).map fun q => us (q / sz) (q % sz), rfl, hz, fun i y j z hy hj => (hu i y j z hy hj).1, fun hsz => ⟨by simp, ?_⟩⟩
    have key : ∀ q, q < ys.length * sz → ∃ y z, ys[q / sz]? = some y ∧ y.cells[q % sz]? = some z := by
      intro q hq
      have h1 : q / sz < ys.length := Nat.div_lt_of_lt_mul (by rw [Nat.mul_comm]; exact hq)
      have h2 : q % sz < sz := Nat.mod_lt _ hsz
      have hy : ys[q / sz]? = some ys[q / sz] := List.getElem?_eq_getElem h1
      have hl := hz _ _ hy
      exact ⟨_, _, hy, List.getElem?_eq_getElem (by rw [hl]; exact h2)⟩
    have hdm : ∀ q, q / sz * sz + q % sz = q := fun q => by rw [Nat.mul_comm]; exact Nat.div_add_mod q sz
    refine ⟨fun j u hj => ?_, fun u hu' => ?_, fun i y j z u hy hj huu => ?_⟩
    · have hlt : j < ys.length * sz := by simpa using (List.getElem?_eq_some_iff.1 hj).1
      rw [List.getElem?_map, List.getElem?_range hlt] at hj
      simp only [Option.map_some, Option.some.injEq] at hj
      subst hj
      obtain ⟨y, z, hy, hz'⟩ := key j hlt
      have := (hu _ y _ z hy hz').2
      rw [hdm] at this
      exact this
    · obtain ⟨q, hq, rfl⟩ := List.mem_map.1 hu'
      obtain ⟨y, z, hy, hz'⟩ := key q (by simpa using hq)
      exact (hr _ y _ z hy hz').one_cell (hu _ y _ z hy hz').1
    · have hjs : j < sz := by rw [← hz i y hy]; exact (List.getElem?_eq_some_iff.1 hj).1
      have hi := (List.getElem?_eq_some_iff.1 hy).1
      have hlt : i * sz + j < ys.length * sz := by
        calc i * sz + j < i * sz + sz := by omega
          _ = (i + 1) * sz := by rw [Nat.add_mul, Nat.one_mul]
          _ ≤ ys.length * sz := Nat.mul_le_mul_right _ hi
      rw [List.getElem?_map, List.getElem?_range hlt] at huu
      simp only [Option.map_some, Option.some.injEq] at huu
      subst huu
      have e1 : (i * sz + j) / sz = i := by rw [Nat.mul_comm, Nat.mul_add_div hsz, Nat.div_eq_of_lt hjs, Nat.add_zero]
      have e2 : (i * sz + j) % sz = j := by rw [Nat.mul_comm, Nat.mul_add_mod, Nat.mod_eq_of_lt hjs]
      rw [e1, e2]
      exact hr i y j z hy hj

/-- append: to nothing, or to a row of one's own. -/
def absAppend (P : Program) (st : St) (d : Nat) (T : TypeId) (x y : PV) : Option (PV × Objs) :=
  match einf P T, res st.o 3 y with
  | some (e, sz, by_, _), some (.sl ys) =>
    if ∀ z ∈ ys, z.cells.length = sz then
      (match x with
      | .nil => if ys = [] then some (.nil, st.o) else if ys.length * (by_ + 1) ≤ 140737488355328 then some (.ref d ((st.o d).1 + 1), ((st.freeze (keysOf st.o 3 y)).new d (.row e ys)).o) else none
      | .ref k v => match (st.freeze (keysOf st.o 3 y)).o k with
        | (v', some (true, .row e' xs)) => if v' = v ∧ e' = e ∧ (xs.length + ys.length) * (by_ + 1) ≤ 140737488355328 then some (.ref d ((st.o d).1 + 1), move2 (st.freeze (keysOf st.o 3 y)).o k d ((st.o d).1 + 1) (.row e (xs ++ ys))) else none
        | _ => none
      | _ => none)
    else none
  | _, _ => none
theorem freeze_ver (st : St) (ks : List Nat) (k : Nat) : ((st.freeze ks).o k).1 = (st.o k).1 := by
  simp only [St.freeze]
  split
  · cases hp : st.o k with
    | mk v q => cases q with
      | none => rfl
      | some q => obtain ⟨b, x⟩ := q; cases x <;> rfl
  · rfl
theorem run_append_none (w : World) (t ty e : TypeId) (i : TypeInfo) (ht : P.underlying t = some (.slice e)) (hi : P.info? e = some i) (base : Option Addr) (sLen sCap : Nat) (hle : sLen ≤ sCap) (b2 : Option Addr) (c : Nat) :
    (Builtin.append_ #[t, t] ty #[.slice base sLen sCap, .slice b2 0 c]).run P w = .ok (.slice base sLen sCap) w := by
  cases base <;> cases b2 <;> simp [Builtin.append_, run_underlying ht, sizeOf, typeInfo, hi, Builtin.lenOf, Builtin.firstCells, loadCells, loadCellsFrom, hle, storeCells]
theorem append_rd {B : Nat → Prop} {xs ys : List PV} {sz : Nat} {olds news : List Value} {us : Array Value} (ho : olds.length = xs.length * sz) (hn : news.length = ys.length * sz) (hu : ∀ j, j < (xs.length + ys.length) * sz → us[j]? = (olds ++ news)[j]?)
    (hz : ∀ (i : Nat) (y : PV), (xs ++ ys)[i]? = some y → y.cells.length = sz)
    (h1 : ∀ (i : Nat) (y : PV) (j : Nat) (z : PV) (u : Value), xs[i]? = some y → y.cells[j]? = some z → olds[i * sz + j]? = some u → Rd w B z u)
    (h2 : ∀ (i : Nat) (y : PV) (j : Nat) (z : PV) (u : Value), ys[i]? = some y → y.cells[j]? = some z → news[i * sz + j]? = some u → Rd w B z u) :
    ∀ (i : Nat) (y : PV) (j : Nat) (z : PV) (u : Value), (xs ++ ys)[i]? = some y → y.cells[j]? = some z → us[i * sz + j]? = some u → Rd w B z u := by
  intro i y j z u hy hj huu
  have hjs : j < sz := by rw [← hz i y hy]; exact (List.getElem?_eq_some_iff.1 hj).1
  have hi := (List.getElem?_eq_some_iff.1 hy).1
  rw [List.length_append] at hi
  have hlt : i * sz + j < (xs.length + ys.length) * sz := by
    calc i * sz + j < i * sz + sz := by omega
      _ = (i + 1) * sz := by rw [Nat.add_mul, Nat.one_mul]
      _ ≤ (xs.length + ys.length) * sz := Nat.mul_le_mul_right _ hi
  rw [hu _ hlt] at huu
  by_cases hx : i < xs.length
  · rw [List.getElem?_append_left hx] at hy
    have hlt2 : i * sz + j < xs.length * sz := by
      calc i * sz + j < i * sz + sz := by omega
        _ = (i + 1) * sz := by rw [Nat.add_mul, Nat.one_mul]
        _ ≤ xs.length * sz := Nat.mul_le_mul_right _ hx
    rw [List.getElem?_append_left (by rw [ho]; exact hlt2)] at huu
    exact h1 i y j z u hy hj huu
  · rw [List.getElem?_append_right (by omega)] at hy
    have hge : xs.length * sz ≤ i * sz + j := Nat.le_trans (Nat.mul_le_mul_right _ (by omega)) (Nat.le_add_right _ _)
    rw [List.getElem?_append_right (by rw [ho]; exact hge), ho] at huu
    have e : i * sz + j - xs.length * sz = (i - xs.length) * sz + j := by
      rw [Nat.sub_mul]; have := Nat.mul_le_mul_right sz (show xs.length ≤ i by omega); omega
    rw [e] at huu
    exact h2 _ y j z u hy hj huu
theorem take_drop_get (cur : Array Value) (news : List Value) (k : Nat) (h : k + news.length ≤ cur.size) (j : Nat) (hj : j < k + news.length) : ((cur.toList.take k ++ news ++ cur.toList.drop (k + news.length)).toArray)[j]? = (cur.toList.take k ++ news)[j]? := by
  rw [List.getElem?_toArray, List.getElem?_append_left]
  simp; omega
theorem ORun.append {oper : Oper} {c : Call} {d : Nat} (hkn : d < 1000000000) {T : TypeId} {x y : Operand} {r : PV} {ob : Objs} (ho : oper.op = .call c) (hca : c.callee = .builtin .append) (hargs : c.args = #[x, y]) (hty : c.argTypes = #[T, T]) (hr : absAppend P st d T (st.ev x) (st.ev y) = some (r, ob)) :
    ORun P n w0 imp oper st r ob := by
  intro τ a w h
  have hex : ∀ {v : Value} {w' : World}, (Builtin.append_ #[T, T] oper.type #[a.eval x, a.eval y]).run P w = .ok v w' → (execOp a.eval oper).run P w = .ok (.value v) w' := by
    intro v w' hv
    simp [execOp, ho, resolve, hca, hargs, hty, invoke, builtin, hv]
  unfold absAppend at hr
  split at hr
  rotate_left
  · cases hr
  rename_i e sz by_ zc ys hei hres
  split at hr
  rotate_left
  · cases hr
  rename_i hysz
  obtain ⟨inf, zv, hu, hi, hzv, hzs, hs, hbb, hp0, _, _, hcell⟩ := einf_some hei
  have hyr := h.resolved (ks := keysOf st.o 3 (st.ev y)) (ev_val h.slots y) hres (fun k hk => by rw [List.contains_iff_mem]; exact hk)
  have hxv := ev_val h.slots x
  have hy0 : ys = [] → ∃ b2 c2, a.eval y = .slice b2 0 c2 := by
    rintro rfl
    generalize a.eval y = v at hyr
    cases hyr with
    | sl0 a c => exact ⟨_, _, rfl⟩
    | sl xs ad n c sz us hn h0 => simp at hn; omega
  have hszz : ∀ {sz' : Nat}, (∀ (i : Nat) (y : PV), ys[i]? = some y → y.cells.length = sz') → ys ≠ [] → sz' = sz := by
    intro sz' hz' hne
    obtain ⟨z, rest, rfl⟩ := List.exists_cons_of_ne_nil hne
    rw [← hz' 0 z rfl]
    exact hysz z (by simp)
  -- a block made by growing
  have grow : ∀ (ks : List Nat) (st1 : St), st1.s = st.s → Sim P n w0 imp st1 τ a w → (∀ b, Fz (st.freeze (keysOf st.o 3 (st.ev y))).o τ w b → Fz st1.o τ w b) → (st1.o d).1 = (st.o d).1 → ys ≠ [] →
      ∀ (xs : List PV) (olds : List Value) (base : Option Addr) (sCap : Nat), olds.length = xs.length * sz → (∀ (i : Nat) (y : PV), xs[i]? = some y → y.cells.length = sz) → (∀ (i : Nat) (y : PV) (j : Nat) (z : PV), xs[i]? = some y → y.cells[j]? = some z → z.one = true) →
        (∀ (i : Nat) (y : PV) (j : Nat) (z : PV) (u : Value), xs[i]? = some y → y.cells[j]? = some z → olds[i * sz + j]? = some u → Rd w (Fz st1.o τ w) z u) →
        (base = none → sCap = 0 ∧ xs = []) → (∀ b, base = some b → ∀ j v, olds[j]? = some v → w.cell? (b.add j) = some v) → sCap < xs.length + ys.length → (xs.length + ys.length) * (by_ + 1) ≤ 140737488355328 → a.eval x = .slice base xs.length sCap →
        ∃ v w' τ', (Builtin.append_ #[T, T] oper.type #[a.eval x, a.eval y]).run P w = .ok v w' ∧ Sim P n w0 imp (st1.new d (.row e (xs ++ ys))) τ' a w' ∧ Val P (st1.new d (.row e (xs ++ ys))).o τ' w' (.ref d ((st.o d).1 + 1)) v := by
    intro _ st1 hst h1 hfz hver hne xs olds base sCap hol hxz hxo hxr hb0 hbs hcap hbig hex
    obtain ⟨ad, c, sz', news, hv, hz', ho', hnews⟩ := rd_news hyr hne
    obtain rfl := hszz hz' hne
    obtain ⟨hnl, hnc, hn1, hnr⟩ := hnews hp0
    have hypos : 0 < ys.length := List.length_pos_iff.2 hne
    have hb1 : xs.length + ys.length ≤ 140737488355328 := Nat.le_trans (Nat.le_mul_of_pos_right _ (by omega)) hbig
    have hb2 : (xs.length + ys.length) * by_ ≤ 140737488355328 := Nat.le_trans (Nat.mul_le_mul_left _ (by omega)) hbig
    have hrun : (Builtin.append_ #[T, T] oper.type #[a.eval x, a.eval y]).run P w = .ok (.slice (some ⟨w.heap.size, 0, none⟩) (xs.length + ys.length) (grownCap w (xs.length + ys.length) sCap e)) (w.drew.alloc (.cells (olds.toArray ++ news.toArray ++ Builtin.zeroCells zv.cells (grownCap w (xs.length + ys.length) sCap e - (xs.length + ys.length))) e)) := by
      rw [hex, hv]
      cases base with
      | none =>
        obtain ⟨rfl, rfl⟩ := hb0 rfl
        have : olds = [] := List.eq_nil_of_length_eq_zero (by simpa using hol)
        subst this
        have := run_append_nil (P := P) w T oper.type e inf zv hu hi hzv ad ys.length c news (by rw [hs]; exact hnl) hnc hypos (by simp at hb1; omega) (by rw [hbb]; simp at hb2; omega)
        simpa using this
      | some b =>
        exact run_append_grow (P := P) w T oper.type e inf zv hu hi hzv b xs.length sCap olds (by rw [hs]; exact hol) (hbs b rfl) ad ys.length c news (by rw [hs]; exact hnl) hnc hcap (by omega) (by rw [hbb]; exact growslice_fits hcap hb2)
    have hge := grownCap_ge w (xs.length + ys.length) sCap e
    have hle := grownCap_le_maxLen w (xs.length + ys.length) sCap e (by simp only [maxLen]; omega)
    have h1' : Sim P n w0 imp st1 τ a w.drew := h1.same_heap rfl rfl rfl rfl
    have hfz' : ∀ b, Fz st1.o τ w b → Fz st1.o τ w.drew b ∧ w.drew.heap[b]? = w.heap[b]? := fun b hb => ⟨hb, rfl⟩
    have hzall : ∀ (i : Nat) (y : PV), (xs ++ ys)[i]? = some y → y.cells.length = sz' := by
      intro i y hy
      rw [List.getElem?_append] at hy
      split at hy
      · exact hxz _ y hy
      · exact hz' _ y hy
    have hoall : ∀ (i : Nat) (y : PV) (j : Nat) (z : PV), (xs ++ ys)[i]? = some y → y.cells[j]? = some z → z.one = true := by
      intro i y j z hy hj
      rw [List.getElem?_append] at hy
      split at hy
      · exact hxo _ y j z hy hj
      · exact ho' _ y j z hy hj
    have h2 := h1'.newObj d hkn (.row e (xs ++ ys)) (grownCap w (xs.length + ys.length) sCap e) (olds.toArray ++ news.toArray ++ Builtin.zeroCells zv.cells (grownCap w (xs.length + ys.length) sCap e - (xs.length + ys.length))) e
      ⟨rfl, ?_, by rw [hcell]; exact hp0, by rw [List.length_append]; exact hge, hle, by rw [hcell]; exact hzall, hoall, ?_⟩
    · refine ⟨_, _, _, hrun, h2, ?_⟩
      rw [← hver]
      refine .ref _ _ _ (by rw [new_self]; exact Nat.le_refl _) fun b e' xs' hk => ?_
      rw [new_self] at hk
      simp only [Prod.mk.injEq, Option.some.injEq, Ob.row.injEq, true_and] at hk
      obtain ⟨_, _, rfl⟩ := hk
      rw [upd_same, List.length_append]
      rfl
    · rw [hcell]
      simp only [Array.size_append, List.size_toArray, size_zeroCells, hzs, hol, hnl, ← Nat.add_mul]
      congr 1
      omega
    · rw [hcell]
      refine append_rd hol hnl (fun j hj => ?_) hzall (fun i y j z u hy hj hu => (hxr i y j z u hy hj hu).ext hfz') fun i y j z u hy hj hu => (hnr i y j z u hy hj hu).ext fun b hb => hfz' b (hfz b hb)
      rw [show olds.toArray ++ news.toArray = (olds ++ news).toArray by simp, Array.getElem?_append_left, List.getElem?_toArray]
      simp only [List.size_toArray, List.length_append, hol, hnl, ← Nat.add_mul]
      exact hj
  split at hr
  · rename_i hx
    rw [hx] at hxv
    obtain ⟨ao, hxa⟩ := hxv.nil_inv
    split at hr
    · rename_i hnil
      cases hr
      obtain ⟨b2, c2, hyv⟩ := hy0 hnil
      refine ⟨_, _, τ, .inl (hex ?_), h, .pure (.nil ao)⟩
      rw [hxa, hyv]
      exact run_append_none w T oper.type e inf hu hi ao 0 0 (Nat.le_refl _) b2 c2
    · rename_i hne
      split at hr
      · rename_i hbig
        cases hr
        obtain ⟨v, w', τ', h1, h2, h3⟩ := grow [] (st.freeze (keysOf st.o 3 (st.ev y))) rfl (h.freeze _) (fun b hb => hb) (freeze_ver _ _ _) hne [] [] ao 0 (by simp) (by simp) (by simp) (by simp) (fun _ => ⟨rfl, rfl⟩) (by simp) (by simpa using List.length_pos_iff.2 hne) (by simpa using hbig) hxa
        exact ⟨v, w', τ', .inl (hex h1), h2, h3⟩
      · cases hr
  · rename_i k v hx
    rw [hx] at hxv
    split at hr
    · rename_i v' e' xs hk
      split at hr
      · rename_i hc
        obtain ⟨rfl, rfl, hbig⟩ := hc
        cases hr
        have hS := h.freeze (keysOf st.o 3 (st.ev y))
        obtain ⟨b', hk', hb'⟩ := freeze_some hk
        obtain rfl := hb' rfl
        have hxa : a.eval x = .slice (some ⟨(τ k).1, 0, none⟩) xs.length (τ k).2 := by
          cases hxv with
          | pure h' => cases h'
          | ref k ver v hv hp => exact hp _ _ _ hk'
        obtain ⟨vs, hg, hn, hsz0, hl, hm, hxz, hxo, hxr⟩ := hS.holds.row _ _ _ _ _ hk
        rw [hcell] at hn hsz0 hxz hxr
        have hb1 : xs.length + ys.length ≤ 140737488355328 := Nat.le_trans (Nat.le_mul_of_pos_right _ (by omega)) hbig
        have hfit0 : xs.length * sz ≤ vs.size := by rw [hn]; exact Nat.mul_le_mul_right _ hl
        have hol : (vs.toList.take (xs.length * sz)).length = xs.length * sz := by simp; omega
        have hlt : ∀ (i : Nat) (z : PV) (j : Nat) (c : PV), xs[i]? = some z → z.cells[j]? = some c → i * sz + j < xs.length * sz := by
          intro i z j c hz hj
          have hjs : j < sz := by rw [← hxz i z hz]; exact (List.getElem?_eq_some_iff.1 hj).1
          calc i * sz + j < i * sz + sz := by omega
            _ = (i + 1) * sz := by rw [Nat.add_mul, Nat.one_mul]
            _ ≤ xs.length * sz := Nat.mul_le_mul_right _ (List.getElem?_eq_some_iff.1 hz).1
        have holr : ∀ (i : Nat) (z : PV) (j : Nat) (c : PV) (u : Value), xs[i]? = some z → z.cells[j]? = some c → (vs.toList.take (xs.length * sz))[i * sz + j]? = some u → Rd w (Fz (st.freeze (keysOf st.o 3 (st.ev y))).o τ w) c u := by
          intro i z j c u hz hj hu
          rw [List.getElem?_take, if_pos (hlt i z j c hz hj), Array.getElem?_toList] at hu
          exact hxr i z j c u hz hj hu
        by_cases hnil : ys = []
        · obtain ⟨b2, c2, hyv⟩ := hy0 hnil
          subst hnil
          rw [List.append_nil]
          refine ⟨.slice (some ⟨(τ k).1, 0, none⟩) xs.length (τ k).2, w, _, .inl (hex ?_), hS.write hk (by simp) (.inr hkn) (.inr (by rw [freeze_ver])) hg (fun b hb => rfl) rfl rfl rfl rfl ⟨rfl, by rw [hcell]; exact hn, by rw [hcell]; exact hp0, hl, hm, by rw [hcell]; exact hxz, hxo, by rw [hcell]; exact hxr⟩, ?_⟩
          · rw [hxa, hyv]
            exact run_append_none w T oper.type e' inf hu hi _ _ _ hl b2 c2
          · refine .ref _ _ _ (by simp [move2]) fun b e xs' hk2 => ?_
            simp only [move2, upd_same, Prod.mk.injEq, Option.some.injEq, Ob.row.injEq, true_and] at hk2
            obtain ⟨_, _, rfl⟩ := hk2
            rw [upd_same]
        · by_cases hroom : xs.length + ys.length ≤ (τ k).2
          · obtain ⟨ad, c, sz', news, hv, hz', ho', hnews⟩ := rd_news hyr hnil
            obtain rfl := hszz hz' hnil
            obtain ⟨hnl, hnc, hn1, hnr⟩ := hnews hp0
            have hfit : xs.length * sz' + news.length ≤ vs.size := by rw [hnl, hn, ← Nat.add_mul]; exact Nat.mul_le_mul_right _ hroom
            have hrun := run_append_room (P := P) w T oper.type e' inf hu hi (τ k).1 xs.length (τ k).2 vs hg ad ys.length c news (by rw [hs]; exact hnl) hnc hn1 hroom (by rw [hs]; exact hfit)
            rw [hs] at hrun
            generalize hcur : (vs.toList.take (xs.length * sz') ++ news ++ vs.toList.drop (xs.length * sz' + news.length)).toArray = cur at hrun
            have hzall : ∀ (i : Nat) (z : PV), (xs ++ ys)[i]? = some z → z.cells.length = sz' := by
              intro i z hy
              rw [List.getElem?_append] at hy
              split at hy
              · exact hxz _ z hy
              · exact hz' _ z hy
            have hoall : ∀ (i : Nat) (z : PV) (j : Nat) (c : PV), (xs ++ ys)[i]? = some z → z.cells[j]? = some c → c.one = true := by
              intro i z j c hy hj
              rw [List.getElem?_append] at hy
              split at hy
              · exact hxo _ z j c hy hj
              · exact ho' _ z j c hy hj
            refine ⟨.slice (some ⟨(τ k).1, 0, none⟩) (xs.length + ys.length) (τ k).2, w.setRow (τ k).1 cur, _, .inl (hex ?_), hS.write (cap := (τ k).2) hk (by simp) (.inr hkn) (.inr (by rw [freeze_ver])) (setRow_heap w _ vs cur _ _ hg) (fun b hb => setRow_other w _ b _ hb) (by simp [World.setRow]) rfl rfl rfl ⟨rfl, ?_, by rw [hcell]; exact hp0, by rw [List.length_append]; exact hroom, hm, by rw [hcell]; exact hzall, hoall, ?_⟩, ?_⟩
            · rw [hxa, hv]; exact hrun
            · rw [hcell, ← hcur]
              simp only [List.size_toArray, List.length_append, List.length_take, List.length_drop, Array.length_toList]
              omega
            · rw [hcell]
              refine append_rd hol hnl (fun j hj => ?_) hzall holr hnr
              rw [← hcur]
              exact take_drop_get vs news _ hfit j (by rw [hnl, ← Nat.add_mul]; exact hj)
            · refine .ref _ _ _ (by simp [move2]) fun b e xs' hk2 => ?_
              simp only [move2, upd_same, Prod.mk.injEq, Option.some.injEq, Ob.row.injEq, true_and] at hk2
              obtain ⟨_, _, rfl⟩ := hk2
              rw [upd_same, List.length_append]
          · have hkill := hS.kill k hk (by simp)
            have hfz : ∀ b, Fz (st.freeze (keysOf st.o 3 (st.ev y))).o τ w b → Fz ((st.freeze (keysOf st.o 3 (st.ev y))).kill k).o τ w b := fun b hb => ⟨hb.1, fun k' ⟨v, x, hk'⟩ => hb.2 k' ⟨v, x, by
              simp only [St.kill] at hk'
              by_cases e : k' = k
              · subst e; simp at hk'
              · rw [upd_ne _ _ e] at hk'; exact hk'⟩⟩
            have hver : (((st.freeze (keysOf st.o 3 (st.ev y))).kill k).o d).1 = (st.o d).1 := by
              simp only [St.kill]
              by_cases e : d = k
              · subst e; simp [freeze_ver]
              · rw [upd_ne _ _ e, freeze_ver]
            obtain ⟨v, w', τ', h1, h2, h3⟩ := grow [] ((st.freeze (keysOf st.o 3 (st.ev y))).kill k) rfl hkill hfz hver hnil xs (vs.toList.take (xs.length * sz)) (some ⟨(τ k).1, 0, none⟩) (τ k).2 hol hxz hxo (fun i z j c u hz hj hu => (holr i z j c u hz hj hu).ext fun b hb => ⟨hfz b hb, rfl⟩) (fun h => by cases h) (fun b hb j u hj => by
              cases hb
              rw [cell_blk hg, Nat.zero_add]
              have hjl := (List.getElem?_eq_some_iff.1 hj).1
              rw [hol] at hjl
              rw [List.getElem?_take, if_pos hjl, Array.getElem?_toList] at hj
              exact hj) (by omega) hbig hxa
            have hmo : (((st.freeze (keysOf st.o 3 (st.ev y))).kill k).new d (.row e' (xs ++ ys))).o = move2 (st.freeze (keysOf st.o 3 (st.ev y))).o k d ((st.o d).1 + 1) (.row e' (xs ++ ys)) := by
              simp only [St.new, hver]
              rfl
            refine ⟨v, w', τ', .inl (hex h1), ?_, ?_⟩
            · rw [← hmo]; exact h2
            · rw [← hmo]; exact h3
      · cases hr
    · cases hr
  · cases hr
end
end Go.Sx
/- The abstract machine, part 12: a function's contract, and a call. -/
set_option linter.unusedVariables false
set_option linter.unusedSimpArgs false
namespace Go.Sx
open Go Go.RowKit

def PV.flat0 : PV → Bool
  | .int _ _ | .bool _ | .str _ => true
  | _ => false
def PV.flat1 : PV → Bool
  | .agg cs => cs.all PV.flat0
  | x => x.flat0
/-- A value without addresses. -/
def PV.flat : PV → Bool
  | .tup cs => cs.all PV.flat1
  | x => x.flat1
/-- What a call comes to: a value of frozen memory, or a row that is the caller's own from now on. -/
inductive Rs where
  | fr (r : PV)
  | row (e : TypeId) (xs : List PV)
def newB (B : Nat → Prop) (w w' : World) (b : Nat) : Prop := B b ∨ (w.heap.size ≤ b ∧ b < w'.heap.size)
def Rs.post (P : Program) (B : Nat → Prop) (w w' : World) (v : Value) : Rs → Prop
  | .fr r => Rd w' (newB B w w') r v
  | .row e xs => ∃ g cap us, v = .slice (some ⟨g, 0, none⟩) xs.length cap ∧ w.heap.size ≤ g ∧ w'.heap[g]? = some (.cells us e (0, 0)) ∧ us.size = cap * P.cellsOf e ∧ 0 < P.cellsOf e ∧ xs.length ≤ cap ∧ cap ≤ maxLen ∧
    (∀ (i : Nat) (y : PV), xs[i]? = some y → y.cells.length = P.cellsOf e) ∧ (∀ (i : Nat) (y : PV) (j : Nat) (z : PV), xs[i]? = some y → y.cells[j]? = some z → z.one = true) ∧
    ∀ (i : Nat) (y : PV) (j : Nat) (z : PV) (u : Value), xs[i]? = some y → y.cells[j]? = some z → us[i * P.cellsOf e + j]? = some u → Rd w' (fun b => newB B w w' b ∧ b ≠ g) z u
/-- The contract of a function: with these arguments it returns this. -/
structure FnR (P : Program) (f : FuncId) (args : List PV) (R : Rs) : Prop where
  enter : ∀ vs w, (callFunc f vs).run P w = .ok (.enter f vs) w
  calls : ∀ (vs : Array Value) (w : World) (B : Nat → Prop), (∀ b, B b → b < w.heap.size) → vs.size = args.length → (∀ (j : Nat) (z : PV) (u : Value), args[j]? = some z → vs[j]? = some u → Rd w B z u) →
    Calls P f vs w fun e w' => ∃ v, e = .returned v ∧ Below w.heap.size w w' ∧ R.post P B w w' v
abbrev Fn (P : Program) (f : FuncId) (args : List PV) (r : PV) : Prop := FnR P f args (.fr r)

section
variable {P : Program} {n : Nat} {w0 : World} {imp : Im} {st : St} {τ τ' : Places} {a : Act} {w w' : World} {o o' : Objs}

theorem Sim.below (h : Sim P n w0 imp st τ a w) (hb : Below w.heap.size w w') : Sim P n w0 imp st τ a w' ∧ (∀ b, Fz st.o τ w b → Fz st.o τ w' b ∧ w'.heap[b]? = w.heap[b]?) ∧ ∀ b, newB (Fz st.o τ w) w w' b → Fz st.o τ w' b := by
  have hfz : ∀ b, Fz st.o τ w b → Fz st.o τ w' b ∧ w'.heap[b]? = w.heap[b]? := fun b hb' => ⟨⟨Nat.lt_of_lt_of_le hb'.1 hb.size, hb'.2⟩, hb.block b hb'.1⟩
  have he : Ext st.o τ w st.o τ w' := ⟨hfz, fun k => Nat.le_refl _, fun k b' x' hk => ⟨b', x', hk, by cases x' <;> simp [Ob.like], rfl⟩⟩
  refine ⟨Sim.step h he ⟨fun k' v b t' cs hk' => ?_, fun k' v b e xs hk' => ?_, fun k' v b hk' => Nat.lt_of_lt_of_le (h.holds.oth k' v b hk') hb.size, h.holds.inj, fun k' v y hk' => (hfz _ (h.holds.fro k' v y hk')).1, fun k' v b m hk' => (h.holds.mp k' v b m hk').ext he (hb.block _ (h.holds.lt hk'))⟩ ⟨by rw [hb.os]; exact h.frame.os, by rw [hb.tape]; exact h.frame.tape, by rw [hb.output]; exact h.frame.output, Nat.le_trans h.frame.size hb.size, fun b hbl hi => (hb.block b (Nat.lt_of_lt_of_le hbl h.frame.size)).trans (h.frame.block b hbl hi)⟩ h.mine (fun k ver _ hk => ⟨hk, rfl⟩), hfz, ?_⟩
  · obtain ⟨us, hg', hn, h1, hr⟩ := h.holds.box k' v b t' cs hk'
    exact ⟨us, by rw [hb.block _ (h.holds.lt hk')]; exact hg', hn, h1, fun j z u hz hu => (hr j z u hz hu).ext he⟩
  · obtain ⟨us, hg', hn, hs, hl, hm, hz, h1, hr⟩ := h.holds.row k' v b e xs hk'
    exact ⟨us, by rw [hb.block _ (h.holds.lt hk')]; exact hg', hn, hs, hl, hm, hz, h1, fun i y j z u hy hj hu => (hr i y j z u hy hj hu).ext he.fz⟩
  · rintro b (hb' | ⟨h1, h2⟩)
    · exact (hfz b hb').1
    · exact ⟨h2, fun k ⟨v, y, hk⟩ e => by have := h.holds.lt hk; omega⟩
/-- A row that a call has made is one's own from now on. -/
theorem Sim.ownRow (h : Sim P n w0 imp st τ a w) (hb : Below w.heap.size w w') (k : Nat) (hkn : k < 1000000000) {e : TypeId} {xs : List PV} {v : Value} (hr : Rs.post P (Fz st.o τ w) w w' v (.row e xs)) :
    ∃ τ', Sim P n w0 imp (st.new k (.row e xs)) τ' a w' ∧ Val P (st.new k (.row e xs)).o τ' w' (.ref k ((st.o k).1 + 1)) v := by
  obtain ⟨g, cap, us, rfl, hg0, hg, hus, hp0, hl, hm, hz, h1, hrd⟩ := hr
  have hgl : g < w'.heap.size := (Array.getElem?_eq_some_iff.1 hg).1
  have hsome : ∀ {k' ver : Nat} {b : Bool} {x : Ob}, (st.new k (.row e xs)).o k' = (ver, some (b, x)) → k' ≠ k → st.o k' = (ver, some (b, x)) := fun hk hne => by rw [new_at hne] at hk; exact hk
  have hlt : ∀ {k' ver : Nat} {b : Bool} {x : Ob}, st.o k' = (ver, some (b, x)) → (τ k').1 < w.heap.size := fun hk => h.holds.lt hk
  have hfz : ∀ b, Fz st.o τ w b → Fz (st.new k (.row e xs)).o (upd τ k (g, cap)) w' b ∧ w'.heap[b]? = w.heap[b]? := fun b hb' => by
    refine ⟨⟨Nat.lt_of_lt_of_le hb'.1 hb.size, fun k' hk' => ?_⟩, hb.block b hb'.1⟩
    by_cases e' : k' = k
    · subst e'; rw [upd_same]; have := hb'.1; simp only; omega
    · rw [upd_ne _ _ e']; exact hb'.2 k' (live_new hk' e')
  have he : Ext st.o τ w (st.new k (.row e xs)).o (upd τ k (g, cap)) w' := by
    refine ⟨hfz, fun k' => ?_, fun k' b' x' hk' => ?_⟩
    · by_cases e' : k' = k
      · subst e'; rw [new_self]; exact Nat.le_succ _
      · rw [new_at e']; exact Nat.le_refl _
    · by_cases e' : k' = k
      · subst e'
        rw [new_self] at hk'
        simp only [Prod.mk.injEq] at hk'
        omega
      · rw [new_at e'] at hk'
        exact ⟨b', x', hk', by cases x' <;> simp [Ob.like], upd_ne _ _ e'⟩
  refine ⟨upd τ k (g, cap), Sim.step (o' := (st.new k (.row e xs)).o) h he ⟨fun k' ver b t' cs hk => ?_, fun k' ver b e' xs' hk => ?_, fun k' ver b hk => ?_, fun k1 k2 h1 h2 e => ?_, fun k' ver y hk => ?_, fun k' ver b m hk => ?_⟩ ⟨by rw [hb.os]; exact h.frame.os, by rw [hb.tape]; exact h.frame.tape, by rw [hb.output]; exact h.frame.output, Nat.le_trans h.frame.size hb.size, fun b hbl hi => (hb.block b (Nat.lt_of_lt_of_le hbl h.frame.size)).trans (h.frame.block b hbl hi)⟩ (fun k' ver y hk hy => ?_) fun k' ver hge hk => ⟨by rw [new_at (by omega)]; exact hk, by rw [upd_ne _ _ (by omega)]⟩, ?_⟩
  · by_cases e' : k' = k
    · subst e'; rw [new_self] at hk; simp at hk
    · obtain ⟨vs', hg', hn, h1, hr⟩ := h.holds.box k' ver b t' cs (hsome hk e')
      exact ⟨vs', by rw [upd_ne _ _ e', hb.block _ (hlt (hsome hk e'))]; exact hg', hn, h1, fun j z u hz hu => (hr j z u hz hu).ext he⟩
  · by_cases hkk : k' = k
    · subst hkk
      rw [new_self] at hk
      simp only [Prod.mk.injEq, Option.some.injEq, Ob.row.injEq] at hk
      obtain ⟨_, _, rfl, rfl⟩ := hk
      rw [upd_same]
      refine ⟨us, hg, hus, hp0, hl, hm, hz, h1, fun i y j z u hy hj hu => (hrd i y j z u hy hj hu).ext fun b hbb => ⟨?_, rfl⟩⟩
      rcases hbb with ⟨hb1 | ⟨hb1, hb2⟩, hne⟩
      · exact (hfz b hb1).1
      · refine ⟨hb2, fun k'' hk'' => ?_⟩
        by_cases e' : k'' = k'
        · subst e'; rw [upd_same]; exact Ne.symm hne
        · rw [upd_ne _ _ e']
          obtain ⟨v2, y2, h2⟩ := live_new hk'' e'
          have := hlt h2
          omega
    · obtain ⟨vs', hg', hn, hs, hl, hm, hz, h1, hr⟩ := h.holds.row k' ver b e' xs' (hsome hk hkk)
      rw [upd_ne _ _ hkk]
      exact ⟨vs', by rw [hb.block _ (hlt (hsome hk hkk))]; exact hg', hn, hs, hl, hm, hz, h1, fun i y j z u hy hj hu => (hr i y j z u hy hj hu).ext he.fz⟩
  · by_cases e' : k' = k
    · subst e'; rw [new_self] at hk; simp at hk
    · rw [upd_ne _ _ e']; exact Nat.lt_of_lt_of_le (h.holds.oth k' ver b (hsome hk e')) hb.size
  · by_cases e1 : k1 = k <;> by_cases e2 : k2 = k
    · rw [e1, e2]
    · obtain ⟨v2, y2, hk2⟩ := live_new h2 e2
      have := hlt hk2
      subst e1
      rw [upd_same, upd_ne _ _ e2] at e
      simp only at e
      omega
    · obtain ⟨v1, y1, hk1⟩ := live_new h1 e1
      have := hlt hk1
      subst e2
      rw [upd_same, upd_ne _ _ e1] at e
      simp only at e
      omega
    · rw [upd_ne _ _ e1, upd_ne _ _ e2] at e
      exact h.holds.inj k1 k2 (live_new h1 e1) (live_new h2 e2) e
  · by_cases e' : k' = k
    · subst e'; rw [new_self] at hk; simp at hk
    · rw [upd_ne _ _ e']; exact (hfz _ (h.holds.fro k' ver y (hsome hk e'))).1
  · by_cases e' : k' = k
    · subst e'; rw [new_self] at hk; simp at hk
    · rw [upd_ne _ _ e']; exact (h.holds.mp k' ver b m (hsome hk e')).ext he (hb.block _ (hlt (hsome hk e')))
  · by_cases e' : k' = k
    · subst e'; rw [upd_same]; exact .inl (Nat.le_trans h.frame.size hg0)
    · rw [upd_ne _ _ e']; exact h.mine k' ver y (hsome hk e') hy
  · refine .ref _ _ _ (by rw [new_self]; exact Nat.le_refl _) fun b e' xs' hk => ?_
    rw [new_self] at hk
    simp only [Prod.mk.injEq, Option.some.injEq, Ob.row.injEq, true_and] at hk
    obtain ⟨_, _, rfl⟩ := hk
    rw [upd_same]
theorem flat0_val {B : Nat → Prop} {r : PV} {v : Value} (h : Rd w B r v) (hf : r.flat0 = true) : Val P o τ w' r v := by
  cases h <;> first | exact Val.int_ _ _ | exact Val.bool_ _ | exact Val.str_ _ | simp [PV.flat0] at hf
theorem flat1_val {B : Nat → Prop} {r : PV} {v : Value} (h : Rd w B r v) (hf : r.flat1 = true) : Val P o τ w' r v := by
  cases r
  case agg cs =>
    cases h with
    | agg cs vs hn h1 hr => exact .agg cs vs hn h1 fun j z u hz hu => flat0_val (hr j z u hz hu) (List.all_eq_true.1 hf z (List.mem_of_getElem? hz))
  all_goals exact flat0_val h hf
theorem flat_val {B : Nat → Prop} {r : PV} {v : Value} (h : Rd w B r v) (hf : r.flat = true) : Val P o τ w' r v := by
  cases r
  case tup cs =>
    cases h with
    | tup cs vs hn hr => exact .tup cs vs hn fun j z u hz hu => flat1_val (hr j z u hz hu) (List.all_eq_true.1 hf z (List.mem_of_getElem? hz))
  all_goals exact flat1_val h hf

/-- What a call of a contract's function does to the state. -/
def callSt (st : St) (ks : List Nat) (dst : Option Tmp) : Rs → Option (PV × Objs)
  | .fr r => some (r, if r.flat then st.o else (st.freeze ks).o)
  | .row e xs => match dst with
    | some d => some (.ref d ((st.o d).1 + 1), ((st.freeze ks).new d (.row e xs)).o)
    | none => none
theorem Calls.of_contract {f : FuncId} {as : List PV} {R : Rs} (hF : FnR P f as R) {args : List PV} {vs : Array Value} {ks : List Nat} {dst : Option Tmp} {x : PV} {ob : Objs} (hd : ∀ d, dst = some d → d < 1000000000)
    (h : Sim P n w0 imp st τ a w) (hn : vs.size = args.length) (hv : ∀ (j : Nat) (z : PV) (u : Value), args[j]? = some z → vs[j]? = some u → Val P st.o τ w z u)
    (hr : args.mapM (res st.o 4) = some as) (hk : ks = args.flatMap (keysOf st.o 4)) (hc : callSt st ks dst R = some (x, ob)) :
    Calls P f vs w fun e w' => ∃ v τ', e = .returned v ∧ Sim P n w0 imp { st with o := ob } τ' a w' ∧ Val P ob τ' w' x v := by
  have hS := h.freeze ks
  refine Calls.mono (hF.calls vs w (Fz (st.freeze ks).o τ w) (fun b hb => hb.1) (by rw [hn, (mapM_get hr).1]) fun j z u hz hu => ?_) ?_
  · obtain ⟨x, hx, hres⟩ := (mapM_get hr).2 j z hz
    refine h.resolved (hv j x u hx hu) hres fun k hkk => ?_
    rw [List.contains_iff_mem, hk]
    exact List.mem_flatMap.2 ⟨x, List.mem_of_getElem? hx, hkk⟩
  · rintro e w' ⟨v, rfl, hb, hp⟩
    cases R with
    | fr r =>
      simp only [callSt, Option.some.injEq, Prod.mk.injEq] at hc
      obtain ⟨rfl, rfl⟩ := hc
      by_cases hf : r.flat = true
      · rw [if_pos hf]
        exact ⟨v, τ, rfl, (h.below hb).1, flat_val hp hf⟩
      · rw [if_neg hf]
        obtain ⟨h1, h2, h3⟩ := hS.below hb
        exact ⟨v, τ, rfl, h1, .pure (hp.ext fun b hbb => ⟨h3 b hbb, rfl⟩)⟩
    | row e xs =>
      unfold callSt at hc
      split at hc
      · rename_i he; cases he
      · rename_i e' xs' he
        cases he
        split at hc
        · rename_i d
          cases hc
          obtain ⟨τ', h1, h2⟩ := hS.ownRow hb d (hd d rfl) hp
          rw [freeze_ver] at h2
          exact ⟨v, τ', rfl, h1, h2⟩
        · cases hc
end
end Go.Sx
/- The abstract machine, part 13: an operation looks at its operands and at the objects it is shown, and at nothing else. -/
set_option linter.unusedVariables false
set_option linter.unusedSimpArgs false
namespace Go.Sx
open Go Go.RowKit

/-- Of each object it is known what it is, or nothing. -/
def Objs.le (o o' : Objs) : Prop := ∀ k, o k = o' k ∨ (o k).2 = none
theorem Objs.le_refl (o : Objs) : Objs.le o o := fun k => .inl rfl

section
variable {P : Program} {E : Env P} {o o' : Objs} {st st' : St}

theorem getRow_mono (h : Objs.le o o') {k v : Nat} {p : TypeId × List PV} (hg : getRow o k v = some p) : getRow o' k v = some p := by
  obtain ⟨b, hb⟩ := getRow_some (t := p.1) (cs := p.2) hg
  rcases h k with e | e
  · simp only [getRow, ← e] at hg ⊢; exact hg
  · rw [hb] at e; cases e
theorem getBox_mono (h : Objs.le o o') {k v : Nat} {p : TypeId × List PV} (hg : getBox o k v = some p) : getBox o' k v = some p := by
  obtain ⟨b, hb⟩ := getBox_some (t := p.1) (cs := p.2) hg
  rcases h k with e | e
  · simp only [getBox, ← e] at hg ⊢; exact hg
  · rw [hb] at e; cases e
theorem ok1_mono (h : Objs.le o o') {x : PV} (hx : ok1 o x = true) : ok1 o' x = true := by
  cases x <;> simp only [ok1, Option.isSome_iff_exists] at hx ⊢ <;> first | exact hx | (obtain ⟨p, hp⟩ := hx; first | exact ⟨p, getRow_mono h hp⟩ | exact ⟨p, getBox_mono h hp⟩)
theorem all_ok1_mono (h : Objs.le o o') {l : List PV} (hx : l.all (ok1 o) = true) : l.all (ok1 o') = true := by
  simp only [List.all_eq_true] at hx ⊢
  exact fun x hm => ok1_mono h (hx x hm)
theorem absFieldAddr_mono (h : Objs.le o o') {T : TypeId} {x y : PV} {f : Nat} (hx : absFieldAddr P o T x f = some y) : absFieldAddr P o' T x f = some y := by
  unfold absFieldAddr at hx ⊢
  split at hx
  · rename_i e; try simp only [e]
    split at hx
    · cases hx
    · rename_i hs
      rw [if_neg hs]
      split at hx
      · exact hx
      · obtain ⟨p, hp, rfl⟩ := Option.map_eq_some_iff.1 hx; simp [getBox_mono h hp]
      · obtain ⟨p, hp, rfl⟩ := Option.map_eq_some_iff.1 hx; simp [getRow_mono h hp]
      · cases hx
  · cases hx
theorem absLoad_mono (h : Objs.le o o') {T : TypeId} {x y : PV} (hx : absLoad P o T x = some y) : absLoad P o' T x = some y := by
  unfold absLoad at hx ⊢
  split at hx
  · exact hx
  · split at hx
    · rename_i e; simp only [getBox_mono h e]; exact hx
    · cases hx
  · split at hx
    · rename_i e; simp only [getRow_mono h e]; exact hx
    · cases hx
  · cases hx
theorem getMap_mono (h : Objs.le o o') {k v : Nat} {p : Mp} (hg : getMap o k v = some p) : getMap o' k v = some p := by
  obtain ⟨b, hb⟩ := getMap_some hg
  rcases h k with e | e
  · simp only [getMap, ← e] at hg ⊢; exact hg
  · rw [hb] at e; cases e
theorem absLook_mono (h : Objs.le o o') {b : Option Mk} {x i y : PV} (hx : absLook b (mapOf o x) i = some y) : absLook b (mapOf o' x) i = some y := by
  cases hm : mapOf o x with
  | none =>
    rw [hm] at hx
    have : absLook b none i = none := by unfold absLook; split <;> first | rfl | (rename_i e; cases e)
    rw [this] at hx
    cases hx
  | some m =>
    have : mapOf o' x = some m := by
      unfold mapOf at hm ⊢
      split at hm
      · exact getMap_mono h hm
      · cases hm
    rw [this, ← hm]; exact hx
theorem absIndexAddr_mono (h : Objs.le o o') {T : TypeId} {x i y : PV} (hx : absIndexAddr P o T x i = some y) : absIndexAddr P o' T x i = some y := by
  unfold absIndexAddr at hx ⊢
  split at hx
  · rename_i e1; try simp only [e1]
    split at hx
    · exact hx
    · split at hx
      · rename_i e; simp only [getRow_mono h e]; exact hx
      · cases hx
    · cases hx
  · cases hx
theorem absLen_mono (h : Objs.le o o') {T : TypeId} {x y : PV} (hx : absLen P o T x = some y) : absLen P o' T x = some y := by
  unfold absLen at hx ⊢
  split at hx <;> rename_i e <;> first | simp only [e] | skip
  · exact hx
  · exact hx
  · obtain ⟨p, hp, rfl⟩ := Option.map_eq_some_iff.1 hx; simp [getRow_mono h hp]
  · exact hx
  · cases hx
theorem absFill_mono (h : Objs.le o o') {place : Nat → Option (Nat × Nat)} : ∀ {parts : List (Nat × PV)} {cells r : List PV}, absFill o place cells parts = some r → absFill o' place cells parts = some r
  | [], cells, r, hx => hx
  | (i, x) :: rest, cells, r, hx => by
    simp only [absFill] at hx ⊢
    split at hx
    · cases hx
    · split at hx
      · rename_i hc
        rw [if_pos ⟨hc.1, hc.2.1, all_ok1_mono h hc.2.2⟩]
        exact absFill_mono h hx
      · cases hx
theorem absBuild_mono (h : Objs.le o o') {T : TypeId} {parts : List (Nat × PV)} {y : PV} (hx : absBuild P o T parts = some y) : absBuild P o' T parts = some y := by
  unfold absBuild at hx ⊢
  split at hx
  · obtain ⟨p, hp, rfl⟩ := Option.map_eq_some_iff.1 hx; simp [absFill_mono h hp]
  · cases hx
theorem mapM_mono {α β : Type} {f g : α → Option β} (h : ∀ x y, f x = some y → g x = some y) : ∀ {l : List α} {r : List β}, l.mapM f = some r → l.mapM g = some r
  | [], r, hr => by simpa using hr
  | x :: l, r, hr => by
    simp only [List.mapM_cons, Option.bind_eq_bind, Option.pure_def, Option.bind_eq_some_iff, Option.some.injEq] at hr ⊢
    obtain ⟨y, hy, ys, hys, rfl⟩ := hr
    exact ⟨y, h x y hy, ys, mapM_mono h hys, rfl⟩
theorem res_mono (h : Objs.le o o') : ∀ (n : Nat) {x y : PV}, res o n x = some y → res o' n x = some y
  | 0, x, y, hx => by cases hx
  | n + 1, x, y, hx => by
    cases x <;> simp only [res] at hx ⊢ <;> try exact hx
    case agg cs => obtain ⟨p, hp, rfl⟩ := Option.map_eq_some_iff.1 hx; simp [mapM_mono (fun x y => res_mono h n) hp]
    case tup cs => obtain ⟨p, hp, rfl⟩ := Option.map_eq_some_iff.1 hx; simp [mapM_mono (fun x y => res_mono h n) hp]
    case fn f fs cs =>
      split at hx
      · rename_i e1 e2
        simp only [mapM_mono (fun x y => res_mono h n) e1, mapM_mono (fun x y => res_mono h n) e2]
        exact hx
      · cases hx
    case ref k v => obtain ⟨p, hp, rfl⟩ := Option.map_eq_some_iff.1 hx; simp [getRow_mono h hp]
    case ptr k v off =>
      split at hx
      · rename_i e
        obtain ⟨p, hp, rfl⟩ := Option.map_eq_some_iff.1 hx
        simp [getBox_mono h e, mapM_mono (fun x y => res_mono h n) hp]
      · cases hx
theorem keysOf_mono (h : Objs.le o o') : ∀ (n : Nat) {x y : PV}, res o n x = some y → keysOf o' n x = keysOf o n x
  | 0, x, y, hx => by cases hx
  | n + 1, x, y, hx => by
    have cells : ∀ {cs cs' : List PV}, cs.mapM (res o n) = some cs' → cs.flatMap (keysOf o' n) = cs.flatMap (keysOf o n) := by
      intro cs cs' hm
      rw [List.flatMap_def, List.flatMap_def]
      congr 1
      refine List.map_congr_left fun x hx => ?_
      obtain ⟨j, hj⟩ := List.getElem?_of_mem hx
      have hl := (List.getElem?_eq_some_iff.1 hj).1
      have hl' : j < cs'.length := by rw [(mapM_get hm).1]; exact hl
      obtain ⟨x', hx', hr⟩ := (mapM_get hm).2 j _ (List.getElem?_eq_getElem hl')
      rw [hj] at hx'
      cases hx'
      exact keysOf_mono h n hr
    cases x <;> simp only [res] at hx <;> simp only [keysOf]
    case agg cs => obtain ⟨p, hp, rfl⟩ := Option.map_eq_some_iff.1 hx; exact cells hp
    case tup cs => obtain ⟨p, hp, rfl⟩ := Option.map_eq_some_iff.1 hx; exact cells hp
    case fn f fs cs =>
      split at hx
      · rename_i e1 e2; rw [cells e1, cells e2]
      · cases hx
    case ptr k v off =>
      split at hx
      · rename_i e
        obtain ⟨p, hp, rfl⟩ := Option.map_eq_some_iff.1 hx
        simp only [getBox_mono h e, e]
        rw [cells hp]
      · cases hx
theorem absLit_mono (hs : st.s = st'.s) (h : Objs.le st.o st'.o) {T : TypeId} {len : Nat} {parts : List (Nat × Operand)} {e : TypeId} {ys : List PV} {ks : List Nat} (hx : absLit P st T len parts = some (e, ys, ks)) : absLit P st' T len parts = some (e, ys, ks) := by
  have hev : ∀ x, st'.ev x = st.ev x := fun x => by cases x <;> simp [St.ev, hs]
  unfold absLit at hx ⊢
  split at hx
  · rename_i e1; try simp only [e1]
    split at hx
    · rename_i ys' hm
      have hm' : parts.mapM (fun p => res st'.o 3 (st'.ev p.2)) = some ys' := mapM_mono (fun x y hxy => by rw [hev]; exact res_mono h 3 hxy) hm
      simp only [hm']
      split at hx
      · rename_i hc
        obtain ⟨h1, h2, h3, h4, h5⟩ := hc
        rw [if_pos ⟨h1, h2, h3, fun p hp => by rw [hev]; exact ⟨(h4 p hp).1, all_ok1_mono h (h4 p hp).2⟩, h5⟩]
        cases hx
        simp only [Option.some.injEq, Prod.mk.injEq, true_and]
        rw [List.flatMap_def, List.flatMap_def]
        congr 1
        refine List.map_congr_left fun p hp => ?_
        obtain ⟨j, hj⟩ := List.getElem?_of_mem hp
        have hl := (List.getElem?_eq_some_iff.1 hj).1
        have hl' : j < ys.length := by rw [(mapM_get hm).1]; exact hl
        obtain ⟨x', hx', hr⟩ := (mapM_get hm).2 j _ (List.getElem?_eq_getElem hl')
        rw [hj] at hx'
        cases hx'
        rw [hev]
        exact keysOf_mono h 3 hr
      · cases hx
    · cases hx
  · cases hx
theorem pureOp_mono (hs : st.s = st'.s) (h : Objs.le st.o st'.o) {op : Op} {x : PV} (hx : pureOp P E st op = some x) : pureOp P E st' op = some x := by
  have hev : ∀ x, st'.ev x = st.ev x := fun x => by cases x <;> simp [St.ev, hs]
  have hevf : st'.ev = st.ev := funext hev
  unfold pureOp at hx ⊢
  rw [hevf]
  split at hx
  all_goals (try simp only)
  all_goals first
    | exact hx
    | exact absFieldAddr_mono h hx
    | exact absLoad_mono h hx
    | exact absLook_mono h hx
    | exact absIndexAddr_mono h hx
    | exact absBuild_mono h hx
    | skip
  · split at hx
    · exact hx
    · obtain ⟨p, hp, rfl⟩ := Option.map_eq_some_iff.1 hx; simp [getBox_mono h hp]
    · exact hx
    · cases hx
  · split at hx
    · exact absLen_mono h hx
    · exact hx
    · exact hx
    · cases hx
end
end Go.Sx
/- The abstract machine, part 14: one operation of a region: what it comes to, in which mode; that the model's operation comes to the same. -/
set_option linter.unusedVariables false
set_option linter.unusedSimpArgs false
namespace Go.Sx
open Go Go.RowKit

/-- 'u': it turns objects under keys from 1000 on, and no others; 'l': it is shown the objects below. 's': a store into the object under a key. How an operation is taken: 't': at its place in the text, it may turn objects; else it turns none, and it is shown all objects ('d'), none ('n'), or all but these ('h'). -/
inductive Md where
  | t | d | n | u | l
  | h (ks : List Nat)
  | s (k : Nat)
def St.see (m : Md) (st : St) : St :=
  match m with
  | .t | .d | .s _ | .u => st
  | .l => { st with o := fun k => if k < 1000 then st.o k else (0, none) }
  | .n => { st with o := fun _ => (0, none) }
  | .h ks => { st with o := fun k => if ks.contains k then (0, none) else st.o k }

/-- A mode's hidden temporaries as keys. -/
def Md.tr {P : Program} (E : Env P) : Md → Md
  | .h ks => .h (ks.map E.key)
  | .s k => .s (E.key k)
  | m => m
section
variable {P : Program} (E : Env P)

/-- A call, whatever it does to the objects; 'dst': the key of a row that it makes. -/
structure CallRun (P : Program) (f : FuncId) (args : List PV) (dst : Option Nat) (o : Objs) (x : PV) (ob : Objs) : Prop where
  enter : ∀ vs w, (callFunc f vs).run P w = .ok (.enter f vs) w
  run : ∀ n w0 imp s τ a w (vs : Array Value), (∀ d, dst = some d → d < 1000000000) → Sim P n w0 imp ⟨s, o⟩ τ a w → vs.size = args.length → (∀ (j : Nat) (z : PV) (u : Value), args[j]? = some z → vs[j]? = some u → Val P o τ w z u) →
    Calls P f vs w fun e w' => ∃ v τ', e = .returned v ∧ Sim P n w0 imp ⟨s, ob⟩ τ' a w' ∧ Val P ob τ' w' x v
def callee (st : St) (c : Call) : Option (FuncId × List PV) :=
  match c.callee with
  | .value x => match st.ev x with
    | .fn f fs cs => some (f, fs ++ (c.args.toList.map st.ev ++ cs))
    | _ => none
  | _ => none
/-- An operation that turns no object. -/
inductive QEv (P : Program) (E : Env P) (m : Md) (o : Oper) (st : St) (x : PV) : Prop where
  | pure (h : pureOp P E (st.see m) o.op = some x)
  | lit (T : TypeId) (len : Nat) (parts : Array (Nat × Operand)) (e : TypeId) (ys : List PV) (ho : o.op = .buildSlice T len parts) (h : absLit P (st.see m) T len parts.toList = some (e, ys, [])) (hx : x = .sl ys)
  | call (c : Call) (f : FuncId) (args as : List PV) (ho : o.op = .call c) (hc : callee (st.see m) c = some (f, args)) (ha : args.mapM (res (st.see m).o 4) = some as) (hF : Fn P f as x) (hk : x.flat = true ∨ args.flatMap (keysOf (st.see m).o 4) = [])
/-- An operation that may turn objects. -/
inductive LEv (P : Program) (E : Env P) (o : Oper) (st : St) (x : PV) (ob : Objs) : Prop where
  | box (T : TypeId) (y : Operand) (k : Nat) (ho : o.op = .box T y) (hd : o.dst = some k) (h1 : (st.ev y).cells.all (ok1 st.o) = true) (hx : x = .ptr (E.key k) ((st.o (E.key k)).1 + 1) 0) (hob : ob = (st.new (E.key k) (.box T (st.ev y).cells)).o)
  | store (T : TypeId) (y z : Operand) (ho : o.op = .store T y z) (h : absStore P st T (st.ev y) (st.ev z) = some ob) (hx : x = .undef)
  | lit (T : TypeId) (len : Nat) (parts : Array (Nat × Operand)) (e : TypeId) (ys : List PV) (ks : List Nat) (k : Nat) (ho : o.op = .buildSlice T len parts) (hd : o.dst = some k) (h : absLit P st T len parts.toList = some (e, ys, ks)) (hx : x = .ref (E.key k) (((st.freeze ks).o (E.key k)).1 + 1)) (hob : ob = ((st.freeze ks).new (E.key k) (.row e ys)).o)
  | lit0 (T e : TypeId) (sz : Nat) (ho : o.op = .buildSlice T 0 #[]) (hT : selem P T = some (e, sz)) (hx : x = .nil) (hob : ob = st.o)
  | make (T e : TypeId) (l c : Operand) (xs : List PV) (k : Nat) (ho : o.op = .makeSlice T l c) (hd : o.dst = some k) (hm : absMake P T (st.ev l) (st.ev c) = some (e, xs)) (hx : x = .ref (E.key k) ((st.o (E.key k)).1 + 1)) (hob : ob = (st.new (E.key k) (.row e xs)).o)
  | makeMap (T : TypeId) (b : Mk) (k : Nat) (ho : o.op = .makeMap T none) (hd : o.dst = some k) (hm : mkd P T = some b) (hx : x = .mref (E.key k) ((st.o (E.key k)).1 + 1)) (hob : ob = (st.new (E.key k) (.mp (mp0 b))).o)
  | mapUpdate (T : TypeId) (y i z : Operand) (ho : o.op = .mapUpdate T y i z) (h : absMset P st T (st.ev y) (st.ev i) (st.ev z) = some ob) (hx : x = .undef)
  | append (c : Call) (d : Nat) (T : TypeId) (y z : Operand) (ho : o.op = .call c) (hd : o.dst = some d) (hca : c.callee = .builtin .append) (hargs : c.args = #[y, z]) (hty : c.argTypes = #[T, T]) (hak : E.akey d (st.ev y) st.o < 1000000000) (hr : absAppend P st (E.akey d (st.ev y) st.o) T (st.ev y) (st.ev z) = some (x, ob))
  | call (c : Call) (f : FuncId) (args : List PV) (ho : o.op = .call c) (hc : callee st c = some (f, args)) (hC : CallRun P f args (o.dst.map E.key) st.o x ob)
/-- A new variable. -/
def AEv (P : Program) (E : Env P) (o : Oper) (st : St) (x : PV) (ob : Objs) : Prop :=
  ∃ T k z, o.op = .alloc T ∧ o.dst = some k ∧ zpv P T = some z ∧ x = .ptr (E.key k) ((st.o (E.key k)).1 + 1) 0 ∧ ob = (st.new (E.key k) (.box T z.cells)).o
/-- Into which object does a pointer lead? -/
def keyP : PV → Option Nat
  | .ptr k _ _ => some k
  | .eptr k _ _ _ => some k
  | _ => none
/-- A store into the object under a key. -/
def SEv (P : Program) (k : Nat) (o : Oper) (st : St) (x : PV) (ob : Objs) : Prop :=
  ∃ T y z, o.op = .store T y z ∧ keyP (st.ev y) = some k ∧ absStore P st T (st.ev y) (st.ev z) = some ob ∧ x = .undef
def EV (P : Program) (E : Env P) (m : Md) (o : Oper) (st : St) (x : PV) (ob : Objs) : Prop :=
  (QEv P E m o st x ∧ ob = st.o) ∨ AEv P E o st x ob ∨ (m = .t ∧ LEv P E o st x ob) ∨ (∃ k, m = .s k ∧ SEv P k o st x ob) ∨ (m = .u ∧ (∀ k, k < 1000 → ob k = st.o k) ∧ LEv P E o st x ob)
end

section
variable {P : Program} {E : Env P} {n : Nat} {w0 : World} {imp : Im} {st : St} {τ τ' : Places} {a : Act} {w w' : World} {o o' : Objs}

theorem see_le (m : Md) (st : St) : Objs.le (st.see m).o st.o := by
  intro k
  cases m with
  | t | d | s | u => exact .inl rfl
  | l =>
    simp only [St.see]
    split
    · exact .inl rfl
    · exact .inr rfl
  | n => exact .inr rfl
  | h ks =>
    simp only [St.see]
    split
    · exact .inr rfl
    · exact .inl rfl
theorem see_s (m : Md) (st : St) : (st.see m).s = st.s := by cases m <;> rfl
theorem ev_see (m : Md) (st : St) (x : Operand) : (st.see m).ev x = st.ev x := by cases x <;> simp [St.ev, see_s]
theorem callee_see (m : Md) (st : St) (c : Call) : callee (st.see m) c = callee st c := by
  have : (st.see m).ev = st.ev := funext (ev_see m st)
  simp only [callee, this]
/-- The operation runs, and goes on from there. -/
theorem EV.wp (h : Sim P n w0 imp st τ a w) {m : Md} {oper : Oper} (hdn : ∀ d, oper.dst = some d → E.key d < 1000000000) {x : PV} {ob : Objs} (he : EV P E m oper st x ob) {K : Act → World → Prop} {Q : Exit → Act → World → Prop}
    (hK : ∀ v w' τ', Sim P n w0 imp { st with o := ob } τ' a w' → Val P ob τ' w' x v → K (a.put oper.dst v) w') : oper.wp P a w K Q := by
  have ofRun : ORun P n w0 imp oper st x ob → oper.wp P a w K Q := by
    intro hr
    obtain ⟨v, w', τ', h1, h2, h3⟩ := hr τ a w h
    unfold Oper.wp
    rcases h1 with h1 | ⟨h1, rfl⟩
    · rw [h1]; exact hK v w' τ' h2 h3
    · rw [h1]; exact hK undef w' τ' h2 h3
  have ofCall : ∀ (c : Call) (f : FuncId) (args : List PV), oper.op = .call c → callee st c = some (f, args) → (∀ vs w, (callFunc f vs).run P w = .ok (.enter f vs) w) →
      (∀ vs : Array Value, vs.size = args.length → (∀ (j : Nat) (z : PV) (u : Value), args[j]? = some z → vs[j]? = some u → Val P st.o τ w z u) →
        Calls P f vs w fun e w' => ∃ v τ', e = .returned v ∧ Sim P n w0 imp { st with o := ob } τ' a w' ∧ Val P ob τ' w' x v) → oper.wp P a w K Q := by
    intro c f args ho hc hent hrun
    unfold callee at hc
    split at hc
    · rename_i y hy
      split at hc
      · rename_i f' fs cs hf
        cases hc
        have hv := ev_val h.slots y
        rw [hf] at hv
        obtain ⟨vf, vc, hav, hnf, hnc, hrf, hrc⟩ := hv.fn_inv
        have hex : (execOp a.eval oper).run P w = .ok (.enter f (vf ++ c.args.map a.eval ++ vc)) w := by
          simp only [execOp, ho, resolve, hy, Deferred.ofValue, hav, invoke, Sem.run_bind, Sem.run_pure, Result.andThen_ok]
          exact hent _ _
        unfold Oper.wp
        rw [hex]
        refine Calls.mono (hrun _ (by simp [hnf, hnc, Nat.add_assoc]) fun j z u hz hu => ?_) ?_
        · simp only [List.getElem?_append, List.length_map, Array.length_toList] at hz
          rw [Array.append_assoc] at hu
          simp only [Array.getElem?_append, Array.size_map, Array.size_append, hnf] at hu
          split at hz
          · rename_i h1
            rw [if_pos h1] at hu
            exact hrf j z u hz hu
          · rename_i h1
            rw [if_neg h1] at hu
            split at hz
            · rename_i h2
              rw [if_pos h2] at hu
              rw [List.getElem?_map, Array.getElem?_toList] at hz
              rw [Array.getElem?_map] at hu
              cases hq : c.args[j - fs.length]? with
              | none => simp [hq] at hz
              | some q =>
                simp only [hq, Option.map_some, Option.some.injEq] at hz hu
                subst hz
                subst hu
                exact ev_val h.slots q
            · rename_i h2
              rw [if_neg h2] at hu
              exact hrc _ z u hz hu
        · rintro e w' ⟨v, τ', rfl, h1, h2⟩
          exact hK v w' τ' h1 h2
      · cases hc
    · cases hc
  have ofL : LEv P E oper st x ob → oper.wp P a w K Q := by
    intro hl
    cases hl with
    | box T y k ho hd h1 hx hob => subst hx; subst hob; exact ofRun (.box ho h1 _ (hdn k hd))
    | store T y z ho h hx => subst hx; exact ofRun (.store ho h)
    | lit T len parts e ys ks k ho hd h hx hob => subst hx; subst hob; exact ofRun (.lit ho h _ (hdn k hd))
    | lit0 T e sz ho hT hx hob => subst hx; subst hob; exact ofRun (.lit0 ho hT)
    | make T e l c xs k ho hd hm hx hob => subst hx; subst hob; exact ofRun (.make ho hm _ (hdn k hd))
    | makeMap T b k ho hd hm hx hob => subst hx; subst hob; exact ofRun (.makeMap ho hm _ (hdn k hd))
    | mapUpdate T y i z ho h hx => subst hx; exact ofRun (.mapUpdate ho h)
    | append c d T y z ho hd hca hargs hty hak hr => exact ofRun (.append hak ho hca hargs hty hr)
    | call c f args ho hc hC => exact ofCall c f args ho hc hC.enter fun vs hn hv => hC.run n w0 imp st.s τ a w vs (fun d hd => (Option.map_eq_some_iff.1 hd).elim fun d' h' => h'.2 ▸ hdn d' h'.1) h hn hv
  rcases he with ⟨hq, rfl⟩ | ⟨T, k, z, ho, hd, hz, rfl, rfl⟩ | ⟨_, hl⟩ | ⟨k, _, T, y, z, ho, _, hs, rfl⟩ | ⟨_, _, hl⟩
  · cases hq with
    | pure hp =>
      obtain ⟨v, h1, h2⟩ := pure_sound h.slots h.holds (pureOp_mono (see_s m st) (see_le m st) hp)
      unfold Oper.wp
      rw [h1]
      exact hK v w τ h h2
    | lit T len parts e ys ho hl hx =>
      subst hx
      exact ofRun (.litFrozen ho (absLit_mono (see_s m st) (see_le m st) hl))
    | call c f args as ho hc ha hF hk =>
      rw [callee_see] at hc
      refine ofCall c f args ho hc hF.enter fun vs hn hv => Calls.of_contract (ks := args.flatMap (keysOf st.o 4)) (dst := none) hF (fun d hd => by cases hd) h hn hv (mapM_mono (fun x y => res_mono (see_le m st) 4) ha) rfl ?_
      simp only [callSt, Option.some.injEq, Prod.mk.injEq, true_and]
      rcases hk with hk | hk
      · rw [if_pos hk]
      · have : args.flatMap (keysOf st.o 4) = [] := by
          rw [← hk, List.flatMap_def, List.flatMap_def]
          congr 1
          refine List.map_congr_left fun x hx => ?_
          obtain ⟨j, hj⟩ := List.getElem?_of_mem hx
          have hl := (List.getElem?_eq_some_iff.1 hj).1
          have hl' : j < as.length := by rw [(mapM_get ha).1]; exact hl
          obtain ⟨x', hx', hr⟩ := (mapM_get ha).2 j _ (List.getElem?_eq_getElem hl')
          rw [hj] at hx'
          cases hx'
          exact keysOf_mono (see_le m st) 4 hr
        rw [this, St.freeze_nil, ite_self]
  · exact ofRun (.alloc ho hz _ (hdn k hd))
  · exact ofL hl
  · exact ofRun (.store ho hs)
  · exact ofL hl
end
end Go.Sx
