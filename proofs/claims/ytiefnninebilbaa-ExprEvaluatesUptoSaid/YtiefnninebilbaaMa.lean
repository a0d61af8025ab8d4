/- Pure values, what they say of memory, and what keeps them true. Part 1 of an abstract machine over any program; no condition. -/
import Derived.WalkKit
import Derived.Below
import Derived.Orders
import Derived.Laws.AppendOwn
import Derived.Laws.Rows
set_option linter.unusedVariables false
set_option linter.unusedSimpArgs false
namespace Go.Sx
open Go Go.RowKit

/-- A pure value. 'sl': a slice whose memory nobody writes; 'nil': of length and capacity 0; 'agg': a struct, cell by cell; 'mem': a pointer to memory that nobody writes: its cells from there on; 'ref': a row of one's own (key, version); 'ptr': a cell of a variable of one's own; 'eptr': a cell of an element of a row of one's own. -/
inductive PV where
  | undef
  | int (k : IntKind) (n : Int)
  | bool (b : Bool)
  | str (s : ByteArray)
  | nil
  | sl (xs : List PV)
  | agg (cs : List PV)
  | tup (cs : List PV)
  | fn (f : FuncId) (first caps : List PV)
  | mem (cs : List PV)
  | ref (k v : Nat)
  | ptr (k v off : Nat)
  | eptr (k v i j : Nat)
  deriving Inhabited

def PV.cells : PV → List PV
  | .agg cs => cs
  | x => [x]
def PV.one : PV → Bool
  | .undef | .agg _ | .tup _ => false
  | _ => true

/-- What a value of frozen memory says: every block that is read satisfies B. -/
inductive Rd (w : World) (B : Nat → Prop) : PV → Value → Prop where
  | int (k : IntKind) (n : Int) : Rd w B (.int k n) (.int k n)
  | bool (b : Bool) : Rd w B (.bool b) (.bool b)
  | str (s : ByteArray) : Rd w B (.str s) (.string s)
  | nil (a : Option Addr) : Rd w B .nil (.slice a 0 0)
  | sl0 (a : Option Addr) (c : Nat) : Rd w B (.sl []) (.slice a 0 c)
  | sl (xs : List PV) (ad : Addr) (n c sz : Nat) (us : Nat → Nat → Value) (hn : xs.length = n) (h0 : 0 < n) (hc : n ≤ c) (hB : B ad.block)
      (hz : ∀ (i : Nat) (y : PV), xs[i]? = some y → y.cells.length = sz)
      (hu : ∀ (i : Nat) (y : PV) (j : Nat) (z : PV), xs[i]? = some y → y.cells[j]? = some z → z.one = true ∧ w.cell? (ad.add (i * sz + j)) = some (us i j))
      (hr : ∀ (i : Nat) (y : PV) (j : Nat) (z : PV), xs[i]? = some y → y.cells[j]? = some z → Rd w B z (us i j)) : Rd w B (.sl xs) (.slice (some ad) n c)
  | agg (cs : List PV) (vs : Array Value) (hn : vs.size = cs.length) (h1 : ∀ (j : Nat) (z : PV), cs[j]? = some z → z.one = true)
      (hr : ∀ (j : Nat) (z : PV) (u : Value), cs[j]? = some z → vs[j]? = some u → Rd w B z u) : Rd w B (.agg cs) (.agg vs)
  | tup (cs : List PV) (vs : Array Value) (hn : vs.size = cs.length)
      (hr : ∀ (j : Nat) (z : PV) (u : Value), cs[j]? = some z → vs[j]? = some u → Rd w B z u) : Rd w B (.tup cs) (.tuple vs)
  | fn (f : FuncId) (fs cs : List PV) (vf vc : Array Value) (hf : vf.size = fs.length) (hc : vc.size = cs.length)
      (hrf : ∀ (j : Nat) (z : PV) (u : Value), fs[j]? = some z → vf[j]? = some u → Rd w B z u)
      (hrc : ∀ (j : Nat) (z : PV) (u : Value), cs[j]? = some z → vc[j]? = some u → Rd w B z u) : Rd w B (.fn f fs cs) (.func (.func f) vf vc)
  | mem (cs : List PV) (ad : Addr) (us : Nat → Value) (hB : cs ≠ [] → B ad.block)
      (hu : ∀ (j : Nat) (z : PV), cs[j]? = some z → z.one = true ∧ w.cell? (ad.add j) = some (us j))
      (hr : ∀ (j : Nat) (z : PV), cs[j]? = some z → Rd w B z (us j)) : Rd w B (.mem cs) (.pointer (some ad))

theorem add_block (a : Addr) (n : Nat) : (a.add n).block = a.block := by unfold Addr.add; split <;> rfl

theorem Rd.ext {w w' : World} {B B' : Nat → Prop} (h : ∀ b, B b → B' b ∧ w'.heap[b]? = w.heap[b]?) {x : PV} {v : Value} (hr : Rd w B x v) : Rd w' B' x v := by
  induction hr with
  | int k n => exact .int k n
  | bool b => exact .bool b
  | str s => exact .str s
  | nil a => exact .nil a
  | sl0 a c => exact .sl0 a c
  | sl xs ad n c sz us hn h0 hc hB hz hu hr ih =>
    refine .sl xs ad n c sz us hn h0 hc (h _ hB).1 hz (fun i y j z hy hj => ⟨(hu i y j z hy hj).1, ?_⟩) ih
    rw [← (hu i y j z hy hj).2]
    exact World.cell?_of_block (w := w) (by rw [add_block]; exact (h _ hB).2)
  | agg cs vs hn h1 hr ih => exact .agg cs vs hn h1 ih
  | tup cs vs hn hr ih => exact .tup cs vs hn ih
  | fn f fs cs vf vc hf hc hrf hrc ihf ihc => exact .fn f fs cs vf vc hf hc ihf ihc
  | mem cs ad us hB hu hr ih =>
    refine .mem cs ad us (fun hne => (h _ (hB hne)).1) (fun j z hj => ⟨(hu j z hj).1, ?_⟩) ih
    have hne : cs ≠ [] := by rintro rfl; simp at hj
    rw [← (hu j z hj).2]
    exact World.cell?_of_block (w := w) (by rw [add_block]; exact (h _ (hB hne)).2)

/-- An object of one's own. -/
inductive Ob where
  | box (t : TypeId) (cs : List PV)
  | row (e : TypeId) (xs : List PV)
  | other
/-- Of each key: its version; the object, and whether it may still be written. -/
abbrev Objs := Nat → Nat × Option (Bool × Ob)
/-- Of each key: its block, its capacity. -/
abbrev Places := Nat → Nat × Nat

def live (o : Objs) (k : Nat) : Prop := ∃ ver x, o k = (ver, some (true, x))
/-- A block that nobody writes. -/
def Fz (o : Objs) (τ : Places) (w : World) (b : Nat) : Prop := b < w.heap.size ∧ ∀ k, live o k → (τ k).1 ≠ b

section
variable (P : Program)
inductive ValB (o : Objs) (τ : Places) (w : World) (B : Nat → Prop) : PV → Value → Prop where
  | undef (v : Value) : ValB o τ w B .undef v
  | pure {x : PV} {v : Value} (h : Rd w B x v) : ValB o τ w B x v
  | ref (k ver : Nat) (v : Value) (hv : ver ≤ (o k).1) (h : ∀ b e xs, o k = (ver, some (b, .row e xs)) → v = .slice (some ⟨(τ k).1, 0, none⟩) xs.length (τ k).2) : ValB o τ w B (.ref k ver) v
  | ptr (k ver off : Nat) (v : Value) (hv : ver ≤ (o k).1) (h : ∀ b t cs, o k = (ver, some (b, .box t cs)) → v = .pointer (some ⟨(τ k).1, off, none⟩)) : ValB o τ w B (.ptr k ver off) v
  | eptr (k ver i j : Nat) (v : Value) (hv : ver ≤ (o k).1) (h : ∀ b e xs, o k = (ver, some (b, .row e xs)) → v = .pointer (some ⟨(τ k).1, i * P.cellsOf e + j, none⟩)) : ValB o τ w B (.eptr k ver i j) v
  | agg (cs : List PV) (vs : Array Value) (hn : vs.size = cs.length) (h1 : ∀ (j : Nat) (z : PV), cs[j]? = some z → z.one = true)
      (hr : ∀ (j : Nat) (z : PV) (u : Value), cs[j]? = some z → vs[j]? = some u → ValB o τ w B z u) : ValB o τ w B (.agg cs) (.agg vs)
  | tup (cs : List PV) (vs : Array Value) (hn : vs.size = cs.length)
      (hr : ∀ (j : Nat) (z : PV) (u : Value), cs[j]? = some z → vs[j]? = some u → ValB o τ w B z u) : ValB o τ w B (.tup cs) (.tuple vs)
  | fn (f : FuncId) (fs cs : List PV) (vf vc : Array Value) (hf : vf.size = fs.length) (hc : vc.size = cs.length)
      (hrf : ∀ (j : Nat) (z : PV) (u : Value), fs[j]? = some z → vf[j]? = some u → ValB o τ w B z u)
      (hrc : ∀ (j : Nat) (z : PV) (u : Value), cs[j]? = some z → vc[j]? = some u → ValB o τ w B z u) : ValB o τ w B (.fn f fs cs) (.func (.func f) vf vc)

abbrev Val (o : Objs) (τ : Places) (w : World) (x : PV) (v : Value) : Prop := ValB P o τ w (Fz o τ w) x v

/-- What the objects' blocks hold. -/
structure Holds (o : Objs) (τ : Places) (w : World) : Prop where
  box : ∀ k ver b t cs, o k = (ver, some (b, .box t cs)) → ∃ vs : Array Value, w.heap[(τ k).1]? = some (.cells vs t (0, 0)) ∧ vs.size = cs.length ∧ (∀ (j : Nat) (z : PV), cs[j]? = some z → z.one = true) ∧ ∀ (j : Nat) (z : PV) (u : Value), cs[j]? = some z → vs[j]? = some u → Val P o τ w z u
  row : ∀ k ver b e xs, o k = (ver, some (b, .row e xs)) → ∃ vs : Array Value, w.heap[(τ k).1]? = some (.cells vs e (0, 0)) ∧ vs.size = (τ k).2 * P.cellsOf e ∧ 0 < P.cellsOf e ∧ xs.length ≤ (τ k).2 ∧ (τ k).2 ≤ maxLen ∧
    (∀ (i : Nat) (y : PV), xs[i]? = some y → y.cells.length = P.cellsOf e) ∧ (∀ (i : Nat) (y : PV) (j : Nat) (z : PV), xs[i]? = some y → y.cells[j]? = some z → z.one = true) ∧
    ∀ (i : Nat) (y : PV) (j : Nat) (z : PV) (u : Value), xs[i]? = some y → y.cells[j]? = some z → vs[i * P.cellsOf e + j]? = some u → Rd w (Fz o τ w) z u
  oth : ∀ k ver b, o k = (ver, some (b, .other)) → (τ k).1 < w.heap.size
  inj : ∀ k k', live o k → live o k' → (τ k).1 = (τ k').1 → k = k'
  fro : ∀ k ver x, o k = (ver, some (false, x)) → Fz o τ w (τ k).1
end

def Ob.like : Ob → Ob → Prop
  | .box t cs, .box t' cs' => t = t' ∧ cs.length = cs'.length
  | .row e xs, .row e' xs' => e = e' ∧ xs.length = xs'.length
  | .other, .other => True
  | _, _ => False

/-- One state goes on to another: what was frozen stays, versions grow, what lives on under its version is the same object. -/
structure Ext (o : Objs) (τ : Places) (w : World) (o' : Objs) (τ' : Places) (w' : World) : Prop where
  fz : ∀ b, Fz o τ w b → Fz o' τ' w' b ∧ w'.heap[b]? = w.heap[b]?
  ver : ∀ k, (o k).1 ≤ (o' k).1
  same : ∀ k b' x', o' k = ((o k).1, some (b', x')) → ∃ b x, o k = ((o k).1, some (b, x)) ∧ x.like x' ∧ τ' k = τ k

theorem Ext.refl (o : Objs) (τ : Places) (w : World) : Ext o τ w o τ w where
  fz b h := ⟨h, rfl⟩
  ver k := Nat.le_refl _
  same k b' x' h := ⟨b', x', h, by cases x' <;> simp [Ob.like], rfl⟩

variable {P : Program}
theorem Val.ext {o o' : Objs} {τ τ' : Places} {w w' : World} (h : Ext o τ w o' τ' w') {x : PV} {v : Value} (hv : Val P o τ w x v) : Val P o' τ' w' x v := by
  induction hv with
  | undef v => exact .undef v
  | pure hr => exact .pure (hr.ext h.fz)
  | ref k ver v hv hh =>
    refine .ref k ver v (Nat.le_trans hv (h.ver k)) fun b' e xs' he => ?_
    have hle : (o k).1 = ver := Nat.le_antisymm (by have := h.ver k; rw [he] at this; exact this) hv
    obtain ⟨b, x, hx, hl, ht⟩ := h.same k _ _ (by rw [hle]; exact he)
    cases x with
    | box => simp [Ob.like] at hl
    | other => simp [Ob.like] at hl
    | row e0 xs =>
      obtain ⟨rfl, hl⟩ := hl
      rw [hh b e0 xs (by rw [hx, hle]), ht, hl]
  | ptr k ver off v hv hh =>
    refine .ptr k ver off v (Nat.le_trans hv (h.ver k)) fun b' t cs' he => ?_
    have hle : (o k).1 = ver := Nat.le_antisymm (by have := h.ver k; rw [he] at this; exact this) hv
    obtain ⟨b, x, hx, hl, ht⟩ := h.same k _ _ (by rw [hle]; exact he)
    cases x with
    | row => simp [Ob.like] at hl
    | other => simp [Ob.like] at hl
    | box t0 cs => rw [hh b t0 cs (by rw [hx, hle]), ht]
  | eptr k ver i j v hv hh =>
    refine .eptr k ver i j v (Nat.le_trans hv (h.ver k)) fun b' e xs' he => ?_
    have hle : (o k).1 = ver := Nat.le_antisymm (by have := h.ver k; rw [he] at this; exact this) hv
    obtain ⟨b, x, hx, hl, ht⟩ := h.same k _ _ (by rw [hle]; exact he)
    cases x with
    | box => simp [Ob.like] at hl
    | other => simp [Ob.like] at hl
    | row e0 xs =>
      obtain ⟨rfl, hl⟩ := hl
      rw [hh b e0 xs (by rw [hx, hle]), ht]
  | agg cs vs hn h1 hr ih => exact .agg cs vs hn h1 ih
  | tup cs vs hn hr ih => exact .tup cs vs hn ih
  | fn f fs cs vf vc hf hc hrf hrc ihf ihc => exact .fn f fs cs vf vc hf hc ihf ihc

end Go.Sx
/- The abstract machine, part 2: operations that only compute: what they come to on pure values, and that the model's operation comes to the same. -/
set_option linter.unusedVariables false
set_option linter.unusedSimpArgs false
namespace Go.Sx
open Go Go.RowKit

inductive Sc where
  | int (k : IntKind) | bool | str
def fits : List Sc → List PV → Bool
  | [], [] => true
  | .int k :: ss, .int k' _ :: xs => k == k' && fits ss xs
  | .bool :: ss, .bool _ :: xs => fits ss xs
  | .str :: ss, .str _ :: xs => fits ss xs
  | _, _ => false
def scVal : PV → Value
  | .int k n => .int k n
  | .bool b => .bool b
  | .str s => .string s
  | _ => .tuple #[]
def scEq : PV → PV → Bool
  | .int _ a, .int _ b => a == b
  | .bool a, .bool b => a == b
  | .str a, .str b => a == b
  | _, _ => false
def cellsEq : List PV → List PV → Bool
  | [], [] => true
  | x :: xs, y :: ys => scEq x y && cellsEq xs ys
  | _, _ => false
/-- The model's '==' at a struct type whose cells are plain. -/
def EqRun (P : Program) (T : TypeId) (sh : List Sc) : Prop :=
  ∀ (xs ys : List PV), fits sh xs = true → fits sh ys = true → ∀ (x y : Operand) (w : World),
    ((do eqGuard .eql T x y (.agg (xs.map scVal).toArray) (.agg (ys.map scVal).toArray); binOp .eql T (.agg (xs.map scVal).toArray) (.agg (ys.map scVal).toArray)) : Sem Value).run P w = .ok (.bool (cellsEq xs ys)) w ∧
    ((do eqGuard .neq T x y (.agg (xs.map scVal).toArray) (.agg (ys.map scVal).toArray); binOp .neq T (.agg (xs.map scVal).toArray) (.agg (ys.map scVal).toArray)) : Sem Value).run P w = .ok (.bool (!cellsEq xs ys)) w
structure Env (P : Program) where
  eqT : TypeId → Option (List Sc)
  ok : ∀ T sh, eqT T = some sh → EqRun P T sh

structure St where
  s : Nat → PV
  o : Objs
def St.put (st : St) (dst : Option Tmp) (x : PV) : St :=
  match dst with
  | some d => { st with s := fun i => if i = d then x else st.s i }
  | none => st
def ofConst : Value → PV
  | .int k n => .int k n
  | .bool b => .bool b
  | .string s => .str s
  | .slice none 0 0 => .nil
  | _ => .undef
def St.ev (st : St) : Operand → PV
  | .tmp t => st.s t
  | .const v => ofConst v
  | .global _ => .undef
  | .func f => .fn f [] []

/-- Is it a struct (or an array)? How many cells has it? -/
def tinf (P : Program) (T : TypeId) : Option (Bool × Nat) :=
  match P.info? T, P.underlying T with
  | some i, some (.struct _) => some (true, i.size)
  | some i, some (.array _ _) => some (true, i.size)
  | some i, some _ => some (false, i.size)
  | _, _ => none
/-- A field's place and its cells. -/
def fld (P : Program) (T : TypeId) (f : Nat) : Option (Nat × Nat × TypeId) :=
  match P.underlying T with
  | some (.struct fs) => match fs[f]? with
    | some fd => match P.info? fd.type with
      | some i => some (fd.offset, i.size, fd.type)
      | none => none
    | none => none
  | _ => none
/-- A slice type's element: its type, its cells. -/
def selem (P : Program) (T : TypeId) : Option (TypeId × Nat) :=
  match P.underlying T with
  | some (.slice e) => match P.info? e with
    | some i => some (e, i.size)
    | none => none
  | _ => none
inductive Kd0 where
  | slice | string | bool | other
def kd (P : Program) (T : TypeId) : Kd0 :=
  match P.underlying T with
  | some (.slice _) => .slice
  | some .string => .string
  | some .bool => .bool
  | _ => .other
/-- A variable of type T out of the cells at its place. -/
def ofCells (P : Program) (T : TypeId) (cs : List PV) : Option PV :=
  match tinf P T with
  | some (true, n) => if n ≤ cs.length then some (.agg (cs.take n)) else none
  | some (false, _) => cs[0]?
  | none => none
def intBin (op : BinOp) (k : IntKind) (a b : Int) : Option PV :=
  match op with
  | .add => some (.int k (k.wrap (a + b)))
  | .sub => some (.int k (k.wrap (a - b)))
  | .mul => some (.int k (k.wrap (a * b)))
  | .quo => if b = 0 then none else some (.int k (k.wrap (a.tdiv b)))
  | .rem => if b = 0 then none else some (.int k (a.tmod b))
  | .eql => some (.bool (a == b))
  | .neq => some (.bool (a != b))
  | .lss => some (.bool (decide (a < b)))
  | .leq => some (.bool (decide (a ≤ b)))
  | .gtr => some (.bool (decide (a > b)))
  | .geq => some (.bool (decide (a ≥ b)))
  | _ => none
def strBin (op : BinOp) (a b : ByteArray) : Option PV :=
  match op with
  | .add => if a.size + b.size ≤ 9223372036854775807 then some (.str (a ++ b)) else none
  | .eql => some (.bool (a.toList == b.toList))
  | .neq => some (.bool (!(a.toList == b.toList)))
  | .lss => some (.bool (Op.bytesLess a.toList b.toList))
  | .leq => some (.bool (Op.bytesLess a.toList b.toList || a.toList == b.toList))
  | .gtr => some (.bool (!(Op.bytesLess a.toList b.toList || a.toList == b.toList)))
  | .geq => some (.bool (!(Op.bytesLess a.toList b.toList)))
  | _ => none
section
variable (P : Program) (E : Env P)
def absBin (op : BinOp) (T : TypeId) (x y : PV) : Option PV :=
  match x, y with
  | .int k a, .int k' b => if k = k' then intBin op k a b else none
  | .str a, .str b => strBin op a b
  | .bool a, .bool b =>
    match kd P T, op with
    | .bool, .eql => some (.bool (a == b))
    | .bool, .neq => some (.bool (!(a == b)))
    | _, _ => none
  | .agg xs, .agg ys =>
    match E.eqT T with
    | some sh => if fits sh xs && fits sh ys then (match op with | .eql => some (.bool (cellsEq xs ys)) | .neq => some (.bool (!cellsEq xs ys)) | _ => none) else none
    | none => none
  | _, _ => none
/-- A slice that is not empty, compared with nil. -/
def nilCmp (op : BinOp) (T : TypeId) (x : PV) (y : Operand) : Option PV :=
  match kd P T, y, x with
  | .slice, .const (.slice none 0 0), .sl (_ :: _) => match op with
    | .eql => some (.bool false)
    | .neq => some (.bool true)
    | _ => none
  | _, _, _ => none
def binPV (op : BinOp) (T : TypeId) (x : PV) (y : Operand) (yv : PV) : Option PV :=
  match nilCmp P op T x y with
  | some r => some r
  | none => absBin P E op T x yv
def getRow (o : Objs) (k v : Nat) : Option (TypeId × List PV) :=
  match o k with
  | (v', some (_, .row e xs)) => if v' = v then some (e, xs) else none
  | _ => none
def getBox (o : Objs) (k v : Nat) : Option (TypeId × List PV) :=
  match o k with
  | (v', some (_, .box t cs)) => if v' = v then some (t, cs) else none
  | _ => none
def absFieldAddr (ob : Objs) (T : TypeId) (x : PV) (f : Nat) : Option PV :=
  match fld P T f with
  | some (off, size, _) => if size = 0 then none else
      (match x with
      | .mem cs => some (.mem (cs.drop off))
      | .ptr k v o => (getBox ob k v).map fun _ => .ptr k v (o + off)
      | .eptr k v i j => (getRow ob k v).map fun _ => .eptr k v i (j + off)
      | _ => none)
  | none => none
def absLoad (o : Objs) (T : TypeId) (x : PV) : Option PV :=
  match x with
  | .mem cs => ofCells P T cs
  | .ptr k v off => match getBox o k v with
    | some (_, cs) => ofCells P T (cs.drop off)
    | none => none
  | .eptr k v i j => match getRow o k v with
    | some (_, xs) => match xs[i]? with
      | some y => ofCells P T (y.cells.drop j)
      | none => none
    | none => none
  | _ => none
def absIndexAddr (o : Objs) (T : TypeId) (x i : PV) : Option PV :=
  match selem P T, i with
  | some (e, sz), .int _ n => match x with
    | .sl xs => if 0 ≤ n then (match xs[n.toNat]? with | some y => if y.cells.length = sz then some (.mem y.cells) else none | none => none) else none
    | .ref k v => match getRow o k v with
      | some (e', xs) => if e' = e ∧ 0 ≤ n ∧ n < xs.length then some (.eptr k v n.toNat 0) else none
      | none => none
    | _ => none
  | _, _ => none
def absLen (o : Objs) (T : TypeId) (x : PV) : Option PV :=
  match kd P T, x with
  | .slice, .nil => some (.int .i64 0)
  | .slice, .sl xs => some (.int .i64 xs.length)
  | .slice, .ref k v => (getRow o k v).map fun p => .int .i64 p.2.length
  | .string, .str s => some (.int .i64 s.size)
  | _, _ => none
def bndOf (x : Option PV) (dflt : Nat) : Option Nat :=
  match x with
  | none => some dflt
  | some (.int _ n) => if 0 ≤ n then some n.toNat else none
  | some _ => none
/-- A cut of frozen memory, no capacity named, within the length. -/
def absSlice (T : TypeId) (x : PV) (lo hi : Option PV) : Option PV :=
  match selem P T, x with
  | some (_, sz), .sl xs => match bndOf lo 0, bndOf hi xs.length with
    | some l, some h => if l ≤ h ∧ h ≤ xs.length ∧ (∀ y ∈ xs, y.cells.length = sz) then some (.sl ((xs.take h).drop l)) else none
    | _, _ => none
  | _, _ => none
def absMax (x y : PV) : Option PV :=
  match x, y with
  | .int k a, .int k' b => if k = k' then some (.int k (if b > a then b else a)) else none
  | _, _ => none
def absMin (x y : PV) : Option PV :=
  match x, y with
  | .int k a, .int k' b => if k = k' then some (.int k (if b < a then b else a)) else none
  | _, _ => none
/-- A value of one cell, of which it is known what it is. -/
def ok1 (o : Objs) : PV → Bool
  | .undef | .agg _ | .tup _ => false
  | .ref k v => (getRow o k v).isSome
  | .eptr k v _ _ => (getRow o k v).isSome
  | .ptr k v _ => (getBox o k v).isSome
  | _ => true
/-- Parts laid into a struct's zero cells. -/
def absFill (o : Objs) (place : Nat → Option (Nat × Nat)) (cells : List PV) : List (Nat × PV) → Option (List PV)
  | [] => some cells
  | (i, x) :: rest =>
    match place i with
    | none => none
    | some (off, size) => if x.cells.length = size ∧ off + size ≤ cells.length ∧ x.cells.all (ok1 o) = true then absFill o place (cells.take off ++ x.cells ++ cells.drop (off + size)) rest else none
/-- A struct type's zero cells, and its fields' places and cells. -/
def bld (P : Program) (T : TypeId) : Option (List PV × List (Nat × Nat)) :=
  match P.info? T, P.underlying T with
  | some it, some (.struct fields) =>
    match it.zero, fields.toList.mapM (fun f => (P.info? f.type).map fun i => (f.offset, i.size)) with
    | some z, some places => if (z.cells.toList.map ofConst).all PV.one then some (z.cells.toList.map ofConst, places) else none
    | _, _ => none
  | _, _ => none
def absBuild (o : Objs) (T : TypeId) (parts : List (Nat × PV)) : Option PV :=
  match bld P T with
  | some (z, pl) => (absFill o (fun i => pl[i]?) z parts).map .agg
  | none => none
def absField (T : TypeId) (x : PV) (f : Nat) : Option PV :=
  match fld P T f, x with
  | some (off, size, F), .agg cs => if off + size ≤ cs.length then ofCells P F (cs.drop off) else none
  | _, _ => none

/-- What an operation that only computes comes to. -/
def pureOp (st : St) : Op → Option PV
  | .move x | .assign x => some (st.ev x)
  | .pick c a b => match st.ev c with
    | .bool t => some (if t then st.ev a else st.ev b)
    | _ => none
  | .nilCheck x => match st.ev x with
    | .mem cs => some (.mem cs)
    | .ptr k v off => (getBox st.o k v).map fun _ => .ptr k v off
    | .fn f a b => some (.fn f a b)
    | _ => none
  | .binOp op T x y _ => binPV P E op T (st.ev x) y (st.ev y)
  | .unOp .not _ x => match st.ev x with
    | .bool b => some (.bool !b)
    | _ => none
  | .unOp .neg _ x => match st.ev x with
    | .int k n => some (.int k (k.wrap (0 - n)))
    | _ => none
  | .fieldAddr T x f => absFieldAddr P st.o T (st.ev x) f
  | .field T x f => absField P T (st.ev x) f
  | .indexAddr T x i => absIndexAddr P st.o T (st.ev x) (st.ev i)
  | .index T x i => match kd P T, st.ev x, st.ev i with
    | .string, .str s, .int _ n => if 0 ≤ n then (s[n.toNat]?).map fun b => .int .u8 b.toNat else none
    | _, _, _ => none
  | .load T x => absLoad P st.o T (st.ev x)
  | .extract x i => match st.ev x with
    | .tup cs => cs[i]?
    | _ => none
  | .build T parts => absBuild P st.o T (parts.toList.map fun p => (p.1, st.ev p.2))
  | .makeFunc (.func f) first caps => some (.fn f (first.toList.map st.ev) (caps.toList.map st.ev))
  | .slice T x lo hi none => absSlice P T (st.ev x) (lo.map st.ev) (hi.map st.ev)
  | .call c => match c.callee, c.args.toList, c.argTypes.toList with
    | .builtin .len, [x], [T] => absLen P st.o T (st.ev x)
    | .builtin .max, [x, y], _ => absMax (st.ev x) (st.ev y)
    | .builtin .min, [x, y], _ => absMin (st.ev x) (st.ev y)
    | _, _, _ => none
  | _ => none
end
end Go.Sx
/- The abstract machine, part 3: the model's operations that only compute come to what 'pureOp' says. -/
set_option linter.unusedVariables false
set_option linter.unusedSimpArgs false
namespace Go.Sx
open Go Go.RowKit

section
variable {P : Program} {o : Objs} {τ : Places} {w : World}
theorem Rd.int_inv {B : Nat → Prop} {k : IntKind} {n : Int} {v : Value} (h : Rd w B (.int k n) v) : v = .int k n := by cases h; rfl
theorem Val.int_inv {k : IntKind} {n : Int} {v : Value} (h : Val P o τ w (.int k n) v) : v = .int k n := by cases h with | pure h => exact h.int_inv
theorem Val.bool_inv {b : Bool} {v : Value} (h : Val P o τ w (.bool b) v) : v = .bool b := by cases h with | pure h => cases h; rfl
theorem Val.str_inv {s : ByteArray} {v : Value} (h : Val P o τ w (.str s) v) : v = .string s := by cases h with | pure h => cases h; rfl
theorem Val.nil_inv {v : Value} (h : Val P o τ w .nil v) : ∃ a, v = .slice a 0 0 := by cases h with | pure h => cases h; exact ⟨_, rfl⟩
theorem Val.sl_inv {xs : List PV} {v : Value} (h : Val P o τ w (.sl xs) v) : Rd w (Fz o τ w) (.sl xs) v := by cases h with | pure h => exact h
theorem Val.mem_inv {cs : List PV} {v : Value} (h : Val P o τ w (.mem cs) v) : Rd w (Fz o τ w) (.mem cs) v := by cases h with | pure h => exact h
theorem Val.agg_inv {cs : List PV} {v : Value} (h : Val P o τ w (.agg cs) v) : ∃ vs : Array Value, v = .agg vs ∧ vs.size = cs.length ∧ (∀ (j : Nat) (z : PV), cs[j]? = some z → z.one = true) ∧ ∀ (j : Nat) (z : PV) (u : Value), cs[j]? = some z → vs[j]? = some u → Val P o τ w z u := by
  cases h with
  | pure h => cases h with | agg cs vs hn h1 hr => exact ⟨vs, rfl, hn, h1, fun j z u a b => .pure (hr j z u a b)⟩
  | agg cs vs hn h1 hr => exact ⟨vs, rfl, hn, h1, hr⟩
theorem Val.tup_inv {cs : List PV} {v : Value} (h : Val P o τ w (.tup cs) v) : ∃ vs : Array Value, v = .tuple vs ∧ vs.size = cs.length ∧ ∀ (j : Nat) (z : PV) (u : Value), cs[j]? = some z → vs[j]? = some u → Val P o τ w z u := by
  cases h with
  | pure h => cases h with | tup cs vs hn hr => exact ⟨vs, rfl, hn, fun j z u a b => .pure (hr j z u a b)⟩
  | tup cs vs hn hr => exact ⟨vs, rfl, hn, hr⟩
theorem Val.fn_inv {f : FuncId} {fs cs : List PV} {v : Value} (h : Val P o τ w (.fn f fs cs) v) : ∃ vf vc : Array Value, v = .func (.func f) vf vc ∧ vf.size = fs.length ∧ vc.size = cs.length ∧
    (∀ (j : Nat) (z : PV) (u : Value), fs[j]? = some z → vf[j]? = some u → Val P o τ w z u) ∧ ∀ (j : Nat) (z : PV) (u : Value), cs[j]? = some z → vc[j]? = some u → Val P o τ w z u := by
  cases h with
  | pure h => cases h with | fn f fs cs vf vc hf hc hrf hrc => exact ⟨vf, vc, rfl, hf, hc, fun j z u a b => .pure (hrf j z u a b), fun j z u a b => .pure (hrc j z u a b)⟩
  | fn f fs cs vf vc hf hc hrf hrc => exact ⟨vf, vc, rfl, hf, hc, hrf, hrc⟩
theorem Val.int_ (k : IntKind) (n : Int) : Val P o τ w (.int k n) (.int k n) := .pure (.int k n)
theorem Val.bool_ (b : Bool) : Val P o τ w (.bool b) (.bool b) := .pure (.bool b)
theorem Val.str_ (s : ByteArray) : Val P o τ w (.str s) (.string s) := .pure (.str s)

theorem Val.one_cell {x : PV} {v : Value} (h : Val P o τ w x v) (h1 : x.one = true) (hr : ∀ k ver, x = .ref k ver → ∃ b e xs, o k = (ver, some (b, .row e xs))) (hp : ∀ k ver off, x = .ptr k ver off → ∃ b t cs, o k = (ver, some (b, .box t cs))) (he : ∀ k ver i j, x = .eptr k ver i j → ∃ b e xs, o k = (ver, some (b, .row e xs))) : v.oneCell' = true := by
  cases h with
  | undef v => simp [PV.one] at h1
  | pure h => cases h <;> first | rfl | simp [PV.one] at h1
  | ref k ver v hv hh => obtain ⟨b, e, xs, h⟩ := hr k ver rfl; rw [hh b e xs h]; rfl
  | ptr k ver off v hv hh => obtain ⟨b, e, xs, h⟩ := hp k ver off rfl; rw [hh b e xs h]; rfl
  | eptr k ver i j v hv hh => obtain ⟨b, e, xs, h⟩ := he k ver i j rfl; rw [hh b e xs h]; rfl
  | agg => simp [PV.one] at h1
  | tup => simp [PV.one] at h1
  | fn => rfl
theorem Rd.one_cell {B : Nat → Prop} {x : PV} {v : Value} (h : Rd w B x v) (h1 : x.one = true) : v.oneCell' = true := by
  cases h <;> first | rfl | simp [PV.one] at h1

theorem val_const (v : Value) : Val P o τ w (ofConst v) v := by
  unfold ofConst
  split
  · exact .int_ _ _
  · exact .bool_ _
  · exact .str_ _
  · exact .pure (.nil none)
  · exact .undef _
theorem ev_val {st : St} {a : Act} (h : ∀ t, Val P st.o τ w (st.s t) (a.tmps.getD t undef)) (x : Operand) : Val P st.o τ w (st.ev x) (a.eval x) := by
  cases x with
  | tmp t => exact h t
  | const v => exact val_const v
  | global g => exact .undef _
  | func f => exact .fn f [] [] #[] #[] rfl rfl (by simp) (by simp)

theorem add_add (a : Addr) (i j : Nat) : (a.add i).add j = a.add (i + j) := by
  unfold Addr.add
  by_cases hi : i = 0
  · subst hi; simp
  · by_cases hj : j = 0
    · subst hj; simp [hi]
    · simp [hi, hj, Nat.add_assoc]

theorem skolem_cells {cs : List PV} {f : Nat → Option Value} {R : PV → Value → Prop} (h : ∀ (j : Nat) (z : PV), cs[j]? = some z → ∃ u, f j = some u ∧ R z u) :
    ∃ us : Nat → Value, ∀ (j : Nat) (z : PV), cs[j]? = some z → f j = some (us j) ∧ R z (us j) := by
  have : ∀ j, ∃ u, ∀ z : PV, cs[j]? = some z → f j = some u ∧ R z u := by
    intro j
    cases hj : cs[j]? with
    | none => exact ⟨undef, fun z hz => by cases hz⟩
    | some z =>
      obtain ⟨u, hu⟩ := h j z hj
      exact ⟨u, fun z' hz' => by cases hz'; exact hu⟩
  obtain ⟨us, hus⟩ := Classical.axiomOfChoice this
  exact ⟨us, hus⟩

theorem run_sizeOf {T : TypeId} {i : TypeInfo} (h : P.info? T = some i) (w : World) : (sizeOf T).run P w = .ok i.size w := by simp [sizeOf, typeInfo, h]
theorem cellsOf_info {T : TypeId} {i : TypeInfo} (h : P.info? T = some i) : P.cellsOf T = i.size := by simp [Program.cellsOf, h]

theorem run_loadVar' {T : TypeId} {cs : List PV} {ad : Addr} {x : PV} (h : ∀ (j : Nat) (z : PV), cs[j]? = some z → ∃ u, w.cell? (ad.add j) = some u ∧ z.one = true ∧ Val P o τ w z u) (hx : ofCells P T cs = some x) :
    ∃ v, (loadVar T ad).run P w = .ok v w ∧ Val P o τ w x v := by
  obtain ⟨us, hus⟩ := skolem_cells h
  unfold ofCells at hx
  split at hx
  · rename_i n ht
    split at hx
    · rename_i hle
      cases hx
      have hc : ∀ j, j < n → w.cell? (ad.add j) = some (us j) := fun j hj => (hus j _ (List.getElem?_eq_getElem (by omega))).1
      have hrun := run_loadCells (P := P) w ad n us hc
      refine ⟨.agg ((List.range n).map us).toArray, ?_, .agg _ _ (by simp; omega) (fun j z hj => ?_) fun j z u hj hu => ?_⟩
      · unfold tinf at ht
        split at ht <;> first | (cases ht; done) | skip
        all_goals (rename_i i hi hu; simp only [Option.some.injEq, Prod.mk.injEq, true_and] at ht; subst ht; simp [loadVar, isAgg, run_underlying hu, run_sizeOf hi, hrun])
      · rw [List.getElem?_take] at hj
        split at hj
        · exact (hus j z hj).2.1
        · cases hj
      · rw [List.getElem?_take] at hj
        split at hj
        · rename_i hjn
          simp [List.getElem?_range, hjn] at hu
          subst hu
          exact (hus j z hj).2.2
        · cases hj
    · cases hx
  · rename_i n ht
    obtain ⟨h1, _, h2⟩ := hus 0 x hx
    have h1' : w.cell? ad = some (us 0) := by simpa [Addr.add] using h1
    refine ⟨us 0, ?_, h2⟩
    unfold tinf at ht
    split at ht <;> first | (cases ht; done) | skip
    rename_i i d hne hne' hi hd
    have : (isAgg T).run P w = .ok false w := by
      simp only [isAgg, Sem.run_bind, run_underlying hd, Result.andThen_ok]
      cases d <;> first | rfl | exact absurd rfl (hne _) | exact absurd rfl (hne' _ _)
    simp [loadVar, this, load, Sem.run, h1']
  · cases hx
end
end Go.Sx
/- The abstract machine, part 4: loads, addresses, lengths, cuts, structs; then all operations that only compute. -/
set_option linter.unusedVariables false
set_option linter.unusedSimpArgs false
namespace Go.Sx
open Go Go.RowKit

section
variable {P : Program} {o : Objs} {τ : Places} {w : World}
theorem add_lit (g off j : Nat) : (⟨g, off, none⟩ : Addr).add j = ⟨g, off + j, none⟩ := by unfold Addr.add; split <;> simp_all
theorem cell_blk {g off j : Nat} {vs : Array Value} {t : TypeId} {fr : Nat × Nat} (h : w.heap[g]? = some (.cells vs t fr)) : w.cell? ((⟨g, off, none⟩ : Addr).add j) = vs[off + j]? := by
  rw [add_lit]; exact cell_of_row w g (off + j) vs t fr h
theorem getBox_some {k v : Nat} {t : TypeId} {cs : List PV} (h : getBox o k v = some (t, cs)) : ∃ b, o k = (v, some (b, .box t cs)) := by
  unfold getBox at h
  split at h
  · rename_i v' b' t' cs' he
    split at h
    · rename_i hv; cases h; exact ⟨b', by rw [he, hv]⟩
    · cases h
  · cases h
theorem getRow_some {k v : Nat} {t : TypeId} {cs : List PV} (h : getRow o k v = some (t, cs)) : ∃ b, o k = (v, some (b, .row t cs)) := by
  unfold getRow at h
  split at h
  · rename_i v' b' t' cs' he
    split at h
    · rename_i hv; cases h; exact ⟨b', by rw [he, hv]⟩
    · cases h
  · cases h
theorem getElem?_of_size {vs : Array Value} {cs : List PV} (hn : vs.size = cs.length) {j : Nat} {z : PV} (h : cs[j]? = some z) : ∃ u, vs[j]? = some u := by
  have : j < vs.size := by rw [hn]; exact (List.getElem?_eq_some_iff.1 h).1
  exact ⟨_, Array.getElem?_eq_getElem this⟩

theorem load_sound {x : PV} {v : Value} {T : TypeId} {y : PV} (hh : Holds P o τ w) (hv : Val P o τ w x v) (h : absLoad P o T x = some y) : ∃ u, (Instr.loadAt T v).run P w = .ok u w ∧ Val P o τ w y u := by
  cases x <;> simp only [absLoad] at h <;> try (cases h; done)
  case mem cs =>
    cases hv.mem_inv with
    | mem cs ad us hB hu hr =>
      obtain ⟨u, h1, h2⟩ := run_loadVar' (P := P) (o := o) (τ := τ) (ad := ad) (fun j z hj => ⟨us j, (hu j z hj).2, (hu j z hj).1, .pure (hr j z hj)⟩) h
      exact ⟨u, by simpa [Instr.loadAt, Instr.sureAddr] using h1, h2⟩
  case ptr k ver off =>
    split at h
    · rename_i t cs hb
      obtain ⟨bb, hb'⟩ := getBox_some hb
      cases hv with
      | pure h' => cases h'
      | ptr k ver off v hv hp =>
        rw [hp bb t cs hb']
        obtain ⟨vs, hg, hn, h1, hr⟩ := hh.box k ver bb t cs hb'
        obtain ⟨u, e1, e2⟩ := run_loadVar' (P := P) (o := o) (τ := τ) (ad := ⟨(τ k).1, off, none⟩) (fun j z hj => by
          rw [List.getElem?_drop] at hj
          obtain ⟨u, hu⟩ := getElem?_of_size hn hj
          exact ⟨u, by rw [cell_blk hg]; exact hu, h1 _ _ hj, hr _ _ _ hj hu⟩) h
        exact ⟨u, by simpa [Instr.loadAt, Instr.sureAddr] using e1, e2⟩
    · cases h
  case eptr k ver i j =>
    split at h
    · rename_i e xs hb
      split at h
      · rename_i y hy
        obtain ⟨bb, hb'⟩ := getRow_some hb
        cases hv with
        | pure h' => cases h'
        | eptr k ver i j v hv hp =>
          rw [hp bb e xs hb']
          obtain ⟨vs, hg, hn, hs, hl, hm, hz, h1, hr⟩ := hh.row k ver bb e xs hb'
          obtain ⟨u, e1, e2⟩ := run_loadVar' (P := P) (o := o) (τ := τ) (ad := ⟨(τ k).1, i * P.cellsOf e + j, none⟩) (fun j' z hj => by
            rw [List.getElem?_drop] at hj
            have hlt : j + j' < P.cellsOf e := by rw [← hz i y hy]; exact (List.getElem?_eq_some_iff.1 hj).1
            have hi : i < xs.length := (List.getElem?_eq_some_iff.1 hy).1
            have hlt2 : i * P.cellsOf e + (j + j') < vs.size := by
              rw [hn]
              calc i * P.cellsOf e + (j + j') < i * P.cellsOf e + P.cellsOf e := by omega
                _ = (i + 1) * P.cellsOf e := by rw [Nat.add_mul, Nat.one_mul]
                _ ≤ (τ k).2 * P.cellsOf e := Nat.mul_le_mul_right _ (by omega)
            refine ⟨vs[i * P.cellsOf e + (j + j')], ?_, h1 i y _ z hy hj, .pure (hr i y _ z _ hy hj (Array.getElem?_eq_getElem hlt2))⟩
            rw [cell_blk hg, Nat.add_assoc]
            exact Array.getElem?_eq_getElem hlt2) h
          exact ⟨u, by simpa [Instr.loadAt, Instr.sureAddr] using e1, e2⟩
      · cases h
    · cases h

theorem fld_some {T : TypeId} {f off size : Nat} {F : TypeId} (h : fld P T f = some (off, size, F)) : ∃ fs fd i, P.underlying T = some (.struct fs) ∧ fs[f]? = some fd ∧ P.info? fd.type = some i ∧ fd.offset = off ∧ i.size = size ∧ fd.type = F := by
  unfold fld at h
  split at h
  · rename_i fs hu
    split at h
    · rename_i fd hf
      split at h
      · rename_i i hi
        simp only [Option.some.injEq, Prod.mk.injEq] at h
        exact ⟨fs, fd, i, hu, hf, hi, h.1, h.2.1, h.2.2⟩
      · cases h
    · cases h
  · cases h
theorem run_fieldAt {T : TypeId} {f off size : Nat} {F : TypeId} (h : fld P T f = some (off, size, F)) (hs : size ≠ 0) (ad : Addr) : (Instr.fieldAt T (.pointer (some ad)) f).run P w = .ok (.pointer (some (ad.add off))) w := by
  obtain ⟨fs, fd, i, hu, hf, hi, rfl, rfl, rfl⟩ := fld_some h
  simp [Instr.fieldAt, run_underlying hu, hf, Instr.sureAddr, fieldPlace, run_sizeOf hi, hs]
theorem fieldAddr_sound {x : PV} {v : Value} {T : TypeId} {f : Nat} {y : PV} (hv : Val P o τ w x v) (h : absFieldAddr P o T x f = some y) : ∃ u, (Instr.fieldAt T v f).run P w = .ok u w ∧ Val P o τ w y u := by
  unfold absFieldAddr at h
  split at h
  · rename_i off size F hf
    split at h
    · cases h
    · rename_i hs
      cases x <;> simp only [] at h <;> try (cases h; done)
      case mem cs =>
        cases h
        cases hv.mem_inv with
        | mem cs ad us hB hu hr =>
          refine ⟨_, run_fieldAt hf hs ad, .pure (.mem _ _ (fun j => us (off + j)) (fun hne => ?_) (fun j z hj => ?_) fun j z hj => ?_)⟩
          · rw [add_block]; exact hB (by rintro rfl; simp at hne)
          · rw [List.getElem?_drop] at hj
            rw [add_add]
            exact hu _ _ hj
          · rw [List.getElem?_drop] at hj
            exact hr _ _ hj
      case ptr k ver off' =>
        obtain ⟨⟨t, cs⟩, hb0, rfl⟩ := Option.map_eq_some_iff.1 h
        obtain ⟨bb, hb⟩ := getBox_some hb0
        cases hv with
        | pure h' => cases h'
        | ptr k ver off' v hv hp =>
          rw [hp bb t cs hb]
          refine ⟨_, run_fieldAt hf hs _, .ptr _ _ _ _ hv fun _ t' cs' _ => ?_⟩
          rw [add_lit]
      case eptr k ver i j =>
        obtain ⟨⟨e, xs⟩, hb0, rfl⟩ := Option.map_eq_some_iff.1 h
        obtain ⟨bb, hb⟩ := getRow_some hb0
        cases hv with
        | pure h' => cases h'
        | eptr k ver i j v hv hp =>
          rw [hp bb e xs hb]
          refine ⟨_, run_fieldAt hf hs _, .eptr _ _ _ _ _ hv fun _ e' xs' he => ?_⟩
          rw [hb] at he
          cases he
          rw [add_lit, Nat.add_assoc]
  · cases h
theorem selem_some {T e : TypeId} {sz : Nat} (h : selem P T = some (e, sz)) : P.underlying T = some (.slice e) ∧ ∃ i, P.info? e = some i ∧ i.size = sz := by
  unfold selem at h
  split at h
  · rename_i e' hu
    split at h
    · rename_i i hi
      simp only [Option.some.injEq, Prod.mk.injEq] at h
      obtain ⟨rfl, h⟩ := h
      exact ⟨hu, i, hi, h⟩
    · cases h
  · cases h
theorem elem_of {T e : TypeId} (h : P.underlying T = some (.slice e)) : P.elem T = e := by simp [Program.elem, h]
theorem run_indexAt' {T e : TypeId} {sz : Nat} (h : selem P T = some (e, sz)) (ad : Addr) (n c : Nat) (k : IntKind) (i : Int) (h0 : 0 ≤ i) (h1 : i < n) : (Instr.indexAt T (.slice (some ad) n c) (.int k i)).run P w = .ok (.pointer (some (ad.add (i.toNat * sz)))) w := by
  obtain ⟨hu, inf, hi, rfl⟩ := selem_some h
  rw [run_indexAt_slice w T ad n c k i (by rw [elem_of hu]; exact hu), if_pos ⟨h0, h1⟩, elem_of hu, run_sizeOf hi]
  rfl
theorem indexAddr_sound {x y z : PV} {v u : Value} {T : TypeId} (hv : Val P o τ w x v) (hu : Val P o τ w y u) (h : absIndexAddr P o T x y = some z) : ∃ r, (Instr.indexAt T v u).run P w = .ok r w ∧ Val P o τ w z r := by
  unfold absIndexAddr at h
  split at h
  · rename_i e sz k n hs
    rw [hu.int_inv]
    cases x <;> simp only [] at h <;> try (cases h; done)
    case sl xs =>
      split at h
      · rename_i h0
        split at h
        · rename_i y hy
          split at h
          · rename_i hl
            cases h
            have hlt : n.toNat < xs.length := (List.getElem?_eq_some_iff.1 hy).1
            cases hv.sl_inv with
            | sl0 a c => simp at hlt
            | sl xs ad n' c sz' us hn hp hc hB hz hcu hr =>
              have hsz : sz' = sz := by rw [← hz _ _ hy]; exact hl
              subst hsz
              refine ⟨_, run_indexAt' hs ad n' c k n h0 (by omega), .pure (.mem _ _ (fun j => us n.toNat j) (fun _ => by rw [add_block]; exact hB) (fun j z hj => ?_) fun j z hj => hr _ _ _ _ hy hj)⟩
              rw [add_add]
              exact hcu _ _ _ _ hy hj
          · cases h
        · cases h
      · cases h
    case ref kk ver =>
      split at h
      · rename_i e' xs hb
        obtain ⟨bb, hb'⟩ := getRow_some hb
        split at h
        · rename_i hc
          obtain ⟨rfl, h0, hlt⟩ := hc
          cases h
          cases hv with
          | pure h' => cases h'
          | ref kk ver v hv hp =>
            rw [hp bb _ xs hb']
            refine ⟨_, run_indexAt' hs _ _ _ k n h0 hlt, .eptr _ _ _ _ _ hv fun _ e2 xs2 he => ?_⟩
            rw [hb'] at he
            cases he
            obtain ⟨_, inf, hi, rfl⟩ := selem_some hs
            rw [add_lit, cellsOf_info hi]
            simp
        · cases h
      · cases h
  · cases h
theorem kd_slice {T : TypeId} (h : kd P T = .slice) : ∃ e, P.underlying T = some (.slice e) := by
  unfold kd at h
  split at h <;> first | exact ⟨_, by assumption⟩ | cases h
theorem kd_string {T : TypeId} (h : kd P T = .string) : P.underlying T = some .string := by
  unfold kd at h
  split at h <;> first | assumption | cases h
theorem kd_bool {T : TypeId} (h : kd P T = .bool) : P.underlying T = some .bool := by
  unfold kd at h
  split at h <;> first | assumption | cases h
theorem len_sound {x y : PV} {v : Value} {T ty : TypeId} (hv : Val P o τ w x v) (h : absLen P o T x = some y) : ∃ u, (Builtin.len_ #[T] ty #[v]).run P w = .ok u w ∧ Val P o τ w y u := by
  unfold absLen at h
  split at h
  · rename_i hk
    obtain ⟨e, he⟩ := kd_slice hk
    obtain ⟨a, rfl⟩ := hv.nil_inv
    cases h
    exact ⟨_, by simp [Builtin.len_, run_underlying he, goInt], .int_ _ _⟩
  · rename_i xs hk
    obtain ⟨e, he⟩ := kd_slice hk
    cases h
    cases hv.sl_inv with
    | sl0 a c => exact ⟨_, by simp [Builtin.len_, run_underlying he, goInt], .int_ _ _⟩
    | sl xs ad n' c sz' us hn hp hc hB hz hcu hr => exact ⟨.int .i64 n', by simp [Builtin.len_, run_underlying he, goInt], by rw [hn]; exact .int_ _ _⟩
  · rename_i k ver hk
    obtain ⟨e, he⟩ := kd_slice hk
    cases hb : getRow o k ver with
    | none => simp [hb] at h
    | some p =>
      simp only [hb, Option.map_some, Option.some.injEq] at h
      subst h
      obtain ⟨bb, hb'⟩ := getRow_some (t := p.1) (cs := p.2) hb
      cases hv with
      | pure h' => cases h'
      | ref k ver v hv hp =>
        rw [hp bb _ _ hb']
        exact ⟨_, by simp [Builtin.len_, run_underlying he, goInt], .int_ _ _⟩
  · rename_i s hk
    cases h
    rw [hv.str_inv]
    exact ⟨_, by simp [Builtin.len_, run_underlying (kd_string hk), goInt], .int_ _ _⟩
  · cases h
end
end Go.Sx
/- The abstract machine, part 5: cuts, structs, tests; then every operation that only computes. -/
set_option linter.unusedVariables false
set_option linter.unusedSimpArgs false
namespace Go.Sx
open Go Go.RowKit

section
variable {P : Program} {o : Objs} {τ : Places} {w : World}

theorem bndOf_sound {x : Option PV} {v : Option Value} {d n : Nat} (hv : match x, v with | some x, some v => Val P o τ w x v | none, none => True | _, _ => False) (h : bndOf x d = some n) :
    (x = none ∧ v = none ∧ n = d) ∨ ∃ k, v = some (.int k (n : Int)) := by
  unfold bndOf at h
  split at h
  · cases h
    left
    cases v with
    | none => exact ⟨rfl, rfl, rfl⟩
    | some v => exact hv.elim
  · rename_i k m
    split at h
    · rename_i h0
      cases h
      right
      cases v with
      | none => exact hv.elim
      | some v => exact ⟨k, by rw [Val.int_inv hv, Int.toNat_of_nonneg h0]⟩
    · cases h
  · cases h

theorem run_slice' {T e : TypeId} {sz : Nat} (h : selem P T = some (e, sz)) (a : Option Addr) (n c : Nat) (lo hi : Option Value) (l m : Nat) (hl : (lo = none ∧ l = 0) ∨ ∃ k, lo = some (.int k (l : Int))) (hh : (hi = none ∧ m = n) ∨ ∃ k, hi = some (.int k (m : Int))) (h1 : l ≤ m) (h2 : m ≤ c) :
    (Instr.sliceAt T (.slice a n c) lo hi none).run P w = .ok (.slice (if c = l then a else a.map (·.add (l * sz))) (m - l) (c - l)) w := by
  obtain ⟨hu, inf, hi', rfl⟩ := selem_some h
  have hm : (m : Int) ≤ c := by omega
  have hlm : (l : Int) ≤ m := by omega
  rcases hl with ⟨rfl, rfl⟩ | ⟨k, rfl⟩ <;> rcases hh with ⟨rfl, rfl⟩ | ⟨k', rfl⟩ <;>
    simp [Instr.sliceAt, Instr.slice, run_underlying hu, Instr.sliceBounds, Instr.sliceBound, asIntOf, run_sizeOf hi', hm, hlm, h1, h2]

theorem slice_sound {x y : PV} {v : Value} {T : TypeId} {lo hi : Option PV} {vl vh : Option Value} (hv : Val P o τ w x v)
    (hl : match lo, vl with | some x, some v => Val P o τ w x v | none, none => True | _, _ => False) (hh : match hi, vh with | some x, some v => Val P o τ w x v | none, none => True | _, _ => False)
    (h : absSlice P T x lo hi = some y) : ∃ u, (Instr.sliceAt T v vl vh none).run P w = .ok u w ∧ Val P o τ w y u := by
  unfold absSlice at h
  split at h
  · rename_i e sz xs hs
    split at h
    · rename_i l m el em
      split at h
      · rename_i hc
        obtain ⟨h1, h2, h3⟩ := hc
        cases h
        have bl := bndOf_sound hl el
        have bh := bndOf_sound hh em
        have key : ∀ a c, v = .slice a xs.length c → xs.length ≤ c → (Instr.sliceAt T v vl vh none).run P w = .ok (.slice (if c = l then a else a.map (·.add (l * sz))) (m - l) (c - l)) w := by
          intro a c hv' hc
          rw [hv']
          exact run_slice' hs a xs.length c vl vh l m (bl.imp (fun h => ⟨h.2.1, h.2.2⟩) id) (bh.imp (fun h => ⟨h.2.1, h.2.2⟩) id) h1 (by omega)
        cases hv.sl_inv with
        | sl0 a c =>
          have e0 : l = 0 := by simp at h2; omega
          have e1 : m = 0 := by simp at h2; omega
          subst e0; subst e1
          exact ⟨_, key a c rfl (by simp), by simp; exact .pure (.sl0 _ _)⟩
        | sl xs ad n' c sz' us hn hp hc hB hz hcu hr =>
          refine ⟨_, key (some ad) c (by rw [hn]) (by omega), .pure ?_⟩
          have hsz : sz' = sz := by
            have h0 : 0 < xs.length := by omega
            rw [← hz 0 _ (List.getElem?_eq_getElem h0)]
            exact h3 _ (List.getElem_mem h0)
          subst hsz
          have hlen : ((xs.take m).drop l).length = m - l := by rw [List.length_drop, List.length_take]; omega
          rcases Nat.eq_zero_or_pos (m - l) with hz0 | hpos
          · have hnil : (xs.take m).drop l = [] := List.eq_nil_of_length_eq_zero (by omega)
            rw [hnil, hz0]
            exact .sl0 _ _
          · rw [if_neg (by omega)]
            have hget : ∀ (i : Nat) (y : PV), ((xs.take m).drop l)[i]? = some y → xs[l + i]? = some y := by
              intro i y hy
              rw [List.getElem?_drop, List.getElem?_take] at hy
              split at hy
              · exact hy
              · cases hy
            refine .sl _ _ _ _ sz' (fun i j => us (l + i) j) hlen hpos (by omega) (by rw [add_block]; exact hB) (fun i y hy => hz _ _ (hget i y hy)) (fun i y j z hy hj => ?_) fun i y j z hy hj => hr _ _ _ _ (hget i y hy) hj
            rw [add_add, ← Nat.add_assoc, ← Nat.add_mul]
            exact hcu _ _ _ _ (hget i y hy) hj
      · cases h
    · cases h
  · cases h

theorem extract_sound {cs : List PV} {v : Value} {i : Nat} {y : PV} (hv : Val P o τ w (.tup cs) v) (h : cs[i]? = some y) : ∃ u, (Instr.extract v i).run P w = .ok u w ∧ Val P o τ w y u := by
  obtain ⟨vs, rfl, hn, hr⟩ := hv.tup_inv
  obtain ⟨u, hu⟩ := getElem?_of_size hn h
  exact ⟨u, by simp [Instr.extract, hu], hr _ _ _ h hu⟩

theorem part_sound {T : TypeId} {cs : List PV} {vs : Array Value} {off : Nat} {y : PV} (hn : vs.size = cs.length) (h1 : ∀ (j : Nat) (z : PV), cs[j]? = some z → z.one = true) (hr : ∀ (j : Nat) (z : PV) (u : Value), cs[j]? = some z → vs[j]? = some u → Val P o τ w z u)
    (hle : off + P.cellsOf T ≤ cs.length) (h : ofCells P T (cs.drop off) = some y) : ∃ u, (part T vs off).run P w = .ok u w ∧ Val P o τ w y u := by
  unfold ofCells at h
  split at h
  · rename_i n ht
    split at h
    · rename_i hl
      cases h
      unfold tinf at ht
      split at ht <;> first | (cases ht; done) | skip
      all_goals
        rename_i hi hu
        simp only [Option.some.injEq, Prod.mk.injEq, true_and] at ht
        rw [cellsOf_info hi, ht] at hle
        refine ⟨.agg (vs.extract off (off + n)), by simp [part, isAgg, run_underlying hu, run_sizeOf hi, ht], .agg _ _ ?_ (fun j z hj => ?_) fun j z u hj hu' => ?_⟩
        · simp; omega
        · rw [List.getElem?_take] at hj
          split at hj
          · rw [List.getElem?_drop] at hj; exact h1 _ _ hj
          · cases hj
        · rw [List.getElem?_take] at hj
          split at hj
          · rename_i hlt
            rw [List.getElem?_drop] at hj
            rw [Array.getElem?_extract] at hu'
            split at hu'
            · exact hr _ _ _ hj hu'
            · cases hu'
          · cases hj
    · cases h
  · rename_i n ht
    rw [List.getElem?_drop] at h
    simp only [Nat.add_zero] at h
    obtain ⟨u, hu⟩ := getElem?_of_size hn h
    refine ⟨u, ?_, hr _ _ _ h hu⟩
    unfold tinf at ht
    split at ht <;> first | (cases ht; done) | skip
    rename_i i d hne hne' hi hd
    have : (isAgg T).run P w = .ok false w := by
      simp only [isAgg, Sem.run_bind, run_underlying hd, Result.andThen_ok]
      cases d <;> first | rfl | exact absurd rfl (hne _) | exact absurd rfl (hne' _ _)
    simp [part, this, hu]
  · cases h
theorem field_sound {x : PV} {v : Value} {T : TypeId} {f : Nat} {y : PV} (hv : Val P o τ w x v) (h : absField P T x f = some y) : ∃ u, (Instr.field T v f).run P w = .ok u w ∧ Val P o τ w y u := by
  unfold absField at h
  split at h
  · rename_i off size F cs hf
    split at h
    · rename_i hle
      obtain ⟨fs, fd, i, hu, hfd, hi, rfl, rfl, rfl⟩ := fld_some hf
      obtain ⟨vs, rfl, hn, h1, hr⟩ := hv.agg_inv
      obtain ⟨u, e1, e2⟩ := part_sound hn h1 hr (by rw [cellsOf_info hi]; exact hle) h
      exact ⟨u, by simp [Instr.field, run_underlying hu, hfd, asAgg, e1], e2⟩
    · cases h
  · cases h

theorem intBin_sound {op : BinOp} {k : IntKind} {a b : Int} {y : PV} (T : TypeId) (h : intBin op k a b = some y) : ∃ u, (binOp op T (.int k a) (.int k b)).run P w = .ok u w ∧ Val P o τ w y u := by
  unfold intBin at h
  split at h <;> first | (cases h; done) | skip
  case h_4 => 
    split at h
    · cases h
    · rename_i hb; cases h; exact ⟨_, by simp [binOp, Op.intDiv, hb], .int_ _ _⟩
  case h_5 => 
    split at h
    · cases h
    · rename_i hb; cases h; exact ⟨_, by simp [binOp, Op.intDiv, hb], .int_ _ _⟩
  all_goals
    cases h
    first
      | exact ⟨_, by simp [binOp, Op.intArith], .int_ _ _⟩
      | exact ⟨_, by simp [binOp, Op.intCmp], .bool_ _⟩
theorem strBin_sound {op : BinOp} {a b : ByteArray} {y : PV} (T : TypeId) (h : strBin op a b = some y) : ∃ u, (binOp op T (.string a) (.string b)).run P w = .ok u w ∧ Val P o τ w y u := by
  unfold strBin at h
  split at h <;> first | (cases h; done) | skip
  case h_1 =>
    split at h
    · rename_i hb
      cases h
      have : ¬ ((a.size + b.size : Nat) : Int) > IntKind.i64.max := by
        have : IntKind.i64.max = 9223372036854775807 := by decide
        omega
      exact ⟨.string (a ++ b), by simp only [binOp, Op.stringOp]; rw [if_neg this]; rfl, .str_ _⟩
    · cases h
  all_goals
    cases h
    exact ⟨_, by simp [binOp, Op.stringOp], .bool_ _⟩

theorem ok1_one {x : PV} (h : ok1 o x = true) : x.one = true := by cases x <;> first | rfl | simp [ok1] at h
theorem Val.one_cell' {x : PV} {v : Value} (h : Val P o τ w x v) (h1 : ok1 o x = true) : v.oneCell' = true := by
  refine h.one_cell (ok1_one h1) (fun k ver e => ?_) (fun k ver off e => ?_) (fun k ver i j e => ?_)
  · subst e
    simp only [ok1] at h1
    obtain ⟨p, hp⟩ := Option.isSome_iff_exists.1 h1
    obtain ⟨b, hb⟩ := getRow_some (t := p.1) (cs := p.2) hp
    exact ⟨b, p.1, p.2, hb⟩
  · subst e
    simp only [ok1] at h1
    obtain ⟨p, hp⟩ := Option.isSome_iff_exists.1 h1
    obtain ⟨b, hb⟩ := getBox_some (t := p.1) (cs := p.2) hp
    exact ⟨b, p.1, p.2, hb⟩
  · subst e
    simp only [ok1] at h1
    obtain ⟨p, hp⟩ := Option.isSome_iff_exists.1 h1
    obtain ⟨b, hb⟩ := getRow_some (t := p.1) (cs := p.2) hp
    exact ⟨b, p.1, p.2, hb⟩
theorem cells_of_one {v : Value} (h : v.oneCell' = true) : v.cells = #[v] := by cases v <;> first | rfl | simp [Value.oneCell'] at h
/-- A value's cells, abstract and real, one by one. -/
theorem cells_val {x : PV} {v : Value} (h : Val P o τ w x v) (h1 : x.cells.all (ok1 o) = true) : v.cells.size = x.cells.length ∧ ∀ (j : Nat) (z : PV) (u : Value), x.cells[j]? = some z → v.cells[j]? = some u → Val P o τ w z u ∧ z.one = true ∧ u.oneCell' = true := by
  have base : x.cells = [x] → v.cells.size = x.cells.length ∧ ∀ (j : Nat) (z : PV) (u : Value), x.cells[j]? = some z → v.cells[j]? = some u → Val P o τ w z u ∧ z.one = true ∧ u.oneCell' = true := by
    intro he
    have hx : ok1 o x = true := by rw [he] at h1; simpa using h1
    have hv := h.one_cell' hx
    rw [he, cells_of_one hv]
    refine ⟨rfl, fun j z u hz hu => ?_⟩
    cases j with
    | zero => simp at hz hu; subst hz; subst hu; exact ⟨h, ok1_one hx, hv⟩
    | succ j => simp at hz
  cases x <;> try exact base rfl
  case agg cs =>
    obtain ⟨vs, rfl, hn, ho, hr⟩ := h.agg_inv
    refine ⟨hn, fun j z u hz hu => ?_⟩
    have hz' : z ∈ cs := List.mem_of_getElem? hz
    have := (List.all_eq_true.1 h1) z hz'
    exact ⟨hr j z u hz hu, ho j z hz, (hr j z u hz hu).one_cell' this⟩

theorem foldl_setIfInBounds (off : Nat) : ∀ (l : List Value) (s : Nat) (cs : Array Value), off + s + l.length ≤ cs.size →
    ((l.zipIdx s).foldl (fun cs (p : Value × Nat) => cs.setIfInBounds (off + p.2) p.1) cs).toList = cs.toList.take (off + s) ++ l ++ cs.toList.drop (off + s + l.length)
  | [], s, cs, _ => by simp
  | v :: l, s, cs, h => by
    simp only [List.zipIdx_cons, List.foldl_cons]
    rw [foldl_setIfInBounds off l (s + 1) _ (by simp at h ⊢; omega)]
    simp only [Array.toList_setIfInBounds, List.length_cons] at h ⊢
    apply List.ext_getElem?
    intro i
    have hcs : cs.toList.length = cs.size := by simp
    simp only [List.getElem?_append, List.length_take, List.length_set, List.getElem?_take, List.getElem?_set, List.getElem?_drop, List.length_append, List.length_cons, List.getElem?_cons]
    grind

theorem fill_sound {place : Nat → Option (Nat × Nat)} : ∀ (parts : List (Nat × PV)) (vparts : List (Nat × Value)) (cells : List PV) (vs : Array Value) (r : List PV),
    (parts.length = vparts.length) → (∀ (j : Nat) (p : Nat × PV) (q : Nat × Value), parts[j]? = some p → vparts[j]? = some q → p.1 = q.1 ∧ Val P o τ w p.2 q.2) →
    vs.size = cells.length → (∀ (j : Nat) (z : PV), cells[j]? = some z → z.one = true) → (∀ (j : Nat) (z : PV) (u : Value), cells[j]? = some z → vs[j]? = some u → Val P o τ w z u) →
    absFill o place cells parts = some r → ∃ us, Instr.fill place vs vparts = some us ∧ us.size = r.length ∧ (∀ (j : Nat) (z : PV), r[j]? = some z → z.one = true) ∧ ∀ (j : Nat) (z : PV) (u : Value), r[j]? = some z → us[j]? = some u → Val P o τ w z u
  | [], vparts, cells, vs, r, hl, hp, hn, h1, hr, h => by
    cases vparts with
    | cons q vp => simp at hl
    | nil => cases h; exact ⟨vs, rfl, hn, h1, hr⟩
  | (i, x) :: parts, vparts, cells, vs, r, hl, hp, hn, h1, hr, h => by
    cases vparts with
    | nil => simp at hl
    | cons q vp =>
      obtain ⟨i', v⟩ := q
      obtain ⟨rfl, hv0⟩ := hp 0 (i, x) (i', v) rfl rfl
      have hv : Val P o τ w x v := hv0
      clear hv0
      simp only [absFill] at h
      split at h
      · cases h
      · rename_i off size hpl
        split at h
        · rename_i hc
          obtain ⟨e1, e2, e3⟩ := hc
          obtain ⟨hs, hcv⟩ := cells_val hv e3
          have hfold := foldl_setIfInBounds off v.cells.toList 0 vs (by simp; omega)
          simp only [Nat.add_zero, Array.length_toList] at hfold
          generalize hA : (v.cells.toList.zipIdx 0).foldl (fun cs (p : Value × Nat) => cs.setIfInBounds (off + p.2) p.1) vs = A at hfold
          have hA' : v.cells.zipIdx.foldl (fun cs (c, j) => cs.setIfInBounds (off + j) c) vs = A := by
            rw [← hA, ← Array.foldl_toList]; simp
          have hsz : A.size = (cells.take off ++ x.cells ++ cells.drop (off + size)).length := by
            rw [← Array.length_toList, hfold]; simp; omega
          have hsc : v.cells.size = size := by rw [hs, e1]
          have hget : ∀ (j : Nat), A[j]? = (vs.toList.take off ++ v.cells.toList ++ vs.toList.drop (off + size))[j]? := by
            intro j; rw [← Array.getElem?_toList, hfold, hsc]
          obtain ⟨us, f1, f2, f3, f4⟩ := fill_sound parts vp (cells.take off ++ x.cells ++ cells.drop (off + size)) A r (by simpa using hl) (fun j p q a b => hp (j + 1) p q a b) hsz
            (fun j z hz => by
              rw [List.getElem?_append] at hz
              split at hz
              · rw [List.getElem?_append] at hz
                split at hz
                · rw [List.getElem?_take] at hz
                  split at hz
                  · exact h1 _ _ hz
                  · cases hz
                · obtain ⟨u, hu⟩ := getElem?_of_size hs hz
                  exact (hcv _ _ u hz hu).2.1
              · rw [List.getElem?_drop] at hz
                exact h1 _ _ hz)
            (fun j z u hz hu => by
              rw [hget] at hu
              have hlt1 : (cells.take off).length = off := by rw [List.length_take]; omega
              have hlt2 : (vs.toList.take off).length = off := by rw [List.length_take]; simp; omega
              have hlx : (cells.take off ++ x.cells).length = off + size := by rw [List.length_append, hlt1, e1]
              have hlv : (vs.toList.take off ++ v.cells.toList).length = off + size := by rw [List.length_append, hlt2]; simp; exact hsc
              rw [List.getElem?_append, hlx] at hz
              rw [List.getElem?_append, hlv] at hu
              by_cases hj : j < off + size
              · rw [if_pos hj] at hz hu
                rw [List.getElem?_append, hlt1] at hz
                rw [List.getElem?_append, hlt2] at hu
                by_cases hj2 : j < off
                · rw [if_pos hj2] at hz hu
                  rw [List.getElem?_take, if_pos hj2] at hz hu
                  exact hr _ _ _ hz (by simpa using hu)
                · rw [if_neg hj2] at hz hu
                  exact (hcv _ _ _ hz (by simpa using hu)).1
              · rw [if_neg hj] at hz hu
                rw [List.getElem?_drop] at hz hu
                exact hr _ _ _ hz (by simpa using hu)) h
          refine ⟨us, ?_, f2, f3, f4⟩
          simp only [Instr.fill, hpl]
          rw [if_neg (by simp [hsc, hn]; omega)]
          rw [← hA'] at f1
          exact f1
        · cases h

theorem build_sound {st : St} {a : Act} (hs : ∀ t, Val P st.o τ w (st.s t) (a.tmps.getD t undef)) {T : TypeId} {parts : Array (Nat × Operand)} {y : PV} (h : absBuild P st.o T (parts.toList.map fun p => (p.1, st.ev p.2)) = some y) :
    ∃ u, (Instr.build T (parts.map fun (i, x) => (i, a.eval x))).run P w = .ok u w ∧ Val P st.o τ w y u := by
  unfold absBuild at h
  split at h
  · rename_i z pl hb
    obtain ⟨r, hr, rfl⟩ := Option.map_eq_some_iff.1 h
    unfold bld at hb
    split at hb
    · rename_i it fields hit hu
      split at hb
      · rename_i z0 places hz hp
        split at hb
        · rename_i hone
          simp only [Option.some.injEq, Prod.mk.injEq] at hb
          obtain ⟨rfl, rfl⟩ := hb
          obtain ⟨us, f1, f2, f3, f4⟩ := fill_sound (P := P) (τ := τ) (w := w) _ (parts.toList.map fun p => (p.1, a.eval p.2)) _ z0.cells r (by simp) (fun j p q hp hq => by
              rw [List.getElem?_map] at hp hq
              obtain ⟨p0, h0, rfl⟩ := Option.map_eq_some_iff.1 hp
              rw [h0] at hq
              cases hq
              exact ⟨rfl, ev_val hs _⟩) (by simp) (fun j z hz => (List.all_eq_true.1 hone) z (List.mem_of_getElem? hz)) (fun j z u hz hu => by
              rw [List.getElem?_map] at hz
              obtain ⟨c, hc, rfl⟩ := Option.map_eq_some_iff.1 hz
              rw [Array.getElem?_toList, hu] at hc
              cases hc
              exact val_const u) hr
          refine ⟨.agg us, run_build w T _ us ?_, .agg _ _ f2 f3 f4⟩
          simp only [Program.built, hit, hu, hz, hp]
          rw [show (parts.map fun (i, x) => (i, a.eval x)).toList = parts.toList.map fun p => (p.1, a.eval p.2) by simp]
          simpa using f1
        · cases hb
      · cases hb
    · cases hb
  · cases h
end
end Go.Sx
/- The abstract machine, part 6: every operation that only computes comes to what 'pureOp' says. -/
set_option linter.unusedVariables false
set_option linter.unusedSimpArgs false
namespace Go.Sx
open Go Go.RowKit

section
variable {P : Program} {E : Env P} {o : Objs} {τ : Places} {w : World}

theorem run_eqGuard (op : BinOp) (T : TypeId) (x y : Operand) (a b : Value) (h1 : ∀ as bs, a = .agg as → b = .agg bs → False) (h2 : a = .nilIface → False) : (eqGuard op T x y a b).run P w = .ok () w := by
  unfold eqGuard
  cases op <;> simp <;> (cases a <;> cases b <;> first | rfl | exact (h1 _ _ rfl rfl).elim | exact (h2 rfl).elim)
theorem fits_vals : ∀ {sh : List Sc} {xs : List PV} {vs : List Value}, fits sh xs = true → vs.length = xs.length → (∀ (j : Nat) (z : PV) (u : Value), xs[j]? = some z → vs[j]? = some u → Val P o τ w z u) → vs = xs.map scVal
  | sh, [], vs, h, hl, hr => by simpa using List.eq_nil_of_length_eq_zero (by simpa using hl)
  | sh, x :: xs, [], h, hl, hr => by simp at hl
  | [], x :: xs, v :: vs, h, hl, hr => by simp [fits] at h
  | s :: sh, x :: xs, v :: vs, h, hl, hr => by
    have h0 := hr 0 x v rfl rfl
    have ht : fits sh xs = true ∧ v = scVal x := by
      cases s <;> cases x <;> simp [fits] at h
      · exact ⟨h.2, h0.int_inv⟩
      · exact ⟨h, h0.bool_inv⟩
      · exact ⟨h, h0.str_inv⟩
    rw [List.map_cons, ← ht.2, ← fits_vals ht.1 (by simpa using hl) (fun j z u a b => hr (j + 1) z u a b)]

theorem run_equal_bool {T : TypeId} (h : P.underlying T = some .bool) (a b : Bool) : (Op.equal T (.bool a) (.bool b)).run P w = .ok (a == b) w := by
  have key : ∀ d, (Op.equalIn (d + 1) T (.bool a) (.bool b)).run P w = .ok (a == b) w := by
    intro d
    unfold Op.equalIn
    simp only [Sem.run_bind, run_underlying h, Result.andThen_ok, Sem.run_pure]
  exact key 9999
theorem bin_sound {op : BinOp} {T : TypeId} {x y z : PV} {u v : Value} (ox oy : Operand) (hu : Val P o τ w x u) (hv : Val P o τ w y v) (h : absBin P E op T x y = some z) :
    ∃ r, ((do eqGuard op T ox oy u v; binOp op T u v) : Sem Value).run P w = .ok r w ∧ Val P o τ w z r := by
  unfold absBin at h
  split at h
  · rename_i k a k' b
    split at h
    · rename_i hk
      subst hk
      rw [hu.int_inv, hv.int_inv]
      obtain ⟨r, h1, h2⟩ := intBin_sound (P := P) (o := o) (τ := τ) (w := w) T h
      exact ⟨r, by rw [Sem.run_bind, run_eqGuard _ _ _ _ _ _ (by simp) (by simp)]; exact h1, h2⟩
    · cases h
  · rename_i a b
    rw [hu.str_inv, hv.str_inv]
    obtain ⟨r, h1, h2⟩ := strBin_sound (P := P) (o := o) (τ := τ) (w := w) T h
    exact ⟨r, by rw [Sem.run_bind, run_eqGuard _ _ _ _ _ _ (by simp) (by simp)]; exact h1, h2⟩
  · rename_i a b
    rw [hu.bool_inv, hv.bool_inv]
    split at h
    · rename_i hk
      cases h
      exact ⟨_, by rw [Sem.run_bind, run_eqGuard _ _ _ _ _ _ (by simp) (by simp)]; simp only [Result.andThen_ok, binOp, Sem.run_bind, run_equal_bool (kd_bool hk), Sem.run_pure], .bool_ _⟩
    · rename_i hk
      cases h
      exact ⟨_, by rw [Sem.run_bind, run_eqGuard _ _ _ _ _ _ (by simp) (by simp)]; simp only [Result.andThen_ok, binOp, Sem.run_bind, run_equal_bool (kd_bool hk), Sem.run_pure], .bool_ _⟩
    · cases h
  · rename_i xs ys
    obtain ⟨us, rfl, hn, h1, hr⟩ := hu.agg_inv
    obtain ⟨vs, rfl, hn', h1', hr'⟩ := hv.agg_inv
    split at h
    · rename_i sh hsh
      split at h
      · rename_i hf
        rw [Bool.and_eq_true] at hf
        have e1 : us = (xs.map scVal).toArray := by
          rw [← fits_vals hf.1 (vs := us.toList) (by simpa using hn) (fun j z u a b => hr j z u a (by simpa using b))]
        have e2 : vs = (ys.map scVal).toArray := by
          rw [← fits_vals hf.2 (vs := vs.toList) (by simpa using hn') (fun j z u a b => hr' j z u a (by simpa using b))]
        have key := E.ok T sh hsh xs ys hf.1 hf.2 ox oy w
        rw [e1, e2]
        split at h
        · cases h; exact ⟨_, key.1, .bool_ _⟩
        · cases h; exact ⟨_, key.2, .bool_ _⟩
        · cases h
      · cases h
    · cases h
  · cases h

theorem optVal {st : St} {a : Act} (hs : ∀ t, Val P st.o τ w (st.s t) (a.tmps.getD t undef)) (x : Option Operand) : match x.map st.ev, x.map a.eval with | some x, some v => Val P st.o τ w x v | none, none => True | _, _ => False := by
  cases x with
  | none => trivial
  | some x => exact ev_val hs x

/-- The operations that only compute. -/
theorem nil_sound {op : BinOp} {T : TypeId} {x z : PV} {y : Operand} {u : Value} (ox oy : Operand) (ev : Operand → Value) (hev : ∀ v, ev (.const v) = v) (hu : Val P o τ w x u) (h : nilCmp P op T x y = some z) :
    ∃ r, ((do eqGuard op T ox oy u (ev y); binOp op T u (ev y)) : Sem Value).run P w = .ok r w ∧ Val P o τ w z r := by
  unfold nilCmp at h
  split at h
  · rename_i q xs hk
    obtain ⟨e, he⟩ := kd_slice hk
    rw [hev]
    have hu' := hu.sl_inv
    cases hu' with
    | sl _ ad n c sz us hn h0 hc hB hz hu hr =>
      have h1 : ∀ d, (Op.equalIn (d + 1) T (.slice (some ad) n c) (.slice none 0 0)).run P w = .ok false w := by
        intro d
        simp [Op.equalIn, run_underlying he]
      have h2 : (Op.equal T (.slice (some ad) n c) (.slice none 0 0)).run P w = .ok false w := h1 9999
      split at h
      · cases h
        exact ⟨.bool false, by rw [Sem.run_bind, run_eqGuard _ _ _ _ _ _ (by simp) (by simp)]; simp [binOp, h2], .bool_ _⟩
      · cases h
        exact ⟨.bool true, by rw [Sem.run_bind, run_eqGuard _ _ _ _ _ _ (by simp) (by simp)]; simp [binOp, h2], .bool_ _⟩
      · cases h
  · cases h
theorem pure_sound {st : St} {a : Act} (hs : ∀ t, Val P st.o τ w (st.s t) (a.tmps.getD t undef)) (hh : Holds P st.o τ w) {oper : Oper} {x : PV} (h : pureOp P E st oper.op = some x) :
    ∃ v, (execOp a.eval oper).run P w = .ok (.value v) w ∧ Val P st.o τ w x v := by
  obtain ⟨dst, op, type, pos, after, guard⟩ := oper
  have lift : ∀ {s : Sem Value}, (∃ v, s.run P w = .ok v w ∧ Val P st.o τ w x v) → ∃ v, ((do pure (.value (← s))) : Sem Next).run P w = .ok (.value v) w ∧ Val P st.o τ w x v := by
    rintro s ⟨v, h1, h2⟩
    exact ⟨v, by simp [h1], h2⟩
  unfold pureOp at h
  simp only at h
  split at h
  · rename_i y; cases h; exact ⟨_, rfl, ev_val hs y⟩
  · rename_i y; cases h; exact ⟨_, rfl, ev_val hs y⟩
  · rename_i c y z
    split at h
    · rename_i t ht
      cases h
      have hc := ev_val hs c
      rw [ht] at hc
      have hc := hc.bool_inv
      cases t
      · exact ⟨a.eval z, by simp [execOp, hc, asBool], ev_val hs z⟩
      · exact ⟨a.eval y, by simp [execOp, hc, asBool], ev_val hs y⟩
    · cases h
  · rename_i y
    have hy := ev_val hs y
    split at h
    · rename_i cs hc
      cases h
      rw [hc] at hy
      generalize hav : a.eval y = av at hy
      cases hy.mem_inv with
      | mem cs ad us hB hu hr => exact ⟨_, by simp [execOp, hav], hy⟩
    · rename_i k ver off hc
      rw [hc] at hy
      obtain ⟨⟨t, cs⟩, hb, rfl⟩ := Option.map_eq_some_iff.1 h
      obtain ⟨bb, hb'⟩ := getBox_some hb
      refine ⟨a.eval y, ?_, hy⟩
      cases hy with
      | pure h' => cases h'
      | ptr k ver off v hv hp => simp [execOp, hp bb t cs hb']
    · rename_i f b c hc
      cases h
      rw [hc] at hy
      obtain ⟨vf, vc, he, _⟩ := hy.fn_inv
      exact ⟨a.eval y, by simp [execOp, he], hy⟩
    · cases h
  · rename_i op T y z T'
    unfold binPV at h
    split at h
    · rename_i r hr
      cases h
      exact lift (nil_sound y z a.eval (fun _ => rfl) (ev_val hs y) hr)
    · exact lift (bin_sound y z (ev_val hs y) (ev_val hs z) h)
  · rename_i T y
    split at h
    · rename_i b hb
      cases h
      have hy := ev_val hs y
      rw [hb] at hy
      exact ⟨.bool !b, by simp [execOp, hy.bool_inv, Op.unary], .bool_ _⟩
    · cases h
  · rename_i T y
    split at h
    · rename_i k n hb
      cases h
      have hy := ev_val hs y
      rw [hb] at hy
      exact ⟨.int k (k.wrap (0 - n)), by simp [execOp, hy.int_inv, Op.unary, Op.intArith], .int_ _ _⟩
    · cases h
  · rename_i T y f
    exact lift (fieldAddr_sound (ev_val hs y) h)
  · rename_i T y f
    exact lift (field_sound (ev_val hs y) h)
  · rename_i T y i
    exact lift (indexAddr_sound (ev_val hs y) (ev_val hs i) h)
  · rename_i T y i
    have hy := ev_val hs y
    have hi := ev_val hs i
    split at h
    · rename_i s k n hk h1 h2
      rw [h1] at hy
      rw [h2] at hi
      split at h
      · rename_i h0
        obtain ⟨b, hb, rfl⟩ := Option.map_eq_some_iff.1 h
        exact ⟨.int .u8 b.toNat, by simp [execOp, hy.str_inv, hi.int_inv, Instr.index, asIntOf, run_underlying (kd_string hk), h0, hb], .int_ _ _⟩
      · cases h
    · cases h
  · rename_i T y
    exact lift (load_sound hh (ev_val hs y) h)
  · rename_i y i
    have hy := ev_val hs y
    split at h
    · rename_i cs hc
      rw [hc] at hy
      exact lift (extract_sound hy h)
    · cases h
  · rename_i T parts
    exact lift (build_sound hs h)
  · rename_i f first caps
    cases h
    refine ⟨.func (.func f) (first.map a.eval) (caps.map a.eval), by simp [execOp, Instr.makeFunc], .fn _ _ _ _ _ (by simp) (by simp) (fun j z u hz hu => ?_) fun j z u hz hu => ?_⟩
    · rw [List.getElem?_map] at hz
      rw [Array.getElem?_map] at hu
      obtain ⟨x0, hx0, rfl⟩ := Option.map_eq_some_iff.1 hz
      rw [Array.getElem?_toList] at hx0
      rw [hx0] at hu
      cases hu
      exact ev_val hs x0
    · rw [List.getElem?_map] at hz
      rw [Array.getElem?_map] at hu
      obtain ⟨x0, hx0, rfl⟩ := Option.map_eq_some_iff.1 hz
      rw [Array.getElem?_toList] at hx0
      rw [hx0] at hu
      cases hu
      exact ev_val hs x0
  · rename_i T y lo hi
    exact lift (slice_sound (ev_val hs y) (optVal hs lo) (optVal hs hi) h)
  · rename_i c
    obtain ⟨callee, args, ts⟩ := c
    simp only at h
    split at h
    · rename_i y T e1 e2
      obtain rfl : args = #[y] := by apply Array.ext'; simpa using e1
      obtain rfl : ts = #[T] := by apply Array.ext'; simpa using e2
      obtain ⟨u, h1, h2⟩ := len_sound (P := P) (o := st.o) (τ := τ) (w := w) (ty := type) (ev_val hs y) h
      exact ⟨u, by simp [execOp, resolve, invoke, builtin, h1], h2⟩
    · rename_i ts' y z e1
      obtain rfl : args = #[y, z] := by apply Array.ext'; simpa using e1
      unfold absMax at h
      split at h
      · rename_i k c k' d e1 e2
        split at h
        · rename_i hk
          subst hk
          cases h
          have hy := ev_val hs y
          have hz := ev_val hs z
          rw [e1] at hy
          rw [e2] at hz
          exact ⟨.int k (if d > c then d else c), by simp [execOp, resolve, invoke, builtin, Builtin.max_, Builtin.max2, hy.int_inv, hz.int_inv], .int_ _ _⟩
        · cases h
      · cases h
    · rename_i ts' y z e1
      obtain rfl : args = #[y, z] := by apply Array.ext'; simpa using e1
      unfold absMin at h
      split at h
      · rename_i k c k' d e1 e2
        split at h
        · rename_i hk
          subst hk
          cases h
          have hy := ev_val hs y
          have hz := ev_val hs z
          rw [e1] at hy
          rw [e2] at hz
          exact ⟨.int k (if d < c then d else c), by simp [execOp, resolve, invoke, builtin, Builtin.min_, Builtin.min2, hy.int_inv, hz.int_inv], .int_ _ _⟩
        · cases h
      · cases h
    · cases h
  · cases h
end
end Go.Sx
/- The abstract machine, part 7: a state and the machine; what a value says once its rows are taken for frozen ('res'); giving up writing ('freeze'); a new object. -/
set_option linter.unusedVariables false
set_option linter.unusedSimpArgs false
namespace Go.Sx
open Go Go.RowKit

def upd {α : Type} (f : Nat → α) (k : Nat) (v : α) : Nat → α := fun i => if i = k then v else f i
@[simp] theorem upd_same {α : Type} (f : Nat → α) (k : Nat) (v : α) : upd f k v k = v := by simp [upd]
theorem upd_ne {α : Type} (f : Nat → α) {k i : Nat} (v : α) (h : i ≠ k) : upd f k v i = f i := by simp [upd, h]
def St.new (st : St) (k : Nat) (x : Ob) : St := { st with o := upd st.o k ((st.o k).1 + 1, some (true, x)) }
def St.set (st : St) (k v : Nat) (x : Ob) : St := { st with o := upd st.o k (v, some (true, x)) }
def St.kill (st : St) (k : Nat) : St := { st with o := upd st.o k ((st.o k).1, none) }
def frz : Nat × Option (Bool × Ob) → Nat × Option (Bool × Ob)
  | (v, some (b, .other)) => (v, some (b, .other))
  | (v, some (_, x)) => (v, some (false, x))
  | (v, none) => (v, none)
def St.freeze (st : St) (ks : List Nat) : St := { st with o := fun i => if ks.contains i then frz (st.o i) else st.o i }

/-- Of the memory that was there before: what may be written, what may be read. -/
structure Im where
  w : Nat → Prop
  old : Nat → Prop
structure Frame (w0 : World) (imp : Nat → Prop) (w : World) : Prop where
  os : w.os = w0.os
  tape : w.tape = w0.tape
  output : w.output = w0.output
  size : w0.heap.size ≤ w.heap.size
  block : ∀ b, b < w0.heap.size → ¬ imp b → w.heap[b]? = w0.heap[b]?

structure Sim (P : Program) (n : Nat) (w0 : World) (imp : Im) (st : St) (τ : Places) (a : Act) (w : World) : Prop where
  defers : a.defers = []
  size : a.tmps.size = n
  slots : ∀ t, Val P st.o τ w (st.s t) (a.tmps.getD t undef)
  holds : Holds P st.o τ w
  frame : Frame w0 imp.w w
  mine : ∀ k ver x, st.o k = (ver, some (true, x)) → x ≠ .other → w0.heap.size ≤ (τ k).1 ∨ imp.w (τ k).1
  far : ∀ b, b < w0.heap.size → imp.old b ∨ imp.w b ∨ ∃ k ver, n ≤ k ∧ st.o k = (ver, some (true, .other)) ∧ (τ k).1 = b

section
variable {P : Program} {n : Nat} {w0 : World} {imp : Im} {st : St} {τ τ' : Places} {a : Act} {w w' : World} {o o' : Objs}

theorem getD_set {a : Array Value} {d t : Nat} {v : Value} (hd : d < a.size) : (a.setIfInBounds d v).getD t undef = if t = d then v else a.getD t undef := by
  simp only [Array.getD_eq_getD_getElem?, Array.getElem?_setIfInBounds]
  by_cases h : t = d
  · subst h; simp [hd]
  · simp [h, Ne.symm h]
theorem Sim.put (h : Sim P n w0 imp st τ a w) {dst : Option Tmp} (hd : ∀ d, dst = some d → d < n) {x : PV} {v : Value} (hv : Val P st.o τ w x v) : Sim P n w0 imp (st.put dst x) τ (a.put dst v) w := by
  cases dst with
  | none => exact h
  | some d =>
    refine ⟨h.defers, by simp [Act.put, h.size], fun t => ?_, h.holds, h.frame, h.mine, h.far⟩
    show Val P st.o τ w (if t = d then x else st.s t) ((a.tmps.setIfInBounds d v).getD t undef)
    rw [getD_set (by rw [h.size]; exact hd d rfl)]
    split
    · exact hv
    · exact h.slots t
theorem Sim.put_undef (h : Sim P n w0 imp st τ a w) {dst : Option Tmp} (hd : ∀ d, dst = some d → d < n) (v : Value) : Sim P n w0 imp (st.put dst .undef) τ (a.put dst v) w := h.put hd (.undef v)
theorem Sim.step (h : Sim P n w0 imp st τ a w) (he : Ext st.o τ w o' τ' w') (hh : Holds P o' τ' w') (hf : Frame w0 imp.w w') (hm : ∀ k ver x, o' k = (ver, some (true, x)) → x ≠ .other → w0.heap.size ≤ (τ' k).1 ∨ imp.w (τ' k).1)
    (hft : ∀ k ver, n ≤ k → st.o k = (ver, some (true, .other)) → o' k = (ver, some (true, .other)) ∧ (τ' k).1 = (τ k).1) : Sim P n w0 imp { st with o := o' } τ' a w' :=
  ⟨h.defers, h.size, fun t => (h.slots t).ext he, hh, hf, hm, fun b hb => (h.far b hb).imp id (Or.imp id fun ⟨k, ver, h1, h2, h3⟩ => ⟨k, ver, h1, (hft k ver h1 h2).1, (hft k ver h1 h2).2.trans h3⟩)⟩

theorem Holds.lt (hh : Holds P o τ w) {k ver : Nat} {b : Bool} {x : Ob} (h : o k = (ver, some (b, x))) : (τ k).1 < w.heap.size := by
  cases x with
  | box t cs => obtain ⟨vs, hg, _⟩ := hh.box k ver b t cs h; exact (Array.getElem?_eq_some_iff.1 hg).1
  | row e xs => obtain ⟨vs, hg, _⟩ := hh.row k ver b e xs h; exact (Array.getElem?_eq_some_iff.1 hg).1
  | other => exact hh.oth k ver b h

/-- A world with the same memory. -/
theorem Sim.same_heap (h : Sim P n w0 imp st τ a w) (hh : w'.heap = w.heap) (h1 : w'.os = w.os) (h2 : w'.tape = w.tape) (h3 : w'.output = w.output) : Sim P n w0 imp st τ a w' := by
  have he : Ext st.o τ w st.o τ w' := ⟨fun b hb => ⟨⟨by rw [hh]; exact hb.1, hb.2⟩, by rw [hh]⟩, fun k => Nat.le_refl _, fun k b' x' h => ⟨b', x', h, by cases x' <;> simp [Ob.like], rfl⟩⟩
  refine h.step he ⟨fun k ver b t cs hk => ?_, fun k ver b e xs hk => ?_, fun k ver b hk => by rw [hh]; exact h.holds.oth k ver b hk, h.holds.inj, fun k ver x hk => (he.fz _ (h.holds.fro k ver x hk)).1⟩ ⟨by rw [h1]; exact h.frame.os, by rw [h2]; exact h.frame.tape, by rw [h3]; exact h.frame.output, by rw [hh]; exact h.frame.size, fun b hb hi => by rw [hh]; exact h.frame.block b hb hi⟩ h.mine (fun k ver _ hk => ⟨hk, rfl⟩)
  · obtain ⟨vs, hg, hn, h1, hr⟩ := h.holds.box k ver b t cs hk
    exact ⟨vs, by rw [hh]; exact hg, hn, h1, fun j z u hz hu => (hr j z u hz hu).ext he⟩
  · obtain ⟨vs, hg, hn, hs, hl, hm, hz, h1, hr⟩ := h.holds.row k ver b e xs hk
    exact ⟨vs, by rw [hh]; exact hg, hn, hs, hl, hm, hz, h1, fun i y j z u hy hj hu => (hr i y j z u hy hj hu).ext he.fz⟩

theorem frz_some {p : Nat × Option (Bool × Ob)} {ver : Nat} {b : Bool} {x : Ob} (h : frz p = (ver, some (b, x))) : ∃ b', p = (ver, some (b', x)) ∧ (b = true → b' = true) ∧ (x ≠ .other → b = false) := by
  obtain ⟨v, q⟩ := p
  cases q with
  | none => simp [frz] at h
  | some q =>
    obtain ⟨b', x'⟩ := q
    cases x' <;> simp only [frz, Prod.mk.injEq, Option.some.injEq] at h <;> obtain ⟨rfl, rfl, rfl⟩ := h
    · exact ⟨b', rfl, by simp, by simp⟩
    · exact ⟨b', rfl, by simp, by simp⟩
    · exact ⟨b', rfl, by simp, by simp⟩
theorem freeze_some {ks : List Nat} {k ver : Nat} {b : Bool} {x : Ob} (h : (st.freeze ks).o k = (ver, some (b, x))) : ∃ b', st.o k = (ver, some (b', x)) ∧ (b = true → b' = true) := by
  simp only [St.freeze] at h
  split at h
  · obtain ⟨b', h1, h2, _⟩ := frz_some h
    exact ⟨b', h1, h2⟩
  · exact ⟨b, h, fun hb => hb⟩
theorem freeze_other {ks : List Nat} {k ver : Nat} {b : Bool} (h : st.o k = (ver, some (b, .other))) : (st.freeze ks).o k = (ver, some (b, .other)) := by
  simp only [St.freeze]
  split
  · rw [h]; rfl
  · exact h
theorem freeze_keeps {ks : List Nat} {k ver : Nat} {b : Bool} {x : Ob} (h : st.o k = (ver, some (b, x))) : ∃ b', (st.freeze ks).o k = (ver, some (b', x)) := by
  simp only [St.freeze]
  split
  · rw [h]; cases x <;> exact ⟨_, rfl⟩
  · exact ⟨b, h⟩
theorem Sim.freeze (h : Sim P n w0 imp st τ a w) (ks : List Nat) : Sim P n w0 imp (st.freeze ks) τ a w := by
  have hlive : ∀ k, live (st.freeze ks).o k → live st.o k := by
    rintro k ⟨ver, x, hk⟩
    obtain ⟨b', h1, h2⟩ := freeze_some hk
    obtain rfl := h2 rfl
    exact ⟨ver, x, h1⟩
  have hver : ∀ k, ((st.freeze ks).o k).1 = (st.o k).1 := by
    intro k
    simp only [St.freeze]
    split
    · cases hp : st.o k with
      | mk v q => cases q with
        | none => rfl
        | some q => obtain ⟨b, x⟩ := q; cases x <;> rfl
    · rfl
  have he : Ext st.o τ w (st.freeze ks).o τ w := by
    refine ⟨fun b hb => ⟨⟨hb.1, fun k hk => hb.2 k (hlive k hk)⟩, rfl⟩, fun k => by rw [hver k]; exact Nat.le_refl _, fun k b' x' hk => ?_⟩
    obtain ⟨b, h1, _⟩ := freeze_some hk
    exact ⟨b, x', h1, by cases x' <;> simp [Ob.like], rfl⟩
  refine h.step he ⟨fun k ver b t cs hk => ?_, fun k ver b e xs hk => ?_, fun k ver b hk => ?_, fun k k' hk hk' => h.holds.inj k k' (hlive k hk) (hlive k' hk'), fun k ver x hk => ?_⟩ h.frame (fun k ver x hk hx => ?_) fun k ver _ hk => ⟨freeze_other hk, rfl⟩
  · obtain ⟨b', h1, _⟩ := freeze_some hk
    obtain ⟨vs, hg, hn, h1, hr⟩ := h.holds.box k ver b' t cs h1
    exact ⟨vs, hg, hn, h1, fun j z u hz hu => (hr j z u hz hu).ext he⟩
  · obtain ⟨b', h1, _⟩ := freeze_some hk
    obtain ⟨vs, hg, hn, hs, hl, hm, hz, h1, hr⟩ := h.holds.row k ver b' e xs h1
    exact ⟨vs, hg, hn, hs, hl, hm, hz, h1, fun i y j z u hy hj hu => (hr i y j z u hy hj hu).ext he.fz⟩
  · obtain ⟨b', h1, _⟩ := freeze_some hk
    exact h.holds.oth k ver b' h1
  · obtain ⟨b', h1, _⟩ := freeze_some hk
    cases b' with
    | false => exact (he.fz _ (h.holds.fro k ver x h1)).1
    | true =>
      refine ⟨h.holds.lt h1, fun k' hk' e => ?_⟩
      have := h.holds.inj k' k (hlive k' hk') ⟨ver, x, h1⟩ e
      subst this
      obtain ⟨v, y, hy⟩ := hk'
      have := hk.symm.trans hy
      simp at this
  · obtain ⟨b', h1, h2⟩ := freeze_some hk
    obtain rfl := h2 rfl
    exact h.mine k ver x h1 hx

/-! A value whose rows and variables are taken for frozen memory. -/
def res (o : Objs) : Nat → PV → Option PV
  | 0, _ => none
  | n + 1, .ref k v => (getRow o k v).map fun p => .sl p.2
  | n + 1, .ptr k v off => match getBox o k v with
    | some (_, cs) => (cs.mapM (res o n)).map fun cs' => .mem (cs'.drop off)
    | none => none
  | n + 1, .agg cs => (cs.mapM (res o n)).map .agg
  | n + 1, .fn f fs cs => match fs.mapM (res o n), cs.mapM (res o n) with
    | some fs', some cs' => some (.fn f fs' cs')
    | _, _ => none
  | _ + 1, .undef => none
  | _ + 1, .eptr _ _ _ _ => none
  | n + 1, .tup cs => (cs.mapM (res o n)).map .tup
  | _ + 1, .int k n => some (.int k n)
  | _ + 1, .bool b => some (.bool b)
  | _ + 1, .str s => some (.str s)
  | _ + 1, .nil => some (.sl [])
  | _ + 1, .sl xs => some (.sl xs)
  | _ + 1, .mem cs => some (.mem cs)
/-- The objects that a value leads to. -/
def keysOf (o : Objs) : Nat → PV → List Nat
  | 0, _ => []
  | n + 1, .ref k v => [k]
  | n + 1, .ptr k v off => k :: match getBox o k v with
    | some (_, cs) => cs.flatMap (keysOf o n)
    | none => []
  | n + 1, .agg cs => cs.flatMap (keysOf o n)
  | n + 1, .tup cs => cs.flatMap (keysOf o n)
  | n + 1, .fn f fs cs => fs.flatMap (keysOf o n) ++ cs.flatMap (keysOf o n)
  | _ + 1, _ => []

theorem mapM_get {α β : Type} {f : α → Option β} : ∀ {l : List α} {r : List β}, l.mapM f = some r → r.length = l.length ∧ ∀ (j : Nat) (y : β), r[j]? = some y → ∃ x, l[j]? = some x ∧ f x = some y
  | [], r, h => by simp at h; subst h; exact ⟨rfl, by simp⟩
  | x :: l, r, h => by
    simp only [List.mapM_cons, Option.bind_eq_bind, Option.pure_def, Option.bind_eq_some_iff, Option.some.injEq] at h
    obtain ⟨y, hy, ys, hys, rfl⟩ := h
    obtain ⟨h1, h2⟩ := mapM_get hys
    refine ⟨by simp [h1], fun j z hz => ?_⟩
    cases j with
    | zero => simp at hz; subst hz; exact ⟨x, rfl, hy⟩
    | succ j => exact h2 j z (by simpa using hz)
theorem res_one {o : Objs} {n : Nat} {x y : PV} (h : res o n x = some y) (h1 : x.one = true) : y.one = true := by
  cases n with
  | zero => cases h
  | succ n =>
    cases x <;> simp only [res] at h <;> try (first | (cases h; done) | (cases h; rfl))
    case agg => simp [PV.one] at h1
    case tup => simp [PV.one] at h1
    case fn f fs cs =>
      split at h
      · cases h; rfl
      · cases h
    case ref k v => obtain ⟨p, _, rfl⟩ := Option.map_eq_some_iff.1 h; rfl
    case ptr k v off =>
      split at h
      · obtain ⟨p, _, rfl⟩ := Option.map_eq_some_iff.1 h; rfl
      · cases h

theorem res_sound (hh : Holds P o τ w) {B : Nat → Prop} (hB : ∀ b, Fz o τ w b → B b) : ∀ (n : Nat) {x y : PV} {v : Value}, Val P o τ w x v → res o n x = some y → (∀ k ∈ keysOf o n x, B (τ k).1) → Rd w B y v
  | 0, x, y, v, hv, h, hk => by cases h
  | n + 1, x, y, v, hv, h, hk => by
    have lift : ∀ {x : PV} {v : Value}, Rd w (Fz o τ w) x v → Rd w B x v := fun h => h.ext fun b hb => ⟨hB b hb, rfl⟩
    have cells : ∀ {cs cs' : List PV} {vs : Array Value}, cs.mapM (res o n) = some cs' → (∀ (j : Nat) (z : PV) (u : Value), cs[j]? = some z → vs[j]? = some u → Val P o τ w z u) → (∀ k ∈ cs.flatMap (keysOf o n), B (τ k).1) →
        ∀ (j : Nat) (z : PV) (u : Value), cs'[j]? = some z → vs[j]? = some u → Rd w B z u := by
      intro cs cs' vs hm hr hk j z u hz hu
      obtain ⟨x, hx, hf⟩ := (mapM_get hm).2 j z hz
      exact res_sound hh hB n (hr j x u hx hu) hf fun k hkk => hk k (List.mem_flatMap.2 ⟨x, List.mem_of_getElem? hx, hkk⟩)
    cases x <;> simp only [res] at h <;> try (cases h; done)
    case int => cases h; rw [hv.int_inv]; exact .int _ _
    case bool => cases h; rw [hv.bool_inv]; exact .bool _
    case str => cases h; rw [hv.str_inv]; exact .str _
    case nil => cases h; obtain ⟨a, rfl⟩ := hv.nil_inv; exact .sl0 _ _
    case sl => cases h; exact lift hv.sl_inv
    case mem => cases h; exact lift hv.mem_inv
    case agg cs =>
      obtain ⟨cs', hm, rfl⟩ := Option.map_eq_some_iff.1 h
      obtain ⟨vs, rfl, hn, h1, hr⟩ := hv.agg_inv
      refine .agg _ _ (by rw [hn, (mapM_get hm).1]) (fun j z hz => ?_) (cells hm hr hk)
      obtain ⟨x, hx, hf⟩ := (mapM_get hm).2 j z hz
      exact res_one hf (h1 j x hx)
    case tup cs =>
      obtain ⟨cs', hm, rfl⟩ := Option.map_eq_some_iff.1 h
      obtain ⟨vs, rfl, hn, hr⟩ := hv.tup_inv
      exact .tup _ _ (by rw [hn, (mapM_get hm).1]) (cells hm hr hk)
    case fn f fs cs =>
      split at h
      · rename_i fs' cs' e1 e2
        cases h
        obtain ⟨vf, vc, rfl, hf, hc, hrf, hrc⟩ := hv.fn_inv
        simp only [keysOf, List.mem_append] at hk
        exact .fn _ _ _ _ _ (by rw [hf, (mapM_get e1).1]) (by rw [hc, (mapM_get e2).1]) (cells e1 hrf fun k h => hk k (.inl h)) (cells e2 hrc fun k h => hk k (.inr h))
      · cases h
    case ref k ver =>
      obtain ⟨⟨e, xs⟩, hb, rfl⟩ := Option.map_eq_some_iff.1 h
      obtain ⟨bb, hb'⟩ := getRow_some hb
      cases hv with
      | pure h' => cases h'
      | ref k ver v hv hp =>
        rw [hp bb e xs hb']
        obtain ⟨vs, hg, hn, hs, hl, hm, hz, h1, hr⟩ := hh.row k ver bb e xs hb'
        rcases Nat.eq_zero_or_pos xs.length with h0 | h0
        · obtain rfl : xs = [] := List.eq_nil_of_length_eq_zero h0
          exact .sl0 _ _
        · have hlt : ∀ (i : Nat) (y : PV) (j : Nat) (z : PV), xs[i]? = some y → y.cells[j]? = some z → i * P.cellsOf e + j < vs.size := by
            intro i y j z hy hj
            have h1 : j < P.cellsOf e := by rw [← hz i y hy]; exact (List.getElem?_eq_some_iff.1 hj).1
            have h2 : i < xs.length := (List.getElem?_eq_some_iff.1 hy).1
            rw [hn]
            calc i * P.cellsOf e + j < i * P.cellsOf e + P.cellsOf e := by omega
              _ = (i + 1) * P.cellsOf e := by rw [Nat.add_mul, Nat.one_mul]
              _ ≤ (τ k).2 * P.cellsOf e := Nat.mul_le_mul_right _ (by omega)
          refine .sl _ _ _ _ (P.cellsOf e) (fun i j => vs.getD (i * P.cellsOf e + j) undef) rfl h0 hl (hk k (by simp [keysOf])) hz (fun i y j z hy hj => ⟨h1 i y j z hy hj, ?_⟩) fun i y j z hy hj => lift ?_
          · rw [cell_blk hg]; simp [Array.getD_eq_getD_getElem?, hlt i y j z hy hj]
          · exact hr i y j z _ hy hj (by simp [Array.getD_eq_getD_getElem?, hlt i y j z hy hj])
    case ptr k ver off =>
      split at h
      · rename_i t cs hb
        obtain ⟨cs', hm, rfl⟩ := Option.map_eq_some_iff.1 h
        obtain ⟨bb, hb'⟩ := getBox_some hb
        cases hv with
        | pure h' => cases h'
        | ptr k ver off v hv hp =>
          rw [hp bb t cs hb']
          obtain ⟨vs, hg, hn, h1, hr⟩ := hh.box k ver bb t cs hb'
          have hc := cells hm hr (fun k' hk' => hk k' (by simp only [keysOf, hb]; exact List.mem_cons_of_mem _ hk'))
          have hsz : vs.size = cs'.length := by rw [hn, (mapM_get hm).1]
          refine .mem _ _ (fun j => vs.getD (off + j) undef) (fun _ => hk k (by simp [keysOf])) (fun j z hj => ?_) fun j z hj => ?_
          · rw [List.getElem?_drop] at hj
            obtain ⟨u, hu⟩ := getElem?_of_size hsz hj
            obtain ⟨x, hx, hf⟩ := (mapM_get hm).2 _ z hj
            refine ⟨res_one hf (h1 _ x hx), ?_⟩
            rw [cell_blk hg]; simp [Array.getD_eq_getD_getElem?, hu]
          · rw [List.getElem?_drop] at hj
            obtain ⟨u, hu⟩ := getElem?_of_size hsz hj
            exact hc _ _ _ hj (by simp [Array.getD_eq_getD_getElem?, hu])
      · cases h
end
end Go.Sx
