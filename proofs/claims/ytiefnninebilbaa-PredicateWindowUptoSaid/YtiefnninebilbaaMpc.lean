/- The abstract machine, part 20: the rows by which a text is run. -/
import Derived.Test.YtiefnninebilbaaMpb
set_option linter.unusedVariables false
set_option linter.unusedSimpArgs false
namespace Go.Sx
open Go Go.RowKit
/-- An equation by reduction that simp is to take as a step of its own. -/
theorem nrfl {α : Sort _} {a b : α} (h : a = b) : a = b := h

def OK1 (x : Option PV) (d : Option Tmp) (K : St → Prop) (st : St) : Prop := match x with
  | some x => K (st.put d x)
  | none => False
def St.setO (st : St) (ob : Objs) : St := ⟨st.s, ob⟩
def OKA (r : Option (PV × Objs)) (d : Option Tmp) (K : St → Prop) (st : St) : Prop := match r with
  | some (x, ob) => K ((st.setO ob).put d x)
  | none => False
def OKS (r : Option Objs) (d : Option Tmp) (K : St → Prop) (st : St) : Prop := match r with
  | some ob => K ((st.setO ob).put d .undef)
  | none => False
def OKL (r : Option (TypeId × List PV × List Nat)) (kd k : Nat) (K : St → Prop) (st : St) : Prop := match r with
  | some (e, ys, ks) => K (((st.freeze ks).new kd (.row e ys)).put (some k) (.ref kd ((st.o kd).1 + 1)))
  | none => False
def OKF (r : Option (TypeId × List PV × List Nat)) (d : Option Tmp) (K : St → Prop) (st : St) : Prop := match r with
  | some (_, ys, []) => K (st.put d (.sl ys))
  | _ => False
def OKM (r : Option (TypeId × List PV)) (kd k : Nat) (K : St → Prop) (st : St) : Prop := match r with
  | some (e, xs) => K ((st.new kd (.row e xs)).put (some k) (.ref kd ((st.o kd).1 + 1)))
  | none => False
def OKZ (r : Option PV) (T : TypeId) (kd k : Nat) (K : St → Prop) (st : St) : Prop := match r with
  | some z => K ((st.new kd (.box T z.cells)).put (some k) (.ptr kd ((st.o kd).1 + 1) 0))
  | none => False
def OKC (P : Program) (kd : Option Nat) (m : Md) (r : Option (FuncId × List PV)) (d : Option Tmp) (K : St → Prop) (st : St) : Prop := match r with
  | some (f, args) => match m with
    | .t => GCall P f args d kd K st
    | m => QCall P m f args d K st
  | none => False
def OKB (x : PV) (F G : St → Prop) (st : St) : Prop := match x with
  | .bool b => AIf b F G st
  | _ => False
def OKG (x : PV) (want : Bool) (F G : St → Prop) (st : St) : Prop := match x with
  | .bool b => AIf (b == want) F G st
  | .tup _ => G st
  | _ => False
def pickPV (c a b : PV) : Option PV := match c with
  | .bool t => some (if t then a else b)
  | _ => none
def notPV : PV → Option PV
  | .bool b => some (.bool !b)
  | _ => none
def negPV : PV → Option PV
  | .int k n => some (.int k (k.wrap (0 - n)))
  | _ => none
def nilPV (o : Objs) : PV → Option PV
  | .mem cs => some (.mem cs)
  | .ptr k v off => (getBox o k v).map fun _ => .ptr k v off
  | .fn f a b => some (.fn f a b)
  | _ => none
def idxPV (k : Kd0) (x i : PV) : Option PV := match k, x, i with
  | .string, .str s, .int _ n => if 0 ≤ n then (s[n.toNat]?).map fun b => .int .u8 b.toNat else none
  | _, _, _ => none
def extPV (x : PV) (i : Nat) : Option PV := match x with
  | .tup cs => cs[i]?
  | _ => none

def calleeOf (x : PV) (args : List PV) : Option (FuncId × List PV) := match x with
  | .fn f fs cs => some (f, fs ++ (args ++ cs))
  | _ => none

section
variable {P : Program} {E : Env P} {M : Nat → Nat → Option Md} {m : Md} {d : Option Tmp} {ty : TypeId} {pos : String} {ae : Array Edge} {g : Option (Nat × Bool)} {K : St → Prop} {st : St}

@[go_sem] theorem OK1_some {x : PV} : OK1 (some x) d K st = K (st.put d x) := nrfl rfl
@[go_sem] theorem OKA_some {x : PV} {ob : Objs} : OKA (some (x, ob)) d K st = K ((st.setO ob).put d x) := nrfl rfl
@[go_sem] theorem OKS_some {ob : Objs} : OKS (some ob) d K st = K ((st.setO ob).put d .undef) := nrfl rfl
@[go_sem] theorem OKL_some {e : TypeId} {ys : List PV} {ks : List Nat} {kd k : Nat} : OKL (some (e, ys, ks)) kd k K st = K (((st.freeze ks).new kd (.row e ys)).put (some k) (.ref kd ((st.o kd).1 + 1))) := nrfl rfl
@[go_sem] theorem OKF_some {e : TypeId} {ys : List PV} : OKF (some (e, ys, [])) d K st = K (st.put d (.sl ys)) := nrfl rfl
@[go_sem] theorem OKM_some {e : TypeId} {xs : List PV} {kd k : Nat} : OKM (some (e, xs)) kd k K st = K ((st.new kd (.row e xs)).put (some k) (.ref kd ((st.o kd).1 + 1))) := nrfl rfl
@[go_sem] theorem OKZ_some {z : PV} {T : TypeId} {kd k : Nat} : OKZ (some z) T kd k K st = K ((st.new kd (.box T z.cells)).put (some k) (.ptr kd ((st.o kd).1 + 1) 0)) := nrfl rfl
@[go_sem] theorem OKC_t {kd : Option Nat} {f : FuncId} {args : List PV} : OKC P kd .t (some (f, args)) d K st = GCall P f args d kd K st := nrfl rfl
@[go_sem] theorem OKC_d {kd : Option Nat} {f : FuncId} {args : List PV} : OKC P kd .d (some (f, args)) d K st = QCall P .d f args d K st := nrfl rfl
@[go_sem] theorem OKC_n {kd : Option Nat} {f : FuncId} {args : List PV} : OKC P kd .n (some (f, args)) d K st = QCall P .n f args d K st := nrfl rfl
@[go_sem] theorem OKC_h {kd : Option Nat} {ks : List Nat} {f : FuncId} {args : List PV} : OKC P kd (.h ks) (some (f, args)) d K st = QCall P (.h ks) f args d K st := nrfl rfl
@[go_sem] theorem OKB_bool {b : Bool} {F G : St → Prop} : OKB (.bool b) F G st = AIf b F G st := nrfl rfl
@[go_sem] theorem OKG_true {b : Bool} {F G : St → Prop} : OKG (.bool b) true F G st = AIf b F G st := by cases b <;> rfl
@[go_sem] theorem OKG_false {b : Bool} {F G : St → Prop} : OKG (.bool b) false F G st = AIf (!b) F G st := by cases b <;> rfl
@[go_sem] theorem OKG_tup {cs : List PV} {want : Bool} {F G : St → Prop} : OKG (.tup cs) want F G st = G st := nrfl rfl
@[go_sem] theorem AIf_t {F G : St → Prop} : AIf true F G st = F st := nrfl rfl
@[go_sem] theorem AIf_f {F G : St → Prop} : AIf false F G st = G st := nrfl rfl
@[go_sem] theorem AIf_dt {p : Prop} [Decidable p] (h : p) {F G : St → Prop} : AIf (decide p) F G st = F st := by simp [AIf, h]
@[go_sem] theorem AIf_df {p : Prop} [Decidable p] (h : ¬ p) {F G : St → Prop} : AIf (decide p) F G st = G st := by simp [AIf, h]
theorem AIf_cases {b : Bool} {F G : St → Prop} (h1 : b = true → F st) (h2 : b = false → G st) : AIf b F G st := by
  cases b
  · exact h2 rfl
  · exact h1 rfl
@[go_sem] theorem askip_eq : askip d K st = K (st.put d (.tup [])) := nrfl rfl

-- one operation
theorem ev_see' (m : Md) (st : St) (x : Operand) : (st.see m).ev x = st.ev x := ev_see m st x
@[go_sem] theorem aop_move {x : Operand} : aop P E m ⟨d, .move x, ty, pos, ae, g⟩ K st = K (st.put d (st.ev x)) := by simp [aop, pureOp, ev_see]
@[go_sem] theorem aop_assign {x : Operand} : aop P E m ⟨d, .assign x, ty, pos, ae, g⟩ K st = K (st.put d (st.ev x)) := by simp [aop, pureOp, ev_see]
@[go_sem] theorem aop_pick {c x y : Operand} : aop P E m ⟨d, .pick c x y, ty, pos, ae, g⟩ K st = OK1 (pickPV (st.ev c) (st.ev x) (st.ev y)) d K st := by simp only [aop, pureOp, ev_see]; cases st.ev c <;> rfl
@[go_sem] theorem aop_nilCheck {x : Operand} : aop P E m ⟨d, .nilCheck x, ty, pos, ae, g⟩ K st = OK1 (nilPV (st.see m).o (st.ev x)) d K st := by simp only [aop, pureOp, ev_see]; cases st.ev x <;> rfl
theorem aop_binPV {op : BinOp} {T T' : TypeId} {x y : Operand} : aop P E m ⟨d, .binOp op T x y T', ty, pos, ae, g⟩ K st = OK1 (binPV P E op T (st.ev x) y (st.ev y)) d K st := by simp only [aop, pureOp, ev_see]; rfl
theorem nilCmp_none {op : BinOp} {T : TypeId} {x : PV} {y : Operand} (h : ∀ v, y = .const v → ∀ b n c, v ≠ .slice b n c) : nilCmp P op T x y = none := by
  unfold nilCmp
  split
  · exact absurd rfl (h _ rfl _ _ _)
  · rfl
@[go_sem] theorem aop_binOp {op : BinOp} {T T' : TypeId} {x : Operand} {t : Tmp} : aop P E m ⟨d, .binOp op T x (.tmp t) T', ty, pos, ae, g⟩ K st = OK1 (absBin P E op T (st.ev x) (st.s t)) d K st := by
  rw [aop_binPV, binPV, nilCmp_none (by simp)]; rfl
@[go_sem] theorem aop_binOpI {op : BinOp} {T T' : TypeId} {x : Operand} {k : IntKind} {n : Int} : aop P E m ⟨d, .binOp op T x (.const (.int k n)) T', ty, pos, ae, g⟩ K st = OK1 (absBin P E op T (st.ev x) (.int k n)) d K st := by
  rw [aop_binPV, binPV, nilCmp_none (by simp)]; rfl
@[go_sem] theorem aop_binOpS {op : BinOp} {T T' : TypeId} {x : Operand} {b : ByteArray} : aop P E m ⟨d, .binOp op T x (.const (.string b)) T', ty, pos, ae, g⟩ K st = OK1 (absBin P E op T (st.ev x) (.str b)) d K st := by
  rw [aop_binPV, binPV, nilCmp_none (by simp)]; rfl
@[go_sem] theorem aop_binOpB {op : BinOp} {T T' : TypeId} {x : Operand} {b : Bool} : aop P E m ⟨d, .binOp op T x (.const (.bool b)) T', ty, pos, ae, g⟩ K st = OK1 (absBin P E op T (st.ev x) (.bool b)) d K st := by
  rw [aop_binPV, binPV, nilCmp_none (by simp)]; rfl
def nilEq (k : Kd0) (x : PV) : Option PV := match k, x with
  | .slice, .sl (_ :: _) => some (.bool false)
  | _, _ => none
@[go_sem] theorem nilEq_cons {y : PV} {xs : List PV} : nilEq .slice (.sl (y :: xs)) = some (.bool false) := rfl
@[go_sem] theorem aop_binOpN {T T' : TypeId} {x : Operand} : aop P E m ⟨d, .binOp .eql T x (.const (.slice none 0 0)) T', ty, pos, ae, g⟩ K st = OK1 (nilEq (kd P T) (st.ev x)) d K st := by
  rw [aop_binPV]
  have h : binPV P E .eql T (st.ev x) (.const (.slice none 0 0)) (st.ev (.const (.slice none 0 0))) = nilEq (kd P T) (st.ev x) := by
    have e1 : st.ev (.const (.slice none 0 0)) = .nil := rfl
    rw [e1]
    unfold binPV nilCmp nilEq
    cases kd P T <;> cases st.ev x <;> first | rfl | (rename_i xs; cases xs <;> rfl)
  rw [h]
@[go_sem] theorem aop_not {T : TypeId} {x : Operand} : aop P E m ⟨d, .unOp .not T x, ty, pos, ae, g⟩ K st = OK1 (notPV (st.ev x)) d K st := by simp only [aop, pureOp, ev_see]; cases st.ev x <;> rfl
@[go_sem] theorem aop_neg {T : TypeId} {x : Operand} : aop P E m ⟨d, .unOp .neg T x, ty, pos, ae, g⟩ K st = OK1 (negPV (st.ev x)) d K st := by simp only [aop, pureOp, ev_see]; cases st.ev x <;> rfl
@[go_sem] theorem aop_fieldAddr {T : TypeId} {x : Operand} {f : Nat} : aop P E m ⟨d, .fieldAddr T x f, ty, pos, ae, g⟩ K st = OK1 (absFieldAddr P (st.see m).o T (st.ev x) f) d K st := by simp only [aop, pureOp, ev_see]; rfl
@[go_sem] theorem aop_field {T : TypeId} {x : Operand} {f : Nat} : aop P E m ⟨d, .field T x f, ty, pos, ae, g⟩ K st = OK1 (absField P T (st.ev x) f) d K st := by simp only [aop, pureOp, ev_see]; rfl
@[go_sem] theorem aop_indexAddr {T : TypeId} {x i : Operand} : aop P E m ⟨d, .indexAddr T x i, ty, pos, ae, g⟩ K st = OK1 (absIndexAddr P (st.see m).o T (st.ev x) (st.ev i)) d K st := by simp only [aop, pureOp, ev_see]; rfl
@[go_sem] theorem aop_index {T : TypeId} {x i : Operand} : aop P E m ⟨d, .index T x i, ty, pos, ae, g⟩ K st = OK1 (idxPV (kd P T) (st.ev x) (st.ev i)) d K st := by simp only [aop, pureOp, ev_see]; rfl
@[go_sem] theorem aop_load {T : TypeId} {x : Operand} : aop P E m ⟨d, .load T x, ty, pos, ae, g⟩ K st = OK1 (absLoad P (st.see m).o T (st.ev x)) d K st := by simp only [aop, pureOp, ev_see]; rfl
@[go_sem] theorem aop_extract {x : Operand} {i : Nat} : aop P E m ⟨d, .extract x i, ty, pos, ae, g⟩ K st = OK1 (extPV (st.ev x) i) d K st := by simp only [aop, pureOp, ev_see]; cases st.ev x <;> rfl
@[go_sem] theorem aop_build {T : TypeId} {parts : Array (Nat × Operand)} : aop P E m ⟨d, .build T parts, ty, pos, ae, g⟩ K st = OK1 (absBuild P (st.see m).o T (parts.toList.map fun p => (p.1, st.ev p.2))) d K st := by simp only [aop, pureOp, ev_see]; rfl
@[go_sem] theorem aop_makeFunc {f : FuncId} {first caps : Array Operand} : aop P E m ⟨d, .makeFunc (.func f) first caps, ty, pos, ae, g⟩ K st = K (st.put d (.fn f (first.toList.map st.ev) (caps.toList.map st.ev))) := by
  have : (st.see m).ev = st.ev := funext (ev_see m st)
  simp only [aop, pureOp, this]
@[go_sem] theorem aop_slice {T : TypeId} {x : Operand} {lo hi : Option Operand} : aop P E m ⟨d, .slice T x lo hi none, ty, pos, ae, g⟩ K st = OK1 (absSlice P T (st.ev x) (lo.map st.ev) (hi.map st.ev)) d K st := by
  have : (st.see m).ev = st.ev := funext (ev_see m st)
  simp only [aop, pureOp, this]; rfl
@[go_sem] theorem aop_len {x : Operand} {T : TypeId} : aop P E m ⟨d, .call { callee := .builtin .len, args := #[x], argTypes := #[T] }, ty, pos, ae, g⟩ K st = OK1 (absLen P (st.see m).o T (st.ev x)) d K st := by simp only [aop, pureOp, ev_see]; rfl
@[go_sem] theorem aop_max {x y : Operand} {T T' : TypeId} : aop P E m ⟨d, .call { callee := .builtin .max, args := #[x, y], argTypes := #[T, T'] }, ty, pos, ae, g⟩ K st = OK1 (absMax (st.ev x) (st.ev y)) d K st := by simp only [aop, pureOp, ev_see]; rfl
@[go_sem] theorem aop_min {x y : Operand} {T T' : TypeId} : aop P E m ⟨d, .call { callee := .builtin .min, args := #[x, y], argTypes := #[T, T'] }, ty, pos, ae, g⟩ K st = OK1 (absMin (st.ev x) (st.ev y)) d K st := by simp only [aop, pureOp, ev_see]; rfl
@[go_sem] theorem aop_call {x : Operand} {args : Array Operand} {ts : Array TypeId} : aop P E m ⟨d, .call { callee := .value x, args := args, argTypes := ts }, ty, pos, ae, g⟩ K st = OKC P (d.map E.key) m (calleeOf (st.ev x) (args.toList.map st.ev)) d K st := by
  simp only [aop, callee]
  cases st.ev x <;> first | rfl | (simp only [calleeOf, OKC]; cases m <;> rfl)
@[go_sem] theorem aop_append {x y : Operand} {T : TypeId} {k : Nat} : aop P E .t ⟨some k, .call { callee := .builtin .append, args := #[x, y], argTypes := #[T, T] }, ty, pos, ae, g⟩ K st = (E.akey k (st.ev x) st.o < 1000000000 ∧ OKA (absAppend P st (E.akey k (st.ev x) st.o) T (st.ev x) (st.ev y)) (some k) K st) := by
  simp only [aop, true_and]; cases absAppend P st (E.akey k (st.ev x) st.o) T (st.ev x) (st.ev y) <;> rfl
def OKAU (r : Option (PV × Objs)) (d : Option Tmp) (K : St → Prop) (st : St) : Prop := match r with
  | some (x, ob) => (∀ k, k < 1000 → ob k = st.o k) ∧ K ((st.setO ob).put d x)
  | none => False
@[go_sem] theorem OKAU_some {x : PV} {ob : Objs} : OKAU (some (x, ob)) d K st = ((∀ k, k < 1000 → ob k = st.o k) ∧ K ((st.setO ob).put d x)) := nrfl rfl
@[go_sem] theorem aop_appendU {x y : Operand} {T : TypeId} {k : Nat} : aop P E .u ⟨some k, .call { callee := .builtin .append, args := #[x, y], argTypes := #[T, T] }, ty, pos, ae, g⟩ K st = (E.akey k (st.ev x) st.o < 1000000000 ∧ OKAU (absAppend P st (E.akey k (st.ev x) st.o) T (st.ev x) (st.ev y)) (some k) K st) := by
  simp only [aop, true_and]; cases absAppend P st (E.akey k (st.ev x) st.o) T (st.ev x) (st.ev y) <;> rfl
@[go_sem] theorem aop_alloc {T : TypeId} {k : Nat} : aop P E m ⟨some k, .alloc T, ty, pos, ae, g⟩ K st = OKZ (zpv P T) T (E.key k) k K st := by
  simp only [aop]; cases zpv P T <;> rfl
@[go_sem] theorem aop_box {T : TypeId} {x : Operand} {k : Nat} : aop P E .t ⟨some k, .box T x, ty, pos, ae, g⟩ K st = ((st.ev x).cells.all (ok1 st.o) = true ∧ K ((st.new (E.key k) (.box T (st.ev x).cells)).put (some k) (.ptr (E.key k) ((st.o (E.key k)).1 + 1) 0))) := nrfl rfl
@[go_sem] theorem aop_store {T : TypeId} {x y : Operand} : aop P E .t ⟨d, .store T x y, ty, pos, ae, g⟩ K st = OKS (absStore P st T (st.ev x) (st.ev y)) d K st := by
  simp only [aop]; cases absStore P st T (st.ev x) (st.ev y) <;> rfl
@[go_sem] theorem aop_storeS {k : Nat} {T : TypeId} {x y : Operand} : aop P E (.s k) ⟨d, .store T x y, ty, pos, ae, g⟩ K st = (keyP (st.ev x) = some k ∧ OKS (absStore P st T (st.ev x) (st.ev y)) d K st) := by
  simp only [aop]; cases absStore P st T (st.ev x) (st.ev y) with
  | none => simp [OKS]
  | some ob => rfl
@[go_sem] theorem keyP_ptr {k v j : Nat} : keyP (.ptr k v j) = some k := rfl
@[go_sem] theorem keyP_eptr {k v i j : Nat} : keyP (.eptr k v i j) = some k := rfl
def OKMM (b : Option Mk) (kd k : Nat) (K : St → Prop) (st : St) : Prop := match b with
  | some b => K ((st.new kd (.mp (mp0 b))).put (some k) (.mref kd ((st.o kd).1 + 1)))
  | none => False
@[go_sem] theorem OKMM_some {b : Mk} {kd k : Nat} : OKMM (some b) kd k K st = K ((st.new kd (.mp (mp0 b))).put (some k) (.mref kd ((st.o kd).1 + 1))) := nrfl rfl
@[go_sem] theorem aop_makeMap {T : TypeId} {k : Nat} : aop P E .t ⟨some k, .makeMap T none, ty, pos, ae, g⟩ K st = OKMM (mkd P T) (E.key k) k K st := by
  simp only [aop]; cases mkd P T <;> rfl
@[go_sem] theorem aop_mapUpdate {T : TypeId} {x i y : Operand} : aop P E .t ⟨d, .mapUpdate T x i y, ty, pos, ae, g⟩ K st = OKS (absMset P st T (st.ev x) (st.ev i) (st.ev y)) d K st := by
  simp only [aop]; cases absMset P st T (st.ev x) (st.ev i) (st.ev y) <;> rfl
@[go_sem] theorem aop_range {T : TypeId} {y : Operand} {k : Nat} : aop P E .t ⟨some k, .range T y, ty, pos, ae, g⟩ K st = ARange (itStart st.o (st.ev y)) (mkd P T) (E.key k) k K st := by simp only [aop]
@[go_sem] theorem aop_next {y : Operand} : aop P E .t ⟨d, .next y false, ty, pos, ae, g⟩ K st = ANext (itAt st.o (st.ev y)) d K st := by simp only [aop]
@[go_sem] theorem aop_entry {y : Operand} : aop P E .t ⟨d, .entry y, ty, pos, ae, g⟩ K st = AEntry (itAt st.o (st.ev y)) d K st := by simp only [aop]
@[go_sem] theorem ARange_some {km vm n kd k : Nat} : ARange (some (km, vm, n)) (some .r) kd k K st = K ((st.new kd (.mp (.it km vm n []))).put (some k) (.mref kd ((st.o kd).1 + 1))) := nrfl rfl
@[go_sem] theorem itStart_mref {o : Objs} {km vm : Nat} {l : List (Int × PV)} (h : getMap o km vm = some (.r l)) : itStart o (.mref km vm) = some (km, vm, l.length) := by simp only [itStart, h]
theorem itAt_mref {o : Objs} {ki vi km vm n : Nat} {seen : List Nat} {l : List (Int × PV)} (h1 : o ki = (vi, some (true, .mp (.it km vm n seen)))) (h2 : getMap o km vm = some (.r l)) : itAt o (.mref ki vi) = some ⟨ki, vi, km, vm, n, seen, l⟩ := by simp only [itAt, h1, h2, if_true]
theorem ANext_of {r : Option ItAt} {i : ItAt} (hr : r = some i) (hl : i.l.length = i.n) (h0 : (∀ j, j < i.n → j ∈ i.seen) → K (st.put d (.tup [.bool false]))) (h1 : ∀ j k z, j ∉ i.seen → i.l[j]? = some (k, z) → K ((st.setO (upd st.o i.ki (i.vi, some (true, .mp (.it i.km i.vm i.n (i.seen ++ [j])))))).put d (.tup [.bool true, .int .i64 k, z]))) : ANext r d K st := by
  subst hr; exact ⟨hl, h0, h1⟩
theorem AEntry_of {r : Option ItAt} {i : ItAt} (hr : r = some i) (hl : i.l.length = i.n) (pre : List Nat) (j : Nat) (k : Int) (z : PV) (h1 : i.seen = pre ++ [j]) (h2 : i.l[j]? = some (k, z)) (h3 : K (st.put d (.tup [.int .i64 k, z]))) : AEntry r d K st := by
  subst hr; exact ⟨hl, pre, j, k, z, h1, h2, h3⟩
@[go_sem] theorem aop_lookup {T : TypeId} {x i : Operand} : aop P E m ⟨d, .lookup T x i false, ty, pos, ae, g⟩ K st = OK1 (absLook (mkd P T) (mapOf (st.see m).o (st.ev x)) (st.ev i)) d K st := by simp only [aop, pureOp, ev_see]; rfl
@[go_sem] theorem aop_lit0 {T : TypeId} {p : TypeId × Nat} (h : selem P T = some p) : aop P E .t ⟨d, .buildSlice T 0 #[], ty, pos, ae, g⟩ K st = K (st.put d .nil) := by
  simp only [aop, h]
@[go_sem] theorem aop_lit {T : TypeId} {n k : Nat} {parts : Array (Nat × Operand)} : aop P E .t ⟨some k, .buildSlice T (n + 1) parts, ty, pos, ae, g⟩ K st = OKL (absLit P st T (n + 1) parts.toList) (E.key k) k K st := by
  simp only [aop]
  cases absLit P st T (n + 1) parts.toList with
  | none => rfl
  | some p => obtain ⟨e, ys, ks⟩ := p; simp only [OKL, freeze_ver]
theorem aop_litF (h : m ≠ .t) {T : TypeId} {n : Nat} {parts : Array (Nat × Operand)} : aop P E m ⟨d, .buildSlice T n parts, ty, pos, ae, g⟩ K st = OKF (absLit P (st.see m) T n parts.toList) d K st := by
  cases m with
  | t => exact absurd rfl h
  | d | n | h ks | s k | u | l =>
    simp only [aop]
    split
    · rename_i e; rw [e]; rfl
    · rename_i e1 e2
      unfold OKF
      split
      · rename_i e3; exact absurd e3 (e2 _ _)
      · rfl
@[go_sem] theorem aop_litd {T : TypeId} {n : Nat} {parts : Array (Nat × Operand)} : aop P E .d ⟨d, .buildSlice T n parts, ty, pos, ae, g⟩ K st = OKF (absLit P st T n parts.toList) d K st := aop_litF (by simp)
@[go_sem] theorem aop_make {T : TypeId} {l c : Operand} {k : Nat} : aop P E .t ⟨some k, .makeSlice T l c, ty, pos, ae, g⟩ K st = OKM (absMake P T (st.ev l) (st.ev c)) (E.key k) k K st := by
  simp only [aop]; cases absMake P T (st.ev l) (st.ev c) <;> rfl

-- a region
@[go_sem] theorem aops_nil {ops : Array Oper} {md : Nat → Oper → Md} {i : Nat} : aops P E ops md [] i K st = K st := nrfl rfl
@[go_sem] theorem aops_cons {ops : Array Oper} {md : Nat → Oper → Md} {o : Op} {l : List Oper} {i : Nat} : aops P E ops md (⟨d, o, ty, pos, ae, none⟩ :: l) i K st = aop P E ((md i ⟨d, o, ty, pos, ae, none⟩).tr E) ⟨d, o, ty, pos, ae, none⟩ (aops P E ops md l (i + 1) K) st := nrfl rfl
def gtmp (ops : Array Oper) (gi : Nat) : Option Tmp := (ops.toList[gi]?).bind (·.dst)
def OKT (t : Option Tmp) (want : Bool) (F G : St → Prop) (st : St) : Prop := match t with
  | some t => OKG (st.s t) want F G st
  | none => False
@[go_sem] theorem OKT_some {t : Tmp} {want : Bool} {F G : St → Prop} : OKT (some t) want F G st = OKG (st.s t) want F G st := nrfl rfl
@[go_sem] theorem aops_guard {ops : Array Oper} {md : Nat → Oper → Md} {o : Op} {l : List Oper} {i gi : Nat} {want : Bool} : aops P E ops md (⟨d, o, ty, pos, ae, some (gi, want)⟩ :: l) i K st =
    OKT (gtmp ops gi) want (aop P E ((md i ⟨d, o, ty, pos, ae, some (gi, want)⟩).tr E) ⟨d, o, ty, pos, ae, some (gi, want)⟩ (aops P E ops md l (i + 1) K)) (askip d (aops P E ops md l (i + 1) K)) st := by
  simp only [aops, gtmp, Array.getElem?_toList]
  cases (ops[gi]?).bind (·.dst) with
  | none => rfl
  | some t => simp only [OKT, OKG]; cases st.s t <;> rfl
@[go_sem] theorem tr_t : Md.tr E .t = .t := nrfl rfl
@[go_sem] theorem tr_d : Md.tr E .d = .d := nrfl rfl
@[go_sem] theorem tr_u : Md.tr E .u = .u := nrfl rfl
@[go_sem] theorem tr_l : Md.tr E .l = .l := nrfl rfl
@[go_sem] theorem tr_n : Md.tr E .n = .n := nrfl rfl
@[go_sem] theorem tr_s {k : Nat} : Md.tr E (.s k) = .s (E.key k) := nrfl rfl
@[go_sem] theorem tr_h {ks : List Nat} : Md.tr E (.h ks) = .h (ks.map E.key) := nrfl rfl
@[go_sem] theorem gtmp_eq {l : List Oper} {gi : Nat} : gtmp ⟨l⟩ gi = (l[gi]?).bind (·.dst) := nrfl rfl
@[go_sem] theorem mdOf_text {id i : Nat} {o : Oper} : mdOf M id false i o = .t := nrfl rfl
@[go_sem] theorem mdOf_draw {id i : Nat} {o : Oper} : mdOf (fun _ _ => none) id true i o = dmd o := nrfl rfl
attribute [go_sem] dmd
-- a text
@[go_sem] theorem awp_skip {Q : XQ} : awp P E M .skip Q st = Q .normal st := nrfl rfl
@[go_sem] theorem awp_region {id : Nat} {ops : Array Oper} {draw : Bool} {Q : XQ} : awp P E M (.region id ops draw) Q st = aops P E ops (mdOf M id draw) ops.toList 0 (Q .normal) st := nrfl rfl
@[go_sem] theorem awp_seq {x y : Code} {Q : XQ} : awp P E M (.seq x y) Q st = awp P E M x (Then (awp P E M y) Q) st := nrfl rfl
@[go_sem] theorem awp_cond {c : Operand} {x y : Code} {Q : XQ} : awp P E M (.cond c x y) Q st = OKB (st.ev c) (awp P E M x Q) (awp P E M y Q) st := nrfl rfl
@[go_sem] theorem awp_block {id : Nat} {c : Code} {Q : XQ} : awp P E M (.block id c) Q st = awp P E M c (Blk id Q) st := nrfl rfl
@[go_sem] theorem awp_loop {c : Code} {Q : XQ} : awp P E M (.loop c) Q st = ALoop (awp P E M c) Q st := nrfl rfl
@[go_sem] theorem awp_exit {id : Nat} {Q : XQ} : awp P E M (.exit id) Q st = Q (.exit id) st := nrfl rfl
@[go_sem] theorem awp_ret {Q : XQ} : awp P E M .ret Q st = Q .ret st := nrfl rfl
@[go_sem] theorem Then_normal {F : XQ → St → Prop} {Q : XQ} : Then F Q .normal st = F Q st := nrfl rfl
@[go_sem] theorem Then_exit {F : XQ → St → Prop} {Q : XQ} {id : Nat} : Then F Q (.exit id) st = Q (.exit id) st := nrfl rfl
@[go_sem] theorem Then_ret {F : XQ → St → Prop} {Q : XQ} : Then F Q .ret st = Q .ret st := nrfl rfl
@[go_sem] theorem Blk_normal {id : Nat} {Q : XQ} : Blk id Q .normal st = Q .normal st := nrfl rfl
@[go_sem] theorem Blk_exit {id id' : Nat} {Q : XQ} : Blk id Q (.exit id') st = if id' = id then Q .normal st else Q (.exit id') st := nrfl rfl
@[go_sem] theorem Blk_ret {id : Nat} {Q : XQ} : Blk id Q .ret st = Q .ret st := nrfl rfl
@[go_sem] theorem Rep_normal {I : Nat → St → Prop} {n : Nat} {Q : XQ} : Rep I n Q .normal st = ∃ m, m < n ∧ I m st := nrfl rfl
@[go_sem] theorem Rep_exit {I : Nat → St → Prop} {n : Nat} {Q : XQ} {id : Nat} : Rep I n Q (.exit id) st = Q (.exit id) st := nrfl rfl
@[go_sem] theorem Rep_ret {I : Nat → St → Prop} {n : Nat} {Q : XQ} : Rep I n Q .ret st = Q .ret st := nrfl rfl
@[go_sem] theorem Fin_normal {rs : Array ResultVar} {R : Rs} : Sx.Fin P rs R .normal st = AFin P rs R st := nrfl rfl
@[go_sem] theorem Fin_ret {rs : Array ResultVar} {R : Rs} : Sx.Fin P rs R .ret st = AFin P rs R st := nrfl rfl
def OKR (y : Option PV) (R : Rs) (o : Objs) : Prop := match y with
  | some y => match R with
    | .fr r => res o 5 y = some r
    | .row e xs => match y with
      | .ref k v => o k = (v, some (true, .row e xs))
      | _ => False
  | none => False
@[go_sem] theorem AFin_eq {rs : Array ResultVar} {R : Rs} : AFin P rs R st = OKR (resultPV P st rs.toList) R st.o := nrfl rfl
@[go_sem] theorem OKR_fr {y r : PV} {o : Objs} : OKR (some y) (.fr r) o = (res o 5 y = some r) := nrfl rfl
@[go_sem] theorem OKR_row {k v : Nat} {o : Objs} {e : TypeId} {xs : List PV} : OKR (some (.ref k v)) (.row e xs) o = (o k = (v, some (true, .row e xs))) := nrfl rfl
@[go_sem] theorem upd_upd {α : Type} {f : Nat → α} {k : Nat} {u v : α} : upd (upd f k u) k v = upd f k v := by funext i; simp only [upd]; split <;> rfl
attribute [go_sem] resultPV resVar
attribute [go_sem] keysOf List.flatMap_cons List.flatMap_nil List.contains_nil res List.mapM_cons List.mapM_nil Option.bind_eq_bind Option.pure_def Option.bind_some Option.bind_none
-- the state
@[go_sem] theorem ev_tmp {t : Nat} : st.ev (.tmp t) = st.s t := nrfl rfl
@[go_sem] theorem ev_func {f : FuncId} : st.ev (.func f) = .fn f [] [] := nrfl rfl
@[go_sem] theorem ev_const {v : Value} : st.ev (.const v) = evC v := nrfl rfl
@[go_sem] theorem evC_int {k : IntKind} {n : Int} : evC (.int k n) = .int k n := rfl
@[go_sem] theorem evC_bool {b : Bool} : evC (.bool b) = .bool b := rfl
@[go_sem] theorem evC_str {b : ByteArray} : evC (.string b) = .str b := rfl
@[go_sem] theorem evC_nil : evC (.slice none 0 0) = .nil := rfl
@[go_sem] theorem evC_agg {l : List Value} : evC (.agg ⟨l⟩) = if (l.map ofConst).all PV.one = true then .agg (l.map ofConst) else .undef := rfl
@[go_sem] theorem ofConst_int {k : IntKind} {n : Int} : ofConst (.int k n) = .int k n := rfl
@[go_sem] theorem ofConst_bool {b : Bool} : ofConst (.bool b) = .bool b := rfl
@[go_sem] theorem ofConst_str {b : ByteArray} : ofConst (.string b) = .str b := rfl
@[go_sem] theorem ofConst_nil : ofConst (.slice none 0 0) = .nil := rfl
@[go_sem] theorem put_none {x : PV} : st.put none x = st := nrfl rfl
@[go_sem] theorem put_s {u t : Nat} {x : PV} : (st.put (some u) x).s t = if t = u then x else st.s t := nrfl rfl
@[go_sem] theorem put_o' {x : PV} : (st.put d x).o = st.o := put_o _ _ _
@[go_sem] theorem new_s {k : Nat} {x : Ob} : (st.new k x).s = st.s := nrfl rfl
@[go_sem] theorem new_o {k : Nat} {x : Ob} : (st.new k x).o = upd st.o k ((st.o k).1 + 1, some (true, x)) := nrfl rfl
@[go_sem] theorem after_eq {ob : Objs} {x : PV} : st.after ob d x = (st.setO ob).put d x := nrfl rfl
attribute [go_sem] List.contains_cons Bool.or_false Bool.false_or Bool.or_self beq_self_eq_true List.range_zero List.forall_mem_cons List.not_mem_nil false_implies implies_true
@[go_sem] theorem setO_s {ob : Objs} : (st.setO ob).s = st.s := nrfl rfl
@[go_sem] theorem setO_o {ob : Objs} : (st.setO ob).o = ob := nrfl rfl
@[go_sem] theorem freeze_s {ks : List Nat} : (st.freeze ks).s = st.s := nrfl rfl
@[go_sem] theorem freeze_nil : st.freeze [] = st := St.freeze_nil st
@[go_sem] theorem freeze_o {ks : List Nat} {k : Nat} : (st.freeze ks).o k = if ks.contains k then frz (st.o k) else st.o k := nrfl rfl
attribute [go_sem] frz
@[go_sem] theorem see_t : st.see .t = st := nrfl rfl
@[go_sem] theorem see_u : st.see .u = st := nrfl rfl
@[go_sem] theorem getBox_seel {k v : Nat} : getBox (st.see .l).o k v = if k < 1000 then getBox st.o k v else none := by
  by_cases h : k < 1000 <;> simp [St.see, getBox, h]
@[go_sem] theorem getRow_seel {k v : Nat} : getRow (st.see .l).o k v = if k < 1000 then getRow st.o k v else none := by
  by_cases h : k < 1000 <;> simp [St.see, getRow, h]
@[go_sem] theorem see_d : st.see .d = st := nrfl rfl
@[go_sem] theorem see_s' {k : Nat} : st.see (.s k) = st := nrfl rfl
@[go_sem] theorem getBox_seeh {ks : List Nat} {k v : Nat} : getBox (st.see (.h ks)).o k v = if ks.contains k then none else getBox st.o k v := by
  simp only [getBox, St.see]
  cases ks.contains k <;> rfl
@[go_sem] theorem getRow_seeh {ks : List Nat} {k v : Nat} : getRow (st.see (.h ks)).o k v = if ks.contains k then none else getRow st.o k v := by
  simp only [getRow, St.see]
  cases ks.contains k <;> rfl
@[go_sem] theorem mk_s {s : Nat → PV} {o : Objs} : (⟨s, o⟩ : St).s = s := nrfl rfl
@[go_sem] theorem mk_o {s : Nat → PV} {o : Objs} : (⟨s, o⟩ : St).o = o := nrfl rfl
@[go_sem] theorem upd_at {α : Type} {f : Nat → α} {k i : Nat} {v : α} : upd f k v i = if i = k then v else f i := nrfl rfl
@[go_sem] theorem getBox_upd {o : Objs} {k k' v v' : Nat} {b : Bool} {T : TypeId} {cs : List PV} : getBox (upd o k (v, some (b, .box T cs))) k' v' = if k' = k then (if v = v' then some (T, cs) else none) else getBox o k' v' := by
  by_cases h : k' = k
  · subst h; simp [getBox]
  · simp [getBox, upd_ne _ _ h, h]
@[go_sem] theorem getBox_upd_row {o : Objs} {k k' v v' : Nat} {b : Bool} {T : TypeId} {cs : List PV} : getBox (upd o k (v, some (b, .row T cs))) k' v' = if k' = k then none else getBox o k' v' := by
  by_cases h : k' = k
  · subst h; simp [getBox]
  · simp [getBox, upd_ne _ _ h, h]
@[go_sem] theorem getBox_upd_none {o : Objs} {k k' v v' : Nat} : getBox (upd o k (v, none)) k' v' = if k' = k then none else getBox o k' v' := by
  by_cases h : k' = k
  · subst h; simp [getBox]
  · simp [getBox, upd_ne _ _ h, h]
@[go_sem] theorem getRow_upd {o : Objs} {k k' v v' : Nat} {b : Bool} {T : TypeId} {cs : List PV} : getRow (upd o k (v, some (b, .row T cs))) k' v' = if k' = k then (if v = v' then some (T, cs) else none) else getRow o k' v' := by
  by_cases h : k' = k
  · subst h; simp [getRow]
  · simp [getRow, upd_ne _ _ h, h]
@[go_sem] theorem getRow_upd_box {o : Objs} {k k' v v' : Nat} {b : Bool} {T : TypeId} {cs : List PV} : getRow (upd o k (v, some (b, .box T cs))) k' v' = if k' = k then none else getRow o k' v' := by
  by_cases h : k' = k
  · subst h; simp [getRow]
  · simp [getRow, upd_ne _ _ h, h]
@[go_sem] theorem getRow_upd_none {o : Objs} {k k' v v' : Nat} : getRow (upd o k (v, none)) k' v' = if k' = k then none else getRow o k' v' := by
  by_cases h : k' = k
  · subst h; simp [getRow]
  · simp [getRow, upd_ne _ _ h, h]
@[go_sem] theorem getBox_upd_mp {o : Objs} {k k' v v' : Nat} {b : Bool} {m : Mp} : getBox (upd o k (v, some (b, .mp m))) k' v' = if k' = k then none else getBox o k' v' := by
  by_cases h : k' = k
  · subst h; simp [getBox]
  · simp [getBox, upd_ne _ _ h, h]
@[go_sem] theorem getRow_upd_mp {o : Objs} {k k' v v' : Nat} {b : Bool} {m : Mp} : getRow (upd o k (v, some (b, .mp m))) k' v' = if k' = k then none else getRow o k' v' := by
  by_cases h : k' = k
  · subst h; simp [getRow]
  · simp [getRow, upd_ne _ _ h, h]
@[go_sem] theorem getMap_upd {o : Objs} {k k' v v' : Nat} {b : Bool} {m : Mp} : getMap (upd o k (v, some (b, .mp m))) k' v' = if k' = k then (if v = v' then some m else none) else getMap o k' v' := by
  by_cases h : k' = k
  · subst h; simp [getMap]
  · simp [getMap, upd_ne _ _ h, h]
@[go_sem] theorem getMap_upd_box {o : Objs} {k k' v v' : Nat} {b : Bool} {T : TypeId} {cs : List PV} : getMap (upd o k (v, some (b, .box T cs))) k' v' = if k' = k then none else getMap o k' v' := by
  by_cases h : k' = k
  · subst h; simp [getMap]
  · simp [getMap, upd_ne _ _ h, h]
@[go_sem] theorem getMap_upd_row {o : Objs} {k k' v v' : Nat} {b : Bool} {T : TypeId} {cs : List PV} : getMap (upd o k (v, some (b, .row T cs))) k' v' = if k' = k then none else getMap o k' v' := by
  by_cases h : k' = k
  · subst h; simp [getMap]
  · simp [getMap, upd_ne _ _ h, h]
@[go_sem] theorem getMap_upd_none {o : Objs} {k k' v v' : Nat} : getMap (upd o k (v, none)) k' v' = if k' = k then none else getMap o k' v' := by
  by_cases h : k' = k
  · subst h; simp [getMap]
  · simp [getMap, upd_ne _ _ h, h]
theorem getMap_of {o : Objs} {k v : Nat} {b : Bool} {m : Mp} (h : o k = (v, some (b, .mp m))) : getMap o k v = some m := by simp [getMap, h]
@[go_sem] theorem mapOf_mref {o : Objs} {k v : Nat} : mapOf o (.mref k v) = getMap o k v := rfl
@[go_sem] theorem absLook_s {l : List (ByteArray × Int)} {k : ByteArray} : absLook (some .s) (some (.s l)) (.str k) = some (.int .i64 (mget l k)) := rfl
@[go_sem] theorem absLook_i {l : List (Int × Int)} {k : Int} : absLook (some .i) (some (.i l)) (.int .i64 k) = some (.int .i64 (mget l k)) := rfl
@[go_sem] theorem absMput_s {l : List (ByteArray × Int)} {k : ByteArray} {x : Int} : absMput (some .s) (some (.s l)) (.str k) (.int .i64 x) = some (.s (mput l k x)) := rfl
@[go_sem] theorem absMput_i {l : List (Int × Int)} {k x : Int} : absMput (some .i) (some (.i l)) (.int .i64 k) (.int .i64 x) = some (.i (mput l k x)) := rfl
@[go_sem] theorem mp0_t : mp0 .s = .s [] := rfl
@[go_sem] theorem mp0_f : mp0 .i = .i [] := rfl
@[go_sem] theorem mp0_r : mp0 .r = .r [] := rfl
@[go_sem] theorem absLook_r {l : List (Int × PV)} {k : Int} : absLook (some .r) (some (.r l)) (.int .i64 k) = some (mgetP l k) := rfl
@[go_sem] theorem absMput_r {l : List (Int × PV)} {k : Int} {a b : Nat} : absMput (some .r) (some (.r l)) (.int .i64 k) (.ref a b) = some (.r (mputP l k (.ref a b))) := rfl
def absMs (b : Option Mk) (o : Objs) (k v : Nat) (c : Nat × Option (Bool × Ob)) (i z : PV) : Option Objs := match c with
  | (v', some (true, .mp m)) => if v' = v then (absMput b (some m) i z).map fun m' => upd o k (v, some (true, .mp m')) else none
  | _ => none
@[go_sem] theorem absMset_mref {T : TypeId} {k v : Nat} {i z : PV} : absMset P st T (.mref k v) i z = absMs (mkd P T) st.o k v (st.o k) i z := rfl
@[go_sem] theorem absMs_mp {b : Option Mk} {o : Objs} {k v v' : Nat} {m : Mp} {i z : PV} : absMs b o k v (v', some (true, .mp m)) i z = if v' = v then (absMput b (some m) i z).map fun m' => upd o k (v, some (true, .mp m')) else none := rfl
@[go_sem] theorem getBox_freeze {ks : List Nat} {k v : Nat} : getBox (st.freeze ks).o k v = getBox st.o k v := by
  simp only [getBox, St.freeze]
  split
  · rename_i h
    split at h
    · obtain ⟨b', h1, _⟩ := frz_some h; rw [h1]
    · rw [h]
  · rename_i h
    split
    · rename_i v' b T cs h'
      exfalso
      split at h
      · rw [h'] at h; exact h _ _ _ _ rfl
      · rw [h'] at h; exact h _ _ _ _ rfl
    · rfl
@[go_sem] theorem getRow_freeze {ks : List Nat} {k v : Nat} : getRow (st.freeze ks).o k v = getRow st.o k v := by
  simp only [getRow, St.freeze]
  split
  · rename_i h
    split at h
    · obtain ⟨b', h1, _⟩ := frz_some h; rw [h1]
    · rw [h]
  · rename_i h
    split
    · rename_i v' b T cs h'
      exfalso
      split at h
      · rw [h'] at h; exact h _ _ _ _ rfl
      · rw [h'] at h; exact h _ _ _ _ rfl
    · rfl
@[go_sem] theorem move2_same {o : Objs} {k v : Nat} {x : Ob} : move2 o k k v x = upd o k (v, some (true, x)) := by
  funext i; simp only [move2, upd]; split <;> rfl
@[go_sem] theorem move2_ne {o : Objs} {k k2 v : Nat} {x : Ob} : move2 o k k2 v x = upd (upd o k ((o k).1, none)) k2 (v, some (true, x)) := rfl
attribute [go_sem] PV.scal pickPV notPV negPV nilPV idxPV extPV calleeOf absFieldAddr absLoad absIndexAddr absLen absMax absMin absStore absSlice absField absBuild absFill absMake absAppend absLit bndOf intBin strBin ofCells
@[go_sem] theorem cells_int {k : IntKind} {n : Int} : PV.cells (.int k n) = [.int k n] := rfl
@[go_sem] theorem one_int {k : IntKind} {n : Int} : PV.one (.int k n) = true := rfl
@[go_sem] theorem ok1_int {o : Objs} {k : IntKind} {n : Int} : ok1 o (.int k n) = true := rfl
@[go_sem] theorem cells_bool {b : Bool} : PV.cells (.bool b) = [.bool b] := rfl
@[go_sem] theorem one_bool {b : Bool} : PV.one (.bool b) = true := rfl
@[go_sem] theorem ok1_bool {o : Objs} {b : Bool} : ok1 o (.bool b) = true := rfl
@[go_sem] theorem cells_str {b : ByteArray} : PV.cells (.str b) = [.str b] := rfl
@[go_sem] theorem one_str {b : ByteArray} : PV.one (.str b) = true := rfl
@[go_sem] theorem ok1_str {o : Objs} {b : ByteArray} : ok1 o (.str b) = true := rfl
@[go_sem] theorem cells_nil : PV.cells (.nil) = [.nil] := rfl
@[go_sem] theorem one_nil : PV.one (.nil) = true := rfl
@[go_sem] theorem ok1_nil {o : Objs} : ok1 o (.nil) = true := rfl
@[go_sem] theorem cells_sl {xs : List PV} : PV.cells (.sl xs) = [.sl xs] := rfl
@[go_sem] theorem one_sl {xs : List PV} : PV.one (.sl xs) = true := rfl
@[go_sem] theorem ok1_sl {o : Objs} {xs : List PV} : ok1 o (.sl xs) = true := rfl
@[go_sem] theorem cells_fn {f : FuncId} {fs cs : List PV} : PV.cells (.fn f fs cs) = [.fn f fs cs] := rfl
@[go_sem] theorem one_fn {f : FuncId} {fs cs : List PV} : PV.one (.fn f fs cs) = true := rfl
@[go_sem] theorem ok1_fn {o : Objs} {f : FuncId} {fs cs : List PV} : ok1 o (.fn f fs cs) = true := rfl
@[go_sem] theorem cells_mem {cs : List PV} : PV.cells (.mem cs) = [.mem cs] := rfl
@[go_sem] theorem one_mem {cs : List PV} : PV.one (.mem cs) = true := rfl
@[go_sem] theorem ok1_mem {o : Objs} {cs : List PV} : ok1 o (.mem cs) = true := rfl
@[go_sem] theorem cells_ref {k v : Nat} : PV.cells (.ref k v) = [.ref k v] := rfl
@[go_sem] theorem one_ref {k v : Nat} : PV.one (.ref k v) = true := rfl
@[go_sem] theorem cells_ptr {k v off : Nat} : PV.cells (.ptr k v off) = [.ptr k v off] := rfl
@[go_sem] theorem one_ptr {k v off : Nat} : PV.one (.ptr k v off) = true := rfl
@[go_sem] theorem cells_eptr {k v i j : Nat} : PV.cells (.eptr k v i j) = [.eptr k v i j] := rfl
@[go_sem] theorem one_eptr {k v i j : Nat} : PV.one (.eptr k v i j) = true := rfl
@[go_sem] theorem ok1_ref {o : Objs} {k v : Nat} : ok1 o (.ref k v) = (getRow o k v).isSome := rfl
@[go_sem] theorem ok1_ptr {o : Objs} {k v j : Nat} : ok1 o (.ptr k v j) = (getBox o k v).isSome := rfl
@[go_sem] theorem ok1_eptr {o : Objs} {k v i j : Nat} : ok1 o (.eptr k v i j) = (getRow o k v).isSome := rfl
@[go_sem] theorem cells_agg {cs : List PV} : PV.cells (.agg cs) = cs := rfl
attribute [go_sem] Option.isSome_some Option.isSome_none
@[go_sem] theorem absBin_int {op : BinOp} {T : TypeId} {k : IntKind} {a b : Int} : absBin P E op T (.int k a) (.int k b) = intBin op k a b := by simp [absBin]
@[go_sem] theorem absBin_str {op : BinOp} {T : TypeId} {a b : ByteArray} : absBin P E op T (.str a) (.str b) = strBin op a b := rfl
@[go_sem] theorem absBin_bool {T : TypeId} {a b : Bool} (h : kd P T = .bool) : absBin P E .eql T (.bool a) (.bool b) = some (.bool (a == b)) := by simp [absBin, h]
@[go_sem] theorem absBin_booln {T : TypeId} {a b : Bool} (h : kd P T = .bool) : absBin P E .neq T (.bool a) (.bool b) = some (.bool (!(a == b))) := by simp [absBin, h]
@[go_sem] theorem absBin_agg {T : TypeId} {sh : List Sc} {xs ys : List PV} (h : E.eqT T = some sh) (h1 : fits sh xs = true) (h2 : fits sh ys = true) : absBin P E .eql T (.agg xs) (.agg ys) = some (.bool (cellsEq xs ys)) := by simp [absBin, h, h1, h2]
@[go_sem] theorem absBin_aggn {T : TypeId} {sh : List Sc} {xs ys : List PV} (h : E.eqT T = some sh) (h1 : fits sh xs = true) (h2 : fits sh ys = true) : absBin P E .neq T (.agg xs) (.agg ys) = some (.bool (!cellsEq xs ys)) := by simp [absBin, h, h1, h2]
attribute [go_sem] true_and and_true decide_true decide_false gt_iff_lt ge_iff_le Option.some.injEq List.getD_cons_zero List.getD_cons_succ List.getD_nil List.all_cons List.all_nil List.drop_zero List.drop_succ_cons List.drop_nil List.take_zero List.take_succ_cons List.take_nil List.map_cons List.map_nil List.length_cons List.length_nil List.cons_append List.nil_append List.append_nil List.getElem?_cons_zero List.getElem?_cons_succ List.getElem?_nil Option.map_some Option.map_none Option.bind_some Bool.and_true Bool.true_and Bool.and_self Bool.not_true Bool.not_false Bool.false_eq_true
theorem wrap_fits {n : Int} (h1 : -9223372036854775808 ≤ n) (h2 : n ≤ 9223372036854775807) : IntKind.i64.wrap n = n := by rw [IntKind.wrap_i64]; omega
@[go_sem] theorem if_t {α : Sort _} {a b : α} {i : Decidable True} : (@ite α True i a b) = a := if_pos trivial
@[go_sem] theorem if_f {α : Sort _} {a b : α} {i : Decidable False} : (@ite α False i a b) = b := if_neg fun h => h
end
end Go.Sx
