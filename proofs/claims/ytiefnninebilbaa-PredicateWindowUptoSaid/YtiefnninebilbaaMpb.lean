/- The abstract machine, part 15: two operations that do not touch each other may be swapped. -/
import Derived.Test.YtiefnninebilbaaMpa
import Derived.Maps.RangeRun
set_option linter.unusedVariables false
set_option linter.unusedSimpArgs false
namespace Go.Sx
open Go Go.RowKit

section
variable {P : Program} {E : Env P} {st st' : St}

def Ag (op : Op) (st st' : St) : Prop := ∀ x ∈ op.operands.toList, st.ev x = st'.ev x
theorem map_ev {l : List Operand} (h : ∀ x ∈ l, st.ev x = st'.ev x) : l.map st.ev = l.map st'.ev := List.map_congr_left h
theorem pureOp_congr {op : Op} (h : Ag op st st') (ho : st.o = st'.o) : pureOp P E st op = pureOp P E st' op := by
  unfold Ag at h
  cases op <;> simp only [pureOp, Op.operands] at h ⊢
  case build T ps =>
    have : (ps.toList.map fun p => (p.1, st.ev p.2)) = ps.toList.map fun p => (p.1, st'.ev p.2) := List.map_congr_left fun p hp => by
      rw [h p.2 (by simp only [List.mem_map]; exact ⟨p, hp, rfl⟩)]
    rw [this, ho]
  case makeFunc f first caps =>
    have h1 : first.toList.map st.ev = first.toList.map st'.ev := map_ev fun x hx => h x (by simp at hx ⊢; exact .inl hx)
    have h2 : caps.toList.map st.ev = caps.toList.map st'.ev := map_ev fun x hx => h x (by simp at hx ⊢; exact .inr hx)
    cases f <;> simp only [pureOp, h1, h2]
  case slice T x lo hi mx =>
    have hx : st.ev x = st'.ev x := h x (by simp)
    have h1 : lo.map st.ev = lo.map st'.ev := by cases lo with
      | none => rfl
      | some y => simp [h y (by simp)]
    have h2 : hi.map st.ev = hi.map st'.ev := by cases hi with
      | none => rfl
      | some y => simp [h y (by simp)]
    cases mx <;> simp only [pureOp, hx, h1, h2]
  case call c =>
    have hc : ∀ x ∈ c.args.toList, st.ev x = st'.ev x := fun x hx => h x (by simp [Call.operands] at hx ⊢; exact .inr hx)
    split
    · rename_i x T h1 h2 h3; rw [hc x (by rw [h2]; simp), ho]
    · rename_i x y h1 h2; rw [hc x (by rw [h2]; simp), hc y (by rw [h2]; simp)]
    · rename_i x y h1 h2; rw [hc x (by rw [h2]; simp), hc y (by rw [h2]; simp)]
    · rfl
  case unOp op T x =>
    have hx : st.ev x = st'.ev x := h x (by simp)
    cases op <;> simp only [pureOp, hx]
  case lookup T x i ok =>
    have h1 : st.ev x = st'.ev x := h x (by simp)
    have h2 : st.ev i = st'.ev i := h i (by simp)
    cases ok <;> simp only [pureOp, h1, h2, ho]
  all_goals simp_all
theorem callee_congr {c : Call} (h : Ag (.call c) st st') : callee st c = callee st' c := by
  unfold Ag at h
  simp only [Op.operands] at h
  have hc : c.args.toList.map st.ev = c.args.toList.map st'.ev := map_ev fun x hx => h x (by simp [Call.operands] at hx ⊢; exact .inr hx)
  unfold callee
  split
  · rename_i x hx
    rw [h x (by simp [Call.operands, hx]), hc]
  · rfl
theorem absLit_congr {T : TypeId} {len : Nat} {parts : List (Nat × Operand)} (h : ∀ p ∈ parts, st.ev p.2 = st'.ev p.2) (ho : st.o = st'.o) : absLit P st T len parts = absLit P st' T len parts := by
  have h1 : parts.mapM (fun p => res st.o 3 (st.ev p.2)) = parts.mapM fun p => res st'.o 3 (st'.ev p.2) := by
    rw [ho]
    induction parts with
    | nil => rfl
    | cons p l ih => rw [List.mapM_cons, List.mapM_cons, h p (by simp), ih fun q hq => h q (by simp [hq])]
  have h2 : (parts.flatMap fun p => keysOf st.o 3 (st.ev p.2)) = parts.flatMap fun p => keysOf st'.o 3 (st'.ev p.2) := by
    rw [List.flatMap_def, List.flatMap_def, ho]
    congr 1
    exact List.map_congr_left fun p hp => by rw [h p hp]
  have h3 : ∀ sz, (∀ p ∈ parts, (st.ev p.2).cells.length = sz ∧ (st.ev p.2).cells.all (ok1 st.o) = true) ↔ ∀ p ∈ parts, (st'.ev p.2).cells.length = sz ∧ (st'.ev p.2).cells.all (ok1 st'.o) = true := fun sz =>
    ⟨fun hh p hp => by rw [← h p hp, ← ho]; exact hh p hp, fun hh p hp => by rw [h p hp, ho]; exact hh p hp⟩
  unfold absLit
  simp only [h1, h2, h3]
theorem see_o {m : Md} (ho : st.o = st'.o) : (st.see m).o = (st'.see m).o := by cases m <;> simp [St.see, ho]
theorem ag_see {m m' : Md} {op : Op} (h : Ag op st st') : Ag op (st.see m) (st'.see m') := fun x hx => by rw [ev_see, ev_see]; exact h x hx
/-- An operation that turns no object, in a state that shows it the same. -/
theorem QEv.congr {m : Md} {o : Oper} {x : PV} (hq : QEv P E m o st x) (h : Ag o.op st st') (ho : (st.see m).o = (st'.see m).o) : QEv P E m o st' x := by
  cases hq with
  | pure hp => exact .pure (by rw [← hp]; exact (pureOp_congr (ag_see h) ho).symm)
  | lit T len parts e ys hop hl hx =>
    refine .lit T len parts e ys hop ?_ hx
    rw [← hl]
    exact (absLit_congr (fun p hp => ag_see h p.2 (by rw [hop]; simp only [Op.operands, List.mem_map]; exact ⟨p, hp, rfl⟩)) ho).symm
  | call c f args as hop hc ha hF hk =>
    refine .call c f args as hop ?_ (by rw [← ho]; exact ha) hF (by rw [← ho]; exact hk)
    rw [← hc]
    rw [hop] at h
    exact (callee_congr (ag_see h)).symm
theorem LEv.congr {o : Oper} {x : PV} {ob : Objs} (hl : LEv P E o st x ob) (h : Ag o.op st st') (ho : st.o = st'.o) : LEv P E o st' x ob := by
  have hfz : ∀ ks, (st.freeze ks).o = (st'.freeze ks).o := fun ks => by simp [St.freeze, ho]
  have hnew : ∀ k y, (st.new k y).o = (st'.new k y).o := fun k y => by simp [St.new, ho]
  unfold Ag at h
  cases hl with
  | box T y k hop hd h1 hx hob =>
    have e : st.ev y = st'.ev y := h y (by rw [hop]; simp [Op.operands])
    exact .box T y k hop hd (by rw [← e, ← ho]; exact h1) (by rw [← ho]; exact hx) (by rw [hob, ← e, hnew])
  | store T y z hop hs hx =>
    have e1 : st.ev y = st'.ev y := h y (by rw [hop]; simp [Op.operands])
    have e2 : st.ev z = st'.ev z := h z (by rw [hop]; simp [Op.operands])
    refine .store T y z hop ?_ hx
    rw [← hs, e1, e2]
    simp only [absStore, ho]
  | lit T len parts e ys ks k hop hd hl hx hob =>
    refine .lit T len parts e ys ks k hop hd ?_ (by rw [hx, hfz]) ?_
    · rw [← hl]
      exact (absLit_congr (fun p hp => h p.2 (by rw [hop]; simp only [Op.operands, List.mem_map]; exact ⟨p, hp, rfl⟩)) ho).symm
    · rw [hob]; simp only [St.new, hfz]
  | lit0 T e sz hop hT hx hob => exact .lit0 T e sz hop hT hx (by rw [hob, ho])
  | make T e l c xs k hop hd hm hx hob =>
    have e1 : st.ev l = st'.ev l := h l (by rw [hop]; simp [Op.operands])
    have e2 : st.ev c = st'.ev c := h c (by rw [hop]; simp [Op.operands])
    exact .make T e l c xs k hop hd (by rw [← e1, ← e2]; exact hm) (by rw [hx, ho]) (by rw [hob, hnew])
  | makeMap T b k hop hd hm hx hob => exact .makeMap T b k hop hd hm (by rw [hx, ho]) (by rw [hob, hnew])
  | mapUpdate T y i z hop hs hx =>
    have e1 : st.ev y = st'.ev y := h y (by rw [hop]; simp [Op.operands])
    have e2 : st.ev i = st'.ev i := h i (by rw [hop]; simp [Op.operands])
    have e3 : st.ev z = st'.ev z := h z (by rw [hop]; simp [Op.operands])
    refine .mapUpdate T y i z hop ?_ hx
    rw [← hs, e1, e2, e3]
    simp only [absMset, ho]
  | append c d T y z hop hd hca hargs hty hak hr =>
    have e1 : st.ev y = st'.ev y := h y (by rw [hop]; simp [Op.operands, Call.operands, hca, hargs])
    have e2 : st.ev z = st'.ev z := h z (by rw [hop]; simp [Op.operands, Call.operands, hca, hargs])
    refine .append c d T y z hop hd hca hargs hty (by rw [← e1, ← ho]; exact hak) ?_
    rw [← hr, ← e1, ← e2]
    obtain ⟨s, o0⟩ := st
    obtain ⟨s', o1⟩ := st'
    obtain rfl : o0 = o1 := ho
    rfl
  | call c f args hop hc hC =>
    refine .call c f args hop ?_ (by rw [← ho]; exact hC)
    rw [← hc]
    rw [hop] at h
    exact (callee_congr h).symm
/-- It looks at what objects there are, not at what they hold. -/
def isShape (o : Oper) : Bool := match o.op with | .nilCheck _ | .fieldAddr _ _ _ | .move _ => true | _ => false
def Md.isD (m : Md) : Bool := match m with | .d => true | _ => false
theorem SEv.congr {k : Nat} {o : Oper} {x : PV} {ob : Objs} (hl : SEv P k o st x ob) (h : Ag o.op st st') (ho : st.o = st'.o) : SEv P k o st' x ob := by
  obtain ⟨T, y, z, hop, hk, hs, hx⟩ := hl
  unfold Ag at h
  have e1 : st.ev y = st'.ev y := h y (by rw [hop]; simp [Op.operands])
  have e2 : st.ev z = st'.ev z := h z (by rw [hop]; simp [Op.operands])
  refine ⟨T, y, z, hop, by rw [← e1]; exact hk, ?_, hx⟩
  rw [← hs, e1, e2]
  simp only [absStore, ho]
/-- What a store makes of the objects. -/
theorem SEv.objs {k : Nat} {o : Oper} {x : PV} {ob : Objs} (hl : SEv P k o st x ob) : ∃ v y y', st.o k = (v, some (true, y)) ∧ y.like y' ∧ ob = upd st.o k (v, some (true, y')) := by
  obtain ⟨T, y, z, hop, hk, hs, hx⟩ := hl
  have hm : ∀ (k v : Nat) (x : Ob), move2 st.o k k v x = upd st.o k (v, some (true, x)) := fun k v x => by
    funext i; simp only [move2, upd]; split <;> rfl
  unfold absStore at hs
  split at hs
  · rename_i k' v off sz b hy ht
    rw [hy] at hk
    simp only [keyP, Option.some.injEq] at hk
    subst hk
    split at hs
    · rename_i v' t cs ho
      split at hs
      · rename_i hc
        cases hs
        obtain ⟨rfl, h1, h2, h3⟩ := hc
        refine ⟨v', _, _, ho, ?_, hm _ _ _⟩
        refine ⟨rfl, ?_⟩
        simp only [List.length_append, List.length_take, List.length_drop]
        omega
      · cases hs
    · cases hs
  · rename_i k' v i j sz b hy ht
    rw [hy] at hk
    simp only [keyP, Option.some.injEq] at hk
    subst hk
    split at hs
    · rename_i v' e xs ho
      split at hs
      · rename_i y0 hy0
        split at hs
        · rename_i hc
          cases hs
          obtain ⟨rfl, h1, h2, h3⟩ := hc
          refine ⟨v', _, _, ho, ?_, hm _ _ _⟩
          exact ⟨rfl, by simp⟩
        · cases hs
      · cases hs
    · cases hs
  · cases hs
theorem row_like {o o' : Objs} (h : ∀ k, o' k = o k ∨ ∃ v y y', o k = (v, some (true, y)) ∧ y.like y' ∧ o' k = (v, some (true, y'))) {k v : Nat} (hk : (getRow o k v).isSome = true) : (getRow o' k v).isSome = true := by
  rcases h k with e | ⟨v', y, y', e1, hl, e2⟩
  · simp only [getRow, e] at hk ⊢; exact hk
  · simp only [getRow, e1, e2] at hk ⊢
    cases y <;> cases y' <;> simp [Ob.like] at hl hk ⊢
    exact hk
theorem box_like {o o' : Objs} (h : ∀ k, o' k = o k ∨ ∃ v y y', o k = (v, some (true, y)) ∧ y.like y' ∧ o' k = (v, some (true, y'))) {k v : Nat} (hk : (getBox o k v).isSome = true) : (getBox o' k v).isSome = true := by
  rcases h k with e | ⟨v', y, y', e1, hl, e2⟩
  · simp only [getBox, e] at hk ⊢; exact hk
  · simp only [getBox, e1, e2] at hk ⊢
    cases y <;> cases y' <;> simp [Ob.like] at hl hk ⊢
    exact hk
theorem map_isSome {α β : Type} {x x' : Option α} {f : β} {y : β} (h : x.isSome = true → x'.isSome = true) (hx : x.map (fun _ => f) = some y) : x'.map (fun _ => f) = some y := by
  cases x with
  | none => simp at hx
  | some a =>
    simp only [Option.map_some, Option.some.injEq] at hx
    subst hx
    obtain ⟨b, hb⟩ := Option.isSome_iff_exists.1 (h rfl)
    rw [hb]; rfl
theorem QEv.shape {o : Oper} {x : PV} (hsh : isShape o = true) (hq : QEv P E .d o st x) (h : Ag o.op st st') (hl : ∀ k, st'.o k = st.o k ∨ ∃ v y y', st.o k = (v, some (true, y)) ∧ y.like y' ∧ st'.o k = (v, some (true, y'))) : QEv P E .d o st' x := by
  unfold isShape at hsh
  cases hq with
  | pure hp =>
    refine .pure ?_
    show pureOp P E st' o.op = some x
    have hp : pureOp P E st o.op = some x := hp
    unfold Ag at h
    split at hsh
    · rename_i y hop
      rw [hop] at hp h ⊢
      simp only [pureOp, Op.operands] at hp h ⊢
      rw [← h y (by simp)]
      split at hp
      · exact hp
      · exact map_isSome (fun hb => box_like hl hb) hp
      · exact hp
      · cases hp
    · rename_i T y f hop
      rw [hop] at hp h ⊢
      simp only [pureOp, Op.operands] at hp h ⊢
      rw [← h y (by simp)]
      unfold absFieldAddr at hp ⊢
      split at hp
      · rename_i e1
        try simp only [e1]
        split at hp
        · cases hp
        · rename_i hs
          rw [if_neg hs]
          split at hp
          · exact hp
          · exact map_isSome (fun hb => box_like hl hb) hp
          · exact map_isSome (fun hb => row_like hl hb) hp
          · cases hp
      · cases hp
    · rename_i y hop
      rw [hop] at hp h ⊢
      simp only [pureOp, Op.operands] at hp h ⊢
      rw [← h y (by simp)]
      exact hp
    · cases hsh
  | lit T len parts e ys hop hl hx => rw [hop] at hsh; cases hsh
  | call c f args as hop hc ha hF hk => rw [hop] at hsh; cases hsh
theorem ok1_like {o o' : Objs} (h : ∀ k, o' k = o k ∨ ∃ v y y', o k = (v, some (true, y)) ∧ y.like y' ∧ o' k = (v, some (true, y'))) {z : PV} (hz : ok1 o z = true) : ok1 o' z = true := by
  have hr : ∀ {k v : Nat}, (getRow o k v).isSome = true → (getRow o' k v).isSome = true := by
    intro k v hk
    rcases h k with e | ⟨v', y, y', e1, hl, e2⟩
    · simp only [getRow, e] at hk ⊢; exact hk
    · simp only [getRow, e1, e2] at hk ⊢
      cases y <;> cases y' <;> simp [Ob.like] at hl hk ⊢
      exact hk
  have hb : ∀ {k v : Nat}, (getBox o k v).isSome = true → (getBox o' k v).isSome = true := by
    intro k v hk
    rcases h k with e | ⟨v', y, y', e1, hl, e2⟩
    · simp only [getBox, e] at hk ⊢; exact hk
    · simp only [getBox, e1, e2] at hk ⊢
      cases y <;> cases y' <;> simp [Ob.like] at hl hk ⊢
      exact hk
  cases z <;> simp only [ok1] at hz ⊢ <;> first | exact hz | exact hr hz | exact hb hz
theorem SEv.same {k k' : Nat} {o : Oper} {x : PV} {ob : Objs} (hl : SEv P k o st x ob) (hne : k ≠ k') {ob' : Objs} (h : Ag o.op st st') (ho : ∀ j, j ≠ k' → st'.o j = st.o j) (hlk : ∀ j, st'.o j = st.o j ∨ ∃ v y y', st.o j = (v, some (true, y)) ∧ y.like y' ∧ st'.o j = (v, some (true, y'))) :
    SEv P k o st' x (upd st'.o k (ob k)) := by
  obtain ⟨T, y, z, hop, hk, hs, hx⟩ := hl
  unfold Ag at h
  have e1 : st.ev y = st'.ev y := h y (by rw [hop]; simp [Op.operands])
  have e2 : st.ev z = st'.ev z := h z (by rw [hop]; simp [Op.operands])
  have hm : ∀ (o : Objs) (k v : Nat) (x : Ob), move2 o k k v x = upd o k (v, some (true, x)) := fun o k v x => by
    funext i; simp only [move2, upd]; split <;> rfl
  have hall : ∀ l : List PV, l.all (ok1 st.o) = true → l.all (ok1 st'.o) = true := fun l hl => by
    simp only [List.all_eq_true] at hl ⊢
    exact fun z hz => ok1_like hlk (hl z hz)
  refine ⟨T, y, z, hop, by rw [← e1]; exact hk, ?_, hx⟩
  rw [← e1, ← e2]
  unfold absStore at hs ⊢
  split at hs
  · rename_i k2 v off sz b hy ht
    rw [hy] at hk
    simp only [keyP, Option.some.injEq] at hk
    subst hk
    rw [ho _ hne]
    split at hs
    · rename_i v' t cs ho'
      split at hs
      · rename_i hc
        cases hs
        rw [if_pos ⟨hc.1, hc.2.1, hc.2.2.1, hall _ hc.2.2.2⟩, hm, hm, upd_same]
      · cases hs
    · cases hs
  · rename_i k2 v i j sz b hy ht
    rw [hy] at hk
    simp only [keyP, Option.some.injEq] at hk
    subst hk
    rw [ho _ hne]
    split at hs
    · rename_i v' e xs ho'
      split at hs
      · rename_i y0 hy0
        split at hs
        · rename_i hc
          cases hs
          rw [if_pos hc, hm, hm, upd_same]
        · cases hs
      · cases hs
    · cases hs
  · cases hs
theorem AEv.congr {o : Oper} {x : PV} {ob : Objs} (hl : AEv P E o st x ob) (ho : st.o = st'.o) : AEv P E o st' x ob := by
  obtain ⟨T, k, z, h1, h2, h3, h4, h5⟩ := hl
  exact ⟨T, k, z, h1, h2, h3, by rw [h4, ho], by rw [h5]; simp [St.new, ho]⟩

/-- May two operations be swapped, by their modes? -/
def opAlloc (o : Oper) : Option Nat := match o.op with | .alloc _ => o.dst | _ => none
def Md.hides (m : Md) (k : Nat) : Bool := match m with | .n => true | .h ks => ks.contains k | _ => false
theorem Md.hides_tr {P : Program} {E : Env P} {m : Md} {k : Nat} (h : m.hides k = true) : (m.tr E).hides (E.key k) = true := by
  cases m <;> simp [Md.hides, Md.tr] at h ⊢
  exact ⟨k, h, rfl⟩
def Md.isT (m : Md) : Bool := match m with | .t => true | _ => false
def Md.isN (m : Md) : Bool := match m with | .n => true | _ => false
def Md.sk (m : Md) : Option Nat := match m with | .s k => some k | _ => none
def isStore (o : Oper) : Bool := match o.op with | .store _ _ _ => true | _ => false
def swapOk0 (m : Md) (x : Oper) (m' : Md) (y : Oper) : Bool :=
  match opAlloc x, opAlloc y with
  | some _, some _ => true
  | some k, none => m'.hides k
  | none, some k => m.hides k
  | none, none => if m.isT then m'.isN else !m'.isT || m.isN
def Md.isU (m : Md) : Bool := match m with | .u => true | _ => false
def Md.isL (m : Md) : Bool := match m with | .l | .n => true | _ => false
def isApp (o : Oper) : Bool := match o.op with
  | .call c => match c.callee with | .builtin .append => true | _ => false
  | _ => false
def swapOk1 (m : Md) (x : Oper) (m' : Md) (y : Oper) : Bool :=
  match m.sk, m'.sk with
  | some k, some k' => decide (k ≠ k') && isStore x && isStore y
  | some k, none => (m'.hides k || (isShape y && m'.isD)) && isStore x && (opAlloc y).isNone
  | none, some k => (m.hides k || (isShape x && m.isD)) && isStore y && (opAlloc x).isNone
  | none, none => swapOk0 m x m' y
def swapOk (m : Md) (x : Oper) (m' : Md) (y : Oper) : Bool :=
  match m.isU, m'.isU with
  | true, true => false
  | true, false => m'.isL && isApp x && (opAlloc y).isNone
  | false, true => m.isL && isApp y && (opAlloc x).isNone
  | false, false => swapOk1 m x m' y
theorem hides_see {m : Md} {k : Nat} (h : m.hides k = true) (st : St) (y : Ob) : ((st.new k y).see m).o = (st.see m).o := by
  cases m <;> simp only [Md.hides] at h <;> try (cases h; done)
  · rfl
  · rename_i ks
    funext j
    simp only [St.see]
    split
    · rfl
    · rename_i hj
      have : j ≠ k := by rintro rfl; exact hj h
      exact new_at this
theorem put_o (st : St) (d : Option Tmp) (x : PV) : (st.put d x).o = st.o := by cases d <;> rfl
theorem ev_put {st : St} {d : Option Tmp} {v : PV} {x : Operand} (h : ∀ t, d = some t → x ≠ .tmp t) : (st.put d v).ev x = st.ev x := by
  cases d with
  | none => rfl
  | some t =>
    cases x with
    | tmp u =>
      have : u ≠ t := fun e => h t rfl (by rw [e])
      simp [St.ev, St.put, this]
    | const v => rfl
    | global g => rfl
    | func f => rfl
theorem put_comm {st : St} {d e : Option Tmp} {v u : PV} (h : ∀ t, d = some t → e ≠ some t) : (st.put d v).put e u = (st.put e u).put d v := by
  cases d with
  | none => rfl
  | some t =>
    cases e with
    | none => rfl
    | some s =>
      have hne : s ≠ t := fun q => h t rfl (by rw [q])
      simp only [St.put, St.mk.injEq, and_true]
      funext i
      by_cases h1 : i = s
      · subst h1; simp [hne]
      · simp [h1]
theorem QEv.not_alloc {m : Md} {o : Oper} {x : PV} (h : QEv P E m o st x) : opAlloc o = none := by
  unfold opAlloc
  split
  · rename_i T ho
    cases h with
    | pure hp => rw [ho] at hp; simp [pureOp] at hp
    | lit T' len parts e ys ho' hl hx => rw [ho] at ho'; cases ho'
    | call c f args as ho' => rw [ho] at ho'; cases ho'
  · rfl
theorem QEv.not_store {m : Md} {o : Oper} {x : PV} (h : QEv P E m o st x) : isStore o = false := by
  unfold isStore
  split
  · rename_i T y z ho
    cases h with
    | pure hp => rw [ho] at hp; simp [pureOp] at hp
    | lit T' len parts e ys ho' hl hx => rw [ho] at ho'; cases ho'
    | call c f args as ho' => rw [ho] at ho'; cases ho'
  · rfl
theorem AEv.not_store {o : Oper} {x : PV} {ob : Objs} (h : AEv P E o st x ob) : isStore o = false := by
  obtain ⟨T, k, z, h1, _⟩ := h
  simp [isStore, h1]
theorem QEv.not_app {m : Md} {o : Oper} {x : PV} (h : QEv P E m o st x) : isApp o = false := by
  unfold isApp
  split
  · rename_i c ho
    split
    · rename_i hc
      cases h with
      | pure hp => rw [ho] at hp; simp [pureOp, hc] at hp
      | lit T' len parts e ys ho' hl hx => rw [ho] at ho'; cases ho'
      | call c' f args as ho' hc' => rw [ho] at ho'; cases ho'; simp [callee, hc] at hc'
    · rfl
  · rfl
theorem AEv.not_app {o : Oper} {x : PV} {ob : Objs} (h : AEv P E o st x ob) : isApp o = false := by
  obtain ⟨T, k, z, h1, _⟩ := h
  simp [isApp, h1]
theorem low_see {m : Md} (hm : m.isL = true) {o o' : Objs} (s s' : Nat → PV) (h : ∀ k, k < 1000 → o' k = o k) : (St.see m ⟨s', o'⟩).o = (St.see m ⟨s, o⟩).o := by
  cases m <;> simp [Md.isL] at hm
  · rfl
  · funext k
    simp only [St.see]
    split
    · rename_i hk; exact h k hk
    · rfl
theorem hides_seeS {m : Md} {k : Nat} (h : m.hides k = true) {o o' : Objs} (s s' : Nat → PV) (ho : ∀ j, j ≠ k → o' j = o j) : (St.see m ⟨s', o'⟩).o = (St.see m ⟨s, o⟩).o := by
  cases m <;> simp only [Md.hides] at h <;> try (cases h; done)
  · rfl
  · rename_i ks
    funext j
    simp only [St.see]
    split
    · rfl
    · rename_i hj
      exact ho j (by rintro rfl; exact hj h)
theorem LEv.not_alloc {o : Oper} {x : PV} {ob : Objs} (h : LEv P E o st x ob) : opAlloc o = none := by
  unfold opAlloc
  split
  · rename_i T ho
    cases h <;> rename_i ho' _ <;> first | (rw [ho] at ho'; cases ho') | skip
    all_goals (rename_i ho'; simp_all)
  · rfl
end
end Go.Sx
/- The abstract machine, part 16: the operations of a region, in the text's order and in any order that the region's edges allow. -/
set_option linter.unusedVariables false
set_option linter.unusedSimpArgs false
namespace Go.Sx
open Go Go.RowKit

/-- Does an operation's guard let it run? -/
def gd (ops : Array Oper) (o : Oper) (st : St) : Option Bool :=
  match o.guard with
  | none => some true
  | some (g, want) => match (ops[g]?).bind (·.dst) with
    | some t => match st.s t with
      | .bool b => some (b == want)
      | .tup _ => some false
      | _ => none
    | none => none
/-- An operation under its guard. -/
def GV (P : Program) (E : Env P) (ops : Array Oper) (m : Md) (o : Oper) (st : St) (x : PV) (ob : Objs) : Prop :=
  (gd ops o st = some false ∧ x = .tup [] ∧ ob = st.o) ∨ (gd ops o st = some true ∧ EV P E (m.tr E) o st x ob)
def St.after (st : St) (ob : Objs) (d : Option Tmp) (x : PV) : St := St.put ⟨st.s, ob⟩ d x
def Chain (P : Program) (E : Env P) (ops : Array Oper) (M : Nat → Md) : List Nat → St → St → Prop
  | [], st, st' => st' = st
  | i :: l, st, st' => ∃ o x ob, ops[i]? = some o ∧ GV P E ops (M i) o st x ob ∧ Chain P E ops M l (st.after ob o.dst x) st'

section
variable {P : Program} {E : Env P} {n : Nat} {w0 : World} {imp : Im} {st st' : St} {τ τ' : Places} {a : Act} {w w' : World} {ops : Array Oper} {M : Nat → Md}

theorem after_o (st : St) (ob : Objs) (d : Option Tmp) (x : PV) : (st.after ob d x).o = ob := put_o _ _ _
theorem after_ev {st : St} {ob : Objs} {d : Option Tmp} {v : PV} {x : Operand} (h : ∀ t, d = some t → x ≠ .tmp t) : (st.after ob d v).ev x = st.ev x := by
  unfold St.after
  rw [ev_put h]
  cases x <;> rfl
theorem EV.congr {m : Md} {o : Oper} {x : PV} {ob : Objs} (he : EV P E m o st x ob) (h : Ag o.op st st') (ho : st.o = st'.o) : EV P E m o st' x ob := by
  rcases he with ⟨hq, rfl⟩ | ha | ⟨hm, hl⟩ | ⟨k, hm, hs⟩ | ⟨hm, hlo, hl⟩
  · exact .inl ⟨hq.congr h (see_o ho), ho⟩
  · exact .inr (.inl (ha.congr ho))
  · exact .inr (.inr (.inl ⟨hm, hl.congr h ho⟩))
  · exact .inr (.inr (.inr (.inl ⟨k, hm, hs.congr h ho⟩)))
  · exact .inr (.inr (.inr (.inr ⟨hm, by rw [← ho]; exact hlo, hl.congr h ho⟩)))
theorem AEv.alloc {o : Oper} {x : PV} {ob : Objs} (h : AEv P E o st x ob) : ∃ k y, opAlloc o = some k ∧ o.dst = some k ∧ ob = (st.new (E.key k) y).o ∧ x = .ptr (E.key k) ((st.o (E.key k)).1 + 1) 0 := by
  obtain ⟨T, k, z, h1, h2, h3, h4, h5⟩ := h
  exact ⟨k, _, by simp [opAlloc, h1, h2], h2, h5, h4⟩
theorem EV.swap0 {mj mi : Md} (huj : mj.isU = false) (hui : mi.isU = false) (hskj : mj.sk = none) (hski : mi.sk = none) {oj oi : Oper} {xj xi : PV} {obj obi : Objs} (hj : EV P E (mj.tr E) oj st xj obj) (hi : EV P E (mi.tr E) oi (st.after obj oj.dst xj) xi obi) (hok : swapOk0 mj oj mi oi = true)
    (h1 : ∀ t, oj.dst = some t → ∀ x ∈ oi.op.operands.toList, x ≠ .tmp t) (h2 : ∀ t, oi.dst = some t → ∀ x ∈ oj.op.operands.toList, x ≠ .tmp t) (hd : ∀ t, oj.dst = some t → oi.dst ≠ some t) :
    ∃ obi', EV P E (mi.tr E) oi st xi obi' ∧ EV P E (mj.tr E) oj (st.after obi' oi.dst xi) xj obi := by
  have ag1 : ∀ ob, Ag oi.op (st.after ob oj.dst xj) st := fun ob x hx => after_ev fun t ht => h1 t ht x hx
  have ag2 : ∀ ob, Ag oj.op st (st.after ob oi.dst xi) := fun ob x hx => (after_ev fun t ht => h2 t ht x hx).symm
  have hsee : ∀ (m : Md) (ob : Objs) (d : Option Tmp) (x : PV), ((st.after ob d x).see m).o = (St.see m ⟨st.s, ob⟩).o := fun m ob d x => see_o (after_o _ _ _ _)
  have trT : ∀ {m : Md}, m.tr E = .t → m = .t := fun {m} h => by cases m <;> simp [Md.tr] at h ⊢
  have noS : ∀ {m : Md}, m.sk = none → ∀ k, m.tr E ≠ .s k := fun {m} h k => by cases m <;> simp [Md.sk, Md.tr] at h ⊢
  have noU : ∀ {m : Md}, m.isU = false → m.tr E ≠ .u := fun {m} h => by cases m <;> simp [Md.isU, Md.tr] at h ⊢
  rcases hj with ⟨qj, rfl⟩ | aj | ⟨hmj, lj⟩ | ⟨kj, hmj, sj⟩ | ⟨hmj, _⟩
  · rcases hi with ⟨qi, rfl⟩ | ai | ⟨hmi, li⟩ | ⟨ki, hmi, si⟩ | ⟨hmi, _⟩
    · exact ⟨st.o, .inl ⟨qi.congr (ag1 _) (hsee _ _ _ _), rfl⟩, .inl ⟨qj.congr (ag2 _) (hsee _ _ _ _).symm, by rw [after_o, after_o]⟩⟩
    · have ai' := ai.congr (st' := st) (after_o _ _ _ _)
      obtain ⟨k, y, e1, e2, rfl, e4⟩ := ai'.alloc
      refine ⟨_, .inr (.inl ai'), .inl ⟨qj.congr (ag2 _) ?_, (after_o _ _ _ _).symm⟩⟩
      rw [hsee]
      have hk : mj.hides k = true := by simpa [swapOk0, qj.not_alloc, e1] using hok
      exact (hides_see (Md.hides_tr hk) st y).symm
    · obtain rfl := trT hmi
      have li' := li.congr (ag1 _) (after_o _ _ _ _)
      refine ⟨obi, .inr (.inr (.inl ⟨rfl, li'⟩)), .inl ⟨qj.congr (ag2 _) ?_, (after_o _ _ _ _).symm⟩⟩
      rw [hsee]
      have hm : mj.isN = true := by
        simp only [swapOk0, qj.not_alloc, li.not_alloc, Md.isT, Md.isN] at hok
        cases mj <;> simp_all [Md.isN]
      cases mj <;> simp [Md.isN] at hm
      rfl
    · exact absurd hmi (noS hski ki)
    · exact absurd hmi (noU hui)
  · obtain ⟨k, y, e1, e2, rfl, e4⟩ := aj.alloc
    rcases hi with ⟨qi, rfl⟩ | ai | ⟨hmi, li⟩ | ⟨ki, hmi, si⟩ | ⟨hmi, _⟩
    · have hk : mi.hides k = true := by simpa [swapOk0, qi.not_alloc, e1] using hok
      refine ⟨st.o, .inl ⟨qi.congr (ag1 _) (by rw [hsee]; exact hides_see (Md.hides_tr hk) st y), rfl⟩, .inr (.inl ?_)⟩
      rw [after_o]
      exact aj.congr (after_o _ _ _ _).symm
    · obtain ⟨T, k', z, f1, f2, f3, f4, f5⟩ := ai
      obtain ⟨T', k'', z', g1, g2, g3, g4, g5⟩ := aj
      rw [e2] at g2
      cases g2
      have hne : E.key k' ≠ E.key k := fun e => hd k e2 (by rw [f2, E.inj _ _ e])
      refine ⟨(st.new (E.key k') (.box T z.cells)).o, .inr (.inl ⟨T, k', z, f1, f2, f3, ?_, rfl⟩), .inr (.inl ⟨T', k, z', g1, e2, g3, ?_, ?_⟩)⟩
      · rw [f4, after_o, new_at hne]
      · rw [g4, after_o, new_at (Ne.symm hne)]
      · rw [f5]
        simp only [St.new, after_o] at g5 ⊢
        have g6 : upd st.o (E.key k) ((st.o (E.key k)).1 + 1, some (true, y)) = upd st.o (E.key k) ((st.o (E.key k)).1 + 1, some (true, .box T' z'.cells)) := g5
        rw [g6]
        funext i
        simp only [upd]
        by_cases h1 : i = E.key k <;> by_cases h2 : i = E.key k' <;> simp_all
    · obtain rfl := trT hmi
      simp [swapOk0, e1, li.not_alloc, Md.hides] at hok
    · exact absurd hmi (noS hski ki)
    · exact absurd hmi (noU hui)
  · obtain rfl := trT hmj
    rcases hi with ⟨qi, rfl⟩ | ai | ⟨hmi, li⟩ | ⟨ki, hmi, si⟩ | ⟨hmi, _⟩
    · have hm : mi.isN = true := by simpa [swapOk0, lj.not_alloc, qi.not_alloc, Md.isT] using hok
      refine ⟨st.o, .inl ⟨qi.congr (ag1 _) ?_, rfl⟩, .inr (.inr (.inl ⟨rfl, ?_⟩))⟩
      · cases mi <;> simp [Md.isN] at hm
        rfl
      · rw [after_o]
        exact lj.congr (ag2 _) (after_o _ _ _ _).symm
    · obtain ⟨k, y, e1, e2, _, _⟩ := ai.alloc
      simp [swapOk0, lj.not_alloc, e1, Md.hides] at hok
    · obtain rfl := trT hmi
      simp [swapOk0, lj.not_alloc, li.not_alloc, Md.isT, Md.isN] at hok
    · exact absurd hmi (noS hski ki)
    · exact absurd hmi (noU hui)
  · exact absurd hmj (noS hskj kj)
  · exact absurd hmj (noU huj)

theorem Ob.like_symm {x y : Ob} (h : x.like y) : y.like x := by
  cases x <;> cases y <;> simp [Ob.like] at h ⊢
  · exact ⟨h.1.symm, h.2.symm⟩
  · exact ⟨h.1.symm, h.2.symm⟩
  · exact h.symm
theorem EV.swap1 {mj mi : Md} (huj : mj.isU = false) (hui : mi.isU = false) {oj oi : Oper} {xj xi : PV} {obj obi : Objs} (hj : EV P E (mj.tr E) oj st xj obj) (hi : EV P E (mi.tr E) oi (st.after obj oj.dst xj) xi obi) (hok : swapOk1 mj oj mi oi = true)
    (h1 : ∀ t, oj.dst = some t → ∀ x ∈ oi.op.operands.toList, x ≠ .tmp t) (h2 : ∀ t, oi.dst = some t → ∀ x ∈ oj.op.operands.toList, x ≠ .tmp t) (hd : ∀ t, oj.dst = some t → oi.dst ≠ some t) :
    ∃ obi', EV P E (mi.tr E) oi st xi obi' ∧ EV P E (mj.tr E) oj (st.after obi' oi.dst xi) xj obi := by
  have ag1 : ∀ ob, Ag oi.op (st.after ob oj.dst xj) st := fun ob x hx => after_ev fun t ht => h1 t ht x hx
  have ag2 : ∀ ob, Ag oj.op st (st.after ob oi.dst xi) := fun ob x hx => (after_ev fun t ht => h2 t ht x hx).symm
  have isS : ∀ {m : Md} {k : Nat}, m.sk = some k → m = .s k := fun {m k} h => by cases m <;> simp [Md.sk] at h ⊢; exact h
  have onlyS : ∀ {m : Md} {k : Nat} {o : Oper} {s : St} {x : PV} {ob : Objs}, m = .s k → isStore o = true → EV P E (m.tr E) o s x ob → SEv P (E.key k) o s x ob := by
    intro m k o s x ob hm hs h
    subst hm
    rcases h with ⟨q, _⟩ | al | ⟨ht, _⟩ | ⟨k', hk', hs'⟩ | ⟨ht, _⟩
    · rw [q.not_store] at hs; cases hs
    · rw [al.not_store] at hs; cases hs
    · cases ht
    · cases hk'; exact hs'
    · cases ht
  have isDd : ∀ {m : Md}, m.isD = true → m = .d := fun {m} h => by cases m <;> simp [Md.isD] at h ⊢
  have onlyQ' : ∀ {m : Md} {k : Nat} {b : Bool} {o : Oper} {s : St} {x : PV} {ob : Objs}, m.isU = false → m.sk = none → (m.hides k || (b && m.isD)) = true → (opAlloc o).isNone = true → EV P E (m.tr E) o s x ob → QEv P E (m.tr E) o s x ∧ ob = s.o := by
    intro m k b o s x ob hu hm hh ha h
    rcases h with q | al | ⟨ht, _⟩ | ⟨k', hk', hs'⟩ | ⟨ht, _⟩
    · exact q
    · obtain ⟨k1, y, e1, _⟩ := al.alloc
      rw [e1] at ha; cases ha
    · cases m <;> simp [Md.tr, Md.hides, Md.isD] at ht hh
    · cases m <;> simp [Md.tr, Md.sk] at hk' hm
    · cases m <;> simp [Md.tr, Md.isU] at ht hu
  have upd_o : ∀ {k : Nat} {o : Oper} {s : St} {x : PV} {ob : Objs}, SEv P k o s x ob → (∀ j, j ≠ k → ob j = s.o j) ∧ (ob = upd s.o k (ob k)) ∧ ∀ j, ob j = s.o j ∨ ∃ v y y', s.o j = (v, some (true, y)) ∧ y.like y' ∧ ob j = (v, some (true, y')) := by
    intro k o s x ob h
    obtain ⟨v, y, y', e1, e2, rfl⟩ := h.objs
    refine ⟨fun j hj => upd_ne _ _ hj, by rw [upd_same], fun j => ?_⟩
    by_cases hj : j = k
    · subst hj; exact .inr ⟨v, y, y', e1, e2, upd_same _ _ _⟩
    · exact .inl (upd_ne _ _ hj)
  cases hsj : mj.sk with
  | none =>
    cases hsi : mi.sk with
    | none =>
      simp only [swapOk1, hsj, hsi] at hok
      exact EV.swap0 huj hui hsj hsi hj hi hok h1 h2 hd
    | some k =>
      simp only [swapOk1, hsj, hsi, Bool.and_eq_true] at hok
      obtain ⟨⟨k1, k2⟩, k3⟩ := hok
      obtain ⟨qj, rfl⟩ := onlyQ' huj hsj k1 k3 hj
      have si := (onlyS (isS hsi) k2 hi).congr (ag1 _) (after_o _ _ _ _)
      rw [Bool.or_eq_true, Bool.and_eq_true] at k1
      rcases k1 with k1 | ⟨k1, kd⟩
      rotate_left
      · have hd := isDd kd
        subst hd
        exact ⟨obi, .inr (.inr (.inr (.inl ⟨E.key k, by rw [isS hsi]; rfl, si⟩))), .inl ⟨QEv.shape k1 qj (ag2 _) (fun j => by rw [after_o]; exact (upd_o si).2.2 j), (after_o _ _ _ _).symm⟩⟩
      refine ⟨obi, .inr (.inr (.inr (.inl ⟨E.key k, by rw [isS hsi]; rfl, si⟩))), .inl ⟨qj.congr (ag2 _) ?_, (after_o _ _ _ _).symm⟩⟩
      have := hides_seeS (Md.hides_tr (E := E) k1) st.s (st.after obi oi.dst xi).s (upd_o si).1
      rw [show (st.after obi oi.dst xi).see (mj.tr E) = St.see (mj.tr E) ⟨(st.after obi oi.dst xi).s, (st.after obi oi.dst xi).o⟩ from rfl, after_o]
      exact this.symm
  | some k =>
    cases hsi : mi.sk with
    | none =>
      simp only [swapOk1, hsj, hsi, Bool.and_eq_true] at hok
      obtain ⟨⟨k1, k2⟩, k3⟩ := hok
      have sj := onlyS (isS hsj) k2 hj
      obtain ⟨qi, hob⟩ := onlyQ' hui hsi k1 k3 hi
      rw [after_o] at hob
      subst hob
      rw [Bool.or_eq_true, Bool.and_eq_true] at k1
      rcases k1 with k1 | ⟨k1, kd⟩
      rotate_left
      · have hd := isDd kd
        subst hd
        refine ⟨st.o, .inl ⟨QEv.shape k1 qi (ag1 _) (fun j => ?_), rfl⟩, .inr (.inr (.inr (.inl ⟨E.key k, by rw [isS hsj]; rfl, sj.congr (ag2 _) (after_o _ _ _ _).symm⟩)))⟩
        rw [after_o]
        rcases (upd_o sj).2.2 j with e | ⟨v, y, y', e1, e2, e3⟩
        · exact .inl e.symm
        · exact .inr ⟨v, y', y, e3, Ob.like_symm e2, e1⟩
      refine ⟨st.o, .inl ⟨qi.congr (ag1 _) ?_, rfl⟩, .inr (.inr (.inr (.inl ⟨E.key k, by rw [isS hsj]; rfl, sj.congr (ag2 _) (after_o _ _ _ _).symm⟩)))⟩
      have := hides_seeS (Md.hides_tr (E := E) k1) st.s (st.after obi oj.dst xj).s (upd_o sj).1
      rw [show (st.after obi oj.dst xj).see (mi.tr E) = St.see (mi.tr E) ⟨(st.after obi oj.dst xj).s, (st.after obi oj.dst xj).o⟩ from rfl, after_o]
      exact this
    | some k' =>
      simp only [swapOk1, hsj, hsi, Bool.and_eq_true, decide_eq_true_eq] at hok
      obtain ⟨⟨k1, k2⟩, k3⟩ := hok
      have hne : E.key k ≠ E.key k' := fun e => k1 (E.inj _ _ e)
      have sj := onlyS (isS hsj) k2 hj
      have si := onlyS (isS hsi) k3 hi
      obtain ⟨j1, j2, j3⟩ := upd_o sj
      obtain ⟨i1, i2, i3⟩ := upd_o si
      rw [after_o] at i1 i2 i3
      have si' := si.same (st' := st) (k' := E.key k) (Ne.symm hne) (ob' := obi) (ag1 _) (fun j hj => by rw [after_o]; exact (j1 j hj).symm) fun j => by
        rw [after_o]
        rcases j3 j with e | ⟨v, y, y', e1, e2, e3⟩
        · exact .inl e.symm
        · exact .inr ⟨v, y', y, e3, Ob.like_symm e2, e1⟩
      refine ⟨_, .inr (.inr (.inr (.inl ⟨E.key k', by rw [isS hsi]; rfl, si'⟩))), .inr (.inr (.inr (.inl ⟨E.key k, by rw [isS hsj]; rfl, ?_⟩)))⟩
      have sj' := sj.same (st' := st.after (upd st.o (E.key k') (obi (E.key k'))) oi.dst xi) (k' := E.key k') hne (ob' := obi) (ag2 _) (fun j hj => by rw [after_o]; exact upd_ne _ _ hj) fun j => by
        rw [after_o]
        obtain ⟨u1, u2, u3⟩ := upd_o si'
        exact u3 j
      rw [after_o] at sj'
      have : upd (upd st.o (E.key k') (obi (E.key k'))) (E.key k) (obj (E.key k)) = obi := by
        funext j
        have f1 := congrFun i2 j
        have f2 := congrFun j2 j
        rw [f1]
        by_cases e1 : j = E.key k
        · rw [e1, upd_same, upd_ne _ _ hne]
        · by_cases e2 : j = E.key k'
          · rw [e2, upd_ne _ _ (Ne.symm hne), upd_same, upd_same]
          · rw [upd_ne _ _ e1, upd_ne _ _ e2, upd_ne _ _ e2, f2, upd_ne _ _ e1]
      rw [this] at sj'
      exact sj'

theorem EV.swap {mj mi : Md} {oj oi : Oper} {xj xi : PV} {obj obi : Objs} (hj : EV P E (mj.tr E) oj st xj obj) (hi : EV P E (mi.tr E) oi (st.after obj oj.dst xj) xi obi) (hok : swapOk mj oj mi oi = true)
    (h1 : ∀ t, oj.dst = some t → ∀ x ∈ oi.op.operands.toList, x ≠ .tmp t) (h2 : ∀ t, oi.dst = some t → ∀ x ∈ oj.op.operands.toList, x ≠ .tmp t) (hd : ∀ t, oj.dst = some t → oi.dst ≠ some t) :
    ∃ obi', EV P E (mi.tr E) oi st xi obi' ∧ EV P E (mj.tr E) oj (st.after obi' oi.dst xi) xj obi := by
  have ag1 : ∀ ob, Ag oi.op (st.after ob oj.dst xj) st := fun ob x hx => after_ev fun t ht => h1 t ht x hx
  have ag2 : ∀ ob, Ag oj.op st (st.after ob oi.dst xi) := fun ob x hx => (after_ev fun t ht => h2 t ht x hx).symm
  have isUu : ∀ {m : Md}, m.isU = true → m = .u := fun {m} h => by cases m <;> simp [Md.isU] at h ⊢
  have onlyU : ∀ {m : Md} {o : Oper} {s : St} {x : PV} {ob : Objs}, m.isU = true → isApp o = true → EV P E (m.tr E) o s x ob → (∀ k, k < 1000 → ob k = s.o k) ∧ LEv P E o s x ob := by
    intro m o s x ob hm ha h
    obtain rfl := isUu hm
    rcases h with ⟨q, _⟩ | al | ⟨ht, _⟩ | ⟨k', hk', _⟩ | ⟨_, h1, h2⟩
    · rw [q.not_app] at ha; cases ha
    · rw [al.not_app] at ha; cases ha
    · cases ht
    · cases hk'
    · exact ⟨h1, h2⟩
  have onlyL : ∀ {m : Md} {o : Oper} {s : St} {x : PV} {ob : Objs}, m.isL = true → (opAlloc o).isNone = true → EV P E (m.tr E) o s x ob → QEv P E (m.tr E) o s x ∧ ob = s.o := by
    intro m o s x ob hm ha h
    rcases h with q | al | ⟨ht, _⟩ | ⟨k', hk', _⟩ | ⟨ht, _⟩
    · exact q
    · obtain ⟨k1, y, e1, _⟩ := al.alloc
      rw [e1] at ha; cases ha
    · cases m <;> simp [Md.tr, Md.isL] at ht hm
    · cases m <;> simp [Md.tr, Md.isL] at hk' hm
    · cases m <;> simp [Md.tr, Md.isL] at ht hm
  have trL : ∀ {m : Md}, m.isL = true → (m.tr E).isL = true := fun {m} h => by cases m <;> simp [Md.tr, Md.isL] at h ⊢
  cases huj : mj.isU with
  | false =>
    cases hui : mi.isU with
    | false =>
      simp only [swapOk, huj, hui] at hok
      exact EV.swap1 huj hui hj hi hok h1 h2 hd
    | true =>
      simp only [swapOk, huj, hui, Bool.and_eq_true] at hok
      obtain ⟨⟨k1, k2⟩, k3⟩ := hok
      obtain ⟨qj, rfl⟩ := onlyL k1 k3 hj
      obtain ⟨lo, li⟩ := onlyU hui k2 hi
      rw [after_o] at lo
      refine ⟨obi, .inr (.inr (.inr (.inr ⟨by rw [isUu hui]; rfl, lo, li.congr (ag1 _) (after_o _ _ _ _)⟩))), .inl ⟨qj.congr (ag2 _) ?_, (after_o _ _ _ _).symm⟩⟩
      have := low_see (trL k1) st.s (st.after obi oi.dst xi).s lo
      rw [show (st.after obi oi.dst xi).see (mj.tr E) = St.see (mj.tr E) ⟨(st.after obi oi.dst xi).s, (st.after obi oi.dst xi).o⟩ from rfl, after_o]
      exact this.symm
  | true =>
    cases hui : mi.isU with
    | false =>
      simp only [swapOk, huj, hui, Bool.and_eq_true] at hok
      obtain ⟨⟨k1, k2⟩, k3⟩ := hok
      obtain ⟨lo, lj⟩ := onlyU huj k2 hj
      obtain ⟨qi, hob⟩ := onlyL k1 k3 hi
      rw [after_o] at hob
      subst hob
      refine ⟨st.o, .inl ⟨qi.congr (ag1 _) ?_, rfl⟩, .inr (.inr (.inr (.inr ⟨by rw [isUu huj]; rfl, by rw [after_o]; exact lo, lj.congr (ag2 _) (after_o _ _ _ _).symm⟩)))⟩
      have := low_see (trL k1) st.s (st.after obi oj.dst xj).s lo
      rw [show (st.after obi oj.dst xj).see (mi.tr E) = St.see (mi.tr E) ⟨(st.after obi oj.dst xj).s, (st.after obi oj.dst xj).o⟩ from rfl, after_o]
      exact this
    | true => simp [swapOk, huj, hui] at hok

theorem gd_congr {o : Oper} (h : ∀ g want t, o.guard = some (g, want) → (ops[g]?).bind (·.dst) = some t → st.s t = st'.s t) : gd ops o st = gd ops o st' := by
  unfold gd
  cases hg : o.guard with
  | none => rfl
  | some p =>
    obtain ⟨g, want⟩ := p
    simp only
    cases ht : (ops[g]?).bind (·.dst) with
    | none => rfl
    | some t => simp only [h g want t hg ht]
theorem after_s {st : St} {ob : Objs} {d : Option Tmp} {v : PV} {t : Nat} (h : d ≠ some t) : (st.after ob d v).s t = st.s t := by
  cases d with
  | none => rfl
  | some u =>
    have : t ≠ u := fun e => h (by rw [e])
    simp [St.after, St.put, this]
theorem looks_guard {o : Oper} {g : Nat} {want : Bool} {t : Tmp} (hg : o.guard = some (g, want)) (ht : (ops[g]?).bind (·.dst) = some t) : t ∈ o.looksAt ops := by
  unfold Oper.looksAt
  rw [hg]
  exact List.mem_append_right _ (by simp [ht])
theorem looks_op {o : Oper} {x : Operand} {t : Tmp} (hx : x ∈ o.op.operands.toList) (ht : t ∉ o.looksAt ops) : x ≠ .tmp t := by
  rintro rfl
  exact ht (List.mem_append_left _ (List.mem_filterMap.2 ⟨.tmp t, hx, rfl⟩))
theorem GV.swap {mj mi : Md} {oj oi : Oper} {xj xi : PV} {obj obi : Objs} (hj : GV P E ops mj oj st xj obj) (hi : GV P E ops mi oi (st.after obj oj.dst xj) xi obi) (hok : swapOk mj oj mi oi = true) (hap : oj.apart ops oi = true) :
    ∃ obi', GV P E ops mi oi st xi obi' ∧ GV P E ops mj oj (st.after obi' oi.dst xi) xj obi ∧ (st.after obi' oi.dst xi).after obi oj.dst xj = (st.after obj oj.dst xj).after obi oi.dst xi := by
  obtain ⟨h1, hd, h2⟩ := Oper.apart_spec hap
  have fin : ∀ obi', (st.after obi' oi.dst xi).after obi oj.dst xj = (st.after obj oj.dst xj).after obi oi.dst xi := by
    intro obi'
    unfold St.after
    have e : ∀ (d : Option Tmp) (x : PV) (ob ob' : Objs), (⟨(St.put ⟨st.s, ob⟩ d x).s, ob'⟩ : St) = St.put ⟨st.s, ob'⟩ d x := fun d x ob ob' => by cases d <;> rfl
    rw [e, e]
    exact (put_comm (fun t ht => hd t ht)).symm
  have g1 : ∀ ob, gd ops oi (st.after ob oj.dst xj) = gd ops oi st := fun ob => gd_congr fun g want t hg ht => after_s fun e => h1 t e (looks_guard hg ht)
  have g2 : ∀ ob, gd ops oj (st.after ob oi.dst xi) = gd ops oj st := fun ob => gd_congr fun g want t hg ht => after_s fun e => h2 t e (looks_guard hg ht)
  have ag1 : ∀ ob, Ag oi.op (st.after ob oj.dst xj) st := fun ob x hx => after_ev fun t ht => looks_op hx (h1 t ht)
  have ag2 : ∀ ob, Ag oj.op st (st.after ob oi.dst xi) := fun ob x hx => (after_ev fun t ht => looks_op hx (h2 t ht)).symm
  rcases hj with ⟨gj, rfl, rfl⟩ | ⟨gj, ej⟩
  · rcases hi with ⟨gi, rfl, rfl⟩ | ⟨gi, ei⟩
    · rw [g1] at gi
      exact ⟨st.o, .inl ⟨gi, rfl, rfl⟩, .inl ⟨by rw [g2]; exact gj, rfl, by rw [after_o, after_o]⟩, fin _⟩
    · rw [g1] at gi
      exact ⟨obi, .inr ⟨gi, ei.congr (ag1 _) (after_o _ _ _ _)⟩, .inl ⟨by rw [g2]; exact gj, rfl, by rw [after_o]⟩, fin _⟩
  · rcases hi with ⟨gi, rfl, rfl⟩ | ⟨gi, ei⟩
    · rw [g1] at gi
      refine ⟨st.o, .inl ⟨gi, rfl, rfl⟩, .inr ⟨by rw [g2]; exact gj, ?_⟩, fin _⟩
      rw [after_o]
      exact ej.congr (ag2 _) (after_o _ _ _ _).symm
    · rw [g1] at gi
      obtain ⟨obi', e1, e2⟩ := ej.swap ei hok (fun t ht x hx => looks_op hx (h1 t ht)) (fun t ht x hx => looks_op hx (h2 t ht)) hd
      exact ⟨obi', .inr ⟨gi, e1⟩, .inr ⟨by rw [g2]; exact gj, e2⟩, fin _⟩

theorem Chain.front {i : Nat} : ∀ {l1 l2 : List Nat} {st st' : St}, Chain P E ops M (l1 ++ i :: l2) st st' →
    (∀ j ∈ l1, ∀ oj oi, ops[j]? = some oj → ops[i]? = some oi → oj.apart ops oi = true ∧ swapOk (M j) oj (M i) oi = true) → Chain P E ops M (i :: (l1 ++ l2)) st st'
  | [], l2, st, st', h, _ => h
  | j :: l1, l2, st, st', h, hc => by
    obtain ⟨oj, xj, obj, hoj, hj, hr⟩ := h
    obtain ⟨oi, xi, obi, hoi, hi, hr'⟩ := Chain.front (l1 := l1) hr fun k hk => hc k (by simp [hk])
    obtain ⟨hap, hok⟩ := hc j (by simp) oj oi hoj hoi
    obtain ⟨obi', h1, h2, h3⟩ := hj.swap hi hok hap
    refine ⟨oi, xi, obi', hoi, h1, oj, xj, obi, hoj, h2, ?_⟩
    rw [h3]
    exact hr'

/-! Soundness. -/
theorem gd_yielded (h : Sim P n w0 imp st τ a w) {o : Oper} {b : Bool} (hg : gd ops o st = some b) : Region.wanted o (yielded ops a.tmps) = b := by
  unfold gd at hg
  unfold Region.wanted
  split at hg
  · rename_i e; rw [e]; cases hg; rfl
  · rename_i g want e
    rw [e]
    simp only
    split at hg
    · rename_i t ht
      split at hg
      · rename_i b' hb
        cases hg
        have hv := h.slots t
        rw [hb] at hv
        have hv := hv.bool_inv
        have ht' : a.tmps[t]? = some (.bool b') := by
          rw [Array.getD_eq_getD_getElem?] at hv
          cases hq : a.tmps[t]? with
          | none => rw [hq] at hv; simp [undef] at hv
          | some v => rw [hq] at hv; simpa using hv
        simp only [yielded, ht, Option.bind_some, ht']
        cases b' <;> cases want <;> rfl
      · rename_i cs hb
        cases hg
        have hv := h.slots t
        rw [hb] at hv
        obtain ⟨vs, hv, _⟩ := hv.tup_inv
        rw [Array.getD_eq_getD_getElem?] at hv
        simp only [yielded, ht, Option.bind_some]
        cases hq : a.tmps[t]? with
        | none => rfl
        | some v =>
          rw [hq] at hv
          simp only [Option.getD_some] at hv
          subst hv
          rfl
      · cases hg
    · cases hg
theorem GV.wpOp (h : Sim P n w0 imp st τ a w) {m : Md} {i : Nat} {o : Oper} {x : PV} {ob : Objs} (hi : ops[i]? = some o) (hd : ∀ d, o.dst = some d → d < n ∧ E.key d < 1000000000) (hg : GV P E ops m o st x ob) {K : Act → World → Prop} {Q : Exit → Act → World → Prop}
    (hK : ∀ a' w' τ', Sim P n w0 imp (st.after ob o.dst x) τ' a' w' → K a' w') : Go.wpOp P ops Q i K a w := by
  unfold Go.wpOp
  simp only [hi]
  rcases hg with ⟨hg, rfl, rfl⟩ | ⟨hg, he⟩
  · rw [gd_yielded h hg]
    simp only [Bool.false_eq_true, if_false]
    exact hK _ _ τ (h.put (fun d e => (hd d e).1) (.pure (.tup [] #[] rfl (by simp))))
  · rw [gd_yielded h hg]
    simp only [if_true]
    exact .inl (he.wp h (fun d e => (hd d e).2) fun v w' τ' h1 h2 => hK _ _ τ' (h1.put (fun d e => (hd d e).1) h2))
theorem Chain.wpOps {Q : Exit → Act → World → Prop} (hd : ∀ o ∈ ops, ∀ d, o.dst = some d → d < n ∧ E.key d < 1000000000) : ∀ {l : List Nat} {st st' : St} {τ : Places} {a : Act} {w : World}, Chain P E ops M l st st' → Sim P n w0 imp st τ a w →
    (∀ τ' a' w', Sim P n w0 imp st' τ' a' w' → Q .normal a' w') → Go.wpOps P ops Q l a w
  | [], st, st', τ, a, w, hc, h, hQ => by
    subst hc
    exact hQ τ a w h
  | i :: l, st, st', τ, a, w, ⟨o, x, ob, ho, hg, hc⟩, h, hQ => by
    rw [wpOps_cons]
    exact hg.wpOp h ho (hd o (Array.mem_of_getElem? ho)) fun a' w' τ' h' => Chain.wpOps hd hc h' hQ

/-! What comes before what. -/
inductive Anc (ops : Array Oper) (j : Nat) : Nat → Prop where
  | one (i : Nat) (o : Oper) (e : Edge) (ho : ops[i]? = some o) (he : e ∈ o.after) (hb : Region.binds .any e = true) (hj : e.on = j) : Anc ops j i
  | more (i : Nat) (o : Oper) (e : Edge) (ho : ops[i]? = some o) (he : e ∈ o.after) (hb : Region.binds .any e = true) (h : Anc ops j e.on) : Anc ops j i
def maskOf (acc : List Nat) : List Edge → Nat
  | [] => 0
  | e :: l => if Region.binds .any e then maskOf acc l ||| 2 ^ e.on ||| acc.getD e.on 0 else maskOf acc l
def masks : List Oper → List Nat → List Nat
  | [], acc => acc
  | o :: l, acc => masks l (acc ++ [maskOf acc o.after.toList])
theorem maskOf_sound {acc : List Nat} {j : Nat} : ∀ {l : List Edge}, (maskOf acc l).testBit j = true → ∃ e ∈ l, Region.binds .any e = true ∧ (e.on = j ∨ (acc.getD e.on 0).testBit j = true)
  | [], h => by simp [maskOf] at h
  | e :: l, h => by
    unfold maskOf at h
    split at h
    · rename_i hb
      simp only [Nat.testBit_or, Bool.or_eq_true] at h
      rcases h with (h | h) | h
      · obtain ⟨e', h1, h2⟩ := maskOf_sound h
        exact ⟨e', by simp [h1], h2⟩
      · exact ⟨e, by simp, hb, .inl (by rw [Nat.testBit_two_pow] at h; simpa using h)⟩
      · exact ⟨e, by simp, hb, .inr h⟩
    · obtain ⟨e', h1, h2⟩ := maskOf_sound h
      exact ⟨e', by simp [h1], h2⟩
theorem masks_sound : ∀ {l : List Oper} {acc : List Nat}, (∀ i, i < acc.length → ∀ j, (acc.getD i 0).testBit j = true → Anc ops j i) → (∀ i o, l[i]? = some o → ops[acc.length + i]? = some o) →
    ∀ i, i < (masks l acc).length → ∀ j, ((masks l acc).getD i 0).testBit j = true → Anc ops j i
  | [], acc, h, _ => h
  | o :: l, acc, h, hl => by
    refine masks_sound (l := l) (fun i hi j hj => ?_) fun i o' ho' => ?_
    · rw [List.length_append, List.length_singleton] at hi
      by_cases hlt : i < acc.length
      · rw [List.getD_eq_getElem?_getD, List.getElem?_append_left hlt, ← List.getD_eq_getElem?_getD] at hj
        exact h i hlt j hj
      · obtain rfl : i = acc.length := by omega
        rw [List.getD_eq_getElem?_getD, List.getElem?_append_right (Nat.le_refl _)] at hj
        simp only [Nat.sub_self, List.getElem?_cons_zero, Option.getD_some] at hj
        obtain ⟨e, he, hb, hor⟩ := maskOf_sound hj
        have ho : ops[acc.length]? = some o := by have := hl 0 o rfl; simpa using this
        rcases hor with rfl | hor
        · exact .one _ o e ho (by simpa using he) hb rfl
        · by_cases hlt : e.on < acc.length
          · exact .more _ o e ho (by simpa using he) hb (h _ hlt j hor)
          · rw [List.getD_eq_getElem?_getD, List.getElem?_eq_none (by omega)] at hor
            simp at hor
    · rw [List.length_append, List.length_singleton, Nat.add_assoc, Nat.add_comm 1 i]
      exact hl (i + 1) o' (by simpa using ho')
/-- A region's check: edges lead back; what is not ordered may be swapped. -/
def calm (ops : Array Oper) (M : Nat → Md) : Bool :=
  let ms := masks ops.toList []
  (ops.toList.zipIdx).all fun p => p.1.after.toList.all (fun e => !Region.binds .any e || decide (e.on < p.2)) &&
    (ops.toList.zipIdx).all fun q => decide (p.2 ≤ q.2) || (ms.getD p.2 0).testBit q.2 || (q.1.apart ops p.1 && swapOk (M q.2) q.1 (M p.2) p.1)
theorem masks_length : ∀ (l : List Oper) (acc : List Nat), (masks l acc).length = acc.length + l.length
  | [], acc => by simp [masks]
  | o :: l, acc => by rw [masks, masks_length l]; simp [Nat.add_assoc, Nat.add_comm 1]
theorem calm_spec (h : calm ops M = true) : (∀ (i : Nat) (o : Oper), ops[i]? = some o → ∀ e ∈ o.after, Region.binds .any e = true → e.on < i) ∧
    ∀ (i j : Nat) (oi oj : Oper), ops[i]? = some oi → ops[j]? = some oj → j < i → Anc ops j i ∨ (oj.apart ops oi = true ∧ swapOk (M j) oj (M i) oi = true) := by
  unfold calm at h
  simp only [List.all_eq_true, Bool.and_eq_true] at h
  have hz : ∀ (i : Nat) (o : Oper), ops[i]? = some o → (o, i) ∈ ops.toList.zipIdx := fun i o ho => by
    rw [List.mem_zipIdx_iff_getElem?]
    simpa using ho
  refine ⟨fun i o ho e he hb => ?_, fun i j oi oj hi hj hlt => ?_⟩
  · have := (h _ (hz i o ho)).1 e (by simpa using he)
    simpa [hb] using this
  · have := (h _ (hz i oi hi)).2 _ (hz j oj hj)
    simp only [Bool.or_eq_true, decide_eq_true_eq, Bool.and_eq_true] at this
    rcases this with (h1 | h1) | h1
    · omega
    · refine .inl (masks_sound (ops := ops) (l := ops.toList) (acc := []) (by simp) (fun i o ho => by simpa using ho) i ?_ j h1)
      rw [masks_length]
      simpa using (Array.getElem?_eq_some_iff.1 hi).1
    · exact .inr h1
end
end Go.Sx
/- The abstract machine, part 17: a region that draws its order. -/
set_option linter.unusedVariables false
set_option linter.unusedSimpArgs false
namespace Go.Sx
open Go Go.RowKit

section
variable {P : Program} {E : Env P} {n : Nat} {w0 : World} {imp : Im} {st st' : St} {τ τ' : Places} {a : Act} {w w' : World} {ops : Array Oper} {M : Nat → Md}

/-- What is not listed yet. -/
def openL (ops : Array Oper) (listed : Array Bool) : List Nat := (List.range ops.size).filter fun i => !listed.getD i true
theorem mem_openL {listed : Array Bool} {i : Nat} : i ∈ openL ops listed ↔ i < ops.size ∧ listed.getD i true = false := by
  simp [openL, List.mem_filter]
theorem openL_nodup (ops : Array Oper) (listed : Array Bool) : (openL ops listed).Nodup := List.Pairwise.filter _ List.nodup_range
theorem openL_set {listed : Array Bool} {i : Nat} (hs : listed.size = ops.size) (hi : i < ops.size) {l1 l2 : List Nat} (h : openL ops listed = l1 ++ i :: l2) : openL ops (listed.setIfInBounds i true) = l1 ++ l2 := by
  have h1 : openL ops (listed.setIfInBounds i true) = (openL ops listed).filter fun j => decide (j ≠ i) := by
    unfold openL
    rw [List.filter_filter]
    refine List.filter_congr fun j hj => ?_
    by_cases e : j = i
    · subst e; simp [hs, hi]
    · rw [getD_set_ne true (Ne.symm e)]; simp [e]
  have hnd := openL_nodup ops listed
  rw [h] at hnd
  rw [h1, h, List.filter_append, List.filter_cons]
  have hn := List.nodup_append.1 hnd
  have e1 : l1.filter (fun j => decide (j ≠ i)) = l1 := List.filter_eq_self.2 fun j hj => by
    simp only [decide_eq_true_eq]
    rintro rfl
    exact hn.2.2 _ hj _ (by simp) rfl
  have e2 : l2.filter (fun j => decide (j ≠ i)) = l2 := List.filter_eq_self.2 fun j hj => by
    simp only [decide_eq_true_eq]
    rintro rfl
    exact (List.nodup_cons.1 hn.2.1).1 hj
  rw [e1, e2]
  simp
theorem sorted_openL (ops : Array Oper) (listed : Array Bool) : (openL ops listed).Pairwise (· < ·) := List.Pairwise.filter _ List.pairwise_lt_range
theorem anc_listed {listed : Array Bool} (hdc : ∀ (i : Nat) (o : Oper), ops[i]? = some o → listed.getD i true = true → ∀ e ∈ o.after, Region.binds .any e = true → listed.getD e.on false = true) (hlt : ∀ (i : Nat) (o : Oper), ops[i]? = some o → ∀ e ∈ o.after, Region.binds .any e = true → e.on < i)
    (hs : listed.size = ops.size) {i j : Nat} {o : Oper} (ho : ops[i]? = some o) (hr : ∀ e ∈ o.after, Region.binds .any e = true → listed.getD e.on false = true) (h : Anc ops j i) : listed.getD j false = true := by
  induction h generalizing o with
  | one i o' e ho' he hb hj => rw [ho] at ho'; cases ho'; subst hj; exact hr e he hb
  | more i o' e ho' he hb h' ih =>
    rw [ho] at ho'
    cases ho'
    have h1 := hr e he hb
    have h2 : e.on < ops.size := Nat.lt_trans (hlt i _ ho e he hb) (Array.getElem?_eq_some_iff.1 ho).1
    have h3 : listed.getD e.on true = true := by
      rw [Array.getD_eq_getD_getElem?] at h1 ⊢
      cases hq : listed[e.on]? with
      | none => rfl
      | some b => rw [hq] at h1; simpa using h1
    exact ih (Array.getElem?_eq_getElem h2) (hdc _ _ (Array.getElem?_eq_getElem h2) h3)
theorem Chain.wpAny {Q : Exit → Act → World → Prop} (hd : ∀ o ∈ ops, ∀ d, o.dst = some d → d < n ∧ E.key d < 1000000000) (hc : calm ops M = true) :
    ∀ (fuel : Nat) {listed : Array Bool} {st st' : St} {τ : Places} {a : Act} {w : World}, listed.size = ops.size → (openL ops listed).length ≤ fuel →
      (∀ (i : Nat) (o : Oper), ops[i]? = some o → listed.getD i true = true → ∀ e ∈ o.after, Region.binds .any e = true → listed.getD e.on false = true) →
      Chain P E ops M (openL ops listed) st st' → Sim P n w0 imp st τ a w → (∀ τ' a' w', Sim P n w0 imp st' τ' a' w' → Q .normal a' w') → Go.wpAny P .any ops Q fuel listed a w := by
  obtain ⟨hlt, hsw⟩ := calm_spec hc
  have hnil : ∀ (listed : Array Bool), listed.size = ops.size → Region.ready .any ops listed = [] → openL ops listed = [] := by
    intro listed hs hr
    cases hl : openL ops listed with
    | nil => rfl
    | cons i l =>
      exfalso
      have hi : i ∈ openL ops listed := by rw [hl]; simp
      obtain ⟨h1, h2⟩ := mem_openL.1 hi
      have hsort := sorted_openL ops listed
      rw [hl] at hsort
      have : i ∈ Region.ready .any ops listed := by
        rw [mem_ready]
        refine ⟨h2, _, Array.getElem?_eq_getElem h1, fun e he hb => ?_⟩
        have hon := hlt i _ (Array.getElem?_eq_getElem h1) e he hb
        cases hq : listed.getD e.on false with
        | true => rfl
        | false =>
          have hqo : listed.getD e.on true = false := by
            rw [Array.getD_eq_getD_getElem?] at hq ⊢
            have : e.on < listed.size := by omega
            simp [this] at hq ⊢
            exact hq
          have hmem : e.on ∈ openL ops listed := mem_openL.2 ⟨by omega, hqo⟩
          rw [hl] at hmem
          rcases List.mem_cons.1 hmem with h | h
          · omega
          · have := List.rel_of_pairwise_cons hsort h
            omega
      rw [hr] at this
      cases this
  have hready : ∀ (listed : Array Bool) (i : Nat), i ∈ Region.ready .any ops listed → i ∈ openL ops listed := by
    intro listed i hi
    obtain ⟨h1, o, ho, _⟩ := mem_ready.1 hi
    exact mem_openL.2 ⟨(Array.getElem?_eq_some_iff.1 ho).1, h1⟩
  intro fuel
  induction fuel with
  | zero =>
    intro listed st st' τ a w hs hlen hdc hch h hQ
    have hl : openL ops listed = [] := List.eq_nil_of_length_eq_zero (by omega)
    refine ⟨?_, ?_⟩
    · cases hr : Region.ready .any ops listed with
      | nil => rfl
      | cons i l => have := hready listed i (by rw [hr]; simp); rw [hl] at this; cases this
    · rw [hl] at hch
      cases hch
      exact hQ τ a w h
  | succ fuel ih =>
    intro listed st st' τ a w hs hlen hdc hch h hQ
    refine ⟨fun hr => ?_, fun i hi => ?_⟩
    · rw [hnil listed hs hr] at hch
      cases hch
      exact hQ τ a w h
    · have him := hready listed i hi
      obtain ⟨hun, oi, hoi, hall⟩ := mem_ready.1 hi
      have hil := (mem_openL.1 him).1
      obtain ⟨l1, l2, hl⟩ := List.append_of_mem him
      rw [hl] at hch
      have hsort := sorted_openL ops listed
      rw [hl] at hsort
      have hfront := Chain.front hch fun j hj oj oi' hoj hoi' => by
        rw [hoi] at hoi'
        cases hoi'
        have hji : j < i := (List.pairwise_append.1 hsort).2.2 j hj i (by simp)
        rcases hsw i j oi oj hoi hoj hji with hanc | hok
        · exfalso
          have h1 := anc_listed hdc hlt hs hoi hall hanc
          have h2 := (mem_openL.1 (show j ∈ openL ops listed by rw [hl]; simp [hj])).2
          rw [Array.getD_eq_getD_getElem?] at h1 h2
          have : j < listed.size := by omega
          simp [this] at h1 h2
          rw [h1] at h2
          cases h2
        · exact hok
      obtain ⟨o, x, ob, ho, hg, hrest⟩ := hfront
      rw [hoi] at ho
      cases ho
      refine hg.wpOp h hoi (hd _ (Array.mem_of_getElem? hoi)) fun a' w' τ' h' => ?_
      have hset := openL_set hs hil hl
      refine ih (by simp [hs]) ?_ (fun k ok hk hkl e he hb => ?_) (by rw [hset]; exact hrest) h' hQ
      · rw [hset]
        rw [hl] at hlen
        simp at hlen ⊢
        omega
      · by_cases e' : k = i
        · subst e'
          rw [hoi] at hk
          cases hk
          exact getD_set_true (hall e he hb)
        · rw [getD_set_ne true (Ne.symm e')] at hkl
          exact getD_set_true (hdc k ok hk hkl e he hb)
theorem openL_start (ops : Array Oper) : openL ops (Array.replicate ops.size false) = List.range ops.size := by
  unfold openL
  refine List.filter_eq_self.2 fun i hi => ?_
  have := List.mem_range.1 hi
  simp [Array.getD_eq_getD_getElem?, this]
/-- A region. -/
theorem Chain.region {Q : Exit → Act → World → Prop} {id : Nat} {draw : Bool} (hm : P.follows .mixedOrders = true) (hd : ∀ o ∈ ops, ∀ d, o.dst = some d → d < n ∧ E.key d < 1000000000) (hc : draw = true → calm ops M = true) (hch : Chain P E ops M (List.range ops.size) st st') (h : Sim P n w0 imp st τ a w)
    (hQ : ∀ τ' a' w', Sim P n w0 imp st' τ' a' w' → Q .normal a' w') : (Code.region id ops draw).wp P Q a w := by
  cases draw with
  | false => exact wp_region (Chain.wpOps hd hch h hQ)
  | true =>
    refine wp_region_any hm ?_
    refine Chain.wpAny hd (hc rfl) ops.size (st := st) (st' := st') (τ := τ) (by simp) (by rw [openL_start]; simp) (fun i o ho hl => ?_) (by rw [openL_start]; exact hch) (h.same_heap rfl rfl rfl rfl) hQ
    have := (Array.getElem?_eq_some_iff.1 ho).1
    simp [Array.getD_eq_getD_getElem?, this] at hl
end
end Go.Sx
/- The abstract machine, part 18: a function's text as a statement over states ('awp'), and that the statement gives the function's contract. -/
set_option linter.unusedVariables false
set_option linter.unusedSimpArgs false
namespace Go.Sx
open Go Go.RowKit

inductive X where
  | normal
  | exit (id : Nat)
  | ret
abbrev XQ := X → St → Prop
/-- A choice that waits until it is known which. -/
def AIf (c : Bool) (F G : St → Prop) (st : St) : Prop := if c then F st else G st
theorem AIf_true {F G : St → Prop} {st : St} : AIf true F G st = F st := rfl
theorem AIf_false {F G : St → Prop} {st : St} : AIf false F G st = G st := rfl
def askip (d : Option Tmp) (K : St → Prop) (st : St) : Prop := K (st.put d (.tup []))
/-- A call in the text's order. -/
def GCall (P : Program) (f : FuncId) (args : List PV) (d : Option Tmp) (kd : Option Nat) (K : St → Prop) (st : St) : Prop :=
  ∃ x ob, CallRun P f args kd st.o x ob ∧ K (st.after ob d x)
/-- A call in a region that draws its order. -/
def QCall (P : Program) (m : Md) (f : FuncId) (args : List PV) (d : Option Tmp) (K : St → Prop) (st : St) : Prop :=
  ∃ as x, args.mapM (res (st.see m).o 4) = some as ∧ Fn P f as x ∧ (x.flat = true ∨ args.flatMap (keysOf (st.see m).o 4) = []) ∧ K (st.put d x)
/-- An operation that goes through a map. -/
def isIter : Op → Bool
  | .range _ _ | .next _ _ | .entry _ => true
  | _ => false
def itStart (o : Objs) (x : PV) : Option (Nat × Nat × Nat) := match x with
  | .mref km vm => match getMap o km vm with
    | some (.r l) => some (km, vm, l.length)
    | _ => none
  | _ => none
structure ItAt where
  ki : Nat
  vi : Nat
  km : Nat
  vm : Nat
  n : Nat
  seen : List Nat
  l : List (Int × PV)
def itAt (o : Objs) (x : PV) : Option ItAt := match x with
  | .mref ki vi => match o ki with
    | (v', some (true, .mp (.it km vm n seen))) => if v' = vi then (match getMap o km vm with
      | some (.r l) => some ⟨ki, vi, km, vm, n, seen, l⟩
      | _ => none) else none
    | _ => none
  | _ => none
def ARange (r : Option (Nat × Nat × Nat)) (b : Option Mk) (kd k : Nat) (K : St → Prop) (st : St) : Prop := match r, b with
  | some (km, vm, n), some .r => K ((st.new kd (.mp (.it km vm n []))).put (some k) (.mref kd ((st.o kd).1 + 1)))
  | _, _ => False
/-- The next entry: any that has not been met. -/
def ANext (r : Option ItAt) (d : Option Tmp) (K : St → Prop) (st : St) : Prop := match r with
  | some i => i.l.length = i.n ∧ ((∀ j, j < i.n → j ∈ i.seen) → K (st.put d (.tup [.bool false]))) ∧ ∀ j k z, j ∉ i.seen → i.l[j]? = some (k, z) → K (st.after (upd st.o i.ki (i.vi, some (true, .mp (.it i.km i.vm i.n (i.seen ++ [j]))))) d (.tup [.bool true, .int .i64 k, z]))
  | none => False
def AEntry (r : Option ItAt) (d : Option Tmp) (K : St → Prop) (st : St) : Prop := match r with
  | some i => i.l.length = i.n ∧ ∃ pre j k z, i.seen = pre ++ [j] ∧ i.l[j]? = some (k, z) ∧ K (st.put d (.tup [.int .i64 k, z]))
  | none => False
/-- One operation. -/
def aop (P : Program) (E : Env P) (m : Md) (o : Oper) (K : St → Prop) (st : St) : Prop :=
  match o.op with
  | .alloc T => match o.dst, zpv P T with
    | some k, some z => K ((st.new (E.key k) (.box T z.cells)).put (some k) (.ptr (E.key k) ((st.o (E.key k)).1 + 1) 0))
    | _, _ => False
  | .box T y => match m, o.dst with
    | .t, some k => (st.ev y).cells.all (ok1 st.o) = true ∧ K ((st.new (E.key k) (.box T (st.ev y).cells)).put (some k) (.ptr (E.key k) ((st.o (E.key k)).1 + 1) 0))
    | _, _ => False
  | .store T y z => match m, absStore P st T (st.ev y) (st.ev z) with
    | .t, some ob => K (st.after ob o.dst .undef)
    | .s k, some ob => keyP (st.ev y) = some k ∧ K (st.after ob o.dst .undef)
    | _, _ => False
  | .buildSlice T len parts => match m with
    | .t => match len, parts.toList with
      | 0, [] => match selem P T with
        | some _ => K (st.put o.dst .nil)
        | none => False
      | _, _ => match o.dst, absLit P st T len parts.toList with
        | some k, some (e, ys, ks) => K (((st.freeze ks).new (E.key k) (.row e ys)).put (some k) (.ref (E.key k) (((st.freeze ks).o (E.key k)).1 + 1)))
        | _, _ => False
    | m => match absLit P (st.see m) T len parts.toList with
      | some (e, ys, []) => K (st.put o.dst (.sl ys))
      | _ => False
  | .makeSlice T l c => match m, o.dst, absMake P T (st.ev l) (st.ev c) with
    | .t, some k, some (e, xs) => K ((st.new (E.key k) (.row e xs)).put (some k) (.ref (E.key k) ((st.o (E.key k)).1 + 1)))
    | _, _, _ => False
  | .makeMap T r => match m, r, o.dst, mkd P T with
    | .t, none, some k, some b => K ((st.new (E.key k) (.mp (mp0 b))).put (some k) (.mref (E.key k) ((st.o (E.key k)).1 + 1)))
    | _, _, _, _ => False
  | .mapUpdate T y i z => match m, absMset P st T (st.ev y) (st.ev i) (st.ev z) with
    | .t, some ob => K (st.after ob o.dst .undef)
    | _, _ => False
  | .range T y => match m, o.dst with
    | .t, some k => ARange (itStart st.o (st.ev y)) (mkd P T) (E.key k) k K st
    | _, _ => False
  | .next y b => match m, b with
    | .t, false => ANext (itAt st.o (st.ev y)) o.dst K st
    | _, _ => False
  | .entry y => match m with
    | .t => AEntry (itAt st.o (st.ev y)) o.dst K st
    | _ => False
  | .call c => match c.callee with
    | .builtin .append => match m, o.dst, c.args.toList, c.argTypes.toList with
      | .t, some d, [y, z], [T, T'] => T = T' ∧ E.akey d (st.ev y) st.o < 1000000000 ∧ match absAppend P st (E.akey d (st.ev y) st.o) T (st.ev y) (st.ev z) with
        | some (x, ob) => K (st.after ob (some d) x)
        | none => False
      | .u, some d, [y, z], [T, T'] => T = T' ∧ E.akey d (st.ev y) st.o < 1000000000 ∧ match absAppend P st (E.akey d (st.ev y) st.o) T (st.ev y) (st.ev z) with
        | some (x, ob) => (∀ k, k < 1000 → ob k = st.o k) ∧ K (st.after ob (some d) x)
        | none => False
      | _, _, _, _ => False
    | .builtin _ => match pureOp P E (st.see m) o.op with
      | some x => K (st.put o.dst x)
      | none => False
    | _ => match callee st c with
      | some (f, args) => match m with
        | .t => GCall P f args o.dst (o.dst.map E.key) K st
        | m => QCall P m f args o.dst K st
      | none => False
  | op => match pureOp P E (st.see m) op with
    | some x => K (st.put o.dst x)
    | none => False
/-- The operations of a region, one after another. -/
def aops (P : Program) (E : Env P) (ops : Array Oper) (md : Nat → Oper → Md) : List Oper → Nat → (St → Prop) → St → Prop
  | [], i, K, st => K st
  | o :: l, i, K, st => match o.guard with
    | none => aop P E ((md i o).tr E) o (aops P E ops md l (i + 1) K) st
    | some (g, want) => match (ops[g]?).bind (·.dst) with
      | some t => match st.s t with
        | .bool b => AIf (b == want) (aop P E ((md i o).tr E) o (aops P E ops md l (i + 1) K)) (askip o.dst (aops P E ops md l (i + 1) K)) st
        | .tup _ => askip o.dst (aops P E ops md l (i + 1) K) st
        | _ => False
      | none => False
/-- An operation's mode in a region that draws its order, if nothing else is said. -/
def dmd (o : Oper) : Md :=
  match o.op with
  | .store _ _ _ | .box _ _ | .makeSlice _ _ _ | .makeMap _ _ | .mapUpdate _ _ _ _ => .t
  | .call c => match c.callee with
    | .builtin .append => .t
    | _ => .d
  | _ => .d
def mdOf (M : Nat → Nat → Option Md) (id : Nat) (draw : Bool) (i : Nat) (o : Oper) : Md := match draw with
  | false => .t
  | true => (M id i).getD (dmd o)
def Then (F : XQ → St → Prop) (Q : XQ) : XQ
  | .normal, st => F Q st
  | .exit id, st => Q (.exit id) st
  | .ret, st => Q .ret st
def Blk (id : Nat) (Q : XQ) : XQ
  | .normal, st => Q .normal st
  | .exit id', st => if id' = id then Q .normal st else Q (.exit id') st
  | .ret, st => Q .ret st
def Rep (I : Nat → St → Prop) (n : Nat) (Q : XQ) : XQ
  | .normal, st => ∃ m, m < n ∧ I m st
  | .exit id, st => Q (.exit id) st
  | .ret, st => Q .ret st
/-- A loop: by an invariant that counts down. -/
def ALoop (F : XQ → St → Prop) (Q : XQ) (st : St) : Prop :=
  ∃ (I : Nat → St → Prop) (n : Nat), I n st ∧ ∀ n st, I n st → F (Rep I n Q) st
def awp (P : Program) (E : Env P) (M : Nat → Nat → Option Md) : Code → XQ → St → Prop
  | .skip, Q, st => Q .normal st
  | .region id ops draw, Q, st => aops P E ops (mdOf M id draw) ops.toList 0 (Q .normal) st
  | .seq x y, Q, st => awp P E M x (Then (awp P E M y) Q) st
  | .cond c x y, Q, st => match st.ev c with
    | .bool b => AIf b (awp P E M x Q) (awp P E M y Q) st
    | _ => False
  | .block id c, Q, st => awp P E M c (Blk id Q) st
  | .loop c, Q, st => ALoop (awp P E M c) Q st
  | .exit id, Q, st => Q (.exit id) st
  | .ret, Q, st => Q .ret st
  | _, _, _ => False
/-- What the kernel checks of a function's text. -/
def okCode (M : Nat → Nat → Option Md) (n : Nat) : Code → Bool
  | .region id ops draw => (ops.toList.all fun o => match o.dst with | some d => decide (d < n) | none => true) &&
    (!draw || ((ops.toList.all fun o => !isIter o.op) && calm ops fun i => match ops[i]? with | some o => mdOf M id draw i o | none => .t))
  | .seq x y => okCode M n x && okCode M n y
  | .cond _ x y => okCode M n x && okCode M n y
  | .block _ c => okCode M n c
  | .loop c => okCode M n c
  | _ => true

section
variable {P : Program} {E : Env P} {M : Nat → Nat → Option Md} {n : Nat} {w0 : World} {imp : Im} {st st' : St} {τ τ' : Places} {a : Act} {w w' : World} {ops : Array Oper}

theorem put_after (st : St) (d : Option Tmp) (x : PV) : st.put d x = st.after st.o d x := by cases st; rfl
theorem aop_ev {m : Md} {o : Oper} {K : St → Prop} (hni : isIter o.op = false) (h : aop P E m o K st) : ∃ x ob, EV P E m o st x ob ∧ K (st.after ob o.dst x) := by
  have hp : ∀ {op : Op}, o.op = op → (match pureOp P E (st.see m) op with | some x => K (st.put o.dst x) | none => False) → ∃ x ob, EV P E m o st x ob ∧ K (st.after ob o.dst x) := by
    intro op ho h
    split at h
    · rename_i x hx
      exact ⟨x, st.o, .inl ⟨.pure (by rw [ho]; exact hx), rfl⟩, by rw [← put_after]; exact h⟩
    · exact h.elim
  unfold aop at h
  split at h
  · rename_i T ho
    split at h
    · rename_i k z hd hz
      refine ⟨_, _, .inr (.inl ⟨T, k, z, ho, hd, hz, rfl, rfl⟩), ?_⟩
      rw [hd]
      exact h
    · exact h.elim
  · rename_i T y ho
    split at h
    · rename_i k hd
      refine ⟨_, _, .inr (.inr (.inl ⟨rfl, .box T y k ho hd h.1 rfl rfl⟩)), ?_⟩
      rw [hd]
      exact h.2
    · exact h.elim
  · rename_i T y z ho
    split at h
    · rename_i ob hob
      exact ⟨_, _, .inr (.inr (.inl ⟨rfl, .store T y z ho hob rfl⟩)), h⟩
    · rename_i k ob hob
      exact ⟨_, _, .inr (.inr (.inr (.inl ⟨k, rfl, T, y, z, ho, h.1, hob, rfl⟩))), h.2⟩
    · exact h.elim
  · rename_i T len parts ho
    split at h
    · split at h
      · rename_i hpl
        split at h
        · rename_i e he
          obtain rfl : parts = #[] := by cases parts; simp at hpl; simp [hpl]
          exact ⟨.nil, st.o, .inr (.inr (.inl ⟨rfl, .lit0 T e.1 e.2 ho he rfl rfl⟩)), by rw [← put_after]; exact h⟩
        · exact h.elim
      · split at h
        · rename_i k e ys ks hd hl
          refine ⟨_, _, .inr (.inr (.inl ⟨rfl, .lit T _ parts e ys ks k ho hd hl rfl rfl⟩)), ?_⟩
          rw [hd]
          exact h
        · exact h.elim
    · split at h
      · rename_i e ys hl
        exact ⟨_, st.o, .inl ⟨.lit T len parts e ys ho hl rfl, rfl⟩, by rw [← put_after]; exact h⟩
      · exact h.elim
  · rename_i T l c ho
    split at h
    · rename_i k e xs hd hm
      refine ⟨_, _, .inr (.inr (.inl ⟨rfl, .make T e l c xs k ho hd hm rfl rfl⟩)), ?_⟩
      rw [hd]
      exact h
    · exact h.elim
  · rename_i T r ho
    split at h
    · rename_i k b hd hm
      refine ⟨_, _, .inr (.inr (.inl ⟨rfl, .makeMap T b k ho hd hm rfl rfl⟩)), ?_⟩
      rw [hd]
      exact h
    · exact h.elim
  · rename_i T y i z ho
    split at h
    · rename_i ob hob
      exact ⟨_, _, .inr (.inr (.inl ⟨rfl, .mapUpdate T y i z ho hob rfl⟩)), h⟩
    · exact h.elim
  · rename_i T y ho; simp [ho, isIter] at hni
  · rename_i y b ho; simp [ho, isIter] at hni
  · rename_i y ho; simp [ho, isIter] at hni
  · rename_i c ho
    split at h
    · rename_i hc
      split at h
      · rename_i d y z T T' hd hargs htys
        obtain ⟨rfl, hak, h⟩ := h
        split at h
        · rename_i x ob hx
          have e1 : c.args = #[y, z] := by cases hq : c.args; rw [hq] at hargs; simp at hargs; simp [hargs]
          have e2 : c.argTypes = #[T, T] := by cases hq : c.argTypes; rw [hq] at htys; simp at htys; simp [htys]
          refine ⟨x, ob, .inr (.inr (.inl ⟨rfl, .append c d T y z ho hd hc e1 e2 hak hx⟩)), ?_⟩
          rw [hd]
          exact h
        · exact h.elim
      · rename_i d y z T T' hd hargs htys
        obtain ⟨rfl, hak, h⟩ := h
        split at h
        · rename_i x ob hx
          have e1 : c.args = #[y, z] := by cases hq : c.args; rw [hq] at hargs; simp at hargs; simp [hargs]
          have e2 : c.argTypes = #[T, T] := by cases hq : c.argTypes; rw [hq] at htys; simp at htys; simp [htys]
          refine ⟨x, ob, .inr (.inr (.inr (.inr ⟨rfl, h.1, .append c d T y z ho hd hc e1 e2 hak hx⟩))), ?_⟩
          rw [hd]
          exact h.2
        · exact h.elim
      · exact h.elim
    · exact hp ho (by rw [ho] at h; exact h)
    · split at h
      · rename_i f args hf
        split at h
        · obtain ⟨x, ob, hC, hK⟩ := h
          exact ⟨x, ob, .inr (.inr (.inl ⟨rfl, .call c f args ho hf hC⟩)), hK⟩
        · obtain ⟨as, x, h1, h2, h3, hK⟩ := h
          exact ⟨x, st.o, .inl ⟨.call c f args as ho (by rw [callee_see]; exact hf) h1 h2 h3, rfl⟩, by rw [← put_after]; exact hK⟩
      · exact h.elim
  · rename_i op _ _ _ _ _ _ _ _ _ _ _
    exact hp rfl h
theorem aops_chain {md : Nat → Oper → Md} {K : St → Prop} {Mf : Nat → Md} (hM : ∀ (i : Nat) (o : Oper), ops[i]? = some o → Mf i = md i o) : ∀ (l : List Oper) (i : Nat) (st : St), (∀ o ∈ l, isIter o.op = false) → (∀ (j : Nat) (o : Oper), l[j]? = some o → ops[i + j]? = some o) → aops P E ops md l i K st → ∃ st', Chain P E ops Mf (List.range' i l.length) st st' ∧ K st'
  | [], i, st, hni, hl, h => ⟨st, rfl, h⟩
  | o :: l, i, st, hni, hl, h => by
    have hni' : ∀ o ∈ l, isIter o.op = false := fun o' h' => hni o' (by simp [h'])
    have ho : ops[i]? = some o := hl 0 o rfl
    have hl' : ∀ (j : Nat) (o : Oper), l[j]? = some o → ops[i + 1 + j]? = some o := fun j o' hj => by rw [Nat.add_assoc, Nat.add_comm 1]; exact hl (j + 1) o' (by simpa using hj)
    have run : gd ops o st = some true → aop P E ((md i o).tr E) o (aops P E ops md l (i + 1) K) st → ∃ st', Chain P E ops Mf (List.range' i (o :: l).length) st st' ∧ K st' := by
      intro hg h
      obtain ⟨x, ob, he, hK⟩ := aop_ev (hni o (by simp)) h
      obtain ⟨st', h1, h2⟩ := aops_chain hM l (i + 1) _ hni' hl' hK
      exact ⟨st', ⟨o, x, ob, ho, .inr ⟨hg, by rw [hM i o ho]; exact he⟩, h1⟩, h2⟩
    unfold aops at h
    split at h
    · rename_i hg
      exact run (by simp [gd, hg]) h
    · rename_i g want hg
      split at h
      · rename_i t ht
        split at h
        · rename_i b hb
          unfold AIf at h
          split at h
          · rename_i hw
            exact run (by simp only [gd, hg, ht, hb]; rw [hw]) h
          · rename_i hw
            obtain ⟨st', h1, h2⟩ := aops_chain hM l (i + 1) _ hni' hl' h
            refine ⟨st', ⟨o, .tup [], st.o, ho, .inl ⟨by simp only [gd, hg, ht, hb]; simp only [Bool.not_eq_true] at hw; rw [hw], rfl, rfl⟩, ?_⟩, h2⟩
            rw [← put_after]
            exact h1
        · rename_i cs hb
          obtain ⟨st', h1, h2⟩ := aops_chain hM l (i + 1) _ hni' hl' h
          refine ⟨st', ⟨o, .tup [], st.o, ho, .inl ⟨by simp only [gd, hg, ht, hb], rfl, rfl⟩, ?_⟩, h2⟩
          rw [← put_after]
          exact h1
        · exact h.elim
      · exact h.elim
theorem itStart_some {o : Objs} {x : PV} {km vm c : Nat} (h : itStart o x = some (km, vm, c)) : ∃ b l, x = .mref km vm ∧ o km = (vm, some (b, .mp (.r l))) ∧ c = l.length := by
  unfold itStart at h
  split at h
  · split at h
    · rename_i l hm
      cases h
      obtain ⟨b, hb⟩ := getMap_some hm
      exact ⟨b, l, rfl, hb, rfl⟩
    · cases h
  · cases h
theorem itAt_some {o : Objs} {x : PV} {i : ItAt} (h : itAt o x = some i) : x = .mref i.ki i.vi ∧ o i.ki = (i.vi, some (true, .mp (.it i.km i.vm i.n i.seen))) ∧ ∃ b, o i.km = (i.vm, some (b, .mp (.r i.l))) := by
  unfold itAt at h
  split at h
  · split at h
    · rename_i hk
      split at h
      · rename_i hv
        split at h
        · rename_i l hm
          cases h
          exact ⟨rfl, by rw [hk, hv], getMap_some hm⟩
        · cases h
      · cases h
    · cases h
  · cases h
/-- What lies in memory of a way through a map. -/
theorem itAt_mem (h : Sim P n w0 imp st τ a w) {i : ItAt} {y : Operand} (hi : itAt st.o (st.ev y) = some i) (hl : i.l.length = i.n) : ∃ es : Array MapEntry, a.eval y = .pointer (some ⟨(τ i.ki).1, 0, none⟩) ∧ w.heap[(τ i.ki).1]? = some (.mapIter (some (τ i.km).1) i.n i.seen.toArray i.n) ∧
    w.heap[(τ i.km).1]? = some (.map es i.n) ∧ es.size = i.n ∧ es.toList.map (·.born) = List.range i.n ∧ (∀ (j : Nat) (k : Int) (z : PV) (e : MapEntry), i.l[j]? = some (k, z) → es[j]? = some e → e.key = .int .i64 k ∧ Val P st.o τ w z e.val) ∧ Val P st.o τ w (.mref i.km i.vm) (.map (some (τ i.km).1)) := by
  obtain ⟨e1, e2, b, e3⟩ := itAt_some hi
  have hv := ev_val h.slots y
  rw [e1] at hv
  obtain ⟨x, hx1, g, rfl, hvm⟩ := h.holds.mp i.ki i.vi true _ e2
  have hg : g = (τ i.km).1 := by
    cases hvm with
    | pure h' => cases h'
    | mref k ver v hv hp =>
      have := hp b _ e3
      rw [Mp.at_map rfl] at this
      simpa using this
  subst hg
  obtain ⟨es, clock, hb, hes⟩ := (h.holds.mp i.km i.vm b _ e3).map rfl
  obtain ⟨f1, f2, f3, f4⟩ := hes
  refine ⟨es, ?_, hx1, by rw [hb, f4, hl], by rw [← hl, ← f1]; simp, by rw [f3, hl], fun j k z e hj he => f2 j k z e hj (by simpa using he), hvm⟩
  generalize a.eval y = av at hv
  cases hv with
  | pure h' => cases h'
  | mref k ver v hv hp => exact hp true _ e2
theorem born_at {es : Array MapEntry} {c : Nat} (hs : es.size = c) (hb : es.toList.map (·.born) = List.range c) {j : Nat} (hj : j < c) : ∃ e, es[j]? = some e ∧ e.born = j := by
  have h := congrArg (fun z => z[j]?) hb
  have hj' : j < es.size := by omega
  simp only [List.getElem?_map, Array.getElem?_toList, Array.getElem?_eq_getElem hj', Option.map_some, List.getElem?_range hj, Option.some.injEq] at h
  exact ⟨es[j], Array.getElem?_eq_getElem hj', h⟩
theorem aop_wp {E : Env P} (h : Sim P n w0 imp st τ a w) {o : Oper} (hd : ∀ d, o.dst = some d → d < n ∧ E.key d < 1000000000) {K : St → Prop} (ha : aop P E .t o K st) {K' : Act → World → Prop} {Q : Exit → Act → World → Prop} (hK : ∀ st' τ' a' w', Sim P n w0 imp st' τ' a' w' → K st' → K' a' w') : o.wp P a w K' Q := by
  cases hi : isIter o.op with
  | false =>
    obtain ⟨x, ob, he, hk⟩ := aop_ev hi ha
    exact he.wp h (fun d e => (hd d e).2) fun v w' τ' h1 h2 => hK _ τ' _ _ (h1.put (fun d e => (hd d e).1) h2) hk
  | true =>
    unfold isIter at hi
    split at hi
    · rename_i T y ho
      simp only [aop, ho] at ha
      cases hdk : o.dst with
      | none => simp [hdk] at ha
      | some k =>
        simp only [hdk] at ha
        unfold ARange at ha
        split at ha
        · rename_i km vm c hs hm
          obtain ⟨b, l, e1, e3, rfl⟩ := itStart_some hs
          have hv := ev_val h.slots y
          rw [e1] at hv
          obtain ⟨es, clock, hb, f1, f2, f3, f4⟩ := (h.holds.mp km vm b _ e3).map rfl
          obtain ⟨kk, e, it, hT, _⟩ := mkd_some hm
          have hav : a.eval y = .map (some (τ km).1) := by
            generalize a.eval y = av at hv
            cases hv with
            | pure h' => cases h'
            | mref k ver v hv hp => rw [hp b _ e3, Mp.at_map rfl]
          rw [hav] at hv
          have hrun : (execOp a.eval o).run P w = .ok (.value (.pointer (some ⟨w.heap.size, 0, none⟩))) (w.alloc (.mapIter (some (τ km).1) clock #[] clock)) := by
            simp [execOp, ho, hav, Instr.range, run_underlying hT, MapKept.run_getObj_map hb, Result.andThen, newObj, Sem.run]
          unfold Oper.wp
          rw [hrun]
          refine hK _ _ _ _ ((h.newMap (E.key k) (hd k hdk).2 (.it km vm l.length []) (.mapIter (some (τ km).1) clock #[] clock) ⟨(τ km).1, by rw [f4], hv⟩).put (fun d e => (hd d e).1) (x := .mref (E.key k) ((st.o (E.key k)).1 + 1)) ?_) (by rw [hdk]; exact ha)
          refine .mref _ _ _ (by rw [new_self]; exact Nat.le_refl _) fun b' m' hk' => ?_
          rw [new_self] at hk'
          simp only [Prod.mk.injEq, Option.some.injEq, Ob.mp.injEq] at hk'
          obtain ⟨_, _, rfl⟩ := hk'
          rw [upd_same]
          rfl
        · exact ha.elim
    · rename_i y b ho
      simp only [aop, ho] at ha
      split at ha
      · unfold ANext at ha
        split at ha
        · rename_i i hit
          obtain ⟨hl, ha0, ha1⟩ := ha
          obtain ⟨es, hav, hr, hb, hs, hborn, hent, hvm⟩ := itAt_mem h hit hl
          have hold : ∀ x ∈ es.toList, x.born < i.n := fun x hx => by
            have : x.born ∈ es.toList.map (·.born) := List.mem_map.2 ⟨x, hx, rfl⟩
            rw [hborn] at this
            exact List.mem_range.1 this
          rcases run_next_at (P := P) w o.type (τ i.ki).1 (τ i.km).1 i.n i.n i.seen.toArray es i.n hr hb hold (Nat.le_refl _) with ⟨h0, hrun⟩ | ⟨e, he, w1, hw1, hrun⟩
          · have hex : (execOp a.eval o).run P w = .ok (.value (.tuple #[.bool false])) w := by
              simp [execOp, ho, hav, hrun]
            unfold Oper.wp
            rw [hex]
            refine hK _ _ _ _ (h.put (fun d e => (hd d e).1) (x := .tup [.bool false]) ?_) (ha0 fun j hj => ?_)
            · refine .tup _ _ rfl fun j z u hz hu => ?_
              match j, hz, hu with
              | 0, hz, hu => simp at hz hu; subst hz; subst hu; exact Val.bool_ _
              | j + 1, hz, hu => simp at hz
            · obtain ⟨e, he, hej⟩ := born_at hs hborn hj
              by_cases hc : j ∈ i.seen
              · exact hc
              · exfalso
                have hmem : e ∈ leftOf es i.seen.toArray := by
                  unfold leftOf
                  rw [Array.mem_filter]
                  exact ⟨Array.mem_of_getElem? he, by simp [hej, hc]⟩
                have : leftOf es i.seen.toArray = #[] := Array.eq_empty_of_size_eq_zero h0
                rw [this] at hmem
                simp at hmem
          · have hmem : e ∈ es ∧ e.born ∉ i.seen := by
              have := Array.mem_toList_iff.1 he
              unfold leftOf at this
              rw [Array.mem_filter] at this
              exact ⟨this.1, by simpa using this.2⟩
            obtain ⟨j, hjs, hj⟩ := Array.getElem_of_mem hmem.1
            have hj? : es[j]? = some e := by rw [Array.getElem?_eq_getElem hjs, hj]
            obtain ⟨e', he', hej⟩ := born_at hs hborn (show j < i.n by omega)
            obtain rfl : e' = e := by rw [hj?] at he'; cases he'; rfl
            have hlj : j < i.l.length := by omega
            obtain ⟨⟨k, z⟩, hkz⟩ : ∃ p, i.l[j]? = some p := ⟨_, List.getElem?_eq_getElem hlj⟩
            obtain ⟨hkey, hval⟩ := hent j k z e' hkz hj?
            have hex : (execOp a.eval o).run P w = .ok (.value (.tuple #[.bool true, e'.key, e'.val])) (ChangeMaps.setBlock w1 (τ i.ki).1 (.mapIter (some (τ i.km).1) i.n (i.seen.toArray.push e'.born) i.n)) := by
              simp [execOp, ho, hav, hrun]
            obtain ⟨_, e2, b', e3⟩ := itAt_some hit
            have hw1h : w1.heap = w.heap := by rcases hw1 with rfl | rfl <;> rfl
            have hlt : (τ i.ki).1 < w.heap.size := (Array.getElem?_eq_some_iff.1 hr).1
            obtain ⟨hsim, hext⟩ := h.writeMap (w' := ChangeMaps.setBlock w1 (τ i.ki).1 (.mapIter (some (τ i.km).1) i.n (i.seen.toArray.push e'.born) i.n)) (m' := .it i.km i.vm i.n (i.seen ++ [j])) e2 rfl
              ⟨.mapIter (some (τ i.km).1) i.n (i.seen.toArray.push e'.born) i.n, by simp [ChangeMaps.setBlock, hw1h, hlt], ⟨(τ i.km).1, by rw [hej]; simp, hvm⟩⟩ (fun b hb => by simp [ChangeMaps.setBlock, hw1h, Array.getElem?_setIfInBounds, Ne.symm hb]) (by simp [ChangeMaps.setBlock, hw1h]) (by rcases hw1 with rfl | rfl <;> rfl) (by rcases hw1 with rfl | rfl <;> rfl) (by rcases hw1 with rfl | rfl <;> rfl)
            unfold Oper.wp
            rw [hex]
            refine hK _ _ _ _ (hsim.put (fun d e => (hd d e).1) (x := .tup [.bool true, .int .i64 k, z]) ?_) (ha1 j k z (by rw [← hej]; exact hmem.2) hkz)
            refine .tup _ _ rfl fun q z' u hz hu => ?_
            match q, hz, hu with
            | 0, hz, hu => simp at hz hu; subst hz; subst hu; exact Val.bool_ _
            | 1, hz, hu => simp at hz hu; subst hz; subst hu; rw [hkey]; exact Val.int_ _ _
            | 2, hz, hu => simp at hz hu; subst hz; subst hu; exact hval.ext hext
            | q + 3, hz, hu => simp at hz
        · exact ha.elim
      · exact ha.elim
    · rename_i y ho
      simp only [aop, ho] at ha
      unfold AEntry at ha
      split at ha
      · rename_i i hit
        obtain ⟨hl, pre, j, k, z, hseen, hkz, hk⟩ := ha
        obtain ⟨es, hav, hr, hb, hs, hborn, hent, hvm⟩ := itAt_mem h hit hl
        have hlj : j < i.n := by rw [← hl]; exact (List.getElem?_eq_some_iff.1 hkz).1
        obtain ⟨e, he, hej⟩ := born_at hs hborn hlj
        obtain ⟨hkey, hval⟩ := hent j k z e hkz he
        have hr' : w.heap[(τ i.ki).1]? = some (.mapIter (some (τ i.km).1) i.n (pre.toArray.push e.born) i.n) := by
          rw [hr, hseen, hej]; simp
        have hrun := run_entry_at (P := P) w (τ i.ki).1 (τ i.km).1 i.n pre.toArray es i.n e hr' hb (Array.mem_toList_iff.2 (Array.mem_of_getElem? he)) (by rw [hborn]; exact List.nodup_range)
        have hex : (execOp a.eval o).run P w = .ok (.value (.tuple #[e.key, e.val])) w := by
          simp [execOp, ho, hav, hrun]
        unfold Oper.wp
        rw [hex]
        refine hK _ _ _ _ (h.put (fun d e => (hd d e).1) (x := .tup [.int .i64 k, z]) ?_) hk
        refine .tup _ _ rfl fun q z' u hz hu => ?_
        match q, hz, hu with
        | 0, hz, hu => simp at hz hu; subst hz; subst hu; rw [hkey]; exact Val.int_ _ _
        | 1, hz, hu => simp at hz hu; subst hz; subst hu; exact hval
        | q + 2, hz, hu => simp at hz
      · exact ha.elim
    · cases hi
/-- The operations of a region in the text's order. -/
theorem aops_wp {E : Env P} {md : Nat → Oper → Md} (hmd : ∀ i o, md i o = .t) (hd : ∀ o ∈ ops, ∀ d, o.dst = some d → d < n ∧ E.key d < 1000000000) {K : St → Prop} {Q : Exit → Act → World → Prop} : ∀ (l : List Oper) (i : Nat) (st : St) (τ : Places) (a : Act) (w : World), (∀ (j : Nat) (o : Oper), l[j]? = some o → ops[i + j]? = some o) →
    aops P E ops md l i K st → Sim P n w0 imp st τ a w → (∀ st' τ' a' w', Sim P n w0 imp st' τ' a' w' → K st' → Q .normal a' w') → Go.wpOps P ops Q (List.range' i l.length) a w
  | [], i, st, τ, a, w, hl, h, hs, hK => hK st τ a w hs h
  | o :: l, i, st, τ, a, w, hl, h, hs, hK => by
    have ho : ops[i]? = some o := hl 0 o rfl
    have hl' : ∀ (j : Nat) (o : Oper), l[j]? = some o → ops[i + 1 + j]? = some o := fun j o' hj => by rw [Nat.add_assoc, Nat.add_comm 1]; exact hl (j + 1) o' (by simpa using hj)
    have hdo := hd o (Array.mem_of_getElem? ho)
    rw [show List.range' i (o :: l).length = i :: List.range' (i + 1) l.length from rfl, wpOps_cons]
    have run : gd ops o st = some true → aop P E ((md i o).tr E) o (aops P E ops md l (i + 1) K) st → Go.wpOp P ops Q i (Go.wpOps P ops Q (List.range' (i + 1) l.length)) a w := by
      intro hg h
      unfold Go.wpOp
      simp only [ho]
      rw [gd_yielded hs hg]
      simp only [if_true]
      rw [hmd] at h
      exact .inl (aop_wp hs hdo h fun st' τ' a' w' h1 h2 => aops_wp hmd hd l (i + 1) st' τ' a' w' hl' h2 h1 hK)
    have skip : gd ops o st = some false → aops P E ops md l (i + 1) K (st.put o.dst (.tup [])) → Go.wpOp P ops Q i (Go.wpOps P ops Q (List.range' (i + 1) l.length)) a w := by
      intro hg h
      unfold Go.wpOp
      simp only [ho]
      rw [gd_yielded hs hg]
      simp only [Bool.false_eq_true, if_false]
      exact aops_wp hmd hd l (i + 1) _ τ _ w hl' h (hs.put (fun d e => (hdo d e).1) (.pure (.tup [] #[] rfl (by simp)))) hK
    unfold aops at h
    split at h
    · rename_i hg
      exact run (by simp [gd, hg]) h
    · rename_i g want hg
      split at h
      · rename_i t ht
        split at h
        · rename_i b hb
          unfold AIf at h
          split at h
          · rename_i hw
            exact run (by simp only [gd, hg, ht, hb]; rw [hw]) h
          · rename_i hw
            exact skip (by simp only [gd, hg, ht, hb]; simp only [Bool.not_eq_true] at hw; rw [hw]) h
        · rename_i cs hb
          exact skip (by simp only [gd, hg, ht, hb]) h
        · exact h.elim
      · exact h.elim
/-- What holds at the text's end, said of the machine. -/
def QK (P : Program) (n : Nat) (w0 : World) (imp : Im) (Q : XQ) : Exit → Act → World → Prop
  | .normal, a, w => ∃ st τ, Sim P n w0 imp st τ a w ∧ Q .normal st
  | .exit id, a, w => ∃ st τ, Sim P n w0 imp st τ a w ∧ Q (.exit id) st
  | .ret, a, w => ∃ st τ, Sim P n w0 imp st τ a w ∧ Q .ret st
  | _, _, _ => False
theorem awp_sound (hm : P.follows .mixedOrders = true) (hE : ∀ d, d < n → E.key d < 1000000000) : ∀ (c : Code) (Q : XQ) (st : St) (τ : Places) (a : Act) (w : World), okCode M n c = true → awp P E M c Q st → Sim P n w0 imp st τ a w → c.wp P (QK P n w0 imp Q) a w
  | .skip, Q, st, τ, a, w, hok, h, hs => wp_skip ⟨st, τ, hs, h⟩
  | .region id ops draw, Q, st, τ, a, w, hok, h, hs => by
    simp only [okCode, Bool.and_eq_true] at hok
    obtain ⟨hok1, hok2⟩ := hok
    rw [List.all_eq_true] at hok1
    simp only [awp] at h
    have hd : ∀ o ∈ ops, ∀ d, o.dst = some d → d < n ∧ E.key d < 1000000000 := fun o ho d hd => by
      have := hok1 o (by simpa using ho)
      have hlt : d < n := by simpa [hd] using this
      exact ⟨hlt, hE d hlt⟩
    cases draw with
    | false =>
      refine wp_region ?_
      have := aops_wp (fun i o => rfl) hd ops.toList 0 st τ a w (fun j o hj => by simpa using hj) h hs (Q := QK P n w0 imp Q) fun st' τ' a' w' h1 h2 => ⟨st', τ', h1, h2⟩
      rw [List.range_eq_range']
      simpa using this
    | true =>
      simp only [Bool.not_true, Bool.false_or, Bool.and_eq_true] at hok2
      obtain ⟨hok2, hok3⟩ := hok2
      obtain ⟨st', h1, h2⟩ := aops_chain (Mf := fun i => match ops[i]? with | some o => mdOf M id true i o | none => .t) (fun i o ho => by simp [ho]) ops.toList 0 st (fun o ho => by have := List.all_eq_true.1 hok2 o ho; simpa using this) (fun j o hj => by simpa using hj) h
      exact Chain.region (st' := st') hm hd (fun _ => hok3) (by rw [← List.range_eq_range'] at h1; simpa using h1) hs fun τ' a' w' h' => ⟨st', τ', h', h2⟩
  | .seq x y, Q, st, τ, a, w, hok, h, hs => by
    simp only [okCode, Bool.and_eq_true] at hok
    refine wp_seq (wp_mono (awp_sound hm hE x _ st τ a w hok.1 h hs) fun e a' w' he => ?_)
    cases e with
    | normal => obtain ⟨st', τ', h1, h2⟩ := he; exact awp_sound hm hE y Q st' τ' a' w' hok.2 h2 h1
    | exit id => obtain ⟨st', τ', h1, h2⟩ := he; exact ⟨st', τ', h1, h2⟩
    | ret => obtain ⟨st', τ', h1, h2⟩ := he; exact ⟨st', τ', h1, h2⟩
    | goto l => exact he
    | panic c => exact he
    | outgrown => exact he
  | .cond c x y, Q, st, τ, a, w, hok, h, hs => by
    simp only [okCode, Bool.and_eq_true] at hok
    simp only [awp] at h
    split at h
    · rename_i b hb
      have hc := ev_val hs.slots c
      rw [hb] at hc
      cases b with
      | true => exact wp_cond_true hc.bool_inv (awp_sound hm hE x Q st τ a w hok.1 h hs)
      | false => exact wp_cond_false hc.bool_inv (awp_sound hm hE y Q st τ a w hok.2 h hs)
    · exact h.elim
  | .block id c, Q, st, τ, a, w, hok, h, hs => by
    refine wp_block (wp_mono (awp_sound hm hE c _ st τ a w hok h hs) fun e a' w' he => ?_)
    cases e with
    | normal => exact he
    | exit id' =>
      obtain ⟨st', τ', h1, h2⟩ := he
      simp only [Exit.inBlock]
      simp only [Blk] at h2
      split
      · rename_i e; rw [if_pos e] at h2; exact ⟨st', τ', h1, h2⟩
      · rename_i e; rw [if_neg e] at h2; exact ⟨st', τ', h1, h2⟩
    | ret => exact he
    | goto l => exact he
    | panic c => exact he
    | outgrown => exact he
  | .loop c, Q, st, τ, a, w, hok, h, hs => by
    obtain ⟨I, m0, h0, hI⟩ := h
    intro b k cs
    have key : ∀ m st τ a w, I m st → Sim P n w0 imp st τ a w → ∃ e a' w', QK P n w0 imp Q e a' w' ∧ Arrives P (lone (b.at a (.code c :: .inLoop c :: k)) cs w) b k cs e a' w' := by
      intro m
      induction m using Nat.strongRecOn with
      | _ m ih =>
        intro st τ a w hst hsim
        obtain ⟨e, a₁, w₁, hq, harr⟩ := awp_sound hm hE c _ st τ a w hok (hI m st hst) hsim b (.inLoop c :: k) cs
        cases e with
        | normal =>
          obtain ⟨st', τ', h1, m', h2, h3⟩ := hq
          obtain ⟨e₂, a₂, w₂, hq₂, harr₂⟩ := ih m' h2 st' τ' a₁ w₁ h3 h1
          exact ⟨e₂, a₂, w₂, hq₂, .of_steps (Steps.trans harr (.one step_inLoop)) harr₂⟩
        | exit id => obtain ⟨st', τ', h1, h2⟩ := hq; exact ⟨.exit id, a₁, w₁, ⟨st', τ', h1, h2⟩, .pass (x := .inLoop c) rfl (fun _ _ => .inl (by simp)) harr⟩
        | ret => obtain ⟨st', τ', h1, h2⟩ := hq; exact ⟨.ret, a₁, w₁, ⟨st', τ', h1, h2⟩, .pass (x := .inLoop c) rfl (fun _ _ => .inl (by simp)) harr⟩
        | goto l => exact hq.elim
        | panic c => exact hq.elim
        | outgrown => exact hq.elim
    obtain ⟨e, a', w', hq, harr⟩ := key m0 st τ a w h0 hs
    exact ⟨e, a', w', hq, .of_steps (.one step_loop) harr⟩
  | .exit id, Q, st, τ, a, w, hok, h, hs => wp_exit ⟨st, τ, hs, h⟩
  | .ret, Q, st, τ, a, w, hok, h, hs => wp_ret ⟨st, τ, hs, h⟩
  | .rangeFunc _ _ _ _, _, _, _, _, _, _, h, _ => h.elim
  | .scope _, _, _, _, _, _, _, h, _ => h.elim
  | .label _, _, _, _, _, _, _, h, _ => h.elim
  | .goto _, _, _, _, _, _, _, h, _ => h.elim
  | .refuse _, _, _, _, _, _, _, h, _ => h.elim
end
end Go.Sx
/- The abstract machine, part 19: from a function's text to its contract. -/
set_option linter.unusedVariables false
set_option linter.unusedSimpArgs false
namespace Go.Sx
open Go Go.RowKit

def resVar (P : Program) (st : St) : ResultVar → Option PV
  | .tmp t => some (st.s t)
  | .cell a T => absLoad P st.o T (st.s a)
def resultPV (P : Program) (st : St) (rs : List ResultVar) : Option PV :=
  match rs with
  | [] => some (.tup [])
  | [r] => resVar P st r
  | [r1, r2] => match resVar P st r1, resVar P st r2 with
    | some x, some y => some (.tup [x, y])
    | _, _ => none
  | [r1, r2, r3] => match resVar P st r1, resVar P st r2, resVar P st r3 with
    | some x, some y, some z => some (.tup [x, y, z])
    | _, _, _ => none
  | _ => none
/-- At a function's end: what it returns. -/
def AFin (P : Program) (rs : Array ResultVar) (R : Rs) (st : St) : Prop :=
  match resultPV P st rs.toList with
  | some y => match R with
    | .fr r => res st.o 5 y = some r
    | .row e xs => match y with
      | .ref k v => st.o k = (v, some (true, .row e xs))
      | _ => False
  | none => False
def Fin (P : Program) (rs : Array ResultVar) (R : Rs) : XQ
  | .normal, st => AFin P rs R st
  | .ret, st => AFin P rs R st
  | .exit _, _ => False

section
variable {P : Program} {E : Env P} {M : Nat → Nat → Option Md} {n : Nat} {w0 : World} {imp : Im} {st st' : St} {τ τ' : Places} {a : Act} {w w' : World} {ops : Array Oper}

/-- What a result variable holds. -/
def RV (P : Program) (a : Act) (w : World) (v : Value) : ResultVar → Prop
  | .tmp t => a.tmps[t]?.getD undef = v
  | .cell ad t => ∃ q, a.tmps[ad]?.getD undef = .pointer (some q) ∧ (loadVar t q).run P w = .ok v w
theorem resVar_sound (h : Sim P n w0 imp st τ a w) {r : ResultVar} {x : PV} (hx : resVar P st r = some x) : ∃ v, RV P a w v r ∧ Val P st.o τ w x v := by
  cases r with
  | tmp t =>
    cases hx
    have := h.slots t
    rw [Array.getD_eq_getD_getElem?] at this
    exact ⟨_, rfl, this⟩
  | cell ad t =>
    simp only [resVar] at hx
    have hs := h.slots ad
    rw [Array.getD_eq_getD_getElem?] at hs
    obtain ⟨u, h1, h2⟩ := load_sound h.holds hs hx
    refine ⟨u, ?_, h2⟩
    unfold RV
    generalize hv : a.tmps[ad]?.getD undef = v at h1
    simp only [Instr.loadAt] at h1
    cases v with
    | pointer p =>
      cases p with
      | none => simp [Instr.sureAddr, stuck] at h1
      | some q => exact ⟨q, hv, by simpa [Instr.sureAddr] using h1⟩
    | _ => simp [Instr.sureAddr, stuck] at h1
theorem result_sound (h : Sim P n w0 imp st τ a w) {fn : Func} {y : PV} (hy : resultPV P st fn.results.toList = some y) : ∃ v, (results fn a.tmps).run P w = .ok v w ∧ Val P st.o τ w y v := by
  unfold results
  generalize hrs : fn.results = rs at hy ⊢
  obtain ⟨l⟩ := rs
  unfold resultPV at hy
  split at hy
  · rename_i e
    simp only at e
    subst e
    cases hy
    exact ⟨.tuple #[], by simp, .tup [] #[] rfl (by simp)⟩
  · rename_i r e
    simp only at e
    subst e
    obtain ⟨v, h1, h2⟩ := resVar_sound h hy
    refine ⟨v, ?_, h2⟩
    cases r <;> simp only [RV] at h1
    · simp [h1]
    · obtain ⟨q, h1, h1'⟩ := h1; simp [h1, h1', asAddr]
  · rename_i r1 r2 e
    simp only at e
    subst e
    split at hy
    · rename_i x1 x2 e1 e2
      cases hy
      obtain ⟨v1, h1, h1'⟩ := resVar_sound h e1
      obtain ⟨v2, h2, h2'⟩ := resVar_sound h e2
      refine ⟨.tuple #[v1, v2], ?_, .tup _ _ rfl fun j z u hz hu => ?_⟩
      · cases r1 <;> cases r2 <;> simp only [RV] at h1 h2
        · simp [h1, h2]
        · obtain ⟨q2, h2, h2'⟩ := h2; simp [h1, h2, h2', asAddr]
        · obtain ⟨q1, h1, h1'⟩ := h1; simp [h1, h2, h1', asAddr]
        · obtain ⟨q1, h1, h1'⟩ := h1; obtain ⟨q2, h2, h2'⟩ := h2; simp [h1, h2, h1', h2', asAddr]
      · match j, hz, hu with
        | 0, hz, hu => simp at hz hu; subst hz; subst hu; exact h1'
        | 1, hz, hu => simp at hz hu; subst hz; subst hu; exact h2'
        | j + 2, hz, hu => simp at hz
    · cases hy
  · rename_i r1 r2 r3 e
    simp only at e
    subst e
    split at hy
    · rename_i x1 x2 x3 e1 e2 e3
      cases hy
      obtain ⟨v1, h1, h1'⟩ := resVar_sound h e1
      obtain ⟨v2, h2, h2'⟩ := resVar_sound h e2
      obtain ⟨v3, h3, h3'⟩ := resVar_sound h e3
      refine ⟨.tuple #[v1, v2, v3], ?_, .tup _ _ rfl fun j z u hz hu => ?_⟩
      · cases r1 <;> cases r2 <;> cases r3 <;> simp only [RV] at h1 h2 h3 <;> (try obtain ⟨q1, h1, h1''⟩ := h1) <;> (try obtain ⟨q2, h2, h2''⟩ := h2) <;> (try obtain ⟨q3, h3, h3''⟩ := h3) <;> simp [asAddr, *]
      · match j, hz, hu with
        | 0, hz, hu => simp at hz hu; subst hz; subst hu; exact h1'
        | 1, hz, hu => simp at hz hu; subst hz; subst hu; exact h2'
        | 2, hz, hu => simp at hz hu; subst hz; subst hu; exact h3'
        | j + 3, hz, hu => simp at hz
    · cases hy
  · cases hy

/-- The first state: nothing is one's own. -/
noncomputable def o0 (B : Nat → Prop) (w : World) : Objs := by
  classical
  exact fun k => if 1000000000 ≤ k ∧ k - 1000000000 < w.heap.size ∧ ¬ B (k - 1000000000) then (0, some (true, .other)) else (0, none)
theorem o0_low (B : Nat → Prop) (w : World) {k : Nat} (h : k < 1000000000) : o0 B w k = (0, none) := by
  unfold o0
  rw [if_neg (by omega)]
theorem o0_some {B : Nat → Prop} {w : World} {k ver : Nat} {b : Bool} {x : Ob} (h : o0 B w k = (ver, some (b, x))) : 1000000000 ≤ k ∧ k - 1000000000 < w.heap.size ∧ ¬ B (k - 1000000000) ∧ b = true ∧ x = .other := by
  unfold o0 at h
  split at h
  · rename_i hc
    simp only [Prod.mk.injEq, Option.some.injEq] at h
    exact ⟨hc.1, hc.2.1, hc.2.2, h.2.1.symm, h.2.2.symm⟩
  · cases h
theorem fz0 {B : Nat → Prop} {w : World} {b : Nat} (hB : ∀ b, B b → b < w.heap.size) (h : B b) : Fz (o0 B w) (fun k => (k - 1000000000, 0)) w b :=
  ⟨hB b h, fun k ⟨ver, x, hk⟩ e => (o0_some hk).2.2.1 (by rw [show k - 1000000000 = b from e]; exact h)⟩
theorem sim0 {B : Nat → Prop} {w : World} (hB : ∀ b, B b → b < w.heap.size) (hn6 : n ≤ 1000000000) {args : List PV} {vs : Array Value} (hn : vs.size = args.length) (hl : args.length ≤ n) (hv : ∀ (j : Nat) (z : PV) (u : Value), args[j]? = some z → vs[j]? = some u → Rd w B z u) :
    Sim P n w ⟨fun _ => False, B, o0 B w, fun k => (k - 1000000000, 0)⟩ ⟨fun t => args.getD t .undef, o0 B w⟩ (fun k => (k - 1000000000, 0)) { tmps := vs ++ Array.replicate (n - vs.size) undef, defers := [] } w := by
  refine ⟨rfl, by simp; omega, fun t => ?_, ⟨fun k ver b t cs hk => ?_, fun k ver b e xs hk => ?_, fun k ver b hk => (o0_some hk).2.1, fun k k' ⟨v1, x1, h1⟩ ⟨v2, x2, h2⟩ e => ?_, fun k ver x hk => ?_, fun k ver b m hk => by have := (o0_some hk).2.2.2.2; cases this⟩, ⟨rfl, rfl, rfl, Nat.le_refl _, fun b _ _ => rfl⟩, fun k ver x hk hx => absurd (o0_some hk).2.2.2.2 hx, fun b hb => ?_, Ext.refl _ _ _⟩
  · show Val P _ _ w (args.getD t .undef) _
    by_cases h : t < args.length
    · have h1 : args[t]? = some (args.getD t .undef) := by simp [List.getD_eq_getElem?_getD, h]
      have h2 : vs[t]? = some (vs.getD t undef) := by simp [Array.getD_eq_getD_getElem?, show t < vs.size by omega]
      have h3 : (vs ++ Array.replicate (n - vs.size) undef).getD t undef = vs.getD t undef := by
        simp only [Array.getD_eq_getD_getElem?, Array.getElem?_append_left (show t < vs.size by omega)]
      rw [h3]
      exact .pure ((hv t _ _ h1 h2).ext fun b hb => ⟨fz0 hB hb, rfl⟩)
    · rw [show args.getD t .undef = .undef by simp [List.getD_eq_getElem?_getD, List.getElem?_eq_none (by omega : args.length ≤ t)]]
      exact .undef _
  · have := (o0_some hk).2.2.2.2; cases this
  · have := (o0_some hk).2.2.2.2; cases this
  · have := o0_some h1
    have := o0_some h2
    simp only at e
    omega
  · have := (o0_some hk).2.2.2.1; cases this
  · by_cases h : B b
    · exact .inl h
    · refine .inr (.inr ⟨1000000000 + b, 0, by omega, ?_, by simp⟩)
      show o0 B w (1000000000 + b) = _
      unfold o0
      rw [if_pos ⟨by omega, by rw [Nat.add_sub_cancel_left]; exact hb, by rw [Nat.add_sub_cancel_left]; exact h⟩]
theorem fz_new {B : Nat → Prop} {o1 : Objs} {τ1 : Places} (h : Sim P n w0 ⟨fun _ => False, B, o1, τ1⟩ st τ a w) {b : Nat} (hb : Fz st.o τ w b) : newB B w0 w b := by
  by_cases hlt : b < w0.heap.size
  · rcases h.far b hlt with h1 | h1 | ⟨k, ver, _, hk, rfl⟩
    · exact .inl h1
    · exact h1.elim
    · exact absurd rfl (hb.2 k ⟨ver, _, hk⟩)
  · exact .inr ⟨by omega, hb.1⟩
theorem key_new {B : Nat → Prop} {o1 : Objs} {τ1 : Places} (h : Sim P n w0 ⟨fun _ => False, B, o1, τ1⟩ st τ a w) {k ver : Nat} {b : Bool} {x : Ob} (hk : st.o k = (ver, some (b, x))) (hx : x ≠ .other) : newB B w0 w (τ k).1 := by
  cases b with
  | false => exact fz_new h (h.holds.fro k ver x hk)
  | true =>
    rcases h.mine k ver x hk hx with h1 | h1
    · exact .inr ⟨h1, h.holds.lt hk⟩
    · exact h1.elim
theorem fin_sound {B : Nat → Prop} {o1 : Objs} {τ1 : Places} {fn : Func} {R : Rs} (h : Sim P n w0 ⟨fun _ => False, B, o1, τ1⟩ st τ a w) (hf : AFin P fn.results R st) : a.defers = [] ∧ ∃ v, (results fn a.tmps).run P w = .ok v w ∧ ∃ v', (.returned v : Ending) = .returned v' ∧ Below w0.heap.size w0 w ∧ R.post P B w0 w v' := by
  refine ⟨h.defers, ?_⟩
  unfold AFin at hf
  split at hf
  · rename_i y hy
    obtain ⟨v, h1, h2⟩ := result_sound h hy
    refine ⟨v, h1, v, rfl, ⟨h.frame.os, h.frame.tape, h.frame.output, h.frame.size, fun b hb => h.frame.block b hb (fun hh => hh)⟩, ?_⟩
    cases R with
    | fr r =>
      simp only at hf
      exact res_sound h.holds (fun b hb => fz_new h hb) 5 h2 hf fun k hk => by
        obtain ⟨ver, b, z, ho, hz⟩ := keysOf_obj 5 hf k hk
        exact key_new h ho hz
    | row e xs =>
      simp only at hf
      split at hf
      · rename_i k ver
        have hv : v = .slice (some ⟨(τ k).1, 0, none⟩) xs.length (τ k).2 := by
          cases h2 with
          | pure h' => cases h'
          | ref k ver v hv hp => exact hp _ _ _ hf
        obtain ⟨vs, hg, hn, hs, hl, hm, hz, h1, hr⟩ := h.holds.row _ _ _ _ _ hf
        refine ⟨(τ k).1, (τ k).2, vs, hv, ?_, hg, hn, hs, hl, hm, hz, h1, fun i y j z u hy hj hu => (hr i y j z u hy hj hu).ext fun b hb => ⟨⟨fz_new h hb, fun e => hb.2 k ⟨_, _, hf⟩ e.symm⟩, rfl⟩⟩
        rcases h.mine k _ _ hf (by simp) with h' | h'
        · exact h'
        · exact h'.elim
      · exact hf.elim
  · exact hf.elim
/-- A function's contract, from its text. -/
theorem fn_of_awp {f : FuncId} {fn : Func} {c : Code} {args : List PV} {R : Rs} (hm : P.follows .mixedOrders = true) (hf : P.funcs[f]? = some fn) (hb : fn.body = some c) (hname : (fn.name == "runtime.NumGoroutine") = false) (hok : okCode M fn.ntmps c = true) (hn6 : fn.ntmps ≤ 1000000000) (hl : args.length ≤ fn.ntmps)
    (h : ∀ o : Objs, (∀ k, k < 1000000000 → o k = (0, none)) → awp P E M c (Fin P fn.results R) ⟨fun t => args.getD t .undef, o⟩) (hE : ∀ d, E.key d = d := by intro d; rfl) : FnR P f args R where
  enter vs w := by
    have hb' : fn.body.isNone = false := by rw [hb]; rfl
    have hname' : ¬ fn.name = "runtime.NumGoroutine" := by simpa using hname
    simp [callFunc, hf, hname', hb]
  calls vs w B hB hn hv := by
    refine calls_of_wp hf hb (wp_mono (awp_sound hm (fun d hd => by rw [hE]; omega) c _ _ _ _ w hok (h (o0 B w) fun k hk => o0_low B w hk) (sim0 hB hn6 hn hl hv)) fun e a' w' he => ?_)
    cases e with
    | normal => obtain ⟨st', τ', h1, h2⟩ := he; exact fin_sound h1 h2
    | ret => obtain ⟨st', τ', h1, h2⟩ := he; exact fin_sound h1 h2
    | exit id => obtain ⟨st', τ', h1, h2⟩ := he; exact h2
    | goto l => exact he
    | panic c => exact he.elim
    | outgrown => exact he.elim
/-- A call by a contract. -/
theorem GCall.mk {f : FuncId} {args as : List PV} {R : Rs} {d : Option Tmp} {kd : Option Nat} {K : St → Prop} {x : PV} {ob : Objs} (ha : args.mapM (res st.o 4) = some as) (hF : FnR P f as R) (hc : callSt st (args.flatMap (keysOf st.o 4)) kd R = some (x, ob)) (hK : K (st.after ob d x)) : GCall P f args d kd K st :=
  ⟨x, ob, ⟨hF.enter, fun n w0 imp s τ a w vs hd h hn hv => Calls.of_contract (st := ⟨s, st.o⟩) hF hd h hn hv ha rfl (by
    cases R with
    | fr r => exact hc
    | row e xs => exact hc)⟩, hK⟩
/-- A call that leaves the objects as they were. -/
theorem GCall.fr {f : FuncId} {args as : List PV} {r : PV} {d : Option Tmp} {kd : Option Nat} {K : St → Prop} (ha : args.mapM (res st.o 4) = some as) (hF : Fn P f as r) (hk : r.flat = true ∨ args.flatMap (keysOf st.o 4) = []) (hK : K (st.put d r)) : GCall P f args d kd K st := by
  refine GCall.mk ha hF (x := r) (ob := st.o) ?_ (by rw [← put_after]; exact hK)
  simp only [callSt, Option.some.injEq, Prod.mk.injEq, true_and]
  rcases hk with hk | hk
  · rw [if_pos hk]
  · rw [hk, St.freeze_nil, ite_self]
theorem QCall.fr {m : Md} {f : FuncId} {args as : List PV} {r : PV} {d : Option Tmp} {K : St → Prop} (ha : args.mapM (res (st.see m).o 4) = some as) (hF : Fn P f as r) (hk : r.flat = true ∨ args.flatMap (keysOf (st.see m).o 4) = []) (hK : K (st.put d r)) : QCall P m f args d K st :=
  ⟨as, r, ha, hF, hk, hK⟩
end
end Go.Sx
