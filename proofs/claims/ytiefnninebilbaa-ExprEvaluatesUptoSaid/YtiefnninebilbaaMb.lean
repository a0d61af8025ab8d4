/- The abstract machine, part 8: what makes an object of one's own: a variable, a slice literal, a made slice. -/
import Derived.Test.YtiefnninebilbaaMa
import Derived.Great.BuildSlice
import Derived.Laws.MakeOwn
import Derived.Deep.Upon
set_option linter.unusedVariables false
set_option linter.unusedSimpArgs false
namespace Go.Sx
open Go Go.RowKit

section
variable {P : Program} {n : Nat} {w0 : World} {imp : Im} {st : St} {τ τ' : Places} {a : Act} {w w' : World} {o o' : Objs}

theorem alloc_size (w : World) (ob : Go.Obj) : (w.alloc ob).heap.size = w.heap.size + 1 := by show (w.heap.push ob).size = _; simp
theorem new_at {k : Nat} {x : Ob} {k' : Nat} (h : k' ≠ k) : (st.new k x).o k' = st.o k' := upd_ne _ _ h
theorem new_self {k : Nat} {x : Ob} : (st.new k x).o k = ((st.o k).1 + 1, some (true, x)) := by simp [St.new]
theorem live_new {k k' : Nat} {x : Ob} (h : live (st.new k x).o k') (hne : k' ≠ k) : live st.o k' := by
  obtain ⟨v, y, hk⟩ := h
  rw [new_at hne] at hk
  exact ⟨v, y, hk⟩
theorem new_ext (k : Nat) (x : Ob) (c : Nat) (ob : Go.Obj) : Ext st.o τ w (st.new k x).o (upd τ k (w.heap.size, c)) (w.alloc ob) := by
  refine ⟨fun b hb => ⟨⟨by rw [alloc_size]; exact Nat.lt_succ_of_lt hb.1, fun k' hk' => ?_⟩, Below.heap_alloc w ob b hb.1⟩, fun k' => ?_, fun k' b' x' hk' => ?_⟩
  · by_cases e : k' = k
    · subst e; simp only [upd_same]; exact Nat.ne_of_gt hb.1
    · rw [upd_ne _ _ e]; exact hb.2 k' (live_new hk' e)
  · by_cases e : k' = k
    · subst e; rw [new_self]; exact Nat.le_succ _
    · rw [new_at e]; exact Nat.le_refl _
  · by_cases e : k' = k
    · subst e
      rw [new_self] at hk'
      simp only [Prod.mk.injEq] at hk'
      omega
    · rw [new_at e] at hk'
      exact ⟨b', x', hk', by cases x' <;> simp [Ob.like], upd_ne _ _ e⟩
/-- What a block holds of an object. -/
def Cont (P : Program) (o : Objs) (τ : Places) (w : World) (x : Ob) (vs : Array Value) (t : TypeId) (c : Nat) : Prop :=
  match x with
  | .box t' cs => t' = t ∧ vs.size = cs.length ∧ (∀ (j : Nat) (z : PV), cs[j]? = some z → z.one = true) ∧ ∀ (j : Nat) (z : PV) (u : Value), cs[j]? = some z → vs[j]? = some u → Val P o τ w z u
  | .row e xs => e = t ∧ vs.size = c * P.cellsOf e ∧ 0 < P.cellsOf e ∧ xs.length ≤ c ∧ c ≤ maxLen ∧ (∀ (i : Nat) (y : PV), xs[i]? = some y → y.cells.length = P.cellsOf e) ∧
    (∀ (i : Nat) (y : PV) (j : Nat) (z : PV), xs[i]? = some y → y.cells[j]? = some z → z.one = true) ∧
    ∀ (i : Nat) (y : PV) (j : Nat) (z : PV) (u : Value), xs[i]? = some y → y.cells[j]? = some z → vs[i * P.cellsOf e + j]? = some u → Rd w (Fz o τ w) z u
  | .other => False
/-- A new object, its block made just now. -/
theorem Sim.newObj (h : Sim P n w0 imp st τ a w) (k : Nat) (hkn : k < n) (x : Ob) (c : Nat) (vs : Array Value) (t : TypeId)
    (hx : Cont P st.o τ w x vs t c) :
    Sim P n w0 imp (st.new k x) (upd τ k (w.heap.size, c)) a (w.alloc (.cells vs t)) := by
  have he : Ext st.o τ w (st.new k x).o (upd τ k (w.heap.size, c)) (w.alloc (.cells vs t)) := new_ext k x c _
  refine Sim.step (o' := (st.new k x).o) h he ⟨fun k' ver b t' cs hk => ?_, fun k' ver b e xs hk => ?_, fun k' ver b hk => ?_, fun k1 k2 h1 h2 e => ?_, fun k' ver y hk => ?_⟩ ⟨h.frame.os, h.frame.tape, h.frame.output, by rw [alloc_size]; exact Nat.le_succ_of_le h.frame.size, fun b hb hi => by rw [Below.heap_alloc w _ b (Nat.lt_of_lt_of_le hb h.frame.size)]; exact h.frame.block b hb hi⟩ (fun k' ver y hk hy => ?_) fun k' ver hge hk => ⟨by rw [new_at (by omega)]; exact hk, by rw [upd_ne _ _ (by omega)]⟩
  · by_cases e : k' = k
    · subst e
      rw [new_self] at hk
      simp only [Prod.mk.injEq, Option.some.injEq] at hk
      obtain ⟨_, _, rfl⟩ := hk
      obtain ⟨rfl, hn, h1, hr⟩ := hx
      exact ⟨vs, by simp only [upd_same]; exact heap_alloc_new w _, hn, h1, fun j z u hz hu => (hr j z u hz hu).ext he⟩
    · rw [new_at e] at hk
      obtain ⟨vs', hg, hn, h1, hr⟩ := h.holds.box k' ver b t' cs hk
      exact ⟨vs', by rw [upd_ne _ _ e, Below.heap_alloc w _ _ (h.holds.lt hk)]; exact hg, hn, h1, fun j z u hz hu => (hr j z u hz hu).ext he⟩
  · by_cases e' : k' = k
    · subst e'
      rw [new_self] at hk
      simp only [Prod.mk.injEq, Option.some.injEq] at hk
      obtain ⟨_, _, rfl⟩ := hk
      obtain ⟨rfl, hn, hs, hl, hm, hz, h1, hr⟩ := hx
      simp only [upd_same]
      exact ⟨vs, heap_alloc_new w _, hn, hs, hl, hm, hz, h1, fun i y j z u hy hj hu => (hr i y j z u hy hj hu).ext he.fz⟩
    · rw [new_at e'] at hk
      obtain ⟨vs', hg, hn, hs, hl, hm, hz, h1, hr⟩ := h.holds.row k' ver b e xs hk
      rw [upd_ne _ _ e']
      exact ⟨vs', by rw [Below.heap_alloc w _ _ (h.holds.lt hk)]; exact hg, hn, hs, hl, hm, hz, h1, fun i y j z u hy hj hu => (hr i y j z u hy hj hu).ext he.fz⟩
  · by_cases e' : k' = k
    · subst e'
      rw [new_self] at hk
      simp only [Prod.mk.injEq, Option.some.injEq] at hk
      obtain ⟨_, _, rfl⟩ := hk
      exact hx.elim
    · rw [new_at e'] at hk
      rw [upd_ne _ _ e', alloc_size]
      exact Nat.lt_succ_of_lt (h.holds.oth k' ver b hk)
  · by_cases e1 : k1 = k <;> by_cases e2 : k2 = k
    · rw [e1, e2]
    · obtain ⟨v2, y2, hk2⟩ := live_new h2 e2
      have := h.holds.lt hk2
      subst e1
      rw [upd_same, upd_ne _ _ e2] at e
      simp only at e
      omega
    · obtain ⟨v1, y1, hk1⟩ := live_new h1 e1
      have := h.holds.lt hk1
      subst e2
      rw [upd_same, upd_ne _ _ e1] at e
      simp only at e
      omega
    · rw [upd_ne _ _ e1, upd_ne _ _ e2] at e
      exact h.holds.inj k1 k2 (live_new h1 e1) (live_new h2 e2) e
  · by_cases e : k' = k
    · subst e
      rw [new_self] at hk
      simp at hk
    · rw [new_at e] at hk
      rw [upd_ne _ _ e]
      exact (he.fz _ (h.holds.fro k' ver y hk)).1
  · by_cases e : k' = k
    · subst e; rw [upd_same]; exact .inl h.frame.size
    · rw [new_at e] at hk; rw [upd_ne _ _ e]; exact h.mine k' ver y hk hy

theorem Sim.newBox (h : Sim P n w0 imp st τ a w) (k : Nat) (hkn : k < n) (t : TypeId) {x : PV} {v : Value} (hv : Val P st.o τ w x v) (h1 : x.cells.all (ok1 st.o) = true) :
    Sim P n w0 imp (st.new k (.box t x.cells)) (upd τ k (w.heap.size, 0)) a (w.alloc (.cells v.cells t)) ∧
    Val P (st.new k (.box t x.cells)).o (upd τ k (w.heap.size, 0)) (w.alloc (.cells v.cells t)) (.ptr k ((st.o k).1 + 1) 0) (.pointer (some ⟨w.heap.size, 0, none⟩)) := by
  obtain ⟨hs, hc⟩ := cells_val hv h1
  refine ⟨h.newObj k hkn (.box t x.cells) 0 v.cells t ⟨rfl, hs, fun j z hz => ?_, fun j z u hz hu => (hc j z u hz hu).1⟩, .ptr _ _ _ _ (by rw [new_self]; exact Nat.le_refl _) fun b t' cs hk => ?_⟩
  · obtain ⟨u, hu⟩ := getElem?_of_size hs hz
    exact (hc j z u hz hu).2.1
  · simp only [upd_same]

/-! Slice literals and made slices. -/
theorem flat_get {sz : Nat} : ∀ {vs : List Value} {i j : Nat} {v : Value}, (∀ v ∈ vs, v.cells.size = sz) → vs[i]? = some v → j < sz → (vs.flatMap fun v => v.cells.toList)[i * sz + j]? = v.cells[j]?
  | [], i, j, v, hz, hv, hj => by simp at hv
  | u :: vs, 0, j, v, hz, hv, hj => by
    simp at hv
    subst hv
    have := hz u (by simp)
    rw [List.flatMap_cons, Nat.zero_mul, Nat.zero_add, List.getElem?_append_left (by simp; omega), Array.getElem?_toList]
  | u :: vs, i + 1, j, v, hz, hv, hj => by
    have hu := hz u (by simp)
    have ih := flat_get (j := j) (fun v hv => hz v (by simp [hv])) (show vs[i]? = some v by simpa using hv) hj
    rw [List.flatMap_cons, List.getElem?_append_right (by simp only [Array.length_toList, hu, Nat.add_mul]; omega), ← ih]
    congr 1
    simp only [Array.length_toList, hu, Nat.add_mul]; omega
theorem flat_length {sz : Nat} : ∀ {vs : List Value}, (∀ v ∈ vs, v.cells.size = sz) → (vs.flatMap fun v => v.cells.toList).length = vs.length * sz
  | [], h => by simp
  | u :: vs, h => by
    rw [List.flatMap_cons, List.length_append, flat_length (fun v hv => h v (by simp [hv])), Array.length_toList, h u (by simp), List.length_cons, Nat.add_mul, Nat.one_mul, Nat.add_comm]
theorem fill_rows {sz : Nat} : ∀ (vs : List Value) (s : Nat) (base : Array Value), (∀ v ∈ vs, v.cells.size = sz) → (s + vs.length) * sz ≤ base.size →
    ∃ us : Array Value, Instr.fill (fun i => some (i * sz, sz)) base ((vs.zipIdx s).map fun p => (p.2, p.1)) = some us ∧ us.toList = base.toList.take (s * sz) ++ vs.flatMap (fun v => v.cells.toList) ++ base.toList.drop ((s + vs.length) * sz)
  | [], s, base, hz, hl => ⟨base, by simp [Instr.fill], by simp⟩
  | v :: vs, s, base, hz, hl => by
    have hv := hz v (by simp)
    have e1 : (s + (v :: vs).length) * sz = (s + 1 + vs.length) * sz := by rw [List.length_cons, Nat.add_assoc, Nat.add_comm 1]
    have e2 : (s + 1 + vs.length) * sz = s * sz + sz + vs.length * sz := by rw [Nat.add_mul, Nat.add_mul, Nat.one_mul]
    rw [e1] at hl
    have hfold := foldl_setIfInBounds (s * sz) v.cells.toList 0 base (by simp; omega)
    generalize hA : (v.cells.toList.zipIdx 0).foldl (fun cs (p : Value × Nat) => cs.setIfInBounds (s * sz + p.2) p.1) base = A at hfold
    have hA' : v.cells.zipIdx.foldl (fun cs (c, j) => cs.setIfInBounds (s * sz + j) c) base = A := by
      rw [← hA, ← Array.foldl_toList]; simp
    have hAs : A.size = base.size := by
      rw [← Array.length_toList, hfold]; simp; omega
    obtain ⟨us, h1, h2⟩ := fill_rows vs (s + 1) A (fun v hv => hz v (by simp [hv])) (by rw [hAs]; exact hl)
    refine ⟨us, ?_, ?_⟩
    · simp only [List.zipIdx_cons, List.map_cons, Instr.fill]
      rw [if_neg (by simp; omega), hA']
      exact h1
    · rw [h2, hfold, e1, List.flatMap_cons]
      have e3 : (s + 1) * sz = s * sz + sz := by rw [Nat.add_mul, Nat.one_mul]
      simp only [Nat.add_zero, Array.length_toList, hv, e3, e2]
      apply List.ext_getElem?
      intro i
      have hb : base.toList.length = base.size := by simp
      have hvl : v.cells.toList.length = sz := by simpa using hv
      simp only [List.getElem?_append, List.length_append, List.length_take, List.length_drop, List.getElem?_take, List.getElem?_drop, hb, hvl]
      grind

/-- An element type: its cells, its bytes, its zero value's cells. -/
def einf (P : Program) (T : TypeId) : Option (TypeId × Nat × Nat × List PV) :=
  match P.underlying T with
  | some (.slice e) => match P.info? e with
    | some i => match i.zero with
      | some z => if z.cells.size = i.size ∧ 0 < i.size ∧ (z.cells.toList.map ofConst).all PV.one = true then some (e, i.size, i.bytes, z.cells.toList.map ofConst) else none
      | none => none
    | none => none
  | _ => none
theorem einf_some {T e : TypeId} {sz by_ : Nat} {zc : List PV} (h : einf P T = some (e, sz, by_, zc)) : ∃ i z, P.underlying T = some (.slice e) ∧ P.info? e = some i ∧ i.zero = some z ∧ z.cells.size = sz ∧ i.size = sz ∧ i.bytes = by_ ∧ 0 < sz ∧ zc = z.cells.toList.map ofConst ∧ zc.all PV.one = true ∧ P.cellsOf e = sz := by
  unfold einf at h
  split at h
  · rename_i e' hu
    split at h
    · rename_i i hi
      split at h
      · rename_i z hz
        split at h
        · rename_i hc
          obtain ⟨h1, h2, h3⟩ := hc
          simp only [Option.some.injEq, Prod.mk.injEq] at h
          obtain ⟨rfl, rfl, rfl, rfl⟩ := h
          exact ⟨i, z, hu, hi, hz, h1, rfl, rfl, h2, rfl, h3, cellsOf_info hi⟩
        · cases h
      · cases h
    · cases h
  · cases h
theorem einf_selem {T e : TypeId} {sz by_ : Nat} {zc : List PV} (h : einf P T = some (e, sz, by_, zc)) : selem P T = some (e, sz) := by
  obtain ⟨i, z, hu, hi, _, _, hs, _⟩ := einf_some h
  simp [selem, hu, hi, hs]

/-- A literal's elements, as read: they are frozen first. -/
theorem run_literal (hsl : ∀ t, Val P st.o τ w (st.s t) (a.tmps.getD t undef)) {T e : TypeId} {sz by_ len : Nat} {zc : List PV} (h : einf P T = some (e, sz, by_, zc)) {parts : Array (Nat × Operand)} (hp : parts.toList.map Prod.fst = List.range len) (h24 : len * sz ≤ 16777216) (h0 : 0 < len)
    (hc : ∀ x ∈ parts.toList, (st.ev x.2).cells.length = sz ∧ (st.ev x.2).cells.all (ok1 st.o) = true) :
    ∃ us : Array Value, (Instr.buildSlice T len (parts.map fun (i, x) => (i, a.eval x))).run P w = .ok (.slice (some ⟨w.heap.size, 0, none⟩) len len) (w.alloc (.cells us e)) ∧ us.size = len * sz ∧
      ∀ (i j : Nat) (x : Nat × Operand), parts.toList[i]? = some x → j < sz → us[i * sz + j]? = (a.eval x.2).cells[j]? := by
  obtain ⟨inf, z, hu, hi, hz, hzs, hs, hb, hp0, _, _, _⟩ := einf_some h
  have hlen : parts.toList.length = len := by have := congrArg List.length hp; simpa using this
  have hvs : ∀ v ∈ parts.toList.map (fun x => a.eval x.2), v.cells.size = sz := by
    intro v hv
    obtain ⟨x, hx, rfl⟩ := List.mem_map.1 hv
    rw [(cells_val (ev_val hsl x.2) (hc x hx).2).1, (hc x hx).1]
  obtain ⟨us, h1, h2⟩ := fill_rows (sz := sz) (parts.toList.map fun x => a.eval x.2) 0 ((Array.range (len * inf.size)).map (z.cells[· % z.cells.size]!)) hvs (by simp [hs]; rw [← hlen]; simp)
  have hparts : (parts.map fun (i, x) => (i, a.eval x)).toList = (((parts.toList.map fun x => a.eval x.2).zipIdx 0).map fun p => (p.2, p.1)) := by
    apply List.ext_getElem?
    intro i
    simp only [Array.toList_map, List.getElem?_map, List.getElem?_zipIdx]
    cases hx : parts.toList[i]? with
    | none => simp
    | some x =>
      have : (parts.toList.map Prod.fst)[i]? = some x.1 := by rw [List.getElem?_map, hx]; rfl
      rw [hp] at this
      have hil : i < len := by rw [← hlen]; exact (List.getElem?_eq_some_iff.1 hx).1
      rw [List.getElem?_range hil] at this
      cases this
      simp
  have husz : us.size = len * sz := by
    rw [← Array.length_toList, h2]
    simp only [Nat.zero_mul, List.take_zero, List.nil_append, List.length_append, flat_length hvs, List.length_map, hlen, List.length_drop]
    simp [hs, hlen]
  refine ⟨us, run_buildSlice w T e len _ us inf z hu hi hz (by rw [hs]; omega) (by rw [hs]; have := Nat.mul_pos h0 hp0; omega) ?_, husz, fun i j x hx hj => ?_⟩
  · rw [hparts, hs]
    rw [hs] at h1
    exact h1
  · have hi' : i < len := by rw [← hlen]; exact (List.getElem?_eq_some_iff.1 hx).1
    rw [← Array.getElem?_toList, h2]
    simp only [Nat.zero_mul, List.take_zero, List.nil_append]
    have hlt : i * sz + j < len * sz := by
      calc i * sz + j < i * sz + sz := by omega
        _ = (i + 1) * sz := by rw [Nat.add_mul, Nat.one_mul]
        _ ≤ len * sz := Nat.mul_le_mul_right _ hi'
    rw [List.getElem?_append_left (by rw [flat_length hvs, List.length_map, hlen]; exact hlt)]
    exact flat_get hvs (by rw [List.getElem?_map, hx]; rfl) hj
end
end Go.Sx
/- The abstract machine, part 9: an object is written, or moves to another key. -/
set_option linter.unusedVariables false
set_option linter.unusedSimpArgs false
namespace Go.Sx
open Go Go.RowKit

section
variable {P : Program} {n : Nat} {w0 : World} {imp : Im} {st : St} {τ τ' : Places} {a : Act} {w w' : World} {o o' : Objs}

def move2 (o : Objs) (k k2 v2 : Nat) (x : Ob) : Objs := upd (upd o k ((o k).1, none)) k2 (v2, some (true, x))

/-- The block of a writable object is written; the object lies under another key from now on, or under its own. -/
theorem Sim.write (h : Sim P n w0 imp st τ a w) {k k2 ver v2 cap : Nat} {old new : Ob} {vs : Array Value} {t : TypeId} (hk : st.o k = (ver, some (true, old))) (ho : old ≠ .other) (hkn : k2 = k ∨ k2 < n)
    (hv : (k2 = k ∧ v2 = ver ∧ old.like new ∧ cap = (τ k).2) ∨ v2 = (st.o k2).1 + 1)
    (hg : w'.heap[(τ k).1]? = some (.cells vs t (0, 0))) (hb : ∀ b, b ≠ (τ k).1 → w'.heap[b]? = w.heap[b]?) (hs : w'.heap.size = w.heap.size) (h1 : w'.os = w.os) (h2 : w'.tape = w.tape) (h3 : w'.output = w.output)
    (hc : Cont P st.o τ w new vs t cap) :
    Sim P n w0 imp { st with o := move2 st.o k k2 v2 new } (upd τ k2 ((τ k).1, cap)) a w' := by
  have hlive : ∀ k', live (move2 st.o k k2 v2 new) k' → k' ≠ k2 → live st.o k' ∧ k' ≠ k := by
    rintro k' ⟨v, y, hk'⟩ hne
    unfold move2 at hk'
    rw [upd_ne _ _ hne] at hk'
    by_cases e : k' = k
    · subst e; simp at hk'
    · rw [upd_ne _ _ e] at hk'
      exact ⟨⟨v, y, hk'⟩, e⟩
  have hkl : live st.o k := ⟨ver, old, hk⟩
  have hfz : ∀ b, Fz st.o τ w b → b ≠ (τ k).1 := fun b hb e => hb.2 k hkl e.symm
  have he : Ext st.o τ w (move2 st.o k k2 v2 new) (upd τ k2 ((τ k).1, cap)) w' := by
    refine ⟨fun b hbf => ⟨⟨by rw [hs]; exact hbf.1, fun k' hk' => ?_⟩, hb b (hfz b hbf)⟩, fun k' => ?_, fun k' b' x' hk' => ?_⟩
    · by_cases e : k' = k2
      · subst e; rw [upd_same]; exact (hfz b hbf).symm
      · rw [upd_ne _ _ e]; exact hbf.2 k' (hlive k' hk' e).1
    · unfold move2
      by_cases e : k' = k2
      · subst e
        rw [upd_same]
        rcases hv with ⟨rfl, rfl, _⟩ | rfl
        · rw [hk]; exact Nat.le_refl _
        · exact Nat.le_succ _
      · rw [upd_ne _ _ e]
        by_cases e1 : k' = k
        · subst e1; rw [upd_same]; exact Nat.le_refl _
        · rw [upd_ne _ _ e1]; exact Nat.le_refl _
    · unfold move2 at hk'
      by_cases e : k' = k2
      · subst e
        rw [upd_same] at hk'
        simp only [Prod.mk.injEq, Option.some.injEq] at hk'
        obtain ⟨e1, rfl, rfl⟩ := hk'
        rcases hv with ⟨rfl, rfl, hl, rfl⟩ | hv
        · rw [hk, upd_same]
          exact ⟨true, old, rfl, hl, rfl⟩
        · omega
      · rw [upd_ne _ _ e] at hk'
        by_cases e1 : k' = k
        · subst e1; simp at hk'
        · rw [upd_ne _ _ e1] at hk'
          exact ⟨b', x', hk', by cases x' <;> simp [Ob.like], upd_ne _ _ e⟩
  have hkeep : ∀ {k' : Nat} {v : Nat} {b : Bool} {y : Ob}, st.o k' = (v, some (b, y)) → k' ≠ k → (τ k').1 ≠ (τ k).1 := by
    intro k' v b y hk' hne e
    cases b with
    | true => exact hne (h.holds.inj k' k ⟨v, y, hk'⟩ hkl e)
    | false => exact hfz _ (h.holds.fro k' v y hk') e
  refine Sim.step h he ⟨fun k' v b t' cs hk' => ?_, fun k' v b e xs hk' => ?_, fun k' v b hk' => ?_, fun k1 k2' h1 h2 e => ?_, fun k' v y hk' => ?_⟩ ⟨by rw [h1]; exact h.frame.os, by rw [h2]; exact h.frame.tape, by rw [h3]; exact h.frame.output, by rw [hs]; exact h.frame.size, fun b hbl hi => ?_⟩ (fun k' v y hk' hy => ?_) fun k' v hge hk' => ?_
  · unfold move2 at hk'
    by_cases e : k' = k2
    · subst e
      rw [upd_same] at hk' ⊢
      simp only [Prod.mk.injEq, Option.some.injEq] at hk'
      obtain ⟨_, _, rfl⟩ := hk'
      obtain ⟨rfl, hn, h1, hr⟩ := hc
      exact ⟨vs, hg, hn, h1, fun j z u hz hu => (hr j z u hz hu).ext he⟩
    · rw [upd_ne _ _ e] at hk' ⊢
      by_cases e1 : k' = k
      · subst e1; simp at hk'
      · rw [upd_ne _ _ e1] at hk'
        obtain ⟨us, hg', hn, h1, hr⟩ := h.holds.box k' v b t' cs hk'
        exact ⟨us, by rw [hb _ (hkeep hk' e1)]; exact hg', hn, h1, fun j z u hz hu => (hr j z u hz hu).ext he⟩
  · unfold move2 at hk'
    by_cases e' : k' = k2
    · subst e'
      rw [upd_same] at hk' ⊢
      simp only [Prod.mk.injEq, Option.some.injEq] at hk'
      obtain ⟨_, _, rfl⟩ := hk'
      obtain ⟨rfl, hn, hs, hl, hm, hz, h1, hr⟩ := hc
      exact ⟨vs, hg, hn, hs, hl, hm, hz, h1, fun i y j z u hy hj hu => (hr i y j z u hy hj hu).ext he.fz⟩
    · rw [upd_ne _ _ e'] at hk' ⊢
      by_cases e1 : k' = k
      · subst e1; simp at hk'
      · rw [upd_ne _ _ e1] at hk'
        obtain ⟨us, hg', hn, hs, hl, hm, hz, h1, hr⟩ := h.holds.row k' v b e xs hk'
        exact ⟨us, by rw [hb _ (hkeep hk' e1)]; exact hg', hn, hs, hl, hm, hz, h1, fun i y j z u hy hj hu => (hr i y j z u hy hj hu).ext he.fz⟩
  · unfold move2 at hk'
    rw [hs]
    by_cases e' : k' = k2
    · subst e'
      rw [upd_same] at hk'
      simp only [Prod.mk.injEq, Option.some.injEq] at hk'
      obtain ⟨_, _, rfl⟩ := hk'
      exact hc.elim
    · rw [upd_ne _ _ e'] at hk' ⊢
      by_cases e1 : k' = k
      · subst e1; simp at hk'
      · rw [upd_ne _ _ e1] at hk'
        exact h.holds.oth k' v b hk'
  · by_cases e1 : k1 = k2 <;> by_cases e2 : k2' = k2
    · rw [e1, e2]
    · obtain ⟨hl, hne⟩ := hlive k2' h2 e2
      subst e1
      rw [upd_same, upd_ne _ _ e2] at e
      exact absurd (h.holds.inj k2' k hl hkl e.symm) hne
    · obtain ⟨hl, hne⟩ := hlive k1 h1 e1
      subst e2
      rw [upd_same, upd_ne _ _ e1] at e
      exact absurd (h.holds.inj k1 k hl hkl e) hne
    · rw [upd_ne _ _ e1, upd_ne _ _ e2] at e
      exact h.holds.inj k1 k2' (hlive k1 h1 e1).1 (hlive k2' h2 e2).1 e
  · unfold move2 at hk'
    by_cases e : k' = k2
    · subst e; rw [upd_same] at hk'; simp at hk'
    · rw [upd_ne _ _ e] at hk' ⊢
      by_cases e1 : k' = k
      · subst e1; simp at hk'
      · rw [upd_ne _ _ e1] at hk'
        exact (he.fz _ (h.holds.fro k' v y hk')).1
  · refine (hb b fun e => ?_).trans (h.frame.block b hbl hi)
    rcases h.mine k ver old hk ho with hm | hm
    · omega
    · rw [e] at hi; exact hi hm
  · unfold move2 at hk'
    by_cases e : k' = k2
    · subst e; rw [upd_same]; exact h.mine k ver old hk ho
    · rw [upd_ne _ _ e] at hk' ⊢
      by_cases e1 : k' = k
      · subst e1; simp at hk'
      · rw [upd_ne _ _ e1] at hk'
        exact h.mine k' v y hk' hy
  · have e1 : k' ≠ k := by
      rintro rfl
      rw [hk] at hk'
      simp only [Prod.mk.injEq, Option.some.injEq] at hk'
      exact ho hk'.2.2
    have e2 : k' ≠ k2 := by
      rcases hkn with rfl | hkn
      · exact e1
      · omega
    unfold move2
    rw [upd_ne _ _ e2, upd_ne _ _ e2, upd_ne _ _ e1]
    exact ⟨hk', rfl⟩

/-- An object is given up: its block is nobody's to write. -/
theorem Sim.kill (h : Sim P n w0 imp st τ a w) (k : Nat) {ver : Nat} {b : Bool} {old : Ob} (hk : st.o k = (ver, some (b, old))) (ho : old ≠ .other) : Sim P n w0 imp (st.kill k) τ a w := by
  have hsome : ∀ {k' v : Nat} {b : Bool} {y : Ob}, (st.kill k).o k' = (v, some (b, y)) → st.o k' = (v, some (b, y)) := by
    intro k' v b y hk'
    simp only [St.kill] at hk'
    by_cases e : k' = k
    · subst e; simp at hk'
    · rw [upd_ne _ _ e] at hk'; exact hk'
  have hlive : ∀ {k'}, live (st.kill k).o k' → live st.o k' := fun ⟨v, y, hk'⟩ => ⟨v, y, hsome hk'⟩
  have hver : ∀ k', ((st.kill k).o k').1 = (st.o k').1 := by
    intro k'
    simp only [St.kill]
    by_cases e : k' = k
    · subst e; simp
    · rw [upd_ne _ _ e]
  have he : Ext st.o τ w (st.kill k).o τ w := ⟨fun b hb => ⟨⟨hb.1, fun k' hk' => hb.2 k' (hlive hk')⟩, rfl⟩, fun k' => by rw [hver k']; exact Nat.le_refl _, fun k' b' x' hk' => ⟨b', x', hsome hk', by cases x' <;> simp [Ob.like], rfl⟩⟩
  refine Sim.step h he ⟨fun k' v b t' cs hk' => ?_, fun k' v b e xs hk' => ?_, fun k' v b hk' => h.holds.oth k' v b (hsome hk'), fun k1 k2 h1 h2 e => h.holds.inj k1 k2 (hlive h1) (hlive h2) e, fun k' v y hk' => (he.fz _ (h.holds.fro k' v y (hsome hk'))).1⟩ h.frame (fun k' v y hk' hy => h.mine k' v y (hsome hk') hy) fun k' v hge hk' => ⟨?_, rfl⟩
  · obtain ⟨us, hg', hn, h1, hr⟩ := h.holds.box k' v b t' cs (hsome hk')
    exact ⟨us, hg', hn, h1, fun j z u hz hu => (hr j z u hz hu).ext he⟩
  · obtain ⟨us, hg', hn, hs, hl, hm, hz, h1, hr⟩ := h.holds.row k' v b e xs (hsome hk')
    exact ⟨us, hg', hn, hs, hl, hm, hz, h1, fun i y j z u hy hj hu => (hr i y j z u hy hj hu).ext he.fz⟩
  · have e1 : k' ≠ k := by
      rintro rfl
      rw [hk] at hk'
      simp only [Prod.mk.injEq, Option.some.injEq] at hk'
      exact ho hk'.2.2
    show upd st.o k _ k' = _
    rw [upd_ne _ _ e1]
    exact hk'

/-- A store into a row of cells. -/
theorem run_storeVar_at (T : TypeId) (g off : Nat) (t : TypeId) (cur : Array Value) (v : Value) {i : TypeInfo} (hi : P.info? T = some i) (hs : v.cells.size = i.size) (hg : w.heap[g]? = some (.cells cur t (0, 0))) (hl : off + v.cells.size ≤ cur.size) (h1 : ∀ u ∈ v.cells, u.oneCell' = true) :
    (Instr.storeAt T (.pointer (some ⟨g, off, none⟩)) v).run P w = .ok () (w.setRow g (cur.toList.take off ++ v.cells.toList ++ cur.toList.drop (off + v.cells.size)).toArray) := by
  have hst := run_storeCells_at P g off t v.cells.toList 0 cur w hg (by simpa using hl) (by simpa using h1)
  simp only [Nat.add_zero, Array.length_toList] at hst
  simp [Instr.storeAt, Instr.sureAddr, storeVar, sizeOf, typeInfo, hi, hs, hst]
theorem splice_get {α : Type} (xs ys : List α) (off : Nat) (h : off + ys.length ≤ xs.length) (j : Nat) : (xs.take off ++ ys ++ xs.drop (off + ys.length))[j]? = if j < off then xs[j]? else if j < off + ys.length then ys[j - off]? else xs[j]? := by
  have hm : min off xs.length = off := by omega
  simp only [List.getElem?_append, List.length_append, List.length_take, List.getElem?_take, List.getElem?_drop, hm]
  by_cases h1 : j < off
  · simp [h1, show j < off + ys.length by omega]
  · by_cases h2 : j < off + ys.length
    · simp [h1, h2]
    · simp only [h1, h2, if_false]
      congr 1
      omega

/-! Operations that make or turn objects. -/
/-- An operation comes to a value x, and the objects to ob. -/
def ORun (P : Program) (n : Nat) (w0 : World) (imp : Im) (oper : Oper) (st : St) (x : PV) (ob : Objs) : Prop :=
  ∀ τ a w, Sim P n w0 imp st τ a w → ∃ v w' τ', ((execOp a.eval oper).run P w = .ok (.value v) w' ∨ ((execOp a.eval oper).run P w = .ok .skip w' ∧ v = undef)) ∧ Sim P n w0 imp { st with o := ob } τ' a w' ∧ Val P ob τ' w' x v

/-- A type's zero value. -/
def zpv (P : Program) (T : TypeId) : Option PV :=
  match P.info? T with
  | some i => match i.zero with
    | some (.agg vs) => if (vs.toList.map ofConst).all PV.one then some (.agg (vs.toList.map ofConst)) else none
    | some v => if (ofConst v).one then some (ofConst v) else none
    | none => none
  | none => none
theorem ok1_const {o : Objs} {v : Value} (h : (ofConst v).one = true) : ok1 o (ofConst v) = true := by
  unfold ofConst at h ⊢
  split <;> first | rfl | simp_all [PV.one]
theorem one_cells {x : PV} (h : x.one = true) : x.cells = [x] := by cases x <;> first | rfl | simp [PV.one] at h
theorem zpv_some {T : TypeId} {x : PV} (h : zpv P T = some x) : ∃ i z, P.info? T = some i ∧ i.zero = some z ∧ (∀ o : Objs, x.cells.all (ok1 o) = true) ∧ ∀ (o : Objs) τ w, Val P o τ w x z := by
  unfold zpv at h
  split at h
  · rename_i i hi
    split at h
    · rename_i vs hz
      split at h
      · rename_i hc
        cases h
        refine ⟨i, _, hi, hz, fun o => ?_, fun o τ w => .agg _ _ (by simp) (fun j z hj => ?_) fun j z u hj hu => ?_⟩
        · simp only [PV.cells, List.all_eq_true, List.mem_map] at hc ⊢
          rintro _ ⟨v, hv, rfl⟩
          exact ok1_const (hc _ ⟨v, hv, rfl⟩)
        · simp only [List.all_eq_true] at hc
          exact hc z (List.mem_of_getElem? hj)
        · simp only [List.getElem?_map, Array.getElem?_toList, hu, Option.map_some, Option.some.injEq] at hj
          subst hj
          exact val_const u
      · cases h
    · rename_i v hne hz
      split at h
      · rename_i hc
        cases h
        refine ⟨i, v, hi, hz, fun o => by rw [one_cells hc]; simp [ok1_const hc], fun o τ w => val_const v⟩
      · cases h
    · cases h
  · cases h
theorem ORun.alloc {oper : Oper} {T : TypeId} {x : PV} (ho : oper.op = .alloc T) (hx : zpv P T = some x) (k : Nat) (hkn : k < n) : ORun P n w0 imp oper st (.ptr k ((st.o k).1 + 1) 0) (st.new k (.box T x.cells)).o := by
  intro τ a w h
  obtain ⟨i, z, hi, hz, h1, hv⟩ := zpv_some hx
  obtain ⟨hs, hv'⟩ := h.newBox k hkn T (hv st.o τ w) (h1 st.o)
  refine ⟨_, _, _, .inl ?_, hs, hv'⟩
  simp [execOp, ho, Instr.alloc, zeroValue, typeInfo, hi, hz, newVar, newRow]
theorem ORun.box {oper : Oper} {T : TypeId} {x : Operand} (ho : oper.op = .box T x) (h1 : (st.ev x).cells.all (ok1 st.o) = true) (k : Nat) (hkn : k < n) : ORun P n w0 imp oper st (.ptr k ((st.o k).1 + 1) 0) (st.new k (.box T (st.ev x).cells)).o := by
  intro τ a w h
  obtain ⟨hs, hv'⟩ := h.newBox k hkn T (ev_val h.slots x) h1
  refine ⟨_, _, _, .inl ?_, hs, hv'⟩
  simp [execOp, ho, Instr.box, newVar, newRow]
/-- What a store into a variable of one's own makes of it. -/
def PV.scal : PV → Bool
  | .int _ _ | .bool _ | .str _ => true
  | _ => false
def absStore (P : Program) (st : St) (T : TypeId) (x y : PV) : Option Objs :=
  match x, tinf P T with
  | .ptr k v off, some (_, sz) => match st.o k with
    | (v', some (true, .box t cs)) => if v' = v ∧ y.cells.length = sz ∧ off + sz ≤ cs.length ∧ y.cells.all (ok1 st.o) = true then some (move2 st.o k k v (.box t (cs.take off ++ y.cells ++ cs.drop (off + sz)))) else none
    | _ => none
  | .eptr k v i j, some (_, sz) => match st.o k with
    | (v', some (true, .row e xs)) => match xs[i]? with
      | some y0 => if v' = v ∧ j = 0 ∧ y0.cells.length = sz ∧ y.cells.length = sz ∧ y.cells.all PV.scal = true then some (move2 st.o k k v (.row e (xs.set i y))) else none
      | none => none
    | _ => none
  | _, _ => none
theorem scal_ok1 {o : Objs} {l : List PV} (h : l.all PV.scal = true) : l.all (ok1 o) = true := by
  simp only [List.all_eq_true] at h ⊢
  intro z hz
  have := h z hz
  cases z <;> first | rfl | simp [PV.scal] at this
theorem scal_rd {o : Objs} {τ : Places} {w : World} {z : PV} {u : Value} (hz : z.scal = true) (h : Val P o τ w z u) : Rd w (Fz o τ w) z u := by
  cases h with
  | pure h => exact h
  | _ => simp [PV.scal] at hz
theorem tinf_some {T : TypeId} {b : Bool} {sz : Nat} (h : tinf P T = some (b, sz)) : ∃ i, P.info? T = some i ∧ i.size = sz := by
  unfold tinf at h
  split at h <;> simp_all
theorem ORun.store {oper : Oper} {T : TypeId} {x y : Operand} (ho : oper.op = .store T x y) {ob : Objs} (hs : absStore P st T (st.ev x) (st.ev y) = some ob) : ORun P n w0 imp oper st .undef ob := by
  intro τ a w h
  unfold absStore at hs
  split at hs
  · rename_i k v off b sz hx ht
    split at hs
    · rename_i v' t cs hk
      split at hs
      · rename_i hc
        obtain ⟨rfl, hl, hoff, h1⟩ := hc
        cases hs
        obtain ⟨i, hi, hsz⟩ := tinf_some ht
        have hxv := ev_val h.slots x
        rw [hx] at hxv
        generalize hav : a.eval x = av at hxv
        cases hxv with
        | pure h' => cases h'
        | ptr k ver off v hv hp =>
          obtain rfl := hp _ _ _ hk
          obtain ⟨hys, hyc⟩ := cells_val (ev_val h.slots y) h1
          obtain ⟨vs, hg, hn, hone, hr⟩ := h.holds.box _ _ _ _ _ hk
          have hyo : ∀ u ∈ (a.eval y).cells, u.oneCell' = true := by
            intro u hu
            obtain ⟨j, hj⟩ := Array.getElem?_of_mem hu
            have hjl := (Array.getElem?_eq_some_iff.1 hj).1
            have : (st.ev y).cells[j]? = some (st.ev y).cells[j] := List.getElem?_eq_getElem (by omega)
            exact (hyc j _ u this hj).2.2
          have hrun := run_storeVar_at (P := P) (w := w) T (τ k).1 off t vs (a.eval y) hi (by omega) hg (by omega) hyo
          generalize hcur : (vs.toList.take off ++ (a.eval y).cells.toList ++ vs.toList.drop (off + (a.eval y).cells.size)).toArray = cur at hrun
          refine ⟨undef, w.setRow (τ k).1 cur, upd τ k ((τ k).1, (τ k).2), .inr ⟨?_, rfl⟩, h.write hk (by simp) (.inl rfl) (.inl ⟨rfl, rfl, ?_, rfl⟩) (setRow_heap w _ vs cur t _ hg) (fun b hb => setRow_other w _ b _ hb) (by simp [World.setRow]) rfl rfl rfl ⟨rfl, ?_, ?_, ?_⟩, .undef _⟩
          · simp only [execOp, ho, hav, Sem.run_bind, hrun, Result.andThen_ok, Sem.run_pure]
          · simp only [Ob.like, true_and, List.length_append, List.length_take, List.length_drop]
            omega
          · rw [← hcur]
            simp only [List.size_toArray, List.length_append, List.length_take, List.length_drop, Array.length_toList]
            omega
          · intro j z hj
            rw [← hl, splice_get _ _ _ (by omega)] at hj
            split at hj
            · exact hone j z hj
            · split at hj
              · obtain ⟨u, hu⟩ := getElem?_of_size hys hj
                exact (hyc _ z u hj hu).2.1
              · exact hone j z hj
          · intro j z u hj hu
            rw [← hl, splice_get _ _ _ (by omega)] at hj
            rw [← hcur, List.getElem?_toArray, show (a.eval y).cells.size = (a.eval y).cells.toList.length by simp, splice_get _ _ _ (by simp; omega)] at hu
            simp only [Array.length_toList, hys, Array.getElem?_toList] at hu
            split at hj
            · rename_i h1
              rw [if_pos h1] at hu
              exact hr j z u hj hu
            · rename_i h1
              rw [if_neg h1] at hu
              split at hj
              · rename_i h2
                rw [if_pos h2] at hu
                exact (hyc _ z u hj hu).1
              · rename_i h2
                rw [if_neg h2] at hu
                exact hr j z u hj hu
      · cases hs
    · cases hs
  · rename_i k v i j b sz hx ht
    split at hs
    · rename_i v' e xs hk
      split at hs
      · rename_i y0 hy0
        split at hs
        · rename_i hc
          obtain ⟨rfl, rfl, hl0, hl, hsc⟩ := hc
          cases hs
          obtain ⟨ii, hi, hsz⟩ := tinf_some ht
          have hxv := ev_val h.slots x
          rw [hx] at hxv
          generalize hav : a.eval x = av at hxv
          cases hxv with
          | pure h' => cases h'
          | eptr k ver i j v hv hp =>
            obtain rfl := hp _ _ _ hk
            obtain ⟨hys, hyc⟩ := cells_val (ev_val h.slots y) (scal_ok1 hsc)
            obtain ⟨vs, hg, hn, hpos, hxl, hm, hz, hone, hr⟩ := h.holds.row _ _ _ _ _ hk
            have hce : P.cellsOf e = sz := by rw [← hz _ _ hy0, hl0]
            have hil : i < xs.length := (List.getElem?_eq_some_iff.1 hy0).1
            have hmul : (i + 1) * sz ≤ (τ k).2 * sz := Nat.mul_le_mul_right sz (by omega)
            rw [Nat.succ_mul] at hmul
            have hyo : ∀ u ∈ (a.eval y).cells, u.oneCell' = true := by
              intro u hu
              obtain ⟨j, hj⟩ := Array.getElem?_of_mem hu
              have hjl := (Array.getElem?_eq_some_iff.1 hj).1
              have : (st.ev y).cells[j]? = some (st.ev y).cells[j] := List.getElem?_eq_getElem (by omega)
              exact (hyc j _ u this hj).2.2
            have hbound : i * P.cellsOf e + 0 + (a.eval y).cells.size ≤ vs.size := by rw [hn, hys, hl, hce]; omega
            have hrun := run_storeVar_at (P := P) (w := w) T (τ k).1 (i * P.cellsOf e + 0) e vs (a.eval y) hi (by omega) hg hbound hyo
            generalize hcur : (vs.toList.take (i * P.cellsOf e + 0) ++ (a.eval y).cells.toList ++ vs.toList.drop (i * P.cellsOf e + 0 + (a.eval y).cells.size)).toArray = cur at hrun
            refine ⟨undef, w.setRow (τ k).1 cur, upd τ k ((τ k).1, (τ k).2), .inr ⟨?_, rfl⟩, h.write hk (by simp) (.inl rfl) (.inl ⟨rfl, rfl, ?_, rfl⟩) (setRow_heap w _ vs cur e _ hg) (fun b hb => setRow_other w _ b _ hb) (by simp [World.setRow]) rfl rfl rfl ⟨rfl, ?_, hpos, ?_, hm, ?_, ?_, ?_⟩, .undef _⟩
            · simp only [execOp, ho, hav, Sem.run_bind, hrun, Result.andThen_ok, Sem.run_pure]
            · simp [Ob.like]
            · rw [← hcur, ← hn]
              simp only [List.size_toArray, List.length_append, List.length_take, List.length_drop, Array.length_toList]
              omega
            · simpa using hxl
            · intro i' y' hy'
              rw [List.getElem?_set] at hy'
              split at hy'
              · cases hy'; rw [hl, hce]
              · exact hz i' y' hy'
            · intro i' y' j z hy' hj
              rw [List.getElem?_set] at hy'
              split at hy'
              · cases hy'
                obtain ⟨u, hu⟩ := getElem?_of_size hys hj
                exact (hyc _ z u hj hu).2.1
              · exact hone i' y' j z hy' hj
            · intro i' y' j z u hy' hj hu
              have hsp := splice_get vs.toList (a.eval y).cells.toList (i * P.cellsOf e + 0) (by simpa using hbound) (i' * P.cellsOf e + j)
              rw [← hcur, List.getElem?_toArray, show (a.eval y).cells.size = (a.eval y).cells.toList.length by simp, hsp] at hu
              simp only [Array.length_toList, hys, hl, hce, Array.getElem?_toList, Nat.add_zero] at hu
              rw [List.getElem?_set] at hy'
              split at hy'
              · rename_i hii
                subst hii
                cases hy'
                have hjl : j < sz := by rw [← hl]; exact (List.getElem?_eq_some_iff.1 hj).1
                rw [if_neg (by omega), if_pos (by omega), show i * sz + j - i * sz = j by omega] at hu
                exact scal_rd (List.all_eq_true.1 hsc z (List.mem_of_getElem? hj)) (hyc _ z u hj hu).1
              · rename_i hii
                have hjl : j < sz := by rw [← hce, ← hz _ _ hy']; exact (List.getElem?_eq_some_iff.1 hj).1
                have hu' : vs[i' * sz + j]? = some u := by
                  rcases Nat.lt_or_gt_of_ne hii with hlt | hgt
                  · have h1 : (i + 1) * sz ≤ i' * sz := Nat.mul_le_mul_right sz (by omega)
                    rw [Nat.succ_mul] at h1
                    rw [if_neg (by omega), if_neg (by omega)] at hu
                    exact hu
                  · have h1 : (i' + 1) * sz ≤ i * sz := Nat.mul_le_mul_right sz (by omega)
                    rw [Nat.succ_mul] at h1
                    rw [if_pos (by omega)] at hu
                    exact hu
                rw [← hce] at hu'
                exact hr i' y' j z u hy' hj hu'
        · cases hs
      · cases hs
    · cases hs
  · cases hs
end
end Go.Sx
/- The abstract machine, part 10: slice literals, made slices, append. -/
set_option linter.unusedVariables false
set_option linter.unusedSimpArgs false
namespace Go.Sx
open Go Go.RowKit

section
variable {P : Program} {n : Nat} {w0 : World} {imp : Im} {st : St} {τ τ' : Places} {a : Act} {w w' : World} {o o' : Objs}

theorem St.freeze_nil (st : St) : st.freeze [] = st := by cases st; simp [St.freeze]
theorem keysOf_obj : ∀ (n : Nat) {x y : PV}, res o n x = some y → ∀ k ∈ keysOf o n x, ∃ ver b z, o k = (ver, some (b, z)) ∧ z ≠ .other
  | 0, x, y, h, k, hk => by cases h
  | n + 1, x, y, h, k, hk => by
    have cells : ∀ {cs cs' : List PV}, cs.mapM (res o n) = some cs' → k ∈ cs.flatMap (keysOf o n) → ∃ ver b z, o k = (ver, some (b, z)) ∧ z ≠ .other := by
      intro cs cs' hm hkc
      obtain ⟨x, hx, hkx⟩ := List.mem_flatMap.1 hkc
      obtain ⟨j, hj⟩ := List.getElem?_of_mem hx
      have hl := (List.getElem?_eq_some_iff.1 hj).1
      have hl' : j < cs'.length := by rw [(mapM_get hm).1]; exact hl
      obtain ⟨x', hx', hr⟩ := (mapM_get hm).2 j _ (List.getElem?_eq_getElem hl')
      rw [hj] at hx'
      cases hx'
      exact keysOf_obj n hr k hkx
    cases x <;> simp only [res] at h <;> simp only [keysOf, List.not_mem_nil] at hk <;> try (first | (cases h; done) | (exact hk.elim; done))
    case agg cs => obtain ⟨cs', hm, rfl⟩ := Option.map_eq_some_iff.1 h; exact cells hm hk
    case tup cs => obtain ⟨cs', hm, rfl⟩ := Option.map_eq_some_iff.1 h; exact cells hm hk
    case fn f fs cs =>
      split at h
      · rename_i e1 e2
        rcases List.mem_append.1 hk with hk | hk
        · exact cells e1 hk
        · exact cells e2 hk
      · cases h
    case ref k' v =>
      simp only [List.mem_singleton] at hk
      subst hk
      obtain ⟨p, hp, rfl⟩ := Option.map_eq_some_iff.1 h
      obtain ⟨b, hb⟩ := getRow_some (t := p.1) (cs := p.2) hp
      exact ⟨_, _, _, hb, by simp⟩
    case ptr k' v off =>
      split at h
      · rename_i t cs hb
        obtain ⟨cs', hm, rfl⟩ := Option.map_eq_some_iff.1 h
        rcases List.mem_cons.1 hk with rfl | hk
        · obtain ⟨b, hb'⟩ := getBox_some hb
          exact ⟨_, _, _, hb', by simp⟩
        · rw [hb] at hk
          exact cells hm hk
      · cases h
theorem Sim.freeze_key (h : Sim P n w0 imp st τ a w) {ks : List Nat} {k ver : Nat} {b : Bool} {x : Ob} (hk : ks.contains k = true) (ho : st.o k = (ver, some (b, x))) (hx : x ≠ .other) : Fz (st.freeze ks).o τ w (τ k).1 := by
  have : (st.freeze ks).o k = (ver, some (false, x)) := by
    simp only [St.freeze, hk, if_true, ho]
    cases x <;> first | rfl | exact absurd rfl hx
  exact (h.freeze ks).holds.fro k ver x this
theorem Sim.freeze_fz (h : Sim P n w0 imp st τ a w) (ks : List Nat) (b : Nat) (hb : Fz st.o τ w b) : Fz (st.freeze ks).o τ w b :=
  ⟨hb.1, fun k ⟨ver, x, hk⟩ => hb.2 k (by obtain ⟨b', h1, h2⟩ := freeze_some hk; obtain rfl := h2 rfl; exact ⟨ver, x, h1⟩)⟩
/-- A value, its rows and variables frozen. -/
theorem Sim.resolved (h : Sim P n w0 imp st τ a w) {ks : List Nat} {f : Nat} {x y : PV} {v : Value} (hv : Val P st.o τ w x v) (hr : res st.o f x = some y) (hk : ∀ k ∈ keysOf st.o f x, ks.contains k = true) : Rd w (Fz (st.freeze ks).o τ w) y v :=
  res_sound h.holds (h.freeze_fz ks) f hv hr fun k hkk => by
    obtain ⟨ver, b, z, ho, hz⟩ := keysOf_obj f hr k hkk
    exact h.freeze_key (hk k hkk) ho hz

theorem rd_const {B : Nat → Prop} {v : Value} (h : (ofConst v).one = true) : Rd w B (ofConst v) v := by
  unfold ofConst at h ⊢
  split
  · exact .int _ _
  · exact .bool _
  · exact .str _
  · exact .nil none
  · exact absurd h (by simp [PV.one])
theorem Rd.cells_val {B : Nat → Prop} {x : PV} {v : Value} (h : Rd w B x v) (h1 : ∀ z ∈ x.cells, z.one = true) : v.cells.size = x.cells.length ∧ ∀ (j : Nat) (z : PV) (u : Value), x.cells[j]? = some z → v.cells[j]? = some u → Rd w B z u ∧ u.oneCell' = true := by
  by_cases hx : ∃ cs, x = .agg cs
  · obtain ⟨cs, rfl⟩ := hx
    cases h with
    | agg cs vs hn ho hr => exact ⟨hn, fun j z u hz hu => ⟨hr j z u hz hu, (hr j z u hz hu).one_cell (ho j z hz)⟩⟩
  · have hc : x.cells = [x] := by cases x <;> first | rfl | exact absurd ⟨_, rfl⟩ hx
    have ho : x.one = true := h1 x (by rw [hc]; simp)
    have hv := h.one_cell ho
    rw [hc, cells_of_one hv]
    refine ⟨rfl, fun j z u hz hu => ?_⟩
    match j, hz, hu with
    | 0, hz, hu => simp at hz hu; subst hz; subst hu; exact ⟨h, hv⟩
    | j + 1, hz, hu => simp at hz

/-- A literal's elements, their rows and variables to be frozen. -/
def absLit (P : Program) (st : St) (T : TypeId) (len : Nat) (parts : List (Nat × Operand)) : Option (TypeId × List PV × List Nat) :=
  match einf P T with
  | some (e, sz, _, _) => match parts.mapM (fun p => res st.o 3 (st.ev p.2)) with
    | some ys => if parts.map Prod.fst = List.range len ∧ len * sz ≤ 16777216 ∧ 0 < len ∧ (∀ p ∈ parts, (st.ev p.2).cells.length = sz ∧ (st.ev p.2).cells.all (ok1 st.o) = true) ∧ (∀ y ∈ ys, y.cells.length = sz ∧ y.cells.all PV.one = true) then
        some (e, ys, parts.flatMap fun p => keysOf st.o 3 (st.ev p.2)) else none
    | none => none
  | none => none
theorem lit_row (h : Sim P n w0 imp st τ a w) {T e : TypeId} {len : Nat} {parts : Array (Nat × Operand)} {ys : List PV} {ks : List Nat} (hl : absLit P st T len parts.toList = some (e, ys, ks)) :
    ∃ us : Array Value, (Instr.buildSlice T len (parts.map fun (i, x) => (i, a.eval x))).run P w = .ok (.slice (some ⟨w.heap.size, 0, none⟩) len len) (w.alloc (.cells us e)) ∧ ys.length = len ∧ 0 < len ∧ len ≤ maxLen ∧ 0 < P.cellsOf e ∧ us.size = len * P.cellsOf e ∧
      (∀ (i : Nat) (y : PV), ys[i]? = some y → y.cells.length = P.cellsOf e) ∧ (∀ (i : Nat) (y : PV) (j : Nat) (z : PV), ys[i]? = some y → y.cells[j]? = some z → z.one = true) ∧
      ∀ (i : Nat) (y : PV) (j : Nat) (z : PV) (u : Value), ys[i]? = some y → y.cells[j]? = some z → us[i * P.cellsOf e + j]? = some u → Rd w (Fz (st.freeze ks).o τ w) z u := by
  unfold absLit at hl
  split at hl
  · rename_i e' sz by_ zc hei
    split at hl
    · rename_i ys' hm
      split at hl
      · rename_i hc
        obtain ⟨hp, h24, h0, hcs, hys⟩ := hc
        cases hl
        obtain ⟨inf, z, hu, hi, hz, hzs, hs, hb, hp0, _, _, hcell⟩ := einf_some hei
        obtain ⟨us, hrun, husz, hus⟩ := run_literal h.slots hei hp h24 h0 hcs
        obtain ⟨hlen, hget⟩ := mapM_get hm
        have hpl : parts.toList.length = len := by have := congrArg List.length hp; simpa using this
        refine ⟨us, hrun, by rw [hlen, hpl], h0, ?_, by rw [hcell]; exact hp0, by rw [hcell]; exact husz, fun i y hy => by rw [hcell]; exact (hys y (List.mem_of_getElem? hy)).1, fun i y j z hy hj => ?_, fun i y j z u hy hj hu => ?_⟩
        · have : len ≤ len * sz := Nat.le_mul_of_pos_right _ hp0
          simp only [maxLen]; omega
        · exact List.all_eq_true.1 (hys y (List.mem_of_getElem? hy)).2 z (List.mem_of_getElem? hj)
        · obtain ⟨p, hpp, hr⟩ := hget i y hy
          have hjs : j < sz := by rw [← (hys y (List.mem_of_getElem? hy)).1]; exact (List.getElem?_eq_some_iff.1 hj).1
          rw [hcell, hus i j p hpp hjs] at hu
          have hrd := h.resolved (ks := parts.toList.flatMap fun p => keysOf st.o 3 (st.ev p.2)) (ev_val h.slots p.2) hr (fun k hk => by
            rw [List.contains_iff_mem]
            exact List.mem_flatMap.2 ⟨p, List.mem_of_getElem? hpp, hk⟩)
          exact ((hrd.cells_val (fun z hz => List.all_eq_true.1 (hys y (List.mem_of_getElem? hy)).2 z hz)).2 j z u hj hu).1
      · cases hl
    · cases hl
  · cases hl
/-- A literal that is one's own. -/
theorem ORun.lit {oper : Oper} {T e : TypeId} {len : Nat} {parts : Array (Nat × Operand)} {ys : List PV} {ks : List Nat} (ho : oper.op = .buildSlice T len parts) (hl : absLit P st T len parts.toList = some (e, ys, ks)) (k : Nat) (hkn : k < n) :
    ORun P n w0 imp oper st (.ref k (((st.freeze ks).o k).1 + 1)) ((st.freeze ks).new k (.row e ys)).o := by
  intro τ a w h
  obtain ⟨us, hrun, hlen, h0, h63, hp0, husz, hz, h1, hr⟩ := lit_row h hl
  have h2 := (h.freeze ks).newObj k hkn (.row e ys) len us e ⟨rfl, husz, hp0, by omega, h63, hz, h1, hr⟩
  refine ⟨.slice (some ⟨w.heap.size, 0, none⟩) len len, _, _, .inl ?_, h2, .ref _ _ _ (by rw [new_self]; exact Nat.le_refl _) fun b e' xs hk => ?_⟩
  · simp only [execOp, ho, Sem.run_bind, hrun, Result.andThen_ok, Sem.run_pure]
  · rw [new_self] at hk
    simp only [Prod.mk.injEq, Option.some.injEq, Ob.row.injEq, true_and] at hk
    obtain ⟨_, _, rfl⟩ := hk
    rw [upd_same, hlen]
/-- A new block that nobody writes. -/
theorem Sim.newFrozen (h : Sim P n w0 imp st τ a w) (ob : Go.Obj) : Sim P n w0 imp st τ a (w.alloc ob) ∧ Fz st.o τ (w.alloc ob) w.heap.size ∧ ∀ b, Fz st.o τ w b → Fz st.o τ (w.alloc ob) b ∧ (w.alloc ob).heap[b]? = w.heap[b]? := by
  have hfz : ∀ b, Fz st.o τ w b → Fz st.o τ (w.alloc ob) b ∧ (w.alloc ob).heap[b]? = w.heap[b]? := fun b hb => ⟨⟨by rw [alloc_size]; exact Nat.lt_succ_of_lt hb.1, hb.2⟩, Below.heap_alloc w ob b hb.1⟩
  have he : Ext st.o τ w st.o τ (w.alloc ob) := ⟨hfz, fun k => Nat.le_refl _, fun k b' x' hk => ⟨b', x', hk, by cases x' <;> simp [Ob.like], rfl⟩⟩
  refine ⟨Sim.step h he ⟨fun k' v b t' cs hk' => ?_, fun k' v b e xs hk' => ?_, fun k' v b hk' => by rw [alloc_size]; exact Nat.lt_succ_of_lt (h.holds.oth k' v b hk'), h.holds.inj, fun k' v y hk' => (hfz _ (h.holds.fro k' v y hk')).1⟩ ⟨h.frame.os, h.frame.tape, h.frame.output, by rw [alloc_size]; exact Nat.le_succ_of_le h.frame.size, fun b hb hi => by rw [Below.heap_alloc w _ b (Nat.lt_of_lt_of_le hb h.frame.size)]; exact h.frame.block b hb hi⟩ h.mine (fun k ver _ hk => ⟨hk, rfl⟩), ⟨by rw [alloc_size]; exact Nat.lt_succ_self _, fun k ⟨v, y, hk⟩ => Nat.ne_of_lt (h.holds.lt hk)⟩, hfz⟩
  · obtain ⟨us, hg', hn, h1, hr⟩ := h.holds.box k' v b t' cs hk'
    exact ⟨us, by rw [Below.heap_alloc w _ _ (h.holds.lt hk')]; exact hg', hn, h1, fun j z u hz hu => (hr j z u hz hu).ext he⟩
  · obtain ⟨us, hg', hn, hs, hl, hm, hz, h1, hr⟩ := h.holds.row k' v b e xs hk'
    exact ⟨us, by rw [Below.heap_alloc w _ _ (h.holds.lt hk')]; exact hg', hn, hs, hl, hm, hz, h1, fun i y j z u hy hj hu => (hr i y j z u hy hj hu).ext he.fz⟩
/-- A row's block read as frozen memory. -/
theorem row_rd {B : Nat → Prop} {ys : List PV} {g len c sz : Nat} {us : Array Value} {e : TypeId} (hg : w.heap[g]? = some (.cells us e (0, 0))) (hB : B g) (hlen : ys.length = len) (h0 : 0 < len) (hc : len ≤ c) (husz : len * sz ≤ us.size) (hz : ∀ (i : Nat) (y : PV), ys[i]? = some y → y.cells.length = sz)
    (h1 : ∀ (i : Nat) (y : PV) (j : Nat) (z : PV), ys[i]? = some y → y.cells[j]? = some z → z.one = true)
    (hr : ∀ (i : Nat) (y : PV) (j : Nat) (z : PV) (u : Value), ys[i]? = some y → y.cells[j]? = some z → us[i * sz + j]? = some u → Rd w B z u) : Rd w B (.sl ys) (.slice (some ⟨g, 0, none⟩) len c) := by
  have hlt : ∀ (i : Nat) (y : PV) (j : Nat) (z : PV), ys[i]? = some y → y.cells[j]? = some z → i * sz + j < us.size := by
    intro i y j z hy hj
    have h1 : j < sz := by rw [← hz i y hy]; exact (List.getElem?_eq_some_iff.1 hj).1
    have h2 : i < ys.length := (List.getElem?_eq_some_iff.1 hy).1
    calc i * sz + j < i * sz + sz := by omega
      _ = (i + 1) * sz := by rw [Nat.add_mul, Nat.one_mul]
      _ ≤ len * sz := Nat.mul_le_mul_right _ (by omega)
      _ ≤ us.size := husz
  refine .sl _ _ _ _ sz (fun i j => us.getD (i * sz + j) undef) hlen h0 hc hB hz (fun i y j z hy hj => ⟨h1 i y j z hy hj, ?_⟩) fun i y j z hy hj => hr i y j z _ hy hj ?_
  · rw [cell_blk hg]; simp [Array.getD_eq_getD_getElem?, hlt i y j z hy hj]
  · simp [Array.getD_eq_getD_getElem?, hlt i y j z hy hj]
/-- A literal that nobody writes, of parts that nobody writes. -/
theorem ORun.litFrozen {oper : Oper} {T e : TypeId} {len : Nat} {parts : Array (Nat × Operand)} {ys : List PV} (ho : oper.op = .buildSlice T len parts) (hl : absLit P st T len parts.toList = some (e, ys, [])) :
    ORun P n w0 imp oper st (.sl ys) st.o := by
  intro τ a w h
  obtain ⟨us, hrun, hlen, h0, h63, hp0, husz, hz, h1, hr⟩ := lit_row h hl
  rw [St.freeze_nil] at hr
  obtain ⟨h2, h3, h4⟩ := h.newFrozen (.cells us e (0, 0))
  refine ⟨_, _, _, .inl ?_, h2, .pure (row_rd (heap_alloc_new w _) h3 hlen h0 (Nat.le_refl _) (Nat.le_of_eq husz.symm) hz h1 fun i y j z u hy hj hu => (hr i y j z u hy hj hu).ext h4)⟩
  simp only [execOp, ho, Sem.run_bind, hrun, Result.andThen_ok, Sem.run_pure]
/-- An empty literal. -/
theorem ORun.lit0 {oper : Oper} {T e : TypeId} {sz : Nat} (ho : oper.op = .buildSlice T 0 #[]) (hT : selem P T = some (e, sz)) : ORun P n w0 imp oper st .nil st.o := by
  intro τ a w h
  obtain ⟨hu, i, hi, hs⟩ := selem_some hT
  refine ⟨.slice (some ⟨w.heap.size, 0, none⟩) 0 0, w.alloc (.cells #[] e), _, .inl ?_, (h.newFrozen _).1, .pure (.nil _)⟩
  simp [execOp, ho, Instr.buildSlice, run_underlying hu, sizeOf, typeInfo, hi, Instr.fill, newRow, Array.range_zero']
end
end Go.Sx
/- The abstract machine, part 11: made slices and append. -/
set_option linter.unusedVariables false
set_option linter.unusedSimpArgs false
namespace Go.Sx
open Go Go.RowKit

section
variable {P : Program} {n : Nat} {w0 : World} {imp : Im} {st : St} {τ τ' : Places} {a : Act} {w w' : World} {o o' : Objs}

/-- An element type's zero value: its cells. -/
def absMake (P : Program) (T : TypeId) (l c : PV) : Option (TypeId × List PV) :=
  match l, c, einf P T with
  | .int _ ln, .int _ cn, some (e, sz, by_, zc) => match zpv P e with
    | some z => if 0 ≤ ln ∧ ln ≤ cn ∧ cn * (by_ + 1) ≤ 140737488355328 ∧ z.cells.length = sz then some (e, List.replicate ln.toNat z) else none
    | none => none
  | _, _, _ => none
theorem zpv_rd {T : TypeId} {x : PV} {i : TypeInfo} {z : Value} {B : Nat → Prop} (h : zpv P T = some x) (hi : P.info? T = some i) (hz : i.zero = some z) : Rd w B x z ∧ ∀ y ∈ x.cells, y.one = true := by
  unfold zpv at h
  rw [hi] at h
  simp only [hz] at h
  split at h
  · rename_i vs e
    cases e
    split at h
    · rename_i hc
      cases h
      simp only [List.all_eq_true] at hc
      refine ⟨.agg _ _ (by simp) (fun j z hj => hc z (List.mem_of_getElem? hj)) fun j z u hj hu => ?_, hc⟩
      have hm := List.mem_of_getElem? hj
      simp only [List.getElem?_map, Array.getElem?_toList, hu, Option.map_some, Option.some.injEq] at hj
      subst hj
      exact rd_const (hc _ hm)
    · cases h
  · rename_i v hne e
    cases e
    split at h
    · rename_i hc
      cases h
      refine ⟨rd_const hc, fun y hy => ?_⟩
      rw [one_cells hc] at hy
      simp at hy
      subst hy
      exact hc
    · cases h
  · cases h
theorem madeCells_get (z : Array Value) (i j c : Nat) (hj : j < z.size) (h : i < c) : (madeCells z (c * z.size))[i * z.size + j]? = z[j]? := by
  have hlt : i * z.size + j < c * z.size := by
    calc i * z.size + j < i * z.size + z.size := by omega
      _ = (i + 1) * z.size := by rw [Nat.add_mul, Nat.one_mul]
      _ ≤ c * z.size := Nat.mul_le_mul_right _ h
  have hmod : (i * z.size + j) % z.size = j := by rw [Nat.mul_comm, Nat.mul_add_mod, Nat.mod_eq_of_lt hj]
  unfold madeCells
  rw [Array.getElem?_map, Array.getElem?_range, if_pos hlt]
  simp [hmod, hj]
theorem ORun.make {oper : Oper} {T e : TypeId} {l c : Operand} {xs : List PV} (ho : oper.op = .makeSlice T l c) (hm : absMake P T (st.ev l) (st.ev c) = some (e, xs)) (k : Nat) (hkn : k < n) :
    ORun P n w0 imp oper st (.ref k ((st.o k).1 + 1)) (st.new k (.row e xs)).o := by
  intro τ a w h
  unfold absMake at hm
  split at hm
  · rename_i kl ln kc cn e' sz by_ zc hel hec hei
    split at hm
    · rename_i z hz
      split at hm
      · rename_i hc
        obtain ⟨h0, hlc, hb, hzl⟩ := hc
        cases hm
        obtain ⟨inf, zv, hu, hi, hzv, hzs, hs, hbb, hp0, _, _, hcell⟩ := einf_some hei
        obtain ⟨hrd, hone⟩ := zpv_rd (w := w) (B := Fz st.o τ w) hz hi hzv
        have hcells := hrd.cells_val hone
        have hl := ev_val h.slots l
        have hc := ev_val h.slots c
        rw [hel] at hl
        rw [hec] at hc
        have hl := hl.int_inv
        have hc := hc.int_inv
        have hcn : cn ≤ 140737488355328 := by
          have : cn * 1 ≤ cn * ((by_ : Int) + 1) := Int.mul_le_mul_of_nonneg_left (by omega) (by omega)
          omega
        have hbc : (by_ : Int) * cn ≤ 140737488355328 := by
          have : (by_ : Int) * cn ≤ cn * ((by_ : Int) + 1) := by rw [Int.mul_comm, Int.mul_add]; omega
          omega
        have hrun := run_make (P := P) w T e inf zv hu hi hzv kl kc ln cn h0 hlc (by rw [hbb]; omega) (by omega)
        rw [hs] at hrun
        have hlen : (List.replicate ln.toNat z).length = ln.toNat := by simp
        have hmem : ∀ {i : Nat} {y : PV}, (List.replicate ln.toNat z)[i]? = some y → y = z ∧ i < ln.toNat := by
          intro i y hy
          have hi := (List.getElem?_eq_some_iff.1 hy).1
          rw [hlen] at hi
          rw [List.getElem?_replicate, if_pos hi] at hy
          cases hy
          exact ⟨rfl, hi⟩
        have h2 := h.newObj k hkn (.row e (List.replicate ln.toNat z)) cn.toNat (madeCells zv.cells (cn.toNat * sz)) e ⟨rfl, by rw [size_madeCells, hcell], by rw [hcell]; exact hp0, by rw [hlen]; omega, by simp only [maxLen]; omega,
          fun i y hy => by rw [(hmem hy).1, hcell]; exact hzl, fun i y j z' hy hj => by rw [(hmem hy).1] at hj; exact hone z' (List.mem_of_getElem? hj), fun i y j z' u hy hj hu => ?_⟩
        · refine ⟨.slice (some ⟨w.heap.size, 0, none⟩) ln.toNat cn.toNat, _, _, .inl ?_, h2, .ref _ _ _ (by rw [new_self]; exact Nat.le_refl _) fun b e' xs hk => ?_⟩
          · simp only [execOp, ho, hl, hc, Sem.run_bind, hrun, Result.andThen_ok, Sem.run_pure]
          · rw [new_self] at hk
            simp only [Prod.mk.injEq, Option.some.injEq, Ob.row.injEq, true_and] at hk
            obtain ⟨_, _, rfl⟩ := hk
            rw [upd_same, hlen]
        · obtain ⟨rfl, hil⟩ := hmem hy
          have hjz : j < zv.cells.size := by rw [hzs, ← hzl]; exact (List.getElem?_eq_some_iff.1 hj).1
          rw [hcell, ← hzs, madeCells_get zv.cells i j cn.toNat hjz (by omega)] at hu
          exact (hcells.2 j z' u hj hu).1
      · cases hm
    · cases hm
  · cases hm

/-! Append. -/
/-- Frozen elements as a list of cells. -/
theorem rd_news {B : Nat → Prop} {ys : List PV} {v : Value} (h : Rd w B (.sl ys) v) (hne : ys ≠ []) : ∃ (ad : Addr) (c sz : Nat) (news : List Value), v = .slice (some ad) ys.length c ∧ (∀ (i : Nat) (y : PV), ys[i]? = some y → y.cells.length = sz) ∧ (∀ (i : Nat) (y : PV) (j : Nat) (z : PV), ys[i]? = some y → y.cells[j]? = some z → z.one = true) ∧ (0 < sz → news.length = ys.length * sz ∧ (∀ (j : Nat) (u : Value), news[j]? = some u → w.cell? (ad.add j) = some u) ∧ (∀ u ∈ news, u.oneCell' = true) ∧
      ∀ (i : Nat) (y : PV) (j : Nat) (z : PV) (u : Value), ys[i]? = some y → y.cells[j]? = some z → news[i * sz + j]? = some u → Rd w B z u) := by
  cases h with
  | sl0 => exact absurd rfl hne
  | sl xs ad m c sz us hn h0 hc hB hz hu hr =>
    subst hn
    refine ⟨ad, c, sz, (List.range (ys.length * sz)).map fun q => us (q / sz) (q % sz), rfl, hz, fun i y j z hy hj => (hu i y j z hy hj).1, fun hsz => ⟨by simp, ?_⟩⟩
    have key : ∀ q, q < ys.length * sz → ∃ y z, ys[q / sz]? = some y ∧ y.cells[q % sz]? = some z := by
      intro q hq
      have h1 : q / sz < ys.length := Nat.div_lt_of_lt_mul (by rw [Nat.mul_comm]; exact hq)
      have h2 : q % sz < sz := Nat.mod_lt _ hsz
      have hy : ys[q / sz]? = some ys[q / sz] := List.getElem?_eq_getElem h1
      have hl := hz _ _ hy
      exact ⟨_, _, hy, List.getElem?_eq_getElem (by rw [hl]; exact h2)⟩
    have hdm : ∀ q, q / sz * sz + q % sz = q := fun q => by rw [Nat.mul_comm]; exact Nat.div_add_mod q sz
    refine ⟨fun j u hj => ?_, fun u hu' => ?_, fun i y j z u hy hj huu => ?_⟩
    · have hlt : j < ys.length * sz := by simpa using (List.getElem?_eq_some_iff.1 hj).1
      rw [List.getElem?_map, List.getElem?_range hlt] at hj
      simp only [Option.map_some, Option.some.injEq] at hj
      subst hj
      obtain ⟨y, z, hy, hz'⟩ := key j hlt
      have := (hu _ y _ z hy hz').2
      rw [hdm] at this
      exact this
    · obtain ⟨q, hq, rfl⟩ := List.mem_map.1 hu'
      obtain ⟨y, z, hy, hz'⟩ := key q (by simpa using hq)
      exact (hr _ y _ z hy hz').one_cell (hu _ y _ z hy hz').1
    · have hjs : j < sz := by rw [← hz i y hy]; exact (List.getElem?_eq_some_iff.1 hj).1
      have hi := (List.getElem?_eq_some_iff.1 hy).1
      have hlt : i * sz + j < ys.length * sz := by
        calc i * sz + j < i * sz + sz := by omega
          _ = (i + 1) * sz := by rw [Nat.add_mul, Nat.one_mul]
          _ ≤ ys.length * sz := Nat.mul_le_mul_right _ hi
      rw [List.getElem?_map, List.getElem?_range hlt] at huu
      simp only [Option.map_some, Option.some.injEq] at huu
      subst huu
      have e1 : (i * sz + j) / sz = i := by rw [Nat.mul_comm, Nat.mul_add_div hsz, Nat.div_eq_of_lt hjs, Nat.add_zero]
      have e2 : (i * sz + j) % sz = j := by rw [Nat.mul_comm, Nat.mul_add_mod, Nat.mod_eq_of_lt hjs]
      rw [e1, e2]
      exact hr i y j z hy hj

/-- append: to nothing, or to a row of one's own. -/
def absAppend (P : Program) (st : St) (d : Nat) (T : TypeId) (x y : PV) : Option (PV × Objs) :=
  match einf P T, res st.o 3 y with
  | some (e, sz, by_, _), some (.sl ys) =>
    if ∀ z ∈ ys, z.cells.length = sz then
      (match x with
      | .nil => if ys = [] then some (.nil, st.o) else if ys.length * (by_ + 1) ≤ 140737488355328 then some (.ref d ((st.o d).1 + 1), ((st.freeze (keysOf st.o 3 y)).new d (.row e ys)).o) else none
      | .ref k v => match (st.freeze (keysOf st.o 3 y)).o k with
        | (v', some (true, .row e' xs)) => if v' = v ∧ e' = e ∧ (xs.length + ys.length) * (by_ + 1) ≤ 140737488355328 then some (.ref d ((st.o d).1 + 1), move2 (st.freeze (keysOf st.o 3 y)).o k d ((st.o d).1 + 1) (.row e (xs ++ ys))) else none
        | _ => none
      | _ => none)
    else none
  | _, _ => none
theorem freeze_ver (st : St) (ks : List Nat) (k : Nat) : ((st.freeze ks).o k).1 = (st.o k).1 := by
  simp only [St.freeze]
  split
  · cases hp : st.o k with
    | mk v q => cases q with
      | none => rfl
      | some q => obtain ⟨b, x⟩ := q; cases x <;> rfl
  · rfl
theorem run_append_none (w : World) (t ty e : TypeId) (i : TypeInfo) (ht : P.underlying t = some (.slice e)) (hi : P.info? e = some i) (base : Option Addr) (sLen sCap : Nat) (hle : sLen ≤ sCap) (b2 : Option Addr) (c : Nat) :
    (Builtin.append_ #[t, t] ty #[.slice base sLen sCap, .slice b2 0 c]).run P w = .ok (.slice base sLen sCap) w := by
  cases base <;> cases b2 <;> simp [Builtin.append_, run_underlying ht, sizeOf, typeInfo, hi, Builtin.lenOf, Builtin.firstCells, loadCells, loadCellsFrom, hle, storeCells]
theorem append_rd {B : Nat → Prop} {xs ys : List PV} {sz : Nat} {olds news : List Value} {us : Array Value} (ho : olds.length = xs.length * sz) (hn : news.length = ys.length * sz) (hu : ∀ j, j < (xs.length + ys.length) * sz → us[j]? = (olds ++ news)[j]?)
    (hz : ∀ (i : Nat) (y : PV), (xs ++ ys)[i]? = some y → y.cells.length = sz)
    (h1 : ∀ (i : Nat) (y : PV) (j : Nat) (z : PV) (u : Value), xs[i]? = some y → y.cells[j]? = some z → olds[i * sz + j]? = some u → Rd w B z u)
    (h2 : ∀ (i : Nat) (y : PV) (j : Nat) (z : PV) (u : Value), ys[i]? = some y → y.cells[j]? = some z → news[i * sz + j]? = some u → Rd w B z u) :
    ∀ (i : Nat) (y : PV) (j : Nat) (z : PV) (u : Value), (xs ++ ys)[i]? = some y → y.cells[j]? = some z → us[i * sz + j]? = some u → Rd w B z u := by
  intro i y j z u hy hj huu
  have hjs : j < sz := by rw [← hz i y hy]; exact (List.getElem?_eq_some_iff.1 hj).1
  have hi := (List.getElem?_eq_some_iff.1 hy).1
  rw [List.length_append] at hi
  have hlt : i * sz + j < (xs.length + ys.length) * sz := by
    calc i * sz + j < i * sz + sz := by omega
      _ = (i + 1) * sz := by rw [Nat.add_mul, Nat.one_mul]
      _ ≤ (xs.length + ys.length) * sz := Nat.mul_le_mul_right _ hi
  rw [hu _ hlt] at huu
  by_cases hx : i < xs.length
  · rw [List.getElem?_append_left hx] at hy
    have hlt2 : i * sz + j < xs.length * sz := by
      calc i * sz + j < i * sz + sz := by omega
        _ = (i + 1) * sz := by rw [Nat.add_mul, Nat.one_mul]
        _ ≤ xs.length * sz := Nat.mul_le_mul_right _ hx
    rw [List.getElem?_append_left (by rw [ho]; exact hlt2)] at huu
    exact h1 i y j z u hy hj huu
  · rw [List.getElem?_append_right (by omega)] at hy
    have hge : xs.length * sz ≤ i * sz + j := Nat.le_trans (Nat.mul_le_mul_right _ (by omega)) (Nat.le_add_right _ _)
    rw [List.getElem?_append_right (by rw [ho]; exact hge), ho] at huu
    have e : i * sz + j - xs.length * sz = (i - xs.length) * sz + j := by
      rw [Nat.sub_mul]; have := Nat.mul_le_mul_right sz (show xs.length ≤ i by omega); omega
    rw [e] at huu
    exact h2 _ y j z u hy hj huu
theorem take_drop_get (cur : Array Value) (news : List Value) (k : Nat) (h : k + news.length ≤ cur.size) (j : Nat) (hj : j < k + news.length) : ((cur.toList.take k ++ news ++ cur.toList.drop (k + news.length)).toArray)[j]? = (cur.toList.take k ++ news)[j]? := by
  rw [List.getElem?_toArray, List.getElem?_append_left]
  simp; omega
theorem ORun.append {oper : Oper} {c : Call} {d : Nat} (hkn : d < n) {T : TypeId} {x y : Operand} {r : PV} {ob : Objs} (ho : oper.op = .call c) (hca : c.callee = .builtin .append) (hargs : c.args = #[x, y]) (hty : c.argTypes = #[T, T]) (hr : absAppend P st d T (st.ev x) (st.ev y) = some (r, ob)) :
    ORun P n w0 imp oper st r ob := by
  intro τ a w h
  have hex : ∀ {v : Value} {w' : World}, (Builtin.append_ #[T, T] oper.type #[a.eval x, a.eval y]).run P w = .ok v w' → (execOp a.eval oper).run P w = .ok (.value v) w' := by
    intro v w' hv
    simp [execOp, ho, resolve, hca, hargs, hty, invoke, builtin, hv]
  unfold absAppend at hr
  split at hr
  rotate_left
  · cases hr
  rename_i e sz by_ zc ys hei hres
  split at hr
  rotate_left
  · cases hr
  rename_i hysz
  obtain ⟨inf, zv, hu, hi, hzv, hzs, hs, hbb, hp0, _, _, hcell⟩ := einf_some hei
  have hyr := h.resolved (ks := keysOf st.o 3 (st.ev y)) (ev_val h.slots y) hres (fun k hk => by rw [List.contains_iff_mem]; exact hk)
  have hxv := ev_val h.slots x
  have hy0 : ys = [] → ∃ b2 c2, a.eval y = .slice b2 0 c2 := by
    rintro rfl
    generalize a.eval y = v at hyr
    cases hyr with
    | sl0 a c => exact ⟨_, _, rfl⟩
    | sl xs ad n c sz us hn h0 => simp at hn; omega
  have hszz : ∀ {sz' : Nat}, (∀ (i : Nat) (y : PV), ys[i]? = some y → y.cells.length = sz') → ys ≠ [] → sz' = sz := by
    intro sz' hz' hne
    obtain ⟨z, rest, rfl⟩ := List.exists_cons_of_ne_nil hne
    rw [← hz' 0 z rfl]
    exact hysz z (by simp)
  -- a block made by growing
  have grow : ∀ (ks : List Nat) (st1 : St), st1.s = st.s → Sim P n w0 imp st1 τ a w → (∀ b, Fz (st.freeze (keysOf st.o 3 (st.ev y))).o τ w b → Fz st1.o τ w b) → (st1.o d).1 = (st.o d).1 → ys ≠ [] →
      ∀ (xs : List PV) (olds : List Value) (base : Option Addr) (sCap : Nat), olds.length = xs.length * sz → (∀ (i : Nat) (y : PV), xs[i]? = some y → y.cells.length = sz) → (∀ (i : Nat) (y : PV) (j : Nat) (z : PV), xs[i]? = some y → y.cells[j]? = some z → z.one = true) →
        (∀ (i : Nat) (y : PV) (j : Nat) (z : PV) (u : Value), xs[i]? = some y → y.cells[j]? = some z → olds[i * sz + j]? = some u → Rd w (Fz st1.o τ w) z u) →
        (base = none → sCap = 0 ∧ xs = []) → (∀ b, base = some b → ∀ j v, olds[j]? = some v → w.cell? (b.add j) = some v) → sCap < xs.length + ys.length → (xs.length + ys.length) * (by_ + 1) ≤ 140737488355328 → a.eval x = .slice base xs.length sCap →
        ∃ v w' τ', (Builtin.append_ #[T, T] oper.type #[a.eval x, a.eval y]).run P w = .ok v w' ∧ Sim P n w0 imp (st1.new d (.row e (xs ++ ys))) τ' a w' ∧ Val P (st1.new d (.row e (xs ++ ys))).o τ' w' (.ref d ((st.o d).1 + 1)) v := by
    intro _ st1 hst h1 hfz hver hne xs olds base sCap hol hxz hxo hxr hb0 hbs hcap hbig hex
    obtain ⟨ad, c, sz', news, hv, hz', ho', hnews⟩ := rd_news hyr hne
    obtain rfl := hszz hz' hne
    obtain ⟨hnl, hnc, hn1, hnr⟩ := hnews hp0
    have hypos : 0 < ys.length := List.length_pos_iff.2 hne
    have hb1 : xs.length + ys.length ≤ 140737488355328 := Nat.le_trans (Nat.le_mul_of_pos_right _ (by omega)) hbig
    have hb2 : (xs.length + ys.length) * by_ ≤ 140737488355328 := Nat.le_trans (Nat.mul_le_mul_left _ (by omega)) hbig
    have hrun : (Builtin.append_ #[T, T] oper.type #[a.eval x, a.eval y]).run P w = .ok (.slice (some ⟨w.heap.size, 0, none⟩) (xs.length + ys.length) (grownCap w (xs.length + ys.length) sCap e)) (w.drew.alloc (.cells (olds.toArray ++ news.toArray ++ Builtin.zeroCells zv.cells (grownCap w (xs.length + ys.length) sCap e - (xs.length + ys.length))) e)) := by
      rw [hex, hv]
      cases base with
      | none =>
        obtain ⟨rfl, rfl⟩ := hb0 rfl
        have : olds = [] := List.eq_nil_of_length_eq_zero (by simpa using hol)
        subst this
        have := run_append_nil (P := P) w T oper.type e inf zv hu hi hzv ad ys.length c news (by rw [hs]; exact hnl) hnc hypos (by simp at hb1; omega) (by rw [hbb]; simp at hb2; omega)
        simpa using this
      | some b =>
        exact run_append_grow (P := P) w T oper.type e inf zv hu hi hzv b xs.length sCap olds (by rw [hs]; exact hol) (hbs b rfl) ad ys.length c news (by rw [hs]; exact hnl) hnc hcap (by omega) (by rw [hbb]; exact growslice_fits hcap hb2)
    have hge := grownCap_ge w (xs.length + ys.length) sCap e
    have hle := grownCap_le_maxLen w (xs.length + ys.length) sCap e (by simp only [maxLen]; omega)
    have h1' : Sim P n w0 imp st1 τ a w.drew := h1.same_heap rfl rfl rfl rfl
    have hfz' : ∀ b, Fz st1.o τ w b → Fz st1.o τ w.drew b ∧ w.drew.heap[b]? = w.heap[b]? := fun b hb => ⟨hb, rfl⟩
    have hzall : ∀ (i : Nat) (y : PV), (xs ++ ys)[i]? = some y → y.cells.length = sz' := by
      intro i y hy
      rw [List.getElem?_append] at hy
      split at hy
      · exact hxz _ y hy
      · exact hz' _ y hy
    have hoall : ∀ (i : Nat) (y : PV) (j : Nat) (z : PV), (xs ++ ys)[i]? = some y → y.cells[j]? = some z → z.one = true := by
      intro i y j z hy hj
      rw [List.getElem?_append] at hy
      split at hy
      · exact hxo _ y j z hy hj
      · exact ho' _ y j z hy hj
    have h2 := h1'.newObj d hkn (.row e (xs ++ ys)) (grownCap w (xs.length + ys.length) sCap e) (olds.toArray ++ news.toArray ++ Builtin.zeroCells zv.cells (grownCap w (xs.length + ys.length) sCap e - (xs.length + ys.length))) e
      ⟨rfl, ?_, by rw [hcell]; exact hp0, by rw [List.length_append]; exact hge, hle, by rw [hcell]; exact hzall, hoall, ?_⟩
    · refine ⟨_, _, _, hrun, h2, ?_⟩
      rw [← hver]
      refine .ref _ _ _ (by rw [new_self]; exact Nat.le_refl _) fun b e' xs' hk => ?_
      rw [new_self] at hk
      simp only [Prod.mk.injEq, Option.some.injEq, Ob.row.injEq, true_and] at hk
      obtain ⟨_, _, rfl⟩ := hk
      rw [upd_same, List.length_append]
      rfl
    · rw [hcell]
      simp only [Array.size_append, List.size_toArray, size_zeroCells, hzs, hol, hnl, ← Nat.add_mul]
      congr 1
      omega
    · rw [hcell]
      refine append_rd hol hnl (fun j hj => ?_) hzall (fun i y j z u hy hj hu => (hxr i y j z u hy hj hu).ext hfz') fun i y j z u hy hj hu => (hnr i y j z u hy hj hu).ext fun b hb => hfz' b (hfz b hb)
      rw [show olds.toArray ++ news.toArray = (olds ++ news).toArray by simp, Array.getElem?_append_left, List.getElem?_toArray]
      simp only [List.size_toArray, List.length_append, hol, hnl, ← Nat.add_mul]
      exact hj
  split at hr
  · rename_i hx
    rw [hx] at hxv
    obtain ⟨ao, hxa⟩ := hxv.nil_inv
    split at hr
    · rename_i hnil
      cases hr
      obtain ⟨b2, c2, hyv⟩ := hy0 hnil
      refine ⟨_, _, τ, .inl (hex ?_), h, .pure (.nil ao)⟩
      rw [hxa, hyv]
      exact run_append_none w T oper.type e inf hu hi ao 0 0 (Nat.le_refl _) b2 c2
    · rename_i hne
      split at hr
      · rename_i hbig
        cases hr
        obtain ⟨v, w', τ', h1, h2, h3⟩ := grow [] (st.freeze (keysOf st.o 3 (st.ev y))) rfl (h.freeze _) (fun b hb => hb) (freeze_ver _ _ _) hne [] [] ao 0 (by simp) (by simp) (by simp) (by simp) (fun _ => ⟨rfl, rfl⟩) (by simp) (by simpa using List.length_pos_iff.2 hne) (by simpa using hbig) hxa
        exact ⟨v, w', τ', .inl (hex h1), h2, h3⟩
      · cases hr
  · rename_i k v hx
    rw [hx] at hxv
    split at hr
    · rename_i v' e' xs hk
      split at hr
      · rename_i hc
        obtain ⟨rfl, rfl, hbig⟩ := hc
        cases hr
        have hS := h.freeze (keysOf st.o 3 (st.ev y))
        obtain ⟨b', hk', hb'⟩ := freeze_some hk
        obtain rfl := hb' rfl
        have hxa : a.eval x = .slice (some ⟨(τ k).1, 0, none⟩) xs.length (τ k).2 := by
          cases hxv with
          | pure h' => cases h'
          | ref k ver v hv hp => exact hp _ _ _ hk'
        obtain ⟨vs, hg, hn, hsz0, hl, hm, hxz, hxo, hxr⟩ := hS.holds.row _ _ _ _ _ hk
        rw [hcell] at hn hsz0 hxz hxr
        have hb1 : xs.length + ys.length ≤ 140737488355328 := Nat.le_trans (Nat.le_mul_of_pos_right _ (by omega)) hbig
        have hfit0 : xs.length * sz ≤ vs.size := by rw [hn]; exact Nat.mul_le_mul_right _ hl
        have hol : (vs.toList.take (xs.length * sz)).length = xs.length * sz := by simp; omega
        have hlt : ∀ (i : Nat) (z : PV) (j : Nat) (c : PV), xs[i]? = some z → z.cells[j]? = some c → i * sz + j < xs.length * sz := by
          intro i z j c hz hj
          have hjs : j < sz := by rw [← hxz i z hz]; exact (List.getElem?_eq_some_iff.1 hj).1
          calc i * sz + j < i * sz + sz := by omega
            _ = (i + 1) * sz := by rw [Nat.add_mul, Nat.one_mul]
            _ ≤ xs.length * sz := Nat.mul_le_mul_right _ (List.getElem?_eq_some_iff.1 hz).1
        have holr : ∀ (i : Nat) (z : PV) (j : Nat) (c : PV) (u : Value), xs[i]? = some z → z.cells[j]? = some c → (vs.toList.take (xs.length * sz))[i * sz + j]? = some u → Rd w (Fz (st.freeze (keysOf st.o 3 (st.ev y))).o τ w) c u := by
          intro i z j c u hz hj hu
          rw [List.getElem?_take, if_pos (hlt i z j c hz hj), Array.getElem?_toList] at hu
          exact hxr i z j c u hz hj hu
        by_cases hnil : ys = []
        · obtain ⟨b2, c2, hyv⟩ := hy0 hnil
          subst hnil
          rw [List.append_nil]
          refine ⟨.slice (some ⟨(τ k).1, 0, none⟩) xs.length (τ k).2, w, _, .inl (hex ?_), hS.write hk (by simp) (.inr hkn) (.inr (by rw [freeze_ver])) hg (fun b hb => rfl) rfl rfl rfl rfl ⟨rfl, by rw [hcell]; exact hn, by rw [hcell]; exact hp0, hl, hm, by rw [hcell]; exact hxz, hxo, by rw [hcell]; exact hxr⟩, ?_⟩
          · rw [hxa, hyv]
            exact run_append_none w T oper.type e' inf hu hi _ _ _ hl b2 c2
          · refine .ref _ _ _ (by simp [move2]) fun b e xs' hk2 => ?_
            simp only [move2, upd_same, Prod.mk.injEq, Option.some.injEq, Ob.row.injEq, true_and] at hk2
            obtain ⟨_, _, rfl⟩ := hk2
            rw [upd_same]
        · by_cases hroom : xs.length + ys.length ≤ (τ k).2
          · obtain ⟨ad, c, sz', news, hv, hz', ho', hnews⟩ := rd_news hyr hnil
            obtain rfl := hszz hz' hnil
            obtain ⟨hnl, hnc, hn1, hnr⟩ := hnews hp0
            have hfit : xs.length * sz' + news.length ≤ vs.size := by rw [hnl, hn, ← Nat.add_mul]; exact Nat.mul_le_mul_right _ hroom
            have hrun := run_append_room (P := P) w T oper.type e' inf hu hi (τ k).1 xs.length (τ k).2 vs hg ad ys.length c news (by rw [hs]; exact hnl) hnc hn1 hroom (by rw [hs]; exact hfit)
            rw [hs] at hrun
            generalize hcur : (vs.toList.take (xs.length * sz') ++ news ++ vs.toList.drop (xs.length * sz' + news.length)).toArray = cur at hrun
            have hzall : ∀ (i : Nat) (z : PV), (xs ++ ys)[i]? = some z → z.cells.length = sz' := by
              intro i z hy
              rw [List.getElem?_append] at hy
              split at hy
              · exact hxz _ z hy
              · exact hz' _ z hy
            have hoall : ∀ (i : Nat) (z : PV) (j : Nat) (c : PV), (xs ++ ys)[i]? = some z → z.cells[j]? = some c → c.one = true := by
              intro i z j c hy hj
              rw [List.getElem?_append] at hy
              split at hy
              · exact hxo _ z j c hy hj
              · exact ho' _ z j c hy hj
            refine ⟨.slice (some ⟨(τ k).1, 0, none⟩) (xs.length + ys.length) (τ k).2, w.setRow (τ k).1 cur, _, .inl (hex ?_), hS.write (cap := (τ k).2) hk (by simp) (.inr hkn) (.inr (by rw [freeze_ver])) (setRow_heap w _ vs cur _ _ hg) (fun b hb => setRow_other w _ b _ hb) (by simp [World.setRow]) rfl rfl rfl ⟨rfl, ?_, by rw [hcell]; exact hp0, by rw [List.length_append]; exact hroom, hm, by rw [hcell]; exact hzall, hoall, ?_⟩, ?_⟩
            · rw [hxa, hv]; exact hrun
            · rw [hcell, ← hcur]
              simp only [List.size_toArray, List.length_append, List.length_take, List.length_drop, Array.length_toList]
              omega
            · rw [hcell]
              refine append_rd hol hnl (fun j hj => ?_) hzall holr hnr
              rw [← hcur]
              exact take_drop_get vs news _ hfit j (by rw [hnl, ← Nat.add_mul]; exact hj)
            · refine .ref _ _ _ (by simp [move2]) fun b e xs' hk2 => ?_
              simp only [move2, upd_same, Prod.mk.injEq, Option.some.injEq, Ob.row.injEq, true_and] at hk2
              obtain ⟨_, _, rfl⟩ := hk2
              rw [upd_same, List.length_append]
          · have hkill := hS.kill k hk (by simp)
            have hfz : ∀ b, Fz (st.freeze (keysOf st.o 3 (st.ev y))).o τ w b → Fz ((st.freeze (keysOf st.o 3 (st.ev y))).kill k).o τ w b := fun b hb => ⟨hb.1, fun k' ⟨v, x, hk'⟩ => hb.2 k' ⟨v, x, by
              simp only [St.kill] at hk'
              by_cases e : k' = k
              · subst e; simp at hk'
              · rw [upd_ne _ _ e] at hk'; exact hk'⟩⟩
            have hver : (((st.freeze (keysOf st.o 3 (st.ev y))).kill k).o d).1 = (st.o d).1 := by
              simp only [St.kill]
              by_cases e : d = k
              · subst e; simp [freeze_ver]
              · rw [upd_ne _ _ e, freeze_ver]
            obtain ⟨v, w', τ', h1, h2, h3⟩ := grow [] ((st.freeze (keysOf st.o 3 (st.ev y))).kill k) rfl hkill hfz hver hnil xs (vs.toList.take (xs.length * sz)) (some ⟨(τ k).1, 0, none⟩) (τ k).2 hol hxz hxo (fun i z j c u hz hj hu => (holr i z j c u hz hj hu).ext fun b hb => ⟨hfz b hb, rfl⟩) (fun h => by cases h) (fun b hb j u hj => by
              cases hb
              rw [cell_blk hg, Nat.zero_add]
              have hjl := (List.getElem?_eq_some_iff.1 hj).1
              rw [hol] at hjl
              rw [List.getElem?_take, if_pos hjl, Array.getElem?_toList] at hj
              exact hj) (by omega) hbig hxa
            have hmo : (((st.freeze (keysOf st.o 3 (st.ev y))).kill k).new d (.row e' (xs ++ ys))).o = move2 (st.freeze (keysOf st.o 3 (st.ev y))).o k d ((st.o d).1 + 1) (.row e' (xs ++ ys)) := by
              simp only [St.new, hver]
              rfl
            refine ⟨v, w', τ', .inl (hex h1), ?_, ?_⟩
            · rw [← hmo]; exact h2
            · rw [← hmo]; exact h3
      · cases hr
    · cases hr
  · cases hr
end
end Go.Sx
/- The abstract machine, part 12: a function's contract, and a call. -/
set_option linter.unusedVariables false
set_option linter.unusedSimpArgs false
namespace Go.Sx
open Go Go.RowKit

def PV.flat0 : PV → Bool
  | .int _ _ | .bool _ | .str _ => true
  | _ => false
def PV.flat1 : PV → Bool
  | .agg cs => cs.all PV.flat0
  | x => x.flat0
/-- A value without addresses. -/
def PV.flat : PV → Bool
  | .tup cs => cs.all PV.flat1
  | x => x.flat1
/-- What a call comes to: a value of frozen memory, or a row that is the caller's own from now on. -/
inductive Rs where
  | fr (r : PV)
  | row (e : TypeId) (xs : List PV)
def newB (B : Nat → Prop) (w w' : World) (b : Nat) : Prop := B b ∨ (w.heap.size ≤ b ∧ b < w'.heap.size)
def Rs.post (P : Program) (B : Nat → Prop) (w w' : World) (v : Value) : Rs → Prop
  | .fr r => Rd w' (newB B w w') r v
  | .row e xs => ∃ g cap us, v = .slice (some ⟨g, 0, none⟩) xs.length cap ∧ w.heap.size ≤ g ∧ w'.heap[g]? = some (.cells us e (0, 0)) ∧ us.size = cap * P.cellsOf e ∧ 0 < P.cellsOf e ∧ xs.length ≤ cap ∧ cap ≤ maxLen ∧
    (∀ (i : Nat) (y : PV), xs[i]? = some y → y.cells.length = P.cellsOf e) ∧ (∀ (i : Nat) (y : PV) (j : Nat) (z : PV), xs[i]? = some y → y.cells[j]? = some z → z.one = true) ∧
    ∀ (i : Nat) (y : PV) (j : Nat) (z : PV) (u : Value), xs[i]? = some y → y.cells[j]? = some z → us[i * P.cellsOf e + j]? = some u → Rd w' (fun b => newB B w w' b ∧ b ≠ g) z u
/-- The contract of a function: with these arguments it returns this. -/
structure FnR (P : Program) (f : FuncId) (args : List PV) (R : Rs) : Prop where
  enter : ∀ vs w, (callFunc f vs).run P w = .ok (.enter f vs) w
  calls : ∀ (vs : Array Value) (w : World) (B : Nat → Prop), (∀ b, B b → b < w.heap.size) → vs.size = args.length → (∀ (j : Nat) (z : PV) (u : Value), args[j]? = some z → vs[j]? = some u → Rd w B z u) →
    Calls P f vs w fun e w' => ∃ v, e = .returned v ∧ Below w.heap.size w w' ∧ R.post P B w w' v
abbrev Fn (P : Program) (f : FuncId) (args : List PV) (r : PV) : Prop := FnR P f args (.fr r)

section
variable {P : Program} {n : Nat} {w0 : World} {imp : Im} {st : St} {τ τ' : Places} {a : Act} {w w' : World} {o o' : Objs}

theorem Sim.below (h : Sim P n w0 imp st τ a w) (hb : Below w.heap.size w w') : Sim P n w0 imp st τ a w' ∧ (∀ b, Fz st.o τ w b → Fz st.o τ w' b ∧ w'.heap[b]? = w.heap[b]?) ∧ ∀ b, newB (Fz st.o τ w) w w' b → Fz st.o τ w' b := by
  have hfz : ∀ b, Fz st.o τ w b → Fz st.o τ w' b ∧ w'.heap[b]? = w.heap[b]? := fun b hb' => ⟨⟨Nat.lt_of_lt_of_le hb'.1 hb.size, hb'.2⟩, hb.block b hb'.1⟩
  have he : Ext st.o τ w st.o τ w' := ⟨hfz, fun k => Nat.le_refl _, fun k b' x' hk => ⟨b', x', hk, by cases x' <;> simp [Ob.like], rfl⟩⟩
  refine ⟨Sim.step h he ⟨fun k' v b t' cs hk' => ?_, fun k' v b e xs hk' => ?_, fun k' v b hk' => Nat.lt_of_lt_of_le (h.holds.oth k' v b hk') hb.size, h.holds.inj, fun k' v y hk' => (hfz _ (h.holds.fro k' v y hk')).1⟩ ⟨by rw [hb.os]; exact h.frame.os, by rw [hb.tape]; exact h.frame.tape, by rw [hb.output]; exact h.frame.output, Nat.le_trans h.frame.size hb.size, fun b hbl hi => (hb.block b (Nat.lt_of_lt_of_le hbl h.frame.size)).trans (h.frame.block b hbl hi)⟩ h.mine (fun k ver _ hk => ⟨hk, rfl⟩), hfz, ?_⟩
  · obtain ⟨us, hg', hn, h1, hr⟩ := h.holds.box k' v b t' cs hk'
    exact ⟨us, by rw [hb.block _ (h.holds.lt hk')]; exact hg', hn, h1, fun j z u hz hu => (hr j z u hz hu).ext he⟩
  · obtain ⟨us, hg', hn, hs, hl, hm, hz, h1, hr⟩ := h.holds.row k' v b e xs hk'
    exact ⟨us, by rw [hb.block _ (h.holds.lt hk')]; exact hg', hn, hs, hl, hm, hz, h1, fun i y j z u hy hj hu => (hr i y j z u hy hj hu).ext he.fz⟩
  · rintro b (hb' | ⟨h1, h2⟩)
    · exact (hfz b hb').1
    · exact ⟨h2, fun k ⟨v, y, hk⟩ e => by have := h.holds.lt hk; omega⟩
/-- A row that a call has made is one's own from now on. -/
theorem Sim.ownRow (h : Sim P n w0 imp st τ a w) (hb : Below w.heap.size w w') (k : Nat) (hkn : k < n) {e : TypeId} {xs : List PV} {v : Value} (hr : Rs.post P (Fz st.o τ w) w w' v (.row e xs)) :
    ∃ τ', Sim P n w0 imp (st.new k (.row e xs)) τ' a w' ∧ Val P (st.new k (.row e xs)).o τ' w' (.ref k ((st.o k).1 + 1)) v := by
  obtain ⟨g, cap, us, rfl, hg0, hg, hus, hp0, hl, hm, hz, h1, hrd⟩ := hr
  have hgl : g < w'.heap.size := (Array.getElem?_eq_some_iff.1 hg).1
  have hsome : ∀ {k' ver : Nat} {b : Bool} {x : Ob}, (st.new k (.row e xs)).o k' = (ver, some (b, x)) → k' ≠ k → st.o k' = (ver, some (b, x)) := fun hk hne => by rw [new_at hne] at hk; exact hk
  have hlt : ∀ {k' ver : Nat} {b : Bool} {x : Ob}, st.o k' = (ver, some (b, x)) → (τ k').1 < w.heap.size := fun hk => h.holds.lt hk
  have hfz : ∀ b, Fz st.o τ w b → Fz (st.new k (.row e xs)).o (upd τ k (g, cap)) w' b ∧ w'.heap[b]? = w.heap[b]? := fun b hb' => by
    refine ⟨⟨Nat.lt_of_lt_of_le hb'.1 hb.size, fun k' hk' => ?_⟩, hb.block b hb'.1⟩
    by_cases e' : k' = k
    · subst e'; rw [upd_same]; have := hb'.1; simp only; omega
    · rw [upd_ne _ _ e']; exact hb'.2 k' (live_new hk' e')
  have he : Ext st.o τ w (st.new k (.row e xs)).o (upd τ k (g, cap)) w' := by
    refine ⟨hfz, fun k' => ?_, fun k' b' x' hk' => ?_⟩
    · by_cases e' : k' = k
      · subst e'; rw [new_self]; exact Nat.le_succ _
      · rw [new_at e']; exact Nat.le_refl _
    · by_cases e' : k' = k
      · subst e'
        rw [new_self] at hk'
        simp only [Prod.mk.injEq] at hk'
        omega
      · rw [new_at e'] at hk'
        exact ⟨b', x', hk', by cases x' <;> simp [Ob.like], upd_ne _ _ e'⟩
  refine ⟨upd τ k (g, cap), Sim.step (o' := (st.new k (.row e xs)).o) h he ⟨fun k' ver b t' cs hk => ?_, fun k' ver b e' xs' hk => ?_, fun k' ver b hk => ?_, fun k1 k2 h1 h2 e => ?_, fun k' ver y hk => ?_⟩ ⟨by rw [hb.os]; exact h.frame.os, by rw [hb.tape]; exact h.frame.tape, by rw [hb.output]; exact h.frame.output, Nat.le_trans h.frame.size hb.size, fun b hbl hi => (hb.block b (Nat.lt_of_lt_of_le hbl h.frame.size)).trans (h.frame.block b hbl hi)⟩ (fun k' ver y hk hy => ?_) fun k' ver hge hk => ⟨by rw [new_at (by omega)]; exact hk, by rw [upd_ne _ _ (by omega)]⟩, ?_⟩
  · by_cases e' : k' = k
    · subst e'; rw [new_self] at hk; simp at hk
    · obtain ⟨vs', hg', hn, h1, hr⟩ := h.holds.box k' ver b t' cs (hsome hk e')
      exact ⟨vs', by rw [upd_ne _ _ e', hb.block _ (hlt (hsome hk e'))]; exact hg', hn, h1, fun j z u hz hu => (hr j z u hz hu).ext he⟩
  · by_cases hkk : k' = k
    · subst hkk
      rw [new_self] at hk
      simp only [Prod.mk.injEq, Option.some.injEq, Ob.row.injEq] at hk
      obtain ⟨_, _, rfl, rfl⟩ := hk
      rw [upd_same]
      refine ⟨us, hg, hus, hp0, hl, hm, hz, h1, fun i y j z u hy hj hu => (hrd i y j z u hy hj hu).ext fun b hbb => ⟨?_, rfl⟩⟩
      rcases hbb with ⟨hb1 | ⟨hb1, hb2⟩, hne⟩
      · exact (hfz b hb1).1
      · refine ⟨hb2, fun k'' hk'' => ?_⟩
        by_cases e' : k'' = k'
        · subst e'; rw [upd_same]; exact Ne.symm hne
        · rw [upd_ne _ _ e']
          obtain ⟨v2, y2, h2⟩ := live_new hk'' e'
          have := hlt h2
          omega
    · obtain ⟨vs', hg', hn, hs, hl, hm, hz, h1, hr⟩ := h.holds.row k' ver b e' xs' (hsome hk hkk)
      rw [upd_ne _ _ hkk]
      exact ⟨vs', by rw [hb.block _ (hlt (hsome hk hkk))]; exact hg', hn, hs, hl, hm, hz, h1, fun i y j z u hy hj hu => (hr i y j z u hy hj hu).ext he.fz⟩
  · by_cases e' : k' = k
    · subst e'; rw [new_self] at hk; simp at hk
    · rw [upd_ne _ _ e']; exact Nat.lt_of_lt_of_le (h.holds.oth k' ver b (hsome hk e')) hb.size
  · by_cases e1 : k1 = k <;> by_cases e2 : k2 = k
    · rw [e1, e2]
    · obtain ⟨v2, y2, hk2⟩ := live_new h2 e2
      have := hlt hk2
      subst e1
      rw [upd_same, upd_ne _ _ e2] at e
      simp only at e
      omega
    · obtain ⟨v1, y1, hk1⟩ := live_new h1 e1
      have := hlt hk1
      subst e2
      rw [upd_same, upd_ne _ _ e1] at e
      simp only at e
      omega
    · rw [upd_ne _ _ e1, upd_ne _ _ e2] at e
      exact h.holds.inj k1 k2 (live_new h1 e1) (live_new h2 e2) e
  · by_cases e' : k' = k
    · subst e'; rw [new_self] at hk; simp at hk
    · rw [upd_ne _ _ e']; exact (hfz _ (h.holds.fro k' ver y (hsome hk e'))).1
  · by_cases e' : k' = k
    · subst e'; rw [upd_same]; exact .inl (Nat.le_trans h.frame.size hg0)
    · rw [upd_ne _ _ e']; exact h.mine k' ver y (hsome hk e') hy
  · refine .ref _ _ _ (by rw [new_self]; exact Nat.le_refl _) fun b e' xs' hk => ?_
    rw [new_self] at hk
    simp only [Prod.mk.injEq, Option.some.injEq, Ob.row.injEq, true_and] at hk
    obtain ⟨_, _, rfl⟩ := hk
    rw [upd_same]
theorem flat0_val {B : Nat → Prop} {r : PV} {v : Value} (h : Rd w B r v) (hf : r.flat0 = true) : Val P o τ w' r v := by
  cases h <;> first | exact Val.int_ _ _ | exact Val.bool_ _ | exact Val.str_ _ | simp [PV.flat0] at hf
theorem flat1_val {B : Nat → Prop} {r : PV} {v : Value} (h : Rd w B r v) (hf : r.flat1 = true) : Val P o τ w' r v := by
  cases r
  case agg cs =>
    cases h with
    | agg cs vs hn h1 hr => exact .agg cs vs hn h1 fun j z u hz hu => flat0_val (hr j z u hz hu) (List.all_eq_true.1 hf z (List.mem_of_getElem? hz))
  all_goals exact flat0_val h hf
theorem flat_val {B : Nat → Prop} {r : PV} {v : Value} (h : Rd w B r v) (hf : r.flat = true) : Val P o τ w' r v := by
  cases r
  case tup cs =>
    cases h with
    | tup cs vs hn hr => exact .tup cs vs hn fun j z u hz hu => flat1_val (hr j z u hz hu) (List.all_eq_true.1 hf z (List.mem_of_getElem? hz))
  all_goals exact flat1_val h hf

/-- What a call of a contract's function does to the state. -/
def callSt (st : St) (ks : List Nat) (dst : Option Tmp) : Rs → Option (PV × Objs)
  | .fr r => some (r, if r.flat then st.o else (st.freeze ks).o)
  | .row e xs => match dst with
    | some d => some (.ref d ((st.o d).1 + 1), ((st.freeze ks).new d (.row e xs)).o)
    | none => none
theorem Calls.of_contract {f : FuncId} {as : List PV} {R : Rs} (hF : FnR P f as R) {args : List PV} {vs : Array Value} {ks : List Nat} {dst : Option Tmp} {x : PV} {ob : Objs} (hd : ∀ d, dst = some d → d < n)
    (h : Sim P n w0 imp st τ a w) (hn : vs.size = args.length) (hv : ∀ (j : Nat) (z : PV) (u : Value), args[j]? = some z → vs[j]? = some u → Val P st.o τ w z u)
    (hr : args.mapM (res st.o 4) = some as) (hk : ks = args.flatMap (keysOf st.o 4)) (hc : callSt st ks dst R = some (x, ob)) :
    Calls P f vs w fun e w' => ∃ v τ', e = .returned v ∧ Sim P n w0 imp { st with o := ob } τ' a w' ∧ Val P ob τ' w' x v := by
  have hS := h.freeze ks
  refine Calls.mono (hF.calls vs w (Fz (st.freeze ks).o τ w) (fun b hb => hb.1) (by rw [hn, (mapM_get hr).1]) fun j z u hz hu => ?_) ?_
  · obtain ⟨x, hx, hres⟩ := (mapM_get hr).2 j z hz
    refine h.resolved (hv j x u hx hu) hres fun k hkk => ?_
    rw [List.contains_iff_mem, hk]
    exact List.mem_flatMap.2 ⟨x, List.mem_of_getElem? hx, hkk⟩
  · rintro e w' ⟨v, rfl, hb, hp⟩
    cases R with
    | fr r =>
      simp only [callSt, Option.some.injEq, Prod.mk.injEq] at hc
      obtain ⟨rfl, rfl⟩ := hc
      by_cases hf : r.flat = true
      · rw [if_pos hf]
        exact ⟨v, τ, rfl, (h.below hb).1, flat_val hp hf⟩
      · rw [if_neg hf]
        obtain ⟨h1, h2, h3⟩ := hS.below hb
        exact ⟨v, τ, rfl, h1, .pure (hp.ext fun b hbb => ⟨h3 b hbb, rfl⟩)⟩
    | row e xs =>
      unfold callSt at hc
      split at hc
      · rename_i he; cases he
      · rename_i e' xs' he
        cases he
        split at hc
        · rename_i d
          cases hc
          obtain ⟨τ', h1, h2⟩ := hS.ownRow hb d (hd d rfl) hp
          rw [freeze_ver] at h2
          exact ⟨v, τ', rfl, h1, h2⟩
        · cases hc
end
end Go.Sx
/- The abstract machine, part 13: an operation looks at its operands and at the objects it is shown, and at nothing else. -/
set_option linter.unusedVariables false
set_option linter.unusedSimpArgs false
namespace Go.Sx
open Go Go.RowKit

/-- Of each object it is known what it is, or nothing. -/
def Objs.le (o o' : Objs) : Prop := ∀ k, o k = o' k ∨ (o k).2 = none
theorem Objs.le_refl (o : Objs) : Objs.le o o := fun k => .inl rfl

section
variable {P : Program} {E : Env P} {o o' : Objs} {st st' : St}

theorem getRow_mono (h : Objs.le o o') {k v : Nat} {p : TypeId × List PV} (hg : getRow o k v = some p) : getRow o' k v = some p := by
  obtain ⟨b, hb⟩ := getRow_some (t := p.1) (cs := p.2) hg
  rcases h k with e | e
  · simp only [getRow, ← e] at hg ⊢; exact hg
  · rw [hb] at e; cases e
theorem getBox_mono (h : Objs.le o o') {k v : Nat} {p : TypeId × List PV} (hg : getBox o k v = some p) : getBox o' k v = some p := by
  obtain ⟨b, hb⟩ := getBox_some (t := p.1) (cs := p.2) hg
  rcases h k with e | e
  · simp only [getBox, ← e] at hg ⊢; exact hg
  · rw [hb] at e; cases e
theorem ok1_mono (h : Objs.le o o') {x : PV} (hx : ok1 o x = true) : ok1 o' x = true := by
  cases x <;> simp only [ok1, Option.isSome_iff_exists] at hx ⊢ <;> first | exact hx | (obtain ⟨p, hp⟩ := hx; first | exact ⟨p, getRow_mono h hp⟩ | exact ⟨p, getBox_mono h hp⟩)
theorem all_ok1_mono (h : Objs.le o o') {l : List PV} (hx : l.all (ok1 o) = true) : l.all (ok1 o') = true := by
  simp only [List.all_eq_true] at hx ⊢
  exact fun x hm => ok1_mono h (hx x hm)
theorem absFieldAddr_mono (h : Objs.le o o') {T : TypeId} {x y : PV} {f : Nat} (hx : absFieldAddr P o T x f = some y) : absFieldAddr P o' T x f = some y := by
  unfold absFieldAddr at hx ⊢
  split at hx
  · rename_i e; try simp only [e]
    split at hx
    · cases hx
    · rename_i hs
      rw [if_neg hs]
      split at hx
      · exact hx
      · obtain ⟨p, hp, rfl⟩ := Option.map_eq_some_iff.1 hx; simp [getBox_mono h hp]
      · obtain ⟨p, hp, rfl⟩ := Option.map_eq_some_iff.1 hx; simp [getRow_mono h hp]
      · cases hx
  · cases hx
theorem absLoad_mono (h : Objs.le o o') {T : TypeId} {x y : PV} (hx : absLoad P o T x = some y) : absLoad P o' T x = some y := by
  unfold absLoad at hx ⊢
  split at hx
  · exact hx
  · split at hx
    · rename_i e; simp only [getBox_mono h e]; exact hx
    · cases hx
  · split at hx
    · rename_i e; simp only [getRow_mono h e]; exact hx
    · cases hx
  · cases hx
theorem absIndexAddr_mono (h : Objs.le o o') {T : TypeId} {x i y : PV} (hx : absIndexAddr P o T x i = some y) : absIndexAddr P o' T x i = some y := by
  unfold absIndexAddr at hx ⊢
  split at hx
  · rename_i e1; try simp only [e1]
    split at hx
    · exact hx
    · split at hx
      · rename_i e; simp only [getRow_mono h e]; exact hx
      · cases hx
    · cases hx
  · cases hx
theorem absLen_mono (h : Objs.le o o') {T : TypeId} {x y : PV} (hx : absLen P o T x = some y) : absLen P o' T x = some y := by
  unfold absLen at hx ⊢
  split at hx <;> rename_i e <;> first | simp only [e] | skip
  · exact hx
  · exact hx
  · obtain ⟨p, hp, rfl⟩ := Option.map_eq_some_iff.1 hx; simp [getRow_mono h hp]
  · exact hx
  · cases hx
theorem absFill_mono (h : Objs.le o o') {place : Nat → Option (Nat × Nat)} : ∀ {parts : List (Nat × PV)} {cells r : List PV}, absFill o place cells parts = some r → absFill o' place cells parts = some r
  | [], cells, r, hx => hx
  | (i, x) :: rest, cells, r, hx => by
    simp only [absFill] at hx ⊢
    split at hx
    · cases hx
    · split at hx
      · rename_i hc
        rw [if_pos ⟨hc.1, hc.2.1, all_ok1_mono h hc.2.2⟩]
        exact absFill_mono h hx
      · cases hx
theorem absBuild_mono (h : Objs.le o o') {T : TypeId} {parts : List (Nat × PV)} {y : PV} (hx : absBuild P o T parts = some y) : absBuild P o' T parts = some y := by
  unfold absBuild at hx ⊢
  split at hx
  · obtain ⟨p, hp, rfl⟩ := Option.map_eq_some_iff.1 hx; simp [absFill_mono h hp]
  · cases hx
theorem mapM_mono {α β : Type} {f g : α → Option β} (h : ∀ x y, f x = some y → g x = some y) : ∀ {l : List α} {r : List β}, l.mapM f = some r → l.mapM g = some r
  | [], r, hr => by simpa using hr
  | x :: l, r, hr => by
    simp only [List.mapM_cons, Option.bind_eq_bind, Option.pure_def, Option.bind_eq_some_iff, Option.some.injEq] at hr ⊢
    obtain ⟨y, hy, ys, hys, rfl⟩ := hr
    exact ⟨y, h x y hy, ys, mapM_mono h hys, rfl⟩
theorem res_mono (h : Objs.le o o') : ∀ (n : Nat) {x y : PV}, res o n x = some y → res o' n x = some y
  | 0, x, y, hx => by cases hx
  | n + 1, x, y, hx => by
    cases x <;> simp only [res] at hx ⊢ <;> try exact hx
    case agg cs => obtain ⟨p, hp, rfl⟩ := Option.map_eq_some_iff.1 hx; simp [mapM_mono (fun x y => res_mono h n) hp]
    case tup cs => obtain ⟨p, hp, rfl⟩ := Option.map_eq_some_iff.1 hx; simp [mapM_mono (fun x y => res_mono h n) hp]
    case fn f fs cs =>
      split at hx
      · rename_i e1 e2
        simp only [mapM_mono (fun x y => res_mono h n) e1, mapM_mono (fun x y => res_mono h n) e2]
        exact hx
      · cases hx
    case ref k v => obtain ⟨p, hp, rfl⟩ := Option.map_eq_some_iff.1 hx; simp [getRow_mono h hp]
    case ptr k v off =>
      split at hx
      · rename_i e
        obtain ⟨p, hp, rfl⟩ := Option.map_eq_some_iff.1 hx
        simp [getBox_mono h e, mapM_mono (fun x y => res_mono h n) hp]
      · cases hx
theorem keysOf_mono (h : Objs.le o o') : ∀ (n : Nat) {x y : PV}, res o n x = some y → keysOf o' n x = keysOf o n x
  | 0, x, y, hx => by cases hx
  | n + 1, x, y, hx => by
    have cells : ∀ {cs cs' : List PV}, cs.mapM (res o n) = some cs' → cs.flatMap (keysOf o' n) = cs.flatMap (keysOf o n) := by
      intro cs cs' hm
      rw [List.flatMap_def, List.flatMap_def]
      congr 1
      refine List.map_congr_left fun x hx => ?_
      obtain ⟨j, hj⟩ := List.getElem?_of_mem hx
      have hl := (List.getElem?_eq_some_iff.1 hj).1
      have hl' : j < cs'.length := by rw [(mapM_get hm).1]; exact hl
      obtain ⟨x', hx', hr⟩ := (mapM_get hm).2 j _ (List.getElem?_eq_getElem hl')
      rw [hj] at hx'
      cases hx'
      exact keysOf_mono h n hr
    cases x <;> simp only [res] at hx <;> simp only [keysOf]
    case agg cs => obtain ⟨p, hp, rfl⟩ := Option.map_eq_some_iff.1 hx; exact cells hp
    case tup cs => obtain ⟨p, hp, rfl⟩ := Option.map_eq_some_iff.1 hx; exact cells hp
    case fn f fs cs =>
      split at hx
      · rename_i e1 e2; rw [cells e1, cells e2]
      · cases hx
    case ptr k v off =>
      split at hx
      · rename_i e
        obtain ⟨p, hp, rfl⟩ := Option.map_eq_some_iff.1 hx
        simp only [getBox_mono h e, e]
        rw [cells hp]
      · cases hx
theorem absLit_mono (hs : st.s = st'.s) (h : Objs.le st.o st'.o) {T : TypeId} {len : Nat} {parts : List (Nat × Operand)} {e : TypeId} {ys : List PV} {ks : List Nat} (hx : absLit P st T len parts = some (e, ys, ks)) : absLit P st' T len parts = some (e, ys, ks) := by
  have hev : ∀ x, st'.ev x = st.ev x := fun x => by cases x <;> simp [St.ev, hs]
  unfold absLit at hx ⊢
  split at hx
  · rename_i e1; try simp only [e1]
    split at hx
    · rename_i ys' hm
      have hm' : parts.mapM (fun p => res st'.o 3 (st'.ev p.2)) = some ys' := mapM_mono (fun x y hxy => by rw [hev]; exact res_mono h 3 hxy) hm
      simp only [hm']
      split at hx
      · rename_i hc
        obtain ⟨h1, h2, h3, h4, h5⟩ := hc
        rw [if_pos ⟨h1, h2, h3, fun p hp => by rw [hev]; exact ⟨(h4 p hp).1, all_ok1_mono h (h4 p hp).2⟩, h5⟩]
        cases hx
        simp only [Option.some.injEq, Prod.mk.injEq, true_and]
        rw [List.flatMap_def, List.flatMap_def]
        congr 1
        refine List.map_congr_left fun p hp => ?_
        obtain ⟨j, hj⟩ := List.getElem?_of_mem hp
        have hl := (List.getElem?_eq_some_iff.1 hj).1
        have hl' : j < ys.length := by rw [(mapM_get hm).1]; exact hl
        obtain ⟨x', hx', hr⟩ := (mapM_get hm).2 j _ (List.getElem?_eq_getElem hl')
        rw [hj] at hx'
        cases hx'
        rw [hev]
        exact keysOf_mono h 3 hr
      · cases hx
    · cases hx
  · cases hx
theorem pureOp_mono (hs : st.s = st'.s) (h : Objs.le st.o st'.o) {op : Op} {x : PV} (hx : pureOp P E st op = some x) : pureOp P E st' op = some x := by
  have hev : ∀ x, st'.ev x = st.ev x := fun x => by cases x <;> simp [St.ev, hs]
  have hevf : st'.ev = st.ev := funext hev
  unfold pureOp at hx ⊢
  rw [hevf]
  split at hx
  all_goals (try simp only)
  all_goals first
    | exact hx
    | exact absFieldAddr_mono h hx
    | exact absLoad_mono h hx
    | exact absIndexAddr_mono h hx
    | exact absBuild_mono h hx
    | skip
  · split at hx
    · exact hx
    · obtain ⟨p, hp, rfl⟩ := Option.map_eq_some_iff.1 hx; simp [getBox_mono h hp]
    · exact hx
    · cases hx
  · split at hx
    · exact absLen_mono h hx
    · exact hx
    · exact hx
    · cases hx
end
end Go.Sx
/- The abstract machine, part 14: one operation of a region: what it comes to, in which mode; that the model's operation comes to the same. -/
set_option linter.unusedVariables false
set_option linter.unusedSimpArgs false
namespace Go.Sx
open Go Go.RowKit

/-- How an operation is taken: 't': at its place in the text, it may turn objects; else it turns none, and it is shown all objects ('d'), none ('n'), or all but these ('h'). -/
inductive Md where
  | t | d | n
  | h (ks : List Nat)
def St.see (m : Md) (st : St) : St :=
  match m with
  | .t | .d => st
  | .n => { st with o := fun _ => (0, none) }
  | .h ks => { st with o := fun k => if ks.contains k then (0, none) else st.o k }

section
variable {P : Program} (E : Env P)

/-- A call, whatever it does to the objects. -/
structure CallRun (P : Program) (f : FuncId) (args : List PV) (dst : Option Tmp) (o : Objs) (x : PV) (ob : Objs) : Prop where
  enter : ∀ vs w, (callFunc f vs).run P w = .ok (.enter f vs) w
  run : ∀ n w0 imp s τ a w (vs : Array Value), (∀ d, dst = some d → d < n) → Sim P n w0 imp ⟨s, o⟩ τ a w → vs.size = args.length → (∀ (j : Nat) (z : PV) (u : Value), args[j]? = some z → vs[j]? = some u → Val P o τ w z u) →
    Calls P f vs w fun e w' => ∃ v τ', e = .returned v ∧ Sim P n w0 imp ⟨s, ob⟩ τ' a w' ∧ Val P ob τ' w' x v
def callee (st : St) (c : Call) : Option (FuncId × List PV) :=
  match c.callee with
  | .value x => match st.ev x with
    | .fn f fs cs => some (f, fs ++ (c.args.toList.map st.ev ++ cs))
    | _ => none
  | _ => none
/-- An operation that turns no object. -/
inductive QEv (P : Program) (E : Env P) (m : Md) (o : Oper) (st : St) (x : PV) : Prop where
  | pure (h : pureOp P E (st.see m) o.op = some x)
  | lit (T : TypeId) (len : Nat) (parts : Array (Nat × Operand)) (e : TypeId) (ys : List PV) (ho : o.op = .buildSlice T len parts) (h : absLit P (st.see m) T len parts.toList = some (e, ys, [])) (hx : x = .sl ys)
  | call (c : Call) (f : FuncId) (args as : List PV) (ho : o.op = .call c) (hc : callee (st.see m) c = some (f, args)) (ha : args.mapM (res (st.see m).o 4) = some as) (hF : Fn P f as x) (hk : x.flat = true ∨ args.flatMap (keysOf (st.see m).o 4) = [])
/-- An operation that may turn objects. -/
inductive LEv (P : Program) (E : Env P) (o : Oper) (st : St) (x : PV) (ob : Objs) : Prop where
  | box (T : TypeId) (y : Operand) (k : Nat) (ho : o.op = .box T y) (hd : o.dst = some k) (h1 : (st.ev y).cells.all (ok1 st.o) = true) (hx : x = .ptr k ((st.o k).1 + 1) 0) (hob : ob = (st.new k (.box T (st.ev y).cells)).o)
  | store (T : TypeId) (y z : Operand) (ho : o.op = .store T y z) (h : absStore P st T (st.ev y) (st.ev z) = some ob) (hx : x = .undef)
  | lit (T : TypeId) (len : Nat) (parts : Array (Nat × Operand)) (e : TypeId) (ys : List PV) (ks : List Nat) (k : Nat) (ho : o.op = .buildSlice T len parts) (hd : o.dst = some k) (h : absLit P st T len parts.toList = some (e, ys, ks)) (hx : x = .ref k (((st.freeze ks).o k).1 + 1)) (hob : ob = ((st.freeze ks).new k (.row e ys)).o)
  | lit0 (T e : TypeId) (sz : Nat) (ho : o.op = .buildSlice T 0 #[]) (hT : selem P T = some (e, sz)) (hx : x = .nil) (hob : ob = st.o)
  | make (T e : TypeId) (l c : Operand) (xs : List PV) (k : Nat) (ho : o.op = .makeSlice T l c) (hd : o.dst = some k) (hm : absMake P T (st.ev l) (st.ev c) = some (e, xs)) (hx : x = .ref k ((st.o k).1 + 1)) (hob : ob = (st.new k (.row e xs)).o)
  | append (c : Call) (d : Nat) (T : TypeId) (y z : Operand) (ho : o.op = .call c) (hd : o.dst = some d) (hca : c.callee = .builtin .append) (hargs : c.args = #[y, z]) (hty : c.argTypes = #[T, T]) (hr : absAppend P st d T (st.ev y) (st.ev z) = some (x, ob))
  | call (c : Call) (f : FuncId) (args : List PV) (ho : o.op = .call c) (hc : callee st c = some (f, args)) (hC : CallRun P f args o.dst st.o x ob)
/-- A new variable. -/
def AEv (P : Program) (o : Oper) (st : St) (x : PV) (ob : Objs) : Prop :=
  ∃ T k z, o.op = .alloc T ∧ o.dst = some k ∧ zpv P T = some z ∧ x = .ptr k ((st.o k).1 + 1) 0 ∧ ob = (st.new k (.box T z.cells)).o
def EV (P : Program) (E : Env P) (m : Md) (o : Oper) (st : St) (x : PV) (ob : Objs) : Prop :=
  (QEv P E m o st x ∧ ob = st.o) ∨ AEv P o st x ob ∨ (m = .t ∧ LEv P E o st x ob)
end

section
variable {P : Program} {E : Env P} {n : Nat} {w0 : World} {imp : Im} {st : St} {τ τ' : Places} {a : Act} {w w' : World} {o o' : Objs}

theorem see_le (m : Md) (st : St) : Objs.le (st.see m).o st.o := by
  intro k
  cases m with
  | t | d => exact .inl rfl
  | n => exact .inr rfl
  | h ks =>
    simp only [St.see]
    split
    · exact .inr rfl
    · exact .inl rfl
theorem see_s (m : Md) (st : St) : (st.see m).s = st.s := by cases m <;> rfl
theorem ev_see (m : Md) (st : St) (x : Operand) : (st.see m).ev x = st.ev x := by cases x <;> simp [St.ev, see_s]
theorem callee_see (m : Md) (st : St) (c : Call) : callee (st.see m) c = callee st c := by
  have : (st.see m).ev = st.ev := funext (ev_see m st)
  simp only [callee, this]
/-- The operation runs, and goes on from there. -/
theorem EV.wp (h : Sim P n w0 imp st τ a w) {m : Md} {oper : Oper} (hdn : ∀ d, oper.dst = some d → d < n) {x : PV} {ob : Objs} (he : EV P E m oper st x ob) {K : Act → World → Prop} {Q : Exit → Act → World → Prop}
    (hK : ∀ v w' τ', Sim P n w0 imp { st with o := ob } τ' a w' → Val P ob τ' w' x v → K (a.put oper.dst v) w') : oper.wp P a w K Q := by
  have ofRun : ORun P n w0 imp oper st x ob → oper.wp P a w K Q := by
    intro hr
    obtain ⟨v, w', τ', h1, h2, h3⟩ := hr τ a w h
    unfold Oper.wp
    rcases h1 with h1 | ⟨h1, rfl⟩
    · rw [h1]; exact hK v w' τ' h2 h3
    · rw [h1]; exact hK undef w' τ' h2 h3
  have ofCall : ∀ (c : Call) (f : FuncId) (args : List PV), oper.op = .call c → callee st c = some (f, args) → (∀ vs w, (callFunc f vs).run P w = .ok (.enter f vs) w) →
      (∀ vs : Array Value, vs.size = args.length → (∀ (j : Nat) (z : PV) (u : Value), args[j]? = some z → vs[j]? = some u → Val P st.o τ w z u) →
        Calls P f vs w fun e w' => ∃ v τ', e = .returned v ∧ Sim P n w0 imp { st with o := ob } τ' a w' ∧ Val P ob τ' w' x v) → oper.wp P a w K Q := by
    intro c f args ho hc hent hrun
    unfold callee at hc
    split at hc
    · rename_i y hy
      split at hc
      · rename_i f' fs cs hf
        cases hc
        have hv := ev_val h.slots y
        rw [hf] at hv
        obtain ⟨vf, vc, hav, hnf, hnc, hrf, hrc⟩ := hv.fn_inv
        have hex : (execOp a.eval oper).run P w = .ok (.enter f (vf ++ c.args.map a.eval ++ vc)) w := by
          simp only [execOp, ho, resolve, hy, Deferred.ofValue, hav, invoke, Sem.run_bind, Sem.run_pure, Result.andThen_ok]
          exact hent _ _
        unfold Oper.wp
        rw [hex]
        refine Calls.mono (hrun _ (by simp [hnf, hnc, Nat.add_assoc]) fun j z u hz hu => ?_) ?_
        · simp only [List.getElem?_append, List.length_map, Array.length_toList] at hz
          rw [Array.append_assoc] at hu
          simp only [Array.getElem?_append, Array.size_map, Array.size_append, hnf] at hu
          split at hz
          · rename_i h1
            rw [if_pos h1] at hu
            exact hrf j z u hz hu
          · rename_i h1
            rw [if_neg h1] at hu
            split at hz
            · rename_i h2
              rw [if_pos h2] at hu
              rw [List.getElem?_map, Array.getElem?_toList] at hz
              rw [Array.getElem?_map] at hu
              cases hq : c.args[j - fs.length]? with
              | none => simp [hq] at hz
              | some q =>
                simp only [hq, Option.map_some, Option.some.injEq] at hz hu
                subst hz
                subst hu
                exact ev_val h.slots q
            · rename_i h2
              rw [if_neg h2] at hu
              exact hrc _ z u hz hu
        · rintro e w' ⟨v, τ', rfl, h1, h2⟩
          exact hK v w' τ' h1 h2
      · cases hc
    · cases hc
  rcases he with ⟨hq, rfl⟩ | ⟨T, k, z, ho, hd, hz, rfl, rfl⟩ | ⟨_, hl⟩
  · cases hq with
    | pure hp =>
      obtain ⟨v, h1, h2⟩ := pure_sound h.slots h.holds (pureOp_mono (see_s m st) (see_le m st) hp)
      unfold Oper.wp
      rw [h1]
      exact hK v w τ h h2
    | lit T len parts e ys ho hl hx =>
      subst hx
      exact ofRun (.litFrozen ho (absLit_mono (see_s m st) (see_le m st) hl))
    | call c f args as ho hc ha hF hk =>
      rw [callee_see] at hc
      refine ofCall c f args ho hc hF.enter fun vs hn hv => Calls.of_contract (ks := args.flatMap (keysOf st.o 4)) (dst := none) hF (fun d hd => by cases hd) h hn hv (mapM_mono (fun x y => res_mono (see_le m st) 4) ha) rfl ?_
      simp only [callSt, Option.some.injEq, Prod.mk.injEq, true_and]
      rcases hk with hk | hk
      · rw [if_pos hk]
      · have : args.flatMap (keysOf st.o 4) = [] := by
          rw [← hk, List.flatMap_def, List.flatMap_def]
          congr 1
          refine List.map_congr_left fun x hx => ?_
          obtain ⟨j, hj⟩ := List.getElem?_of_mem hx
          have hl := (List.getElem?_eq_some_iff.1 hj).1
          have hl' : j < as.length := by rw [(mapM_get ha).1]; exact hl
          obtain ⟨x', hx', hr⟩ := (mapM_get ha).2 j _ (List.getElem?_eq_getElem hl')
          rw [hj] at hx'
          cases hx'
          exact keysOf_mono (see_le m st) 4 hr
        rw [this, St.freeze_nil, ite_self]
  · exact ofRun (.alloc ho hz k (hdn k hd))
  · cases hl with
    | box T y k ho hd h1 hx hob => subst hx; subst hob; exact ofRun (.box ho h1 k (hdn k hd))
    | store T y z ho h hx => subst hx; exact ofRun (.store ho h)
    | lit T len parts e ys ks k ho hd h hx hob => subst hx; subst hob; exact ofRun (.lit ho h k (hdn k hd))
    | lit0 T e sz ho hT hx hob => subst hx; subst hob; exact ofRun (.lit0 ho hT)
    | make T e l c xs k ho hd hm hx hob => subst hx; subst hob; exact ofRun (.make ho hm k (hdn k hd))
    | append c d T y z ho hd hca hargs hty hr => exact ofRun (.append (hdn d hd) ho hca hargs hty hr)
    | call c f args ho hc hC => exact ofCall c f args ho hc hC.enter fun vs hn hv => hC.run n w0 imp st.s τ a w vs hdn h hn hv
end
end Go.Sx
