/- The abstract machine, part 16: the operations of a region, in the text's order and in any order that the region's edges allow. -/
import Derived.Test.YtiefnninebilbaaMsa
set_option linter.unusedVariables false
set_option linter.unusedSimpArgs false
namespace Go.Sx
open Go Go.RowKit

/-- Does an operation's guard let it run? -/
def gd (ops : Array Oper) (o : Oper) (st : St) : Option Bool :=
  match o.guard with
  | none => some true
  | some (g, want) => match (ops[g]?).bind (·.dst) with
    | some t => match st.s t with
      | .bool b => some (b == want)
      | .tup _ => some false
      | _ => none
    | none => none
/-- An operation under its guard. -/
def GV (P : Program) (E : Env P) (ops : Array Oper) (m : Md) (o : Oper) (st : St) (x : PV) (ob : Objs) : Prop :=
  (gd ops o st = some false ∧ x = .tup [] ∧ ob = st.o) ∨ (gd ops o st = some true ∧ EV P E (m.tr E) o st x ob)
def St.after (st : St) (ob : Objs) (d : Option Tmp) (x : PV) : St := St.put ⟨st.s, ob⟩ d x
def Chain (P : Program) (E : Env P) (ops : Array Oper) (M : Nat → Md) : List Nat → St → St → Prop
  | [], st, st' => st' = st
  | i :: l, st, st' => ∃ o x ob, ops[i]? = some o ∧ GV P E ops (M i) o st x ob ∧ Chain P E ops M l (st.after ob o.dst x) st'

section
variable {P : Program} {E : Env P} {n : Nat} {w0 : World} {imp : Im} {st st' : St} {τ τ' : Places} {a : Act} {w w' : World} {ops : Array Oper} {M : Nat → Md}

theorem after_o (st : St) (ob : Objs) (d : Option Tmp) (x : PV) : (st.after ob d x).o = ob := put_o _ _ _
theorem after_ev {st : St} {ob : Objs} {d : Option Tmp} {v : PV} {x : Operand} (h : ∀ t, d = some t → x ≠ .tmp t) : (st.after ob d v).ev x = st.ev x := by
  unfold St.after
  rw [ev_put h]
  cases x <;> rfl
theorem EV.congr {m : Md} {o : Oper} {x : PV} {ob : Objs} (he : EV P E m o st x ob) (h : Ag o.op st st') (ho : st.o = st'.o) : EV P E m o st' x ob := by
  rcases he with ⟨hq, rfl⟩ | ha | ⟨hm, hl⟩
  · exact .inl ⟨hq.congr h (see_o ho), ho⟩
  · exact .inr (.inl (ha.congr ho))
  · exact .inr (.inr ⟨hm, hl.congr h ho⟩)
theorem AEv.alloc {o : Oper} {x : PV} {ob : Objs} (h : AEv P E o st x ob) : ∃ k y, opAlloc o = some k ∧ o.dst = some k ∧ ob = (st.new (E.key k) y).o ∧ x = .ptr (E.key k) ((st.o (E.key k)).1 + 1) 0 := by
  obtain ⟨T, k, z, h1, h2, h3, h4, h5⟩ := h
  exact ⟨k, _, by simp [opAlloc, h1, h2], h2, h5, h4⟩
theorem EV.swap {mj mi : Md} {oj oi : Oper} {xj xi : PV} {obj obi : Objs} (hj : EV P E (mj.tr E) oj st xj obj) (hi : EV P E (mi.tr E) oi (st.after obj oj.dst xj) xi obi) (hok : swapOk mj oj mi oi = true)
    (h1 : ∀ t, oj.dst = some t → ∀ x ∈ oi.op.operands.toList, x ≠ .tmp t) (h2 : ∀ t, oi.dst = some t → ∀ x ∈ oj.op.operands.toList, x ≠ .tmp t) (hd : ∀ t, oj.dst = some t → oi.dst ≠ some t) :
    ∃ obi', EV P E (mi.tr E) oi st xi obi' ∧ EV P E (mj.tr E) oj (st.after obi' oi.dst xi) xj obi := by
  have ag1 : ∀ ob, Ag oi.op (st.after ob oj.dst xj) st := fun ob x hx => after_ev fun t ht => h1 t ht x hx
  have ag2 : ∀ ob, Ag oj.op st (st.after ob oi.dst xi) := fun ob x hx => (after_ev fun t ht => h2 t ht x hx).symm
  have hsee : ∀ (m : Md) (ob : Objs) (d : Option Tmp) (x : PV), ((st.after ob d x).see m).o = (St.see m ⟨st.s, ob⟩).o := fun m ob d x => see_o (after_o _ _ _ _)
  have trT : ∀ {m : Md}, m.tr E = .t → m = .t := fun {m} h => by cases m <;> simp [Md.tr] at h ⊢
  rcases hj with ⟨qj, rfl⟩ | aj | ⟨hmj, lj⟩
  · rcases hi with ⟨qi, rfl⟩ | ai | ⟨hmi, li⟩
    · exact ⟨st.o, .inl ⟨qi.congr (ag1 _) (hsee _ _ _ _), rfl⟩, .inl ⟨qj.congr (ag2 _) (hsee _ _ _ _).symm, by rw [after_o, after_o]⟩⟩
    · have ai' := ai.congr (st' := st) (after_o _ _ _ _)
      obtain ⟨k, y, e1, e2, rfl, e4⟩ := ai'.alloc
      refine ⟨_, .inr (.inl ai'), .inl ⟨qj.congr (ag2 _) ?_, (after_o _ _ _ _).symm⟩⟩
      rw [hsee]
      have hk : mj.hides k = true := by simpa [swapOk, qj.not_alloc, e1] using hok
      exact (hides_see (Md.hides_tr hk) st y).symm
    · obtain rfl := trT hmi
      have li' := li.congr (ag1 _) (after_o _ _ _ _)
      refine ⟨obi, .inr (.inr ⟨rfl, li'⟩), .inl ⟨qj.congr (ag2 _) ?_, (after_o _ _ _ _).symm⟩⟩
      rw [hsee]
      have hm : mj.isN = true := by
        simp only [swapOk, qj.not_alloc, li.not_alloc, Md.isT, Md.isN] at hok
        cases mj <;> simp_all [Md.isN]
      cases mj <;> simp [Md.isN] at hm
      rfl
  · obtain ⟨k, y, e1, e2, rfl, e4⟩ := aj.alloc
    rcases hi with ⟨qi, rfl⟩ | ai | ⟨hmi, li⟩
    · have hk : mi.hides k = true := by simpa [swapOk, qi.not_alloc, e1] using hok
      refine ⟨st.o, .inl ⟨qi.congr (ag1 _) (by rw [hsee]; exact hides_see (Md.hides_tr hk) st y), rfl⟩, .inr (.inl ?_)⟩
      rw [after_o]
      exact aj.congr (after_o _ _ _ _).symm
    · obtain ⟨T, k', z, f1, f2, f3, f4, f5⟩ := ai
      obtain ⟨T', k'', z', g1, g2, g3, g4, g5⟩ := aj
      rw [e2] at g2
      cases g2
      have hne : E.key k' ≠ E.key k := fun e => hd k e2 (by rw [f2, E.inj _ _ e])
      refine ⟨(st.new (E.key k') (.box T z.cells)).o, .inr (.inl ⟨T, k', z, f1, f2, f3, ?_, rfl⟩), .inr (.inl ⟨T', k, z', g1, e2, g3, ?_, ?_⟩)⟩
      · rw [f4, after_o, new_at hne]
      · rw [g4, after_o, new_at (Ne.symm hne)]
      · rw [f5]
        simp only [St.new, after_o] at g5 ⊢
        have g6 : upd st.o (E.key k) ((st.o (E.key k)).1 + 1, some (true, y)) = upd st.o (E.key k) ((st.o (E.key k)).1 + 1, some (true, .box T' z'.cells)) := g5
        rw [g6]
        funext i
        simp only [upd]
        by_cases h1 : i = E.key k <;> by_cases h2 : i = E.key k' <;> simp_all
    · obtain rfl := trT hmi
      simp [swapOk, e1, li.not_alloc, Md.hides] at hok
  · obtain rfl := trT hmj
    rcases hi with ⟨qi, rfl⟩ | ai | ⟨hmi, li⟩
    · have hm : mi.isN = true := by simpa [swapOk, lj.not_alloc, qi.not_alloc, Md.isT] using hok
      refine ⟨st.o, .inl ⟨qi.congr (ag1 _) ?_, rfl⟩, .inr (.inr ⟨rfl, ?_⟩)⟩
      · cases mi <;> simp [Md.isN] at hm
        rfl
      · rw [after_o]
        exact lj.congr (ag2 _) (after_o _ _ _ _).symm
    · obtain ⟨k, y, e1, e2, _, _⟩ := ai.alloc
      simp [swapOk, lj.not_alloc, e1, Md.hides] at hok
    · obtain rfl := trT hmi
      simp [swapOk, lj.not_alloc, li.not_alloc, Md.isT, Md.isN] at hok

theorem gd_congr {o : Oper} (h : ∀ g want t, o.guard = some (g, want) → (ops[g]?).bind (·.dst) = some t → st.s t = st'.s t) : gd ops o st = gd ops o st' := by
  unfold gd
  cases hg : o.guard with
  | none => rfl
  | some p =>
    obtain ⟨g, want⟩ := p
    simp only
    cases ht : (ops[g]?).bind (·.dst) with
    | none => rfl
    | some t => simp only [h g want t hg ht]
theorem after_s {st : St} {ob : Objs} {d : Option Tmp} {v : PV} {t : Nat} (h : d ≠ some t) : (st.after ob d v).s t = st.s t := by
  cases d with
  | none => rfl
  | some u =>
    have : t ≠ u := fun e => h (by rw [e])
    simp [St.after, St.put, this]
theorem looks_guard {o : Oper} {g : Nat} {want : Bool} {t : Tmp} (hg : o.guard = some (g, want)) (ht : (ops[g]?).bind (·.dst) = some t) : t ∈ o.looksAt ops := by
  unfold Oper.looksAt
  rw [hg]
  exact List.mem_append_right _ (by simp [ht])
theorem looks_op {o : Oper} {x : Operand} {t : Tmp} (hx : x ∈ o.op.operands.toList) (ht : t ∉ o.looksAt ops) : x ≠ .tmp t := by
  rintro rfl
  exact ht (List.mem_append_left _ (List.mem_filterMap.2 ⟨.tmp t, hx, rfl⟩))
theorem GV.swap {mj mi : Md} {oj oi : Oper} {xj xi : PV} {obj obi : Objs} (hj : GV P E ops mj oj st xj obj) (hi : GV P E ops mi oi (st.after obj oj.dst xj) xi obi) (hok : swapOk mj oj mi oi = true) (hap : oj.apart ops oi = true) :
    ∃ obi', GV P E ops mi oi st xi obi' ∧ GV P E ops mj oj (st.after obi' oi.dst xi) xj obi ∧ (st.after obi' oi.dst xi).after obi oj.dst xj = (st.after obj oj.dst xj).after obi oi.dst xi := by
  obtain ⟨h1, hd, h2⟩ := Oper.apart_spec hap
  have fin : ∀ obi', (st.after obi' oi.dst xi).after obi oj.dst xj = (st.after obj oj.dst xj).after obi oi.dst xi := by
    intro obi'
    unfold St.after
    have e : ∀ (d : Option Tmp) (x : PV) (ob ob' : Objs), (⟨(St.put ⟨st.s, ob⟩ d x).s, ob'⟩ : St) = St.put ⟨st.s, ob'⟩ d x := fun d x ob ob' => by cases d <;> rfl
    rw [e, e]
    exact (put_comm (fun t ht => hd t ht)).symm
  have g1 : ∀ ob, gd ops oi (st.after ob oj.dst xj) = gd ops oi st := fun ob => gd_congr fun g want t hg ht => after_s fun e => h1 t e (looks_guard hg ht)
  have g2 : ∀ ob, gd ops oj (st.after ob oi.dst xi) = gd ops oj st := fun ob => gd_congr fun g want t hg ht => after_s fun e => h2 t e (looks_guard hg ht)
  have ag1 : ∀ ob, Ag oi.op (st.after ob oj.dst xj) st := fun ob x hx => after_ev fun t ht => looks_op hx (h1 t ht)
  have ag2 : ∀ ob, Ag oj.op st (st.after ob oi.dst xi) := fun ob x hx => (after_ev fun t ht => looks_op hx (h2 t ht)).symm
  rcases hj with ⟨gj, rfl, rfl⟩ | ⟨gj, ej⟩
  · rcases hi with ⟨gi, rfl, rfl⟩ | ⟨gi, ei⟩
    · rw [g1] at gi
      exact ⟨st.o, .inl ⟨gi, rfl, rfl⟩, .inl ⟨by rw [g2]; exact gj, rfl, by rw [after_o, after_o]⟩, fin _⟩
    · rw [g1] at gi
      exact ⟨obi, .inr ⟨gi, ei.congr (ag1 _) (after_o _ _ _ _)⟩, .inl ⟨by rw [g2]; exact gj, rfl, by rw [after_o]⟩, fin _⟩
  · rcases hi with ⟨gi, rfl, rfl⟩ | ⟨gi, ei⟩
    · rw [g1] at gi
      refine ⟨st.o, .inl ⟨gi, rfl, rfl⟩, .inr ⟨by rw [g2]; exact gj, ?_⟩, fin _⟩
      rw [after_o]
      exact ej.congr (ag2 _) (after_o _ _ _ _).symm
    · rw [g1] at gi
      obtain ⟨obi', e1, e2⟩ := ej.swap ei hok (fun t ht x hx => looks_op hx (h1 t ht)) (fun t ht x hx => looks_op hx (h2 t ht)) hd
      exact ⟨obi', .inr ⟨gi, e1⟩, .inr ⟨by rw [g2]; exact gj, e2⟩, fin _⟩

theorem Chain.front {i : Nat} : ∀ {l1 l2 : List Nat} {st st' : St}, Chain P E ops M (l1 ++ i :: l2) st st' →
    (∀ j ∈ l1, ∀ oj oi, ops[j]? = some oj → ops[i]? = some oi → oj.apart ops oi = true ∧ swapOk (M j) oj (M i) oi = true) → Chain P E ops M (i :: (l1 ++ l2)) st st'
  | [], l2, st, st', h, _ => h
  | j :: l1, l2, st, st', h, hc => by
    obtain ⟨oj, xj, obj, hoj, hj, hr⟩ := h
    obtain ⟨oi, xi, obi, hoi, hi, hr'⟩ := Chain.front (l1 := l1) hr fun k hk => hc k (by simp [hk])
    obtain ⟨hap, hok⟩ := hc j (by simp) oj oi hoj hoi
    obtain ⟨obi', h1, h2, h3⟩ := hj.swap hi hok hap
    refine ⟨oi, xi, obi', hoi, h1, oj, xj, obi, hoj, h2, ?_⟩
    rw [h3]
    exact hr'

/-! Soundness. -/
theorem gd_yielded (h : Sim P n w0 imp st τ a w) {o : Oper} {b : Bool} (hg : gd ops o st = some b) : Region.wanted o (yielded ops a.tmps) = b := by
  unfold gd at hg
  unfold Region.wanted
  split at hg
  · rename_i e; rw [e]; cases hg; rfl
  · rename_i g want e
    rw [e]
    simp only
    split at hg
    · rename_i t ht
      split at hg
      · rename_i b' hb
        cases hg
        have hv := h.slots t
        rw [hb] at hv
        have hv := hv.bool_inv
        have ht' : a.tmps[t]? = some (.bool b') := by
          rw [Array.getD_eq_getD_getElem?] at hv
          cases hq : a.tmps[t]? with
          | none => rw [hq] at hv; simp [undef] at hv
          | some v => rw [hq] at hv; simpa using hv
        simp only [yielded, ht, Option.bind_some, ht']
        cases b' <;> cases want <;> rfl
      · rename_i cs hb
        cases hg
        have hv := h.slots t
        rw [hb] at hv
        obtain ⟨vs, hv, _⟩ := hv.tup_inv
        rw [Array.getD_eq_getD_getElem?] at hv
        simp only [yielded, ht, Option.bind_some]
        cases hq : a.tmps[t]? with
        | none => rfl
        | some v =>
          rw [hq] at hv
          simp only [Option.getD_some] at hv
          subst hv
          rfl
      · cases hg
    · cases hg
theorem GV.wpOp (h : Sim P n w0 imp st τ a w) {m : Md} {i : Nat} {o : Oper} {x : PV} {ob : Objs} (hi : ops[i]? = some o) (hd : ∀ d, o.dst = some d → d < n ∧ E.key d < 1000000) (hg : GV P E ops m o st x ob) {K : Act → World → Prop} {Q : Exit → Act → World → Prop}
    (hK : ∀ a' w' τ', Sim P n w0 imp (st.after ob o.dst x) τ' a' w' → K a' w') : Go.wpOp P ops Q i K a w := by
  unfold Go.wpOp
  simp only [hi]
  rcases hg with ⟨hg, rfl, rfl⟩ | ⟨hg, he⟩
  · rw [gd_yielded h hg]
    simp only [Bool.false_eq_true, if_false]
    exact hK _ _ τ (h.put (fun d e => (hd d e).1) (.pure (.tup [] #[] rfl (by simp))))
  · rw [gd_yielded h hg]
    simp only [if_true]
    exact .inl (he.wp h (fun d e => (hd d e).2) fun v w' τ' h1 h2 => hK _ _ τ' (h1.put (fun d e => (hd d e).1) h2))
theorem Chain.wpOps {Q : Exit → Act → World → Prop} (hd : ∀ o ∈ ops, ∀ d, o.dst = some d → d < n ∧ E.key d < 1000000) : ∀ {l : List Nat} {st st' : St} {τ : Places} {a : Act} {w : World}, Chain P E ops M l st st' → Sim P n w0 imp st τ a w →
    (∀ τ' a' w', Sim P n w0 imp st' τ' a' w' → Q .normal a' w') → Go.wpOps P ops Q l a w
  | [], st, st', τ, a, w, hc, h, hQ => by
    subst hc
    exact hQ τ a w h
  | i :: l, st, st', τ, a, w, ⟨o, x, ob, ho, hg, hc⟩, h, hQ => by
    rw [wpOps_cons]
    exact hg.wpOp h ho (hd o (Array.mem_of_getElem? ho)) fun a' w' τ' h' => Chain.wpOps hd hc h' hQ

/-! What comes before what. -/
inductive Anc (ops : Array Oper) (j : Nat) : Nat → Prop where
  | one (i : Nat) (o : Oper) (e : Edge) (ho : ops[i]? = some o) (he : e ∈ o.after) (hb : Region.binds .any e = true) (hj : e.on = j) : Anc ops j i
  | more (i : Nat) (o : Oper) (e : Edge) (ho : ops[i]? = some o) (he : e ∈ o.after) (hb : Region.binds .any e = true) (h : Anc ops j e.on) : Anc ops j i
def maskOf (acc : List Nat) : List Edge → Nat
  | [] => 0
  | e :: l => if Region.binds .any e then maskOf acc l ||| 2 ^ e.on ||| acc.getD e.on 0 else maskOf acc l
def masks : List Oper → List Nat → List Nat
  | [], acc => acc
  | o :: l, acc => masks l (acc ++ [maskOf acc o.after.toList])
theorem maskOf_sound {acc : List Nat} {j : Nat} : ∀ {l : List Edge}, (maskOf acc l).testBit j = true → ∃ e ∈ l, Region.binds .any e = true ∧ (e.on = j ∨ (acc.getD e.on 0).testBit j = true)
  | [], h => by simp [maskOf] at h
  | e :: l, h => by
    unfold maskOf at h
    split at h
    · rename_i hb
      simp only [Nat.testBit_or, Bool.or_eq_true] at h
      rcases h with (h | h) | h
      · obtain ⟨e', h1, h2⟩ := maskOf_sound h
        exact ⟨e', by simp [h1], h2⟩
      · exact ⟨e, by simp, hb, .inl (by rw [Nat.testBit_two_pow] at h; simpa using h)⟩
      · exact ⟨e, by simp, hb, .inr h⟩
    · obtain ⟨e', h1, h2⟩ := maskOf_sound h
      exact ⟨e', by simp [h1], h2⟩
theorem masks_sound : ∀ {l : List Oper} {acc : List Nat}, (∀ i, i < acc.length → ∀ j, (acc.getD i 0).testBit j = true → Anc ops j i) → (∀ i o, l[i]? = some o → ops[acc.length + i]? = some o) →
    ∀ i, i < (masks l acc).length → ∀ j, ((masks l acc).getD i 0).testBit j = true → Anc ops j i
  | [], acc, h, _ => h
  | o :: l, acc, h, hl => by
    refine masks_sound (l := l) (fun i hi j hj => ?_) fun i o' ho' => ?_
    · rw [List.length_append, List.length_singleton] at hi
      by_cases hlt : i < acc.length
      · rw [List.getD_eq_getElem?_getD, List.getElem?_append_left hlt, ← List.getD_eq_getElem?_getD] at hj
        exact h i hlt j hj
      · obtain rfl : i = acc.length := by omega
        rw [List.getD_eq_getElem?_getD, List.getElem?_append_right (Nat.le_refl _)] at hj
        simp only [Nat.sub_self, List.getElem?_cons_zero, Option.getD_some] at hj
        obtain ⟨e, he, hb, hor⟩ := maskOf_sound hj
        have ho : ops[acc.length]? = some o := by have := hl 0 o rfl; simpa using this
        rcases hor with rfl | hor
        · exact .one _ o e ho (by simpa using he) hb rfl
        · by_cases hlt : e.on < acc.length
          · exact .more _ o e ho (by simpa using he) hb (h _ hlt j hor)
          · rw [List.getD_eq_getElem?_getD, List.getElem?_eq_none (by omega)] at hor
            simp at hor
    · rw [List.length_append, List.length_singleton, Nat.add_assoc, Nat.add_comm 1 i]
      exact hl (i + 1) o' (by simpa using ho')
/-- A region's check: edges lead back; what is not ordered may be swapped. -/
def calm (ops : Array Oper) (M : Nat → Md) : Bool :=
  let ms := masks ops.toList []
  (ops.toList.zipIdx).all fun p => p.1.after.toList.all (fun e => !Region.binds .any e || decide (e.on < p.2)) &&
    (ops.toList.zipIdx).all fun q => decide (p.2 ≤ q.2) || (ms.getD p.2 0).testBit q.2 || (q.1.apart ops p.1 && swapOk (M q.2) q.1 (M p.2) p.1)
theorem masks_length : ∀ (l : List Oper) (acc : List Nat), (masks l acc).length = acc.length + l.length
  | [], acc => by simp [masks]
  | o :: l, acc => by rw [masks, masks_length l]; simp [Nat.add_assoc, Nat.add_comm 1]
theorem calm_spec (h : calm ops M = true) : (∀ (i : Nat) (o : Oper), ops[i]? = some o → ∀ e ∈ o.after, Region.binds .any e = true → e.on < i) ∧
    ∀ (i j : Nat) (oi oj : Oper), ops[i]? = some oi → ops[j]? = some oj → j < i → Anc ops j i ∨ (oj.apart ops oi = true ∧ swapOk (M j) oj (M i) oi = true) := by
  unfold calm at h
  simp only [List.all_eq_true, Bool.and_eq_true] at h
  have hz : ∀ (i : Nat) (o : Oper), ops[i]? = some o → (o, i) ∈ ops.toList.zipIdx := fun i o ho => by
    rw [List.mem_zipIdx_iff_getElem?]
    simpa using ho
  refine ⟨fun i o ho e he hb => ?_, fun i j oi oj hi hj hlt => ?_⟩
  · have := (h _ (hz i o ho)).1 e (by simpa using he)
    simpa [hb] using this
  · have := (h _ (hz i oi hi)).2 _ (hz j oj hj)
    simp only [Bool.or_eq_true, decide_eq_true_eq, Bool.and_eq_true] at this
    rcases this with (h1 | h1) | h1
    · omega
    · refine .inl (masks_sound (ops := ops) (l := ops.toList) (acc := []) (by simp) (fun i o ho => by simpa using ho) i ?_ j h1)
      rw [masks_length]
      simpa using (Array.getElem?_eq_some_iff.1 hi).1
    · exact .inr h1
end
end Go.Sx
/- The abstract machine, part 17: a region that draws its order. -/
set_option linter.unusedVariables false
set_option linter.unusedSimpArgs false
namespace Go.Sx
open Go Go.RowKit

section
variable {P : Program} {E : Env P} {n : Nat} {w0 : World} {imp : Im} {st st' : St} {τ τ' : Places} {a : Act} {w w' : World} {ops : Array Oper} {M : Nat → Md}

/-- What is not listed yet. -/
def openL (ops : Array Oper) (listed : Array Bool) : List Nat := (List.range ops.size).filter fun i => !listed.getD i true
theorem mem_openL {listed : Array Bool} {i : Nat} : i ∈ openL ops listed ↔ i < ops.size ∧ listed.getD i true = false := by
  simp [openL, List.mem_filter]
theorem openL_nodup (ops : Array Oper) (listed : Array Bool) : (openL ops listed).Nodup := List.Pairwise.filter _ List.nodup_range
theorem openL_set {listed : Array Bool} {i : Nat} (hs : listed.size = ops.size) (hi : i < ops.size) {l1 l2 : List Nat} (h : openL ops listed = l1 ++ i :: l2) : openL ops (listed.setIfInBounds i true) = l1 ++ l2 := by
  have h1 : openL ops (listed.setIfInBounds i true) = (openL ops listed).filter fun j => decide (j ≠ i) := by
    unfold openL
    rw [List.filter_filter]
    refine List.filter_congr fun j hj => ?_
    by_cases e : j = i
    · subst e; simp [hs, hi]
    · rw [getD_set_ne true (Ne.symm e)]; simp [e]
  have hnd := openL_nodup ops listed
  rw [h] at hnd
  rw [h1, h, List.filter_append, List.filter_cons]
  have hn := List.nodup_append.1 hnd
  have e1 : l1.filter (fun j => decide (j ≠ i)) = l1 := List.filter_eq_self.2 fun j hj => by
    simp only [decide_eq_true_eq]
    rintro rfl
    exact hn.2.2 _ hj _ (by simp) rfl
  have e2 : l2.filter (fun j => decide (j ≠ i)) = l2 := List.filter_eq_self.2 fun j hj => by
    simp only [decide_eq_true_eq]
    rintro rfl
    exact (List.nodup_cons.1 hn.2.1).1 hj
  rw [e1, e2]
  simp
theorem sorted_openL (ops : Array Oper) (listed : Array Bool) : (openL ops listed).Pairwise (· < ·) := List.Pairwise.filter _ List.pairwise_lt_range
theorem anc_listed {listed : Array Bool} (hdc : ∀ (i : Nat) (o : Oper), ops[i]? = some o → listed.getD i true = true → ∀ e ∈ o.after, Region.binds .any e = true → listed.getD e.on false = true) (hlt : ∀ (i : Nat) (o : Oper), ops[i]? = some o → ∀ e ∈ o.after, Region.binds .any e = true → e.on < i)
    (hs : listed.size = ops.size) {i j : Nat} {o : Oper} (ho : ops[i]? = some o) (hr : ∀ e ∈ o.after, Region.binds .any e = true → listed.getD e.on false = true) (h : Anc ops j i) : listed.getD j false = true := by
  induction h generalizing o with
  | one i o' e ho' he hb hj => rw [ho] at ho'; cases ho'; subst hj; exact hr e he hb
  | more i o' e ho' he hb h' ih =>
    rw [ho] at ho'
    cases ho'
    have h1 := hr e he hb
    have h2 : e.on < ops.size := Nat.lt_trans (hlt i _ ho e he hb) (Array.getElem?_eq_some_iff.1 ho).1
    have h3 : listed.getD e.on true = true := by
      rw [Array.getD_eq_getD_getElem?] at h1 ⊢
      cases hq : listed[e.on]? with
      | none => rfl
      | some b => rw [hq] at h1; simpa using h1
    exact ih (Array.getElem?_eq_getElem h2) (hdc _ _ (Array.getElem?_eq_getElem h2) h3)
theorem Chain.wpAny {Q : Exit → Act → World → Prop} (hd : ∀ o ∈ ops, ∀ d, o.dst = some d → d < n ∧ E.key d < 1000000) (hc : calm ops M = true) :
    ∀ (fuel : Nat) {listed : Array Bool} {st st' : St} {τ : Places} {a : Act} {w : World}, listed.size = ops.size → (openL ops listed).length ≤ fuel →
      (∀ (i : Nat) (o : Oper), ops[i]? = some o → listed.getD i true = true → ∀ e ∈ o.after, Region.binds .any e = true → listed.getD e.on false = true) →
      Chain P E ops M (openL ops listed) st st' → Sim P n w0 imp st τ a w → (∀ τ' a' w', Sim P n w0 imp st' τ' a' w' → Q .normal a' w') → Go.wpAny P .any ops Q fuel listed a w := by
  obtain ⟨hlt, hsw⟩ := calm_spec hc
  have hnil : ∀ (listed : Array Bool), listed.size = ops.size → Region.ready .any ops listed = [] → openL ops listed = [] := by
    intro listed hs hr
    cases hl : openL ops listed with
    | nil => rfl
    | cons i l =>
      exfalso
      have hi : i ∈ openL ops listed := by rw [hl]; simp
      obtain ⟨h1, h2⟩ := mem_openL.1 hi
      have hsort := sorted_openL ops listed
      rw [hl] at hsort
      have : i ∈ Region.ready .any ops listed := by
        rw [mem_ready]
        refine ⟨h2, _, Array.getElem?_eq_getElem h1, fun e he hb => ?_⟩
        have hon := hlt i _ (Array.getElem?_eq_getElem h1) e he hb
        cases hq : listed.getD e.on false with
        | true => rfl
        | false =>
          have hqo : listed.getD e.on true = false := by
            rw [Array.getD_eq_getD_getElem?] at hq ⊢
            have : e.on < listed.size := by omega
            simp [this] at hq ⊢
            exact hq
          have hmem : e.on ∈ openL ops listed := mem_openL.2 ⟨by omega, hqo⟩
          rw [hl] at hmem
          rcases List.mem_cons.1 hmem with h | h
          · omega
          · have := List.rel_of_pairwise_cons hsort h
            omega
      rw [hr] at this
      cases this
  have hready : ∀ (listed : Array Bool) (i : Nat), i ∈ Region.ready .any ops listed → i ∈ openL ops listed := by
    intro listed i hi
    obtain ⟨h1, o, ho, _⟩ := mem_ready.1 hi
    exact mem_openL.2 ⟨(Array.getElem?_eq_some_iff.1 ho).1, h1⟩
  intro fuel
  induction fuel with
  | zero =>
    intro listed st st' τ a w hs hlen hdc hch h hQ
    have hl : openL ops listed = [] := List.eq_nil_of_length_eq_zero (by omega)
    refine ⟨?_, ?_⟩
    · cases hr : Region.ready .any ops listed with
      | nil => rfl
      | cons i l => have := hready listed i (by rw [hr]; simp); rw [hl] at this; cases this
    · rw [hl] at hch
      cases hch
      exact hQ τ a w h
  | succ fuel ih =>
    intro listed st st' τ a w hs hlen hdc hch h hQ
    refine ⟨fun hr => ?_, fun i hi => ?_⟩
    · rw [hnil listed hs hr] at hch
      cases hch
      exact hQ τ a w h
    · have him := hready listed i hi
      obtain ⟨hun, oi, hoi, hall⟩ := mem_ready.1 hi
      have hil := (mem_openL.1 him).1
      obtain ⟨l1, l2, hl⟩ := List.append_of_mem him
      rw [hl] at hch
      have hsort := sorted_openL ops listed
      rw [hl] at hsort
      have hfront := Chain.front hch fun j hj oj oi' hoj hoi' => by
        rw [hoi] at hoi'
        cases hoi'
        have hji : j < i := (List.pairwise_append.1 hsort).2.2 j hj i (by simp)
        rcases hsw i j oi oj hoi hoj hji with hanc | hok
        · exfalso
          have h1 := anc_listed hdc hlt hs hoi hall hanc
          have h2 := (mem_openL.1 (show j ∈ openL ops listed by rw [hl]; simp [hj])).2
          rw [Array.getD_eq_getD_getElem?] at h1 h2
          have : j < listed.size := by omega
          simp [this] at h1 h2
          rw [h1] at h2
          cases h2
        · exact hok
      obtain ⟨o, x, ob, ho, hg, hrest⟩ := hfront
      rw [hoi] at ho
      cases ho
      refine hg.wpOp h hoi (hd _ (Array.mem_of_getElem? hoi)) fun a' w' τ' h' => ?_
      have hset := openL_set hs hil hl
      refine ih (by simp [hs]) ?_ (fun k ok hk hkl e he hb => ?_) (by rw [hset]; exact hrest) h' hQ
      · rw [hset]
        rw [hl] at hlen
        simp at hlen ⊢
        omega
      · by_cases e' : k = i
        · subst e'
          rw [hoi] at hk
          cases hk
          exact getD_set_true (hall e he hb)
        · rw [getD_set_ne true (Ne.symm e')] at hkl
          exact getD_set_true (hdc k ok hk hkl e he hb)
theorem openL_start (ops : Array Oper) : openL ops (Array.replicate ops.size false) = List.range ops.size := by
  unfold openL
  refine List.filter_eq_self.2 fun i hi => ?_
  have := List.mem_range.1 hi
  simp [Array.getD_eq_getD_getElem?, this]
/-- A region. -/
theorem Chain.region {Q : Exit → Act → World → Prop} {id : Nat} {draw : Bool} (hm : P.follows .mixedOrders = true) (hd : ∀ o ∈ ops, ∀ d, o.dst = some d → d < n ∧ E.key d < 1000000) (hc : draw = true → calm ops M = true) (hch : Chain P E ops M (List.range ops.size) st st') (h : Sim P n w0 imp st τ a w)
    (hQ : ∀ τ' a' w', Sim P n w0 imp st' τ' a' w' → Q .normal a' w') : (Code.region id ops draw).wp P Q a w := by
  cases draw with
  | false => exact wp_region (Chain.wpOps hd hch h hQ)
  | true =>
    refine wp_region_any hm ?_
    refine Chain.wpAny hd (hc rfl) ops.size (st := st) (st' := st') (τ := τ) (by simp) (by rw [openL_start]; simp) (fun i o ho hl => ?_) (by rw [openL_start]; exact hch) (h.same_heap rfl rfl rfl rfl) hQ
    have := (Array.getElem?_eq_some_iff.1 ho).1
    simp [Array.getD_eq_getD_getElem?, this] at hl
end
end Go.Sx
/- The abstract machine, part 18: a function's text as a statement over states ('awp'), and that the statement gives the function's contract. -/
set_option linter.unusedVariables false
set_option linter.unusedSimpArgs false
namespace Go.Sx
open Go Go.RowKit

inductive X where
  | normal
  | exit (id : Nat)
  | ret
abbrev XQ := X → St → Prop
/-- A choice that waits until it is known which. -/
def AIf (c : Bool) (F G : St → Prop) (st : St) : Prop := if c then F st else G st
theorem AIf_true {F G : St → Prop} {st : St} : AIf true F G st = F st := rfl
theorem AIf_false {F G : St → Prop} {st : St} : AIf false F G st = G st := rfl
def askip (d : Option Tmp) (K : St → Prop) (st : St) : Prop := K (st.put d (.tup []))
/-- A call in the text's order. -/
def GCall (P : Program) (f : FuncId) (args : List PV) (d : Option Tmp) (kd : Option Nat) (K : St → Prop) (st : St) : Prop :=
  ∃ x ob, CallRun P f args kd st.o x ob ∧ K (st.after ob d x)
/-- A call in a region that draws its order. -/
def QCall (P : Program) (m : Md) (f : FuncId) (args : List PV) (d : Option Tmp) (K : St → Prop) (st : St) : Prop :=
  ∃ as x, args.mapM (res (st.see m).o 4) = some as ∧ Fn P f as x ∧ (x.flat = true ∨ args.flatMap (keysOf (st.see m).o 4) = []) ∧ K (st.put d x)
/-- One operation. -/
def aop (P : Program) (E : Env P) (m : Md) (o : Oper) (K : St → Prop) (st : St) : Prop :=
  match o.op with
  | .alloc T => match o.dst, zpv P T with
    | some k, some z => K ((st.new (E.key k) (.box T z.cells)).put (some k) (.ptr (E.key k) ((st.o (E.key k)).1 + 1) 0))
    | _, _ => False
  | .box T y => match m, o.dst with
    | .t, some k => (st.ev y).cells.all (ok1 st.o) = true ∧ K ((st.new (E.key k) (.box T (st.ev y).cells)).put (some k) (.ptr (E.key k) ((st.o (E.key k)).1 + 1) 0))
    | _, _ => False
  | .store T y z => match m, absStore P st T (st.ev y) (st.ev z) with
    | .t, some ob => K (st.after ob o.dst .undef)
    | _, _ => False
  | .buildSlice T len parts => match m with
    | .t => match len, parts.toList with
      | 0, [] => match selem P T with
        | some _ => K (st.put o.dst .nil)
        | none => False
      | _, _ => match o.dst, absLit P st T len parts.toList with
        | some k, some (e, ys, ks) => K (((st.freeze ks).new (E.key k) (.row e ys)).put (some k) (.ref (E.key k) (((st.freeze ks).o (E.key k)).1 + 1)))
        | _, _ => False
    | m => match absLit P (st.see m) T len parts.toList with
      | some (e, ys, []) => K (st.put o.dst (.sl ys))
      | _ => False
  | .makeSlice T l c => match m, o.dst, absMake P T (st.ev l) (st.ev c) with
    | .t, some k, some (e, xs) => K ((st.new (E.key k) (.row e xs)).put (some k) (.ref (E.key k) ((st.o (E.key k)).1 + 1)))
    | _, _, _ => False
  | .makeMap T r => match m, r, o.dst, mkd P T with
    | .t, none, some k, some b => K ((st.new (E.key k) (.mp (mp0 b))).put (some k) (.mref (E.key k) ((st.o (E.key k)).1 + 1)))
    | _, _, _, _ => False
  | .mapUpdate T y i z => match m, absMset P st T (st.ev y) (st.ev i) (st.ev z) with
    | .t, some ob => K (st.after ob o.dst .undef)
    | _, _ => False
  | .call c => match c.callee with
    | .builtin .append => match m, o.dst, c.args.toList, c.argTypes.toList with
      | .t, some d, [y, z], [T, T'] => T = T' ∧ match absAppend P st (E.key d) T (st.ev y) (st.ev z) with
        | some (x, ob) => K (st.after ob (some d) x)
        | none => False
      | _, _, _, _ => False
    | .builtin _ => match pureOp P E (st.see m) o.op with
      | some x => K (st.put o.dst x)
      | none => False
    | _ => match callee st c with
      | some (f, args) => match m with
        | .t => GCall P f args o.dst (o.dst.map E.key) K st
        | m => QCall P m f args o.dst K st
      | none => False
  | op => match pureOp P E (st.see m) op with
    | some x => K (st.put o.dst x)
    | none => False
/-- The operations of a region, one after another. -/
def aops (P : Program) (E : Env P) (ops : Array Oper) (md : Nat → Oper → Md) : List Oper → Nat → (St → Prop) → St → Prop
  | [], i, K, st => K st
  | o :: l, i, K, st => match o.guard with
    | none => aop P E ((md i o).tr E) o (aops P E ops md l (i + 1) K) st
    | some (g, want) => match (ops[g]?).bind (·.dst) with
      | some t => match st.s t with
        | .bool b => AIf (b == want) (aop P E ((md i o).tr E) o (aops P E ops md l (i + 1) K)) (askip o.dst (aops P E ops md l (i + 1) K)) st
        | .tup _ => askip o.dst (aops P E ops md l (i + 1) K) st
        | _ => False
      | none => False
/-- An operation's mode in a region that draws its order, if nothing else is said. -/
def dmd (o : Oper) : Md :=
  match o.op with
  | .store _ _ _ | .box _ _ | .makeSlice _ _ _ | .makeMap _ _ | .mapUpdate _ _ _ _ => .t
  | .call c => match c.callee with
    | .builtin .append => .t
    | _ => .d
  | _ => .d
def mdOf (M : Nat → Nat → Option Md) (id : Nat) (draw : Bool) (i : Nat) (o : Oper) : Md := match draw with
  | false => .t
  | true => (M id i).getD (dmd o)
def Then (F : XQ → St → Prop) (Q : XQ) : XQ
  | .normal, st => F Q st
  | .exit id, st => Q (.exit id) st
  | .ret, st => Q .ret st
def Blk (id : Nat) (Q : XQ) : XQ
  | .normal, st => Q .normal st
  | .exit id', st => if id' = id then Q .normal st else Q (.exit id') st
  | .ret, st => Q .ret st
def Rep (I : Nat → St → Prop) (n : Nat) (Q : XQ) : XQ
  | .normal, st => ∃ m, m < n ∧ I m st
  | .exit id, st => Q (.exit id) st
  | .ret, st => Q .ret st
/-- A loop: by an invariant that counts down. -/
def ALoop (F : XQ → St → Prop) (Q : XQ) (st : St) : Prop :=
  ∃ (I : Nat → St → Prop) (n : Nat), I n st ∧ ∀ n st, I n st → F (Rep I n Q) st
def awp (P : Program) (E : Env P) (M : Nat → Nat → Option Md) : Code → XQ → St → Prop
  | .skip, Q, st => Q .normal st
  | .region id ops draw, Q, st => aops P E ops (mdOf M id draw) ops.toList 0 (Q .normal) st
  | .seq x y, Q, st => awp P E M x (Then (awp P E M y) Q) st
  | .cond c x y, Q, st => match st.ev c with
    | .bool b => AIf b (awp P E M x Q) (awp P E M y Q) st
    | _ => False
  | .block id c, Q, st => awp P E M c (Blk id Q) st
  | .loop c, Q, st => ALoop (awp P E M c) Q st
  | .exit id, Q, st => Q (.exit id) st
  | .ret, Q, st => Q .ret st
  | _, _, _ => False
/-- What the kernel checks of a function's text. -/
def okCode (M : Nat → Nat → Option Md) (n : Nat) : Code → Bool
  | .region id ops draw => (ops.toList.all fun o => match o.dst with | some d => decide (d < n) | none => true) &&
    (!draw || calm ops fun i => match ops[i]? with | some o => mdOf M id draw i o | none => .t)
  | .seq x y => okCode M n x && okCode M n y
  | .cond _ x y => okCode M n x && okCode M n y
  | .block _ c => okCode M n c
  | .loop c => okCode M n c
  | _ => true

section
variable {P : Program} {E : Env P} {M : Nat → Nat → Option Md} {n : Nat} {w0 : World} {imp : Im} {st st' : St} {τ τ' : Places} {a : Act} {w w' : World} {ops : Array Oper}

theorem put_after (st : St) (d : Option Tmp) (x : PV) : st.put d x = st.after st.o d x := by cases st; rfl
theorem aop_ev {m : Md} {o : Oper} {K : St → Prop} (h : aop P E m o K st) : ∃ x ob, EV P E m o st x ob ∧ K (st.after ob o.dst x) := by
  have hp : ∀ {op : Op}, o.op = op → (match pureOp P E (st.see m) op with | some x => K (st.put o.dst x) | none => False) → ∃ x ob, EV P E m o st x ob ∧ K (st.after ob o.dst x) := by
    intro op ho h
    split at h
    · rename_i x hx
      exact ⟨x, st.o, .inl ⟨.pure (by rw [ho]; exact hx), rfl⟩, by rw [← put_after]; exact h⟩
    · exact h.elim
  unfold aop at h
  split at h
  · rename_i T ho
    split at h
    · rename_i k z hd hz
      refine ⟨_, _, .inr (.inl ⟨T, k, z, ho, hd, hz, rfl, rfl⟩), ?_⟩
      rw [hd]
      exact h
    · exact h.elim
  · rename_i T y ho
    split at h
    · rename_i k hd
      refine ⟨_, _, .inr (.inr ⟨rfl, .box T y k ho hd h.1 rfl rfl⟩), ?_⟩
      rw [hd]
      exact h.2
    · exact h.elim
  · rename_i T y z ho
    split at h
    · rename_i ob hob
      exact ⟨_, _, .inr (.inr ⟨rfl, .store T y z ho hob rfl⟩), h⟩
    · exact h.elim
  · rename_i T len parts ho
    split at h
    · split at h
      · rename_i hpl
        split at h
        · rename_i e he
          obtain rfl : parts = #[] := by cases parts; simp at hpl; simp [hpl]
          exact ⟨.nil, st.o, .inr (.inr ⟨rfl, .lit0 T e.1 e.2 ho he rfl rfl⟩), by rw [← put_after]; exact h⟩
        · exact h.elim
      · split at h
        · rename_i k e ys ks hd hl
          refine ⟨_, _, .inr (.inr ⟨rfl, .lit T _ parts e ys ks k ho hd hl rfl rfl⟩), ?_⟩
          rw [hd]
          exact h
        · exact h.elim
    · split at h
      · rename_i e ys hl
        exact ⟨_, st.o, .inl ⟨.lit T len parts e ys ho hl rfl, rfl⟩, by rw [← put_after]; exact h⟩
      · exact h.elim
  · rename_i T l c ho
    split at h
    · rename_i k e xs hd hm
      refine ⟨_, _, .inr (.inr ⟨rfl, .make T e l c xs k ho hd hm rfl rfl⟩), ?_⟩
      rw [hd]
      exact h
    · exact h.elim
  · rename_i T r ho
    split at h
    · rename_i k b hd hm
      refine ⟨_, _, .inr (.inr ⟨rfl, .makeMap T b k ho hd hm rfl rfl⟩), ?_⟩
      rw [hd]
      exact h
    · exact h.elim
  · rename_i T y i z ho
    split at h
    · rename_i ob hob
      exact ⟨_, _, .inr (.inr ⟨rfl, .mapUpdate T y i z ho hob rfl⟩), h⟩
    · exact h.elim
  · rename_i c ho
    split at h
    · rename_i hc
      split at h
      · rename_i d y z T T' hd hargs htys
        obtain ⟨rfl, h⟩ := h
        split at h
        · rename_i x ob hx
          have e1 : c.args = #[y, z] := by cases hq : c.args; rw [hq] at hargs; simp at hargs; simp [hargs]
          have e2 : c.argTypes = #[T, T] := by cases hq : c.argTypes; rw [hq] at htys; simp at htys; simp [htys]
          refine ⟨x, ob, .inr (.inr ⟨rfl, .append c d T y z ho hd hc e1 e2 hx⟩), ?_⟩
          rw [hd]
          exact h
        · exact h.elim
      · exact h.elim
    · exact hp ho (by rw [ho] at h; exact h)
    · split at h
      · rename_i f args hf
        split at h
        · obtain ⟨x, ob, hC, hK⟩ := h
          exact ⟨x, ob, .inr (.inr ⟨rfl, .call c f args ho hf hC⟩), hK⟩
        · obtain ⟨as, x, h1, h2, h3, hK⟩ := h
          exact ⟨x, st.o, .inl ⟨.call c f args as ho (by rw [callee_see]; exact hf) h1 h2 h3, rfl⟩, by rw [← put_after]; exact hK⟩
      · exact h.elim
  · rename_i op _ _ _ _ _ _ _ _
    exact hp rfl h
theorem aops_chain {md : Nat → Oper → Md} {K : St → Prop} {Mf : Nat → Md} (hM : ∀ (i : Nat) (o : Oper), ops[i]? = some o → Mf i = md i o) : ∀ (l : List Oper) (i : Nat) (st : St), (∀ (j : Nat) (o : Oper), l[j]? = some o → ops[i + j]? = some o) → aops P E ops md l i K st → ∃ st', Chain P E ops Mf (List.range' i l.length) st st' ∧ K st'
  | [], i, st, hl, h => ⟨st, rfl, h⟩
  | o :: l, i, st, hl, h => by
    have ho : ops[i]? = some o := hl 0 o rfl
    have hl' : ∀ (j : Nat) (o : Oper), l[j]? = some o → ops[i + 1 + j]? = some o := fun j o' hj => by rw [Nat.add_assoc, Nat.add_comm 1]; exact hl (j + 1) o' (by simpa using hj)
    have run : gd ops o st = some true → aop P E ((md i o).tr E) o (aops P E ops md l (i + 1) K) st → ∃ st', Chain P E ops Mf (List.range' i (o :: l).length) st st' ∧ K st' := by
      intro hg h
      obtain ⟨x, ob, he, hK⟩ := aop_ev h
      obtain ⟨st', h1, h2⟩ := aops_chain hM l (i + 1) _ hl' hK
      exact ⟨st', ⟨o, x, ob, ho, .inr ⟨hg, by rw [hM i o ho]; exact he⟩, h1⟩, h2⟩
    unfold aops at h
    split at h
    · rename_i hg
      exact run (by simp [gd, hg]) h
    · rename_i g want hg
      split at h
      · rename_i t ht
        split at h
        · rename_i b hb
          unfold AIf at h
          split at h
          · rename_i hw
            exact run (by simp only [gd, hg, ht, hb]; rw [hw]) h
          · rename_i hw
            obtain ⟨st', h1, h2⟩ := aops_chain hM l (i + 1) _ hl' h
            refine ⟨st', ⟨o, .tup [], st.o, ho, .inl ⟨by simp only [gd, hg, ht, hb]; simp only [Bool.not_eq_true] at hw; rw [hw], rfl, rfl⟩, ?_⟩, h2⟩
            rw [← put_after]
            exact h1
        · rename_i cs hb
          obtain ⟨st', h1, h2⟩ := aops_chain hM l (i + 1) _ hl' h
          refine ⟨st', ⟨o, .tup [], st.o, ho, .inl ⟨by simp only [gd, hg, ht, hb], rfl, rfl⟩, ?_⟩, h2⟩
          rw [← put_after]
          exact h1
        · exact h.elim
      · exact h.elim
/-- What holds at the text's end, said of the machine. -/
def QK (P : Program) (n : Nat) (w0 : World) (imp : Im) (Q : XQ) : Exit → Act → World → Prop
  | .normal, a, w => ∃ st τ, Sim P n w0 imp st τ a w ∧ Q .normal st
  | .exit id, a, w => ∃ st τ, Sim P n w0 imp st τ a w ∧ Q (.exit id) st
  | .ret, a, w => ∃ st τ, Sim P n w0 imp st τ a w ∧ Q .ret st
  | _, _, _ => False
theorem awp_sound (hm : P.follows .mixedOrders = true) (hE : ∀ d, d < n → E.key d < 1000000) : ∀ (c : Code) (Q : XQ) (st : St) (τ : Places) (a : Act) (w : World), okCode M n c = true → awp P E M c Q st → Sim P n w0 imp st τ a w → c.wp P (QK P n w0 imp Q) a w
  | .skip, Q, st, τ, a, w, hok, h, hs => wp_skip ⟨st, τ, hs, h⟩
  | .region id ops draw, Q, st, τ, a, w, hok, h, hs => by
    simp only [okCode, Bool.and_eq_true, List.all_eq_true] at hok
    simp only [awp] at h
    obtain ⟨st', h1, h2⟩ := aops_chain (Mf := fun i => match ops[i]? with | some o => mdOf M id draw i o | none => .t) (fun i o ho => by simp [ho]) ops.toList 0 st (fun j o hj => by simpa using hj) h
    refine Chain.region (st' := st') hm (fun o ho d hd => ?_) (fun hd => ?_) (by rw [← List.range_eq_range'] at h1; simpa using h1) hs fun τ' a' w' h' => ⟨st', τ', h', h2⟩
    · have := hok.1 o (by simpa using ho)
      have hlt : d < n := by simpa [hd] using this
      exact ⟨hlt, hE d hlt⟩
    · have := hok.2
      rw [hd] at this
      subst hd
      simpa using this
  | .seq x y, Q, st, τ, a, w, hok, h, hs => by
    simp only [okCode, Bool.and_eq_true] at hok
    refine wp_seq (wp_mono (awp_sound hm hE x _ st τ a w hok.1 h hs) fun e a' w' he => ?_)
    cases e with
    | normal => obtain ⟨st', τ', h1, h2⟩ := he; exact awp_sound hm hE y Q st' τ' a' w' hok.2 h2 h1
    | exit id => obtain ⟨st', τ', h1, h2⟩ := he; exact ⟨st', τ', h1, h2⟩
    | ret => obtain ⟨st', τ', h1, h2⟩ := he; exact ⟨st', τ', h1, h2⟩
    | goto l => exact he
    | panic c => exact he
    | outgrown => exact he
  | .cond c x y, Q, st, τ, a, w, hok, h, hs => by
    simp only [okCode, Bool.and_eq_true] at hok
    simp only [awp] at h
    split at h
    · rename_i b hb
      have hc := ev_val hs.slots c
      rw [hb] at hc
      cases b with
      | true => exact wp_cond_true hc.bool_inv (awp_sound hm hE x Q st τ a w hok.1 h hs)
      | false => exact wp_cond_false hc.bool_inv (awp_sound hm hE y Q st τ a w hok.2 h hs)
    · exact h.elim
  | .block id c, Q, st, τ, a, w, hok, h, hs => by
    refine wp_block (wp_mono (awp_sound hm hE c _ st τ a w hok h hs) fun e a' w' he => ?_)
    cases e with
    | normal => exact he
    | exit id' =>
      obtain ⟨st', τ', h1, h2⟩ := he
      simp only [Exit.inBlock]
      simp only [Blk] at h2
      split
      · rename_i e; rw [if_pos e] at h2; exact ⟨st', τ', h1, h2⟩
      · rename_i e; rw [if_neg e] at h2; exact ⟨st', τ', h1, h2⟩
    | ret => exact he
    | goto l => exact he
    | panic c => exact he
    | outgrown => exact he
  | .loop c, Q, st, τ, a, w, hok, h, hs => by
    obtain ⟨I, m0, h0, hI⟩ := h
    intro b k cs
    have key : ∀ m st τ a w, I m st → Sim P n w0 imp st τ a w → ∃ e a' w', QK P n w0 imp Q e a' w' ∧ Arrives P (lone (b.at a (.code c :: .inLoop c :: k)) cs w) b k cs e a' w' := by
      intro m
      induction m using Nat.strongRecOn with
      | _ m ih =>
        intro st τ a w hst hsim
        obtain ⟨e, a₁, w₁, hq, harr⟩ := awp_sound hm hE c _ st τ a w hok (hI m st hst) hsim b (.inLoop c :: k) cs
        cases e with
        | normal =>
          obtain ⟨st', τ', h1, m', h2, h3⟩ := hq
          obtain ⟨e₂, a₂, w₂, hq₂, harr₂⟩ := ih m' h2 st' τ' a₁ w₁ h3 h1
          exact ⟨e₂, a₂, w₂, hq₂, .of_steps (Steps.trans harr (.one step_inLoop)) harr₂⟩
        | exit id => obtain ⟨st', τ', h1, h2⟩ := hq; exact ⟨.exit id, a₁, w₁, ⟨st', τ', h1, h2⟩, .pass (x := .inLoop c) rfl (fun _ _ => .inl (by simp)) harr⟩
        | ret => obtain ⟨st', τ', h1, h2⟩ := hq; exact ⟨.ret, a₁, w₁, ⟨st', τ', h1, h2⟩, .pass (x := .inLoop c) rfl (fun _ _ => .inl (by simp)) harr⟩
        | goto l => exact hq.elim
        | panic c => exact hq.elim
        | outgrown => exact hq.elim
    obtain ⟨e, a', w', hq, harr⟩ := key m0 st τ a w h0 hs
    exact ⟨e, a', w', hq, .of_steps (.one step_loop) harr⟩
  | .exit id, Q, st, τ, a, w, hok, h, hs => wp_exit ⟨st, τ, hs, h⟩
  | .ret, Q, st, τ, a, w, hok, h, hs => wp_ret ⟨st, τ, hs, h⟩
  | .rangeFunc _ _ _ _, _, _, _, _, _, _, h, _ => h.elim
  | .scope _, _, _, _, _, _, _, h, _ => h.elim
  | .label _, _, _, _, _, _, _, h, _ => h.elim
  | .goto _, _, _, _, _, _, _, h, _ => h.elim
  | .refuse _, _, _, _, _, _, _, h, _ => h.elim
end
end Go.Sx
/- The abstract machine, part 19: from a function's text to its contract. -/
set_option linter.unusedVariables false
set_option linter.unusedSimpArgs false
namespace Go.Sx
open Go Go.RowKit

def resVar (P : Program) (st : St) : ResultVar → Option PV
  | .tmp t => some (st.s t)
  | .cell a T => absLoad P st.o T (st.s a)
def resultPV (P : Program) (st : St) (rs : List ResultVar) : Option PV :=
  match rs with
  | [] => some (.tup [])
  | [r] => resVar P st r
  | [r1, r2] => match resVar P st r1, resVar P st r2 with
    | some x, some y => some (.tup [x, y])
    | _, _ => none
  | [r1, r2, r3] => match resVar P st r1, resVar P st r2, resVar P st r3 with
    | some x, some y, some z => some (.tup [x, y, z])
    | _, _, _ => none
  | _ => none
/-- At a function's end: what it returns. -/
def AFin (P : Program) (rs : Array ResultVar) (R : Rs) (st : St) : Prop :=
  match resultPV P st rs.toList with
  | some y => match R with
    | .fr r => res st.o 5 y = some r
    | .row e xs => match y with
      | .ref k v => st.o k = (v, some (true, .row e xs))
      | _ => False
  | none => False
def Fin (P : Program) (rs : Array ResultVar) (R : Rs) : XQ
  | .normal, st => AFin P rs R st
  | .ret, st => AFin P rs R st
  | .exit _, _ => False

section
variable {P : Program} {E : Env P} {M : Nat → Nat → Option Md} {n : Nat} {w0 : World} {imp : Im} {st st' : St} {τ τ' : Places} {a : Act} {w w' : World} {ops : Array Oper}

/-- What a result variable holds. -/
def RV (P : Program) (a : Act) (w : World) (v : Value) : ResultVar → Prop
  | .tmp t => a.tmps[t]?.getD undef = v
  | .cell ad t => ∃ q, a.tmps[ad]?.getD undef = .pointer (some q) ∧ (loadVar t q).run P w = .ok v w
theorem resVar_sound (h : Sim P n w0 imp st τ a w) {r : ResultVar} {x : PV} (hx : resVar P st r = some x) : ∃ v, RV P a w v r ∧ Val P st.o τ w x v := by
  cases r with
  | tmp t =>
    cases hx
    have := h.slots t
    rw [Array.getD_eq_getD_getElem?] at this
    exact ⟨_, rfl, this⟩
  | cell ad t =>
    simp only [resVar] at hx
    have hs := h.slots ad
    rw [Array.getD_eq_getD_getElem?] at hs
    obtain ⟨u, h1, h2⟩ := load_sound h.holds hs hx
    refine ⟨u, ?_, h2⟩
    unfold RV
    generalize hv : a.tmps[ad]?.getD undef = v at h1
    simp only [Instr.loadAt] at h1
    cases v with
    | pointer p =>
      cases p with
      | none => simp [Instr.sureAddr, stuck] at h1
      | some q => exact ⟨q, hv, by simpa [Instr.sureAddr] using h1⟩
    | _ => simp [Instr.sureAddr, stuck] at h1
theorem result_sound (h : Sim P n w0 imp st τ a w) {fn : Func} {y : PV} (hy : resultPV P st fn.results.toList = some y) : ∃ v, (results fn a.tmps).run P w = .ok v w ∧ Val P st.o τ w y v := by
  unfold results
  generalize hrs : fn.results = rs at hy ⊢
  obtain ⟨l⟩ := rs
  unfold resultPV at hy
  split at hy
  · rename_i e
    simp only at e
    subst e
    cases hy
    exact ⟨.tuple #[], by simp, .tup [] #[] rfl (by simp)⟩
  · rename_i r e
    simp only at e
    subst e
    obtain ⟨v, h1, h2⟩ := resVar_sound h hy
    refine ⟨v, ?_, h2⟩
    cases r <;> simp only [RV] at h1
    · simp [h1]
    · obtain ⟨q, h1, h1'⟩ := h1; simp [h1, h1', asAddr]
  · rename_i r1 r2 e
    simp only at e
    subst e
    split at hy
    · rename_i x1 x2 e1 e2
      cases hy
      obtain ⟨v1, h1, h1'⟩ := resVar_sound h e1
      obtain ⟨v2, h2, h2'⟩ := resVar_sound h e2
      refine ⟨.tuple #[v1, v2], ?_, .tup _ _ rfl fun j z u hz hu => ?_⟩
      · cases r1 <;> cases r2 <;> simp only [RV] at h1 h2
        · simp [h1, h2]
        · obtain ⟨q2, h2, h2'⟩ := h2; simp [h1, h2, h2', asAddr]
        · obtain ⟨q1, h1, h1'⟩ := h1; simp [h1, h2, h1', asAddr]
        · obtain ⟨q1, h1, h1'⟩ := h1; obtain ⟨q2, h2, h2'⟩ := h2; simp [h1, h2, h1', h2', asAddr]
      · match j, hz, hu with
        | 0, hz, hu => simp at hz hu; subst hz; subst hu; exact h1'
        | 1, hz, hu => simp at hz hu; subst hz; subst hu; exact h2'
        | j + 2, hz, hu => simp at hz
    · cases hy
  · rename_i r1 r2 r3 e
    simp only at e
    subst e
    split at hy
    · rename_i x1 x2 x3 e1 e2 e3
      cases hy
      obtain ⟨v1, h1, h1'⟩ := resVar_sound h e1
      obtain ⟨v2, h2, h2'⟩ := resVar_sound h e2
      obtain ⟨v3, h3, h3'⟩ := resVar_sound h e3
      refine ⟨.tuple #[v1, v2, v3], ?_, .tup _ _ rfl fun j z u hz hu => ?_⟩
      · cases r1 <;> cases r2 <;> cases r3 <;> simp only [RV] at h1 h2 h3 <;> (try obtain ⟨q1, h1, h1''⟩ := h1) <;> (try obtain ⟨q2, h2, h2''⟩ := h2) <;> (try obtain ⟨q3, h3, h3''⟩ := h3) <;> simp [asAddr, *]
      · match j, hz, hu with
        | 0, hz, hu => simp at hz hu; subst hz; subst hu; exact h1'
        | 1, hz, hu => simp at hz hu; subst hz; subst hu; exact h2'
        | 2, hz, hu => simp at hz hu; subst hz; subst hu; exact h3'
        | j + 3, hz, hu => simp at hz
    · cases hy
  · cases hy

/-- The first state: nothing is one's own. -/
noncomputable def o0 (B : Nat → Prop) (w : World) : Objs := by
  classical
  exact fun k => if 1000000 ≤ k ∧ k - 1000000 < w.heap.size ∧ ¬ B (k - 1000000) then (0, some (true, .other)) else (0, none)
theorem o0_low (B : Nat → Prop) (w : World) {k : Nat} (h : k < 1000000) : o0 B w k = (0, none) := by
  unfold o0
  rw [if_neg (by omega)]
theorem o0_some {B : Nat → Prop} {w : World} {k ver : Nat} {b : Bool} {x : Ob} (h : o0 B w k = (ver, some (b, x))) : 1000000 ≤ k ∧ k - 1000000 < w.heap.size ∧ ¬ B (k - 1000000) ∧ b = true ∧ x = .other := by
  unfold o0 at h
  split at h
  · rename_i hc
    simp only [Prod.mk.injEq, Option.some.injEq] at h
    exact ⟨hc.1, hc.2.1, hc.2.2, h.2.1.symm, h.2.2.symm⟩
  · cases h
theorem fz0 {B : Nat → Prop} {w : World} {b : Nat} (hB : ∀ b, B b → b < w.heap.size) (h : B b) : Fz (o0 B w) (fun k => (k - 1000000, 0)) w b :=
  ⟨hB b h, fun k ⟨ver, x, hk⟩ e => (o0_some hk).2.2.1 (by rw [show k - 1000000 = b from e]; exact h)⟩
theorem sim0 {B : Nat → Prop} {w : World} (hB : ∀ b, B b → b < w.heap.size) (hn6 : n ≤ 1000000) {args : List PV} {vs : Array Value} (hn : vs.size = args.length) (hl : args.length ≤ n) (hv : ∀ (j : Nat) (z : PV) (u : Value), args[j]? = some z → vs[j]? = some u → Rd w B z u) :
    Sim P n w ⟨fun _ => False, B, o0 B w, fun k => (k - 1000000, 0)⟩ ⟨fun t => args.getD t .undef, o0 B w⟩ (fun k => (k - 1000000, 0)) { tmps := vs ++ Array.replicate (n - vs.size) undef, defers := [] } w := by
  refine ⟨rfl, by simp; omega, fun t => ?_, ⟨fun k ver b t cs hk => ?_, fun k ver b e xs hk => ?_, fun k ver b hk => (o0_some hk).2.1, fun k k' ⟨v1, x1, h1⟩ ⟨v2, x2, h2⟩ e => ?_, fun k ver x hk => ?_, fun k ver b m hk => by have := (o0_some hk).2.2.2.2; cases this⟩, ⟨rfl, rfl, rfl, Nat.le_refl _, fun b _ _ => rfl⟩, fun k ver x hk hx => absurd (o0_some hk).2.2.2.2 hx, fun b hb => ?_, Ext.refl _ _ _⟩
  · show Val P _ _ w (args.getD t .undef) _
    by_cases h : t < args.length
    · have h1 : args[t]? = some (args.getD t .undef) := by simp [List.getD_eq_getElem?_getD, h]
      have h2 : vs[t]? = some (vs.getD t undef) := by simp [Array.getD_eq_getD_getElem?, show t < vs.size by omega]
      have h3 : (vs ++ Array.replicate (n - vs.size) undef).getD t undef = vs.getD t undef := by
        simp only [Array.getD_eq_getD_getElem?, Array.getElem?_append_left (show t < vs.size by omega)]
      rw [h3]
      exact .pure ((hv t _ _ h1 h2).ext fun b hb => ⟨fz0 hB hb, rfl⟩)
    · rw [show args.getD t .undef = .undef by simp [List.getD_eq_getElem?_getD, List.getElem?_eq_none (by omega : args.length ≤ t)]]
      exact .undef _
  · have := (o0_some hk).2.2.2.2; cases this
  · have := (o0_some hk).2.2.2.2; cases this
  · have := o0_some h1
    have := o0_some h2
    simp only at e
    omega
  · have := (o0_some hk).2.2.2.1; cases this
  · by_cases h : B b
    · exact .inl h
    · refine .inr (.inr ⟨1000000 + b, 0, by omega, ?_, by simp⟩)
      show o0 B w (1000000 + b) = _
      unfold o0
      rw [if_pos ⟨by omega, by rw [Nat.add_sub_cancel_left]; exact hb, by rw [Nat.add_sub_cancel_left]; exact h⟩]
theorem fz_new {B : Nat → Prop} {o1 : Objs} {τ1 : Places} (h : Sim P n w0 ⟨fun _ => False, B, o1, τ1⟩ st τ a w) {b : Nat} (hb : Fz st.o τ w b) : newB B w0 w b := by
  by_cases hlt : b < w0.heap.size
  · rcases h.far b hlt with h1 | h1 | ⟨k, ver, _, hk, rfl⟩
    · exact .inl h1
    · exact h1.elim
    · exact absurd rfl (hb.2 k ⟨ver, _, hk⟩)
  · exact .inr ⟨by omega, hb.1⟩
theorem key_new {B : Nat → Prop} {o1 : Objs} {τ1 : Places} (h : Sim P n w0 ⟨fun _ => False, B, o1, τ1⟩ st τ a w) {k ver : Nat} {b : Bool} {x : Ob} (hk : st.o k = (ver, some (b, x))) (hx : x ≠ .other) : newB B w0 w (τ k).1 := by
  cases b with
  | false => exact fz_new h (h.holds.fro k ver x hk)
  | true =>
    rcases h.mine k ver x hk hx with h1 | h1
    · exact .inr ⟨h1, h.holds.lt hk⟩
    · exact h1.elim
theorem fin_sound {B : Nat → Prop} {o1 : Objs} {τ1 : Places} {fn : Func} {R : Rs} (h : Sim P n w0 ⟨fun _ => False, B, o1, τ1⟩ st τ a w) (hf : AFin P fn.results R st) : a.defers = [] ∧ ∃ v, (results fn a.tmps).run P w = .ok v w ∧ ∃ v', (.returned v : Ending) = .returned v' ∧ Below w0.heap.size w0 w ∧ R.post P B w0 w v' := by
  refine ⟨h.defers, ?_⟩
  unfold AFin at hf
  split at hf
  · rename_i y hy
    obtain ⟨v, h1, h2⟩ := result_sound h hy
    refine ⟨v, h1, v, rfl, ⟨h.frame.os, h.frame.tape, h.frame.output, h.frame.size, fun b hb => h.frame.block b hb (fun hh => hh)⟩, ?_⟩
    cases R with
    | fr r =>
      simp only at hf
      exact res_sound h.holds (fun b hb => fz_new h hb) 5 h2 hf fun k hk => by
        obtain ⟨ver, b, z, ho, hz⟩ := keysOf_obj 5 hf k hk
        exact key_new h ho hz
    | row e xs =>
      simp only at hf
      split at hf
      · rename_i k ver
        have hv : v = .slice (some ⟨(τ k).1, 0, none⟩) xs.length (τ k).2 := by
          cases h2 with
          | pure h' => cases h'
          | ref k ver v hv hp => exact hp _ _ _ hf
        obtain ⟨vs, hg, hn, hs, hl, hm, hz, h1, hr⟩ := h.holds.row _ _ _ _ _ hf
        refine ⟨(τ k).1, (τ k).2, vs, hv, ?_, hg, hn, hs, hl, hm, hz, h1, fun i y j z u hy hj hu => (hr i y j z u hy hj hu).ext fun b hb => ⟨⟨fz_new h hb, fun e => hb.2 k ⟨_, _, hf⟩ e.symm⟩, rfl⟩⟩
        rcases h.mine k _ _ hf (by simp) with h' | h'
        · exact h'
        · exact h'.elim
      · exact hf.elim
  · exact hf.elim
/-- A function's contract, from its text. -/
theorem fn_of_awp {f : FuncId} {fn : Func} {c : Code} {args : List PV} {R : Rs} (hm : P.follows .mixedOrders = true) (hf : P.funcs[f]? = some fn) (hb : fn.body = some c) (hname : (fn.name == "runtime.NumGoroutine") = false) (hok : okCode M fn.ntmps c = true) (hn6 : fn.ntmps ≤ 1000000) (hl : args.length ≤ fn.ntmps)
    (h : ∀ o : Objs, (∀ k, k < 1000000 → o k = (0, none)) → awp P E M c (Fin P fn.results R) ⟨fun t => args.getD t .undef, o⟩) (hE : ∀ d, E.key d = d := by intro d; rfl) : FnR P f args R where
  enter vs w := by
    have hb' : fn.body.isNone = false := by rw [hb]; rfl
    have hname' : ¬ fn.name = "runtime.NumGoroutine" := by simpa using hname
    simp [callFunc, hf, hname', hb]
  calls vs w B hB hn hv := by
    refine calls_of_wp hf hb (wp_mono (awp_sound hm (fun d hd => by rw [hE]; omega) c _ _ _ _ w hok (h (o0 B w) fun k hk => o0_low B w hk) (sim0 hB hn6 hn hl hv)) fun e a' w' he => ?_)
    cases e with
    | normal => obtain ⟨st', τ', h1, h2⟩ := he; exact fin_sound h1 h2
    | ret => obtain ⟨st', τ', h1, h2⟩ := he; exact fin_sound h1 h2
    | exit id => obtain ⟨st', τ', h1, h2⟩ := he; exact h2
    | goto l => exact he
    | panic c => exact he.elim
    | outgrown => exact he.elim
/-- A call by a contract. -/
theorem GCall.mk {f : FuncId} {args as : List PV} {R : Rs} {d : Option Tmp} {kd : Option Nat} {K : St → Prop} {x : PV} {ob : Objs} (ha : args.mapM (res st.o 4) = some as) (hF : FnR P f as R) (hc : callSt st (args.flatMap (keysOf st.o 4)) kd R = some (x, ob)) (hK : K (st.after ob d x)) : GCall P f args d kd K st :=
  ⟨x, ob, ⟨hF.enter, fun n w0 imp s τ a w vs hd h hn hv => Calls.of_contract (st := ⟨s, st.o⟩) hF hd h hn hv ha rfl (by
    cases R with
    | fr r => exact hc
    | row e xs => exact hc)⟩, hK⟩
/-- A call that leaves the objects as they were. -/
theorem GCall.fr {f : FuncId} {args as : List PV} {r : PV} {d : Option Tmp} {kd : Option Nat} {K : St → Prop} (ha : args.mapM (res st.o 4) = some as) (hF : Fn P f as r) (hk : r.flat = true ∨ args.flatMap (keysOf st.o 4) = []) (hK : K (st.put d r)) : GCall P f args d kd K st := by
  refine GCall.mk ha hF (x := r) (ob := st.o) ?_ (by rw [← put_after]; exact hK)
  simp only [callSt, Option.some.injEq, Prod.mk.injEq, true_and]
  rcases hk with hk | hk
  · rw [if_pos hk]
  · rw [hk, St.freeze_nil, ite_self]
theorem QCall.fr {m : Md} {f : FuncId} {args as : List PV} {r : PV} {d : Option Tmp} {K : St → Prop} (ha : args.mapM (res (st.see m).o 4) = some as) (hF : Fn P f as r) (hk : r.flat = true ∨ args.flatMap (keysOf (st.see m).o 4) = []) (hK : K (st.put d r)) : QCall P m f args d K st :=
  ⟨as, r, ha, hF, hk, hK⟩
end
end Go.Sx
