/- The abstract machine, part 22: a call that is shown the caller's own objects: it may turn them. -/
import Derived.Test.YtiefnninebilbaaMpc
set_option linter.unusedVariables false
set_option linter.unusedSimpArgs false
namespace Go.Sx
open Go Go.RowKit

/-- A value names an object's version. -/
inductive Has : PV → Nat → Nat → Prop where
  | ref (k v : Nat) : Has (.ref k v) k v
  | ptr (k v off : Nat) : Has (.ptr k v off) k v
  | eptr (k v i j : Nat) : Has (.eptr k v i j) k v
  | mref (k v : Nat) : Has (.mref k v) k v
  | agg (cs : List PV) (j : Nat) (z : PV) (k v : Nat) (hz : cs[j]? = some z) (h : Has z k v) : Has (.agg cs) k v
  | tup (cs : List PV) (j : Nat) (z : PV) (k v : Nat) (hz : cs[j]? = some z) (h : Has z k v) : Has (.tup cs) k v
  | fn1 (f : FuncId) (fs cs : List PV) (j : Nat) (z : PV) (k v : Nat) (hz : fs[j]? = some z) (h : Has z k v) : Has (.fn f fs cs) k v
  | fn2 (f : FuncId) (fs cs : List PV) (j : Nat) (z : PV) (k v : Nat) (hz : cs[j]? = some z) (h : Has z k v) : Has (.fn f fs cs) k v

/-- The objects lie from a base on. -/
def Env.at {P : Program} (E : Env P) (b : Nat) : Env P := { eqT := E.eqT, ok := E.ok, key := fun d => b + d, inj := fun d d' h => Nat.add_left_cancel (n := b) h }
@[go_sem] theorem at_key {P : Program} {E : Env P} {b d : Nat} : (E.at b).key d = b + d := rfl
@[go_sem] theorem at_akey {P : Program} {E : Env P} {b d : Nat} {x : PV} {o : Objs} : (E.at b).akey d x o = b + d := rfl
@[go_sem] theorem at_eqT {P : Program} {E : Env P} {b : Nat} {T : TypeId} : (E.at b).eqT T = E.eqT T := rfl
theorem col_inj {b t kr kl d d' : Nat} (h : kr < b ∧ kl < b ∧ kl ≠ kr) (e : (if d = t then kr else if d = 1000 then kl else b + d) = (if d' = t then kr else if d' = 1000 then kl else b + d')) : d = d' := by
  obtain ⟨h1, h2, h3⟩ := h
  split at e <;> split at e <;> (try split at e) <;> (try split at e) <;> omega
/-- The objects lie from a base on, but for what a temporary t makes (it lies under kr); 1000 stands for kl. -/
def Env.col {P : Program} (E : Env P) (b t kr kl : Nat) (h : kr < b ∧ kl < b ∧ kl ≠ kr) : Env P := { eqT := E.eqT, ok := E.ok, key := fun d => if d = t then kr else if d = 1000 then kl else b + d, inj := fun d d' e => col_inj h e }
@[go_sem] theorem col_key {P : Program} {E : Env P} {b t kr kl d : Nat} {h : kr < b ∧ kl < b ∧ kl ≠ kr} : (E.col b t kr kl h).key d = if d = t then kr else if d = 1000 then kl else b + d := rfl
@[go_sem] theorem col_akey {P : Program} {E : Env P} {b t kr kl d : Nat} {h : kr < b ∧ kl < b ∧ kl ≠ kr} {x : PV} {o : Objs} : (E.col b t kr kl h).akey d x o = if d = t then kr else if d = 1000 then kl else b + d := rfl
@[go_sem] theorem col_eqT {P : Program} {E : Env P} {b t kr kl : Nat} {h : kr < b ∧ kl < b ∧ kl ≠ kr} {T : TypeId} : (E.col b t kr kl h).eqT T = E.eqT T := rfl
section
variable {P : Program} {o o' : Objs} {τ τ' : Places} {w w' : World}
theorem Rd.no_has {B : Nat → Prop} {z : PV} {u : Value} (h : Rd w B z u) {k v : Nat} (hh : Has z k v) : False := by
  induction h with
  | int k n => cases hh
  | bool b => cases hh
  | str s => cases hh
  | nil a => cases hh
  | sl0 a c => cases hh
  | sl => cases hh
  | mem => cases hh
  | agg cs vs hn h1 hr ih =>
    cases hh with
    | agg _ j z _ _ hz h' => obtain ⟨u, hu⟩ := getElem?_of_size hn hz; exact ih j z u hz hu h'
  | tup cs vs hn hr ih =>
    cases hh with
    | tup _ j z _ _ hz h' => obtain ⟨u, hu⟩ := getElem?_of_size hn hz; exact ih j z u hz hu h'
  | fn f fs cs vf vc hf hc hrf hrc ihf ihc =>
    cases hh with
    | fn1 _ _ _ j z _ _ hz h' => obtain ⟨u, hu⟩ := getElem?_of_size hf hz; exact ihf j z u hz hu h'
    | fn2 _ _ _ j z _ _ hz h' => obtain ⟨u, hu⟩ := getElem?_of_size hc hz; exact ihc j z u hz hu h'
theorem Val.has {z : PV} {u : Value} (h : Val P o τ w z u) {k v : Nat} (hh : Has z k v) : v ≤ (o k).1 := by
  induction h with
  | undef v => cases hh
  | pure h => exact (h.no_has hh).elim
  | ref k ver v hv h => cases hh; exact hv
  | ptr k ver off v hv h => cases hh; exact hv
  | eptr k ver i j v hv h => cases hh; exact hv
  | mref k ver v hv h => cases hh; exact hv
  | agg cs vs hn h1 hr ih =>
    cases hh with
    | agg _ j z _ _ hz h' => obtain ⟨u, hu⟩ := getElem?_of_size hn hz; exact ih j z u hz hu h'
  | tup cs vs hn hr ih =>
    cases hh with
    | tup _ j z _ _ hz h' => obtain ⟨u, hu⟩ := getElem?_of_size hn hz; exact ih j z u hz hu h'
  | fn f fs cs vf vc hf hc hrf hrc ihf ihc =>
    cases hh with
    | fn1 _ _ _ j z _ _ hz h' => obtain ⟨u, hu⟩ := getElem?_of_size hf hz; exact ihf j z u hz hu h'
    | fn2 _ _ _ j z _ _ hz h' => obtain ⟨u, hu⟩ := getElem?_of_size hc hz; exact ihc j z u hz hu h'
/-- Objects under some keys are forgotten. -/
theorem Val.forget {o1 ob : Objs} {J : Nat → Prop} (h1 : ∀ k, ¬ J k → o' k = ob k) (h2 : ∀ k, J k → ob k = o1 k ∧ (o1 k).2 = none) (hB : ∀ b, Fz o' τ' w' b → Fz ob τ' w' b) {z : PV} {u : Value} (h : Val P o' τ' w' z u)
    (hg : ∀ k v, Has z k v → J k → v ≤ (o1 k).1) : Val P ob τ' w' z u := by
  have hv : ∀ {k ver : Nat}, Has z k ver → ver ≤ (o' k).1 → ver ≤ (ob k).1 := by
    intro k ver hh hle
    by_cases hj : J k
    · rw [(h2 k hj).1]; exact hg k ver hh hj
    · rw [← h1 k hj]; exact hle
  have hs : ∀ {k ver : Nat} {p : Bool × Ob}, ob k = (ver, some p) → o' k = (ver, some p) := by
    intro k ver p hk
    by_cases hj : J k
    · have := h2 k hj
      rw [← this.1, hk] at this
      cases this.2
    · rw [h1 k hj]; exact hk
  induction h with
  | undef v => exact .undef v
  | pure h => exact .pure (h.ext fun b hb => ⟨hB b hb, rfl⟩)
  | ref k ver v hle h => exact .ref k ver v (hv (.ref _ _) hle) fun b e xs he => h b e xs (hs he)
  | ptr k ver off v hle h => exact .ptr k ver off v (hv (.ptr _ _ _) hle) fun b e xs he => h b e xs (hs he)
  | eptr k ver i j v hle h => exact .eptr k ver i j v (hv (.eptr _ _ _ _) hle) fun b e xs he => h b e xs (hs he)
  | mref k ver v hle h => exact .mref k ver v (hv (.mref _ _) hle) fun b m he => h b m (hs he)
  | agg cs vs hn h1' hr ih => exact .agg cs vs hn h1' fun j z u hz hu => ih j z u hz hu (fun k v hh => hg k v (.agg _ j z _ _ hz hh)) (fun hh => hv (.agg _ j z _ _ hz hh))
  | tup cs vs hn hr ih => exact .tup cs vs hn fun j z u hz hu => ih j z u hz hu (fun k v hh => hg k v (.tup _ j z _ _ hz hh)) (fun hh => hv (.tup _ j z _ _ hz hh))
  | fn f fs cs vf vc hf hc hrf hrc ihf ihc =>
    exact .fn f fs cs vf vc hf hc (fun j z u hz hu => ihf j z u hz hu (fun k v hh => hg k v (.fn1 _ _ _ j z _ _ hz hh)) (fun hh => hv (.fn1 _ _ _ j z _ _ hz hh)))
      fun j z u hz hu => ihc j z u hz hu (fun k v hh => hg k v (.fn2 _ _ _ j z _ _ hz hh)) (fun hh => hv (.fn2 _ _ _ j z _ _ hz hh))
theorem flat0_val' {r : PV} {v : Value} (h : Val P o τ w r v) (hf : r.flat0 = true) : Val P o' τ' w' r v := by
  cases r <;> simp [PV.flat0] at hf
  · rw [h.int_inv]; exact .int_ _ _
  · rw [h.bool_inv]; exact .bool_ _
  · rw [h.str_inv]; exact .str_ _
theorem flat1_val' {r : PV} {v : Value} (h : Val P o τ w r v) (hf : r.flat1 = true) : Val P o' τ' w' r v := by
  cases r
  case agg cs =>
    obtain ⟨vs, rfl, hn, h1, hr⟩ := h.agg_inv
    exact .agg cs vs hn h1 fun j z u hz hu => flat0_val' (hr j z u hz hu) (List.all_eq_true.1 hf z (List.mem_of_getElem? hz))
  all_goals exact flat0_val' h hf
theorem flat_val' {r : PV} {v : Value} (h : Val P o τ w r v) (hf : r.flat = true) : Val P o' τ' w' r v := by
  cases r
  case tup cs =>
    obtain ⟨vs, rfl, hn, hr⟩ := h.tup_inv
    exact .tup cs vs hn fun j z u hz hu => flat1_val' (hr j z u hz hu) (List.all_eq_true.1 hf z (List.mem_of_getElem? hz))
  all_goals exact flat1_val' h hf
/-- No object under one of these keys is named. -/
def Low (J : Nat → Prop) (z : PV) : Prop := ∀ k v, Has z k v → ¬ J k
@[go_sem] theorem Low_int {J : Nat → Prop} {k : IntKind} {n : Int} : Low J (.int k n) = True := eq_true fun _ _ h => by cases h
@[go_sem] theorem Low_bool {J : Nat → Prop} {b : Bool} : Low J (.bool b) = True := eq_true fun _ _ h => by cases h
@[go_sem] theorem Low_str {J : Nat → Prop} {s : ByteArray} : Low J (.str s) = True := eq_true fun _ _ h => by cases h
@[go_sem] theorem Low_nil {J : Nat → Prop} : Low J .nil = True := eq_true fun _ _ h => by cases h
@[go_sem] theorem Low_undef {J : Nat → Prop} : Low J .undef = True := eq_true fun _ _ h => by cases h
@[go_sem] theorem Low_sl {J : Nat → Prop} {xs : List PV} : Low J (.sl xs) = True := eq_true fun _ _ h => by cases h
@[go_sem] theorem Low_mem {J : Nat → Prop} {xs : List PV} : Low J (.mem xs) = True := eq_true fun _ _ h => by cases h
@[go_sem] theorem Low_ref {J : Nat → Prop} {k v : Nat} : Low J (.ref k v) = ¬ J k := propext ⟨fun h => h k v (.ref _ _), fun h _ _ hh => by cases hh; exact h⟩
@[go_sem] theorem Low_ptr {J : Nat → Prop} {k v j : Nat} : Low J (.ptr k v j) = ¬ J k := propext ⟨fun h => h k v (.ptr _ _ _), fun h _ _ hh => by cases hh; exact h⟩
@[go_sem] theorem Low_agg {J : Nat → Prop} {cs : List PV} : Low J (.agg cs) = ∀ z ∈ cs, Low J z := propext ⟨fun h z hz k v hh => by obtain ⟨j, hj⟩ := List.getElem?_of_mem hz; exact h k v (.agg _ j z _ _ hj hh), fun h _ _ hh => by
  cases hh with
  | agg _ j z _ _ hz h' => exact h z (List.mem_of_getElem? hz) _ _ h'⟩
@[go_sem] theorem Low_tup {J : Nat → Prop} {cs : List PV} : Low J (.tup cs) = ∀ z ∈ cs, Low J z := propext ⟨fun h z hz k v hh => by obtain ⟨j, hj⟩ := List.getElem?_of_mem hz; exact h k v (.tup _ j z _ _ hj hh), fun h _ _ hh => by
  cases hh with
  | tup _ j z _ _ hz h' => exact h z (List.mem_of_getElem? hz) _ _ h'⟩
/-- What an object holds names no object under one of these keys. -/
def ObLow (J : Nat → Prop) : Ob → Prop
  | .box _ cs => ∀ z ∈ cs, Low J z
  | .mp (.r l) => ∀ p ∈ l, Low J p.2
  | .mp (.it km _ _ _) => ¬ J km
  | _ => True
theorem ObLow.mono {J J' : Nat → Prop} (h : ∀ k, J k → J' k) {y : Ob} (hy : ObLow J' y) : ObLow J y := by
  have hl : ∀ {z : PV}, Low J' z → Low J z := fun hz k v hh hj => hz k v hh (h k hj)
  cases y with
  | box t cs => exact fun z hz => hl (hy z hz)
  | row e xs => trivial
  | other => trivial
  | mp m =>
    cases m with
    | s l => trivial
    | i l => trivial
    | r l => exact fun p hp => hl (hy p hp)
    | it km vm n seen => exact fun hj => hy (h _ hj)
/-- At the end of a call that is shown its caller's objects. -/
def AFinO (P : Program) (rs : Array ResultVar) (J : Nat → Prop) (x : PV) (ob : Objs) (st : St) : Prop :=
  resultPV P st rs.toList = some x ∧ ∀ k, ¬ J k → st.o k = ob k
def FinO (P : Program) (rs : Array ResultVar) (J : Nat → Prop) (x : PV) (ob : Objs) : XQ
  | .normal, st => AFinO P rs J x ob st
  | .ret, st => AFinO P rs J x ob st
  | .exit _, _ => False
@[go_sem] theorem FinO_normal {rs : Array ResultVar} {J : Nat → Prop} {x : PV} {ob : Objs} {st : St} : FinO P rs J x ob .normal st = AFinO P rs J x ob st := nrfl rfl
@[go_sem] theorem FinO_ret {rs : Array ResultVar} {J : Nat → Prop} {x : PV} {ob : Objs} {st : St} : FinO P rs J x ob .ret st = AFinO P rs J x ob st := nrfl rfl
@[go_sem] theorem AFinO_eq {rs : Array ResultVar} {J : Nat → Prop} {x : PV} {ob : Objs} {st : St} : AFinO P rs J x ob st = (resultPV P st rs.toList = some x ∧ ∀ k, ¬ J k → st.o k = ob k) := nrfl rfl

theorem Sim.enter {n n' : Nat} {w0 : World} {imp : Im} {st : St} {a : Act} (h : Sim P n w0 imp st τ a w) {args : List PV} {vs : Array Value} (hn : vs.size = args.length) (hl : args.length ≤ n')
    (hv : ∀ (j : Nat) (z : PV) (u : Value), args[j]? = some z → vs[j]? = some u → Val P st.o τ w z u) :
    Sim P n' w ⟨fun b => ∃ k ver y, st.o k = (ver, some (true, y)) ∧ y ≠ .other ∧ (τ k).1 = b, fun b => ¬ ∃ k ver, 1000000000 ≤ k ∧ st.o k = (ver, some (true, .other)) ∧ (τ k).1 = b, st.o, τ⟩
      ⟨fun t => args.getD t .undef, st.o⟩ τ { tmps := vs ++ Array.replicate (n' - vs.size) undef, defers := [] } w := by
  refine ⟨rfl, by simp; omega, fun t => ?_, h.holds, ⟨rfl, rfl, rfl, Nat.le_refl _, fun b _ _ => rfl⟩, fun k ver x hk hx => .inr ⟨k, ver, x, hk, hx, rfl⟩, fun b hb => ?_, Ext.refl _ _ _⟩
  · show Val P _ _ w (args.getD t .undef) _
    by_cases h : t < args.length
    · have h1 : args[t]? = some (args.getD t .undef) := by simp [List.getD_eq_getElem?_getD, h]
      have h2 : vs[t]? = some (vs.getD t undef) := by simp [Array.getD_eq_getD_getElem?, show t < vs.size by omega]
      have h3 : (vs ++ Array.replicate (n' - vs.size) undef).getD t undef = vs.getD t undef := by
        simp only [Array.getD_eq_getD_getElem?, Array.getElem?_append_left (show t < vs.size by omega)]
      rw [h3]
      exact hv t _ _ h1 h2
    · rw [show args.getD t .undef = .undef by simp [List.getD_eq_getElem?_getD, List.getElem?_eq_none (by omega : args.length ≤ t)]]
      exact .undef _
  · by_cases hc : ∃ k ver, 1000000000 ≤ k ∧ st.o k = (ver, some (true, .other)) ∧ (τ k).1 = b
    · exact .inr (.inr hc)
    · exact .inl hc
/-- Back from the call. -/
theorem Sim.leave {n n' : Nat} {w0 : World} {imp : Im} {s : Nat → PV} {o ob : Objs} {a a' : Act} {J : Nat → Prop} {st' : St} (h : Sim P n w0 imp ⟨s, o⟩ τ a w)
    (h' : Sim P n' w ⟨fun b => ∃ k ver y, o k = (ver, some (true, y)) ∧ y ≠ .other ∧ (τ k).1 = b, fun b => ¬ ∃ k ver, 1000000000 ≤ k ∧ o k = (ver, some (true, .other)) ∧ (τ k).1 = b, o, τ⟩ st' τ' a' w')
    (hJ : ∀ k, J k → (o k).2 = none ∧ ob k = o k) (hob : ∀ k, 1000000000 ≤ k → ob k = o k) (hbox : ∀ k ver b y, ob k = (ver, some (b, y)) → ob k = o k ∨ ObLow J y)
    (hag : ∀ k, ¬ J k → st'.o k = ob k) : Sim P n w0 imp ⟨s, ob⟩ τ' a w' ∧ ∀ (x : PV) (v : Value), Low J x → Val P st'.o τ' w' x v → Val P ob τ' w' x v := by
  have hs : ∀ {k ver : Nat} {p : Bool × Ob}, ob k = (ver, some p) → ¬ J k ∧ st'.o k = (ver, some p) := by
    intro k ver p hk
    by_cases hj : J k
    · have := hJ k hj
      rw [← this.2, hk] at this
      cases this.1
    · exact ⟨hj, by rw [hag k hj]; exact hk⟩
  have hlive : ∀ k, live ob k → live st'.o k := fun k ⟨ver, x, hk⟩ => ⟨ver, x, (hs hk).2⟩
  have hB : ∀ b, Fz st'.o τ' w' b → Fz ob τ' w' b := fun b hb => ⟨hb.1, fun k hk => hb.2 k (hlive k hk)⟩
  have he : Ext o τ w ob τ' w' := by
    refine ⟨fun b hb => ⟨hB b (h'.ext.fz b hb).1, (h'.ext.fz b hb).2⟩, fun k => ?_, fun k b' x' hk => ?_⟩
    · by_cases hj : J k
      · rw [(hJ k hj).2]; exact Nat.le_refl _
      · rw [← hag k hj]; exact h'.ext.ver k
    · exact h'.ext.same k b' x' (hs hk).2
  have hforget : ∀ {z : PV} {u : Value}, Val P st'.o τ' w' z u → (∀ k v, Has z k v → J k → v ≤ (o k).1) → Val P ob τ' w' z u := fun hz hg => hz.forget hag (fun k hj => ⟨(hJ k hj).2, (hJ k hj).1⟩) hB hg
  refine ⟨Sim.step h he ⟨fun k ver b t cs hk => ?_, fun k ver b e xs hk => ?_, fun k ver b hk => h'.holds.oth k ver b (hs hk).2, fun k k2 h1 h2 e => h'.holds.inj k k2 (hlive k h1) (hlive k2 h2) e, fun k ver x hk => hB _ (h'.holds.fro k ver x (hs hk).2), fun k ver b m hk => ?_⟩
    ⟨h'.frame.os.trans h.frame.os, h'.frame.tape.trans h.frame.tape, h'.frame.output.trans h.frame.output, Nat.le_trans h.frame.size h'.frame.size, fun b hb hi => ?_⟩ (fun k ver x hk hx => ?_) (fun k ver hk ho => ?_), fun x v hl hx => hforget hx fun k v hh hj => absurd hj (hl k v hh)⟩
  · obtain ⟨vs, h1, h2, h3, h4⟩ := h'.holds.box k ver b t cs (hs hk).2
    refine ⟨vs, h1, h2, h3, fun j z u hz hu => hforget (h4 j z u hz hu) fun k2 v hh hj => ?_⟩
    rcases hbox k ver b _ hk with e | e
    · rw [e] at hk
      obtain ⟨us, g1, g2, g3, g4⟩ := h.holds.box k ver b t cs hk
      obtain ⟨u0, hu0⟩ := getElem?_of_size g2 hz
      exact (g4 j z u0 hz hu0).has hh
    · exact absurd hj (e z (List.mem_of_getElem? hz) k2 v hh)
  · obtain ⟨vs, h1, h2, h3, h4, h5, h6, h7, h8⟩ := h'.holds.row k ver b e xs (hs hk).2
    exact ⟨vs, h1, h2, h3, h4, h5, h6, h7, fun i y j z u hy hj hu => (h8 i y j z u hy hj hu).ext fun b hb => ⟨hB b hb, rfl⟩⟩
  · obtain ⟨x, h1, h2⟩ := h'.holds.mp k ver b m (hs hk).2
    refine ⟨x, h1, ?_⟩
    cases m with
    | s l => exact h2
    | i l => exact h2
    | it km vm n seen =>
      obtain ⟨g, e1, e2⟩ := h2
      refine ⟨g, e1, hforget e2 fun k2 v hh hJ2 => ?_⟩
      rcases hbox k ver b _ hk with eq | eq
      · rw [eq] at hk
        obtain ⟨x2, g1, g2, g3, g4⟩ := h.holds.mp k ver b _ hk
        exact g4.has hh
      · cases hh; exact absurd hJ2 eq
    | r l =>
      obtain ⟨es, c, rfl, e1, e2, e3⟩ := h2
      refine ⟨es, c, rfl, e1, fun j c' z e hj he' => ⟨(e2 j c' z e hj he').1, hforget (e2 j c' z e hj he').2 fun k2 v hh hJ2 => ?_⟩, e3⟩
      rcases hbox k ver b _ hk with eq | eq
      · rw [eq] at hk
        obtain ⟨x2, g1, us, c2, rfl, g2⟩ := h.holds.mp k ver b _ hk
        obtain ⟨g3, g4, _⟩ := g2
        have hlt : j < us.toList.length := by rw [g3]; exact (List.getElem?_eq_some_iff.1 hj).1
        exact (g4 j c' z _ hj (List.getElem?_eq_getElem hlt)).2.has hh
      · exact absurd hJ2 (eq (c', z) (List.mem_of_getElem? hj) k2 v hh)
  · refine (h'.frame.block b (Nat.lt_of_lt_of_le hb h.frame.size) ?_).trans (h.frame.block b hb hi)
    rintro ⟨k, ver, y, hk, hy, rfl⟩
    rcases h.mine k ver y hk hy with h1 | h1
    · omega
    · exact hi h1
  · rcases h'.mine k ver x (hs hk).2 hx with h1 | ⟨k2, ver2, y, hk2, hy, e⟩
    · exact .inl (Nat.le_trans h.frame.size h1)
    · rw [← e]; exact h.mine k2 ver2 y hk2 hy
  · have ho' : o k = (ver, some (true, .other)) := ho
    have hk' : ob k = (ver, some (true, .other)) := by rw [hob k hk]; exact ho'
    refine ⟨hk', ?_⟩
    obtain ⟨b, x, _, _, ht⟩ := h'.ext.same k true .other (by rw [(hs hk').2]; show _ = ((o k).1, _); rw [ho'])
    rw [ht]
theorem fin_soundO {n : Nat} {w0 : World} {imp : Im} {st : St} {a : Act} {fn : Func} {J : Nat → Prop} {x : PV} {ob : Objs} (h : Sim P n w0 imp st τ a w) (hf : AFinO P fn.results J x ob st) : a.defers = [] ∧ ∃ v, (results fn a.tmps).run P w = .ok v w ∧ Val P st.o τ w x v := by
  obtain ⟨v, h1, h2⟩ := result_sound h hf.1
  exact ⟨h.defers, v, h1, h2⟩
/-- A call that is shown its caller's objects, from the function's text. J: the keys of what it makes for itself. -/
theorem CallRun.of_awp {E : Env P} {M : Nat → Nat → Option Md} {f : FuncId} {fn : Func} {c : Code} {args : List PV} {o : Objs} (x : PV) (ob : Objs) (J : Nat → Prop) {kd : Option Nat} (hm : P.follows .mixedOrders = true) (hf : P.funcs[f]? = some fn) (hb : fn.body = some c) (hname : (fn.name == "runtime.NumGoroutine") = false) (hok : okCode M fn.ntmps c = true) (hE : ∀ d, d < fn.ntmps → E.key d < 1000000000) (hl : args.length ≤ fn.ntmps)
    (hJ : ∀ k, J k → (o k).2 = none ∧ ob k = o k) (hob : ∀ k, 1000000000 ≤ k → ob k = o k) (hbox : ∀ k ver b y, ob k = (ver, some (b, y)) → ob k = o k ∨ ObLow J y) (hx : Low J x)
    (h : awp P E M c (FinO P fn.results J x ob) ⟨fun t => args.getD t .undef, o⟩) : CallRun P f args kd o x ob where
  enter vs w := by
    have hb' : fn.body.isNone = false := by rw [hb]; rfl
    have hname' : ¬ fn.name = "runtime.NumGoroutine" := by simpa using hname
    simp [callFunc, hf, hname', hb]
  run n w0 imp s τ a w vs _ hs hn hv := by
    have hin := hs.enter (n' := fn.ntmps) hn hl hv
    refine calls_of_wp hf hb (wp_mono (awp_sound hm hE c _ _ _ _ w hok h hin) fun e a' w' he => ?_)
    have fin : ∀ st' τ', Sim P fn.ntmps w ⟨fun b => ∃ k ver y, o k = (ver, some (true, y)) ∧ y ≠ .other ∧ (τ k).1 = b, fun b => ¬ ∃ k ver, 1000000000 ≤ k ∧ o k = (ver, some (true, .other)) ∧ (τ k).1 = b, o, τ⟩ st' τ' a' w' → AFinO P fn.results J x ob st' →
        a'.defers = [] ∧ ∃ v, (results fn a'.tmps).run P w' = .ok v w' ∧ ∃ v' τ', (.returned v : Ending) = .returned v' ∧ Sim P n w0 imp ⟨s, ob⟩ τ' a w' ∧ Val P ob τ' w' x v' := by
      intro st' τ' h1 h2
      obtain ⟨h3, v, h4, h5⟩ := fin_soundO h1 h2
      obtain ⟨h6, h7⟩ := hs.leave h1 hJ hob hbox h2.2
      exact ⟨h3, v, h4, v, τ', rfl, h6, h7 x v hx h5⟩
    cases e with
    | normal => obtain ⟨st', τ', h1, h2⟩ := he; exact fin st' τ' h1 h2
    | ret => obtain ⟨st', τ', h1, h2⟩ := he; exact fin st' τ' h1 h2
    | exit id => obtain ⟨st', τ', h1, h2⟩ := he; exact h2
    | goto l => exact he
    | panic c => exact he.elim
    | outgrown => exact he.elim
/-- A call by a contract; what its arguments lead to is frozen. -/
theorem GCall.frz {f : FuncId} {args as : List PV} {r : PV} {d : Option Tmp} {kd : Option Nat} {K : St → Prop} {st : St} (ha : args.mapM (res st.o 4) = some as) (hF : Fn P f as r) (hK0 : K ((st.freeze (args.flatMap (keysOf st.o 4))).put d r)) : GCall P f args d kd K st := by
  generalize hk : args.flatMap (keysOf st.o 4) = ks at hK0
  have hK := hK0
  by_cases hf : r.flat = true
  · refine ⟨r, (st.freeze ks).o, ⟨hF.enter, fun n w0 imp s τ a w vs hd h hn hv => ?_⟩, ?_⟩
    · refine (Calls.of_contract (st := ⟨s, st.o⟩) (ks := ks) (dst := none) hF (fun d hd => by cases hd) h hn hv ha hk.symm (x := r) (ob := st.o) ?_).mono ?_
      · simp only [callSt, if_pos hf]
      · rintro e w' ⟨v, τ', rfl, h1, h2⟩
        exact ⟨v, τ', rfl, Sim.freeze (st := ⟨s, st.o⟩) h1 ks, flat_val' h2 hf⟩
    · rw [show (st.after (st.freeze ks).o d r) = (st.freeze ks).put d r from by unfold St.after; rfl]
      exact hK
  · exact GCall.mk ha hF (x := r) (ob := (st.freeze ks).o) (by simp only [callSt, if_neg hf, hk]) (by
      rw [show (st.after (st.freeze ks).o d r) = (st.freeze ks).put d r from by unfold St.after; rfl]
      exact hK)
/-- A call that turns objects. -/
theorem GCall.turn {f : FuncId} {args : List PV} {d : Option Tmp} {kd : Option Nat} {K : St → Prop} {st : St} {x : PV} {ob : Objs} (hC : CallRun P f args kd st.o x ob) (hK : K ((st.setO ob).put d x)) : GCall P f args d kd K st := ⟨x, ob, hC, hK⟩
theorem GCall.turnE {Φ : Objs → Prop} {f : FuncId} {args args' : List PV} {d : Option Tmp} {kd : Option Nat} {K : St → Prop} {st : St} {x : PV} (ha : args = args') (hC : ∃ ob, CallRun P f args' kd st.o x ob ∧ Φ ob) (hK : ∀ ob, Φ ob → K ((st.setO ob).put d x)) : GCall P f args d kd K st := by
  obtain ⟨ob, h1, h2⟩ := hC
  exact ⟨x, ob, ha ▸ h1, hK ob h2⟩
theorem GCall.turn' {f : FuncId} {args args' : List PV} {d : Option Tmp} {kd : Option Nat} {K : St → Prop} {st : St} {x : PV} {ob : Objs} (ha : args = args') (hC : CallRun P f args' kd st.o x ob) (hK : K ((st.setO ob).put d x)) : GCall P f args d kd K st := ⟨x, ob, ha ▸ hC, hK⟩
end
end Go.Sx
