/- How arguments read as plain data: a datum that is read at a type of the program is the picture of plain data that is no larger than the datum's bulk; no condition. -/
import Derived.Test.YtiefnninebilbaaMd
import Derived.Test.YtiefnninebilbaaRows
import Derived.ChangeArms
import Derived.DataReads
import Derived.WideShapes
import Derived.JoinedCond
import Derived.ProofKit
import Derived.WalkKit
set_option maxRecDepth 100000
set_option linter.unusedVariables false
set_option linter.unusedSimpArgs false
namespace Go.Proofs.Ytiefnninebilbaa
open Go Go.Sx

theorem bulk_pos {H : Type} (d : DataW H) : 1 ≤ Rows.uptoBulk d := by
  cases d with
  | lit l => cases l <;> simp [Rows.uptoBulk]
  | nil => simp [Rows.uptoBulk]
  | ptr d => simp [Rows.uptoBulk]
  | slice elems spare => simp [Rows.uptoBulk]
  | agg parts => simp [Rows.uptoBulk]
  | iface t d => simp [Rows.uptoBulk]
  | map entries => simp [Rows.uptoBulk]
  | held h => simp [Rows.uptoBulk]
theorem bulkAll_sum {H : Type} : ∀ l : List (DataW H), Rows.uptoBulkAll l = (l.map Rows.uptoBulk).sum
  | [] => by simp [Rows.uptoBulkAll]
  | d :: l => by simp [Rows.uptoBulkAll, bulkAll_sum l]
abbrev Bk (w : World) : Nat → Prop := fun b => b < w.heap.size
def RdL (w : World) : List PV → List Value → Prop
  | [], [] => True
  | z :: zs, u :: us => (z.one = true ∧ Rd w (Bk w) z u) ∧ RdL w zs us
  | _, _ => False
theorem RdL.len {w : World} : ∀ {zs : List PV} {us : List Value}, RdL w zs us → us.length = zs.length
  | [], [], _ => rfl
  | z :: zs, u :: us, h => by simp [RdL.len h.2]
  | [], _ :: _, h => h.elim
  | _ :: _, [], h => h.elim
theorem RdL.at {w : World} : ∀ {zs : List PV} {us : List Value}, RdL w zs us → ∀ (j : Nat) (z : PV), zs[j]? = some z → z.one = true ∧ ∃ u, us[j]? = some u ∧ Rd w (Bk w) z u
  | [], [], _, j, z, hz => by simp at hz
  | z :: zs, u :: us, h, 0, y, hz => by simp at hz; subst hz; exact ⟨h.1.1, u, rfl, h.1.2⟩
  | z :: zs, u :: us, h, j + 1, y, hz => by simpa using RdL.at h.2 j y (by simpa using hz)
  | [], _ :: _, h, _, _, _ => h.elim
  | _ :: _, [], h, _, _, _ => h.elim

section
variable {H : Type} {enc : TypeId × Value → H} {w : World}
def Reads (enc : TypeId × Value → H) (w : World) (n : Nat) (t : TypeId) {α : Type} (pic : α → PV) (sz : α → Nat) : Prop :=
  ∀ (fuel : Nat), fuel ≤ n → ∀ (cs : List Value) (x : DataW H × List MemPlace), DataW.trod enc P0 w 0 (fun _ => true) true fuel t cs = some x → ∃ a, RdL w (pic a).cells cs ∧ sz a ≤ Rows.uptoBulk x.1
theorem Reads.mono {n m : Nat} {t : TypeId} {α : Type} {pic : α → PV} {sz : α → Nat} (h : Reads enc w n t pic sz) (hm : m ≤ n) : Reads enc w m t pic sz := fun f hf => h f (Nat.le_trans hf hm)

theorem reads_int {k : IntKind} {t : TypeId} (ht : P0.underlying t = some (.int k)) (n : Nat) : Reads enc w n t (PV.int k) (fun _ => 1) := by
  intro fuel _ cs x hx
  obtain ⟨m, rfl, rfl, _⟩ := DataW.trod_int ht hx
  exact ⟨m, ⟨⟨rfl, .int k m⟩, trivial⟩, bulk_pos _⟩
theorem reads_bool {t : TypeId} (ht : P0.underlying t = some .bool) (n : Nat) : Reads enc w n t PV.bool (fun _ => 1) := by
  intro fuel _ cs x hx
  obtain ⟨m, rfl, rfl⟩ := DataW.trod_bool ht hx
  exact ⟨m, ⟨⟨rfl, .bool m⟩, trivial⟩, bulk_pos _⟩
theorem reads_str {t : TypeId} (ht : P0.underlying t = some .string) (n : Nat) : Reads enc w n t PV.str (fun s => s.size + 1) := by
  intro fuel _ cs x hx
  obtain ⟨s, rfl, rfl, _⟩ := DataW.trod_string ht hx
  exact ⟨s, ⟨⟨rfl, .str s⟩, trivial⟩, by simp [Rows.uptoBulk]⟩
theorem reads_build {α β : Type} {sz : α → Nat} {bk : β → Nat} {G : Nat → α → Prop} : ∀ (els : List β) (k : Nat), (∀ (i : Nat) (y : β), els[i]? = some y → ∃ a, G (k + i) a ∧ sz a ≤ bk y) →
    ∃ l : List α, l.length = els.length ∧ (∀ (i : Nat) (a : α), l[i]? = some a → G (k + i) a) ∧ (l.map sz).sum ≤ (els.map bk).sum
  | [], k, _ => ⟨[], rfl, fun i a h => by simp at h, by simp⟩
  | y :: els, k, h => by
    obtain ⟨a, ha, hs⟩ := h 0 y rfl
    obtain ⟨l, hl, hg, hsum⟩ := reads_build (sz := sz) (bk := bk) (G := G) els (k + 1) (fun i z hz => by have := h (i + 1) z (by simpa using hz); rwa [show k + 1 + i = k + (i + 1) by omega])
    refine ⟨a :: l, by simp [hl], fun i b hb => ?_, by simp; omega⟩
    cases i with
    | zero => simp at hb; subst hb; exact ha
    | succ i => have := hg i b (by simpa using hb); rwa [show k + 1 + i = k + (i + 1) by omega] at this
theorem cell_lt {w : World} {a : Addr} {v : Value} (h : w.cell? a = some v) : a.block < w.heap.size := by
  rcases Nat.lt_or_ge a.block w.heap.size with h' | h'
  · exact h'
  · have : w.heap[a.block]? = none := by simp [h']
    simp [World.cell?, this] at h
theorem reads_slice {t e : TypeId} {n : Nat} {α : Type} {pic : α → PV} {sz : α → Nat} (ht : P0.underlying t = some (.slice e)) (hc : ∀ a, (pic a).cells.length = P0.cellsOf e) (hp : 0 < P0.cellsOf e) (h : Reads enc w n e pic sz) :
    Reads enc w (n + 1) t (fun l : List α => PV.sl (l.map pic)) (fun l => 1 + (l.map sz).sum) := by
  intro fuel hf cs x hx
  rcases DataW.trod_slice ht hx with ⟨rfl, rfl⟩ | ⟨a, len, cap, elems, rest, m, rfl, rfl, rfl, hb, hl, hm, hlen, hel, hsp, hns⟩
  · exact ⟨[], ⟨⟨rfl, .sl0 none 0⟩, trivial⟩, by simp [Rows.uptoBulk]⟩
  · obtain ⟨l, hll, hg, hsum⟩ := reads_build (α := α) (sz := sz) (bk := fun y : DataW H × List MemPlace => Rows.uptoBulk y.1) (G := fun i a' => ∃ cs', w.cells? 0 (a.add (i * P0.cellsOf e)) (P0.cellsOf e) = some cs' ∧ RdL w (pic a').cells cs') elems 0 (fun i y hy => by
      have hi : i < len := by rw [← hlen]; exact (List.getElem?_eq_some_iff.1 hy).1
      have := hel i hi
      rw [hy] at this
      obtain ⟨cs', h1, h2⟩ := Option.bind_eq_some_iff.1 this
      obtain ⟨a', ha, hs⟩ := h m (by omega) cs' y h2
      exact ⟨a', ⟨cs', by rw [Nat.zero_add]; exact h1, ha⟩, hs⟩)
    refine ⟨l, ⟨⟨rfl, ?_⟩, trivial⟩, ?_⟩
    · by_cases h0 : 0 < len
      · have cell : ∀ (i : Nat) (y : PV) (j : Nat) (z : PV), (l.map pic)[i]? = some y → y.cells[j]? = some z → z.one = true ∧ ∃ u, w.cell? (a.add (i * P0.cellsOf e + j)) = some u ∧ Rd w (Bk w) z u := by
          intro i y j z hy hz
          rw [List.getElem?_map] at hy
          obtain ⟨a', ha', rfl⟩ := Option.map_eq_some_iff.1 hy
          obtain ⟨cs', h1, h2⟩ := hg i a' ha'
          rw [Nat.zero_add] at h1
          obtain ⟨_, hl', hcell⟩ := World.cells?_some h1
          obtain ⟨ho, u, hu, hr⟩ := h2.at j z hz
          have hj : j < P0.cellsOf e := by rw [← hl']; exact (List.getElem?_eq_some_iff.1 hu).1
          refine ⟨ho, u, ?_, hr⟩
          rw [← Sx.add_add, hcell j hj, hu]
        refine .sl _ a len cap (P0.cellsOf e) (fun i j => (w.cell? (a.add (i * P0.cellsOf e + j))).getD default) (by simp [hll, hlen]) h0 hl ?_ ?_ ?_ ?_
        · cases l with
          | nil => simp at hll; omega
          | cons b l =>
            have hcb := hc b
            obtain ⟨z, hz⟩ : ∃ z, (pic b).cells[0]? = some z := ⟨(pic b).cells[0], List.getElem?_eq_getElem (by omega)⟩
            obtain ⟨_, u, hu, _⟩ := cell 0 (pic b) 0 z rfl hz
            have := cell_lt hu
            rwa [add_block] at this
        · intro i y hy
          rw [List.getElem?_map] at hy
          obtain ⟨a', _, rfl⟩ := Option.map_eq_some_iff.1 hy
          exact hc a'
        · intro i y j z hy hz
          obtain ⟨ho, u, hu, _⟩ := cell i y j z hy hz
          exact ⟨ho, by simp [hu]⟩
        · intro i y j z hy hz
          obtain ⟨_, u, hu, hr⟩ := cell i y j z hy hz
          simpa [hu] using hr
      · have h1 : len = 0 := by omega
        have h2 : l = [] := by
          apply List.eq_nil_of_length_eq_zero
          omega
        subst h1 h2
        exact .sl0 _ _
    · simp only [Rows.uptoBulk, bulkAll_sum, List.map_map]
      have e1 : (elems.map fun y => Rows.uptoBulk y.1).sum = (elems.map (Rows.uptoBulk ∘ fun x => x.1)).sum := rfl
      omega

def Vl.bulk (v : Vl) : Nat := 4 + v.text.size
theorem fields3 {α : Type} {l : List α} (h : l.length = 3) : ∃ a b c, l = [a, b, c] := by
  match l, h with
  | [a, b, c], _ => exact ⟨a, b, c, rfl⟩
theorem fields5 {α : Type} {l : List α} (h : l.length = 5) : ∃ a b c d e, l = [a, b, c, d, e] := by
  match l, h with
  | [a, b, c, d, e], _ => exact ⟨a, b, c, d, e, rfl⟩
theorem fields7 {α : Type} {l : List α} (h : l.length = 7) : ∃ a b c d e f g, l = [a, b, c, d, e, f, g] := by
  match l, h with
  | [a, b, c, d, e, f, g], _ => exact ⟨a, b, c, d, e, f, g, rfl⟩
theorem cells3 : P0.cellsOf 3 = 1 := by kernel_rfl
theorem cells4 : P0.cellsOf 4 = 1 := by kernel_rfl
theorem cells9 : P0.cellsOf 9 = 1 := by kernel_rfl
theorem cells23 : P0.cellsOf 23 = 1 := by kernel_rfl
theorem cells25 : P0.cellsOf 25 = 1 := by kernel_rfl
theorem cells33 : P0.cellsOf 33 = 1 := by kernel_rfl
theorem cells42 : P0.cellsOf 42 = 3 := by kernel_rfl
theorem cells49 : P0.cellsOf 49 = 7 := by kernel_rfl
theorem reads_vl (n : Nat) : Reads enc w n 42 Vl.enc Vl.bulk := by
  intro fuel _ cs x hx
  obtain ⟨xs, m, rfl, rfl, hcl, hxl, hf⟩ := DataW.trod_struct (fs := _) Try.underlying42 hx
  obtain ⟨c0, c1, c2, rfl⟩ := fields3 (hcl.trans cells42)
  obtain ⟨y0, y1, y2, rfl⟩ := fields3 hxl
  have h0 : DataW.trod enc P0 w 0 (fun _ => true) true m 3 (List.take (P0.cellsOf 3) (List.drop 0 [c0, c1, c2])) = some y0 := hf 0 _ rfl
  have h1 : DataW.trod enc P0 w 0 (fun _ => true) true m 3 (List.take (P0.cellsOf 3) (List.drop 1 [c0, c1, c2])) = some y1 := hf 1 _ rfl
  have h2 : DataW.trod enc P0 w 0 (fun _ => true) true m 9 (List.take (P0.cellsOf 9) (List.drop 2 [c0, c1, c2])) = some y2 := hf 2 _ rfl
  rw [cells3] at h0 h1
  rw [cells9] at h2
  obtain ⟨k, hk, bk⟩ := reads_int (enc := enc) (w := w) (k := .i64) Try.underlying3 m m (Nat.le_refl _) [c0] y0 h0
  obtain ⟨i, hi, bi⟩ := reads_int (enc := enc) (w := w) (k := .i64) Try.underlying3 m m (Nat.le_refl _) [c1] y1 h1
  obtain ⟨t, ht, bt⟩ := reads_str (enc := enc) (w := w) Try.underlying9 m m (Nat.le_refl _) [c2] y2 h2
  refine ⟨⟨k, i, t⟩, ⟨hk.1, hi.1, ht.1, trivial⟩, ?_⟩
  have b0 : 1 ≤ Rows.uptoBulk y0.1 := bk
  have b1 : 1 ≤ Rows.uptoBulk y1.1 := bi
  have b2 : t.size + 1 ≤ Rows.uptoBulk y2.1 := bt
  simp only [Rows.uptoBulk, Rows.uptoBulkAll, List.map, Vl.bulk]
  omega
mutual
def Ex.bulk : Ex → Nat
  | .mk op int v name args => 9 + v.text.size + name.size + Ex.bulks args
def Ex.bulks : List Ex → Nat
  | [] => 0
  | e :: l => e.bulk + Ex.bulks l
end
theorem Ex.bulks_sum : ∀ l, Ex.bulks l = (l.map Ex.bulk).sum
  | [] => rfl
  | e :: l => by rw [Ex.bulks, Ex.bulks_sum l]; simp
theorem reads_ex : ∀ (n : Nat), Reads enc w n 49 Ex.enc Ex.bulk
  | 0 => fun fuel hfu cs x hx => by
    obtain rfl : fuel = 0 := by omega
    simp [DataW.trod] at hx
  | n + 1 => by
    intro fuel hfu cs x hx
    obtain ⟨xs, m, rfl, rfl, hcl, hxl, hf⟩ := DataW.trod_struct (fs := _) Try.underlying49 hx
    obtain ⟨c0, c1, c2, c3, c4, c5, c6, rfl⟩ := fields7 (hcl.trans cells49)
    obtain ⟨y0, y1, y2, y3, y4, rfl⟩ := fields5 hxl
    have h0 : DataW.trod enc P0 w 0 (fun _ => true) true m 3 (List.take (P0.cellsOf 3) (List.drop 0 [c0, c1, c2, c3, c4, c5, c6])) = some y0 := hf 0 _ rfl
    have h1 : DataW.trod enc P0 w 0 (fun _ => true) true m 3 (List.take (P0.cellsOf 3) (List.drop 1 [c0, c1, c2, c3, c4, c5, c6])) = some y1 := hf 1 _ rfl
    have h2 : DataW.trod enc P0 w 0 (fun _ => true) true m 42 (List.take (P0.cellsOf 42) (List.drop 2 [c0, c1, c2, c3, c4, c5, c6])) = some y2 := hf 2 _ rfl
    have h3 : DataW.trod enc P0 w 0 (fun _ => true) true m 9 (List.take (P0.cellsOf 9) (List.drop 5 [c0, c1, c2, c3, c4, c5, c6])) = some y3 := hf 3 _ rfl
    have h4 : DataW.trod enc P0 w 0 (fun _ => true) true m 25 (List.take (P0.cellsOf 25) (List.drop 6 [c0, c1, c2, c3, c4, c5, c6])) = some y4 := hf 4 _ rfl
    rw [cells3] at h0 h1
    rw [cells42] at h2
    rw [cells9] at h3
    rw [cells25] at h4
    obtain ⟨k, hk, bk⟩ := reads_int (enc := enc) (w := w) (k := .i64) Try.underlying3 m m (Nat.le_refl _) [c0] y0 h0
    obtain ⟨i, hi, bi⟩ := reads_int (enc := enc) (w := w) (k := .i64) Try.underlying3 m m (Nat.le_refl _) [c1] y1 h1
    obtain ⟨v, hv, bv⟩ := reads_vl m m (Nat.le_refl _) [c2, c3, c4] y2 h2
    obtain ⟨t, ht, bt⟩ := reads_str (enc := enc) (w := w) Try.underlying9 m m (Nat.le_refl _) [c5] y3 h3
    obtain ⟨l, hl, bl⟩ := (reads_slice Try.underlying25 (fun a => by rw [Ex.enc_cells, cells49]; rfl) (by rw [cells49]; decide) ((reads_ex n).mono (by omega : m ≤ n))) m (by omega) [c6] y4 h4
    refine ⟨.mk k i v t l, ?_, ?_⟩
    · rw [Ex.enc_cells]
      exact ⟨hk.1, hi.1, hv.1, hv.2.1, hv.2.2.1, ht.1, hl.1, trivial⟩
    · have b0 : 1 ≤ Rows.uptoBulk y0.1 := bk
      have b1 : 1 ≤ Rows.uptoBulk y1.1 := bi
      have b2 : 4 + v.text.size ≤ Rows.uptoBulk y2.1 := bv
      have b3 : t.size + 1 ≤ Rows.uptoBulk y3.1 := bt
      have b4 : 1 + (l.map Ex.bulk).sum ≤ Rows.uptoBulk y4.1 := bl
      simp only [Rows.uptoBulk, Rows.uptoBulkAll, List.map, Ex.bulk, Ex.bulks_sum]
      omega
mutual
theorem Ex.size_bulk : ∀ e : Ex, e.size ≤ e.bulk
  | .mk _ _ _ _ args => by have := Ex.sizes_bulks args; simp [Ex.size, Ex.bulk]; omega
theorem Ex.sizes_bulks : ∀ l, Ex.sizes l ≤ Ex.bulks l
  | [] => by simp [Ex.sizes, Ex.bulks]
  | e :: l => by have := Ex.size_bulk e; have := Ex.sizes_bulks l; simp [Ex.sizes, Ex.bulks]; omega
end
open Go.WideShapes
theorem arg_one {t : TypeId} {α : Type} {pic : α → PV} {sz : α → Nat} {v : Value} {d : DataW H} {ps : List MemPlace} (hr : ∀ n, Reads enc w n t pic sz) (hv : v.cells = #[v]) (hp : ∀ a, (pic a).cells = [pic a]) (h : DataW.Trod enc P0 w 0 (fun _ => true) true t v d ps) :
    ∃ a, Rd w (Bk w) (pic a) v ∧ sz a ≤ Rows.uptoBulk d := by
  obtain ⟨m, hm⟩ := h
  obtain ⟨a, ha, hb⟩ := hr m m (Nat.le_refl _) _ _ hm
  rw [hv, hp] at ha
  exact ⟨a, ha.1.2, hb⟩
theorem arg_agg {t : TypeId} {α : Type} {pic : α → PV} {sz : α → Nat} {us : Array Value} {d : DataW H} {ps : List MemPlace} (hr : ∀ n, Reads enc w n t pic sz) (hp : ∀ a, pic a = .agg (pic a).cells) (h : DataW.Trod enc P0 w 0 (fun _ => true) true t (.agg us) d ps) :
    ∃ a, Rd w (Bk w) (pic a) (.agg us) ∧ sz a ≤ Rows.uptoBulk d := by
  obtain ⟨m, hm⟩ := h
  obtain ⟨a, ha, hb⟩ := hr m m (Nat.le_refl _) _ _ hm
  refine ⟨a, ?_, hb⟩
  have hcs : (Value.agg us).cells.toList = us.toList := rfl
  rw [hcs] at ha
  rw [hp a]
  refine .agg _ _ (by have := ha.len; simpa using this) (fun j z hz => (ha.at j z hz).1) fun j z u hz hu => ?_
  obtain ⟨_, u', hu', hr'⟩ := ha.at j z hz
  have : us.toList[j]? = some u := by simpa using hu
  rw [this] at hu'
  cases hu'
  exact hr'
variable {W : World} {base : Nat}
theorem arg_int {v : Value} {d : DataW H} {ps : List MemPlace} (hv : Value.okWide P0 W .any base 3 v) (h : DataW.Trod enc P0 w 0 (fun _ => true) true 3 v d ps) : ∃ a : Int, Rd w (Bk w) (.int .i64 a) v ∧ 1 ≤ Rows.uptoBulk d := by
  obtain ⟨n, rfl⟩ := okWide_int Try.underlying3 hv
  exact arg_one (fun n => reads_int Try.underlying3 n) rfl (fun _ => rfl) h
theorem arg_str {v : Value} {d : DataW H} {ps : List MemPlace} (hv : Value.okWide P0 W .any base 9 v) (h : DataW.Trod enc P0 w 0 (fun _ => true) true 9 v d ps) : ∃ a : ByteArray, Rd w (Bk w) (.str a) v ∧ a.size + 1 ≤ Rows.uptoBulk d := by
  obtain ⟨n, rfl⟩ := okWide_string Try.underlying9 hv
  exact arg_one (fun n => reads_str Try.underlying9 n) rfl (fun _ => rfl) h
theorem reads_ints (n : Nat) : Reads enc w n 23 (fun l : List Int => PV.sl (l.map (PV.int .i64))) (fun l => 1 + (l.map fun _ => 1).sum) := (reads_slice Try.underlying23 (fun a => by rw [cells3]; rfl) (by rw [cells3]; decide) (reads_int Try.underlying3 n)).mono (Nat.le_succ n)
theorem reads_vals (n : Nat) : Reads enc w n 33 (fun l : List Vl => PV.sl (l.map Vl.enc)) (fun l => 1 + (l.map Vl.bulk).sum) := (reads_slice Try.underlying33 (fun a => by rw [cells42]; rfl) (by rw [cells42]; decide) (reads_vl n)).mono (Nat.le_succ n)
theorem reads_exs (n : Nat) : Reads enc w n 25 (fun l : List Ex => PV.sl (l.map Ex.enc)) (fun l => 1 + (l.map Ex.bulk).sum) := (reads_slice Try.underlying25 (fun a => by rw [Ex.enc_cells, cells49]; rfl) (by rw [cells49]; decide) (reads_ex n)).mono (Nat.le_succ n)
theorem sum_ones {α : Type} : ∀ l : List α, (l.map fun _ => 1).sum = l.length
  | [] => rfl
  | a :: l => by simp [sum_ones l]; omega
theorem arg_ints {v : Value} {d : DataW H} {ps : List MemPlace} (hv : Value.okWide P0 W .any base 23 v) (h : DataW.Trod enc P0 w 0 (fun _ => true) true 23 v d ps) : ∃ a : List Int, Rd w (Bk w) (.sl (a.map (PV.int .i64))) v ∧ 1 + a.length ≤ Rows.uptoBulk d := by
  obtain ⟨a, len, cap, rfl⟩ := okWide_slice Try.underlying23 hv
  obtain ⟨l, hl, hb⟩ := arg_one (fun n => reads_ints n) rfl (fun _ => rfl) h
  exact ⟨l, hl, by simpa only [sum_ones] using hb⟩
theorem arg_vals {v : Value} {d : DataW H} {ps : List MemPlace} (hv : Value.okWide P0 W .any base 33 v) (h : DataW.Trod enc P0 w 0 (fun _ => true) true 33 v d ps) : ∃ a : List Vl, Rd w (Bk w) (.sl (a.map Vl.enc)) v ∧ 1 + (a.map Vl.bulk).sum ≤ Rows.uptoBulk d := by
  obtain ⟨a, len, cap, rfl⟩ := okWide_slice Try.underlying33 hv
  exact arg_one (fun n => reads_vals n) rfl (fun _ => rfl) h
theorem arg_exs {v : Value} {d : DataW H} {ps : List MemPlace} (hv : Value.okWide P0 W .any base 25 v) (h : DataW.Trod enc P0 w 0 (fun _ => true) true 25 v d ps) : ∃ a : List Ex, Rd w (Bk w) (.sl (a.map Ex.enc)) v ∧ 1 + (a.map Ex.bulk).sum ≤ Rows.uptoBulk d := by
  obtain ⟨a, len, cap, rfl⟩ := okWide_slice Try.underlying25 hv
  exact arg_one (fun n => reads_exs n) rfl (fun _ => rfl) h
theorem arg_ex {v : Value} {d : DataW H} {ps : List MemPlace} (hv : Value.okWide P0 W .any base 49 v) (h : DataW.Trod enc P0 w 0 (fun _ => true) true 49 v d ps) : ∃ a : Ex, Rd w (Bk w) a.enc v ∧ a.bulk ≤ Rows.uptoBulk d := by
  obtain ⟨us, rfl, _⟩ := okWide_struct Try.underlying49 hv
  exact arg_agg (fun n => reads_ex n) (fun a => by rw [Ex.enc_cells, Ex.enc_eq]) h
end
end Go.Proofs.Ytiefnninebilbaa
/- Closed facts about the translated program that every row asks; no condition. -/
set_option linter.unusedVariables false
set_option maxRecDepth 100000
namespace Go.Proofs.Ytiefnninebilbaa.facts
theorem andI {a b : Bool} (h : a = true) (k : b = true) : (a && b) = true := by rw [h, k]; rfl
theorem k1 : (laidOutB Try.pinned.checked.prog) = true := by kernel_rfl
theorem k2 : (mapsRowed Try.pinned.checked.prog) = true := by kernel_rfl
theorem k6 : ((Try.pinned.checked.prog.stops == [])) = true := by kernel_rfl
theorem k8 : ((Try.pinned.checked.prog.stopKnobs == [])) = true := by kernel_rfl
theorem k22 : ((Rows.exprChecksUptoRow.plainKeys == Try.pinned.checked.prog.plainKeys)) = true := by kernel_rfl
theorem k24 : (Try.pinned.checked.prog.stopsHeard) = true := by kernel_rfl
theorem k25 : (Try.pinned.checked.prog.mayEnter) = true := by kernel_rfl
theorem k26 : ((Rows.exprChecksUptoRow.lifted == Try.pinned.checked.prog.liftsFinal)) = true := by kernel_rfl
theorem k27 : ((Try.pinned.checked.prog.make == some Rows.exprChecksUptoRow.make)) = true := by kernel_rfl
end Go.Proofs.Ytiefnninebilbaa.facts
