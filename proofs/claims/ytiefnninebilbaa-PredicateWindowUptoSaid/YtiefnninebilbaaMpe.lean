/- The program's types, as the abstract machine wants them; no condition. -/
import Derived.Test.YtiefnninebilbaaProg
import Derived.Test.YtiefnninebilbaaMpd
set_option maxRecDepth 100000
set_option linter.unusedVariables false
namespace Go.Proofs.Ytiefnninebilbaa
open Go Go.Sx
noncomputable abbrev P0 : Program := Try.prog
theorem tinf_3 : tinf P0 3 = some (false, 1) := by kernel_rfl
theorem kd_3 : kd P0 3 = .other := by kernel_rfl
theorem zpv_3 : zpv P0 3 = some (.int .i64 0) := by kernel_rfl
theorem tinf_4 : tinf P0 4 = some (false, 1) := by kernel_rfl
theorem kd_4 : kd P0 4 = .bool := by kernel_rfl
theorem zpv_4 : zpv P0 4 = some (.bool false) := by kernel_rfl
theorem tinf_5 : tinf P0 5 = some (false, 1) := by kernel_rfl
theorem kd_5 : kd P0 5 = .other := by kernel_rfl
theorem zpv_5 : zpv P0 5 = some (.int .u8 0) := by kernel_rfl
theorem tinf_9 : tinf P0 9 = some (false, 1) := by kernel_rfl
theorem kd_9 : kd P0 9 = .string := by kernel_rfl
theorem zpv_9 : zpv P0 9 = some (.str ⟨#[]⟩) := by kernel_rfl
theorem tinf_21 : tinf P0 21 = some (false, 1) := by kernel_rfl
theorem kd_21 : kd P0 21 = .other := by kernel_rfl
theorem zpv_21 : zpv P0 21 = some (.int .i32 0) := by kernel_rfl
theorem tinf_22 : tinf P0 22 = some (false, 1) := by kernel_rfl
theorem kd_22 : kd P0 22 = .slice := by kernel_rfl
theorem selem_22 : selem P0 22 = some (38, 3) := by kernel_rfl
theorem einf_22 : einf P0 22 = some (38, 3, 32, [.str ⟨#[]⟩, .int .i64 0, .bool false]) := by kernel_rfl
theorem zpv_22 : zpv P0 22 = some (.nil) := by kernel_rfl
theorem tinf_23 : tinf P0 23 = some (false, 1) := by kernel_rfl
theorem kd_23 : kd P0 23 = .slice := by kernel_rfl
theorem selem_23 : selem P0 23 = some (3, 1) := by kernel_rfl
theorem einf_23 : einf P0 23 = some (3, 1, 8, [.int .i64 0]) := by kernel_rfl
theorem zpv_23 : zpv P0 23 = some (.nil) := by kernel_rfl
theorem tinf_24 : tinf P0 24 = some (false, 1) := by kernel_rfl
theorem kd_24 : kd P0 24 = .slice := by kernel_rfl
theorem selem_24 : selem P0 24 = some (137, 2) := by kernel_rfl
theorem einf_24 : einf P0 24 = some (137, 2, 40, [.nil, .str ⟨#[]⟩]) := by kernel_rfl
theorem zpv_24 : zpv P0 24 = some (.nil) := by kernel_rfl
theorem tinf_25 : tinf P0 25 = some (false, 1) := by kernel_rfl
theorem kd_25 : kd P0 25 = .slice := by kernel_rfl
theorem selem_25 : selem P0 25 = some (49, 7) := by kernel_rfl
theorem einf_25 : einf P0 25 = some (49, 7, 88, [.int .i64 0, .int .i64 0, .int .i64 0, .int .i64 0, .str ⟨#[]⟩, .str ⟨#[]⟩, .nil]) := by kernel_rfl
theorem zpv_25 : zpv P0 25 = some (.nil) := by kernel_rfl
theorem tinf_27 : tinf P0 27 = some (true, 5) := by kernel_rfl
theorem kd_27 : kd P0 27 = .other := by kernel_rfl
theorem fld_27_0 : fld P0 27 0 = some (0, 1, 9) := by kernel_rfl
theorem fld_27_1 : fld P0 27 1 = some (1, 1, 22) := by kernel_rfl
theorem fld_27_2 : fld P0 27 2 = some (2, 1, 23) := by kernel_rfl
theorem fld_27_3 : fld P0 27 3 = some (3, 1, 24) := by kernel_rfl
theorem fld_27_4 : fld P0 27 4 = some (4, 1, 25) := by kernel_rfl
theorem zpv_27 : zpv P0 27 = some (.agg [.str ⟨#[]⟩, .nil, .nil, .nil, .nil]) := by kernel_rfl
theorem bld_27 : bld P0 27 = some ([.str ⟨#[]⟩, .nil, .nil, .nil, .nil], [(0, 1), (1, 1), (2, 1), (3, 1), (4, 1)]) := by kernel_rfl
theorem tinf_29 : tinf P0 29 = some (false, 1) := by kernel_rfl
theorem kd_29 : kd P0 29 = .other := by kernel_rfl
theorem zpv_29 : zpv P0 29 = some (.int .i64 0) := by kernel_rfl
theorem tinf_33 : tinf P0 33 = some (false, 1) := by kernel_rfl
theorem kd_33 : kd P0 33 = .slice := by kernel_rfl
theorem selem_33 : selem P0 33 = some (42, 3) := by kernel_rfl
theorem einf_33 : einf P0 33 = some (42, 3, 32, [.int .i64 0, .int .i64 0, .str ⟨#[]⟩]) := by kernel_rfl
theorem zpv_33 : zpv P0 33 = some (.nil) := by kernel_rfl
theorem tinf_38 : tinf P0 38 = some (true, 3) := by kernel_rfl
theorem kd_38 : kd P0 38 = .other := by kernel_rfl
theorem fld_38_0 : fld P0 38 0 = some (0, 1, 9) := by kernel_rfl
theorem fld_38_1 : fld P0 38 1 = some (1, 1, 3) := by kernel_rfl
theorem fld_38_2 : fld P0 38 2 = some (2, 1, 4) := by kernel_rfl
theorem zpv_38 : zpv P0 38 = some (.agg [.str ⟨#[]⟩, .int .i64 0, .bool false]) := by kernel_rfl
theorem bld_38 : bld P0 38 = some ([.str ⟨#[]⟩, .int .i64 0, .bool false], [(0, 1), (1, 1), (2, 1)]) := by kernel_rfl
theorem tinf_42 : tinf P0 42 = some (true, 3) := by kernel_rfl
theorem kd_42 : kd P0 42 = .other := by kernel_rfl
theorem fld_42_0 : fld P0 42 0 = some (0, 1, 3) := by kernel_rfl
theorem fld_42_1 : fld P0 42 1 = some (1, 1, 3) := by kernel_rfl
theorem fld_42_2 : fld P0 42 2 = some (2, 1, 9) := by kernel_rfl
theorem zpv_42 : zpv P0 42 = some (.agg [.int .i64 0, .int .i64 0, .str ⟨#[]⟩]) := by kernel_rfl
theorem bld_42 : bld P0 42 = some ([.int .i64 0, .int .i64 0, .str ⟨#[]⟩], [(0, 1), (1, 1), (2, 1)]) := by kernel_rfl
theorem tinf_49 : tinf P0 49 = some (true, 7) := by kernel_rfl
theorem kd_49 : kd P0 49 = .other := by kernel_rfl
theorem fld_49_0 : fld P0 49 0 = some (0, 1, 3) := by kernel_rfl
theorem fld_49_1 : fld P0 49 1 = some (1, 1, 3) := by kernel_rfl
theorem fld_49_2 : fld P0 49 2 = some (2, 3, 42) := by kernel_rfl
theorem fld_49_3 : fld P0 49 3 = some (5, 1, 9) := by kernel_rfl
theorem fld_49_4 : fld P0 49 4 = some (6, 1, 25) := by kernel_rfl
theorem zpv_49 : zpv P0 49 = some (.agg [.int .i64 0, .int .i64 0, .int .i64 0, .int .i64 0, .str ⟨#[]⟩, .str ⟨#[]⟩, .nil]) := by kernel_rfl
theorem bld_49 : bld P0 49 = some ([.int .i64 0, .int .i64 0, .int .i64 0, .int .i64 0, .str ⟨#[]⟩, .str ⟨#[]⟩, .nil], [(0, 1), (1, 1), (2, 3), (5, 1), (6, 1)]) := by kernel_rfl
theorem tinf_61 : tinf P0 61 = some (true, 2) := by kernel_rfl
theorem kd_61 : kd P0 61 = .other := by kernel_rfl
theorem fld_61_0 : fld P0 61 0 = some (0, 1, 3) := by kernel_rfl
theorem fld_61_1 : fld P0 61 1 = some (1, 1, 3) := by kernel_rfl
theorem zpv_61 : zpv P0 61 = some (.agg [.int .i64 0, .int .i64 0]) := by kernel_rfl
theorem bld_61 : bld P0 61 = some ([.int .i64 0, .int .i64 0], [(0, 1), (1, 1)]) := by kernel_rfl
theorem tinf_69 : tinf P0 69 = some (false, 1) := by kernel_rfl
theorem kd_69 : kd P0 69 = .slice := by kernel_rfl
theorem selem_69 : selem P0 69 = some (72, 5) := by kernel_rfl
theorem einf_69 : einf P0 69 = some (72, 5, 48, [.int .i64 0, .int .i64 0, .int .i64 0, .int .i64 0, .str ⟨#[]⟩]) := by kernel_rfl
theorem zpv_69 : zpv P0 69 = some (.nil) := by kernel_rfl
theorem tinf_72 : tinf P0 72 = some (true, 5) := by kernel_rfl
theorem kd_72 : kd P0 72 = .other := by kernel_rfl
theorem fld_72_0 : fld P0 72 0 = some (0, 1, 3) := by kernel_rfl
theorem fld_72_1 : fld P0 72 1 = some (1, 1, 3) := by kernel_rfl
theorem fld_72_2 : fld P0 72 2 = some (2, 3, 42) := by kernel_rfl
theorem zpv_72 : zpv P0 72 = some (.agg [.int .i64 0, .int .i64 0, .int .i64 0, .int .i64 0, .str ⟨#[]⟩]) := by kernel_rfl
theorem bld_72 : bld P0 72 = some ([.int .i64 0, .int .i64 0, .int .i64 0, .int .i64 0, .str ⟨#[]⟩], [(0, 1), (1, 1), (2, 3)]) := by kernel_rfl
theorem tinf_73 : tinf P0 73 = some (false, 1) := by kernel_rfl
theorem kd_73 : kd P0 73 = .slice := by kernel_rfl
theorem selem_73 : selem P0 73 = some (76, 2) := by kernel_rfl
theorem einf_73 : einf P0 73 = some (76, 2, 16, [.int .i64 0, .int .i64 0]) := by kernel_rfl
theorem zpv_73 : zpv P0 73 = some (.nil) := by kernel_rfl
theorem tinf_76 : tinf P0 76 = some (true, 2) := by kernel_rfl
theorem kd_76 : kd P0 76 = .other := by kernel_rfl
theorem fld_76_0 : fld P0 76 0 = some (0, 1, 3) := by kernel_rfl
theorem fld_76_1 : fld P0 76 1 = some (1, 1, 3) := by kernel_rfl
theorem zpv_76 : zpv P0 76 = some (.agg [.int .i64 0, .int .i64 0]) := by kernel_rfl
theorem bld_76 : bld P0 76 = some ([.int .i64 0, .int .i64 0], [(0, 1), (1, 1)]) := by kernel_rfl
theorem tinf_92 : tinf P0 92 = some (false, 1) := by kernel_rfl
theorem kd_92 : kd P0 92 = .slice := by kernel_rfl
theorem selem_92 : selem P0 92 = some (9, 1) := by kernel_rfl
theorem einf_92 : einf P0 92 = some (9, 1, 16, [.str ⟨#[]⟩]) := by kernel_rfl
theorem zpv_92 : zpv P0 92 = some (.nil) := by kernel_rfl
theorem tinf_94 : tinf P0 94 = some (false, 1) := by kernel_rfl
theorem kd_94 : kd P0 94 = .slice := by kernel_rfl
theorem selem_94 : selem P0 94 = some (30, 1) := by kernel_rfl
theorem zpv_94 : zpv P0 94 = some (.nil) := by kernel_rfl
theorem tinf_115 : tinf P0 115 = some (true, 2) := by kernel_rfl
theorem kd_115 : kd P0 115 = .other := by kernel_rfl
theorem fld_115_0 : fld P0 115 0 = some (0, 1, 3) := by kernel_rfl
theorem fld_115_1 : fld P0 115 1 = some (1, 1, 3) := by kernel_rfl
theorem zpv_115 : zpv P0 115 = some (.agg [.int .i64 0, .int .i64 0]) := by kernel_rfl
theorem bld_115 : bld P0 115 = some ([.int .i64 0, .int .i64 0], [(0, 1), (1, 1)]) := by kernel_rfl
theorem tinf_118 : tinf P0 118 = some (true, 2) := by kernel_rfl
theorem kd_118 : kd P0 118 = .other := by kernel_rfl
theorem fld_118_0 : fld P0 118 0 = some (0, 1, 3) := by kernel_rfl
theorem fld_118_1 : fld P0 118 1 = some (1, 1, 3) := by kernel_rfl
theorem zpv_118 : zpv P0 118 = some (.agg [.int .i64 0, .int .i64 0]) := by kernel_rfl
theorem bld_118 : bld P0 118 = some ([.int .i64 0, .int .i64 0], [(0, 1), (1, 1)]) := by kernel_rfl
theorem tinf_137 : tinf P0 137 = some (true, 2) := by kernel_rfl
theorem kd_137 : kd P0 137 = .other := by kernel_rfl
theorem fld_137_0 : fld P0 137 0 = some (0, 1, 23) := by kernel_rfl
theorem fld_137_1 : fld P0 137 1 = some (1, 1, 9) := by kernel_rfl
theorem zpv_137 : zpv P0 137 = some (.agg [.nil, .str ⟨#[]⟩]) := by kernel_rfl
theorem bld_137 : bld P0 137 = some ([.nil, .str ⟨#[]⟩], [(0, 1), (1, 1)]) := by kernel_rfl
theorem tinf_160 : tinf P0 160 = some (false, 1) := by kernel_rfl
theorem kd_160 : kd P0 160 = .other := by kernel_rfl
theorem zpv_160 : zpv P0 160 = some (.int .u64 0) := by kernel_rfl
theorem tinf_182 : tinf P0 182 = some (true, 3) := by kernel_rfl
theorem kd_182 : kd P0 182 = .other := by kernel_rfl
theorem fld_182_0 : fld P0 182 0 = some (0, 1, 9) := by kernel_rfl
theorem fld_182_1 : fld P0 182 1 = some (1, 1, 4) := by kernel_rfl
theorem fld_182_2 : fld P0 182 2 = some (2, 1, 4) := by kernel_rfl
theorem zpv_182 : zpv P0 182 = some (.agg [.str ⟨#[]⟩, .bool false, .bool false]) := by kernel_rfl
theorem bld_182 : bld P0 182 = some ([.str ⟨#[]⟩, .bool false, .bool false], [(0, 1), (1, 1), (2, 1)]) := by kernel_rfl
theorem tinf_184 : tinf P0 184 = some (false, 1) := by kernel_rfl
theorem kd_184 : kd P0 184 = .other := by kernel_rfl
theorem zpv_184 : zpv P0 184 = some (.int .u64 0) := by kernel_rfl
attribute [go_sem] tinf_3 kd_3 zpv_3 tinf_4 kd_4 zpv_4 tinf_5 kd_5 zpv_5 tinf_9 kd_9 zpv_9 tinf_21 kd_21 zpv_21 tinf_22 kd_22 selem_22 einf_22 zpv_22 tinf_23 kd_23 selem_23 einf_23 zpv_23 tinf_24 kd_24 selem_24 einf_24 zpv_24 tinf_25 kd_25 selem_25 einf_25 zpv_25 tinf_27 kd_27 fld_27_0 fld_27_1 fld_27_2 fld_27_3 fld_27_4 zpv_27 bld_27 tinf_29 kd_29 zpv_29 tinf_33 kd_33 selem_33 einf_33 zpv_33 tinf_38 kd_38 fld_38_0 fld_38_1 fld_38_2 zpv_38 bld_38 tinf_42 kd_42 fld_42_0 fld_42_1 fld_42_2 zpv_42 bld_42 tinf_49 kd_49 fld_49_0 fld_49_1 fld_49_2 fld_49_3 fld_49_4 zpv_49 bld_49 tinf_61 kd_61 fld_61_0 fld_61_1 zpv_61 bld_61 tinf_69 kd_69 selem_69 einf_69 zpv_69 tinf_72 kd_72 fld_72_0 fld_72_1 fld_72_2 zpv_72 bld_72 tinf_73 kd_73 selem_73 einf_73 zpv_73 tinf_76 kd_76 fld_76_0 fld_76_1 zpv_76 bld_76 tinf_92 kd_92 selem_92 einf_92 zpv_92 tinf_94 kd_94 selem_94 zpv_94 tinf_115 kd_115 fld_115_0 fld_115_1 zpv_115 bld_115 tinf_118 kd_118 fld_118_0 fld_118_1 zpv_118 bld_118 tinf_137 kd_137 fld_137_0 fld_137_1 zpv_137 bld_137 tinf_160 kd_160 zpv_160 tinf_182 kd_182 fld_182_0 fld_182_1 fld_182_2 zpv_182 bld_182 tinf_184 kd_184 zpv_184
theorem follows : P0.follows .mixedOrders = true := by decide +kernel
theorem sh42 : shapeOf P0 5 42 = some (true, [.int .i64, .int .i64, .str]) := by kernel_rfl
theorem sh61 : shapeOf P0 5 61 = some (true, [.int .i64, .int .i64]) := by kernel_rfl
theorem sh72 : shapeOf P0 5 72 = some (true, [.int .i64, .int .i64, .int .i64, .int .i64, .str]) := by kernel_rfl
theorem sh76 : shapeOf P0 5 76 = some (true, [.int .i64, .int .i64]) := by kernel_rfl
theorem g42 : P0.eqGuardType P0.depth 42 = false := by decide +kernel
theorem g61 : P0.eqGuardType P0.depth 61 = false := by decide +kernel
theorem g72 : P0.eqGuardType P0.depth 72 = false := by decide +kernel
theorem g76 : P0.eqGuardType P0.depth 76 = false := by decide +kernel
def eqT0 (T : TypeId) : Option (List Sc) :=
  if T = 42 then some [.int .i64, .int .i64, .str] else if T = 61 then some [.int .i64, .int .i64] else if T = 72 then some [.int .i64, .int .i64, .int .i64, .int .i64, .str] else if T = 76 then some [.int .i64, .int .i64] else none
theorem eqOk0 : ∀ T sh, eqT0 T = some sh → EqRun P0 T sh := by
  intro T sh h
  unfold eqT0 at h
  split at h
  · rename_i e; subst e; cases h; exact eqRun_plain sh42 (by decide) g42
  · split at h
    · rename_i e; subst e; cases h; exact eqRun_plain sh61 (by decide) g61
    · split at h
      · rename_i e; subst e; cases h; exact eqRun_plain sh72 (by decide) g72
      · split at h
        · rename_i e; subst e; cases h; exact eqRun_plain sh76 (by decide) g76
        · cases h
/-- Types whose '==' is plain. -/
noncomputable def E0 : Env P0 := { eqT := eqT0, ok := eqOk0 }
@[go_sem] theorem E0_key (d : Nat) : E0.key d = d := rfl
@[go_sem] theorem E0_akey (d : Nat) (x : PV) (o : Objs) : E0.akey d x o = d := rfl
@[go_sem] theorem eq42 : E0.eqT 42 = some [.int .i64, .int .i64, .str] := by kernel_rfl
@[go_sem] theorem eq61 : E0.eqT 61 = some [.int .i64, .int .i64] := by kernel_rfl
@[go_sem] theorem eq72 : E0.eqT 72 = some [.int .i64, .int .i64, .int .i64, .int .i64, .str] := by kernel_rfl
@[go_sem] theorem eq76 : E0.eqT 76 = some [.int .i64, .int .i64] := by kernel_rfl
@[go_sem] theorem mkd_133 : mkd P0 133 = some .s := by kernel_rfl
@[go_sem] theorem mkd_138 : mkd P0 138 = some .i := by kernel_rfl
@[go_sem] theorem mkd_156 : mkd P0 156 = some .r := by kernel_rfl
@[go_sem] theorem einl_22 : einl P0 22 = some (38, 3) := by kernel_rfl
@[go_sem] theorem einl_23 : einl P0 23 = some (3, 1) := by kernel_rfl
@[go_sem] theorem einl_24 : einl P0 24 = some (137, 2) := by kernel_rfl
@[go_sem] theorem einl_25 : einl P0 25 = some (49, 7) := by kernel_rfl
@[go_sem] theorem einl_33 : einl P0 33 = some (42, 3) := by kernel_rfl
@[go_sem] theorem einl_69 : einl P0 69 = some (72, 5) := by kernel_rfl
@[go_sem] theorem einl_73 : einl P0 73 = some (76, 2) := by kernel_rfl
@[go_sem] theorem einl_92 : einl P0 92 = some (9, 1) := by kernel_rfl
@[go_sem] theorem einl_94 : einl P0 94 = some (30, 1) := by kernel_rfl
end Go.Proofs.Ytiefnninebilbaa
/- The program's data as plain Lean data, and how they look to the abstract machine; no condition. -/
set_option maxRecDepth 100000
set_option linter.unusedVariables false
set_option linter.unusedSimpArgs false
namespace Go.Proofs.Ytiefnninebilbaa
open Go Go.Sx

@[go_sem] theorem int_beq (a b : Int) : (a == b) = decide (a = b) := rfl
@[go_sem] theorem int_bne (a b : Int) : (a != b) = !decide (a = b) := rfl
theorem ba_beq (a b : ByteArray) : (a == b) = decide (a = b) := by
  rw [beq_toListBytes, ByteArray.toList_eq, ByteArray.toList_eq]
  by_cases h : a = b
  · subst h; simp
  · have : ¬ a.data.toList = b.data.toList := fun e => h (ByteArray.ext (Array.toList_inj.1 e))
    rw [decide_eq_false h]
    simpa using fun e => h (ByteArray.ext e)
@[go_sem] theorem ba_beq' (a b : ByteArray) : (a == b) = decide (a = b) := ba_beq a b
@[go_sem] theorem toList_beq (a b : ByteArray) : (a.toList == b.toList) = decide (a = b) := by rw [← beq_toListBytes, ba_beq]
attribute [go_sem] cellsEq scEq fits Bool.false_and Bool.and_false Bool.true_or Bool.false_or Bool.or_false Bool.or_true beq_self_eq_true not_true not_false_eq_true PV.int.injEq PV.bool.injEq PV.str.injEq PV.agg.injEq PV.sl.injEq PV.tup.injEq PV.ptr.injEq PV.ref.injEq List.cons.injEq true_or false_or or_true or_false or_self List.length_map
abbrev Fc (f : FuncId) (args : List PV) (r : PV) : Prop := Sx.Fn P0 f args r
def M0 : Nat → Nat → Option Md := fun _ _ => none
@[go_sem] theorem mdOf_M0 {id i : Nat} {o : Oper} : mdOf M0 id true i o = dmd o := rfl

structure Vl where
  kind : Int
  int : Int
  text : ByteArray
inductive Ex where
  | mk (op int : Int) (val : Vl) (name : ByteArray) (args : List Ex)
namespace Ex
def op : Ex → Int | mk a _ _ _ _ => a
def int : Ex → Int | mk _ a _ _ _ => a
def val : Ex → Vl | mk _ _ a _ _ => a
def name : Ex → ByteArray | mk _ _ _ a _ => a
def args : Ex → List Ex | mk _ _ _ _ a => a
end Ex
def Vl.cells (v : Vl) : List PV := [.int .i64 v.kind, .int .i64 v.int, .str v.text]
def Vl.enc (v : Vl) : PV := .agg [.int .i64 v.kind, .int .i64 v.int, .str v.text]
@[go_sem] theorem Vl.enc_cells (v : Vl) : v.enc.cells = [.int .i64 v.kind, .int .i64 v.int, .str v.text] := rfl
mutual
def Ex.size : Ex → Nat
  | .mk _ _ _ _ args => 1 + Ex.sizes args
def Ex.sizes : List Ex → Nat
  | [] => 0
  | e :: l => e.size + Ex.sizes l
end
mutual
def Ex.enc : Ex → PV
  | .mk op int v name args => .agg [.int .i64 op, .int .i64 int, .int .i64 v.kind, .int .i64 v.int, .str v.text, .str name, .sl (Ex.encs args)]
def Ex.encs : List Ex → List PV
  | [] => []
  | e :: l => e.enc :: Ex.encs l
end
theorem Ex.encs_map : ∀ l, Ex.encs l = l.map Ex.enc
  | [] => rfl
  | e :: l => by rw [Ex.encs, Ex.encs_map l]; rfl
theorem Ex.enc_eq (e : Ex) : e.enc = .agg [.int .i64 e.op, .int .i64 e.int, .int .i64 e.val.kind, .int .i64 e.val.int, .str e.val.text, .str e.name, .sl (e.args.map Ex.enc)] := by
  cases e; rw [Ex.enc, Ex.encs_map]; rfl
@[go_sem] theorem Ex.enc_cells (e : Ex) : e.enc.cells = [.int .i64 e.op, .int .i64 e.int, .int .i64 e.val.kind, .int .i64 e.val.int, .str e.val.text, .str e.name, .sl (e.args.map Ex.enc)] := by rw [e.enc_eq]; rfl
theorem Ex.sizes_app : ∀ l m, Ex.sizes (l ++ m) = Ex.sizes l + Ex.sizes m
  | [], m => by simp [Ex.sizes]
  | e :: l, m => by simp [Ex.sizes, Ex.sizes_app l m]; omega
theorem Ex.size_pos (e : Ex) : 0 < e.size := by cases e; rw [Ex.size]; omega
theorem Ex.size_eq (e : Ex) : e.size = 1 + Ex.sizes e.args := by cases e; rfl
theorem Ex.len_sizes : ∀ l, List.length l ≤ Ex.sizes l
  | [] => by simp
  | e :: l => by have := Ex.len_sizes l; have := e.size_pos; simp [Ex.sizes]; omega
theorem Ex.mem_size : ∀ {l : List Ex} {e : Ex}, e ∈ l → e.size ≤ Ex.sizes l
  | x :: l, e, h => by
    rcases List.mem_cons.1 h with rfl | h
    · simp [Ex.sizes]
    · have := Ex.mem_size h; simp [Ex.sizes]; omega
theorem Ex.ind {p : Ex → Prop} (h : ∀ e, (∀ x ∈ e.args, p x) → p e) : ∀ e, p e := by
  have : ∀ (n : Nat) (e : Ex), e.size ≤ n → p e := by
    intro n
    induction n with
    | zero => intro e he; have := e.size_pos; omega
    | succ n ih =>
      intro e he
      refine h e fun x hx => ih x ?_
      have := Ex.mem_size hx
      have := e.size_eq
      omega
  exact fun e => this _ e (Nat.le_refl _)
end Go.Proofs.Ytiefnninebilbaa
/- What the small functions over values return; no condition. -/
set_option maxRecDepth 100000
set_option linter.unusedVariables false
set_option linter.unusedSimpArgs false
namespace Go.Proofs.Ytiefnninebilbaa
open Go Go.Sx

def normal (a : Int) : Int := if a = 0 ∨ a = 2 then a else 1
theorem ok165 : okCode M0 Try.f165.ntmps (Try.f165.body.getD .skip) = true := by decide +kernel
theorem normal_fn (a : Int) : Fc 165 [.int .i64 a] (.int .i64 (normal a)) := by
  refine fn_of_awp (E := E0) (M := M0) follows Try.func165 rfl (by decide) ok165 (by decide) (by simp) fun o ho => ?_
  simp only [go_sem, Nat.reduceEqDiff, Nat.reduceAdd, Nat.reduceSub, Nat.reduceLeDiff, Nat.reduceLT, Nat.reduceMul, Nat.reduceBEq, Int.reduceEq, Int.reduceLT, Int.reduceLE, Int.reduceNeg, Int.reduceToNat, reduceCtorEq, ho, Try.results165]
  repeat' (first | (refine AIf_cases (fun h => ?_) (fun h => ?_) <;> (try simp only [decide_eq_true_eq, decide_eq_false_iff_not, Bool.not_eq_true', Bool.not_eq_false', Bool.not_eq_true, Bool.not_eq_false] at h) <;> (try simp only [go_sem, Nat.reduceEqDiff, Nat.reduceAdd, Nat.reduceSub, Nat.reduceLeDiff, Nat.reduceLT, Nat.reduceMul, Nat.reduceBEq, Int.reduceEq, Int.reduceLT, Int.reduceLE, Int.reduceNeg, Int.reduceToNat, reduceCtorEq, ho, Try.results165, h])))
  all_goals simp_all [normal]
def Vl.null : Vl := ⟨0, 0, ⟨#[]⟩⟩
theorem ok97 : okCode M0 Try.f97.ntmps (Try.f97.body.getD .skip) = true := by decide +kernel
theorem null_fn : Fc 97 [] (Vl.enc Vl.null) := by
  refine fn_of_awp (E := E0) (M := M0) follows Try.func97 rfl (by decide) ok97 (by decide) (by simp) fun o ho => ?_
  simp only [go_sem, Nat.reduceEqDiff, Nat.reduceAdd, Nat.reduceSub, Nat.reduceLeDiff, Nat.reduceLT, Nat.reduceMul, Nat.reduceBEq, Int.reduceEq, Int.reduceLT, Int.reduceLE, Int.reduceNeg, Int.reduceToNat, reduceCtorEq, ho, Try.results97, Vl.enc, Vl.null]
theorem ok100 : okCode M0 Try.f100.ntmps (Try.f100.body.getD .skip) = true := by decide +kernel
def Vl.bool (b : Bool) : Vl := ⟨3, if b then 1 else 0, ⟨#[]⟩⟩
theorem bool_fn (b : Bool) : Fc 100 [.bool b] (Vl.bool b).enc := by
  refine fn_of_awp (E := E0) (M := M0) follows Try.func100 rfl (by decide) ok100 (by decide) (by simp) fun o ho => ?_
  simp only [go_sem, Nat.reduceEqDiff, Nat.reduceAdd, Nat.reduceSub, Nat.reduceLeDiff, Nat.reduceLT, Nat.reduceMul, Nat.reduceBEq, Int.reduceEq, Int.reduceLT, Int.reduceLE, Int.reduceNeg, Int.reduceToNat, reduceCtorEq, ho, Try.results100, Vl.enc, Vl.bool]
  repeat' (first | (refine AIf_cases (fun h => ?_) (fun h => ?_) <;> (try simp only [decide_eq_true_eq, decide_eq_false_iff_not, Bool.not_eq_true', Bool.not_eq_false', Bool.not_eq_true, Bool.not_eq_false] at h) <;> (try simp only [go_sem, Nat.reduceEqDiff, Nat.reduceAdd, Nat.reduceSub, Nat.reduceLeDiff, Nat.reduceLT, Nat.reduceMul, Nat.reduceBEq, Int.reduceEq, Int.reduceLT, Int.reduceLE, Int.reduceNeg, Int.reduceToNat, reduceCtorEq, ho, Try.results100, h])))
def okByte (b : UInt8) : Bool := decide (32 ≤ b.toNat) && decide (b.toNat ≤ 126)
def printable (s : ByteArray) : Bool := s.data.toList.all okByte
theorem ba_get {s : ByteArray} {i : Nat} (h : i < s.size) : s[i]? = some s[i] := by simp [h]
theorem printable_at {s : ByteArray} {i : Nat} (h : i < s.size) (hp : okByte s[i] = false) : printable s = false := by
  rw [printable, List.all_eq_false]
  exact ⟨s[i], by rw [Array.mem_toList_iff]; exact Array.getElem_mem _, by simp [hp]⟩
theorem ok150 : okCode M0 Try.f150.ntmps (Try.f150.body.getD .skip) = true := by decide +kernel
theorem printable_fn (s : ByteArray) (hs : s.size ≤ 9223372036854775806) : Fc 150 [.str s] (.bool (printable s)) := by
  refine fn_of_awp (E := E0) (M := M0) follows Try.func150 rfl (by decide) ok150 (by decide) (by simp) fun o ho => ?_
  simp only [go_sem, Nat.reduceEqDiff, Nat.reduceAdd, Nat.reduceSub, Nat.reduceLeDiff, Nat.reduceLT, Nat.reduceMul, Nat.reduceBEq, Int.reduceEq, Int.reduceLT, Int.reduceLE, Int.reduceNeg, Int.reduceToNat, reduceCtorEq, ho, Try.results150]
  refine ⟨fun n st => ∃ i : Nat, i + n = s.size ∧ st.s 6 = .int .i64 i ∧ st.s 5 = .int .i64 s.size ∧ st.s 0 = .str s ∧ ∀ j (hj : j < s.size), j < i → okByte s[j] = true, s.size, ⟨0, by omega, by simp only [go_sem, Nat.reduceEqDiff, Nat.reduceAdd, Nat.reduceSub, Nat.reduceLeDiff, Nat.reduceLT, Nat.reduceMul, Nat.reduceBEq, Int.reduceEq, Int.reduceLT, Int.reduceLE, Int.reduceNeg, Int.reduceToNat, reduceCtorEq, ho, Try.results150]; rfl, by simp only [go_sem, Nat.reduceEqDiff, Nat.reduceAdd, Nat.reduceSub, Nat.reduceLeDiff, Nat.reduceLT, Nat.reduceMul, Nat.reduceBEq, Int.reduceEq, Int.reduceLT, Int.reduceLE, Int.reduceNeg, Int.reduceToNat, reduceCtorEq, ho, Try.results150], by simp only [go_sem, Nat.reduceEqDiff, Nat.reduceAdd, Nat.reduceSub, Nat.reduceLeDiff, Nat.reduceLT, Nat.reduceMul, Nat.reduceBEq, Int.reduceEq, Int.reduceLT, Int.reduceLE, Int.reduceNeg, Int.reduceToNat, reduceCtorEq, ho, Try.results150], fun j _ h => absurd h (Nat.not_lt_zero j)⟩, ?_⟩
  rintro n st ⟨i, hi, h6, h5, h0, hall⟩
  have hw : IntKind.i64.wrap ((i : Int) + 1) = (i : Int) + 1 := wrap_fits (by omega) (by omega)
  by_cases hlt : i < s.size
  · have hlt' : (i : Int) < (s.size : Int) := by omega
    have hget := ba_get hlt
    simp only [go_sem, Nat.reduceEqDiff, Nat.reduceAdd, Nat.reduceSub, Nat.reduceLeDiff, Nat.reduceLT, Nat.reduceMul, Nat.reduceBEq, Int.reduceEq, Int.reduceLT, Int.reduceLE, Int.reduceNeg, Int.reduceToNat, reduceCtorEq, ho, Try.results150, h6, h5, h0, hlt', Int.natCast_nonneg, Int.toNat_natCast, hget]
    have next : okByte s[i] = true → ∃ m, m < n ∧ ∃ k : Nat, k + m = s.size ∧ ((i : Int) + 1 = (k : Int)) ∧ ∀ j (hj : j < s.size), j < k → okByte s[j] = true := fun hok => ⟨n - 1, by omega, i + 1, by omega, by omega, fun j hj hji => by
      rcases Nat.lt_succ_iff_lt_or_eq.1 hji with h | rfl
      · exact hall j hj h
      · exact hok⟩
    repeat' (first | (refine AIf_cases (fun h => ?_) (fun h => ?_) <;> (try simp only [decide_eq_true_eq, decide_eq_false_iff_not, Bool.not_eq_true', Bool.not_eq_false', Bool.not_eq_true, Bool.not_eq_false] at h) <;> (try simp only [go_sem, Nat.reduceEqDiff, Nat.reduceAdd, Nat.reduceSub, Nat.reduceLeDiff, Nat.reduceLT, Nat.reduceMul, Nat.reduceBEq, Int.reduceEq, Int.reduceLT, Int.reduceLE, Int.reduceNeg, Int.reduceToNat, reduceCtorEq, ho, Try.results150, h, h6, h5, h0, hlt', Int.natCast_nonneg, Int.toNat_natCast, hget, hw])))
    · exact (printable_at hlt (by simp [okByte]; omega)).symm
    · exact next (by simp [okByte]; omega)
    · exact (printable_at hlt (by simp [okByte]; omega)).symm
  · have hlt' : ¬ (i : Int) < (s.size : Int) := by omega
    simp only [go_sem, Nat.reduceEqDiff, Nat.reduceAdd, Nat.reduceSub, Nat.reduceLeDiff, Nat.reduceLT, Nat.reduceMul, Nat.reduceBEq, Int.reduceEq, Int.reduceLT, Int.reduceLE, Int.reduceNeg, Int.reduceToNat, reduceCtorEq, ho, Try.results150, h6, h5, h0, hlt']
    have : printable s = true := by
      rw [printable, List.all_eq_true]
      intro b hb
      obtain ⟨j, hj, rfl⟩ := List.getElem_of_mem hb
      exact hall j (by simpa using hj) (by simp at hj; have : s.size = s.data.size := rfl; omega)
    rw [this]
abbrev emp : ByteArray := ⟨#[]⟩
def Vl.valid (v : Vl) : Bool :=
  if v.kind = 0 then decide (v.int = 0) && decide (v.text = emp)
  else if v.kind = 1 then decide (v.text = emp) && (decide (-1125899906842624 ≤ v.int) && decide (v.int ≤ 1125899906842624))
  else if v.kind = 2 then decide (v.int = 0) && (decide ((v.text.size : Int) ≤ 200) && printable v.text)
  else if v.kind = 3 then decide (v.text = emp) && (decide (v.int = 0) || decide (v.int = 1))
  else false
theorem ok85 : okCode M0 Try.f85.ntmps (Try.f85.body.getD .skip) = true := by decide +kernel
theorem valid_fn (v : Vl) : Fc 85 [v.enc] (.bool v.valid) := by
  refine fn_of_awp (E := E0) (M := M0) follows Try.func85 rfl (by decide) ok85 (by decide) (by simp) fun o ho => ?_
  simp only [go_sem, Nat.reduceEqDiff, Nat.reduceAdd, Nat.reduceSub, Nat.reduceLeDiff, Nat.reduceLT, Nat.reduceMul, Nat.reduceBEq, Int.reduceEq, Int.reduceLT, Int.reduceLE, Int.reduceNeg, Int.reduceToNat, reduceCtorEq, ho, Try.results85, Vl.enc]
  repeat' (first | (refine AIf_cases (fun h => ?_) (fun h => ?_) <;> (try simp only [decide_eq_true_eq, decide_eq_false_iff_not, Bool.not_eq_true', Bool.not_eq_false', Bool.not_eq_true, Bool.not_eq_false] at h) <;> (try simp only [go_sem, Nat.reduceEqDiff, Nat.reduceAdd, Nat.reduceSub, Nat.reduceLeDiff, Nat.reduceLT, Nat.reduceMul, Nat.reduceBEq, Int.reduceEq, Int.reduceLT, Int.reduceLE, Int.reduceNeg, Int.reduceToNat, reduceCtorEq, ho, Try.results85, h])) | (refine GCall.fr ?_ (printable_fn v.text (by omega)) (.inl rfl) ?_; (focus (first | rfl | ((simp only [go_sem, Nat.reduceEqDiff, Nat.reduceAdd, Nat.reduceSub, Nat.reduceLeDiff, Nat.reduceLT, Nat.reduceMul, Nat.reduceBEq, Int.reduceEq, Int.reduceLT, Int.reduceLE, Int.reduceNeg, Int.reduceToNat, reduceCtorEq, ho, Try.results85]); done) | ((simp only [go_sem, Nat.reduceEqDiff, Nat.reduceAdd, Nat.reduceSub, Nat.reduceLeDiff, Nat.reduceLT, Nat.reduceMul, Nat.reduceBEq, Int.reduceEq, Int.reduceLT, Int.reduceLE, Int.reduceNeg, Int.reduceToNat, reduceCtorEq, ho, Try.results85]); rfl))); (try simp only [go_sem, Nat.reduceEqDiff, Nat.reduceAdd, Nat.reduceSub, Nat.reduceLeDiff, Nat.reduceLT, Nat.reduceMul, Nat.reduceBEq, Int.reduceEq, Int.reduceLT, Int.reduceLE, Int.reduceNeg, Int.reduceToNat, reduceCtorEq, ho, Try.results85])) | (refine QCall.fr ?_ (printable_fn v.text (by omega)) (.inl rfl) ?_; (focus (first | rfl | ((simp only [go_sem, Nat.reduceEqDiff, Nat.reduceAdd, Nat.reduceSub, Nat.reduceLeDiff, Nat.reduceLT, Nat.reduceMul, Nat.reduceBEq, Int.reduceEq, Int.reduceLT, Int.reduceLE, Int.reduceNeg, Int.reduceToNat, reduceCtorEq, ho, Try.results85]); done) | ((simp only [go_sem, Nat.reduceEqDiff, Nat.reduceAdd, Nat.reduceSub, Nat.reduceLeDiff, Nat.reduceLT, Nat.reduceMul, Nat.reduceBEq, Int.reduceEq, Int.reduceLT, Int.reduceLE, Int.reduceNeg, Int.reduceToNat, reduceCtorEq, ho, Try.results85]); rfl))); (try simp only [go_sem, Nat.reduceEqDiff, Nat.reduceAdd, Nat.reduceSub, Nat.reduceLeDiff, Nat.reduceLT, Nat.reduceMul, Nat.reduceBEq, Int.reduceEq, Int.reduceLT, Int.reduceLE, Int.reduceNeg, Int.reduceToNat, reduceCtorEq, ho, Try.results85])))
  all_goals (first | (simp_all [Vl.valid]; done) | (simp_all [Vl.valid]; omega) | (simp_all [Vl.valid]; intros; omega) | (simp_all [Vl.valid]; (repeat' split) <;> (first | (simp_all; done) | (simp_all; omega) | omega)))
def Vl.orNull (v : Vl) : Vl := if v.valid then v else Vl.null
theorem ok190 : okCode M0 Try.f190.ntmps (Try.f190.body.getD .skip) = true := by decide +kernel
theorem orNull_fn (v : Vl) : Fc 190 [v.enc] v.orNull.enc := by
  refine fn_of_awp (E := E0) (M := M0) follows Try.func190 rfl (by decide) ok190 (by decide) (by simp) fun o ho => ?_
  simp only [go_sem, Nat.reduceEqDiff, Nat.reduceAdd, Nat.reduceSub, Nat.reduceLeDiff, Nat.reduceLT, Nat.reduceMul, Nat.reduceBEq, Int.reduceEq, Int.reduceLT, Int.reduceLE, Int.reduceNeg, Int.reduceToNat, reduceCtorEq, ho, Try.results190, Vl.enc]
  refine GCall.fr ?_ (valid_fn v) (.inl rfl) ?_; (focus (first | rfl | ((simp only [go_sem, Nat.reduceEqDiff, Nat.reduceAdd, Nat.reduceSub, Nat.reduceLeDiff, Nat.reduceLT, Nat.reduceMul, Nat.reduceBEq, Int.reduceEq, Int.reduceLT, Int.reduceLE, Int.reduceNeg, Int.reduceToNat, reduceCtorEq, ho, Try.results190]); done) | ((simp only [go_sem, Nat.reduceEqDiff, Nat.reduceAdd, Nat.reduceSub, Nat.reduceLeDiff, Nat.reduceLT, Nat.reduceMul, Nat.reduceBEq, Int.reduceEq, Int.reduceLT, Int.reduceLE, Int.reduceNeg, Int.reduceToNat, reduceCtorEq, ho, Try.results190]); rfl)))
  simp only [go_sem, Nat.reduceEqDiff, Nat.reduceAdd, Nat.reduceSub, Nat.reduceLeDiff, Nat.reduceLT, Nat.reduceMul, Nat.reduceBEq, Int.reduceEq, Int.reduceLT, Int.reduceLE, Int.reduceNeg, Int.reduceToNat, reduceCtorEq, ho, Try.results190]
  repeat' (first | (refine AIf_cases (fun h => ?_) (fun h => ?_) <;> (try simp only [decide_eq_true_eq, decide_eq_false_iff_not, Bool.not_eq_true', Bool.not_eq_false', Bool.not_eq_true, Bool.not_eq_false] at h) <;> (try simp only [go_sem, Nat.reduceEqDiff, Nat.reduceAdd, Nat.reduceSub, Nat.reduceLeDiff, Nat.reduceLT, Nat.reduceMul, Nat.reduceBEq, Int.reduceEq, Int.reduceLT, Int.reduceLE, Int.reduceNeg, Int.reduceToNat, reduceCtorEq, ho, Try.results190, h])))
  · refine GCall.fr ?_ (null_fn) (.inl rfl) ?_; (focus (first | rfl | ((simp only [go_sem, Nat.reduceEqDiff, Nat.reduceAdd, Nat.reduceSub, Nat.reduceLeDiff, Nat.reduceLT, Nat.reduceMul, Nat.reduceBEq, Int.reduceEq, Int.reduceLT, Int.reduceLE, Int.reduceNeg, Int.reduceToNat, reduceCtorEq, ho, Try.results190]); done) | ((simp only [go_sem, Nat.reduceEqDiff, Nat.reduceAdd, Nat.reduceSub, Nat.reduceLeDiff, Nat.reduceLT, Nat.reduceMul, Nat.reduceBEq, Int.reduceEq, Int.reduceLT, Int.reduceLE, Int.reduceNeg, Int.reduceToNat, reduceCtorEq, ho, Try.results190]); rfl)))
    simp only [go_sem, Nat.reduceEqDiff, Nat.reduceAdd, Nat.reduceSub, Nat.reduceLeDiff, Nat.reduceLT, Nat.reduceMul, Nat.reduceBEq, Int.reduceEq, Int.reduceLT, Int.reduceLE, Int.reduceNeg, Int.reduceToNat, reduceCtorEq, ho, Try.results190, Vl.enc, Vl.null]
    simp_all [Vl.orNull, Vl.null]
  · simp_all [Vl.orNull]
def Vl.num (n : Int) : Vl := Vl.orNull ⟨1, n, emp⟩
theorem ok162 : okCode M0 Try.f162.ntmps (Try.f162.body.getD .skip) = true := by decide +kernel
theorem num_fn (n : Int) : Fc 162 [.int .i64 n] (Vl.num n).enc := by
  refine fn_of_awp (E := E0) (M := M0) follows Try.func162 rfl (by decide) ok162 (by decide) (by simp) fun o ho => ?_
  simp only [go_sem, Nat.reduceEqDiff, Nat.reduceAdd, Nat.reduceSub, Nat.reduceLeDiff, Nat.reduceLT, Nat.reduceMul, Nat.reduceBEq, Int.reduceEq, Int.reduceLT, Int.reduceLE, Int.reduceNeg, Int.reduceToNat, reduceCtorEq, ho, Try.results162]
  refine GCall.fr ?_ (orNull_fn ⟨1, n, emp⟩) (.inl rfl) ?_; (focus (first | rfl | ((simp only [go_sem, Nat.reduceEqDiff, Nat.reduceAdd, Nat.reduceSub, Nat.reduceLeDiff, Nat.reduceLT, Nat.reduceMul, Nat.reduceBEq, Int.reduceEq, Int.reduceLT, Int.reduceLE, Int.reduceNeg, Int.reduceToNat, reduceCtorEq, ho, Try.results162]); done) | ((simp only [go_sem, Nat.reduceEqDiff, Nat.reduceAdd, Nat.reduceSub, Nat.reduceLeDiff, Nat.reduceLT, Nat.reduceMul, Nat.reduceBEq, Int.reduceEq, Int.reduceLT, Int.reduceLE, Int.reduceNeg, Int.reduceToNat, reduceCtorEq, ho, Try.results162]); rfl)))
  simp only [go_sem, Nat.reduceEqDiff, Nat.reduceAdd, Nat.reduceSub, Nat.reduceLeDiff, Nat.reduceLT, Nat.reduceMul, Nat.reduceBEq, Int.reduceEq, Int.reduceLT, Int.reduceLE, Int.reduceNeg, Int.reduceToNat, reduceCtorEq, ho, Try.results162, Vl.enc, Vl.num]
def Vl.txt (s : ByteArray) : Vl := Vl.orNull ⟨2, 0, s⟩
theorem ok163 : okCode M0 Try.f163.ntmps (Try.f163.body.getD .skip) = true := by decide +kernel
theorem txt_fn (s : ByteArray) : Fc 163 [.str s] (Vl.txt s).enc := by
  refine fn_of_awp (E := E0) (M := M0) follows Try.func163 rfl (by decide) ok163 (by decide) (by simp) fun o ho => ?_
  simp only [go_sem, Nat.reduceEqDiff, Nat.reduceAdd, Nat.reduceSub, Nat.reduceLeDiff, Nat.reduceLT, Nat.reduceMul, Nat.reduceBEq, Int.reduceEq, Int.reduceLT, Int.reduceLE, Int.reduceNeg, Int.reduceToNat, reduceCtorEq, ho, Try.results163]
  refine GCall.fr ?_ (orNull_fn ⟨2, 0, s⟩) (.inl rfl) ?_; (focus (first | rfl | ((simp only [go_sem, Nat.reduceEqDiff, Nat.reduceAdd, Nat.reduceSub, Nat.reduceLeDiff, Nat.reduceLT, Nat.reduceMul, Nat.reduceBEq, Int.reduceEq, Int.reduceLT, Int.reduceLE, Int.reduceNeg, Int.reduceToNat, reduceCtorEq, ho, Try.results163]); done) | ((simp only [go_sem, Nat.reduceEqDiff, Nat.reduceAdd, Nat.reduceSub, Nat.reduceLeDiff, Nat.reduceLT, Nat.reduceMul, Nat.reduceBEq, Int.reduceEq, Int.reduceLT, Int.reduceLE, Int.reduceNeg, Int.reduceToNat, reduceCtorEq, ho, Try.results163]); rfl)))
  simp only [go_sem, Nat.reduceEqDiff, Nat.reduceAdd, Nat.reduceSub, Nat.reduceLeDiff, Nat.reduceLT, Nat.reduceMul, Nat.reduceBEq, Int.reduceEq, Int.reduceLT, Int.reduceLE, Int.reduceNeg, Int.reduceToNat, reduceCtorEq, ho, Try.results163, Vl.enc, Vl.txt]
def Vl.truth (v : Vl) : Int := if v.kind = 3 ∧ v.int = 1 ∧ v.text = emp then 2 else if v.kind = 3 ∧ v.int = 0 ∧ v.text = emp then 0 else 1
theorem ok119 : okCode M0 Try.f119.ntmps (Try.f119.body.getD .skip) = true := by decide +kernel
theorem truth_fn (v : Vl) : Fc 119 [v.enc] (.int .i64 v.truth) := by
  refine fn_of_awp (E := E0) (M := M0) follows Try.func119 rfl (by decide) ok119 (by decide) (by simp) fun o ho => ?_
  simp only [go_sem, Nat.reduceEqDiff, Nat.reduceAdd, Nat.reduceSub, Nat.reduceLeDiff, Nat.reduceLT, Nat.reduceMul, Nat.reduceBEq, Int.reduceEq, Int.reduceLT, Int.reduceLE, Int.reduceNeg, Int.reduceToNat, reduceCtorEq, ho, Try.results119, Vl.enc]
  refine GCall.fr ?_ (bool_fn true) (.inl rfl) ?_; (focus (first | rfl | ((simp only [go_sem, Nat.reduceEqDiff, Nat.reduceAdd, Nat.reduceSub, Nat.reduceLeDiff, Nat.reduceLT, Nat.reduceMul, Nat.reduceBEq, Int.reduceEq, Int.reduceLT, Int.reduceLE, Int.reduceNeg, Int.reduceToNat, reduceCtorEq, ho, Try.results119]); done) | ((simp only [go_sem, Nat.reduceEqDiff, Nat.reduceAdd, Nat.reduceSub, Nat.reduceLeDiff, Nat.reduceLT, Nat.reduceMul, Nat.reduceBEq, Int.reduceEq, Int.reduceLT, Int.reduceLE, Int.reduceNeg, Int.reduceToNat, reduceCtorEq, ho, Try.results119]); rfl)))
  simp only [go_sem, Nat.reduceEqDiff, Nat.reduceAdd, Nat.reduceSub, Nat.reduceLeDiff, Nat.reduceLT, Nat.reduceMul, Nat.reduceBEq, Int.reduceEq, Int.reduceLT, Int.reduceLE, Int.reduceNeg, Int.reduceToNat, reduceCtorEq, ho, Try.results119, Vl.enc, Vl.bool]
  repeat' (first | (refine AIf_cases (fun h => ?_) (fun h => ?_) <;> (try simp only [decide_eq_true_eq, decide_eq_false_iff_not, Bool.not_eq_true', Bool.not_eq_false', Bool.not_eq_true, Bool.not_eq_false] at h) <;> (try simp only [go_sem, Nat.reduceEqDiff, Nat.reduceAdd, Nat.reduceSub, Nat.reduceLeDiff, Nat.reduceLT, Nat.reduceMul, Nat.reduceBEq, Int.reduceEq, Int.reduceLT, Int.reduceLE, Int.reduceNeg, Int.reduceToNat, reduceCtorEq, ho, Try.results119, h])))
  · all_goals (first | (simp_all [Vl.truth]; done) | (simp_all [Vl.truth]; omega) | (simp_all [Vl.truth]; intros; omega) | (simp_all [Vl.truth]; (repeat' split) <;> (first | (simp_all; done) | (simp_all; omega) | omega)))
  · refine GCall.fr ?_ (bool_fn false) (.inl rfl) ?_; (focus (first | rfl | ((simp only [go_sem, Nat.reduceEqDiff, Nat.reduceAdd, Nat.reduceSub, Nat.reduceLeDiff, Nat.reduceLT, Nat.reduceMul, Nat.reduceBEq, Int.reduceEq, Int.reduceLT, Int.reduceLE, Int.reduceNeg, Int.reduceToNat, reduceCtorEq, ho, Try.results119]); done) | ((simp only [go_sem, Nat.reduceEqDiff, Nat.reduceAdd, Nat.reduceSub, Nat.reduceLeDiff, Nat.reduceLT, Nat.reduceMul, Nat.reduceBEq, Int.reduceEq, Int.reduceLT, Int.reduceLE, Int.reduceNeg, Int.reduceToNat, reduceCtorEq, ho, Try.results119]); rfl)))
    simp only [go_sem, Nat.reduceEqDiff, Nat.reduceAdd, Nat.reduceSub, Nat.reduceLeDiff, Nat.reduceLT, Nat.reduceMul, Nat.reduceBEq, Int.reduceEq, Int.reduceLT, Int.reduceLE, Int.reduceNeg, Int.reduceToNat, reduceCtorEq, ho, Try.results119, Vl.enc, Vl.bool]
    repeat' (first | (refine AIf_cases (fun h => ?_) (fun h => ?_) <;> (try simp only [decide_eq_true_eq, decide_eq_false_iff_not, Bool.not_eq_true', Bool.not_eq_false', Bool.not_eq_true, Bool.not_eq_false] at h) <;> (try simp only [go_sem, Nat.reduceEqDiff, Nat.reduceAdd, Nat.reduceSub, Nat.reduceLeDiff, Nat.reduceLT, Nat.reduceMul, Nat.reduceBEq, Int.reduceEq, Int.reduceLT, Int.reduceLE, Int.reduceNeg, Int.reduceToNat, reduceCtorEq, ho, Try.results119, h])))
    all_goals (first | (simp_all [Vl.truth]; done) | (simp_all [Vl.truth]; omega) | (simp_all [Vl.truth]; intros; omega) | (simp_all [Vl.truth]; (repeat' split) <;> (first | (simp_all; done) | (simp_all; omega) | omega)))
def Vl.of (t : Int) : Vl := if normal t = 1 then Vl.null else Vl.bool (decide (normal t = 2))
theorem ok104 : okCode M0 Try.f104.ntmps (Try.f104.body.getD .skip) = true := by decide +kernel
theorem of_fn (t : Int) : Fc 104 [.int .i64 t] (Vl.of t).enc := by
  refine fn_of_awp (E := E0) (M := M0) follows Try.func104 rfl (by decide) ok104 (by decide) (by simp) fun o ho => ?_
  simp only [go_sem, Nat.reduceEqDiff, Nat.reduceAdd, Nat.reduceSub, Nat.reduceLeDiff, Nat.reduceLT, Nat.reduceMul, Nat.reduceBEq, Int.reduceEq, Int.reduceLT, Int.reduceLE, Int.reduceNeg, Int.reduceToNat, reduceCtorEq, ho, Try.results104]
  refine GCall.fr ?_ (normal_fn t) (.inl rfl) ?_; (focus (first | rfl | ((simp only [go_sem, Nat.reduceEqDiff, Nat.reduceAdd, Nat.reduceSub, Nat.reduceLeDiff, Nat.reduceLT, Nat.reduceMul, Nat.reduceBEq, Int.reduceEq, Int.reduceLT, Int.reduceLE, Int.reduceNeg, Int.reduceToNat, reduceCtorEq, ho, Try.results104]); done) | ((simp only [go_sem, Nat.reduceEqDiff, Nat.reduceAdd, Nat.reduceSub, Nat.reduceLeDiff, Nat.reduceLT, Nat.reduceMul, Nat.reduceBEq, Int.reduceEq, Int.reduceLT, Int.reduceLE, Int.reduceNeg, Int.reduceToNat, reduceCtorEq, ho, Try.results104]); rfl)))
  simp only [go_sem, Nat.reduceEqDiff, Nat.reduceAdd, Nat.reduceSub, Nat.reduceLeDiff, Nat.reduceLT, Nat.reduceMul, Nat.reduceBEq, Int.reduceEq, Int.reduceLT, Int.reduceLE, Int.reduceNeg, Int.reduceToNat, reduceCtorEq, ho, Try.results104]
  repeat' (first | (refine AIf_cases (fun h => ?_) (fun h => ?_) <;> (try simp only [decide_eq_true_eq, decide_eq_false_iff_not, Bool.not_eq_true', Bool.not_eq_false', Bool.not_eq_true, Bool.not_eq_false] at h) <;> (try simp only [go_sem, Nat.reduceEqDiff, Nat.reduceAdd, Nat.reduceSub, Nat.reduceLeDiff, Nat.reduceLT, Nat.reduceMul, Nat.reduceBEq, Int.reduceEq, Int.reduceLT, Int.reduceLE, Int.reduceNeg, Int.reduceToNat, reduceCtorEq, ho, Try.results104, h])))
  · refine GCall.fr ?_ (null_fn) (.inl rfl) ?_; (focus (first | rfl | ((simp only [go_sem, Nat.reduceEqDiff, Nat.reduceAdd, Nat.reduceSub, Nat.reduceLeDiff, Nat.reduceLT, Nat.reduceMul, Nat.reduceBEq, Int.reduceEq, Int.reduceLT, Int.reduceLE, Int.reduceNeg, Int.reduceToNat, reduceCtorEq, ho, Try.results104]); done) | ((simp only [go_sem, Nat.reduceEqDiff, Nat.reduceAdd, Nat.reduceSub, Nat.reduceLeDiff, Nat.reduceLT, Nat.reduceMul, Nat.reduceBEq, Int.reduceEq, Int.reduceLT, Int.reduceLE, Int.reduceNeg, Int.reduceToNat, reduceCtorEq, ho, Try.results104]); rfl)))
    simp only [go_sem, Nat.reduceEqDiff, Nat.reduceAdd, Nat.reduceSub, Nat.reduceLeDiff, Nat.reduceLT, Nat.reduceMul, Nat.reduceBEq, Int.reduceEq, Int.reduceLT, Int.reduceLE, Int.reduceNeg, Int.reduceToNat, reduceCtorEq, ho, Try.results104, Vl.enc, Vl.null]
    all_goals (first | (simp_all [Vl.of, Vl.null]; done) | (simp_all [Vl.of, Vl.null]; omega) | (simp_all [Vl.of, Vl.null]; intros; omega) | (simp_all [Vl.of, Vl.null]; (repeat' split) <;> (first | (simp_all; done) | (simp_all; omega) | omega)))
  · refine GCall.fr ?_ (bool_fn (decide (normal t = 2))) (.inl rfl) ?_; (focus (first | rfl | ((simp only [go_sem, Nat.reduceEqDiff, Nat.reduceAdd, Nat.reduceSub, Nat.reduceLeDiff, Nat.reduceLT, Nat.reduceMul, Nat.reduceBEq, Int.reduceEq, Int.reduceLT, Int.reduceLE, Int.reduceNeg, Int.reduceToNat, reduceCtorEq, ho, Try.results104]); done) | ((simp only [go_sem, Nat.reduceEqDiff, Nat.reduceAdd, Nat.reduceSub, Nat.reduceLeDiff, Nat.reduceLT, Nat.reduceMul, Nat.reduceBEq, Int.reduceEq, Int.reduceLT, Int.reduceLE, Int.reduceNeg, Int.reduceToNat, reduceCtorEq, ho, Try.results104]); rfl)))
    simp only [go_sem, Nat.reduceEqDiff, Nat.reduceAdd, Nat.reduceSub, Nat.reduceLeDiff, Nat.reduceLT, Nat.reduceMul, Nat.reduceBEq, Int.reduceEq, Int.reduceLT, Int.reduceLE, Int.reduceNeg, Int.reduceToNat, reduceCtorEq, ho, Try.results104, Vl.enc, Vl.bool]
    all_goals (first | (simp_all [Vl.of, Vl.bool]; done) | (simp_all [Vl.of, Vl.bool]; omega) | (simp_all [Vl.of, Vl.bool]; intros; omega) | (simp_all [Vl.of, Vl.bool]; (repeat' split) <;> (first | (simp_all; done) | (simp_all; omega) | omega)))
theorem normal_range (t : Int) : 0 ≤ normal t ∧ normal t ≤ 2 := by unfold normal; split <;> omega
def tnot (a : Int) : Int := 2 - normal a
theorem ok157 : okCode M0 Try.f157.ntmps (Try.f157.body.getD .skip) = true := by decide +kernel
theorem not_fn (a : Int) : Fc 157 [.int .i64 a] (.int .i64 (tnot a)) := by
  have hw : IntKind.i64.wrap (2 - normal a) = 2 - normal a := by have := normal_range a; exact wrap_fits (by omega) (by omega)
  refine fn_of_awp (E := E0) (M := M0) follows Try.func157 rfl (by decide) ok157 (by decide) (by simp) fun o ho => ?_
  simp only [go_sem, Nat.reduceEqDiff, Nat.reduceAdd, Nat.reduceSub, Nat.reduceLeDiff, Nat.reduceLT, Nat.reduceMul, Nat.reduceBEq, Int.reduceEq, Int.reduceLT, Int.reduceLE, Int.reduceNeg, Int.reduceToNat, reduceCtorEq, ho, Try.results157]
  refine GCall.fr ?_ (normal_fn a) (.inl rfl) ?_; (focus (first | rfl | ((simp only [go_sem, Nat.reduceEqDiff, Nat.reduceAdd, Nat.reduceSub, Nat.reduceLeDiff, Nat.reduceLT, Nat.reduceMul, Nat.reduceBEq, Int.reduceEq, Int.reduceLT, Int.reduceLE, Int.reduceNeg, Int.reduceToNat, reduceCtorEq, ho, Try.results157]); done) | ((simp only [go_sem, Nat.reduceEqDiff, Nat.reduceAdd, Nat.reduceSub, Nat.reduceLeDiff, Nat.reduceLT, Nat.reduceMul, Nat.reduceBEq, Int.reduceEq, Int.reduceLT, Int.reduceLE, Int.reduceNeg, Int.reduceToNat, reduceCtorEq, ho, Try.results157]); rfl)))
  simp only [go_sem, Nat.reduceEqDiff, Nat.reduceAdd, Nat.reduceSub, Nat.reduceLeDiff, Nat.reduceLT, Nat.reduceMul, Nat.reduceBEq, Int.reduceEq, Int.reduceLT, Int.reduceLE, Int.reduceNeg, Int.reduceToNat, reduceCtorEq, ho, Try.results157, hw, tnot]
def least : List Int → Int → Int
  | [], t => t
  | x :: l, t => least l (if normal x < t then normal x else t)
theorem ok188 : okCode M0 Try.f188.ntmps (Try.f188.body.getD .skip) = true := by decide +kernel
theorem least_fn (l : List Int) (hl : l.length ≤ 1000000000) : Fc 188 [.sl (l.map (.int .i64))] (.int .i64 (least l 2)) := by
  refine fn_of_awp (E := E0) (M := M0) follows Try.func188 rfl (by decide) ok188 (by decide) (by simp) fun o ho => ?_
  simp only [go_sem, Nat.reduceEqDiff, Nat.reduceAdd, Nat.reduceSub, Nat.reduceLeDiff, Nat.reduceLT, Nat.reduceMul, Nat.reduceBEq, Int.reduceEq, Int.reduceLT, Int.reduceLE, Int.reduceNeg, Int.reduceToNat, reduceCtorEq, ho, Try.results188]
  refine ⟨fun n st => ∃ (i : Nat) (rest : List Int) (t : Int), l.drop i = rest ∧ i + rest.length = l.length ∧ rest.length = n ∧ least rest t = least l 2 ∧ st.s 8 = .int .i64 i ∧ st.s 7 = .int .i64 l.length ∧ st.s 6 = .sl (l.map (.int .i64)) ∧ st.s 3 = .int .i64 t, l.length, ⟨0, l, 2, rfl, by simp, rfl, rfl, by simp only [go_sem, Nat.reduceEqDiff, Nat.reduceAdd, Nat.reduceSub, Nat.reduceLeDiff, Nat.reduceLT, Nat.reduceMul, Nat.reduceBEq, Int.reduceEq, Int.reduceLT, Int.reduceLE, Int.reduceNeg, Int.reduceToNat, reduceCtorEq, ho, Try.results188]; rfl, by simp only [go_sem, Nat.reduceEqDiff, Nat.reduceAdd, Nat.reduceSub, Nat.reduceLeDiff, Nat.reduceLT, Nat.reduceMul, Nat.reduceBEq, Int.reduceEq, Int.reduceLT, Int.reduceLE, Int.reduceNeg, Int.reduceToNat, reduceCtorEq, ho, Try.results188], by simp only [go_sem, Nat.reduceEqDiff, Nat.reduceAdd, Nat.reduceSub, Nat.reduceLeDiff, Nat.reduceLT, Nat.reduceMul, Nat.reduceBEq, Int.reduceEq, Int.reduceLT, Int.reduceLE, Int.reduceNeg, Int.reduceToNat, reduceCtorEq, ho, Try.results188], by simp only [go_sem, Nat.reduceEqDiff, Nat.reduceAdd, Nat.reduceSub, Nat.reduceLeDiff, Nat.reduceLT, Nat.reduceMul, Nat.reduceBEq, Int.reduceEq, Int.reduceLT, Int.reduceLE, Int.reduceNeg, Int.reduceToNat, reduceCtorEq, ho, Try.results188]⟩, ?_⟩
  rintro n st ⟨i, rest, t, hr, hi, hn, ht, h8, h7, h6, h3⟩
  have hw : IntKind.i64.wrap ((i : Int) + 1) = (i : Int) + 1 := wrap_fits (by omega) (by omega)
  cases rest with
  | nil =>
    have hlt : ¬ (i : Int) < (l.length : Int) := by simp at hi; omega
    simp only [go_sem, Nat.reduceEqDiff, Nat.reduceAdd, Nat.reduceSub, Nat.reduceLeDiff, Nat.reduceLT, Nat.reduceMul, Nat.reduceBEq, Int.reduceEq, Int.reduceLT, Int.reduceLE, Int.reduceNeg, Int.reduceToNat, reduceCtorEq, ho, Try.results188, h8, h7, hlt, h3]
    rw [← ht]; rfl
  | cons x rest =>
    have hlt : (i : Int) < (l.length : Int) := by simp at hi; omega
    have hget : (l.map (PV.int .i64))[i]? = some (.int .i64 x) := by
      have : l[i]? = some x := by rw [← List.head?_drop, hr]; rfl
      rw [List.getElem?_map, this]; rfl
    simp only [go_sem, Nat.reduceEqDiff, Nat.reduceAdd, Nat.reduceSub, Nat.reduceLeDiff, Nat.reduceLT, Nat.reduceMul, Nat.reduceBEq, Int.reduceEq, Int.reduceLT, Int.reduceLE, Int.reduceNeg, Int.reduceToNat, reduceCtorEq, ho, Try.results188, h8, h7, h6, h3, hlt, hget, Int.natCast_nonneg, Int.toNat_natCast]
    refine GCall.fr ?_ (normal_fn x) (.inl rfl) ?_; (focus (first | rfl | ((simp only [go_sem, Nat.reduceEqDiff, Nat.reduceAdd, Nat.reduceSub, Nat.reduceLeDiff, Nat.reduceLT, Nat.reduceMul, Nat.reduceBEq, Int.reduceEq, Int.reduceLT, Int.reduceLE, Int.reduceNeg, Int.reduceToNat, reduceCtorEq, ho, Try.results188]); done) | ((simp only [go_sem, Nat.reduceEqDiff, Nat.reduceAdd, Nat.reduceSub, Nat.reduceLeDiff, Nat.reduceLT, Nat.reduceMul, Nat.reduceBEq, Int.reduceEq, Int.reduceLT, Int.reduceLE, Int.reduceNeg, Int.reduceToNat, reduceCtorEq, ho, Try.results188]); rfl)))
    simp only [go_sem, Nat.reduceEqDiff, Nat.reduceAdd, Nat.reduceSub, Nat.reduceLeDiff, Nat.reduceLT, Nat.reduceMul, Nat.reduceBEq, Int.reduceEq, Int.reduceLT, Int.reduceLE, Int.reduceNeg, Int.reduceToNat, reduceCtorEq, ho, Try.results188, h8, h7, h6, h3, hw]
    refine ⟨rest.length, by simp at hn; omega, i + 1, rest, _, by rw [← List.drop_drop, hr]; rfl, by simp at hi; omega, rfl, ht, by simp⟩
end Go.Proofs.Ytiefnninebilbaa
