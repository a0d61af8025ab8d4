/- The program's types, as the abstract machine wants them; no condition. -/
import Derived.Test.YtiefnninebilbaaProg
import Derived.Test.YtiefnninebilbaaMsd
import Derived.Lib.Bytealg
import Derived.Lib.Strings
set_option maxRecDepth 100000
set_option linter.unusedVariables false
namespace Go.Proofs.Ytiefnninebilbaa
open Go Go.Sx
noncomputable abbrev P0 : Program := Try.prog
theorem tinf_3 : tinf P0 3 = some (false, 1) := by kernel_rfl
theorem kd_3 : kd P0 3 = .other := by kernel_rfl
theorem zpv_3 : zpv P0 3 = some (.int .i64 0) := by kernel_rfl
theorem tinf_4 : tinf P0 4 = some (false, 1) := by kernel_rfl
theorem kd_4 : kd P0 4 = .bool := by kernel_rfl
theorem zpv_4 : zpv P0 4 = some (.bool false) := by kernel_rfl
theorem tinf_5 : tinf P0 5 = some (false, 1) := by kernel_rfl
theorem kd_5 : kd P0 5 = .other := by kernel_rfl
theorem zpv_5 : zpv P0 5 = some (.int .u8 0) := by kernel_rfl
theorem tinf_9 : tinf P0 9 = some (false, 1) := by kernel_rfl
theorem kd_9 : kd P0 9 = .string := by kernel_rfl
theorem zpv_9 : zpv P0 9 = some (.str ⟨#[]⟩) := by kernel_rfl
theorem tinf_21 : tinf P0 21 = some (false, 1) := by kernel_rfl
theorem kd_21 : kd P0 21 = .other := by kernel_rfl
theorem zpv_21 : zpv P0 21 = some (.int .i32 0) := by kernel_rfl
theorem tinf_22 : tinf P0 22 = some (false, 1) := by kernel_rfl
theorem kd_22 : kd P0 22 = .slice := by kernel_rfl
theorem selem_22 : selem P0 22 = some (38, 3) := by kernel_rfl
theorem einf_22 : einf P0 22 = some (38, 3, 32, [.str ⟨#[]⟩, .int .i64 0, .bool false]) := by kernel_rfl
theorem zpv_22 : zpv P0 22 = some (.nil) := by kernel_rfl
theorem tinf_23 : tinf P0 23 = some (false, 1) := by kernel_rfl
theorem kd_23 : kd P0 23 = .slice := by kernel_rfl
theorem selem_23 : selem P0 23 = some (3, 1) := by kernel_rfl
theorem einf_23 : einf P0 23 = some (3, 1, 8, [.int .i64 0]) := by kernel_rfl
theorem zpv_23 : zpv P0 23 = some (.nil) := by kernel_rfl
theorem tinf_24 : tinf P0 24 = some (false, 1) := by kernel_rfl
theorem kd_24 : kd P0 24 = .slice := by kernel_rfl
theorem selem_24 : selem P0 24 = some (137, 2) := by kernel_rfl
theorem einf_24 : einf P0 24 = some (137, 2, 40, [.nil, .str ⟨#[]⟩]) := by kernel_rfl
theorem zpv_24 : zpv P0 24 = some (.nil) := by kernel_rfl
theorem tinf_25 : tinf P0 25 = some (false, 1) := by kernel_rfl
theorem kd_25 : kd P0 25 = .slice := by kernel_rfl
theorem selem_25 : selem P0 25 = some (49, 7) := by kernel_rfl
theorem einf_25 : einf P0 25 = some (49, 7, 88, [.int .i64 0, .int .i64 0, .int .i64 0, .int .i64 0, .str ⟨#[]⟩, .str ⟨#[]⟩, .nil]) := by kernel_rfl
theorem zpv_25 : zpv P0 25 = some (.nil) := by kernel_rfl
theorem tinf_27 : tinf P0 27 = some (true, 5) := by kernel_rfl
theorem kd_27 : kd P0 27 = .other := by kernel_rfl
theorem fld_27_0 : fld P0 27 0 = some (0, 1, 9) := by kernel_rfl
theorem fld_27_1 : fld P0 27 1 = some (1, 1, 22) := by kernel_rfl
theorem fld_27_2 : fld P0 27 2 = some (2, 1, 23) := by kernel_rfl
theorem fld_27_3 : fld P0 27 3 = some (3, 1, 24) := by kernel_rfl
theorem fld_27_4 : fld P0 27 4 = some (4, 1, 25) := by kernel_rfl
theorem zpv_27 : zpv P0 27 = some (.agg [.str ⟨#[]⟩, .nil, .nil, .nil, .nil]) := by kernel_rfl
theorem bld_27 : bld P0 27 = some ([.str ⟨#[]⟩, .nil, .nil, .nil, .nil], [(0, 1), (1, 1), (2, 1), (3, 1), (4, 1)]) := by kernel_rfl
theorem tinf_29 : tinf P0 29 = some (false, 1) := by kernel_rfl
theorem kd_29 : kd P0 29 = .other := by kernel_rfl
theorem zpv_29 : zpv P0 29 = some (.int .i64 0) := by kernel_rfl
theorem tinf_33 : tinf P0 33 = some (false, 1) := by kernel_rfl
theorem kd_33 : kd P0 33 = .slice := by kernel_rfl
theorem selem_33 : selem P0 33 = some (42, 3) := by kernel_rfl
theorem einf_33 : einf P0 33 = some (42, 3, 32, [.int .i64 0, .int .i64 0, .str ⟨#[]⟩]) := by kernel_rfl
theorem zpv_33 : zpv P0 33 = some (.nil) := by kernel_rfl
theorem tinf_38 : tinf P0 38 = some (true, 3) := by kernel_rfl
theorem kd_38 : kd P0 38 = .other := by kernel_rfl
theorem fld_38_0 : fld P0 38 0 = some (0, 1, 9) := by kernel_rfl
theorem fld_38_1 : fld P0 38 1 = some (1, 1, 3) := by kernel_rfl
theorem fld_38_2 : fld P0 38 2 = some (2, 1, 4) := by kernel_rfl
theorem zpv_38 : zpv P0 38 = some (.agg [.str ⟨#[]⟩, .int .i64 0, .bool false]) := by kernel_rfl
theorem bld_38 : bld P0 38 = some ([.str ⟨#[]⟩, .int .i64 0, .bool false], [(0, 1), (1, 1), (2, 1)]) := by kernel_rfl
theorem tinf_42 : tinf P0 42 = some (true, 3) := by kernel_rfl
theorem kd_42 : kd P0 42 = .other := by kernel_rfl
theorem fld_42_0 : fld P0 42 0 = some (0, 1, 3) := by kernel_rfl
theorem fld_42_1 : fld P0 42 1 = some (1, 1, 3) := by kernel_rfl
theorem fld_42_2 : fld P0 42 2 = some (2, 1, 9) := by kernel_rfl
theorem zpv_42 : zpv P0 42 = some (.agg [.int .i64 0, .int .i64 0, .str ⟨#[]⟩]) := by kernel_rfl
theorem bld_42 : bld P0 42 = some ([.int .i64 0, .int .i64 0, .str ⟨#[]⟩], [(0, 1), (1, 1), (2, 1)]) := by kernel_rfl
theorem tinf_49 : tinf P0 49 = some (true, 7) := by kernel_rfl
theorem kd_49 : kd P0 49 = .other := by kernel_rfl
theorem fld_49_0 : fld P0 49 0 = some (0, 1, 3) := by kernel_rfl
theorem fld_49_1 : fld P0 49 1 = some (1, 1, 3) := by kernel_rfl
theorem fld_49_2 : fld P0 49 2 = some (2, 3, 42) := by kernel_rfl
theorem fld_49_3 : fld P0 49 3 = some (5, 1, 9) := by kernel_rfl
theorem fld_49_4 : fld P0 49 4 = some (6, 1, 25) := by kernel_rfl
theorem zpv_49 : zpv P0 49 = some (.agg [.int .i64 0, .int .i64 0, .int .i64 0, .int .i64 0, .str ⟨#[]⟩, .str ⟨#[]⟩, .nil]) := by kernel_rfl
theorem bld_49 : bld P0 49 = some ([.int .i64 0, .int .i64 0, .int .i64 0, .int .i64 0, .str ⟨#[]⟩, .str ⟨#[]⟩, .nil], [(0, 1), (1, 1), (2, 3), (5, 1), (6, 1)]) := by kernel_rfl
theorem tinf_61 : tinf P0 61 = some (true, 2) := by kernel_rfl
theorem kd_61 : kd P0 61 = .other := by kernel_rfl
theorem fld_61_0 : fld P0 61 0 = some (0, 1, 3) := by kernel_rfl
theorem fld_61_1 : fld P0 61 1 = some (1, 1, 3) := by kernel_rfl
theorem zpv_61 : zpv P0 61 = some (.agg [.int .i64 0, .int .i64 0]) := by kernel_rfl
theorem bld_61 : bld P0 61 = some ([.int .i64 0, .int .i64 0], [(0, 1), (1, 1)]) := by kernel_rfl
theorem tinf_69 : tinf P0 69 = some (false, 1) := by kernel_rfl
theorem kd_69 : kd P0 69 = .slice := by kernel_rfl
theorem selem_69 : selem P0 69 = some (72, 5) := by kernel_rfl
theorem einf_69 : einf P0 69 = some (72, 5, 48, [.int .i64 0, .int .i64 0, .int .i64 0, .int .i64 0, .str ⟨#[]⟩]) := by kernel_rfl
theorem zpv_69 : zpv P0 69 = some (.nil) := by kernel_rfl
theorem tinf_72 : tinf P0 72 = some (true, 5) := by kernel_rfl
theorem kd_72 : kd P0 72 = .other := by kernel_rfl
theorem fld_72_0 : fld P0 72 0 = some (0, 1, 3) := by kernel_rfl
theorem fld_72_1 : fld P0 72 1 = some (1, 1, 3) := by kernel_rfl
theorem fld_72_2 : fld P0 72 2 = some (2, 3, 42) := by kernel_rfl
theorem zpv_72 : zpv P0 72 = some (.agg [.int .i64 0, .int .i64 0, .int .i64 0, .int .i64 0, .str ⟨#[]⟩]) := by kernel_rfl
theorem bld_72 : bld P0 72 = some ([.int .i64 0, .int .i64 0, .int .i64 0, .int .i64 0, .str ⟨#[]⟩], [(0, 1), (1, 1), (2, 3)]) := by kernel_rfl
theorem tinf_73 : tinf P0 73 = some (false, 1) := by kernel_rfl
theorem kd_73 : kd P0 73 = .slice := by kernel_rfl
theorem selem_73 : selem P0 73 = some (76, 2) := by kernel_rfl
theorem einf_73 : einf P0 73 = some (76, 2, 16, [.int .i64 0, .int .i64 0]) := by kernel_rfl
theorem zpv_73 : zpv P0 73 = some (.nil) := by kernel_rfl
theorem tinf_76 : tinf P0 76 = some (true, 2) := by kernel_rfl
theorem kd_76 : kd P0 76 = .other := by kernel_rfl
theorem fld_76_0 : fld P0 76 0 = some (0, 1, 3) := by kernel_rfl
theorem fld_76_1 : fld P0 76 1 = some (1, 1, 3) := by kernel_rfl
theorem zpv_76 : zpv P0 76 = some (.agg [.int .i64 0, .int .i64 0]) := by kernel_rfl
theorem bld_76 : bld P0 76 = some ([.int .i64 0, .int .i64 0], [(0, 1), (1, 1)]) := by kernel_rfl
theorem tinf_92 : tinf P0 92 = some (false, 1) := by kernel_rfl
theorem kd_92 : kd P0 92 = .slice := by kernel_rfl
theorem selem_92 : selem P0 92 = some (9, 1) := by kernel_rfl
theorem einf_92 : einf P0 92 = some (9, 1, 16, [.str ⟨#[]⟩]) := by kernel_rfl
theorem zpv_92 : zpv P0 92 = some (.nil) := by kernel_rfl
theorem tinf_94 : tinf P0 94 = some (false, 1) := by kernel_rfl
theorem kd_94 : kd P0 94 = .slice := by kernel_rfl
theorem selem_94 : selem P0 94 = some (30, 1) := by kernel_rfl
theorem zpv_94 : zpv P0 94 = some (.nil) := by kernel_rfl
theorem tinf_115 : tinf P0 115 = some (true, 2) := by kernel_rfl
theorem kd_115 : kd P0 115 = .other := by kernel_rfl
theorem fld_115_0 : fld P0 115 0 = some (0, 1, 3) := by kernel_rfl
theorem fld_115_1 : fld P0 115 1 = some (1, 1, 3) := by kernel_rfl
theorem zpv_115 : zpv P0 115 = some (.agg [.int .i64 0, .int .i64 0]) := by kernel_rfl
theorem bld_115 : bld P0 115 = some ([.int .i64 0, .int .i64 0], [(0, 1), (1, 1)]) := by kernel_rfl
theorem tinf_118 : tinf P0 118 = some (true, 2) := by kernel_rfl
theorem kd_118 : kd P0 118 = .other := by kernel_rfl
theorem fld_118_0 : fld P0 118 0 = some (0, 1, 3) := by kernel_rfl
theorem fld_118_1 : fld P0 118 1 = some (1, 1, 3) := by kernel_rfl
theorem zpv_118 : zpv P0 118 = some (.agg [.int .i64 0, .int .i64 0]) := by kernel_rfl
theorem bld_118 : bld P0 118 = some ([.int .i64 0, .int .i64 0], [(0, 1), (1, 1)]) := by kernel_rfl
theorem tinf_137 : tinf P0 137 = some (true, 2) := by kernel_rfl
theorem kd_137 : kd P0 137 = .other := by kernel_rfl
theorem fld_137_0 : fld P0 137 0 = some (0, 1, 23) := by kernel_rfl
theorem fld_137_1 : fld P0 137 1 = some (1, 1, 9) := by kernel_rfl
theorem zpv_137 : zpv P0 137 = some (.agg [.nil, .str ⟨#[]⟩]) := by kernel_rfl
theorem bld_137 : bld P0 137 = some ([.nil, .str ⟨#[]⟩], [(0, 1), (1, 1)]) := by kernel_rfl
theorem tinf_160 : tinf P0 160 = some (false, 1) := by kernel_rfl
theorem kd_160 : kd P0 160 = .other := by kernel_rfl
theorem zpv_160 : zpv P0 160 = some (.int .u64 0) := by kernel_rfl
theorem tinf_182 : tinf P0 182 = some (true, 3) := by kernel_rfl
theorem kd_182 : kd P0 182 = .other := by kernel_rfl
theorem fld_182_0 : fld P0 182 0 = some (0, 1, 9) := by kernel_rfl
theorem fld_182_1 : fld P0 182 1 = some (1, 1, 4) := by kernel_rfl
theorem fld_182_2 : fld P0 182 2 = some (2, 1, 4) := by kernel_rfl
theorem zpv_182 : zpv P0 182 = some (.agg [.str ⟨#[]⟩, .bool false, .bool false]) := by kernel_rfl
theorem bld_182 : bld P0 182 = some ([.str ⟨#[]⟩, .bool false, .bool false], [(0, 1), (1, 1), (2, 1)]) := by kernel_rfl
theorem tinf_184 : tinf P0 184 = some (false, 1) := by kernel_rfl
theorem kd_184 : kd P0 184 = .other := by kernel_rfl
theorem zpv_184 : zpv P0 184 = some (.int .u64 0) := by kernel_rfl
attribute [go_sem] tinf_3 kd_3 zpv_3 tinf_4 kd_4 zpv_4 tinf_5 kd_5 zpv_5 tinf_9 kd_9 zpv_9 tinf_21 kd_21 zpv_21 tinf_22 kd_22 selem_22 einf_22 zpv_22 tinf_23 kd_23 selem_23 einf_23 zpv_23 tinf_24 kd_24 selem_24 einf_24 zpv_24 tinf_25 kd_25 selem_25 einf_25 zpv_25 tinf_27 kd_27 fld_27_0 fld_27_1 fld_27_2 fld_27_3 fld_27_4 zpv_27 bld_27 tinf_29 kd_29 zpv_29 tinf_33 kd_33 selem_33 einf_33 zpv_33 tinf_38 kd_38 fld_38_0 fld_38_1 fld_38_2 zpv_38 bld_38 tinf_42 kd_42 fld_42_0 fld_42_1 fld_42_2 zpv_42 bld_42 tinf_49 kd_49 fld_49_0 fld_49_1 fld_49_2 fld_49_3 fld_49_4 zpv_49 bld_49 tinf_61 kd_61 fld_61_0 fld_61_1 zpv_61 bld_61 tinf_69 kd_69 selem_69 einf_69 zpv_69 tinf_72 kd_72 fld_72_0 fld_72_1 fld_72_2 zpv_72 bld_72 tinf_73 kd_73 selem_73 einf_73 zpv_73 tinf_76 kd_76 fld_76_0 fld_76_1 zpv_76 bld_76 tinf_92 kd_92 selem_92 einf_92 zpv_92 tinf_94 kd_94 selem_94 zpv_94 tinf_115 kd_115 fld_115_0 fld_115_1 zpv_115 bld_115 tinf_118 kd_118 fld_118_0 fld_118_1 zpv_118 bld_118 tinf_137 kd_137 fld_137_0 fld_137_1 zpv_137 bld_137 tinf_160 kd_160 zpv_160 tinf_182 kd_182 fld_182_0 fld_182_1 fld_182_2 zpv_182 bld_182 tinf_184 kd_184 zpv_184
theorem follows : P0.follows .mixedOrders = true := by decide +kernel
theorem sh42 : shapeOf P0 5 42 = some (true, [.int .i64, .int .i64, .str]) := by kernel_rfl
theorem sh61 : shapeOf P0 5 61 = some (true, [.int .i64, .int .i64]) := by kernel_rfl
theorem sh72 : shapeOf P0 5 72 = some (true, [.int .i64, .int .i64, .int .i64, .int .i64, .str]) := by kernel_rfl
theorem sh76 : shapeOf P0 5 76 = some (true, [.int .i64, .int .i64]) := by kernel_rfl
theorem g42 : P0.eqGuardType P0.depth 42 = false := by decide +kernel
theorem g61 : P0.eqGuardType P0.depth 61 = false := by decide +kernel
theorem g72 : P0.eqGuardType P0.depth 72 = false := by decide +kernel
theorem g76 : P0.eqGuardType P0.depth 76 = false := by decide +kernel
def eqT0 (T : TypeId) : Option (List Sc) :=
  if T = 42 then some [.int .i64, .int .i64, .str] else if T = 61 then some [.int .i64, .int .i64] else if T = 72 then some [.int .i64, .int .i64, .int .i64, .int .i64, .str] else if T = 76 then some [.int .i64, .int .i64] else none
theorem eqOk0 : ∀ T sh, eqT0 T = some sh → EqRun P0 T sh := by
  intro T sh h
  unfold eqT0 at h
  split at h
  · rename_i e; subst e; cases h; exact eqRun_plain sh42 (by decide) g42
  · split at h
    · rename_i e; subst e; cases h; exact eqRun_plain sh61 (by decide) g61
    · split at h
      · rename_i e; subst e; cases h; exact eqRun_plain sh72 (by decide) g72
      · split at h
        · rename_i e; subst e; cases h; exact eqRun_plain sh76 (by decide) g76
        · cases h
/-- Types whose '==' is plain. -/
noncomputable def E0 : Env P0 := { eqT := eqT0, ok := eqOk0 }
@[go_sem] theorem E0_key (d : Nat) : E0.key d = d := rfl
@[go_sem] theorem eq42 : E0.eqT 42 = some [.int .i64, .int .i64, .str] := by kernel_rfl
@[go_sem] theorem eq61 : E0.eqT 61 = some [.int .i64, .int .i64] := by kernel_rfl
@[go_sem] theorem eq72 : E0.eqT 72 = some [.int .i64, .int .i64, .int .i64, .int .i64, .str] := by kernel_rfl
@[go_sem] theorem eq76 : E0.eqT 76 = some [.int .i64, .int .i64] := by kernel_rfl
@[go_sem] theorem mkd_133 : mkd P0 133 = some true := by kernel_rfl
@[go_sem] theorem mkd_138 : mkd P0 138 = some false := by kernel_rfl
@[go_sem] theorem einl_22 : einl P0 22 = some (38, 3) := by kernel_rfl
@[go_sem] theorem einl_23 : einl P0 23 = some (3, 1) := by kernel_rfl
@[go_sem] theorem einl_24 : einl P0 24 = some (137, 2) := by kernel_rfl
@[go_sem] theorem einl_25 : einl P0 25 = some (49, 7) := by kernel_rfl
@[go_sem] theorem einl_33 : einl P0 33 = some (42, 3) := by kernel_rfl
@[go_sem] theorem einl_69 : einl P0 69 = some (72, 5) := by kernel_rfl
@[go_sem] theorem einl_73 : einl P0 73 = some (76, 2) := by kernel_rfl
@[go_sem] theorem einl_92 : einl P0 92 = some (9, 1) := by kernel_rfl
@[go_sem] theorem einl_94 : einl P0 94 = some (30, 1) := by kernel_rfl
end Go.Proofs.Ytiefnninebilbaa
/- The program's data as plain Lean data, and how they look to the abstract machine; no condition. -/
set_option maxRecDepth 100000
set_option linter.unusedVariables false
set_option linter.unusedSimpArgs false
namespace Go.Proofs.Ytiefnninebilbaa
open Go Go.Sx

@[go_sem] theorem int_beq (a b : Int) : (a == b) = decide (a = b) := rfl
@[go_sem] theorem int_bne (a b : Int) : (a != b) = !decide (a = b) := rfl
theorem ba_beq (a b : ByteArray) : (a == b) = decide (a = b) := by
  rw [beq_toListBytes, ByteArray.toList_eq, ByteArray.toList_eq]
  by_cases h : a = b
  · subst h; simp
  · have : ¬ a.data.toList = b.data.toList := fun e => h (ByteArray.ext (Array.toList_inj.1 e))
    rw [decide_eq_false h]
    simpa using fun e => h (ByteArray.ext e)
@[go_sem] theorem ba_beq' (a b : ByteArray) : (a == b) = decide (a = b) := ba_beq a b
@[go_sem] theorem toList_beq (a b : ByteArray) : (a.toList == b.toList) = decide (a = b) := by rw [← beq_toListBytes, ba_beq]
attribute [go_sem] cellsEq scEq fits Bool.false_and Bool.and_false Bool.true_or Bool.false_or Bool.or_false Bool.or_true beq_self_eq_true not_true not_false_eq_true PV.int.injEq PV.bool.injEq PV.str.injEq PV.agg.injEq PV.sl.injEq PV.tup.injEq PV.ptr.injEq PV.ref.injEq List.cons.injEq true_or false_or or_true or_false or_self List.length_map
abbrev Fc (f : FuncId) (args : List PV) (r : PV) : Prop := Sx.Fn P0 f args r
def M0 : Nat → Nat → Option Md := fun _ _ => none
@[go_sem] theorem mdOf_M0 {id i : Nat} {o : Oper} : mdOf M0 id true i o = dmd o := rfl

structure Vl where
  kind : Int
  int : Int
  text : ByteArray
inductive Ex where
  | mk (op int : Int) (val : Vl) (name : ByteArray) (args : List Ex)
namespace Ex
def op : Ex → Int | mk a _ _ _ _ => a
def int : Ex → Int | mk _ a _ _ _ => a
def val : Ex → Vl | mk _ _ a _ _ => a
def name : Ex → ByteArray | mk _ _ _ a _ => a
def args : Ex → List Ex | mk _ _ _ _ a => a
end Ex
def Vl.cells (v : Vl) : List PV := [.int .i64 v.kind, .int .i64 v.int, .str v.text]
def Vl.enc (v : Vl) : PV := .agg [.int .i64 v.kind, .int .i64 v.int, .str v.text]
@[go_sem] theorem Vl.enc_cells (v : Vl) : v.enc.cells = [.int .i64 v.kind, .int .i64 v.int, .str v.text] := rfl
mutual
def Ex.size : Ex → Nat
  | .mk _ _ _ _ args => 1 + Ex.sizes args
def Ex.sizes : List Ex → Nat
  | [] => 0
  | e :: l => e.size + Ex.sizes l
end
mutual
def Ex.enc : Ex → PV
  | .mk op int v name args => .agg [.int .i64 op, .int .i64 int, .int .i64 v.kind, .int .i64 v.int, .str v.text, .str name, .sl (Ex.encs args)]
def Ex.encs : List Ex → List PV
  | [] => []
  | e :: l => e.enc :: Ex.encs l
end
theorem Ex.encs_map : ∀ l, Ex.encs l = l.map Ex.enc
  | [] => rfl
  | e :: l => by rw [Ex.encs, Ex.encs_map l]; rfl
theorem Ex.enc_eq (e : Ex) : e.enc = .agg [.int .i64 e.op, .int .i64 e.int, .int .i64 e.val.kind, .int .i64 e.val.int, .str e.val.text, .str e.name, .sl (e.args.map Ex.enc)] := by
  cases e; rw [Ex.enc, Ex.encs_map]; rfl
@[go_sem] theorem Ex.enc_cells (e : Ex) : e.enc.cells = [.int .i64 e.op, .int .i64 e.int, .int .i64 e.val.kind, .int .i64 e.val.int, .str e.val.text, .str e.name, .sl (e.args.map Ex.enc)] := by rw [e.enc_eq]; rfl
theorem Ex.sizes_app : ∀ l m, Ex.sizes (l ++ m) = Ex.sizes l + Ex.sizes m
  | [], m => by simp [Ex.sizes]
  | e :: l, m => by simp [Ex.sizes, Ex.sizes_app l m]; omega
theorem Ex.size_pos (e : Ex) : 0 < e.size := by cases e; rw [Ex.size]; omega
theorem Ex.size_eq (e : Ex) : e.size = 1 + Ex.sizes e.args := by cases e; rfl
theorem Ex.len_sizes : ∀ l, List.length l ≤ Ex.sizes l
  | [] => by simp
  | e :: l => by have := Ex.len_sizes l; have := e.size_pos; simp [Ex.sizes]; omega
theorem Ex.mem_size : ∀ {l : List Ex} {e : Ex}, e ∈ l → e.size ≤ Ex.sizes l
  | x :: l, e, h => by
    rcases List.mem_cons.1 h with rfl | h
    · simp [Ex.sizes]
    · have := Ex.mem_size h; simp [Ex.sizes]; omega
theorem Ex.ind {p : Ex → Prop} (h : ∀ e, (∀ x ∈ e.args, p x) → p e) : ∀ e, p e := by
  have : ∀ (n : Nat) (e : Ex), e.size ≤ n → p e := by
    intro n
    induction n with
    | zero => intro e he; have := e.size_pos; omega
    | succ n ih =>
      intro e he
      refine h e fun x hx => ih x ?_
      have := Ex.mem_size hx
      have := e.size_eq
      omega
  exact fun e => this _ e (Nat.le_refl _)
end Go.Proofs.Ytiefnninebilbaa
/- What the small functions over values return; no condition. -/
set_option maxRecDepth 100000
set_option linter.unusedVariables false
set_option linter.unusedSimpArgs false
namespace Go.Proofs.Ytiefnninebilbaa
open Go Go.Sx

def normal (a : Int) : Int := if a = 0 ∨ a = 2 then a else 1
theorem ok165 : okCode M0 Try.f165.ntmps (Try.f165.body.getD .skip) = true := by decide +kernel
theorem normal_fn (a : Int) : Fc 165 [.int .i64 a] (.int .i64 (normal a)) := by
  refine fn_of_awp (E := E0) (M := M0) follows Try.func165 rfl (by decide) ok165 (by decide) (by simp) fun o ho => ?_
  simp only [go_sem, Nat.reduceEqDiff, Nat.reduceAdd, Nat.reduceSub, Nat.reduceLeDiff, Nat.reduceLT, Nat.reduceMul, Nat.reduceBEq, Int.reduceEq, Int.reduceLT, Int.reduceLE, Int.reduceNeg, Int.reduceToNat, reduceCtorEq, ho, Try.results165]
  repeat' (first | (refine AIf_cases (fun h => ?_) (fun h => ?_) <;> (try simp only [decide_eq_true_eq, decide_eq_false_iff_not, Bool.not_eq_true', Bool.not_eq_false', Bool.not_eq_true, Bool.not_eq_false] at h) <;> (try simp only [go_sem, Nat.reduceEqDiff, Nat.reduceAdd, Nat.reduceSub, Nat.reduceLeDiff, Nat.reduceLT, Nat.reduceMul, Nat.reduceBEq, Int.reduceEq, Int.reduceLT, Int.reduceLE, Int.reduceNeg, Int.reduceToNat, reduceCtorEq, ho, Try.results165, h])))
  all_goals simp_all [normal]
def Vl.null : Vl := ⟨0, 0, ⟨#[]⟩⟩
theorem ok97 : okCode M0 Try.f97.ntmps (Try.f97.body.getD .skip) = true := by decide +kernel
theorem null_fn : Fc 97 [] (Vl.enc Vl.null) := by
  refine fn_of_awp (E := E0) (M := M0) follows Try.func97 rfl (by decide) ok97 (by decide) (by simp) fun o ho => ?_
  simp only [go_sem, Nat.reduceEqDiff, Nat.reduceAdd, Nat.reduceSub, Nat.reduceLeDiff, Nat.reduceLT, Nat.reduceMul, Nat.reduceBEq, Int.reduceEq, Int.reduceLT, Int.reduceLE, Int.reduceNeg, Int.reduceToNat, reduceCtorEq, ho, Try.results97, Vl.enc, Vl.null]
theorem ok100 : okCode M0 Try.f100.ntmps (Try.f100.body.getD .skip) = true := by decide +kernel
def Vl.bool (b : Bool) : Vl := ⟨3, if b then 1 else 0, ⟨#[]⟩⟩
theorem bool_fn (b : Bool) : Fc 100 [.bool b] (Vl.bool b).enc := by
  refine fn_of_awp (E := E0) (M := M0) follows Try.func100 rfl (by decide) ok100 (by decide) (by simp) fun o ho => ?_
  simp only [go_sem, Nat.reduceEqDiff, Nat.reduceAdd, Nat.reduceSub, Nat.reduceLeDiff, Nat.reduceLT, Nat.reduceMul, Nat.reduceBEq, Int.reduceEq, Int.reduceLT, Int.reduceLE, Int.reduceNeg, Int.reduceToNat, reduceCtorEq, ho, Try.results100, Vl.enc, Vl.bool]
  repeat' (first | (refine AIf_cases (fun h => ?_) (fun h => ?_) <;> (try simp only [decide_eq_true_eq, decide_eq_false_iff_not, Bool.not_eq_true', Bool.not_eq_false', Bool.not_eq_true, Bool.not_eq_false] at h) <;> (try simp only [go_sem, Nat.reduceEqDiff, Nat.reduceAdd, Nat.reduceSub, Nat.reduceLeDiff, Nat.reduceLT, Nat.reduceMul, Nat.reduceBEq, Int.reduceEq, Int.reduceLT, Int.reduceLE, Int.reduceNeg, Int.reduceToNat, reduceCtorEq, ho, Try.results100, h])))
def okByte (b : UInt8) : Bool := decide (32 ≤ b.toNat) && decide (b.toNat ≤ 126)
def printable (s : ByteArray) : Bool := s.data.toList.all okByte
theorem ba_get {s : ByteArray} {i : Nat} (h : i < s.size) : s[i]? = some s[i] := by simp [h]
theorem printable_at {s : ByteArray} {i : Nat} (h : i < s.size) (hp : okByte s[i] = false) : printable s = false := by
  rw [printable, List.all_eq_false]
  exact ⟨s[i], by rw [Array.mem_toList_iff]; exact Array.getElem_mem _, by simp [hp]⟩
theorem ok150 : okCode M0 Try.f150.ntmps (Try.f150.body.getD .skip) = true := by decide +kernel
theorem printable_fn (s : ByteArray) (hs : s.size ≤ 9223372036854775806) : Fc 150 [.str s] (.bool (printable s)) := by
  refine fn_of_awp (E := E0) (M := M0) follows Try.func150 rfl (by decide) ok150 (by decide) (by simp) fun o ho => ?_
  simp only [go_sem, Nat.reduceEqDiff, Nat.reduceAdd, Nat.reduceSub, Nat.reduceLeDiff, Nat.reduceLT, Nat.reduceMul, Nat.reduceBEq, Int.reduceEq, Int.reduceLT, Int.reduceLE, Int.reduceNeg, Int.reduceToNat, reduceCtorEq, ho, Try.results150]
  refine ⟨fun n st => ∃ i : Nat, i + n = s.size ∧ st.s 6 = .int .i64 i ∧ st.s 5 = .int .i64 s.size ∧ st.s 0 = .str s ∧ ∀ j (hj : j < s.size), j < i → okByte s[j] = true, s.size, ⟨0, by omega, by simp only [go_sem, Nat.reduceEqDiff, Nat.reduceAdd, Nat.reduceSub, Nat.reduceLeDiff, Nat.reduceLT, Nat.reduceMul, Nat.reduceBEq, Int.reduceEq, Int.reduceLT, Int.reduceLE, Int.reduceNeg, Int.reduceToNat, reduceCtorEq, ho, Try.results150]; rfl, by simp only [go_sem, Nat.reduceEqDiff, Nat.reduceAdd, Nat.reduceSub, Nat.reduceLeDiff, Nat.reduceLT, Nat.reduceMul, Nat.reduceBEq, Int.reduceEq, Int.reduceLT, Int.reduceLE, Int.reduceNeg, Int.reduceToNat, reduceCtorEq, ho, Try.results150], by simp only [go_sem, Nat.reduceEqDiff, Nat.reduceAdd, Nat.reduceSub, Nat.reduceLeDiff, Nat.reduceLT, Nat.reduceMul, Nat.reduceBEq, Int.reduceEq, Int.reduceLT, Int.reduceLE, Int.reduceNeg, Int.reduceToNat, reduceCtorEq, ho, Try.results150], fun j _ h => absurd h (Nat.not_lt_zero j)⟩, ?_⟩
  rintro n st ⟨i, hi, h6, h5, h0, hall⟩
  have hw : IntKind.i64.wrap ((i : Int) + 1) = (i : Int) + 1 := wrap_fits (by omega) (by omega)
  by_cases hlt : i < s.size
  · have hlt' : (i : Int) < (s.size : Int) := by omega
    have hget := ba_get hlt
    simp only [go_sem, Nat.reduceEqDiff, Nat.reduceAdd, Nat.reduceSub, Nat.reduceLeDiff, Nat.reduceLT, Nat.reduceMul, Nat.reduceBEq, Int.reduceEq, Int.reduceLT, Int.reduceLE, Int.reduceNeg, Int.reduceToNat, reduceCtorEq, ho, Try.results150, h6, h5, h0, hlt', Int.natCast_nonneg, Int.toNat_natCast, hget]
    have next : okByte s[i] = true → ∃ m, m < n ∧ ∃ k : Nat, k + m = s.size ∧ ((i : Int) + 1 = (k : Int)) ∧ ∀ j (hj : j < s.size), j < k → okByte s[j] = true := fun hok => ⟨n - 1, by omega, i + 1, by omega, by omega, fun j hj hji => by
      rcases Nat.lt_succ_iff_lt_or_eq.1 hji with h | rfl
      · exact hall j hj h
      · exact hok⟩
    repeat' (first | (refine AIf_cases (fun h => ?_) (fun h => ?_) <;> (try simp only [decide_eq_true_eq, decide_eq_false_iff_not, Bool.not_eq_true', Bool.not_eq_false', Bool.not_eq_true, Bool.not_eq_false] at h) <;> (try simp only [go_sem, Nat.reduceEqDiff, Nat.reduceAdd, Nat.reduceSub, Nat.reduceLeDiff, Nat.reduceLT, Nat.reduceMul, Nat.reduceBEq, Int.reduceEq, Int.reduceLT, Int.reduceLE, Int.reduceNeg, Int.reduceToNat, reduceCtorEq, ho, Try.results150, h, h6, h5, h0, hlt', Int.natCast_nonneg, Int.toNat_natCast, hget, hw])))
    · exact (printable_at hlt (by simp [okByte]; omega)).symm
    · exact next (by simp [okByte]; omega)
    · exact (printable_at hlt (by simp [okByte]; omega)).symm
  · have hlt' : ¬ (i : Int) < (s.size : Int) := by omega
    simp only [go_sem, Nat.reduceEqDiff, Nat.reduceAdd, Nat.reduceSub, Nat.reduceLeDiff, Nat.reduceLT, Nat.reduceMul, Nat.reduceBEq, Int.reduceEq, Int.reduceLT, Int.reduceLE, Int.reduceNeg, Int.reduceToNat, reduceCtorEq, ho, Try.results150, h6, h5, h0, hlt']
    have : printable s = true := by
      rw [printable, List.all_eq_true]
      intro b hb
      obtain ⟨j, hj, rfl⟩ := List.getElem_of_mem hb
      exact hall j (by simpa using hj) (by simp at hj; have : s.size = s.data.size := rfl; omega)
    rw [this]
abbrev emp : ByteArray := ⟨#[]⟩
def Vl.valid (v : Vl) : Bool :=
  if v.kind = 0 then decide (v.int = 0) && decide (v.text = emp)
  else if v.kind = 1 then decide (v.text = emp) && (decide (-1125899906842624 ≤ v.int) && decide (v.int ≤ 1125899906842624))
  else if v.kind = 2 then decide (v.int = 0) && (decide ((v.text.size : Int) ≤ 200) && printable v.text)
  else if v.kind = 3 then decide (v.text = emp) && (decide (v.int = 0) || decide (v.int = 1))
  else false
theorem ok85 : okCode M0 Try.f85.ntmps (Try.f85.body.getD .skip) = true := by decide +kernel
theorem valid_fn (v : Vl) : Fc 85 [v.enc] (.bool v.valid) := by
  refine fn_of_awp (E := E0) (M := M0) follows Try.func85 rfl (by decide) ok85 (by decide) (by simp) fun o ho => ?_
  simp only [go_sem, Nat.reduceEqDiff, Nat.reduceAdd, Nat.reduceSub, Nat.reduceLeDiff, Nat.reduceLT, Nat.reduceMul, Nat.reduceBEq, Int.reduceEq, Int.reduceLT, Int.reduceLE, Int.reduceNeg, Int.reduceToNat, reduceCtorEq, ho, Try.results85, Vl.enc]
  repeat' (first | (refine AIf_cases (fun h => ?_) (fun h => ?_) <;> (try simp only [decide_eq_true_eq, decide_eq_false_iff_not, Bool.not_eq_true', Bool.not_eq_false', Bool.not_eq_true, Bool.not_eq_false] at h) <;> (try simp only [go_sem, Nat.reduceEqDiff, Nat.reduceAdd, Nat.reduceSub, Nat.reduceLeDiff, Nat.reduceLT, Nat.reduceMul, Nat.reduceBEq, Int.reduceEq, Int.reduceLT, Int.reduceLE, Int.reduceNeg, Int.reduceToNat, reduceCtorEq, ho, Try.results85, h])) | (refine GCall.fr ?_ (printable_fn v.text (by omega)) (.inl rfl) ?_; (focus (first | rfl | ((simp only [go_sem, Nat.reduceEqDiff, Nat.reduceAdd, Nat.reduceSub, Nat.reduceLeDiff, Nat.reduceLT, Nat.reduceMul, Nat.reduceBEq, Int.reduceEq, Int.reduceLT, Int.reduceLE, Int.reduceNeg, Int.reduceToNat, reduceCtorEq, ho, Try.results85]); done) | ((simp only [go_sem, Nat.reduceEqDiff, Nat.reduceAdd, Nat.reduceSub, Nat.reduceLeDiff, Nat.reduceLT, Nat.reduceMul, Nat.reduceBEq, Int.reduceEq, Int.reduceLT, Int.reduceLE, Int.reduceNeg, Int.reduceToNat, reduceCtorEq, ho, Try.results85]); rfl))); (try simp only [go_sem, Nat.reduceEqDiff, Nat.reduceAdd, Nat.reduceSub, Nat.reduceLeDiff, Nat.reduceLT, Nat.reduceMul, Nat.reduceBEq, Int.reduceEq, Int.reduceLT, Int.reduceLE, Int.reduceNeg, Int.reduceToNat, reduceCtorEq, ho, Try.results85])) | (refine QCall.fr ?_ (printable_fn v.text (by omega)) (.inl rfl) ?_; (focus (first | rfl | ((simp only [go_sem, Nat.reduceEqDiff, Nat.reduceAdd, Nat.reduceSub, Nat.reduceLeDiff, Nat.reduceLT, Nat.reduceMul, Nat.reduceBEq, Int.reduceEq, Int.reduceLT, Int.reduceLE, Int.reduceNeg, Int.reduceToNat, reduceCtorEq, ho, Try.results85]); done) | ((simp only [go_sem, Nat.reduceEqDiff, Nat.reduceAdd, Nat.reduceSub, Nat.reduceLeDiff, Nat.reduceLT, Nat.reduceMul, Nat.reduceBEq, Int.reduceEq, Int.reduceLT, Int.reduceLE, Int.reduceNeg, Int.reduceToNat, reduceCtorEq, ho, Try.results85]); rfl))); (try simp only [go_sem, Nat.reduceEqDiff, Nat.reduceAdd, Nat.reduceSub, Nat.reduceLeDiff, Nat.reduceLT, Nat.reduceMul, Nat.reduceBEq, Int.reduceEq, Int.reduceLT, Int.reduceLE, Int.reduceNeg, Int.reduceToNat, reduceCtorEq, ho, Try.results85])))
  all_goals (first | (simp_all [Vl.valid]; done) | (simp_all [Vl.valid]; omega) | (simp_all [Vl.valid]; intros; omega) | (simp_all [Vl.valid]; (repeat' split) <;> (first | (simp_all; done) | (simp_all; omega) | omega)))
def Vl.orNull (v : Vl) : Vl := if v.valid then v else Vl.null
theorem ok190 : okCode M0 Try.f190.ntmps (Try.f190.body.getD .skip) = true := by decide +kernel
theorem orNull_fn (v : Vl) : Fc 190 [v.enc] v.orNull.enc := by
  refine fn_of_awp (E := E0) (M := M0) follows Try.func190 rfl (by decide) ok190 (by decide) (by simp) fun o ho => ?_
  simp only [go_sem, Nat.reduceEqDiff, Nat.reduceAdd, Nat.reduceSub, Nat.reduceLeDiff, Nat.reduceLT, Nat.reduceMul, Nat.reduceBEq, Int.reduceEq, Int.reduceLT, Int.reduceLE, Int.reduceNeg, Int.reduceToNat, reduceCtorEq, ho, Try.results190, Vl.enc]
  refine GCall.fr ?_ (valid_fn v) (.inl rfl) ?_; (focus (first | rfl | ((simp only [go_sem, Nat.reduceEqDiff, Nat.reduceAdd, Nat.reduceSub, Nat.reduceLeDiff, Nat.reduceLT, Nat.reduceMul, Nat.reduceBEq, Int.reduceEq, Int.reduceLT, Int.reduceLE, Int.reduceNeg, Int.reduceToNat, reduceCtorEq, ho, Try.results190]); done) | ((simp only [go_sem, Nat.reduceEqDiff, Nat.reduceAdd, Nat.reduceSub, Nat.reduceLeDiff, Nat.reduceLT, Nat.reduceMul, Nat.reduceBEq, Int.reduceEq, Int.reduceLT, Int.reduceLE, Int.reduceNeg, Int.reduceToNat, reduceCtorEq, ho, Try.results190]); rfl)))
  simp only [go_sem, Nat.reduceEqDiff, Nat.reduceAdd, Nat.reduceSub, Nat.reduceLeDiff, Nat.reduceLT, Nat.reduceMul, Nat.reduceBEq, Int.reduceEq, Int.reduceLT, Int.reduceLE, Int.reduceNeg, Int.reduceToNat, reduceCtorEq, ho, Try.results190]
  repeat' (first | (refine AIf_cases (fun h => ?_) (fun h => ?_) <;> (try simp only [decide_eq_true_eq, decide_eq_false_iff_not, Bool.not_eq_true', Bool.not_eq_false', Bool.not_eq_true, Bool.not_eq_false] at h) <;> (try simp only [go_sem, Nat.reduceEqDiff, Nat.reduceAdd, Nat.reduceSub, Nat.reduceLeDiff, Nat.reduceLT, Nat.reduceMul, Nat.reduceBEq, Int.reduceEq, Int.reduceLT, Int.reduceLE, Int.reduceNeg, Int.reduceToNat, reduceCtorEq, ho, Try.results190, h])))
  · refine GCall.fr ?_ (null_fn) (.inl rfl) ?_; (focus (first | rfl | ((simp only [go_sem, Nat.reduceEqDiff, Nat.reduceAdd, Nat.reduceSub, Nat.reduceLeDiff, Nat.reduceLT, Nat.reduceMul, Nat.reduceBEq, Int.reduceEq, Int.reduceLT, Int.reduceLE, Int.reduceNeg, Int.reduceToNat, reduceCtorEq, ho, Try.results190]); done) | ((simp only [go_sem, Nat.reduceEqDiff, Nat.reduceAdd, Nat.reduceSub, Nat.reduceLeDiff, Nat.reduceLT, Nat.reduceMul, Nat.reduceBEq, Int.reduceEq, Int.reduceLT, Int.reduceLE, Int.reduceNeg, Int.reduceToNat, reduceCtorEq, ho, Try.results190]); rfl)))
    simp only [go_sem, Nat.reduceEqDiff, Nat.reduceAdd, Nat.reduceSub, Nat.reduceLeDiff, Nat.reduceLT, Nat.reduceMul, Nat.reduceBEq, Int.reduceEq, Int.reduceLT, Int.reduceLE, Int.reduceNeg, Int.reduceToNat, reduceCtorEq, ho, Try.results190, Vl.enc, Vl.null]
    simp_all [Vl.orNull, Vl.null]
  · simp_all [Vl.orNull]
def Vl.num (n : Int) : Vl := Vl.orNull ⟨1, n, emp⟩
theorem ok162 : okCode M0 Try.f162.ntmps (Try.f162.body.getD .skip) = true := by decide +kernel
theorem num_fn (n : Int) : Fc 162 [.int .i64 n] (Vl.num n).enc := by
  refine fn_of_awp (E := E0) (M := M0) follows Try.func162 rfl (by decide) ok162 (by decide) (by simp) fun o ho => ?_
  simp only [go_sem, Nat.reduceEqDiff, Nat.reduceAdd, Nat.reduceSub, Nat.reduceLeDiff, Nat.reduceLT, Nat.reduceMul, Nat.reduceBEq, Int.reduceEq, Int.reduceLT, Int.reduceLE, Int.reduceNeg, Int.reduceToNat, reduceCtorEq, ho, Try.results162]
  refine GCall.fr ?_ (orNull_fn ⟨1, n, emp⟩) (.inl rfl) ?_; (focus (first | rfl | ((simp only [go_sem, Nat.reduceEqDiff, Nat.reduceAdd, Nat.reduceSub, Nat.reduceLeDiff, Nat.reduceLT, Nat.reduceMul, Nat.reduceBEq, Int.reduceEq, Int.reduceLT, Int.reduceLE, Int.reduceNeg, Int.reduceToNat, reduceCtorEq, ho, Try.results162]); done) | ((simp only [go_sem, Nat.reduceEqDiff, Nat.reduceAdd, Nat.reduceSub, Nat.reduceLeDiff, Nat.reduceLT, Nat.reduceMul, Nat.reduceBEq, Int.reduceEq, Int.reduceLT, Int.reduceLE, Int.reduceNeg, Int.reduceToNat, reduceCtorEq, ho, Try.results162]); rfl)))
  simp only [go_sem, Nat.reduceEqDiff, Nat.reduceAdd, Nat.reduceSub, Nat.reduceLeDiff, Nat.reduceLT, Nat.reduceMul, Nat.reduceBEq, Int.reduceEq, Int.reduceLT, Int.reduceLE, Int.reduceNeg, Int.reduceToNat, reduceCtorEq, ho, Try.results162, Vl.enc, Vl.num]
def Vl.txt (s : ByteArray) : Vl := Vl.orNull ⟨2, 0, s⟩
theorem ok163 : okCode M0 Try.f163.ntmps (Try.f163.body.getD .skip) = true := by decide +kernel
theorem txt_fn (s : ByteArray) : Fc 163 [.str s] (Vl.txt s).enc := by
  refine fn_of_awp (E := E0) (M := M0) follows Try.func163 rfl (by decide) ok163 (by decide) (by simp) fun o ho => ?_
  simp only [go_sem, Nat.reduceEqDiff, Nat.reduceAdd, Nat.reduceSub, Nat.reduceLeDiff, Nat.reduceLT, Nat.reduceMul, Nat.reduceBEq, Int.reduceEq, Int.reduceLT, Int.reduceLE, Int.reduceNeg, Int.reduceToNat, reduceCtorEq, ho, Try.results163]
  refine GCall.fr ?_ (orNull_fn ⟨2, 0, s⟩) (.inl rfl) ?_; (focus (first | rfl | ((simp only [go_sem, Nat.reduceEqDiff, Nat.reduceAdd, Nat.reduceSub, Nat.reduceLeDiff, Nat.reduceLT, Nat.reduceMul, Nat.reduceBEq, Int.reduceEq, Int.reduceLT, Int.reduceLE, Int.reduceNeg, Int.reduceToNat, reduceCtorEq, ho, Try.results163]); done) | ((simp only [go_sem, Nat.reduceEqDiff, Nat.reduceAdd, Nat.reduceSub, Nat.reduceLeDiff, Nat.reduceLT, Nat.reduceMul, Nat.reduceBEq, Int.reduceEq, Int.reduceLT, Int.reduceLE, Int.reduceNeg, Int.reduceToNat, reduceCtorEq, ho, Try.results163]); rfl)))
  simp only [go_sem, Nat.reduceEqDiff, Nat.reduceAdd, Nat.reduceSub, Nat.reduceLeDiff, Nat.reduceLT, Nat.reduceMul, Nat.reduceBEq, Int.reduceEq, Int.reduceLT, Int.reduceLE, Int.reduceNeg, Int.reduceToNat, reduceCtorEq, ho, Try.results163, Vl.enc, Vl.txt]
def Vl.truth (v : Vl) : Int := if v.kind = 3 ∧ v.int = 1 ∧ v.text = emp then 2 else if v.kind = 3 ∧ v.int = 0 ∧ v.text = emp then 0 else 1
theorem ok119 : okCode M0 Try.f119.ntmps (Try.f119.body.getD .skip) = true := by decide +kernel
theorem truth_fn (v : Vl) : Fc 119 [v.enc] (.int .i64 v.truth) := by
  refine fn_of_awp (E := E0) (M := M0) follows Try.func119 rfl (by decide) ok119 (by decide) (by simp) fun o ho => ?_
  simp only [go_sem, Nat.reduceEqDiff, Nat.reduceAdd, Nat.reduceSub, Nat.reduceLeDiff, Nat.reduceLT, Nat.reduceMul, Nat.reduceBEq, Int.reduceEq, Int.reduceLT, Int.reduceLE, Int.reduceNeg, Int.reduceToNat, reduceCtorEq, ho, Try.results119, Vl.enc]
  refine GCall.fr ?_ (bool_fn true) (.inl rfl) ?_; (focus (first | rfl | ((simp only [go_sem, Nat.reduceEqDiff, Nat.reduceAdd, Nat.reduceSub, Nat.reduceLeDiff, Nat.reduceLT, Nat.reduceMul, Nat.reduceBEq, Int.reduceEq, Int.reduceLT, Int.reduceLE, Int.reduceNeg, Int.reduceToNat, reduceCtorEq, ho, Try.results119]); done) | ((simp only [go_sem, Nat.reduceEqDiff, Nat.reduceAdd, Nat.reduceSub, Nat.reduceLeDiff, Nat.reduceLT, Nat.reduceMul, Nat.reduceBEq, Int.reduceEq, Int.reduceLT, Int.reduceLE, Int.reduceNeg, Int.reduceToNat, reduceCtorEq, ho, Try.results119]); rfl)))
  simp only [go_sem, Nat.reduceEqDiff, Nat.reduceAdd, Nat.reduceSub, Nat.reduceLeDiff, Nat.reduceLT, Nat.reduceMul, Nat.reduceBEq, Int.reduceEq, Int.reduceLT, Int.reduceLE, Int.reduceNeg, Int.reduceToNat, reduceCtorEq, ho, Try.results119, Vl.enc, Vl.bool]
  repeat' (first | (refine AIf_cases (fun h => ?_) (fun h => ?_) <;> (try simp only [decide_eq_true_eq, decide_eq_false_iff_not, Bool.not_eq_true', Bool.not_eq_false', Bool.not_eq_true, Bool.not_eq_false] at h) <;> (try simp only [go_sem, Nat.reduceEqDiff, Nat.reduceAdd, Nat.reduceSub, Nat.reduceLeDiff, Nat.reduceLT, Nat.reduceMul, Nat.reduceBEq, Int.reduceEq, Int.reduceLT, Int.reduceLE, Int.reduceNeg, Int.reduceToNat, reduceCtorEq, ho, Try.results119, h])))
  · all_goals (first | (simp_all [Vl.truth]; done) | (simp_all [Vl.truth]; omega) | (simp_all [Vl.truth]; intros; omega) | (simp_all [Vl.truth]; (repeat' split) <;> (first | (simp_all; done) | (simp_all; omega) | omega)))
  · refine GCall.fr ?_ (bool_fn false) (.inl rfl) ?_; (focus (first | rfl | ((simp only [go_sem, Nat.reduceEqDiff, Nat.reduceAdd, Nat.reduceSub, Nat.reduceLeDiff, Nat.reduceLT, Nat.reduceMul, Nat.reduceBEq, Int.reduceEq, Int.reduceLT, Int.reduceLE, Int.reduceNeg, Int.reduceToNat, reduceCtorEq, ho, Try.results119]); done) | ((simp only [go_sem, Nat.reduceEqDiff, Nat.reduceAdd, Nat.reduceSub, Nat.reduceLeDiff, Nat.reduceLT, Nat.reduceMul, Nat.reduceBEq, Int.reduceEq, Int.reduceLT, Int.reduceLE, Int.reduceNeg, Int.reduceToNat, reduceCtorEq, ho, Try.results119]); rfl)))
    simp only [go_sem, Nat.reduceEqDiff, Nat.reduceAdd, Nat.reduceSub, Nat.reduceLeDiff, Nat.reduceLT, Nat.reduceMul, Nat.reduceBEq, Int.reduceEq, Int.reduceLT, Int.reduceLE, Int.reduceNeg, Int.reduceToNat, reduceCtorEq, ho, Try.results119, Vl.enc, Vl.bool]
    repeat' (first | (refine AIf_cases (fun h => ?_) (fun h => ?_) <;> (try simp only [decide_eq_true_eq, decide_eq_false_iff_not, Bool.not_eq_true', Bool.not_eq_false', Bool.not_eq_true, Bool.not_eq_false] at h) <;> (try simp only [go_sem, Nat.reduceEqDiff, Nat.reduceAdd, Nat.reduceSub, Nat.reduceLeDiff, Nat.reduceLT, Nat.reduceMul, Nat.reduceBEq, Int.reduceEq, Int.reduceLT, Int.reduceLE, Int.reduceNeg, Int.reduceToNat, reduceCtorEq, ho, Try.results119, h])))
    all_goals (first | (simp_all [Vl.truth]; done) | (simp_all [Vl.truth]; omega) | (simp_all [Vl.truth]; intros; omega) | (simp_all [Vl.truth]; (repeat' split) <;> (first | (simp_all; done) | (simp_all; omega) | omega)))
def Vl.of (t : Int) : Vl := if normal t = 1 then Vl.null else Vl.bool (decide (normal t = 2))
theorem ok104 : okCode M0 Try.f104.ntmps (Try.f104.body.getD .skip) = true := by decide +kernel
theorem of_fn (t : Int) : Fc 104 [.int .i64 t] (Vl.of t).enc := by
  refine fn_of_awp (E := E0) (M := M0) follows Try.func104 rfl (by decide) ok104 (by decide) (by simp) fun o ho => ?_
  simp only [go_sem, Nat.reduceEqDiff, Nat.reduceAdd, Nat.reduceSub, Nat.reduceLeDiff, Nat.reduceLT, Nat.reduceMul, Nat.reduceBEq, Int.reduceEq, Int.reduceLT, Int.reduceLE, Int.reduceNeg, Int.reduceToNat, reduceCtorEq, ho, Try.results104]
  refine GCall.fr ?_ (normal_fn t) (.inl rfl) ?_; (focus (first | rfl | ((simp only [go_sem, Nat.reduceEqDiff, Nat.reduceAdd, Nat.reduceSub, Nat.reduceLeDiff, Nat.reduceLT, Nat.reduceMul, Nat.reduceBEq, Int.reduceEq, Int.reduceLT, Int.reduceLE, Int.reduceNeg, Int.reduceToNat, reduceCtorEq, ho, Try.results104]); done) | ((simp only [go_sem, Nat.reduceEqDiff, Nat.reduceAdd, Nat.reduceSub, Nat.reduceLeDiff, Nat.reduceLT, Nat.reduceMul, Nat.reduceBEq, Int.reduceEq, Int.reduceLT, Int.reduceLE, Int.reduceNeg, Int.reduceToNat, reduceCtorEq, ho, Try.results104]); rfl)))
  simp only [go_sem, Nat.reduceEqDiff, Nat.reduceAdd, Nat.reduceSub, Nat.reduceLeDiff, Nat.reduceLT, Nat.reduceMul, Nat.reduceBEq, Int.reduceEq, Int.reduceLT, Int.reduceLE, Int.reduceNeg, Int.reduceToNat, reduceCtorEq, ho, Try.results104]
  repeat' (first | (refine AIf_cases (fun h => ?_) (fun h => ?_) <;> (try simp only [decide_eq_true_eq, decide_eq_false_iff_not, Bool.not_eq_true', Bool.not_eq_false', Bool.not_eq_true, Bool.not_eq_false] at h) <;> (try simp only [go_sem, Nat.reduceEqDiff, Nat.reduceAdd, Nat.reduceSub, Nat.reduceLeDiff, Nat.reduceLT, Nat.reduceMul, Nat.reduceBEq, Int.reduceEq, Int.reduceLT, Int.reduceLE, Int.reduceNeg, Int.reduceToNat, reduceCtorEq, ho, Try.results104, h])))
  · refine GCall.fr ?_ (null_fn) (.inl rfl) ?_; (focus (first | rfl | ((simp only [go_sem, Nat.reduceEqDiff, Nat.reduceAdd, Nat.reduceSub, Nat.reduceLeDiff, Nat.reduceLT, Nat.reduceMul, Nat.reduceBEq, Int.reduceEq, Int.reduceLT, Int.reduceLE, Int.reduceNeg, Int.reduceToNat, reduceCtorEq, ho, Try.results104]); done) | ((simp only [go_sem, Nat.reduceEqDiff, Nat.reduceAdd, Nat.reduceSub, Nat.reduceLeDiff, Nat.reduceLT, Nat.reduceMul, Nat.reduceBEq, Int.reduceEq, Int.reduceLT, Int.reduceLE, Int.reduceNeg, Int.reduceToNat, reduceCtorEq, ho, Try.results104]); rfl)))
    simp only [go_sem, Nat.reduceEqDiff, Nat.reduceAdd, Nat.reduceSub, Nat.reduceLeDiff, Nat.reduceLT, Nat.reduceMul, Nat.reduceBEq, Int.reduceEq, Int.reduceLT, Int.reduceLE, Int.reduceNeg, Int.reduceToNat, reduceCtorEq, ho, Try.results104, Vl.enc, Vl.null]
    all_goals (first | (simp_all [Vl.of, Vl.null]; done) | (simp_all [Vl.of, Vl.null]; omega) | (simp_all [Vl.of, Vl.null]; intros; omega) | (simp_all [Vl.of, Vl.null]; (repeat' split) <;> (first | (simp_all; done) | (simp_all; omega) | omega)))
  · refine GCall.fr ?_ (bool_fn (decide (normal t = 2))) (.inl rfl) ?_; (focus (first | rfl | ((simp only [go_sem, Nat.reduceEqDiff, Nat.reduceAdd, Nat.reduceSub, Nat.reduceLeDiff, Nat.reduceLT, Nat.reduceMul, Nat.reduceBEq, Int.reduceEq, Int.reduceLT, Int.reduceLE, Int.reduceNeg, Int.reduceToNat, reduceCtorEq, ho, Try.results104]); done) | ((simp only [go_sem, Nat.reduceEqDiff, Nat.reduceAdd, Nat.reduceSub, Nat.reduceLeDiff, Nat.reduceLT, Nat.reduceMul, Nat.reduceBEq, Int.reduceEq, Int.reduceLT, Int.reduceLE, Int.reduceNeg, Int.reduceToNat, reduceCtorEq, ho, Try.results104]); rfl)))
    simp only [go_sem, Nat.reduceEqDiff, Nat.reduceAdd, Nat.reduceSub, Nat.reduceLeDiff, Nat.reduceLT, Nat.reduceMul, Nat.reduceBEq, Int.reduceEq, Int.reduceLT, Int.reduceLE, Int.reduceNeg, Int.reduceToNat, reduceCtorEq, ho, Try.results104, Vl.enc, Vl.bool]
    all_goals (first | (simp_all [Vl.of, Vl.bool]; done) | (simp_all [Vl.of, Vl.bool]; omega) | (simp_all [Vl.of, Vl.bool]; intros; omega) | (simp_all [Vl.of, Vl.bool]; (repeat' split) <;> (first | (simp_all; done) | (simp_all; omega) | omega)))
theorem normal_range (t : Int) : 0 ≤ normal t ∧ normal t ≤ 2 := by unfold normal; split <;> omega
def tnot (a : Int) : Int := 2 - normal a
theorem ok157 : okCode M0 Try.f157.ntmps (Try.f157.body.getD .skip) = true := by decide +kernel
theorem not_fn (a : Int) : Fc 157 [.int .i64 a] (.int .i64 (tnot a)) := by
  have hw : IntKind.i64.wrap (2 - normal a) = 2 - normal a := by have := normal_range a; exact wrap_fits (by omega) (by omega)
  refine fn_of_awp (E := E0) (M := M0) follows Try.func157 rfl (by decide) ok157 (by decide) (by simp) fun o ho => ?_
  simp only [go_sem, Nat.reduceEqDiff, Nat.reduceAdd, Nat.reduceSub, Nat.reduceLeDiff, Nat.reduceLT, Nat.reduceMul, Nat.reduceBEq, Int.reduceEq, Int.reduceLT, Int.reduceLE, Int.reduceNeg, Int.reduceToNat, reduceCtorEq, ho, Try.results157]
  refine GCall.fr ?_ (normal_fn a) (.inl rfl) ?_; (focus (first | rfl | ((simp only [go_sem, Nat.reduceEqDiff, Nat.reduceAdd, Nat.reduceSub, Nat.reduceLeDiff, Nat.reduceLT, Nat.reduceMul, Nat.reduceBEq, Int.reduceEq, Int.reduceLT, Int.reduceLE, Int.reduceNeg, Int.reduceToNat, reduceCtorEq, ho, Try.results157]); done) | ((simp only [go_sem, Nat.reduceEqDiff, Nat.reduceAdd, Nat.reduceSub, Nat.reduceLeDiff, Nat.reduceLT, Nat.reduceMul, Nat.reduceBEq, Int.reduceEq, Int.reduceLT, Int.reduceLE, Int.reduceNeg, Int.reduceToNat, reduceCtorEq, ho, Try.results157]); rfl)))
  simp only [go_sem, Nat.reduceEqDiff, Nat.reduceAdd, Nat.reduceSub, Nat.reduceLeDiff, Nat.reduceLT, Nat.reduceMul, Nat.reduceBEq, Int.reduceEq, Int.reduceLT, Int.reduceLE, Int.reduceNeg, Int.reduceToNat, reduceCtorEq, ho, Try.results157, hw, tnot]
def least : List Int → Int → Int
  | [], t => t
  | x :: l, t => least l (if normal x < t then normal x else t)
theorem ok188 : okCode M0 Try.f188.ntmps (Try.f188.body.getD .skip) = true := by decide +kernel
theorem least_fn (l : List Int) (hl : l.length ≤ 1000000000) : Fc 188 [.sl (l.map (.int .i64))] (.int .i64 (least l 2)) := by
  refine fn_of_awp (E := E0) (M := M0) follows Try.func188 rfl (by decide) ok188 (by decide) (by simp) fun o ho => ?_
  simp only [go_sem, Nat.reduceEqDiff, Nat.reduceAdd, Nat.reduceSub, Nat.reduceLeDiff, Nat.reduceLT, Nat.reduceMul, Nat.reduceBEq, Int.reduceEq, Int.reduceLT, Int.reduceLE, Int.reduceNeg, Int.reduceToNat, reduceCtorEq, ho, Try.results188]
  refine ⟨fun n st => ∃ (i : Nat) (rest : List Int) (t : Int), l.drop i = rest ∧ i + rest.length = l.length ∧ rest.length = n ∧ least rest t = least l 2 ∧ st.s 8 = .int .i64 i ∧ st.s 7 = .int .i64 l.length ∧ st.s 6 = .sl (l.map (.int .i64)) ∧ st.s 3 = .int .i64 t, l.length, ⟨0, l, 2, rfl, by simp, rfl, rfl, by simp only [go_sem, Nat.reduceEqDiff, Nat.reduceAdd, Nat.reduceSub, Nat.reduceLeDiff, Nat.reduceLT, Nat.reduceMul, Nat.reduceBEq, Int.reduceEq, Int.reduceLT, Int.reduceLE, Int.reduceNeg, Int.reduceToNat, reduceCtorEq, ho, Try.results188]; rfl, by simp only [go_sem, Nat.reduceEqDiff, Nat.reduceAdd, Nat.reduceSub, Nat.reduceLeDiff, Nat.reduceLT, Nat.reduceMul, Nat.reduceBEq, Int.reduceEq, Int.reduceLT, Int.reduceLE, Int.reduceNeg, Int.reduceToNat, reduceCtorEq, ho, Try.results188], by simp only [go_sem, Nat.reduceEqDiff, Nat.reduceAdd, Nat.reduceSub, Nat.reduceLeDiff, Nat.reduceLT, Nat.reduceMul, Nat.reduceBEq, Int.reduceEq, Int.reduceLT, Int.reduceLE, Int.reduceNeg, Int.reduceToNat, reduceCtorEq, ho, Try.results188], by simp only [go_sem, Nat.reduceEqDiff, Nat.reduceAdd, Nat.reduceSub, Nat.reduceLeDiff, Nat.reduceLT, Nat.reduceMul, Nat.reduceBEq, Int.reduceEq, Int.reduceLT, Int.reduceLE, Int.reduceNeg, Int.reduceToNat, reduceCtorEq, ho, Try.results188]⟩, ?_⟩
  rintro n st ⟨i, rest, t, hr, hi, hn, ht, h8, h7, h6, h3⟩
  have hw : IntKind.i64.wrap ((i : Int) + 1) = (i : Int) + 1 := wrap_fits (by omega) (by omega)
  cases rest with
  | nil =>
    have hlt : ¬ (i : Int) < (l.length : Int) := by simp at hi; omega
    simp only [go_sem, Nat.reduceEqDiff, Nat.reduceAdd, Nat.reduceSub, Nat.reduceLeDiff, Nat.reduceLT, Nat.reduceMul, Nat.reduceBEq, Int.reduceEq, Int.reduceLT, Int.reduceLE, Int.reduceNeg, Int.reduceToNat, reduceCtorEq, ho, Try.results188, h8, h7, hlt, h3]
    rw [← ht]; rfl
  | cons x rest =>
    have hlt : (i : Int) < (l.length : Int) := by simp at hi; omega
    have hget : (l.map (PV.int .i64))[i]? = some (.int .i64 x) := by
      have : l[i]? = some x := by rw [← List.head?_drop, hr]; rfl
      rw [List.getElem?_map, this]; rfl
    simp only [go_sem, Nat.reduceEqDiff, Nat.reduceAdd, Nat.reduceSub, Nat.reduceLeDiff, Nat.reduceLT, Nat.reduceMul, Nat.reduceBEq, Int.reduceEq, Int.reduceLT, Int.reduceLE, Int.reduceNeg, Int.reduceToNat, reduceCtorEq, ho, Try.results188, h8, h7, h6, h3, hlt, hget, Int.natCast_nonneg, Int.toNat_natCast]
    refine GCall.fr ?_ (normal_fn x) (.inl rfl) ?_; (focus (first | rfl | ((simp only [go_sem, Nat.reduceEqDiff, Nat.reduceAdd, Nat.reduceSub, Nat.reduceLeDiff, Nat.reduceLT, Nat.reduceMul, Nat.reduceBEq, Int.reduceEq, Int.reduceLT, Int.reduceLE, Int.reduceNeg, Int.reduceToNat, reduceCtorEq, ho, Try.results188]); done) | ((simp only [go_sem, Nat.reduceEqDiff, Nat.reduceAdd, Nat.reduceSub, Nat.reduceLeDiff, Nat.reduceLT, Nat.reduceMul, Nat.reduceBEq, Int.reduceEq, Int.reduceLT, Int.reduceLE, Int.reduceNeg, Int.reduceToNat, reduceCtorEq, ho, Try.results188]); rfl)))
    simp only [go_sem, Nat.reduceEqDiff, Nat.reduceAdd, Nat.reduceSub, Nat.reduceLeDiff, Nat.reduceLT, Nat.reduceMul, Nat.reduceBEq, Int.reduceEq, Int.reduceLT, Int.reduceLE, Int.reduceNeg, Int.reduceToNat, reduceCtorEq, ho, Try.results188, h8, h7, h6, h3, hw]
    refine ⟨rest.length, by simp at hn; omega, i + 1, rest, _, by rw [← List.drop_drop, hr]; rfl, by simp at hi; omega, rfl, ht, by simp⟩
end Go.Proofs.Ytiefnninebilbaa
/- Contracts shown at the machine itself: the comparison of strings, the copy of a slice of integers; no condition. -/
set_option maxRecDepth 100000
set_option linter.unusedVariables false
set_option linter.unusedSimpArgs false
namespace Go.Proofs.Ytiefnninebilbaa
open Go Go.Sx Go.RowKit

set_option maxHeartbeats 1000000 in
theorem cmpString_run (a b : ByteArray) (w : World) : Calls Try.prog 219 #[.string a, .string b] w fun e w' => e = .returned (.int .i64 (Lib.compareBytes a.data.toList b.data.toList)) ∧ w' = w := by
  go_enter Try.func219, Try.ntmps219
  go_wp2
  rw [run_callFunc_extern Try.func221 (by kernel_rfl) (by kernel_rfl) (by kernel_rfl) (e := Extern.BytealgCompare.compare) (by kernel_rfl), Lib.run_compareString]
  simp only [Result.andThen]
  rw [Oper.upon_value]
  go_wp2
  go_ret
  exact ⟨rfl, rfl⟩
theorem enters {f : FuncId} {fn : Func} {c : Code} (hf : P0.funcs[f]? = some fn) (hb : fn.body = some c) (hname : (fn.name == "runtime.NumGoroutine") = false) (vs : Array Value) (w : World) : (callFunc f vs).run P0 w = .ok (.enter f vs) w := by
  have hname' : ¬ fn.name = "runtime.NumGoroutine" := by simpa using hname
  simp [callFunc, hf, hname', hb]
theorem two_args {w : World} {B : Nat → Prop} {vs : Array Value} {x y : PV} (hn : vs.size = 2) (hv : ∀ (j : Nat) (z : PV) (u : Value), [x, y][j]? = some z → vs[j]? = some u → Rd w B z u) : ∃ u v, vs = #[u, v] ∧ Rd w B x u ∧ Rd w B y v := by
  obtain ⟨l⟩ := vs
  match l, hn with
  | [u, v], _ => exact ⟨u, v, rfl, hv 0 x u rfl rfl, hv 1 y v rfl rfl⟩
theorem one_arg {w : World} {B : Nat → Prop} {vs : Array Value} {x : PV} (hn : vs.size = 1) (hv : ∀ (j : Nat) (z : PV) (u : Value), [x][j]? = some z → vs[j]? = some u → Rd w B z u) : ∃ u, vs = #[u] ∧ Rd w B x u := by
  obtain ⟨l⟩ := vs
  match l, hn with
  | [u], _ => exact ⟨u, rfl, hv 0 x u rfl rfl⟩
theorem cmpString_fn (a b : ByteArray) : Fc 219 [.str a, .str b] (.int .i64 (Lib.compareBytes a.data.toList b.data.toList)) where
  enter := enters Try.func219 rfl (by decide)
  calls vs w B hB hn hv := by
    obtain ⟨u, v, rfl, h1, h2⟩ := two_args hn hv
    cases h1
    cases h2
    refine (cmpString_run a b w).mono ?_
    rintro e w' ⟨rfl, rfl⟩
    exact ⟨_, rfl, Below.refl _ _, .int _ _⟩
theorem eq_nil_slice {P : Program} {T e : TypeId} (hu : P.underlying T = some (.slice e)) (a : Option Addr) (n c : Nat) (w : World) : (binOp .eql T (.slice a n c) (.slice none 0 0)).run P w = .ok (.bool a.isNone) w := by
  have h : ∀ d, (Op.equalIn (d + 1) T (.slice a n c) (.slice none 0 0)).run P w = .ok a.isNone w := by
    intro d
    cases a <;> simp [Op.equalIn, run_underlying hu]
  have h1 : (Op.equal T (.slice a n c) (.slice none 0 0)).run P w = .ok a.isNone w := h 9999
  simp [binOp, h1]
set_option maxHeartbeats 1000000 in
theorem clone_nil (w : World) (c : Nat) : Calls Try.prog 207 #[.slice none 0 c] w fun e w' => e = .returned (.slice none 0 0) ∧ w' = w := by
  have h := eq_nil_slice (P := Try.prog) (T := 23) (e := 3) (by kernel_rfl) none 0 c w
  go_enter Try.func207, Try.ntmps207
  go_wp2
  go_ret
  exact ⟨rfl, rfl⟩
set_option maxHeartbeats 1000000 in
theorem clone_zero (w : World) (a : Addr) (c : Nat) : Calls Try.prog 207 #[.slice (some a) 0 c] w fun e w' => e = .returned (.slice (some ⟨w.heap.size, 0, none⟩) 0 0) ∧ w' = w.alloc (.cells #[] 3) := by
  have he := eq_nil_slice (P := Try.prog) (T := 23) (e := 3) (by kernel_rfl) (some a) 0 c w
  go_enter Try.func207, Try.ntmps207
  go_wp2
  go_ret
  exact ⟨rfl, rfl⟩
theorem clone_empty : Fc 207 [.sl []] .nil where
  enter := enters Try.func207 rfl (by decide)
  calls vs w B hB hn hv := by
    obtain ⟨u, rfl, h1⟩ := one_arg hn hv
    cases h1 with
    | sl0 a c =>
      cases a with
      | none =>
        refine (clone_nil w c).mono ?_
        rintro e w' ⟨rfl, rfl⟩
        exact ⟨_, rfl, Below.refl _ _, .nil _⟩
      | some a =>
        refine (clone_zero w a c).mono ?_
        rintro e w' ⟨rfl, rfl⟩
        exact ⟨_, rfl, (Below.refl _ _).alloc (Nat.le_refl _) _, .nil _⟩
    | sl _ ad n c sz us hn' h0 => subst hn'; simp at h0
theorem ok207 : okCode M0 Try.f207.ntmps (Try.f207.body.getD .skip) = true := by decide +kernel
theorem clone_fn (y : PV) (ys : List PV) (hz : ∀ z ∈ y :: ys, z.cells.length = 1) (hl : (y :: ys).length ≤ 1000000000) : FnR P0 207 [.sl (y :: ys)] (.row 3 (y :: ys)) := by
  refine fn_of_awp (E := E0) (M := M0) follows Try.func207 rfl (by decide) ok207 (by decide) (by simp) fun o ho => ?_
  have hb : (ys.length + 1) * 9 ≤ 140737488355328 := by simp at hl; omega
  have h1 : y.cells.length = 1 := hz y (by simp)
  have h2 : ∀ x, x ∈ ys → x.cells.length = 1 := fun x hx => hz x (by simp [hx])
  simp only [go_sem, Nat.reduceEqDiff, Nat.reduceAdd, Nat.reduceSub, Nat.reduceLeDiff, Nat.reduceLT, Nat.reduceMul, Nat.reduceBEq, Int.reduceEq, Int.reduceLT, Int.reduceLE, Int.reduceNeg, Int.reduceToNat, reduceCtorEq, ho, Try.results207, List.forall_mem_cons, h1, eq_true h2, hb]
end Go.Proofs.Ytiefnninebilbaa
/- What the checking of an expression returns: the program's functions; no condition. -/
set_option maxRecDepth 100000
set_option linter.unusedVariables false
set_option linter.unusedSimpArgs false
namespace Go.Proofs.Ytiefnninebilbaa
open Go Go.Sx

def known (op : Int) : Bool := decide (1 ≤ op) && decide (op ≤ 24) && !decide (op = 3)
def fitsN (op n : Int) : Bool :=
  if op = 1 ∨ op = 2 then decide (n = 0)
  else if op = 4 ∨ op = 18 ∨ op = 20 ∨ op = 21 then decide (n = 1)
  else if op = 7 ∨ op = 8 ∨ op = 9 ∨ op = 10 ∨ op = 11 ∨ op = 12 ∨ op = 13 ∨ op = 14 ∨ op = 15 ∨ op = 16 ∨ op = 17 ∨ op = 19 then decide (n = 2)
  else if op = 5 ∨ op = 6 then decide (2 ≤ n)
  else if op = 22 then decide (n = 3)
  else if op = 23 then decide (1 ≤ n)
  else if op = 24 then decide (n = 4)
  else false
theorem ok153 : okCode M0 Try.f153.ntmps (Try.f153.body.getD .skip) = true := by decide +kernel
theorem counts_fn (op n : Int) : Fc 153 [.int .i64 op, .int .i64 n] (.tup [.bool (fitsN op n), .bool (known op)]) := by
  refine fn_of_awp (E := E0) (M := M0) follows Try.func153 rfl (by decide) ok153 (by decide) (by simp) fun o ho => ?_
  simp only [go_sem, Nat.reduceEqDiff, Nat.reduceAdd, Nat.reduceSub, Nat.reduceLeDiff, Nat.reduceLT, Nat.reduceMul, Nat.reduceBEq, Int.reduceEq, Int.reduceLT, Int.reduceLE, Int.reduceNeg, Int.reduceToNat, reduceCtorEq, ho, Try.results153]
  repeat' (first | (refine AIf_cases (fun h => ?_) (fun h => ?_) <;> (try simp only [decide_eq_true_eq, decide_eq_false_iff_not, Bool.not_eq_true', Bool.not_eq_false', Bool.not_eq_true, Bool.not_eq_false] at h) <;> (try simp only [go_sem, Nat.reduceEqDiff, Nat.reduceAdd, Nat.reduceSub, Nat.reduceLeDiff, Nat.reduceLT, Nat.reduceMul, Nat.reduceBEq, Int.reduceEq, Int.reduceLT, Int.reduceLE, Int.reduceNeg, Int.reduceToNat, reduceCtorEq, ho, Try.results153, h])))
  all_goals (first | (subst_vars; exact ⟨rfl, rfl⟩) | skip)
  exact ⟨by simp [fitsN, *], by simp [known]; omega⟩
def Ex.formed (e : Ex) : Bool :=
  fitsN e.op e.args.length && (decide (e.name = emp) &&
    (if e.op = 1 then decide (e.int = 0) && e.val.valid
    else if e.op = 24 then decide (0 ≤ e.int) && (decide (e.int < 13) && (decide (e.val.kind = 0) && (decide (e.val.int = 0) && decide (e.val.text = emp))))
    else if e.op = 2 then decide (e.val.kind = 0) && (decide (e.val.int = 0) && decide (e.val.text = emp))
    else decide (e.int = 0) && (decide (e.val.kind = 0) && (decide (e.val.int = 0) && decide (e.val.text = emp)))))
theorem ok96 : okCode M0 Try.f96.ntmps (Try.f96.body.getD .skip) = true := by decide +kernel
theorem formed_fn (e : Ex) : Fc 96 [e.enc] (.bool e.formed) := by
  refine fn_of_awp (E := E0) (M := M0) follows Try.func96 rfl (by decide) ok96 (by decide) (by simp) fun o ho => ?_
  simp only [go_sem, Nat.reduceEqDiff, Nat.reduceAdd, Nat.reduceSub, Nat.reduceLeDiff, Nat.reduceLT, Nat.reduceMul, Nat.reduceBEq, Int.reduceEq, Int.reduceLT, Int.reduceLE, Int.reduceNeg, Int.reduceToNat, reduceCtorEq, ho, Try.results96, e.enc_eq]
  refine GCall.fr ?_ (counts_fn e.op e.args.length) (.inl rfl) ?_; (focus (first | rfl | ((simp only [go_sem, Nat.reduceEqDiff, Nat.reduceAdd, Nat.reduceSub, Nat.reduceLeDiff, Nat.reduceLT, Nat.reduceMul, Nat.reduceBEq, Int.reduceEq, Int.reduceLT, Int.reduceLE, Int.reduceNeg, Int.reduceToNat, reduceCtorEq, ho, Try.results96, List.length_map]); done) | ((simp only [go_sem, Nat.reduceEqDiff, Nat.reduceAdd, Nat.reduceSub, Nat.reduceLeDiff, Nat.reduceLT, Nat.reduceMul, Nat.reduceBEq, Int.reduceEq, Int.reduceLT, Int.reduceLE, Int.reduceNeg, Int.reduceToNat, reduceCtorEq, ho, Try.results96, List.length_map]); rfl)))
  simp only [go_sem, Nat.reduceEqDiff, Nat.reduceAdd, Nat.reduceSub, Nat.reduceLeDiff, Nat.reduceLT, Nat.reduceMul, Nat.reduceBEq, Int.reduceEq, Int.reduceLT, Int.reduceLE, Int.reduceNeg, Int.reduceToNat, reduceCtorEq, ho, Try.results96, List.length_map]
  repeat' (first | (refine AIf_cases (fun h => ?_) (fun h => ?_) <;> (try simp only [decide_eq_true_eq, decide_eq_false_iff_not, Bool.not_eq_true', Bool.not_eq_false', Bool.not_eq_true, Bool.not_eq_false] at h) <;> (try simp only [go_sem, Nat.reduceEqDiff, Nat.reduceAdd, Nat.reduceSub, Nat.reduceLeDiff, Nat.reduceLT, Nat.reduceMul, Nat.reduceBEq, Int.reduceEq, Int.reduceLT, Int.reduceLE, Int.reduceNeg, Int.reduceToNat, reduceCtorEq, ho, Try.results96, h])) | (refine GCall.fr ?_ (valid_fn e.val) (.inl rfl) ?_; (focus (first | rfl | ((simp only [go_sem, Nat.reduceEqDiff, Nat.reduceAdd, Nat.reduceSub, Nat.reduceLeDiff, Nat.reduceLT, Nat.reduceMul, Nat.reduceBEq, Int.reduceEq, Int.reduceLT, Int.reduceLE, Int.reduceNeg, Int.reduceToNat, reduceCtorEq, ho, Try.results96]); done) | ((simp only [go_sem, Nat.reduceEqDiff, Nat.reduceAdd, Nat.reduceSub, Nat.reduceLeDiff, Nat.reduceLT, Nat.reduceMul, Nat.reduceBEq, Int.reduceEq, Int.reduceLT, Int.reduceLE, Int.reduceNeg, Int.reduceToNat, reduceCtorEq, ho, Try.results96]); rfl))); (try simp only [go_sem, Nat.reduceEqDiff, Nat.reduceAdd, Nat.reduceSub, Nat.reduceLeDiff, Nat.reduceLT, Nat.reduceMul, Nat.reduceBEq, Int.reduceEq, Int.reduceLT, Int.reduceLE, Int.reduceNeg, Int.reduceToNat, reduceCtorEq, ho, Try.results96])) | (refine QCall.fr ?_ (valid_fn e.val) (.inl rfl) ?_; (focus (first | rfl | ((simp only [go_sem, Nat.reduceEqDiff, Nat.reduceAdd, Nat.reduceSub, Nat.reduceLeDiff, Nat.reduceLT, Nat.reduceMul, Nat.reduceBEq, Int.reduceEq, Int.reduceLT, Int.reduceLE, Int.reduceNeg, Int.reduceToNat, reduceCtorEq, ho, Try.results96]); done) | ((simp only [go_sem, Nat.reduceEqDiff, Nat.reduceAdd, Nat.reduceSub, Nat.reduceLeDiff, Nat.reduceLT, Nat.reduceMul, Nat.reduceBEq, Int.reduceEq, Int.reduceLT, Int.reduceLE, Int.reduceNeg, Int.reduceToNat, reduceCtorEq, ho, Try.results96]); rfl))); (try simp only [go_sem, Nat.reduceEqDiff, Nat.reduceAdd, Nat.reduceSub, Nat.reduceLeDiff, Nat.reduceLT, Nat.reduceMul, Nat.reduceBEq, Int.reduceEq, Int.reduceLT, Int.reduceLE, Int.reduceNeg, Int.reduceToNat, reduceCtorEq, ho, Try.results96])))
  all_goals (first | (simp_all [Ex.formed]; done) | (simp_all [Ex.formed]; omega) | (simp_all [Ex.formed]; intros; omega) | (simp_all [Ex.formed]; (repeat' split) <;> (first | (simp_all; done) | (simp_all; omega) | omega)))
mutual
def Ex.depth : Ex → Nat
  | .mk _ _ _ _ args => Ex.depths args + 1
def Ex.depths : List Ex → Nat
  | [] => 0
  | e :: l => max e.depth (Ex.depths l)
end
mutual
theorem Ex.depth_le : ∀ e : Ex, e.depth ≤ e.size
  | .mk _ _ _ _ args => by have := Ex.depths_le args; simp [Ex.depth, Ex.size]; omega
theorem Ex.depths_le : ∀ l, Ex.depths l ≤ Ex.sizes l
  | [] => by simp [Ex.depths]
  | e :: l => by have := Ex.depth_le e; have := Ex.depths_le l; simp [Ex.depths, Ex.sizes]; omega
end
theorem Ex.depths_app : ∀ l m, Ex.depths (l ++ m) = max (Ex.depths l) (Ex.depths m)
  | [], m => by simp [Ex.depths]
  | e :: l, m => by simp [Ex.depths, Ex.depths_app l m, Nat.max_assoc]
theorem Ex.depth_eq (e : Ex) : e.depth = Ex.depths e.args + 1 := by cases e; rfl
theorem ok122 : okCode M0 Try.f122.ntmps (Try.f122.body.getD .skip) = true := by decide +kernel
theorem depthP_fn : ∀ (n : Nat) (e : Ex) (most : Int), e.size ≤ n → n ≤ 1000000000 → 1 ≤ most → most ≤ 1000000000 → Fc 122 [e.enc, .int .i64 most] (.int .i64 (min (e.depth : Int) most))
  | 0, e, most, h, _, _, _ => by have := e.size_pos; omega
  | n + 1, e, most, h, hn, h1, hm => by
    have hde := e.depth_eq
    refine fn_of_awp (E := E0) (M := M0) follows Try.func122 rfl (by decide) ok122 (by decide) (by simp) fun o ho => ?_
    simp only [go_sem, Nat.reduceEqDiff, Nat.reduceAdd, Nat.reduceSub, Nat.reduceLeDiff, Nat.reduceLT, Nat.reduceMul, Nat.reduceBEq, Int.reduceEq, Int.reduceLT, Int.reduceLE, Int.reduceNeg, Int.reduceToNat, reduceCtorEq, ho, Try.results122, e.enc_eq]
    by_cases hmost : most ≤ 1
    · simp only [go_sem, Nat.reduceEqDiff, Nat.reduceAdd, Nat.reduceSub, Nat.reduceLeDiff, Nat.reduceLT, Nat.reduceMul, Nat.reduceBEq, Int.reduceEq, Int.reduceLT, Int.reduceLE, Int.reduceNeg, Int.reduceToNat, reduceCtorEq, ho, Try.results122, hmost]
      omega
    have hw1 : IntKind.i64.wrap (most - 1) = most - 1 := wrap_fits (by omega) (by omega)
    simp only [go_sem, Nat.reduceEqDiff, Nat.reduceAdd, Nat.reduceSub, Nat.reduceLeDiff, Nat.reduceLT, Nat.reduceMul, Nat.reduceBEq, Int.reduceEq, Int.reduceLT, Int.reduceLE, Int.reduceNeg, Int.reduceToNat, reduceCtorEq, ho, Try.results122, hmost, List.length_map]
    refine ⟨fun n st => ∃ (i : Nat) (done rest : List Ex), e.args = done ++ rest ∧ i = done.length ∧ n = rest.length ∧ st.s 13 = .int .i64 i ∧ st.s 12 = .int .i64 e.args.length ∧ st.s 11 = .sl (e.args.map Ex.enc) ∧ st.s 5 = .int .i64 (min ((Ex.depths done : Int) + 1) most) ∧ st.s 1 = .int .i64 most, e.args.length, ⟨0, [], e.args, rfl, rfl, rfl, by simp only [go_sem, Nat.reduceEqDiff, Nat.reduceAdd, Nat.reduceSub, Nat.reduceLeDiff, Nat.reduceLT, Nat.reduceMul, Nat.reduceBEq, Int.reduceEq, Int.reduceLT, Int.reduceLE, Int.reduceNeg, Int.reduceToNat, reduceCtorEq, ho, Try.results122]; rfl, by simp only [go_sem, Nat.reduceEqDiff, Nat.reduceAdd, Nat.reduceSub, Nat.reduceLeDiff, Nat.reduceLT, Nat.reduceMul, Nat.reduceBEq, Int.reduceEq, Int.reduceLT, Int.reduceLE, Int.reduceNeg, Int.reduceToNat, reduceCtorEq, ho, Try.results122], by simp only [go_sem, Nat.reduceEqDiff, Nat.reduceAdd, Nat.reduceSub, Nat.reduceLeDiff, Nat.reduceLT, Nat.reduceMul, Nat.reduceBEq, Int.reduceEq, Int.reduceLT, Int.reduceLE, Int.reduceNeg, Int.reduceToNat, reduceCtorEq, ho, Try.results122], by simp only [go_sem, Nat.reduceEqDiff, Nat.reduceAdd, Nat.reduceSub, Nat.reduceLeDiff, Nat.reduceLT, Nat.reduceMul, Nat.reduceBEq, Int.reduceEq, Int.reduceLT, Int.reduceLE, Int.reduceNeg, Int.reduceToNat, reduceCtorEq, ho, Try.results122, Ex.depths]; omega, by simp only [go_sem, Nat.reduceEqDiff, Nat.reduceAdd, Nat.reduceSub, Nat.reduceLeDiff, Nat.reduceLT, Nat.reduceMul, Nat.reduceBEq, Int.reduceEq, Int.reduceLT, Int.reduceLE, Int.reduceNeg, Int.reduceToNat, reduceCtorEq, ho, Try.results122]⟩, ?_⟩
    rintro m st ⟨i, done, rest, hl, rfl, rfl, h13, h12, h11, h5, hs1⟩
    have hsz := e.size_eq
    rw [hl, Ex.sizes_app] at hsz
    have hdl := Ex.len_sizes done
    have hw : IntKind.i64.wrap ((done.length : Int) + 1) = (done.length : Int) + 1 := wrap_fits (by omega) (by omega)
    cases rest with
    | nil =>
      have hlt : ¬ (done.length : Int) < (e.args.length : Int) := by simp [hl]
      simp only [go_sem, Nat.reduceEqDiff, Nat.reduceAdd, Nat.reduceSub, Nat.reduceLeDiff, Nat.reduceLT, Nat.reduceMul, Nat.reduceBEq, Int.reduceEq, Int.reduceLT, Int.reduceLE, Int.reduceNeg, Int.reduceToNat, reduceCtorEq, ho, Try.results122, h13, h12, hlt, h5]
      simp at hl
      rw [hde, hl]
      simp
    | cons x rest =>
      have hlt : (done.length : Int) < (e.args.length : Int) := by simp [hl]; omega
      have hget : (e.args.map Ex.enc)[done.length]? = some x.enc := by simp [hl]
      have hxs : x.size ≤ n := by simp [Ex.sizes] at hsz; omega
      have hw2 : IntKind.i64.wrap (1 + min (x.depth : Int) (most - 1)) = 1 + min (x.depth : Int) (most - 1) := wrap_fits (by omega) (by omega)
      simp only [go_sem, Nat.reduceEqDiff, Nat.reduceAdd, Nat.reduceSub, Nat.reduceLeDiff, Nat.reduceLT, Nat.reduceMul, Nat.reduceBEq, Int.reduceEq, Int.reduceLT, Int.reduceLE, Int.reduceNeg, Int.reduceToNat, reduceCtorEq, ho, Try.results122, h13, h12, h11, h5, hs1, hlt, hget, Int.natCast_nonneg, Int.toNat_natCast, hw1, List.length_map]
      refine GCall.fr ?_ (depthP_fn n x (most - 1) hxs (by omega) (by omega) (by omega)) (.inl rfl) ?_; (focus (first | rfl | ((simp only [go_sem, Nat.reduceEqDiff, Nat.reduceAdd, Nat.reduceSub, Nat.reduceLeDiff, Nat.reduceLT, Nat.reduceMul, Nat.reduceBEq, Int.reduceEq, Int.reduceLT, Int.reduceLE, Int.reduceNeg, Int.reduceToNat, reduceCtorEq, ho, Try.results122, x.enc_eq]); done) | ((simp only [go_sem, Nat.reduceEqDiff, Nat.reduceAdd, Nat.reduceSub, Nat.reduceLeDiff, Nat.reduceLT, Nat.reduceMul, Nat.reduceBEq, Int.reduceEq, Int.reduceLT, Int.reduceLE, Int.reduceNeg, Int.reduceToNat, reduceCtorEq, ho, Try.results122, x.enc_eq]); rfl)))
      simp only [go_sem, Nat.reduceEqDiff, Nat.reduceAdd, Nat.reduceSub, Nat.reduceLeDiff, Nat.reduceLT, Nat.reduceMul, Nat.reduceBEq, Int.reduceEq, Int.reduceLT, Int.reduceLE, Int.reduceNeg, Int.reduceToNat, reduceCtorEq, ho, Try.results122, h13, h12, h11, h5, hs1, hw, hw2]
      refine ⟨rest.length, by omega, done.length + 1, done ++ [x], rest, by simp [hl], by simp, rfl, by simp, ?_⟩
      rw [Ex.depths_app]
      simp only [Ex.depths]
      split <;> omega
theorem ok45 : okCode M0 Try.f45.ntmps (Try.f45.body.getD .skip) = true := by decide +kernel
theorem depthMax_fn (e : Ex) (h : e.size ≤ 1000000000) : Fc 45 [e.enc] (.int .i64 (min (e.depth : Int) 25)) := by
  refine fn_of_awp (E := E0) (M := M0) follows Try.func45 rfl (by decide) ok45 (by decide) (by simp) fun o ho => ?_
  simp only [go_sem, Nat.reduceEqDiff, Nat.reduceAdd, Nat.reduceSub, Nat.reduceLeDiff, Nat.reduceLT, Nat.reduceMul, Nat.reduceBEq, Int.reduceEq, Int.reduceLT, Int.reduceLE, Int.reduceNeg, Int.reduceToNat, reduceCtorEq, ho, Try.results45, e.enc_eq]
  refine GCall.fr ?_ (depthP_fn _ e 25 (Nat.le_refl _) h (by omega) (by omega)) (.inl rfl) ?_; (focus (first | rfl | ((simp only [go_sem, Nat.reduceEqDiff, Nat.reduceAdd, Nat.reduceSub, Nat.reduceLeDiff, Nat.reduceLT, Nat.reduceMul, Nat.reduceBEq, Int.reduceEq, Int.reduceLT, Int.reduceLE, Int.reduceNeg, Int.reduceToNat, reduceCtorEq, ho, Try.results45, e.enc_eq]); done) | ((simp only [go_sem, Nat.reduceEqDiff, Nat.reduceAdd, Nat.reduceSub, Nat.reduceLeDiff, Nat.reduceLT, Nat.reduceMul, Nat.reduceBEq, Int.reduceEq, Int.reduceLT, Int.reduceLE, Int.reduceNeg, Int.reduceToNat, reduceCtorEq, ho, Try.results45, e.enc_eq]); rfl)))
  simp only [go_sem, Nat.reduceEqDiff, Nat.reduceAdd, Nat.reduceSub, Nat.reduceLeDiff, Nat.reduceLT, Nat.reduceMul, Nat.reduceBEq, Int.reduceEq, Int.reduceLT, Int.reduceLE, Int.reduceNeg, Int.reduceToNat, reduceCtorEq, ho, Try.results45]
def unite : List Int → Int → Int × Bool
  | [], k => (k, true)
  | x :: l, k => if x = 0 then unite l k else if k ≠ 0 ∧ k ≠ x then (0, false) else unite l x
theorem ok185 : okCode M0 Try.f185.ntmps (Try.f185.body.getD .skip) = true := by decide +kernel
theorem unite_fn (l : List Int) (hl : l.length ≤ 1000000000) : Fc 185 [.sl (l.map (.int .i64))] (.tup [.int .i64 (unite l 0).1, .bool (unite l 0).2]) := by
  refine fn_of_awp (E := E0) (M := M0) follows Try.func185 rfl (by decide) ok185 (by decide) (by simp) fun o ho => ?_
  simp only [go_sem, Nat.reduceEqDiff, Nat.reduceAdd, Nat.reduceSub, Nat.reduceLeDiff, Nat.reduceLT, Nat.reduceMul, Nat.reduceBEq, Int.reduceEq, Int.reduceLT, Int.reduceLE, Int.reduceNeg, Int.reduceToNat, reduceCtorEq, ho, Try.results185, List.length_map]
  refine ⟨fun n st => ∃ (i : Nat) (rest : List Int) (k : Int), l.drop i = rest ∧ i + rest.length = l.length ∧ rest.length = n ∧ unite rest k = unite l 0 ∧ st.s 9 = .int .i64 i ∧ st.s 8 = .int .i64 l.length ∧ st.s 7 = .sl (l.map (.int .i64)) ∧ st.s 4 = .int .i64 k, l.length, ⟨0, l, 0, rfl, by simp, rfl, rfl, by simp only [go_sem, Nat.reduceEqDiff, Nat.reduceAdd, Nat.reduceSub, Nat.reduceLeDiff, Nat.reduceLT, Nat.reduceMul, Nat.reduceBEq, Int.reduceEq, Int.reduceLT, Int.reduceLE, Int.reduceNeg, Int.reduceToNat, reduceCtorEq, ho, Try.results185]; rfl, by simp only [go_sem, Nat.reduceEqDiff, Nat.reduceAdd, Nat.reduceSub, Nat.reduceLeDiff, Nat.reduceLT, Nat.reduceMul, Nat.reduceBEq, Int.reduceEq, Int.reduceLT, Int.reduceLE, Int.reduceNeg, Int.reduceToNat, reduceCtorEq, ho, Try.results185], by simp only [go_sem, Nat.reduceEqDiff, Nat.reduceAdd, Nat.reduceSub, Nat.reduceLeDiff, Nat.reduceLT, Nat.reduceMul, Nat.reduceBEq, Int.reduceEq, Int.reduceLT, Int.reduceLE, Int.reduceNeg, Int.reduceToNat, reduceCtorEq, ho, Try.results185], by simp only [go_sem, Nat.reduceEqDiff, Nat.reduceAdd, Nat.reduceSub, Nat.reduceLeDiff, Nat.reduceLT, Nat.reduceMul, Nat.reduceBEq, Int.reduceEq, Int.reduceLT, Int.reduceLE, Int.reduceNeg, Int.reduceToNat, reduceCtorEq, ho, Try.results185]⟩, ?_⟩
  rintro n st ⟨i, rest, k, hr, hi, hn, ht, h9, h8, h7, h4⟩
  have hw : IntKind.i64.wrap ((i : Int) + 1) = (i : Int) + 1 := wrap_fits (by omega) (by omega)
  cases rest with
  | nil =>
    have hlt : ¬ (i : Int) < (l.length : Int) := by simp at hi; omega
    simp only [go_sem, Nat.reduceEqDiff, Nat.reduceAdd, Nat.reduceSub, Nat.reduceLeDiff, Nat.reduceLT, Nat.reduceMul, Nat.reduceBEq, Int.reduceEq, Int.reduceLT, Int.reduceLE, Int.reduceNeg, Int.reduceToNat, reduceCtorEq, ho, Try.results185, h9, h8, hlt, h4]
    rw [← ht]; exact ⟨rfl, rfl⟩
  | cons x rest =>
    have hlt : (i : Int) < (l.length : Int) := by simp at hi; omega
    have hget : (l.map (PV.int .i64))[i]? = some (.int .i64 x) := by
      have : l[i]? = some x := by rw [← List.head?_drop, hr]; rfl
      rw [List.getElem?_map, this]; rfl
    have next : ∀ k', unite rest k' = unite l 0 → ∃ m, m < n ∧ ∃ (i' : Nat) (rest : List Int) (k : Int), l.drop i' = rest ∧ i' + rest.length = l.length ∧ rest.length = m ∧ unite rest k = unite l 0 ∧ ((i : Int) + 1 = (i' : Int)) ∧ k' = k := fun k' hk => ⟨rest.length, by simp at hn; omega, i + 1, rest, k', by rw [← List.drop_drop, hr]; rfl, by simp at hi; omega, rfl, hk, by simp, rfl⟩
    simp only [go_sem, Nat.reduceEqDiff, Nat.reduceAdd, Nat.reduceSub, Nat.reduceLeDiff, Nat.reduceLT, Nat.reduceMul, Nat.reduceBEq, Int.reduceEq, Int.reduceLT, Int.reduceLE, Int.reduceNeg, Int.reduceToNat, reduceCtorEq, ho, Try.results185, h9, h8, h7, h4, hlt, hget, Int.natCast_nonneg, Int.toNat_natCast]
    repeat' (first | (refine AIf_cases (fun h => ?_) (fun h => ?_) <;> (try simp only [decide_eq_true_eq, decide_eq_false_iff_not, Bool.not_eq_true', Bool.not_eq_false', Bool.not_eq_true, Bool.not_eq_false] at h) <;> (try simp only [go_sem, Nat.reduceEqDiff, Nat.reduceAdd, Nat.reduceSub, Nat.reduceLeDiff, Nat.reduceLT, Nat.reduceMul, Nat.reduceBEq, Int.reduceEq, Int.reduceLT, Int.reduceLE, Int.reduceNeg, Int.reduceToNat, reduceCtorEq, ho, Try.results185, h, h9, h8, h7, h4, hw])))
    all_goals simp only [unite] at ht
    all_goals (first | exact next _ (by simp_all) | (rw [if_neg ‹_›, if_pos ⟨‹_›, ‹_›⟩] at ht; rw [← ht]; exact ⟨rfl, rfl⟩))
end Go.Proofs.Ytiefnninebilbaa
/- What the checking of an expression returns: the program's check; no condition. -/
set_option maxRecDepth 100000
set_option linter.unusedVariables false
set_option linter.unusedSimpArgs false
namespace Go.Proofs.Ytiefnninebilbaa
open Go Go.Sx

theorem ints_len {l : List Int} : ∀ z ∈ l.map (PV.int .i64), z.cells.length = 1 := by
  intro z hz
  obtain ⟨n, _, rfl⟩ := List.mem_map.1 hz
  rfl
def allKind (l : List Int) (kind : Int) : Bool := (unite (l ++ [kind]) 0).2 && decide ((unite (l ++ [kind]) 0).1 = kind)
theorem ok184 : okCode M0 Try.f184.ntmps (Try.f184.body.getD .skip) = true := by decide +kernel
theorem all_fn (l : List Int) (kind : Int) (hl : l.length ≤ 100000000) : Fc 184 [.sl (l.map (.int .i64)), .int .i64 kind] (.bool (allKind l kind)) := by
  refine fn_of_awp (E := E0) (M := M0) follows Try.func184 rfl (by decide) ok184 (by decide) (by simp) fun o ho => ?_
  simp only [go_sem, Nat.reduceEqDiff, Nat.reduceAdd, Nat.reduceSub, Nat.reduceLeDiff, Nat.reduceLT, Nat.reduceMul, Nat.reduceBEq, Int.reduceEq, Int.reduceLT, Int.reduceLE, Int.reduceNeg, Int.reduceToNat, reduceCtorEq, ho, Try.results184]
  cases l with
  | nil =>
    refine GCall.fr ?_ (clone_empty) (.inr rfl) ?_; (focus (first | rfl | ((simp only [go_sem, Nat.reduceEqDiff, Nat.reduceAdd, Nat.reduceSub, Nat.reduceLeDiff, Nat.reduceLT, Nat.reduceMul, Nat.reduceBEq, Int.reduceEq, Int.reduceLT, Int.reduceLE, Int.reduceNeg, Int.reduceToNat, reduceCtorEq, ho, Try.results184]); done) | ((simp only [go_sem, Nat.reduceEqDiff, Nat.reduceAdd, Nat.reduceSub, Nat.reduceLeDiff, Nat.reduceLT, Nat.reduceMul, Nat.reduceBEq, Int.reduceEq, Int.reduceLT, Int.reduceLE, Int.reduceNeg, Int.reduceToNat, reduceCtorEq, ho, Try.results184]); rfl)))
    simp only [go_sem, Nat.reduceEqDiff, Nat.reduceAdd, Nat.reduceSub, Nat.reduceLeDiff, Nat.reduceLT, Nat.reduceMul, Nat.reduceBEq, Int.reduceEq, Int.reduceLT, Int.reduceLE, Int.reduceNeg, Int.reduceToNat, reduceCtorEq, ho, Try.results184]
    refine GCall.fr ?_ (unite_fn [kind] (by simp)) (.inl rfl) ?_; (focus (first | rfl | ((simp only [go_sem, Nat.reduceEqDiff, Nat.reduceAdd, Nat.reduceSub, Nat.reduceLeDiff, Nat.reduceLT, Nat.reduceMul, Nat.reduceBEq, Int.reduceEq, Int.reduceLT, Int.reduceLE, Int.reduceNeg, Int.reduceToNat, reduceCtorEq, ho, Try.results184]); done) | ((simp only [go_sem, Nat.reduceEqDiff, Nat.reduceAdd, Nat.reduceSub, Nat.reduceLeDiff, Nat.reduceLT, Nat.reduceMul, Nat.reduceBEq, Int.reduceEq, Int.reduceLT, Int.reduceLE, Int.reduceNeg, Int.reduceToNat, reduceCtorEq, ho, Try.results184]); rfl)))
    simp only [go_sem, Nat.reduceEqDiff, Nat.reduceAdd, Nat.reduceSub, Nat.reduceLeDiff, Nat.reduceLT, Nat.reduceMul, Nat.reduceBEq, Int.reduceEq, Int.reduceLT, Int.reduceLE, Int.reduceNeg, Int.reduceToNat, reduceCtorEq, ho, Try.results184]
    repeat' (first | (refine AIf_cases (fun h => ?_) (fun h => ?_) <;> (try simp only [decide_eq_true_eq, decide_eq_false_iff_not, Bool.not_eq_true', Bool.not_eq_false', Bool.not_eq_true, Bool.not_eq_false] at h) <;> (try simp only [go_sem, Nat.reduceEqDiff, Nat.reduceAdd, Nat.reduceSub, Nat.reduceLeDiff, Nat.reduceLT, Nat.reduceMul, Nat.reduceBEq, Int.reduceEq, Int.reduceLT, Int.reduceLE, Int.reduceNeg, Int.reduceToNat, reduceCtorEq, ho, Try.results184, h])))
    all_goals simp_all [allKind]
  | cons x l =>
    refine GCall.mk ?_ (clone_fn (.int .i64 x) (l.map (.int .i64)) (by have := ints_len (l := x :: l); simpa using this) (by simp at hl ⊢; omega)) rfl ?_
    · simp only [go_sem, Nat.reduceEqDiff, Nat.reduceAdd, Nat.reduceSub, Nat.reduceLeDiff, Nat.reduceLT, Nat.reduceMul, Nat.reduceBEq, Int.reduceEq, Int.reduceLT, Int.reduceLE, Int.reduceNeg, Int.reduceToNat, reduceCtorEq, ho, Try.results184]
    · have hb : (l.length + 1 + 1) * 9 ≤ 140737488355328 := by simp at hl; omega
      simp only [go_sem, Nat.reduceEqDiff, Nat.reduceAdd, Nat.reduceSub, Nat.reduceLeDiff, Nat.reduceLT, Nat.reduceMul, Nat.reduceBEq, Int.reduceEq, Int.reduceLT, Int.reduceLE, Int.reduceNeg, Int.reduceToNat, reduceCtorEq, ho, Try.results184, List.length_map, hb]
      refine GCall.fr ?_ (unite_fn (x :: l ++ [kind]) (by simp at hl ⊢; omega)) (.inl rfl) ?_; (focus (first | rfl | ((simp only [go_sem, Nat.reduceEqDiff, Nat.reduceAdd, Nat.reduceSub, Nat.reduceLeDiff, Nat.reduceLT, Nat.reduceMul, Nat.reduceBEq, Int.reduceEq, Int.reduceLT, Int.reduceLE, Int.reduceNeg, Int.reduceToNat, reduceCtorEq, ho, Try.results184, List.map_append]); done) | ((simp only [go_sem, Nat.reduceEqDiff, Nat.reduceAdd, Nat.reduceSub, Nat.reduceLeDiff, Nat.reduceLT, Nat.reduceMul, Nat.reduceBEq, Int.reduceEq, Int.reduceLT, Int.reduceLE, Int.reduceNeg, Int.reduceToNat, reduceCtorEq, ho, Try.results184, List.map_append]); rfl)))
      simp only [go_sem, Nat.reduceEqDiff, Nat.reduceAdd, Nat.reduceSub, Nat.reduceLeDiff, Nat.reduceLT, Nat.reduceMul, Nat.reduceBEq, Int.reduceEq, Int.reduceLT, Int.reduceLE, Int.reduceNeg, Int.reduceToNat, reduceCtorEq, ho, Try.results184]
      repeat' (first | (refine AIf_cases (fun h => ?_) (fun h => ?_) <;> (try simp only [decide_eq_true_eq, decide_eq_false_iff_not, Bool.not_eq_true', Bool.not_eq_false', Bool.not_eq_true, Bool.not_eq_false] at h) <;> (try simp only [go_sem, Nat.reduceEqDiff, Nat.reduceAdd, Nat.reduceSub, Nat.reduceLeDiff, Nat.reduceLT, Nat.reduceMul, Nat.reduceBEq, Int.reduceEq, Int.reduceLT, Int.reduceLE, Int.reduceNeg, Int.reduceToNat, reduceCtorEq, ho, Try.results184, h])))
      all_goals simp_all [allKind]
def resultK (op vk : Int) (l : List Int) : Int × Bool :=
  if op = 1 then (vk, true)
  else if op = 4 ∨ op = 5 ∨ op = 6 then (3, allKind l 3)
  else if op = 7 ∨ op = 8 ∨ op = 9 ∨ op = 10 ∨ op = 11 ∨ op = 12 then (3, (unite l 0).2)
  else if op = 19 then (2, allKind l 2)
  else if op = 20 then (1, allKind l 2)
  else if op = 21 then (3, true)
  else if op = 22 then ((unite (l.drop 1) 0).1, (unite (l.drop 1) 0).2 && allKind (l.take 1) 3)
  else if op = 23 then unite l 0
  else if op = 24 then (3, allKind l 1)
  else (1, allKind l 1)
theorem ints_len' {l : List Int} : ∀ z, z ∈ l.map (PV.int .i64) → z.cells.length = 1 := ints_len
theorem ok154 : okCode M0 Try.f154.ntmps (Try.f154.body.getD .skip) = true := by decide +kernel
theorem result_fn (e : Ex) (l : List Int) (hl : l.length ≤ 100000000) (h1 : e.op = 22 → 1 ≤ l.length) : Fc 154 [e.enc, .sl (l.map (.int .i64))] (.tup [.int .i64 (resultK e.op e.val.kind l).1, .bool (resultK e.op e.val.kind l).2]) := by
  have hl' : l.length ≤ 1000000000 := by omega
  refine fn_of_awp (E := E0) (M := M0) follows Try.func154 rfl (by decide) ok154 (by decide) (by simp) fun o ho => ?_
  simp only [go_sem, Nat.reduceEqDiff, Nat.reduceAdd, Nat.reduceSub, Nat.reduceLeDiff, Nat.reduceLT, Nat.reduceMul, Nat.reduceBEq, Int.reduceEq, Int.reduceLT, Int.reduceLE, Int.reduceNeg, Int.reduceToNat, reduceCtorEq, ho, Try.results154, e.enc_eq]
  repeat' (first | (refine AIf_cases (fun h => ?_) (fun h => ?_) <;> (try simp only [decide_eq_true_eq, decide_eq_false_iff_not, Bool.not_eq_true', Bool.not_eq_false', Bool.not_eq_true, Bool.not_eq_false] at h) <;> (try simp only [go_sem, Nat.reduceEqDiff, Nat.reduceAdd, Nat.reduceSub, Nat.reduceLeDiff, Nat.reduceLT, Nat.reduceMul, Nat.reduceBEq, Int.reduceEq, Int.reduceLT, Int.reduceLE, Int.reduceNeg, Int.reduceToNat, reduceCtorEq, ho, Try.results154, h])) | (refine GCall.fr ?_ (all_fn l 3 hl) (.inl rfl) ?_; (focus (first | rfl | ((simp only [go_sem, Nat.reduceEqDiff, Nat.reduceAdd, Nat.reduceSub, Nat.reduceLeDiff, Nat.reduceLT, Nat.reduceMul, Nat.reduceBEq, Int.reduceEq, Int.reduceLT, Int.reduceLE, Int.reduceNeg, Int.reduceToNat, reduceCtorEq, ho, Try.results154]); done) | ((simp only [go_sem, Nat.reduceEqDiff, Nat.reduceAdd, Nat.reduceSub, Nat.reduceLeDiff, Nat.reduceLT, Nat.reduceMul, Nat.reduceBEq, Int.reduceEq, Int.reduceLT, Int.reduceLE, Int.reduceNeg, Int.reduceToNat, reduceCtorEq, ho, Try.results154]); rfl))); (try simp only [go_sem, Nat.reduceEqDiff, Nat.reduceAdd, Nat.reduceSub, Nat.reduceLeDiff, Nat.reduceLT, Nat.reduceMul, Nat.reduceBEq, Int.reduceEq, Int.reduceLT, Int.reduceLE, Int.reduceNeg, Int.reduceToNat, reduceCtorEq, ho, Try.results154])) | (refine QCall.fr ?_ (all_fn l 3 hl) (.inl rfl) ?_; (focus (first | rfl | ((simp only [go_sem, Nat.reduceEqDiff, Nat.reduceAdd, Nat.reduceSub, Nat.reduceLeDiff, Nat.reduceLT, Nat.reduceMul, Nat.reduceBEq, Int.reduceEq, Int.reduceLT, Int.reduceLE, Int.reduceNeg, Int.reduceToNat, reduceCtorEq, ho, Try.results154]); done) | ((simp only [go_sem, Nat.reduceEqDiff, Nat.reduceAdd, Nat.reduceSub, Nat.reduceLeDiff, Nat.reduceLT, Nat.reduceMul, Nat.reduceBEq, Int.reduceEq, Int.reduceLT, Int.reduceLE, Int.reduceNeg, Int.reduceToNat, reduceCtorEq, ho, Try.results154]); rfl))); (try simp only [go_sem, Nat.reduceEqDiff, Nat.reduceAdd, Nat.reduceSub, Nat.reduceLeDiff, Nat.reduceLT, Nat.reduceMul, Nat.reduceBEq, Int.reduceEq, Int.reduceLT, Int.reduceLE, Int.reduceNeg, Int.reduceToNat, reduceCtorEq, ho, Try.results154])) | (refine GCall.fr ?_ (all_fn l 2 hl) (.inl rfl) ?_; (focus (first | rfl | ((simp only [go_sem, Nat.reduceEqDiff, Nat.reduceAdd, Nat.reduceSub, Nat.reduceLeDiff, Nat.reduceLT, Nat.reduceMul, Nat.reduceBEq, Int.reduceEq, Int.reduceLT, Int.reduceLE, Int.reduceNeg, Int.reduceToNat, reduceCtorEq, ho, Try.results154]); done) | ((simp only [go_sem, Nat.reduceEqDiff, Nat.reduceAdd, Nat.reduceSub, Nat.reduceLeDiff, Nat.reduceLT, Nat.reduceMul, Nat.reduceBEq, Int.reduceEq, Int.reduceLT, Int.reduceLE, Int.reduceNeg, Int.reduceToNat, reduceCtorEq, ho, Try.results154]); rfl))); (try simp only [go_sem, Nat.reduceEqDiff, Nat.reduceAdd, Nat.reduceSub, Nat.reduceLeDiff, Nat.reduceLT, Nat.reduceMul, Nat.reduceBEq, Int.reduceEq, Int.reduceLT, Int.reduceLE, Int.reduceNeg, Int.reduceToNat, reduceCtorEq, ho, Try.results154])) | (refine QCall.fr ?_ (all_fn l 2 hl) (.inl rfl) ?_; (focus (first | rfl | ((simp only [go_sem, Nat.reduceEqDiff, Nat.reduceAdd, Nat.reduceSub, Nat.reduceLeDiff, Nat.reduceLT, Nat.reduceMul, Nat.reduceBEq, Int.reduceEq, Int.reduceLT, Int.reduceLE, Int.reduceNeg, Int.reduceToNat, reduceCtorEq, ho, Try.results154]); done) | ((simp only [go_sem, Nat.reduceEqDiff, Nat.reduceAdd, Nat.reduceSub, Nat.reduceLeDiff, Nat.reduceLT, Nat.reduceMul, Nat.reduceBEq, Int.reduceEq, Int.reduceLT, Int.reduceLE, Int.reduceNeg, Int.reduceToNat, reduceCtorEq, ho, Try.results154]); rfl))); (try simp only [go_sem, Nat.reduceEqDiff, Nat.reduceAdd, Nat.reduceSub, Nat.reduceLeDiff, Nat.reduceLT, Nat.reduceMul, Nat.reduceBEq, Int.reduceEq, Int.reduceLT, Int.reduceLE, Int.reduceNeg, Int.reduceToNat, reduceCtorEq, ho, Try.results154])) | (refine GCall.fr ?_ (all_fn l 1 hl) (.inl rfl) ?_; (focus (first | rfl | ((simp only [go_sem, Nat.reduceEqDiff, Nat.reduceAdd, Nat.reduceSub, Nat.reduceLeDiff, Nat.reduceLT, Nat.reduceMul, Nat.reduceBEq, Int.reduceEq, Int.reduceLT, Int.reduceLE, Int.reduceNeg, Int.reduceToNat, reduceCtorEq, ho, Try.results154]); done) | ((simp only [go_sem, Nat.reduceEqDiff, Nat.reduceAdd, Nat.reduceSub, Nat.reduceLeDiff, Nat.reduceLT, Nat.reduceMul, Nat.reduceBEq, Int.reduceEq, Int.reduceLT, Int.reduceLE, Int.reduceNeg, Int.reduceToNat, reduceCtorEq, ho, Try.results154]); rfl))); (try simp only [go_sem, Nat.reduceEqDiff, Nat.reduceAdd, Nat.reduceSub, Nat.reduceLeDiff, Nat.reduceLT, Nat.reduceMul, Nat.reduceBEq, Int.reduceEq, Int.reduceLT, Int.reduceLE, Int.reduceNeg, Int.reduceToNat, reduceCtorEq, ho, Try.results154])) | (refine QCall.fr ?_ (all_fn l 1 hl) (.inl rfl) ?_; (focus (first | rfl | ((simp only [go_sem, Nat.reduceEqDiff, Nat.reduceAdd, Nat.reduceSub, Nat.reduceLeDiff, Nat.reduceLT, Nat.reduceMul, Nat.reduceBEq, Int.reduceEq, Int.reduceLT, Int.reduceLE, Int.reduceNeg, Int.reduceToNat, reduceCtorEq, ho, Try.results154]); done) | ((simp only [go_sem, Nat.reduceEqDiff, Nat.reduceAdd, Nat.reduceSub, Nat.reduceLeDiff, Nat.reduceLT, Nat.reduceMul, Nat.reduceBEq, Int.reduceEq, Int.reduceLT, Int.reduceLE, Int.reduceNeg, Int.reduceToNat, reduceCtorEq, ho, Try.results154]); rfl))); (try simp only [go_sem, Nat.reduceEqDiff, Nat.reduceAdd, Nat.reduceSub, Nat.reduceLeDiff, Nat.reduceLT, Nat.reduceMul, Nat.reduceBEq, Int.reduceEq, Int.reduceLT, Int.reduceLE, Int.reduceNeg, Int.reduceToNat, reduceCtorEq, ho, Try.results154])) | (refine GCall.fr ?_ (unite_fn l hl' ) (.inl rfl) ?_; (focus (first | rfl | ((simp only [go_sem, Nat.reduceEqDiff, Nat.reduceAdd, Nat.reduceSub, Nat.reduceLeDiff, Nat.reduceLT, Nat.reduceMul, Nat.reduceBEq, Int.reduceEq, Int.reduceLT, Int.reduceLE, Int.reduceNeg, Int.reduceToNat, reduceCtorEq, ho, Try.results154]); done) | ((simp only [go_sem, Nat.reduceEqDiff, Nat.reduceAdd, Nat.reduceSub, Nat.reduceLeDiff, Nat.reduceLT, Nat.reduceMul, Nat.reduceBEq, Int.reduceEq, Int.reduceLT, Int.reduceLE, Int.reduceNeg, Int.reduceToNat, reduceCtorEq, ho, Try.results154]); rfl))); (try simp only [go_sem, Nat.reduceEqDiff, Nat.reduceAdd, Nat.reduceSub, Nat.reduceLeDiff, Nat.reduceLT, Nat.reduceMul, Nat.reduceBEq, Int.reduceEq, Int.reduceLT, Int.reduceLE, Int.reduceNeg, Int.reduceToNat, reduceCtorEq, ho, Try.results154])) | (refine QCall.fr ?_ (unite_fn l hl' ) (.inl rfl) ?_; (focus (first | rfl | ((simp only [go_sem, Nat.reduceEqDiff, Nat.reduceAdd, Nat.reduceSub, Nat.reduceLeDiff, Nat.reduceLT, Nat.reduceMul, Nat.reduceBEq, Int.reduceEq, Int.reduceLT, Int.reduceLE, Int.reduceNeg, Int.reduceToNat, reduceCtorEq, ho, Try.results154]); done) | ((simp only [go_sem, Nat.reduceEqDiff, Nat.reduceAdd, Nat.reduceSub, Nat.reduceLeDiff, Nat.reduceLT, Nat.reduceMul, Nat.reduceBEq, Int.reduceEq, Int.reduceLT, Int.reduceLE, Int.reduceNeg, Int.reduceToNat, reduceCtorEq, ho, Try.results154]); rfl))); (try simp only [go_sem, Nat.reduceEqDiff, Nat.reduceAdd, Nat.reduceSub, Nat.reduceLeDiff, Nat.reduceLT, Nat.reduceMul, Nat.reduceBEq, Int.reduceEq, Int.reduceLT, Int.reduceLE, Int.reduceNeg, Int.reduceToNat, reduceCtorEq, ho, Try.results154])))
  all_goals (first | (simp_all [resultK]; done) | skip)
  have h2 : 1 ≤ l.length := h1 h
  simp only [go_sem, Nat.reduceEqDiff, Nat.reduceAdd, Nat.reduceSub, Nat.reduceLeDiff, Nat.reduceLT, Nat.reduceMul, Nat.reduceBEq, Int.reduceEq, Int.reduceLT, Int.reduceLE, Int.reduceNeg, Int.reduceToNat, reduceCtorEq, ho, Try.results154, List.length_map, h2, eq_true (ints_len' (l := l)), List.take_length, ← List.map_drop, ← List.map_take, Nat.le_refl]
  refine GCall.fr ?_ (unite_fn (l.drop 1) (by simp; omega)) (.inl rfl) ?_; (focus (first | rfl | ((simp only [go_sem, Nat.reduceEqDiff, Nat.reduceAdd, Nat.reduceSub, Nat.reduceLeDiff, Nat.reduceLT, Nat.reduceMul, Nat.reduceBEq, Int.reduceEq, Int.reduceLT, Int.reduceLE, Int.reduceNeg, Int.reduceToNat, reduceCtorEq, ho, Try.results154]); done) | ((simp only [go_sem, Nat.reduceEqDiff, Nat.reduceAdd, Nat.reduceSub, Nat.reduceLeDiff, Nat.reduceLT, Nat.reduceMul, Nat.reduceBEq, Int.reduceEq, Int.reduceLT, Int.reduceLE, Int.reduceNeg, Int.reduceToNat, reduceCtorEq, ho, Try.results154]); rfl)))
  simp only [go_sem, Nat.reduceEqDiff, Nat.reduceAdd, Nat.reduceSub, Nat.reduceLeDiff, Nat.reduceLT, Nat.reduceMul, Nat.reduceBEq, Int.reduceEq, Int.reduceLT, Int.reduceLE, Int.reduceNeg, Int.reduceToNat, reduceCtorEq, ho, Try.results154]
  repeat' (first | (refine AIf_cases (fun h => ?_) (fun h => ?_) <;> (try simp only [decide_eq_true_eq, decide_eq_false_iff_not, Bool.not_eq_true', Bool.not_eq_false', Bool.not_eq_true, Bool.not_eq_false] at h) <;> (try simp only [go_sem, Nat.reduceEqDiff, Nat.reduceAdd, Nat.reduceSub, Nat.reduceLeDiff, Nat.reduceLT, Nat.reduceMul, Nat.reduceBEq, Int.reduceEq, Int.reduceLT, Int.reduceLE, Int.reduceNeg, Int.reduceToNat, reduceCtorEq, ho, Try.results154, h, List.length_map, h2, eq_true (ints_len' (l := l)), List.take_length, ← List.map_drop, ← List.map_take, Nat.le_refl])) | (refine GCall.fr ?_ (all_fn (l.take 1) 3 (by simp; omega)) (.inl rfl) ?_; (focus (first | rfl | ((simp only [go_sem, Nat.reduceEqDiff, Nat.reduceAdd, Nat.reduceSub, Nat.reduceLeDiff, Nat.reduceLT, Nat.reduceMul, Nat.reduceBEq, Int.reduceEq, Int.reduceLT, Int.reduceLE, Int.reduceNeg, Int.reduceToNat, reduceCtorEq, ho, Try.results154, List.length_map, h2, eq_true (ints_len' (l := l)), List.take_length, ← List.map_drop, ← List.map_take, Nat.le_refl]); done) | ((simp only [go_sem, Nat.reduceEqDiff, Nat.reduceAdd, Nat.reduceSub, Nat.reduceLeDiff, Nat.reduceLT, Nat.reduceMul, Nat.reduceBEq, Int.reduceEq, Int.reduceLT, Int.reduceLE, Int.reduceNeg, Int.reduceToNat, reduceCtorEq, ho, Try.results154, List.length_map, h2, eq_true (ints_len' (l := l)), List.take_length, ← List.map_drop, ← List.map_take, Nat.le_refl]); rfl))); (try simp only [go_sem, Nat.reduceEqDiff, Nat.reduceAdd, Nat.reduceSub, Nat.reduceLeDiff, Nat.reduceLT, Nat.reduceMul, Nat.reduceBEq, Int.reduceEq, Int.reduceLT, Int.reduceLE, Int.reduceNeg, Int.reduceToNat, reduceCtorEq, ho, Try.results154, List.length_map, h2, eq_true (ints_len' (l := l)), List.take_length, ← List.map_drop, ← List.map_take, Nat.le_refl])) | (refine QCall.fr ?_ (all_fn (l.take 1) 3 (by simp; omega)) (.inl rfl) ?_; (focus (first | rfl | ((simp only [go_sem, Nat.reduceEqDiff, Nat.reduceAdd, Nat.reduceSub, Nat.reduceLeDiff, Nat.reduceLT, Nat.reduceMul, Nat.reduceBEq, Int.reduceEq, Int.reduceLT, Int.reduceLE, Int.reduceNeg, Int.reduceToNat, reduceCtorEq, ho, Try.results154, List.length_map, h2, eq_true (ints_len' (l := l)), List.take_length, ← List.map_drop, ← List.map_take, Nat.le_refl]); done) | ((simp only [go_sem, Nat.reduceEqDiff, Nat.reduceAdd, Nat.reduceSub, Nat.reduceLeDiff, Nat.reduceLT, Nat.reduceMul, Nat.reduceBEq, Int.reduceEq, Int.reduceLT, Int.reduceLE, Int.reduceNeg, Int.reduceToNat, reduceCtorEq, ho, Try.results154, List.length_map, h2, eq_true (ints_len' (l := l)), List.take_length, ← List.map_drop, ← List.map_take, Nat.le_refl]); rfl))); (try simp only [go_sem, Nat.reduceEqDiff, Nat.reduceAdd, Nat.reduceSub, Nat.reduceLeDiff, Nat.reduceLT, Nat.reduceMul, Nat.reduceBEq, Int.reduceEq, Int.reduceLT, Int.reduceLE, Int.reduceNeg, Int.reduceToNat, reduceCtorEq, ho, Try.results154, List.length_map, h2, eq_true (ints_len' (l := l)), List.take_length, ← List.map_drop, ← List.map_take, Nat.le_refl])))
  all_goals simp_all [resultK]
end Go.Proofs.Ytiefnninebilbaa
/- What the checking of an expression returns: the program's check and Check; no condition. -/
set_option maxRecDepth 100000
set_option linter.unusedVariables false
set_option linter.unusedSimpArgs false
namespace Go.Proofs.Ytiefnninebilbaa
open Go Go.Sx

mutual
def Ex.check (kinds : List Int) : Ex → Int × Int
  | .mk op int v name args =>
    if known op = false then (0, 7) else if Ex.formed (.mk op int v name args) = false then (0, 8)
    else if op = 2 then (if int < 0 ∨ (kinds.length : Int) ≤ int then (0, 13) else (kinds[int.toNat]?.getD 0, 0))
    else if (Ex.checks kinds args []).1 ≠ 0 then (0, (Ex.checks kinds args []).1)
    else if (resultK op v.kind (Ex.checks kinds args []).2).2 then ((resultK op v.kind (Ex.checks kinds args []).2).1, 0) else (0, 7)
def Ex.checks (kinds : List Int) : List Ex → List Int → Int × List Int
  | [], acc => (0, acc)
  | e :: l, acc => if (e.check kinds).2 ≠ 0 then ((e.check kinds).2, []) else Ex.checks kinds l (acc ++ [(e.check kinds).1])
end
theorem Ex.check_eq (kinds : List Int) (e : Ex) : e.check kinds =
    if known e.op = false then (0, 7) else if e.formed = false then (0, 8)
    else if e.op = 2 then (if e.int < 0 ∨ (kinds.length : Int) ≤ e.int then (0, 13) else (kinds[e.int.toNat]?.getD 0, 0))
    else if (Ex.checks kinds e.args []).1 ≠ 0 then (0, (Ex.checks kinds e.args []).1)
    else if (resultK e.op e.val.kind (Ex.checks kinds e.args []).2).2 then ((resultK e.op e.val.kind (Ex.checks kinds e.args []).2).1, 0) else (0, 7) := by
  cases e; rfl
theorem formed_len {e : Ex} (h : e.formed = true) : fitsN e.op e.args.length = true := by
  unfold Ex.formed at h
  simp only [Bool.and_eq_true] at h
  exact h.1
theorem ok91 : okCode M0 Try.f91.ntmps (Try.f91.body.getD .skip) = true := by decide +kernel
theorem check_fn (kinds : List Int) : ∀ (n : Nat) (e : Ex), e.size ≤ n → n ≤ 100000000 → Fc 91 [e.enc, .sl (kinds.map (.int .i64))] (.tup [.int .i64 (e.check kinds).1, .int .i64 (e.check kinds).2])
  | 0, e, h, _ => by have := e.size_pos; omega
  | n + 1, e, h, hn => by
    refine fn_of_awp (E := E0) (M := M0) follows Try.func91 rfl (by decide) ok91 (by decide) (by simp) fun o ho => ?_
    rw [Ex.check_eq]
    simp only [go_sem, Nat.reduceEqDiff, Nat.reduceAdd, Nat.reduceSub, Nat.reduceLeDiff, Nat.reduceLT, Nat.reduceMul, Nat.reduceBEq, Int.reduceEq, Int.reduceLT, Int.reduceLE, Int.reduceNeg, Int.reduceToNat, reduceCtorEq, ho, Try.results91, e.enc_eq]
    refine GCall.fr ?_ (counts_fn e.op e.args.length) (.inl rfl) ?_; (focus (first | rfl | ((simp only [go_sem, Nat.reduceEqDiff, Nat.reduceAdd, Nat.reduceSub, Nat.reduceLeDiff, Nat.reduceLT, Nat.reduceMul, Nat.reduceBEq, Int.reduceEq, Int.reduceLT, Int.reduceLE, Int.reduceNeg, Int.reduceToNat, reduceCtorEq, ho, Try.results91, List.length_map]); done) | ((simp only [go_sem, Nat.reduceEqDiff, Nat.reduceAdd, Nat.reduceSub, Nat.reduceLeDiff, Nat.reduceLT, Nat.reduceMul, Nat.reduceBEq, Int.reduceEq, Int.reduceLT, Int.reduceLE, Int.reduceNeg, Int.reduceToNat, reduceCtorEq, ho, Try.results91, List.length_map]); rfl)))
    simp only [go_sem, Nat.reduceEqDiff, Nat.reduceAdd, Nat.reduceSub, Nat.reduceLeDiff, Nat.reduceLT, Nat.reduceMul, Nat.reduceBEq, Int.reduceEq, Int.reduceLT, Int.reduceLE, Int.reduceNeg, Int.reduceToNat, reduceCtorEq, ho, Try.results91]
    cases hk : known e.op with
    | false => simp only [go_sem, Nat.reduceEqDiff, Nat.reduceAdd, Nat.reduceSub, Nat.reduceLeDiff, Nat.reduceLT, Nat.reduceMul, Nat.reduceBEq, Int.reduceEq, Int.reduceLT, Int.reduceLE, Int.reduceNeg, Int.reduceToNat, reduceCtorEq, ho, Try.results91, hk]
    | true =>
    simp only [go_sem, Nat.reduceEqDiff, Nat.reduceAdd, Nat.reduceSub, Nat.reduceLeDiff, Nat.reduceLT, Nat.reduceMul, Nat.reduceBEq, Int.reduceEq, Int.reduceLT, Int.reduceLE, Int.reduceNeg, Int.reduceToNat, reduceCtorEq, ho, Try.results91, hk]
    refine GCall.fr ?_ (formed_fn e) (.inl rfl) ?_; (focus (first | rfl | ((simp only [go_sem, Nat.reduceEqDiff, Nat.reduceAdd, Nat.reduceSub, Nat.reduceLeDiff, Nat.reduceLT, Nat.reduceMul, Nat.reduceBEq, Int.reduceEq, Int.reduceLT, Int.reduceLE, Int.reduceNeg, Int.reduceToNat, reduceCtorEq, ho, Try.results91, e.enc_eq]); done) | ((simp only [go_sem, Nat.reduceEqDiff, Nat.reduceAdd, Nat.reduceSub, Nat.reduceLeDiff, Nat.reduceLT, Nat.reduceMul, Nat.reduceBEq, Int.reduceEq, Int.reduceLT, Int.reduceLE, Int.reduceNeg, Int.reduceToNat, reduceCtorEq, ho, Try.results91, e.enc_eq]); rfl)))
    simp only [go_sem, Nat.reduceEqDiff, Nat.reduceAdd, Nat.reduceSub, Nat.reduceLeDiff, Nat.reduceLT, Nat.reduceMul, Nat.reduceBEq, Int.reduceEq, Int.reduceLT, Int.reduceLE, Int.reduceNeg, Int.reduceToNat, reduceCtorEq, ho, Try.results91]
    cases hf : e.formed with
    | false => simp only [go_sem, Nat.reduceEqDiff, Nat.reduceAdd, Nat.reduceSub, Nat.reduceLeDiff, Nat.reduceLT, Nat.reduceMul, Nat.reduceBEq, Int.reduceEq, Int.reduceLT, Int.reduceLE, Int.reduceNeg, Int.reduceToNat, reduceCtorEq, ho, Try.results91, hf]
    | true =>
    simp only [go_sem, Nat.reduceEqDiff, Nat.reduceAdd, Nat.reduceSub, Nat.reduceLeDiff, Nat.reduceLT, Nat.reduceMul, Nat.reduceBEq, Int.reduceEq, Int.reduceLT, Int.reduceLE, Int.reduceNeg, Int.reduceToNat, reduceCtorEq, ho, Try.results91, hf]
    by_cases h2 : e.op = 2
    · simp only [go_sem, Nat.reduceEqDiff, Nat.reduceAdd, Nat.reduceSub, Nat.reduceLeDiff, Nat.reduceLT, Nat.reduceMul, Nat.reduceBEq, Int.reduceEq, Int.reduceLT, Int.reduceLE, Int.reduceNeg, Int.reduceToNat, reduceCtorEq, ho, Try.results91, h2, List.length_map]
      by_cases hi : e.int < 0
      · simp only [go_sem, Nat.reduceEqDiff, Nat.reduceAdd, Nat.reduceSub, Nat.reduceLeDiff, Nat.reduceLT, Nat.reduceMul, Nat.reduceBEq, Int.reduceEq, Int.reduceLT, Int.reduceLE, Int.reduceNeg, Int.reduceToNat, reduceCtorEq, ho, Try.results91, hi]
      by_cases hi2 : (kinds.length : Int) ≤ e.int
      · simp only [go_sem, Nat.reduceEqDiff, Nat.reduceAdd, Nat.reduceSub, Nat.reduceLeDiff, Nat.reduceLT, Nat.reduceMul, Nat.reduceBEq, Int.reduceEq, Int.reduceLT, Int.reduceLE, Int.reduceNeg, Int.reduceToNat, reduceCtorEq, ho, Try.results91, hi, hi2]
      have hlt : e.int.toNat < kinds.length := by omega
      have hget : (kinds.map (PV.int .i64))[e.int.toNat]? = some (.int .i64 (kinds[e.int.toNat])) := by simp [hlt]
      have h0 : 0 ≤ e.int := by omega
      simp only [go_sem, Nat.reduceEqDiff, Nat.reduceAdd, Nat.reduceSub, Nat.reduceLeDiff, Nat.reduceLT, Nat.reduceMul, Nat.reduceBEq, Int.reduceEq, Int.reduceLT, Int.reduceLE, Int.reduceNeg, Int.reduceToNat, reduceCtorEq, ho, Try.results91, hi, hi2, h0, hget]
      simp [hlt]
    simp only [go_sem, Nat.reduceEqDiff, Nat.reduceAdd, Nat.reduceSub, Nat.reduceLeDiff, Nat.reduceLT, Nat.reduceMul, Nat.reduceBEq, Int.reduceEq, Int.reduceLT, Int.reduceLE, Int.reduceNeg, Int.reduceToNat, reduceCtorEq, ho, Try.results91, h2, List.length_map]
    refine ⟨fun m st => ∃ (done rest : List Ex) (acc : List Int), e.args = done ++ rest ∧ m = rest.length ∧ acc.length = done.length ∧ Ex.checks kinds rest acc = Ex.checks kinds e.args [] ∧ st.s 50 = .int .i64 done.length ∧ st.s 49 = .int .i64 e.args.length ∧ st.s 48 = .sl (e.args.map Ex.enc) ∧ st.s 1 = .sl (kinds.map (.int .i64)) ∧ st.s 2 = .ptr 2 1 0 ∧ getBox st.o 2 1 = some (49, e.enc.cells) ∧ ((acc = [] ∧ st.s 8 = .nil) ∨ (acc ≠ [] ∧ ∃ v, st.s 8 = .ref 66 v ∧ st.o 66 = (v, some (true, .row 3 (acc.map (.int .i64)))))),
      e.args.length, ⟨[], e.args, [], rfl, rfl, rfl, rfl, by simp only [go_sem, Nat.reduceEqDiff, Nat.reduceAdd, Nat.reduceSub, Nat.reduceLeDiff, Nat.reduceLT, Nat.reduceMul, Nat.reduceBEq, Int.reduceEq, Int.reduceLT, Int.reduceLE, Int.reduceNeg, Int.reduceToNat, reduceCtorEq, ho, Try.results91]; rfl, by simp only [go_sem, Nat.reduceEqDiff, Nat.reduceAdd, Nat.reduceSub, Nat.reduceLeDiff, Nat.reduceLT, Nat.reduceMul, Nat.reduceBEq, Int.reduceEq, Int.reduceLT, Int.reduceLE, Int.reduceNeg, Int.reduceToNat, reduceCtorEq, ho, Try.results91], by simp only [go_sem, Nat.reduceEqDiff, Nat.reduceAdd, Nat.reduceSub, Nat.reduceLeDiff, Nat.reduceLT, Nat.reduceMul, Nat.reduceBEq, Int.reduceEq, Int.reduceLT, Int.reduceLE, Int.reduceNeg, Int.reduceToNat, reduceCtorEq, ho, Try.results91], by simp only [go_sem, Nat.reduceEqDiff, Nat.reduceAdd, Nat.reduceSub, Nat.reduceLeDiff, Nat.reduceLT, Nat.reduceMul, Nat.reduceBEq, Int.reduceEq, Int.reduceLT, Int.reduceLE, Int.reduceNeg, Int.reduceToNat, reduceCtorEq, ho, Try.results91], by simp only [go_sem, Nat.reduceEqDiff, Nat.reduceAdd, Nat.reduceSub, Nat.reduceLeDiff, Nat.reduceLT, Nat.reduceMul, Nat.reduceBEq, Int.reduceEq, Int.reduceLT, Int.reduceLE, Int.reduceNeg, Int.reduceToNat, reduceCtorEq, ho, Try.results91], by simp only [go_sem, Nat.reduceEqDiff, Nat.reduceAdd, Nat.reduceSub, Nat.reduceLeDiff, Nat.reduceLT, Nat.reduceMul, Nat.reduceBEq, Int.reduceEq, Int.reduceLT, Int.reduceLE, Int.reduceNeg, Int.reduceToNat, reduceCtorEq, ho, Try.results91], .inl ⟨rfl, by simp only [go_sem, Nat.reduceEqDiff, Nat.reduceAdd, Nat.reduceSub, Nat.reduceLeDiff, Nat.reduceLT, Nat.reduceMul, Nat.reduceBEq, Int.reduceEq, Int.reduceLT, Int.reduceLE, Int.reduceNeg, Int.reduceToNat, reduceCtorEq, ho, Try.results91]⟩⟩, ?_⟩
    rintro m st ⟨done, rest, acc, hl, rfl, hal, hck, h50, h49, h48, hs1, hs2, hb, h8⟩
    have hsz := e.size_eq
    rw [hl, Ex.sizes_app] at hsz
    have hdl := Ex.len_sizes done
    have hw : IntKind.i64.wrap ((done.length : Int) + 1) = (done.length : Int) + 1 := wrap_fits (by omega) (by omega)
    cases rest with
    | nil =>
      have hlt : ¬ (done.length : Int) < (e.args.length : Int) := by simp [hl]
      have hck' : Ex.checks kinds e.args [] = (0, acc) := by rw [← hck]; rfl
      have h22 : e.op = 22 → 1 ≤ acc.length := fun h => by
        have := formed_len hf
        rw [h] at this
        simp [fitsN] at this
        rw [hal]
        simp at hl
        rw [← hl]
        omega
      have hal' : acc.length ≤ 100000000 := by omega
      have fin : ∀ {q : PV}, st.s 8 = q → res st.o 4 q = some (.sl (acc.map (.int .i64))) → awp P0 E0 M0 (Code.seq Code.skip Code.skip) (fun _ _ => True) st := fun _ _ => trivial
      rcases h8 with ⟨rfl, h8⟩ | ⟨hne, v, h8, h66⟩
      · simp only [go_sem, Nat.reduceEqDiff, Nat.reduceAdd, Nat.reduceSub, Nat.reduceLeDiff, Nat.reduceLT, Nat.reduceMul, Nat.reduceBEq, Int.reduceEq, Int.reduceLT, Int.reduceLE, Int.reduceNeg, Int.reduceToNat, reduceCtorEq, ho, Try.results91, h50, h49, hlt, hs2, hb, hck', h8]
        refine GCall.fr ?_ (result_fn e [] (by simp) h22) (.inl rfl) ?_; (focus (first | rfl | ((simp only [go_sem, Nat.reduceEqDiff, Nat.reduceAdd, Nat.reduceSub, Nat.reduceLeDiff, Nat.reduceLT, Nat.reduceMul, Nat.reduceBEq, Int.reduceEq, Int.reduceLT, Int.reduceLE, Int.reduceNeg, Int.reduceToNat, reduceCtorEq, ho, Try.results91, e.enc_eq]); done) | ((simp only [go_sem, Nat.reduceEqDiff, Nat.reduceAdd, Nat.reduceSub, Nat.reduceLeDiff, Nat.reduceLT, Nat.reduceMul, Nat.reduceBEq, Int.reduceEq, Int.reduceLT, Int.reduceLE, Int.reduceNeg, Int.reduceToNat, reduceCtorEq, ho, Try.results91, e.enc_eq]); rfl)))
        simp only [go_sem, Nat.reduceEqDiff, Nat.reduceAdd, Nat.reduceSub, Nat.reduceLeDiff, Nat.reduceLT, Nat.reduceMul, Nat.reduceBEq, Int.reduceEq, Int.reduceLT, Int.reduceLE, Int.reduceNeg, Int.reduceToNat, reduceCtorEq, ho, Try.results91]
        repeat' (first | (refine AIf_cases (fun h => ?_) (fun h => ?_) <;> (try simp only [decide_eq_true_eq, decide_eq_false_iff_not, Bool.not_eq_true', Bool.not_eq_false', Bool.not_eq_true, Bool.not_eq_false] at h) <;> (try simp only [go_sem, Nat.reduceEqDiff, Nat.reduceAdd, Nat.reduceSub, Nat.reduceLeDiff, Nat.reduceLT, Nat.reduceMul, Nat.reduceBEq, Int.reduceEq, Int.reduceLT, Int.reduceLE, Int.reduceNeg, Int.reduceToNat, reduceCtorEq, ho, Try.results91, h])))
        all_goals simp_all
      · have hrow : getRow st.o 66 v = some (3, acc.map (.int .i64)) := by simp [getRow, h66]
        simp only [go_sem, Nat.reduceEqDiff, Nat.reduceAdd, Nat.reduceSub, Nat.reduceLeDiff, Nat.reduceLT, Nat.reduceMul, Nat.reduceBEq, Int.reduceEq, Int.reduceLT, Int.reduceLE, Int.reduceNeg, Int.reduceToNat, reduceCtorEq, ho, Try.results91, h50, h49, hlt, hs2, hb, hck', h8]
        refine GCall.fr ?_ (result_fn e acc hal' h22) (.inl rfl) ?_; (focus (first | rfl | ((simp only [go_sem, Nat.reduceEqDiff, Nat.reduceAdd, Nat.reduceSub, Nat.reduceLeDiff, Nat.reduceLT, Nat.reduceMul, Nat.reduceBEq, Int.reduceEq, Int.reduceLT, Int.reduceLE, Int.reduceNeg, Int.reduceToNat, reduceCtorEq, ho, Try.results91, e.enc_eq, hrow]); done) | ((simp only [go_sem, Nat.reduceEqDiff, Nat.reduceAdd, Nat.reduceSub, Nat.reduceLeDiff, Nat.reduceLT, Nat.reduceMul, Nat.reduceBEq, Int.reduceEq, Int.reduceLT, Int.reduceLE, Int.reduceNeg, Int.reduceToNat, reduceCtorEq, ho, Try.results91, e.enc_eq, hrow]); rfl)))
        simp only [go_sem, Nat.reduceEqDiff, Nat.reduceAdd, Nat.reduceSub, Nat.reduceLeDiff, Nat.reduceLT, Nat.reduceMul, Nat.reduceBEq, Int.reduceEq, Int.reduceLT, Int.reduceLE, Int.reduceNeg, Int.reduceToNat, reduceCtorEq, ho, Try.results91]
        repeat' (first | (refine AIf_cases (fun h => ?_) (fun h => ?_) <;> (try simp only [decide_eq_true_eq, decide_eq_false_iff_not, Bool.not_eq_true', Bool.not_eq_false', Bool.not_eq_true, Bool.not_eq_false] at h) <;> (try simp only [go_sem, Nat.reduceEqDiff, Nat.reduceAdd, Nat.reduceSub, Nat.reduceLeDiff, Nat.reduceLT, Nat.reduceMul, Nat.reduceBEq, Int.reduceEq, Int.reduceLT, Int.reduceLE, Int.reduceNeg, Int.reduceToNat, reduceCtorEq, ho, Try.results91, h])))
        all_goals simp_all
    | cons x rest =>
      have hlt : (done.length : Int) < (e.args.length : Int) := by simp [hl]; omega
      have hget : (e.args.map Ex.enc)[done.length]? = some x.enc := by simp [hl]
      have hxs : x.size ≤ n := by simp [Ex.sizes] at hsz; omega
      simp only [go_sem, Nat.reduceEqDiff, Nat.reduceAdd, Nat.reduceSub, Nat.reduceLeDiff, Nat.reduceLT, Nat.reduceMul, Nat.reduceBEq, Int.reduceEq, Int.reduceLT, Int.reduceLE, Int.reduceNeg, Int.reduceToNat, reduceCtorEq, ho, Try.results91, h50, h49, h48, hs1, hs2, hb, hlt, hget, Int.natCast_nonneg, Int.toNat_natCast]
      refine GCall.fr ?_ (check_fn kinds n x hxs (by omega)) (.inl rfl) ?_; (focus (first | rfl | ((simp only [go_sem, Nat.reduceEqDiff, Nat.reduceAdd, Nat.reduceSub, Nat.reduceLeDiff, Nat.reduceLT, Nat.reduceMul, Nat.reduceBEq, Int.reduceEq, Int.reduceLT, Int.reduceLE, Int.reduceNeg, Int.reduceToNat, reduceCtorEq, ho, Try.results91, x.enc_eq, hs1]); done) | ((simp only [go_sem, Nat.reduceEqDiff, Nat.reduceAdd, Nat.reduceSub, Nat.reduceLeDiff, Nat.reduceLT, Nat.reduceMul, Nat.reduceBEq, Int.reduceEq, Int.reduceLT, Int.reduceLE, Int.reduceNeg, Int.reduceToNat, reduceCtorEq, ho, Try.results91, x.enc_eq, hs1]); rfl)))
      simp only [go_sem, Nat.reduceEqDiff, Nat.reduceAdd, Nat.reduceSub, Nat.reduceLeDiff, Nat.reduceLT, Nat.reduceMul, Nat.reduceBEq, Int.reduceEq, Int.reduceLT, Int.reduceLE, Int.reduceNeg, Int.reduceToNat, reduceCtorEq, ho, Try.results91, h50, h49, h48, hs1, hs2, hb]
      rw [Ex.checks] at hck
      have hb' := hb
      rw [e.enc_cells] at hb'
      by_cases hx : (x.check kinds).2 = 0
      · have hbig : (acc.length + 1) * 9 ≤ 140737488355328 := by omega
        rw [if_neg (by simp [hx])] at hck
        rcases h8 with ⟨rfl, h8⟩ | ⟨hne, v, h8, h66⟩
        · simp only [go_sem, Nat.reduceEqDiff, Nat.reduceAdd, Nat.reduceSub, Nat.reduceLeDiff, Nat.reduceLT, Nat.reduceMul, Nat.reduceBEq, Int.reduceEq, Int.reduceLT, Int.reduceLE, Int.reduceNeg, Int.reduceToNat, reduceCtorEq, ho, Try.results91, hx, h50, h49, h48, hs1, hs2, hb, h8, hw]
          exact ⟨rest.length, by omega, done ++ [x], rest, _, by simp [hl], rfl, by simp [← hal], hck, by simp, .inr ⟨by simp, _, rfl, rfl⟩⟩
        · have hrow : getRow st.o 66 v = some (3, acc.map (.int .i64)) := by simp [getRow, h66]
          simp only [go_sem, Nat.reduceEqDiff, Nat.reduceAdd, Nat.reduceSub, Nat.reduceLeDiff, Nat.reduceLT, Nat.reduceMul, Nat.reduceBEq, Int.reduceEq, Int.reduceLT, Int.reduceLE, Int.reduceNeg, Int.reduceToNat, reduceCtorEq, ho, Try.results91, hx, h50, h49, h48, hs1, hs2, hb, h8, hw, h66, hbig]
          exact ⟨rest.length, by omega, done ++ [x], rest, _, by simp [hl], rfl, by simp [← hal], hck, by simp, .inr ⟨by simp, _, rfl, by simp⟩⟩
      · rw [if_pos (by simpa using hx)] at hck
        simp only [go_sem, Nat.reduceEqDiff, Nat.reduceAdd, Nat.reduceSub, Nat.reduceLeDiff, Nat.reduceLT, Nat.reduceMul, Nat.reduceBEq, Int.reduceEq, Int.reduceLT, Int.reduceLE, Int.reduceNeg, Int.reduceToNat, reduceCtorEq, ho, Try.results91, hx, h50, h49, h48, hs1, hs2, hb]
        rw [← hck]
        simp [hx]
end Go.Proofs.Ytiefnninebilbaa
/- What the checking of an expression returns: Check; no condition. -/
set_option maxRecDepth 100000
set_option linter.unusedVariables false
set_option linter.unusedSimpArgs false
namespace Go.Proofs.Ytiefnninebilbaa
open Go Go.Sx

def Ex.checked (kinds : List Int) (e : Ex) : Int × Int := if 24 < e.depth then (0, 26) else e.check kinds
theorem ok35 : okCode M0 Try.f35.ntmps (Try.f35.body.getD .skip) = true := by decide +kernel
theorem checked_fn (kinds : List Int) (e : Ex) (hs : e.size ≤ 100000000) : Fc 35 [e.enc, .sl (kinds.map (.int .i64))] (.tup [.int .i64 (e.checked kinds).1, .int .i64 (e.checked kinds).2]) := by
  refine fn_of_awp (E := E0) (M := M0) follows Try.func35 rfl (by decide) ok35 (by decide) (by simp) fun o ho => ?_
  simp only [go_sem, Nat.reduceEqDiff, Nat.reduceAdd, Nat.reduceSub, Nat.reduceLeDiff, Nat.reduceLT, Nat.reduceMul, Nat.reduceBEq, Int.reduceEq, Int.reduceLT, Int.reduceLE, Int.reduceNeg, Int.reduceToNat, reduceCtorEq, ho, Try.results35, e.enc_eq]
  refine GCall.fr ?_ (depthMax_fn e (by omega)) (.inl rfl) ?_; (focus (first | rfl | ((simp only [go_sem, Nat.reduceEqDiff, Nat.reduceAdd, Nat.reduceSub, Nat.reduceLeDiff, Nat.reduceLT, Nat.reduceMul, Nat.reduceBEq, Int.reduceEq, Int.reduceLT, Int.reduceLE, Int.reduceNeg, Int.reduceToNat, reduceCtorEq, ho, Try.results35, e.enc_eq]); done) | ((simp only [go_sem, Nat.reduceEqDiff, Nat.reduceAdd, Nat.reduceSub, Nat.reduceLeDiff, Nat.reduceLT, Nat.reduceMul, Nat.reduceBEq, Int.reduceEq, Int.reduceLT, Int.reduceLE, Int.reduceNeg, Int.reduceToNat, reduceCtorEq, ho, Try.results35, e.enc_eq]); rfl)))
  simp only [go_sem, Nat.reduceEqDiff, Nat.reduceAdd, Nat.reduceSub, Nat.reduceLeDiff, Nat.reduceLT, Nat.reduceMul, Nat.reduceBEq, Int.reduceEq, Int.reduceLT, Int.reduceLE, Int.reduceNeg, Int.reduceToNat, reduceCtorEq, ho, Try.results35]
  repeat' (first | (refine AIf_cases (fun h => ?_) (fun h => ?_) <;> (try simp only [decide_eq_true_eq, decide_eq_false_iff_not, Bool.not_eq_true', Bool.not_eq_false', Bool.not_eq_true, Bool.not_eq_false] at h) <;> (try simp only [go_sem, Nat.reduceEqDiff, Nat.reduceAdd, Nat.reduceSub, Nat.reduceLeDiff, Nat.reduceLT, Nat.reduceMul, Nat.reduceBEq, Int.reduceEq, Int.reduceLT, Int.reduceLE, Int.reduceNeg, Int.reduceToNat, reduceCtorEq, ho, Try.results35, h, e.enc_eq])) | (refine GCall.fr ?_ (check_fn kinds _ e (Nat.le_refl _) hs) (.inl rfl) ?_; (focus (first | rfl | ((simp only [go_sem, Nat.reduceEqDiff, Nat.reduceAdd, Nat.reduceSub, Nat.reduceLeDiff, Nat.reduceLT, Nat.reduceMul, Nat.reduceBEq, Int.reduceEq, Int.reduceLT, Int.reduceLE, Int.reduceNeg, Int.reduceToNat, reduceCtorEq, ho, Try.results35, e.enc_eq]); done) | ((simp only [go_sem, Nat.reduceEqDiff, Nat.reduceAdd, Nat.reduceSub, Nat.reduceLeDiff, Nat.reduceLT, Nat.reduceMul, Nat.reduceBEq, Int.reduceEq, Int.reduceLT, Int.reduceLE, Int.reduceNeg, Int.reduceToNat, reduceCtorEq, ho, Try.results35, e.enc_eq]); rfl))); (try simp only [go_sem, Nat.reduceEqDiff, Nat.reduceAdd, Nat.reduceSub, Nat.reduceLeDiff, Nat.reduceLT, Nat.reduceMul, Nat.reduceBEq, Int.reduceEq, Int.reduceLT, Int.reduceLE, Int.reduceNeg, Int.reduceToNat, reduceCtorEq, ho, Try.results35, e.enc_eq])) | (refine QCall.fr ?_ (check_fn kinds _ e (Nat.le_refl _) hs) (.inl rfl) ?_; (focus (first | rfl | ((simp only [go_sem, Nat.reduceEqDiff, Nat.reduceAdd, Nat.reduceSub, Nat.reduceLeDiff, Nat.reduceLT, Nat.reduceMul, Nat.reduceBEq, Int.reduceEq, Int.reduceLT, Int.reduceLE, Int.reduceNeg, Int.reduceToNat, reduceCtorEq, ho, Try.results35, e.enc_eq]); done) | ((simp only [go_sem, Nat.reduceEqDiff, Nat.reduceAdd, Nat.reduceSub, Nat.reduceLeDiff, Nat.reduceLT, Nat.reduceMul, Nat.reduceBEq, Int.reduceEq, Int.reduceLT, Int.reduceLE, Int.reduceNeg, Int.reduceToNat, reduceCtorEq, ho, Try.results35, e.enc_eq]); rfl))); (try simp only [go_sem, Nat.reduceEqDiff, Nat.reduceAdd, Nat.reduceSub, Nat.reduceLeDiff, Nat.reduceLT, Nat.reduceMul, Nat.reduceBEq, Int.reduceEq, Int.reduceLT, Int.reduceLE, Int.reduceNeg, Int.reduceToNat, reduceCtorEq, ho, Try.results35, e.enc_eq])))
  · have h2 : 24 < e.depth := by omega
    simp [Ex.checked, h2]
  · have h2 : ¬ 24 < e.depth := by omega
    simp [Ex.checked, h2]
end Go.Proofs.Ytiefnninebilbaa
/- The value of an expression, as plain Lean; no condition. -/
set_option maxRecDepth 100000
set_option linter.unusedVariables false
set_option linter.unusedSimpArgs false
namespace Go.Proofs.Ytiefnninebilbaa
open Go Go.Sx

def cmpI (a b : Int) : Int := if a < b then -1 else if b < a then 1 else 0
def cmpB (a b : ByteArray) : Int := Lib.compareBytes a.data.toList b.data.toList
def Vl.cmp (a b : Vl) : Int := if cmpI a.kind b.kind ≠ 0 then cmpI a.kind b.kind else if cmpI a.int b.int ≠ 0 then cmpI a.int b.int else cmpB a.text b.text
def Vl.dec (a b : Vl) (is : Bool) : Int := if a.kind = 0 ∨ a.kind ≠ b.kind then 1 else if is then 2 else 0
def Vl.eql (a b : Vl) : Int := Vl.dec a b (decide (a.cmp b = 0))
def Vl.less (a b : Vl) : Int := Vl.dec a b (decide (a.cmp b < 0))
def tand (a b : Int) : Int := least [a, b] 2
def tor (a b : Int) : Int := tnot (least [tnot a, tnot b] 2)
def Vl.compared (op : Int) (a b : Vl) : Int :=
  if op = 7 then a.eql b else if op = 8 then tnot (a.eql b) else if op = 9 then a.less b else if op = 11 then b.less a else if op = 10 then tnot (b.less a) else tnot (a.less b)
def Vl.at (row : List Vl) (i : Int) : Vl := if i < 0 ∨ (row.length : Int) ≤ i then Vl.null else row[i.toNat]?.getD Vl.null
def column (row : List Vl) (i : Int) : Vl := (Vl.at row i).orNull
def nth (l : List Vl) (i : Nat) : Vl := l[i]?.getD Vl.null
def logicV (op : Int) (l : List Vl) : Vl :=
  if op = 4 then Vl.of (tnot (nth l 0).truth)
  else if op = 5 then Vl.of ((l.drop 1).foldl (fun t v => tand t v.truth) (nth l 0).truth)
  else Vl.of ((l.drop 1).foldl (fun t v => tor t v.truth) (nth l 0).truth)
def allK (k : Int) (l : List Vl) : Bool := l.all fun v => decide (v.kind = k)
def sizeV (l : List Vl) : Nat := l.foldl (fun n v => n + v.text.size) 0
def catV (l : List Vl) : ByteArray := l.foldl (fun s v => s ++ v.text) emp
def textV (op : Int) (l : List Vl) : Vl := if allK 2 l then (if op = 20 then Vl.num (sizeV l) else Vl.txt (catV l)) else Vl.null
def absI (a : Int) : Int := if a < IntKind.i64.wrap (0 - a) then IntKind.i64.wrap (0 - a) else a
def product (a b : Int) : Vl := if a ≠ 0 ∧ IntKind.i64.wrap (Int.tdiv 1125899906842624 (absI a)) < absI b then Vl.null else Vl.num (IntKind.i64.wrap (a * b))
def computed (op a b : Int) : Vl :=
  if op = 13 then Vl.num (IntKind.i64.wrap (a + b)) else if op = 14 then Vl.num (IntKind.i64.wrap (a - b)) else if op = 15 then product a b
  else if op = 18 then Vl.num (IntKind.i64.wrap (0 - a)) else if b = 0 then Vl.null
  else if op = 16 then Vl.num (IntKind.i64.wrap (a.tdiv b)) else Vl.num (a.tmod b)
def arith (op : Int) (l : List Vl) : Vl := if allK 1 l then computed op (nth l 0).int (nth l (l.length - 1)).int else Vl.null
structure Pd where
  f : Int
  t : Int
def Pd.enc (p : Pd) : PV := .agg [.int .i64 p.f, .int .i64 p.t]
def Pd.valid (p : Pd) : Bool := decide (0 ≤ p.f) && (decide (p.f < p.t) && decide (p.t ≤ 1099511627776))
def Pd.rel (p q : Pd) : Int × Bool :=
  if p.valid = false ∨ q.valid = false then (0, false)
  else if p.t < q.f then (0, true) else if p.t = q.f then (1, true) else if q.t < p.f then (12, true) else if q.t = p.f then (11, true)
  else if p.f = q.f ∧ p.t = q.t then (6, true) else if p.f = q.f ∧ p.t < q.t then (3, true) else if p.f = q.f then (9, true)
  else if p.t = q.t ∧ q.f < p.f then (5, true) else if p.t = q.t then (7, true) else if p.f < q.f ∧ q.t < p.t then (8, true)
  else if q.f < p.f ∧ p.t < q.t then (4, true) else if p.f < q.f then (2, true) else (10, true)
def related (rel : Int) (l : List Vl) : Vl :=
  if (nth l 0).kind = 1 ∧ (nth l 1).kind = 1 ∧ (nth l 2).kind = 1 ∧ (nth l 3).kind = 1 ∧ (Pd.rel ⟨(nth l 0).int, (nth l 1).int⟩ ⟨(nth l 2).int, (nth l 3).int⟩).2 = true
  then Vl.bool (decide ((Pd.rel ⟨(nth l 0).int, (nth l 1).int⟩ ⟨(nth l 2).int, (nth l 3).int⟩).1 = rel)) else Vl.null
def firstV : List Vl → Vl
  | [] => Vl.null
  | v :: l => if v.kind ≠ 0 then v else firstV l
def evalOp (row : List Vl) (op int : Int) (v : Vl) (l : List Vl) : Vl :=
  if op = 1 then v else if op = 2 then column row int
  else if op = 22 then (if (nth l 0).truth = 2 then nth l 1 else nth l 2)
  else if op = 4 ∨ op = 5 ∨ op = 6 then logicV op l
  else if op = 21 then Vl.bool (decide ((nth l 0).kind = 0))
  else if op = 23 then firstV l
  else if op = 24 then related int l
  else if op = 19 ∨ op = 20 then textV op l
  else if op = 13 ∨ op = 14 ∨ op = 15 ∨ op = 16 ∨ op = 17 ∨ op = 18 then arith op l
  else Vl.of (Vl.compared op (nth l 0) (nth l 1))
mutual
def Ex.eval (row : List Vl) : Ex → Vl
  | .mk op int v name args => if (Ex.mk op int v name args).formed then evalOp row op int v (Ex.evals row args) else Vl.null
def Ex.evals (row : List Vl) : List Ex → List Vl
  | [] => []
  | e :: l => e.eval row :: Ex.evals row l
end
theorem Ex.evals_map (row : List Vl) : ∀ l, Ex.evals row l = l.map (Ex.eval row)
  | [] => rfl
  | e :: l => by rw [Ex.evals, Ex.evals_map row l]; rfl
theorem Ex.eval_eq (row : List Vl) (e : Ex) : e.eval row = if e.formed then evalOp row e.op e.int e.val (e.args.map (Ex.eval row)) else Vl.null := by
  cases e; rw [Ex.eval, Ex.evals_map]; rfl
theorem null_valid : Vl.null.valid = true := by decide
theorem bool_valid (b : Bool) : (Vl.bool b).valid = true := by cases b <;> decide
theorem orNull_valid (v : Vl) : v.orNull.valid = true := by
  unfold Vl.orNull
  split
  · assumption
  · exact null_valid
theorem of_valid (t : Int) : (Vl.of t).valid = true := by
  unfold Vl.of
  split
  · exact null_valid
  · exact bool_valid _
theorem num_valid (n : Int) : (Vl.num n).valid = true := orNull_valid _
theorem txt_valid (s : ByteArray) : (Vl.txt s).valid = true := orNull_valid _
theorem nth_valid {l : List Vl} (h : ∀ v ∈ l, v.valid = true) (i : Nat) : (nth l i).valid = true := by
  unfold nth
  cases hi : l[i]? with
  | none => exact null_valid
  | some v => exact h v (List.mem_of_getElem? hi)
theorem computed_valid (op a b : Int) : (computed op a b).valid = true := by
  unfold computed product
  repeat' split
  all_goals (first | exact null_valid | exact num_valid _)
theorem firstV_valid : ∀ {l : List Vl}, (∀ v ∈ l, v.valid = true) → (firstV l).valid = true
  | [], _ => null_valid
  | v :: l, h => by
    unfold firstV
    split
    · exact h v (by simp)
    · exact firstV_valid fun x hx => h x (by simp [hx])
theorem evalOp_valid {row : List Vl} {op int : Int} {v : Vl} {l : List Vl} (hv : op = 1 → v.valid = true) (h : ∀ v ∈ l, v.valid = true) : (evalOp row op int v l).valid = true := by
  unfold evalOp
  split
  · exact hv ‹_›
  split
  · exact orNull_valid _
  split
  · split <;> exact nth_valid h _
  split
  · unfold logicV; (repeat' split) <;> exact of_valid _
  split
  · exact bool_valid _
  split
  · exact firstV_valid h
  split
  · unfold related; split
    · exact bool_valid _
    · exact null_valid
  split
  · unfold textV; (repeat' split) <;> first | exact null_valid | exact num_valid _ | exact txt_valid _
  split
  · unfold arith; split
    · exact computed_valid _ _ _
    · exact null_valid
  · exact of_valid _
theorem formed_val {e : Ex} (h : e.formed = true) (h1 : e.op = 1) : e.val.valid = true := by
  unfold Ex.formed at h
  simp only [h1, if_true, Bool.and_eq_true] at h
  exact h.2.2.2
theorem Ex.eval_valid (row : List Vl) (e : Ex) : (e.eval row).valid = true := by
  induction e using Ex.ind with
  | h e ih =>
    rw [Ex.eval_eq]
    split
    · rename_i hf
      refine evalOp_valid (formed_val hf) fun v hv => ?_
      obtain ⟨x, hx, rfl⟩ := List.mem_map.1 hv
      exact ih x hx
    · exact null_valid
end Go.Proofs.Ytiefnninebilbaa
/- What the comparison of values and the logic of truth values return; no condition. -/
set_option maxRecDepth 100000
set_option linter.unusedVariables false
set_option linter.unusedSimpArgs false
namespace Go.Proofs.Ytiefnninebilbaa
open Go Go.Sx

theorem ok218 : okCode M0 Try.f218.ntmps (Try.f218.body.getD .skip) = true := by decide +kernel
theorem isNaN_fn (a : Int) : Fc 218 [.int .i64 a] (.bool false) := by
  refine fn_of_awp (E := E0) (M := M0) follows Try.func218 rfl (by decide) ok218 (by decide) (by simp) fun o ho => ?_
  simp only [go_sem, Nat.reduceEqDiff, Nat.reduceAdd, Nat.reduceSub, Nat.reduceLeDiff, Nat.reduceLT, Nat.reduceMul, Nat.reduceBEq, Int.reduceEq, Int.reduceLT, Int.reduceLE, Int.reduceNeg, Int.reduceToNat, reduceCtorEq, ho, Try.results218]
theorem ok209 : okCode M0 Try.f209.ntmps (Try.f209.body.getD .skip) = true := by decide +kernel
theorem cmpI_fn (a b : Int) : Fc 209 [.int .i64 a, .int .i64 b] (.int .i64 (cmpI a b)) := by
  refine fn_of_awp (E := E0) (M := M0) follows Try.func209 rfl (by decide) ok209 (by decide) (by simp) fun o ho => ?_
  simp only [go_sem, Nat.reduceEqDiff, Nat.reduceAdd, Nat.reduceSub, Nat.reduceLeDiff, Nat.reduceLT, Nat.reduceMul, Nat.reduceBEq, Int.reduceEq, Int.reduceLT, Int.reduceLE, Int.reduceNeg, Int.reduceToNat, reduceCtorEq, ho, Try.results209]
  refine GCall.fr ?_ (isNaN_fn a) (.inl rfl) ?_; (focus (first | rfl | ((simp only [go_sem, Nat.reduceEqDiff, Nat.reduceAdd, Nat.reduceSub, Nat.reduceLeDiff, Nat.reduceLT, Nat.reduceMul, Nat.reduceBEq, Int.reduceEq, Int.reduceLT, Int.reduceLE, Int.reduceNeg, Int.reduceToNat, reduceCtorEq, ho, Try.results209]); done) | ((simp only [go_sem, Nat.reduceEqDiff, Nat.reduceAdd, Nat.reduceSub, Nat.reduceLeDiff, Nat.reduceLT, Nat.reduceMul, Nat.reduceBEq, Int.reduceEq, Int.reduceLT, Int.reduceLE, Int.reduceNeg, Int.reduceToNat, reduceCtorEq, ho, Try.results209]); rfl)))
  simp only [go_sem, Nat.reduceEqDiff, Nat.reduceAdd, Nat.reduceSub, Nat.reduceLeDiff, Nat.reduceLT, Nat.reduceMul, Nat.reduceBEq, Int.reduceEq, Int.reduceLT, Int.reduceLE, Int.reduceNeg, Int.reduceToNat, reduceCtorEq, ho, Try.results209]
  refine GCall.fr ?_ (isNaN_fn b) (.inl rfl) ?_; (focus (first | rfl | ((simp only [go_sem, Nat.reduceEqDiff, Nat.reduceAdd, Nat.reduceSub, Nat.reduceLeDiff, Nat.reduceLT, Nat.reduceMul, Nat.reduceBEq, Int.reduceEq, Int.reduceLT, Int.reduceLE, Int.reduceNeg, Int.reduceToNat, reduceCtorEq, ho, Try.results209]); done) | ((simp only [go_sem, Nat.reduceEqDiff, Nat.reduceAdd, Nat.reduceSub, Nat.reduceLeDiff, Nat.reduceLT, Nat.reduceMul, Nat.reduceBEq, Int.reduceEq, Int.reduceLT, Int.reduceLE, Int.reduceNeg, Int.reduceToNat, reduceCtorEq, ho, Try.results209]); rfl)))
  simp only [go_sem, Nat.reduceEqDiff, Nat.reduceAdd, Nat.reduceSub, Nat.reduceLeDiff, Nat.reduceLT, Nat.reduceMul, Nat.reduceBEq, Int.reduceEq, Int.reduceLT, Int.reduceLE, Int.reduceNeg, Int.reduceToNat, reduceCtorEq, ho, Try.results209]
  repeat' (first | (refine AIf_cases (fun h => ?_) (fun h => ?_) <;> (try simp only [decide_eq_true_eq, decide_eq_false_iff_not, Bool.not_eq_true', Bool.not_eq_false', Bool.not_eq_true, Bool.not_eq_false] at h) <;> (try simp only [go_sem, Nat.reduceEqDiff, Nat.reduceAdd, Nat.reduceSub, Nat.reduceLeDiff, Nat.reduceLT, Nat.reduceMul, Nat.reduceBEq, Int.reduceEq, Int.reduceLT, Int.reduceLE, Int.reduceNeg, Int.reduceToNat, reduceCtorEq, ho, Try.results209, h])))
  all_goals (first | (simp_all [cmpI]; done) | (simp_all [cmpI]; omega) | (simp_all [cmpI]; intros; omega) | (simp_all [cmpI]; (repeat' split) <;> (first | (simp_all; done) | (simp_all; omega) | omega)))
def orI : List Int → Int
  | [] => 0
  | x :: l => if x ≠ 0 then x else orI l
theorem ok208 : okCode M0 Try.f208.ntmps (Try.f208.body.getD .skip) = true := by decide +kernel
theorem orI_fn (l : List Int) (hl : l.length ≤ 1000000000) : Fc 208 [.sl (l.map (.int .i64))] (.int .i64 (orI l)) := by
  refine fn_of_awp (E := E0) (M := M0) follows Try.func208 rfl (by decide) ok208 (by decide) (by simp) fun o ho => ?_
  simp only [go_sem, Nat.reduceEqDiff, Nat.reduceAdd, Nat.reduceSub, Nat.reduceLeDiff, Nat.reduceLT, Nat.reduceMul, Nat.reduceBEq, Int.reduceEq, Int.reduceLT, Int.reduceLE, Int.reduceNeg, Int.reduceToNat, reduceCtorEq, ho, Try.results208]
  refine ⟨fun n st => ∃ (i : Nat) (rest : List Int), l.drop i = rest ∧ i + rest.length = l.length ∧ rest.length = n ∧ orI rest = orI l ∧ st.s 8 = .int .i64 i ∧ st.s 7 = .int .i64 l.length ∧ st.s 6 = .sl (l.map (.int .i64)) ∧ st.s 3 = .int .i64 0, l.length, ⟨0, l, rfl, by simp, rfl, rfl, by simp only [go_sem, Nat.reduceEqDiff, Nat.reduceAdd, Nat.reduceSub, Nat.reduceLeDiff, Nat.reduceLT, Nat.reduceMul, Nat.reduceBEq, Int.reduceEq, Int.reduceLT, Int.reduceLE, Int.reduceNeg, Int.reduceToNat, reduceCtorEq, ho, Try.results208]; rfl, by simp only [go_sem, Nat.reduceEqDiff, Nat.reduceAdd, Nat.reduceSub, Nat.reduceLeDiff, Nat.reduceLT, Nat.reduceMul, Nat.reduceBEq, Int.reduceEq, Int.reduceLT, Int.reduceLE, Int.reduceNeg, Int.reduceToNat, reduceCtorEq, ho, Try.results208], by simp only [go_sem, Nat.reduceEqDiff, Nat.reduceAdd, Nat.reduceSub, Nat.reduceLeDiff, Nat.reduceLT, Nat.reduceMul, Nat.reduceBEq, Int.reduceEq, Int.reduceLT, Int.reduceLE, Int.reduceNeg, Int.reduceToNat, reduceCtorEq, ho, Try.results208], by simp only [go_sem, Nat.reduceEqDiff, Nat.reduceAdd, Nat.reduceSub, Nat.reduceLeDiff, Nat.reduceLT, Nat.reduceMul, Nat.reduceBEq, Int.reduceEq, Int.reduceLT, Int.reduceLE, Int.reduceNeg, Int.reduceToNat, reduceCtorEq, ho, Try.results208]⟩, ?_⟩
  rintro n st ⟨i, rest, hr, hi, hn, ht, h8, h7, h6, h3⟩
  have hw : IntKind.i64.wrap ((i : Int) + 1) = (i : Int) + 1 := wrap_fits (by omega) (by omega)
  cases rest with
  | nil =>
    have hlt : ¬ (i : Int) < (l.length : Int) := by simp at hi; omega
    simp only [go_sem, Nat.reduceEqDiff, Nat.reduceAdd, Nat.reduceSub, Nat.reduceLeDiff, Nat.reduceLT, Nat.reduceMul, Nat.reduceBEq, Int.reduceEq, Int.reduceLT, Int.reduceLE, Int.reduceNeg, Int.reduceToNat, reduceCtorEq, ho, Try.results208, h8, h7, hlt, h3]
    rw [← ht]; rfl
  | cons x rest =>
    have hlt : (i : Int) < (l.length : Int) := by simp at hi; omega
    have hget : (l.map (PV.int .i64))[i]? = some (.int .i64 x) := by
      have : l[i]? = some x := by rw [← List.head?_drop, hr]; rfl
      rw [List.getElem?_map, this]; rfl
    simp only [go_sem, Nat.reduceEqDiff, Nat.reduceAdd, Nat.reduceSub, Nat.reduceLeDiff, Nat.reduceLT, Nat.reduceMul, Nat.reduceBEq, Int.reduceEq, Int.reduceLT, Int.reduceLE, Int.reduceNeg, Int.reduceToNat, reduceCtorEq, ho, Try.results208, h8, h7, h6, h3, hlt, hget, Int.natCast_nonneg, Int.toNat_natCast]
    rw [orI] at ht
    by_cases hx : x = 0
    · rw [if_neg (by simpa using hx)] at ht
      simp only [go_sem, Nat.reduceEqDiff, Nat.reduceAdd, Nat.reduceSub, Nat.reduceLeDiff, Nat.reduceLT, Nat.reduceMul, Nat.reduceBEq, Int.reduceEq, Int.reduceLT, Int.reduceLE, Int.reduceNeg, Int.reduceToNat, reduceCtorEq, ho, Try.results208, hx, h8, h7, h6, h3, hw]
      exact ⟨rest.length, by simp at hn; omega, i + 1, rest, by rw [← List.drop_drop, hr]; rfl, by simp at hi; omega, rfl, ht, by simp⟩
    · rw [if_pos hx] at ht
      simp only [go_sem, Nat.reduceEqDiff, Nat.reduceAdd, Nat.reduceSub, Nat.reduceLeDiff, Nat.reduceLT, Nat.reduceMul, Nat.reduceBEq, Int.reduceEq, Int.reduceLT, Int.reduceLE, Int.reduceNeg, Int.reduceToNat, reduceCtorEq, ho, Try.results208, hx, h8, h7, h6, h3, hw]
      rw [← ht]
theorem ok210 : okCode M0 Try.f210.ntmps (Try.f210.body.getD .skip) = true := by decide +kernel
theorem cmpB_fn (a b : ByteArray) : Fc 210 [.str a, .str b] (.int .i64 (cmpB a b)) := by
  refine fn_of_awp (E := E0) (M := M0) follows Try.func210 rfl (by decide) ok210 (by decide) (by simp) fun o ho => ?_
  simp only [go_sem, Nat.reduceEqDiff, Nat.reduceAdd, Nat.reduceSub, Nat.reduceLeDiff, Nat.reduceLT, Nat.reduceMul, Nat.reduceBEq, Int.reduceEq, Int.reduceLT, Int.reduceLE, Int.reduceNeg, Int.reduceToNat, reduceCtorEq, ho, Try.results210]
  refine GCall.fr ?_ (cmpString_fn a b) (.inl rfl) ?_; (focus (first | rfl | ((simp only [go_sem, Nat.reduceEqDiff, Nat.reduceAdd, Nat.reduceSub, Nat.reduceLeDiff, Nat.reduceLT, Nat.reduceMul, Nat.reduceBEq, Int.reduceEq, Int.reduceLT, Int.reduceLE, Int.reduceNeg, Int.reduceToNat, reduceCtorEq, ho, Try.results210]); done) | ((simp only [go_sem, Nat.reduceEqDiff, Nat.reduceAdd, Nat.reduceSub, Nat.reduceLeDiff, Nat.reduceLT, Nat.reduceMul, Nat.reduceBEq, Int.reduceEq, Int.reduceLT, Int.reduceLE, Int.reduceNeg, Int.reduceToNat, reduceCtorEq, ho, Try.results210]); rfl)))
  simp only [go_sem, Nat.reduceEqDiff, Nat.reduceAdd, Nat.reduceSub, Nat.reduceLeDiff, Nat.reduceLT, Nat.reduceMul, Nat.reduceBEq, Int.reduceEq, Int.reduceLT, Int.reduceLE, Int.reduceNeg, Int.reduceToNat, reduceCtorEq, ho, Try.results210, cmpB]
theorem cmp_or (a b : Vl) : a.cmp b = orI [cmpI a.kind b.kind, cmpI a.int b.int, cmpB a.text b.text] := by
  simp only [Vl.cmp, orI]
  split
  · rfl
  · split
    · rfl
    · split
      · rfl
      · rename_i h
        simpa using h
theorem ok192 : okCode M0 Try.f192.ntmps (Try.f192.body.getD .skip) = true := by decide +kernel
theorem cmp_fn (a b : Vl) : Fc 192 [a.enc, b.enc] (.int .i64 (a.cmp b)) := by
  refine fn_of_awp (E := E0) (M := M0) follows Try.func192 rfl (by decide) ok192 (by decide) (by simp) fun o ho => ?_
  simp only [go_sem, Nat.reduceEqDiff, Nat.reduceAdd, Nat.reduceSub, Nat.reduceLeDiff, Nat.reduceLT, Nat.reduceMul, Nat.reduceBEq, Int.reduceEq, Int.reduceLT, Int.reduceLE, Int.reduceNeg, Int.reduceToNat, reduceCtorEq, ho, Try.results192, Vl.enc]
  refine QCall.fr ?_ (cmpI_fn a.kind b.kind) (.inl rfl) ?_; (focus (first | rfl | ((simp only [go_sem, Nat.reduceEqDiff, Nat.reduceAdd, Nat.reduceSub, Nat.reduceLeDiff, Nat.reduceLT, Nat.reduceMul, Nat.reduceBEq, Int.reduceEq, Int.reduceLT, Int.reduceLE, Int.reduceNeg, Int.reduceToNat, reduceCtorEq, ho, Try.results192]); done) | ((simp only [go_sem, Nat.reduceEqDiff, Nat.reduceAdd, Nat.reduceSub, Nat.reduceLeDiff, Nat.reduceLT, Nat.reduceMul, Nat.reduceBEq, Int.reduceEq, Int.reduceLT, Int.reduceLE, Int.reduceNeg, Int.reduceToNat, reduceCtorEq, ho, Try.results192]); rfl)))
  simp only [go_sem, Nat.reduceEqDiff, Nat.reduceAdd, Nat.reduceSub, Nat.reduceLeDiff, Nat.reduceLT, Nat.reduceMul, Nat.reduceBEq, Int.reduceEq, Int.reduceLT, Int.reduceLE, Int.reduceNeg, Int.reduceToNat, reduceCtorEq, ho, Try.results192]
  refine QCall.fr ?_ (cmpI_fn a.int b.int) (.inl rfl) ?_; (focus (first | rfl | ((simp only [go_sem, Nat.reduceEqDiff, Nat.reduceAdd, Nat.reduceSub, Nat.reduceLeDiff, Nat.reduceLT, Nat.reduceMul, Nat.reduceBEq, Int.reduceEq, Int.reduceLT, Int.reduceLE, Int.reduceNeg, Int.reduceToNat, reduceCtorEq, ho, Try.results192]); done) | ((simp only [go_sem, Nat.reduceEqDiff, Nat.reduceAdd, Nat.reduceSub, Nat.reduceLeDiff, Nat.reduceLT, Nat.reduceMul, Nat.reduceBEq, Int.reduceEq, Int.reduceLT, Int.reduceLE, Int.reduceNeg, Int.reduceToNat, reduceCtorEq, ho, Try.results192]); rfl)))
  simp only [go_sem, Nat.reduceEqDiff, Nat.reduceAdd, Nat.reduceSub, Nat.reduceLeDiff, Nat.reduceLT, Nat.reduceMul, Nat.reduceBEq, Int.reduceEq, Int.reduceLT, Int.reduceLE, Int.reduceNeg, Int.reduceToNat, reduceCtorEq, ho, Try.results192]
  refine QCall.fr ?_ (cmpB_fn a.text b.text) (.inl rfl) ?_; (focus (first | rfl | ((simp only [go_sem, Nat.reduceEqDiff, Nat.reduceAdd, Nat.reduceSub, Nat.reduceLeDiff, Nat.reduceLT, Nat.reduceMul, Nat.reduceBEq, Int.reduceEq, Int.reduceLT, Int.reduceLE, Int.reduceNeg, Int.reduceToNat, reduceCtorEq, ho, Try.results192]); done) | ((simp only [go_sem, Nat.reduceEqDiff, Nat.reduceAdd, Nat.reduceSub, Nat.reduceLeDiff, Nat.reduceLT, Nat.reduceMul, Nat.reduceBEq, Int.reduceEq, Int.reduceLT, Int.reduceLE, Int.reduceNeg, Int.reduceToNat, reduceCtorEq, ho, Try.results192]); rfl)))
  simp only [go_sem, Nat.reduceEqDiff, Nat.reduceAdd, Nat.reduceSub, Nat.reduceLeDiff, Nat.reduceLT, Nat.reduceMul, Nat.reduceBEq, Int.reduceEq, Int.reduceLT, Int.reduceLE, Int.reduceNeg, Int.reduceToNat, reduceCtorEq, ho, Try.results192]
  refine QCall.fr ?_ (orI_fn [cmpI a.kind b.kind, cmpI a.int b.int, cmpB a.text b.text] (by simp)) (.inl rfl) ?_; (focus (first | rfl | ((simp only [go_sem, Nat.reduceEqDiff, Nat.reduceAdd, Nat.reduceSub, Nat.reduceLeDiff, Nat.reduceLT, Nat.reduceMul, Nat.reduceBEq, Int.reduceEq, Int.reduceLT, Int.reduceLE, Int.reduceNeg, Int.reduceToNat, reduceCtorEq, ho, Try.results192]); done) | ((simp only [go_sem, Nat.reduceEqDiff, Nat.reduceAdd, Nat.reduceSub, Nat.reduceLeDiff, Nat.reduceLT, Nat.reduceMul, Nat.reduceBEq, Int.reduceEq, Int.reduceLT, Int.reduceLE, Int.reduceNeg, Int.reduceToNat, reduceCtorEq, ho, Try.results192]); rfl)))
  simp only [go_sem, Nat.reduceEqDiff, Nat.reduceAdd, Nat.reduceSub, Nat.reduceLeDiff, Nat.reduceLT, Nat.reduceMul, Nat.reduceBEq, Int.reduceEq, Int.reduceLT, Int.reduceLE, Int.reduceNeg, Int.reduceToNat, reduceCtorEq, ho, Try.results192, cmp_or]
theorem ok191 : okCode M0 Try.f191.ntmps (Try.f191.body.getD .skip) = true := by decide +kernel
theorem dec_fn (a b : Vl) (is : Bool) : Fc 191 [a.enc, b.enc, .bool is] (.int .i64 (Vl.dec a b is)) := by
  refine fn_of_awp (E := E0) (M := M0) follows Try.func191 rfl (by decide) ok191 (by decide) (by simp) fun o ho => ?_
  simp only [go_sem, Nat.reduceEqDiff, Nat.reduceAdd, Nat.reduceSub, Nat.reduceLeDiff, Nat.reduceLT, Nat.reduceMul, Nat.reduceBEq, Int.reduceEq, Int.reduceLT, Int.reduceLE, Int.reduceNeg, Int.reduceToNat, reduceCtorEq, ho, Try.results191, Vl.enc]
  repeat' (first | (refine AIf_cases (fun h => ?_) (fun h => ?_) <;> (try simp only [decide_eq_true_eq, decide_eq_false_iff_not, Bool.not_eq_true', Bool.not_eq_false', Bool.not_eq_true, Bool.not_eq_false] at h) <;> (try simp only [go_sem, Nat.reduceEqDiff, Nat.reduceAdd, Nat.reduceSub, Nat.reduceLeDiff, Nat.reduceLT, Nat.reduceMul, Nat.reduceBEq, Int.reduceEq, Int.reduceLT, Int.reduceLE, Int.reduceNeg, Int.reduceToNat, reduceCtorEq, ho, Try.results191, h])))
  all_goals (first | (simp_all [Vl.dec]; done) | (simp_all [Vl.dec]; omega) | (simp_all [Vl.dec]; intros; omega) | (simp_all [Vl.dec]; (repeat' split) <;> (first | (simp_all; done) | (simp_all; omega) | omega)))
theorem ok166 : okCode M0 Try.f166.ntmps (Try.f166.body.getD .skip) = true := by decide +kernel
theorem eql_fn (a b : Vl) : Fc 166 [a.enc, b.enc] (.int .i64 (a.eql b)) := by
  refine fn_of_awp (E := E0) (M := M0) follows Try.func166 rfl (by decide) ok166 (by decide) (by simp) fun o ho => ?_
  simp only [go_sem, Nat.reduceEqDiff, Nat.reduceAdd, Nat.reduceSub, Nat.reduceLeDiff, Nat.reduceLT, Nat.reduceMul, Nat.reduceBEq, Int.reduceEq, Int.reduceLT, Int.reduceLE, Int.reduceNeg, Int.reduceToNat, reduceCtorEq, ho, Try.results166, Vl.enc]
  refine QCall.fr ?_ (cmp_fn a b) (.inl rfl) ?_; (focus (first | rfl | ((simp only [go_sem, Nat.reduceEqDiff, Nat.reduceAdd, Nat.reduceSub, Nat.reduceLeDiff, Nat.reduceLT, Nat.reduceMul, Nat.reduceBEq, Int.reduceEq, Int.reduceLT, Int.reduceLE, Int.reduceNeg, Int.reduceToNat, reduceCtorEq, ho, Try.results166, Vl.enc]); done) | ((simp only [go_sem, Nat.reduceEqDiff, Nat.reduceAdd, Nat.reduceSub, Nat.reduceLeDiff, Nat.reduceLT, Nat.reduceMul, Nat.reduceBEq, Int.reduceEq, Int.reduceLT, Int.reduceLE, Int.reduceNeg, Int.reduceToNat, reduceCtorEq, ho, Try.results166, Vl.enc]); rfl)))
  simp only [go_sem, Nat.reduceEqDiff, Nat.reduceAdd, Nat.reduceSub, Nat.reduceLeDiff, Nat.reduceLT, Nat.reduceMul, Nat.reduceBEq, Int.reduceEq, Int.reduceLT, Int.reduceLE, Int.reduceNeg, Int.reduceToNat, reduceCtorEq, ho, Try.results166]
  refine QCall.fr ?_ (dec_fn a b (decide (a.cmp b = 0))) (.inl rfl) ?_; (focus (first | rfl | ((simp only [go_sem, Nat.reduceEqDiff, Nat.reduceAdd, Nat.reduceSub, Nat.reduceLeDiff, Nat.reduceLT, Nat.reduceMul, Nat.reduceBEq, Int.reduceEq, Int.reduceLT, Int.reduceLE, Int.reduceNeg, Int.reduceToNat, reduceCtorEq, ho, Try.results166, Vl.enc]); done) | ((simp only [go_sem, Nat.reduceEqDiff, Nat.reduceAdd, Nat.reduceSub, Nat.reduceLeDiff, Nat.reduceLT, Nat.reduceMul, Nat.reduceBEq, Int.reduceEq, Int.reduceLT, Int.reduceLE, Int.reduceNeg, Int.reduceToNat, reduceCtorEq, ho, Try.results166, Vl.enc]); rfl)))
  simp only [go_sem, Nat.reduceEqDiff, Nat.reduceAdd, Nat.reduceSub, Nat.reduceLeDiff, Nat.reduceLT, Nat.reduceMul, Nat.reduceBEq, Int.reduceEq, Int.reduceLT, Int.reduceLE, Int.reduceNeg, Int.reduceToNat, reduceCtorEq, ho, Try.results166, Vl.eql]
theorem ok167 : okCode M0 Try.f167.ntmps (Try.f167.body.getD .skip) = true := by decide +kernel
theorem less_fn (a b : Vl) : Fc 167 [a.enc, b.enc] (.int .i64 (a.less b)) := by
  refine fn_of_awp (E := E0) (M := M0) follows Try.func167 rfl (by decide) ok167 (by decide) (by simp) fun o ho => ?_
  simp only [go_sem, Nat.reduceEqDiff, Nat.reduceAdd, Nat.reduceSub, Nat.reduceLeDiff, Nat.reduceLT, Nat.reduceMul, Nat.reduceBEq, Int.reduceEq, Int.reduceLT, Int.reduceLE, Int.reduceNeg, Int.reduceToNat, reduceCtorEq, ho, Try.results167, Vl.enc]
  refine QCall.fr ?_ (cmp_fn a b) (.inl rfl) ?_; (focus (first | rfl | ((simp only [go_sem, Nat.reduceEqDiff, Nat.reduceAdd, Nat.reduceSub, Nat.reduceLeDiff, Nat.reduceLT, Nat.reduceMul, Nat.reduceBEq, Int.reduceEq, Int.reduceLT, Int.reduceLE, Int.reduceNeg, Int.reduceToNat, reduceCtorEq, ho, Try.results167, Vl.enc]); done) | ((simp only [go_sem, Nat.reduceEqDiff, Nat.reduceAdd, Nat.reduceSub, Nat.reduceLeDiff, Nat.reduceLT, Nat.reduceMul, Nat.reduceBEq, Int.reduceEq, Int.reduceLT, Int.reduceLE, Int.reduceNeg, Int.reduceToNat, reduceCtorEq, ho, Try.results167, Vl.enc]); rfl)))
  simp only [go_sem, Nat.reduceEqDiff, Nat.reduceAdd, Nat.reduceSub, Nat.reduceLeDiff, Nat.reduceLT, Nat.reduceMul, Nat.reduceBEq, Int.reduceEq, Int.reduceLT, Int.reduceLE, Int.reduceNeg, Int.reduceToNat, reduceCtorEq, ho, Try.results167]
  refine QCall.fr ?_ (dec_fn a b (decide (a.cmp b < 0))) (.inl rfl) ?_; (focus (first | rfl | ((simp only [go_sem, Nat.reduceEqDiff, Nat.reduceAdd, Nat.reduceSub, Nat.reduceLeDiff, Nat.reduceLT, Nat.reduceMul, Nat.reduceBEq, Int.reduceEq, Int.reduceLT, Int.reduceLE, Int.reduceNeg, Int.reduceToNat, reduceCtorEq, ho, Try.results167, Vl.enc]); done) | ((simp only [go_sem, Nat.reduceEqDiff, Nat.reduceAdd, Nat.reduceSub, Nat.reduceLeDiff, Nat.reduceLT, Nat.reduceMul, Nat.reduceBEq, Int.reduceEq, Int.reduceLT, Int.reduceLE, Int.reduceNeg, Int.reduceToNat, reduceCtorEq, ho, Try.results167, Vl.enc]); rfl)))
  simp only [go_sem, Nat.reduceEqDiff, Nat.reduceAdd, Nat.reduceSub, Nat.reduceLeDiff, Nat.reduceLT, Nat.reduceMul, Nat.reduceBEq, Int.reduceEq, Int.reduceLT, Int.reduceLE, Int.reduceNeg, Int.reduceToNat, reduceCtorEq, ho, Try.results167, Vl.less]
theorem ok158 : okCode M0 Try.f158.ntmps (Try.f158.body.getD .skip) = true := by decide +kernel
theorem and_fn (a b : Int) : Fc 158 [.int .i64 a, .int .i64 b] (.int .i64 (tand a b)) := by
  refine fn_of_awp (E := E0) (M := M0) follows Try.func158 rfl (by decide) ok158 (by decide) (by simp) fun o ho => ?_
  simp only [go_sem, Nat.reduceEqDiff, Nat.reduceAdd, Nat.reduceSub, Nat.reduceLeDiff, Nat.reduceLT, Nat.reduceMul, Nat.reduceBEq, Int.reduceEq, Int.reduceLT, Int.reduceLE, Int.reduceNeg, Int.reduceToNat, reduceCtorEq, ho, Try.results158]
  refine GCall.fr ?_ (least_fn [a, b] (by simp)) (.inl rfl) ?_; (focus (first | rfl | ((simp only [go_sem, Nat.reduceEqDiff, Nat.reduceAdd, Nat.reduceSub, Nat.reduceLeDiff, Nat.reduceLT, Nat.reduceMul, Nat.reduceBEq, Int.reduceEq, Int.reduceLT, Int.reduceLE, Int.reduceNeg, Int.reduceToNat, reduceCtorEq, ho, Try.results158]); done) | ((simp only [go_sem, Nat.reduceEqDiff, Nat.reduceAdd, Nat.reduceSub, Nat.reduceLeDiff, Nat.reduceLT, Nat.reduceMul, Nat.reduceBEq, Int.reduceEq, Int.reduceLT, Int.reduceLE, Int.reduceNeg, Int.reduceToNat, reduceCtorEq, ho, Try.results158]); rfl)))
  simp only [go_sem, Nat.reduceEqDiff, Nat.reduceAdd, Nat.reduceSub, Nat.reduceLeDiff, Nat.reduceLT, Nat.reduceMul, Nat.reduceBEq, Int.reduceEq, Int.reduceLT, Int.reduceLE, Int.reduceNeg, Int.reduceToNat, reduceCtorEq, ho, Try.results158, tand]
theorem ok159 : okCode M0 Try.f159.ntmps (Try.f159.body.getD .skip) = true := by decide +kernel
theorem or_fn (a b : Int) : Fc 159 [.int .i64 a, .int .i64 b] (.int .i64 (tor a b)) := by
  refine fn_of_awp (E := E0) (M := M0) follows Try.func159 rfl (by decide) ok159 (by decide) (by simp) fun o ho => ?_
  simp only [go_sem, Nat.reduceEqDiff, Nat.reduceAdd, Nat.reduceSub, Nat.reduceLeDiff, Nat.reduceLT, Nat.reduceMul, Nat.reduceBEq, Int.reduceEq, Int.reduceLT, Int.reduceLE, Int.reduceNeg, Int.reduceToNat, reduceCtorEq, ho, Try.results159]
  refine GCall.fr ?_ (not_fn a) (.inl rfl) ?_; (focus (first | rfl | ((simp only [go_sem, Nat.reduceEqDiff, Nat.reduceAdd, Nat.reduceSub, Nat.reduceLeDiff, Nat.reduceLT, Nat.reduceMul, Nat.reduceBEq, Int.reduceEq, Int.reduceLT, Int.reduceLE, Int.reduceNeg, Int.reduceToNat, reduceCtorEq, ho, Try.results159]); done) | ((simp only [go_sem, Nat.reduceEqDiff, Nat.reduceAdd, Nat.reduceSub, Nat.reduceLeDiff, Nat.reduceLT, Nat.reduceMul, Nat.reduceBEq, Int.reduceEq, Int.reduceLT, Int.reduceLE, Int.reduceNeg, Int.reduceToNat, reduceCtorEq, ho, Try.results159]); rfl)))
  simp only [go_sem, Nat.reduceEqDiff, Nat.reduceAdd, Nat.reduceSub, Nat.reduceLeDiff, Nat.reduceLT, Nat.reduceMul, Nat.reduceBEq, Int.reduceEq, Int.reduceLT, Int.reduceLE, Int.reduceNeg, Int.reduceToNat, reduceCtorEq, ho, Try.results159]
  refine GCall.fr ?_ (not_fn b) (.inl rfl) ?_; (focus (first | rfl | ((simp only [go_sem, Nat.reduceEqDiff, Nat.reduceAdd, Nat.reduceSub, Nat.reduceLeDiff, Nat.reduceLT, Nat.reduceMul, Nat.reduceBEq, Int.reduceEq, Int.reduceLT, Int.reduceLE, Int.reduceNeg, Int.reduceToNat, reduceCtorEq, ho, Try.results159]); done) | ((simp only [go_sem, Nat.reduceEqDiff, Nat.reduceAdd, Nat.reduceSub, Nat.reduceLeDiff, Nat.reduceLT, Nat.reduceMul, Nat.reduceBEq, Int.reduceEq, Int.reduceLT, Int.reduceLE, Int.reduceNeg, Int.reduceToNat, reduceCtorEq, ho, Try.results159]); rfl)))
  simp only [go_sem, Nat.reduceEqDiff, Nat.reduceAdd, Nat.reduceSub, Nat.reduceLeDiff, Nat.reduceLT, Nat.reduceMul, Nat.reduceBEq, Int.reduceEq, Int.reduceLT, Int.reduceLE, Int.reduceNeg, Int.reduceToNat, reduceCtorEq, ho, Try.results159]
  refine GCall.fr ?_ (least_fn [tnot a, tnot b] (by simp)) (.inl rfl) ?_; (focus (first | rfl | ((simp only [go_sem, Nat.reduceEqDiff, Nat.reduceAdd, Nat.reduceSub, Nat.reduceLeDiff, Nat.reduceLT, Nat.reduceMul, Nat.reduceBEq, Int.reduceEq, Int.reduceLT, Int.reduceLE, Int.reduceNeg, Int.reduceToNat, reduceCtorEq, ho, Try.results159]); done) | ((simp only [go_sem, Nat.reduceEqDiff, Nat.reduceAdd, Nat.reduceSub, Nat.reduceLeDiff, Nat.reduceLT, Nat.reduceMul, Nat.reduceBEq, Int.reduceEq, Int.reduceLT, Int.reduceLE, Int.reduceNeg, Int.reduceToNat, reduceCtorEq, ho, Try.results159]); rfl)))
  simp only [go_sem, Nat.reduceEqDiff, Nat.reduceAdd, Nat.reduceSub, Nat.reduceLeDiff, Nat.reduceLT, Nat.reduceMul, Nat.reduceBEq, Int.reduceEq, Int.reduceLT, Int.reduceLE, Int.reduceNeg, Int.reduceToNat, reduceCtorEq, ho, Try.results159]
  refine GCall.fr ?_ (not_fn (least [tnot a, tnot b] 2)) (.inl rfl) ?_; (focus (first | rfl | ((simp only [go_sem, Nat.reduceEqDiff, Nat.reduceAdd, Nat.reduceSub, Nat.reduceLeDiff, Nat.reduceLT, Nat.reduceMul, Nat.reduceBEq, Int.reduceEq, Int.reduceLT, Int.reduceLE, Int.reduceNeg, Int.reduceToNat, reduceCtorEq, ho, Try.results159]); done) | ((simp only [go_sem, Nat.reduceEqDiff, Nat.reduceAdd, Nat.reduceSub, Nat.reduceLeDiff, Nat.reduceLT, Nat.reduceMul, Nat.reduceBEq, Int.reduceEq, Int.reduceLT, Int.reduceLE, Int.reduceNeg, Int.reduceToNat, reduceCtorEq, ho, Try.results159]); rfl)))
  simp only [go_sem, Nat.reduceEqDiff, Nat.reduceAdd, Nat.reduceSub, Nat.reduceLeDiff, Nat.reduceLT, Nat.reduceMul, Nat.reduceBEq, Int.reduceEq, Int.reduceLT, Int.reduceLE, Int.reduceNeg, Int.reduceToNat, reduceCtorEq, ho, Try.results159, tor]
end Go.Proofs.Ytiefnninebilbaa
/- What the evaluation of columns, logical operators and Allen's relations returns; no condition. -/
set_option maxRecDepth 100000
set_option linter.unusedVariables false
set_option linter.unusedSimpArgs false
namespace Go.Proofs.Ytiefnninebilbaa
open Go Go.Sx

theorem ok151 : okCode M0 Try.f151.ntmps (Try.f151.body.getD .skip) = true := by decide +kernel
theorem at_fn (row : List Vl) (i : Int) : Fc 151 [.sl (row.map Vl.enc), .int .i64 i] (Vl.at row i).enc := by
  refine fn_of_awp (E := E0) (M := M0) follows Try.func151 rfl (by decide) ok151 (by decide) (by simp) fun o ho => ?_
  simp only [go_sem, Nat.reduceEqDiff, Nat.reduceAdd, Nat.reduceSub, Nat.reduceLeDiff, Nat.reduceLT, Nat.reduceMul, Nat.reduceBEq, Int.reduceEq, Int.reduceLT, Int.reduceLE, Int.reduceNeg, Int.reduceToNat, reduceCtorEq, ho, Try.results151]
  by_cases h0 : i < 0
  · simp only [go_sem, Nat.reduceEqDiff, Nat.reduceAdd, Nat.reduceSub, Nat.reduceLeDiff, Nat.reduceLT, Nat.reduceMul, Nat.reduceBEq, Int.reduceEq, Int.reduceLT, Int.reduceLE, Int.reduceNeg, Int.reduceToNat, reduceCtorEq, ho, Try.results151, h0]
    refine GCall.fr ?_ (null_fn) (.inl rfl) ?_; (focus (first | rfl | ((simp only [go_sem, Nat.reduceEqDiff, Nat.reduceAdd, Nat.reduceSub, Nat.reduceLeDiff, Nat.reduceLT, Nat.reduceMul, Nat.reduceBEq, Int.reduceEq, Int.reduceLT, Int.reduceLE, Int.reduceNeg, Int.reduceToNat, reduceCtorEq, ho, Try.results151]); done) | ((simp only [go_sem, Nat.reduceEqDiff, Nat.reduceAdd, Nat.reduceSub, Nat.reduceLeDiff, Nat.reduceLT, Nat.reduceMul, Nat.reduceBEq, Int.reduceEq, Int.reduceLT, Int.reduceLE, Int.reduceNeg, Int.reduceToNat, reduceCtorEq, ho, Try.results151]); rfl)))
    simp only [go_sem, Nat.reduceEqDiff, Nat.reduceAdd, Nat.reduceSub, Nat.reduceLeDiff, Nat.reduceLT, Nat.reduceMul, Nat.reduceBEq, Int.reduceEq, Int.reduceLT, Int.reduceLE, Int.reduceNeg, Int.reduceToNat, reduceCtorEq, ho, Try.results151, Vl.enc, Vl.null]
    simp [Vl.at, h0, Vl.null]
  by_cases h1 : (row.length : Int) ≤ i
  · simp only [go_sem, Nat.reduceEqDiff, Nat.reduceAdd, Nat.reduceSub, Nat.reduceLeDiff, Nat.reduceLT, Nat.reduceMul, Nat.reduceBEq, Int.reduceEq, Int.reduceLT, Int.reduceLE, Int.reduceNeg, Int.reduceToNat, reduceCtorEq, ho, Try.results151, h0, h1]
    refine GCall.fr ?_ (null_fn) (.inl rfl) ?_; (focus (first | rfl | ((simp only [go_sem, Nat.reduceEqDiff, Nat.reduceAdd, Nat.reduceSub, Nat.reduceLeDiff, Nat.reduceLT, Nat.reduceMul, Nat.reduceBEq, Int.reduceEq, Int.reduceLT, Int.reduceLE, Int.reduceNeg, Int.reduceToNat, reduceCtorEq, ho, Try.results151]); done) | ((simp only [go_sem, Nat.reduceEqDiff, Nat.reduceAdd, Nat.reduceSub, Nat.reduceLeDiff, Nat.reduceLT, Nat.reduceMul, Nat.reduceBEq, Int.reduceEq, Int.reduceLT, Int.reduceLE, Int.reduceNeg, Int.reduceToNat, reduceCtorEq, ho, Try.results151]); rfl)))
    simp only [go_sem, Nat.reduceEqDiff, Nat.reduceAdd, Nat.reduceSub, Nat.reduceLeDiff, Nat.reduceLT, Nat.reduceMul, Nat.reduceBEq, Int.reduceEq, Int.reduceLT, Int.reduceLE, Int.reduceNeg, Int.reduceToNat, reduceCtorEq, ho, Try.results151, Vl.enc, Vl.null]
    simp [Vl.at, h1, Vl.null]
  have hlt : i.toNat < row.length := by omega
  have hget : (row.map Vl.enc)[i.toNat]? = some row[i.toNat].enc := by simp [hlt]
  have h2 : 0 ≤ i := by omega
  simp only [go_sem, Nat.reduceEqDiff, Nat.reduceAdd, Nat.reduceSub, Nat.reduceLeDiff, Nat.reduceLT, Nat.reduceMul, Nat.reduceBEq, Int.reduceEq, Int.reduceLT, Int.reduceLE, Int.reduceNeg, Int.reduceToNat, reduceCtorEq, ho, Try.results151, h0, h1, h2, hget, Vl.enc]
  simp [Vl.at, h0, h1, hlt]
theorem ok88 : okCode M0 Try.f88.ntmps (Try.f88.body.getD .skip) = true := by decide +kernel
theorem pick_fn (row : List Vl) (l : List Int) (hl : l.length ≤ 1000000000) : FnR P0 88 [.sl (row.map Vl.enc), .sl (l.map (.int .i64))] (.row 42 ((l.map (Vl.at row)).map Vl.enc)) := by
  refine fn_of_awp (E := E0) (M := M0) follows Try.func88 rfl (by decide) ok88 (by decide) (by simp) fun o ho => ?_
  have hm : (l.length : Int) * (((32 : Nat) : Int) + 1) ≤ 140737488355328 := by omega
  simp only [go_sem, Nat.reduceEqDiff, Nat.reduceAdd, Nat.reduceSub, Nat.reduceLeDiff, Nat.reduceLT, Nat.reduceMul, Nat.reduceBEq, Int.reduceEq, Int.reduceLT, Int.reduceLE, Int.reduceNeg, Int.reduceToNat, reduceCtorEq, ho, Try.results88, Int.natCast_nonneg, hm, true_and, List.replicate]
  refine ⟨fun n st => ∃ (done rest : List Int), l = done ++ rest ∧ rest.length = n ∧ st.s 13 = .int .i64 done.length ∧ st.s 12 = .int .i64 l.length ∧ st.s 11 = .sl (l.map (.int .i64)) ∧ st.s 0 = .sl (row.map Vl.enc) ∧ ((done = [] ∧ st.s 5 = .ref 10 1 ∧ st.o 10 = (1, some (true, .row 42 []))) ∨ (done ≠ [] ∧ ∃ v, st.s 5 = .ref 22 v ∧ st.o 22 = (v, some (true, .row 42 ((done.map (Vl.at row)).map Vl.enc))))), l.length, ⟨[], l, rfl, rfl, by simp only [go_sem, Nat.reduceEqDiff, Nat.reduceAdd, Nat.reduceSub, Nat.reduceLeDiff, Nat.reduceLT, Nat.reduceMul, Nat.reduceBEq, Int.reduceEq, Int.reduceLT, Int.reduceLE, Int.reduceNeg, Int.reduceToNat, reduceCtorEq, ho, Try.results88]; rfl, by simp only [go_sem, Nat.reduceEqDiff, Nat.reduceAdd, Nat.reduceSub, Nat.reduceLeDiff, Nat.reduceLT, Nat.reduceMul, Nat.reduceBEq, Int.reduceEq, Int.reduceLT, Int.reduceLE, Int.reduceNeg, Int.reduceToNat, reduceCtorEq, ho, Try.results88], by simp only [go_sem, Nat.reduceEqDiff, Nat.reduceAdd, Nat.reduceSub, Nat.reduceLeDiff, Nat.reduceLT, Nat.reduceMul, Nat.reduceBEq, Int.reduceEq, Int.reduceLT, Int.reduceLE, Int.reduceNeg, Int.reduceToNat, reduceCtorEq, ho, Try.results88], by simp only [go_sem, Nat.reduceEqDiff, Nat.reduceAdd, Nat.reduceSub, Nat.reduceLeDiff, Nat.reduceLT, Nat.reduceMul, Nat.reduceBEq, Int.reduceEq, Int.reduceLT, Int.reduceLE, Int.reduceNeg, Int.reduceToNat, reduceCtorEq, ho, Try.results88], .inl ⟨rfl, by simp only [go_sem, Nat.reduceEqDiff, Nat.reduceAdd, Nat.reduceSub, Nat.reduceLeDiff, Nat.reduceLT, Nat.reduceMul, Nat.reduceBEq, Int.reduceEq, Int.reduceLT, Int.reduceLE, Int.reduceNeg, Int.reduceToNat, reduceCtorEq, ho, Try.results88], by simp only [go_sem, Nat.reduceEqDiff, Nat.reduceAdd, Nat.reduceSub, Nat.reduceLeDiff, Nat.reduceLT, Nat.reduceMul, Nat.reduceBEq, Int.reduceEq, Int.reduceLT, Int.reduceLE, Int.reduceNeg, Int.reduceToNat, reduceCtorEq, ho, Try.results88]⟩⟩, ?_⟩
  rintro n st ⟨done, rest, hl', hn, h13, h12, h11, hs0, h5⟩
  have hlen : done.length + rest.length = l.length := by rw [hl']; simp
  have hw : IntKind.i64.wrap ((done.length : Int) + 1) = (done.length : Int) + 1 := wrap_fits (by omega) (by omega)
  cases rest with
  | nil =>
    have hlt : ¬ (done.length : Int) < (l.length : Int) := by simp at hlen; omega
    obtain rfl : l = done := by simpa using hl'
    rcases h5 with ⟨rfl, h5, h10⟩ | ⟨hne, v, h5, h22⟩
    · simp only [go_sem, Nat.reduceEqDiff, Nat.reduceAdd, Nat.reduceSub, Nat.reduceLeDiff, Nat.reduceLT, Nat.reduceMul, Nat.reduceBEq, Int.reduceEq, Int.reduceLT, Int.reduceLE, Int.reduceNeg, Int.reduceToNat, reduceCtorEq, ho, Try.results88, h13, h12, hlt, h5, h10, Int.lt_irrefl, List.length_nil]
    · simp only [go_sem, Nat.reduceEqDiff, Nat.reduceAdd, Nat.reduceSub, Nat.reduceLeDiff, Nat.reduceLT, Nat.reduceMul, Nat.reduceBEq, Int.reduceEq, Int.reduceLT, Int.reduceLE, Int.reduceNeg, Int.reduceToNat, reduceCtorEq, ho, Try.results88, h13, h12, hlt, h5, h22]
  | cons x rest =>
    have hlt : (done.length : Int) < (l.length : Int) := by simp at hlen; omega
    have hget : (l.map (PV.int .i64))[done.length]? = some (.int .i64 x) := by simp [hl']
    simp only [go_sem, Nat.reduceEqDiff, Nat.reduceAdd, Nat.reduceSub, Nat.reduceLeDiff, Nat.reduceLT, Nat.reduceMul, Nat.reduceBEq, Int.reduceEq, Int.reduceLT, Int.reduceLE, Int.reduceNeg, Int.reduceToNat, reduceCtorEq, ho, Try.results88, h13, h12, h11, hs0, hlt, hget, Int.natCast_nonneg, Int.toNat_natCast]
    refine GCall.fr ?_ (at_fn row x) (.inl rfl) ?_; (focus (first | rfl | ((simp only [go_sem, Nat.reduceEqDiff, Nat.reduceAdd, Nat.reduceSub, Nat.reduceLeDiff, Nat.reduceLT, Nat.reduceMul, Nat.reduceBEq, Int.reduceEq, Int.reduceLT, Int.reduceLE, Int.reduceNeg, Int.reduceToNat, reduceCtorEq, ho, Try.results88]); done) | ((simp only [go_sem, Nat.reduceEqDiff, Nat.reduceAdd, Nat.reduceSub, Nat.reduceLeDiff, Nat.reduceLT, Nat.reduceMul, Nat.reduceBEq, Int.reduceEq, Int.reduceLT, Int.reduceLE, Int.reduceNeg, Int.reduceToNat, reduceCtorEq, ho, Try.results88]); rfl)))
    simp only [go_sem, Nat.reduceEqDiff, Nat.reduceAdd, Nat.reduceSub, Nat.reduceLeDiff, Nat.reduceLT, Nat.reduceMul, Nat.reduceBEq, Int.reduceEq, Int.reduceLT, Int.reduceLE, Int.reduceNeg, Int.reduceToNat, reduceCtorEq, ho, Try.results88, h13, h12, h11, hs0]
    have hbig : (done.length + 1) * 33 ≤ 140737488355328 := by omega
    rcases h5 with ⟨rfl, h5, h10⟩ | ⟨hne, v, h5, h22⟩
    · simp only [go_sem, Nat.reduceEqDiff, Nat.reduceAdd, Nat.reduceSub, Nat.reduceLeDiff, Nat.reduceLT, Nat.reduceMul, Nat.reduceBEq, Int.reduceEq, Int.reduceLT, Int.reduceLE, Int.reduceNeg, Int.reduceToNat, reduceCtorEq, ho, Try.results88, h13, h12, h11, hs0, h5, h10, hw, Vl.enc]
      exact ⟨rest.length, by simp at hn; omega, [x], rest, by simpa using hl', rfl, rfl, .inr ⟨by simp, _, rfl, by simp [Vl.enc]⟩⟩
    · simp only [go_sem, Nat.reduceEqDiff, Nat.reduceAdd, Nat.reduceSub, Nat.reduceLeDiff, Nat.reduceLT, Nat.reduceMul, Nat.reduceBEq, Int.reduceEq, Int.reduceLT, Int.reduceLE, Int.reduceNeg, Int.reduceToNat, reduceCtorEq, ho, Try.results88, h13, h12, h11, hs0, h5, h22, hw, hbig, Vl.enc]
      exact ⟨rest.length, by simp at hn; omega, done ++ [x], rest, by simp [hl'], rfl, by simp, .inr ⟨by simp, _, rfl, by simp [Vl.enc]⟩⟩
theorem ok98 : okCode M0 Try.f98.ntmps (Try.f98.body.getD .skip) = true := by decide +kernel
theorem column_fn (row : List Vl) (i : Int) : Fc 98 [.sl (row.map Vl.enc), .int .i64 i] (column row i).enc := by
  refine fn_of_awp (E := E0) (M := M0) follows Try.func98 rfl (by decide) ok98 (by decide) (by simp) fun o ho => ?_
  simp only [go_sem, Nat.reduceEqDiff, Nat.reduceAdd, Nat.reduceSub, Nat.reduceLeDiff, Nat.reduceLT, Nat.reduceMul, Nat.reduceBEq, Int.reduceEq, Int.reduceLT, Int.reduceLE, Int.reduceNeg, Int.reduceToNat, reduceCtorEq, ho, Try.results98]
  refine GCall.mk ?_ (pick_fn row [i] (by simp)) rfl ?_
  · simp only [go_sem, Nat.reduceEqDiff, Nat.reduceAdd, Nat.reduceSub, Nat.reduceLeDiff, Nat.reduceLT, Nat.reduceMul, Nat.reduceBEq, Int.reduceEq, Int.reduceLT, Int.reduceLE, Int.reduceNeg, Int.reduceToNat, reduceCtorEq, ho, Try.results98]
  have h01 : (0 : Int) < ((1 : Nat) : Int) := by decide
  simp only [go_sem, Nat.reduceEqDiff, Nat.reduceAdd, Nat.reduceSub, Nat.reduceLeDiff, Nat.reduceLT, Nat.reduceMul, Nat.reduceBEq, Int.reduceEq, Int.reduceLT, Int.reduceLE, Int.reduceNeg, Int.reduceToNat, reduceCtorEq, ho, Try.results98, Vl.enc, h01]
  refine GCall.fr ?_ (valid_fn (Vl.at row i)) (.inl rfl) ?_; (focus (first | rfl | ((simp only [go_sem, Nat.reduceEqDiff, Nat.reduceAdd, Nat.reduceSub, Nat.reduceLeDiff, Nat.reduceLT, Nat.reduceMul, Nat.reduceBEq, Int.reduceEq, Int.reduceLT, Int.reduceLE, Int.reduceNeg, Int.reduceToNat, reduceCtorEq, ho, Try.results98]); done) | ((simp only [go_sem, Nat.reduceEqDiff, Nat.reduceAdd, Nat.reduceSub, Nat.reduceLeDiff, Nat.reduceLT, Nat.reduceMul, Nat.reduceBEq, Int.reduceEq, Int.reduceLT, Int.reduceLE, Int.reduceNeg, Int.reduceToNat, reduceCtorEq, ho, Try.results98]); rfl)))
  simp only [go_sem, Nat.reduceEqDiff, Nat.reduceAdd, Nat.reduceSub, Nat.reduceLeDiff, Nat.reduceLT, Nat.reduceMul, Nat.reduceBEq, Int.reduceEq, Int.reduceLT, Int.reduceLE, Int.reduceNeg, Int.reduceToNat, reduceCtorEq, ho, Try.results98]
  repeat' (first | (refine AIf_cases (fun h => ?_) (fun h => ?_) <;> (try simp only [decide_eq_true_eq, decide_eq_false_iff_not, Bool.not_eq_true', Bool.not_eq_false', Bool.not_eq_true, Bool.not_eq_false] at h) <;> (try simp only [go_sem, Nat.reduceEqDiff, Nat.reduceAdd, Nat.reduceSub, Nat.reduceLeDiff, Nat.reduceLT, Nat.reduceMul, Nat.reduceBEq, Int.reduceEq, Int.reduceLT, Int.reduceLE, Int.reduceNeg, Int.reduceToNat, reduceCtorEq, ho, Try.results98, h])))
  · refine GCall.fr ?_ (null_fn) (.inl rfl) ?_; (focus (first | rfl | ((simp only [go_sem, Nat.reduceEqDiff, Nat.reduceAdd, Nat.reduceSub, Nat.reduceLeDiff, Nat.reduceLT, Nat.reduceMul, Nat.reduceBEq, Int.reduceEq, Int.reduceLT, Int.reduceLE, Int.reduceNeg, Int.reduceToNat, reduceCtorEq, ho, Try.results98]); done) | ((simp only [go_sem, Nat.reduceEqDiff, Nat.reduceAdd, Nat.reduceSub, Nat.reduceLeDiff, Nat.reduceLT, Nat.reduceMul, Nat.reduceBEq, Int.reduceEq, Int.reduceLT, Int.reduceLE, Int.reduceNeg, Int.reduceToNat, reduceCtorEq, ho, Try.results98]); rfl)))
    simp only [go_sem, Nat.reduceEqDiff, Nat.reduceAdd, Nat.reduceSub, Nat.reduceLeDiff, Nat.reduceLT, Nat.reduceMul, Nat.reduceBEq, Int.reduceEq, Int.reduceLT, Int.reduceLE, Int.reduceNeg, Int.reduceToNat, reduceCtorEq, ho, Try.results98, Vl.enc, Vl.null]
    simp_all [column, Vl.orNull, Vl.null]
  · simp_all [column, Vl.orNull]
theorem vals_len {l : List Vl} : ∀ z, z ∈ l.map Vl.enc → z.cells.length = 3 := by
  intro z hz
  obtain ⟨n, _, rfl⟩ := List.mem_map.1 hz
  rfl
theorem vals_get {l done rest : List Vl} {v : Vl} (h : l = done ++ v :: rest) : (l.map Vl.enc)[done.length]? = some v.enc := by simp [h]
theorem ok99 : okCode M0 Try.f99.ntmps (Try.f99.body.getD .skip) = true := by decide +kernel
theorem logic_fn (op : Int) (x : Vl) (l : List Vl) (hl : l.length ≤ 1000000000) : Fc 99 [.int .i64 op, .sl ((x :: l).map Vl.enc)] (logicV op (x :: l)).enc := by
  refine fn_of_awp (E := E0) (M := M0) follows Try.func99 rfl (by decide) ok99 (by decide) (by simp) fun o ho => ?_
  simp only [go_sem, Nat.reduceEqDiff, Nat.reduceAdd, Nat.reduceSub, Nat.reduceLeDiff, Nat.reduceLT, Nat.reduceMul, Nat.reduceBEq, Int.reduceEq, Int.reduceLT, Int.reduceLE, Int.reduceNeg, Int.reduceToNat, reduceCtorEq, ho, Try.results99, Vl.enc]
  refine GCall.fr ?_ (truth_fn x) (.inl rfl) ?_; (focus (first | rfl | ((simp only [go_sem, Nat.reduceEqDiff, Nat.reduceAdd, Nat.reduceSub, Nat.reduceLeDiff, Nat.reduceLT, Nat.reduceMul, Nat.reduceBEq, Int.reduceEq, Int.reduceLT, Int.reduceLE, Int.reduceNeg, Int.reduceToNat, reduceCtorEq, ho, Try.results99]); done) | ((simp only [go_sem, Nat.reduceEqDiff, Nat.reduceAdd, Nat.reduceSub, Nat.reduceLeDiff, Nat.reduceLT, Nat.reduceMul, Nat.reduceBEq, Int.reduceEq, Int.reduceLT, Int.reduceLE, Int.reduceNeg, Int.reduceToNat, reduceCtorEq, ho, Try.results99]); rfl)))
  simp only [go_sem, Nat.reduceEqDiff, Nat.reduceAdd, Nat.reduceSub, Nat.reduceLeDiff, Nat.reduceLT, Nat.reduceMul, Nat.reduceBEq, Int.reduceEq, Int.reduceLT, Int.reduceLE, Int.reduceNeg, Int.reduceToNat, reduceCtorEq, ho, Try.results99]
  by_cases h4 : op = 4
  · simp only [go_sem, Nat.reduceEqDiff, Nat.reduceAdd, Nat.reduceSub, Nat.reduceLeDiff, Nat.reduceLT, Nat.reduceMul, Nat.reduceBEq, Int.reduceEq, Int.reduceLT, Int.reduceLE, Int.reduceNeg, Int.reduceToNat, reduceCtorEq, ho, Try.results99, h4]
    refine GCall.fr ?_ (not_fn x.truth) (.inl rfl) ?_; (focus (first | rfl | ((simp only [go_sem, Nat.reduceEqDiff, Nat.reduceAdd, Nat.reduceSub, Nat.reduceLeDiff, Nat.reduceLT, Nat.reduceMul, Nat.reduceBEq, Int.reduceEq, Int.reduceLT, Int.reduceLE, Int.reduceNeg, Int.reduceToNat, reduceCtorEq, ho, Try.results99]); done) | ((simp only [go_sem, Nat.reduceEqDiff, Nat.reduceAdd, Nat.reduceSub, Nat.reduceLeDiff, Nat.reduceLT, Nat.reduceMul, Nat.reduceBEq, Int.reduceEq, Int.reduceLT, Int.reduceLE, Int.reduceNeg, Int.reduceToNat, reduceCtorEq, ho, Try.results99]); rfl)))
    simp only [go_sem, Nat.reduceEqDiff, Nat.reduceAdd, Nat.reduceSub, Nat.reduceLeDiff, Nat.reduceLT, Nat.reduceMul, Nat.reduceBEq, Int.reduceEq, Int.reduceLT, Int.reduceLE, Int.reduceNeg, Int.reduceToNat, reduceCtorEq, ho, Try.results99]
    refine GCall.fr ?_ (of_fn (tnot x.truth)) (.inl rfl) ?_; (focus (first | rfl | ((simp only [go_sem, Nat.reduceEqDiff, Nat.reduceAdd, Nat.reduceSub, Nat.reduceLeDiff, Nat.reduceLT, Nat.reduceMul, Nat.reduceBEq, Int.reduceEq, Int.reduceLT, Int.reduceLE, Int.reduceNeg, Int.reduceToNat, reduceCtorEq, ho, Try.results99]); done) | ((simp only [go_sem, Nat.reduceEqDiff, Nat.reduceAdd, Nat.reduceSub, Nat.reduceLeDiff, Nat.reduceLT, Nat.reduceMul, Nat.reduceBEq, Int.reduceEq, Int.reduceLT, Int.reduceLE, Int.reduceNeg, Int.reduceToNat, reduceCtorEq, ho, Try.results99]); rfl)))
    simp only [go_sem, Nat.reduceEqDiff, Nat.reduceAdd, Nat.reduceSub, Nat.reduceLeDiff, Nat.reduceLT, Nat.reduceMul, Nat.reduceBEq, Int.reduceEq, Int.reduceLT, Int.reduceLE, Int.reduceNeg, Int.reduceToNat, reduceCtorEq, ho, Try.results99, Vl.enc]
    simp [logicV, nth]
  have htake : List.take l.length (l.map Vl.enc) = l.map Vl.enc := List.take_of_length_le (by simp)
  by_cases h5 : op = 5
  · simp only [go_sem, Nat.reduceEqDiff, Nat.reduceAdd, Nat.reduceSub, Nat.reduceLeDiff, Nat.reduceLT, Nat.reduceMul, Nat.reduceBEq, Int.reduceEq, Int.reduceLT, Int.reduceLE, Int.reduceNeg, Int.reduceToNat, reduceCtorEq, ho, Try.results99, h5, Nat.le_refl, eq_true (vals_len (l := l)), htake, true_and]
    refine ⟨fun n st => ∃ (done rest : List Vl) (t : Int), l = done ++ rest ∧ rest.length = n ∧ rest.foldl (fun t v => tand t v.truth) t = l.foldl (fun t v => tand t v.truth) x.truth ∧ st.s 37 = .int .i64 done.length ∧ st.s 36 = .int .i64 l.length ∧ st.s 35 = .sl (l.map Vl.enc) ∧ st.s 5 = .int .i64 t ∧ st.s 4 = .ptr 4 1 0 ∧ st.o 4 = (1, some (true, .box 42 [.int .i64 0, .int .i64 0, .str ⟨#[]⟩])), l.length, ⟨[], l, x.truth, rfl, rfl, rfl, by simp only [go_sem, Nat.reduceEqDiff, Nat.reduceAdd, Nat.reduceSub, Nat.reduceLeDiff, Nat.reduceLT, Nat.reduceMul, Nat.reduceBEq, Int.reduceEq, Int.reduceLT, Int.reduceLE, Int.reduceNeg, Int.reduceToNat, reduceCtorEq, ho, Try.results99]; rfl, by simp only [go_sem, Nat.reduceEqDiff, Nat.reduceAdd, Nat.reduceSub, Nat.reduceLeDiff, Nat.reduceLT, Nat.reduceMul, Nat.reduceBEq, Int.reduceEq, Int.reduceLT, Int.reduceLE, Int.reduceNeg, Int.reduceToNat, reduceCtorEq, ho, Try.results99], by simp only [go_sem, Nat.reduceEqDiff, Nat.reduceAdd, Nat.reduceSub, Nat.reduceLeDiff, Nat.reduceLT, Nat.reduceMul, Nat.reduceBEq, Int.reduceEq, Int.reduceLT, Int.reduceLE, Int.reduceNeg, Int.reduceToNat, reduceCtorEq, ho, Try.results99], by simp only [go_sem, Nat.reduceEqDiff, Nat.reduceAdd, Nat.reduceSub, Nat.reduceLeDiff, Nat.reduceLT, Nat.reduceMul, Nat.reduceBEq, Int.reduceEq, Int.reduceLT, Int.reduceLE, Int.reduceNeg, Int.reduceToNat, reduceCtorEq, ho, Try.results99], by simp only [go_sem, Nat.reduceEqDiff, Nat.reduceAdd, Nat.reduceSub, Nat.reduceLeDiff, Nat.reduceLT, Nat.reduceMul, Nat.reduceBEq, Int.reduceEq, Int.reduceLT, Int.reduceLE, Int.reduceNeg, Int.reduceToNat, reduceCtorEq, ho, Try.results99], by simp only [go_sem, Nat.reduceEqDiff, Nat.reduceAdd, Nat.reduceSub, Nat.reduceLeDiff, Nat.reduceLT, Nat.reduceMul, Nat.reduceBEq, Int.reduceEq, Int.reduceLT, Int.reduceLE, Int.reduceNeg, Int.reduceToNat, reduceCtorEq, ho, Try.results99]⟩, ?_⟩
    rintro n st ⟨done, rest, t, hl', hn, hf, hi, hlen, hs, h5', h4', hb⟩
    have hlen2 : done.length + rest.length = l.length := by rw [hl']; simp
    have hw : IntKind.i64.wrap ((done.length : Int) + 1) = (done.length : Int) + 1 := wrap_fits (by omega) (by omega)
    cases rest with
    | nil =>
      have hlt : ¬ (done.length : Int) < (l.length : Int) := by simp at hlen2; omega
      simp only [go_sem, Nat.reduceEqDiff, Nat.reduceAdd, Nat.reduceSub, Nat.reduceLeDiff, Nat.reduceLT, Nat.reduceMul, Nat.reduceBEq, Int.reduceEq, Int.reduceLT, Int.reduceLE, Int.reduceNeg, Int.reduceToNat, reduceCtorEq, ho, Try.results99, hi, hlen, hlt, h5', h4', hb]
      refine GCall.fr ?_ (of_fn t) (.inl rfl) ?_; (focus (first | rfl | ((simp only [go_sem, Nat.reduceEqDiff, Nat.reduceAdd, Nat.reduceSub, Nat.reduceLeDiff, Nat.reduceLT, Nat.reduceMul, Nat.reduceBEq, Int.reduceEq, Int.reduceLT, Int.reduceLE, Int.reduceNeg, Int.reduceToNat, reduceCtorEq, ho, Try.results99]); done) | ((simp only [go_sem, Nat.reduceEqDiff, Nat.reduceAdd, Nat.reduceSub, Nat.reduceLeDiff, Nat.reduceLT, Nat.reduceMul, Nat.reduceBEq, Int.reduceEq, Int.reduceLT, Int.reduceLE, Int.reduceNeg, Int.reduceToNat, reduceCtorEq, ho, Try.results99]); rfl)))
      simp only [go_sem, Nat.reduceEqDiff, Nat.reduceAdd, Nat.reduceSub, Nat.reduceLeDiff, Nat.reduceLT, Nat.reduceMul, Nat.reduceBEq, Int.reduceEq, Int.reduceLT, Int.reduceLE, Int.reduceNeg, Int.reduceToNat, reduceCtorEq, ho, Try.results99, Vl.enc, hi, hlen, hlt, h5', h4', hb]
      simp at hf
      simp [logicV, hf, nth]
    | cons v rest =>
      have hlt : (done.length : Int) < (l.length : Int) := by simp at hlen2; omega
      have hget := vals_get hl'
      simp only [go_sem, Nat.reduceEqDiff, Nat.reduceAdd, Nat.reduceSub, Nat.reduceLeDiff, Nat.reduceLT, Nat.reduceMul, Nat.reduceBEq, Int.reduceEq, Int.reduceLT, Int.reduceLE, Int.reduceNeg, Int.reduceToNat, reduceCtorEq, ho, Try.results99, hi, hlen, hs, hlt, hget, Int.natCast_nonneg, Int.toNat_natCast, h5', h4', hb, Vl.enc]
      refine GCall.fr ?_ (truth_fn v) (.inl rfl) ?_; (focus (first | rfl | ((simp only [go_sem, Nat.reduceEqDiff, Nat.reduceAdd, Nat.reduceSub, Nat.reduceLeDiff, Nat.reduceLT, Nat.reduceMul, Nat.reduceBEq, Int.reduceEq, Int.reduceLT, Int.reduceLE, Int.reduceNeg, Int.reduceToNat, reduceCtorEq, ho, Try.results99, Vl.enc]); done) | ((simp only [go_sem, Nat.reduceEqDiff, Nat.reduceAdd, Nat.reduceSub, Nat.reduceLeDiff, Nat.reduceLT, Nat.reduceMul, Nat.reduceBEq, Int.reduceEq, Int.reduceLT, Int.reduceLE, Int.reduceNeg, Int.reduceToNat, reduceCtorEq, ho, Try.results99, Vl.enc]); rfl)))
      simp only [go_sem, Nat.reduceEqDiff, Nat.reduceAdd, Nat.reduceSub, Nat.reduceLeDiff, Nat.reduceLT, Nat.reduceMul, Nat.reduceBEq, Int.reduceEq, Int.reduceLT, Int.reduceLE, Int.reduceNeg, Int.reduceToNat, reduceCtorEq, ho, Try.results99, hi, hlen, hs, h5', h4', hb]
      refine GCall.fr ?_ (and_fn t v.truth) (.inl rfl) ?_; (focus (first | rfl | ((simp only [go_sem, Nat.reduceEqDiff, Nat.reduceAdd, Nat.reduceSub, Nat.reduceLeDiff, Nat.reduceLT, Nat.reduceMul, Nat.reduceBEq, Int.reduceEq, Int.reduceLT, Int.reduceLE, Int.reduceNeg, Int.reduceToNat, reduceCtorEq, ho, Try.results99]); done) | ((simp only [go_sem, Nat.reduceEqDiff, Nat.reduceAdd, Nat.reduceSub, Nat.reduceLeDiff, Nat.reduceLT, Nat.reduceMul, Nat.reduceBEq, Int.reduceEq, Int.reduceLT, Int.reduceLE, Int.reduceNeg, Int.reduceToNat, reduceCtorEq, ho, Try.results99]); rfl)))
      simp only [go_sem, Nat.reduceEqDiff, Nat.reduceAdd, Nat.reduceSub, Nat.reduceLeDiff, Nat.reduceLT, Nat.reduceMul, Nat.reduceBEq, Int.reduceEq, Int.reduceLT, Int.reduceLE, Int.reduceNeg, Int.reduceToNat, reduceCtorEq, ho, Try.results99, hi, hlen, hs, h5', h4', hb, hw]
      exact ⟨rest.length, by simp at hn; omega, done ++ [v], rest, _, by simp [hl'], rfl, hf, by simp, rfl⟩
  · simp only [go_sem, Nat.reduceEqDiff, Nat.reduceAdd, Nat.reduceSub, Nat.reduceLeDiff, Nat.reduceLT, Nat.reduceMul, Nat.reduceBEq, Int.reduceEq, Int.reduceLT, Int.reduceLE, Int.reduceNeg, Int.reduceToNat, reduceCtorEq, ho, Try.results99, h4, h5, Nat.le_refl, eq_true (vals_len (l := l)), htake, true_and]
    refine ⟨fun n st => ∃ (done rest : List Vl) (t : Int), l = done ++ rest ∧ rest.length = n ∧ rest.foldl (fun t v => tor t v.truth) t = l.foldl (fun t v => tor t v.truth) x.truth ∧ st.s 18 = .int .i64 done.length ∧ st.s 17 = .int .i64 l.length ∧ st.s 16 = .sl (l.map Vl.enc) ∧ st.s 5 = .int .i64 t ∧ st.s 4 = .ptr 4 1 0 ∧ st.o 4 = (1, some (true, .box 42 [.int .i64 0, .int .i64 0, .str ⟨#[]⟩])), l.length, ⟨[], l, x.truth, rfl, rfl, rfl, by simp only [go_sem, Nat.reduceEqDiff, Nat.reduceAdd, Nat.reduceSub, Nat.reduceLeDiff, Nat.reduceLT, Nat.reduceMul, Nat.reduceBEq, Int.reduceEq, Int.reduceLT, Int.reduceLE, Int.reduceNeg, Int.reduceToNat, reduceCtorEq, ho, Try.results99]; rfl, by simp only [go_sem, Nat.reduceEqDiff, Nat.reduceAdd, Nat.reduceSub, Nat.reduceLeDiff, Nat.reduceLT, Nat.reduceMul, Nat.reduceBEq, Int.reduceEq, Int.reduceLT, Int.reduceLE, Int.reduceNeg, Int.reduceToNat, reduceCtorEq, ho, Try.results99], by simp only [go_sem, Nat.reduceEqDiff, Nat.reduceAdd, Nat.reduceSub, Nat.reduceLeDiff, Nat.reduceLT, Nat.reduceMul, Nat.reduceBEq, Int.reduceEq, Int.reduceLT, Int.reduceLE, Int.reduceNeg, Int.reduceToNat, reduceCtorEq, ho, Try.results99], by simp only [go_sem, Nat.reduceEqDiff, Nat.reduceAdd, Nat.reduceSub, Nat.reduceLeDiff, Nat.reduceLT, Nat.reduceMul, Nat.reduceBEq, Int.reduceEq, Int.reduceLT, Int.reduceLE, Int.reduceNeg, Int.reduceToNat, reduceCtorEq, ho, Try.results99], by simp only [go_sem, Nat.reduceEqDiff, Nat.reduceAdd, Nat.reduceSub, Nat.reduceLeDiff, Nat.reduceLT, Nat.reduceMul, Nat.reduceBEq, Int.reduceEq, Int.reduceLT, Int.reduceLE, Int.reduceNeg, Int.reduceToNat, reduceCtorEq, ho, Try.results99], by simp only [go_sem, Nat.reduceEqDiff, Nat.reduceAdd, Nat.reduceSub, Nat.reduceLeDiff, Nat.reduceLT, Nat.reduceMul, Nat.reduceBEq, Int.reduceEq, Int.reduceLT, Int.reduceLE, Int.reduceNeg, Int.reduceToNat, reduceCtorEq, ho, Try.results99]⟩, ?_⟩
    rintro n st ⟨done, rest, t, hl', hn, hf, hi, hlen, hs, h5', h4', hb⟩
    have hlen2 : done.length + rest.length = l.length := by rw [hl']; simp
    have hw : IntKind.i64.wrap ((done.length : Int) + 1) = (done.length : Int) + 1 := wrap_fits (by omega) (by omega)
    cases rest with
    | nil =>
      have hlt : ¬ (done.length : Int) < (l.length : Int) := by simp at hlen2; omega
      simp only [go_sem, Nat.reduceEqDiff, Nat.reduceAdd, Nat.reduceSub, Nat.reduceLeDiff, Nat.reduceLT, Nat.reduceMul, Nat.reduceBEq, Int.reduceEq, Int.reduceLT, Int.reduceLE, Int.reduceNeg, Int.reduceToNat, reduceCtorEq, ho, Try.results99, hi, hlen, hlt, h5', h4', hb]
      refine GCall.fr ?_ (of_fn t) (.inl rfl) ?_; (focus (first | rfl | ((simp only [go_sem, Nat.reduceEqDiff, Nat.reduceAdd, Nat.reduceSub, Nat.reduceLeDiff, Nat.reduceLT, Nat.reduceMul, Nat.reduceBEq, Int.reduceEq, Int.reduceLT, Int.reduceLE, Int.reduceNeg, Int.reduceToNat, reduceCtorEq, ho, Try.results99]); done) | ((simp only [go_sem, Nat.reduceEqDiff, Nat.reduceAdd, Nat.reduceSub, Nat.reduceLeDiff, Nat.reduceLT, Nat.reduceMul, Nat.reduceBEq, Int.reduceEq, Int.reduceLT, Int.reduceLE, Int.reduceNeg, Int.reduceToNat, reduceCtorEq, ho, Try.results99]); rfl)))
      simp only [go_sem, Nat.reduceEqDiff, Nat.reduceAdd, Nat.reduceSub, Nat.reduceLeDiff, Nat.reduceLT, Nat.reduceMul, Nat.reduceBEq, Int.reduceEq, Int.reduceLT, Int.reduceLE, Int.reduceNeg, Int.reduceToNat, reduceCtorEq, ho, Try.results99, Vl.enc, hi, hlen, hlt, h5', h4', hb]
      simp at hf
      simp [logicV, hf, nth, h4, h5]
    | cons v rest =>
      have hlt : (done.length : Int) < (l.length : Int) := by simp at hlen2; omega
      have hget := vals_get hl'
      simp only [go_sem, Nat.reduceEqDiff, Nat.reduceAdd, Nat.reduceSub, Nat.reduceLeDiff, Nat.reduceLT, Nat.reduceMul, Nat.reduceBEq, Int.reduceEq, Int.reduceLT, Int.reduceLE, Int.reduceNeg, Int.reduceToNat, reduceCtorEq, ho, Try.results99, hi, hlen, hs, hlt, hget, Int.natCast_nonneg, Int.toNat_natCast, h5', h4', hb, Vl.enc]
      refine GCall.fr ?_ (truth_fn v) (.inl rfl) ?_; (focus (first | rfl | ((simp only [go_sem, Nat.reduceEqDiff, Nat.reduceAdd, Nat.reduceSub, Nat.reduceLeDiff, Nat.reduceLT, Nat.reduceMul, Nat.reduceBEq, Int.reduceEq, Int.reduceLT, Int.reduceLE, Int.reduceNeg, Int.reduceToNat, reduceCtorEq, ho, Try.results99, Vl.enc]); done) | ((simp only [go_sem, Nat.reduceEqDiff, Nat.reduceAdd, Nat.reduceSub, Nat.reduceLeDiff, Nat.reduceLT, Nat.reduceMul, Nat.reduceBEq, Int.reduceEq, Int.reduceLT, Int.reduceLE, Int.reduceNeg, Int.reduceToNat, reduceCtorEq, ho, Try.results99, Vl.enc]); rfl)))
      simp only [go_sem, Nat.reduceEqDiff, Nat.reduceAdd, Nat.reduceSub, Nat.reduceLeDiff, Nat.reduceLT, Nat.reduceMul, Nat.reduceBEq, Int.reduceEq, Int.reduceLT, Int.reduceLE, Int.reduceNeg, Int.reduceToNat, reduceCtorEq, ho, Try.results99, hi, hlen, hs, h5', h4', hb]
      refine GCall.fr ?_ (or_fn t v.truth) (.inl rfl) ?_; (focus (first | rfl | ((simp only [go_sem, Nat.reduceEqDiff, Nat.reduceAdd, Nat.reduceSub, Nat.reduceLeDiff, Nat.reduceLT, Nat.reduceMul, Nat.reduceBEq, Int.reduceEq, Int.reduceLT, Int.reduceLE, Int.reduceNeg, Int.reduceToNat, reduceCtorEq, ho, Try.results99]); done) | ((simp only [go_sem, Nat.reduceEqDiff, Nat.reduceAdd, Nat.reduceSub, Nat.reduceLeDiff, Nat.reduceLT, Nat.reduceMul, Nat.reduceBEq, Int.reduceEq, Int.reduceLT, Int.reduceLE, Int.reduceNeg, Int.reduceToNat, reduceCtorEq, ho, Try.results99]); rfl)))
      simp only [go_sem, Nat.reduceEqDiff, Nat.reduceAdd, Nat.reduceSub, Nat.reduceLeDiff, Nat.reduceLT, Nat.reduceMul, Nat.reduceBEq, Int.reduceEq, Int.reduceLT, Int.reduceLE, Int.reduceNeg, Int.reduceToNat, reduceCtorEq, ho, Try.results99, hi, hlen, hs, h5', h4', hb, hw]
      exact ⟨rest.length, by simp at hn; omega, done ++ [v], rest, _, by simp [hl'], rfl, hf, by simp, rfl⟩
end Go.Proofs.Ytiefnninebilbaa
/- What the evaluation of texts, numbers and comparisons returns; no condition. -/
set_option maxRecDepth 100000
set_option linter.unusedVariables false
set_option linter.unusedSimpArgs false
namespace Go.Proofs.Ytiefnninebilbaa
open Go Go.Sx

theorem valid_text {v : Vl} (h : v.valid = true) : v.text.size ≤ 200 := by
  have e0 : (emp : ByteArray).size = 0 := rfl
  unfold Vl.valid at h
  repeat' split at h
  all_goals try simp only [Bool.and_eq_true, decide_eq_true_eq] at h
  · rw [h.2]; exact Nat.zero_le _
  · rw [h.1]; exact Nat.zero_le _
  · omega
  · rw [h.1]; exact Nat.zero_le _
  · exact absurd h (by decide)
theorem valid_int {v : Vl} (h : v.valid = true) : -1125899906842624 ≤ v.int ∧ v.int ≤ 1125899906842624 := by
  unfold Vl.valid at h
  repeat' split at h
  all_goals try simp only [Bool.and_eq_true, Bool.or_eq_true, decide_eq_true_eq] at h
  all_goals first | omega | exact absurd h (by decide)
theorem ba_size_append (a b : ByteArray) : (a ++ b).size = a.size + b.size := by simp
theorem ok102 : okCode M0 Try.f102.ntmps (Try.f102.body.getD .skip) = true := by decide +kernel
theorem text_fn (op : Int) (l : List Vl) (hv : ∀ v ∈ l, v.text.size ≤ 200) (hl : l.length ≤ 1000000000) : Fc 102 [.int .i64 op, .sl (l.map Vl.enc)] (textV op l).enc := by
  refine fn_of_awp (E := E0) (M := M0) follows Try.func102 rfl (by decide) ok102 (by decide) (by simp) fun o ho => ?_
  simp only [go_sem, Nat.reduceEqDiff, Nat.reduceAdd, Nat.reduceSub, Nat.reduceLeDiff, Nat.reduceLT, Nat.reduceMul, Nat.reduceBEq, Int.reduceEq, Int.reduceLT, Int.reduceLE, Int.reduceNeg, Int.reduceToNat, reduceCtorEq, ho, Try.results102]
  refine ⟨fun n st => ∃ (done rest : List Vl) (k : Nat) (s : ByteArray), l = done ++ rest ∧ rest.length = n ∧ allK 2 rest = allK 2 l ∧ rest.foldl (fun n v => n + v.text.size) k = sizeV l ∧ rest.foldl (fun s v => s ++ v.text) s = catV l ∧ k ≤ 200 * done.length ∧ s.size ≤ 200 * done.length ∧ st.s 11 = .int .i64 done.length ∧ st.s 10 = .int .i64 l.length ∧ st.s 9 = .sl (l.map Vl.enc) ∧ st.s 5 = .int .i64 k ∧ st.s 6 = .str s ∧ st.s 0 = .int .i64 op ∧ st.s 4 = .ptr 4 1 0 ∧ st.o 4 = (1, some (true, .box 42 [.int .i64 0, .int .i64 0, .str ⟨#[]⟩])), l.length,
    ⟨[], l, 0, emp, rfl, rfl, rfl, rfl, rfl, by simp, show (0 : Nat) ≤ _ from Nat.zero_le _, by simp only [go_sem, Nat.reduceEqDiff, Nat.reduceAdd, Nat.reduceSub, Nat.reduceLeDiff, Nat.reduceLT, Nat.reduceMul, Nat.reduceBEq, Int.reduceEq, Int.reduceLT, Int.reduceLE, Int.reduceNeg, Int.reduceToNat, reduceCtorEq, ho, Try.results102]; rfl, by simp only [go_sem, Nat.reduceEqDiff, Nat.reduceAdd, Nat.reduceSub, Nat.reduceLeDiff, Nat.reduceLT, Nat.reduceMul, Nat.reduceBEq, Int.reduceEq, Int.reduceLT, Int.reduceLE, Int.reduceNeg, Int.reduceToNat, reduceCtorEq, ho, Try.results102], by simp only [go_sem, Nat.reduceEqDiff, Nat.reduceAdd, Nat.reduceSub, Nat.reduceLeDiff, Nat.reduceLT, Nat.reduceMul, Nat.reduceBEq, Int.reduceEq, Int.reduceLT, Int.reduceLE, Int.reduceNeg, Int.reduceToNat, reduceCtorEq, ho, Try.results102], by simp only [go_sem, Nat.reduceEqDiff, Nat.reduceAdd, Nat.reduceSub, Nat.reduceLeDiff, Nat.reduceLT, Nat.reduceMul, Nat.reduceBEq, Int.reduceEq, Int.reduceLT, Int.reduceLE, Int.reduceNeg, Int.reduceToNat, reduceCtorEq, ho, Try.results102]; rfl, by simp only [go_sem, Nat.reduceEqDiff, Nat.reduceAdd, Nat.reduceSub, Nat.reduceLeDiff, Nat.reduceLT, Nat.reduceMul, Nat.reduceBEq, Int.reduceEq, Int.reduceLT, Int.reduceLE, Int.reduceNeg, Int.reduceToNat, reduceCtorEq, ho, Try.results102], by simp only [go_sem, Nat.reduceEqDiff, Nat.reduceAdd, Nat.reduceSub, Nat.reduceLeDiff, Nat.reduceLT, Nat.reduceMul, Nat.reduceBEq, Int.reduceEq, Int.reduceLT, Int.reduceLE, Int.reduceNeg, Int.reduceToNat, reduceCtorEq, ho, Try.results102], by simp only [go_sem, Nat.reduceEqDiff, Nat.reduceAdd, Nat.reduceSub, Nat.reduceLeDiff, Nat.reduceLT, Nat.reduceMul, Nat.reduceBEq, Int.reduceEq, Int.reduceLT, Int.reduceLE, Int.reduceNeg, Int.reduceToNat, reduceCtorEq, ho, Try.results102], by simp only [go_sem, Nat.reduceEqDiff, Nat.reduceAdd, Nat.reduceSub, Nat.reduceLeDiff, Nat.reduceLT, Nat.reduceMul, Nat.reduceBEq, Int.reduceEq, Int.reduceLT, Int.reduceLE, Int.reduceNeg, Int.reduceToNat, reduceCtorEq, ho, Try.results102]⟩, ?_⟩
  rintro n st ⟨done, rest, k, s, hl', hn, ha, hk, hs, hk2, hs2, h11, h10, h9, h5, h6, h0, h4, hb⟩
  have hlen2 : done.length + rest.length = l.length := by rw [hl']; simp
  have hw : IntKind.i64.wrap ((done.length : Int) + 1) = (done.length : Int) + 1 := wrap_fits (by omega) (by omega)
  cases rest with
  | nil =>
    have hlt : ¬ (done.length : Int) < (l.length : Int) := by simp at hlen2; omega
    simp at hk hs
    simp only [go_sem, Nat.reduceEqDiff, Nat.reduceAdd, Nat.reduceSub, Nat.reduceLeDiff, Nat.reduceLT, Nat.reduceMul, Nat.reduceBEq, Int.reduceEq, Int.reduceLT, Int.reduceLE, Int.reduceNeg, Int.reduceToNat, reduceCtorEq, ho, Try.results102, h11, h10, hlt, h5, h6, h0, h4, hb]
    by_cases hop : op = 20
    · simp only [go_sem, Nat.reduceEqDiff, Nat.reduceAdd, Nat.reduceSub, Nat.reduceLeDiff, Nat.reduceLT, Nat.reduceMul, Nat.reduceBEq, Int.reduceEq, Int.reduceLT, Int.reduceLE, Int.reduceNeg, Int.reduceToNat, reduceCtorEq, ho, Try.results102, hop, h11, h10, hlt, h5, h6, h0, h4, hb]
      refine GCall.fr ?_ (num_fn k) (.inl rfl) ?_; (focus (first | rfl | ((simp only [go_sem, Nat.reduceEqDiff, Nat.reduceAdd, Nat.reduceSub, Nat.reduceLeDiff, Nat.reduceLT, Nat.reduceMul, Nat.reduceBEq, Int.reduceEq, Int.reduceLT, Int.reduceLE, Int.reduceNeg, Int.reduceToNat, reduceCtorEq, ho, Try.results102]); done) | ((simp only [go_sem, Nat.reduceEqDiff, Nat.reduceAdd, Nat.reduceSub, Nat.reduceLeDiff, Nat.reduceLT, Nat.reduceMul, Nat.reduceBEq, Int.reduceEq, Int.reduceLT, Int.reduceLE, Int.reduceNeg, Int.reduceToNat, reduceCtorEq, ho, Try.results102]); rfl)))
      simp only [go_sem, Nat.reduceEqDiff, Nat.reduceAdd, Nat.reduceSub, Nat.reduceLeDiff, Nat.reduceLT, Nat.reduceMul, Nat.reduceBEq, Int.reduceEq, Int.reduceLT, Int.reduceLE, Int.reduceNeg, Int.reduceToNat, reduceCtorEq, ho, Try.results102, Vl.enc, h11, h10, hlt, h5, h6, h0, h4, hb]
      have hall : allK 2 l = true := ha.symm
      simp [textV, hall, hk]
    · simp only [go_sem, Nat.reduceEqDiff, Nat.reduceAdd, Nat.reduceSub, Nat.reduceLeDiff, Nat.reduceLT, Nat.reduceMul, Nat.reduceBEq, Int.reduceEq, Int.reduceLT, Int.reduceLE, Int.reduceNeg, Int.reduceToNat, reduceCtorEq, ho, Try.results102, hop, h11, h10, hlt, h5, h6, h0, h4, hb]
      refine GCall.fr ?_ (txt_fn s) (.inl rfl) ?_; (focus (first | rfl | ((simp only [go_sem, Nat.reduceEqDiff, Nat.reduceAdd, Nat.reduceSub, Nat.reduceLeDiff, Nat.reduceLT, Nat.reduceMul, Nat.reduceBEq, Int.reduceEq, Int.reduceLT, Int.reduceLE, Int.reduceNeg, Int.reduceToNat, reduceCtorEq, ho, Try.results102]); done) | ((simp only [go_sem, Nat.reduceEqDiff, Nat.reduceAdd, Nat.reduceSub, Nat.reduceLeDiff, Nat.reduceLT, Nat.reduceMul, Nat.reduceBEq, Int.reduceEq, Int.reduceLT, Int.reduceLE, Int.reduceNeg, Int.reduceToNat, reduceCtorEq, ho, Try.results102]); rfl)))
      simp only [go_sem, Nat.reduceEqDiff, Nat.reduceAdd, Nat.reduceSub, Nat.reduceLeDiff, Nat.reduceLT, Nat.reduceMul, Nat.reduceBEq, Int.reduceEq, Int.reduceLT, Int.reduceLE, Int.reduceNeg, Int.reduceToNat, reduceCtorEq, ho, Try.results102, Vl.enc, h11, h10, hlt, h5, h6, h0, h4, hb]
      have hall : allK 2 l = true := ha.symm
      simp [textV, hall, hs, hop]
  | cons v rest =>
    have hlt : (done.length : Int) < (l.length : Int) := by simp at hlen2; omega
    have hget := vals_get hl'
    have hvv := hv v (by simp [hl'])
    have hsz : s.size + v.text.size ≤ 9223372036854775807 := by simp at hlen2; omega
    have hw2 : IntKind.i64.wrap ((k : Int) + (v.text.size : Int)) = (k : Int) + (v.text.size : Int) := wrap_fits (by omega) (by omega)
    simp only [go_sem, Nat.reduceEqDiff, Nat.reduceAdd, Nat.reduceSub, Nat.reduceLeDiff, Nat.reduceLT, Nat.reduceMul, Nat.reduceBEq, Int.reduceEq, Int.reduceLT, Int.reduceLE, Int.reduceNeg, Int.reduceToNat, reduceCtorEq, ho, Try.results102, h11, h10, h9, hlt, hget, Int.natCast_nonneg, Int.toNat_natCast, h5, h6, h0, h4, hb, Vl.enc]
    by_cases hkind : v.kind = 2
    · simp only [go_sem, Nat.reduceEqDiff, Nat.reduceAdd, Nat.reduceSub, Nat.reduceLeDiff, Nat.reduceLT, Nat.reduceMul, Nat.reduceBEq, Int.reduceEq, Int.reduceLT, Int.reduceLE, Int.reduceNeg, Int.reduceToNat, reduceCtorEq, ho, Try.results102, hkind, h11, h10, h9, h5, h6, h0, h4, hb, hw, hw2, hsz]
      refine ⟨rest.length, by simp at hn; omega, done ++ [v], rest, k + v.text.size, _, by simp [hl'], rfl, by rw [← ha]; simp [allK, hkind], hk, hs, by simp; omega, by simp; omega, by simp, ?_⟩
      simp
    · simp only [go_sem, Nat.reduceEqDiff, Nat.reduceAdd, Nat.reduceSub, Nat.reduceLeDiff, Nat.reduceLT, Nat.reduceMul, Nat.reduceBEq, Int.reduceEq, Int.reduceLT, Int.reduceLE, Int.reduceNeg, Int.reduceToNat, reduceCtorEq, ho, Try.results102, hkind, h11, h10, h9, h5, h6, h0, h4, hb]
      refine GCall.fr ?_ (null_fn) (.inl rfl) ?_; (focus (first | rfl | ((simp only [go_sem, Nat.reduceEqDiff, Nat.reduceAdd, Nat.reduceSub, Nat.reduceLeDiff, Nat.reduceLT, Nat.reduceMul, Nat.reduceBEq, Int.reduceEq, Int.reduceLT, Int.reduceLE, Int.reduceNeg, Int.reduceToNat, reduceCtorEq, ho, Try.results102]); done) | ((simp only [go_sem, Nat.reduceEqDiff, Nat.reduceAdd, Nat.reduceSub, Nat.reduceLeDiff, Nat.reduceLT, Nat.reduceMul, Nat.reduceBEq, Int.reduceEq, Int.reduceLT, Int.reduceLE, Int.reduceNeg, Int.reduceToNat, reduceCtorEq, ho, Try.results102]); rfl)))
      simp only [go_sem, Nat.reduceEqDiff, Nat.reduceAdd, Nat.reduceSub, Nat.reduceLeDiff, Nat.reduceLT, Nat.reduceMul, Nat.reduceBEq, Int.reduceEq, Int.reduceLT, Int.reduceLE, Int.reduceNeg, Int.reduceToNat, reduceCtorEq, ho, Try.results102, Vl.enc, Vl.null, h11, h10, hlt, h5, h6, h0, h4, hb]
      have : allK 2 l = false := by rw [← ha]; simp [allK, hkind]
      simp [textV, this, Vl.null]
theorem absI_pos {a : Int} (ha : -1125899906842624 ≤ a ∧ a ≤ 1125899906842624) (h0 : ¬ a = 0) : ¬ absI a = 0 := by
  have hn : IntKind.i64.wrap (0 - a) = 0 - a := wrap_fits (by omega) (by omega)
  unfold absI
  rw [hn]
  split <;> omega
theorem ok164 : okCode M0 Try.f164.ntmps (Try.f164.body.getD .skip) = true := by decide +kernel
theorem product_fn (a b : Int) (ha : -1125899906842624 ≤ a ∧ a ≤ 1125899906842624) : Fc 164 [.int .i64 a, .int .i64 b] (product a b).enc := by
  have fold : ∀ a : Int, (if a < IntKind.i64.wrap (0 - a) then IntKind.i64.wrap (0 - a) else a) = absI a := fun _ => rfl
  refine fn_of_awp (E := E0) (M := M0) follows Try.func164 rfl (by decide) ok164 (by decide) (by simp) fun o ho => ?_
  simp only [go_sem, Nat.reduceEqDiff, Nat.reduceAdd, Nat.reduceSub, Nat.reduceLeDiff, Nat.reduceLT, Nat.reduceMul, Nat.reduceBEq, Int.reduceEq, Int.reduceLT, Int.reduceLE, Int.reduceNeg, Int.reduceToNat, reduceCtorEq, ho, Try.results164, fold]
  by_cases h0 : a = 0
  · simp only [go_sem, Nat.reduceEqDiff, Nat.reduceAdd, Nat.reduceSub, Nat.reduceLeDiff, Nat.reduceLT, Nat.reduceMul, Nat.reduceBEq, Int.reduceEq, Int.reduceLT, Int.reduceLE, Int.reduceNeg, Int.reduceToNat, reduceCtorEq, ho, Try.results164, h0]
    refine GCall.fr ?_ (num_fn (IntKind.i64.wrap (0 * b))) (.inl rfl) ?_; (focus (first | rfl | ((simp only [go_sem, Nat.reduceEqDiff, Nat.reduceAdd, Nat.reduceSub, Nat.reduceLeDiff, Nat.reduceLT, Nat.reduceMul, Nat.reduceBEq, Int.reduceEq, Int.reduceLT, Int.reduceLE, Int.reduceNeg, Int.reduceToNat, reduceCtorEq, ho, Try.results164]); done) | ((simp only [go_sem, Nat.reduceEqDiff, Nat.reduceAdd, Nat.reduceSub, Nat.reduceLeDiff, Nat.reduceLT, Nat.reduceMul, Nat.reduceBEq, Int.reduceEq, Int.reduceLT, Int.reduceLE, Int.reduceNeg, Int.reduceToNat, reduceCtorEq, ho, Try.results164]); rfl)))
    simp only [go_sem, Nat.reduceEqDiff, Nat.reduceAdd, Nat.reduceSub, Nat.reduceLeDiff, Nat.reduceLT, Nat.reduceMul, Nat.reduceBEq, Int.reduceEq, Int.reduceLT, Int.reduceLE, Int.reduceNeg, Int.reduceToNat, reduceCtorEq, ho, Try.results164, Vl.enc]
    simp [product, h0]
  · have h1 := absI_pos ha h0
    simp only [go_sem, Nat.reduceEqDiff, Nat.reduceAdd, Nat.reduceSub, Nat.reduceLeDiff, Nat.reduceLT, Nat.reduceMul, Nat.reduceBEq, Int.reduceEq, Int.reduceLT, Int.reduceLE, Int.reduceNeg, Int.reduceToNat, reduceCtorEq, ho, Try.results164, h0, h1, fold]
    by_cases h2 : IntKind.i64.wrap (Int.tdiv 1125899906842624 (absI a)) < absI b
    · simp only [go_sem, Nat.reduceEqDiff, Nat.reduceAdd, Nat.reduceSub, Nat.reduceLeDiff, Nat.reduceLT, Nat.reduceMul, Nat.reduceBEq, Int.reduceEq, Int.reduceLT, Int.reduceLE, Int.reduceNeg, Int.reduceToNat, reduceCtorEq, ho, Try.results164, h2]
      refine GCall.fr ?_ (null_fn) (.inl rfl) ?_; (focus (first | rfl | ((simp only [go_sem, Nat.reduceEqDiff, Nat.reduceAdd, Nat.reduceSub, Nat.reduceLeDiff, Nat.reduceLT, Nat.reduceMul, Nat.reduceBEq, Int.reduceEq, Int.reduceLT, Int.reduceLE, Int.reduceNeg, Int.reduceToNat, reduceCtorEq, ho, Try.results164]); done) | ((simp only [go_sem, Nat.reduceEqDiff, Nat.reduceAdd, Nat.reduceSub, Nat.reduceLeDiff, Nat.reduceLT, Nat.reduceMul, Nat.reduceBEq, Int.reduceEq, Int.reduceLT, Int.reduceLE, Int.reduceNeg, Int.reduceToNat, reduceCtorEq, ho, Try.results164]); rfl)))
      simp only [go_sem, Nat.reduceEqDiff, Nat.reduceAdd, Nat.reduceSub, Nat.reduceLeDiff, Nat.reduceLT, Nat.reduceMul, Nat.reduceBEq, Int.reduceEq, Int.reduceLT, Int.reduceLE, Int.reduceNeg, Int.reduceToNat, reduceCtorEq, ho, Try.results164, Vl.enc, Vl.null]
      simp [product, h0, h2, Vl.null]
    · simp only [go_sem, Nat.reduceEqDiff, Nat.reduceAdd, Nat.reduceSub, Nat.reduceLeDiff, Nat.reduceLT, Nat.reduceMul, Nat.reduceBEq, Int.reduceEq, Int.reduceLT, Int.reduceLE, Int.reduceNeg, Int.reduceToNat, reduceCtorEq, ho, Try.results164, h2]
      refine GCall.fr ?_ (num_fn (IntKind.i64.wrap (a * b))) (.inl rfl) ?_; (focus (first | rfl | ((simp only [go_sem, Nat.reduceEqDiff, Nat.reduceAdd, Nat.reduceSub, Nat.reduceLeDiff, Nat.reduceLT, Nat.reduceMul, Nat.reduceBEq, Int.reduceEq, Int.reduceLT, Int.reduceLE, Int.reduceNeg, Int.reduceToNat, reduceCtorEq, ho, Try.results164]); done) | ((simp only [go_sem, Nat.reduceEqDiff, Nat.reduceAdd, Nat.reduceSub, Nat.reduceLeDiff, Nat.reduceLT, Nat.reduceMul, Nat.reduceBEq, Int.reduceEq, Int.reduceLT, Int.reduceLE, Int.reduceNeg, Int.reduceToNat, reduceCtorEq, ho, Try.results164]); rfl)))
      simp only [go_sem, Nat.reduceEqDiff, Nat.reduceAdd, Nat.reduceSub, Nat.reduceLeDiff, Nat.reduceLT, Nat.reduceMul, Nat.reduceBEq, Int.reduceEq, Int.reduceLT, Int.reduceLE, Int.reduceNeg, Int.reduceToNat, reduceCtorEq, ho, Try.results164, Vl.enc]
      simp [product, h0, h2]
theorem ok105 : okCode M0 Try.f105.ntmps (Try.f105.body.getD .skip) = true := by decide +kernel
theorem compared_fn (op : Int) (a b : Vl) : Fc 105 [.int .i64 op, a.enc, b.enc] (.int .i64 (Vl.compared op a b)) := by
  refine fn_of_awp (E := E0) (M := M0) follows Try.func105 rfl (by decide) ok105 (by decide) (by simp) fun o ho => ?_
  simp only [go_sem, Nat.reduceEqDiff, Nat.reduceAdd, Nat.reduceSub, Nat.reduceLeDiff, Nat.reduceLT, Nat.reduceMul, Nat.reduceBEq, Int.reduceEq, Int.reduceLT, Int.reduceLE, Int.reduceNeg, Int.reduceToNat, reduceCtorEq, ho, Try.results105, Vl.enc]
  repeat' (first | (refine AIf_cases (fun h => ?_) (fun h => ?_) <;> (try simp only [decide_eq_true_eq, decide_eq_false_iff_not, Bool.not_eq_true', Bool.not_eq_false', Bool.not_eq_true, Bool.not_eq_false] at h) <;> (try simp only [go_sem, Nat.reduceEqDiff, Nat.reduceAdd, Nat.reduceSub, Nat.reduceLeDiff, Nat.reduceLT, Nat.reduceMul, Nat.reduceBEq, Int.reduceEq, Int.reduceLT, Int.reduceLE, Int.reduceNeg, Int.reduceToNat, reduceCtorEq, ho, Try.results105, h, Vl.enc])) | (refine GCall.fr ?_ (eql_fn a b) (.inl rfl) ?_; (focus (first | rfl | ((simp only [go_sem, Nat.reduceEqDiff, Nat.reduceAdd, Nat.reduceSub, Nat.reduceLeDiff, Nat.reduceLT, Nat.reduceMul, Nat.reduceBEq, Int.reduceEq, Int.reduceLT, Int.reduceLE, Int.reduceNeg, Int.reduceToNat, reduceCtorEq, ho, Try.results105, Vl.enc]); done) | ((simp only [go_sem, Nat.reduceEqDiff, Nat.reduceAdd, Nat.reduceSub, Nat.reduceLeDiff, Nat.reduceLT, Nat.reduceMul, Nat.reduceBEq, Int.reduceEq, Int.reduceLT, Int.reduceLE, Int.reduceNeg, Int.reduceToNat, reduceCtorEq, ho, Try.results105, Vl.enc]); rfl))); (try simp only [go_sem, Nat.reduceEqDiff, Nat.reduceAdd, Nat.reduceSub, Nat.reduceLeDiff, Nat.reduceLT, Nat.reduceMul, Nat.reduceBEq, Int.reduceEq, Int.reduceLT, Int.reduceLE, Int.reduceNeg, Int.reduceToNat, reduceCtorEq, ho, Try.results105, Vl.enc])) | (refine QCall.fr ?_ (eql_fn a b) (.inl rfl) ?_; (focus (first | rfl | ((simp only [go_sem, Nat.reduceEqDiff, Nat.reduceAdd, Nat.reduceSub, Nat.reduceLeDiff, Nat.reduceLT, Nat.reduceMul, Nat.reduceBEq, Int.reduceEq, Int.reduceLT, Int.reduceLE, Int.reduceNeg, Int.reduceToNat, reduceCtorEq, ho, Try.results105, Vl.enc]); done) | ((simp only [go_sem, Nat.reduceEqDiff, Nat.reduceAdd, Nat.reduceSub, Nat.reduceLeDiff, Nat.reduceLT, Nat.reduceMul, Nat.reduceBEq, Int.reduceEq, Int.reduceLT, Int.reduceLE, Int.reduceNeg, Int.reduceToNat, reduceCtorEq, ho, Try.results105, Vl.enc]); rfl))); (try simp only [go_sem, Nat.reduceEqDiff, Nat.reduceAdd, Nat.reduceSub, Nat.reduceLeDiff, Nat.reduceLT, Nat.reduceMul, Nat.reduceBEq, Int.reduceEq, Int.reduceLT, Int.reduceLE, Int.reduceNeg, Int.reduceToNat, reduceCtorEq, ho, Try.results105, Vl.enc])) | (refine GCall.fr ?_ (less_fn a b) (.inl rfl) ?_; (focus (first | rfl | ((simp only [go_sem, Nat.reduceEqDiff, Nat.reduceAdd, Nat.reduceSub, Nat.reduceLeDiff, Nat.reduceLT, Nat.reduceMul, Nat.reduceBEq, Int.reduceEq, Int.reduceLT, Int.reduceLE, Int.reduceNeg, Int.reduceToNat, reduceCtorEq, ho, Try.results105, Vl.enc]); done) | ((simp only [go_sem, Nat.reduceEqDiff, Nat.reduceAdd, Nat.reduceSub, Nat.reduceLeDiff, Nat.reduceLT, Nat.reduceMul, Nat.reduceBEq, Int.reduceEq, Int.reduceLT, Int.reduceLE, Int.reduceNeg, Int.reduceToNat, reduceCtorEq, ho, Try.results105, Vl.enc]); rfl))); (try simp only [go_sem, Nat.reduceEqDiff, Nat.reduceAdd, Nat.reduceSub, Nat.reduceLeDiff, Nat.reduceLT, Nat.reduceMul, Nat.reduceBEq, Int.reduceEq, Int.reduceLT, Int.reduceLE, Int.reduceNeg, Int.reduceToNat, reduceCtorEq, ho, Try.results105, Vl.enc])) | (refine QCall.fr ?_ (less_fn a b) (.inl rfl) ?_; (focus (first | rfl | ((simp only [go_sem, Nat.reduceEqDiff, Nat.reduceAdd, Nat.reduceSub, Nat.reduceLeDiff, Nat.reduceLT, Nat.reduceMul, Nat.reduceBEq, Int.reduceEq, Int.reduceLT, Int.reduceLE, Int.reduceNeg, Int.reduceToNat, reduceCtorEq, ho, Try.results105, Vl.enc]); done) | ((simp only [go_sem, Nat.reduceEqDiff, Nat.reduceAdd, Nat.reduceSub, Nat.reduceLeDiff, Nat.reduceLT, Nat.reduceMul, Nat.reduceBEq, Int.reduceEq, Int.reduceLT, Int.reduceLE, Int.reduceNeg, Int.reduceToNat, reduceCtorEq, ho, Try.results105, Vl.enc]); rfl))); (try simp only [go_sem, Nat.reduceEqDiff, Nat.reduceAdd, Nat.reduceSub, Nat.reduceLeDiff, Nat.reduceLT, Nat.reduceMul, Nat.reduceBEq, Int.reduceEq, Int.reduceLT, Int.reduceLE, Int.reduceNeg, Int.reduceToNat, reduceCtorEq, ho, Try.results105, Vl.enc])) | (refine GCall.fr ?_ (less_fn b a) (.inl rfl) ?_; (focus (first | rfl | ((simp only [go_sem, Nat.reduceEqDiff, Nat.reduceAdd, Nat.reduceSub, Nat.reduceLeDiff, Nat.reduceLT, Nat.reduceMul, Nat.reduceBEq, Int.reduceEq, Int.reduceLT, Int.reduceLE, Int.reduceNeg, Int.reduceToNat, reduceCtorEq, ho, Try.results105, Vl.enc]); done) | ((simp only [go_sem, Nat.reduceEqDiff, Nat.reduceAdd, Nat.reduceSub, Nat.reduceLeDiff, Nat.reduceLT, Nat.reduceMul, Nat.reduceBEq, Int.reduceEq, Int.reduceLT, Int.reduceLE, Int.reduceNeg, Int.reduceToNat, reduceCtorEq, ho, Try.results105, Vl.enc]); rfl))); (try simp only [go_sem, Nat.reduceEqDiff, Nat.reduceAdd, Nat.reduceSub, Nat.reduceLeDiff, Nat.reduceLT, Nat.reduceMul, Nat.reduceBEq, Int.reduceEq, Int.reduceLT, Int.reduceLE, Int.reduceNeg, Int.reduceToNat, reduceCtorEq, ho, Try.results105, Vl.enc])) | (refine QCall.fr ?_ (less_fn b a) (.inl rfl) ?_; (focus (first | rfl | ((simp only [go_sem, Nat.reduceEqDiff, Nat.reduceAdd, Nat.reduceSub, Nat.reduceLeDiff, Nat.reduceLT, Nat.reduceMul, Nat.reduceBEq, Int.reduceEq, Int.reduceLT, Int.reduceLE, Int.reduceNeg, Int.reduceToNat, reduceCtorEq, ho, Try.results105, Vl.enc]); done) | ((simp only [go_sem, Nat.reduceEqDiff, Nat.reduceAdd, Nat.reduceSub, Nat.reduceLeDiff, Nat.reduceLT, Nat.reduceMul, Nat.reduceBEq, Int.reduceEq, Int.reduceLT, Int.reduceLE, Int.reduceNeg, Int.reduceToNat, reduceCtorEq, ho, Try.results105, Vl.enc]); rfl))); (try simp only [go_sem, Nat.reduceEqDiff, Nat.reduceAdd, Nat.reduceSub, Nat.reduceLeDiff, Nat.reduceLT, Nat.reduceMul, Nat.reduceBEq, Int.reduceEq, Int.reduceLT, Int.reduceLE, Int.reduceNeg, Int.reduceToNat, reduceCtorEq, ho, Try.results105, Vl.enc])) | (refine GCall.fr ?_ (not_fn (a.eql b)) (.inl rfl) ?_; (focus (first | rfl | ((simp only [go_sem, Nat.reduceEqDiff, Nat.reduceAdd, Nat.reduceSub, Nat.reduceLeDiff, Nat.reduceLT, Nat.reduceMul, Nat.reduceBEq, Int.reduceEq, Int.reduceLT, Int.reduceLE, Int.reduceNeg, Int.reduceToNat, reduceCtorEq, ho, Try.results105, Vl.enc]); done) | ((simp only [go_sem, Nat.reduceEqDiff, Nat.reduceAdd, Nat.reduceSub, Nat.reduceLeDiff, Nat.reduceLT, Nat.reduceMul, Nat.reduceBEq, Int.reduceEq, Int.reduceLT, Int.reduceLE, Int.reduceNeg, Int.reduceToNat, reduceCtorEq, ho, Try.results105, Vl.enc]); rfl))); (try simp only [go_sem, Nat.reduceEqDiff, Nat.reduceAdd, Nat.reduceSub, Nat.reduceLeDiff, Nat.reduceLT, Nat.reduceMul, Nat.reduceBEq, Int.reduceEq, Int.reduceLT, Int.reduceLE, Int.reduceNeg, Int.reduceToNat, reduceCtorEq, ho, Try.results105, Vl.enc])) | (refine QCall.fr ?_ (not_fn (a.eql b)) (.inl rfl) ?_; (focus (first | rfl | ((simp only [go_sem, Nat.reduceEqDiff, Nat.reduceAdd, Nat.reduceSub, Nat.reduceLeDiff, Nat.reduceLT, Nat.reduceMul, Nat.reduceBEq, Int.reduceEq, Int.reduceLT, Int.reduceLE, Int.reduceNeg, Int.reduceToNat, reduceCtorEq, ho, Try.results105, Vl.enc]); done) | ((simp only [go_sem, Nat.reduceEqDiff, Nat.reduceAdd, Nat.reduceSub, Nat.reduceLeDiff, Nat.reduceLT, Nat.reduceMul, Nat.reduceBEq, Int.reduceEq, Int.reduceLT, Int.reduceLE, Int.reduceNeg, Int.reduceToNat, reduceCtorEq, ho, Try.results105, Vl.enc]); rfl))); (try simp only [go_sem, Nat.reduceEqDiff, Nat.reduceAdd, Nat.reduceSub, Nat.reduceLeDiff, Nat.reduceLT, Nat.reduceMul, Nat.reduceBEq, Int.reduceEq, Int.reduceLT, Int.reduceLE, Int.reduceNeg, Int.reduceToNat, reduceCtorEq, ho, Try.results105, Vl.enc])) | (refine GCall.fr ?_ (not_fn (b.less a)) (.inl rfl) ?_; (focus (first | rfl | ((simp only [go_sem, Nat.reduceEqDiff, Nat.reduceAdd, Nat.reduceSub, Nat.reduceLeDiff, Nat.reduceLT, Nat.reduceMul, Nat.reduceBEq, Int.reduceEq, Int.reduceLT, Int.reduceLE, Int.reduceNeg, Int.reduceToNat, reduceCtorEq, ho, Try.results105, Vl.enc]); done) | ((simp only [go_sem, Nat.reduceEqDiff, Nat.reduceAdd, Nat.reduceSub, Nat.reduceLeDiff, Nat.reduceLT, Nat.reduceMul, Nat.reduceBEq, Int.reduceEq, Int.reduceLT, Int.reduceLE, Int.reduceNeg, Int.reduceToNat, reduceCtorEq, ho, Try.results105, Vl.enc]); rfl))); (try simp only [go_sem, Nat.reduceEqDiff, Nat.reduceAdd, Nat.reduceSub, Nat.reduceLeDiff, Nat.reduceLT, Nat.reduceMul, Nat.reduceBEq, Int.reduceEq, Int.reduceLT, Int.reduceLE, Int.reduceNeg, Int.reduceToNat, reduceCtorEq, ho, Try.results105, Vl.enc])) | (refine QCall.fr ?_ (not_fn (b.less a)) (.inl rfl) ?_; (focus (first | rfl | ((simp only [go_sem, Nat.reduceEqDiff, Nat.reduceAdd, Nat.reduceSub, Nat.reduceLeDiff, Nat.reduceLT, Nat.reduceMul, Nat.reduceBEq, Int.reduceEq, Int.reduceLT, Int.reduceLE, Int.reduceNeg, Int.reduceToNat, reduceCtorEq, ho, Try.results105, Vl.enc]); done) | ((simp only [go_sem, Nat.reduceEqDiff, Nat.reduceAdd, Nat.reduceSub, Nat.reduceLeDiff, Nat.reduceLT, Nat.reduceMul, Nat.reduceBEq, Int.reduceEq, Int.reduceLT, Int.reduceLE, Int.reduceNeg, Int.reduceToNat, reduceCtorEq, ho, Try.results105, Vl.enc]); rfl))); (try simp only [go_sem, Nat.reduceEqDiff, Nat.reduceAdd, Nat.reduceSub, Nat.reduceLeDiff, Nat.reduceLT, Nat.reduceMul, Nat.reduceBEq, Int.reduceEq, Int.reduceLT, Int.reduceLE, Int.reduceNeg, Int.reduceToNat, reduceCtorEq, ho, Try.results105, Vl.enc])) | (refine GCall.fr ?_ (not_fn (a.less b)) (.inl rfl) ?_; (focus (first | rfl | ((simp only [go_sem, Nat.reduceEqDiff, Nat.reduceAdd, Nat.reduceSub, Nat.reduceLeDiff, Nat.reduceLT, Nat.reduceMul, Nat.reduceBEq, Int.reduceEq, Int.reduceLT, Int.reduceLE, Int.reduceNeg, Int.reduceToNat, reduceCtorEq, ho, Try.results105, Vl.enc]); done) | ((simp only [go_sem, Nat.reduceEqDiff, Nat.reduceAdd, Nat.reduceSub, Nat.reduceLeDiff, Nat.reduceLT, Nat.reduceMul, Nat.reduceBEq, Int.reduceEq, Int.reduceLT, Int.reduceLE, Int.reduceNeg, Int.reduceToNat, reduceCtorEq, ho, Try.results105, Vl.enc]); rfl))); (try simp only [go_sem, Nat.reduceEqDiff, Nat.reduceAdd, Nat.reduceSub, Nat.reduceLeDiff, Nat.reduceLT, Nat.reduceMul, Nat.reduceBEq, Int.reduceEq, Int.reduceLT, Int.reduceLE, Int.reduceNeg, Int.reduceToNat, reduceCtorEq, ho, Try.results105, Vl.enc])) | (refine QCall.fr ?_ (not_fn (a.less b)) (.inl rfl) ?_; (focus (first | rfl | ((simp only [go_sem, Nat.reduceEqDiff, Nat.reduceAdd, Nat.reduceSub, Nat.reduceLeDiff, Nat.reduceLT, Nat.reduceMul, Nat.reduceBEq, Int.reduceEq, Int.reduceLT, Int.reduceLE, Int.reduceNeg, Int.reduceToNat, reduceCtorEq, ho, Try.results105, Vl.enc]); done) | ((simp only [go_sem, Nat.reduceEqDiff, Nat.reduceAdd, Nat.reduceSub, Nat.reduceLeDiff, Nat.reduceLT, Nat.reduceMul, Nat.reduceBEq, Int.reduceEq, Int.reduceLT, Int.reduceLE, Int.reduceNeg, Int.reduceToNat, reduceCtorEq, ho, Try.results105, Vl.enc]); rfl))); (try simp only [go_sem, Nat.reduceEqDiff, Nat.reduceAdd, Nat.reduceSub, Nat.reduceLeDiff, Nat.reduceLT, Nat.reduceMul, Nat.reduceBEq, Int.reduceEq, Int.reduceLT, Int.reduceLE, Int.reduceNeg, Int.reduceToNat, reduceCtorEq, ho, Try.results105, Vl.enc])))
  all_goals simp_all [Vl.compared]
theorem nth_get {l : List Vl} {i : Nat} (h : i < l.length) : (l.map Vl.enc)[i]? = some (nth l i).enc := by
  rw [List.getElem?_map]
  unfold nth
  rw [List.getElem?_eq_getElem h]
  rfl
theorem ok103 : okCode M0 Try.f103.ntmps (Try.f103.body.getD .skip) = true := by decide +kernel
theorem arith_fn (op : Int) (l : List Vl) (hv : ∀ v ∈ l, v.valid = true) (hl : l.length ≤ 1000000000) (h0 : 0 < l.length) : Fc 103 [.int .i64 op, .sl (l.map Vl.enc)] (arith op l).enc := by
  refine fn_of_awp (E := E0) (M := M0) follows Try.func103 rfl (by decide) ok103 (by decide) (by simp) fun o ho => ?_
  simp only [go_sem, Nat.reduceEqDiff, Nat.reduceAdd, Nat.reduceSub, Nat.reduceLeDiff, Nat.reduceLT, Nat.reduceMul, Nat.reduceBEq, Int.reduceEq, Int.reduceLT, Int.reduceLE, Int.reduceNeg, Int.reduceToNat, reduceCtorEq, ho, Try.results103]
  refine ⟨fun n st => ∃ (done rest : List Vl), l = done ++ rest ∧ rest.length = n ∧ allK 1 rest = allK 1 l ∧ st.s 11 = .int .i64 done.length ∧ st.s 10 = .int .i64 l.length ∧ st.s 9 = .sl (l.map Vl.enc) ∧ st.s 1 = .sl (l.map Vl.enc) ∧ st.s 0 = .int .i64 op ∧ st.s 4 = .ptr 4 1 0 ∧ st.o 4 = (1, some (true, .box 42 [.int .i64 0, .int .i64 0, .str ⟨#[]⟩])), l.length,
    ⟨[], l, rfl, rfl, rfl, by simp only [go_sem, Nat.reduceEqDiff, Nat.reduceAdd, Nat.reduceSub, Nat.reduceLeDiff, Nat.reduceLT, Nat.reduceMul, Nat.reduceBEq, Int.reduceEq, Int.reduceLT, Int.reduceLE, Int.reduceNeg, Int.reduceToNat, reduceCtorEq, ho, Try.results103]; rfl, by simp only [go_sem, Nat.reduceEqDiff, Nat.reduceAdd, Nat.reduceSub, Nat.reduceLeDiff, Nat.reduceLT, Nat.reduceMul, Nat.reduceBEq, Int.reduceEq, Int.reduceLT, Int.reduceLE, Int.reduceNeg, Int.reduceToNat, reduceCtorEq, ho, Try.results103], by simp only [go_sem, Nat.reduceEqDiff, Nat.reduceAdd, Nat.reduceSub, Nat.reduceLeDiff, Nat.reduceLT, Nat.reduceMul, Nat.reduceBEq, Int.reduceEq, Int.reduceLT, Int.reduceLE, Int.reduceNeg, Int.reduceToNat, reduceCtorEq, ho, Try.results103], by simp only [go_sem, Nat.reduceEqDiff, Nat.reduceAdd, Nat.reduceSub, Nat.reduceLeDiff, Nat.reduceLT, Nat.reduceMul, Nat.reduceBEq, Int.reduceEq, Int.reduceLT, Int.reduceLE, Int.reduceNeg, Int.reduceToNat, reduceCtorEq, ho, Try.results103], by simp only [go_sem, Nat.reduceEqDiff, Nat.reduceAdd, Nat.reduceSub, Nat.reduceLeDiff, Nat.reduceLT, Nat.reduceMul, Nat.reduceBEq, Int.reduceEq, Int.reduceLT, Int.reduceLE, Int.reduceNeg, Int.reduceToNat, reduceCtorEq, ho, Try.results103], by simp only [go_sem, Nat.reduceEqDiff, Nat.reduceAdd, Nat.reduceSub, Nat.reduceLeDiff, Nat.reduceLT, Nat.reduceMul, Nat.reduceBEq, Int.reduceEq, Int.reduceLT, Int.reduceLE, Int.reduceNeg, Int.reduceToNat, reduceCtorEq, ho, Try.results103], by simp only [go_sem, Nat.reduceEqDiff, Nat.reduceAdd, Nat.reduceSub, Nat.reduceLeDiff, Nat.reduceLT, Nat.reduceMul, Nat.reduceBEq, Int.reduceEq, Int.reduceLT, Int.reduceLE, Int.reduceNeg, Int.reduceToNat, reduceCtorEq, ho, Try.results103]⟩, ?_⟩
  rintro n st ⟨done, rest, hl', hn, ha, h11, h10, h9, hs1, hs0, h4, hb⟩
  have hlen2 : done.length + rest.length = l.length := by rw [hl']; simp
  have hw : IntKind.i64.wrap ((done.length : Int) + 1) = (done.length : Int) + 1 := wrap_fits (by omega) (by omega)
  cases rest with
  | nil =>
    have hlt : ¬ (done.length : Int) < (l.length : Int) := by simp at hlen2; omega
    have hall : allK 1 l = true := ha.symm
    have hg0 := nth_get h0
    have hg1 := nth_get (show l.length - 1 < l.length by omega)
    have hw1 : IntKind.i64.wrap ((l.length : Int) - 1) = ((l.length - 1 : Nat) : Int) := (wrap_fits (by omega) (by omega)).trans (by omega)
    have hi := valid_int (nth_valid hv 0)
    have key : arith op l = computed op (nth l 0).int (nth l (l.length - 1)).int := by simp [arith, hall]
    rw [key]
    simp only [go_sem, Nat.reduceEqDiff, Nat.reduceAdd, Nat.reduceSub, Nat.reduceLeDiff, Nat.reduceLT, Nat.reduceMul, Nat.reduceBEq, Int.reduceEq, Int.reduceLT, Int.reduceLE, Int.reduceNeg, Int.reduceToNat, reduceCtorEq, ho, Try.results103, h11, h10, hlt, hs1, hs0, h4, hb, hg0, hg1, hw1, Int.natCast_nonneg, Int.toNat_natCast]
    by_cases hz : (nth l (l.length - 1)).int = 0
    · repeat' (first | (refine AIf_cases (fun h => ?_) (fun h => ?_) <;> (try simp only [decide_eq_true_eq, decide_eq_false_iff_not, Bool.not_eq_true', Bool.not_eq_false', Bool.not_eq_true, Bool.not_eq_false] at h) <;> (try simp only [go_sem, Nat.reduceEqDiff, Nat.reduceAdd, Nat.reduceSub, Nat.reduceLeDiff, Nat.reduceLT, Nat.reduceMul, Nat.reduceBEq, Int.reduceEq, Int.reduceLT, Int.reduceLE, Int.reduceNeg, Int.reduceToNat, reduceCtorEq, ho, Try.results103, h, h11, h10, hlt, hs1, hs0, h4, hb, Vl.enc, Vl.null, eq_true hz])) | (refine GCall.fr ?_ (num_fn (IntKind.i64.wrap ((nth l 0).int + (nth l (l.length - 1)).int))) (.inl rfl) ?_; (focus (first | rfl | ((simp only [go_sem, Nat.reduceEqDiff, Nat.reduceAdd, Nat.reduceSub, Nat.reduceLeDiff, Nat.reduceLT, Nat.reduceMul, Nat.reduceBEq, Int.reduceEq, Int.reduceLT, Int.reduceLE, Int.reduceNeg, Int.reduceToNat, reduceCtorEq, ho, Try.results103, h11, h10, hlt, hs1, hs0, h4, hb, Vl.enc, Vl.null, eq_true hz]); done) | ((simp only [go_sem, Nat.reduceEqDiff, Nat.reduceAdd, Nat.reduceSub, Nat.reduceLeDiff, Nat.reduceLT, Nat.reduceMul, Nat.reduceBEq, Int.reduceEq, Int.reduceLT, Int.reduceLE, Int.reduceNeg, Int.reduceToNat, reduceCtorEq, ho, Try.results103, h11, h10, hlt, hs1, hs0, h4, hb, Vl.enc, Vl.null, eq_true hz]); rfl))); (try simp only [go_sem, Nat.reduceEqDiff, Nat.reduceAdd, Nat.reduceSub, Nat.reduceLeDiff, Nat.reduceLT, Nat.reduceMul, Nat.reduceBEq, Int.reduceEq, Int.reduceLT, Int.reduceLE, Int.reduceNeg, Int.reduceToNat, reduceCtorEq, ho, Try.results103, h11, h10, hlt, hs1, hs0, h4, hb, Vl.enc, Vl.null, eq_true hz])) | (refine QCall.fr ?_ (num_fn (IntKind.i64.wrap ((nth l 0).int + (nth l (l.length - 1)).int))) (.inl rfl) ?_; (focus (first | rfl | ((simp only [go_sem, Nat.reduceEqDiff, Nat.reduceAdd, Nat.reduceSub, Nat.reduceLeDiff, Nat.reduceLT, Nat.reduceMul, Nat.reduceBEq, Int.reduceEq, Int.reduceLT, Int.reduceLE, Int.reduceNeg, Int.reduceToNat, reduceCtorEq, ho, Try.results103, h11, h10, hlt, hs1, hs0, h4, hb, Vl.enc, Vl.null, eq_true hz]); done) | ((simp only [go_sem, Nat.reduceEqDiff, Nat.reduceAdd, Nat.reduceSub, Nat.reduceLeDiff, Nat.reduceLT, Nat.reduceMul, Nat.reduceBEq, Int.reduceEq, Int.reduceLT, Int.reduceLE, Int.reduceNeg, Int.reduceToNat, reduceCtorEq, ho, Try.results103, h11, h10, hlt, hs1, hs0, h4, hb, Vl.enc, Vl.null, eq_true hz]); rfl))); (try simp only [go_sem, Nat.reduceEqDiff, Nat.reduceAdd, Nat.reduceSub, Nat.reduceLeDiff, Nat.reduceLT, Nat.reduceMul, Nat.reduceBEq, Int.reduceEq, Int.reduceLT, Int.reduceLE, Int.reduceNeg, Int.reduceToNat, reduceCtorEq, ho, Try.results103, h11, h10, hlt, hs1, hs0, h4, hb, Vl.enc, Vl.null, eq_true hz])) | (refine GCall.fr ?_ (num_fn (IntKind.i64.wrap ((nth l 0).int - (nth l (l.length - 1)).int))) (.inl rfl) ?_; (focus (first | rfl | ((simp only [go_sem, Nat.reduceEqDiff, Nat.reduceAdd, Nat.reduceSub, Nat.reduceLeDiff, Nat.reduceLT, Nat.reduceMul, Nat.reduceBEq, Int.reduceEq, Int.reduceLT, Int.reduceLE, Int.reduceNeg, Int.reduceToNat, reduceCtorEq, ho, Try.results103, h11, h10, hlt, hs1, hs0, h4, hb, Vl.enc, Vl.null, eq_true hz]); done) | ((simp only [go_sem, Nat.reduceEqDiff, Nat.reduceAdd, Nat.reduceSub, Nat.reduceLeDiff, Nat.reduceLT, Nat.reduceMul, Nat.reduceBEq, Int.reduceEq, Int.reduceLT, Int.reduceLE, Int.reduceNeg, Int.reduceToNat, reduceCtorEq, ho, Try.results103, h11, h10, hlt, hs1, hs0, h4, hb, Vl.enc, Vl.null, eq_true hz]); rfl))); (try simp only [go_sem, Nat.reduceEqDiff, Nat.reduceAdd, Nat.reduceSub, Nat.reduceLeDiff, Nat.reduceLT, Nat.reduceMul, Nat.reduceBEq, Int.reduceEq, Int.reduceLT, Int.reduceLE, Int.reduceNeg, Int.reduceToNat, reduceCtorEq, ho, Try.results103, h11, h10, hlt, hs1, hs0, h4, hb, Vl.enc, Vl.null, eq_true hz])) | (refine QCall.fr ?_ (num_fn (IntKind.i64.wrap ((nth l 0).int - (nth l (l.length - 1)).int))) (.inl rfl) ?_; (focus (first | rfl | ((simp only [go_sem, Nat.reduceEqDiff, Nat.reduceAdd, Nat.reduceSub, Nat.reduceLeDiff, Nat.reduceLT, Nat.reduceMul, Nat.reduceBEq, Int.reduceEq, Int.reduceLT, Int.reduceLE, Int.reduceNeg, Int.reduceToNat, reduceCtorEq, ho, Try.results103, h11, h10, hlt, hs1, hs0, h4, hb, Vl.enc, Vl.null, eq_true hz]); done) | ((simp only [go_sem, Nat.reduceEqDiff, Nat.reduceAdd, Nat.reduceSub, Nat.reduceLeDiff, Nat.reduceLT, Nat.reduceMul, Nat.reduceBEq, Int.reduceEq, Int.reduceLT, Int.reduceLE, Int.reduceNeg, Int.reduceToNat, reduceCtorEq, ho, Try.results103, h11, h10, hlt, hs1, hs0, h4, hb, Vl.enc, Vl.null, eq_true hz]); rfl))); (try simp only [go_sem, Nat.reduceEqDiff, Nat.reduceAdd, Nat.reduceSub, Nat.reduceLeDiff, Nat.reduceLT, Nat.reduceMul, Nat.reduceBEq, Int.reduceEq, Int.reduceLT, Int.reduceLE, Int.reduceNeg, Int.reduceToNat, reduceCtorEq, ho, Try.results103, h11, h10, hlt, hs1, hs0, h4, hb, Vl.enc, Vl.null, eq_true hz])) | (refine GCall.fr ?_ (num_fn (IntKind.i64.wrap (0 - (nth l 0).int))) (.inl rfl) ?_; (focus (first | rfl | ((simp only [go_sem, Nat.reduceEqDiff, Nat.reduceAdd, Nat.reduceSub, Nat.reduceLeDiff, Nat.reduceLT, Nat.reduceMul, Nat.reduceBEq, Int.reduceEq, Int.reduceLT, Int.reduceLE, Int.reduceNeg, Int.reduceToNat, reduceCtorEq, ho, Try.results103, h11, h10, hlt, hs1, hs0, h4, hb, Vl.enc, Vl.null, eq_true hz]); done) | ((simp only [go_sem, Nat.reduceEqDiff, Nat.reduceAdd, Nat.reduceSub, Nat.reduceLeDiff, Nat.reduceLT, Nat.reduceMul, Nat.reduceBEq, Int.reduceEq, Int.reduceLT, Int.reduceLE, Int.reduceNeg, Int.reduceToNat, reduceCtorEq, ho, Try.results103, h11, h10, hlt, hs1, hs0, h4, hb, Vl.enc, Vl.null, eq_true hz]); rfl))); (try simp only [go_sem, Nat.reduceEqDiff, Nat.reduceAdd, Nat.reduceSub, Nat.reduceLeDiff, Nat.reduceLT, Nat.reduceMul, Nat.reduceBEq, Int.reduceEq, Int.reduceLT, Int.reduceLE, Int.reduceNeg, Int.reduceToNat, reduceCtorEq, ho, Try.results103, h11, h10, hlt, hs1, hs0, h4, hb, Vl.enc, Vl.null, eq_true hz])) | (refine QCall.fr ?_ (num_fn (IntKind.i64.wrap (0 - (nth l 0).int))) (.inl rfl) ?_; (focus (first | rfl | ((simp only [go_sem, Nat.reduceEqDiff, Nat.reduceAdd, Nat.reduceSub, Nat.reduceLeDiff, Nat.reduceLT, Nat.reduceMul, Nat.reduceBEq, Int.reduceEq, Int.reduceLT, Int.reduceLE, Int.reduceNeg, Int.reduceToNat, reduceCtorEq, ho, Try.results103, h11, h10, hlt, hs1, hs0, h4, hb, Vl.enc, Vl.null, eq_true hz]); done) | ((simp only [go_sem, Nat.reduceEqDiff, Nat.reduceAdd, Nat.reduceSub, Nat.reduceLeDiff, Nat.reduceLT, Nat.reduceMul, Nat.reduceBEq, Int.reduceEq, Int.reduceLT, Int.reduceLE, Int.reduceNeg, Int.reduceToNat, reduceCtorEq, ho, Try.results103, h11, h10, hlt, hs1, hs0, h4, hb, Vl.enc, Vl.null, eq_true hz]); rfl))); (try simp only [go_sem, Nat.reduceEqDiff, Nat.reduceAdd, Nat.reduceSub, Nat.reduceLeDiff, Nat.reduceLT, Nat.reduceMul, Nat.reduceBEq, Int.reduceEq, Int.reduceLT, Int.reduceLE, Int.reduceNeg, Int.reduceToNat, reduceCtorEq, ho, Try.results103, h11, h10, hlt, hs1, hs0, h4, hb, Vl.enc, Vl.null, eq_true hz])) | (refine GCall.fr ?_ (product_fn (nth l 0).int (nth l (l.length - 1)).int hi) (.inl rfl) ?_; (focus (first | rfl | ((simp only [go_sem, Nat.reduceEqDiff, Nat.reduceAdd, Nat.reduceSub, Nat.reduceLeDiff, Nat.reduceLT, Nat.reduceMul, Nat.reduceBEq, Int.reduceEq, Int.reduceLT, Int.reduceLE, Int.reduceNeg, Int.reduceToNat, reduceCtorEq, ho, Try.results103, h11, h10, hlt, hs1, hs0, h4, hb, Vl.enc, Vl.null, eq_true hz]); done) | ((simp only [go_sem, Nat.reduceEqDiff, Nat.reduceAdd, Nat.reduceSub, Nat.reduceLeDiff, Nat.reduceLT, Nat.reduceMul, Nat.reduceBEq, Int.reduceEq, Int.reduceLT, Int.reduceLE, Int.reduceNeg, Int.reduceToNat, reduceCtorEq, ho, Try.results103, h11, h10, hlt, hs1, hs0, h4, hb, Vl.enc, Vl.null, eq_true hz]); rfl))); (try simp only [go_sem, Nat.reduceEqDiff, Nat.reduceAdd, Nat.reduceSub, Nat.reduceLeDiff, Nat.reduceLT, Nat.reduceMul, Nat.reduceBEq, Int.reduceEq, Int.reduceLT, Int.reduceLE, Int.reduceNeg, Int.reduceToNat, reduceCtorEq, ho, Try.results103, h11, h10, hlt, hs1, hs0, h4, hb, Vl.enc, Vl.null, eq_true hz])) | (refine QCall.fr ?_ (product_fn (nth l 0).int (nth l (l.length - 1)).int hi) (.inl rfl) ?_; (focus (first | rfl | ((simp only [go_sem, Nat.reduceEqDiff, Nat.reduceAdd, Nat.reduceSub, Nat.reduceLeDiff, Nat.reduceLT, Nat.reduceMul, Nat.reduceBEq, Int.reduceEq, Int.reduceLT, Int.reduceLE, Int.reduceNeg, Int.reduceToNat, reduceCtorEq, ho, Try.results103, h11, h10, hlt, hs1, hs0, h4, hb, Vl.enc, Vl.null, eq_true hz]); done) | ((simp only [go_sem, Nat.reduceEqDiff, Nat.reduceAdd, Nat.reduceSub, Nat.reduceLeDiff, Nat.reduceLT, Nat.reduceMul, Nat.reduceBEq, Int.reduceEq, Int.reduceLT, Int.reduceLE, Int.reduceNeg, Int.reduceToNat, reduceCtorEq, ho, Try.results103, h11, h10, hlt, hs1, hs0, h4, hb, Vl.enc, Vl.null, eq_true hz]); rfl))); (try simp only [go_sem, Nat.reduceEqDiff, Nat.reduceAdd, Nat.reduceSub, Nat.reduceLeDiff, Nat.reduceLT, Nat.reduceMul, Nat.reduceBEq, Int.reduceEq, Int.reduceLT, Int.reduceLE, Int.reduceNeg, Int.reduceToNat, reduceCtorEq, ho, Try.results103, h11, h10, hlt, hs1, hs0, h4, hb, Vl.enc, Vl.null, eq_true hz])) | (refine GCall.fr ?_ (null_fn) (.inl rfl) ?_; (focus (first | rfl | ((simp only [go_sem, Nat.reduceEqDiff, Nat.reduceAdd, Nat.reduceSub, Nat.reduceLeDiff, Nat.reduceLT, Nat.reduceMul, Nat.reduceBEq, Int.reduceEq, Int.reduceLT, Int.reduceLE, Int.reduceNeg, Int.reduceToNat, reduceCtorEq, ho, Try.results103, h11, h10, hlt, hs1, hs0, h4, hb, Vl.enc, Vl.null, eq_true hz]); done) | ((simp only [go_sem, Nat.reduceEqDiff, Nat.reduceAdd, Nat.reduceSub, Nat.reduceLeDiff, Nat.reduceLT, Nat.reduceMul, Nat.reduceBEq, Int.reduceEq, Int.reduceLT, Int.reduceLE, Int.reduceNeg, Int.reduceToNat, reduceCtorEq, ho, Try.results103, h11, h10, hlt, hs1, hs0, h4, hb, Vl.enc, Vl.null, eq_true hz]); rfl))); (try simp only [go_sem, Nat.reduceEqDiff, Nat.reduceAdd, Nat.reduceSub, Nat.reduceLeDiff, Nat.reduceLT, Nat.reduceMul, Nat.reduceBEq, Int.reduceEq, Int.reduceLT, Int.reduceLE, Int.reduceNeg, Int.reduceToNat, reduceCtorEq, ho, Try.results103, h11, h10, hlt, hs1, hs0, h4, hb, Vl.enc, Vl.null, eq_true hz])) | (refine QCall.fr ?_ (null_fn) (.inl rfl) ?_; (focus (first | rfl | ((simp only [go_sem, Nat.reduceEqDiff, Nat.reduceAdd, Nat.reduceSub, Nat.reduceLeDiff, Nat.reduceLT, Nat.reduceMul, Nat.reduceBEq, Int.reduceEq, Int.reduceLT, Int.reduceLE, Int.reduceNeg, Int.reduceToNat, reduceCtorEq, ho, Try.results103, h11, h10, hlt, hs1, hs0, h4, hb, Vl.enc, Vl.null, eq_true hz]); done) | ((simp only [go_sem, Nat.reduceEqDiff, Nat.reduceAdd, Nat.reduceSub, Nat.reduceLeDiff, Nat.reduceLT, Nat.reduceMul, Nat.reduceBEq, Int.reduceEq, Int.reduceLT, Int.reduceLE, Int.reduceNeg, Int.reduceToNat, reduceCtorEq, ho, Try.results103, h11, h10, hlt, hs1, hs0, h4, hb, Vl.enc, Vl.null, eq_true hz]); rfl))); (try simp only [go_sem, Nat.reduceEqDiff, Nat.reduceAdd, Nat.reduceSub, Nat.reduceLeDiff, Nat.reduceLT, Nat.reduceMul, Nat.reduceBEq, Int.reduceEq, Int.reduceLT, Int.reduceLE, Int.reduceNeg, Int.reduceToNat, reduceCtorEq, ho, Try.results103, h11, h10, hlt, hs1, hs0, h4, hb, Vl.enc, Vl.null, eq_true hz])) | (refine GCall.fr ?_ (num_fn (IntKind.i64.wrap ((nth l 0).int.tdiv (nth l (l.length - 1)).int))) (.inl rfl) ?_; (focus (first | rfl | ((simp only [go_sem, Nat.reduceEqDiff, Nat.reduceAdd, Nat.reduceSub, Nat.reduceLeDiff, Nat.reduceLT, Nat.reduceMul, Nat.reduceBEq, Int.reduceEq, Int.reduceLT, Int.reduceLE, Int.reduceNeg, Int.reduceToNat, reduceCtorEq, ho, Try.results103, h11, h10, hlt, hs1, hs0, h4, hb, Vl.enc, Vl.null, eq_true hz]); done) | ((simp only [go_sem, Nat.reduceEqDiff, Nat.reduceAdd, Nat.reduceSub, Nat.reduceLeDiff, Nat.reduceLT, Nat.reduceMul, Nat.reduceBEq, Int.reduceEq, Int.reduceLT, Int.reduceLE, Int.reduceNeg, Int.reduceToNat, reduceCtorEq, ho, Try.results103, h11, h10, hlt, hs1, hs0, h4, hb, Vl.enc, Vl.null, eq_true hz]); rfl))); (try simp only [go_sem, Nat.reduceEqDiff, Nat.reduceAdd, Nat.reduceSub, Nat.reduceLeDiff, Nat.reduceLT, Nat.reduceMul, Nat.reduceBEq, Int.reduceEq, Int.reduceLT, Int.reduceLE, Int.reduceNeg, Int.reduceToNat, reduceCtorEq, ho, Try.results103, h11, h10, hlt, hs1, hs0, h4, hb, Vl.enc, Vl.null, eq_true hz])) | (refine QCall.fr ?_ (num_fn (IntKind.i64.wrap ((nth l 0).int.tdiv (nth l (l.length - 1)).int))) (.inl rfl) ?_; (focus (first | rfl | ((simp only [go_sem, Nat.reduceEqDiff, Nat.reduceAdd, Nat.reduceSub, Nat.reduceLeDiff, Nat.reduceLT, Nat.reduceMul, Nat.reduceBEq, Int.reduceEq, Int.reduceLT, Int.reduceLE, Int.reduceNeg, Int.reduceToNat, reduceCtorEq, ho, Try.results103, h11, h10, hlt, hs1, hs0, h4, hb, Vl.enc, Vl.null, eq_true hz]); done) | ((simp only [go_sem, Nat.reduceEqDiff, Nat.reduceAdd, Nat.reduceSub, Nat.reduceLeDiff, Nat.reduceLT, Nat.reduceMul, Nat.reduceBEq, Int.reduceEq, Int.reduceLT, Int.reduceLE, Int.reduceNeg, Int.reduceToNat, reduceCtorEq, ho, Try.results103, h11, h10, hlt, hs1, hs0, h4, hb, Vl.enc, Vl.null, eq_true hz]); rfl))); (try simp only [go_sem, Nat.reduceEqDiff, Nat.reduceAdd, Nat.reduceSub, Nat.reduceLeDiff, Nat.reduceLT, Nat.reduceMul, Nat.reduceBEq, Int.reduceEq, Int.reduceLT, Int.reduceLE, Int.reduceNeg, Int.reduceToNat, reduceCtorEq, ho, Try.results103, h11, h10, hlt, hs1, hs0, h4, hb, Vl.enc, Vl.null, eq_true hz])) | (refine GCall.fr ?_ (num_fn ((nth l 0).int.tmod (nth l (l.length - 1)).int)) (.inl rfl) ?_; (focus (first | rfl | ((simp only [go_sem, Nat.reduceEqDiff, Nat.reduceAdd, Nat.reduceSub, Nat.reduceLeDiff, Nat.reduceLT, Nat.reduceMul, Nat.reduceBEq, Int.reduceEq, Int.reduceLT, Int.reduceLE, Int.reduceNeg, Int.reduceToNat, reduceCtorEq, ho, Try.results103, h11, h10, hlt, hs1, hs0, h4, hb, Vl.enc, Vl.null, eq_true hz]); done) | ((simp only [go_sem, Nat.reduceEqDiff, Nat.reduceAdd, Nat.reduceSub, Nat.reduceLeDiff, Nat.reduceLT, Nat.reduceMul, Nat.reduceBEq, Int.reduceEq, Int.reduceLT, Int.reduceLE, Int.reduceNeg, Int.reduceToNat, reduceCtorEq, ho, Try.results103, h11, h10, hlt, hs1, hs0, h4, hb, Vl.enc, Vl.null, eq_true hz]); rfl))); (try simp only [go_sem, Nat.reduceEqDiff, Nat.reduceAdd, Nat.reduceSub, Nat.reduceLeDiff, Nat.reduceLT, Nat.reduceMul, Nat.reduceBEq, Int.reduceEq, Int.reduceLT, Int.reduceLE, Int.reduceNeg, Int.reduceToNat, reduceCtorEq, ho, Try.results103, h11, h10, hlt, hs1, hs0, h4, hb, Vl.enc, Vl.null, eq_true hz])) | (refine QCall.fr ?_ (num_fn ((nth l 0).int.tmod (nth l (l.length - 1)).int)) (.inl rfl) ?_; (focus (first | rfl | ((simp only [go_sem, Nat.reduceEqDiff, Nat.reduceAdd, Nat.reduceSub, Nat.reduceLeDiff, Nat.reduceLT, Nat.reduceMul, Nat.reduceBEq, Int.reduceEq, Int.reduceLT, Int.reduceLE, Int.reduceNeg, Int.reduceToNat, reduceCtorEq, ho, Try.results103, h11, h10, hlt, hs1, hs0, h4, hb, Vl.enc, Vl.null, eq_true hz]); done) | ((simp only [go_sem, Nat.reduceEqDiff, Nat.reduceAdd, Nat.reduceSub, Nat.reduceLeDiff, Nat.reduceLT, Nat.reduceMul, Nat.reduceBEq, Int.reduceEq, Int.reduceLT, Int.reduceLE, Int.reduceNeg, Int.reduceToNat, reduceCtorEq, ho, Try.results103, h11, h10, hlt, hs1, hs0, h4, hb, Vl.enc, Vl.null, eq_true hz]); rfl))); (try simp only [go_sem, Nat.reduceEqDiff, Nat.reduceAdd, Nat.reduceSub, Nat.reduceLeDiff, Nat.reduceLT, Nat.reduceMul, Nat.reduceBEq, Int.reduceEq, Int.reduceLT, Int.reduceLE, Int.reduceNeg, Int.reduceToNat, reduceCtorEq, ho, Try.results103, h11, h10, hlt, hs1, hs0, h4, hb, Vl.enc, Vl.null, eq_true hz])))
      all_goals clear h11 h10 h9 hs1 hs0 h4 hb hw ha hlen2 hlt hall hg0 hg1 hw1 key hv hi
      all_goals (first | exact ⟨rfl, rfl, rfl⟩ | (simp_all [computed, Vl.null]; done))
    · repeat' (first | (refine AIf_cases (fun h => ?_) (fun h => ?_) <;> (try simp only [decide_eq_true_eq, decide_eq_false_iff_not, Bool.not_eq_true', Bool.not_eq_false', Bool.not_eq_true, Bool.not_eq_false] at h) <;> (try simp only [go_sem, Nat.reduceEqDiff, Nat.reduceAdd, Nat.reduceSub, Nat.reduceLeDiff, Nat.reduceLT, Nat.reduceMul, Nat.reduceBEq, Int.reduceEq, Int.reduceLT, Int.reduceLE, Int.reduceNeg, Int.reduceToNat, reduceCtorEq, ho, Try.results103, h, h11, h10, hlt, hs1, hs0, h4, hb, Vl.enc, Vl.null, hz])) | (refine GCall.fr ?_ (num_fn (IntKind.i64.wrap ((nth l 0).int + (nth l (l.length - 1)).int))) (.inl rfl) ?_; (focus (first | rfl | ((simp only [go_sem, Nat.reduceEqDiff, Nat.reduceAdd, Nat.reduceSub, Nat.reduceLeDiff, Nat.reduceLT, Nat.reduceMul, Nat.reduceBEq, Int.reduceEq, Int.reduceLT, Int.reduceLE, Int.reduceNeg, Int.reduceToNat, reduceCtorEq, ho, Try.results103, h11, h10, hlt, hs1, hs0, h4, hb, Vl.enc, Vl.null, hz]); done) | ((simp only [go_sem, Nat.reduceEqDiff, Nat.reduceAdd, Nat.reduceSub, Nat.reduceLeDiff, Nat.reduceLT, Nat.reduceMul, Nat.reduceBEq, Int.reduceEq, Int.reduceLT, Int.reduceLE, Int.reduceNeg, Int.reduceToNat, reduceCtorEq, ho, Try.results103, h11, h10, hlt, hs1, hs0, h4, hb, Vl.enc, Vl.null, hz]); rfl))); (try simp only [go_sem, Nat.reduceEqDiff, Nat.reduceAdd, Nat.reduceSub, Nat.reduceLeDiff, Nat.reduceLT, Nat.reduceMul, Nat.reduceBEq, Int.reduceEq, Int.reduceLT, Int.reduceLE, Int.reduceNeg, Int.reduceToNat, reduceCtorEq, ho, Try.results103, h11, h10, hlt, hs1, hs0, h4, hb, Vl.enc, Vl.null, hz])) | (refine QCall.fr ?_ (num_fn (IntKind.i64.wrap ((nth l 0).int + (nth l (l.length - 1)).int))) (.inl rfl) ?_; (focus (first | rfl | ((simp only [go_sem, Nat.reduceEqDiff, Nat.reduceAdd, Nat.reduceSub, Nat.reduceLeDiff, Nat.reduceLT, Nat.reduceMul, Nat.reduceBEq, Int.reduceEq, Int.reduceLT, Int.reduceLE, Int.reduceNeg, Int.reduceToNat, reduceCtorEq, ho, Try.results103, h11, h10, hlt, hs1, hs0, h4, hb, Vl.enc, Vl.null, hz]); done) | ((simp only [go_sem, Nat.reduceEqDiff, Nat.reduceAdd, Nat.reduceSub, Nat.reduceLeDiff, Nat.reduceLT, Nat.reduceMul, Nat.reduceBEq, Int.reduceEq, Int.reduceLT, Int.reduceLE, Int.reduceNeg, Int.reduceToNat, reduceCtorEq, ho, Try.results103, h11, h10, hlt, hs1, hs0, h4, hb, Vl.enc, Vl.null, hz]); rfl))); (try simp only [go_sem, Nat.reduceEqDiff, Nat.reduceAdd, Nat.reduceSub, Nat.reduceLeDiff, Nat.reduceLT, Nat.reduceMul, Nat.reduceBEq, Int.reduceEq, Int.reduceLT, Int.reduceLE, Int.reduceNeg, Int.reduceToNat, reduceCtorEq, ho, Try.results103, h11, h10, hlt, hs1, hs0, h4, hb, Vl.enc, Vl.null, hz])) | (refine GCall.fr ?_ (num_fn (IntKind.i64.wrap ((nth l 0).int - (nth l (l.length - 1)).int))) (.inl rfl) ?_; (focus (first | rfl | ((simp only [go_sem, Nat.reduceEqDiff, Nat.reduceAdd, Nat.reduceSub, Nat.reduceLeDiff, Nat.reduceLT, Nat.reduceMul, Nat.reduceBEq, Int.reduceEq, Int.reduceLT, Int.reduceLE, Int.reduceNeg, Int.reduceToNat, reduceCtorEq, ho, Try.results103, h11, h10, hlt, hs1, hs0, h4, hb, Vl.enc, Vl.null, hz]); done) | ((simp only [go_sem, Nat.reduceEqDiff, Nat.reduceAdd, Nat.reduceSub, Nat.reduceLeDiff, Nat.reduceLT, Nat.reduceMul, Nat.reduceBEq, Int.reduceEq, Int.reduceLT, Int.reduceLE, Int.reduceNeg, Int.reduceToNat, reduceCtorEq, ho, Try.results103, h11, h10, hlt, hs1, hs0, h4, hb, Vl.enc, Vl.null, hz]); rfl))); (try simp only [go_sem, Nat.reduceEqDiff, Nat.reduceAdd, Nat.reduceSub, Nat.reduceLeDiff, Nat.reduceLT, Nat.reduceMul, Nat.reduceBEq, Int.reduceEq, Int.reduceLT, Int.reduceLE, Int.reduceNeg, Int.reduceToNat, reduceCtorEq, ho, Try.results103, h11, h10, hlt, hs1, hs0, h4, hb, Vl.enc, Vl.null, hz])) | (refine QCall.fr ?_ (num_fn (IntKind.i64.wrap ((nth l 0).int - (nth l (l.length - 1)).int))) (.inl rfl) ?_; (focus (first | rfl | ((simp only [go_sem, Nat.reduceEqDiff, Nat.reduceAdd, Nat.reduceSub, Nat.reduceLeDiff, Nat.reduceLT, Nat.reduceMul, Nat.reduceBEq, Int.reduceEq, Int.reduceLT, Int.reduceLE, Int.reduceNeg, Int.reduceToNat, reduceCtorEq, ho, Try.results103, h11, h10, hlt, hs1, hs0, h4, hb, Vl.enc, Vl.null, hz]); done) | ((simp only [go_sem, Nat.reduceEqDiff, Nat.reduceAdd, Nat.reduceSub, Nat.reduceLeDiff, Nat.reduceLT, Nat.reduceMul, Nat.reduceBEq, Int.reduceEq, Int.reduceLT, Int.reduceLE, Int.reduceNeg, Int.reduceToNat, reduceCtorEq, ho, Try.results103, h11, h10, hlt, hs1, hs0, h4, hb, Vl.enc, Vl.null, hz]); rfl))); (try simp only [go_sem, Nat.reduceEqDiff, Nat.reduceAdd, Nat.reduceSub, Nat.reduceLeDiff, Nat.reduceLT, Nat.reduceMul, Nat.reduceBEq, Int.reduceEq, Int.reduceLT, Int.reduceLE, Int.reduceNeg, Int.reduceToNat, reduceCtorEq, ho, Try.results103, h11, h10, hlt, hs1, hs0, h4, hb, Vl.enc, Vl.null, hz])) | (refine GCall.fr ?_ (num_fn (IntKind.i64.wrap (0 - (nth l 0).int))) (.inl rfl) ?_; (focus (first | rfl | ((simp only [go_sem, Nat.reduceEqDiff, Nat.reduceAdd, Nat.reduceSub, Nat.reduceLeDiff, Nat.reduceLT, Nat.reduceMul, Nat.reduceBEq, Int.reduceEq, Int.reduceLT, Int.reduceLE, Int.reduceNeg, Int.reduceToNat, reduceCtorEq, ho, Try.results103, h11, h10, hlt, hs1, hs0, h4, hb, Vl.enc, Vl.null, hz]); done) | ((simp only [go_sem, Nat.reduceEqDiff, Nat.reduceAdd, Nat.reduceSub, Nat.reduceLeDiff, Nat.reduceLT, Nat.reduceMul, Nat.reduceBEq, Int.reduceEq, Int.reduceLT, Int.reduceLE, Int.reduceNeg, Int.reduceToNat, reduceCtorEq, ho, Try.results103, h11, h10, hlt, hs1, hs0, h4, hb, Vl.enc, Vl.null, hz]); rfl))); (try simp only [go_sem, Nat.reduceEqDiff, Nat.reduceAdd, Nat.reduceSub, Nat.reduceLeDiff, Nat.reduceLT, Nat.reduceMul, Nat.reduceBEq, Int.reduceEq, Int.reduceLT, Int.reduceLE, Int.reduceNeg, Int.reduceToNat, reduceCtorEq, ho, Try.results103, h11, h10, hlt, hs1, hs0, h4, hb, Vl.enc, Vl.null, hz])) | (refine QCall.fr ?_ (num_fn (IntKind.i64.wrap (0 - (nth l 0).int))) (.inl rfl) ?_; (focus (first | rfl | ((simp only [go_sem, Nat.reduceEqDiff, Nat.reduceAdd, Nat.reduceSub, Nat.reduceLeDiff, Nat.reduceLT, Nat.reduceMul, Nat.reduceBEq, Int.reduceEq, Int.reduceLT, Int.reduceLE, Int.reduceNeg, Int.reduceToNat, reduceCtorEq, ho, Try.results103, h11, h10, hlt, hs1, hs0, h4, hb, Vl.enc, Vl.null, hz]); done) | ((simp only [go_sem, Nat.reduceEqDiff, Nat.reduceAdd, Nat.reduceSub, Nat.reduceLeDiff, Nat.reduceLT, Nat.reduceMul, Nat.reduceBEq, Int.reduceEq, Int.reduceLT, Int.reduceLE, Int.reduceNeg, Int.reduceToNat, reduceCtorEq, ho, Try.results103, h11, h10, hlt, hs1, hs0, h4, hb, Vl.enc, Vl.null, hz]); rfl))); (try simp only [go_sem, Nat.reduceEqDiff, Nat.reduceAdd, Nat.reduceSub, Nat.reduceLeDiff, Nat.reduceLT, Nat.reduceMul, Nat.reduceBEq, Int.reduceEq, Int.reduceLT, Int.reduceLE, Int.reduceNeg, Int.reduceToNat, reduceCtorEq, ho, Try.results103, h11, h10, hlt, hs1, hs0, h4, hb, Vl.enc, Vl.null, hz])) | (refine GCall.fr ?_ (product_fn (nth l 0).int (nth l (l.length - 1)).int hi) (.inl rfl) ?_; (focus (first | rfl | ((simp only [go_sem, Nat.reduceEqDiff, Nat.reduceAdd, Nat.reduceSub, Nat.reduceLeDiff, Nat.reduceLT, Nat.reduceMul, Nat.reduceBEq, Int.reduceEq, Int.reduceLT, Int.reduceLE, Int.reduceNeg, Int.reduceToNat, reduceCtorEq, ho, Try.results103, h11, h10, hlt, hs1, hs0, h4, hb, Vl.enc, Vl.null, hz]); done) | ((simp only [go_sem, Nat.reduceEqDiff, Nat.reduceAdd, Nat.reduceSub, Nat.reduceLeDiff, Nat.reduceLT, Nat.reduceMul, Nat.reduceBEq, Int.reduceEq, Int.reduceLT, Int.reduceLE, Int.reduceNeg, Int.reduceToNat, reduceCtorEq, ho, Try.results103, h11, h10, hlt, hs1, hs0, h4, hb, Vl.enc, Vl.null, hz]); rfl))); (try simp only [go_sem, Nat.reduceEqDiff, Nat.reduceAdd, Nat.reduceSub, Nat.reduceLeDiff, Nat.reduceLT, Nat.reduceMul, Nat.reduceBEq, Int.reduceEq, Int.reduceLT, Int.reduceLE, Int.reduceNeg, Int.reduceToNat, reduceCtorEq, ho, Try.results103, h11, h10, hlt, hs1, hs0, h4, hb, Vl.enc, Vl.null, hz])) | (refine QCall.fr ?_ (product_fn (nth l 0).int (nth l (l.length - 1)).int hi) (.inl rfl) ?_; (focus (first | rfl | ((simp only [go_sem, Nat.reduceEqDiff, Nat.reduceAdd, Nat.reduceSub, Nat.reduceLeDiff, Nat.reduceLT, Nat.reduceMul, Nat.reduceBEq, Int.reduceEq, Int.reduceLT, Int.reduceLE, Int.reduceNeg, Int.reduceToNat, reduceCtorEq, ho, Try.results103, h11, h10, hlt, hs1, hs0, h4, hb, Vl.enc, Vl.null, hz]); done) | ((simp only [go_sem, Nat.reduceEqDiff, Nat.reduceAdd, Nat.reduceSub, Nat.reduceLeDiff, Nat.reduceLT, Nat.reduceMul, Nat.reduceBEq, Int.reduceEq, Int.reduceLT, Int.reduceLE, Int.reduceNeg, Int.reduceToNat, reduceCtorEq, ho, Try.results103, h11, h10, hlt, hs1, hs0, h4, hb, Vl.enc, Vl.null, hz]); rfl))); (try simp only [go_sem, Nat.reduceEqDiff, Nat.reduceAdd, Nat.reduceSub, Nat.reduceLeDiff, Nat.reduceLT, Nat.reduceMul, Nat.reduceBEq, Int.reduceEq, Int.reduceLT, Int.reduceLE, Int.reduceNeg, Int.reduceToNat, reduceCtorEq, ho, Try.results103, h11, h10, hlt, hs1, hs0, h4, hb, Vl.enc, Vl.null, hz])) | (refine GCall.fr ?_ (null_fn) (.inl rfl) ?_; (focus (first | rfl | ((simp only [go_sem, Nat.reduceEqDiff, Nat.reduceAdd, Nat.reduceSub, Nat.reduceLeDiff, Nat.reduceLT, Nat.reduceMul, Nat.reduceBEq, Int.reduceEq, Int.reduceLT, Int.reduceLE, Int.reduceNeg, Int.reduceToNat, reduceCtorEq, ho, Try.results103, h11, h10, hlt, hs1, hs0, h4, hb, Vl.enc, Vl.null, hz]); done) | ((simp only [go_sem, Nat.reduceEqDiff, Nat.reduceAdd, Nat.reduceSub, Nat.reduceLeDiff, Nat.reduceLT, Nat.reduceMul, Nat.reduceBEq, Int.reduceEq, Int.reduceLT, Int.reduceLE, Int.reduceNeg, Int.reduceToNat, reduceCtorEq, ho, Try.results103, h11, h10, hlt, hs1, hs0, h4, hb, Vl.enc, Vl.null, hz]); rfl))); (try simp only [go_sem, Nat.reduceEqDiff, Nat.reduceAdd, Nat.reduceSub, Nat.reduceLeDiff, Nat.reduceLT, Nat.reduceMul, Nat.reduceBEq, Int.reduceEq, Int.reduceLT, Int.reduceLE, Int.reduceNeg, Int.reduceToNat, reduceCtorEq, ho, Try.results103, h11, h10, hlt, hs1, hs0, h4, hb, Vl.enc, Vl.null, hz])) | (refine QCall.fr ?_ (null_fn) (.inl rfl) ?_; (focus (first | rfl | ((simp only [go_sem, Nat.reduceEqDiff, Nat.reduceAdd, Nat.reduceSub, Nat.reduceLeDiff, Nat.reduceLT, Nat.reduceMul, Nat.reduceBEq, Int.reduceEq, Int.reduceLT, Int.reduceLE, Int.reduceNeg, Int.reduceToNat, reduceCtorEq, ho, Try.results103, h11, h10, hlt, hs1, hs0, h4, hb, Vl.enc, Vl.null, hz]); done) | ((simp only [go_sem, Nat.reduceEqDiff, Nat.reduceAdd, Nat.reduceSub, Nat.reduceLeDiff, Nat.reduceLT, Nat.reduceMul, Nat.reduceBEq, Int.reduceEq, Int.reduceLT, Int.reduceLE, Int.reduceNeg, Int.reduceToNat, reduceCtorEq, ho, Try.results103, h11, h10, hlt, hs1, hs0, h4, hb, Vl.enc, Vl.null, hz]); rfl))); (try simp only [go_sem, Nat.reduceEqDiff, Nat.reduceAdd, Nat.reduceSub, Nat.reduceLeDiff, Nat.reduceLT, Nat.reduceMul, Nat.reduceBEq, Int.reduceEq, Int.reduceLT, Int.reduceLE, Int.reduceNeg, Int.reduceToNat, reduceCtorEq, ho, Try.results103, h11, h10, hlt, hs1, hs0, h4, hb, Vl.enc, Vl.null, hz])) | (refine GCall.fr ?_ (num_fn (IntKind.i64.wrap ((nth l 0).int.tdiv (nth l (l.length - 1)).int))) (.inl rfl) ?_; (focus (first | rfl | ((simp only [go_sem, Nat.reduceEqDiff, Nat.reduceAdd, Nat.reduceSub, Nat.reduceLeDiff, Nat.reduceLT, Nat.reduceMul, Nat.reduceBEq, Int.reduceEq, Int.reduceLT, Int.reduceLE, Int.reduceNeg, Int.reduceToNat, reduceCtorEq, ho, Try.results103, h11, h10, hlt, hs1, hs0, h4, hb, Vl.enc, Vl.null, hz]); done) | ((simp only [go_sem, Nat.reduceEqDiff, Nat.reduceAdd, Nat.reduceSub, Nat.reduceLeDiff, Nat.reduceLT, Nat.reduceMul, Nat.reduceBEq, Int.reduceEq, Int.reduceLT, Int.reduceLE, Int.reduceNeg, Int.reduceToNat, reduceCtorEq, ho, Try.results103, h11, h10, hlt, hs1, hs0, h4, hb, Vl.enc, Vl.null, hz]); rfl))); (try simp only [go_sem, Nat.reduceEqDiff, Nat.reduceAdd, Nat.reduceSub, Nat.reduceLeDiff, Nat.reduceLT, Nat.reduceMul, Nat.reduceBEq, Int.reduceEq, Int.reduceLT, Int.reduceLE, Int.reduceNeg, Int.reduceToNat, reduceCtorEq, ho, Try.results103, h11, h10, hlt, hs1, hs0, h4, hb, Vl.enc, Vl.null, hz])) | (refine QCall.fr ?_ (num_fn (IntKind.i64.wrap ((nth l 0).int.tdiv (nth l (l.length - 1)).int))) (.inl rfl) ?_; (focus (first | rfl | ((simp only [go_sem, Nat.reduceEqDiff, Nat.reduceAdd, Nat.reduceSub, Nat.reduceLeDiff, Nat.reduceLT, Nat.reduceMul, Nat.reduceBEq, Int.reduceEq, Int.reduceLT, Int.reduceLE, Int.reduceNeg, Int.reduceToNat, reduceCtorEq, ho, Try.results103, h11, h10, hlt, hs1, hs0, h4, hb, Vl.enc, Vl.null, hz]); done) | ((simp only [go_sem, Nat.reduceEqDiff, Nat.reduceAdd, Nat.reduceSub, Nat.reduceLeDiff, Nat.reduceLT, Nat.reduceMul, Nat.reduceBEq, Int.reduceEq, Int.reduceLT, Int.reduceLE, Int.reduceNeg, Int.reduceToNat, reduceCtorEq, ho, Try.results103, h11, h10, hlt, hs1, hs0, h4, hb, Vl.enc, Vl.null, hz]); rfl))); (try simp only [go_sem, Nat.reduceEqDiff, Nat.reduceAdd, Nat.reduceSub, Nat.reduceLeDiff, Nat.reduceLT, Nat.reduceMul, Nat.reduceBEq, Int.reduceEq, Int.reduceLT, Int.reduceLE, Int.reduceNeg, Int.reduceToNat, reduceCtorEq, ho, Try.results103, h11, h10, hlt, hs1, hs0, h4, hb, Vl.enc, Vl.null, hz])) | (refine GCall.fr ?_ (num_fn ((nth l 0).int.tmod (nth l (l.length - 1)).int)) (.inl rfl) ?_; (focus (first | rfl | ((simp only [go_sem, Nat.reduceEqDiff, Nat.reduceAdd, Nat.reduceSub, Nat.reduceLeDiff, Nat.reduceLT, Nat.reduceMul, Nat.reduceBEq, Int.reduceEq, Int.reduceLT, Int.reduceLE, Int.reduceNeg, Int.reduceToNat, reduceCtorEq, ho, Try.results103, h11, h10, hlt, hs1, hs0, h4, hb, Vl.enc, Vl.null, hz]); done) | ((simp only [go_sem, Nat.reduceEqDiff, Nat.reduceAdd, Nat.reduceSub, Nat.reduceLeDiff, Nat.reduceLT, Nat.reduceMul, Nat.reduceBEq, Int.reduceEq, Int.reduceLT, Int.reduceLE, Int.reduceNeg, Int.reduceToNat, reduceCtorEq, ho, Try.results103, h11, h10, hlt, hs1, hs0, h4, hb, Vl.enc, Vl.null, hz]); rfl))); (try simp only [go_sem, Nat.reduceEqDiff, Nat.reduceAdd, Nat.reduceSub, Nat.reduceLeDiff, Nat.reduceLT, Nat.reduceMul, Nat.reduceBEq, Int.reduceEq, Int.reduceLT, Int.reduceLE, Int.reduceNeg, Int.reduceToNat, reduceCtorEq, ho, Try.results103, h11, h10, hlt, hs1, hs0, h4, hb, Vl.enc, Vl.null, hz])) | (refine QCall.fr ?_ (num_fn ((nth l 0).int.tmod (nth l (l.length - 1)).int)) (.inl rfl) ?_; (focus (first | rfl | ((simp only [go_sem, Nat.reduceEqDiff, Nat.reduceAdd, Nat.reduceSub, Nat.reduceLeDiff, Nat.reduceLT, Nat.reduceMul, Nat.reduceBEq, Int.reduceEq, Int.reduceLT, Int.reduceLE, Int.reduceNeg, Int.reduceToNat, reduceCtorEq, ho, Try.results103, h11, h10, hlt, hs1, hs0, h4, hb, Vl.enc, Vl.null, hz]); done) | ((simp only [go_sem, Nat.reduceEqDiff, Nat.reduceAdd, Nat.reduceSub, Nat.reduceLeDiff, Nat.reduceLT, Nat.reduceMul, Nat.reduceBEq, Int.reduceEq, Int.reduceLT, Int.reduceLE, Int.reduceNeg, Int.reduceToNat, reduceCtorEq, ho, Try.results103, h11, h10, hlt, hs1, hs0, h4, hb, Vl.enc, Vl.null, hz]); rfl))); (try simp only [go_sem, Nat.reduceEqDiff, Nat.reduceAdd, Nat.reduceSub, Nat.reduceLeDiff, Nat.reduceLT, Nat.reduceMul, Nat.reduceBEq, Int.reduceEq, Int.reduceLT, Int.reduceLE, Int.reduceNeg, Int.reduceToNat, reduceCtorEq, ho, Try.results103, h11, h10, hlt, hs1, hs0, h4, hb, Vl.enc, Vl.null, hz])))
      all_goals clear h11 h10 h9 hs1 hs0 h4 hb hw ha hlen2 hlt hall hg0 hg1 hw1 key hv hi
      all_goals (first | exact ⟨rfl, rfl, rfl⟩ | (simp_all [computed, Vl.null]; done))
  | cons v rest =>
    have hlt : (done.length : Int) < (l.length : Int) := by simp at hlen2; omega
    have hget := vals_get hl'
    simp only [go_sem, Nat.reduceEqDiff, Nat.reduceAdd, Nat.reduceSub, Nat.reduceLeDiff, Nat.reduceLT, Nat.reduceMul, Nat.reduceBEq, Int.reduceEq, Int.reduceLT, Int.reduceLE, Int.reduceNeg, Int.reduceToNat, reduceCtorEq, ho, Try.results103, h11, h10, h9, hlt, hget, Int.natCast_nonneg, Int.toNat_natCast, hs1, hs0, h4, hb, Vl.enc]
    by_cases hkind : v.kind = 1
    · simp only [go_sem, Nat.reduceEqDiff, Nat.reduceAdd, Nat.reduceSub, Nat.reduceLeDiff, Nat.reduceLT, Nat.reduceMul, Nat.reduceBEq, Int.reduceEq, Int.reduceLT, Int.reduceLE, Int.reduceNeg, Int.reduceToNat, reduceCtorEq, ho, Try.results103, hkind, h11, h10, h9, hs1, hs0, h4, hb, hw]
      exact ⟨rest.length, by simp at hn; omega, done ++ [v], rest, by simp [hl'], rfl, by rw [← ha]; simp [allK, hkind], by simp⟩
    · simp only [go_sem, Nat.reduceEqDiff, Nat.reduceAdd, Nat.reduceSub, Nat.reduceLeDiff, Nat.reduceLT, Nat.reduceMul, Nat.reduceBEq, Int.reduceEq, Int.reduceLT, Int.reduceLE, Int.reduceNeg, Int.reduceToNat, reduceCtorEq, ho, Try.results103, hkind, h11, h10, h9, hs1, hs0, h4, hb]
      refine GCall.fr ?_ (null_fn) (.inl rfl) ?_; (focus (first | rfl | ((simp only [go_sem, Nat.reduceEqDiff, Nat.reduceAdd, Nat.reduceSub, Nat.reduceLeDiff, Nat.reduceLT, Nat.reduceMul, Nat.reduceBEq, Int.reduceEq, Int.reduceLT, Int.reduceLE, Int.reduceNeg, Int.reduceToNat, reduceCtorEq, ho, Try.results103]); done) | ((simp only [go_sem, Nat.reduceEqDiff, Nat.reduceAdd, Nat.reduceSub, Nat.reduceLeDiff, Nat.reduceLT, Nat.reduceMul, Nat.reduceBEq, Int.reduceEq, Int.reduceLT, Int.reduceLE, Int.reduceNeg, Int.reduceToNat, reduceCtorEq, ho, Try.results103]); rfl)))
      simp only [go_sem, Nat.reduceEqDiff, Nat.reduceAdd, Nat.reduceSub, Nat.reduceLeDiff, Nat.reduceLT, Nat.reduceMul, Nat.reduceBEq, Int.reduceEq, Int.reduceLT, Int.reduceLE, Int.reduceNeg, Int.reduceToNat, reduceCtorEq, ho, Try.results103, Vl.enc, Vl.null, h11, h10, hlt, hs1, hs0, h4, hb]
      have : allK 1 l = false := by rw [← ha]; simp [allK, hkind]
      simp [arith, this, Vl.null]
end Go.Proofs.Ytiefnninebilbaa
/- What the reference's functions over values and its check return; no condition. -/
set_option maxRecDepth 100000
set_option linter.unusedVariables false
set_option linter.unusedSimpArgs false
namespace Go.Proofs.Ytiefnninebilbaa
open Go Go.Sx

theorem ok63 : okCode M0 Try.f63.ntmps (Try.f63.body.getD .skip) = true := by decide +kernel
theorem rnull_fn : Fc 63 [] (Vl.enc Vl.null) := by
  refine fn_of_awp (E := E0) (M := M0) follows Try.func63 rfl (by decide) ok63 (by decide) (by simp) fun o ho => ?_
  simp only [go_sem, Nat.reduceEqDiff, Nat.reduceAdd, Nat.reduceSub, Nat.reduceLeDiff, Nat.reduceLT, Nat.reduceMul, Nat.reduceBEq, Int.reduceEq, Int.reduceLT, Int.reduceLE, Int.reduceNeg, Int.reduceToNat, reduceCtorEq, ho, Try.results63, Vl.enc, Vl.null]
theorem ok120 : okCode M0 Try.f120.ntmps (Try.f120.body.getD .skip) = true := by decide +kernel
theorem rprintable_fn (s : ByteArray) (hs : s.size ≤ 9223372036854775806) : Fc 120 [.str s] (.bool (printable s)) := by
  refine fn_of_awp (E := E0) (M := M0) follows Try.func120 rfl (by decide) ok120 (by decide) (by simp) fun o ho => ?_
  simp only [go_sem, Nat.reduceEqDiff, Nat.reduceAdd, Nat.reduceSub, Nat.reduceLeDiff, Nat.reduceLT, Nat.reduceMul, Nat.reduceBEq, Int.reduceEq, Int.reduceLT, Int.reduceLE, Int.reduceNeg, Int.reduceToNat, reduceCtorEq, ho, Try.results120]
  refine ⟨fun n st => ∃ i : Nat, i + n = s.size ∧ st.s 3 = .int .i64 i ∧ st.s 0 = .str s ∧ ∀ j (hj : j < s.size), j < i → okByte s[j] = true, s.size, ⟨0, by omega, by simp only [go_sem, Nat.reduceEqDiff, Nat.reduceAdd, Nat.reduceSub, Nat.reduceLeDiff, Nat.reduceLT, Nat.reduceMul, Nat.reduceBEq, Int.reduceEq, Int.reduceLT, Int.reduceLE, Int.reduceNeg, Int.reduceToNat, reduceCtorEq, ho, Try.results120]; rfl, by simp only [go_sem, Nat.reduceEqDiff, Nat.reduceAdd, Nat.reduceSub, Nat.reduceLeDiff, Nat.reduceLT, Nat.reduceMul, Nat.reduceBEq, Int.reduceEq, Int.reduceLT, Int.reduceLE, Int.reduceNeg, Int.reduceToNat, reduceCtorEq, ho, Try.results120], fun j _ h => absurd h (Nat.not_lt_zero j)⟩, ?_⟩
  rintro n st ⟨i, hi, h3, h0, hall⟩
  have hw : IntKind.i64.wrap ((i : Int) + 1) = (i : Int) + 1 := wrap_fits (by omega) (by omega)
  by_cases hlt : i < s.size
  · have hlt' : (i : Int) < (s.size : Int) := by omega
    have hget := ba_get hlt
    have next : okByte s[i] = true → ∃ m, m < n ∧ ∃ k : Nat, k + m = s.size ∧ ((i : Int) + 1 = (k : Int)) ∧ ∀ j (hj : j < s.size), j < k → okByte s[j] = true := fun hok => ⟨n - 1, by omega, i + 1, by omega, by omega, fun j hj hji => by
      rcases Nat.lt_succ_iff_lt_or_eq.1 hji with h | rfl
      · exact hall j hj h
      · exact hok⟩
    simp only [go_sem, Nat.reduceEqDiff, Nat.reduceAdd, Nat.reduceSub, Nat.reduceLeDiff, Nat.reduceLT, Nat.reduceMul, Nat.reduceBEq, Int.reduceEq, Int.reduceLT, Int.reduceLE, Int.reduceNeg, Int.reduceToNat, reduceCtorEq, ho, Try.results120, h3, h0, hlt', Int.natCast_nonneg, Int.toNat_natCast, hget]
    repeat' (first | (refine AIf_cases (fun h => ?_) (fun h => ?_) <;> (try simp only [decide_eq_true_eq, decide_eq_false_iff_not, Bool.not_eq_true', Bool.not_eq_false', Bool.not_eq_true, Bool.not_eq_false] at h) <;> (try simp only [go_sem, Nat.reduceEqDiff, Nat.reduceAdd, Nat.reduceSub, Nat.reduceLeDiff, Nat.reduceLT, Nat.reduceMul, Nat.reduceBEq, Int.reduceEq, Int.reduceLT, Int.reduceLE, Int.reduceNeg, Int.reduceToNat, reduceCtorEq, ho, Try.results120, h, h3, h0, hlt', Int.natCast_nonneg, Int.toNat_natCast, hget, hw])))
    · exact (printable_at hlt (by simp [okByte]; omega)).symm
    · exact next (by simp [okByte]; omega)
    · exact (printable_at hlt (by simp [okByte]; omega)).symm
  · have hlt' : ¬ (i : Int) < (s.size : Int) := by omega
    simp only [go_sem, Nat.reduceEqDiff, Nat.reduceAdd, Nat.reduceSub, Nat.reduceLeDiff, Nat.reduceLT, Nat.reduceMul, Nat.reduceBEq, Int.reduceEq, Int.reduceLT, Int.reduceLE, Int.reduceNeg, Int.reduceToNat, reduceCtorEq, ho, Try.results120, h3, h0, hlt']
    have : printable s = true := by
      rw [printable, List.all_eq_true]
      intro b hb
      obtain ⟨j, hj, rfl⟩ := List.getElem_of_mem hb
      exact hall j (by simpa using hj) (by simp at hj; have : s.size = s.data.size := rfl; omega)
    rw [this]
theorem ok42 : okCode M0 Try.f42.ntmps (Try.f42.body.getD .skip) = true := by decide +kernel
theorem rvalid_fn (v : Vl) : Fc 42 [v.enc] (.bool v.valid) := by
  refine fn_of_awp (E := E0) (M := M0) follows Try.func42 rfl (by decide) ok42 (by decide) (by simp) fun o ho => ?_
  simp only [go_sem, Nat.reduceEqDiff, Nat.reduceAdd, Nat.reduceSub, Nat.reduceLeDiff, Nat.reduceLT, Nat.reduceMul, Nat.reduceBEq, Int.reduceEq, Int.reduceLT, Int.reduceLE, Int.reduceNeg, Int.reduceToNat, reduceCtorEq, ho, Try.results42, Vl.enc]
  repeat' (first | (refine AIf_cases (fun h => ?_) (fun h => ?_) <;> (try simp only [decide_eq_true_eq, decide_eq_false_iff_not, Bool.not_eq_true', Bool.not_eq_false', Bool.not_eq_true, Bool.not_eq_false] at h) <;> (try simp only [go_sem, Nat.reduceEqDiff, Nat.reduceAdd, Nat.reduceSub, Nat.reduceLeDiff, Nat.reduceLT, Nat.reduceMul, Nat.reduceBEq, Int.reduceEq, Int.reduceLT, Int.reduceLE, Int.reduceNeg, Int.reduceToNat, reduceCtorEq, ho, Try.results42, h])) | (refine GCall.fr ?_ (rprintable_fn v.text (by omega)) (.inl rfl) ?_; (focus (first | rfl | ((simp only [go_sem, Nat.reduceEqDiff, Nat.reduceAdd, Nat.reduceSub, Nat.reduceLeDiff, Nat.reduceLT, Nat.reduceMul, Nat.reduceBEq, Int.reduceEq, Int.reduceLT, Int.reduceLE, Int.reduceNeg, Int.reduceToNat, reduceCtorEq, ho, Try.results42]); done) | ((simp only [go_sem, Nat.reduceEqDiff, Nat.reduceAdd, Nat.reduceSub, Nat.reduceLeDiff, Nat.reduceLT, Nat.reduceMul, Nat.reduceBEq, Int.reduceEq, Int.reduceLT, Int.reduceLE, Int.reduceNeg, Int.reduceToNat, reduceCtorEq, ho, Try.results42]); rfl))); (try simp only [go_sem, Nat.reduceEqDiff, Nat.reduceAdd, Nat.reduceSub, Nat.reduceLeDiff, Nat.reduceLT, Nat.reduceMul, Nat.reduceBEq, Int.reduceEq, Int.reduceLT, Int.reduceLE, Int.reduceNeg, Int.reduceToNat, reduceCtorEq, ho, Try.results42])) | (refine QCall.fr ?_ (rprintable_fn v.text (by omega)) (.inl rfl) ?_; (focus (first | rfl | ((simp only [go_sem, Nat.reduceEqDiff, Nat.reduceAdd, Nat.reduceSub, Nat.reduceLeDiff, Nat.reduceLT, Nat.reduceMul, Nat.reduceBEq, Int.reduceEq, Int.reduceLT, Int.reduceLE, Int.reduceNeg, Int.reduceToNat, reduceCtorEq, ho, Try.results42]); done) | ((simp only [go_sem, Nat.reduceEqDiff, Nat.reduceAdd, Nat.reduceSub, Nat.reduceLeDiff, Nat.reduceLT, Nat.reduceMul, Nat.reduceBEq, Int.reduceEq, Int.reduceLT, Int.reduceLE, Int.reduceNeg, Int.reduceToNat, reduceCtorEq, ho, Try.results42]); rfl))); (try simp only [go_sem, Nat.reduceEqDiff, Nat.reduceAdd, Nat.reduceSub, Nat.reduceLeDiff, Nat.reduceLT, Nat.reduceMul, Nat.reduceBEq, Int.reduceEq, Int.reduceLT, Int.reduceLE, Int.reduceNeg, Int.reduceToNat, reduceCtorEq, ho, Try.results42])))
  all_goals (first | (simp_all [Vl.valid]; done) | (simp_all [Vl.valid]; omega) | (simp_all [Vl.valid]; intros; omega) | (simp_all [Vl.valid]; (repeat' split) <;> (first | (simp_all; done) | (simp_all; omega) | omega)))
def arity (op : Int) : Int × Int :=
  if op = 1 ∨ op = 2 then (0, 0)
  else if op = 4 ∨ op = 18 ∨ op = 20 ∨ op = 21 then (1, 1)
  else if op = 5 ∨ op = 6 then (2, 1099511627776)
  else if op = 7 ∨ op = 8 ∨ op = 9 ∨ op = 10 ∨ op = 11 ∨ op = 12 ∨ op = 13 ∨ op = 14 ∨ op = 15 ∨ op = 16 ∨ op = 17 ∨ op = 19 then (2, 2)
  else if op = 22 then (3, 3)
  else if op = 23 then (1, 1099511627776)
  else if op = 24 then (4, 4)
  else (-1, 0)
theorem ok155 : okCode M0 Try.f155.ntmps (Try.f155.body.getD .skip) = true := by decide +kernel
theorem arity_fn (op : Int) : Fc 155 [.int .i64 op] (.tup [.int .i64 (arity op).1, .int .i64 (arity op).2]) := by
  refine fn_of_awp (E := E0) (M := M0) follows Try.func155 rfl (by decide) ok155 (by decide) (by simp) fun o ho => ?_
  simp only [go_sem, Nat.reduceEqDiff, Nat.reduceAdd, Nat.reduceSub, Nat.reduceLeDiff, Nat.reduceLT, Nat.reduceMul, Nat.reduceBEq, Int.reduceEq, Int.reduceLT, Int.reduceLE, Int.reduceNeg, Int.reduceToNat, reduceCtorEq, ho, Try.results155]
  repeat' (first | (refine AIf_cases (fun h => ?_) (fun h => ?_) <;> (try simp only [decide_eq_true_eq, decide_eq_false_iff_not, Bool.not_eq_true', Bool.not_eq_false', Bool.not_eq_true, Bool.not_eq_false] at h) <;> (try simp only [go_sem, Nat.reduceEqDiff, Nat.reduceAdd, Nat.reduceSub, Nat.reduceLeDiff, Nat.reduceLT, Nat.reduceMul, Nat.reduceBEq, Int.reduceEq, Int.reduceLT, Int.reduceLE, Int.reduceNeg, Int.reduceToNat, reduceCtorEq, ho, Try.results155, h])))
  all_goals (first | (subst_vars; exact ⟨rfl, rfl⟩) | skip)
  exact ⟨by simp [arity, *], by simp [arity, *]⟩
end Go.Proofs.Ytiefnninebilbaa
