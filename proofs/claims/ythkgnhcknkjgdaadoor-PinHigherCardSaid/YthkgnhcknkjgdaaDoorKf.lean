/-
  Closed facts on the loaded program's types and functions, by program.
  No conditions.
-/
import Derived.Test.YthkgnhcknkjgdaaDoorProg
import Derived.Test.YthkgnhcknkjgdaaDoorK2
namespace Go.Proofs.YthkgnhcknkjgdaaDoor
open Go
theorem Tryd_mixed : Tryd.prog.follows .mixedOrders = true := by kernel_rfl
theorem ag_26 : K.ag Tryd.prog 26 = some 5 := by kernel_rfl
theorem ag_54 : K.ag Tryd.prog 54 = some 5 := by kernel_rfl
theorem ag_61 : K.ag Tryd.prog 61 = some 2 := by kernel_rfl
theorem ag_63 : K.ag Tryd.prog 63 = some 4 := by kernel_rfl
theorem ag_80 : K.ag Tryd.prog 80 = some 2 := by kernel_rfl
theorem ag_98 : K.ag Tryd.prog 98 = some 6 := by kernel_rfl
theorem ar_149 : K.ar Tryd.prog 149 = some (32, 5, 1) := by kernel_rfl
theorem ar_150 : K.ar Tryd.prog 150 = some (64, 5, 1) := by kernel_rfl
theorem ar_56 : K.ar Tryd.prog 56 = some (2, 5, 1) := by kernel_rfl
theorem ar_58 : K.ar Tryd.prog 58 = some (2, 57, 1) := by kernel_rfl
theorem ar_67 : K.ar Tryd.prog 67 = some (3, 5, 1) := by kernel_rfl
theorem ar_98 : K.ar Tryd.prog 98 = some (6, 3, 1) := by kernel_rfl
theorem ar_99 : K.ar Tryd.prog 99 = some (64, 3, 1) := by kernel_rfl
theorem cal_10 : K.callable Tryd.prog 10 = true := by kernel_rfl
theorem cal_100 : K.callable Tryd.prog 100 = true := by kernel_rfl
theorem cal_101 : K.callable Tryd.prog 101 = true := by kernel_rfl
theorem cal_102 : K.callable Tryd.prog 102 = true := by kernel_rfl
theorem cal_103 : K.callable Tryd.prog 103 = true := by kernel_rfl
theorem cal_104 : K.callable Tryd.prog 104 = true := by kernel_rfl
theorem cal_105 : K.callable Tryd.prog 105 = true := by kernel_rfl
theorem cal_106 : K.callable Tryd.prog 106 = true := by kernel_rfl
theorem cal_107 : K.callable Tryd.prog 107 = true := by kernel_rfl
theorem cal_108 : K.callable Tryd.prog 108 = true := by kernel_rfl
theorem cal_109 : K.callable Tryd.prog 109 = true := by kernel_rfl
theorem cal_11 : K.callable Tryd.prog 11 = true := by kernel_rfl
theorem cal_110 : K.callable Tryd.prog 110 = true := by kernel_rfl
theorem cal_111 : K.callable Tryd.prog 111 = true := by kernel_rfl
theorem cal_12 : K.callable Tryd.prog 12 = true := by kernel_rfl
theorem cal_13 : K.callable Tryd.prog 13 = true := by kernel_rfl
theorem cal_14 : K.callable Tryd.prog 14 = true := by kernel_rfl
theorem cal_15 : K.callable Tryd.prog 15 = true := by kernel_rfl
theorem cal_16 : K.callable Tryd.prog 16 = true := by kernel_rfl
theorem cal_17 : K.callable Tryd.prog 17 = true := by kernel_rfl
theorem cal_18 : K.callable Tryd.prog 18 = true := by kernel_rfl
theorem cal_19 : K.callable Tryd.prog 19 = true := by kernel_rfl
theorem cal_20 : K.callable Tryd.prog 20 = true := by kernel_rfl
theorem cal_21 : K.callable Tryd.prog 21 = true := by kernel_rfl
theorem cal_22 : K.callable Tryd.prog 22 = true := by kernel_rfl
theorem cal_23 : K.callable Tryd.prog 23 = true := by kernel_rfl
theorem cal_24 : K.callable Tryd.prog 24 = true := by kernel_rfl
theorem cal_25 : K.callable Tryd.prog 25 = true := by kernel_rfl
theorem cal_26 : K.callable Tryd.prog 26 = true := by kernel_rfl
theorem cal_27 : K.callable Tryd.prog 27 = true := by kernel_rfl
theorem cal_28 : K.callable Tryd.prog 28 = true := by kernel_rfl
theorem cal_29 : K.callable Tryd.prog 29 = true := by kernel_rfl
theorem cal_3 : K.callable Tryd.prog 3 = true := by kernel_rfl
theorem cal_30 : K.callable Tryd.prog 30 = true := by kernel_rfl
theorem cal_31 : K.callable Tryd.prog 31 = true := by kernel_rfl
theorem cal_32 : K.callable Tryd.prog 32 = true := by kernel_rfl
theorem cal_33 : K.callable Tryd.prog 33 = true := by kernel_rfl
theorem cal_34 : K.callable Tryd.prog 34 = true := by kernel_rfl
theorem cal_35 : K.callable Tryd.prog 35 = true := by kernel_rfl
theorem cal_36 : K.callable Tryd.prog 36 = true := by kernel_rfl
theorem cal_37 : K.callable Tryd.prog 37 = true := by kernel_rfl
theorem cal_38 : K.callable Tryd.prog 38 = true := by kernel_rfl
theorem cal_39 : K.callable Tryd.prog 39 = true := by kernel_rfl
theorem cal_4 : K.callable Tryd.prog 4 = true := by kernel_rfl
theorem cal_40 : K.callable Tryd.prog 40 = true := by kernel_rfl
theorem cal_41 : K.callable Tryd.prog 41 = true := by kernel_rfl
theorem cal_42 : K.callable Tryd.prog 42 = true := by kernel_rfl
theorem cal_43 : K.callable Tryd.prog 43 = true := by kernel_rfl
theorem cal_44 : K.callable Tryd.prog 44 = true := by kernel_rfl
theorem cal_45 : K.callable Tryd.prog 45 = true := by kernel_rfl
theorem cal_46 : K.callable Tryd.prog 46 = true := by kernel_rfl
theorem cal_47 : K.callable Tryd.prog 47 = true := by kernel_rfl
theorem cal_48 : K.callable Tryd.prog 48 = true := by kernel_rfl
theorem cal_49 : K.callable Tryd.prog 49 = true := by kernel_rfl
theorem cal_5 : K.callable Tryd.prog 5 = true := by kernel_rfl
theorem cal_50 : K.callable Tryd.prog 50 = true := by kernel_rfl
theorem cal_51 : K.callable Tryd.prog 51 = true := by kernel_rfl
theorem cal_52 : K.callable Tryd.prog 52 = true := by kernel_rfl
theorem cal_53 : K.callable Tryd.prog 53 = true := by kernel_rfl
theorem cal_54 : K.callable Tryd.prog 54 = true := by kernel_rfl
theorem cal_55 : K.callable Tryd.prog 55 = true := by kernel_rfl
theorem cal_56 : K.callable Tryd.prog 56 = true := by kernel_rfl
theorem cal_57 : K.callable Tryd.prog 57 = true := by kernel_rfl
theorem cal_58 : K.callable Tryd.prog 58 = true := by kernel_rfl
theorem cal_59 : K.callable Tryd.prog 59 = true := by kernel_rfl
theorem cal_6 : K.callable Tryd.prog 6 = true := by kernel_rfl
theorem cal_60 : K.callable Tryd.prog 60 = true := by kernel_rfl
theorem cal_61 : K.callable Tryd.prog 61 = true := by kernel_rfl
theorem cal_62 : K.callable Tryd.prog 62 = true := by kernel_rfl
theorem cal_63 : K.callable Tryd.prog 63 = true := by kernel_rfl
theorem cal_64 : K.callable Tryd.prog 64 = true := by kernel_rfl
theorem cal_65 : K.callable Tryd.prog 65 = true := by kernel_rfl
theorem cal_66 : K.callable Tryd.prog 66 = true := by kernel_rfl
theorem cal_67 : K.callable Tryd.prog 67 = true := by kernel_rfl
theorem cal_68 : K.callable Tryd.prog 68 = true := by kernel_rfl
theorem cal_69 : K.callable Tryd.prog 69 = true := by kernel_rfl
theorem cal_7 : K.callable Tryd.prog 7 = true := by kernel_rfl
theorem cal_70 : K.callable Tryd.prog 70 = true := by kernel_rfl
theorem cal_71 : K.callable Tryd.prog 71 = true := by kernel_rfl
theorem cal_72 : K.callable Tryd.prog 72 = true := by kernel_rfl
theorem cal_73 : K.callable Tryd.prog 73 = true := by kernel_rfl
theorem cal_74 : K.callable Tryd.prog 74 = true := by kernel_rfl
theorem cal_75 : K.callable Tryd.prog 75 = true := by kernel_rfl
theorem cal_76 : K.callable Tryd.prog 76 = true := by kernel_rfl
theorem cal_77 : K.callable Tryd.prog 77 = true := by kernel_rfl
theorem cal_78 : K.callable Tryd.prog 78 = true := by kernel_rfl
theorem cal_79 : K.callable Tryd.prog 79 = true := by kernel_rfl
theorem cal_8 : K.callable Tryd.prog 8 = true := by kernel_rfl
theorem cal_80 : K.callable Tryd.prog 80 = true := by kernel_rfl
theorem cal_81 : K.callable Tryd.prog 81 = true := by kernel_rfl
theorem cal_82 : K.callable Tryd.prog 82 = true := by kernel_rfl
theorem cal_83 : K.callable Tryd.prog 83 = true := by kernel_rfl
theorem cal_84 : K.callable Tryd.prog 84 = true := by kernel_rfl
theorem cal_85 : K.callable Tryd.prog 85 = true := by kernel_rfl
theorem cal_86 : K.callable Tryd.prog 86 = true := by kernel_rfl
theorem cal_87 : K.callable Tryd.prog 87 = true := by kernel_rfl
theorem cal_88 : K.callable Tryd.prog 88 = true := by kernel_rfl
theorem cal_89 : K.callable Tryd.prog 89 = true := by kernel_rfl
theorem cal_9 : K.callable Tryd.prog 9 = true := by kernel_rfl
theorem cal_90 : K.callable Tryd.prog 90 = true := by kernel_rfl
theorem cal_91 : K.callable Tryd.prog 91 = true := by kernel_rfl
theorem cal_92 : K.callable Tryd.prog 92 = true := by kernel_rfl
theorem cal_93 : K.callable Tryd.prog 93 = true := by kernel_rfl
theorem cal_94 : K.callable Tryd.prog 94 = true := by kernel_rfl
theorem cal_95 : K.callable Tryd.prog 95 = true := by kernel_rfl
theorem cal_96 : K.callable Tryd.prog 96 = true := by kernel_rfl
theorem cal_97 : K.callable Tryd.prog 97 = true := by kernel_rfl
theorem cal_98 : K.callable Tryd.prog 98 = true := by kernel_rfl
theorem cal_99 : K.callable Tryd.prog 99 = true := by kernel_rfl
theorem el_128 : K.el Tryd.prog 128 = some (22, 1, 24) := by kernel_rfl
theorem el_22 : K.el Tryd.prog 22 = some (3, 1, 8) := by kernel_rfl
theorem el_23 : K.el Tryd.prog 23 = some (54, 5, 48) := by kernel_rfl
theorem el_24 : K.el Tryd.prog 24 = some (63, 4, 32) := by kernel_rfl
theorem el_86 : K.el Tryd.prog 86 = some (9, 1, 16) := by kernel_rfl
theorem fo_101_0 : K.fo Tryd.prog 101 0 = some 0 := by kernel_rfl
theorem fo_101_1 : K.fo Tryd.prog 101 1 = some 5 := by kernel_rfl
theorem fo_101_2 : K.fo Tryd.prog 101 2 = some 11 := by kernel_rfl
theorem fo_101_3 : K.fo Tryd.prog 101 3 = some 75 := by kernel_rfl
theorem fo_114_0 : K.fo Tryd.prog 114 0 = some 0 := by kernel_rfl
theorem fo_114_1 : K.fo Tryd.prog 114 1 = some 1 := by kernel_rfl
theorem fo_114_2 : K.fo Tryd.prog 114 2 = some 2 := by kernel_rfl
theorem fo_26_0 : K.fo Tryd.prog 26 0 = some 0 := by kernel_rfl
theorem fo_26_1 : K.fo Tryd.prog 26 1 = some 1 := by kernel_rfl
theorem fo_26_2 : K.fo Tryd.prog 26 2 = some 2 := by kernel_rfl
theorem fo_26_3 : K.fo Tryd.prog 26 3 = some 3 := by kernel_rfl
theorem fo_26_4 : K.fo Tryd.prog 26 4 = some 4 := by kernel_rfl
theorem fo_28_0 : K.fo Tryd.prog 28 0 = some 0 := by kernel_rfl
theorem fo_28_1 : K.fo Tryd.prog 28 1 = some 1 := by kernel_rfl
theorem fo_28_2 : K.fo Tryd.prog 28 2 = some 2 := by kernel_rfl
theorem fo_54_0 : K.fo Tryd.prog 54 0 = some 0 := by kernel_rfl
theorem fo_54_1 : K.fo Tryd.prog 54 1 = some 1 := by kernel_rfl
theorem fo_54_2 : K.fo Tryd.prog 54 2 = some 2 := by kernel_rfl
theorem fo_54_3 : K.fo Tryd.prog 54 3 = some 3 := by kernel_rfl
theorem fo_54_4 : K.fo Tryd.prog 54 4 = some 4 := by kernel_rfl
theorem fo_61_0 : K.fo Tryd.prog 61 0 = some 0 := by kernel_rfl
theorem fo_61_1 : K.fo Tryd.prog 61 1 = some 1 := by kernel_rfl
theorem fo_63_0 : K.fo Tryd.prog 63 0 = some 0 := by kernel_rfl
theorem fo_63_1 : K.fo Tryd.prog 63 1 = some 1 := by kernel_rfl
theorem fo_63_2 : K.fo Tryd.prog 63 2 = some 2 := by kernel_rfl
theorem fo_80_0 : K.fo Tryd.prog 80 0 = some 0 := by kernel_rfl
theorem fo_80_1 : K.fo Tryd.prog 80 1 = some 1 := by kernel_rfl
theorem ik_124 : K.ik Tryd.prog 124 = some .u64 := by kernel_rfl
theorem ik_143 : K.ik Tryd.prog 143 = some .u32 := by kernel_rfl
theorem ik_145 : K.ik Tryd.prog 145 = some .u64 := by kernel_rfl
theorem ik_3 : K.ik Tryd.prog 3 = some .i64 := by kernel_rfl
theorem ik_5 : K.ik Tryd.prog 5 = some .u8 := by kernel_rfl
theorem ik_57 : K.ik Tryd.prog 57 = some .u16 := by kernel_rfl
theorem one_22 : K.one Tryd.prog 22 = true := by kernel_rfl
theorem one_23 : K.one Tryd.prog 23 = true := by kernel_rfl
theorem one_24 : K.one Tryd.prog 24 = true := by kernel_rfl
theorem one_29 : K.one Tryd.prog 29 = true := by kernel_rfl
theorem one_3 : K.one Tryd.prog 3 = true := by kernel_rfl
theorem one_5 : K.one Tryd.prog 5 = true := by kernel_rfl
theorem one_57 : K.one Tryd.prog 57 = true := by kernel_rfl
theorem one_77 : K.one Tryd.prog 77 = true := by kernel_rfl
theorem one_9 : K.one Tryd.prog 9 = true := by kernel_rfl
theorem one_90 : K.one Tryd.prog 90 = true := by kernel_rfl
theorem sT_9 : K.sT Tryd.prog 9 = true := by kernel_rfl
theorem sl_128 : K.sl Tryd.prog 128 = some (22, 1) := by kernel_rfl
theorem sl_148 : K.sl Tryd.prog 148 = some (61, 2) := by kernel_rfl
theorem sl_22 : K.sl Tryd.prog 22 = some (3, 1) := by kernel_rfl
theorem sl_23 : K.sl Tryd.prog 23 = some (54, 5) := by kernel_rfl
theorem sl_24 : K.sl Tryd.prog 24 = some (63, 4) := by kernel_rfl
theorem sl_49 : K.sl Tryd.prog 49 = some (57, 1) := by kernel_rfl
theorem sl_86 : K.sl Tryd.prog 86 = some (9, 1) := by kernel_rfl
theorem sz_114 : K.sz Tryd.prog 114 = some 3 := by kernel_rfl
theorem sz_22 : K.sz Tryd.prog 22 = some 1 := by kernel_rfl
theorem sz_23 : K.sz Tryd.prog 23 = some 1 := by kernel_rfl
theorem sz_24 : K.sz Tryd.prog 24 = some 1 := by kernel_rfl
theorem sz_26 : K.sz Tryd.prog 26 = some 5 := by kernel_rfl
theorem sz_29 : K.sz Tryd.prog 29 = some 1 := by kernel_rfl
theorem sz_3 : K.sz Tryd.prog 3 = some 1 := by kernel_rfl
theorem sz_54 : K.sz Tryd.prog 54 = some 5 := by kernel_rfl
theorem sz_61 : K.sz Tryd.prog 61 = some 2 := by kernel_rfl
theorem sz_63 : K.sz Tryd.prog 63 = some 4 := by kernel_rfl
theorem sz_80 : K.sz Tryd.prog 80 = some 2 := by kernel_rfl
theorem sz_90 : K.sz Tryd.prog 90 = some 1 := by kernel_rfl
theorem sz_98 : K.sz Tryd.prog 98 = some 6 := by kernel_rfl
theorem zr_114 : K.zr Tryd.prog 114 = some (.agg #[.int .i64 0, .int .i64 0, .int .i64 0]) := by kernel_rfl
theorem zr_22 : K.zr Tryd.prog 22 = some (.slice none 0 0) := by kernel_rfl
theorem zr_26 : K.zr Tryd.prog 26 = some (.agg #[.int .i64 0, .int .i64 0, .slice none 0 0, .slice none 0 0, .slice none 0 0]) := by kernel_rfl
theorem zr_29 : K.zr Tryd.prog 29 = some (.int .i64 0) := by kernel_rfl
theorem zr_3 : K.zr Tryd.prog 3 = some (.int .i64 0) := by kernel_rfl
theorem zr_54 : K.zr Tryd.prog 54 = some (.agg #[.string ByteArray.empty, .int .i64 0, .int .i64 0, .int .i64 0, .int .i64 0]) := by kernel_rfl
theorem zr_61 : K.zr Tryd.prog 61 = some (.agg #[.int .i64 0, .int .i64 0]) := by kernel_rfl
theorem zr_63 : K.zr Tryd.prog 63 = some (.agg #[.int .i64 0, .int .i64 0, .int .i64 0, .int .i64 0]) := by kernel_rfl
theorem zr_80 : K.zr Tryd.prog 80 = some (.agg #[.int .i64 0, .int .i64 0]) := by kernel_rfl
theorem zr_90 : K.zr Tryd.prog 90 = some (.pointer none) := by kernel_rfl
theorem zr_98 : K.zr Tryd.prog 98 = some (.agg #[.int .i64 0, .int .i64 0, .int .i64 0, .int .i64 0, .int .i64 0, .int .i64 0]) := by kernel_rfl
end Go.Proofs.YthkgnhcknkjgdaaDoor
