/-
  Closed facts on the loaded program's types and functions, by program.
  No conditions.
-/
import Derived.Test.YtoemnobfnnjopaaDoorProg
import Derived.Test.YtoemnobfnnjopaaDoorK2
namespace Go.Proofs.YtoemnobfnnjopaaDoor
open Go
theorem Tryd_mixed : Tryd.prog.follows .mixedOrders = true := by kernel_rfl
theorem ag_101 : K.ag Tryd.prog 101 = some 2 := by kernel_rfl
theorem ag_44 : K.ag Tryd.prog 44 = some 4 := by kernel_rfl
theorem ar_127 : K.ar Tryd.prog 127 = some (32, 5, 1) := by kernel_rfl
theorem ar_128 : K.ar Tryd.prog 128 = some (64, 5, 1) := by kernel_rfl
theorem ar_76 : K.ar Tryd.prog 76 = some (9, 3, 1) := by kernel_rfl
theorem ar_77 : K.ar Tryd.prog 77 = some (9, 76, 9) := by kernel_rfl
theorem cal_10 : K.callable Tryd.prog 10 = true := by kernel_rfl
theorem cal_100 : K.callable Tryd.prog 100 = true := by kernel_rfl
theorem cal_101 : K.callable Tryd.prog 101 = true := by kernel_rfl
theorem cal_102 : K.callable Tryd.prog 102 = true := by kernel_rfl
theorem cal_103 : K.callable Tryd.prog 103 = true := by kernel_rfl
theorem cal_104 : K.callable Tryd.prog 104 = true := by kernel_rfl
theorem cal_105 : K.callable Tryd.prog 105 = true := by kernel_rfl
theorem cal_106 : K.callable Tryd.prog 106 = true := by kernel_rfl
theorem cal_107 : K.callable Tryd.prog 107 = true := by kernel_rfl
theorem cal_108 : K.callable Tryd.prog 108 = true := by kernel_rfl
theorem cal_109 : K.callable Tryd.prog 109 = true := by kernel_rfl
theorem cal_11 : K.callable Tryd.prog 11 = true := by kernel_rfl
theorem cal_110 : K.callable Tryd.prog 110 = true := by kernel_rfl
theorem cal_111 : K.callable Tryd.prog 111 = true := by kernel_rfl
theorem cal_112 : K.callable Tryd.prog 112 = true := by kernel_rfl
theorem cal_12 : K.callable Tryd.prog 12 = true := by kernel_rfl
theorem cal_13 : K.callable Tryd.prog 13 = true := by kernel_rfl
theorem cal_14 : K.callable Tryd.prog 14 = true := by kernel_rfl
theorem cal_15 : K.callable Tryd.prog 15 = true := by kernel_rfl
theorem cal_16 : K.callable Tryd.prog 16 = true := by kernel_rfl
theorem cal_17 : K.callable Tryd.prog 17 = true := by kernel_rfl
theorem cal_18 : K.callable Tryd.prog 18 = true := by kernel_rfl
theorem cal_19 : K.callable Tryd.prog 19 = true := by kernel_rfl
theorem cal_20 : K.callable Tryd.prog 20 = true := by kernel_rfl
theorem cal_21 : K.callable Tryd.prog 21 = true := by kernel_rfl
theorem cal_22 : K.callable Tryd.prog 22 = true := by kernel_rfl
theorem cal_23 : K.callable Tryd.prog 23 = true := by kernel_rfl
theorem cal_24 : K.callable Tryd.prog 24 = true := by kernel_rfl
theorem cal_25 : K.callable Tryd.prog 25 = true := by kernel_rfl
theorem cal_26 : K.callable Tryd.prog 26 = true := by kernel_rfl
theorem cal_27 : K.callable Tryd.prog 27 = true := by kernel_rfl
theorem cal_28 : K.callable Tryd.prog 28 = true := by kernel_rfl
theorem cal_29 : K.callable Tryd.prog 29 = true := by kernel_rfl
theorem cal_3 : K.callable Tryd.prog 3 = true := by kernel_rfl
theorem cal_30 : K.callable Tryd.prog 30 = true := by kernel_rfl
theorem cal_31 : K.callable Tryd.prog 31 = true := by kernel_rfl
theorem cal_32 : K.callable Tryd.prog 32 = true := by kernel_rfl
theorem cal_33 : K.callable Tryd.prog 33 = true := by kernel_rfl
theorem cal_34 : K.callable Tryd.prog 34 = true := by kernel_rfl
theorem cal_35 : K.callable Tryd.prog 35 = true := by kernel_rfl
theorem cal_36 : K.callable Tryd.prog 36 = true := by kernel_rfl
theorem cal_37 : K.callable Tryd.prog 37 = true := by kernel_rfl
theorem cal_38 : K.callable Tryd.prog 38 = true := by kernel_rfl
theorem cal_39 : K.callable Tryd.prog 39 = true := by kernel_rfl
theorem cal_4 : K.callable Tryd.prog 4 = true := by kernel_rfl
theorem cal_40 : K.callable Tryd.prog 40 = true := by kernel_rfl
theorem cal_41 : K.callable Tryd.prog 41 = true := by kernel_rfl
theorem cal_42 : K.callable Tryd.prog 42 = true := by kernel_rfl
theorem cal_43 : K.callable Tryd.prog 43 = true := by kernel_rfl
theorem cal_44 : K.callable Tryd.prog 44 = true := by kernel_rfl
theorem cal_45 : K.callable Tryd.prog 45 = true := by kernel_rfl
theorem cal_46 : K.callable Tryd.prog 46 = true := by kernel_rfl
theorem cal_47 : K.callable Tryd.prog 47 = true := by kernel_rfl
theorem cal_48 : K.callable Tryd.prog 48 = true := by kernel_rfl
theorem cal_49 : K.callable Tryd.prog 49 = true := by kernel_rfl
theorem cal_5 : K.callable Tryd.prog 5 = true := by kernel_rfl
theorem cal_50 : K.callable Tryd.prog 50 = true := by kernel_rfl
theorem cal_51 : K.callable Tryd.prog 51 = true := by kernel_rfl
theorem cal_52 : K.callable Tryd.prog 52 = true := by kernel_rfl
theorem cal_53 : K.callable Tryd.prog 53 = true := by kernel_rfl
theorem cal_54 : K.callable Tryd.prog 54 = true := by kernel_rfl
theorem cal_55 : K.callable Tryd.prog 55 = true := by kernel_rfl
theorem cal_56 : K.callable Tryd.prog 56 = true := by kernel_rfl
theorem cal_57 : K.callable Tryd.prog 57 = true := by kernel_rfl
theorem cal_58 : K.callable Tryd.prog 58 = true := by kernel_rfl
theorem cal_59 : K.callable Tryd.prog 59 = true := by kernel_rfl
theorem cal_6 : K.callable Tryd.prog 6 = true := by kernel_rfl
theorem cal_60 : K.callable Tryd.prog 60 = true := by kernel_rfl
theorem cal_61 : K.callable Tryd.prog 61 = true := by kernel_rfl
theorem cal_62 : K.callable Tryd.prog 62 = true := by kernel_rfl
theorem cal_63 : K.callable Tryd.prog 63 = true := by kernel_rfl
theorem cal_64 : K.callable Tryd.prog 64 = true := by kernel_rfl
theorem cal_65 : K.callable Tryd.prog 65 = true := by kernel_rfl
theorem cal_66 : K.callable Tryd.prog 66 = true := by kernel_rfl
theorem cal_67 : K.callable Tryd.prog 67 = true := by kernel_rfl
theorem cal_68 : K.callable Tryd.prog 68 = true := by kernel_rfl
theorem cal_69 : K.callable Tryd.prog 69 = true := by kernel_rfl
theorem cal_7 : K.callable Tryd.prog 7 = true := by kernel_rfl
theorem cal_70 : K.callable Tryd.prog 70 = true := by kernel_rfl
theorem cal_71 : K.callable Tryd.prog 71 = true := by kernel_rfl
theorem cal_72 : K.callable Tryd.prog 72 = true := by kernel_rfl
theorem cal_73 : K.callable Tryd.prog 73 = true := by kernel_rfl
theorem cal_74 : K.callable Tryd.prog 74 = true := by kernel_rfl
theorem cal_75 : K.callable Tryd.prog 75 = true := by kernel_rfl
theorem cal_76 : K.callable Tryd.prog 76 = true := by kernel_rfl
theorem cal_77 : K.callable Tryd.prog 77 = true := by kernel_rfl
theorem cal_78 : K.callable Tryd.prog 78 = true := by kernel_rfl
theorem cal_79 : K.callable Tryd.prog 79 = true := by kernel_rfl
theorem cal_8 : K.callable Tryd.prog 8 = true := by kernel_rfl
theorem cal_80 : K.callable Tryd.prog 80 = true := by kernel_rfl
theorem cal_81 : K.callable Tryd.prog 81 = true := by kernel_rfl
theorem cal_82 : K.callable Tryd.prog 82 = true := by kernel_rfl
theorem cal_83 : K.callable Tryd.prog 83 = true := by kernel_rfl
theorem cal_84 : K.callable Tryd.prog 84 = true := by kernel_rfl
theorem cal_85 : K.callable Tryd.prog 85 = true := by kernel_rfl
theorem cal_86 : K.callable Tryd.prog 86 = true := by kernel_rfl
theorem cal_87 : K.callable Tryd.prog 87 = true := by kernel_rfl
theorem cal_88 : K.callable Tryd.prog 88 = true := by kernel_rfl
theorem cal_89 : K.callable Tryd.prog 89 = true := by kernel_rfl
theorem cal_9 : K.callable Tryd.prog 9 = true := by kernel_rfl
theorem cal_90 : K.callable Tryd.prog 90 = true := by kernel_rfl
theorem cal_91 : K.callable Tryd.prog 91 = true := by kernel_rfl
theorem cal_92 : K.callable Tryd.prog 92 = true := by kernel_rfl
theorem cal_93 : K.callable Tryd.prog 93 = true := by kernel_rfl
theorem cal_94 : K.callable Tryd.prog 94 = true := by kernel_rfl
theorem cal_95 : K.callable Tryd.prog 95 = true := by kernel_rfl
theorem cal_96 : K.callable Tryd.prog 96 = true := by kernel_rfl
theorem cal_97 : K.callable Tryd.prog 97 = true := by kernel_rfl
theorem cal_98 : K.callable Tryd.prog 98 = true := by kernel_rfl
theorem cal_99 : K.callable Tryd.prog 99 = true := by kernel_rfl
theorem el_22 : K.el Tryd.prog 22 = some (44, 4, 40) := by kernel_rfl
theorem el_26 : K.el Tryd.prog 26 = some (3, 1, 8) := by kernel_rfl
theorem el_50 : K.el Tryd.prog 50 = some (26, 1, 24) := by kernel_rfl
theorem el_62 : K.el Tryd.prog 62 = some (9, 1, 16) := by kernel_rfl
theorem fo_101_0 : K.fo Tryd.prog 101 0 = some 0 := by kernel_rfl
theorem fo_101_1 : K.fo Tryd.prog 101 1 = some 1 := by kernel_rfl
theorem fo_44_0 : K.fo Tryd.prog 44 0 = some 0 := by kernel_rfl
theorem fo_44_1 : K.fo Tryd.prog 44 1 = some 1 := by kernel_rfl
theorem fo_44_2 : K.fo Tryd.prog 44 2 = some 2 := by kernel_rfl
theorem fo_44_3 : K.fo Tryd.prog 44 3 = some 3 := by kernel_rfl
theorem fo_79_0 : K.fo Tryd.prog 79 0 = some 0 := by kernel_rfl
theorem fo_79_1 : K.fo Tryd.prog 79 1 = some 1 := by kernel_rfl
theorem fo_97_0 : K.fo Tryd.prog 97 0 = some 0 := by kernel_rfl
theorem fo_97_1 : K.fo Tryd.prog 97 1 = some 1 := by kernel_rfl
theorem fo_97_2 : K.fo Tryd.prog 97 2 = some 2 := by kernel_rfl
theorem fo_97_3 : K.fo Tryd.prog 97 3 = some 3 := by kernel_rfl
theorem fo_97_4 : K.fo Tryd.prog 97 4 = some 4 := by kernel_rfl
theorem ik_108 : K.ik Tryd.prog 108 = some .u64 := by kernel_rfl
theorem ik_117 : K.ik Tryd.prog 117 = some .u32 := by kernel_rfl
theorem ik_119 : K.ik Tryd.prog 119 = some .u64 := by kernel_rfl
theorem ik_3 : K.ik Tryd.prog 3 = some .i64 := by kernel_rfl
theorem ik_40 : K.ik Tryd.prog 40 = some .u16 := by kernel_rfl
theorem ik_5 : K.ik Tryd.prog 5 = some .u8 := by kernel_rfl
theorem one_22 : K.one Tryd.prog 22 = true := by kernel_rfl
theorem one_23 : K.one Tryd.prog 23 = true := by kernel_rfl
theorem one_26 : K.one Tryd.prog 26 = true := by kernel_rfl
theorem one_3 : K.one Tryd.prog 3 = true := by kernel_rfl
theorem one_4 : K.one Tryd.prog 4 = true := by kernel_rfl
theorem one_40 : K.one Tryd.prog 40 = true := by kernel_rfl
theorem one_5 : K.one Tryd.prog 5 = true := by kernel_rfl
theorem one_65 : K.one Tryd.prog 65 = true := by kernel_rfl
theorem one_75 : K.one Tryd.prog 75 = true := by kernel_rfl
theorem one_86 : K.one Tryd.prog 86 = true := by kernel_rfl
theorem one_9 : K.one Tryd.prog 9 = true := by kernel_rfl
theorem one_95 : K.one Tryd.prog 95 = true := by kernel_rfl
theorem sT_9 : K.sT Tryd.prog 9 = true := by kernel_rfl
theorem sl_105 : K.sl Tryd.prog 105 = some (4, 1) := by kernel_rfl
theorem sl_22 : K.sl Tryd.prog 22 = some (44, 4) := by kernel_rfl
theorem sl_26 : K.sl Tryd.prog 26 = some (3, 1) := by kernel_rfl
theorem sl_39 : K.sl Tryd.prog 39 = some (40, 1) := by kernel_rfl
theorem sl_50 : K.sl Tryd.prog 50 = some (26, 1) := by kernel_rfl
theorem sl_62 : K.sl Tryd.prog 62 = some (9, 1) := by kernel_rfl
theorem sl_75 : K.sl Tryd.prog 75 = some (44, 4) := by kernel_rfl
theorem sz_23 : K.sz Tryd.prog 23 = some 1 := by kernel_rfl
theorem sz_26 : K.sz Tryd.prog 26 = some 1 := by kernel_rfl
theorem sz_3 : K.sz Tryd.prog 3 = some 1 := by kernel_rfl
theorem sz_4 : K.sz Tryd.prog 4 = some 1 := by kernel_rfl
theorem sz_44 : K.sz Tryd.prog 44 = some 4 := by kernel_rfl
theorem sz_65 : K.sz Tryd.prog 65 = some 1 := by kernel_rfl
theorem sz_86 : K.sz Tryd.prog 86 = some 1 := by kernel_rfl
theorem sz_95 : K.sz Tryd.prog 95 = some 1 := by kernel_rfl
theorem sz_97 : K.sz Tryd.prog 97 = some 5 := by kernel_rfl
theorem zr_23 : K.zr Tryd.prog 23 = some (.int .i64 0) := by kernel_rfl
theorem zr_26 : K.zr Tryd.prog 26 = some (.slice none 0 0) := by kernel_rfl
theorem zr_3 : K.zr Tryd.prog 3 = some (.int .i64 0) := by kernel_rfl
theorem zr_44 : K.zr Tryd.prog 44 = some (.agg #[.string ByteArray.empty, .int .i64 0, .int .i64 0, .int .i64 0]) := by kernel_rfl
theorem zr_65 : K.zr Tryd.prog 65 = some (.pointer none) := by kernel_rfl
theorem zr_86 : K.zr Tryd.prog 86 = some (.nilFunc) := by kernel_rfl
theorem zr_97 : K.zr Tryd.prog 97 = some (.agg #[.pointer none, .slice none 0 0, .map none, .slice none 0 0, .int .i64 0]) := by kernel_rfl
end Go.Proofs.YtoemnobfnnjopaaDoor
