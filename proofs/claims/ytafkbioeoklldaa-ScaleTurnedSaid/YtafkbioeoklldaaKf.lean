/-
  Closed facts on the loaded program's types and functions, by program.
  No conditions.
-/
import Derived.Test.YtafkbioeoklldaaProg
import Derived.Test.YtafkbioeoklldaaK1
namespace Go.Proofs.Ytafkbioeoklldaa
open Go
theorem Try_mixed : Try.prog.follows .mixedOrders = true := by kernel_rfl
theorem ag_101 : K.ag Try.prog 101 = some 8 := by kernel_rfl
theorem ag_133 : K.ag Try.prog 133 = some 3 := by kernel_rfl
theorem ag_25 : K.ag Try.prog 25 = some 5 := by kernel_rfl
theorem ag_27 : K.ag Try.prog 27 = some 2 := by kernel_rfl
theorem ag_51 : K.ag Try.prog 51 = some 2 := by kernel_rfl
theorem ag_53 : K.ag Try.prog 53 = some 3 := by kernel_rfl
theorem ag_56 : K.ag Try.prog 56 = some 2 := by kernel_rfl
theorem ag_79 : K.ag Try.prog 79 = some 2 := by kernel_rfl
theorem ag_95 : K.ag Try.prog 95 = some 1 := by kernel_rfl
theorem ag_97 : K.ag Try.prog 97 = some 6 := by kernel_rfl
theorem ar_101 : K.ar Try.prog 101 = some (8, 3, 1) := by kernel_rfl
theorem ar_133 : K.ar Try.prog 133 = some (3, 95, 1) := by kernel_rfl
theorem ar_56 : K.ar Try.prog 56 = some (2, 5, 1) := by kernel_rfl
theorem ar_65 : K.ar Try.prog 65 = some (4, 5, 1) := by kernel_rfl
theorem ar_81 : K.ar Try.prog 81 = some (3, 5, 1) := by kernel_rfl
theorem ar_84 : K.ar Try.prog 84 = some (5, 5, 1) := by kernel_rfl
theorem cal_10 : K.callable Try.prog 10 = true := by kernel_rfl
theorem cal_100 : K.callable Try.prog 100 = true := by kernel_rfl
theorem cal_101 : K.callable Try.prog 101 = true := by kernel_rfl
theorem cal_102 : K.callable Try.prog 102 = true := by kernel_rfl
theorem cal_103 : K.callable Try.prog 103 = true := by kernel_rfl
theorem cal_104 : K.callable Try.prog 104 = true := by kernel_rfl
theorem cal_11 : K.callable Try.prog 11 = true := by kernel_rfl
theorem cal_12 : K.callable Try.prog 12 = true := by kernel_rfl
theorem cal_13 : K.callable Try.prog 13 = true := by kernel_rfl
theorem cal_14 : K.callable Try.prog 14 = true := by kernel_rfl
theorem cal_15 : K.callable Try.prog 15 = true := by kernel_rfl
theorem cal_16 : K.callable Try.prog 16 = true := by kernel_rfl
theorem cal_17 : K.callable Try.prog 17 = true := by kernel_rfl
theorem cal_18 : K.callable Try.prog 18 = true := by kernel_rfl
theorem cal_19 : K.callable Try.prog 19 = true := by kernel_rfl
theorem cal_20 : K.callable Try.prog 20 = true := by kernel_rfl
theorem cal_21 : K.callable Try.prog 21 = true := by kernel_rfl
theorem cal_22 : K.callable Try.prog 22 = true := by kernel_rfl
theorem cal_23 : K.callable Try.prog 23 = true := by kernel_rfl
theorem cal_24 : K.callable Try.prog 24 = true := by kernel_rfl
theorem cal_25 : K.callable Try.prog 25 = true := by kernel_rfl
theorem cal_26 : K.callable Try.prog 26 = true := by kernel_rfl
theorem cal_27 : K.callable Try.prog 27 = true := by kernel_rfl
theorem cal_28 : K.callable Try.prog 28 = true := by kernel_rfl
theorem cal_29 : K.callable Try.prog 29 = true := by kernel_rfl
theorem cal_3 : K.callable Try.prog 3 = true := by kernel_rfl
theorem cal_30 : K.callable Try.prog 30 = true := by kernel_rfl
theorem cal_31 : K.callable Try.prog 31 = true := by kernel_rfl
theorem cal_32 : K.callable Try.prog 32 = true := by kernel_rfl
theorem cal_33 : K.callable Try.prog 33 = true := by kernel_rfl
theorem cal_34 : K.callable Try.prog 34 = true := by kernel_rfl
theorem cal_35 : K.callable Try.prog 35 = true := by kernel_rfl
theorem cal_36 : K.callable Try.prog 36 = true := by kernel_rfl
theorem cal_37 : K.callable Try.prog 37 = true := by kernel_rfl
theorem cal_38 : K.callable Try.prog 38 = true := by kernel_rfl
theorem cal_39 : K.callable Try.prog 39 = true := by kernel_rfl
theorem cal_4 : K.callable Try.prog 4 = true := by kernel_rfl
theorem cal_40 : K.callable Try.prog 40 = true := by kernel_rfl
theorem cal_41 : K.callable Try.prog 41 = true := by kernel_rfl
theorem cal_42 : K.callable Try.prog 42 = true := by kernel_rfl
theorem cal_43 : K.callable Try.prog 43 = true := by kernel_rfl
theorem cal_44 : K.callable Try.prog 44 = true := by kernel_rfl
theorem cal_45 : K.callable Try.prog 45 = true := by kernel_rfl
theorem cal_46 : K.callable Try.prog 46 = true := by kernel_rfl
theorem cal_47 : K.callable Try.prog 47 = true := by kernel_rfl
theorem cal_48 : K.callable Try.prog 48 = true := by kernel_rfl
theorem cal_49 : K.callable Try.prog 49 = true := by kernel_rfl
theorem cal_5 : K.callable Try.prog 5 = true := by kernel_rfl
theorem cal_50 : K.callable Try.prog 50 = true := by kernel_rfl
theorem cal_51 : K.callable Try.prog 51 = true := by kernel_rfl
theorem cal_52 : K.callable Try.prog 52 = true := by kernel_rfl
theorem cal_53 : K.callable Try.prog 53 = true := by kernel_rfl
theorem cal_54 : K.callable Try.prog 54 = true := by kernel_rfl
theorem cal_55 : K.callable Try.prog 55 = true := by kernel_rfl
theorem cal_56 : K.callable Try.prog 56 = true := by kernel_rfl
theorem cal_57 : K.callable Try.prog 57 = true := by kernel_rfl
theorem cal_58 : K.callable Try.prog 58 = true := by kernel_rfl
theorem cal_59 : K.callable Try.prog 59 = true := by kernel_rfl
theorem cal_6 : K.callable Try.prog 6 = true := by kernel_rfl
theorem cal_60 : K.callable Try.prog 60 = true := by kernel_rfl
theorem cal_61 : K.callable Try.prog 61 = true := by kernel_rfl
theorem cal_62 : K.callable Try.prog 62 = true := by kernel_rfl
theorem cal_63 : K.callable Try.prog 63 = true := by kernel_rfl
theorem cal_64 : K.callable Try.prog 64 = true := by kernel_rfl
theorem cal_65 : K.callable Try.prog 65 = true := by kernel_rfl
theorem cal_66 : K.callable Try.prog 66 = true := by kernel_rfl
theorem cal_67 : K.callable Try.prog 67 = true := by kernel_rfl
theorem cal_68 : K.callable Try.prog 68 = true := by kernel_rfl
theorem cal_69 : K.callable Try.prog 69 = true := by kernel_rfl
theorem cal_7 : K.callable Try.prog 7 = true := by kernel_rfl
theorem cal_70 : K.callable Try.prog 70 = true := by kernel_rfl
theorem cal_71 : K.callable Try.prog 71 = true := by kernel_rfl
theorem cal_72 : K.callable Try.prog 72 = true := by kernel_rfl
theorem cal_73 : K.callable Try.prog 73 = true := by kernel_rfl
theorem cal_74 : K.callable Try.prog 74 = true := by kernel_rfl
theorem cal_75 : K.callable Try.prog 75 = true := by kernel_rfl
theorem cal_76 : K.callable Try.prog 76 = true := by kernel_rfl
theorem cal_77 : K.callable Try.prog 77 = true := by kernel_rfl
theorem cal_78 : K.callable Try.prog 78 = true := by kernel_rfl
theorem cal_79 : K.callable Try.prog 79 = true := by kernel_rfl
theorem cal_8 : K.callable Try.prog 8 = true := by kernel_rfl
theorem cal_80 : K.callable Try.prog 80 = true := by kernel_rfl
theorem cal_81 : K.callable Try.prog 81 = true := by kernel_rfl
theorem cal_82 : K.callable Try.prog 82 = true := by kernel_rfl
theorem cal_83 : K.callable Try.prog 83 = true := by kernel_rfl
theorem cal_84 : K.callable Try.prog 84 = true := by kernel_rfl
theorem cal_85 : K.callable Try.prog 85 = true := by kernel_rfl
theorem cal_86 : K.callable Try.prog 86 = true := by kernel_rfl
theorem cal_87 : K.callable Try.prog 87 = true := by kernel_rfl
theorem cal_88 : K.callable Try.prog 88 = true := by kernel_rfl
theorem cal_89 : K.callable Try.prog 89 = true := by kernel_rfl
theorem cal_9 : K.callable Try.prog 9 = true := by kernel_rfl
theorem cal_90 : K.callable Try.prog 90 = true := by kernel_rfl
theorem cal_91 : K.callable Try.prog 91 = true := by kernel_rfl
theorem cal_92 : K.callable Try.prog 92 = true := by kernel_rfl
theorem cal_93 : K.callable Try.prog 93 = true := by kernel_rfl
theorem cal_94 : K.callable Try.prog 94 = true := by kernel_rfl
theorem cal_95 : K.callable Try.prog 95 = true := by kernel_rfl
theorem cal_96 : K.callable Try.prog 96 = true := by kernel_rfl
theorem cal_97 : K.callable Try.prog 97 = true := by kernel_rfl
theorem cal_98 : K.callable Try.prog 98 = true := by kernel_rfl
theorem cal_99 : K.callable Try.prog 99 = true := by kernel_rfl
theorem el_125 : K.el Try.prog 125 = some (22, 1, 24) := by kernel_rfl
theorem el_22 : K.el Try.prog 22 = some (3, 1, 8) := by kernel_rfl
theorem el_23 : K.el Try.prog 23 = some (79, 2, 16) := by kernel_rfl
theorem el_41 : K.el Try.prog 41 = some (53, 3, 24) := by kernel_rfl
theorem el_42 : K.el Try.prog 42 = some (27, 2, 16) := by kernel_rfl
theorem fo_25_0 : K.fo Try.prog 25 0 = some 0 := by kernel_rfl
theorem fo_25_1 : K.fo Try.prog 25 1 = some 1 := by kernel_rfl
theorem fo_25_2 : K.fo Try.prog 25 2 = some 2 := by kernel_rfl
theorem fo_25_3 : K.fo Try.prog 25 3 = some 3 := by kernel_rfl
theorem fo_25_4 : K.fo Try.prog 25 4 = some 4 := by kernel_rfl
theorem fo_27_0 : K.fo Try.prog 27 0 = some 0 := by kernel_rfl
theorem fo_27_1 : K.fo Try.prog 27 1 = some 1 := by kernel_rfl
theorem fo_51_0 : K.fo Try.prog 51 0 = some 0 := by kernel_rfl
theorem fo_51_1 : K.fo Try.prog 51 1 = some 1 := by kernel_rfl
theorem fo_53_0 : K.fo Try.prog 53 0 = some 0 := by kernel_rfl
theorem fo_53_1 : K.fo Try.prog 53 1 = some 1 := by kernel_rfl
theorem fo_79_0 : K.fo Try.prog 79 0 = some 0 := by kernel_rfl
theorem fo_79_1 : K.fo Try.prog 79 1 = some 1 := by kernel_rfl
theorem fo_95_0 : K.fo Try.prog 95 0 = some 0 := by kernel_rfl
theorem fo_97_0 : K.fo Try.prog 97 0 = some 0 := by kernel_rfl
theorem fo_97_1 : K.fo Try.prog 97 1 = some 5 := by kernel_rfl
theorem one_138 : K.one Try.prog 138 = true := by kernel_rfl
theorem one_22 : K.one Try.prog 22 = true := by kernel_rfl
theorem one_23 : K.one Try.prog 23 = true := by kernel_rfl
theorem one_28 : K.one Try.prog 28 = true := by kernel_rfl
theorem one_3 : K.one Try.prog 3 = true := by kernel_rfl
theorem one_41 : K.one Try.prog 41 = true := by kernel_rfl
theorem one_42 : K.one Try.prog 42 = true := by kernel_rfl
theorem one_5 : K.one Try.prog 5 = true := by kernel_rfl
theorem one_63 : K.one Try.prog 63 = true := by kernel_rfl
theorem one_93 : K.one Try.prog 93 = true := by kernel_rfl
theorem sl_125 : K.sl Try.prog 125 = some (22, 1) := by kernel_rfl
theorem sl_147 : K.sl Try.prog 147 = some (51, 2) := by kernel_rfl
theorem sl_22 : K.sl Try.prog 22 = some (3, 1) := by kernel_rfl
theorem sl_23 : K.sl Try.prog 23 = some (79, 2) := by kernel_rfl
theorem sl_41 : K.sl Try.prog 41 = some (53, 3) := by kernel_rfl
theorem sl_42 : K.sl Try.prog 42 = some (27, 2) := by kernel_rfl
theorem sl_66 : K.sl Try.prog 66 = some (5, 1) := by kernel_rfl
theorem sl_82 : K.sl Try.prog 82 = some (25, 5) := by kernel_rfl
theorem sz_101 : K.sz Try.prog 101 = some 8 := by kernel_rfl
theorem sz_133 : K.sz Try.prog 133 = some 3 := by kernel_rfl
theorem sz_22 : K.sz Try.prog 22 = some 1 := by kernel_rfl
theorem sz_23 : K.sz Try.prog 23 = some 1 := by kernel_rfl
theorem sz_25 : K.sz Try.prog 25 = some 5 := by kernel_rfl
theorem sz_27 : K.sz Try.prog 27 = some 2 := by kernel_rfl
theorem sz_28 : K.sz Try.prog 28 = some 1 := by kernel_rfl
theorem sz_3 : K.sz Try.prog 3 = some 1 := by kernel_rfl
theorem sz_42 : K.sz Try.prog 42 = some 1 := by kernel_rfl
theorem sz_51 : K.sz Try.prog 51 = some 2 := by kernel_rfl
theorem sz_53 : K.sz Try.prog 53 = some 3 := by kernel_rfl
theorem sz_63 : K.sz Try.prog 63 = some 1 := by kernel_rfl
theorem sz_79 : K.sz Try.prog 79 = some 2 := by kernel_rfl
theorem sz_93 : K.sz Try.prog 93 = some 1 := by kernel_rfl
theorem sz_97 : K.sz Try.prog 97 = some 6 := by kernel_rfl
theorem zr_101 : K.zr Try.prog 101 = some (.agg #[.int .i64 0, .int .i64 0, .int .i64 0, .int .i64 0, .int .i64 0, .int .i64 0, .int .i64 0, .int .i64 0]) := by kernel_rfl
theorem zr_133 : K.zr Try.prog 133 = some (.agg #[.nilFunc, .nilFunc, .nilFunc]) := by kernel_rfl
theorem zr_25 : K.zr Try.prog 25 = some (.agg #[.int .i64 0, .int .i64 0, .int .i64 0, .slice none 0 0, .slice none 0 0]) := by kernel_rfl
theorem zr_27 : K.zr Try.prog 27 = some (.agg #[.int .i64 0, .int .i64 0]) := by kernel_rfl
theorem zr_28 : K.zr Try.prog 28 = some (.int .i64 0) := by kernel_rfl
theorem zr_42 : K.zr Try.prog 42 = some (.slice none 0 0) := by kernel_rfl
theorem zr_51 : K.zr Try.prog 51 = some (.agg #[.int .i64 0, .int .i64 0]) := by kernel_rfl
theorem zr_53 : K.zr Try.prog 53 = some (.agg #[.int .i64 0, .int .i64 0, .int .i64 0]) := by kernel_rfl
theorem zr_63 : K.zr Try.prog 63 = some (.nilFunc) := by kernel_rfl
theorem zr_79 : K.zr Try.prog 79 = some (.agg #[.int .i64 0, .int .i64 0]) := by kernel_rfl
theorem zr_97 : K.zr Try.prog 97 = some (.agg #[.int .i64 0, .int .i64 0, .int .i64 0, .slice none 0 0, .slice none 0 0, .nilFunc]) := by kernel_rfl
end Go.Proofs.Ytafkbioeoklldaa
