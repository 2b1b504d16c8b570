import Derived.Test.YtgangmegcejllaaGreatDoorChecked
import Derived.Test.YtgangmegcejllaaGreatDoorIdx
namespace Go.Proofs.YtgangmegcejllaaGreatDoor
open Go.RowKit
theorem Q1w:Q1N Tryz.prog 3 = some 1:=by kernel_rfl
theorem Q3z:Q4G Tryz.prog 3 = some false:=by kernel_rfl
theorem Q7g:Q6R Tryz.prog 3 = some (.int .i64 0):=by kernel_rfl
theorem tR_3:tRow Tryz.prog 3 = some (.int .i64 0,1,8):=by kernel_rfl
theorem tS_4:Q1N Tryz.prog 4 = some 1:=by kernel_rfl
theorem tA_4:Q4G Tryz.prog 4 = some false:=by kernel_rfl
theorem tZ_4:Q6R Tryz.prog 4 = some (.bool false):=by kernel_rfl
theorem tR_4:tRow Tryz.prog 4 = some (.bool false,1,1):=by kernel_rfl
theorem Q30:Q1N Tryz.prog 22 = some 1:=by kernel_rfl
theorem Q4R:Q4G Tryz.prog 22 = some false:=by kernel_rfl
theorem tZ_22:Q6R Tryz.prog 22 = some (.slice none 0 0):=by kernel_rfl
theorem tR_22:tRow Tryz.prog 22 = some (.slice none 0 0,1,24):=by kernel_rfl
theorem Q1j:Q3A Tryz.prog 22 = some 3:=by kernel_rfl
theorem tE_23:Q3A Tryz.prog 23 = some 42:=by kernel_rfl
theorem tS_25:Q1N Tryz.prog 25 = some 1:=by kernel_rfl
theorem tA_25:Q4G Tryz.prog 25 = some false:=by kernel_rfl
theorem tE_25:Q3A Tryz.prog 25 = some 213:=by kernel_rfl
theorem Q7r:Q1N Tryz.prog 26 = some 1:=by kernel_rfl
theorem Q7U:Q4G Tryz.prog 26 = some false:=by kernel_rfl
theorem Q72:Q3A Tryz.prog 26 = some 38:=by kernel_rfl
theorem Q6s:Q1N Tryz.prog 28 = some 2:=by kernel_rfl
theorem Q7a:Q4G Tryz.prog 28 = some true:=by kernel_rfl
theorem tZ_28:Q6R Tryz.prog 28 = some (.agg #[.slice none 0 0,.slice none 0 0]):=by kernel_rfl
theorem tF_28_0:Q2l Tryz.prog 28 0 = some 0:=by kernel_rfl
theorem Q5u:Q2l Tryz.prog 28 1 = some 1:=by kernel_rfl
theorem Q6d:Q1N Tryz.prog 30 = some 1:=by kernel_rfl
theorem Q6c:Q4G Tryz.prog 30 = some false:=by kernel_rfl
theorem tS_35:Q1N Tryz.prog 35 = some 1:=by kernel_rfl
theorem tA_35:Q4G Tryz.prog 35 = some false:=by kernel_rfl
theorem tE_35:Q3A Tryz.prog 35 = some 204:=by kernel_rfl
theorem tS_36:Q1N Tryz.prog 36 = some 1:=by kernel_rfl
theorem tA_36:Q4G Tryz.prog 36 = some false:=by kernel_rfl
theorem tE_36:Q3A Tryz.prog 36 = some 209:=by kernel_rfl
theorem Q7V:Q1N Tryz.prog 38 = some 5:=by kernel_rfl
theorem tA_38:Q4G Tryz.prog 38 = some true:=by kernel_rfl
theorem tZ_38:Q6R Tryz.prog 38 = some (.agg #[.string ⟨#[]⟩,.int .i64 0,.int .i64 0,.slice none 0 0,.slice none 0 0]):=by kernel_rfl
theorem tR_38:tRow Tryz.prog 38 = some (.agg #[.string ⟨#[]⟩,.int .i64 0,.int .i64 0,.slice none 0 0,.slice none 0 0],5,80):=by kernel_rfl
theorem tP_38:Q8y Tryz.prog 38 = some [(0,1),(1,1),(2,1),(3,1),(4,1)]:=by kernel_rfl
theorem tF_38_1:Q2l Tryz.prog 38 1 = some 1:=by kernel_rfl
theorem tF_38_3:Q2l Tryz.prog 38 3 = some 3:=by kernel_rfl
theorem tF_38_4:Q2l Tryz.prog 38 4 = some 4:=by kernel_rfl
theorem Q1X:Q1N Tryz.prog 40 = some 1:=by kernel_rfl
theorem Q3D:Q4G Tryz.prog 40 = some false:=by kernel_rfl
theorem tZ_40:Q6R Tryz.prog 40 = some (.slice none 0 0):=by kernel_rfl
theorem tR_40:tRow Tryz.prog 40 = some (.slice none 0 0,1,24):=by kernel_rfl
theorem QB:Q3A Tryz.prog 40 = some 45:=by kernel_rfl
theorem tS_42:Q1N Tryz.prog 42 = some 3:=by kernel_rfl
theorem tA_42:Q4G Tryz.prog 42 = some true:=by kernel_rfl
theorem tF_42_0:Q2l Tryz.prog 42 0 = some 0:=by kernel_rfl
theorem tF_42_1:Q2l Tryz.prog 42 1 = some 1:=by kernel_rfl
theorem Q96:Q2l Tryz.prog 42 2 = some 2:=by kernel_rfl
theorem Qe:Q1N Tryz.prog 45 = some 2:=by kernel_rfl
theorem QS:Q4G Tryz.prog 45 = some true:=by kernel_rfl
theorem Q42:Q6R Tryz.prog 45 = some (.agg #[.int .i64 0,.slice none 0 0]):=by kernel_rfl
theorem Q7P:tRow Tryz.prog 45 = some (.agg #[.int .i64 0,.slice none 0 0],2,32):=by kernel_rfl
theorem tP_45:Q8y Tryz.prog 45 = some [(0,1),(1,1)]:=by kernel_rfl
theorem Q2L:Q2l Tryz.prog 45 0 = some 0:=by kernel_rfl
theorem Q3u:Q2l Tryz.prog 45 1 = some 1:=by kernel_rfl
theorem tS_52:Q1N Tryz.prog 52 = some 1:=by kernel_rfl
theorem tA_52:Q4G Tryz.prog 52 = some false:=by kernel_rfl
theorem Q6y:Q3A Tryz.prog 52 = some 40:=by kernel_rfl
theorem tS_54:Q1N Tryz.prog 54 = some 1:=by kernel_rfl
theorem tA_54:Q4G Tryz.prog 54 = some false:=by kernel_rfl
theorem Q73:Q3A Tryz.prog 54 = some 22:=by kernel_rfl
theorem Q8d:Q1N Tryz.prog 62 = some 1:=by kernel_rfl
theorem Q8c:Q4G Tryz.prog 62 = some false:=by kernel_rfl
theorem tE_62:Q3A Tryz.prog 62 = some 3:=by kernel_rfl
theorem tS_64:Q1N Tryz.prog 64 = some 1:=by kernel_rfl
theorem tA_64:Q4G Tryz.prog 64 = some false:=by kernel_rfl
theorem tZ_66:Q6R Tryz.prog 66 = some (.agg #[.slice none 0 0,.slice none 0 0,.slice none 0 0,.map none]):=by kernel_rfl
theorem tP_66:Q8y Tryz.prog 66 = some [(0,1),(1,1),(2,1),(3,1)]:=by kernel_rfl
theorem Q6j:Q2l Tryz.prog 66 0 = some 0:=by kernel_rfl
theorem Q5W:Q2l Tryz.prog 66 1 = some 1:=by kernel_rfl
theorem Q6b:Q2l Tryz.prog 66 2 = some 2:=by kernel_rfl
theorem Q9H:Q2l Tryz.prog 66 3 = some 3:=by kernel_rfl
theorem tS_68:Q1N Tryz.prog 68 = some 1:=by kernel_rfl
theorem tA_68:Q4G Tryz.prog 68 = some false:=by kernel_rfl
theorem tE_68:Q3A Tryz.prog 68 = some 4:=by kernel_rfl
theorem tZ_70:Q6R Tryz.prog 70 = some (.agg #[.slice none 0 0,.slice none 0 0,.slice none 0 0,.slice none 0 0]):=by kernel_rfl
theorem tP_70:Q8y Tryz.prog 70 = some [(0,2),(2,1),(3,1)]:=by kernel_rfl
theorem tF_70_0:Q2l Tryz.prog 70 0 = some 0:=by kernel_rfl
theorem Q7O:Q2l Tryz.prog 70 1 = some 2:=by kernel_rfl
theorem Q85:Q2l Tryz.prog 70 2 = some 3:=by kernel_rfl
theorem tS_78:Q1N Tryz.prog 78 = some 1:=by kernel_rfl
theorem tA_78:Q4G Tryz.prog 78 = some false:=by kernel_rfl
theorem tS_79:Q1N Tryz.prog 79 = some 1:=by kernel_rfl
theorem tA_79:Q4G Tryz.prog 79 = some false:=by kernel_rfl
theorem tS_80:Q1N Tryz.prog 80 = some 1:=by kernel_rfl
theorem tA_80:Q4G Tryz.prog 80 = some false:=by kernel_rfl
theorem tS_81:Q1N Tryz.prog 81 = some 1:=by kernel_rfl
theorem tA_81:Q4G Tryz.prog 81 = some false:=by kernel_rfl
theorem tS_82:Q1N Tryz.prog 82 = some 1:=by kernel_rfl
theorem tA_82:Q4G Tryz.prog 82 = some false:=by kernel_rfl
theorem tS_83:Q1N Tryz.prog 83 = some 1:=by kernel_rfl
theorem tA_83:Q4G Tryz.prog 83 = some false:=by kernel_rfl
theorem tS_84:Q1N Tryz.prog 84 = some 1:=by kernel_rfl
theorem tA_84:Q4G Tryz.prog 84 = some false:=by kernel_rfl
theorem tS_85:Q1N Tryz.prog 85 = some 1:=by kernel_rfl
theorem tA_85:Q4G Tryz.prog 85 = some false:=by kernel_rfl
theorem tS_86:Q1N Tryz.prog 86 = some 1:=by kernel_rfl
theorem tA_86:Q4G Tryz.prog 86 = some false:=by kernel_rfl
theorem tS_87:Q1N Tryz.prog 87 = some 1:=by kernel_rfl
theorem tA_87:Q4G Tryz.prog 87 = some false:=by kernel_rfl
theorem tS_88:Q1N Tryz.prog 88 = some 1:=by kernel_rfl
theorem tA_88:Q4G Tryz.prog 88 = some false:=by kernel_rfl
theorem tS_89:Q1N Tryz.prog 89 = some 1:=by kernel_rfl
theorem tA_89:Q4G Tryz.prog 89 = some false:=by kernel_rfl
theorem tS_90:Q1N Tryz.prog 90 = some 1:=by kernel_rfl
theorem tA_90:Q4G Tryz.prog 90 = some false:=by kernel_rfl
theorem tS_91:Q1N Tryz.prog 91 = some 1:=by kernel_rfl
theorem tA_91:Q4G Tryz.prog 91 = some false:=by kernel_rfl
theorem tS_92:Q1N Tryz.prog 92 = some 1:=by kernel_rfl
theorem tA_92:Q4G Tryz.prog 92 = some false:=by kernel_rfl
theorem tS_93:Q1N Tryz.prog 93 = some 1:=by kernel_rfl
theorem tA_93:Q4G Tryz.prog 93 = some false:=by kernel_rfl
theorem tS_94:Q1N Tryz.prog 94 = some 1:=by kernel_rfl
theorem tA_94:Q4G Tryz.prog 94 = some false:=by kernel_rfl
theorem tS_95:Q1N Tryz.prog 95 = some 1:=by kernel_rfl
theorem tA_95:Q4G Tryz.prog 95 = some false:=by kernel_rfl
theorem tS_96:Q1N Tryz.prog 96 = some 1:=by kernel_rfl
theorem tA_96:Q4G Tryz.prog 96 = some false:=by kernel_rfl
theorem tS_97:Q1N Tryz.prog 97 = some 1:=by kernel_rfl
theorem tA_97:Q4G Tryz.prog 97 = some false:=by kernel_rfl
theorem tS_98:Q1N Tryz.prog 98 = some 1:=by kernel_rfl
theorem tA_98:Q4G Tryz.prog 98 = some false:=by kernel_rfl
theorem tS_99:Q1N Tryz.prog 99 = some 1:=by kernel_rfl
theorem tA_99:Q4G Tryz.prog 99 = some false:=by kernel_rfl
theorem tS_100:Q1N Tryz.prog 100 = some 1:=by kernel_rfl
theorem tA_100:Q4G Tryz.prog 100 = some false:=by kernel_rfl
theorem tS_101:Q1N Tryz.prog 101 = some 1:=by kernel_rfl
theorem tA_101:Q4G Tryz.prog 101 = some false:=by kernel_rfl
theorem tS_102:Q1N Tryz.prog 102 = some 1:=by kernel_rfl
theorem tA_102:Q4G Tryz.prog 102 = some false:=by kernel_rfl
theorem tS_103:Q1N Tryz.prog 103 = some 1:=by kernel_rfl
theorem tA_103:Q4G Tryz.prog 103 = some false:=by kernel_rfl
theorem tS_104:Q1N Tryz.prog 104 = some 1:=by kernel_rfl
theorem tA_104:Q4G Tryz.prog 104 = some false:=by kernel_rfl
theorem tZ_106:Q6R Tryz.prog 106 = some (.agg #[.slice none 0 0,.slice none 0 0,.slice none 0 0,.slice none 0 0,.slice none 0 0,.slice none 0 0,.slice none 0 0,.slice none 0 0,.slice none 0 0,.slice none 0 0,.slice none 0 0,.slice none 0 0,.slice none 0 0,.slice none 0 0,.slice none 0 0,.slice none 0 0,.slice none 0 0,.slice none 0 0,.slice none 0 0,.slice none 0 0,.slice none 0 0,.slice none 0 0,.slice none 0 0,.slice none 0 0,.slice none 0 0,.slice none 0 0,.slice none 0 0,.slice none 0 0,.slice none 0 0]):=by kernel_rfl
theorem tP_106:Q8y Tryz.prog 106 = some [(0,1),(1,1),(2,1),(3,1),(4,1),(5,1),(6,1),(7,1),(8,1),(9,1),(10,1),(11,1),(12,1),(13,1),(14,1),(15,1),(16,1),(17,1),(18,1),(19,1),(20,1),(21,1),(22,1),(23,1),(24,1),(25,1),(26,1),(27,1),(28,1)]:=by kernel_rfl
theorem tF_106_0:Q2l Tryz.prog 106 0 = some 0:=by kernel_rfl
theorem tF_106_1:Q2l Tryz.prog 106 1 = some 1:=by kernel_rfl
theorem tF_106_2:Q2l Tryz.prog 106 2 = some 2:=by kernel_rfl
theorem tF_106_3:Q2l Tryz.prog 106 3 = some 3:=by kernel_rfl
theorem tF_106_4:Q2l Tryz.prog 106 4 = some 4:=by kernel_rfl
theorem tF_106_5:Q2l Tryz.prog 106 5 = some 5:=by kernel_rfl
theorem tF_106_6:Q2l Tryz.prog 106 6 = some 6:=by kernel_rfl
theorem tF_106_7:Q2l Tryz.prog 106 7 = some 7:=by kernel_rfl
theorem tF_106_8:Q2l Tryz.prog 106 8 = some 8:=by kernel_rfl
theorem tF_106_9:Q2l Tryz.prog 106 9 = some 9:=by kernel_rfl
theorem tF_106_10:Q2l Tryz.prog 106 10 = some 10:=by kernel_rfl
theorem tF_106_11:Q2l Tryz.prog 106 11 = some 11:=by kernel_rfl
theorem tF_106_12:Q2l Tryz.prog 106 12 = some 12:=by kernel_rfl
theorem tF_106_13:Q2l Tryz.prog 106 13 = some 13:=by kernel_rfl
theorem tF_106_14:Q2l Tryz.prog 106 14 = some 14:=by kernel_rfl
theorem tF_106_15:Q2l Tryz.prog 106 15 = some 15:=by kernel_rfl
theorem tF_106_16:Q2l Tryz.prog 106 16 = some 16:=by kernel_rfl
theorem tF_106_17:Q2l Tryz.prog 106 17 = some 17:=by kernel_rfl
theorem tF_106_18:Q2l Tryz.prog 106 18 = some 18:=by kernel_rfl
theorem tF_106_19:Q2l Tryz.prog 106 19 = some 19:=by kernel_rfl
theorem tF_106_20:Q2l Tryz.prog 106 20 = some 20:=by kernel_rfl
theorem tF_106_21:Q2l Tryz.prog 106 21 = some 21:=by kernel_rfl
theorem tF_106_22:Q2l Tryz.prog 106 22 = some 22:=by kernel_rfl
theorem tF_106_23:Q2l Tryz.prog 106 23 = some 23:=by kernel_rfl
theorem tF_106_24:Q2l Tryz.prog 106 24 = some 24:=by kernel_rfl
theorem tF_106_25:Q2l Tryz.prog 106 25 = some 25:=by kernel_rfl
theorem tF_106_26:Q2l Tryz.prog 106 26 = some 26:=by kernel_rfl
theorem tF_106_27:Q2l Tryz.prog 106 27 = some 27:=by kernel_rfl
theorem tF_106_28:Q2l Tryz.prog 106 28 = some 28:=by kernel_rfl
theorem tS_190:Q1N Tryz.prog 190 = some 1:=by kernel_rfl
theorem tA_190:Q4G Tryz.prog 190 = some false:=by kernel_rfl
theorem tE_190:Q3A Tryz.prog 190 = some 194:=by kernel_rfl
theorem Q7A:Q1N Tryz.prog 194 = some 7:=by kernel_rfl
theorem tA_194:Q4G Tryz.prog 194 = some true:=by kernel_rfl
theorem tZ_194:Q6R Tryz.prog 194 = some (.agg #[.int .u8 0,.int .u8 0,.int .i64 0,.string ⟨#[]⟩,.int .i64 0,.int .u8 0,.slice none 0 0]):=by kernel_rfl
theorem tR_194:tRow Tryz.prog 194 = some (.agg #[.int .u8 0,.int .u8 0,.int .i64 0,.string ⟨#[]⟩,.int .i64 0,.int .u8 0,.slice none 0 0],7,80):=by kernel_rfl
theorem tF_194_4:Q2l Tryz.prog 194 4 = some 6:=by kernel_rfl
theorem tS_197:Q1N Tryz.prog 197 = some 1:=by kernel_rfl
theorem tA_197:Q4G Tryz.prog 197 = some false:=by kernel_rfl
theorem tE_197:Q3A Tryz.prog 197 = some 200:=by kernel_rfl
theorem tR_200:tRow Tryz.prog 200 = some (.agg #[.int .u8 0,.int .i64 0,.int .u8 0,.int .i64 0,.string ⟨#[]⟩],5,48):=by kernel_rfl
theorem tS_204:Q1N Tryz.prog 204 = some 10:=by kernel_rfl
theorem tA_204:Q4G Tryz.prog 204 = some true:=by kernel_rfl
theorem tZ_204:Q6R Tryz.prog 204 = some (.agg #[.int .u8 0,.int .i64 0,.slice none 0 0,.int .u8 0,.int .u8 0,.int .i64 0,.string ⟨#[]⟩,.int .i64 0,.int .u8 0,.slice none 0 0]):=by kernel_rfl
theorem tR_204:tRow Tryz.prog 204 = some (.agg #[.int .u8 0,.int .i64 0,.slice none 0 0,.int .u8 0,.int .u8 0,.int .i64 0,.string ⟨#[]⟩,.int .i64 0,.int .u8 0,.slice none 0 0],10,120):=by kernel_rfl
theorem tF_204_2:Q2l Tryz.prog 204 2 = some 2:=by kernel_rfl
theorem tF_204_3:Q2l Tryz.prog 204 3 = some 3:=by kernel_rfl
theorem tS_209:Q1N Tryz.prog 209 = some 4:=by kernel_rfl
theorem tA_209:Q4G Tryz.prog 209 = some true:=by kernel_rfl
theorem tZ_209:Q6R Tryz.prog 209 = some (.agg #[.int .u8 0,.int .i64 0,.int .i64 0,.slice none 0 0]):=by kernel_rfl
theorem tR_209:tRow Tryz.prog 209 = some (.agg #[.int .u8 0,.int .i64 0,.int .i64 0,.slice none 0 0],4,48):=by kernel_rfl
theorem tF_209_3:Q2l Tryz.prog 209 3 = some 3:=by kernel_rfl
theorem tR_213:tRow Tryz.prog 213 = some (.agg #[.string ⟨#[]⟩,.int .i64 0],2,24):=by kernel_rfl
theorem Q8J:Q1N Tryz.prog 305 = some 1:=by kernel_rfl
theorem tA_305:Q4G Tryz.prog 305 = some false:=by kernel_rfl
theorem tZ_305:Q6R Tryz.prog 305 = some (.int .u64 0):=by kernel_rfl
theorem fn_5:Q20 Tryz.prog 5 = true:=by kernel_rfl
theorem fn_6:Q20 Tryz.prog 6 = true:=by kernel_rfl
theorem fn_7:Q20 Tryz.prog 7 = true:=by kernel_rfl
theorem fn_8:Q20 Tryz.prog 8 = true:=by kernel_rfl
theorem fn_9:Q20 Tryz.prog 9 = true:=by kernel_rfl
theorem fn_10:Q20 Tryz.prog 10 = true:=by kernel_rfl
theorem fn_11:Q20 Tryz.prog 11 = true:=by kernel_rfl
theorem fn_12:Q20 Tryz.prog 12 = true:=by kernel_rfl
theorem fn_13:Q20 Tryz.prog 13 = true:=by kernel_rfl
theorem fn_14:Q20 Tryz.prog 14 = true:=by kernel_rfl
theorem fn_15:Q20 Tryz.prog 15 = true:=by kernel_rfl
theorem fn_16:Q20 Tryz.prog 16 = true:=by kernel_rfl
theorem fn_17:Q20 Tryz.prog 17 = true:=by kernel_rfl
theorem Q6O:Q20 Tryz.prog 19 = true:=by kernel_rfl
theorem fn_20:Q20 Tryz.prog 20 = true:=by kernel_rfl
theorem fn_21:Q20 Tryz.prog 21 = true:=by kernel_rfl
theorem fn_22:Q20 Tryz.prog 22 = true:=by kernel_rfl
theorem fn_23:Q20 Tryz.prog 23 = true:=by kernel_rfl
theorem fn_24:Q20 Tryz.prog 24 = true:=by kernel_rfl
theorem fn_25:Q20 Tryz.prog 25 = true:=by kernel_rfl
theorem fn_26:Q20 Tryz.prog 26 = true:=by kernel_rfl
theorem fn_27:Q20 Tryz.prog 27 = true:=by kernel_rfl
theorem fn_28:Q20 Tryz.prog 28 = true:=by kernel_rfl
theorem fn_29:Q20 Tryz.prog 29 = true:=by kernel_rfl
theorem fn_30:Q20 Tryz.prog 30 = true:=by kernel_rfl
theorem fn_31:Q20 Tryz.prog 31 = true:=by kernel_rfl
theorem fn_32:Q20 Tryz.prog 32 = true:=by kernel_rfl
theorem fn_33:Q20 Tryz.prog 33 = true:=by kernel_rfl
theorem fn_34:Q20 Tryz.prog 34 = true:=by kernel_rfl
theorem fn_35:Q20 Tryz.prog 35 = true:=by kernel_rfl
theorem fn_36:Q20 Tryz.prog 36 = true:=by kernel_rfl
theorem fn_37:Q20 Tryz.prog 37 = true:=by kernel_rfl
theorem fn_38:Q20 Tryz.prog 38 = true:=by kernel_rfl
theorem fn_39:Q20 Tryz.prog 39 = true:=by kernel_rfl
theorem Q66:Q20 Tryz.prog 41 = true:=by kernel_rfl
theorem fn_42:Q20 Tryz.prog 42 = true:=by kernel_rfl
theorem fn_43:Q20 Tryz.prog 43 = true:=by kernel_rfl
theorem fn_44:Q20 Tryz.prog 44 = true:=by kernel_rfl
theorem fn_45:Q20 Tryz.prog 45 = true:=by kernel_rfl
theorem fn_46:Q20 Tryz.prog 46 = true:=by kernel_rfl
theorem fn_47:Q20 Tryz.prog 47 = true:=by kernel_rfl
theorem fn_48:Q20 Tryz.prog 48 = true:=by kernel_rfl
theorem fn_49:Q20 Tryz.prog 49 = true:=by kernel_rfl
theorem fn_50:Q20 Tryz.prog 50 = true:=by kernel_rfl
theorem fn_51:Q20 Tryz.prog 51 = true:=by kernel_rfl
theorem fn_52:Q20 Tryz.prog 52 = true:=by kernel_rfl
theorem fn_53:Q20 Tryz.prog 53 = true:=by kernel_rfl
theorem fn_54:Q20 Tryz.prog 54 = true:=by kernel_rfl
theorem fn_55:Q20 Tryz.prog 55 = true:=by kernel_rfl
theorem fn_56:Q20 Tryz.prog 56 = true:=by kernel_rfl
theorem fn_57:Q20 Tryz.prog 57 = true:=by kernel_rfl
theorem fn_58:Q20 Tryz.prog 58 = true:=by kernel_rfl
theorem fn_59:Q20 Tryz.prog 59 = true:=by kernel_rfl
theorem fn_60:Q20 Tryz.prog 60 = true:=by kernel_rfl
theorem fn_61:Q20 Tryz.prog 61 = true:=by kernel_rfl
theorem fn_62:Q20 Tryz.prog 62 = true:=by kernel_rfl
theorem fn_63:Q20 Tryz.prog 63 = true:=by kernel_rfl
theorem fn_64:Q20 Tryz.prog 64 = true:=by kernel_rfl
theorem fn_65:Q20 Tryz.prog 65 = true:=by kernel_rfl
theorem fn_66:Q20 Tryz.prog 66 = true:=by kernel_rfl
theorem fn_67:Q20 Tryz.prog 67 = true:=by kernel_rfl
theorem fn_68:Q20 Tryz.prog 68 = true:=by kernel_rfl
theorem fn_69:Q20 Tryz.prog 69 = true:=by kernel_rfl
theorem fn_70:Q20 Tryz.prog 70 = true:=by kernel_rfl
theorem fn_71:Q20 Tryz.prog 71 = true:=by kernel_rfl
theorem fn_72:Q20 Tryz.prog 72 = true:=by kernel_rfl
theorem fn_73:Q20 Tryz.prog 73 = true:=by kernel_rfl
theorem fn_74:Q20 Tryz.prog 74 = true:=by kernel_rfl
theorem fn_75:Q20 Tryz.prog 75 = true:=by kernel_rfl
theorem fn_76:Q20 Tryz.prog 76 = true:=by kernel_rfl
theorem fn_77:Q20 Tryz.prog 77 = true:=by kernel_rfl
theorem fn_78:Q20 Tryz.prog 78 = true:=by kernel_rfl
theorem fn_79:Q20 Tryz.prog 79 = true:=by kernel_rfl
theorem fn_80:Q20 Tryz.prog 80 = true:=by kernel_rfl
theorem fn_81:Q20 Tryz.prog 81 = true:=by kernel_rfl
theorem fn_82:Q20 Tryz.prog 82 = true:=by kernel_rfl
theorem fn_83:Q20 Tryz.prog 83 = true:=by kernel_rfl
theorem fn_84:Q20 Tryz.prog 84 = true:=by kernel_rfl
theorem fn_85:Q20 Tryz.prog 85 = true:=by kernel_rfl
theorem fn_86:Q20 Tryz.prog 86 = true:=by kernel_rfl
theorem fn_87:Q20 Tryz.prog 87 = true:=by kernel_rfl
theorem fn_90:Q20 Tryz.prog 90 = true:=by kernel_rfl
theorem fn_91:Q20 Tryz.prog 91 = true:=by kernel_rfl
theorem fn_92:Q20 Tryz.prog 92 = true:=by kernel_rfl
theorem fn_93:Q20 Tryz.prog 93 = true:=by kernel_rfl
theorem fn_94:Q20 Tryz.prog 94 = true:=by kernel_rfl
theorem fn_95:Q20 Tryz.prog 95 = true:=by kernel_rfl
theorem fn_96:Q20 Tryz.prog 96 = true:=by kernel_rfl
theorem fn_97:Q20 Tryz.prog 97 = true:=by kernel_rfl
theorem fn_98:Q20 Tryz.prog 98 = true:=by kernel_rfl
theorem fn_99:Q20 Tryz.prog 99 = true:=by kernel_rfl
theorem fn_100:Q20 Tryz.prog 100 = true:=by kernel_rfl
theorem fn_101:Q20 Tryz.prog 101 = true:=by kernel_rfl
theorem fn_102:Q20 Tryz.prog 102 = true:=by kernel_rfl
theorem fn_144:Q20 Tryz.prog 144 = true:=by kernel_rfl
theorem fn_145:Q20 Tryz.prog 145 = true:=by kernel_rfl
theorem fn_148:Q20 Tryz.prog 148 = true:=by kernel_rfl
theorem fn_149:Q20 Tryz.prog 149 = true:=by kernel_rfl
theorem fn_150:Q20 Tryz.prog 150 = true:=by kernel_rfl
theorem fn_151:Q20 Tryz.prog 151 = true:=by kernel_rfl
theorem fn_152:Q20 Tryz.prog 152 = true:=by kernel_rfl
theorem fn_153:Q20 Tryz.prog 153 = true:=by kernel_rfl
theorem fn_154:Q20 Tryz.prog 154 = true:=by kernel_rfl
theorem fn_155:Q20 Tryz.prog 155 = true:=by kernel_rfl
theorem fn_157:Q20 Tryz.prog 157 = true:=by kernel_rfl
theorem fn_158:Q20 Tryz.prog 158 = true:=by kernel_rfl
theorem fn_159:Q20 Tryz.prog 159 = true:=by kernel_rfl
theorem fn_160:Q20 Tryz.prog 160 = true:=by kernel_rfl
theorem fn_173:Q20 Tryz.prog 173 = true:=by kernel_rfl
theorem fn_174:Q20 Tryz.prog 174 = true:=by kernel_rfl
theorem fn_175:Q20 Tryz.prog 175 = true:=by kernel_rfl
theorem fn_176:Q20 Tryz.prog 176 = true:=by kernel_rfl
theorem fn_177:Q20 Tryz.prog 177 = true:=by kernel_rfl
theorem fn_178:Q20 Tryz.prog 178 = true:=by kernel_rfl
theorem fn_179:Q20 Tryz.prog 179 = true:=by kernel_rfl
theorem fn_192:Q20 Tryz.prog 192 = true:=by kernel_rfl
theorem fn_193:Q20 Tryz.prog 193 = true:=by kernel_rfl
theorem fn_194:Q20 Tryz.prog 194 = true:=by kernel_rfl
theorem fn_195:Q20 Tryz.prog 195 = true:=by kernel_rfl
end Go.Proofs.YtgangmegcejllaaGreatDoor
