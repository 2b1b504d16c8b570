import Derived.Test.YtgangmegcejllaaGreatDoorChecked
import Derived.Test.YtgangmegcejllaaGreatDoorIdx
namespace Go.Proofs.YtgangmegcejllaaGreatDoor
open Go.RowKit
theorem Q1i:Q1G Tryz.prog 3 = some 1:=by kernel_rfl
theorem Q2d:Q3e Tryz.prog 3 = some false:=by kernel_rfl
theorem Q3S:Q6I Tryz.prog 3 = some (.int .i64 0):=by kernel_rfl
theorem tR_3:tRow Tryz.prog 3 = some (.int .i64 0,1,8):=by kernel_rfl
theorem tS_4:Q1G Tryz.prog 4 = some 1:=by kernel_rfl
theorem tA_4:Q3e Tryz.prog 4 = some false:=by kernel_rfl
theorem tZ_4:Q6I Tryz.prog 4 = some (.bool false):=by kernel_rfl
theorem tR_4:tRow Tryz.prog 4 = some (.bool false,1,1):=by kernel_rfl
theorem tS_9:Q1G Tryz.prog 9 = some 1:=by kernel_rfl
theorem tA_9:Q3e Tryz.prog 9 = some false:=by kernel_rfl
theorem Q1T:Q1G Tryz.prog 22 = some 1:=by kernel_rfl
theorem Q2Q:Q3e Tryz.prog 22 = some false:=by kernel_rfl
theorem tZ_22:Q6I Tryz.prog 22 = some (.slice none 0 0):=by kernel_rfl
theorem tR_22:tRow Tryz.prog 22 = some (.slice none 0 0,1,24):=by kernel_rfl
theorem Q1a:Q2E Tryz.prog 22 = some 3:=by kernel_rfl
theorem tE_23:Q2E Tryz.prog 23 = some 42:=by kernel_rfl
theorem tS_25:Q1G Tryz.prog 25 = some 1:=by kernel_rfl
theorem tA_25:Q3e Tryz.prog 25 = some false:=by kernel_rfl
theorem tE_25:Q2E Tryz.prog 25 = some 213:=by kernel_rfl
theorem Q7q:Q1G Tryz.prog 26 = some 1:=by kernel_rfl
theorem Q85:Q3e Tryz.prog 26 = some false:=by kernel_rfl
theorem Q60:Q2E Tryz.prog 26 = some 38:=by kernel_rfl
theorem Q4z:Q1G Tryz.prog 28 = some 2:=by kernel_rfl
theorem Q5L:Q3e Tryz.prog 28 = some true:=by kernel_rfl
theorem tZ_28:Q6I Tryz.prog 28 = some (.agg #[.slice none 0 0,.slice none 0 0]):=by kernel_rfl
theorem tF_28_0:Q1N Tryz.prog 28 0 = some 0:=by kernel_rfl
theorem Q4a:Q1N Tryz.prog 28 1 = some 1:=by kernel_rfl
theorem Q5N:Q1G Tryz.prog 30 = some 1:=by kernel_rfl
theorem Q5M:Q3e Tryz.prog 30 = some false:=by kernel_rfl
theorem tS_35:Q1G Tryz.prog 35 = some 1:=by kernel_rfl
theorem tA_35:Q3e Tryz.prog 35 = some false:=by kernel_rfl
theorem tE_35:Q2E Tryz.prog 35 = some 204:=by kernel_rfl
theorem tS_36:Q1G Tryz.prog 36 = some 1:=by kernel_rfl
theorem tA_36:Q3e Tryz.prog 36 = some false:=by kernel_rfl
theorem tE_36:Q2E Tryz.prog 36 = some 209:=by kernel_rfl
theorem Q7D:Q1G Tryz.prog 38 = some 5:=by kernel_rfl
theorem tA_38:Q3e Tryz.prog 38 = some true:=by kernel_rfl
theorem tZ_38:Q6I Tryz.prog 38 = some (.agg #[.string ⟨#[]⟩,.int .i64 0,.int .i64 0,.slice none 0 0,.slice none 0 0]):=by kernel_rfl
theorem tR_38:tRow Tryz.prog 38 = some (.agg #[.string ⟨#[]⟩,.int .i64 0,.int .i64 0,.slice none 0 0,.slice none 0 0],5,80):=by kernel_rfl
theorem tP_38:Q8x Tryz.prog 38 = some [(0,1),(1,1),(2,1),(3,1),(4,1)]:=by kernel_rfl
theorem tF_38_0:Q1N Tryz.prog 38 0 = some 0:=by kernel_rfl
theorem Q9K:Q1N Tryz.prog 38 1 = some 1:=by kernel_rfl
theorem tF_38_2:Q1N Tryz.prog 38 2 = some 2:=by kernel_rfl
theorem tF_38_3:Q1N Tryz.prog 38 3 = some 3:=by kernel_rfl
theorem tF_38_4:Q1N Tryz.prog 38 4 = some 4:=by kernel_rfl
theorem Q1O:Q1G Tryz.prog 40 = some 1:=by kernel_rfl
theorem Q2I:Q3e Tryz.prog 40 = some false:=by kernel_rfl
theorem tZ_40:Q6I Tryz.prog 40 = some (.slice none 0 0):=by kernel_rfl
theorem tR_40:tRow Tryz.prog 40 = some (.slice none 0 0,1,24):=by kernel_rfl
theorem QG:Q2E Tryz.prog 40 = some 45:=by kernel_rfl
theorem tS_42:Q1G Tryz.prog 42 = some 3:=by kernel_rfl
theorem tA_42:Q3e Tryz.prog 42 = some true:=by kernel_rfl
theorem Q8H:Q6I Tryz.prog 42 = some (.agg #[.int .i64 0,.int .i64 0,.slice none 0 0]):=by kernel_rfl
theorem Q9M:Q8x Tryz.prog 42 = some [(0,1),(1,1),(2,1)]:=by kernel_rfl
theorem tF_42_0:Q1N Tryz.prog 42 0 = some 0:=by kernel_rfl
theorem tF_42_1:Q1N Tryz.prog 42 1 = some 1:=by kernel_rfl
theorem Q9L:Q1N Tryz.prog 42 2 = some 2:=by kernel_rfl
theorem Qg:Q1G Tryz.prog 45 = some 2:=by kernel_rfl
theorem QT:Q3e Tryz.prog 45 = some true:=by kernel_rfl
theorem Q1X:Q6I Tryz.prog 45 = some (.agg #[.int .i64 0,.slice none 0 0]):=by kernel_rfl
theorem Q8i:tRow Tryz.prog 45 = some (.agg #[.int .i64 0,.slice none 0 0],2,32):=by kernel_rfl
theorem tP_45:Q8x Tryz.prog 45 = some [(0,1),(1,1)]:=by kernel_rfl
theorem Q22:Q1N Tryz.prog 45 0 = some 0:=by kernel_rfl
theorem Q2i:Q1N Tryz.prog 45 1 = some 1:=by kernel_rfl
theorem tS_52:Q1G Tryz.prog 52 = some 1:=by kernel_rfl
theorem tA_52:Q3e Tryz.prog 52 = some false:=by kernel_rfl
theorem Q6y:Q2E Tryz.prog 52 = some 40:=by kernel_rfl
theorem tS_54:Q1G Tryz.prog 54 = some 1:=by kernel_rfl
theorem tA_54:Q3e Tryz.prog 54 = some false:=by kernel_rfl
theorem Q59:Q2E Tryz.prog 54 = some 22:=by kernel_rfl
theorem Q8G:Q1G Tryz.prog 62 = some 1:=by kernel_rfl
theorem Q8F:Q3e Tryz.prog 62 = some false:=by kernel_rfl
theorem tE_62:Q2E Tryz.prog 62 = some 3:=by kernel_rfl
theorem tS_64:Q1G Tryz.prog 64 = some 1:=by kernel_rfl
theorem tA_64:Q3e Tryz.prog 64 = some false:=by kernel_rfl
theorem tZ_66:Q6I Tryz.prog 66 = some (.agg #[.slice none 0 0,.slice none 0 0,.slice none 0 0,.map none]):=by kernel_rfl
theorem tP_66:Q8x Tryz.prog 66 = some [(0,1),(1,1),(2,1),(3,1)]:=by kernel_rfl
theorem Q61:Q1N Tryz.prog 66 0 = some 0:=by kernel_rfl
theorem Q5j:Q1N Tryz.prog 66 1 = some 1:=by kernel_rfl
theorem Q5K:Q1N Tryz.prog 66 2 = some 2:=by kernel_rfl
theorem Qaj:Q1N Tryz.prog 66 3 = some 3:=by kernel_rfl
theorem tS_68:Q1G Tryz.prog 68 = some 1:=by kernel_rfl
theorem tA_68:Q3e Tryz.prog 68 = some false:=by kernel_rfl
theorem tE_68:Q2E Tryz.prog 68 = some 4:=by kernel_rfl
theorem tZ_70:Q6I Tryz.prog 70 = some (.agg #[.slice none 0 0,.slice none 0 0,.slice none 0 0,.slice none 0 0]):=by kernel_rfl
theorem tP_70:Q8x Tryz.prog 70 = some [(0,2),(2,1),(3,1)]:=by kernel_rfl
theorem tF_70_0:Q1N Tryz.prog 70 0 = some 0:=by kernel_rfl
theorem Q8h:Q1N Tryz.prog 70 1 = some 2:=by kernel_rfl
theorem Q8w:Q1N Tryz.prog 70 2 = some 3:=by kernel_rfl
theorem tS_78:Q1G Tryz.prog 78 = some 1:=by kernel_rfl
theorem tA_78:Q3e Tryz.prog 78 = some false:=by kernel_rfl
theorem tS_79:Q1G Tryz.prog 79 = some 1:=by kernel_rfl
theorem tA_79:Q3e Tryz.prog 79 = some false:=by kernel_rfl
theorem tS_80:Q1G Tryz.prog 80 = some 1:=by kernel_rfl
theorem tA_80:Q3e Tryz.prog 80 = some false:=by kernel_rfl
theorem tS_81:Q1G Tryz.prog 81 = some 1:=by kernel_rfl
theorem tA_81:Q3e Tryz.prog 81 = some false:=by kernel_rfl
theorem tS_82:Q1G Tryz.prog 82 = some 1:=by kernel_rfl
theorem tA_82:Q3e Tryz.prog 82 = some false:=by kernel_rfl
theorem tS_83:Q1G Tryz.prog 83 = some 1:=by kernel_rfl
theorem tA_83:Q3e Tryz.prog 83 = some false:=by kernel_rfl
theorem tS_84:Q1G Tryz.prog 84 = some 1:=by kernel_rfl
theorem tA_84:Q3e Tryz.prog 84 = some false:=by kernel_rfl
theorem tS_85:Q1G Tryz.prog 85 = some 1:=by kernel_rfl
theorem tA_85:Q3e Tryz.prog 85 = some false:=by kernel_rfl
theorem tS_86:Q1G Tryz.prog 86 = some 1:=by kernel_rfl
theorem tA_86:Q3e Tryz.prog 86 = some false:=by kernel_rfl
theorem tS_87:Q1G Tryz.prog 87 = some 1:=by kernel_rfl
theorem tA_87:Q3e Tryz.prog 87 = some false:=by kernel_rfl
theorem tS_88:Q1G Tryz.prog 88 = some 1:=by kernel_rfl
theorem tA_88:Q3e Tryz.prog 88 = some false:=by kernel_rfl
theorem tS_89:Q1G Tryz.prog 89 = some 1:=by kernel_rfl
theorem tA_89:Q3e Tryz.prog 89 = some false:=by kernel_rfl
theorem tS_90:Q1G Tryz.prog 90 = some 1:=by kernel_rfl
theorem tA_90:Q3e Tryz.prog 90 = some false:=by kernel_rfl
theorem tS_91:Q1G Tryz.prog 91 = some 1:=by kernel_rfl
theorem tA_91:Q3e Tryz.prog 91 = some false:=by kernel_rfl
theorem tS_92:Q1G Tryz.prog 92 = some 1:=by kernel_rfl
theorem tA_92:Q3e Tryz.prog 92 = some false:=by kernel_rfl
theorem tS_93:Q1G Tryz.prog 93 = some 1:=by kernel_rfl
theorem tA_93:Q3e Tryz.prog 93 = some false:=by kernel_rfl
theorem tS_94:Q1G Tryz.prog 94 = some 1:=by kernel_rfl
theorem tA_94:Q3e Tryz.prog 94 = some false:=by kernel_rfl
theorem tS_95:Q1G Tryz.prog 95 = some 1:=by kernel_rfl
theorem tA_95:Q3e Tryz.prog 95 = some false:=by kernel_rfl
theorem tS_96:Q1G Tryz.prog 96 = some 1:=by kernel_rfl
theorem tA_96:Q3e Tryz.prog 96 = some false:=by kernel_rfl
theorem tS_97:Q1G Tryz.prog 97 = some 1:=by kernel_rfl
theorem tA_97:Q3e Tryz.prog 97 = some false:=by kernel_rfl
theorem tS_98:Q1G Tryz.prog 98 = some 1:=by kernel_rfl
theorem tA_98:Q3e Tryz.prog 98 = some false:=by kernel_rfl
theorem tS_99:Q1G Tryz.prog 99 = some 1:=by kernel_rfl
theorem tA_99:Q3e Tryz.prog 99 = some false:=by kernel_rfl
theorem tS_100:Q1G Tryz.prog 100 = some 1:=by kernel_rfl
theorem tA_100:Q3e Tryz.prog 100 = some false:=by kernel_rfl
theorem tS_101:Q1G Tryz.prog 101 = some 1:=by kernel_rfl
theorem tA_101:Q3e Tryz.prog 101 = some false:=by kernel_rfl
theorem tS_102:Q1G Tryz.prog 102 = some 1:=by kernel_rfl
theorem tA_102:Q3e Tryz.prog 102 = some false:=by kernel_rfl
theorem tS_103:Q1G Tryz.prog 103 = some 1:=by kernel_rfl
theorem tA_103:Q3e Tryz.prog 103 = some false:=by kernel_rfl
theorem tS_104:Q1G Tryz.prog 104 = some 1:=by kernel_rfl
theorem tA_104:Q3e Tryz.prog 104 = some false:=by kernel_rfl
theorem tZ_106:Q6I Tryz.prog 106 = some (.agg #[.slice none 0 0,.slice none 0 0,.slice none 0 0,.slice none 0 0,.slice none 0 0,.slice none 0 0,.slice none 0 0,.slice none 0 0,.slice none 0 0,.slice none 0 0,.slice none 0 0,.slice none 0 0,.slice none 0 0,.slice none 0 0,.slice none 0 0,.slice none 0 0,.slice none 0 0,.slice none 0 0,.slice none 0 0,.slice none 0 0,.slice none 0 0,.slice none 0 0,.slice none 0 0,.slice none 0 0,.slice none 0 0,.slice none 0 0,.slice none 0 0,.slice none 0 0,.slice none 0 0]):=by kernel_rfl
theorem tP_106:Q8x Tryz.prog 106 = some [(0,1),(1,1),(2,1),(3,1),(4,1),(5,1),(6,1),(7,1),(8,1),(9,1),(10,1),(11,1),(12,1),(13,1),(14,1),(15,1),(16,1),(17,1),(18,1),(19,1),(20,1),(21,1),(22,1),(23,1),(24,1),(25,1),(26,1),(27,1),(28,1)]:=by kernel_rfl
theorem tF_106_0:Q1N Tryz.prog 106 0 = some 0:=by kernel_rfl
theorem tF_106_1:Q1N Tryz.prog 106 1 = some 1:=by kernel_rfl
theorem tF_106_2:Q1N Tryz.prog 106 2 = some 2:=by kernel_rfl
theorem tF_106_3:Q1N Tryz.prog 106 3 = some 3:=by kernel_rfl
theorem tF_106_4:Q1N Tryz.prog 106 4 = some 4:=by kernel_rfl
theorem tF_106_5:Q1N Tryz.prog 106 5 = some 5:=by kernel_rfl
theorem tF_106_6:Q1N Tryz.prog 106 6 = some 6:=by kernel_rfl
theorem tF_106_7:Q1N Tryz.prog 106 7 = some 7:=by kernel_rfl
theorem tF_106_8:Q1N Tryz.prog 106 8 = some 8:=by kernel_rfl
theorem tF_106_9:Q1N Tryz.prog 106 9 = some 9:=by kernel_rfl
theorem tF_106_10:Q1N Tryz.prog 106 10 = some 10:=by kernel_rfl
theorem tF_106_11:Q1N Tryz.prog 106 11 = some 11:=by kernel_rfl
theorem tF_106_12:Q1N Tryz.prog 106 12 = some 12:=by kernel_rfl
theorem tF_106_13:Q1N Tryz.prog 106 13 = some 13:=by kernel_rfl
theorem tF_106_14:Q1N Tryz.prog 106 14 = some 14:=by kernel_rfl
theorem tF_106_15:Q1N Tryz.prog 106 15 = some 15:=by kernel_rfl
theorem tF_106_16:Q1N Tryz.prog 106 16 = some 16:=by kernel_rfl
theorem tF_106_17:Q1N Tryz.prog 106 17 = some 17:=by kernel_rfl
theorem tF_106_18:Q1N Tryz.prog 106 18 = some 18:=by kernel_rfl
theorem tF_106_19:Q1N Tryz.prog 106 19 = some 19:=by kernel_rfl
theorem tF_106_20:Q1N Tryz.prog 106 20 = some 20:=by kernel_rfl
theorem tF_106_21:Q1N Tryz.prog 106 21 = some 21:=by kernel_rfl
theorem tF_106_22:Q1N Tryz.prog 106 22 = some 22:=by kernel_rfl
theorem tF_106_23:Q1N Tryz.prog 106 23 = some 23:=by kernel_rfl
theorem tF_106_24:Q1N Tryz.prog 106 24 = some 24:=by kernel_rfl
theorem tF_106_25:Q1N Tryz.prog 106 25 = some 25:=by kernel_rfl
theorem tF_106_26:Q1N Tryz.prog 106 26 = some 26:=by kernel_rfl
theorem tF_106_27:Q1N Tryz.prog 106 27 = some 27:=by kernel_rfl
theorem tF_106_28:Q1N Tryz.prog 106 28 = some 28:=by kernel_rfl
theorem tS_172:Q1G Tryz.prog 172 = some 3:=by kernel_rfl
theorem tA_172:Q3e Tryz.prog 172 = some true:=by kernel_rfl
theorem tS_190:Q1G Tryz.prog 190 = some 1:=by kernel_rfl
theorem tA_190:Q3e Tryz.prog 190 = some false:=by kernel_rfl
theorem Q7e:Q2E Tryz.prog 190 = some 194:=by kernel_rfl
theorem tS_191:Q1G Tryz.prog 191 = some 1:=by kernel_rfl
theorem tA_191:Q3e Tryz.prog 191 = some false:=by kernel_rfl
theorem tS_192:Q1G Tryz.prog 192 = some 1:=by kernel_rfl
theorem tA_192:Q3e Tryz.prog 192 = some false:=by kernel_rfl
theorem Q53:Q1G Tryz.prog 194 = some 7:=by kernel_rfl
theorem Q8t:Q3e Tryz.prog 194 = some true:=by kernel_rfl
theorem tZ_194:Q6I Tryz.prog 194 = some (.agg #[.int .u8 0,.int .u8 0,.int .i64 0,.string ⟨#[]⟩,.int .i64 0,.int .u8 0,.slice none 0 0]):=by kernel_rfl
theorem tR_194:tRow Tryz.prog 194 = some (.agg #[.int .u8 0,.int .u8 0,.int .i64 0,.string ⟨#[]⟩,.int .i64 0,.int .u8 0,.slice none 0 0],7,80):=by kernel_rfl
theorem tF_194_0:Q1N Tryz.prog 194 0 = some 0:=by kernel_rfl
theorem tF_194_1:Q1N Tryz.prog 194 1 = some 1:=by kernel_rfl
theorem tF_194_2:Q1N Tryz.prog 194 2 = some 4:=by kernel_rfl
theorem tF_194_3:Q1N Tryz.prog 194 3 = some 5:=by kernel_rfl
theorem tF_194_4:Q1N Tryz.prog 194 4 = some 6:=by kernel_rfl
theorem tS_197:Q1G Tryz.prog 197 = some 1:=by kernel_rfl
theorem tA_197:Q3e Tryz.prog 197 = some false:=by kernel_rfl
theorem tE_197:Q2E Tryz.prog 197 = some 200:=by kernel_rfl
theorem tS_200:Q1G Tryz.prog 200 = some 5:=by kernel_rfl
theorem tA_200:Q3e Tryz.prog 200 = some true:=by kernel_rfl
theorem tR_200:tRow Tryz.prog 200 = some (.agg #[.int .u8 0,.int .i64 0,.int .u8 0,.int .i64 0,.string ⟨#[]⟩],5,48):=by kernel_rfl
theorem tS_202:Q1G Tryz.prog 202 = some 1:=by kernel_rfl
theorem tA_202:Q3e Tryz.prog 202 = some false:=by kernel_rfl
theorem Q8S:Q1G Tryz.prog 204 = some 10:=by kernel_rfl
theorem tA_204:Q3e Tryz.prog 204 = some true:=by kernel_rfl
theorem tZ_204:Q6I Tryz.prog 204 = some (.agg #[.int .u8 0,.int .i64 0,.slice none 0 0,.int .u8 0,.int .u8 0,.int .i64 0,.string ⟨#[]⟩,.int .i64 0,.int .u8 0,.slice none 0 0]):=by kernel_rfl
theorem tR_204:tRow Tryz.prog 204 = some (.agg #[.int .u8 0,.int .i64 0,.slice none 0 0,.int .u8 0,.int .u8 0,.int .i64 0,.string ⟨#[]⟩,.int .i64 0,.int .u8 0,.slice none 0 0],10,120):=by kernel_rfl
theorem tF_204_0:Q1N Tryz.prog 204 0 = some 0:=by kernel_rfl
theorem tF_204_1:Q1N Tryz.prog 204 1 = some 1:=by kernel_rfl
theorem tF_204_2:Q1N Tryz.prog 204 2 = some 2:=by kernel_rfl
theorem tF_204_3:Q1N Tryz.prog 204 3 = some 3:=by kernel_rfl
theorem tS_207:Q1G Tryz.prog 207 = some 1:=by kernel_rfl
theorem tA_207:Q3e Tryz.prog 207 = some false:=by kernel_rfl
theorem Q8T:Q1G Tryz.prog 209 = some 4:=by kernel_rfl
theorem tA_209:Q3e Tryz.prog 209 = some true:=by kernel_rfl
theorem tZ_209:Q6I Tryz.prog 209 = some (.agg #[.int .u8 0,.int .i64 0,.int .i64 0,.slice none 0 0]):=by kernel_rfl
theorem tR_209:tRow Tryz.prog 209 = some (.agg #[.int .u8 0,.int .i64 0,.int .i64 0,.slice none 0 0],4,48):=by kernel_rfl
theorem tF_209_0:Q1N Tryz.prog 209 0 = some 0:=by kernel_rfl
theorem tF_209_1:Q1N Tryz.prog 209 1 = some 1:=by kernel_rfl
theorem tF_209_2:Q1N Tryz.prog 209 2 = some 2:=by kernel_rfl
theorem tF_209_3:Q1N Tryz.prog 209 3 = some 3:=by kernel_rfl
theorem tS_213:Q1G Tryz.prog 213 = some 2:=by kernel_rfl
theorem tA_213:Q3e Tryz.prog 213 = some true:=by kernel_rfl
theorem tR_213:tRow Tryz.prog 213 = some (.agg #[.string ⟨#[]⟩,.int .i64 0],2,24):=by kernel_rfl
theorem Q9j:Q1G Tryz.prog 305 = some 1:=by kernel_rfl
theorem tA_305:Q3e Tryz.prog 305 = some false:=by kernel_rfl
theorem tZ_305:Q6I Tryz.prog 305 = some (.int .u64 0):=by kernel_rfl
theorem fn_3:Q1M Tryz.prog 3 = true:=by kernel_rfl
theorem fn_5:Q1M Tryz.prog 5 = true:=by kernel_rfl
theorem fn_6:Q1M Tryz.prog 6 = true:=by kernel_rfl
theorem fn_7:Q1M Tryz.prog 7 = true:=by kernel_rfl
theorem fn_8:Q1M Tryz.prog 8 = true:=by kernel_rfl
theorem fn_9:Q1M Tryz.prog 9 = true:=by kernel_rfl
theorem fn_10:Q1M Tryz.prog 10 = true:=by kernel_rfl
theorem fn_11:Q1M Tryz.prog 11 = true:=by kernel_rfl
theorem fn_12:Q1M Tryz.prog 12 = true:=by kernel_rfl
theorem fn_13:Q1M Tryz.prog 13 = true:=by kernel_rfl
theorem fn_14:Q1M Tryz.prog 14 = true:=by kernel_rfl
theorem fn_15:Q1M Tryz.prog 15 = true:=by kernel_rfl
theorem fn_16:Q1M Tryz.prog 16 = true:=by kernel_rfl
theorem fn_17:Q1M Tryz.prog 17 = true:=by kernel_rfl
theorem fn_18:Q1M Tryz.prog 18 = true:=by kernel_rfl
theorem Q32:Q1M Tryz.prog 19 = true:=by kernel_rfl
theorem fn_20:Q1M Tryz.prog 20 = true:=by kernel_rfl
theorem fn_21:Q1M Tryz.prog 21 = true:=by kernel_rfl
theorem fn_22:Q1M Tryz.prog 22 = true:=by kernel_rfl
theorem fn_23:Q1M Tryz.prog 23 = true:=by kernel_rfl
theorem fn_24:Q1M Tryz.prog 24 = true:=by kernel_rfl
theorem fn_25:Q1M Tryz.prog 25 = true:=by kernel_rfl
theorem fn_26:Q1M Tryz.prog 26 = true:=by kernel_rfl
theorem fn_27:Q1M Tryz.prog 27 = true:=by kernel_rfl
theorem fn_28:Q1M Tryz.prog 28 = true:=by kernel_rfl
theorem fn_29:Q1M Tryz.prog 29 = true:=by kernel_rfl
theorem fn_30:Q1M Tryz.prog 30 = true:=by kernel_rfl
theorem fn_31:Q1M Tryz.prog 31 = true:=by kernel_rfl
theorem fn_32:Q1M Tryz.prog 32 = true:=by kernel_rfl
theorem fn_33:Q1M Tryz.prog 33 = true:=by kernel_rfl
theorem fn_34:Q1M Tryz.prog 34 = true:=by kernel_rfl
theorem fn_35:Q1M Tryz.prog 35 = true:=by kernel_rfl
theorem fn_36:Q1M Tryz.prog 36 = true:=by kernel_rfl
theorem fn_37:Q1M Tryz.prog 37 = true:=by kernel_rfl
theorem Q8A:Q1M Tryz.prog 38 = true:=by kernel_rfl
theorem fn_39:Q1M Tryz.prog 39 = true:=by kernel_rfl
theorem fn_40:Q1M Tryz.prog 40 = true:=by kernel_rfl
theorem Q5o:Q1M Tryz.prog 41 = true:=by kernel_rfl
theorem fn_42:Q1M Tryz.prog 42 = true:=by kernel_rfl
theorem fn_43:Q1M Tryz.prog 43 = true:=by kernel_rfl
theorem fn_44:Q1M Tryz.prog 44 = true:=by kernel_rfl
theorem fn_45:Q1M Tryz.prog 45 = true:=by kernel_rfl
theorem fn_46:Q1M Tryz.prog 46 = true:=by kernel_rfl
theorem fn_47:Q1M Tryz.prog 47 = true:=by kernel_rfl
theorem fn_48:Q1M Tryz.prog 48 = true:=by kernel_rfl
theorem fn_49:Q1M Tryz.prog 49 = true:=by kernel_rfl
theorem fn_50:Q1M Tryz.prog 50 = true:=by kernel_rfl
theorem fn_51:Q1M Tryz.prog 51 = true:=by kernel_rfl
theorem fn_52:Q1M Tryz.prog 52 = true:=by kernel_rfl
theorem fn_53:Q1M Tryz.prog 53 = true:=by kernel_rfl
theorem fn_54:Q1M Tryz.prog 54 = true:=by kernel_rfl
theorem fn_55:Q1M Tryz.prog 55 = true:=by kernel_rfl
theorem fn_56:Q1M Tryz.prog 56 = true:=by kernel_rfl
theorem fn_57:Q1M Tryz.prog 57 = true:=by kernel_rfl
theorem fn_58:Q1M Tryz.prog 58 = true:=by kernel_rfl
theorem fn_59:Q1M Tryz.prog 59 = true:=by kernel_rfl
theorem fn_60:Q1M Tryz.prog 60 = true:=by kernel_rfl
theorem fn_61:Q1M Tryz.prog 61 = true:=by kernel_rfl
theorem fn_62:Q1M Tryz.prog 62 = true:=by kernel_rfl
theorem fn_63:Q1M Tryz.prog 63 = true:=by kernel_rfl
theorem fn_64:Q1M Tryz.prog 64 = true:=by kernel_rfl
theorem fn_65:Q1M Tryz.prog 65 = true:=by kernel_rfl
theorem fn_66:Q1M Tryz.prog 66 = true:=by kernel_rfl
theorem fn_67:Q1M Tryz.prog 67 = true:=by kernel_rfl
theorem fn_68:Q1M Tryz.prog 68 = true:=by kernel_rfl
theorem fn_69:Q1M Tryz.prog 69 = true:=by kernel_rfl
theorem fn_70:Q1M Tryz.prog 70 = true:=by kernel_rfl
theorem fn_71:Q1M Tryz.prog 71 = true:=by kernel_rfl
theorem fn_72:Q1M Tryz.prog 72 = true:=by kernel_rfl
theorem fn_73:Q1M Tryz.prog 73 = true:=by kernel_rfl
theorem fn_74:Q1M Tryz.prog 74 = true:=by kernel_rfl
theorem fn_75:Q1M Tryz.prog 75 = true:=by kernel_rfl
theorem fn_76:Q1M Tryz.prog 76 = true:=by kernel_rfl
theorem fn_77:Q1M Tryz.prog 77 = true:=by kernel_rfl
theorem fn_78:Q1M Tryz.prog 78 = true:=by kernel_rfl
theorem fn_79:Q1M Tryz.prog 79 = true:=by kernel_rfl
theorem fn_80:Q1M Tryz.prog 80 = true:=by kernel_rfl
theorem fn_81:Q1M Tryz.prog 81 = true:=by kernel_rfl
theorem fn_82:Q1M Tryz.prog 82 = true:=by kernel_rfl
theorem fn_83:Q1M Tryz.prog 83 = true:=by kernel_rfl
theorem fn_84:Q1M Tryz.prog 84 = true:=by kernel_rfl
theorem fn_85:Q1M Tryz.prog 85 = true:=by kernel_rfl
theorem fn_86:Q1M Tryz.prog 86 = true:=by kernel_rfl
theorem fn_87:Q1M Tryz.prog 87 = true:=by kernel_rfl
theorem fn_88:Q1M Tryz.prog 88 = true:=by kernel_rfl
theorem fn_89:Q1M Tryz.prog 89 = true:=by kernel_rfl
theorem fn_90:Q1M Tryz.prog 90 = true:=by kernel_rfl
theorem fn_91:Q1M Tryz.prog 91 = true:=by kernel_rfl
theorem fn_92:Q1M Tryz.prog 92 = true:=by kernel_rfl
theorem fn_93:Q1M Tryz.prog 93 = true:=by kernel_rfl
theorem fn_94:Q1M Tryz.prog 94 = true:=by kernel_rfl
theorem fn_95:Q1M Tryz.prog 95 = true:=by kernel_rfl
theorem fn_96:Q1M Tryz.prog 96 = true:=by kernel_rfl
theorem fn_97:Q1M Tryz.prog 97 = true:=by kernel_rfl
theorem fn_98:Q1M Tryz.prog 98 = true:=by kernel_rfl
theorem fn_99:Q1M Tryz.prog 99 = true:=by kernel_rfl
theorem fn_100:Q1M Tryz.prog 100 = true:=by kernel_rfl
theorem fn_101:Q1M Tryz.prog 101 = true:=by kernel_rfl
theorem fn_102:Q1M Tryz.prog 102 = true:=by kernel_rfl
theorem fn_112:Q1M Tryz.prog 112 = true:=by kernel_rfl
theorem fn_115:Q1M Tryz.prog 115 = true:=by kernel_rfl
theorem fn_117:Q1M Tryz.prog 117 = true:=by kernel_rfl
theorem fn_120:Q1M Tryz.prog 120 = true:=by kernel_rfl
theorem fn_144:Q1M Tryz.prog 144 = true:=by kernel_rfl
theorem fn_145:Q1M Tryz.prog 145 = true:=by kernel_rfl
theorem fn_148:Q1M Tryz.prog 148 = true:=by kernel_rfl
theorem fn_149:Q1M Tryz.prog 149 = true:=by kernel_rfl
theorem fn_150:Q1M Tryz.prog 150 = true:=by kernel_rfl
theorem fn_151:Q1M Tryz.prog 151 = true:=by kernel_rfl
theorem fn_152:Q1M Tryz.prog 152 = true:=by kernel_rfl
theorem fn_153:Q1M Tryz.prog 153 = true:=by kernel_rfl
theorem fn_154:Q1M Tryz.prog 154 = true:=by kernel_rfl
theorem fn_155:Q1M Tryz.prog 155 = true:=by kernel_rfl
theorem fn_157:Q1M Tryz.prog 157 = true:=by kernel_rfl
theorem fn_158:Q1M Tryz.prog 158 = true:=by kernel_rfl
theorem fn_159:Q1M Tryz.prog 159 = true:=by kernel_rfl
theorem fn_160:Q1M Tryz.prog 160 = true:=by kernel_rfl
theorem fn_163:Q1M Tryz.prog 163 = true:=by kernel_rfl
theorem fn_164:Q1M Tryz.prog 164 = true:=by kernel_rfl
theorem fn_165:Q1M Tryz.prog 165 = true:=by kernel_rfl
theorem fn_166:Q1M Tryz.prog 166 = true:=by kernel_rfl
theorem fn_173:Q1M Tryz.prog 173 = true:=by kernel_rfl
theorem fn_174:Q1M Tryz.prog 174 = true:=by kernel_rfl
theorem fn_175:Q1M Tryz.prog 175 = true:=by kernel_rfl
theorem fn_176:Q1M Tryz.prog 176 = true:=by kernel_rfl
theorem fn_177:Q1M Tryz.prog 177 = true:=by kernel_rfl
theorem fn_178:Q1M Tryz.prog 178 = true:=by kernel_rfl
theorem fn_179:Q1M Tryz.prog 179 = true:=by kernel_rfl
theorem fn_192:Q1M Tryz.prog 192 = true:=by kernel_rfl
theorem fn_193:Q1M Tryz.prog 193 = true:=by kernel_rfl
theorem fn_194:Q1M Tryz.prog 194 = true:=by kernel_rfl
theorem fn_195:Q1M Tryz.prog 195 = true:=by kernel_rfl
end Go.Proofs.YtgangmegcejllaaGreatDoor
