import Derived.Test.YtbgodclhmgmcgaaGreatDoorChecked
import Derived.Test.YtbgodclhmgmcgaaGreatDoorIdx
namespace Go.Proofs.YtbgodclhmgmcgaaGreatDoor
open Go.RowKit
theorem Q6p:Q1v Tryz.prog 2 = some 1:=by kernel_rfl
theorem Q6n:Q4z Tryz.prog 2 = some false:=by kernel_rfl
theorem QZ:Q1v Tryz.prog 3 = some 1:=by kernel_rfl
theorem Q15:Q4z Tryz.prog 3 = some false:=by kernel_rfl
theorem tZ_3:Q4f Tryz.prog 3 = some (.int .i64 0):=by kernel_rfl
theorem tR_3:tRow Tryz.prog 3 = some (.int .i64 0,1,8):=by kernel_rfl
theorem tS_4:Q1v Tryz.prog 4 = some 1:=by kernel_rfl
theorem tA_4:Q4z Tryz.prog 4 = some false:=by kernel_rfl
theorem tZ_4:Q4f Tryz.prog 4 = some (.bool false):=by kernel_rfl
theorem tR_4:tRow Tryz.prog 4 = some (.bool false,1,1):=by kernel_rfl
theorem tS_9:Q1v Tryz.prog 9 = some 1:=by kernel_rfl
theorem tA_9:Q4z Tryz.prog 9 = some false:=by kernel_rfl
theorem Q7l:Q1v Tryz.prog 22 = some 1:=by kernel_rfl
theorem Q7i:Q4z Tryz.prog 22 = some false:=by kernel_rfl
theorem Q6r:Q2F Tryz.prog 22 = some 69:=by kernel_rfl
theorem Q7u:Q1v Tryz.prog 23 = some 1:=by kernel_rfl
theorem Q7t:Q4z Tryz.prog 23 = some false:=by kernel_rfl
theorem Q6X:Q2F Tryz.prog 23 = some 52:=by kernel_rfl
theorem tS_25:Q1v Tryz.prog 25 = some 2:=by kernel_rfl
theorem tA_25:Q4z Tryz.prog 25 = some true:=by kernel_rfl
theorem Q4D:Q1G Tryz.prog 25 0 = some 0:=by kernel_rfl
theorem Q4Z:Q1G Tryz.prog 25 1 = some 1:=by kernel_rfl
theorem Q6s:Q2F Tryz.prog 26 = some 71:=by kernel_rfl
theorem tE_31:Q2F Tryz.prog 31 = some 41:=by kernel_rfl
theorem tS_39:Q1v Tryz.prog 39 = some 1:=by kernel_rfl
theorem tA_39:Q4z Tryz.prog 39 = some false:=by kernel_rfl
theorem Q6i:Q2F Tryz.prog 39 = some 3:=by kernel_rfl
theorem tS_41:Q1v Tryz.prog 41 = some 2:=by kernel_rfl
theorem tA_41:Q4z Tryz.prog 41 = some true:=by kernel_rfl
theorem tZ_41:Q4f Tryz.prog 41 = some (.agg #[.int .i64 0,.slice none 0 0]):=by kernel_rfl
theorem tR_41:tRow Tryz.prog 41 = some (.agg #[.int .i64 0,.slice none 0 0],2,32):=by kernel_rfl
theorem tP_41:Q6L Tryz.prog 41 = some [(0,1),(1,1)]:=by kernel_rfl
theorem Q9Q:Q1G Tryz.prog 41 0 = some 0:=by kernel_rfl
theorem Q9R:Q1G Tryz.prog 41 1 = some 1:=by kernel_rfl
theorem Q5i:Q1v Tryz.prog 43 = some 1:=by kernel_rfl
theorem Q5f:Q4z Tryz.prog 43 = some false:=by kernel_rfl
theorem Q29:Q2F Tryz.prog 43 = some 57:=by kernel_rfl
theorem Q94:Q1v Tryz.prog 49 = some 1:=by kernel_rfl
theorem Q8X:Q4z Tryz.prog 49 = some false:=by kernel_rfl
theorem Q86:Q2F Tryz.prog 49 = some 67:=by kernel_rfl
theorem tS_50:Q1v Tryz.prog 50 = some 1:=by kernel_rfl
theorem tA_50:Q4z Tryz.prog 50 = some false:=by kernel_rfl
theorem tE_50:Q2F Tryz.prog 50 = some 81:=by kernel_rfl
theorem Q6Y:Q1v Tryz.prog 52 = some 5:=by kernel_rfl
theorem tA_52:Q4z Tryz.prog 52 = some true:=by kernel_rfl
theorem tZ_52:Q4f Tryz.prog 52 = some (.agg #[.string ⟨#[]⟩,.int .i64 0,.int .i64 0,.slice none 0 0,.slice none 0 0]):=by kernel_rfl
theorem Q9S:Q1G Tryz.prog 52 0 = some 0:=by kernel_rfl
theorem tF_52_1:Q1G Tryz.prog 52 1 = some 1:=by kernel_rfl
theorem tF_52_2:Q1G Tryz.prog 52 2 = some 2:=by kernel_rfl
theorem Q67:Q1G Tryz.prog 52 3 = some 3:=by kernel_rfl
theorem Q90:Q1G Tryz.prog 52 4 = some 4:=by kernel_rfl
theorem tS_53:Q1v Tryz.prog 53 = some 1:=by kernel_rfl
theorem tA_53:Q4z Tryz.prog 53 = some false:=by kernel_rfl
theorem tS_54:Q1v Tryz.prog 54 = some 1:=by kernel_rfl
theorem tA_54:Q4z Tryz.prog 54 = some false:=by kernel_rfl
theorem tS_55:Q1v Tryz.prog 55 = some 1:=by kernel_rfl
theorem tA_55:Q4z Tryz.prog 55 = some false:=by kernel_rfl
theorem QB:Q1v Tryz.prog 57 = some 3:=by kernel_rfl
theorem Q1b:Q4z Tryz.prog 57 = some true:=by kernel_rfl
theorem Q1Q:Q4f Tryz.prog 57 = some (.agg #[.int .u8 0,.int .i64 0,.string ⟨#[]⟩]):=by kernel_rfl
theorem tR_57:tRow Tryz.prog 57 = some (.agg #[.int .u8 0,.int .i64 0,.string ⟨#[]⟩],3,32):=by kernel_rfl
theorem Q69:Q6L Tryz.prog 57 = some [(0,1),(1,1),(2,1)]:=by kernel_rfl
theorem Q9T:Q1G Tryz.prog 57 0 = some 0:=by kernel_rfl
theorem Q1Z:Q1G Tryz.prog 57 1 = some 1:=by kernel_rfl
theorem tF_57_2:Q1G Tryz.prog 57 2 = some 2:=by kernel_rfl
theorem tS_59:Q1v Tryz.prog 59 = some 5:=by kernel_rfl
theorem tA_59:Q4z Tryz.prog 59 = some true:=by kernel_rfl
theorem tZ_59:Q4f Tryz.prog 59 = some (.agg #[.int .u8 0,.int .i64 0,.int .u8 0,.int .i64 0,.string ⟨#[]⟩]):=by kernel_rfl
theorem tF_59_0:Q1G Tryz.prog 59 0 = some 0:=by kernel_rfl
theorem Q2S:Q1G Tryz.prog 59 1 = some 1:=by kernel_rfl
theorem Q91:Q1G Tryz.prog 59 2 = some 2:=by kernel_rfl
theorem tS_60:Q1v Tryz.prog 60 = some 1:=by kernel_rfl
theorem tA_60:Q4z Tryz.prog 60 = some false:=by kernel_rfl
theorem Q8Y:Q2F Tryz.prog 60 = some 59:=by kernel_rfl
theorem tS_61:Q1v Tryz.prog 61 = some 1:=by kernel_rfl
theorem tA_61:Q4z Tryz.prog 61 = some false:=by kernel_rfl
theorem Q7R:Q1v Tryz.prog 62 = some 1:=by kernel_rfl
theorem Q7P:Q4z Tryz.prog 62 = some false:=by kernel_rfl
theorem Q51:Q1v Tryz.prog 63 = some 1:=by kernel_rfl
theorem Q50:Q4z Tryz.prog 63 = some false:=by kernel_rfl
theorem Q4r:Q2F Tryz.prog 63 = some 65:=by kernel_rfl
theorem Q52:Q1v Tryz.prog 65 = some 7:=by kernel_rfl
theorem Q6E:Q4z Tryz.prog 65 = some true:=by kernel_rfl
theorem tZ_65:Q4f Tryz.prog 65 = some (.agg #[.int .u8 0,.int .u8 0,.int .i64 0,.string ⟨#[]⟩,.int .i64 0,.int .u8 0,.slice none 0 0]):=by kernel_rfl
theorem tF_65_0:Q1G Tryz.prog 65 0 = some 0:=by kernel_rfl
theorem Q92:Q1G Tryz.prog 65 1 = some 1:=by kernel_rfl
theorem Q5t:Q1G Tryz.prog 65 2 = some 4:=by kernel_rfl
theorem Q5g:Q1G Tryz.prog 65 3 = some 5:=by kernel_rfl
theorem Q5S:Q1G Tryz.prog 65 4 = some 6:=by kernel_rfl
theorem Q6t:Q1v Tryz.prog 67 = some 10:=by kernel_rfl
theorem tA_67:Q4z Tryz.prog 67 = some true:=by kernel_rfl
theorem tZ_67:Q4f Tryz.prog 67 = some (.agg #[.int .u8 0,.int .i64 0,.slice none 0 0,.int .u8 0,.int .u8 0,.int .i64 0,.string ⟨#[]⟩,.int .i64 0,.int .u8 0,.slice none 0 0]):=by kernel_rfl
theorem Q6o:Q1G Tryz.prog 67 0 = some 0:=by kernel_rfl
theorem tF_67_1:Q1G Tryz.prog 67 1 = some 1:=by kernel_rfl
theorem Q6J:Q1G Tryz.prog 67 2 = some 2:=by kernel_rfl
theorem Q93:Q1G Tryz.prog 67 3 = some 3:=by kernel_rfl
theorem Q95:Q1v Tryz.prog 69 = some 2:=by kernel_rfl
theorem tA_69:Q4z Tryz.prog 69 = some true:=by kernel_rfl
theorem tZ_69:Q4f Tryz.prog 69 = some (.agg #[.string ⟨#[]⟩,.int .i64 0]):=by kernel_rfl
theorem Q8d:Q1G Tryz.prog 69 0 = some 0:=by kernel_rfl
theorem Q6K:Q1G Tryz.prog 69 1 = some 1:=by kernel_rfl
theorem Q5Z:Q1v Tryz.prog 71 = some 3:=by kernel_rfl
theorem tA_71:Q4z Tryz.prog 71 = some true:=by kernel_rfl
theorem tZ_71:Q4f Tryz.prog 71 = some (.agg #[.int .i64 0,.int .i64 0,.slice none 0 0]):=by kernel_rfl
theorem Q3g:Q1G Tryz.prog 71 0 = some 0:=by kernel_rfl
theorem Q5h:Q1G Tryz.prog 71 1 = some 1:=by kernel_rfl
theorem Q68:Q1G Tryz.prog 71 2 = some 2:=by kernel_rfl
theorem tS_79:Q1v Tryz.prog 79 = some 1:=by kernel_rfl
theorem tA_79:Q4z Tryz.prog 79 = some false:=by kernel_rfl
theorem tS_81:Q1v Tryz.prog 81 = some 4:=by kernel_rfl
theorem tA_81:Q4z Tryz.prog 81 = some true:=by kernel_rfl
theorem tZ_81:Q4f Tryz.prog 81 = some (.agg #[.int .u8 0,.int .i64 0,.int .i64 0,.slice none 0 0]):=by kernel_rfl
theorem tF_81_0:Q1G Tryz.prog 81 0 = some 0:=by kernel_rfl
theorem Q7j:Q1G Tryz.prog 81 1 = some 1:=by kernel_rfl
theorem Q7k:Q1G Tryz.prog 81 2 = some 2:=by kernel_rfl
theorem Q5T:Q1G Tryz.prog 81 3 = some 3:=by kernel_rfl
theorem Q8Z:Q2F Tryz.prog 89 = some 93:=by kernel_rfl
theorem Q96:Q1v Tryz.prog 93 = some 2:=by kernel_rfl
theorem tA_93:Q4z Tryz.prog 93 = some true:=by kernel_rfl
theorem tZ_93:Q4f Tryz.prog 93 = some (.agg #[.slice none 0 0,.slice none 0 0]):=by kernel_rfl
theorem tR_93:tRow Tryz.prog 93 = some (.agg #[.slice none 0 0,.slice none 0 0],2,48):=by kernel_rfl
theorem tP_93:Q6L Tryz.prog 93 = some [(0,1),(1,1)]:=by kernel_rfl
theorem tF_93_0:Q1G Tryz.prog 93 0 = some 0:=by kernel_rfl
theorem tF_93_1:Q1G Tryz.prog 93 1 = some 1:=by kernel_rfl
theorem tS_98:Q1v Tryz.prog 98 = some 1:=by kernel_rfl
theorem tA_98:Q4z Tryz.prog 98 = some false:=by kernel_rfl
theorem tE_98:Q2F Tryz.prog 98 = some 4:=by kernel_rfl
theorem Q5G:Q1v Tryz.prog 100 = some 2:=by kernel_rfl
theorem Q8w:Q4z Tryz.prog 100 = some true:=by kernel_rfl
theorem Q9d:Q4f Tryz.prog 100 = some (.agg #[.slice none 0 0,.slice none 0 0]):=by kernel_rfl
theorem tP_100:Q6L Tryz.prog 100 = some [(0,1),(1,1)]:=by kernel_rfl
theorem Q8y:Q1G Tryz.prog 100 0 = some 0:=by kernel_rfl
theorem Q8z:Q1G Tryz.prog 100 1 = some 1:=by kernel_rfl
theorem Q8B:Q1v Tryz.prog 120 = some 1:=by kernel_rfl
theorem Q8x:Q4z Tryz.prog 120 = some false:=by kernel_rfl
theorem tZ_122:Q4f Tryz.prog 122 = some (.agg #[.slice none 0 0,.slice none 0 0]):=by kernel_rfl
theorem tP_122:Q6L Tryz.prog 122 = some [(0,2)]:=by kernel_rfl
theorem tF_122_0:Q1G Tryz.prog 122 0 = some 0:=by kernel_rfl
theorem tZ_124:Q4f Tryz.prog 124 = some (.agg #[.slice none 0 0,.slice none 0 0,.int .i64 0,.int .i64 0]):=by kernel_rfl
theorem tP_124:Q6L Tryz.prog 124 = some [(0,2),(2,1),(3,1)]:=by kernel_rfl
theorem Qau:Q1G Tryz.prog 124 0 = some 0:=by kernel_rfl
theorem Q5F:Q1G Tryz.prog 124 1 = some 2:=by kernel_rfl
theorem tF_124_2:Q1G Tryz.prog 124 2 = some 3:=by kernel_rfl
theorem tZ_140:Q4f Tryz.prog 140 = some (.nilFunc):=by kernel_rfl
theorem tS_152:Q1v Tryz.prog 152 = some 2:=by kernel_rfl
theorem tA_152:Q4z Tryz.prog 152 = some true:=by kernel_rfl
theorem tZ_152:Q4f Tryz.prog 152 = some (.agg #[.slice none 0 0,.slice none 0 0]):=by kernel_rfl
theorem tP_152:Q6L Tryz.prog 152 = some [(0,2)]:=by kernel_rfl
theorem Q8A:Q1G Tryz.prog 152 0 = some 0:=by kernel_rfl
theorem tZ_183:Q4f Tryz.prog 183 = some (.nilFunc):=by kernel_rfl
theorem tS_220:Q1v Tryz.prog 220 = some 1:=by kernel_rfl
theorem tA_220:Q4z Tryz.prog 220 = some false:=by kernel_rfl
theorem tZ_220:Q4f Tryz.prog 220 = some (.nilFunc):=by kernel_rfl
theorem fn_8:Q1u Tryz.prog 8 = true:=by kernel_rfl
theorem fn_9:Q1u Tryz.prog 9 = true:=by kernel_rfl
theorem fn_13:Q1u Tryz.prog 13 = true:=by kernel_rfl
theorem fn_17:Q1u Tryz.prog 17 = true:=by kernel_rfl
theorem fn_18:Q1u Tryz.prog 18 = true:=by kernel_rfl
theorem fn_19:Q1u Tryz.prog 19 = true:=by kernel_rfl
theorem fn_20:Q1u Tryz.prog 20 = true:=by kernel_rfl
theorem fn_25:Q1u Tryz.prog 25 = true:=by kernel_rfl
theorem fn_30:Q1u Tryz.prog 30 = true:=by kernel_rfl
theorem fn_31:Q1u Tryz.prog 31 = true:=by kernel_rfl
theorem fn_34:Q1u Tryz.prog 34 = true:=by kernel_rfl
theorem fn_35:Q1u Tryz.prog 35 = true:=by kernel_rfl
theorem fn_36:Q1u Tryz.prog 36 = true:=by kernel_rfl
theorem fn_43:Q1u Tryz.prog 43 = true:=by kernel_rfl
theorem fn_44:Q1u Tryz.prog 44 = true:=by kernel_rfl
theorem fn_45:Q1u Tryz.prog 45 = true:=by kernel_rfl
theorem fn_46:Q1u Tryz.prog 46 = true:=by kernel_rfl
theorem fn_47:Q1u Tryz.prog 47 = true:=by kernel_rfl
theorem fn_48:Q1u Tryz.prog 48 = true:=by kernel_rfl
theorem fn_49:Q1u Tryz.prog 49 = true:=by kernel_rfl
theorem fn_50:Q1u Tryz.prog 50 = true:=by kernel_rfl
theorem fn_51:Q1u Tryz.prog 51 = true:=by kernel_rfl
theorem fn_58:Q1u Tryz.prog 58 = true:=by kernel_rfl
theorem fn_59:Q1u Tryz.prog 59 = true:=by kernel_rfl
theorem fn_60:Q1u Tryz.prog 60 = true:=by kernel_rfl
theorem fn_61:Q1u Tryz.prog 61 = true:=by kernel_rfl
theorem fn_62:Q1u Tryz.prog 62 = true:=by kernel_rfl
theorem fn_63:Q1u Tryz.prog 63 = true:=by kernel_rfl
theorem fn_64:Q1u Tryz.prog 64 = true:=by kernel_rfl
theorem fn_68:Q1u Tryz.prog 68 = true:=by kernel_rfl
theorem fn_70:Q1u Tryz.prog 70 = true:=by kernel_rfl
theorem fn_71:Q1u Tryz.prog 71 = true:=by kernel_rfl
theorem fn_72:Q1u Tryz.prog 72 = true:=by kernel_rfl
theorem fn_79:Q1u Tryz.prog 79 = true:=by kernel_rfl
theorem fn_80:Q1u Tryz.prog 80 = true:=by kernel_rfl
theorem fn_81:Q1u Tryz.prog 81 = true:=by kernel_rfl
theorem fn_82:Q1u Tryz.prog 82 = true:=by kernel_rfl
theorem fn_83:Q1u Tryz.prog 83 = true:=by kernel_rfl
theorem fn_84:Q1u Tryz.prog 84 = true:=by kernel_rfl
theorem fn_85:Q1u Tryz.prog 85 = true:=by kernel_rfl
theorem fn_86:Q1u Tryz.prog 86 = true:=by kernel_rfl
theorem fn_87:Q1u Tryz.prog 87 = true:=by kernel_rfl
theorem fn_88:Q1u Tryz.prog 88 = true:=by kernel_rfl
theorem fn_89:Q1u Tryz.prog 89 = true:=by kernel_rfl
theorem fn_90:Q1u Tryz.prog 90 = true:=by kernel_rfl
theorem fn_91:Q1u Tryz.prog 91 = true:=by kernel_rfl
theorem fn_92:Q1u Tryz.prog 92 = true:=by kernel_rfl
theorem fn_98:Q1u Tryz.prog 98 = true:=by kernel_rfl
theorem fn_99:Q1u Tryz.prog 99 = true:=by kernel_rfl
theorem fn_100:Q1u Tryz.prog 100 = true:=by kernel_rfl
theorem fn_101:Q1u Tryz.prog 101 = true:=by kernel_rfl
theorem fn_102:Q1u Tryz.prog 102 = true:=by kernel_rfl
theorem fn_103:Q1u Tryz.prog 103 = true:=by kernel_rfl
theorem fn_104:Q1u Tryz.prog 104 = true:=by kernel_rfl
theorem fn_105:Q1u Tryz.prog 105 = true:=by kernel_rfl
theorem fn_106:Q1u Tryz.prog 106 = true:=by kernel_rfl
theorem fn_107:Q1u Tryz.prog 107 = true:=by kernel_rfl
theorem fn_108:Q1u Tryz.prog 108 = true:=by kernel_rfl
theorem fn_109:Q1u Tryz.prog 109 = true:=by kernel_rfl
theorem fn_110:Q1u Tryz.prog 110 = true:=by kernel_rfl
theorem fn_111:Q1u Tryz.prog 111 = true:=by kernel_rfl
theorem fn_112:Q1u Tryz.prog 112 = true:=by kernel_rfl
theorem fn_117:Q1u Tryz.prog 117 = true:=by kernel_rfl
theorem Q9F:Q1u Tryz.prog 118 = true:=by kernel_rfl
theorem fn_119:Q1u Tryz.prog 119 = true:=by kernel_rfl
theorem fn_120:Q1u Tryz.prog 120 = true:=by kernel_rfl
theorem fn_121:Q1u Tryz.prog 121 = true:=by kernel_rfl
theorem fn_122:Q1u Tryz.prog 122 = true:=by kernel_rfl
theorem fn_135:Q1u Tryz.prog 135 = true:=by kernel_rfl
theorem fn_136:Q1u Tryz.prog 136 = true:=by kernel_rfl
theorem fn_137:Q1u Tryz.prog 137 = true:=by kernel_rfl
theorem fn_138:Q1u Tryz.prog 138 = true:=by kernel_rfl
theorem fn_139:Q1u Tryz.prog 139 = true:=by kernel_rfl
theorem fn_140:Q1u Tryz.prog 140 = true:=by kernel_rfl
theorem fn_141:Q1u Tryz.prog 141 = true:=by kernel_rfl
theorem fn_142:Q1u Tryz.prog 142 = true:=by kernel_rfl
theorem fn_147:Q1u Tryz.prog 147 = true:=by kernel_rfl
theorem fn_148:Q1u Tryz.prog 148 = true:=by kernel_rfl
theorem fn_149:Q1u Tryz.prog 149 = true:=by kernel_rfl
theorem fn_150:Q1u Tryz.prog 150 = true:=by kernel_rfl
theorem fn_151:Q1u Tryz.prog 151 = true:=by kernel_rfl
theorem fn_152:Q1u Tryz.prog 152 = true:=by kernel_rfl
theorem fn_153:Q1u Tryz.prog 153 = true:=by kernel_rfl
theorem fn_154:Q1u Tryz.prog 154 = true:=by kernel_rfl
theorem fn_155:Q1u Tryz.prog 155 = true:=by kernel_rfl
theorem fn_156:Q1u Tryz.prog 156 = true:=by kernel_rfl
theorem fn_157:Q1u Tryz.prog 157 = true:=by kernel_rfl
theorem fn_158:Q1u Tryz.prog 158 = true:=by kernel_rfl
theorem fn_159:Q1u Tryz.prog 159 = true:=by kernel_rfl
theorem fn_179:Q1u Tryz.prog 179 = true:=by kernel_rfl
theorem fn_180:Q1u Tryz.prog 180 = true:=by kernel_rfl
theorem fn_195:Q1u Tryz.prog 195 = true:=by kernel_rfl
theorem fn_196:Q1u Tryz.prog 196 = true:=by kernel_rfl
theorem fn_197:Q1u Tryz.prog 197 = true:=by kernel_rfl
theorem fn_214:Q1u Tryz.prog 214 = true:=by kernel_rfl
end Go.Proofs.YtbgodclhmgmcgaaGreatDoor
