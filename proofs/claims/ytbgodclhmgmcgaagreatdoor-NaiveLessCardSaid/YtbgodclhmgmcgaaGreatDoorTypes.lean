import Derived.Test.YtbgodclhmgmcgaaGreatDoorChecked
import Derived.Test.YtbgodclhmgmcgaaGreatDoorIdx
namespace Go.Proofs.YtbgodclhmgmcgaaGreatDoor
open Go.RowKit
theorem tS_2:Q1Q Tryz.prog 2 = some 1:=by kernel_rfl
theorem tA_2:Q3B Tryz.prog 2 = some false:=by kernel_rfl
theorem Q1m:Q1Q Tryz.prog 3 = some 1:=by kernel_rfl
theorem Q1H:Q3B Tryz.prog 3 = some false:=by kernel_rfl
theorem tZ_3:Q3k Tryz.prog 3 = some (.int .i64 0):=by kernel_rfl
theorem tR_3:tRow Tryz.prog 3 = some (.int .i64 0,1,8):=by kernel_rfl
theorem tS_4:Q1Q Tryz.prog 4 = some 1:=by kernel_rfl
theorem tA_4:Q3B Tryz.prog 4 = some false:=by kernel_rfl
theorem tZ_4:Q3k Tryz.prog 4 = some (.bool false):=by kernel_rfl
theorem tR_4:tRow Tryz.prog 4 = some (.bool false,1,1):=by kernel_rfl
theorem Q2e:Q1Q Tryz.prog 9 = some 1:=by kernel_rfl
theorem Q3O:Q3B Tryz.prog 9 = some false:=by kernel_rfl
theorem tZ_9:Q3k Tryz.prog 9 = some (.string ⟨#[]⟩):=by kernel_rfl
theorem tR_9:tRow Tryz.prog 9 = some (.string ⟨#[]⟩,1,16):=by kernel_rfl
theorem Q9m:Q1Q Tryz.prog 22 = some 1:=by kernel_rfl
theorem Q9L:Q3B Tryz.prog 22 = some false:=by kernel_rfl
theorem Q8w:Q3f Tryz.prog 22 = some 69:=by kernel_rfl
theorem Qai:Q1Q Tryz.prog 23 = some 1:=by kernel_rfl
theorem QaD:Q3B Tryz.prog 23 = some false:=by kernel_rfl
theorem Q8x:Q3f Tryz.prog 23 = some 52:=by kernel_rfl
theorem Q8M:Q1Q Tryz.prog 25 = some 2:=by kernel_rfl
theorem QaE:Q3B Tryz.prog 25 = some true:=by kernel_rfl
theorem tZ_25:Q3k Tryz.prog 25 = some (.agg #[.slice none 0 0,.slice none 0 0]):=by kernel_rfl
theorem Q5W:Q1J Tryz.prog 25 0 = some 0:=by kernel_rfl
theorem Q6Z:Q1J Tryz.prog 25 1 = some 1:=by kernel_rfl
theorem tS_26:Q1Q Tryz.prog 26 = some 1:=by kernel_rfl
theorem tA_26:Q3B Tryz.prog 26 = some false:=by kernel_rfl
theorem Q2y:Q3f Tryz.prog 26 = some 71:=by kernel_rfl
theorem tS_31:Q1Q Tryz.prog 31 = some 1:=by kernel_rfl
theorem tA_31:Q3B Tryz.prog 31 = some false:=by kernel_rfl
theorem tZ_31:Q3k Tryz.prog 31 = some (.slice none 0 0):=by kernel_rfl
theorem Q9i:Q3f Tryz.prog 31 = some 41:=by kernel_rfl
theorem tS_32:Q1Q Tryz.prog 32 = some 1:=by kernel_rfl
theorem tA_32:Q3B Tryz.prog 32 = some false:=by kernel_rfl
theorem tZ_32:Q3k Tryz.prog 32 = some (.int .i64 0):=by kernel_rfl
theorem Q9n:Q1Q Tryz.prog 39 = some 1:=by kernel_rfl
theorem tA_39:Q3B Tryz.prog 39 = some false:=by kernel_rfl
theorem Q5V:Q3f Tryz.prog 39 = some 3:=by kernel_rfl
theorem Q8f:Q1Q Tryz.prog 41 = some 2:=by kernel_rfl
theorem tA_41:Q3B Tryz.prog 41 = some true:=by kernel_rfl
theorem tZ_41:Q3k Tryz.prog 41 = some (.agg #[.int .i64 0,.slice none 0 0]):=by kernel_rfl
theorem tR_41:tRow Tryz.prog 41 = some (.agg #[.int .i64 0,.slice none 0 0],2,32):=by kernel_rfl
theorem tP_41:Q3z Tryz.prog 41 = some [(0,1),(1,1)]:=by kernel_rfl
theorem tF_41_0:Q1J Tryz.prog 41 0 = some 0:=by kernel_rfl
theorem Q9Q:Q1J Tryz.prog 41 1 = some 1:=by kernel_rfl
theorem Q7p:Q1Q Tryz.prog 43 = some 1:=by kernel_rfl
theorem Q7n:Q3B Tryz.prog 43 = some false:=by kernel_rfl
theorem Q5r:Q3f Tryz.prog 43 = some 57:=by kernel_rfl
theorem QaI:Q1Q Tryz.prog 49 = some 1:=by kernel_rfl
theorem tA_49:Q3B Tryz.prog 49 = some false:=by kernel_rfl
theorem Q9j:Q3f Tryz.prog 49 = some 67:=by kernel_rfl
theorem tS_50:Q1Q Tryz.prog 50 = some 1:=by kernel_rfl
theorem tA_50:Q3B Tryz.prog 50 = some false:=by kernel_rfl
theorem tE_50:Q3f Tryz.prog 50 = some 81:=by kernel_rfl
theorem Q5X:Q1Q Tryz.prog 52 = some 5:=by kernel_rfl
theorem tA_52:Q3B Tryz.prog 52 = some true:=by kernel_rfl
theorem tZ_52:Q3k Tryz.prog 52 = some (.agg #[.string ⟨#[]⟩,.int .i64 0,.int .i64 0,.slice none 0 0,.slice none 0 0]):=by kernel_rfl
theorem tR_52:tRow Tryz.prog 52 = some (.agg #[.string ⟨#[]⟩,.int .i64 0,.int .i64 0,.slice none 0 0,.slice none 0 0],5,80):=by kernel_rfl
theorem tP_52:Q3z Tryz.prog 52 = some [(0,1),(1,1),(2,1),(3,1),(4,1)]:=by kernel_rfl
theorem tF_52_0:Q1J Tryz.prog 52 0 = some 0:=by kernel_rfl
theorem tF_52_1:Q1J Tryz.prog 52 1 = some 1:=by kernel_rfl
theorem QbE:Q1J Tryz.prog 52 2 = some 2:=by kernel_rfl
theorem Q7o:Q1J Tryz.prog 52 3 = some 3:=by kernel_rfl
theorem Q9R:Q1J Tryz.prog 52 4 = some 4:=by kernel_rfl
theorem tS_53:Q1Q Tryz.prog 53 = some 1:=by kernel_rfl
theorem tA_53:Q3B Tryz.prog 53 = some false:=by kernel_rfl
theorem tS_54:Q1Q Tryz.prog 54 = some 1:=by kernel_rfl
theorem tA_54:Q3B Tryz.prog 54 = some false:=by kernel_rfl
theorem tS_55:Q1Q Tryz.prog 55 = some 1:=by kernel_rfl
theorem tA_55:Q3B Tryz.prog 55 = some false:=by kernel_rfl
theorem Q1C:Q1Q Tryz.prog 57 = some 3:=by kernel_rfl
theorem Q2M:Q3B Tryz.prog 57 = some true:=by kernel_rfl
theorem Q3A:Q3k Tryz.prog 57 = some (.agg #[.int .u8 0,.int .i64 0,.string ⟨#[]⟩]):=by kernel_rfl
theorem tR_57:tRow Tryz.prog 57 = some (.agg #[.int .u8 0,.int .i64 0,.string ⟨#[]⟩],3,32):=by kernel_rfl
theorem Q9M:Q3z Tryz.prog 57 = some [(0,1),(1,1),(2,1)]:=by kernel_rfl
theorem tF_57_0:Q1J Tryz.prog 57 0 = some 0:=by kernel_rfl
theorem Q3y:Q1J Tryz.prog 57 1 = some 1:=by kernel_rfl
theorem tF_57_2:Q1J Tryz.prog 57 2 = some 2:=by kernel_rfl
theorem QaJ:Q1Q Tryz.prog 59 = some 5:=by kernel_rfl
theorem tA_59:Q3B Tryz.prog 59 = some true:=by kernel_rfl
theorem tZ_59:Q3k Tryz.prog 59 = some (.agg #[.int .u8 0,.int .i64 0,.int .u8 0,.int .i64 0,.string ⟨#[]⟩]):=by kernel_rfl
theorem tR_59:tRow Tryz.prog 59 = some (.agg #[.int .u8 0,.int .i64 0,.int .u8 0,.int .i64 0,.string ⟨#[]⟩],5,48):=by kernel_rfl
theorem tP_59:Q3z Tryz.prog 59 = some [(0,1),(1,1),(2,3)]:=by kernel_rfl
theorem tF_59_0:Q1J Tryz.prog 59 0 = some 0:=by kernel_rfl
theorem Q6c:Q1J Tryz.prog 59 1 = some 1:=by kernel_rfl
theorem tF_59_2:Q1J Tryz.prog 59 2 = some 2:=by kernel_rfl
theorem tS_60:Q1Q Tryz.prog 60 = some 1:=by kernel_rfl
theorem tA_60:Q3B Tryz.prog 60 = some false:=by kernel_rfl
theorem tE_60:Q3f Tryz.prog 60 = some 59:=by kernel_rfl
theorem tS_61:Q1Q Tryz.prog 61 = some 1:=by kernel_rfl
theorem tA_61:Q3B Tryz.prog 61 = some false:=by kernel_rfl
theorem tS_62:Q1Q Tryz.prog 62 = some 1:=by kernel_rfl
theorem tA_62:Q3B Tryz.prog 62 = some false:=by kernel_rfl
theorem tZ_62:Q3k Tryz.prog 62 = some (.int .u8 0):=by kernel_rfl
theorem Q8N:Q1Q Tryz.prog 63 = some 1:=by kernel_rfl
theorem Q9h:Q3B Tryz.prog 63 = some false:=by kernel_rfl
theorem Q7O:Q3f Tryz.prog 63 = some 65:=by kernel_rfl
theorem Q57:Q1Q Tryz.prog 65 = some 7:=by kernel_rfl
theorem Q7Z:Q3B Tryz.prog 65 = some true:=by kernel_rfl
theorem tZ_65:Q3k Tryz.prog 65 = some (.agg #[.int .u8 0,.int .u8 0,.int .i64 0,.string ⟨#[]⟩,.int .i64 0,.int .u8 0,.slice none 0 0]):=by kernel_rfl
theorem tR_65:tRow Tryz.prog 65 = some (.agg #[.int .u8 0,.int .u8 0,.int .i64 0,.string ⟨#[]⟩,.int .i64 0,.int .u8 0,.slice none 0 0],7,80):=by kernel_rfl
theorem tP_65:Q3z Tryz.prog 65 = some [(0,1),(1,3),(4,1),(5,1),(6,1)]:=by kernel_rfl
theorem tF_65_0:Q1J Tryz.prog 65 0 = some 0:=by kernel_rfl
theorem tF_65_1:Q1J Tryz.prog 65 1 = some 1:=by kernel_rfl
theorem QaF:Q1J Tryz.prog 65 2 = some 4:=by kernel_rfl
theorem Q9S:Q1J Tryz.prog 65 3 = some 5:=by kernel_rfl
theorem QaG:Q1J Tryz.prog 65 4 = some 6:=by kernel_rfl
theorem Q6E:Q1Q Tryz.prog 67 = some 10:=by kernel_rfl
theorem tA_67:Q3B Tryz.prog 67 = some true:=by kernel_rfl
theorem tZ_67:Q3k Tryz.prog 67 = some (.agg #[.int .u8 0,.int .i64 0,.slice none 0 0,.int .u8 0,.int .u8 0,.int .i64 0,.string ⟨#[]⟩,.int .i64 0,.int .u8 0,.slice none 0 0]):=by kernel_rfl
theorem tR_67:tRow Tryz.prog 67 = some (.agg #[.int .u8 0,.int .i64 0,.slice none 0 0,.int .u8 0,.int .u8 0,.int .i64 0,.string ⟨#[]⟩,.int .i64 0,.int .u8 0,.slice none 0 0],10,120):=by kernel_rfl
theorem tP_67:Q3z Tryz.prog 67 = some [(0,1),(1,1),(2,1),(3,7)]:=by kernel_rfl
theorem Q9T:Q1J Tryz.prog 67 0 = some 0:=by kernel_rfl
theorem tF_67_1:Q1J Tryz.prog 67 1 = some 1:=by kernel_rfl
theorem QbF:Q1J Tryz.prog 67 2 = some 2:=by kernel_rfl
theorem QbG:Q1J Tryz.prog 67 3 = some 3:=by kernel_rfl
theorem tS_69:Q1Q Tryz.prog 69 = some 2:=by kernel_rfl
theorem tA_69:Q3B Tryz.prog 69 = some true:=by kernel_rfl
theorem tZ_69:Q3k Tryz.prog 69 = some (.agg #[.string ⟨#[]⟩,.int .i64 0]):=by kernel_rfl
theorem tR_69:tRow Tryz.prog 69 = some (.agg #[.string ⟨#[]⟩,.int .i64 0],2,24):=by kernel_rfl
theorem tP_69:Q3z Tryz.prog 69 = some [(0,1),(1,1)]:=by kernel_rfl
theorem QbH:Q1J Tryz.prog 69 0 = some 0:=by kernel_rfl
theorem Q9U:Q1J Tryz.prog 69 1 = some 1:=by kernel_rfl
theorem Q2N:Q1Q Tryz.prog 71 = some 3:=by kernel_rfl
theorem tA_71:Q3B Tryz.prog 71 = some true:=by kernel_rfl
theorem Q9N:Q3k Tryz.prog 71 = some (.agg #[.int .i64 0,.int .i64 0,.slice none 0 0]):=by kernel_rfl
theorem tR_71:tRow Tryz.prog 71 = some (.agg #[.int .i64 0,.int .i64 0,.slice none 0 0],3,40):=by kernel_rfl
theorem tP_71:Q3z Tryz.prog 71 = some [(0,1),(1,1),(2,1)]:=by kernel_rfl
theorem Q6d:Q1J Tryz.prog 71 0 = some 0:=by kernel_rfl
theorem Q98:Q1J Tryz.prog 71 1 = some 1:=by kernel_rfl
theorem QaH:Q1J Tryz.prog 71 2 = some 2:=by kernel_rfl
theorem tS_79:Q1Q Tryz.prog 79 = some 1:=by kernel_rfl
theorem tA_79:Q3B Tryz.prog 79 = some false:=by kernel_rfl
theorem tS_81:Q1Q Tryz.prog 81 = some 4:=by kernel_rfl
theorem tA_81:Q3B Tryz.prog 81 = some true:=by kernel_rfl
theorem tZ_81:Q3k Tryz.prog 81 = some (.agg #[.int .u8 0,.int .i64 0,.int .i64 0,.slice none 0 0]):=by kernel_rfl
theorem tR_81:tRow Tryz.prog 81 = some (.agg #[.int .u8 0,.int .i64 0,.int .i64 0,.slice none 0 0],4,48):=by kernel_rfl
theorem tP_81:Q3z Tryz.prog 81 = some [(0,1),(1,1),(2,1),(3,1)]:=by kernel_rfl
theorem tF_81_0:Q1J Tryz.prog 81 0 = some 0:=by kernel_rfl
theorem QbI:Q1J Tryz.prog 81 1 = some 1:=by kernel_rfl
theorem tF_81_2:Q1J Tryz.prog 81 2 = some 2:=by kernel_rfl
theorem Q99:Q1J Tryz.prog 81 3 = some 3:=by kernel_rfl
theorem tS_88:Q1Q Tryz.prog 88 = some 1:=by kernel_rfl
theorem tA_88:Q3B Tryz.prog 88 = some false:=by kernel_rfl
theorem tS_98:Q1Q Tryz.prog 98 = some 1:=by kernel_rfl
theorem tA_98:Q3B Tryz.prog 98 = some false:=by kernel_rfl
theorem tE_98:Q3f Tryz.prog 98 = some 4:=by kernel_rfl
theorem Q2B:Q1Q Tryz.prog 100 = some 2:=by kernel_rfl
theorem Q65:Q3B Tryz.prog 100 = some true:=by kernel_rfl
theorem Q8z:Q3k Tryz.prog 100 = some (.agg #[.slice none 0 0,.slice none 0 0]):=by kernel_rfl
theorem tP_100:Q3z Tryz.prog 100 = some [(0,1),(1,1)]:=by kernel_rfl
theorem Qad:Q1J Tryz.prog 100 0 = some 0:=by kernel_rfl
theorem Q7D:Q1J Tryz.prog 100 1 = some 1:=by kernel_rfl
theorem Qag:Q1Q Tryz.prog 113 = some 2:=by kernel_rfl
theorem tA_113:Q3B Tryz.prog 113 = some true:=by kernel_rfl
theorem QaP:Q3k Tryz.prog 113 = some (.agg #[.int .i64 0,.int .i64 0]):=by kernel_rfl
theorem tP_113:Q3z Tryz.prog 113 = some [(0,1),(1,1)]:=by kernel_rfl
theorem Qb8:Q1J Tryz.prog 113 0 = some 0:=by kernel_rfl
theorem Qah:Q1Q Tryz.prog 120 = some 1:=by kernel_rfl
theorem Qab:Q3B Tryz.prog 120 = some false:=by kernel_rfl
theorem tZ_122:Q3k Tryz.prog 122 = some (.agg #[.slice none 0 0,.slice none 0 0]):=by kernel_rfl
theorem tP_122:Q3z Tryz.prog 122 = some [(0,2)]:=by kernel_rfl
theorem tF_122_0:Q1J Tryz.prog 122 0 = some 0:=by kernel_rfl
theorem tZ_124:Q3k Tryz.prog 124 = some (.agg #[.slice none 0 0,.slice none 0 0,.int .i64 0,.int .i64 0]):=by kernel_rfl
theorem tP_124:Q3z Tryz.prog 124 = some [(0,2),(2,1),(3,1)]:=by kernel_rfl
theorem Qcd:Q1J Tryz.prog 124 0 = some 0:=by kernel_rfl
theorem Q6x:Q1J Tryz.prog 124 1 = some 2:=by kernel_rfl
theorem tF_124_2:Q1J Tryz.prog 124 2 = some 3:=by kernel_rfl
theorem tZ_131:Q3k Tryz.prog 131 = some (.agg #[]):=by kernel_rfl
theorem tP_131:Q3z Tryz.prog 131 = some []:=by kernel_rfl
theorem tS_133:Q1Q Tryz.prog 133 = some 1:=by kernel_rfl
theorem tA_133:Q3B Tryz.prog 133 = some false:=by kernel_rfl
theorem tZ_135:Q3k Tryz.prog 135 = some (.agg #[.slice none 0 0,.slice none 0 0,.string ⟨#[]⟩,.int .i64 0,.int .i64 0,.slice none 0 0,.slice none 0 0,.slice none 0 0,.slice none 0 0,.int .i64 0,.nilFunc]):=by kernel_rfl
theorem tP_135:Q3z Tryz.prog 135 = some [(0,2),(2,5),(7,1),(8,1),(9,1),(10,1)]:=by kernel_rfl
theorem Q72:Q1J Tryz.prog 135 0 = some 0:=by kernel_rfl
theorem tF_135_1:Q1J Tryz.prog 135 1 = some 2:=by kernel_rfl
theorem tF_135_2:Q1J Tryz.prog 135 2 = some 7:=by kernel_rfl
theorem Q9k:Q1J Tryz.prog 135 3 = some 8:=by kernel_rfl
theorem Q9l:Q1J Tryz.prog 135 4 = some 9:=by kernel_rfl
theorem tF_135_5:Q1J Tryz.prog 135 5 = some 10:=by kernel_rfl
theorem tZ_140:Q3k Tryz.prog 140 = some (.nilFunc):=by kernel_rfl
theorem tS_152:Q1Q Tryz.prog 152 = some 2:=by kernel_rfl
theorem tA_152:Q3B Tryz.prog 152 = some true:=by kernel_rfl
theorem tZ_152:Q3k Tryz.prog 152 = some (.agg #[.slice none 0 0,.slice none 0 0]):=by kernel_rfl
theorem tP_152:Q3z Tryz.prog 152 = some [(0,2)]:=by kernel_rfl
theorem Qae:Q1J Tryz.prog 152 0 = some 0:=by kernel_rfl
theorem Q3X:Q1Q Tryz.prog 156 = some 1:=by kernel_rfl
theorem Q7C:Q3B Tryz.prog 156 = some false:=by kernel_rfl
theorem tZ_156:Q3k Tryz.prog 156 = some (.int .u8 0):=by kernel_rfl
theorem Q28:Q1Q Tryz.prog 157 = some 1:=by kernel_rfl
theorem Q2w:Q3B Tryz.prog 157 = some false:=by kernel_rfl
theorem Q1S:Q3f Tryz.prog 157 = some 159:=by kernel_rfl
theorem Q13:Q1Q Tryz.prog 159 = some 5:=by kernel_rfl
theorem Q1V:Q3B Tryz.prog 159 = some true:=by kernel_rfl
theorem Q3P:Q3k Tryz.prog 159 = some (.agg #[.int .u8 0,.string ⟨#[]⟩,.int .i64 0,.int .i64 0,.slice none 0 0]):=by kernel_rfl
theorem tR_159:tRow Tryz.prog 159 = some (.agg #[.int .u8 0,.string ⟨#[]⟩,.int .i64 0,.int .i64 0,.slice none 0 0],5,64):=by kernel_rfl
theorem tP_159:Q3z Tryz.prog 159 = some [(0,1),(1,1),(2,1),(3,1),(4,1)]:=by kernel_rfl
theorem Q3q:Q1J Tryz.prog 159 0 = some 0:=by kernel_rfl
theorem Q2x:Q1J Tryz.prog 159 1 = some 1:=by kernel_rfl
theorem Q6y:Q1J Tryz.prog 159 2 = some 2:=by kernel_rfl
theorem tF_159_3:Q1J Tryz.prog 159 3 = some 3:=by kernel_rfl
theorem Q1B:Q1J Tryz.prog 159 4 = some 4:=by kernel_rfl
theorem tZ_183:Q3k Tryz.prog 183 = some (.nilFunc):=by kernel_rfl
theorem tS_189:Q1Q Tryz.prog 189 = some 1:=by kernel_rfl
theorem tA_189:Q3B Tryz.prog 189 = some false:=by kernel_rfl
theorem tE_189:Q3f Tryz.prog 189 = some 197:=by kernel_rfl
theorem tZ_194:Q3k Tryz.prog 194 = some (.agg #[.slice none 0 0,.int .i64 0,.bool false]):=by kernel_rfl
theorem tP_194:Q3z Tryz.prog 194 = some [(0,1),(1,1),(2,1)]:=by kernel_rfl
theorem tF_194_0:Q1J Tryz.prog 194 0 = some 0:=by kernel_rfl
theorem tF_194_1:Q1J Tryz.prog 194 1 = some 1:=by kernel_rfl
theorem Q8y:Q1J Tryz.prog 194 2 = some 2:=by kernel_rfl
theorem QaO:Q1Q Tryz.prog 195 = some 1:=by kernel_rfl
theorem QbC:Q3B Tryz.prog 195 = some false:=by kernel_rfl
theorem Q52:Q1Q Tryz.prog 197 = some 3:=by kernel_rfl
theorem QbD:Q3B Tryz.prog 197 = some true:=by kernel_rfl
theorem Q7U:Q3k Tryz.prog 197 = some (.agg #[.int .u8 0,.string ⟨#[]⟩,.int .i64 0]):=by kernel_rfl
theorem tR_197:tRow Tryz.prog 197 = some (.agg #[.int .u8 0,.string ⟨#[]⟩,.int .i64 0],3,32):=by kernel_rfl
theorem tP_197:Q3z Tryz.prog 197 = some [(0,1),(1,1),(2,1)]:=by kernel_rfl
theorem Qaf:Q1J Tryz.prog 197 0 = some 0:=by kernel_rfl
theorem Qb9:Q1J Tryz.prog 197 1 = some 1:=by kernel_rfl
theorem tF_197_2:Q1J Tryz.prog 197 2 = some 2:=by kernel_rfl
theorem Q7F:Q1Q Tryz.prog 204 = some 1:=by kernel_rfl
theorem Qac:Q3B Tryz.prog 204 = some false:=by kernel_rfl
theorem tZ_204:Q3k Tryz.prog 204 = some (.slice none 0 0):=by kernel_rfl
theorem Q22:Q3f Tryz.prog 204 = some 9:=by kernel_rfl
theorem tZ_206:Q3k Tryz.prog 206 = some (.agg #[.slice none 0 0,.slice none 0 0,.slice none 0 0,.int .i64 0,.int .i64 0,.int .i64 0]):=by kernel_rfl
theorem tP_206:Q3z Tryz.prog 206 = some [(0,2),(2,1),(3,1),(4,2)]:=by kernel_rfl
theorem Q7E:Q1J Tryz.prog 206 0 = some 0:=by kernel_rfl
theorem Q80:Q1J Tryz.prog 206 1 = some 2:=by kernel_rfl
theorem tF_206_2:Q1J Tryz.prog 206 2 = some 3:=by kernel_rfl
theorem tF_206_3:Q1J Tryz.prog 206 3 = some 4:=by kernel_rfl
theorem tS_220:Q1Q Tryz.prog 220 = some 1:=by kernel_rfl
theorem tA_220:Q3B Tryz.prog 220 = some false:=by kernel_rfl
theorem tZ_220:Q3k Tryz.prog 220 = some (.nilFunc):=by kernel_rfl
theorem tE_254:Q3f Tryz.prog 254 = some 156:=by kernel_rfl
theorem tE_269:Q3f Tryz.prog 269 = some 204:=by kernel_rfl
theorem tE_272:Q3f Tryz.prog 272 = some 62:=by kernel_rfl
theorem fn_8:Q1t Tryz.prog 8 = true:=by kernel_rfl
theorem fn_9:Q1t Tryz.prog 9 = true:=by kernel_rfl
theorem fn_12:Q1t Tryz.prog 12 = true:=by kernel_rfl
theorem fn_17:Q1t Tryz.prog 17 = true:=by kernel_rfl
theorem fn_18:Q1t Tryz.prog 18 = true:=by kernel_rfl
theorem fn_21:Q1t Tryz.prog 21 = true:=by kernel_rfl
theorem fn_22:Q1t Tryz.prog 22 = true:=by kernel_rfl
theorem fn_23:Q1t Tryz.prog 23 = true:=by kernel_rfl
theorem fn_24:Q1t Tryz.prog 24 = true:=by kernel_rfl
theorem fn_25:Q1t Tryz.prog 25 = true:=by kernel_rfl
theorem fn_30:Q1t Tryz.prog 30 = true:=by kernel_rfl
theorem fn_31:Q1t Tryz.prog 31 = true:=by kernel_rfl
theorem fn_32:Q1t Tryz.prog 32 = true:=by kernel_rfl
theorem fn_33:Q1t Tryz.prog 33 = true:=by kernel_rfl
theorem fn_37:Q1t Tryz.prog 37 = true:=by kernel_rfl
theorem fn_43:Q1t Tryz.prog 43 = true:=by kernel_rfl
theorem fn_44:Q1t Tryz.prog 44 = true:=by kernel_rfl
theorem fn_45:Q1t Tryz.prog 45 = true:=by kernel_rfl
theorem fn_46:Q1t Tryz.prog 46 = true:=by kernel_rfl
theorem fn_47:Q1t Tryz.prog 47 = true:=by kernel_rfl
theorem fn_48:Q1t Tryz.prog 48 = true:=by kernel_rfl
theorem fn_49:Q1t Tryz.prog 49 = true:=by kernel_rfl
theorem fn_52:Q1t Tryz.prog 52 = true:=by kernel_rfl
theorem fn_58:Q1t Tryz.prog 58 = true:=by kernel_rfl
theorem fn_59:Q1t Tryz.prog 59 = true:=by kernel_rfl
theorem fn_60:Q1t Tryz.prog 60 = true:=by kernel_rfl
theorem fn_61:Q1t Tryz.prog 61 = true:=by kernel_rfl
theorem fn_62:Q1t Tryz.prog 62 = true:=by kernel_rfl
theorem fn_63:Q1t Tryz.prog 63 = true:=by kernel_rfl
theorem fn_64:Q1t Tryz.prog 64 = true:=by kernel_rfl
theorem fn_65:Q1t Tryz.prog 65 = true:=by kernel_rfl
theorem fn_66:Q1t Tryz.prog 66 = true:=by kernel_rfl
theorem fn_67:Q1t Tryz.prog 67 = true:=by kernel_rfl
theorem fn_68:Q1t Tryz.prog 68 = true:=by kernel_rfl
theorem Q9K:Q1t Tryz.prog 69 = true:=by kernel_rfl
theorem fn_70:Q1t Tryz.prog 70 = true:=by kernel_rfl
theorem fn_73:Q1t Tryz.prog 73 = true:=by kernel_rfl
theorem fn_79:Q1t Tryz.prog 79 = true:=by kernel_rfl
theorem fn_80:Q1t Tryz.prog 80 = true:=by kernel_rfl
theorem fn_81:Q1t Tryz.prog 81 = true:=by kernel_rfl
theorem fn_82:Q1t Tryz.prog 82 = true:=by kernel_rfl
theorem fn_83:Q1t Tryz.prog 83 = true:=by kernel_rfl
theorem fn_84:Q1t Tryz.prog 84 = true:=by kernel_rfl
theorem fn_85:Q1t Tryz.prog 85 = true:=by kernel_rfl
theorem fn_86:Q1t Tryz.prog 86 = true:=by kernel_rfl
theorem fn_87:Q1t Tryz.prog 87 = true:=by kernel_rfl
theorem fn_88:Q1t Tryz.prog 88 = true:=by kernel_rfl
theorem fn_89:Q1t Tryz.prog 89 = true:=by kernel_rfl
theorem fn_90:Q1t Tryz.prog 90 = true:=by kernel_rfl
theorem fn_93:Q1t Tryz.prog 93 = true:=by kernel_rfl
theorem fn_94:Q1t Tryz.prog 94 = true:=by kernel_rfl
theorem fn_98:Q1t Tryz.prog 98 = true:=by kernel_rfl
theorem fn_99:Q1t Tryz.prog 99 = true:=by kernel_rfl
theorem fn_100:Q1t Tryz.prog 100 = true:=by kernel_rfl
theorem fn_101:Q1t Tryz.prog 101 = true:=by kernel_rfl
theorem fn_102:Q1t Tryz.prog 102 = true:=by kernel_rfl
theorem fn_103:Q1t Tryz.prog 103 = true:=by kernel_rfl
theorem fn_104:Q1t Tryz.prog 104 = true:=by kernel_rfl
theorem fn_105:Q1t Tryz.prog 105 = true:=by kernel_rfl
theorem fn_106:Q1t Tryz.prog 106 = true:=by kernel_rfl
theorem fn_107:Q1t Tryz.prog 107 = true:=by kernel_rfl
theorem fn_117:Q1t Tryz.prog 117 = true:=by kernel_rfl
theorem Qbr:Q1t Tryz.prog 118 = true:=by kernel_rfl
theorem fn_119:Q1t Tryz.prog 119 = true:=by kernel_rfl
theorem fn_120:Q1t Tryz.prog 120 = true:=by kernel_rfl
theorem fn_121:Q1t Tryz.prog 121 = true:=by kernel_rfl
theorem fn_123:Q1t Tryz.prog 123 = true:=by kernel_rfl
theorem Q8T:Q1t Tryz.prog 124 = true:=by kernel_rfl
theorem fn_125:Q1t Tryz.prog 125 = true:=by kernel_rfl
theorem fn_126:Q1t Tryz.prog 126 = true:=by kernel_rfl
theorem fn_127:Q1t Tryz.prog 127 = true:=by kernel_rfl
theorem fn_128:Q1t Tryz.prog 128 = true:=by kernel_rfl
theorem fn_129:Q1t Tryz.prog 129 = true:=by kernel_rfl
theorem fn_130:Q1t Tryz.prog 130 = true:=by kernel_rfl
theorem fn_135:Q1t Tryz.prog 135 = true:=by kernel_rfl
theorem fn_136:Q1t Tryz.prog 136 = true:=by kernel_rfl
theorem fn_137:Q1t Tryz.prog 137 = true:=by kernel_rfl
theorem fn_138:Q1t Tryz.prog 138 = true:=by kernel_rfl
theorem fn_139:Q1t Tryz.prog 139 = true:=by kernel_rfl
theorem fn_140:Q1t Tryz.prog 140 = true:=by kernel_rfl
theorem fn_141:Q1t Tryz.prog 141 = true:=by kernel_rfl
theorem fn_142:Q1t Tryz.prog 142 = true:=by kernel_rfl
theorem fn_147:Q1t Tryz.prog 147 = true:=by kernel_rfl
theorem fn_148:Q1t Tryz.prog 148 = true:=by kernel_rfl
theorem fn_149:Q1t Tryz.prog 149 = true:=by kernel_rfl
theorem fn_150:Q1t Tryz.prog 150 = true:=by kernel_rfl
theorem fn_151:Q1t Tryz.prog 151 = true:=by kernel_rfl
theorem fn_152:Q1t Tryz.prog 152 = true:=by kernel_rfl
theorem fn_153:Q1t Tryz.prog 153 = true:=by kernel_rfl
theorem fn_154:Q1t Tryz.prog 154 = true:=by kernel_rfl
theorem fn_155:Q1t Tryz.prog 155 = true:=by kernel_rfl
theorem fn_156:Q1t Tryz.prog 156 = true:=by kernel_rfl
theorem fn_159:Q1t Tryz.prog 159 = true:=by kernel_rfl
theorem fn_160:Q1t Tryz.prog 160 = true:=by kernel_rfl
theorem Q86:Q1t Tryz.prog 161 = true:=by kernel_rfl
theorem fn_162:Q1t Tryz.prog 162 = true:=by kernel_rfl
theorem Qbs:Q1t Tryz.prog 163 = true:=by kernel_rfl
theorem fn_164:Q1t Tryz.prog 164 = true:=by kernel_rfl
theorem QaM:Q1t Tryz.prog 165 = true:=by kernel_rfl
theorem fn_166:Q1t Tryz.prog 166 = true:=by kernel_rfl
theorem fn_167:Q1t Tryz.prog 167 = true:=by kernel_rfl
theorem fn_168:Q1t Tryz.prog 168 = true:=by kernel_rfl
theorem fn_169:Q1t Tryz.prog 169 = true:=by kernel_rfl
theorem fn_170:Q1t Tryz.prog 170 = true:=by kernel_rfl
theorem fn_171:Q1t Tryz.prog 171 = true:=by kernel_rfl
theorem Qa2:Q1t Tryz.prog 172 = true:=by kernel_rfl
theorem fn_173:Q1t Tryz.prog 173 = true:=by kernel_rfl
theorem fn_174:Q1t Tryz.prog 174 = true:=by kernel_rfl
theorem fn_175:Q1t Tryz.prog 175 = true:=by kernel_rfl
theorem fn_179:Q1t Tryz.prog 179 = true:=by kernel_rfl
theorem fn_180:Q1t Tryz.prog 180 = true:=by kernel_rfl
theorem fn_195:Q1t Tryz.prog 195 = true:=by kernel_rfl
theorem fn_198:Q1t Tryz.prog 198 = true:=by kernel_rfl
theorem fn_199:Q1t Tryz.prog 199 = true:=by kernel_rfl
theorem fn_200:Q1t Tryz.prog 200 = true:=by kernel_rfl
theorem fn_201:Q1t Tryz.prog 201 = true:=by kernel_rfl
theorem fn_202:Q1t Tryz.prog 202 = true:=by kernel_rfl
theorem fn_203:Q1t Tryz.prog 203 = true:=by kernel_rfl
theorem fn_204:Q1t Tryz.prog 204 = true:=by kernel_rfl
theorem fn_205:Q1t Tryz.prog 205 = true:=by kernel_rfl
theorem fn_206:Q1t Tryz.prog 206 = true:=by kernel_rfl
theorem fn_207:Q1t Tryz.prog 207 = true:=by kernel_rfl
theorem fn_208:Q1t Tryz.prog 208 = true:=by kernel_rfl
theorem fn_209:Q1t Tryz.prog 209 = true:=by kernel_rfl
theorem fn_210:Q1t Tryz.prog 210 = true:=by kernel_rfl
theorem fn_211:Q1t Tryz.prog 211 = true:=by kernel_rfl
theorem fn_214:Q1t Tryz.prog 214 = true:=by kernel_rfl
theorem fn_220:Q1t Tryz.prog 220 = true:=by kernel_rfl
theorem fn_221:Q1t Tryz.prog 221 = true:=by kernel_rfl
theorem fn_222:Q1t Tryz.prog 222 = true:=by kernel_rfl
theorem fn_223:Q1t Tryz.prog 223 = true:=by kernel_rfl
theorem fn_224:Q1t Tryz.prog 224 = true:=by kernel_rfl
theorem fn_225:Q1t Tryz.prog 225 = true:=by kernel_rfl
theorem fn_226:Q1t Tryz.prog 226 = true:=by kernel_rfl
theorem fn_227:Q1t Tryz.prog 227 = true:=by kernel_rfl
theorem fn_228:Q1t Tryz.prog 228 = true:=by kernel_rfl
theorem fn_229:Q1t Tryz.prog 229 = true:=by kernel_rfl
theorem fn_230:Q1t Tryz.prog 230 = true:=by kernel_rfl
theorem fn_234:Q1t Tryz.prog 234 = true:=by kernel_rfl
theorem fn_235:Q1t Tryz.prog 235 = true:=by kernel_rfl
theorem fn_236:Q1t Tryz.prog 236 = true:=by kernel_rfl
end Go.Proofs.YtbgodclhmgmcgaaGreatDoor
