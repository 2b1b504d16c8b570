import Derived.Test.YtbgodclhmgmcgaaGreatDoorChecked
import Derived.Test.YtbgodclhmgmcgaaGreatDoorIdx
namespace Go.Proofs.YtbgodclhmgmcgaaGreatDoor
open Go.RowKit
theorem tS_2:Q1P Tryz.prog 2 = some 1:=by kernel_rfl
theorem tA_2:Q3s Tryz.prog 2 = some false:=by kernel_rfl
theorem Q1l:Q1P Tryz.prog 3 = some 1:=by kernel_rfl
theorem Q1H:Q3s Tryz.prog 3 = some false:=by kernel_rfl
theorem tZ_3:Q3b Tryz.prog 3 = some (.int .i64 0):=by kernel_rfl
theorem tR_3:tRow Tryz.prog 3 = some (.int .i64 0,1,8):=by kernel_rfl
theorem tS_4:Q1P Tryz.prog 4 = some 1:=by kernel_rfl
theorem tA_4:Q3s Tryz.prog 4 = some false:=by kernel_rfl
theorem tZ_4:Q3b Tryz.prog 4 = some (.bool false):=by kernel_rfl
theorem tR_4:tRow Tryz.prog 4 = some (.bool false,1,1):=by kernel_rfl
theorem Q2b:Q1P Tryz.prog 9 = some 1:=by kernel_rfl
theorem Q3D:Q3s Tryz.prog 9 = some false:=by kernel_rfl
theorem tZ_9:Q3b Tryz.prog 9 = some (.string ⟨#[]⟩):=by kernel_rfl
theorem tR_9:tRow Tryz.prog 9 = some (.string ⟨#[]⟩,1,16):=by kernel_rfl
theorem Q8E:Q1P Tryz.prog 22 = some 1:=by kernel_rfl
theorem Q97:Q3s Tryz.prog 22 = some false:=by kernel_rfl
theorem Q8o:Q3h Tryz.prog 22 = some 69:=by kernel_rfl
theorem Q9b:Q1P Tryz.prog 23 = some 1:=by kernel_rfl
theorem Q9B:Q3s Tryz.prog 23 = some false:=by kernel_rfl
theorem Q7F:Q3h Tryz.prog 23 = some 52:=by kernel_rfl
theorem Q9c:Q1P Tryz.prog 25 = some 2:=by kernel_rfl
theorem tA_25:Q3s Tryz.prog 25 = some true:=by kernel_rfl
theorem tZ_25:Q3b Tryz.prog 25 = some (.agg #[.slice none 0 0,.slice none 0 0]):=by kernel_rfl
theorem tP_25:Q38 Tryz.prog 25 = some [(0,1),(1,1)]:=by kernel_rfl
theorem Q5n:Q1I Tryz.prog 25 0 = some 0:=by kernel_rfl
theorem Q5M:Q1I Tryz.prog 25 1 = some 1:=by kernel_rfl
theorem tS_26:Q1P Tryz.prog 26 = some 1:=by kernel_rfl
theorem tA_26:Q3s Tryz.prog 26 = some false:=by kernel_rfl
theorem Q7s:Q3h Tryz.prog 26 = some 71:=by kernel_rfl
theorem tS_31:Q1P Tryz.prog 31 = some 1:=by kernel_rfl
theorem tA_31:Q3s Tryz.prog 31 = some false:=by kernel_rfl
theorem tZ_31:Q3b Tryz.prog 31 = some (.slice none 0 0):=by kernel_rfl
theorem Q9C:Q3h Tryz.prog 31 = some 41:=by kernel_rfl
theorem tS_32:Q1P Tryz.prog 32 = some 1:=by kernel_rfl
theorem tA_32:Q3s Tryz.prog 32 = some false:=by kernel_rfl
theorem tZ_32:Q3b Tryz.prog 32 = some (.int .i64 0):=by kernel_rfl
theorem Q9E:Q1P Tryz.prog 39 = some 1:=by kernel_rfl
theorem tA_39:Q3s Tryz.prog 39 = some false:=by kernel_rfl
theorem Q6l:Q3h Tryz.prog 39 = some 3:=by kernel_rfl
theorem Q9d:Q1P Tryz.prog 41 = some 2:=by kernel_rfl
theorem tA_41:Q3s Tryz.prog 41 = some true:=by kernel_rfl
theorem tZ_41:Q3b Tryz.prog 41 = some (.agg #[.int .i64 0,.slice none 0 0]):=by kernel_rfl
theorem tR_41:tRow Tryz.prog 41 = some (.agg #[.int .i64 0,.slice none 0 0],2,32):=by kernel_rfl
theorem tP_41:Q38 Tryz.prog 41 = some [(0,1),(1,1)]:=by kernel_rfl
theorem tF_41_0:Q1I Tryz.prog 41 0 = some 0:=by kernel_rfl
theorem Qat:Q1I Tryz.prog 41 1 = some 1:=by kernel_rfl
theorem Q7c:Q1P Tryz.prog 43 = some 1:=by kernel_rfl
theorem Q7b:Q3s Tryz.prog 43 = some false:=by kernel_rfl
theorem Q5e:Q3h Tryz.prog 43 = some 57:=by kernel_rfl
theorem tS_49:Q1P Tryz.prog 49 = some 1:=by kernel_rfl
theorem tA_49:Q3s Tryz.prog 49 = some false:=by kernel_rfl
theorem Qa1:Q3h Tryz.prog 49 = some 67:=by kernel_rfl
theorem tS_50:Q1P Tryz.prog 50 = some 1:=by kernel_rfl
theorem tA_50:Q3s Tryz.prog 50 = some false:=by kernel_rfl
theorem tE_50:Q3h Tryz.prog 50 = some 81:=by kernel_rfl
theorem Q5f:Q1P Tryz.prog 52 = some 5:=by kernel_rfl
theorem Qas:Q3s Tryz.prog 52 = some true:=by kernel_rfl
theorem tZ_52:Q3b Tryz.prog 52 = some (.agg #[.string ⟨#[]⟩,.int .i64 0,.int .i64 0,.slice none 0 0,.slice none 0 0]):=by kernel_rfl
theorem tR_52:tRow Tryz.prog 52 = some (.agg #[.string ⟨#[]⟩,.int .i64 0,.int .i64 0,.slice none 0 0,.slice none 0 0],5,80):=by kernel_rfl
theorem tP_52:Q38 Tryz.prog 52 = some [(0,1),(1,1),(2,1),(3,1),(4,1)]:=by kernel_rfl
theorem tF_52_0:Q1I Tryz.prog 52 0 = some 0:=by kernel_rfl
theorem tF_52_1:Q1I Tryz.prog 52 1 = some 1:=by kernel_rfl
theorem Qbt:Q1I Tryz.prog 52 2 = some 2:=by kernel_rfl
theorem Q7D:Q1I Tryz.prog 52 3 = some 3:=by kernel_rfl
theorem Q9H:Q1I Tryz.prog 52 4 = some 4:=by kernel_rfl
theorem tS_53:Q1P Tryz.prog 53 = some 1:=by kernel_rfl
theorem tA_53:Q3s Tryz.prog 53 = some false:=by kernel_rfl
theorem tS_54:Q1P Tryz.prog 54 = some 1:=by kernel_rfl
theorem tA_54:Q3s Tryz.prog 54 = some false:=by kernel_rfl
theorem tS_55:Q1P Tryz.prog 55 = some 1:=by kernel_rfl
theorem tA_55:Q3s Tryz.prog 55 = some false:=by kernel_rfl
theorem Q1z:Q1P Tryz.prog 57 = some 3:=by kernel_rfl
theorem Q2H:Q3s Tryz.prog 57 = some true:=by kernel_rfl
theorem Q3r:Q3b Tryz.prog 57 = some (.agg #[.int .u8 0,.int .i64 0,.string ⟨#[]⟩]):=by kernel_rfl
theorem tR_57:tRow Tryz.prog 57 = some (.agg #[.int .u8 0,.int .i64 0,.string ⟨#[]⟩],3,32):=by kernel_rfl
theorem Q9D:Q38 Tryz.prog 57 = some [(0,1),(1,1),(2,1)]:=by kernel_rfl
theorem tF_57_0:Q1I Tryz.prog 57 0 = some 0:=by kernel_rfl
theorem Q3p:Q1I Tryz.prog 57 1 = some 1:=by kernel_rfl
theorem tF_57_2:Q1I Tryz.prog 57 2 = some 2:=by kernel_rfl
theorem Qay:Q1P Tryz.prog 59 = some 5:=by kernel_rfl
theorem tA_59:Q3s Tryz.prog 59 = some true:=by kernel_rfl
theorem tZ_59:Q3b Tryz.prog 59 = some (.agg #[.int .u8 0,.int .i64 0,.int .u8 0,.int .i64 0,.string ⟨#[]⟩]):=by kernel_rfl
theorem tR_59:tRow Tryz.prog 59 = some (.agg #[.int .u8 0,.int .i64 0,.int .u8 0,.int .i64 0,.string ⟨#[]⟩],5,48):=by kernel_rfl
theorem tP_59:Q38 Tryz.prog 59 = some [(0,1),(1,1),(2,3)]:=by kernel_rfl
theorem tF_59_0:Q1I Tryz.prog 59 0 = some 0:=by kernel_rfl
theorem Q61:Q1I Tryz.prog 59 1 = some 1:=by kernel_rfl
theorem tF_59_2:Q1I Tryz.prog 59 2 = some 2:=by kernel_rfl
theorem tS_60:Q1P Tryz.prog 60 = some 1:=by kernel_rfl
theorem tA_60:Q3s Tryz.prog 60 = some false:=by kernel_rfl
theorem tE_60:Q3h Tryz.prog 60 = some 59:=by kernel_rfl
theorem tS_61:Q1P Tryz.prog 61 = some 1:=by kernel_rfl
theorem tA_61:Q3s Tryz.prog 61 = some false:=by kernel_rfl
theorem tS_62:Q1P Tryz.prog 62 = some 1:=by kernel_rfl
theorem tA_62:Q3s Tryz.prog 62 = some false:=by kernel_rfl
theorem tZ_62:Q3b Tryz.prog 62 = some (.int .u8 0):=by kernel_rfl
theorem Q8F:Q1P Tryz.prog 63 = some 1:=by kernel_rfl
theorem Q98:Q3s Tryz.prog 63 = some false:=by kernel_rfl
theorem Q7G:Q3h Tryz.prog 63 = some 65:=by kernel_rfl
theorem Q4V:Q1P Tryz.prog 65 = some 7:=by kernel_rfl
theorem Q7Q:Q3s Tryz.prog 65 = some true:=by kernel_rfl
theorem tZ_65:Q3b Tryz.prog 65 = some (.agg #[.int .u8 0,.int .u8 0,.int .i64 0,.string ⟨#[]⟩,.int .i64 0,.int .u8 0,.slice none 0 0]):=by kernel_rfl
theorem tR_65:tRow Tryz.prog 65 = some (.agg #[.int .u8 0,.int .u8 0,.int .i64 0,.string ⟨#[]⟩,.int .i64 0,.int .u8 0,.slice none 0 0],7,80):=by kernel_rfl
theorem tP_65:Q38 Tryz.prog 65 = some [(0,1),(1,3),(4,1),(5,1),(6,1)]:=by kernel_rfl
theorem tF_65_0:Q1I Tryz.prog 65 0 = some 0:=by kernel_rfl
theorem tF_65_1:Q1I Tryz.prog 65 1 = some 1:=by kernel_rfl
theorem Qau:Q1I Tryz.prog 65 2 = some 4:=by kernel_rfl
theorem Q9I:Q1I Tryz.prog 65 3 = some 5:=by kernel_rfl
theorem Qav:Q1I Tryz.prog 65 4 = some 6:=by kernel_rfl
theorem Q6S:Q1P Tryz.prog 67 = some 10:=by kernel_rfl
theorem tA_67:Q3s Tryz.prog 67 = some true:=by kernel_rfl
theorem tZ_67:Q3b Tryz.prog 67 = some (.agg #[.int .u8 0,.int .i64 0,.slice none 0 0,.int .u8 0,.int .u8 0,.int .i64 0,.string ⟨#[]⟩,.int .i64 0,.int .u8 0,.slice none 0 0]):=by kernel_rfl
theorem tR_67:tRow Tryz.prog 67 = some (.agg #[.int .u8 0,.int .i64 0,.slice none 0 0,.int .u8 0,.int .u8 0,.int .i64 0,.string ⟨#[]⟩,.int .i64 0,.int .u8 0,.slice none 0 0],10,120):=by kernel_rfl
theorem tP_67:Q38 Tryz.prog 67 = some [(0,1),(1,1),(2,1),(3,7)]:=by kernel_rfl
theorem Qaw:Q1I Tryz.prog 67 0 = some 0:=by kernel_rfl
theorem tF_67_1:Q1I Tryz.prog 67 1 = some 1:=by kernel_rfl
theorem Qbu:Q1I Tryz.prog 67 2 = some 2:=by kernel_rfl
theorem Qbv:Q1I Tryz.prog 67 3 = some 3:=by kernel_rfl
theorem tS_69:Q1P Tryz.prog 69 = some 2:=by kernel_rfl
theorem tA_69:Q3s Tryz.prog 69 = some true:=by kernel_rfl
theorem tZ_69:Q3b Tryz.prog 69 = some (.agg #[.string ⟨#[]⟩,.int .i64 0]):=by kernel_rfl
theorem tR_69:tRow Tryz.prog 69 = some (.agg #[.string ⟨#[]⟩,.int .i64 0],2,24):=by kernel_rfl
theorem tP_69:Q38 Tryz.prog 69 = some [(0,1),(1,1)]:=by kernel_rfl
theorem Qbw:Q1I Tryz.prog 69 0 = some 0:=by kernel_rfl
theorem Q9J:Q1I Tryz.prog 69 1 = some 1:=by kernel_rfl
theorem Q5g:Q1P Tryz.prog 71 = some 3:=by kernel_rfl
theorem tA_71:Q3s Tryz.prog 71 = some true:=by kernel_rfl
theorem tZ_71:Q3b Tryz.prog 71 = some (.agg #[.int .i64 0,.int .i64 0,.slice none 0 0]):=by kernel_rfl
theorem tP_71:Q38 Tryz.prog 71 = some [(0,1),(1,1),(2,1)]:=by kernel_rfl
theorem Q6O:Q1I Tryz.prog 71 0 = some 0:=by kernel_rfl
theorem Q8Z:Q1I Tryz.prog 71 1 = some 1:=by kernel_rfl
theorem Qax:Q1I Tryz.prog 71 2 = some 2:=by kernel_rfl
theorem tS_79:Q1P Tryz.prog 79 = some 1:=by kernel_rfl
theorem tA_79:Q3s Tryz.prog 79 = some false:=by kernel_rfl
theorem tS_81:Q1P Tryz.prog 81 = some 4:=by kernel_rfl
theorem tA_81:Q3s Tryz.prog 81 = some true:=by kernel_rfl
theorem tZ_81:Q3b Tryz.prog 81 = some (.agg #[.int .u8 0,.int .i64 0,.int .i64 0,.slice none 0 0]):=by kernel_rfl
theorem tR_81:tRow Tryz.prog 81 = some (.agg #[.int .u8 0,.int .i64 0,.int .i64 0,.slice none 0 0],4,48):=by kernel_rfl
theorem tP_81:Q38 Tryz.prog 81 = some [(0,1),(1,1),(2,1),(3,1)]:=by kernel_rfl
theorem tF_81_0:Q1I Tryz.prog 81 0 = some 0:=by kernel_rfl
theorem Qbx:Q1I Tryz.prog 81 1 = some 1:=by kernel_rfl
theorem tF_81_2:Q1I Tryz.prog 81 2 = some 2:=by kernel_rfl
theorem Q90:Q1I Tryz.prog 81 3 = some 3:=by kernel_rfl
theorem tS_88:Q1P Tryz.prog 88 = some 1:=by kernel_rfl
theorem tA_88:Q3s Tryz.prog 88 = some false:=by kernel_rfl
theorem tS_98:Q1P Tryz.prog 98 = some 1:=by kernel_rfl
theorem tA_98:Q3s Tryz.prog 98 = some false:=by kernel_rfl
theorem tE_98:Q3h Tryz.prog 98 = some 4:=by kernel_rfl
theorem Q2w:Q1P Tryz.prog 100 = some 2:=by kernel_rfl
theorem Q5U:Q3s Tryz.prog 100 = some true:=by kernel_rfl
theorem Q8q:Q3b Tryz.prog 100 = some (.agg #[.slice none 0 0,.slice none 0 0]):=by kernel_rfl
theorem tP_100:Q38 Tryz.prog 100 = some [(0,1),(1,1)]:=by kernel_rfl
theorem Qa2:Q1I Tryz.prog 100 0 = some 0:=by kernel_rfl
theorem Q7t:Q1I Tryz.prog 100 1 = some 1:=by kernel_rfl
theorem Qa5:Q1P Tryz.prog 113 = some 2:=by kernel_rfl
theorem tA_113:Q3s Tryz.prog 113 = some true:=by kernel_rfl
theorem QaF:Q3b Tryz.prog 113 = some (.agg #[.int .i64 0,.int .i64 0]):=by kernel_rfl
theorem tP_113:Q38 Tryz.prog 113 = some [(0,1),(1,1)]:=by kernel_rfl
theorem QaY:Q1I Tryz.prog 113 0 = some 0:=by kernel_rfl
theorem Qa6:Q1P Tryz.prog 120 = some 1:=by kernel_rfl
theorem Q9Z:Q3s Tryz.prog 120 = some false:=by kernel_rfl
theorem tZ_122:Q3b Tryz.prog 122 = some (.agg #[.slice none 0 0,.slice none 0 0]):=by kernel_rfl
theorem tP_122:Q38 Tryz.prog 122 = some [(0,2)]:=by kernel_rfl
theorem tF_122_0:Q1I Tryz.prog 122 0 = some 0:=by kernel_rfl
theorem tZ_124:Q3b Tryz.prog 124 = some (.agg #[.slice none 0 0,.slice none 0 0,.int .i64 0,.int .i64 0]):=by kernel_rfl
theorem tP_124:Q38 Tryz.prog 124 = some [(0,2),(2,1),(3,1)]:=by kernel_rfl
theorem Qc2:Q1I Tryz.prog 124 0 = some 0:=by kernel_rfl
theorem Q6m:Q1I Tryz.prog 124 1 = some 2:=by kernel_rfl
theorem tF_124_2:Q1I Tryz.prog 124 2 = some 3:=by kernel_rfl
theorem tZ_131:Q3b Tryz.prog 131 = some (.agg #[]):=by kernel_rfl
theorem tP_131:Q38 Tryz.prog 131 = some []:=by kernel_rfl
theorem tS_133:Q1P Tryz.prog 133 = some 1:=by kernel_rfl
theorem tA_133:Q3s Tryz.prog 133 = some false:=by kernel_rfl
theorem tZ_135:Q3b Tryz.prog 135 = some (.agg #[.slice none 0 0,.slice none 0 0,.string ⟨#[]⟩,.int .i64 0,.int .i64 0,.slice none 0 0,.slice none 0 0,.slice none 0 0,.slice none 0 0,.int .i64 0,.nilFunc]):=by kernel_rfl
theorem tP_135:Q38 Tryz.prog 135 = some [(0,2),(2,5),(7,1),(8,1),(9,1),(10,1)]:=by kernel_rfl
theorem Q6R:Q1I Tryz.prog 135 0 = some 0:=by kernel_rfl
theorem tF_135_1:Q1I Tryz.prog 135 1 = some 2:=by kernel_rfl
theorem tF_135_2:Q1I Tryz.prog 135 2 = some 7:=by kernel_rfl
theorem Q99:Q1I Tryz.prog 135 3 = some 8:=by kernel_rfl
theorem Q9a:Q1I Tryz.prog 135 4 = some 9:=by kernel_rfl
theorem tF_135_5:Q1I Tryz.prog 135 5 = some 10:=by kernel_rfl
theorem tZ_140:Q3b Tryz.prog 140 = some (.nilFunc):=by kernel_rfl
theorem tS_152:Q1P Tryz.prog 152 = some 2:=by kernel_rfl
theorem tA_152:Q3s Tryz.prog 152 = some true:=by kernel_rfl
theorem tZ_152:Q3b Tryz.prog 152 = some (.agg #[.slice none 0 0,.slice none 0 0]):=by kernel_rfl
theorem tP_152:Q38 Tryz.prog 152 = some [(0,2)]:=by kernel_rfl
theorem Qa3:Q1I Tryz.prog 152 0 = some 0:=by kernel_rfl
theorem Q3K:Q1P Tryz.prog 156 = some 1:=by kernel_rfl
theorem Q7r:Q3s Tryz.prog 156 = some false:=by kernel_rfl
theorem tZ_156:Q3b Tryz.prog 156 = some (.int .u8 0):=by kernel_rfl
theorem Q24:Q1P Tryz.prog 157 = some 1:=by kernel_rfl
theorem Q2r:Q3s Tryz.prog 157 = some false:=by kernel_rfl
theorem Q1R:Q3h Tryz.prog 157 = some 159:=by kernel_rfl
theorem Q10:Q1P Tryz.prog 159 = some 5:=by kernel_rfl
theorem Q1T:Q3s Tryz.prog 159 = some true:=by kernel_rfl
theorem Q3E:Q3b Tryz.prog 159 = some (.agg #[.int .u8 0,.string ⟨#[]⟩,.int .i64 0,.int .i64 0,.slice none 0 0]):=by kernel_rfl
theorem tR_159:tRow Tryz.prog 159 = some (.agg #[.int .u8 0,.string ⟨#[]⟩,.int .i64 0,.int .i64 0,.slice none 0 0],5,64):=by kernel_rfl
theorem tP_159:Q38 Tryz.prog 159 = some [(0,1),(1,1),(2,1),(3,1),(4,1)]:=by kernel_rfl
theorem Q3i:Q1I Tryz.prog 159 0 = some 0:=by kernel_rfl
theorem Q2s:Q1I Tryz.prog 159 1 = some 1:=by kernel_rfl
theorem Q6n:Q1I Tryz.prog 159 2 = some 2:=by kernel_rfl
theorem tF_159_3:Q1I Tryz.prog 159 3 = some 3:=by kernel_rfl
theorem Q1y:Q1I Tryz.prog 159 4 = some 4:=by kernel_rfl
theorem tZ_183:Q3b Tryz.prog 183 = some (.nilFunc):=by kernel_rfl
theorem tS_189:Q1P Tryz.prog 189 = some 1:=by kernel_rfl
theorem tA_189:Q3s Tryz.prog 189 = some false:=by kernel_rfl
theorem tE_189:Q3h Tryz.prog 189 = some 197:=by kernel_rfl
theorem tZ_194:Q3b Tryz.prog 194 = some (.agg #[.slice none 0 0,.int .i64 0,.bool false]):=by kernel_rfl
theorem tP_194:Q38 Tryz.prog 194 = some [(0,1),(1,1),(2,1)]:=by kernel_rfl
theorem tF_194_0:Q1I Tryz.prog 194 0 = some 0:=by kernel_rfl
theorem tF_194_1:Q1I Tryz.prog 194 1 = some 1:=by kernel_rfl
theorem Q8p:Q1I Tryz.prog 194 2 = some 2:=by kernel_rfl
theorem QaE:Q1P Tryz.prog 195 = some 1:=by kernel_rfl
theorem Qbr:Q3s Tryz.prog 195 = some false:=by kernel_rfl
theorem Q4Q:Q1P Tryz.prog 197 = some 3:=by kernel_rfl
theorem Qbs:Q3s Tryz.prog 197 = some true:=by kernel_rfl
theorem Q7L:Q3b Tryz.prog 197 = some (.agg #[.int .u8 0,.string ⟨#[]⟩,.int .i64 0]):=by kernel_rfl
theorem tR_197:tRow Tryz.prog 197 = some (.agg #[.int .u8 0,.string ⟨#[]⟩,.int .i64 0],3,32):=by kernel_rfl
theorem tP_197:Q38 Tryz.prog 197 = some [(0,1),(1,1),(2,1)]:=by kernel_rfl
theorem Qa4:Q1I Tryz.prog 197 0 = some 0:=by kernel_rfl
theorem QaZ:Q1I Tryz.prog 197 1 = some 1:=by kernel_rfl
theorem tF_197_2:Q1I Tryz.prog 197 2 = some 2:=by kernel_rfl
theorem Q7v:Q1P Tryz.prog 204 = some 1:=by kernel_rfl
theorem Qa0:Q3s Tryz.prog 204 = some false:=by kernel_rfl
theorem tZ_204:Q3b Tryz.prog 204 = some (.slice none 0 0):=by kernel_rfl
theorem Q1Z:Q3h Tryz.prog 204 = some 9:=by kernel_rfl
theorem tZ_206:Q3b Tryz.prog 206 = some (.agg #[.slice none 0 0,.slice none 0 0,.slice none 0 0,.int .i64 0,.int .i64 0,.int .i64 0]):=by kernel_rfl
theorem tP_206:Q38 Tryz.prog 206 = some [(0,2),(2,1),(3,1),(4,2)]:=by kernel_rfl
theorem Q7u:Q1I Tryz.prog 206 0 = some 0:=by kernel_rfl
theorem Q7R:Q1I Tryz.prog 206 1 = some 2:=by kernel_rfl
theorem tF_206_2:Q1I Tryz.prog 206 2 = some 3:=by kernel_rfl
theorem tF_206_3:Q1I Tryz.prog 206 3 = some 4:=by kernel_rfl
theorem tS_220:Q1P Tryz.prog 220 = some 1:=by kernel_rfl
theorem tA_220:Q3s Tryz.prog 220 = some false:=by kernel_rfl
theorem tZ_220:Q3b Tryz.prog 220 = some (.nilFunc):=by kernel_rfl
theorem tE_254:Q3h Tryz.prog 254 = some 156:=by kernel_rfl
theorem tE_269:Q3h Tryz.prog 269 = some 204:=by kernel_rfl
theorem tE_272:Q3h Tryz.prog 272 = some 62:=by kernel_rfl
theorem fn_8:Q1s Tryz.prog 8 = true:=by kernel_rfl
theorem fn_9:Q1s Tryz.prog 9 = true:=by kernel_rfl
theorem fn_12:Q1s Tryz.prog 12 = true:=by kernel_rfl
theorem fn_14:Q1s Tryz.prog 14 = true:=by kernel_rfl
theorem fn_17:Q1s Tryz.prog 17 = true:=by kernel_rfl
theorem fn_18:Q1s Tryz.prog 18 = true:=by kernel_rfl
theorem fn_21:Q1s Tryz.prog 21 = true:=by kernel_rfl
theorem fn_24:Q1s Tryz.prog 24 = true:=by kernel_rfl
theorem fn_25:Q1s Tryz.prog 25 = true:=by kernel_rfl
theorem fn_30:Q1s Tryz.prog 30 = true:=by kernel_rfl
theorem fn_31:Q1s Tryz.prog 31 = true:=by kernel_rfl
theorem fn_32:Q1s Tryz.prog 32 = true:=by kernel_rfl
theorem fn_33:Q1s Tryz.prog 33 = true:=by kernel_rfl
theorem fn_37:Q1s Tryz.prog 37 = true:=by kernel_rfl
theorem fn_43:Q1s Tryz.prog 43 = true:=by kernel_rfl
theorem fn_44:Q1s Tryz.prog 44 = true:=by kernel_rfl
theorem fn_45:Q1s Tryz.prog 45 = true:=by kernel_rfl
theorem fn_46:Q1s Tryz.prog 46 = true:=by kernel_rfl
theorem fn_47:Q1s Tryz.prog 47 = true:=by kernel_rfl
theorem fn_48:Q1s Tryz.prog 48 = true:=by kernel_rfl
theorem fn_49:Q1s Tryz.prog 49 = true:=by kernel_rfl
theorem fn_52:Q1s Tryz.prog 52 = true:=by kernel_rfl
theorem fn_58:Q1s Tryz.prog 58 = true:=by kernel_rfl
theorem fn_59:Q1s Tryz.prog 59 = true:=by kernel_rfl
theorem fn_60:Q1s Tryz.prog 60 = true:=by kernel_rfl
theorem fn_61:Q1s Tryz.prog 61 = true:=by kernel_rfl
theorem fn_62:Q1s Tryz.prog 62 = true:=by kernel_rfl
theorem fn_63:Q1s Tryz.prog 63 = true:=by kernel_rfl
theorem fn_64:Q1s Tryz.prog 64 = true:=by kernel_rfl
theorem fn_65:Q1s Tryz.prog 65 = true:=by kernel_rfl
theorem fn_66:Q1s Tryz.prog 66 = true:=by kernel_rfl
theorem fn_67:Q1s Tryz.prog 67 = true:=by kernel_rfl
theorem fn_68:Q1s Tryz.prog 68 = true:=by kernel_rfl
theorem Q9A:Q1s Tryz.prog 69 = true:=by kernel_rfl
theorem fn_70:Q1s Tryz.prog 70 = true:=by kernel_rfl
theorem fn_73:Q1s Tryz.prog 73 = true:=by kernel_rfl
theorem fn_79:Q1s Tryz.prog 79 = true:=by kernel_rfl
theorem fn_80:Q1s Tryz.prog 80 = true:=by kernel_rfl
theorem fn_81:Q1s Tryz.prog 81 = true:=by kernel_rfl
theorem fn_82:Q1s Tryz.prog 82 = true:=by kernel_rfl
theorem fn_83:Q1s Tryz.prog 83 = true:=by kernel_rfl
theorem fn_84:Q1s Tryz.prog 84 = true:=by kernel_rfl
theorem fn_85:Q1s Tryz.prog 85 = true:=by kernel_rfl
theorem fn_86:Q1s Tryz.prog 86 = true:=by kernel_rfl
theorem fn_87:Q1s Tryz.prog 87 = true:=by kernel_rfl
theorem fn_88:Q1s Tryz.prog 88 = true:=by kernel_rfl
theorem fn_89:Q1s Tryz.prog 89 = true:=by kernel_rfl
theorem fn_90:Q1s Tryz.prog 90 = true:=by kernel_rfl
theorem fn_93:Q1s Tryz.prog 93 = true:=by kernel_rfl
theorem fn_94:Q1s Tryz.prog 94 = true:=by kernel_rfl
theorem fn_98:Q1s Tryz.prog 98 = true:=by kernel_rfl
theorem fn_99:Q1s Tryz.prog 99 = true:=by kernel_rfl
theorem fn_100:Q1s Tryz.prog 100 = true:=by kernel_rfl
theorem fn_101:Q1s Tryz.prog 101 = true:=by kernel_rfl
theorem fn_102:Q1s Tryz.prog 102 = true:=by kernel_rfl
theorem fn_103:Q1s Tryz.prog 103 = true:=by kernel_rfl
theorem fn_104:Q1s Tryz.prog 104 = true:=by kernel_rfl
theorem fn_105:Q1s Tryz.prog 105 = true:=by kernel_rfl
theorem fn_106:Q1s Tryz.prog 106 = true:=by kernel_rfl
theorem fn_107:Q1s Tryz.prog 107 = true:=by kernel_rfl
theorem fn_117:Q1s Tryz.prog 117 = true:=by kernel_rfl
theorem Qbg:Q1s Tryz.prog 118 = true:=by kernel_rfl
theorem fn_119:Q1s Tryz.prog 119 = true:=by kernel_rfl
theorem fn_120:Q1s Tryz.prog 120 = true:=by kernel_rfl
theorem fn_121:Q1s Tryz.prog 121 = true:=by kernel_rfl
theorem fn_123:Q1s Tryz.prog 123 = true:=by kernel_rfl
theorem Q8J:Q1s Tryz.prog 124 = true:=by kernel_rfl
theorem fn_125:Q1s Tryz.prog 125 = true:=by kernel_rfl
theorem fn_126:Q1s Tryz.prog 126 = true:=by kernel_rfl
theorem fn_127:Q1s Tryz.prog 127 = true:=by kernel_rfl
theorem fn_128:Q1s Tryz.prog 128 = true:=by kernel_rfl
theorem fn_129:Q1s Tryz.prog 129 = true:=by kernel_rfl
theorem fn_130:Q1s Tryz.prog 130 = true:=by kernel_rfl
theorem fn_135:Q1s Tryz.prog 135 = true:=by kernel_rfl
theorem fn_136:Q1s Tryz.prog 136 = true:=by kernel_rfl
theorem fn_137:Q1s Tryz.prog 137 = true:=by kernel_rfl
theorem fn_138:Q1s Tryz.prog 138 = true:=by kernel_rfl
theorem fn_139:Q1s Tryz.prog 139 = true:=by kernel_rfl
theorem fn_140:Q1s Tryz.prog 140 = true:=by kernel_rfl
theorem fn_141:Q1s Tryz.prog 141 = true:=by kernel_rfl
theorem fn_142:Q1s Tryz.prog 142 = true:=by kernel_rfl
theorem fn_147:Q1s Tryz.prog 147 = true:=by kernel_rfl
theorem fn_148:Q1s Tryz.prog 148 = true:=by kernel_rfl
theorem fn_149:Q1s Tryz.prog 149 = true:=by kernel_rfl
theorem fn_150:Q1s Tryz.prog 150 = true:=by kernel_rfl
theorem fn_151:Q1s Tryz.prog 151 = true:=by kernel_rfl
theorem fn_152:Q1s Tryz.prog 152 = true:=by kernel_rfl
theorem fn_153:Q1s Tryz.prog 153 = true:=by kernel_rfl
theorem fn_154:Q1s Tryz.prog 154 = true:=by kernel_rfl
theorem fn_155:Q1s Tryz.prog 155 = true:=by kernel_rfl
theorem fn_156:Q1s Tryz.prog 156 = true:=by kernel_rfl
theorem fn_159:Q1s Tryz.prog 159 = true:=by kernel_rfl
theorem fn_160:Q1s Tryz.prog 160 = true:=by kernel_rfl
theorem Q7X:Q1s Tryz.prog 161 = true:=by kernel_rfl
theorem fn_162:Q1s Tryz.prog 162 = true:=by kernel_rfl
theorem Qbh:Q1s Tryz.prog 163 = true:=by kernel_rfl
theorem fn_164:Q1s Tryz.prog 164 = true:=by kernel_rfl
theorem QaB:Q1s Tryz.prog 165 = true:=by kernel_rfl
theorem fn_166:Q1s Tryz.prog 166 = true:=by kernel_rfl
theorem fn_167:Q1s Tryz.prog 167 = true:=by kernel_rfl
theorem fn_168:Q1s Tryz.prog 168 = true:=by kernel_rfl
theorem fn_169:Q1s Tryz.prog 169 = true:=by kernel_rfl
theorem fn_170:Q1s Tryz.prog 170 = true:=by kernel_rfl
theorem fn_171:Q1s Tryz.prog 171 = true:=by kernel_rfl
theorem Q9Q:Q1s Tryz.prog 172 = true:=by kernel_rfl
theorem fn_173:Q1s Tryz.prog 173 = true:=by kernel_rfl
theorem fn_174:Q1s Tryz.prog 174 = true:=by kernel_rfl
theorem fn_175:Q1s Tryz.prog 175 = true:=by kernel_rfl
theorem fn_179:Q1s Tryz.prog 179 = true:=by kernel_rfl
theorem fn_180:Q1s Tryz.prog 180 = true:=by kernel_rfl
theorem fn_195:Q1s Tryz.prog 195 = true:=by kernel_rfl
theorem fn_198:Q1s Tryz.prog 198 = true:=by kernel_rfl
theorem fn_199:Q1s Tryz.prog 199 = true:=by kernel_rfl
theorem fn_200:Q1s Tryz.prog 200 = true:=by kernel_rfl
theorem fn_201:Q1s Tryz.prog 201 = true:=by kernel_rfl
theorem fn_202:Q1s Tryz.prog 202 = true:=by kernel_rfl
theorem fn_203:Q1s Tryz.prog 203 = true:=by kernel_rfl
theorem fn_204:Q1s Tryz.prog 204 = true:=by kernel_rfl
theorem fn_205:Q1s Tryz.prog 205 = true:=by kernel_rfl
theorem fn_206:Q1s Tryz.prog 206 = true:=by kernel_rfl
theorem fn_207:Q1s Tryz.prog 207 = true:=by kernel_rfl
theorem fn_208:Q1s Tryz.prog 208 = true:=by kernel_rfl
theorem fn_209:Q1s Tryz.prog 209 = true:=by kernel_rfl
theorem fn_210:Q1s Tryz.prog 210 = true:=by kernel_rfl
theorem fn_211:Q1s Tryz.prog 211 = true:=by kernel_rfl
theorem fn_214:Q1s Tryz.prog 214 = true:=by kernel_rfl
theorem fn_220:Q1s Tryz.prog 220 = true:=by kernel_rfl
theorem fn_221:Q1s Tryz.prog 221 = true:=by kernel_rfl
theorem fn_222:Q1s Tryz.prog 222 = true:=by kernel_rfl
theorem fn_223:Q1s Tryz.prog 223 = true:=by kernel_rfl
theorem fn_224:Q1s Tryz.prog 224 = true:=by kernel_rfl
theorem fn_225:Q1s Tryz.prog 225 = true:=by kernel_rfl
theorem fn_226:Q1s Tryz.prog 226 = true:=by kernel_rfl
theorem fn_227:Q1s Tryz.prog 227 = true:=by kernel_rfl
theorem fn_228:Q1s Tryz.prog 228 = true:=by kernel_rfl
theorem fn_229:Q1s Tryz.prog 229 = true:=by kernel_rfl
theorem fn_230:Q1s Tryz.prog 230 = true:=by kernel_rfl
theorem fn_234:Q1s Tryz.prog 234 = true:=by kernel_rfl
theorem fn_235:Q1s Tryz.prog 235 = true:=by kernel_rfl
theorem fn_236:Q1s Tryz.prog 236 = true:=by kernel_rfl
end Go.Proofs.YtbgodclhmgmcgaaGreatDoor
