import Derived.Test.YtjfpefddanmliaaGreatChecked
import Derived.Test.YtjfpefddanmliaaGreatIdx
namespace Go.Proofs.YtjfpefddanmliaaGreat
open Go.RowKit
theorem Q1g:Q1t Tryz.prog 3 = some 1:=by kernel_rfl
theorem Q1D:Q4l Tryz.prog 3 = some false:=by kernel_rfl
theorem tZ_3:Q5H Tryz.prog 3 = some (.int .i64 0):=by kernel_rfl
theorem Q6o:Q3i Tryz.prog 22 = some 3:=by kernel_rfl
theorem tS_23:Q1t Tryz.prog 23 = some 1:=by kernel_rfl
theorem tA_23:Q4l Tryz.prog 23 = some false:=by kernel_rfl
theorem Q31:Q1t Tryz.prog 24 = some 1:=by kernel_rfl
theorem Q4R:Q4l Tryz.prog 24 = some false:=by kernel_rfl
theorem tZ_24:Q5H Tryz.prog 24 = some (.slice none 0 0):=by kernel_rfl
theorem tR_24:tRow Tryz.prog 24 = some (.slice none 0 0,1,24):=by kernel_rfl
theorem Q1s:Q3i Tryz.prog 24 = some 61:=by kernel_rfl
theorem Q1Z:Q1t Tryz.prog 25 = some 1:=by kernel_rfl
theorem Q41:Q4l Tryz.prog 25 = some false:=by kernel_rfl
theorem tZ_25:Q5H Tryz.prog 25 = some (.slice none 0 0):=by kernel_rfl
theorem tR_25:tRow Tryz.prog 25 = some (.slice none 0 0,1,24):=by kernel_rfl
theorem Q1S:Q3i Tryz.prog 25 = some 149:=by kernel_rfl
theorem Q11:Q1t Tryz.prog 27 = some 4:=by kernel_rfl
theorem Q1W:Q4l Tryz.prog 27 = some true:=by kernel_rfl
theorem Q5Q:Q5H Tryz.prog 27 = some (.agg #[.int .i64 0,.int .i64 0,.slice none 0 0,.slice none 0 0]):=by kernel_rfl
theorem tR_27:tRow Tryz.prog 27 = some (.agg #[.int .i64 0,.int .i64 0,.slice none 0 0,.slice none 0 0],4,64):=by kernel_rfl
theorem tP_27:Q6c Tryz.prog 27 = some [(0,1),(1,1),(2,1),(3,1)]:=by kernel_rfl
theorem tF_27_0:Q1H Tryz.prog 27 0 = some 0:=by kernel_rfl
theorem Q86:Q1H Tryz.prog 27 1 = some 1:=by kernel_rfl
theorem Q4g:Q1H Tryz.prog 27 2 = some 2:=by kernel_rfl
theorem Q5b:Q1H Tryz.prog 27 3 = some 3:=by kernel_rfl
theorem tS_29:Q1t Tryz.prog 29 = some 7:=by kernel_rfl
theorem tA_29:Q4l Tryz.prog 29 = some true:=by kernel_rfl
theorem Q6u:Q5H Tryz.prog 29 = some (.agg #[.int .i64 0,.int .i64 0,.int .i64 0,.int .i64 0,.int .i64 0,.slice none 0 0,.slice none 0 0]):=by kernel_rfl
theorem tR_29:tRow Tryz.prog 29 = some (.agg #[.int .i64 0,.int .i64 0,.int .i64 0,.int .i64 0,.int .i64 0,.slice none 0 0,.slice none 0 0],7,88):=by kernel_rfl
theorem Q78:Q6c Tryz.prog 29 = some [(0,1),(1,1),(2,1),(3,4)]:=by kernel_rfl
theorem tF_29_0:Q1H Tryz.prog 29 0 = some 0:=by kernel_rfl
theorem Q7b:Q1H Tryz.prog 29 1 = some 1:=by kernel_rfl
theorem Q8f:Q1H Tryz.prog 29 2 = some 2:=by kernel_rfl
theorem tF_29_3:Q1H Tryz.prog 29 3 = some 3:=by kernel_rfl
theorem tE_30:Q3i Tryz.prog 30 = some 29:=by kernel_rfl
theorem Q1L:Q1t Tryz.prog 32 = some 1:=by kernel_rfl
theorem Q3Q:Q4l Tryz.prog 32 = some false:=by kernel_rfl
theorem tZ_32:Q5H Tryz.prog 32 = some (.slice none 0 0):=by kernel_rfl
theorem tR_32:tRow Tryz.prog 32 = some (.slice none 0 0,1,24):=by kernel_rfl
theorem QB:Q3i Tryz.prog 32 = some 35:=by kernel_rfl
theorem QN:Q1t Tryz.prog 35 = some 6:=by kernel_rfl
theorem Q4O:Q4l Tryz.prog 35 = some true:=by kernel_rfl
theorem Q4G:Q5H Tryz.prog 35 = some (.agg #[.int .i64 0,.int .i64 0,.int .i64 0,.int .i64 0,.slice none 0 0,.slice none 0 0]):=by kernel_rfl
theorem Q6Q:tRow Tryz.prog 35 = some (.agg #[.int .i64 0,.int .i64 0,.int .i64 0,.int .i64 0,.slice none 0 0,.slice none 0 0],6,80):=by kernel_rfl
theorem tP_35:Q6c Tryz.prog 35 = some [(0,1),(1,1),(2,4)]:=by kernel_rfl
theorem Q4A:Q1H Tryz.prog 35 0 = some 0:=by kernel_rfl
theorem Q4h:Q1H Tryz.prog 35 1 = some 1:=by kernel_rfl
theorem Q4b:Q1H Tryz.prog 35 2 = some 2:=by kernel_rfl
theorem tS_53:Q1t Tryz.prog 53 = some 1:=by kernel_rfl
theorem tA_53:Q4l Tryz.prog 53 = some false:=by kernel_rfl
theorem Q5s:Q3i Tryz.prog 53 = some 32:=by kernel_rfl
theorem Q1G:Q1t Tryz.prog 61 = some 3:=by kernel_rfl
theorem Q59:Q4l Tryz.prog 61 = some true:=by kernel_rfl
theorem tZ_61:Q5H Tryz.prog 61 = some (.agg #[.int .i64 0,.int .i64 0,.slice none 0 0]):=by kernel_rfl
theorem tR_61:tRow Tryz.prog 61 = some (.agg #[.int .i64 0,.int .i64 0,.slice none 0 0],3,40):=by kernel_rfl
theorem tP_61:Q6c Tryz.prog 61 = some [(0,1),(1,1),(2,1)]:=by kernel_rfl
theorem tF_61_0:Q1H Tryz.prog 61 0 = some 0:=by kernel_rfl
theorem tF_61_1:Q1H Tryz.prog 61 1 = some 1:=by kernel_rfl
theorem Q5e:Q1H Tryz.prog 61 2 = some 2:=by kernel_rfl
theorem tZ_63:Q5H Tryz.prog 63 = some (.agg #[.slice none 0 0]):=by kernel_rfl
theorem tP_63:Q6c Tryz.prog 63 = some [(0,1)]:=by kernel_rfl
theorem Q4r:Q1H Tryz.prog 63 0 = some 0:=by kernel_rfl
theorem tZ_65:Q5H Tryz.prog 65 = some (.agg #[.slice none 0 0,.int .i64 0]):=by kernel_rfl
theorem tP_65:Q6c Tryz.prog 65 = some [(0,1),(1,1)]:=by kernel_rfl
theorem Q4t:Q1H Tryz.prog 65 0 = some 0:=by kernel_rfl
theorem Q67:Q1H Tryz.prog 65 1 = some 1:=by kernel_rfl
theorem tZ_67:Q5H Tryz.prog 67 = some (.agg #[.slice none 0 0,.int .i64 0]):=by kernel_rfl
theorem tP_67:Q6c Tryz.prog 67 = some [(0,1),(1,1)]:=by kernel_rfl
theorem Q5j:Q1H Tryz.prog 67 0 = some 0:=by kernel_rfl
theorem Q84:Q1H Tryz.prog 67 1 = some 1:=by kernel_rfl
theorem Q4P:Q1t Tryz.prog 77 = some 1:=by kernel_rfl
theorem tA_77:Q4l Tryz.prog 77 = some false:=by kernel_rfl
theorem tZ_77:Q5H Tryz.prog 77 = some (.slice none 0 0):=by kernel_rfl
theorem tR_77:tRow Tryz.prog 77 = some (.slice none 0 0,1,24):=by kernel_rfl
theorem Q6F:Q3i Tryz.prog 77 = some 27:=by kernel_rfl
theorem tS_78:Q1t Tryz.prog 78 = some 1:=by kernel_rfl
theorem tA_78:Q4l Tryz.prog 78 = some false:=by kernel_rfl
theorem Q5o:Q3i Tryz.prog 78 = some 77:=by kernel_rfl
theorem tS_81:Q1t Tryz.prog 81 = some 1:=by kernel_rfl
theorem tA_81:Q4l Tryz.prog 81 = some false:=by kernel_rfl
theorem tS_82:Q1t Tryz.prog 82 = some 1:=by kernel_rfl
theorem tA_82:Q4l Tryz.prog 82 = some false:=by kernel_rfl
theorem tS_83:Q1t Tryz.prog 83 = some 1:=by kernel_rfl
theorem tA_83:Q4l Tryz.prog 83 = some false:=by kernel_rfl
theorem tS_84:Q1t Tryz.prog 84 = some 1:=by kernel_rfl
theorem tA_84:Q4l Tryz.prog 84 = some false:=by kernel_rfl
theorem tS_85:Q1t Tryz.prog 85 = some 1:=by kernel_rfl
theorem tA_85:Q4l Tryz.prog 85 = some false:=by kernel_rfl
theorem tS_86:Q1t Tryz.prog 86 = some 1:=by kernel_rfl
theorem tA_86:Q4l Tryz.prog 86 = some false:=by kernel_rfl
theorem tS_87:Q1t Tryz.prog 87 = some 1:=by kernel_rfl
theorem tA_87:Q4l Tryz.prog 87 = some false:=by kernel_rfl
theorem Q5T:Q3i Tryz.prog 87 = some 25:=by kernel_rfl
theorem tS_88:Q1t Tryz.prog 88 = some 1:=by kernel_rfl
theorem tA_88:Q4l Tryz.prog 88 = some false:=by kernel_rfl
theorem Q5R:Q3i Tryz.prog 88 = some 24:=by kernel_rfl
theorem tS_89:Q1t Tryz.prog 89 = some 1:=by kernel_rfl
theorem tA_89:Q4l Tryz.prog 89 = some false:=by kernel_rfl
theorem tS_90:Q1t Tryz.prog 90 = some 1:=by kernel_rfl
theorem tA_90:Q4l Tryz.prog 90 = some false:=by kernel_rfl
theorem tS_91:Q1t Tryz.prog 91 = some 1:=by kernel_rfl
theorem tA_91:Q4l Tryz.prog 91 = some false:=by kernel_rfl
theorem tS_92:Q1t Tryz.prog 92 = some 1:=by kernel_rfl
theorem tA_92:Q4l Tryz.prog 92 = some false:=by kernel_rfl
theorem tS_93:Q1t Tryz.prog 93 = some 1:=by kernel_rfl
theorem tA_93:Q4l Tryz.prog 93 = some false:=by kernel_rfl
theorem tS_94:Q1t Tryz.prog 94 = some 1:=by kernel_rfl
theorem tA_94:Q4l Tryz.prog 94 = some false:=by kernel_rfl
theorem tS_95:Q1t Tryz.prog 95 = some 1:=by kernel_rfl
theorem tA_95:Q4l Tryz.prog 95 = some false:=by kernel_rfl
theorem tS_96:Q1t Tryz.prog 96 = some 1:=by kernel_rfl
theorem tA_96:Q4l Tryz.prog 96 = some false:=by kernel_rfl
theorem tS_97:Q1t Tryz.prog 97 = some 1:=by kernel_rfl
theorem tA_97:Q4l Tryz.prog 97 = some false:=by kernel_rfl
theorem tS_98:Q1t Tryz.prog 98 = some 1:=by kernel_rfl
theorem tA_98:Q4l Tryz.prog 98 = some false:=by kernel_rfl
theorem tS_99:Q1t Tryz.prog 99 = some 1:=by kernel_rfl
theorem tA_99:Q4l Tryz.prog 99 = some false:=by kernel_rfl
theorem tS_100:Q1t Tryz.prog 100 = some 1:=by kernel_rfl
theorem tA_100:Q4l Tryz.prog 100 = some false:=by kernel_rfl
theorem tS_101:Q1t Tryz.prog 101 = some 1:=by kernel_rfl
theorem tA_101:Q4l Tryz.prog 101 = some false:=by kernel_rfl
theorem tS_102:Q1t Tryz.prog 102 = some 1:=by kernel_rfl
theorem tA_102:Q4l Tryz.prog 102 = some false:=by kernel_rfl
theorem tS_103:Q1t Tryz.prog 103 = some 1:=by kernel_rfl
theorem tA_103:Q4l Tryz.prog 103 = some false:=by kernel_rfl
theorem tS_104:Q1t Tryz.prog 104 = some 1:=by kernel_rfl
theorem tA_104:Q4l Tryz.prog 104 = some false:=by kernel_rfl
theorem tS_105:Q1t Tryz.prog 105 = some 1:=by kernel_rfl
theorem tA_105:Q4l Tryz.prog 105 = some false:=by kernel_rfl
theorem tS_106:Q1t Tryz.prog 106 = some 1:=by kernel_rfl
theorem tA_106:Q4l Tryz.prog 106 = some false:=by kernel_rfl
theorem tS_107:Q1t Tryz.prog 107 = some 1:=by kernel_rfl
theorem tA_107:Q4l Tryz.prog 107 = some false:=by kernel_rfl
theorem tZ_109:Q5H Tryz.prog 109 = some (.agg #[.slice none 0 0,.slice none 0 0,.slice none 0 0,.slice none 0 0,.slice none 0 0,.slice none 0 0,.slice none 0 0,.slice none 0 0,.slice none 0 0,.slice none 0 0,.slice none 0 0,.slice none 0 0,.slice none 0 0,.slice none 0 0,.slice none 0 0,.slice none 0 0,.slice none 0 0,.slice none 0 0,.slice none 0 0,.slice none 0 0,.slice none 0 0,.slice none 0 0,.slice none 0 0,.slice none 0 0,.slice none 0 0,.slice none 0 0,.slice none 0 0,.slice none 0 0,.slice none 0 0]):=by kernel_rfl
theorem tP_109:Q6c Tryz.prog 109 = some [(0,1),(1,1),(2,1),(3,1),(4,1),(5,1),(6,1),(7,1),(8,1),(9,1),(10,1),(11,1),(12,1),(13,1),(14,1),(15,1),(16,1),(17,1),(18,1),(19,1),(20,1),(21,1),(22,1),(23,1),(24,1),(25,1),(26,1),(27,1),(28,1)]:=by kernel_rfl
theorem tF_109_0:Q1H Tryz.prog 109 0 = some 0:=by kernel_rfl
theorem tF_109_1:Q1H Tryz.prog 109 1 = some 1:=by kernel_rfl
theorem tF_109_2:Q1H Tryz.prog 109 2 = some 2:=by kernel_rfl
theorem tF_109_3:Q1H Tryz.prog 109 3 = some 3:=by kernel_rfl
theorem tF_109_4:Q1H Tryz.prog 109 4 = some 4:=by kernel_rfl
theorem tF_109_5:Q1H Tryz.prog 109 5 = some 5:=by kernel_rfl
theorem tF_109_6:Q1H Tryz.prog 109 6 = some 6:=by kernel_rfl
theorem tF_109_7:Q1H Tryz.prog 109 7 = some 7:=by kernel_rfl
theorem tF_109_8:Q1H Tryz.prog 109 8 = some 8:=by kernel_rfl
theorem tF_109_9:Q1H Tryz.prog 109 9 = some 9:=by kernel_rfl
theorem tF_109_10:Q1H Tryz.prog 109 10 = some 10:=by kernel_rfl
theorem tF_109_11:Q1H Tryz.prog 109 11 = some 11:=by kernel_rfl
theorem tF_109_12:Q1H Tryz.prog 109 12 = some 12:=by kernel_rfl
theorem tF_109_13:Q1H Tryz.prog 109 13 = some 13:=by kernel_rfl
theorem tF_109_14:Q1H Tryz.prog 109 14 = some 14:=by kernel_rfl
theorem tF_109_15:Q1H Tryz.prog 109 15 = some 15:=by kernel_rfl
theorem tF_109_16:Q1H Tryz.prog 109 16 = some 16:=by kernel_rfl
theorem tF_109_17:Q1H Tryz.prog 109 17 = some 17:=by kernel_rfl
theorem tF_109_18:Q1H Tryz.prog 109 18 = some 18:=by kernel_rfl
theorem tF_109_19:Q1H Tryz.prog 109 19 = some 19:=by kernel_rfl
theorem tF_109_20:Q1H Tryz.prog 109 20 = some 20:=by kernel_rfl
theorem tF_109_21:Q1H Tryz.prog 109 21 = some 21:=by kernel_rfl
theorem tF_109_22:Q1H Tryz.prog 109 22 = some 22:=by kernel_rfl
theorem tF_109_23:Q1H Tryz.prog 109 23 = some 23:=by kernel_rfl
theorem tF_109_24:Q1H Tryz.prog 109 24 = some 24:=by kernel_rfl
theorem tF_109_25:Q1H Tryz.prog 109 25 = some 25:=by kernel_rfl
theorem tF_109_26:Q1H Tryz.prog 109 26 = some 26:=by kernel_rfl
theorem tF_109_27:Q1H Tryz.prog 109 27 = some 27:=by kernel_rfl
theorem tF_109_28:Q1H Tryz.prog 109 28 = some 28:=by kernel_rfl
theorem Q25:Q1t Tryz.prog 149 = some 3:=by kernel_rfl
theorem Q62:Q4l Tryz.prog 149 = some true:=by kernel_rfl
theorem tZ_149:Q5H Tryz.prog 149 = some (.agg #[.int .u8 0,.int .i64 0,.string ⟨#[]⟩]):=by kernel_rfl
theorem tR_149:tRow Tryz.prog 149 = some (.agg #[.int .u8 0,.int .i64 0,.string ⟨#[]⟩],3,32):=by kernel_rfl
theorem tP_149:Q6c Tryz.prog 149 = some [(0,1),(1,1),(2,1)]:=by kernel_rfl
theorem fn_4:Q1x Tryz.prog 4 = true:=by kernel_rfl
theorem fn_5:Q1x Tryz.prog 5 = true:=by kernel_rfl
theorem fn_6:Q1x Tryz.prog 6 = true:=by kernel_rfl
theorem fn_7:Q1x Tryz.prog 7 = true:=by kernel_rfl
theorem fn_8:Q1x Tryz.prog 8 = true:=by kernel_rfl
theorem fn_9:Q1x Tryz.prog 9 = true:=by kernel_rfl
theorem fn_10:Q1x Tryz.prog 10 = true:=by kernel_rfl
theorem fn_11:Q1x Tryz.prog 11 = true:=by kernel_rfl
theorem fn_12:Q1x Tryz.prog 12 = true:=by kernel_rfl
theorem fn_13:Q1x Tryz.prog 13 = true:=by kernel_rfl
theorem fn_14:Q1x Tryz.prog 14 = true:=by kernel_rfl
theorem fn_15:Q1x Tryz.prog 15 = true:=by kernel_rfl
theorem fn_16:Q1x Tryz.prog 16 = true:=by kernel_rfl
theorem fn_17:Q1x Tryz.prog 17 = true:=by kernel_rfl
theorem fn_18:Q1x Tryz.prog 18 = true:=by kernel_rfl
theorem fn_19:Q1x Tryz.prog 19 = true:=by kernel_rfl
theorem fn_20:Q1x Tryz.prog 20 = true:=by kernel_rfl
theorem fn_21:Q1x Tryz.prog 21 = true:=by kernel_rfl
theorem fn_22:Q1x Tryz.prog 22 = true:=by kernel_rfl
theorem fn_23:Q1x Tryz.prog 23 = true:=by kernel_rfl
theorem fn_24:Q1x Tryz.prog 24 = true:=by kernel_rfl
theorem fn_25:Q1x Tryz.prog 25 = true:=by kernel_rfl
theorem fn_26:Q1x Tryz.prog 26 = true:=by kernel_rfl
theorem fn_27:Q1x Tryz.prog 27 = true:=by kernel_rfl
theorem fn_28:Q1x Tryz.prog 28 = true:=by kernel_rfl
theorem fn_29:Q1x Tryz.prog 29 = true:=by kernel_rfl
theorem fn_30:Q1x Tryz.prog 30 = true:=by kernel_rfl
theorem fn_31:Q1x Tryz.prog 31 = true:=by kernel_rfl
theorem fn_32:Q1x Tryz.prog 32 = true:=by kernel_rfl
theorem fn_33:Q1x Tryz.prog 33 = true:=by kernel_rfl
theorem fn_34:Q1x Tryz.prog 34 = true:=by kernel_rfl
theorem fn_35:Q1x Tryz.prog 35 = true:=by kernel_rfl
theorem fn_36:Q1x Tryz.prog 36 = true:=by kernel_rfl
theorem fn_37:Q1x Tryz.prog 37 = true:=by kernel_rfl
theorem fn_38:Q1x Tryz.prog 38 = true:=by kernel_rfl
theorem fn_39:Q1x Tryz.prog 39 = true:=by kernel_rfl
theorem fn_40:Q1x Tryz.prog 40 = true:=by kernel_rfl
theorem fn_41:Q1x Tryz.prog 41 = true:=by kernel_rfl
theorem fn_42:Q1x Tryz.prog 42 = true:=by kernel_rfl
theorem fn_43:Q1x Tryz.prog 43 = true:=by kernel_rfl
theorem fn_44:Q1x Tryz.prog 44 = true:=by kernel_rfl
theorem fn_45:Q1x Tryz.prog 45 = true:=by kernel_rfl
theorem fn_46:Q1x Tryz.prog 46 = true:=by kernel_rfl
theorem fn_47:Q1x Tryz.prog 47 = true:=by kernel_rfl
theorem fn_48:Q1x Tryz.prog 48 = true:=by kernel_rfl
theorem fn_49:Q1x Tryz.prog 49 = true:=by kernel_rfl
theorem fn_50:Q1x Tryz.prog 50 = true:=by kernel_rfl
theorem fn_51:Q1x Tryz.prog 51 = true:=by kernel_rfl
theorem fn_52:Q1x Tryz.prog 52 = true:=by kernel_rfl
theorem fn_53:Q1x Tryz.prog 53 = true:=by kernel_rfl
theorem fn_54:Q1x Tryz.prog 54 = true:=by kernel_rfl
theorem fn_55:Q1x Tryz.prog 55 = true:=by kernel_rfl
theorem fn_56:Q1x Tryz.prog 56 = true:=by kernel_rfl
theorem fn_57:Q1x Tryz.prog 57 = true:=by kernel_rfl
theorem fn_58:Q1x Tryz.prog 58 = true:=by kernel_rfl
theorem fn_59:Q1x Tryz.prog 59 = true:=by kernel_rfl
theorem fn_60:Q1x Tryz.prog 60 = true:=by kernel_rfl
theorem fn_61:Q1x Tryz.prog 61 = true:=by kernel_rfl
theorem fn_62:Q1x Tryz.prog 62 = true:=by kernel_rfl
theorem fn_63:Q1x Tryz.prog 63 = true:=by kernel_rfl
theorem fn_64:Q1x Tryz.prog 64 = true:=by kernel_rfl
theorem fn_65:Q1x Tryz.prog 65 = true:=by kernel_rfl
theorem fn_66:Q1x Tryz.prog 66 = true:=by kernel_rfl
theorem fn_67:Q1x Tryz.prog 67 = true:=by kernel_rfl
theorem fn_68:Q1x Tryz.prog 68 = true:=by kernel_rfl
theorem fn_69:Q1x Tryz.prog 69 = true:=by kernel_rfl
theorem fn_70:Q1x Tryz.prog 70 = true:=by kernel_rfl
theorem fn_71:Q1x Tryz.prog 71 = true:=by kernel_rfl
theorem fn_72:Q1x Tryz.prog 72 = true:=by kernel_rfl
theorem fn_73:Q1x Tryz.prog 73 = true:=by kernel_rfl
theorem fn_74:Q1x Tryz.prog 74 = true:=by kernel_rfl
theorem fn_75:Q1x Tryz.prog 75 = true:=by kernel_rfl
theorem fn_76:Q1x Tryz.prog 76 = true:=by kernel_rfl
theorem fn_77:Q1x Tryz.prog 77 = true:=by kernel_rfl
theorem fn_78:Q1x Tryz.prog 78 = true:=by kernel_rfl
theorem fn_79:Q1x Tryz.prog 79 = true:=by kernel_rfl
theorem fn_80:Q1x Tryz.prog 80 = true:=by kernel_rfl
theorem fn_81:Q1x Tryz.prog 81 = true:=by kernel_rfl
theorem fn_82:Q1x Tryz.prog 82 = true:=by kernel_rfl
theorem fn_83:Q1x Tryz.prog 83 = true:=by kernel_rfl
theorem fn_84:Q1x Tryz.prog 84 = true:=by kernel_rfl
theorem fn_85:Q1x Tryz.prog 85 = true:=by kernel_rfl
theorem fn_86:Q1x Tryz.prog 86 = true:=by kernel_rfl
theorem fn_87:Q1x Tryz.prog 87 = true:=by kernel_rfl
theorem fn_88:Q1x Tryz.prog 88 = true:=by kernel_rfl
theorem fn_89:Q1x Tryz.prog 89 = true:=by kernel_rfl
theorem fn_90:Q1x Tryz.prog 90 = true:=by kernel_rfl
theorem fn_91:Q1x Tryz.prog 91 = true:=by kernel_rfl
theorem fn_92:Q1x Tryz.prog 92 = true:=by kernel_rfl
theorem fn_93:Q1x Tryz.prog 93 = true:=by kernel_rfl
theorem fn_94:Q1x Tryz.prog 94 = true:=by kernel_rfl
theorem fn_95:Q1x Tryz.prog 95 = true:=by kernel_rfl
theorem fn_96:Q1x Tryz.prog 96 = true:=by kernel_rfl
theorem fn_97:Q1x Tryz.prog 97 = true:=by kernel_rfl
theorem fn_98:Q1x Tryz.prog 98 = true:=by kernel_rfl
theorem fn_99:Q1x Tryz.prog 99 = true:=by kernel_rfl
theorem fn_100:Q1x Tryz.prog 100 = true:=by kernel_rfl
theorem Q8e:Q1x Tryz.prog 101 = true:=by kernel_rfl
theorem fn_102:Q1x Tryz.prog 102 = true:=by kernel_rfl
theorem fn_103:Q1x Tryz.prog 103 = true:=by kernel_rfl
theorem fn_125:Q1x Tryz.prog 125 = true:=by kernel_rfl
theorem fn_142:Q1x Tryz.prog 142 = true:=by kernel_rfl
theorem fn_143:Q1x Tryz.prog 143 = true:=by kernel_rfl
theorem fn_144:Q1x Tryz.prog 144 = true:=by kernel_rfl
theorem fn_145:Q1x Tryz.prog 145 = true:=by kernel_rfl
theorem fn_146:Q1x Tryz.prog 146 = true:=by kernel_rfl
theorem fn_158:Q1x Tryz.prog 158 = true:=by kernel_rfl
end Go.Proofs.YtjfpefddanmliaaGreat
