import Derived.Test.YtbgodclhmgmcgaaGreatDoorChecked
import Derived.Test.YtbgodclhmgmcgaaGreatDoorIdx
namespace Go.Proofs.YtbgodclhmgmcgaaGreatDoor
open Tryz
open Go.RowKit
theorem Q95:Q1m prog 2=some 1:=by kernel_rfl
theorem Q92:Q58 prog 2=some false:=by kernel_rfl
theorem QV:Q1m prog 3=some 1:=by kernel_rfl
theorem Q13:Q58 prog 3=some false:=by kernel_rfl
theorem tZ_3:Q4P prog 3=some (.int .i64 0):=by kernel_rfl
theorem tR_3:tRow prog 3=some (.int .i64 0,1,8):=by kernel_rfl
theorem tS_4:Q1m prog 4=some 1:=by kernel_rfl
theorem tA_4:Q58 prog 4=some false:=by kernel_rfl
theorem tZ_4:Q4P prog 4=some (.bool false):=by kernel_rfl
theorem tR_4:tRow prog 4=some (.bool false,1,1):=by kernel_rfl
theorem tS_9:Q1m prog 9=some 1:=by kernel_rfl
theorem tA_9:Q58 prog 9=some false:=by kernel_rfl
theorem Q8u:Q1m prog 22=some 1:=by kernel_rfl
theorem Q8F:Q58 prog 22=some false:=by kernel_rfl
theorem Q3d:Q2d prog 22=some 69:=by kernel_rfl
theorem Q9o:Q1m prog 23=some 1:=by kernel_rfl
theorem Q9C:Q58 prog 23=some false:=by kernel_rfl
theorem Q3e:Q2d prog 23=some 52:=by kernel_rfl
theorem Qac:Q1m prog 25=some 2:=by kernel_rfl
theorem Qb0:Q58 prog 25=some true:=by kernel_rfl
theorem tZ_25:Q4P prog 25=some (.agg #[.slice none 0 0,.slice none 0 0]):=by kernel_rfl
theorem Q4h:Q1H prog 25 0=some 0:=by kernel_rfl
theorem Q5Z:Q1H prog 25 1=some 1:=by kernel_rfl
theorem tS_26:Q1m prog 26=some 1:=by kernel_rfl
theorem tA_26:Q58 prog 26=some false:=by kernel_rfl
theorem Q4N:Q2d prog 26=some 71:=by kernel_rfl
theorem tS_31:Q1m prog 31=some 1:=by kernel_rfl
theorem tA_31:Q58 prog 31=some false:=by kernel_rfl
theorem tZ_31:Q4P prog 31=some (.slice none 0 0):=by kernel_rfl
theorem tE_31:Q2d prog 31=some 41:=by kernel_rfl
theorem tS_32:Q1m prog 32=some 1:=by kernel_rfl
theorem tA_32:Q58 prog 32=some false:=by kernel_rfl
theorem tZ_32:Q4P prog 32=some (.int .i64 0):=by kernel_rfl
theorem tS_39:Q1m prog 39=some 1:=by kernel_rfl
theorem tA_39:Q58 prog 39=some false:=by kernel_rfl
theorem Q8s:Q2d prog 39=some 3:=by kernel_rfl
theorem tS_41:Q1m prog 41=some 2:=by kernel_rfl
theorem tA_41:Q58 prog 41=some true:=by kernel_rfl
theorem tZ_41:Q4P prog 41=some (.agg #[.int .i64 0,.slice none 0 0]):=by kernel_rfl
theorem tR_41:tRow prog 41=some (.agg #[.int .i64 0,.slice none 0 0],2,32):=by kernel_rfl
theorem tP_41:Q62 prog 41=some [(0,1),(1,1)]:=by kernel_rfl
theorem tF_41_0:Q1H prog 41 0=some 0:=by kernel_rfl
theorem tF_41_1:Q1H prog 41 1=some 1:=by kernel_rfl
theorem Q6n:Q1m prog 43=some 1:=by kernel_rfl
theorem Q6E:Q58 prog 43=some false:=by kernel_rfl
theorem Q1F:Q2d prog 43=some 57:=by kernel_rfl
theorem Qa1:Q1m prog 49=some 1:=by kernel_rfl
theorem Qaa:Q58 prog 49=some false:=by kernel_rfl
theorem Q4d:Q2d prog 49=some 67:=by kernel_rfl
theorem QcB:Q1m prog 50=some 1:=by kernel_rfl
theorem tA_50:Q58 prog 50=some false:=by kernel_rfl
theorem Q5e:Q2d prog 50=some 81:=by kernel_rfl
theorem Q2X:Q1m prog 52=some 5:=by kernel_rfl
theorem Q8U:Q58 prog 52=some true:=by kernel_rfl
theorem tZ_52:Q4P prog 52=some (.agg #[.string ⟨#[]⟩,.int .i64 0,.int .i64 0,.slice none 0 0,.slice none 0 0]):=by kernel_rfl
theorem tR_52:tRow prog 52=some (.agg #[.string ⟨#[]⟩,.int .i64 0,.int .i64 0,.slice none 0 0,.slice none 0 0],5,80):=by kernel_rfl
theorem tP_52:Q62 prog 52=some [(0,1),(1,1),(2,1),(3,1),(4,1)]:=by kernel_rfl
theorem Qba:Q1H prog 52 0=some 0:=by kernel_rfl
theorem tF_52_1:Q1H prog 52 1=some 1:=by kernel_rfl
theorem Qcx:Q1H prog 52 2=some 2:=by kernel_rfl
theorem Q6R:Q1H prog 52 3=some 3:=by kernel_rfl
theorem Q8G:Q1H prog 52 4=some 4:=by kernel_rfl
theorem QcC:Q1m prog 53=some 1:=by kernel_rfl
theorem Qcw:Q58 prog 53=some false:=by kernel_rfl
theorem tS_54:Q1m prog 54=some 1:=by kernel_rfl
theorem tA_54:Q58 prog 54=some false:=by kernel_rfl
theorem tS_55:Q1m prog 55=some 1:=by kernel_rfl
theorem tA_55:Q58 prog 55=some false:=by kernel_rfl
theorem Qz:Q1m prog 57=some 3:=by kernel_rfl
theorem Q17:Q58 prog 57=some true:=by kernel_rfl
theorem Q1X:Q4P prog 57=some (.agg #[.int .u8 0,.int .i64 0,.string ⟨#[]⟩]):=by kernel_rfl
theorem tR_57:tRow prog 57=some (.agg #[.int .u8 0,.int .i64 0,.string ⟨#[]⟩],3,32):=by kernel_rfl
theorem Q8t:Q62 prog 57=some [(0,1),(1,1),(2,1)]:=by kernel_rfl
theorem Qdx:Q1H prog 57 0=some 0:=by kernel_rfl
theorem Q2g:Q1H prog 57 1=some 1:=by kernel_rfl
theorem tF_57_2:Q1H prog 57 2=some 2:=by kernel_rfl
theorem Q7i:Q1m prog 59=some 5:=by kernel_rfl
theorem tA_59:Q58 prog 59=some true:=by kernel_rfl
theorem tZ_59:Q4P prog 59=some (.agg #[.int .u8 0,.int .i64 0,.int .u8 0,.int .i64 0,.string ⟨#[]⟩]):=by kernel_rfl
theorem tR_59:tRow prog 59=some (.agg #[.int .u8 0,.int .i64 0,.int .u8 0,.int .i64 0,.string ⟨#[]⟩],5,48):=by kernel_rfl
theorem tP_59:Q62 prog 59=some [(0,1),(1,1),(2,3)]:=by kernel_rfl
theorem tF_59_0:Q1H prog 59 0=some 0:=by kernel_rfl
theorem Q3G:Q1H prog 59 1=some 1:=by kernel_rfl
theorem Qcy:Q1H prog 59 2=some 2:=by kernel_rfl
theorem Qad:Q1m prog 60=some 1:=by kernel_rfl
theorem QaD:Q58 prog 60=some false:=by kernel_rfl
theorem Q4O:Q2d prog 60=some 59:=by kernel_rfl
theorem tS_61:Q1m prog 61=some 1:=by kernel_rfl
theorem tA_61:Q58 prog 61=some false:=by kernel_rfl
theorem Qa2:Q1m prog 62=some 1:=by kernel_rfl
theorem Qa0:Q58 prog 62=some false:=by kernel_rfl
theorem Q4k:Q1m prog 63=some 1:=by kernel_rfl
theorem Q4M:Q58 prog 63=some false:=by kernel_rfl
theorem Q1g:Q2d prog 63=some 65:=by kernel_rfl
theorem Q1t:Q1m prog 65=some 7:=by kernel_rfl
theorem Q3z:Q58 prog 65=some true:=by kernel_rfl
theorem tZ_65:Q4P prog 65=some (.agg #[.int .u8 0,.int .u8 0,.int .i64 0,.string ⟨#[]⟩,.int .i64 0,.int .u8 0,.slice none 0 0]):=by kernel_rfl
theorem tR_65:tRow prog 65=some (.agg #[.int .u8 0,.int .u8 0,.int .i64 0,.string ⟨#[]⟩,.int .i64 0,.int .u8 0,.slice none 0 0],7,80):=by kernel_rfl
theorem tP_65:Q62 prog 65=some [(0,1),(1,3),(4,1),(5,1),(6,1)]:=by kernel_rfl
theorem Qcz:Q1H prog 65 0=some 0:=by kernel_rfl
theorem Qaw:Q1H prog 65 1=some 1:=by kernel_rfl
theorem Q7g:Q1H prog 65 2=some 4:=by kernel_rfl
theorem Q6S:Q1H prog 65 3=some 5:=by kernel_rfl
theorem Q60:Q1H prog 65 4=some 6:=by kernel_rfl
theorem Q3Q:Q1m prog 67=some 10:=by kernel_rfl
theorem Q9b:Q58 prog 67=some true:=by kernel_rfl
theorem tZ_67:Q4P prog 67=some (.agg #[.int .u8 0,.int .i64 0,.slice none 0 0,.int .u8 0,.int .u8 0,.int .i64 0,.string ⟨#[]⟩,.int .i64 0,.int .u8 0,.slice none 0 0]):=by kernel_rfl
theorem tR_67:tRow prog 67=some (.agg #[.int .u8 0,.int .i64 0,.slice none 0 0,.int .u8 0,.int .u8 0,.int .i64 0,.string ⟨#[]⟩,.int .i64 0,.int .u8 0,.slice none 0 0],10,120):=by kernel_rfl
theorem tP_67:Q62 prog 67=some [(0,1),(1,1),(2,1),(3,7)]:=by kernel_rfl
theorem Q8H:Q1H prog 67 0=some 0:=by kernel_rfl
theorem QcA:Q1H prog 67 1=some 1:=by kernel_rfl
theorem Q7h:Q1H prog 67 2=some 2:=by kernel_rfl
theorem Q8I:Q1H prog 67 3=some 3:=by kernel_rfl
theorem Q7a:Q1m prog 69=some 2:=by kernel_rfl
theorem tA_69:Q58 prog 69=some true:=by kernel_rfl
theorem tZ_69:Q4P prog 69=some (.agg #[.string ⟨#[]⟩,.int .i64 0]):=by kernel_rfl
theorem tR_69:tRow prog 69=some (.agg #[.string ⟨#[]⟩,.int .i64 0],2,24):=by kernel_rfl
theorem tP_69:Q62 prog 69=some [(0,1),(1,1)]:=by kernel_rfl
theorem Qbb:Q1H prog 69 0=some 0:=by kernel_rfl
theorem Q9s:Q1H prog 69 1=some 1:=by kernel_rfl
theorem Q4l:Q1m prog 71=some 3:=by kernel_rfl
theorem Qab:Q58 prog 71=some true:=by kernel_rfl
theorem tZ_71:Q4P prog 71=some (.agg #[.int .i64 0,.int .i64 0,.slice none 0 0]):=by kernel_rfl
theorem tR_71:tRow prog 71=some (.agg #[.int .i64 0,.int .i64 0,.slice none 0 0],3,40):=by kernel_rfl
theorem tP_71:Q62 prog 71=some [(0,1),(1,1),(2,1)]:=by kernel_rfl
theorem Q3X:Q1H prog 71 0=some 0:=by kernel_rfl
theorem Q6T:Q1H prog 71 1=some 1:=by kernel_rfl
theorem Q6m:Q1H prog 71 2=some 2:=by kernel_rfl
theorem tS_79:Q1m prog 79=some 1:=by kernel_rfl
theorem tA_79:Q58 prog 79=some false:=by kernel_rfl
theorem Q6o:Q1m prog 81=some 4:=by kernel_rfl
theorem Qb1:Q58 prog 81=some true:=by kernel_rfl
theorem tZ_81:Q4P prog 81=some (.agg #[.int .u8 0,.int .i64 0,.int .i64 0,.slice none 0 0]):=by kernel_rfl
theorem tR_81:tRow prog 81=some (.agg #[.int .u8 0,.int .i64 0,.int .i64 0,.slice none 0 0],4,48):=by kernel_rfl
theorem tP_81:Q62 prog 81=some [(0,1),(1,1),(2,1),(3,1)]:=by kernel_rfl
theorem tF_81_0:Q1H prog 81 0=some 0:=by kernel_rfl
theorem Q93:Q1H prog 81 1=some 1:=by kernel_rfl
theorem Q94:Q1H prog 81 2=some 2:=by kernel_rfl
theorem Q61:Q1H prog 81 3=some 3:=by kernel_rfl
theorem tS_88:Q1m prog 88=some 1:=by kernel_rfl
theorem tA_88:Q58 prog 88=some false:=by kernel_rfl
theorem tE_89:Q2d prog 89=some 93:=by kernel_rfl
theorem tS_93:Q1m prog 93=some 2:=by kernel_rfl
theorem tA_93:Q58 prog 93=some true:=by kernel_rfl
theorem tZ_93:Q4P prog 93=some (.agg #[.slice none 0 0,.slice none 0 0]):=by kernel_rfl
theorem tR_93:tRow prog 93=some (.agg #[.slice none 0 0,.slice none 0 0],2,48):=by kernel_rfl
theorem tP_93:Q62 prog 93=some [(0,1),(1,1)]:=by kernel_rfl
theorem tF_93_0:Q1H prog 93 0=some 0:=by kernel_rfl
theorem tF_93_1:Q1H prog 93 1=some 1:=by kernel_rfl
theorem tS_98:Q1m prog 98=some 1:=by kernel_rfl
theorem tA_98:Q58 prog 98=some false:=by kernel_rfl
theorem tE_98:Q2d prog 98=some 4:=by kernel_rfl
theorem Q6z:Q1m prog 100=some 2:=by kernel_rfl
theorem Q9Z:Q58 prog 100=some true:=by kernel_rfl
theorem QbQ:Q4P prog 100=some (.agg #[.slice none 0 0,.slice none 0 0]):=by kernel_rfl
theorem tP_100:Q62 prog 100=some [(0,1),(1,1)]:=by kernel_rfl
theorem QbM:Q1H prog 100 0=some 0:=by kernel_rfl
theorem QbN:Q1H prog 100 1=some 1:=by kernel_rfl
theorem QbP:Q1m prog 120=some 1:=by kernel_rfl
theorem QbL:Q58 prog 120=some false:=by kernel_rfl
theorem tZ_122:Q4P prog 122=some (.agg #[.slice none 0 0,.slice none 0 0]):=by kernel_rfl
theorem tP_122:Q62 prog 122=some [(0,2)]:=by kernel_rfl
theorem tF_122_0:Q1H prog 122 0=some 0:=by kernel_rfl
theorem tZ_124:Q4P prog 124=some (.agg #[.slice none 0 0,.slice none 0 0,.int .i64 0,.int .i64 0]):=by kernel_rfl
theorem tP_124:Q62 prog 124=some [(0,2),(2,1),(3,1)]:=by kernel_rfl
theorem Qe7:Q1H prog 124 0=some 0:=by kernel_rfl
theorem Q82:Q1H prog 124 1=some 2:=by kernel_rfl
theorem tF_124_2:Q1H prog 124 2=some 3:=by kernel_rfl
theorem tZ_131:Q4P prog 131=some (.agg #[]):=by kernel_rfl
theorem tP_131:Q62 prog 131=some []:=by kernel_rfl
theorem tS_133:Q1m prog 133=some 1:=by kernel_rfl
theorem tA_133:Q58 prog 133=some false:=by kernel_rfl
theorem tZ_135:Q4P prog 135=some (.agg #[.slice none 0 0,.slice none 0 0,.string ⟨#[]⟩,.int .i64 0,.int .i64 0,.slice none 0 0,.slice none 0 0,.slice none 0 0,.slice none 0 0,.int .i64 0,.nilFunc]):=by kernel_rfl
theorem tP_135:Q62 prog 135=some [(0,2),(2,5),(7,1),(8,1),(9,1),(10,1)]:=by kernel_rfl
theorem Qd6:Q1H prog 135 0=some 0:=by kernel_rfl
theorem tF_135_1:Q1H prog 135 1=some 2:=by kernel_rfl
theorem tF_135_2:Q1H prog 135 2=some 7:=by kernel_rfl
theorem tF_135_3:Q1H prog 135 3=some 8:=by kernel_rfl
theorem Qe8:Q1H prog 135 4=some 9:=by kernel_rfl
theorem tF_135_5:Q1H prog 135 5=some 10:=by kernel_rfl
theorem tZ_140:Q4P prog 140=some (.nilFunc):=by kernel_rfl
theorem tS_152:Q1m prog 152=some 2:=by kernel_rfl
theorem tA_152:Q58 prog 152=some true:=by kernel_rfl
theorem tZ_152:Q4P prog 152=some (.agg #[.slice none 0 0,.slice none 0 0]):=by kernel_rfl
theorem tP_152:Q62 prog 152=some [(0,2)]:=by kernel_rfl
theorem QbO:Q1H prog 152 0=some 0:=by kernel_rfl
theorem tZ_183:Q4P prog 183=some (.nilFunc):=by kernel_rfl
theorem tS_220:Q1m prog 220=some 1:=by kernel_rfl
theorem tA_220:Q58 prog 220=some false:=by kernel_rfl
theorem tZ_220:Q4P prog 220=some (.nilFunc):=by kernel_rfl
theorem fn_8:Q15 prog 8=true:=by kernel_rfl
theorem fn_9:Q15 prog 9=true:=by kernel_rfl
theorem fn_10:Q15 prog 10=true:=by kernel_rfl
theorem fn_11:Q15 prog 11=true:=by kernel_rfl
theorem fn_12:Q15 prog 12=true:=by kernel_rfl
theorem fn_13:Q15 prog 13=true:=by kernel_rfl
theorem fn_14:Q15 prog 14=true:=by kernel_rfl
theorem fn_15:Q15 prog 15=true:=by kernel_rfl
theorem fn_16:Q15 prog 16=true:=by kernel_rfl
theorem fn_20:Q15 prog 20=true:=by kernel_rfl
theorem fn_25:Q15 prog 25=true:=by kernel_rfl
theorem fn_26:Q15 prog 26=true:=by kernel_rfl
theorem fn_27:Q15 prog 27=true:=by kernel_rfl
theorem fn_28:Q15 prog 28=true:=by kernel_rfl
theorem fn_29:Q15 prog 29=true:=by kernel_rfl
theorem fn_30:Q15 prog 30=true:=by kernel_rfl
theorem fn_31:Q15 prog 31=true:=by kernel_rfl
theorem fn_32:Q15 prog 32=true:=by kernel_rfl
theorem fn_33:Q15 prog 33=true:=by kernel_rfl
theorem fn_34:Q15 prog 34=true:=by kernel_rfl
theorem fn_35:Q15 prog 35=true:=by kernel_rfl
theorem fn_36:Q15 prog 36=true:=by kernel_rfl
theorem fn_37:Q15 prog 37=true:=by kernel_rfl
theorem fn_38:Q15 prog 38=true:=by kernel_rfl
theorem fn_39:Q15 prog 39=true:=by kernel_rfl
theorem fn_40:Q15 prog 40=true:=by kernel_rfl
theorem fn_41:Q15 prog 41=true:=by kernel_rfl
theorem fn_42:Q15 prog 42=true:=by kernel_rfl
theorem fn_43:Q15 prog 43=true:=by kernel_rfl
theorem fn_44:Q15 prog 44=true:=by kernel_rfl
theorem fn_45:Q15 prog 45=true:=by kernel_rfl
theorem fn_49:Q15 prog 49=true:=by kernel_rfl
theorem fn_50:Q15 prog 50=true:=by kernel_rfl
theorem fn_53:Q15 prog 53=true:=by kernel_rfl
theorem fn_54:Q15 prog 54=true:=by kernel_rfl
theorem fn_55:Q15 prog 55=true:=by kernel_rfl
theorem fn_56:Q15 prog 56=true:=by kernel_rfl
theorem fn_57:Q15 prog 57=true:=by kernel_rfl
theorem fn_58:Q15 prog 58=true:=by kernel_rfl
theorem fn_59:Q15 prog 59=true:=by kernel_rfl
theorem fn_60:Q15 prog 60=true:=by kernel_rfl
theorem fn_61:Q15 prog 61=true:=by kernel_rfl
theorem fn_62:Q15 prog 62=true:=by kernel_rfl
theorem fn_63:Q15 prog 63=true:=by kernel_rfl
theorem fn_64:Q15 prog 64=true:=by kernel_rfl
theorem fn_65:Q15 prog 65=true:=by kernel_rfl
theorem fn_66:Q15 prog 66=true:=by kernel_rfl
theorem fn_67:Q15 prog 67=true:=by kernel_rfl
theorem fn_68:Q15 prog 68=true:=by kernel_rfl
theorem fn_69:Q15 prog 69=true:=by kernel_rfl
theorem fn_70:Q15 prog 70=true:=by kernel_rfl
theorem fn_71:Q15 prog 71=true:=by kernel_rfl
theorem fn_72:Q15 prog 72=true:=by kernel_rfl
theorem fn_73:Q15 prog 73=true:=by kernel_rfl
theorem fn_74:Q15 prog 74=true:=by kernel_rfl
theorem fn_75:Q15 prog 75=true:=by kernel_rfl
theorem fn_76:Q15 prog 76=true:=by kernel_rfl
theorem fn_77:Q15 prog 77=true:=by kernel_rfl
theorem fn_78:Q15 prog 78=true:=by kernel_rfl
theorem fn_79:Q15 prog 79=true:=by kernel_rfl
theorem fn_80:Q15 prog 80=true:=by kernel_rfl
theorem fn_81:Q15 prog 81=true:=by kernel_rfl
theorem fn_82:Q15 prog 82=true:=by kernel_rfl
theorem fn_83:Q15 prog 83=true:=by kernel_rfl
theorem fn_84:Q15 prog 84=true:=by kernel_rfl
theorem fn_85:Q15 prog 85=true:=by kernel_rfl
theorem fn_86:Q15 prog 86=true:=by kernel_rfl
theorem fn_88:Q15 prog 88=true:=by kernel_rfl
theorem fn_89:Q15 prog 89=true:=by kernel_rfl
theorem fn_90:Q15 prog 90=true:=by kernel_rfl
theorem fn_91:Q15 prog 91=true:=by kernel_rfl
theorem fn_92:Q15 prog 92=true:=by kernel_rfl
theorem fn_95:Q15 prog 95=true:=by kernel_rfl
theorem fn_96:Q15 prog 96=true:=by kernel_rfl
theorem fn_97:Q15 prog 97=true:=by kernel_rfl
theorem fn_98:Q15 prog 98=true:=by kernel_rfl
theorem fn_99:Q15 prog 99=true:=by kernel_rfl
theorem fn_100:Q15 prog 100=true:=by kernel_rfl
theorem fn_101:Q15 prog 101=true:=by kernel_rfl
theorem fn_102:Q15 prog 102=true:=by kernel_rfl
theorem fn_103:Q15 prog 103=true:=by kernel_rfl
theorem fn_104:Q15 prog 104=true:=by kernel_rfl
theorem fn_105:Q15 prog 105=true:=by kernel_rfl
theorem fn_106:Q15 prog 106=true:=by kernel_rfl
theorem fn_107:Q15 prog 107=true:=by kernel_rfl
theorem fn_108:Q15 prog 108=true:=by kernel_rfl
theorem fn_109:Q15 prog 109=true:=by kernel_rfl
theorem fn_110:Q15 prog 110=true:=by kernel_rfl
theorem fn_111:Q15 prog 111=true:=by kernel_rfl
theorem fn_112:Q15 prog 112=true:=by kernel_rfl
theorem fn_113:Q15 prog 113=true:=by kernel_rfl
theorem fn_114:Q15 prog 114=true:=by kernel_rfl
theorem fn_115:Q15 prog 115=true:=by kernel_rfl
theorem fn_116:Q15 prog 116=true:=by kernel_rfl
theorem fn_117:Q15 prog 117=true:=by kernel_rfl
theorem Qdk:Q15 prog 118=true:=by kernel_rfl
theorem fn_119:Q15 prog 119=true:=by kernel_rfl
theorem fn_120:Q15 prog 120=true:=by kernel_rfl
theorem fn_121:Q15 prog 121=true:=by kernel_rfl
theorem fn_122:Q15 prog 122=true:=by kernel_rfl
theorem fn_131:Q15 prog 131=true:=by kernel_rfl
theorem fn_132:Q15 prog 132=true:=by kernel_rfl
theorem fn_133:Q15 prog 133=true:=by kernel_rfl
theorem fn_134:Q15 prog 134=true:=by kernel_rfl
theorem fn_135:Q15 prog 135=true:=by kernel_rfl
theorem fn_136:Q15 prog 136=true:=by kernel_rfl
theorem fn_137:Q15 prog 137=true:=by kernel_rfl
theorem fn_138:Q15 prog 138=true:=by kernel_rfl
theorem fn_139:Q15 prog 139=true:=by kernel_rfl
theorem fn_140:Q15 prog 140=true:=by kernel_rfl
theorem fn_141:Q15 prog 141=true:=by kernel_rfl
theorem fn_142:Q15 prog 142=true:=by kernel_rfl
theorem fn_143:Q15 prog 143=true:=by kernel_rfl
theorem fn_144:Q15 prog 144=true:=by kernel_rfl
theorem fn_145:Q15 prog 145=true:=by kernel_rfl
theorem fn_146:Q15 prog 146=true:=by kernel_rfl
theorem fn_147:Q15 prog 147=true:=by kernel_rfl
theorem fn_148:Q15 prog 148=true:=by kernel_rfl
theorem fn_149:Q15 prog 149=true:=by kernel_rfl
theorem fn_150:Q15 prog 150=true:=by kernel_rfl
theorem fn_151:Q15 prog 151=true:=by kernel_rfl
theorem fn_152:Q15 prog 152=true:=by kernel_rfl
theorem fn_153:Q15 prog 153=true:=by kernel_rfl
theorem fn_154:Q15 prog 154=true:=by kernel_rfl
theorem fn_155:Q15 prog 155=true:=by kernel_rfl
theorem fn_156:Q15 prog 156=true:=by kernel_rfl
theorem fn_157:Q15 prog 157=true:=by kernel_rfl
theorem fn_158:Q15 prog 158=true:=by kernel_rfl
theorem fn_159:Q15 prog 159=true:=by kernel_rfl
theorem fn_176:Q15 prog 176=true:=by kernel_rfl
theorem fn_177:Q15 prog 177=true:=by kernel_rfl
theorem fn_178:Q15 prog 178=true:=by kernel_rfl
theorem fn_179:Q15 prog 179=true:=by kernel_rfl
theorem fn_180:Q15 prog 180=true:=by kernel_rfl
theorem fn_189:Q15 prog 189=true:=by kernel_rfl
theorem fn_190:Q15 prog 190=true:=by kernel_rfl
theorem fn_191:Q15 prog 191=true:=by kernel_rfl
theorem fn_192:Q15 prog 192=true:=by kernel_rfl
theorem fn_193:Q15 prog 193=true:=by kernel_rfl
theorem fn_194:Q15 prog 194=true:=by kernel_rfl
theorem fn_195:Q15 prog 195=true:=by kernel_rfl
theorem fn_196:Q15 prog 196=true:=by kernel_rfl
theorem fn_197:Q15 prog 197=true:=by kernel_rfl
theorem fn_212:Q15 prog 212=true:=by kernel_rfl
theorem fn_213:Q15 prog 213=true:=by kernel_rfl
theorem fn_214:Q15 prog 214=true:=by kernel_rfl
end Go.Proofs.YtbgodclhmgmcgaaGreatDoor
