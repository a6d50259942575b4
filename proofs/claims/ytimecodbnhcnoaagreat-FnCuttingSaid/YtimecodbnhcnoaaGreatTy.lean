/- The types of the seat as a table. Made by program (genty.py). -/
import Derived.Test.YtimecodbnhcnoaaGreatProg
import Derived.Test.YtimecodbnhcnoaaGreatAbSpec
import Derived.KernelRfl
namespace Go.Proofs.YtimecodbnhcnoaaGreat
open Go Go.Ab Tryz
set_option maxRecDepth 100000

abbrev tyE1:TyE:=⟨.func #[] #[] false,1,8,.nilFunc,false⟩
abbrev tyE2:TyE:=⟨.int .i64,1,8,.int .i64 0,false⟩
abbrev tyE3:TyE:=⟨.int .i64,1,8,.int .i64 0,false⟩
abbrev tyE4:TyE:=⟨.bool,1,1,.bool false,false⟩
abbrev tyE5:TyE:=⟨.int .u8,1,1,.int .u8 0,false⟩
abbrev tyE7:TyE:=⟨.struct #[⟨ "x",2,0,false, "", "runtime",0⟩,⟨ "y",3,1,false, "", "runtime",8⟩,⟨ "signed",4,2,false, "", "runtime",16⟩,⟨ "code",6,3,false, "", "runtime",17⟩],4,24,.agg #[.int .i64 0,.int .i64 0,.bool false,.int .u8 0],false⟩
abbrev tyE9:TyE:=⟨.string,1,16,.string ByteArray.empty,false⟩
abbrev tyE12:TyE:=⟨.int .u64,1,8,.int .u64 0,false⟩
abbrev tyE13:TyE:=⟨.struct #[⟨ "msg",9,0,false, "", "runtime",0⟩,⟨ "addr",12,1,false, "", "runtime",16⟩],2,24,.agg #[.string ByteArray.empty,.int .u64 0],false⟩
abbrev tyE15:TyE:=⟨.pointer 206,1,8,.pointer none,false⟩
abbrev tyE16:TyE:=⟨.pointer 209,1,8,.pointer none,false⟩
abbrev tyE17:TyE:=⟨.pointer 217,1,8,.pointer none,false⟩
abbrev tyE18:TyE:=⟨.struct #[⟨ "typ",17,0,false, "", "internal/runtime/maps",0⟩],1,8,.agg #[.pointer none],false⟩
abbrev tyE21:TyE:=⟨.int .i32,1,4,.int .i32 0,false⟩
abbrev tyE22:TyE:=⟨.slice 5,1,24,.slice none 0 0,false⟩
abbrev tyE23:TyE:=⟨.func #[22] #[4] false,1,8,.nilFunc,false⟩
abbrev tyE24:TyE:=⟨.slice 9,1,24,.slice none 0 0,false⟩
abbrev tyE25:TyE:=⟨.slice 147,1,24,.slice none 0 0,false⟩
abbrev tyE26:TyE:=⟨.struct #[⟨ "Stops",24,0,false, "", "",0⟩,⟨ "Lines",25,1,false, "", "",24⟩],2,48,.agg #[.slice none 0 0,.slice none 0 0],false⟩
abbrev tyE27:TyE:=⟨.struct #[⟨ "Stops",24,0,false, "", "",0⟩,⟨ "Lines",25,1,false, "", "",24⟩],2,48,.agg #[.slice none 0 0,.slice none 0 0],true⟩
abbrev tyE28:TyE:=⟨.slice 106,1,24,.slice none 0 0,false⟩
abbrev tyE29:TyE:=⟨.struct #[⟨ "Network",27,0,false, "", "",0⟩,⟨ "Trips",28,2,false, "", "",48⟩],3,72,.agg #[.slice none 0 0,.slice none 0 0,.slice none 0 0],false⟩
abbrev tyE30:TyE:=⟨.struct #[⟨ "Network",27,0,false, "", "",0⟩,⟨ "Trips",28,2,false, "", "",48⟩],3,72,.agg #[.slice none 0 0,.slice none 0 0,.slice none 0 0],true⟩
abbrev tyE31:TyE:=⟨.slice 53,1,24,.slice none 0 0,false⟩
abbrev tyE32:TyE:=⟨.struct #[⟨ "Dead",31,0,false, "", "",0⟩,⟨ "Turn",3,1,false, "", "",24⟩],2,32,.agg #[.slice none 0 0,.int .i64 0],false⟩
abbrev tyE33:TyE:=⟨.struct #[⟨ "Dead",31,0,false, "", "",0⟩,⟨ "Turn",3,1,false, "", "",24⟩],2,32,.agg #[.slice none 0 0,.int .i64 0],true⟩
abbrev tyE34:TyE:=⟨.struct #[⟨ "SignOn",3,0,false, "", "",0⟩,⟨ "SignOff",3,1,false, "", "",8⟩,⟨ "MaxDrive",3,2,false, "", "",16⟩,⟨ "MinBreak",3,3,false, "", "",24⟩,⟨ "PaidBreak",3,4,false, "", "",32⟩,⟨ "MaxLength",3,5,false, "", "",40⟩],6,48,.agg #[.int .i64 0,.int .i64 0,.int .i64 0,.int .i64 0,.int .i64 0,.int .i64 0],false⟩
abbrev tyE35:TyE:=⟨.struct #[⟨ "SignOn",3,0,false, "", "",0⟩,⟨ "SignOff",3,1,false, "", "",8⟩,⟨ "MaxDrive",3,2,false, "", "",16⟩,⟨ "MinBreak",3,3,false, "", "",24⟩,⟨ "PaidBreak",3,4,false, "", "",32⟩,⟨ "MaxLength",3,5,false, "", "",40⟩],6,48,.agg #[.int .i64 0,.int .i64 0,.int .i64 0,.int .i64 0,.int .i64 0,.int .i64 0],true⟩
abbrev tyE37:TyE:=⟨.func #[22] #[30,33,31,35] false,1,8,.nilFunc,false⟩
abbrev tyE38:TyE:=⟨.slice 50,1,24,.slice none 0 0,false⟩
abbrev tyE40:TyE:=⟨.func #[30,33,31,35] #[38,3,3,4] false,1,8,.nilFunc,false⟩
abbrev tyE41:TyE:=⟨.func #[38,38] #[4] false,1,8,.nilFunc,false⟩
abbrev tyE43:TyE:=⟨.func #[30,33,31,35,38] #[4,4] false,1,8,.nilFunc,false⟩
abbrev tyE45:TyE:=⟨.func #[30,33,31,35,38] #[3,4] false,1,8,.nilFunc,false⟩
abbrev tyE46:TyE:=⟨.func #[30,33,31,35] #[3,4] false,1,8,.nilFunc,false⟩
abbrev tyE48:TyE:=⟨.func #[30,33,31,3] #[31,4] false,1,8,.nilFunc,false⟩
abbrev tyE49:TyE:=⟨.struct #[⟨ "Pieces",31,0,false, "", "",0⟩],1,24,.agg #[.slice none 0 0],false⟩
abbrev tyE50:TyE:=⟨.struct #[⟨ "Pieces",31,0,false, "", "",0⟩],1,24,.agg #[.slice none 0 0],true⟩
abbrev tyE52:TyE:=⟨.func #[22] #[30,33,31,35,38] false,1,8,.nilFunc,false⟩
abbrev tyE53:TyE:=⟨.slice 3,1,24,.slice none 0 0,false⟩
abbrev tyE54:TyE:=⟨.func #[30,33,31,35,38,3] #[3,4] false,1,8,.nilFunc,false⟩
abbrev tyE55:TyE:=⟨.pointer 58,1,8,.pointer none,false⟩
abbrev tyE56:TyE:=⟨.int .u64,1,8,.int .u64 0,false⟩
abbrev tyE57:TyE:=⟨.struct #[⟨ "code",22,0,false, "", "loop.example/g00900/spec",0⟩,⟨ "at",3,1,false, "", "loop.example/g00900/spec",24⟩,⟨ "seed",56,2,false, "", "loop.example/g00900/spec",32⟩],3,40,.agg #[.slice none 0 0,.int .i64 0,.int .u64 0],true⟩
abbrev tyE58:TyE:=⟨.struct #[⟨ "code",22,0,false, "", "loop.example/g00900/spec",0⟩,⟨ "at",3,1,false, "", "loop.example/g00900/spec",24⟩,⟨ "seed",56,2,false, "", "loop.example/g00900/spec",32⟩],3,40,.agg #[.slice none 0 0,.int .i64 0,.int .u64 0],true⟩
abbrev tyE59:TyE:=⟨.func #[] #[30,33,31,35] false,1,8,.nilFunc,false⟩
abbrev tyE60:TyE:=⟨.func #[30,33,31,35] #[4] false,1,8,.nilFunc,false⟩
abbrev tyE61:TyE:=⟨.func #[31,31] #[4] false,1,8,.nilFunc,false⟩
abbrev tyE62:TyE:=⟨.func #[30,33,31,35,38] #[4] false,1,8,.nilFunc,false⟩
abbrev tyE65:TyE:=⟨.func #[30] #[3,3] false,1,8,.nilFunc,false⟩
abbrev tyE66:TyE:=⟨.func #[30,33,31] #[4] false,1,8,.nilFunc,false⟩
abbrev tyE68:TyE:=⟨.func #[30,31,3] #[31] false,1,8,.nilFunc,false⟩
abbrev tyE69:TyE:=⟨.func #[30,33,31,35] #[38] false,1,8,.nilFunc,false⟩
abbrev tyE70:TyE:=⟨.func #[3] #[3,4] false,1,8,.nilFunc,false⟩
abbrev tyE71:TyE:=⟨.func #[38,3] #[3] false,1,8,.nilFunc,false⟩
abbrev tyE72:TyE:=⟨.func #[] #[30] false,1,8,.nilFunc,false⟩
abbrev tyE73:TyE:=⟨.func #[3] #[4] false,1,8,.nilFunc,false⟩
abbrev tyE74:TyE:=⟨.func #[27] #[33] false,1,8,.nilFunc,false⟩
abbrev tyE75:TyE:=⟨.func #[] #[35] false,1,8,.nilFunc,false⟩
abbrev tyE76:TyE:=⟨.func #[30,33] #[4] false,1,8,.nilFunc,false⟩
abbrev tyE77:TyE:=⟨.func #[30,53] #[31] false,1,8,.nilFunc,false⟩
abbrev tyE78:TyE:=⟨.func #[30,33] #[53] false,1,8,.nilFunc,false⟩
abbrev tyE79:TyE:=⟨.func #[35] #[4] false,1,8,.nilFunc,false⟩
abbrev tyE80:TyE:=⟨.pointer 128,1,8,.pointer none,false⟩
abbrev tyE81:TyE:=⟨.struct #[⟨ "duties",3,0,false, "", "loop.example/g00900/impl",0⟩,⟨ "paid",3,1,false, "", "loop.example/g00900/impl",8⟩],2,16,.agg #[.int .i64 0,.int .i64 0],true⟩
abbrev tyE82:TyE:=⟨.struct #[⟨ "duties",3,0,false, "", "loop.example/g00900/impl",0⟩,⟨ "paid",3,1,false, "", "loop.example/g00900/impl",8⟩],2,16,.agg #[.int .i64 0,.int .i64 0],true⟩
abbrev tyE83:TyE:=⟨.func #[30,33,31,35,31] #[80] false,1,8,.nilFunc,false⟩
abbrev tyE84:TyE:=⟨.func #[3,3] #[82] false,1,8,.nilFunc,false⟩
abbrev tyE85:TyE:=⟨.func #[82,82] #[3] false,1,8,.nilFunc,false⟩
abbrev tyE86:TyE:=⟨.func #[] #[38] false,1,8,.nilFunc,false⟩
abbrev tyE87:TyE:=⟨.int .u64,1,8,.int .u64 0,false⟩
abbrev tyE88:TyE:=⟨.pointer 95,1,8,.pointer none,false⟩
abbrev tyE89:TyE:=⟨.func #[30,33,31,35,3] #[88] false,1,8,.nilFunc,false⟩
abbrev tyE90:TyE:=⟨.func #[3] #[3] false,1,8,.nilFunc,false⟩
abbrev tyE91:TyE:=⟨.func #[] #[53] false,1,8,.nilFunc,false⟩
abbrev tyE92:TyE:=⟨.func #[38,50] #[38] false,1,8,.nilFunc,false⟩
abbrev tyE93:TyE:=⟨.func #[53] #[53] false,1,8,.nilFunc,false⟩
abbrev tyE94:TyE:=⟨.struct #[⟨ "pieces",31,0,false, "", "loop.example/g00900/spec",0⟩,⟨ "alone",53,1,false, "", "loop.example/g00900/spec",24⟩,⟨ "pair",31,2,false, "", "loop.example/g00900/spec",48⟩,⟨ "forbid",3,3,false, "", "loop.example/g00900/spec",72⟩,⟨ "known",53,4,false, "", "loop.example/g00900/spec",80⟩],5,104,.agg #[.slice none 0 0,.slice none 0 0,.slice none 0 0,.int .i64 0,.slice none 0 0],true⟩
abbrev tyE95:TyE:=⟨.struct #[⟨ "pieces",31,0,false, "", "loop.example/g00900/spec",0⟩,⟨ "alone",53,1,false, "", "loop.example/g00900/spec",24⟩,⟨ "pair",31,2,false, "", "loop.example/g00900/spec",48⟩,⟨ "forbid",3,3,false, "", "loop.example/g00900/spec",72⟩,⟨ "known",53,4,false, "", "loop.example/g00900/spec",80⟩],5,104,.agg #[.slice none 0 0,.slice none 0 0,.slice none 0 0,.int .i64 0,.slice none 0 0],true⟩
abbrev tyE96:TyE:=⟨.func #[53,3] #[4] false,1,8,.nilFunc,false⟩
abbrev tyE97:TyE:=⟨.func #[53,53] #[4] false,1,8,.nilFunc,false⟩
abbrev tyE98:TyE:=⟨.array 12 4,12,12,.agg #[.bool false,.bool false,.bool false,.bool false,.bool false,.bool false,.bool false,.bool false,.bool false,.bool false,.bool false,.bool false],false⟩
abbrev tyE99:TyE:=⟨.func #[30,33,31,35,50] #[3] false,1,8,.nilFunc,false⟩
abbrev tyE100:TyE:=⟨.func #[30,3] #[3] false,1,8,.nilFunc,false⟩
abbrev tyE101:TyE:=⟨.struct #[⟨ "From",3,0,false, "", "",0⟩,⟨ "To",3,1,false, "", "",8⟩],2,16,.agg #[.int .i64 0,.int .i64 0],false⟩
abbrev tyE102:TyE:=⟨.struct #[⟨ "From",3,0,false, "", "",0⟩,⟨ "To",3,1,false, "", "",8⟩],2,16,.agg #[.int .i64 0,.int .i64 0],true⟩
abbrev tyE103:TyE:=⟨.func #[30,53] #[102] false,1,8,.nilFunc,false⟩
abbrev tyE104:TyE:=⟨.func #[30,33,31] #[53] false,1,8,.nilFunc,false⟩
abbrev tyE105:TyE:=⟨.struct #[⟨ "Id",3,0,false, "", "",0⟩,⟨ "Line",3,1,false, "", "",8⟩,⟨ "Start",3,2,false, "", "",16⟩],3,24,.agg #[.int .i64 0,.int .i64 0,.int .i64 0],false⟩
abbrev tyE106:TyE:=⟨.struct #[⟨ "Id",3,0,false, "", "",0⟩,⟨ "Line",3,1,false, "", "",8⟩,⟨ "Start",3,2,false, "", "",16⟩],3,24,.agg #[.int .i64 0,.int .i64 0,.int .i64 0],true⟩
abbrev tyE107:TyE:=⟨.func #[30,106] #[3] false,1,8,.nilFunc,false⟩
abbrev tyE108:TyE:=⟨.func #[30,31] #[50] false,1,8,.nilFunc,false⟩
abbrev tyE109:TyE:=⟨.func #[38,111] #[3] false,1,8,.nilFunc,false⟩
abbrev tyE110:TyE:=⟨.func #[31,3] #[3,3] false,1,8,.nilFunc,false⟩
abbrev tyE111:TyE:=⟨.func #[50] #[4] false,1,8,.nilFunc,false⟩
abbrev tyE112:TyE:=⟨.func #[] #[27] false,1,8,.nilFunc,false⟩
abbrev tyE113:TyE:=⟨.func #[3,3] #[3] false,1,8,.nilFunc,false⟩
abbrev tyE114:TyE:=⟨.func #[53] #[3] false,1,8,.nilFunc,false⟩
abbrev tyE115:TyE:=⟨.func #[30] #[4] false,1,8,.nilFunc,false⟩
abbrev tyE116:TyE:=⟨.func #[27,33] #[4] false,1,8,.nilFunc,false⟩
abbrev tyE117:TyE:=⟨.pointer 119,1,8,.pointer none,false⟩
abbrev tyE118:TyE:=⟨.struct #[⟨ "t",30,0,false, "", "loop.example/g00900/spec",0⟩,⟨ "f",33,3,false, "", "loop.example/g00900/spec",72⟩,⟨ "known",31,5,false, "", "loop.example/g00900/spec",104⟩],6,128,.agg #[.slice none 0 0,.slice none 0 0,.slice none 0 0,.slice none 0 0,.int .i64 0,.slice none 0 0],true⟩
abbrev tyE119:TyE:=⟨.struct #[⟨ "t",30,0,false, "", "loop.example/g00900/spec",0⟩,⟨ "f",33,3,false, "", "loop.example/g00900/spec",72⟩,⟨ "known",31,5,false, "", "loop.example/g00900/spec",104⟩],6,128,.agg #[.slice none 0 0,.slice none 0 0,.slice none 0 0,.slice none 0 0,.int .i64 0,.slice none 0 0],true⟩
abbrev tyE120:TyE:=⟨.func #[30,33,3,3] #[4] false,1,8,.nilFunc,false⟩
abbrev tyE121:TyE:=⟨.func #[30,33,3,3] #[3] false,1,8,.nilFunc,false⟩
abbrev tyE122:TyE:=⟨.array 6 3,6,48,.agg #[.int .i64 0,.int .i64 0,.int .i64 0,.int .i64 0,.int .i64 0,.int .i64 0],true⟩
abbrev tyE123:TyE:=⟨.func #[3,3,3] #[4] false,1,8,.nilFunc,false⟩
abbrev tyE124:TyE:=⟨.slice 82,1,24,.slice none 0 0,false⟩
abbrev tyE125:TyE:=⟨.slice 124,1,24,.slice none 0 0,false⟩
abbrev tyE126:TyE:=⟨.map 130 82,1,8,.map none,false⟩
abbrev tyE127:TyE:=⟨.struct #[⟨ "pieces",31,0,false, "", "loop.example/g00900/impl",0⟩,⟨ "single",124,1,false, "", "loop.example/g00900/impl",24⟩,⟨ "pair",125,2,false, "", "loop.example/g00900/impl",48⟩,⟨ "memo",126,3,false, "", "loop.example/g00900/impl",72⟩],4,80,.agg #[.slice none 0 0,.slice none 0 0,.slice none 0 0,.map none],true⟩
abbrev tyE128:TyE:=⟨.struct #[⟨ "pieces",31,0,false, "", "loop.example/g00900/impl",0⟩,⟨ "single",124,1,false, "", "loop.example/g00900/impl",24⟩,⟨ "pair",125,2,false, "", "loop.example/g00900/impl",48⟩,⟨ "memo",126,3,false, "", "loop.example/g00900/impl",72⟩],4,80,.agg #[.slice none 0 0,.slice none 0 0,.slice none 0 0,.map none],true⟩
abbrev tyE129:TyE:=⟨.func #[31] #[82] true,1,8,.nilFunc,false⟩
abbrev tyE130:TyE:=⟨.array 2 3,2,16,.agg #[.int .i64 0,.int .i64 0],true⟩
abbrev tyE132:TyE:=⟨.func #[82,82] #[82] false,1,8,.nilFunc,false⟩
abbrev tyE133:TyE:=⟨.func #[3,3,3] #[82,4] false,1,8,.nilFunc,false⟩
abbrev tyE134:TyE:=⟨.func #[53] #[3] true,1,8,.nilFunc,false⟩
abbrev tyE135:TyE:=⟨.func #[38,136] #[] false,1,8,.nilFunc,false⟩
abbrev tyE136:TyE:=⟨.func #[50,50] #[3] false,1,8,.nilFunc,false⟩
abbrev tyE137:TyE:=⟨.func #[3] #[] false,1,8,.nilFunc,false⟩
abbrev tyE138:TyE:=⟨.func #[3,3,3] #[3] false,1,8,.nilFunc,false⟩
abbrev tyE139:TyE:=⟨.func #[31,53] #[4] false,1,8,.nilFunc,false⟩
abbrev tyE140:TyE:=⟨.func #[53] #[] false,1,8,.nilFunc,false⟩
abbrev tyE141:TyE:=⟨.func #[30,35,50] #[3] false,1,8,.nilFunc,false⟩
abbrev tyE142:TyE:=⟨.func #[28,143] #[3] false,1,8,.nilFunc,false⟩
abbrev tyE143:TyE:=⟨.func #[106] #[4] false,1,8,.nilFunc,false⟩
abbrev tyE144:TyE:=⟨.func #[30,3] #[106] false,1,8,.nilFunc,false⟩
abbrev tyE145:TyE:=⟨.func #[30,33,106,106] #[3] false,1,8,.nilFunc,false⟩
abbrev tyE146:TyE:=⟨.struct #[⟨ "Name",9,0,false, "", "",0⟩,⟨ "Stops",53,1,false, "", "",16⟩,⟨ "Runs",53,2,false, "", "",40⟩],3,64,.agg #[.string ByteArray.empty,.slice none 0 0,.slice none 0 0],false⟩
abbrev tyE147:TyE:=⟨.struct #[⟨ "Name",9,0,false, "", "",0⟩,⟨ "Stops",53,1,false, "", "",16⟩,⟨ "Runs",53,2,false, "", "",40⟩],3,64,.agg #[.string ByteArray.empty,.slice none 0 0,.slice none 0 0],true⟩
abbrev tyE155:TyE:=⟨.func #[9,3] #[147] false,1,8,.nilFunc,false⟩
abbrev tyE156:TyE:=⟨.func #[3] #[9] false,1,8,.nilFunc,false⟩
abbrev tyE160:TyE:=⟨.func #[38,3,3,3,136] #[] false,1,8,.nilFunc,false⟩
abbrev tyE162:TyE:=⟨.func #[53,3,3,3] #[] false,1,8,.nilFunc,false⟩
abbrev tyE165:TyE:=⟨.func #[9] #[4] false,1,8,.nilFunc,false⟩
abbrev tyE166:TyE:=⟨.func #[24,9] #[3] false,1,8,.nilFunc,false⟩
abbrev tyE167:TyE:=⟨.func #[147,3] #[4] false,1,8,.nilFunc,false⟩
abbrev tyE168:TyE:=⟨.func #[27,9] #[3] false,1,8,.nilFunc,false⟩
abbrev tyE169:TyE:=⟨.func #[30,3,3] #[3] false,1,8,.nilFunc,false⟩
abbrev tyE170:TyE:=⟨.func #[30,3] #[147] false,1,8,.nilFunc,false⟩
abbrev tyE171:TyE:=⟨.func #[38,3,3,136] #[] false,1,8,.nilFunc,false⟩
abbrev tyE172:TyE:=⟨.int .i64,1,8,.int .i64 0,false⟩
abbrev tyE176:TyE:=⟨.func #[38,3,3,3,136] #[3] false,1,8,.nilFunc,false⟩
abbrev tyE179:TyE:=⟨.int .u32,1,4,.int .u32 0,false⟩
abbrev tyE180:TyE:=⟨.func #[56] #[3] false,1,8,.nilFunc,false⟩
abbrev tyE181:TyE:=⟨.func #[53,3,3] #[] false,1,8,.nilFunc,false⟩
abbrev tyE182:TyE:=⟨.func #[53,3,3] #[3,172] false,1,8,.nilFunc,false⟩
abbrev tyE192:TyE:=⟨.func #[147,3,3] #[3] false,1,8,.nilFunc,false⟩
def tyL:List (Nat×TyE):=[(1,tyE1),(2,tyE2),(3,tyE3),(4,tyE4),(5,tyE5),(7,tyE7),(9,tyE9),(12,tyE12),(13,tyE13),(15,tyE15),(16,tyE16),(17,tyE17),(18,tyE18),(21,tyE21),(22,tyE22),(23,tyE23),(24,tyE24),(25,tyE25),(26,tyE26),(27,tyE27),(28,tyE28),(29,tyE29),(30,tyE30),(31,tyE31),(32,tyE32),(33,tyE33),(34,tyE34),(35,tyE35),(37,tyE37),(38,tyE38),(40,tyE40),(41,tyE41),(43,tyE43),(45,tyE45),(46,tyE46),(48,tyE48),(49,tyE49),(50,tyE50),(52,tyE52),(53,tyE53),(54,tyE54),(55,tyE55),(56,tyE56),(57,tyE57),(58,tyE58),(59,tyE59),(60,tyE60),(61,tyE61),(62,tyE62),(65,tyE65),(66,tyE66),(68,tyE68),(69,tyE69),(70,tyE70),(71,tyE71),(72,tyE72),(73,tyE73),(74,tyE74),(75,tyE75),(76,tyE76),(77,tyE77),(78,tyE78),(79,tyE79),(80,tyE80),(81,tyE81),(82,tyE82),(83,tyE83),(84,tyE84),(85,tyE85),(86,tyE86),(87,tyE87),(88,tyE88),(89,tyE89),(90,tyE90),(91,tyE91),(92,tyE92),(93,tyE93),(94,tyE94),(95,tyE95),(96,tyE96),(97,tyE97),(98,tyE98),(99,tyE99),(100,tyE100),(101,tyE101),(102,tyE102),(103,tyE103),(104,tyE104),(105,tyE105),(106,tyE106),(107,tyE107),(108,tyE108),(109,tyE109),(110,tyE110),(111,tyE111),(112,tyE112),(113,tyE113),(114,tyE114),(115,tyE115),(116,tyE116),(117,tyE117),(118,tyE118),(119,tyE119),(120,tyE120),(121,tyE121),(122,tyE122),(123,tyE123),(124,tyE124),(125,tyE125),(126,tyE126),(127,tyE127),(128,tyE128),(129,tyE129),(130,tyE130),(132,tyE132),(133,tyE133),(134,tyE134),(135,tyE135),(136,tyE136),(137,tyE137),(138,tyE138),(139,tyE139),(140,tyE140),(141,tyE141),(142,tyE142),(143,tyE143),(144,tyE144),(145,tyE145),(146,tyE146),(147,tyE147),(155,tyE155),(156,tyE156),(160,tyE160),(162,tyE162),(165,tyE165),(166,tyE166),(167,tyE167),(168,tyE168),(169,tyE169),(170,tyE170),(171,tyE171),(172,tyE172),(176,tyE176),(179,tyE179),(180,tyE180),(181,tyE181),(182,tyE182),(192,tyE192)]
def ty(t:TypeId):Option TyE:=jqf t tyL
theorem tyOK_1:TyOK Tryz.prog 1 tyE1:=⟨underlying1,t1,type1,rfl,rfl,rfl,fun h=>by cases h⟩
theorem tyOK_2:TyOK Tryz.prog 2 tyE2:=⟨underlying2,t2,type2,rfl,rfl,rfl,fun h=>by cases h⟩
theorem tyOK_3:TyOK Tryz.prog 3 tyE3:=⟨underlying3,t3,type3,rfl,rfl,rfl,fun h=>by cases h⟩
theorem tyOK_4:TyOK Tryz.prog 4 tyE4:=⟨underlying4,t4,type4,rfl,rfl,rfl,fun h=>by cases h⟩
theorem tyOK_5:TyOK Tryz.prog 5 tyE5:=⟨underlying5,t5,type5,rfl,rfl,rfl,fun h=>by cases h⟩
theorem tyOK_7:TyOK Tryz.prog 7 tyE7:=⟨underlying7,t7,type7,rfl,rfl,rfl,fun h=>by cases h⟩
theorem tyOK_9:TyOK Tryz.prog 9 tyE9:=⟨underlying9,t9,type9,rfl,rfl,rfl,fun h=>by cases h⟩
theorem tyOK_12:TyOK Tryz.prog 12 tyE12:=⟨underlying12,t12,type12,rfl,rfl,rfl,fun h=>by cases h⟩
theorem tyOK_13:TyOK Tryz.prog 13 tyE13:=⟨underlying13,t13,type13,rfl,rfl,rfl,fun h=>by cases h⟩
theorem tyOK_15:TyOK Tryz.prog 15 tyE15:=⟨underlying15,t15,type15,rfl,rfl,rfl,fun h=>by cases h⟩
theorem tyOK_16:TyOK Tryz.prog 16 tyE16:=⟨underlying16,t16,type16,rfl,rfl,rfl,fun h=>by cases h⟩
theorem tyOK_17:TyOK Tryz.prog 17 tyE17:=⟨underlying17,t17,type17,rfl,rfl,rfl,fun h=>by cases h⟩
theorem tyOK_18:TyOK Tryz.prog 18 tyE18:=⟨underlying18,t18,type18,rfl,rfl,rfl,fun h=>by cases h⟩
theorem tyOK_21:TyOK Tryz.prog 21 tyE21:=⟨underlying21,t21,type21,rfl,rfl,rfl,fun h=>by cases h⟩
theorem tyOK_22:TyOK Tryz.prog 22 tyE22:=⟨underlying22,t22,type22,rfl,rfl,rfl,fun h=>by cases h⟩
theorem tyOK_23:TyOK Tryz.prog 23 tyE23:=⟨underlying23,t23,type23,rfl,rfl,rfl,fun h=>by cases h⟩
theorem tyOK_24:TyOK Tryz.prog 24 tyE24:=⟨underlying24,t24,type24,rfl,rfl,rfl,fun h=>by cases h⟩
theorem tyOK_25:TyOK Tryz.prog 25 tyE25:=⟨underlying25,t25,type25,rfl,rfl,rfl,fun h=>by cases h⟩
theorem tyOK_26:TyOK Tryz.prog 26 tyE26:=⟨underlying26,t26,type26,rfl,rfl,rfl,fun h=>by cases h⟩
theorem tyOK_27:TyOK Tryz.prog 27 tyE27:=⟨underlying27,t27,type27,rfl,rfl,rfl,fun _=>⟨by kernel_rfl,by kernel_rfl,by rintro _ ⟨⟩;rfl⟩⟩
theorem tyOK_28:TyOK Tryz.prog 28 tyE28:=⟨underlying28,t28,type28,rfl,rfl,rfl,fun h=>by cases h⟩
theorem tyOK_29:TyOK Tryz.prog 29 tyE29:=⟨underlying29,t29,type29,rfl,rfl,rfl,fun h=>by cases h⟩
theorem tyOK_30:TyOK Tryz.prog 30 tyE30:=⟨underlying30,t30,type30,rfl,rfl,rfl,fun _=>⟨by kernel_rfl,by kernel_rfl,by rintro _ ⟨⟩;rfl⟩⟩
theorem tyOK_31:TyOK Tryz.prog 31 tyE31:=⟨underlying31,t31,type31,rfl,rfl,rfl,fun h=>by cases h⟩
theorem tyOK_32:TyOK Tryz.prog 32 tyE32:=⟨underlying32,t32,type32,rfl,rfl,rfl,fun h=>by cases h⟩
theorem tyOK_33:TyOK Tryz.prog 33 tyE33:=⟨underlying33,t33,type33,rfl,rfl,rfl,fun _=>⟨by kernel_rfl,by kernel_rfl,by rintro _ ⟨⟩;rfl⟩⟩
theorem tyOK_34:TyOK Tryz.prog 34 tyE34:=⟨underlying34,t34,type34,rfl,rfl,rfl,fun h=>by cases h⟩
theorem tyOK_35:TyOK Tryz.prog 35 tyE35:=⟨underlying35,t35,type35,rfl,rfl,rfl,fun _=>⟨by kernel_rfl,by kernel_rfl,by rintro _ ⟨⟩;rfl⟩⟩
theorem tyOK_37:TyOK Tryz.prog 37 tyE37:=⟨underlying37,t37,type37,rfl,rfl,rfl,fun h=>by cases h⟩
theorem tyOK_38:TyOK Tryz.prog 38 tyE38:=⟨underlying38,t38,type38,rfl,rfl,rfl,fun h=>by cases h⟩
theorem tyOK_40:TyOK Tryz.prog 40 tyE40:=⟨underlying40,t40,type40,rfl,rfl,rfl,fun h=>by cases h⟩
theorem tyOK_41:TyOK Tryz.prog 41 tyE41:=⟨underlying41,t41,type41,rfl,rfl,rfl,fun h=>by cases h⟩
theorem tyOK_43:TyOK Tryz.prog 43 tyE43:=⟨underlying43,t43,type43,rfl,rfl,rfl,fun h=>by cases h⟩
theorem tyOK_45:TyOK Tryz.prog 45 tyE45:=⟨underlying45,t45,type45,rfl,rfl,rfl,fun h=>by cases h⟩
theorem tyOK_46:TyOK Tryz.prog 46 tyE46:=⟨underlying46,t46,type46,rfl,rfl,rfl,fun h=>by cases h⟩
theorem tyOK_48:TyOK Tryz.prog 48 tyE48:=⟨underlying48,t48,type48,rfl,rfl,rfl,fun h=>by cases h⟩
theorem tyOK_49:TyOK Tryz.prog 49 tyE49:=⟨underlying49,t49,type49,rfl,rfl,rfl,fun h=>by cases h⟩
theorem tyOK_50:TyOK Tryz.prog 50 tyE50:=⟨underlying50,t50,type50,rfl,rfl,rfl,fun _=>⟨by kernel_rfl,by kernel_rfl,by rintro _ ⟨⟩;rfl⟩⟩
theorem tyOK_52:TyOK Tryz.prog 52 tyE52:=⟨underlying52,t52,type52,rfl,rfl,rfl,fun h=>by cases h⟩
theorem tyOK_53:TyOK Tryz.prog 53 tyE53:=⟨underlying53,t53,type53,rfl,rfl,rfl,fun h=>by cases h⟩
theorem tyOK_54:TyOK Tryz.prog 54 tyE54:=⟨underlying54,t54,type54,rfl,rfl,rfl,fun h=>by cases h⟩
theorem tyOK_55:TyOK Tryz.prog 55 tyE55:=⟨underlying55,t55,type55,rfl,rfl,rfl,fun h=>by cases h⟩
theorem tyOK_56:TyOK Tryz.prog 56 tyE56:=⟨underlying56,t56,type56,rfl,rfl,rfl,fun h=>by cases h⟩
theorem tyOK_57:TyOK Tryz.prog 57 tyE57:=⟨underlying57,t57,type57,rfl,rfl,rfl,fun _=>⟨by kernel_rfl,by kernel_rfl,by rintro _ ⟨⟩;rfl⟩⟩
theorem tyOK_58:TyOK Tryz.prog 58 tyE58:=⟨underlying58,t58,type58,rfl,rfl,rfl,fun _=>⟨by kernel_rfl,by kernel_rfl,by rintro _ ⟨⟩;rfl⟩⟩
theorem tyOK_59:TyOK Tryz.prog 59 tyE59:=⟨underlying59,t59,type59,rfl,rfl,rfl,fun h=>by cases h⟩
theorem tyOK_60:TyOK Tryz.prog 60 tyE60:=⟨underlying60,t60,type60,rfl,rfl,rfl,fun h=>by cases h⟩
theorem tyOK_61:TyOK Tryz.prog 61 tyE61:=⟨underlying61,t61,type61,rfl,rfl,rfl,fun h=>by cases h⟩
theorem tyOK_62:TyOK Tryz.prog 62 tyE62:=⟨underlying62,t62,type62,rfl,rfl,rfl,fun h=>by cases h⟩
theorem tyOK_65:TyOK Tryz.prog 65 tyE65:=⟨underlying65,t65,type65,rfl,rfl,rfl,fun h=>by cases h⟩
theorem tyOK_66:TyOK Tryz.prog 66 tyE66:=⟨underlying66,t66,type66,rfl,rfl,rfl,fun h=>by cases h⟩
theorem tyOK_68:TyOK Tryz.prog 68 tyE68:=⟨underlying68,t68,type68,rfl,rfl,rfl,fun h=>by cases h⟩
theorem tyOK_69:TyOK Tryz.prog 69 tyE69:=⟨underlying69,t69,type69,rfl,rfl,rfl,fun h=>by cases h⟩
theorem tyOK_70:TyOK Tryz.prog 70 tyE70:=⟨underlying70,t70,type70,rfl,rfl,rfl,fun h=>by cases h⟩
theorem tyOK_71:TyOK Tryz.prog 71 tyE71:=⟨underlying71,t71,type71,rfl,rfl,rfl,fun h=>by cases h⟩
theorem tyOK_72:TyOK Tryz.prog 72 tyE72:=⟨underlying72,t72,type72,rfl,rfl,rfl,fun h=>by cases h⟩
theorem tyOK_73:TyOK Tryz.prog 73 tyE73:=⟨underlying73,t73,type73,rfl,rfl,rfl,fun h=>by cases h⟩
theorem tyOK_74:TyOK Tryz.prog 74 tyE74:=⟨underlying74,t74,type74,rfl,rfl,rfl,fun h=>by cases h⟩
theorem tyOK_75:TyOK Tryz.prog 75 tyE75:=⟨underlying75,t75,type75,rfl,rfl,rfl,fun h=>by cases h⟩
theorem tyOK_76:TyOK Tryz.prog 76 tyE76:=⟨underlying76,t76,type76,rfl,rfl,rfl,fun h=>by cases h⟩
theorem tyOK_77:TyOK Tryz.prog 77 tyE77:=⟨underlying77,t77,type77,rfl,rfl,rfl,fun h=>by cases h⟩
theorem tyOK_78:TyOK Tryz.prog 78 tyE78:=⟨underlying78,t78,type78,rfl,rfl,rfl,fun h=>by cases h⟩
theorem tyOK_79:TyOK Tryz.prog 79 tyE79:=⟨underlying79,t79,type79,rfl,rfl,rfl,fun h=>by cases h⟩
theorem tyOK_80:TyOK Tryz.prog 80 tyE80:=⟨underlying80,t80,type80,rfl,rfl,rfl,fun h=>by cases h⟩
theorem tyOK_81:TyOK Tryz.prog 81 tyE81:=⟨underlying81,t81,type81,rfl,rfl,rfl,fun _=>⟨by kernel_rfl,by kernel_rfl,by rintro _ ⟨⟩;rfl⟩⟩
theorem tyOK_82:TyOK Tryz.prog 82 tyE82:=⟨underlying82,t82,type82,rfl,rfl,rfl,fun _=>⟨by kernel_rfl,by kernel_rfl,by rintro _ ⟨⟩;rfl⟩⟩
theorem tyOK_83:TyOK Tryz.prog 83 tyE83:=⟨underlying83,t83,type83,rfl,rfl,rfl,fun h=>by cases h⟩
theorem tyOK_84:TyOK Tryz.prog 84 tyE84:=⟨underlying84,t84,type84,rfl,rfl,rfl,fun h=>by cases h⟩
theorem tyOK_85:TyOK Tryz.prog 85 tyE85:=⟨underlying85,t85,type85,rfl,rfl,rfl,fun h=>by cases h⟩
theorem tyOK_86:TyOK Tryz.prog 86 tyE86:=⟨underlying86,t86,type86,rfl,rfl,rfl,fun h=>by cases h⟩
theorem tyOK_87:TyOK Tryz.prog 87 tyE87:=⟨underlying87,t87,type87,rfl,rfl,rfl,fun h=>by cases h⟩
theorem tyOK_88:TyOK Tryz.prog 88 tyE88:=⟨underlying88,t88,type88,rfl,rfl,rfl,fun h=>by cases h⟩
theorem tyOK_89:TyOK Tryz.prog 89 tyE89:=⟨underlying89,t89,type89,rfl,rfl,rfl,fun h=>by cases h⟩
theorem tyOK_90:TyOK Tryz.prog 90 tyE90:=⟨underlying90,t90,type90,rfl,rfl,rfl,fun h=>by cases h⟩
theorem tyOK_91:TyOK Tryz.prog 91 tyE91:=⟨underlying91,t91,type91,rfl,rfl,rfl,fun h=>by cases h⟩
theorem tyOK_92:TyOK Tryz.prog 92 tyE92:=⟨underlying92,t92,type92,rfl,rfl,rfl,fun h=>by cases h⟩
theorem tyOK_93:TyOK Tryz.prog 93 tyE93:=⟨underlying93,t93,type93,rfl,rfl,rfl,fun h=>by cases h⟩
theorem tyOK_94:TyOK Tryz.prog 94 tyE94:=⟨underlying94,t94,type94,rfl,rfl,rfl,fun _=>⟨by kernel_rfl,by kernel_rfl,by rintro _ ⟨⟩;rfl⟩⟩
theorem tyOK_95:TyOK Tryz.prog 95 tyE95:=⟨underlying95,t95,type95,rfl,rfl,rfl,fun _=>⟨by kernel_rfl,by kernel_rfl,by rintro _ ⟨⟩;rfl⟩⟩
theorem tyOK_96:TyOK Tryz.prog 96 tyE96:=⟨underlying96,t96,type96,rfl,rfl,rfl,fun h=>by cases h⟩
theorem tyOK_97:TyOK Tryz.prog 97 tyE97:=⟨underlying97,t97,type97,rfl,rfl,rfl,fun h=>by cases h⟩
theorem tyOK_98:TyOK Tryz.prog 98 tyE98:=⟨underlying98,t98,type98,rfl,rfl,rfl,fun h=>by cases h⟩
theorem tyOK_99:TyOK Tryz.prog 99 tyE99:=⟨underlying99,t99,type99,rfl,rfl,rfl,fun h=>by cases h⟩
theorem tyOK_100:TyOK Tryz.prog 100 tyE100:=⟨underlying100,t100,type100,rfl,rfl,rfl,fun h=>by cases h⟩
theorem tyOK_101:TyOK Tryz.prog 101 tyE101:=⟨underlying101,t101,type101,rfl,rfl,rfl,fun h=>by cases h⟩
theorem tyOK_102:TyOK Tryz.prog 102 tyE102:=⟨underlying102,t102,type102,rfl,rfl,rfl,fun _=>⟨by kernel_rfl,by kernel_rfl,by rintro _ ⟨⟩;rfl⟩⟩
theorem tyOK_103:TyOK Tryz.prog 103 tyE103:=⟨underlying103,t103,type103,rfl,rfl,rfl,fun h=>by cases h⟩
theorem tyOK_104:TyOK Tryz.prog 104 tyE104:=⟨underlying104,t104,type104,rfl,rfl,rfl,fun h=>by cases h⟩
theorem tyOK_105:TyOK Tryz.prog 105 tyE105:=⟨underlying105,t105,type105,rfl,rfl,rfl,fun h=>by cases h⟩
theorem tyOK_106:TyOK Tryz.prog 106 tyE106:=⟨underlying106,t106,type106,rfl,rfl,rfl,fun _=>⟨by kernel_rfl,by kernel_rfl,by rintro _ ⟨⟩;rfl⟩⟩
theorem tyOK_107:TyOK Tryz.prog 107 tyE107:=⟨underlying107,t107,type107,rfl,rfl,rfl,fun h=>by cases h⟩
theorem tyOK_108:TyOK Tryz.prog 108 tyE108:=⟨underlying108,t108,type108,rfl,rfl,rfl,fun h=>by cases h⟩
theorem tyOK_109:TyOK Tryz.prog 109 tyE109:=⟨underlying109,t109,type109,rfl,rfl,rfl,fun h=>by cases h⟩
theorem tyOK_110:TyOK Tryz.prog 110 tyE110:=⟨underlying110,t110,type110,rfl,rfl,rfl,fun h=>by cases h⟩
theorem tyOK_111:TyOK Tryz.prog 111 tyE111:=⟨underlying111,t111,type111,rfl,rfl,rfl,fun h=>by cases h⟩
theorem tyOK_112:TyOK Tryz.prog 112 tyE112:=⟨underlying112,t112,type112,rfl,rfl,rfl,fun h=>by cases h⟩
theorem tyOK_113:TyOK Tryz.prog 113 tyE113:=⟨underlying113,t113,type113,rfl,rfl,rfl,fun h=>by cases h⟩
theorem tyOK_114:TyOK Tryz.prog 114 tyE114:=⟨underlying114,t114,type114,rfl,rfl,rfl,fun h=>by cases h⟩
theorem tyOK_115:TyOK Tryz.prog 115 tyE115:=⟨underlying115,t115,type115,rfl,rfl,rfl,fun h=>by cases h⟩
theorem tyOK_116:TyOK Tryz.prog 116 tyE116:=⟨underlying116,t116,type116,rfl,rfl,rfl,fun h=>by cases h⟩
theorem tyOK_117:TyOK Tryz.prog 117 tyE117:=⟨underlying117,t117,type117,rfl,rfl,rfl,fun h=>by cases h⟩
theorem tyOK_118:TyOK Tryz.prog 118 tyE118:=⟨underlying118,t118,type118,rfl,rfl,rfl,fun _=>⟨by kernel_rfl,by kernel_rfl,by rintro _ ⟨⟩;rfl⟩⟩
theorem tyOK_119:TyOK Tryz.prog 119 tyE119:=⟨underlying119,t119,type119,rfl,rfl,rfl,fun _=>⟨by kernel_rfl,by kernel_rfl,by rintro _ ⟨⟩;rfl⟩⟩
theorem tyOK_120:TyOK Tryz.prog 120 tyE120:=⟨underlying120,t120,type120,rfl,rfl,rfl,fun h=>by cases h⟩
theorem tyOK_121:TyOK Tryz.prog 121 tyE121:=⟨underlying121,t121,type121,rfl,rfl,rfl,fun h=>by cases h⟩
theorem tyOK_122:TyOK Tryz.prog 122 tyE122:=⟨underlying122,t122,type122,rfl,rfl,rfl,fun _=>⟨by kernel_rfl,by kernel_rfl,by rintro _ ⟨⟩⟩⟩
theorem tyOK_123:TyOK Tryz.prog 123 tyE123:=⟨underlying123,t123,type123,rfl,rfl,rfl,fun h=>by cases h⟩
theorem tyOK_124:TyOK Tryz.prog 124 tyE124:=⟨underlying124,t124,type124,rfl,rfl,rfl,fun h=>by cases h⟩
theorem tyOK_125:TyOK Tryz.prog 125 tyE125:=⟨underlying125,t125,type125,rfl,rfl,rfl,fun h=>by cases h⟩
theorem tyOK_126:TyOK Tryz.prog 126 tyE126:=⟨underlying126,t126,type126,rfl,rfl,rfl,fun h=>by cases h⟩
theorem tyOK_127:TyOK Tryz.prog 127 tyE127:=⟨underlying127,t127,type127,rfl,rfl,rfl,fun _=>⟨by kernel_rfl,by kernel_rfl,by rintro _ ⟨⟩;rfl⟩⟩
theorem tyOK_128:TyOK Tryz.prog 128 tyE128:=⟨underlying128,t128,type128,rfl,rfl,rfl,fun _=>⟨by kernel_rfl,by kernel_rfl,by rintro _ ⟨⟩;rfl⟩⟩
theorem tyOK_129:TyOK Tryz.prog 129 tyE129:=⟨underlying129,t129,type129,rfl,rfl,rfl,fun h=>by cases h⟩
theorem tyOK_130:TyOK Tryz.prog 130 tyE130:=⟨underlying130,t130,type130,rfl,rfl,rfl,fun _=>⟨by kernel_rfl,by kernel_rfl,by rintro _ ⟨⟩⟩⟩
theorem tyOK_132:TyOK Tryz.prog 132 tyE132:=⟨underlying132,t132,type132,rfl,rfl,rfl,fun h=>by cases h⟩
theorem tyOK_133:TyOK Tryz.prog 133 tyE133:=⟨underlying133,t133,type133,rfl,rfl,rfl,fun h=>by cases h⟩
theorem tyOK_134:TyOK Tryz.prog 134 tyE134:=⟨underlying134,t134,type134,rfl,rfl,rfl,fun h=>by cases h⟩
theorem tyOK_135:TyOK Tryz.prog 135 tyE135:=⟨underlying135,t135,type135,rfl,rfl,rfl,fun h=>by cases h⟩
theorem tyOK_136:TyOK Tryz.prog 136 tyE136:=⟨underlying136,t136,type136,rfl,rfl,rfl,fun h=>by cases h⟩
theorem tyOK_137:TyOK Tryz.prog 137 tyE137:=⟨underlying137,t137,type137,rfl,rfl,rfl,fun h=>by cases h⟩
theorem tyOK_138:TyOK Tryz.prog 138 tyE138:=⟨underlying138,t138,type138,rfl,rfl,rfl,fun h=>by cases h⟩
theorem tyOK_139:TyOK Tryz.prog 139 tyE139:=⟨underlying139,t139,type139,rfl,rfl,rfl,fun h=>by cases h⟩
theorem tyOK_140:TyOK Tryz.prog 140 tyE140:=⟨underlying140,t140,type140,rfl,rfl,rfl,fun h=>by cases h⟩
theorem tyOK_141:TyOK Tryz.prog 141 tyE141:=⟨underlying141,t141,type141,rfl,rfl,rfl,fun h=>by cases h⟩
theorem tyOK_142:TyOK Tryz.prog 142 tyE142:=⟨underlying142,t142,type142,rfl,rfl,rfl,fun h=>by cases h⟩
theorem tyOK_143:TyOK Tryz.prog 143 tyE143:=⟨underlying143,t143,type143,rfl,rfl,rfl,fun h=>by cases h⟩
theorem tyOK_144:TyOK Tryz.prog 144 tyE144:=⟨underlying144,t144,type144,rfl,rfl,rfl,fun h=>by cases h⟩
theorem tyOK_145:TyOK Tryz.prog 145 tyE145:=⟨underlying145,t145,type145,rfl,rfl,rfl,fun h=>by cases h⟩
theorem tyOK_146:TyOK Tryz.prog 146 tyE146:=⟨underlying146,t146,type146,rfl,rfl,rfl,fun h=>by cases h⟩
theorem tyOK_147:TyOK Tryz.prog 147 tyE147:=⟨underlying147,t147,type147,rfl,rfl,rfl,fun _=>⟨by kernel_rfl,by kernel_rfl,by rintro _ ⟨⟩;rfl⟩⟩
theorem tyOK_155:TyOK Tryz.prog 155 tyE155:=⟨underlying155,t155,type155,rfl,rfl,rfl,fun h=>by cases h⟩
theorem tyOK_156:TyOK Tryz.prog 156 tyE156:=⟨underlying156,t156,type156,rfl,rfl,rfl,fun h=>by cases h⟩
theorem tyOK_160:TyOK Tryz.prog 160 tyE160:=⟨underlying160,t160,type160,rfl,rfl,rfl,fun h=>by cases h⟩
theorem tyOK_162:TyOK Tryz.prog 162 tyE162:=⟨underlying162,t162,type162,rfl,rfl,rfl,fun h=>by cases h⟩
theorem tyOK_165:TyOK Tryz.prog 165 tyE165:=⟨underlying165,t165,type165,rfl,rfl,rfl,fun h=>by cases h⟩
theorem tyOK_166:TyOK Tryz.prog 166 tyE166:=⟨underlying166,t166,type166,rfl,rfl,rfl,fun h=>by cases h⟩
theorem tyOK_167:TyOK Tryz.prog 167 tyE167:=⟨underlying167,t167,type167,rfl,rfl,rfl,fun h=>by cases h⟩
theorem tyOK_168:TyOK Tryz.prog 168 tyE168:=⟨underlying168,t168,type168,rfl,rfl,rfl,fun h=>by cases h⟩
theorem tyOK_169:TyOK Tryz.prog 169 tyE169:=⟨underlying169,t169,type169,rfl,rfl,rfl,fun h=>by cases h⟩
theorem tyOK_170:TyOK Tryz.prog 170 tyE170:=⟨underlying170,t170,type170,rfl,rfl,rfl,fun h=>by cases h⟩
theorem tyOK_171:TyOK Tryz.prog 171 tyE171:=⟨underlying171,t171,type171,rfl,rfl,rfl,fun h=>by cases h⟩
theorem tyOK_172:TyOK Tryz.prog 172 tyE172:=⟨underlying172,t172,type172,rfl,rfl,rfl,fun h=>by cases h⟩
theorem tyOK_176:TyOK Tryz.prog 176 tyE176:=⟨underlying176,t176,type176,rfl,rfl,rfl,fun h=>by cases h⟩
theorem tyOK_179:TyOK Tryz.prog 179 tyE179:=⟨underlying179,t179,type179,rfl,rfl,rfl,fun h=>by cases h⟩
theorem tyOK_180:TyOK Tryz.prog 180 tyE180:=⟨underlying180,t180,type180,rfl,rfl,rfl,fun h=>by cases h⟩
theorem tyOK_181:TyOK Tryz.prog 181 tyE181:=⟨underlying181,t181,type181,rfl,rfl,rfl,fun h=>by cases h⟩
theorem tyOK_182:TyOK Tryz.prog 182 tyE182:=⟨underlying182,t182,type182,rfl,rfl,rfl,fun h=>by cases h⟩
theorem tyOK_192:TyOK Tryz.prog 192 tyE192:=⟨underlying192,t192,type192,rfl,rfl,rfl,fun h=>by cases h⟩
theorem ty_ok:∀t x,ty t=some x->TyOK Tryz.prog t x:=jng (jac tyOK_1 (jac tyOK_2 (jac tyOK_3 (jac tyOK_4 (jac tyOK_5 (jac tyOK_7 (jac tyOK_9 (jac tyOK_12 (jac tyOK_13 (jac tyOK_15 (jac tyOK_16 (jac tyOK_17 (jac tyOK_18 (jac tyOK_21 (jac tyOK_22 (jac tyOK_23 (jac tyOK_24 (jac tyOK_25 (jac tyOK_26 (jac tyOK_27 (jac tyOK_28 (jac tyOK_29 (jac tyOK_30 (jac tyOK_31 (jac tyOK_32 (jac tyOK_33 (jac tyOK_34 (jac tyOK_35 (jac tyOK_37 (jac tyOK_38 (jac tyOK_40 (jac tyOK_41 (jac tyOK_43 (jac tyOK_45 (jac tyOK_46 (jac tyOK_48 (jac tyOK_49 (jac tyOK_50 (jac tyOK_52 (jac tyOK_53 (jac tyOK_54 (jac tyOK_55 (jac tyOK_56 (jac tyOK_57 (jac tyOK_58 (jac tyOK_59 (jac tyOK_60 (jac tyOK_61 (jac tyOK_62 (jac tyOK_65 (jac tyOK_66 (jac tyOK_68 (jac tyOK_69 (jac tyOK_70 (jac tyOK_71 (jac tyOK_72 (jac tyOK_73 (jac tyOK_74 (jac tyOK_75 (jac tyOK_76 (jac tyOK_77 (jac tyOK_78 (jac tyOK_79 (jac tyOK_80 (jac tyOK_81 (jac tyOK_82 (jac tyOK_83 (jac tyOK_84 (jac tyOK_85 (jac tyOK_86 (jac tyOK_87 (jac tyOK_88 (jac tyOK_89 (jac tyOK_90 (jac tyOK_91 (jac tyOK_92 (jac tyOK_93 (jac tyOK_94 (jac tyOK_95 (jac tyOK_96 (jac tyOK_97 (jac tyOK_98 (jac tyOK_99 (jac tyOK_100 (jac tyOK_101 (jac tyOK_102 (jac tyOK_103 (jac tyOK_104 (jac tyOK_105 (jac tyOK_106 (jac tyOK_107 (jac tyOK_108 (jac tyOK_109 (jac tyOK_110 (jac tyOK_111 (jac tyOK_112 (jac tyOK_113 (jac tyOK_114 (jac tyOK_115 (jac tyOK_116 (jac tyOK_117 (jac tyOK_118 (jac tyOK_119 (jac tyOK_120 (jac tyOK_121 (jac tyOK_122 (jac tyOK_123 (jac tyOK_124 (jac tyOK_125 (jac tyOK_126 (jac tyOK_127 (jac tyOK_128 (jac tyOK_129 (jac tyOK_130 (jac tyOK_132 (jac tyOK_133 (jac tyOK_134 (jac tyOK_135 (jac tyOK_136 (jac tyOK_137 (jac tyOK_138 (jac tyOK_139 (jac tyOK_140 (jac tyOK_141 (jac tyOK_142 (jac tyOK_143 (jac tyOK_144 (jac tyOK_145 (jac tyOK_146 (jac tyOK_147 (jac tyOK_155 (jac tyOK_156 (jac tyOK_160 (jac tyOK_162 (jac tyOK_165 (jac tyOK_166 (jac tyOK_167 (jac tyOK_168 (jac tyOK_169 (jac tyOK_170 (jac tyOK_171 (jac tyOK_172 (jac tyOK_176 (jac tyOK_179 (jac tyOK_180 (jac tyOK_181 (jac tyOK_182 (jac tyOK_192 jsm))))))))))))))))))))))))))))))))))))))))))))))))))))))))))))))))))))))))))))))))))))))))))))))))))))))))))))))))))))))))))))))))))))))))))))))))))))
end Go.Proofs.YtimecodbnhcnoaaGreat
