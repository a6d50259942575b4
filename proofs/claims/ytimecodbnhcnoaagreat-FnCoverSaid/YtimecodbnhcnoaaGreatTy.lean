/- The types of the seat as a table. Made by program (genty.py). -/
import Derived.Test.YtimecodbnhcnoaaGreatProg
import Derived.Test.YtimecodbnhcnoaaGreatAbTab6
import Derived.KernelRfl
namespace Go.Proofs.YtimecodbnhcnoaaGreat
open Go Go.Ab Tryz
set_option maxRecDepth 100000

abbrev FZ:bD:=⟨.func #[] #[] false,1,8,.nilFunc,false⟩
abbrev Fg:bD:=⟨.int .i64,1,8,.int .i64 0,false⟩
abbrev tyE3:bD:=⟨.int .i64,1,8,.int .i64 0,false⟩
abbrev EN:bD:=⟨.bool,1,1,.bool false,false⟩
abbrev EL:bD:=⟨.int .u8,1,1,.int .u8 0,false⟩
abbrev ED:bD:=⟨.struct #[⟨ "x",2,0,false, "", "runtime",0⟩,⟨ "y",3,1,false, "", "runtime",8⟩,⟨ "signed",4,2,false, "", "runtime",16⟩,⟨ "code",6,3,false, "", "runtime",17⟩],4,24,.agg #[.int .i64 0,.int .i64 0,.bool false,.int .u8 0],false⟩
abbrev Ew:bD:=⟨.string,1,16,.string ByteArray.empty,false⟩
abbrev FP:bD:=⟨.int .u64,1,8,.int .u64 0,false⟩
abbrev FH:bD:=⟨.struct #[⟨ "msg",9,0,false, "", "runtime",0⟩,⟨ "addr",12,1,false, "", "runtime",16⟩],2,24,.agg #[.string ByteArray.empty,.int .u64 0],false⟩
abbrev Fx:bD:=⟨.pointer 206,1,8,.pointer none,false⟩
abbrev Fw:bD:=⟨.pointer 209,1,8,.pointer none,false⟩
abbrev Fv:bD:=⟨.pointer 217,1,8,.pointer none,false⟩
abbrev Fp:bD:=⟨.struct #[⟨ "typ",17,0,false, "", "internal/runtime/maps",0⟩],1,8,.agg #[.pointer none],false⟩
abbrev Fb:bD:=⟨.int .i32,1,4,.int .i32 0,false⟩
abbrev Fa:bD:=⟨.slice 5,1,24,.slice none 0 0,false⟩
abbrev E9:bD:=⟨.slice 9,1,24,.slice none 0 0,false⟩
abbrev E8:bD:=⟨.slice 147,1,24,.slice none 0 0,false⟩
abbrev E5:bD:=⟨.struct #[⟨ "Stops",24,0,false, "", "",0⟩,⟨ "Lines",25,1,false, "", "",24⟩],2,48,.agg #[.slice none 0 0,.slice none 0 0],false⟩
abbrev EZ:bD:=⟨.struct #[⟨ "Stops",24,0,false, "", "",0⟩,⟨ "Lines",25,1,false, "", "",24⟩],2,48,.agg #[.slice none 0 0,.slice none 0 0],true⟩
abbrev EY:bD:=⟨.slice 106,1,24,.slice none 0 0,false⟩
abbrev EX:bD:=⟨.struct #[⟨ "Network",27,0,false, "", "",0⟩,⟨ "Trips",28,2,false, "", "",48⟩],3,72,.agg #[.slice none 0 0,.slice none 0 0,.slice none 0 0],false⟩
abbrev EW:bD:=⟨.struct #[⟨ "Network",27,0,false, "", "",0⟩,⟨ "Trips",28,2,false, "", "",48⟩],3,72,.agg #[.slice none 0 0,.slice none 0 0,.slice none 0 0],true⟩
abbrev EU:bD:=⟨.slice 53,1,24,.slice none 0 0,false⟩
abbrev ET:bD:=⟨.struct #[⟨ "Dead",31,0,false, "", "",0⟩,⟨ "Turn",3,1,false, "", "",24⟩],2,32,.agg #[.slice none 0 0,.int .i64 0],false⟩
abbrev ES:bD:=⟨.struct #[⟨ "Dead",31,0,false, "", "",0⟩,⟨ "Turn",3,1,false, "", "",24⟩],2,32,.agg #[.slice none 0 0,.int .i64 0],true⟩
abbrev ER:bD:=⟨.struct #[⟨ "SignOn",3,0,false, "", "",0⟩,⟨ "SignOff",3,1,false, "", "",8⟩,⟨ "MaxDrive",3,2,false, "", "",16⟩,⟨ "MinBreak",3,3,false, "", "",24⟩,⟨ "PaidBreak",3,4,false, "", "",32⟩,⟨ "MaxLength",3,5,false, "", "",40⟩],6,48,.agg #[.int .i64 0,.int .i64 0,.int .i64 0,.int .i64 0,.int .i64 0,.int .i64 0],false⟩
abbrev EP:bD:=⟨.struct #[⟨ "SignOn",3,0,false, "", "",0⟩,⟨ "SignOff",3,1,false, "", "",8⟩,⟨ "MaxDrive",3,2,false, "", "",16⟩,⟨ "MinBreak",3,3,false, "", "",24⟩,⟨ "PaidBreak",3,4,false, "", "",32⟩,⟨ "MaxLength",3,5,false, "", "",40⟩],6,48,.agg #[.int .i64 0,.int .i64 0,.int .i64 0,.int .i64 0,.int .i64 0,.int .i64 0],true⟩
abbrev EO:bD:=⟨.slice 50,1,24,.slice none 0 0,false⟩
abbrev EM:bD:=⟨.struct #[⟨ "Pieces",31,0,false, "", "",0⟩],1,24,.agg #[.slice none 0 0],false⟩
abbrev EK:bD:=⟨.struct #[⟨ "Pieces",31,0,false, "", "",0⟩],1,24,.agg #[.slice none 0 0],true⟩
abbrev EJ:bD:=⟨.slice 3,1,24,.slice none 0 0,false⟩
abbrev EI:bD:=⟨.pointer 58,1,8,.pointer none,false⟩
abbrev EH:bD:=⟨.int .u64,1,8,.int .u64 0,false⟩
abbrev EG:bD:=⟨.struct #[⟨ "code",22,0,false, "", "loop.example/g00900/spec",0⟩,⟨ "at",3,1,false, "", "loop.example/g00900/spec",24⟩,⟨ "seed",56,2,false, "", "loop.example/g00900/spec",32⟩],3,40,.agg #[.slice none 0 0,.int .i64 0,.int .u64 0],true⟩
abbrev EF:bD:=⟨.struct #[⟨ "code",22,0,false, "", "loop.example/g00900/spec",0⟩,⟨ "at",3,1,false, "", "loop.example/g00900/spec",24⟩,⟨ "seed",56,2,false, "", "loop.example/g00900/spec",32⟩],3,40,.agg #[.slice none 0 0,.int .i64 0,.int .u64 0],true⟩
abbrev EC:bD:=⟨.pointer 128,1,8,.pointer none,false⟩
abbrev EB:bD:=⟨.struct #[⟨ "duties",3,0,false, "", "loop.example/g00900/impl",0⟩,⟨ "paid",3,1,false, "", "loop.example/g00900/impl",8⟩],2,16,.agg #[.int .i64 0,.int .i64 0],true⟩
abbrev EA:bD:=⟨.struct #[⟨ "duties",3,0,false, "", "loop.example/g00900/impl",0⟩,⟨ "paid",3,1,false, "", "loop.example/g00900/impl",8⟩],2,16,.agg #[.int .i64 0,.int .i64 0],true⟩
abbrev Ez:bD:=⟨.int .u64,1,8,.int .u64 0,false⟩
abbrev Ey:bD:=⟨.pointer 95,1,8,.pointer none,false⟩
abbrev Ev:bD:=⟨.struct #[⟨ "pieces",31,0,false, "", "loop.example/g00900/spec",0⟩,⟨ "alone",53,1,false, "", "loop.example/g00900/spec",24⟩,⟨ "pair",31,2,false, "", "loop.example/g00900/spec",48⟩,⟨ "forbid",3,3,false, "", "loop.example/g00900/spec",72⟩,⟨ "known",53,4,false, "", "loop.example/g00900/spec",80⟩],5,104,.agg #[.slice none 0 0,.slice none 0 0,.slice none 0 0,.int .i64 0,.slice none 0 0],true⟩
abbrev Eu:bD:=⟨.struct #[⟨ "pieces",31,0,false, "", "loop.example/g00900/spec",0⟩,⟨ "alone",53,1,false, "", "loop.example/g00900/spec",24⟩,⟨ "pair",31,2,false, "", "loop.example/g00900/spec",48⟩,⟨ "forbid",3,3,false, "", "loop.example/g00900/spec",72⟩,⟨ "known",53,4,false, "", "loop.example/g00900/spec",80⟩],5,104,.agg #[.slice none 0 0,.slice none 0 0,.slice none 0 0,.int .i64 0,.slice none 0 0],true⟩
abbrev Et:bD:=⟨.array 12 4,12,12,.agg #[.bool false,.bool false,.bool false,.bool false,.bool false,.bool false,.bool false,.bool false,.bool false,.bool false,.bool false,.bool false],false⟩
abbrev FY:bD:=⟨.struct #[⟨ "From",3,0,false, "", "",0⟩,⟨ "To",3,1,false, "", "",8⟩],2,16,.agg #[.int .i64 0,.int .i64 0],false⟩
abbrev FX:bD:=⟨.struct #[⟨ "From",3,0,false, "", "",0⟩,⟨ "To",3,1,false, "", "",8⟩],2,16,.agg #[.int .i64 0,.int .i64 0],true⟩
abbrev FW:bD:=⟨.struct #[⟨ "Id",3,0,false, "", "",0⟩,⟨ "Line",3,1,false, "", "",8⟩,⟨ "Start",3,2,false, "", "",16⟩],3,24,.agg #[.int .i64 0,.int .i64 0,.int .i64 0],false⟩
abbrev FV:bD:=⟨.struct #[⟨ "Id",3,0,false, "", "",0⟩,⟨ "Line",3,1,false, "", "",8⟩,⟨ "Start",3,2,false, "", "",16⟩],3,24,.agg #[.int .i64 0,.int .i64 0,.int .i64 0],true⟩
abbrev FU:bD:=⟨.func #[50] #[4] false,1,8,.nilFunc,false⟩
abbrev FT:bD:=⟨.pointer 119,1,8,.pointer none,false⟩
abbrev FR:bD:=⟨.struct #[⟨ "t",30,0,false, "", "loop.example/g00900/spec",0⟩,⟨ "f",33,3,false, "", "loop.example/g00900/spec",72⟩,⟨ "known",31,5,false, "", "loop.example/g00900/spec",104⟩],6,128,.agg #[.slice none 0 0,.slice none 0 0,.slice none 0 0,.slice none 0 0,.int .i64 0,.slice none 0 0],true⟩
abbrev FQ:bD:=⟨.struct #[⟨ "t",30,0,false, "", "loop.example/g00900/spec",0⟩,⟨ "f",33,3,false, "", "loop.example/g00900/spec",72⟩,⟨ "known",31,5,false, "", "loop.example/g00900/spec",104⟩],6,128,.agg #[.slice none 0 0,.slice none 0 0,.slice none 0 0,.slice none 0 0,.int .i64 0,.slice none 0 0],true⟩
abbrev tyE122:bD:=⟨.array 6 3,6,48,.agg #[.int .i64 0,.int .i64 0,.int .i64 0,.int .i64 0,.int .i64 0,.int .i64 0],true⟩
abbrev FN:bD:=⟨.slice 82,1,24,.slice none 0 0,false⟩
abbrev FM:bD:=⟨.slice 124,1,24,.slice none 0 0,false⟩
abbrev FL:bD:=⟨.map 130 82,1,8,.map none,false⟩
abbrev FK:bD:=⟨.struct #[⟨ "pieces",31,0,false, "", "loop.example/g00900/impl",0⟩,⟨ "single",124,1,false, "", "loop.example/g00900/impl",24⟩,⟨ "pair",125,2,false, "", "loop.example/g00900/impl",48⟩,⟨ "memo",126,3,false, "", "loop.example/g00900/impl",72⟩],4,80,.agg #[.slice none 0 0,.slice none 0 0,.slice none 0 0,.map none],true⟩
abbrev FJ:bD:=⟨.struct #[⟨ "pieces",31,0,false, "", "loop.example/g00900/impl",0⟩,⟨ "single",124,1,false, "", "loop.example/g00900/impl",24⟩,⟨ "pair",125,2,false, "", "loop.example/g00900/impl",48⟩,⟨ "memo",126,3,false, "", "loop.example/g00900/impl",72⟩],4,80,.agg #[.slice none 0 0,.slice none 0 0,.slice none 0 0,.map none],true⟩
abbrev FI:bD:=⟨.func #[31] #[82] true,1,8,.nilFunc,false⟩
abbrev FE:bD:=⟨.array 2 3,2,16,.agg #[.int .i64 0,.int .i64 0],true⟩
abbrev FD:bD:=⟨.func #[50,50] #[3] false,1,8,.nilFunc,false⟩
abbrev FC:bD:=⟨.func #[106] #[4] false,1,8,.nilFunc,false⟩
abbrev Fz:bD:=⟨.struct #[⟨ "Name",9,0,false, "", "",0⟩,⟨ "Stops",53,1,false, "", "",16⟩,⟨ "Runs",53,2,false, "", "",40⟩],3,64,.agg #[.string ByteArray.empty,.slice none 0 0,.slice none 0 0],false⟩
abbrev Fy:bD:=⟨.struct #[⟨ "Name",9,0,false, "", "",0⟩,⟨ "Stops",53,1,false, "", "",16⟩,⟨ "Runs",53,2,false, "", "",40⟩],3,64,.agg #[.string ByteArray.empty,.slice none 0 0,.slice none 0 0],true⟩
abbrev Fu:bD:=⟨.int .i64,1,8,.int .i64 0,false⟩
abbrev Fq:bD:=⟨.int .u32,1,4,.int .u32 0,false⟩
abbrev Fj:bD:=⟨.int .u64,1,8,.int .u64 0,false⟩
abbrev Fh:bD:=⟨.pointer 3,1,8,.pointer none,false⟩
abbrev Fe:bD:=⟨.pointer 193,1,8,.pointer none,false⟩
def NC:List (Nat×bD):=[(1,FZ),(2,Fg),(3,tyE3),(4,EN),(5,EL),(7,ED),(9,Ew),(12,FP),(13,FH),(15,Fx),(16,Fw),(17,Fv),(18,Fp),(21,Fb),(22,Fa),(24,E9),(25,E8),(26,E5),(27,EZ),(28,EY),(29,EX),(30,EW),(31,EU),(32,ET),(33,ES),(34,ER),(35,EP),(38,EO),(49,EM),(50,EK),(53,EJ),(55,EI),(56,EH),(57,EG),(58,EF),(80,EC),(81,EB),(82,EA),(87,Ez),(88,Ey),(94,Ev),(95,Eu),(98,Et),(101,FY),(102,FX),(105,FW),(106,FV),(111,FU),(117,FT),(118,FR),(119,FQ),(122,tyE122),(124,FN),(125,FM),(126,FL),(127,FK),(128,FJ),(129,FI),(130,FE),(136,FD),(143,FC),(146,Fz),(147,Fy),(172,Fu),(179,Fq),(193,Fj),(197,Fh),(201,Fe)]
def ty(t:TypeId):Option bD:=wM t NC
theorem NA:bS Tryz.prog 1 FZ:=⟨underlying1,t1,type1,rfl,rfl,rfl,nofun⟩
theorem MW:bS Tryz.prog 2 Fg:=⟨underlying2,t2,type2,rfl,rfl,rfl,nofun⟩
theorem MI:bS Tryz.prog 3 tyE3:=⟨underlying3,t3,type3,rfl,rfl,rfl,nofun⟩
theorem Mw:bS Tryz.prog 4 EN:=⟨underlying4,t4,type4,rfl,rfl,rfl,nofun⟩
theorem Ms:bS Tryz.prog 5 EL:=⟨underlying5,t5,type5,rfl,rfl,rfl,nofun⟩
theorem Mh:bS Tryz.prog 7 ED:=⟨underlying7,t7,type7,rfl,rfl,rfl,nofun⟩
theorem L9:bS Tryz.prog 9 Ew:=⟨underlying9,t9,type9,rfl,rfl,rfl,nofun⟩
theorem Nq:bS Tryz.prog 12 FP:=⟨underlying12,t12,type12,rfl,rfl,rfl,nofun⟩
theorem Ng:bS Tryz.prog 13 FH:=⟨underlying13,t13,type13,rfl,rfl,rfl,nofun⟩
theorem M8:bS Tryz.prog 15 Fx:=⟨underlying15,t15,type15,rfl,rfl,rfl,nofun⟩
theorem M7:bS Tryz.prog 16 Fw:=⟨underlying16,t16,type16,rfl,rfl,rfl,nofun⟩
theorem M6:bS Tryz.prog 17 Fv:=⟨underlying17,t17,type17,rfl,rfl,rfl,nofun⟩
theorem M0:bS Tryz.prog 18 Fp:=⟨underlying18,t18,type18,rfl,rfl,rfl,nofun⟩
theorem MU:bS Tryz.prog 21 Fb:=⟨underlying21,t21,type21,rfl,rfl,rfl,nofun⟩
theorem MQ:bS Tryz.prog 22 Fa:=⟨underlying22,t22,type22,rfl,rfl,rfl,nofun⟩
theorem MP:bS Tryz.prog 24 E9:=⟨underlying24,t24,type24,rfl,rfl,rfl,nofun⟩
theorem MO:bS Tryz.prog 25 E8:=⟨underlying25,t25,type25,rfl,rfl,rfl,nofun⟩
theorem MN:bS Tryz.prog 26 E5:=⟨underlying26,t26,type26,rfl,rfl,rfl,nofun⟩
theorem ML:bS Tryz.prog 27 EZ:=⟨underlying27,t27,type27,rfl,rfl,rfl,fun _=>⟨by kernel_rfl,by kernel_rfl,by rintro _ ⟨⟩;rfl⟩⟩
theorem MK:bS Tryz.prog 28 EY:=⟨underlying28,t28,type28,rfl,rfl,rfl,nofun⟩
theorem MJ:bS Tryz.prog 29 EX:=⟨underlying29,t29,type29,rfl,rfl,rfl,nofun⟩
theorem MH:bS Tryz.prog 30 EW:=⟨underlying30,t30,type30,rfl,rfl,rfl,fun _=>⟨by kernel_rfl,by kernel_rfl,by rintro _ ⟨⟩;rfl⟩⟩
theorem MG:bS Tryz.prog 31 EU:=⟨underlying31,t31,type31,rfl,rfl,rfl,nofun⟩
theorem MF:bS Tryz.prog 32 ET:=⟨underlying32,t32,type32,rfl,rfl,rfl,nofun⟩
theorem ME:bS Tryz.prog 33 ES:=⟨underlying33,t33,type33,rfl,rfl,rfl,fun _=>⟨by kernel_rfl,by kernel_rfl,by rintro _ ⟨⟩;rfl⟩⟩
theorem MC:bS Tryz.prog 34 ER:=⟨underlying34,t34,type34,rfl,rfl,rfl,nofun⟩
theorem MB:bS Tryz.prog 35 EP:=⟨underlying35,t35,type35,rfl,rfl,rfl,fun _=>⟨by kernel_rfl,by kernel_rfl,by rintro _ ⟨⟩;rfl⟩⟩
theorem Mx:bS Tryz.prog 38 EO:=⟨underlying38,t38,type38,rfl,rfl,rfl,nofun⟩
theorem Mv:bS Tryz.prog 49 EM:=⟨underlying49,t49,type49,rfl,rfl,rfl,nofun⟩
theorem Mr:bS Tryz.prog 50 EK:=⟨underlying50,t50,type50,rfl,rfl,rfl,fun _=>⟨by kernel_rfl,by kernel_rfl,by rintro _ ⟨⟩;rfl⟩⟩
theorem Mq:bS Tryz.prog 53 EJ:=⟨underlying53,t53,type53,rfl,rfl,rfl,nofun⟩
theorem Ml:bS Tryz.prog 55 EI:=⟨underlying55,t55,type55,rfl,rfl,rfl,nofun⟩
theorem Mk:bS Tryz.prog 56 EH:=⟨underlying56,t56,type56,rfl,rfl,rfl,nofun⟩
theorem Mj:bS Tryz.prog 57 EG:=⟨underlying57,t57,type57,rfl,rfl,rfl,fun _=>⟨by kernel_rfl,by kernel_rfl,by rintro _ ⟨⟩;rfl⟩⟩
theorem Mi:bS Tryz.prog 58 EF:=⟨underlying58,t58,type58,rfl,rfl,rfl,fun _=>⟨by kernel_rfl,by kernel_rfl,by rintro _ ⟨⟩;rfl⟩⟩
theorem Mg:bS Tryz.prog 80 EC:=⟨underlying80,t80,type80,rfl,rfl,rfl,nofun⟩
theorem Mf:bS Tryz.prog 81 EB:=⟨underlying81,t81,type81,rfl,rfl,rfl,fun _=>⟨by kernel_rfl,by kernel_rfl,by rintro _ ⟨⟩;rfl⟩⟩
theorem Me:bS Tryz.prog 82 EA:=⟨underlying82,t82,type82,rfl,rfl,rfl,fun _=>⟨by kernel_rfl,by kernel_rfl,by rintro _ ⟨⟩;rfl⟩⟩
theorem Mc:bS Tryz.prog 87 Ez:=⟨underlying87,t87,type87,rfl,rfl,rfl,nofun⟩
theorem Ma:bS Tryz.prog 88 Ey:=⟨underlying88,t88,type88,rfl,rfl,rfl,nofun⟩
theorem L8:bS Tryz.prog 94 Ev:=⟨underlying94,t94,type94,rfl,rfl,rfl,fun _=>⟨by kernel_rfl,by kernel_rfl,by rintro _ ⟨⟩;rfl⟩⟩
theorem L6:bS Tryz.prog 95 Eu:=⟨underlying95,t95,type95,rfl,rfl,rfl,fun _=>⟨by kernel_rfl,by kernel_rfl,by rintro _ ⟨⟩;rfl⟩⟩
theorem LZ:bS Tryz.prog 98 Et:=⟨underlying98,t98,type98,rfl,rfl,rfl,nofun⟩
theorem Nz:bS Tryz.prog 101 FY:=⟨underlying101,t101,type101,rfl,rfl,rfl,nofun⟩
theorem Ny:bS Tryz.prog 102 FX:=⟨underlying102,t102,type102,rfl,rfl,rfl,fun _=>⟨by kernel_rfl,by kernel_rfl,by rintro _ ⟨⟩;rfl⟩⟩
theorem Nw:bS Tryz.prog 105 FW:=⟨underlying105,t105,type105,rfl,rfl,rfl,nofun⟩
theorem Nv:bS Tryz.prog 106 FV:=⟨underlying106,t106,type106,rfl,rfl,rfl,fun _=>⟨by kernel_rfl,by kernel_rfl,by rintro _ ⟨⟩;rfl⟩⟩
theorem Nu:bS Tryz.prog 111 FU:=⟨underlying111,t111,type111,rfl,rfl,rfl,nofun⟩
theorem Nt:bS Tryz.prog 117 FT:=⟨underlying117,t117,type117,rfl,rfl,rfl,nofun⟩
theorem Ns:bS Tryz.prog 118 FR:=⟨underlying118,t118,type118,rfl,rfl,rfl,fun _=>⟨by kernel_rfl,by kernel_rfl,by rintro _ ⟨⟩;rfl⟩⟩
theorem Nr:bS Tryz.prog 119 FQ:=⟨underlying119,t119,type119,rfl,rfl,rfl,fun _=>⟨by kernel_rfl,by kernel_rfl,by rintro _ ⟨⟩;rfl⟩⟩
theorem Np:bS Tryz.prog 122 tyE122:=⟨underlying122,t122,type122,rfl,rfl,rfl,fun _=>⟨by kernel_rfl,by kernel_rfl,by rintro _ ⟨⟩⟩⟩
theorem Nn:bS Tryz.prog 124 FN:=⟨underlying124,t124,type124,rfl,rfl,rfl,nofun⟩
theorem Nl:bS Tryz.prog 125 FM:=⟨underlying125,t125,type125,rfl,rfl,rfl,nofun⟩
theorem Nk:bS Tryz.prog 126 FL:=⟨underlying126,t126,type126,rfl,rfl,rfl,nofun⟩
theorem Nj:bS Tryz.prog 127 FK:=⟨underlying127,t127,type127,rfl,rfl,rfl,fun _=>⟨by kernel_rfl,by kernel_rfl,by rintro _ ⟨⟩;rfl⟩⟩
theorem Ni:bS Tryz.prog 128 FJ:=⟨underlying128,t128,type128,rfl,rfl,rfl,fun _=>⟨by kernel_rfl,by kernel_rfl,by rintro _ ⟨⟩;rfl⟩⟩
theorem Nh:bS Tryz.prog 129 FI:=⟨underlying129,t129,type129,rfl,rfl,rfl,nofun⟩
theorem Nf:bS Tryz.prog 130 FE:=⟨underlying130,t130,type130,rfl,rfl,rfl,fun _=>⟨by kernel_rfl,by kernel_rfl,by rintro _ ⟨⟩⟩⟩
theorem Nc:bS Tryz.prog 136 FD:=⟨underlying136,t136,type136,rfl,rfl,rfl,nofun⟩
theorem Nb:bS Tryz.prog 143 FC:=⟨underlying143,t143,type143,rfl,rfl,rfl,nofun⟩
theorem Na:bS Tryz.prog 146 Fz:=⟨underlying146,t146,type146,rfl,rfl,rfl,nofun⟩
theorem M9:bS Tryz.prog 147 Fy:=⟨underlying147,t147,type147,rfl,rfl,rfl,fun _=>⟨by kernel_rfl,by kernel_rfl,by rintro _ ⟨⟩;rfl⟩⟩
theorem M5:bS Tryz.prog 172 Fu:=⟨underlying172,t172,type172,rfl,rfl,rfl,nofun⟩
theorem M4:bS Tryz.prog 179 Fq:=⟨underlying179,t179,type179,rfl,rfl,rfl,nofun⟩
theorem MZ:bS Tryz.prog 193 Fj:=⟨underlying193,t193,type193,rfl,rfl,rfl,nofun⟩
theorem MX:bS Tryz.prog 197 Fh:=⟨underlying197,t197,type197,rfl,rfl,rfl,nofun⟩
theorem MV:bS Tryz.prog 201 Fe:=⟨underlying201,t201,type201,rfl,rfl,rfl,nofun⟩
theorem ty_ok:∀t x,ty t=some x->bS Tryz.prog t x:=H9 (dO NA (dO MW (dO MI (dO Mw (dO Ms (dO Mh (dO L9 (dO Nq (dO Ng (dO M8 (dO M7 (dO M6 (dO M0 (dO MU (dO MQ (dO MP (dO MO (dO MN (dO ML (dO MK (dO MJ (dO MH (dO MG (dO MF (dO ME (dO MC (dO MB (dO Mx (dO Mv (dO Mr (dO Mq (dO Ml (dO Mk (dO Mj (dO Mi (dO Mg (dO Mf (dO Me (dO Mc (dO Ma (dO L8 (dO L6 (dO LZ (dO Nz (dO Ny (dO Nw (dO Nv (dO Nu (dO Nt (dO Ns (dO Nr (dO Np (dO Nn (dO Nl (dO Nk (dO Nj (dO Ni (dO Nh (dO Nf (dO Nc (dO Nb (dO Na (dO M9 (dO M5 (dO M4 (dO MZ (dO MX (dO MV Ph))))))))))))))))))))))))))))))))))))))))))))))))))))))))))))))))))))
end Go.Proofs.YtimecodbnhcnoaaGreat
