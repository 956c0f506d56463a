/- A part of the proofs of this seat's laws: steps on the way, joined. It has no conditions of its own. -/
import Derived.Test.YtddmlennnmpnhaaGreatDoorQh
import Derived.Test.YtddmlennnmpnhaaGreatDoorChecked
import Derived.KernelRfl
import Derived.Test.YtddmlennnmpnhaaGreatDoorQi
import Derived.Shelf.Strings.SlTrimAscii
import Derived.Lib.AtoiErrMem
import Derived.Test.YtddmlennnmpnhaaGreatDoorQf
import Derived.LaidMore
import Derived.Lib.LaidTab
import Derived.Stop.Joined
import Derived.Stop.LaidErr
import Derived.SevenTiedAt
import Derived.Shelf.Vars
namespace Go.Proofs.YtddmlennnmpnhaaGreatDoor
open Vc
namespace Pb
abbrev r0:List In:=[i1 4 (.mv (kI 0)),i1 5 (.mv (kB false))]
abbrev r1:List In:=[mv 8 0,i1 9 (.bin .eql (.t 8) (.k (.a (.str [])))),mv 10 9,i2 10 false 11 (.mv (.t 0)),i2 10 false 12 (.slen (.t 11)),i2 10 false 13 (.bin .gtr (.t 12) (kI 5)),i1 14 (.pick (.t 10) (kB true) (.t 13)),mv 15 14,i2 15 false 16 (.mv (.t 0)),i2 15 false 17 (.call 108 [.t 16,(.k (.a (.str [48,49,50,51,52,53,54,55,56,57])))]),i2 15 false 18 (.bin .neq (.t 17) (.k (.a (.str [])))),i1 19 (.pick (.t 15) (kB true) (.t 18)),mv 20 19,i2 20 false 21 (.mv (.t 0)),i2 20 false 22 (.slen (.t 21)),i2 20 false 23 (.bin .gtr (.t 22) (kI 1)),i2 20 false 24 (.mv (.t 23)),i2 24 true 25 (.mv (.t 0)),i2 24 true 26 (.sidx (.t 25) (kI 0)),i2 24 true 27 (.bin .eql (.t 26) (.k (.a (.int .u8 48)))),i2 20 false 28 (.pick (.t 24) (.t 27) (kB false)),i1 29 (.pick (.t 20) (kB true) (.t 28))]
abbrev r2:List In:=[i1 4 (.mv (kI 0)),i1 5 (.mv (kB false))]
abbrev r3:List In:=[mv 31 0,i1 32 (.call 163 [.t 31]),mv 30 32,i1 33 (.ext 0 (.t 30)),i1 34 (.ext 1 (.t 30)),mv 6 33,mv 7 34]
abbrev r4:List In:=[mv 35 6,mv 36 6,mv 37 1,i1 38 (.bin .leq (.t 36) (.t 37)),mv 4 35,mv 5 38]
abbrev code:IC:=.seq (.reg r0) (.seq (.seq (.reg r1) (.cond (.t 29) (.seq (.reg r2) .ret) .skip)) (.seq (.reg r3) (.seq (.reg r4) .ret)))
abbrev res:List RV:=[.tmp 4,.tmp 5]
theorem fn:Body Tryz.prog 114 39 code res:=⟨by decide,Tryz.f114,_,Tryz.func114,rfl,rfl,by kernel_rfl,by kernel_rfl⟩
end Pb
namespace W5
abbrev r0:List In:=[i1 2 (.mv (kI 0)),i1 3 (.mv (kB false))]
abbrev r1:List In:=[mv 7 0,i1 8 (.call 162 [.t 7,(.k (.a (.str [114])))]),mv 6 8,i1 9 (.ext 0 (.t 6)),i1 10 (.ext 1 (.t 6)),mv 4 9,mv 5 10]
abbrev r2:List In:=[mv 11 5,i1 12 (.un .not (.t 11))]
abbrev r3:List In:=[i1 2 (.mv (kI 0)),i1 3 (.mv (kB false))]
abbrev r4:List In:=[mv 13 4,i1 14 (.call 114 [.t 13,kI 7]),i1 15 (.ext 0 (.t 14)),i1 16 (.ext 1 (.t 14)),mv 2 15,mv 3 16]
abbrev code:IC:=.seq (.reg r0) (.seq (.reg r1) (.seq (.seq (.reg r2) (.cond (.t 12) (.seq (.reg r3) .ret) .skip)) (.seq (.reg r4) .ret)))
abbrev res:List RV:=[.tmp 2,.tmp 3]
theorem fn:Body Tryz.prog 113 17 code res:=⟨by decide,Tryz.f113,_,Tryz.func113,rfl,rfl,by kernel_rfl,by kernel_rfl⟩
end W5
namespace W4
abbrev r0:List In:=[i1 2 (.alloc 75 [.str [],.int .i64 0,.int .i64 0,.int .i64 0,.int .i64 0,.str []]),i1 3 (.mv (kB false)),i1 4 (.mv (kI 0))]
abbrev r1:List In:=[mv 24 0,i1 25 (.call 107 [.t 24,(.k (.a (.str [59])))]),mv 23 25,i1 26 (.ext 0 (.t 23)),i1 27 (.ext 1 (.t 23)),i1 28 (.ext 2 (.t 23)),mv 0 26]
abbrev r2:List In:=[mv 29 0,i1 30 (.call 108 [.t 29,(.k (.a (.str [32,9])))]),mv 0 30]
abbrev r3:List In:=[mv 31 0,i1 32 (.bin .eql (.t 31) (.k (.a (.str []))))]
abbrev r4:List In:=[i1 33 (.load 6 true (.t 2)),i0 (.store 6 (.t 2) (.t 33)),i1 3 (.mv (kB false)),i1 4 (.mv (kI 0))]
abbrev r5:List In:=[mv 35 0,i1 36 (.call 109 [.t 35,(.k (.a (.str [58])))]),mv 34 36,i1 37 (.ext 0 (.t 34)),i1 38 (.ext 1 (.t 34)),mv 5 37,mv 6 38]
abbrev r6:List In:=[mv 39 6]
abbrev r7:List In:=[mv 40 5,i1 41 (.call 110 [.t 40]),i1 42 (.un .not (.t 41))]
abbrev r8:List In:=[i1 43 (.load 6 true (.t 2)),i0 (.store 6 (.t 2) (.t 43)),i1 3 (.mv (kB false)),i1 4 (.mv (kI 7))]
abbrev r9:List In:=[mv 44 5,i1 45 (.build [.str [],.int .i64 0,.int .i64 0,.int .i64 0,.int .i64 0,.str []] [(0,1,(.t 44))]),i0 (.store 6 (.t 2) (.t 45)),i1 3 (.mv (kB true)),i1 4 (.mv (kI 0))]
abbrev r10:List In:=[mv 47 0,i1 48 (.call 107 [.t 47,(.k (.a (.str [32])))]),mv 46 48,i1 49 (.ext 0 (.t 46)),i1 50 (.ext 1 (.t 46)),i1 51 (.ext 2 (.t 46)),mv 7 49,mv 8 50,mv 9 51]
abbrev r11:List In:=[i1 52 (.call 111 []),mv 53 7,i1 54 (.call 102 [.t 52,.t 53]),mv 10 54]
abbrev r12:List In:=[mv 55 10,i1 56 (.bin .lss (.t 55) (kI 0))]
abbrev r13:List In:=[i1 57 (.load 6 true (.t 2)),i0 (.store 6 (.t 2) (.t 57)),i1 3 (.mv (kB false)),i1 4 (.mv (kI 1))]
abbrev r14:List In:=[i1 11 (.mv (.k (.a (.raw (.slice none 0 0)))))]
abbrev r15:List In:=[mv 58 8,i1 59 (.call 108 [.t 58,(.k (.a (.str [32,9])))]),mv 8 59]
abbrev r16:List In:=[mv 60 8,i1 61 (.bin .neq (.t 60) (.k (.a (.str []))))]
abbrev r17:List In:=[mv 62 8,i1 63 (.call 79 [.t 62,(.k (.a (.str [44])))]),mv 11 63]
abbrev r18:List In:=[mv 64 10,i1 65 (.faddr 1 (.t 2)),i1 66 (.faddr 0 (.t 65)),i0 (.store 1 (.t 66) (.t 64))]
abbrev r19:List In:=[mv 68 10,i1 69 (.call 112 [.t 68]),mv 67 69,i1 70 (.ext 0 (.t 67)),i1 71 (.ext 1 (.t 67)),i1 72 (.ext 2 (.t 67)),i1 73 (.ext 3 (.t 67)),mv 12 70,mv 13 71,mv 14 72,mv 15 73]
abbrev r20:List In:=[mv 74 12,i1 75 (.faddr 1 (.t 2)),i1 76 (.faddr 1 (.t 75)),i1 77 (.build [.bool false,.raw (.pointer none)] [(0,1,(.t 74)),(1,1,(.t 76))]),mv 78 13,i1 79 (.faddr 1 (.t 2)),i1 80 (.faddr 2 (.t 79)),i1 81 (.build [.bool false,.raw (.pointer none)] [(0,1,(.t 78)),(1,1,(.t 80))]),i1 82 (.bsl 176 2 2 [.bool false,.raw (.pointer none),.bool false,.raw (.pointer none)] [(0,2,(.t 77)),(2,2,(.t 81))]),i1 83 (.len (.t 82)),i1 84 (.mv (kI 0))]
abbrev r21:List In:=[i1 85 (.bin .lss (.t 84) (.t 83))]
abbrev r22:List In:=[i1 86 (.iaddr 2 (.t 82) (.t 84)),i1 87 (.load 2 true (.t 86)),i1 17 (.alloc 176 [.bool false,.raw (.pointer none)]),i0 (.store 2 (.t 17) (.t 87))]
abbrev r23:List In:=[i1 88 (.faddr 0 (.t 17)),i1 89 (.load 1 false (.t 88)),i1 90 (.un .not (.t 89))]
abbrev r24:List In:=[mv 91 11,i1 92 (.len (.t 91)),i1 93 (.bin .eql (.t 92) (kI 0))]
abbrev r25:List In:=[i1 94 (.build [.str [],.int .i64 0,.int .i64 0,.int .i64 0,.int .i64 0,.str []] []),i0 (.store 6 (.t 2) (.t 94)),i1 3 (.mv (kB false)),i1 4 (.mv (kI 5))]
abbrev r26:List In:=[mv 96 11,i1 97 (.iaddr 1 (.t 96) (kI 0)),i1 98 (.load 1 false (.t 97)),i1 99 (.call 108 [.t 98,(.k (.a (.str [32,9])))]),i1 100 (.call 113 [.t 99]),mv 95 100,i1 101 (.ext 0 (.t 95)),i1 102 (.ext 1 (.t 95)),mv 18 101,mv 19 102]
abbrev r27:List In:=[mv 103 19,i1 104 (.un .not (.t 103))]
abbrev r28:List In:=[i1 105 (.build [.str [],.int .i64 0,.int .i64 0,.int .i64 0,.int .i64 0,.str []] []),i0 (.store 6 (.t 2) (.t 105)),i1 3 (.mv (kB false)),i1 4 (.mv (kI 2))]
abbrev r29:DT:=(tm 108 18 false (tm 109 11 false (al 106 (.faddr 1 (.t 17)) false (al 107 (.load 1 false (.t 106)) false (al 110 (.sl 1 (.t 109) (some (kI 1)) none) false (al 111 (.nchk (.t 107)) false (.alt (i0 (.store 1 (.t 111) (.t 108))) false (tm 11 110 false .done) .stop) .stop) (al 111 (.nchk (.t 107)) false (al 110 (.sl 1 (.t 109) (some (kI 1)) none) false (.alt (i0 (.store 1 (.t 111) (.t 108))) false (tm 11 110 false .done) .stop) (.alt (i0 (.store 1 (.t 111) (.t 108))) false (al 110 (.sl 1 (.t 109) (some (kI 1)) none) false (tm 11 110 false .done) .stop) .stop)) .stop)) (al 110 (.sl 1 (.t 109) (some (kI 1)) none) false (al 107 (.load 1 false (.t 106)) false (al 111 (.nchk (.t 107)) false (.alt (i0 (.store 1 (.t 111) (.t 108))) false (tm 11 110 false .done) .stop) .stop) .stop) .stop)) (al 110 (.sl 1 (.t 109) (some (kI 1)) none) false (al 106 (.faddr 1 (.t 17)) false (al 107 (.load 1 false (.t 106)) false (al 111 (.nchk (.t 107)) false (.alt (i0 (.store 1 (.t 111) (.t 108))) false (tm 11 110 false .done) .stop) .stop) .stop) .stop) .stop))))
abbrev r30:List In:=[i1 112 (.bin .add (.t 84) (kI 1)),mv 84 112]
abbrev c34:IC:=.seq (.reg r21) (.seq (.cond (.t 85) .skip (.exit 0)) (.seq (.block 1 (.seq (.reg r22) (.seq (.seq (.reg r23) (.cond (.t 90) (.exit 1) .skip)) (.seq (.seq (.reg r24) (.cond (.t 93) (.seq (.reg r25) .ret) .skip)) (.seq (.reg r26) (.seq (.seq (.reg r27) (.cond (.t 104) (.seq (.reg r28) .ret) .skip)) (.dany r29))))))) (.reg r30)))
abbrev r31:List In:=[mv 113 14]
abbrev r32:List In:=[mv 114 11,i1 115 (.len (.t 114)),i1 116 (.bin .eql (.t 115) (kI 0))]
abbrev r33:List In:=[i1 117 (.build [.str [],.int .i64 0,.int .i64 0,.int .i64 0,.int .i64 0,.str []] []),i0 (.store 6 (.t 2) (.t 117)),i1 3 (.mv (kB false)),i1 4 (.mv (kI 5))]
abbrev r34:List In:=[mv 118 11,i1 119 (.iaddr 1 (.t 118) (kI 0)),i1 120 (.load 1 false (.t 119)),i1 121 (.call 108 [.t 120,(.k (.a (.str [32,9])))]),mv 20 121]
abbrev r35:List In:=[mv 123 20,i1 124 (.call 114 [.t 123,kI 65535]),mv 122 124,i1 125 (.ext 0 (.t 122)),i1 126 (.ext 1 (.t 122)),mv 21 125,mv 22 126]
abbrev r36:List In:=[mv 129 22,mv 128 129]
abbrev r37:List In:=[mv 130 21,i1 131 (.faddr 1 (.t 2)),i1 132 (.faddr 3 (.t 131)),i0 (.store 1 (.t 132) (.t 130))]
abbrev r38:List In:=[mv 134 20,i1 135 (.call 110 [.t 134]),mv 136 135,i2 136 true 137 (.mv (.t 10)),i2 136 true 138 (.call 115 [.t 137]),i1 139 (.pick (.t 136) (.t 138) (kB false)),mv 133 139]
abbrev r39:List In:=[mv 140 20,i1 141 (.faddr 5 (.t 2)),i0 (.store 1 (.t 141) (.t 140))]
abbrev r40:List In:=[i1 127 (.build [.str [],.int .i64 0,.int .i64 0,.int .i64 0,.int .i64 0,.str []] []),i0 (.store 6 (.t 2) (.t 127)),i1 3 (.mv (kB false)),i1 4 (.mv (kI 2))]
abbrev r41:List In:=[mv 142 11,i1 143 (.sl 1 (.t 142) (some (kI 1)) none),mv 11 143]
abbrev r42:List In:=[mv 144 11,i1 145 (.len (.t 144)),i1 146 (.bin .gtr (.t 145) (kI 0))]
abbrev r43:List In:=[i1 147 (.build [.str [],.int .i64 0,.int .i64 0,.int .i64 0,.int .i64 0,.str []] []),i0 (.store 6 (.t 2) (.t 147)),i1 3 (.mv (kB false)),i1 4 (.mv (kI 5))]
abbrev r44:List In:=[i1 148 (.load 6 true (.t 2)),i0 (.store 6 (.t 2) (.t 148)),i1 3 (.mv (kB true)),i1 4 (.mv (kI 0))]
abbrev c58:IC:=.seq (.seq (.reg r31) (.cond (.t 113) (.seq (.seq (.reg r32) (.cond (.t 116) (.seq (.reg r33) .ret) .skip)) (.seq (.reg r34) (.seq (.reg r35) (.seq (.block 2 (.seq (.reg r36) (.cond (.t 128) (.reg r37) (.seq (.reg r38) (.cond (.t 133) (.reg r39) (.seq (.reg r40) .ret)))))) (.reg r41))))) .skip)) (.seq (.seq (.reg r42) (.cond (.t 146) (.seq (.reg r43) .ret) .skip)) (.seq (.reg r44) .ret))
abbrev code:IC:=.seq (.reg r0) (.seq (.reg r1) (.seq (.reg r2) (.seq (.seq (.reg r3) (.cond (.t 32) (.seq (.reg r4) .ret) .skip)) (.seq (.seq (.reg r5) (.seq (.reg r6) (.cond (.t 39) (.seq (.seq (.reg r7) (.cond (.t 42) (.seq (.reg r8) .ret) .skip)) (.seq (.reg r9) .ret)) .skip))) (.seq (.reg r10) (.seq (.reg r11) (.seq (.seq (.reg r12) (.cond (.t 56) (.seq (.reg r13) .ret) .skip)) (.seq (.reg r14) (.seq (.seq (.reg r15) (.seq (.reg r16) (.cond (.t 61) (.reg r17) .skip))) (.seq (.reg r18) (.seq (.reg r19) (.seq (.seq (.reg r20) (.block 0 (.loop c34))) c58))))))))))))
abbrev res:List RV:=[.cell 2 6 true,.tmp 3,.tmp 4]
theorem fn:Body Tryz.prog 80 149 code res:=⟨by decide,Tryz.f80,_,Tryz.func80,rfl,rfl,by kernel_rfl,by kernel_rfl⟩
end W4
namespace Sz
abbrev r0:List In:=[i1 2 (.mv (.k (.a (.raw (.slice none 0 0))))),i1 3 (.alloc 83 [.int .i64 0,.int .i64 0])]
abbrev r1:List In:=[mv 11 0,i1 12 (.slen (.t 11)),i1 13 (.bin .gtr (.t 12) (kI 1048576))]
abbrev r2:List In:=[i1 14 (.build [.int .i64 0,.int .i64 0] [(0,1,(kI 4))]),i1 2 (.mv (.k (.a (.raw (.slice none 0 0))))),i0 (.store 2 (.t 3) (.t 14))]
abbrev r3:List In:=[mv 15 0,i1 16 (.call 79 [.t 15,(.k (.a (.str [10])))]),mv 4 16]
abbrev r4:List In:=[mv 17 4,mv 18 4,i1 19 (.len (.t 18)),i1 20 (.bin .sub (.t 19) (kI 1)),i1 21 (.iaddr 1 (.t 17) (.t 20)),i1 22 (.load 1 false (.t 21)),i1 23 (.bin .eql (.t 22) (.k (.a (.str []))))]
abbrev r5:List In:=[mv 24 4,mv 25 4,i1 26 (.len (.t 25)),i1 27 (.bin .sub (.t 26) (kI 1)),i1 28 (.sl 1 (.t 24) none (some (.t 27))),mv 4 28]
abbrev r6:List In:=[mv 29 4,i1 30 (.len (.t 29)),i1 31 (.bin .gtr (.t 30) (kI 40000))]
abbrev r7:List In:=[i1 32 (.build [.int .i64 0,.int .i64 0] [(0,1,(kI 5))]),i1 2 (.mv (.k (.a (.raw (.slice none 0 0))))),i0 (.store 2 (.t 3) (.t 32))]
abbrev r8:List In:=[i1 5 (.mv (.k (.a (.raw (.slice none 0 0)))))]
abbrev r9:List In:=[mv 33 4,i1 34 (.len (.t 33)),i1 35 (.mv (kI 0))]
abbrev r10:List In:=[i1 36 (.bin .lss (.t 35) (.t 34))]
abbrev r11:List In:=[mv 37 35,i1 38 (.iaddr 1 (.t 33) (.t 35)),i1 39 (.load 1 false (.t 38)),mv 6 37,mv 7 39]
abbrev r12:List In:=[mv 41 7,i1 42 (.call 80 [.t 41]),mv 40 42,i1 43 (.ext 0 (.t 40)),i1 44 (.ext 1 (.t 40)),i1 45 (.ext 2 (.t 40)),i1 8 (.alloc 75 [.str [],.int .i64 0,.int .i64 0,.int .i64 0,.int .i64 0,.str []]),i0 (.store 6 (.t 8) (.t 43)),mv 9 44,mv 10 45]
abbrev r13:List In:=[mv 46 10,i1 47 (.bin .neq (.t 46) (kI 0))]
abbrev r14:List In:=[mv 48 10,mv 49 6,i1 50 (.build [.int .i64 0,.int .i64 0] [(0,1,(.t 48)),(1,1,(.t 49))]),i1 2 (.mv (.k (.a (.raw (.slice none 0 0))))),i0 (.store 2 (.t 3) (.t 50))]
abbrev r15:List In:=[mv 51 9]
abbrev r16:List In:=[mv 52 5,i1 53 (.load 6 true (.t 8)),i1 54 (.bsl 75 6 1 [.str [],.int .i64 0,.int .i64 0,.int .i64 0,.int .i64 0,.str []] [(0,6,(.t 53))]),i1 55 (.app 76 75 6 64 (.t 52) (.t 54)),mv 5 55]
abbrev r17:List In:=[i1 56 (.bin .add (.t 35) (kI 1)),mv 35 56]
abbrev c20:IC:=.seq (.reg r10) (.seq (.cond (.t 36) .skip (.exit 0)) (.seq (.block 1 (.seq (.reg r11) (.seq (.reg r12) (.seq (.seq (.reg r13) (.cond (.t 47) (.seq (.reg r14) .ret) .skip)) (.seq (.reg r15) (.cond (.t 51) (.reg r16) .skip)))))) (.reg r17)))
abbrev r18:List In:=[mv 57 5,i1 58 (.build [.int .i64 0,.int .i64 0] []),mv 2 57,i0 (.store 2 (.t 3) (.t 58))]
abbrev code:IC:=.seq (.reg r0) (.seq (.seq (.reg r1) (.cond (.t 13) (.seq (.reg r2) .ret) .skip)) (.seq (.reg r3) (.seq (.seq (.reg r4) (.cond (.t 23) (.reg r5) .skip)) (.seq (.seq (.reg r6) (.cond (.t 31) (.seq (.reg r7) .ret) .skip)) (.seq (.reg r8) (.seq (.seq (.reg r9) (.block 0 (.loop c20))) (.seq (.reg r18) .ret)))))))
abbrev res:List RV:=[.tmp 2,.cell 3 2 true]
theorem fn:Body Tryz.prog 61 59 code res:=⟨by decide,Tryz.f61,_,Tryz.func61,rfl,rfl,by kernel_rfl,by kernel_rfl⟩
end Sz
namespace Wn
abbrev r0:List In:=[i1 4 (.mv (kI 0))]
abbrev r1:List In:=[mv 6 0,i1 7 (.len (.t 6)),i1 8 (.mv (kI 0))]
abbrev r2:List In:=[i1 9 (.bin .lss (.t 8) (.t 7))]
abbrev r3:List In:=[mv 10 8,mv 5 10]
abbrev r4:List In:=[mv 11 1,mv 12 0,mv 13 5,i1 14 (.iaddr 1 (.t 12) (.t 13)),i1 15 (.load 1 false (.t 14)),i1 16 (.bin .eql (.t 11) (.t 15))]
abbrev r5:List In:=[mv 17 5,mv 4 17]
abbrev r6:List In:=[i1 18 (.bin .add (.t 8) (kI 1)),mv 8 18]
abbrev r7:List In:=[i1 4 (.mv (kI (-1)))]
abbrev code:IC:=.seq (.reg r0) (.seq (.seq (.reg r1) (.block 0 (.loop (.seq (.reg r2) (.seq (.cond (.t 9) .skip (.exit 0)) (.seq (.block 1 (.seq (.reg r3) (.seq (.reg r4) (.cond (.t 16) (.seq (.reg r5) .ret) .skip)))) (.reg r6))))))) (.seq (.reg r7) .ret))
abbrev res:List RV:=[.tmp 4]
theorem fn:Body Tryz.prog 102 19 code res:=⟨by decide,Tryz.f102,_,Tryz.func102,rfl,rfl,by kernel_rfl,by kernel_rfl⟩
end Wn
end Go.Proofs.YtddmlennnmpnhaaGreatDoor
namespace Go.Proofs.YtddmlennnmpnhaaGreatDoor
open Go Go.RowKit Vc
set_option linter.unusedVariables false
set_option linter.unusedSimpArgs false
attribute [local irreducible] T Za Zn Ent RdC RwC Yd Ze Zh
@[reducible] def Yn(G:Nat)(H:Nat→Option Obj):Prop:=∀w X,Wb G H w X→∃m,w.cell? ⟨0,0,none⟩=some (.int .i64 m)
theorem Ia(G:Nat)(H:Nat→Option Obj)(s cs:List UInt8)(hs:s.length≤9223372036854775807)(hcl:cs.length≤100)(hc:cs.all (fun b=>decide (b.toNat<128))=true):
 GCp G H Tryz.prog 108 [.a (.str s),.a (.str cs)] [] 0 [] (.one (.a (.str (Lib.trimS s cs)))) [] 0:=
 GCp.plain (by simp[S1.bd,At.bd]) (by simp[SV.bd,S1.bd,At.bd]) (by simp[Zu,Zw,Zv,Zj,Zf,Vc.S1.okN,At.okN,SV.okN,Res.okN,Res.outOk,Zo,Res.own,Value.oneCell']) fun w hg=>
  Any.strings_Trim_laid Tryz.lays160 (by kernel_rfl) ⟨s.toArray⟩ ⟨cs.toArray⟩ w (by simpa[ByteArray.size]using hs) (by simp[ByteArray.size];omega) (ascii_of_all (by simpa using hc))
theorem Qb(G:Nat)(H:Nat→Option Obj)(s p:List UInt8):
 GCp G H Tryz.prog 162 [.a (.str s),.a (.str p)] [] 0 [] (.tup [.a (.str (Lib.trimPrefix s p)),.a (.bool (Lib.hasPrefix s p))]) [] 0:=
 GCp.plain (by simp[S1.bd,At.bd]) (by simp[SV.bd,S1.bd,At.bd]) (by simp[Zu,Zw,Zv,Zj,Zf,Vc.S1.okN,At.okN,SV.okN,Res.okN,Res.outOk,Zo,Res.own,Value.oneCell']) fun w hg=>
  (Tryz.strings_CutPrefix ⟨s.toArray⟩ ⟨p.toArray⟩ w).mono fun e w' ⟨he,hw⟩=>⟨he,hw▸Below.refl _ _⟩
theorem Gf(G:Nat)(H:Nat→Option Obj)(s p:List UInt8)(hs:s.length≤9223372036854775807):
 GCp G H Tryz.prog 109 [.a (.str s),.a (.str p)] [] 0 [] (.tup [.a (.str (Lib.trimSuffix s p)),.a (.bool (Lib.hasSuffix s p))]) [] 0:=
 GCp.plain (by simp[S1.bd,At.bd]) (by simp[SV.bd,S1.bd,At.bd]) (by simp[Zu,Zw,Zv,Zj,Zf,Vc.S1.okN,At.okN,SV.okN,Res.okN,Res.outOk,Zo,Res.own,Value.oneCell']) fun w hg=>
  (Tryz.strings_CutSuffix ⟨s.toArray⟩ ⟨p.toArray⟩ w (by simpa[ByteArray.size]using hs)).mono fun e w' ⟨he,hw⟩=>⟨he,hw▸Below.refl _ _⟩
theorem Zdp{G:Nat}{H:Nat→Option Obj}(hM:Yn G H)(s:List UInt8)(c:UInt8)(hs:s.length<4294967281):
 GCp G H Tryz.prog 107 [.a (.str s),.a (.str [c])] [] 0 [] (.tup [.a (.str (upToS c s).1),.a (.str (upToS c s).2.1),.a (.bool (upToS c s).2.2)]) [] 0:=
 GCp.plain (by simp[S1.bd,At.bd]) (by simp[SV.bd,S1.bd,At.bd]) (by simp[Zu,Zw,Zv,Zj,Zf,Vc.S1.okN,At.okN,SV.okN,Res.okN,Res.outOk,Zo,Res.own,Value.oneCell']) fun w hg=>by
  obtain⟨m,hm⟩:=hM w _ hg
  have:=Tryz.strings_Cut ⟨s.toArray⟩ ⟨[c].toArray⟩ m w (by simpa[ByteArray.size]using hs) hm
  simp only[List.toList_toArray,M2]at this
  exact this.mono fun e w' ⟨he,n,hw⟩=>⟨he,hw▸⟨rfl,rfl,rfl,Nat.le_refl _,fun _ _=>rfl⟩⟩
theorem Zhb(G:Nat)(H:Nat→Option Obj)(s:List UInt8)(n:Int)(hs:s.length≤18)(hn:Lib.atoi s=some n):
 GCp G H Tryz.prog 163 [.a (.str s)] [] 0 [] (.tup [.a (.int .i64 n),.a (.raw .nilIface)]) [] 0:=
 GCp.plain (by simp[S1.bd,At.bd]) (by simp[SV.bd,S1.bd,At.bd,Value.oneCell']) (by simp[Zu,Zw,Zv,Zj,Zf,Vc.S1.okN,At.okN,SV.okN,Res.okN,Res.outOk,Zo,Res.own,Value.oneCell']) fun w hg=>
  (Tryz.strconv_Atoi ⟨s.toArray⟩ n (by simpa[ByteArray.size]using hs) hn w).mono fun e w' ⟨he,t,hw⟩=>⟨he,hw▸Lib.bytesWorld_below w _ t⟩
theorem Gt{G:Nat}{H:Nat→Option Obj}(hM:Yn G H)(s:List UInt8)(c:UInt8)(hs:s.length≤2000000):
 GCp G H Tryz.prog 79 [.a (.str s),.a (.str [c])] [] 0 [] (.one (.a (.ref 0))) [(0,.row 9 .str (splitS c s))] 1:=by
 refine⟨(by simp[Zu,Zw,Zv,Zj,Zf,Vc.S1.okN,At.okN,SV.okN,Res.okN,Res.outOk,Zo,Res.own,Value.oneCell']),fun ρ w hm hg=> ?_⟩
 obtain⟨m,hmx⟩:=hM w _ hg
 have hcnt:Lib.countB ⟨s.toArray⟩ ⟨[c].toArray⟩=s.count c:=by simpa[Lib.countB]using Lib.count_one c s
 have hsp:(Lib.splitB ⟨[c].toArray⟩ 0 (s.count c) ⟨s.toArray⟩).map (·.data.toList)=splitS c s:=by
  rw[Lib.splitB_data]
  exact Zdd c _ s rfl
 have hl:=Oo c s
 have:=Tryz.strings_Split ⟨s.toArray⟩ ⟨[c].toArray⟩ m w (by simp[ByteArray.size];omega) hmx (by simp[ByteArray.size])
 refine this.mono fun e w' ⟨he,hw⟩=> ?_
 rw[hcnt]at he hw
 have hB:Below w.heap.size w w':=hw▸(Below.refl _ w).alloc (Nat.le_refl _) _
 have hcells:(Lib.splitB ⟨[c].toArray⟩ 0 (s.count c) ⟨s.toArray⟩).map Value.string=(splitS c s).map fun y=>Value.string ⟨y.toArray⟩:=by
  rw[←hsp,List.map_map]
  rfl
 have hcl:=List.count_le_length (a:=c) (l:=s)
 have hown:Of w.heap.size w' (.slice (some ⟨w.heap.size,0,none⟩) (s.count c+1) (s.count c+1)) 9 .str (splitS c s):=by
  unfold Of
  rw[Zde,hl]
  refine⟨by simp[hl,Kd.sz],.inr ⟨w.heap.size,s.count c+1,((splitS c s).map fun y=>Value.string ⟨y.toArray⟩).toArray,rfl,Nat.le_refl _,?_,Nat.le_refl _,by simp only[maxLen];omega,?_,?_⟩⟩
  ·rw[hw,hcells];exact heap_alloc_new w _
  ·simp[hl,Kd.sz]
  ·simp[Kd.sz,hl]
   exact List.take_of_length_le (by simp[hl])
 refine⟨Z9 ρ 0 (.slice (some ⟨w.heap.size,0,none⟩) (s.count c+1) (s.count c+1)),(fun n hn=>nomatch hn),by rw[he];simp[SV.den,S1.den,At.den,Zm],?_⟩
 exact hm.addRow hB hown
end Go.Proofs.YtddmlennnmpnhaaGreatDoor
namespace Go.Proofs.YtddmlennnmpnhaaGreatDoor
open Go Go.ChangeShapes Go.WideShapes Go.ChangeAt Go.WideMaps Go.WideElems Go.RowKit Vc
set_option linter.unusedVariables false
theorem Z7{H:Type}{enc:TypeId×Value→H}{a:Assume}{C:Checked}{os:Os}{f:FuncId}{fn:Func}{s:ChangeSpec}{conds:List PathCond}{apart fresh handsOn again:Bool}{X:World→Array Value→Prop}
 (hX:∀(w w':World) (args:Array Value),w.heap=w'.heap→X w args→X w' args)
 (own:ownKnob C.prog.godebug=none)(started:os.Started)(noInit:C.prog.inits.idxOf? f=none)(hfn:C.prog.funcs[f]? =some fn)
 (witness:∃(w:World) (tape:Tape) (i:Input),w.os=os∧(w.forCall tape i).Shaped C.prog∧i.vars=[]∧Input.okWide C.prog (w.forCall tape i) .any w.heap.size f i∧
   ((s.pre enc C.prog fn conds apart (w.forCall tape i).memory i.args∧X (w.forCall tape i).memory i.args)∧sizedMet enc C.prog fn (OpenSpec.ofChange s) apart (w.forCall tape i).memory i.args)∧a.holds C.prog (lone (Frame.enter C.prog f i.args .normal) [] (w.forCall tape i)))
 (contract:∀(W:World) (base:Nat) (args:Array Value) (ds gs:List (DataW H)) (before:List MemPlace),
   (∀(j:Nat) t v,fn.params[j]? =some t→args[j]? =some v→Value.okWide C.prog W .any base t v)→
   DataW.Whole enc C.prog fn.params.toList s.vars apart W args.toList ds gs before→
   conds.all (PathCond.test C.prog ⟨fn.params.toList,ds,s.plain.varTypes C.prog,gs⟩)=true→
   (DataW.weightsEach C.prog (fn.params.toList++s.plain.varTypes C.prog) (ds++gs)).all (·≤reachBytes)=true→X W args→W.ShapedOpen C.prog→
   a.holds C.prog (lone (Frame.enter C.prog f args .normal) [] W)→
   Calls C.prog f args W fun e W'=>∃v,e= .returned v∧s.post enc C.prog fn apart fresh handsOn again W args v W'):
 ReturnsInHanded a C os f .any (fun w args=>(s.pre enc C.prog fn conds apart w args∧X w args)∧sizedMet enc C.prog fn (OpenSpec.ofChange s) apart w args) (s.post enc C.prog fn apart fresh handsOn again):=by
 refine returnsInHanded_of_calls own started noInit witness ?_
 intro w tape i _ hsh _ hok hpre hholds
 obtain⟨_,_,_,fn',hfn',_,_,_,_,hval⟩:=hok
 have e:fn'=fn:=Option.some.inj (hfn'.symm.trans hfn)
 subst e
 obtain⟨⟨⟨ds,gs,before,hw,hc⟩,hx⟩,hz⟩:=hpre
 have hw':=DataW.Whole.of_heap (w':=w.forCall tape i) (by rfl) hw
 refine(contract (w.forCall tape i) w.heap.size i.args ds gs before hval hw' hc (hz.weights hw) (hX _ _ _ (by rfl) hx) hsh hholds).mono fun e W' ⟨v,he,hp⟩=> ?_
 subst he
 exact ChangeSpec.post_blind hp
theorem T6{W:World}(h:W.ShapedOpen Tryz.prog):Yn W.heap.size (fun b=>W.heap[b]?):=by
 intro w X hg
 obtain⟨m,hm⟩:=Go.Proofs.cell_of_shapedOpen_int (zero:= #[.int .i64 0]) (g:=0) (t:=3) h (of_decide_eq_true (by kernel_rfl)) (by kernel_rfl) rfl (by kernel_rfl) (by kernel_rfl) Tryz.underlying3
 refine⟨m,?_⟩
 rcases Nat.lt_or_ge 0 W.heap.size with hlt|hge
 ·have:=hg.2.1 _ hlt
  simp only[World.cell?]at hm ⊢
  rw[this];exact hm
 ·exfalso
  simp only[World.cell?,Array.getElem?_eq_none hge]at hm
  cases hm
theorem Xx(W:World):Wb W.heap.size (fun b=>W.heap[b]?) W []:=⟨Nat.le_refl _,fun b hb=>rfl,fun b hb=>nomatch hb⟩
end Go.Proofs.YtddmlennnmpnhaaGreatDoor
namespace Go.Proofs.YtddmlennnmpnhaaGreatDoor
namespace Vc
open Go.RowKit
set_option linter.unusedVariables false
set_option linter.unusedSimpArgs false
theorem Mem.viewRow{c:Cx}{ρ:Env}{R:List (Nat×Res)}{nx:Nat}{w:World}(h:Mem c ρ R nx w){m v E n sz:Nat}{k:Kd}{l:List k.ty}(hm:(m,Res.row E k l)∈R)(hv:(v,Res.view m sz 0 n)∈R)(hsz:sz=k.sz)(hn:n≤l.length)(h0:0<l.length):
 Mem c ρ ((v,.row E k (l.take n))::del R [m,v]) nx w:=by
 obtain⟨hxl,hrow⟩:=h.res m _ hm
 obtain⟨ad,len,cap,ad',v1,v2,v3,v4,v5⟩:=h.res v _ hv
 rcases hrow with⟨_,hz⟩|⟨b,cp,cur,hv1,hlo,hb,hnc,hcap,hcur,htake⟩
 ·omega
 rw[hv1]at v1;cases v1
 have e:=v5 (by omega)
 have hval:ρ v= .slice (some ⟨b,0,Option.none⟩) n cap:=by rw[v2,e];simp[Addr.add_lit]
 refine Mem.step (ds:=[m,v]) (D:=[]) h (fun _ _=>rfl) (Nat.le_refl _) h.one rfl rfl rfl (Nat.le_refl _) (fun _ _ hb _=>hb) (by simp) (h.bdr _ _ hv).1 (.inl (by simp)) trivial (fun b' hb'=> ?_) fun O' _ _=> ?_
 ·have hbm:(Res.row E k l).block ρ m=some b:=by simp[Res.block,hv1,Value.ownBlock]
  have hbv:b'=b:=by simp only[Res.block,hval,Value.ownBlock,Option.some.injEq]at hb';exact hb'.symm
  subst hbv
  exact⟨(h.lt _ (List.mem_filterMap.2 ⟨(m,_),hm,hbm⟩)).1,.inr ⟨m,_,hm,by simp,hbm⟩⟩
 ·have hlen:(l.take n).length=n:=by rw[List.length_take];omega
  have hz:∀x,((fun x=>(k.enc x).map (At.den ρ)) x).length=k.sz:=fun x=>by rw[List.length_map,k.enc_length]
  have ht:((l.take n).flatMap k.enc).map (At.den ρ)=((l.flatMap k.enc).map (At.den ρ)).take (n*k.sz):=by
   have:=L7 (fun x=>(k.enc x).map (At.den ρ)) k.sz hz l n
   rw[List.map_flatMap,List.map_flatMap];exact this
  refine⟨by rw[List.length_map];exact k.encs_length _,.inr ⟨b,cap,cur,by rw[hlen];exact hval,hlo,hb,by rw[hlen];omega,hcap,hcur,?_⟩⟩
  rw[hlen,ht,←htake,List.take_take,Nat.min_eq_left (Nat.mul_le_mul_right _ hn)]
theorem Ent.viewRow{c:Cx}{S:St}(m v n:Nat){E sz:Nat}{k:Kd}{l:List k.ty}(hm:S.find m=some (.row E k l))(hv:S.find v=some (.view m sz 0 n))(hsz:sz=k.sz)(hn:n≤l.length)(h0:0<l.length):
 Ent c S ⟨S.slots,(v,.row E k (l.take n))::del S.res [m,v],S.nx⟩:=fun ρ a w hh=>⟨ρ,hh.nodef,hh.sz,hh.lown,hh.slot,hh.bds,hh.mem.viewRow (Zg hm) (Zg hv) hsz hn h0⟩
end Vc
end Go.Proofs.YtddmlennnmpnhaaGreatDoor
