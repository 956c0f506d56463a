/- A part of the proofs of this seat's laws: steps on the way, joined. It has no conditions of its own. -/
import Derived.Test.YtddmlennnmpnhaaGreatDoorQh
import Derived.Test.YtddmlennnmpnhaaGreatDoorChecked
import Derived.KernelRfl
import Derived.Test.YtddmlennnmpnhaaGreatDoorQm
namespace Go.Proofs.YtddmlennnmpnhaaGreatDoor
open Vc
namespace Xd
abbrev r0:List In:=[i1 14 (.alloc 53 [.int .i64 0,.int .i64 0,.raw (.slice none 0 0),.int .i64 0,.int .i64 0,.int .i64 0,.int .i64 0,.int .i64 0,.int .i64 0,.int .i64 0,.int .i64 0,.int .i64 0,.int .i64 0,.bool false,.bool false,.bool false,.bool false,.int .i64 0,.raw (.slice none 0 0)]),i1 15 (.mv (.k (.a (.raw (.slice none 0 0))))),i1 16 (.mv (kB false))]
abbrev r1:List In:=[i1 25 (.call 44 []),i1 26 (.build [.str [],.int .i64 0,.int .i64 0,.int .i64 0,.int .i64 0,.str []] [(0,1,(.k (.a (.str [109,97,105,110]))))]),i1 27 (.build [.int .i64 0,.int .i64 0,.int .i64 0,.int .i64 0] [(0,1,(kI 26))]),mv 28 0,i1 29 (.build [.str [],.int .i64 0,.int .i64 0,.int .i64 0,.int .i64 0,.str []] [(1,4,(.t 27)),(5,1,(.t 28))]),i1 30 (.build [.int .i64 0,.int .i64 0,.int .i64 0,.int .i64 0] [(0,1,(kI 0))]),i1 31 (.build [.str [],.int .i64 0,.int .i64 0,.int .i64 0,.int .i64 0,.str []] [(1,4,(.t 30))]),i1 32 (.bsl 75 6 3 [.str [],.int .i64 0,.int .i64 0,.int .i64 0,.int .i64 0,.str [],.str [],.int .i64 0,.int .i64 0,.int .i64 0,.int .i64 0,.str [],.str [],.int .i64 0,.int .i64 0,.int .i64 0,.int .i64 0,.str []] [(0,6,(.t 26)),(6,6,(.t 29)),(12,6,(.t 31))]),i1 33 (.build [.str [],.raw (.slice none 0 0)] [(1,1,(.t 32))]),i1 34 (.bsl 78 2 1 [.str [],.raw (.slice none 0 0)] [(0,2,(.t 33))]),i1 35 (.app 70 78 2 40 (.t 25) (.t 34)),mv 17 35]
abbrev r2:List In:=[mv 37 17,i1 38 (.call 45 [.t 37,(.k (.a (.str [109,97,105,110])))]),mv 36 38,i1 39 (.ext 0 (.t 36)),i1 40 (.ext 1 (.t 36)),i1 18 (.alloc 81 [.raw (.slice none 0 0),.raw (.slice none 0 0),.raw (.slice none 0 0)]),i1 19 (.alloc 83 [.int .i64 0,.int .i64 0]),i0 (.store 3 (.t 18) (.t 39)),i0 (.store 2 (.t 19) (.t 40))]
abbrev r3:List In:=[i1 41 (.mks 3 (.int .i64) 8 (kI 65536) (kI 65536)),mv 20 41]
abbrev r4:List In:=[mv 42 20,i1 43 (.len (.t 42)),i1 44 (.mv (kI 0))]
abbrev r5:List In:=[i1 45 (.bin .lss (.t 44) (.t 43))]
abbrev r6:List In:=[mv 46 44,mv 21 46]
abbrev r7:List In:=[mv 47 20,mv 48 21,mv 49 6,i1 50 (.iaddr 1 (.t 47) (.t 48)),i0 (.store 1 (.t 50) (.t 49))]
abbrev r8:List In:=[i1 51 (.bin .add (.t 44) (kI 1)),mv 44 51]
abbrev r9:List In:=[mv 52 20,mv 53 3,i1 54 (.sl 1 (.t 52) (some (.t 53)) none),mv 55 1,i1 56 (.cpy 3 1 (.t 54) (.t 55))]
abbrev r10:List In:=[mv 57 20,mv 58 4,i1 59 (.sl 1 (.t 57) (some (.t 58)) none),mv 60 2,i1 61 (.cpy 3 1 (.t 59) (.t 60))]
abbrev r11:List In:=[mv 62 3,mv 63 4,mv 64 6,mv 65 6,mv 66 6,mv 67 6,mv 68 6,mv 69 5,i1 70 (.build [.int .i64 0,.int .i64 0,.int .i64 0,.int .i64 0,.int .i64 0,.int .i64 0,.int .i64 0,.int .i64 0] [(0,1,(.t 62)),(1,1,(.t 63)),(2,1,(.t 64)),(3,1,(.t 65)),(4,1,(.t 66)),(5,1,(.t 67)),(6,1,(.t 68)),(7,1,(.t 69))]),mv 71 20,i1 72 (.build [.int .i64 0,.int .i64 0,.int .i64 0,.int .i64 0,.int .i64 0,.int .i64 0,.int .i64 0,.int .i64 0,.bool false,.bool false,.bool false,.bool false,.int .i64 0,.raw (.slice none 0 0)] [(0,8,(.t 70)),(13,1,(.t 71))]),i1 22 (.alloc 51 [.int .i64 0,.int .i64 0,.int .i64 0,.int .i64 0,.int .i64 0,.int .i64 0,.int .i64 0,.int .i64 0,.bool false,.bool false,.bool false,.bool false,.int .i64 0,.raw (.slice none 0 0)]),i0 (.store 14 (.t 22) (.t 72))]
abbrev r12:List In:=[i1 74 (.faddr 0 (.t 18)),i1 75 (.load 1 false (.t 74)),i1 76 (.load 14 true (.t 22)),i1 77 (.call 46 [.t 75,.t 76,(.k (.a (.raw (.slice none 0 0)))),kI 1000000]),mv 73 77,i1 78 (.ext 0 (.t 73)),i1 79 (.ext 1 (.t 73)),i1 23 (.alloc 53 [.int .i64 0,.int .i64 0,.raw (.slice none 0 0),.int .i64 0,.int .i64 0,.int .i64 0,.int .i64 0,.int .i64 0,.int .i64 0,.int .i64 0,.int .i64 0,.int .i64 0,.int .i64 0,.bool false,.bool false,.bool false,.bool false,.int .i64 0,.raw (.slice none 0 0)]),i0 (.store 19 (.t 23) (.t 78)),mv 24 79]
abbrev r13:List In:=[i1 80 (.load 19 true (.t 23)),mv 81 20,i1 82 (.faddr 0 (.t 19)),i1 83 (.load 1 false (.t 82)),i1 84 (.bin .eql (.t 83) (kI 0)),mv 85 84,i2 85 true 86 (.mv (.t 24)),i2 85 true 87 (.bin .eql (.t 86) (kI 0)),i1 88 (.pick (.t 85) (.t 87) (kB false)),i0 (.store 19 (.t 14) (.t 80)),mv 15 81,mv 16 88]
abbrev code:IC:=.seq (.reg r0) (.seq (.reg r1) (.seq (.reg r2) (.seq (.reg r3) (.seq (.seq (.reg r4) (.block 0 (.loop (.seq (.reg r5) (.seq (.cond (.t 45) .skip (.exit 0)) (.seq (.block 1 (.seq (.reg r6) (.reg r7))) (.reg r8))))))) (.seq (.reg r9) (.seq (.reg r10) (.seq (.reg r11) (.seq (.reg r12) (.seq (.reg r13) .ret)))))))))
abbrev res:List RV:=[.cell 14 19 true,.tmp 15,.tmp 16]
theorem fn:Body Tryz.prog 30 89 code res:=⟨by decide,Tryz.f30,_,Tryz.func30,rfl,rfl,by kernel_rfl,by kernel_rfl⟩
end Xd
namespace Xy
abbrev r0:List In:=[i1 22 (.mv (kB false))]
abbrev r1:List In:=[mv 34 8,i1 35 (.bin .lss (.t 34) (kI 0)),mv 36 35,i2 36 false 37 (.mv (.t 8)),i2 36 false 38 (.bin .gtr (.t 37) (kI 65535)),i1 39 (.pick (.t 36) (kB true) (.t 38)),mv 40 39,i2 40 false 41 (.mv (.t 7)),i2 40 false 42 (.bin .lss (.t 41) (kI 64)),i1 43 (.pick (.t 40) (kB true) (.t 42)),mv 44 43,i2 44 false 45 (.mv (.t 7)),i2 44 false 46 (.bin .gtr (.t 45) (kI 65535)),i1 47 (.pick (.t 44) (kB true) (.t 46)),mv 48 47,i2 48 false 49 (.mv (.t 5)),i2 48 false 50 (.mv (.t 1)),i2 48 false 51 (.mv (.t 6)),i2 48 false 52 (.mv (.t 2)),i2 48 false 53 (.call 28 [.t 49,.t 50,.t 51,.t 52]),i2 48 false 54 (.un .not (.t 53)),i1 55 (.pick (.t 48) (kB true) (.t 54)),mv 56 55,i2 56 false 57 (.mv (.t 5)),i2 56 false 58 (.mv (.t 1)),i2 56 false 59 (.mv (.t 7)),i2 56 false 60 (.bin .sub (.t 59) (kI 64)),i2 56 false 61 (.call 28 [.t 57,.t 58,.t 60,kI 64]),i2 56 false 62 (.un .not (.t 61)),i1 63 (.pick (.t 56) (kB true) (.t 62)),mv 64 63,i2 64 false 65 (.mv (.t 6)),i2 64 false 66 (.mv (.t 2)),i2 64 false 67 (.mv (.t 7)),i2 64 false 68 (.bin .sub (.t 67) (kI 64)),i2 64 false 69 (.call 28 [.t 65,.t 66,.t 68,kI 64]),i2 64 false 70 (.un .not (.t 69)),i1 71 (.pick (.t 64) (kB true) (.t 70))]
abbrev r2:List In:=[i1 22 (.mv (kB true))]
abbrev r3:List In:=[mv 73 3,mv 74 1,i1 75 (.bin .mul (kI 16) (.t 74)),i1 76 (.call 29 [.t 73,.t 75]),mv 72 76,i1 77 (.ext 0 (.t 72)),i1 78 (.ext 1 (.t 72)),mv 23 77,mv 24 78]
abbrev r4:List In:=[mv 80 4,mv 81 2,i1 82 (.bin .mul (kI 16) (.t 81)),i1 83 (.call 29 [.t 80,.t 82]),mv 79 83,i1 84 (.ext 0 (.t 79)),i1 85 (.ext 1 (.t 79)),mv 25 84,mv 26 85]
abbrev r5:List In:=[mv 87 0,mv 88 23,mv 89 25,mv 90 5,mv 91 6,mv 92 7,mv 93 8,i1 94 (.call 30 [.t 87,.t 88,.t 89,.t 90,.t 91,.t 92,.t 93]),mv 86 94,i1 95 (.ext 0 (.t 86)),i1 96 (.ext 1 (.t 86)),i1 97 (.ext 2 (.t 86)),i1 27 (.alloc 53 [.int .i64 0,.int .i64 0,.raw (.slice none 0 0),.int .i64 0,.int .i64 0,.int .i64 0,.int .i64 0,.int .i64 0,.int .i64 0,.int .i64 0,.int .i64 0,.int .i64 0,.int .i64 0,.bool false,.bool false,.bool false,.bool false,.int .i64 0,.raw (.slice none 0 0)]),i0 (.store 19 (.t 27) (.t 95)),mv 28 96,mv 29 97]
abbrev r6:List In:=[mv 98 29,i1 99 (.un .not (.t 98))]
abbrev r7:List In:=[i1 22 (.mv (kB false))]
abbrev r8:List In:=[mv 100 10]
abbrev r9:List In:=[i1 101 (.faddr 0 (.t 27)),i1 102 (.load 1 false (.t 101)),i1 103 (.bin .eql (.t 102) (kI 2)),mv 104 103,i2 104 true 105 (.faddr 1 (.t 27)),i2 104 true 106 (.load 1 false (.t 105)),i2 104 true 107 (.bin .eql (.t 106) (kI 1)),i1 108 (.pick (.t 104) (.t 107) (kB false)),mv 22 108]
abbrev r10:List In:=[i1 109 (.faddr 0 (.t 27)),i1 110 (.load 1 false (.t 109)),i1 111 (.bin .neq (.t 110) (kI 1)),mv 112 111,i2 112 false 113 (.faddr 4 (.t 27)),i2 112 false 114 (.load 1 false (.t 113)),i2 112 false 115 (.bin .gtr (.t 114) (kI 20000)),i1 116 (.pick (.t 112) (kB true) (.t 115)),mv 117 116,i2 117 false 118 (.faddr 5 (.t 27)),i2 117 false 119 (.faddr 0 (.t 118)),i2 117 false 120 (.iarr 8 1 (.t 119) (kI 7)),i2 117 false 121 (.load 1 false (.t 120)),i2 117 false 122 (.mv (.t 7)),i2 117 false 123 (.bin .neq (.t 121) (.t 122)),i1 124 (.pick (.t 117) (kB true) (.t 123)),mv 125 124,i2 125 false 126 (.faddr 2 (.t 27)),i2 125 false 127 (.load 1 false (.t 126)),i2 125 false 128 (.len (.t 127)),i2 125 false 129 (.bin .neq (.t 128) (kI 0)),i1 130 (.pick (.t 125) (kB true) (.t 129)),mv 131 130,i2 131 false 132 (.faddr 3 (.t 27)),i2 131 false 133 (.load 1 false (.t 132)),i2 131 false 134 (.bin .neq (.t 133) (kI 0)),i1 135 (.pick (.t 131) (kB true) (.t 134))]
abbrev r11:List In:=[i1 22 (.mv (kB false))]
abbrev r12:List In:=[mv 137 9,mv 138 1,i1 139 (.bin .mul (kI 16) (.t 138)),i1 140 (.call 29 [.t 137,.t 139]),mv 136 140,i1 141 (.ext 0 (.t 136)),i1 142 (.ext 1 (.t 136)),mv 30 141,mv 31 142]
abbrev r13:List In:=[mv 143 28,mv 144 5,i1 145 (.sl 1 (.t 143) (some (.t 144)) none),mv 146 30,i1 147 (.cpy 3 1 (.t 145) (.t 146))]
abbrev r14:List In:=[mv 148 28,i1 149 (.len (.t 148)),i1 150 (.mv (kI 0))]
abbrev r15:List In:=[i1 151 (.bin .lss (.t 150) (.t 149))]
abbrev r16:List In:=[mv 152 150,mv 32 152]
abbrev r17:List In:=[i1 33 (.mv (kI 0))]
abbrev r18:List In:=[mv 153 32,i1 154 (.faddr 5 (.t 27)),i1 155 (.faddr 13 (.t 154)),i1 156 (.load 1 false (.t 155)),i1 157 (.len (.t 156)),i1 158 (.bin .lss (.t 153) (.t 157))]
abbrev r19:List In:=[i1 159 (.faddr 5 (.t 27)),i1 160 (.faddr 13 (.t 159)),i1 161 (.load 1 false (.t 160)),mv 162 32,i1 163 (.iaddr 1 (.t 161) (.t 162)),i1 164 (.load 1 false (.t 163)),mv 33 164]
abbrev r20:List In:=[mv 165 33,mv 166 28,mv 167 32,i1 168 (.iaddr 1 (.t 166) (.t 167)),i1 169 (.load 1 false (.t 168)),i1 170 (.bin .neq (.t 165) (.t 169)),mv 171 170,i2 171 true 172 (.mv (.t 32)),i2 171 true 173 (.mv (.t 7)),i2 171 true 174 (.bin .sub (.t 173) (kI 64)),i2 171 true 175 (.bin .lss (.t 172) (.t 174)),i2 171 true 176 (.mv (.t 175)),i2 176 false 177 (.mv (.t 32)),i2 176 false 178 (.mv (.t 7)),i2 176 false 179 (.bin .geq (.t 177) (.t 178)),i2 171 true 180 (.pick (.t 176) (kB true) (.t 179)),i1 181 (.pick (.t 171) (.t 180) (kB false))]
abbrev r21:List In:=[i1 22 (.mv (kB false))]
abbrev r22:List In:=[i1 182 (.bin .add (.t 150) (kI 1)),mv 150 182]
abbrev r23:List In:=[i1 22 (.mv (kB true))]
abbrev code:IC:=.seq (.reg r0) (.seq (.seq (.reg r1) (.cond (.t 71) (.seq (.reg r2) .ret) .skip)) (.seq (.reg r3) (.seq (.reg r4) (.seq (.reg r5) (.seq (.seq (.reg r6) (.cond (.t 99) (.seq (.reg r7) .ret) .skip)) (.seq (.seq (.reg r8) (.cond (.t 100) (.seq (.reg r9) .ret) .skip)) (.seq (.seq (.reg r10) (.cond (.t 135) (.seq (.reg r11) .ret) .skip)) (.seq (.reg r12) (.seq (.reg r13) (.seq (.seq (.reg r14) (.block 0 (.loop (.seq (.reg r15) (.seq (.cond (.t 151) .skip (.exit 0)) (.seq (.block 1 (.seq (.reg r16) (.seq (.reg r17) (.seq (.seq (.reg r18) (.cond (.t 158) (.reg r19) .skip)) (.seq (.reg r20) (.cond (.t 181) (.seq (.reg r21) .ret) .skip)))))) (.reg r22))))))) (.seq (.reg r23) .ret)))))))))))
abbrev res:List RV:=[.tmp 22]
theorem fn:Body Tryz.prog 16 183 code res:=⟨by decide,Tryz.f16,_,Tryz.func16,rfl,rfl,by kernel_rfl,by kernel_rfl⟩
end Xy
namespace Ta
abbrev r0:List In:=[i1 8 (.mv (kB false))]
abbrev r1:List In:=[mv 9 0,i1 10 (.bin .geq (.t 9) (kI 0)),mv 11 10,i2 11 true 12 (.mv (.t 2)),i2 11 true 13 (.bin .geq (.t 12) (kI 0)),i1 14 (.pick (.t 11) (.t 13) (kB false)),mv 15 14,i2 15 true 16 (.mv (.t 0)),i2 15 true 17 (.mv (.t 1)),i2 15 true 18 (.bin .sub (kI 65536) (.t 17)),i2 15 true 19 (.bin .leq (.t 16) (.t 18)),i1 20 (.pick (.t 15) (.t 19) (kB false)),mv 21 20,i2 21 true 22 (.mv (.t 2)),i2 21 true 23 (.mv (.t 3)),i2 21 true 24 (.bin .sub (kI 65536) (.t 23)),i2 21 true 25 (.bin .leq (.t 22) (.t 24)),i1 26 (.pick (.t 21) (.t 25) (kB false)),mv 27 26,i2 27 true 28 (.mv (.t 0)),i2 27 true 29 (.mv (.t 1)),i2 27 true 30 (.bin .add (.t 28) (.t 29)),i2 27 true 31 (.mv (.t 2)),i2 27 true 32 (.bin .leq (.t 30) (.t 31)),i2 27 true 33 (.mv (.t 32)),i2 33 false 34 (.mv (.t 2)),i2 33 false 35 (.mv (.t 3)),i2 33 false 36 (.bin .add (.t 34) (.t 35)),i2 33 false 37 (.mv (.t 0)),i2 33 false 38 (.bin .leq (.t 36) (.t 37)),i2 27 true 39 (.pick (.t 33) (kB true) (.t 38)),i1 40 (.pick (.t 27) (.t 39) (kB false)),mv 8 40]
abbrev code:IC:=.seq (.reg r0) (.seq (.reg r1) .ret)
abbrev res:List RV:=[.tmp 8]
theorem fn:Body Tryz.prog 28 41 code res:=⟨by decide,Tryz.f28,_,Tryz.func28,rfl,rfl,by kernel_rfl,by kernel_rfl⟩
end Ta
namespace Vy
abbrev r0:List In:=[i1 10 (.mv (.k (.a (.int .u64 0)))),i1 11 (.mv (kI 0))]
abbrev r1:List In:=[mv 16 3,i1 17 (.call 18 [.t 16]),i1 18 (.un .not (.t 17))]
abbrev r2:List In:=[i1 10 (.mv (.k (.a (.int .u64 0)))),i1 11 (.mv (kI 1))]
abbrev r3:List In:=[mv 19 1,mv 20 3,mv 21 4,i1 22 (.call 19 [.t 19,.t 20,.t 21]),mv 23 2,mv 24 3,mv 25 4,i1 26 (.call 19 [.t 23,.t 24,.t 25]),mv 12 22,mv 13 26]
abbrev r4:List In:=[i1 27 (.alloc 34 [.bool false,.raw (.slice none 0 0)]),mv 14 27]
abbrev r5:List In:=[mv 28 0]
abbrev r6:List In:=[i1 30 (.bin .eql (.t 28) (.k (.a (.int .u8 43)))),mv 29 30]
abbrev r7:List In:=[mv 31 14,mv 32 12,mv 33 13,i1 34 (.call 20 [.t 31,.t 32,.t 33])]
abbrev r8:List In:=[i1 36 (.bin .eql (.t 28) (.k (.a (.int .u8 45)))),mv 35 36]
abbrev r9:List In:=[mv 37 14,mv 38 12,mv 39 13,i1 40 (.call 21 [.t 37,.t 38,.t 39])]
abbrev r10:List In:=[i1 42 (.bin .eql (.t 28) (.k (.a (.int .u8 42)))),mv 41 42]
abbrev r11:List In:=[mv 43 14,mv 44 12,mv 45 13,i1 46 (.call 22 [.t 43,.t 44,.t 45])]
abbrev r12:List In:=[i1 48 (.bin .eql (.t 28) (.k (.a (.int .u8 47)))),mv 47 48]
abbrev r13:List In:=[i1 49 (.bin .eql (.t 28) (.k (.a (.int .u8 37)))),mv 47 49]
abbrev r14:List In:=[mv 50 13,i1 51 (.call 23 [.t 50]),i1 52 (.bin .eql (.t 51) (kI 0))]
abbrev r15:List In:=[i1 10 (.mv (.k (.a (.int .u64 0)))),i1 11 (.mv (kI 10))]
abbrev r16:List In:=[i1 53 (.alloc 34 [.bool false,.raw (.slice none 0 0)]),mv 15 53]
abbrev r17:List In:=[mv 54 14,mv 55 12,mv 56 13,mv 57 15,i1 58 (.call 24 [.t 54,.t 55,.t 56,.t 57])]
abbrev r18:List In:=[mv 59 0,i1 60 (.bin .eql (.t 59) (.k (.a (.int .u8 37))))]
abbrev r19:List In:=[mv 61 15,mv 14 61]
abbrev r20:List In:=[i1 63 (.bin .eql (.t 28) (.k (.a (.int .u8 60)))),mv 62 63]
abbrev r21:List In:=[mv 64 12,mv 65 13,i1 66 (.call 25 [.t 64,.t 65]),i1 67 (.bin .lss (.t 66) (kI 0))]
abbrev r22:List In:=[mv 68 14,i1 69 (.call 26 [.t 68,kI 1])]
abbrev r23:List In:=[mv 70 14,mv 71 3,i1 72 (.call 27 [.t 70,.t 71]),mv 10 72,i1 11 (.mv (kI 0))]
abbrev code:IC:=.seq (.reg r0) (.seq (.seq (.reg r1) (.cond (.t 18) (.seq (.reg r2) .ret) .skip)) (.seq (.reg r3) (.seq (.reg r4) (.seq (.seq (.reg r5) (.block 0 (.seq (.reg r6) (.cond (.t 29) (.reg r7) (.seq (.reg r8) (.cond (.t 35) (.reg r9) (.seq (.reg r10) (.cond (.t 41) (.reg r11) (.seq (.seq (.reg r12) (.cond (.t 47) .skip (.reg r13))) (.cond (.t 47) (.seq (.seq (.reg r14) (.cond (.t 52) (.seq (.reg r15) .ret) .skip)) (.seq (.reg r16) (.seq (.reg r17) (.seq (.reg r18) (.cond (.t 60) (.reg r19) .skip))))) (.seq (.reg r20) (.cond (.t 62) (.seq (.reg r21) (.cond (.t 67) (.reg r22) .skip)) .skip)))))))))))) (.seq (.reg r23) .ret)))))
abbrev res:List RV:=[.tmp 10,.tmp 11]
theorem fn:Body Tryz.prog 15 73 code res:=⟨by decide,Tryz.f15,_,Tryz.func15,rfl,rfl,by kernel_rfl,by kernel_rfl⟩
end Vy
namespace Td
abbrev r0:List In:=[i1 2 (.mv (kB false))]
abbrev r1:List In:=[i1 5 (.bsl 3 1 4 [.int .i64 0,.int .i64 0,.int .i64 0,.int .i64 0] [(0,1,(kI 8)),(1,1,(kI 16)),(2,1,(kI 32)),(3,1,(kI 64))]),i1 6 (.len (.t 5)),i1 7 (.mv (kI 0))]
abbrev r2:List In:=[i1 8 (.bin .lss (.t 7) (.t 6))]
abbrev r3:List In:=[i1 9 (.iaddr 1 (.t 5) (.t 7)),i1 10 (.load 1 false (.t 9)),mv 4 10]
abbrev r4:List In:=[mv 11 0,mv 12 4,i1 13 (.bin .eql (.t 11) (.t 12))]
abbrev r5:List In:=[i1 2 (.mv (kB true))]
abbrev r6:List In:=[i1 14 (.bin .add (.t 7) (kI 1)),mv 7 14]
abbrev r7:List In:=[i1 2 (.mv (kB false))]
abbrev code:IC:=.seq (.reg r0) (.seq (.seq (.reg r1) (.block 0 (.loop (.seq (.reg r2) (.seq (.cond (.t 8) .skip (.exit 0)) (.seq (.block 1 (.seq (.reg r3) (.seq (.reg r4) (.cond (.t 13) (.seq (.reg r5) .ret) .skip)))) (.reg r6))))))) (.seq (.reg r7) .ret))
abbrev res:List RV:=[.tmp 2]
theorem fn:Body Tryz.prog 18 15 code res:=⟨by decide,Tryz.f18,_,Tryz.func18,rfl,rfl,by kernel_rfl,by kernel_rfl⟩
end Td
namespace Wu
abbrev r0:List In:=[i1 6 (.mv (.k (.a (.raw (.pointer none)))))]
abbrev r1:List In:=[mv 8 0,i1 9 (.call 34 [.t 8]),mv 10 1,i1 11 (.call 27 [.t 9,.t 10]),i1 12 (.call 34 [.t 11]),mv 7 12]
abbrev r2:List In:=[mv 13 2,mv 14 13,i2 14 true 15 (.mv (.t 7)),i2 14 true 16 (.mv (.t 1)),i2 14 true 17 (.bin .sub (.t 16) (kI 1)),i2 14 true 18 (.call 33 [.t 17]),i2 14 true 19 (.call 25 [.t 15,.t 18]),i2 14 true 20 (.bin .geq (.t 19) (kI 0)),i1 21 (.pick (.t 14) (.t 20) (kB false))]
abbrev r3:List In:=[mv 22 7,mv 23 7,mv 24 1,i1 25 (.call 33 [.t 24]),i1 26 (.call 21 [.t 22,.t 23,.t 25])]
abbrev r4:List In:=[mv 27 7,mv 6 27]
abbrev code:IC:=.seq (.reg r0) (.seq (.reg r1) (.seq (.seq (.reg r2) (.cond (.t 21) (.reg r3) .skip)) (.seq (.reg r4) .ret)))
abbrev res:List RV:=[.tmp 6]
theorem fn:Body Tryz.prog 19 28 code res:=⟨by decide,Tryz.f19,_,Tryz.func19,rfl,rfl,by kernel_rfl,by kernel_rfl⟩
end Wu
namespace X8
abbrev r0:List In:=[i1 4 (.mv (.k (.a (.int .u64 0))))]
abbrev r1:List In:=[i1 5 (.alloc 34 [.bool false,.raw (.slice none 0 0)]),mv 6 0,mv 7 1,i1 8 (.call 33 [.t 7]),i1 9 (.call 41 [.t 5,.t 6,.t 8]),i1 10 (.call 42 [.t 9]),mv 4 10]
abbrev code:IC:=.seq (.reg r0) (.seq (.reg r1) .ret)
abbrev res:List RV:=[.tmp 4]
theorem fn:Body Tryz.prog 27 11 code res:=⟨by decide,Tryz.f27,_,Tryz.func27,rfl,rfl,by kernel_rfl,by kernel_rfl⟩
end X8
namespace Tb
abbrev r0:List In:=[i1 4 (.mv (.k (.a (.raw (.slice none 0 0))))),i1 5 (.mv (kI 0))]
abbrev r1:List In:=[mv 10 1,i1 11 (.call 18 [.t 10]),i1 12 (.un .not (.t 11))]
abbrev r2:List In:=[i1 4 (.mv (.k (.a (.raw (.slice none 0 0))))),i1 5 (.mv (kI 1))]
abbrev r3:List In:=[mv 13 0,i1 14 (.call 34 [.t 13]),mv 15 1,i1 16 (.call 27 [.t 14,.t 15]),i1 17 (.call 34 [.t 16]),mv 6 17]
abbrev r4:List In:=[i1 7 (.mv (.k (.a (.raw (.slice none 0 0)))))]
abbrev r5:List In:=[i1 8 (.mv (kI 0))]
abbrev r6:List In:=[mv 18 8,i1 19 (.bin .eql (.t 18) (kI 0)),mv 20 19,i2 20 false 21 (.mv (.t 8)),i2 20 false 22 (.mv (.t 1)),i2 20 false 23 (.bin .quo (.t 22) (kI 16)),i2 20 false 24 (.bin .lss (.t 21) (.t 23)),i1 25 (.pick (.t 20) (kB true) (.t 24))]
abbrev r7:List In:=[i1 28 (.alloc 34 [.bool false,.raw (.slice none 0 0)]),mv 9 28]
abbrev r8:List In:=[mv 29 6,mv 30 6,i1 31 (.call 33 [kI 16]),mv 32 9,i1 33 (.call 32 [.t 29,.t 30,.t 31,.t 32])]
abbrev r9:List In:=[mv 34 7,mv 35 9,i1 36 (.call 43 [.t 35]),i1 37 (.bsl 3 1 1 [.int .i64 0] [(0,1,(.t 36))]),i1 38 (.app 43 3 1 8 (.t 34) (.t 37)),mv 7 38]
abbrev r10:List In:=[mv 26 8,i1 27 (.bin .add (.t 26) (kI 1)),mv 8 27]
abbrev r11:List In:=[mv 39 7,mv 4 39,i1 5 (.mv (kI 0))]
abbrev code:IC:=.seq (.reg r0) (.seq (.seq (.reg r1) (.cond (.t 12) (.seq (.reg r2) .ret) .skip)) (.seq (.reg r3) (.seq (.reg r4) (.seq (.seq (.reg r5) (.block 0 (.loop (.seq (.seq (.reg r6) (.cond (.t 25) .skip (.exit 0))) (.seq (.block 1 (.seq (.reg r7) (.seq (.reg r8) (.reg r9)))) (.reg r10)))))) (.seq (.reg r11) .ret)))))
abbrev res:List RV:=[.tmp 4,.tmp 5]
theorem fn:Body Tryz.prog 29 40 code res:=⟨by decide,Tryz.f29,_,Tryz.func29,rfl,rfl,by kernel_rfl,by kernel_rfl⟩
end Tb
namespace Tc
abbrev r0:List In:=[i1 2 (.mv (.k (.a (.raw (.pointer none)))))]
abbrev r1:List In:=[i1 3 (.alloc 34 [.bool false,.raw (.slice none 0 0)]),mv 4 0,i1 5 (.call 50 [.t 3,.t 4]),mv 2 5]
abbrev code:IC:=.seq (.reg r0) (.seq (.reg r1) .ret)
abbrev res:List RV:=[.tmp 2]
theorem fn:Body Tryz.prog 34 6 code res:=⟨by decide,Tryz.f34,_,Tryz.func34,rfl,rfl,by kernel_rfl,by kernel_rfl⟩
end Tc
namespace Se
abbrev r0:List In:=[i1 2 (.mv (.k (.a (.raw (.pointer none)))))]
abbrev r1:List In:=[i1 3 (.alloc 34 [.bool false,.raw (.slice none 0 0)]),i1 4 (.call 49 [kI 1]),mv 5 0,i1 6 (.conv .u64 (.t 5)),i1 7 (.call 31 [.t 3,.t 4,.t 6]),mv 2 7]
abbrev code:IC:=.seq (.reg r0) (.seq (.reg r1) .ret)
abbrev res:List RV:=[.tmp 2]
theorem fn:Body Tryz.prog 33 8 code res:=⟨by decide,Tryz.f33,_,Tryz.func33,rfl,rfl,by kernel_rfl,by kernel_rfl⟩
end Se
end Go.Proofs.YtddmlennnmpnhaaGreatDoor
namespace Go.Proofs.YtddmlennnmpnhaaGreatDoor
open Go Go.RowKit Vc
set_option linter.unusedVariables false
set_option linter.unusedSimpArgs false
attribute [local irreducible] T Za Zn Ent RdC RwC Yd Ze Zh
theorem Uu(b neg:Bool)(l:List Int):GC Tryz.prog 35 [.a (.loc 0 0),.a (.bool neg),.a (.ref 1)] [(0,.cells 34 [.bool b,.raw (.slice none 0 0)]),(1,.row 90 (.int .u32) l)] 2 [0,1] (.one (.a (.loc 0 0)))
 [(0,.cells 34 [.bool (neg&&decide (0<l.length)),.ref 1]),(1,.row 90 (.int .u32) l)] 2:=by
 refine Wa.fn.gc (by simp) (by simp[Zu,Zw,Zv,Zj,Zf,Vc.S1.okN,At.okN,SV.okN,Res.okN,Res.outOk,Zo,Res.own,Value.oneCell']) fun w X fr=> ?_
 have e:decide ((0:Int)<(l.length:Int))=decide (0<l.length):=by simp
 cases neg
 ·repeat'(first|(first|refine Stp.h ?_)<;>try simp only[Zc,simprocAttr,↓reduceIte,reduceCtorEq,implies_true,Bool.false_and]|(with_reducible first|assumption|refine And.intro ?_ ?_)|(intro h;first|omega|exact tg h ‹_›|exact tg ‹_› h|skip))
 ·repeat'(first|(first|refine Stp.h ?_)<;>try simp only[Zc,simprocAttr,↓reduceIte,reduceCtorEq,implies_true,e,Bool.true_and]|(with_reducible first|assumption|refine And.intro ?_ ?_)|(intro h;first|omega|exact tg h ‹_›|exact tg ‹_› h|skip))
theorem Ov(b neg:Bool)(l o:List Int):GC Tryz.prog 35 [.a (.loc 0 0),.a (.bool neg),.a (.ref 1)] [(0,.cells 34 [.bool b,.ref 2]),(1,.row 90 (.int .u32) l),(2,.row 90 (.int .u32) o)] 3 [0,1] (.one (.a (.loc 0 0)))
 [(0,.cells 34 [.bool (neg&&decide (0<l.length)),.ref 1]),(1,.row 90 (.int .u32) l)] 3:=by
 refine Wa.fn.gc (by simp) (by simp[Zu,Zw,Zv,Zj,Zf,Vc.S1.okN,At.okN,SV.okN,Res.okN,Res.outOk,Zo,Res.own,Value.oneCell']) fun w X fr=> ?_
 have e:decide ((0:Int)<(l.length:Int))=decide (0<l.length):=by simp
 cases neg
 ·repeat'(first|(first|refine Stp.h ?_)<;>try simp only[Zc,simprocAttr,↓reduceIte,reduceCtorEq,implies_true,Bool.false_and]|(with_reducible first|assumption|refine And.intro ?_ ?_)|(intro h;first|omega|exact tg h ‹_›|exact tg ‹_› h|skip))
 ·repeat'(first|(first|refine Stp.h ?_)<;>try simp only[Zc,simprocAttr,↓reduceIte,reduceCtorEq,implies_true,e,Bool.true_and]|(with_reducible first|assumption|refine And.intro ?_ ?_)|(intro h;first|omega|exact tg h ‹_›|exact tg ‹_› h|skip))
theorem F1(b:Bool)(x:Nat)(hx:x<18446744073709551616):GC Tryz.prog 50 [.a (.loc 0 0),.a (.int .u64 (x:Int))] [(0,.cells 34 [.bool b,.raw (.slice none 0 0)])] 1 [0] (.one (.a (.loc 0 0)))
 [(0,.cells 34 [.bool false,.ref 1]),(1,.row 90 (.int .u32) (wds x))] 2:=by
 have hW:=Lr x hx
 have hG:=Uu b false (wds x)
 simp only[Bool.false_and]at hG
 refine Wm.fn.gc (by simp) (by simp[Zu,Zw,Zv,Zj,Zf,Vc.S1.okN,At.okN,SV.okN,Res.okN,Res.outOk,Zo,Res.own,Value.oneCell']) fun w X fr=> ?_
 repeat'(first|(first|refine Stp.h ?_|(refine Za.gc hW ?_ ?_;focus simp[Zb];done)|(refine Za.gc hG ?_ ?_;focus simp[Zb];done))<;>try simp only[Zc,simprocAttr,↓reduceIte,reduceCtorEq,implies_true]|(with_reducible first|assumption|refine And.intro ?_ ?_)|(intro h;first|omega|exact tg h ‹_›|exact tg ‹_› h|skip))
theorem Qw(x:Nat)(hx:x<18446744073709551616):GC Tryz.prog 34 [.a (.int .u64 (x:Int))] [] 0 [] (.one (.a (.loc 0 0)))
 [(0,.cells 34 [.bool false,.ref 1]),(1,.row 90 (.int .u32) (wds x))] 2:=by
 have hS:=F1 false x hx
 refine Tc.fn.gc (by simp) (by simp[Zu,Zw,Zv,Zj,Zf,Vc.S1.okN,At.okN,SV.okN,Res.okN,Res.outOk,Zo,Res.own,Value.oneCell']) fun w X fr=> ?_
 repeat'(first|(first|refine Stp.h ?_|(refine Za.gc hS ?_ ?_;focus simp[Zb];done))<;>try simp only[Zc,simprocAttr,↓reduceIte,reduceCtorEq,implies_true]|(with_reducible first|assumption|refine And.intro ?_ ?_)|(intro h;first|omega|exact tg h ‹_›|exact tg ‹_› h|skip))
theorem Gs(x:Nat)(hx:x<9223372036854775808):GC Tryz.prog 49 [.a (.int .i64 (x:Int))] [] 0 [] (.one (.a (.loc 0 0)))
 [(0,.cells 34 [.bool false,.ref 1]),(1,.row 90 (.int .u32) (wds x))] 2:=by
 have hW:=Lr x (by omega)
 have hG:=Uu false false (wds x)
 simp only[Bool.false_and]at hG
 have w1:IntKind.u64.wrap (x:Int)=x:=by rw[IntWalk.u64_in _ (by omega)]
 have x0:¬(x:Int)<0:=by omega
 have hS:GC Tryz.prog 26 [.a (.loc 0 0),.a (.int .i64 (x:Int))] [(0,.cells 34 [.bool false,.raw (.slice none 0 0)])] 1 [0] (.one (.a (.loc 0 0)))
  [(0,.cells 34 [.bool false,.ref 1]),(1,.row 90 (.int .u32) (wds x))] 2:=by
  refine Wy.fn.gc (by simp) (by simp[Zu,Zw,Zv,Zj,Zf,Vc.S1.okN,At.okN,SV.okN,Res.okN,Res.outOk,Zo,Res.own,Value.oneCell']) fun w X fr=> ?_
  repeat'(first|(first|refine Stp.h ?_|(refine Za.gc hW ?_ ?_;focus simp[Zb];done)|(refine Za.gc hG ?_ ?_;focus simp[Zb];done))<;>try simp only[Zc,simprocAttr,↓reduceIte,reduceCtorEq,implies_true,w1,x0,decide_false]|(with_reducible first|assumption|refine And.intro ?_ ?_)|(intro h;first|omega|exact tg h ‹_›|exact tg ‹_› h|skip))
 refine U8.fn.gc (by simp) (by simp[Zu,Zw,Zv,Zj,Zf,Vc.S1.okN,At.okN,SV.okN,Res.okN,Res.outOk,Zo,Res.own,Value.oneCell']) fun w X fr=> ?_
 repeat'(first|(first|refine Stp.h ?_|(refine Za.gc hS ?_ ?_;focus simp[Zb];done))<;>try simp only[Zc,simprocAttr,↓reduceIte,reduceCtorEq,implies_true]|(with_reducible first|assumption|refine And.intro ?_ ?_)|(intro h;first|omega|exact tg h ‹_›|exact tg ‹_› h|skip))
theorem F2(b n:Bool)(l:List Int)(hl:l.length≤1000)(hn:n=(n&&decide (0<l.length))):GC Tryz.prog 48 [.a (.loc 0 0),.a (.loc 1 0)] [(0,.cells 34 [.bool b,.raw (.slice none 0 0)]),(1,.rocells [.bool n,.ref 2]),(2,.ro (.int .u32) l)] 3 [0] (.one (.a (.loc 0 0)))
 [(0,.cells 34 [.bool n,.ref 3]),(3,.row 90 (.int .u32) l)] 4:=by
 have hT:=Ze3 l hl
 have hG:=Uu b n l
 rw[←hn]at hG
 refine Ul.fn.gc (by simp) (by simp[Zu,Zw,Zv,Zj,Zf,Vc.S1.okN,At.okN,SV.okN,Res.okN,Res.outOk,Zo,Res.own,Value.oneCell']) fun w X fr=> ?_
 repeat'(first|(first|refine Stp.h ?_|(refine Za.gc hT ?_ ?_;focus simp[Zb];done)|(refine Za.gc hG ?_ ?_;focus simp[Zb];done))<;>try simp only[Zc,simprocAttr,↓reduceIte,reduceCtorEq,implies_true]|(with_reducible first|assumption|refine And.intro ?_ ?_)|(intro h;first|omega|exact tg h ‹_›|exact tg ‹_› h|skip))
theorem Pk(x:Nat)(hx:x<18446744073709551616)(n:Bool):GC Tryz.prog 42 [.a (.loc 0 0)] [(0,.rocells [.bool n,.ref 1]),(1,.ro (.int .u32) (wds x))] 2 [] (.one (.a (.int .u64 (x:Int)))) [] 2:=by
 refine Vl.fn.gc (by simp) (by simp[Zu,Zw,Zv,Zj,Zf,Vc.S1.okN,At.okN,SV.okN,Res.okN,Res.outOk,Zo,Res.own,Value.oneCell']) fun w X fr=> ?_
 have d0:(Kd.int .u32).dflt=(0:Int):=rfl
 have c1:((1:Nat):Int)=1:=rfl
 have c0:((0:Nat):Int)=0:=rfl
 have c2:((2:Nat):Int)=2:=rfl
 rcases wds_cases x hx with⟨rfl,e⟩|⟨h0,h1,e⟩|⟨h1,e⟩<;>rw[e]
 ·repeat'(first|(first|refine Stp.h ?_)<;>try simp only[Zc,simprocAttr,↓reduceIte,reduceCtorEq,implies_true,List.length_nil,c0]|(with_reducible first|assumption|refine And.intro ?_ ?_)|(intro h;first|omega|exact tg h ‹_›|exact tg ‹_› h|skip))
 ·have w1:IntKind.u64.wrap (x:Int)=x:=by rw[IntWalk.u64_in _ (by omega)]
  repeat'(first|(first|refine Stp.h ?_)<;>try simp only[Zc,simprocAttr,↓reduceIte,reduceCtorEq,implies_true,w1,Int.reduceToNat,List.length_cons,List.length_nil,List.getD_cons_zero,Nat.zero_add,c1,d0]|(with_reducible first|assumption|refine And.intro ?_ ?_)|(intro h;first|omega|exact tg h ‹_›|exact tg ‹_› h|skip))
 ·have hl:((x%4294967296:Nat):Int)<4294967296:=by omega
  have hh:((x/4294967296:Nat):Int)<4294967296:=by omega
  have w1:IntKind.u64.wrap ((x%4294967296:Nat):Int)=((x%4294967296:Nat):Int):=by rw[IntWalk.u64_in _ (by omega)]
  have w2:IntKind.u64.wrap ((x/4294967296:Nat):Int)=((x/4294967296:Nat):Int):=by rw[IntWalk.u64_in _ (by omega)]
  have w3:Sn .u64 ((x/4294967296:Nat):Int) 32=((x/4294967296:Nat):Int)*4294967296:=by
   show IntKind.u64.wrap (((x/4294967296:Nat):Int)*2^32)=_
   rw[IntWalk.u64_in _ (by omega)];rfl
  have w4:=Zeq ((x%4294967296:Nat):Int) ((x/4294967296:Nat):Int) ⟨by omega,hl⟩ ⟨by omega,hh⟩
  have w5:((x%4294967296:Nat):Int)+4294967296*((x/4294967296:Nat):Int)=x:=by omega
  rw[w5]at w4
  generalize ((x%4294967296:Nat):Int)=a at*
  generalize ((x/4294967296:Nat):Int)=b at*
  repeat'(first|(first|refine Stp.h ?_)<;>try simp only[Zc,simprocAttr,↓reduceIte,reduceCtorEq,implies_true,w1,w2,w3,w4,Int.reduceToNat,List.length_cons,List.length_nil,List.getD_cons_zero,List.getD_cons_succ,Nat.zero_add,c1,c2,d0]|(with_reducible first|assumption|refine And.intro ?_ ?_)|(intro h;first|omega|exact tg h ‹_›|exact tg ‹_› h|skip))
theorem Zff(x:Nat)(hx:x<9223372036854775808):GC Tryz.prog 43 [.a (.loc 0 0)] [(0,.rocells [.bool false,.ref 1]),(1,.ro (.int .u32) (wds x))] 2 [] (.one (.a (.int .i64 (x:Int)))) [] 2:=by
 have hU:=Pk x (by omega) false
 have w1:IntKind.i64.wrap (x:Int)=x:=Zk (by omega) (by omega)
 refine Vq.fn.gc (by simp) (by simp[Zu,Zw,Zv,Zj,Zf,Vc.S1.okN,At.okN,SV.okN,Res.okN,Res.outOk,Zo,Res.own,Value.oneCell']) fun w X fr=> ?_
 repeat'(first|(first|refine Stp.h ?_|(refine Za.gc hU ?_ ?_;focus simp[Zb];done))<;>try simp only[Zc,simprocAttr,↓reduceIte,reduceCtorEq,implies_true,w1]|(with_reducible first|assumption|refine And.intro ?_ ?_)|(intro h;first|omega|exact tg h ‹_›|exact tg ‹_› h|skip))
theorem L9:∀n,nv (List.replicate n 0)=0
 |0=>rfl
 |n+1=>by rw[List.replicate_succ,nv,L9 n];rfl
theorem Qk:∀(l:List Int) (k:Nat) (v:Int),k<l.length→nv (l.set k v)=nv l+p32 k*(v-l.getD k 0)
 | [],k,v,h=>by simp at h
 |a::l,0,v,h=>by simp[nv,p32];omega
 |a::l,k+1,v,h=>by
  have ih:=Qk l k v (by simpa using h)
  rw[List.set_cons_succ,nv,nv,ih,p32,Int.mul_add,Int.mul_assoc]
  have:(a::l).getD (k+1) 0=l.getD k 0:=rfl
  rw[this];omega
theorem Lp(n:Nat):wOk (List.replicate n 0):=fun j=>by
 rw[List.getD_eq_getElem?_getD,List.getElem?_replicate];split<;>simp[w32]
theorem Sr{l:List Int}(h:wOk l){k:Nat}{v:Int}(hv:w32 v):wOk (l.set k v):=fun j=>by
 rw[List.getD_eq_getElem?_getD,List.getElem?_set]
 split
 ·split
  ·exact hv
  ·simp[w32]
 ·rw[←List.getD_eq_getElem?_getD];exact h j
theorem Lc:∀n,p32 n=2^(32*n)
 |0=>rfl
 |n+1=>by rw[p32,Lc n,show 32*(n+1)=32*n+32 by omega,Int.pow_add,Int.mul_comm];rfl
theorem Mj(v:Int)(h:w32 v):orI .u32 0 v=v:=by
 unfold w32 at h
 have e:(BitVec.ofInt 32 0|||BitVec.ofInt 32 v).toNat=v.toNat:=by
  have e0:BitVec.ofInt 32 0=0#32:=rfl
  rw[e0,BitVec.zero_or,BitVec.toNat_ofInt]
  have:((2^32:Nat):Int)=4294967296:=by decide
  rw[this];omega
 show IntKind.u32.wrap ((BitVec.ofInt 32 0|||BitVec.ofInt 32 v).toNat:Nat)=v
 rw[e,IntWalk.u32_in _ (by omega)];omega
set_option maxHeartbeats 4000000 in
theorem Zbg(n:Nat)(hn:n≤64):GC Tryz.prog 47 [.a (.ref 0),.a (.int .u64 (n:Int))] [(0,.ro (.int .u32) [1])] 1 [] (.one (.a (.ref 1))) [(1,.row 90 (.int .u32) (wds (2^n)))] 2:=by
 obtain⟨w,s,hw,hs⟩:∃w s,n=32*w+s∧s<32:=⟨n/32,n%32,by omega,by omega⟩
 have hps:(0:Int)<2^s∧(2:Int)^s<4294967296:=by
  have h1:(2:Nat)^s<2^32:=Nat.pow_lt_pow_right (by decide) hs
  have h2:0<(2:Nat)^s:=Nat.pow_pos (by decide)
  have h3:((2^s:Nat):Int)=(2:Int)^s:=by simp
  omega
 have q1:IntKind.u64.wrap (((n:Nat):Int).tdiv 32)=(w:Int):=by
  rw[Int.tdiv_eq_ediv_of_nonneg (by omega),IntWalk.u64_in _ (by omega)];omega
 have q2:((n:Nat):Int).tmod 32=(s:Int):=by rw[Int.tmod_eq_emod_of_nonneg (by omega)];omega
 have q3:IntKind.i64.wrap (w:Int)=w:=Zk (by omega) (by omega)
 have q4:IntKind.i64.wrap (1+(w:Int))=1+(w:Int):=Zk (by omega) (by omega)
 have q5:IntKind.i64.wrap (1+(w:Int)+1)=(w:Int)+2:=by rw[Zk (by omega) (by omega)];omega
 have q6:((w:Int)+2).toNat=w+2:=by omega
 have q7:(0:Int)≤(w:Int)+2:=by omega
 have q8:(4:Nat)*((w:Int)+2)≤281474976710656:=by omega
 have q9:(w:Int)+2≤4611686018427387904:=by omega
 have d0:(Kd.int .u32).dflt=(0:Int):=rfl
 have c1:((1:Nat):Int)=1:=rfl
 have c2:¬(1:Int)=0:=by decide
 refine Vn.fn.gc (by simp) (by simp[Zu,Zw,Zv,Zj,Zf,Vc.S1.okN,At.okN,SV.okN,Res.okN,Res.outOk,Zo,Res.own,Value.oneCell']) fun w' X fr=> ?_
 repeat'(first|(first|refine Stp.h ?_)<;>try simp only[Zc,simprocAttr,↓reduceIte,reduceCtorEq,implies_true,q1,q2,q3,q4,q5,q6,q7,q8,q9,d0,c1,c2,List.length_cons,List.length_nil,Nat.zero_add,ne_eq,not_false_eq_true]|(with_reducible first|assumption|refine And.intro ?_ ?_)|(intro h;first|omega|exact tg h ‹_›|exact tg ‹_› h|skip))
 all_goals first|omega|skip
 have hL0:(List.replicate (w+2) (0:Int)).length=w+2:=by simp
 have g0:(List.replicate (w+2) (0:Int)).getD w 0=0:=by simp[List.getD]
 have g1:(List.replicate (w+2) (0:Int)).getD (w+1) 0=0:=by simp[List.getD]
 have hvz:nv (List.replicate (w+2) (0:Int))=0:=L9 _
 have hoz:wOk (List.replicate (w+2) (0:Int)):=Lp _
 have hV:(2:Int)^n=p32 w*2^s:=by rw[Lc,hw,Int.pow_add]
 have s1:Sn .u64 1 (s:Int)=2^s:=by
  show IntKind.u64.wrap (1*2^min ((s:Int)).toNat IntKind.u64.bits)=_
  have:min ((s:Int)).toNat IntKind.u64.bits=s:=by show min ((s:Int)).toNat 64=s;omega
  rw[this,Int.one_mul,IntWalk.u64_in _ (by omega)]
 have hN:(2^n:Nat)=((2:Int)^n).toNat:=by
  have:((2^n:Nat):Int)=(2:Int)^n:=by simp
  rw[←this,Int.toNat_natCast]
 generalize (2:Int)^s=V at*
 have s2:IntKind.u32.wrap V=V:=by rw[IntWalk.u32_in _ (by omega)]
 have s3:P0 .u64 V 32=0:=by
  show V/2^32=0
  have:(2:Int)^32=4294967296:=by decide
  rw[this];omega
 have s4:IntKind.u32.wrap 0=0:=rfl
 have o1:=Mj V ⟨by omega,by omega⟩
 have o2:=Mj 0 ⟨by decide,by decide⟩
 have hL1:nv (((List.replicate (w+2) (0:Int)).set w V).set (w+1) 0)=(2:Int)^n∧wOk (((List.replicate (w+2) (0:Int)).set w V).set (w+1) 0)∧(((List.replicate (w+2) (0:Int)).set w V).set (w+1) 0).length=w+2:=by
  have e1:((List.replicate (w+2) (0:Int)).set w V).getD (w+1) 0=0:=by
   rw[List.getD_eq_getElem?_getD,List.getElem?_set_ne (by omega),←List.getD_eq_getElem?_getD,g1]
  refine⟨?_,Sr (Sr hoz ⟨by omega,by omega⟩) ⟨by decide,by decide⟩,by simp⟩
  rw[Qk _ _ _ (by simp),e1,Qk _ _ _ (by simp),g0,hvz,hV]
  simp
 have g2:((List.replicate (w+2) (0:Int)).set w V).getD (w+1) 0=0:=by
  rw[List.getD_eq_getElem?_getD,List.getElem?_set_ne (by omega),←List.getD_eq_getElem?_getD,g1]
 have hL2:((List.replicate (w+2) (0:Int)).set w V).length=w+2:=by simp
 generalize List.replicate (w+2) (0:Int)=L0 at*
 have hT:=Qa ((L0.set w V).set (w+1) 0) hL1.2.1 (by rw[hL1.2.2];omega)
 rw[hL1.1,←hN]at hT
 have i1:IntKind.i64.wrap (0+(w:Int))=w:=by rw[Zk (by omega) (by omega)];omega
 have i2:((w:Nat):Int).toNat=w:=by omega
 have i3:(0:Int)≤w:=by omega
 have i4:(w:Int)<((w+2:Nat):Int):=by omega
 have i5:w<w+2:=by omega
 have i6:IntKind.i64.wrap ((w:Int)+1)=((w+1:Nat):Int):=Zx (by omega)
 have i7:(((w+1:Nat)):Int).toNat=w+1:=by omega
 have i8:(0:Int)≤((w+1:Nat):Int):=by omega
 have i9:((w+1:Nat):Int)<((w+2:Nat):Int):=by omega
 have i10:w+1<w+2:=by omega
 have i11:IntKind.u64.wrap 1=1:=rfl
 have i12:IntKind.i64.wrap 1=1:=rfl
 have c3:¬(1:Int)<1:=by decide
 have c4:(0:Int)<1:=by decide
 have c5:(0:Int)≤0:=by decide
 refine T.loop (ι:= {y:Nat//y≤1}) (fun y=>⟨[(8,.one (.a (.int .i64 (if y.1=0 then 0 else 1)))),(7,.one (.a (.ref 1))),(6,.one (.a (.int .u64 (s:Int)))),(5,.one (.a (.int .i64 (w:Int)))),(0,.one (.a (.ref 0)))],
  [(1,.row 90 (.int .u32) (if y.1=0 then L0 else(L0.set w V).set (w+1) 0)),(0,.ro (.int .u32) [1])],2⟩) (fun y=>1-y.1) ⟨0,by omega⟩ (Ent.mk1 (id) (by simp[Zt])) ?_
 rintro⟨y,hy⟩
 simp only
 by_cases h0:y=0
 ·subst h0
  simp only[↓reduceIte]
  repeat'(first|(first|refine Stp.h ?_)<;>try simp only[Zc,simprocAttr,↓reduceIte,reduceCtorEq,implies_true,hL0,hL2,s1,s2,s3,s4,o1,o2,g0,g2,i1,i2,i3,i4,i5,i6,i7,i8,i9,i10,i11,i12,c1,c4,c5,d0,List.length_cons,List.length_nil,Nat.zero_add,Int.reduceToNat,List.getD_cons_zero,List.length_set]|(with_reducible first|assumption|refine And.intro ?_ ?_)|(intro h;first|omega|exact tg h ‹_›|exact tg ‹_› h|skip))
  all_goals first|omega|exact⟨⟨1,Nat.le_refl _⟩,(Ent.mk1 (id) (by simp[Zt])),by simp only;omega⟩|skip
 ·obtain rfl:y=1:=by omega
  simp only[Nat.reduceEqDiff,↓reduceIte]
  repeat'(first|(first|refine Stp.h ?_|(refine Za.gc hT ?_ ?_;focus simp[Zb];done))<;>try simp only[Zc,simprocAttr,↓reduceIte,reduceCtorEq,implies_true,c1,c3,List.length_cons,List.length_nil,Nat.zero_add]|(with_reducible first|assumption|refine And.intro ?_ ?_)|(intro h;first|omega|exact tg h ‹_›|exact tg ‹_› h|skip))
  all_goals first|omega|skip
theorem Jw:wds 1=[1]:=by rw[Wl (by decide)];rw[show(1:Nat)/4294967296=0 by decide,Yc];rfl
theorem Zfh(n:Nat)(hn:n≤64):GC Tryz.prog 31 [.a (.loc 0 0),.a (.loc 1 0),.a (.int .u64 (n:Int))] [(0,.cells 34 [.bool false,.raw (.slice none 0 0)]),(1,.rocells [.bool false,.ref 2]),(2,.ro (.int .u32) [1])] 3 [0] (.one (.a (.loc 0 0)))
 [(0,.cells 34 [.bool false,.ref 3]),(3,.row 90 (.int .u32) (wds (2^n)))] 4:=by
 have hL:=Zbg n hn
 have hG:=Uu false false (wds (2^n))
 simp only[Bool.false_and]at hG
 refine Wf.fn.gc (by simp) (by simp[Zu,Zw,Zv,Zj,Zf,Vc.S1.okN,At.okN,SV.okN,Res.okN,Res.outOk,Zo,Res.own,Value.oneCell']) fun w X fr=> ?_
 repeat'(first|(first|refine Stp.h ?_|(refine Za.gc hL ?_ ?_;focus simp[Zb];done)|(refine Za.gc hG ?_ ?_;focus simp[Zb];done))<;>try simp only[Zc,simprocAttr,↓reduceIte,reduceCtorEq,implies_true]|(with_reducible first|assumption|refine And.intro ?_ ?_)|(intro h;first|omega|exact tg h ‹_›|exact tg ‹_› h|skip))
theorem Oi(n:Nat)(hn:n≤64):GC Tryz.prog 33 [.a (.int .i64 (n:Int))] [] 0 [] (.one (.a (.loc 0 0)))
 [(0,.cells 34 [.bool false,.ref 1]),(1,.row 90 (.int .u32) (wds (2^n)))] 2:=by
 have hN:=Gs 1 (by decide)
 have hL:=Zfh n hn
 rw[Jw]at hN
 have w1:IntKind.u64.wrap (n:Int)=n:=by rw[IntWalk.u64_in _ (by omega)]
 have c1:((1:Nat):Int)=1:=rfl
 rw[c1]at hN
 refine Se.fn.gc (by simp) (by simp[Zu,Zw,Zv,Zj,Zf,Vc.S1.okN,At.okN,SV.okN,Res.okN,Res.outOk,Zo,Res.own,Value.oneCell']) fun w X fr=> ?_
 repeat'(first|(first|refine Stp.h ?_|(refine Za.gc hN ?_ ?_;focus simp[Zb];done)|(refine Za.gc hL ?_ ?_;focus simp[Zb];done))<;>try simp only[Zc,simprocAttr,↓reduceIte,reduceCtorEq,implies_true,w1]|(with_reducible first|assumption|refine And.intro ?_ ?_)|(intro h;first|omega|exact tg h ‹_›|exact tg ‹_› h|skip))
theorem Za2(x y:Nat)(hx:x<18446744073709551616)(hy:y≠0)(hly:(wds y).length≤1000):GC Tryz.prog 38 [.a (.ref 0),.a (.ref 1)] [(0,.ro (.int .u32) (wds x)),(1,.ro (.int .u32) (wds y))] 2 [] (.tup [.a (.ref 2),.a (.ref 3)])
 [(2,.row 90 (.int .u32) (wds (x/y))),(3,.row 90 (.int .u32) (wds (x%y)))] 4:=by
 have hlx:(wds x).length≤2:=W3 2 x hx
 have hC:=M1 x y (by omega) hly
 have hT:=Ze3 (wds x) (by omega)
 have hl0:¬((wds y).length:Int)=0:=fun e=>hy (Vu.1 (by omega))
 refine Wh.fn.gc (by simp) (by simp[Zu,Zw,Zv,Zj,Zf,Vc.S1.okN,At.okN,SV.okN,Res.okN,Res.outOk,Zo,Res.own,Value.oneCell']) fun w X fr=> ?_
 by_cases hlt:x<y
 ·have hc:cmpI x y= -1:=if_pos hlt
  rw[hc]at hC
  rw[Nat.div_eq_of_lt hlt,Nat.mod_eq_of_lt hlt,Yc]
  have c1:(-1:Int)<0:=by decide
  repeat'(first|(first|refine Stp.h ?_|(refine rq hC ?_ ?_;focus simp[Zz];done)|(refine Za.gc hT ?_ ?_;focus simp[Zb];done))<;>try simp only[Zc,simprocAttr,↓reduceIte,reduceCtorEq,implies_true,hl0,c1,decide_true,decide_false]|(with_reducible first|assumption|refine And.intro ?_ ?_)|(intro h;first|omega|exact tg h ‹_›|exact tg ‹_› h|skip))
  all_goals first|omega|skip
 ·have hc:¬cmpI x y<0:=by unfold cmpI;rw[if_neg hlt];split<;>decide
  generalize cmpI x y=cv at*
  have hPx:=Fj x hx
  have hPy:=Fj y (by omega)
  have hl2:((wds x).length:Int)≤2:=by omega
  have hq:x/y≤x:=Nat.div_le_self x y
  have hr:x%y<y:=Nat.mod_lt _ (by omega)
  have hW1:=Lr (x/y) (by omega)
  have hW2:=Lr (x%y) (by omega)
  have q1:IntKind.u64.wrap (((x:Nat):Int).tdiv (y:Int))=((x/y:Nat):Int):=by
   have e:(x:Int).tdiv (y:Int)=((x/y:Nat):Int):=rfl
   have key:∀q:Nat,q≤x→IntKind.u64.wrap (q:Int)=q:=fun q hq=>IntWalk.u64_in _ (by omega)
   rw[e];exact key _ hq
  have q2:((x:Nat):Int).tmod (y:Int)=((x%y:Nat):Int):=rfl
  have y0:¬(y:Int)=0:=by omega
  repeat'(first|(first|refine Stp.h ?_|(refine rq hC ?_ ?_;focus simp[Zz];done)|(refine rq hPx ?_ ?_;focus simp[Zz];done)|(refine rq hPy ?_ ?_;focus simp[Zz];done)|(refine Za.gc hW1 ?_ ?_;focus simp[Zb];done)|(refine Za.gc hW2 ?_ ?_;focus simp[Zb];done))<;>try simp only[Zc,simprocAttr,↓reduceIte,reduceCtorEq,implies_true,hl0,hc,hl2,q1,q2,y0,decide_true,decide_false,ne_eq,not_false_eq_true]|(with_reducible first|assumption|refine And.intro ?_ ?_)|(intro h;first|omega|exact tg h ‹_›|exact tg ‹_› h|skip))
  all_goals first|omega|skip
theorem Zfi(x y:Nat)(hx:x<18446744073709551616)(hy:y≠0)(hly:(wds y).length≤1000)(b c:Bool):GC Tryz.prog 24 [.a (.loc 0 0),.a (.loc 1 0),.a (.loc 3 0),.a (.loc 5 0)]
 [(0,.cells 34 [.bool b,.raw (.slice none 0 0)]),(1,.rocells [.bool false,.ref 2]),(2,.ro (.int .u32) (wds x)),(3,.rocells [.bool false,.ref 4]),(4,.ro (.int .u32) (wds y)),(5,.cells 34 [.bool c,.raw (.slice none 0 0)])] 6 [0,5] (.tup [.a (.loc 0 0),.a (.loc 5 0)])
 [(0,.cells 34 [.bool false,.ref 6]),(6,.row 90 (.int .u32) (wds (x/y))),(5,.cells 34 [.bool false,.ref 7]),(7,.row 90 (.int .u32) (wds (x%y)))] 8:=by
 have hD:=Za2 x y hx hy hly
 have hG:=Uu b false (wds (x/y))
 have hG2:=Uu c false (wds (x%y))
 simp only[Bool.false_and]at hG hG2
 refine Yw.fn.gc (by simp) (by simp[Zu,Zw,Zv,Zj,Zf,Vc.S1.okN,At.okN,SV.okN,Res.okN,Res.outOk,Zo,Res.own,Value.oneCell']) fun w X fr=> ?_
 repeat'(first|(first|refine Stp.h ?_|(refine Za.gc hD ?_ ?_;focus simp[Zb];done)|(refine Za.gc hG ?_ ?_;focus simp[Zb];done)|(refine Za.gc hG2 ?_ ?_;focus simp[Zb];done))<;>try simp only[Zc,simprocAttr,↓reduceIte,reduceCtorEq,implies_true,bne_self_eq_false]|(with_reducible first|assumption|refine And.intro ?_ ?_)|(intro h;first|omega|exact tg h ‹_›|exact tg ‹_› h|skip))
theorem Zam(x y:Nat)(hx:x<18446744073709551616)(hy:y≠0)(hly:(wds y).length≤1000)(c:Bool):GC Tryz.prog 24 [.a (.loc 0 0),.a (.loc 0 0),.a (.loc 3 0),.a (.loc 5 0)]
 [(0,.cells 34 [.bool false,.ref 2]),(2,.row 90 (.int .u32) (wds x)),(3,.rocells [.bool false,.ref 4]),(4,.ro (.int .u32) (wds y)),(5,.cells 34 [.bool c,.raw (.slice none 0 0)])] 6 [0,5] (.tup [.a (.loc 0 0),.a (.loc 5 0)])
 [(0,.cells 34 [.bool false,.ref 6]),(6,.row 90 (.int .u32) (wds (x/y))),(5,.cells 34 [.bool false,.ref 7]),(7,.row 90 (.int .u32) (wds (x%y)))] 8:=by
 have hD:=Za2 x y hx hy hly
 have hG:=Ov false false (wds (x/y)) (wds x)
 have hG2:=Uu c false (wds (x%y))
 simp only[Bool.false_and]at hG hG2
 refine Yw.fn.gc (by simp) (by simp[Zu,Zw,Zv,Zj,Zf,Vc.S1.okN,At.okN,SV.okN,Res.okN,Res.outOk,Zo,Res.own,Value.oneCell']) fun w X fr=> ?_
 repeat'(first|(first|refine Stp.h ?_|(refine Za.gc hD ?_ ?_;focus simp[Zb];done)|(refine Za.gc hG ?_ ?_;focus simp[Zb];done)|(refine Za.gc hG2 ?_ ?_;focus simp[Zb];done))<;>try simp only[Zc,simprocAttr,↓reduceIte,reduceCtorEq,implies_true,bne_self_eq_false]|(with_reducible first|assumption|refine And.intro ?_ ?_)|(intro h;first|omega|exact tg h ‹_›|exact tg ‹_› h|skip))
theorem Lt(x y:Nat)(hx:x<18446744073709551616)(hy:y≠0)(hly:(wds y).length≤1000)(b c:Bool):GC Tryz.prog 32 [.a (.loc 0 0),.a (.loc 1 0),.a (.loc 3 0),.a (.loc 5 0)]
 [(0,.cells 34 [.bool b,.raw (.slice none 0 0)]),(1,.rocells [.bool false,.ref 2]),(2,.ro (.int .u32) (wds x)),(3,.rocells [.bool false,.ref 4]),(4,.ro (.int .u32) (wds y)),(5,.cells 34 [.bool c,.raw (.slice none 0 0)])] 6 [0,5] (.tup [.a (.loc 0 0),.a (.loc 5 0)])
 [(0,.cells 34 [.bool false,.ref 6]),(6,.row 90 (.int .u32) (wds (x/y))),(5,.cells 34 [.bool false,.ref 7]),(7,.row 90 (.int .u32) (wds (x%y)))] 8:=by
 have hQ:=Zfi x y hx hy hly b c
 have hS:=F2 false false (wds y) hly rfl
 refine Yv.fn.gc (by simp) (by simp[Zu,Zw,Zv,Zj,Zf,Vc.S1.okN,At.okN,SV.okN,Res.okN,Res.outOk,Zo,Res.own,Value.oneCell']) fun w X fr=> ?_
 repeat'(first|(first|refine Stp.h ?_|(refine Za.gc hQ ?_ ?_;focus simp[Zb];done)|(refine Za.gc hS ?_ ?_;focus simp[Zb];done))<;>try simp only[Zc,simprocAttr,↓reduceIte,reduceCtorEq,implies_true]|(with_reducible first|assumption|refine And.intro ?_ ?_)|(intro h;first|omega|exact tg h ‹_›|exact tg ‹_› h|skip))
theorem Zaj(x y:Nat)(hx:x<18446744073709551616)(hy:y≠0)(hly:(wds y).length≤1000)(c:Bool):GC Tryz.prog 32 [.a (.loc 0 0),.a (.loc 0 0),.a (.loc 3 0),.a (.loc 5 0)]
 [(0,.cells 34 [.bool false,.ref 2]),(2,.row 90 (.int .u32) (wds x)),(3,.rocells [.bool false,.ref 4]),(4,.ro (.int .u32) (wds y)),(5,.cells 34 [.bool c,.raw (.slice none 0 0)])] 6 [0,5] (.tup [.a (.loc 0 0),.a (.loc 5 0)])
 [(0,.cells 34 [.bool false,.ref 6]),(6,.row 90 (.int .u32) (wds (x/y))),(5,.cells 34 [.bool false,.ref 7]),(7,.row 90 (.int .u32) (wds (x%y)))] 8:=by
 have hQ:=Zam x y hx hy hly c
 have hS:=F2 false false (wds y) hly rfl
 refine Yv.fn.gc (by simp) (by simp[Zu,Zw,Zv,Zj,Zf,Vc.S1.okN,At.okN,SV.okN,Res.okN,Res.outOk,Zo,Res.own,Value.oneCell']) fun w X fr=> ?_
 repeat'(first|(first|refine Stp.h ?_|(refine Za.gc hQ ?_ ?_;focus simp[Zb];done)|(refine Za.gc hS ?_ ?_;focus simp[Zb];done))<;>try simp only[Zc,simprocAttr,↓reduceIte,reduceCtorEq,implies_true]|(with_reducible first|assumption|refine And.intro ?_ ?_)|(intro h;first|omega|exact tg h ‹_›|exact tg ‹_› h|skip))
theorem Mod_gc(x y:Nat)(hx:x<18446744073709551616)(hy:y≠0)(hly:(wds y).length≤1000)(c:Bool):GC Tryz.prog 41 [.a (.loc 0 0),.a (.loc 1 0),.a (.loc 3 0)]
 [(0,.cells 34 [.bool c,.raw (.slice none 0 0)]),(1,.rocells [.bool false,.ref 2]),(2,.ro (.int .u32) (wds x)),(3,.rocells [.bool false,.ref 4]),(4,.ro (.int .u32) (wds y))] 5 [0] (.one (.a (.loc 0 0)))
 [(0,.cells 34 [.bool false,.ref 5]),(5,.row 90 (.int .u32) (wds (x%y)))] 6:=by
 have hD:=Lt x y hx hy hly false c
 refine Xi.fn.gc (by simp) (by simp[Zu,Zw,Zv,Zj,Zf,Vc.S1.okN,At.okN,SV.okN,Res.okN,Res.outOk,Zo,Res.own,Value.oneCell']) fun w X fr=> ?_
 repeat'(first|(first|refine Stp.h ?_|(refine Za.gc hD ?_ ?_;focus simp[Zb];done))<;>try simp only[Zc,simprocAttr,↓reduceIte,reduceCtorEq,implies_true]|(with_reducible first|assumption|refine And.intro ?_ ?_)|(intro h;first|omega|exact tg h ‹_›|exact tg ‹_› h|skip))
theorem N5(x w:Nat)(hx:x<18446744073709551616)(hw:w≤64):GC Tryz.prog 27 [.a (.loc 0 0),.a (.int .i64 (w:Int))] [(0,.rocells [.bool false,.ref 1]),(1,.ro (.int .u32) (wds x))] 2 [] (.one (.a (.int .u64 ((x%2^w:Nat):Int)))) [] 2:=by
 have hp:2^w≠0:=Nat.ne_of_gt (Nat.pow_pos (by decide))
 have hl:(wds (2^w)).length≤3:=W3 3 _ (by
  have:2^w≤2^64:=Nat.pow_le_pow_right (by decide) hw
  have:(2:Nat)^64<4294967296^3:=by decide
  omega)
 have hT:=Oi w hw
 have hM:=Mod_gc x (2^w) hx hp (by omega) false
 have hle:x%2^w≤x:=Nat.mod_le _ _
 have hU:=Pk (x%2^w) (by omega) false
 refine X8.fn.gc (by simp) (by simp[Zu,Zw,Zv,Zj,Zf,Vc.S1.okN,At.okN,SV.okN,Res.okN,Res.outOk,Zo,Res.own,Value.oneCell']) fun w X fr=> ?_
 repeat'(first|(first|refine Stp.h ?_|(refine Za.gc hT ?_ ?_;focus simp[Zb];done)|(refine Za.gc hM ?_ ?_;focus simp[Zb];done)|(refine Za.gc hU ?_ ?_;focus simp[Zb];done))<;>try simp only[Zc,simprocAttr,↓reduceIte,reduceCtorEq,implies_true]|(with_reducible first|assumption|refine And.intro ?_ ?_)|(intro h;first|omega|exact tg h ‹_›|exact tg ‹_› h|skip))
theorem Sv(w:Nat)(hw:w=16∨w=32∨w=64):GC Tryz.prog 18 [.a (.int .i64 (w:Int))] [] 0 [] (.one (.a (.bool true))) [] 0:=by
 obtain⟨n,hn3,hn,hlt⟩:∃n,n≤3∧[(8:Int),16,32,64].getD n 0=(w:Int)∧∀k,k<n→¬(w:Int)=[(8:Int),16,32,64].getD k 0:=by
  rcases hw with rfl|rfl|rfl
  ·exact⟨1,by decide,rfl,by decide⟩
  ·exact⟨2,by decide,rfl,by decide⟩
  ·exact⟨3,by decide,rfl,by decide⟩
 refine Td.fn.gc (by simp) (by simp[Zu,Zw,Zv,Zj,Zf,Vc.S1.okN,At.okN,SV.okN,Res.okN,Res.outOk,Zo,Res.own,Value.oneCell']) fun w' X fr=> ?_
 repeat'(first|(first|refine Stp.h ?_)<;>try simp only[Zc,simprocAttr,↓reduceIte,reduceCtorEq,implies_true]|(with_reducible first|assumption|refine And.intro ?_ ?_)|(intro h;first|omega|exact tg h ‹_›|exact tg ‹_› h|skip))
 refine T.weak (Ent.litRow (m:=0) (.int .i64) [8,16,32,64] rfl rfl rfl rfl (by decide)) ?_
 simp only[Zc,simprocAttr,↓reduceIte,reduceCtorEq,implies_true]
 have hL:[(8:Int),16,32,64].length=4:=rfl
 generalize [(8:Int),16,32,64]=L at*
 refine T.loop (ι:= {j:Nat//j≤n})
  (fun x=>⟨[(7,.one (.a (.int .i64 (x.1:Int)))),(6,.one (.a (.int .i64 4))),(5,.one (.a (.ref 0))),(0,.one (.a (.int .i64 (w:Int))))],
    [(0,.row 3 (.int .i64) L)],1⟩) (fun x=>n-x.1) ⟨0,by omega⟩ (Ent.mk1 (id) (by simp[Zt])) ?_
 rintro⟨j,hj⟩
 simp only
 have jl:(j:Int)<4:=by omega
 have j0:(0:Int)≤j:=by omega
 have jt:((j:Nat):Int).toNat=j:=by omega
 have jL:j<4:=by omega
 have d0:(Kd.int .i64).dflt=(0:Int):=rfl
 by_cases hn':j=n
 ·subst hn'
  repeat'(first|(first|refine Stp.h ?_)<;>try simp only[Zc,simprocAttr,↓reduceIte,reduceCtorEq,implies_true,jl,j0,jt,jL,hL,hn,d0,decide_true]|(with_reducible first|assumption|refine And.intro ?_ ?_)|(intro h;first|omega|exact tg h ‹_›|exact tg ‹_› h|skip))
  all_goals first|omega|skip
 ·have hw:IntKind.i64.wrap ((j:Int)+1)=((j+1:Nat):Int):=Zx (by omega)
  have hne:=hlt j (by omega)
  repeat'(first|(first|refine Stp.h ?_)<;>try simp only[Zc,simprocAttr,↓reduceIte,reduceCtorEq,implies_true,jl,j0,jt,jL,hL,hw,hne,d0,decide_false]|(with_reducible first|assumption|refine And.intro ?_ ?_)|(intro h;first|omega|exact tg h ‹_›|exact tg ‹_› h|skip))
  all_goals first|omega|exact⟨⟨j+1,by omega⟩,(Ent.mk1 (id) (by simp[Zt])),by simp only;omega⟩|skip
theorem Zfj:GC Tryz.prog 23 [.a (.loc 0 0)] [(0,.rocells [.bool false,.ref 1]),(1,.ro (.int .u32) [])] 2 [] (.one (.a (.int .i64 0))) [] 2:=by
 refine X9.fn.gc (by simp) (by simp[Zu,Zw,Zv,Zj,Zf,Vc.S1.okN,At.okN,SV.okN,Res.okN,Res.outOk,Zo,Res.own,Value.oneCell']) fun w X fr=> ?_
 have c0:((0:Nat):Int)=0:=rfl
 repeat'(first|(first|refine Stp.h ?_)<;>try simp only[Zc,simprocAttr,↓reduceIte,reduceCtorEq,implies_true,List.length_nil,c0,decide_true]|(with_reducible first|assumption|refine And.intro ?_ ?_)|(intro h;first|omega|exact tg h ‹_›|exact tg ‹_› h|skip))
theorem Ds(x w:Nat)(hx:x<18446744073709551616)(hw:w≤64):GC Tryz.prog 19 [.a (.int .u64 (x:Int)),.a (.int .i64 (w:Int)),.a (.bool false)] [] 0 [] (.one (.a (.loc 0 0)))
 [(0,.cells 34 [.bool false,.ref 1]),(1,.row 90 (.int .u32) (wds (x%2^w)))] 2:=by
 have hW:=Qw x hx
 have hF:=N5 x w hx hw
 have hle:x%2^w≤x:=Nat.mod_le _ _
 have hW2:=Qw (x%2^w) (by omega)
 refine Wu.fn.gc (by simp) (by simp[Zu,Zw,Zv,Zj,Zf,Vc.S1.okN,At.okN,SV.okN,Res.okN,Res.outOk,Zo,Res.own,Value.oneCell']) fun w X fr=> ?_
 repeat'(first|(first|refine Stp.h ?_|(refine Za.gc hW ?_ ?_;focus simp[Zb];done)|(refine Za.gc hF ?_ ?_;focus simp[Zb];done)|(refine Za.gc hW2 ?_ ?_;focus simp[Zb];done)|refine Ze.split ?_ ?_|refine Zh.no ?_)<;>try simp only[Zc,simprocAttr,↓reduceIte,reduceCtorEq,implies_true]|(with_reducible first|assumption|refine And.intro ?_ ?_)|(intro h;first|omega|exact tg h ‹_›|exact tg ‹_› h|skip))
def wsp(x m:Nat):List Int:=(List.range m).map fun i=>((x/65536^i%65536:Nat):Int)
theorem Ss(x m:Nat):(wsp x m).length=m:=by simp[wsp]
theorem Zjo(x m:Nat):wsp x (m+1)=wsp x m++[((x/65536^m%65536:Nat):Int)]:=by simp[wsp,List.range_succ]
theorem Og(x m:Nat)(hx:x<18446744073709551616)(hm:m=1∨m=2∨m=4):GC Tryz.prog 29 [.a (.int .u64 (x:Int)),.a (.int .i64 ((16*m:Nat):Int))] [] 0 []
 (.tup [.a (.ref 0),.a (.int .i64 0)]) [(0,.row 3 (.int .i64) (wsp (x%2^(16*m)) m))] 1:=by
 have hW:=Sv (16*m) (by omega)
 have hX:=Qw x hx
 have hF:=N5 x (16*m) hx (by omega)
 have hle:x%2^(16*m)≤x:=Nat.mod_le _ _
 have hY:=Qw (x%2^(16*m)) (by omega)
 have hT:=Oi 16 (by decide)
 have c16:((16:Nat):Int)=16:=rfl
 have e16:2^16=65536:=by decide
 rw[c16,e16]at hT
 have q1:((16*m:Nat):Int).tdiv 16=(m:Int):=by rw[Int.tdiv_eq_ediv_of_nonneg (by omega)];omega
 have q2:IntKind.i64.wrap (m:Int)=m:=Zk (by omega) (by omega)
 refine Tb.fn.gc (by simp) (by simp[Zu,Zw,Zv,Zj,Zf,Vc.S1.okN,At.okN,SV.okN,Res.okN,Res.outOk,Zo,Res.own,Value.oneCell']) fun w X fr=> ?_
 generalize x%2^(16*m)=y at*
 repeat'(first|(first|refine Stp.h ?_|(refine Za.gc hW ?_ ?_;focus simp[Zb];done)|(refine Za.gc hX ?_ ?_;focus simp[Zb];done)|(refine Za.gc hF ?_ ?_;focus simp[Zb];done)|(refine Za.gc hY ?_ ?_;focus simp[Zb];done))<;>try simp only[Zc,simprocAttr,↓reduceIte,reduceCtorEq,implies_true,decide_true,decide_false]|(with_reducible first|assumption|refine And.intro ?_ ?_)|(intro h;first|omega|exact tg h ‹_›|exact tg ‹_› h|skip))
 all_goals first|omega|skip
 refine T.weak (Ent.nilRow (t:=7) 3 (.int .i64) rfl) ?_
 simp only[Zc,simprocAttr,↓reduceIte,reduceCtorEq,implies_true]
 have hy:y<18446744073709551616:=by omega
 refine T.loop (ι:= {j:Nat//j≤m})
  (fun j=>⟨[(7,.one (.a (.ref 2))),(8,.one (.a (.int .i64 (j.1:Int)))),(6,.one (.a (.loc 0 0))),(1,.one (.a (.int .i64 ((16*m:Nat):Int))))],
    [(2,.row 3 (.int .i64) (wsp y j.1)),(0,.cells 34 [.bool false,.ref 1]),(1,.row 90 (.int .u32) (wds (y/65536^j.1)))],3⟩) (fun j=>m-j.1) ⟨0,by omega⟩ (Ent.mk1 (fun n=>if n=0 then 2 else if n=1 then 3 else 4) (by simp[Zt,Nat.pow_zero,Nat.div_one,wsp,List.range_zero,List.map_nil])) ?_
 rintro⟨j,hj⟩
 simp only
 by_cases hjm:j<m
 ·have jl:(j:Int)<m:=by omega
  have hw:IntKind.i64.wrap ((j:Int)+1)=((j+1:Nat):Int):=Zx (by omega)
  have hq:y/65536^j≤y:=Nat.div_le_self _ _
  have hl5:=W3 1 65536 (by decide)
  have hD:=Zaj (y/65536^j) 65536 (by omega) (by decide) (by omega) false
  have hr:y/65536^j%65536<65536:=Nat.mod_lt _ (by decide)
  have hI:=Zff (y/65536^j%65536) (by omega)
  have hs:=Zjo y j
  have hsl:=Ss y j
  have e2:y/65536^(j+1)=y/65536^j/65536:=by rw[Nat.pow_succ,Nat.div_div_eq_div_mul]
  have w1:IntKind.i64.wrap ((y/65536^j%65536:Nat):Int)=((y/65536^j%65536:Nat):Int):=by
   generalize y/65536^j%65536=r at*
   exact Zk (by omega) (by omega)
  have hsp:(wsp y j).length≤1000:=by omega
  generalize y/65536^j=z at*
  generalize wsp y j=L at*
  by_cases hj0:j=0
  ·subst hj0
   have hw0:IntKind.i64.wrap (0+1)=((0+1:Nat):Int):=rfl
   have j00:((0:Nat):Int)=0:=rfl
   repeat'(first|(first|refine Stp.h ?_|(refine Za.gc hT ?_ ?_;focus simp[Zb];done)|(refine Za.gc hD ?_ ?_;focus simp[Zb];done)|(refine Za.gc hI ?_ ?_;focus simp[Zb];done)|refine Ze.split ?_ ?_|refine Zh.no ?_)<;>try simp only[Zc,simprocAttr,↓reduceIte,reduceCtorEq,implies_true,jl,j00,q1,q2,hw0,w1,decide_true,decide_false]|(with_reducible first|assumption|refine And.intro ?_ ?_)|(intro h;first|omega|exact tg h ‹_›|exact tg ‹_› h|skip))
   all_goals first|omega|exact⟨⟨0+1,hjm⟩,(Ent.mk1 (fun n=>if n=2 then 9 else if n=1 then 6 else n) (by simp[Zt,hs,e2])),by simp only;omega⟩|skip
  ·have j00:¬(j:Int)=0:=by omega
   repeat'(first|(first|refine Stp.h ?_|(refine Za.gc hT ?_ ?_;focus simp[Zb];done)|(refine Za.gc hD ?_ ?_;focus simp[Zb];done)|(refine Za.gc hI ?_ ?_;focus simp[Zb];done)|refine Ze.split ?_ ?_|refine Zh.no ?_)<;>try simp only[Zc,simprocAttr,↓reduceIte,reduceCtorEq,implies_true,jl,j00,q1,q2,hw,w1,decide_true,decide_false]|(with_reducible first|assumption|refine And.intro ?_ ?_)|(intro h;first|omega|exact tg h ‹_›|exact tg ‹_› h|skip))
   all_goals first|omega|exact⟨⟨j+1,hjm⟩,(Ent.mk1 (fun n=>if n=2 then 9 else if n=1 then 6 else n) (by simp[Zt,hs,e2])),by simp only;omega⟩|skip
 ·obtain rfl:j=m:=by omega
  have j00:¬(j:Int)=0:=by omega
  have jl:¬(j:Int)<j:=by omega
  repeat'(first|(first|refine Stp.h ?_|(refine Za.gc hT ?_ ?_;focus simp[Zb];done)|refine Ze.split ?_ ?_|refine Zh.no ?_)<;>try simp only[Zc,simprocAttr,↓reduceIte,reduceCtorEq,implies_true,jl,j00,q1,q2,decide_true,decide_false]|(with_reducible first|assumption|refine And.intro ?_ ?_)|(intro h;first|omega|exact tg h ‹_›|exact tg ‹_› h|skip))
  all_goals first|omega|skip
def apB(p n q m:Int):Bool:=decide (0≤p)&&decide (0≤q)&&decide (p≤IntKind.i64.wrap (65536-n))&&decide (q≤IntKind.i64.wrap (65536-m))&&(decide (IntKind.i64.wrap (p+n)≤q)||decide (IntKind.i64.wrap (q+m)≤p))
set_option maxHeartbeats 4000000 in
theorem Vf(p n q m:Int):GC Tryz.prog 28 [.a (.int .i64 p),.a (.int .i64 n),.a (.int .i64 q),.a (.int .i64 m)] [] 0 [] (.one (.a (.bool (apB p n q m)))) [] 0:=by
 unfold apB
 obtain⟨b1,h1⟩:∃b,decide (0≤p)=b:=⟨_,rfl⟩
 obtain⟨b2,h2⟩:∃b,decide (0≤q)=b:=⟨_,rfl⟩
 obtain⟨b3,h3⟩:∃b,decide (p≤IntKind.i64.wrap (65536-n))=b:=⟨_,rfl⟩
 obtain⟨b4,h4⟩:∃b,decide (q≤IntKind.i64.wrap (65536-m))=b:=⟨_,rfl⟩
 obtain⟨b5,h5⟩:∃b,decide (IntKind.i64.wrap (p+n)≤q)=b:=⟨_,rfl⟩
 obtain⟨b6,h6⟩:∃b,decide (IntKind.i64.wrap (q+m)≤p)=b:=⟨_,rfl⟩
 rw[h1,h2,h3,h4,h5,h6]
 refine Ta.fn.gc (by simp) (by simp[Zu,Zw,Zv,Zj,Zf,Vc.S1.okN,At.okN,SV.okN,Res.okN,Res.outOk,Zo,Res.own,Value.oneCell']) fun w' X fr=> ?_
 rcases b1 with _|_
 rotate_left
 rcases b2 with _|_
 rotate_left
 rcases b3 with _|_
 rotate_left
 rcases b4 with _|_
 rotate_left
 rcases b5 with _|_
 rcases b6 with _|_
 all_goals
  repeat'(first|(first|refine Stp.h ?_)<;>try simp only[Zc,simprocAttr,↓reduceIte,reduceCtorEq,implies_true,h1,h2,h3,h4,h5,h6,Bool.and_true,Bool.and_false,Bool.true_and,Bool.false_and,Bool.or_true,Bool.or_false,Bool.true_or,Bool.false_or]|(with_reducible first|assumption|refine And.intro ?_ ?_)|(intro h;first|omega|exact tg h ‹_›|exact tg ‹_› h|skip))
theorem My{p n q m:Int}(hp: -9223372036854775808≤p∧p≤9223372036854775807)(hq: -9223372036854775808≤q∧q≤9223372036854775807)(hn:0≤n∧n≤65536)(hm:0≤m∧m≤65536):
 apB p n q m=true↔0≤p∧0≤q∧p+n≤65536∧q+m≤65536∧(p+n≤q∨q+m≤p):=by
 unfold apB
 rw[Zk (n:=65536-n) (by omega) (by omega),Zk (n:=65536-m) (by omega) (by omega)]
 simp only[Bool.and_eq_true,Bool.or_eq_true,decide_eq_true_eq]
 by_cases h:0≤p∧0≤q∧p≤65536-n∧q≤65536-m
 ·rw[Zk (n:=p+n) (by omega) (by omega),Zk (n:=q+m) (by omega) (by omega)]
  omega
 ·omega
end Go.Proofs.YtddmlennnmpnhaaGreatDoor
