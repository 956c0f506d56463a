/- A part of the proofs of this seat's laws: steps on the way, joined. It has no conditions of its own. -/
import Derived.Test.YtbmecnjmbhokgaaGreatDoorQh
import Derived.Test.YtbmecnjmbhokgaaGreatDoorChecked
import Derived.KernelRfl
import Derived.Test.YtbmecnjmbhokgaaGreatDoorQi
import Derived.Test.YtbmecnjmbhokgaaGreatDoorQl
import Derived.Test.YtbmecnjmbhokgaaGreatDoorQs
namespace Go.Proofs.YtbmecnjmbhokgaaGreatDoor
open Vc
namespace Mv
abbrev r0:List In:=[i1 2 (.mv (kB false))]
abbrev r1:List In:=[mv 3 0, i1 4 (.sidx (.t 3) (kI 0)), i1 5 (.bin .eql (.t 4) (.k (.a (.int .u8 46)))), mv 2 5]
abbrev code:IC:=.seq (.reg r0) (.seq (.reg r1) .ret)
abbrev res:List RV:=[.tmp 2]
theorem fn:Body Tryz.prog 63 6 code res:=⟨by decide,Tryz.f63,_,Tryz.func63,rfl,rfl,by kernel_rfl,by kernel_rfl⟩
end Mv
namespace Of
noncomputable abbrev r0:List In:=[i1 2 (.mv (.k (.a (.raw (.map none))))), i1 3 (.alloc 80 [.int .i64 0,.int .i64 0])]
noncomputable abbrev r1:List In:=[mv 14 0, i1 15 (.len (.t 14)), i1 16 (.bin .gtr (.t 15) (kI 400))]
noncomputable abbrev r2:List In:=[i1 17 (.build [.int .i64 0,.int .i64 0] [(0,1,(kI 5))]), i1 2 (.mv (.k (.a (.raw (.map none))))), i0 (.store 2 (.t 3) (.t 17))]
noncomputable abbrev r3:List In:=[i1 18 (.mkmap Tryz.prog 9 3 (.int .i64)), mv 4 18]
noncomputable abbrev r4:List In:=[mv 19 0, i1 20 (.len (.t 19)), i1 21 (.mv (kI 0))]
noncomputable abbrev r5:List In:=[i1 22 (.bin .lss (.t 21) (.t 20))]
noncomputable abbrev r6:List In:=[mv 23 21, i1 24 (.iaddr 2 (.t 19) (.t 21)), i1 25 (.load 2 true (.t 24)), i1 6 (.alloc 75 [.str [],.raw (.slice none 0 0)]), mv 5 23, i0 (.store 2 (.t 6) (.t 25))]
noncomputable abbrev r7:List In:=[i1 26 (.faddr 1 (.t 6)), i1 27 (.load 1 false (.t 26)), i1 28 (.len (.t 27)), i1 29 (.bin .gtr (.t 28) (kI 40000))]
noncomputable abbrev r8:List In:=[mv 30 5, i1 31 (.build [.int .i64 0,.int .i64 0] [(0,1,(kI 5)),(1,1,(.t 30))]), i1 2 (.mv (.k (.a (.raw (.map none))))), i0 (.store 2 (.t 3) (.t 31))]
noncomputable abbrev r9:List In:=[i1 33 (.faddr 1 (.t 6)), i1 34 (.load 1 false (.t 33)), i1 35 (.call 62 [.t 34,kI 0]), mv 32 35, i1 36 (.ext 0 (.t 32)), i1 37 (.ext 1 (.t 32)), i1 38 (.ext 2 (.t 32)), i1 9 (.alloc 80 [.int .i64 0,.int .i64 0]), mv 7 36, mv 8 37, i0 (.store 2 (.t 9) (.t 38))]
noncomputable abbrev r10:List In:=[i1 39 (.faddr 0 (.t 9)), i1 40 (.load 1 false (.t 39)), i1 41 (.bin .neq (.t 40) (kI 0))]
noncomputable abbrev r11:List In:=[i1 42 (.faddr 0 (.t 9)), i1 43 (.load 1 false (.t 42)), mv 44 5, i1 45 (.build [.int .i64 0,.int .i64 0] [(0,1,(.t 43)),(1,1,(.t 44))]), i1 2 (.mv (.k (.a (.raw (.map none)))))]
noncomputable abbrev r12:List In:=[i0 (.store 2 (.t 3) (.t 45))]
noncomputable abbrev r13:List In:=[mv 46 7, i1 47 (.len (.t 46)), i1 48 (.mv (kI 0))]
noncomputable abbrev r14:List In:=[i1 49 (.bin .lss (.t 48) (.t 47))]
noncomputable abbrev r15:List In:=[i1 50 (.iaddr 2 (.t 46) (.t 48)), i1 51 (.load 2 true (.t 50)), i1 11 (.alloc 109 [.str [],.int .i64 0]), i0 (.store 2 (.t 11) (.t 51))]
noncomputable abbrev r16:List In:=[i1 52 (.faddr 0 (.t 11)), i1 53 (.load 1 false (.t 52)), i1 54 (.call 63 [.t 53])]
noncomputable abbrev r17:List In:=[mv 56 4, i1 57 (.faddr 0 (.t 11)), i1 58 (.load 1 false (.t 57)), i1 59 (.mlook Tryz.prog 9 3 (.int .i64) true (.t 56) (.t 58)), mv 55 59, i1 60 (.ext 0 (.t 55)), i1 61 (.ext 1 (.t 55)), mv 12 60, mv 13 61]
noncomputable abbrev r18:List In:=[mv 62 13]
noncomputable abbrev r19:List In:=[mv 63 5, i1 64 (.build [.int .i64 0,.int .i64 0] [(0,1,(kI 7)),(1,1,(.t 63))]), i1 2 (.mv (.k (.a (.raw (.map none))))), i0 (.store 2 (.t 3) (.t 64))]
noncomputable abbrev r20:List In:=[mv 65 4, i1 66 (.faddr 0 (.t 11)), i1 67 (.load 1 false (.t 66)), mv 68 5, i0 (.mupd Tryz.prog 9 3 (.int .i64) (.t 65) (.t 67) (.t 68))]
noncomputable abbrev r21:List In:=[i1 69 (.bin .add (.t 48) (kI 1)), mv 48 69]
noncomputable abbrev r22:List In:=[i1 70 (.bin .add (.t 21) (kI 1)), mv 21 70]
noncomputable abbrev r23:List In:=[mv 71 4, i1 72 (.build [.int .i64 0,.int .i64 0] []), mv 2 71, i0 (.store 2 (.t 3) (.t 72))]
noncomputable abbrev code:IC:=.seq (.reg r0) (.seq (.seq (.reg r1) (.cond (.t 16) (.seq (.reg r2) .ret) .skip)) (.seq (.reg r3) (.seq (.seq (.reg r4) (.block 0 (.loop (.seq (.reg r5) (.seq (.cond (.t 22) .skip (.exit 0)) (.seq (.block 1 (.seq (.reg r6) (.seq (.seq (.reg r7) (.cond (.t 29) (.seq (.reg r8) .ret) .skip)) (.seq (.reg r9) (.seq (.seq (.reg r10) (.cond (.t 41) (.seq (.dregt r11 r12) .ret) .skip)) (.seq (.reg r13) (.block 2 (.loop (.seq (.reg r14) (.seq (.cond (.t 49) .skip (.exit 2)) (.seq (.block 3 (.seq (.reg r15) (.seq (.seq (.reg r16) (.cond (.t 54) (.exit 3) .skip)) (.seq (.seq (.reg r17) (.seq (.reg r18) (.cond (.t 62) (.seq (.reg r19) .ret) .skip))) (.reg r20))))) (.reg r21)))))))))))) (.reg r22))))))) (.seq (.reg r23) .ret))))
abbrev res:List RV:=[.tmp 2,.cell 3 2 true]
theorem fn:Body Tryz.prog 61 73 code res:=⟨by decide,Tryz.f61,_,Tryz.func61,rfl,rfl,by kernel_rfl,by kernel_rfl⟩
end Of
namespace W8
noncomputable abbrev r0:List In:=[i1 4 (.alloc 78 [.raw (.slice none 0 0),.raw (.slice none 0 0),.raw (.slice none 0 0)]), i1 5 (.alloc 80 [.int .i64 0,.int .i64 0])]
noncomputable abbrev r1:List In:=[mv 34 0, i1 35 (.call 61 [.t 34]), mv 33 35, i1 36 (.ext 0 (.t 33)), i1 37 (.ext 1 (.t 33)), i1 7 (.alloc 80 [.int .i64 0,.int .i64 0]), mv 6 36, i0 (.store 2 (.t 7) (.t 37))]
noncomputable abbrev r2:List In:=[i1 38 (.faddr 0 (.t 7)), i1 39 (.load 1 false (.t 38)), i1 40 (.bin .neq (.t 39) (kI 0))]
noncomputable abbrev r3:DT:=(tk 41 (.build [.raw (.slice none 0 0),.raw (.slice none 0 0),.raw (.slice none 0 0)] []) false
 (al 42 (.load 2 true (.t 7)) false
 (.alt (i0 (.store 3 (.t 4) (.t 41))) false
 (.alt (i0 (.store 2 (.t 5) (.t 42))) false
 .done
 .stop)
 .stop)
 (.alt (i0 (.store 3 (.t 4) (.t 41))) false
 (al 42 (.load 2 true (.t 7)) false
 (.alt (i0 (.store 2 (.t 5) (.t 42))) false
 .done
 .stop)
 .stop)
 .stop)))
noncomputable abbrev r4:List In:=[mv 44 6, mv 45 1, i1 46 (.mlook Tryz.prog 9 3 (.int .i64) true (.t 44) (.t 45)), mv 43 46, i1 47 (.ext 0 (.t 43)), i1 48 (.ext 1 (.t 43)), mv 8 47, mv 9 48]
noncomputable abbrev r5:List In:=[mv 49 9, i1 50 (.un .not (.t 49))]
noncomputable abbrev r6:List In:=[i1 51 (.build [.raw (.slice none 0 0),.raw (.slice none 0 0),.raw (.slice none 0 0)] []), mv 52 0, i1 53 (.len (.t 52)), i1 54 (.build [.int .i64 0,.int .i64 0] [(0,1,(kI 6)),(1,1,(.t 53))]), i0 (.store 3 (.t 4) (.t 51)), i0 (.store 2 (.t 5) (.t 54))]
noncomputable abbrev r7:List In:=[i1 10 (.alloc 78 [.raw (.slice none 0 0),.raw (.slice none 0 0),.raw (.slice none 0 0)])]
noncomputable abbrev r8:List In:=[i1 55 (.mkmap Tryz.prog 9 3 (.int .i64)), i1 11 (.alloc 101 [.raw (.map none)]), i0 (.store 1 (.t 11) (.t 55))]
noncomputable abbrev r9:List In:=[i1 12 (.mv (kI 0))]
noncomputable abbrev r10:List In:=[mv 56 8, i1 57 (.bsl 3 1 1 [.int .i64 0] [(0,1,(.t 56))]), i1 58 (.faddr 1 (.t 10)), i0 (.store 1 (.t 58) (.t 57))]
noncomputable abbrev r11:List In:=[i1 13 (.mv (kI 0))]
noncomputable abbrev r12:List In:=[mv 59 13, i1 60 (.faddr 1 (.t 10)), i1 61 (.load 1 false (.t 60)), i1 62 (.len (.t 61)), i1 63 (.bin .lss (.t 59) (.t 62))]
noncomputable abbrev r13:List In:=[i1 66 (.faddr 1 (.t 10)), i1 67 (.load 1 false (.t 66)), mv 68 13, i1 69 (.iaddr 1 (.t 67) (.t 68)), i1 70 (.load 1 false (.t 69)), mv 14 70]
noncomputable abbrev r14:List In:=[mv 72 0, mv 73 14, i1 74 (.iaddr 2 (.t 72) (.t 73)), i1 75 (.faddr 1 (.t 74)), i1 76 (.load 1 false (.t 75)), mv 77 12, i1 78 (.call 62 [.t 76,.t 77]), mv 71 78, i1 79 (.ext 0 (.t 71)), i1 80 (.ext 1 (.t 71)), i1 81 (.ext 2 (.t 71)), i1 17 (.alloc 80 [.int .i64 0,.int .i64 0]), mv 15 79, mv 16 80, i0 (.store 2 (.t 17) (.t 81))]
noncomputable abbrev r15:List In:=[i1 82 (.faddr 0 (.t 17)), i1 83 (.load 1 false (.t 82)), i1 84 (.bin .neq (.t 83) (kI 0))]
noncomputable abbrev r16:DT:=(tk 85 (.build [.raw (.slice none 0 0),.raw (.slice none 0 0),.raw (.slice none 0 0)] []) false
 (tm 88 14 false
 (al 86 (.faddr 0 (.t 17)) false
 (al 87 (.load 1 false (.t 86)) false
 (tk 89 (.build [.int .i64 0,.int .i64 0] [(0,1,(.t 87)),(1,1,(.t 88))]) false
 (.alt (i0 (.store 3 (.t 4) (.t 85))) false
 (.alt (i0 (.store 2 (.t 5) (.t 89))) false
 .done
 .stop)
 .stop))
 (.alt (i0 (.store 3 (.t 4) (.t 85))) false
 (al 87 (.load 1 false (.t 86)) false
 (tk 89 (.build [.int .i64 0,.int .i64 0] [(0,1,(.t 87)),(1,1,(.t 88))]) false
 (.alt (i0 (.store 2 (.t 5) (.t 89))) false
 .done
 .stop))
 .stop)
 .stop))
 (.alt (i0 (.store 3 (.t 4) (.t 85))) false
 (al 86 (.faddr 0 (.t 17)) false
 (al 87 (.load 1 false (.t 86)) false
 (tk 89 (.build [.int .i64 0,.int .i64 0] [(0,1,(.t 87)),(1,1,(.t 88))]) false
 (.alt (i0 (.store 2 (.t 5) (.t 89))) false
 .done
 .stop))
 .stop)
 .stop)
 .stop))))
noncomputable abbrev r17:List In:=[mv 90 15, i1 91 (.len (.t 90)), i1 92 (.mv (kI 0))]
noncomputable abbrev r18:List In:=[i1 93 (.bin .lss (.t 92) (.t 91))]
noncomputable abbrev r19:List In:=[i1 94 (.iaddr 2 (.t 90) (.t 92)), i1 95 (.load 2 true (.t 94)), i1 19 (.alloc 109 [.str [],.int .i64 0]), i0 (.store 2 (.t 19) (.t 95))]
noncomputable abbrev r20:List In:=[i1 96 (.faddr 0 (.t 19)), i1 97 (.load 1 false (.t 96)), i1 98 (.call 63 [.t 97]), i1 99 (.un .not (.t 98))]
noncomputable abbrev r21:List In:=[i1 100 (.load 1 false (.t 11)), i1 101 (.faddr 0 (.t 19)), i1 102 (.load 1 false (.t 101)), i1 103 (.faddr 1 (.t 19)), i1 104 (.load 1 false (.t 103)), i0 (.mupd Tryz.prog 9 3 (.int .i64) (.t 100) (.t 102) (.t 104))]
noncomputable abbrev r22:List In:=[i1 105 (.faddr 2 (.t 10)), i1 106 (.load 1 false (.t 105)), i1 107 (.load 2 true (.t 19)), i1 108 (.bsl 109 2 1 [.str [],.int .i64 0] [(0,2,(.t 107))]), i1 109 (.app 76 109 2 24 (.t 106) (.t 108)), i1 110 (.faddr 2 (.t 10)), i0 (.store 1 (.t 110) (.t 109))]
noncomputable abbrev r23:List In:=[i1 111 (.bin .add (.t 92) (kI 1)), mv 92 111]
noncomputable abbrev c19:IC:=.seq (.reg r18) (.seq (.cond (.t 93) .skip (.exit 2)) (.seq (.block 3 (.seq (.reg r19) (.seq (.reg r20) (.cond (.t 99) (.seq (.reg r21) (.reg r22)) .skip)))) (.reg r23)))
noncomputable abbrev r24:List In:=[mv 112 16, mv 12 112]
noncomputable abbrev r25:List In:=[mv 113 0, mv 114 14, i1 115 (.iaddr 2 (.t 113) (.t 114)), i1 116 (.faddr 1 (.t 115)), i1 117 (.load 1 false (.t 116)), i1 118 (.len (.t 117)), i1 119 (.mv (kI 0))]
noncomputable abbrev r26:List In:=[i1 120 (.bin .lss (.t 119) (.t 118))]
noncomputable abbrev r27:List In:=[i1 121 (.iaddr 6 (.t 117) (.t 119)), i1 122 (.load 6 true (.t 121)), i1 21 (.alloc 72 [.str [],.int .i64 0,.int .i64 0,.int .i64 0,.int .i64 0,.str []]), i0 (.store 6 (.t 21) (.t 122))]
noncomputable abbrev r28:List In:=[i1 123 (.faddr 5 (.t 21)), i1 124 (.load 1 false (.t 123)), i1 125 (.bin .eql (.t 124) (.k (.a (.str []))))]
noncomputable abbrev r29:List In:=[mv 127 6, i1 128 (.faddr 5 (.t 21)), i1 129 (.load 1 false (.t 128)), i1 130 (.mlook Tryz.prog 9 3 (.int .i64) true (.t 127) (.t 129)), mv 126 130, i1 131 (.ext 0 (.t 126)), i1 132 (.ext 1 (.t 126)), mv 22 131, mv 23 132]
noncomputable abbrev r30:List In:=[i1 133 (.faddr 5 (.t 21)), i1 134 (.load 1 false (.t 133)), i1 135 (.call 63 [.t 134])]
noncomputable abbrev r31:List In:=[mv 136 14, mv 137 15, i1 138 (.mkf 65 [.t 21]), i1 139 (.call 64 [.t 137,.t 138]), mv 22 136, mv 23 139]
noncomputable abbrev r32:List In:=[mv 140 23, i1 141 (.un .not (.t 140))]
noncomputable abbrev r33:List In:=[i1 142 (.build [.raw (.slice none 0 0),.raw (.slice none 0 0),.raw (.slice none 0 0)] []), mv 143 14, i1 144 (.build [.int .i64 0,.int .i64 0] [(0,1,(kI 6)),(1,1,(.t 143))]), i0 (.store 3 (.t 4) (.t 142)), i0 (.store 2 (.t 5) (.t 144))]
noncomputable abbrev r34:List In:=[i1 145 (.faddr 1 (.t 10)), i1 146 (.load 1 false (.t 145)), mv 147 22, i1 148 (.call 66 [.t 146,.t 147]), i1 149 (.un .not (.t 148))]
noncomputable abbrev r35:List In:=[i1 150 (.faddr 1 (.t 10)), i1 151 (.load 1 false (.t 150)), mv 152 22, i1 153 (.bsl 3 1 1 [.int .i64 0] [(0,1,(.t 152))]), i1 154 (.app 42 3 1 8 (.t 151) (.t 153)), i1 155 (.faddr 1 (.t 10)), i0 (.store 1 (.t 155) (.t 154))]
noncomputable abbrev r36:List In:=[i1 156 (.bin .add (.t 119) (kI 1)), mv 119 156]
noncomputable abbrev c41:IC:=.seq (.reg r26) (.seq (.cond (.t 120) .skip (.exit 4)) (.seq (.block 5 (.seq (.reg r27) (.seq (.seq (.reg r28) (.cond (.t 125) (.exit 5) .skip)) (.seq (.reg r29) (.seq (.seq (.reg r30) (.cond (.t 135) (.reg r31) .skip)) (.seq (.seq (.reg r32) (.cond (.t 141) (.seq (.reg r33) .ret) .skip)) (.seq (.reg r34) (.cond (.t 149) (.reg r35) .skip)))))))) (.reg r36)))
noncomputable abbrev r37:List In:=[mv 64 13, i1 65 (.bin .add (.t 64) (kI 1)), mv 13 65]
noncomputable abbrev c52:IC:=.seq (.seq (.reg r12) (.cond (.t 63) .skip (.exit 0))) (.seq (.block 1 (.seq (.reg r13) (.seq (.reg r14) (.seq (.seq (.reg r15) (.cond (.t 84) (.seq (.dany r16) .ret) .skip)) (.seq (.seq (.reg r17) (.block 2 (.loop c19))) (.seq (.reg r24) (.seq (.reg r25) (.block 4 (.loop c41))))))))) (.reg r37))
noncomputable abbrev r38:List In:=[i1 12 (.mv (kI 0))]
noncomputable abbrev r39:List In:=[i1 157 (.faddr 1 (.t 10)), i1 158 (.load 1 false (.t 157)), i1 159 (.len (.t 158)), i1 160 (.mv (kI 0))]
noncomputable abbrev r40:List In:=[i1 161 (.bin .lss (.t 160) (.t 159))]
noncomputable abbrev r41:List In:=[i1 162 (.iaddr 1 (.t 158) (.t 160)), i1 163 (.load 1 false (.t 162)), mv 25 163]
noncomputable abbrev r42:List In:=[mv 165 0, mv 166 25, i1 167 (.iaddr 2 (.t 165) (.t 166)), i1 168 (.faddr 1 (.t 167)), i1 169 (.load 1 false (.t 168)), mv 170 12, i1 171 (.call 62 [.t 169,.t 170]), mv 164 171, i1 172 (.ext 0 (.t 164)), i1 173 (.ext 1 (.t 164)), i1 174 (.ext 2 (.t 164)), i1 26 (.alloc 76 [.raw (.slice none 0 0)]), i1 28 (.alloc 80 [.int .i64 0,.int .i64 0]), i0 (.store 1 (.t 26) (.t 172)), mv 27 173, i0 (.store 2 (.t 28) (.t 174))]
noncomputable abbrev r43:List In:=[mv 176 0, mv 177 25, i1 178 (.iaddr 2 (.t 176) (.t 177)), i1 179 (.faddr 1 (.t 178)), i1 180 (.load 1 false (.t 179)), i1 181 (.mkf 68 [.t 11,.t 26]), i1 182 (.call 67 [.t 180,.t 181]), mv 175 182, i1 183 (.ext 0 (.t 175)), i1 184 (.ext 1 (.t 175)), i1 30 (.alloc 80 [.int .i64 0,.int .i64 0]), mv 29 183, i0 (.store 2 (.t 30) (.t 184))]
noncomputable abbrev r44:List In:=[mv 186 29, i1 187 (.call 71 [.t 186]), mv 185 187, i1 188 (.ext 0 (.t 185)), i1 189 (.ext 1 (.t 185)), i1 32 (.alloc 80 [.int .i64 0,.int .i64 0]), mv 31 188, i0 (.store 2 (.t 32) (.t 189))]
noncomputable abbrev r45:List In:=[i1 190 (.faddr 0 (.t 10)), i1 191 (.load 1 false (.t 190)), mv 192 31, i1 193 (.app 42 3 1 8 (.t 191) (.t 192)), i1 194 (.faddr 0 (.t 10)), i0 (.store 1 (.t 194) (.t 193))]
noncomputable abbrev r46:List In:=[mv 195 27, mv 12 195]
noncomputable abbrev r47:List In:=[i1 196 (.bin .add (.t 160) (kI 1)), mv 160 196]
noncomputable abbrev c65:IC:=.seq (.reg r40) (.seq (.cond (.t 161) .skip (.exit 6)) (.seq (.block 7 (.seq (.reg r41) (.seq (.reg r42) (.seq (.reg r43) (.seq (.reg r44) (.seq (.reg r45) (.reg r46))))))) (.reg r47)))
noncomputable abbrev r48:List In:=[i1 197 (.load 3 true (.t 10)), i1 198 (.build [.int .i64 0,.int .i64 0] []), i0 (.store 3 (.t 4) (.t 197)), i0 (.store 2 (.t 5) (.t 198))]
noncomputable abbrev code:IC:=.seq (.reg r0) (.seq (.reg r1) (.seq (.seq (.reg r2) (.cond (.t 40) (.seq (.dany r3) .ret) .skip)) (.seq (.reg r4) (.seq (.seq (.reg r5) (.cond (.t 50) (.seq (.reg r6) .ret) .skip)) (.seq (.reg r7) (.seq (.reg r8) (.seq (.reg r9) (.seq (.reg r10) (.seq (.seq (.reg r11) (.block 0 (.loop c52))) (.seq (.reg r38) (.seq (.seq (.reg r39) (.block 6 (.loop c65))) (.seq (.reg r48) .ret))))))))))))
abbrev res:List RV:=[.cell 4 3 true,.cell 5 2 true]
theorem fn:Body Tryz.prog 43 199 code res:=⟨by decide,Tryz.f43,_,Tryz.func43,rfl,rfl,by kernel_rfl,by kernel_rfl⟩
end W8
namespace Qb
abbrev r0:List In:=[i1 2 (.box 109 (.t 0)), i1 3 (.mv (kB false))]
abbrev r1:List In:=[i1 4 (.faddr 0 (.t 2)), i1 5 (.load 1 false (.t 4)), i1 6 (.faddr 5 (.t 1)), i1 7 (.load 1 false (.t 6)), i1 8 (.bin .eql (.t 5) (.t 7)), mv 3 8]
abbrev code:IC:=.seq (.reg r0) (.seq (.reg r1) .ret)
abbrev res:List RV:=[.tmp 3]
theorem fn:Body Tryz.prog 65 9 code res:=⟨by decide,Tryz.f65,_,Tryz.func65,rfl,rfl,by kernel_rfl,by kernel_rfl⟩
theorem enters:Xt Tryz.prog 65=true:=by kernel_rfl
end Qb
namespace Qc
noncomputable abbrev r0:List In:=[i1 3 (.box 9 (.t 0)), i1 4 (.mv (kI 0)), i1 5 (.mv (kB false))]
noncomputable abbrev r1:List In:=[i1 7 (.load 1 false (.t 3)), i1 8 (.call 63 [.t 7]), i1 9 (.un .not (.t 8))]
noncomputable abbrev r2:List In:=[i1 10 (.load 1 false (.t 1)), i1 11 (.load 1 false (.t 3)), i1 12 (.mlook Tryz.prog 9 3 (.int .i64) false (.t 10) (.t 11)), mv 4 12, i1 5 (.mv (kB true))]
noncomputable abbrev r3:List In:=[i1 13 (.load 1 false (.t 2)), i1 14 (.mkf 70 [.t 3]), i1 15 (.call 69 [.t 13,.t 14]), mv 6 15]
noncomputable abbrev r4:List In:=[i1 16 (.load 1 false (.t 2)), mv 17 6, i1 18 (.iaddr 2 (.t 16) (.t 17)), i1 19 (.faddr 1 (.t 18)), i1 20 (.load 1 false (.t 19)), mv 4 20, i1 5 (.mv (kB true))]
noncomputable abbrev code:IC:=.seq (.reg r0) (.seq (.seq (.reg r1) (.cond (.t 9) (.seq (.reg r2) .ret) .skip)) (.seq (.reg r3) (.seq (.reg r4) .ret)))
abbrev res:List RV:=[.tmp 4,.tmp 5]
theorem fn:Body Tryz.prog 68 21 code res:=⟨by decide,Tryz.f68,_,Tryz.func68,rfl,rfl,by kernel_rfl,by kernel_rfl⟩
theorem enters:Xt Tryz.prog 68=true:=by kernel_rfl
end Qc
namespace T0
abbrev r0:List In:=[i1 2 (.box 109 (.t 0)), i1 3 (.mv (kB false))]
abbrev r1:List In:=[i1 4 (.faddr 0 (.t 2)), i1 5 (.load 1 false (.t 4)), i1 6 (.load 1 false (.t 1)), i1 7 (.bin .eql (.t 5) (.t 6)), mv 3 7]
abbrev code:IC:=.seq (.reg r0) (.seq (.reg r1) .ret)
abbrev res:List RV:=[.tmp 3]
theorem fn:Body Tryz.prog 70 8 code res:=⟨by decide,Tryz.f70,_,Tryz.func70,rfl,rfl,by kernel_rfl,by kernel_rfl⟩
theorem enters:Xt Tryz.prog 70=true:=by kernel_rfl
end T0
namespace Yf
abbrev r0:List In:=[i1 4 (.mv (kB false))]
abbrev r1:List In:=[mv 5 0, mv 6 1, i1 7 (.call 69 [.t 5,.t 6]), i1 8 (.bin .geq (.t 7) (kI 0)), mv 4 8]
abbrev code:IC:=.seq (.reg r0) (.seq (.reg r1) .ret)
abbrev res:List RV:=[.tmp 4]
theorem fn:Body Tryz.prog 64 9 code res:=⟨by decide,Tryz.f64,_,Tryz.func64,rfl,rfl,by kernel_rfl,by kernel_rfl⟩
end Yf
namespace Vr
abbrev r0:List In:=[i1 4 (.mv (kB false))]
abbrev r1:List In:=[mv 5 0, mv 6 1, i1 7 (.call 82 [.t 5,.t 6]), i1 8 (.bin .geq (.t 7) (kI 0)), mv 4 8]
abbrev code:IC:=.seq (.reg r0) (.seq (.reg r1) .ret)
abbrev res:List RV:=[.tmp 4]
theorem fn:Body Tryz.prog 66 9 code res:=⟨by decide,Tryz.f66,_,Tryz.func66,rfl,rfl,by kernel_rfl,by kernel_rfl⟩
end Vr
namespace Yk
abbrev r0:List In:=[i1 4 (.mv (kI 0))]
abbrev r1:List In:=[mv 6 0, i1 7 (.len (.t 6)), i1 8 (.mv (kI 0))]
abbrev r2:List In:=[i1 9 (.bin .lss (.t 8) (.t 7))]
abbrev r3:List In:=[mv 10 8, mv 5 10]
abbrev r4:List In:=[mv 11 1, mv 12 0, mv 13 5, i1 14 (.iaddr 2 (.t 12) (.t 13)), i1 15 (.load 2 true (.t 14)), i1 16 (.callv (.t 11) [.t 15])]
abbrev r5:List In:=[mv 17 5, mv 4 17]
abbrev r6:List In:=[i1 18 (.bin .add (.t 8) (kI 1)), mv 8 18]
abbrev r7:List In:=[i1 4 (.mv (kI (-1)))]
abbrev code:IC:=.seq (.reg r0) (.seq (.seq (.reg r1) (.block 0 (.loop (.seq (.reg r2) (.seq (.cond (.t 9) .skip (.exit 0)) (.seq (.block 1 (.seq (.reg r3) (.seq (.reg r4) (.cond (.t 16) (.seq (.reg r5) .ret) .skip)))) (.reg r6))))))) (.seq (.reg r7) .ret))
abbrev res:List RV:=[.tmp 4]
theorem fn:Body Tryz.prog 69 19 code res:=⟨by decide,Tryz.f69,_,Tryz.func69,rfl,rfl,by kernel_rfl,by kernel_rfl⟩
end Yk
namespace Um
abbrev r0:List In:=[i1 4 (.mv (kI 0))]
abbrev r1:List In:=[mv 6 0, i1 7 (.len (.t 6)), i1 8 (.mv (kI 0))]
abbrev r2:List In:=[i1 9 (.bin .lss (.t 8) (.t 7))]
abbrev r3:List In:=[mv 10 8, mv 5 10]
abbrev r4:List In:=[mv 11 1, mv 12 0, mv 13 5, i1 14 (.iaddr 1 (.t 12) (.t 13)), i1 15 (.load 1 false (.t 14)), i1 16 (.bin .eql (.t 11) (.t 15))]
abbrev r5:List In:=[mv 17 5, mv 4 17]
abbrev r6:List In:=[i1 18 (.bin .add (.t 8) (kI 1)), mv 8 18]
abbrev r7:List In:=[i1 4 (.mv (kI (-1)))]
abbrev code:IC:=.seq (.reg r0) (.seq (.seq (.reg r1) (.block 0 (.loop (.seq (.reg r2) (.seq (.cond (.t 9) .skip (.exit 0)) (.seq (.block 1 (.seq (.reg r3) (.seq (.reg r4) (.cond (.t 16) (.seq (.reg r5) .ret) .skip)))) (.reg r6))))))) (.seq (.reg r7) .ret))
abbrev res:List RV:=[.tmp 4]
theorem fn:Body Tryz.prog 82 19 code res:=⟨by decide,Tryz.f82,_,Tryz.func82,rfl,rfl,by kernel_rfl,by kernel_rfl⟩
end Um
end Go.Proofs.YtbmecnjmbhokgaaGreatDoor
namespace Go.Proofs.YtbmecnjmbhokgaaGreatDoor
open Go.RowKit Vc
set_option linter.unusedVariables false
set_option linter.unusedSimpArgs false
attribute [local irreducible] T Za Zn Ent RdC RwC Ye Zf Zh
def La(s:List UInt8):Bool:=decide (0<s.length)&&decide (Wh s 0=46)
theorem Xp(s:List UInt8)(hs:s≠[]):RdC Tryz.prog 63 [.v (.a (.str s))] (.one (.a (.bool (La s)))):=by
 refine Mv.fn.rd (by simp) (by simp[Zz]) (by simp[Zz]) fun w=> ?_
 have hl:0<s.length:=List.length_pos_iff.2 hs
 repeat'(first|(first|refine Stp.h ?_)<;>try simp only[Zc,simprocAttr,↓reduceIte,reduceCtorEq,implies_true,La,hl]|(with_reducible first|assumption|refine And.intro ?_ ?_)|(intro h;first|omega|exact tg h ‹_›|exact tg ‹_› h|skip))
 all_goals first|omega|(simp;done)|skip
def Rw{α:Type}(p:α→Bool):List α→Nat→Int
 | [],_=> -1
 |x::l,k=>if p x=true then k else Rw p l (k+1)
def O6:Spot:=⟨[],0⟩
theorem Nv(l:List Spot)(g:List S1→Option SV)(p:Spot→Bool)(hg:∀y∈l,g [.agg [.str y.name,.int .i64 y.at_]]=some (.one (.a (.bool (p y)))))(hlen:l.length≤9223372036854775807):
 GC Tryz.prog 69 [.a (.ref 0),.a (.ref 1)] [(0,.ro .spot l),(1,.fn Tryz.prog g)] 2 [] (.one (.a (.int .i64 (Rw p l 0)))) [] 2:=by
 refine Yk.fn.gc (by simp) (by simp[Zu,Zw,Zv,Zj,Ze,Vc.S1.okN,At.okN,SV.okN,Res.okN,Res.outOk,Zo,Res.own,Value.oneCell']) fun w X fr=> ?_
 repeat'(first|(first|refine Stp.h ?_)<;>try simp only[Zc,simprocAttr,↓reduceIte,reduceCtorEq,implies_true]|(with_reducible first|assumption|refine And.intro ?_ ?_)|(intro h;first|omega|exact tg h ‹_›|exact tg ‹_› h|skip))
 refine T.loop (ι:= {k:Nat//k≤l.length∧Rw p (l.drop k) k=Rw p l 0})
  (fun x=>⟨[(8,.one (.a (.int .i64 (x.1:Int)))),(7,.one (.a (.int .i64 l.length))),(1,.one (.a (.ref 1))),(0,.one (.a (.ref 0)))],[(0,.ro .spot l),(1,.fn Tryz.prog g)],2⟩)
  (fun x=>l.length-x.1) ⟨0,by simp,by simp⟩ (Ent.mk1 (id) (by simp[Zx])) ?_
 rintro⟨k,hk,hrun⟩
 by_cases hlt:k<l.length
 ·have hdrop:l.drop k=l.getD k O6::l.drop (k+1):=by
   rw[List.drop_eq_getElem_cons hlt];simp[List.getD,hlt]
  have hmem:l.getD k O6∈l:=by simp[List.getD,hlt]
  generalize hx:l.getD k O6=x at hdrop hmem
  have hx':l.getD k (Kd.dflt .spot)=x:=hx
  rw[hdrop]at hrun
  simp only[Rw]at hrun
  have hgx:=hg x hmem
  have hw:IntKind.i64.wrap ((k:Int)+1)=((k+1:Nat):Int):=Zy (by omega)
  have ht:((k:Int)).toNat=k:=by omega
  cases hp:p x with
  |true=>
   rw[if_pos hp]at hrun
   rw[hp]at hgx
   repeat'(first|(first|refine Stp.h ?_)<;>try simp only[Zc,simprocAttr,↓reduceIte,reduceCtorEq,implies_true,hx',hw,ht,hgx,Int.ofNat_lt]|(with_reducible first|assumption|refine And.intro ?_ ?_)|(intro h;first|omega|exact tg h ‹_›|exact tg ‹_› h|skip))
   all_goals first|omega|(rw[←hrun];done)|skip
  |false=>
   rw[if_neg (by simp[hp])]at hrun
   rw[hp]at hgx
   repeat'(first|(first|refine Stp.h ?_)<;>try simp only[Zc,simprocAttr,↓reduceIte,reduceCtorEq,implies_true,hx',hw,ht,hgx,Int.ofNat_lt]|(with_reducible first|assumption|refine And.intro ?_ ?_)|(intro h;first|omega|exact tg h ‹_›|exact tg ‹_› h|skip))
   all_goals first|omega|exact⟨⟨k+1,hlt,hrun⟩,(Ent.mk1 (id) (by simp[Zx,hw])),by simp only;omega⟩|skip
 ·have hk2:k=l.length:=by omega
  subst hk2
  rw[List.drop_length]at hrun
  simp only[Rw]at hrun
  repeat'(first|(first|refine Stp.h ?_)<;>try simp only[Zc,simprocAttr,↓reduceIte,reduceCtorEq,implies_true,Int.ofNat_lt]|(with_reducible first|assumption|refine And.intro ?_ ?_)|(intro h;first|omega|exact tg h ‹_›|exact tg ‹_› h|skip))
  all_goals first|omega|(rw[←hrun];done)|skip
theorem Lq(l:List Spot)(g:List S1→Option SV)(p:Spot→Bool)(hg:∀y∈l,g [.agg [.str y.name,.int .i64 y.at_]]=some (.one (.a (.bool (p y)))))(hlen:l.length≤9223372036854775807):
 GC Tryz.prog 64 [.a (.ref 0),.a (.ref 1)] [(0,.ro .spot l),(1,.fn Tryz.prog g)] 2 [] (.one (.a (.bool (decide (0≤Rw p l 0))))) [] 2:=by
 refine Yf.fn.gc (by simp) (by simp[Zu,Zw,Zv,Zj,Ze,Vc.S1.okN,At.okN,SV.okN,Res.okN,Res.outOk,Zo,Res.own,Value.oneCell']) fun w X fr=> ?_
 repeat'(first|(first|refine Stp.h ?_|(refine Za.gc (Nv l g p hg hlen) ?_ ?_;focus simp[Zb]))<;>try simp only[Zc,simprocAttr,↓reduceIte,reduceCtorEq,implies_true]|(with_reducible first|assumption|refine And.intro ?_ ?_)|(intro h;first|omega|exact tg h ‹_›|exact tg ‹_› h|skip))
theorem Zfd(l:List Int)(v:Int)(hlen:l.length≤9223372036854775807):
 RdC Tryz.prog 82 [.ro (.int .i64) l,.v (.a (.int .i64 v))] (.one (.a (.int .i64 (Rw (fun x=>decide (v=x)) l 0)))):=by
 refine Um.fn.rd (by simp) (by simp[Zz]) (by simp[Zz]) fun w=> ?_
 repeat'(first|(first|refine Stp.h ?_)<;>try simp only[Zc,simprocAttr,↓reduceIte,reduceCtorEq,implies_true]|(with_reducible first|assumption|refine And.intro ?_ ?_)|(intro h;first|omega|exact tg h ‹_›|exact tg ‹_› h|skip))
 refine T.loop (ι:= {k:Nat//k≤l.length∧Rw (fun x=>decide (v=x)) (l.drop k) k=Rw (fun x=>decide (v=x)) l 0})
  (fun x=>⟨[(8,.one (.a (.int .i64 (x.1:Int)))),(7,.one (.a (.int .i64 l.length))),(1,.one (.a (.int .i64 v))),(0,.one (.a (.ref 0)))],[(0,.ro (.int .i64) l)],1⟩)
  (fun x=>l.length-x.1) ⟨0,by simp,by simp⟩ (Ent.mk1 (id) (by simp[Zx])) ?_
 rintro⟨k,hk,hrun⟩
 by_cases hlt:k<l.length
 ·have hdrop:l.drop k=l.getD k 0::l.drop (k+1):=by
   rw[List.drop_eq_getElem_cons hlt];simp[List.getD,hlt]
  generalize hx:l.getD k 0=x at hdrop
  have hx':l.getD k (Kd.dflt (.int .i64))=x:=hx
  rw[hdrop]at hrun
  simp only[Rw,decide_eq_true_eq]at hrun
  have hw:IntKind.i64.wrap ((k:Int)+1)=((k+1:Nat):Int):=Zy (by omega)
  have ht:((k:Int)).toNat=k:=by omega
  by_cases hp:v=x
  ·rw[if_pos hp]at hrun
   have hpd:decide (v=x)=true:=decide_eq_true hp
   repeat'(first|(first|refine Stp.h ?_)<;>try simp only[Zc,simprocAttr,↓reduceIte,reduceCtorEq,implies_true,hx',hw,ht,hpd,Int.ofNat_lt]|(with_reducible first|assumption|refine And.intro ?_ ?_)|(intro h;first|omega|exact tg h ‹_›|exact tg ‹_› h|skip))
   all_goals first|omega|(rw[←hrun];done)|skip
  ·rw[if_neg hp]at hrun
   have hpd:decide (v=x)=false:=decide_eq_false hp
   repeat'(first|(first|refine Stp.h ?_)<;>try simp only[Zc,simprocAttr,↓reduceIte,reduceCtorEq,implies_true,hx',hw,ht,hpd,Int.ofNat_lt]|(with_reducible first|assumption|refine And.intro ?_ ?_)|(intro h;first|omega|exact tg h ‹_›|exact tg ‹_› h|skip))
   all_goals first|omega|exact⟨⟨k+1,hlt,hrun⟩,(Ent.mk1 (id) (by simp[Zx,hw])),by simp only;omega⟩|skip
 ·have hk2:k=l.length:=by omega
  subst hk2
  rw[List.drop_length]at hrun
  simp only[Rw]at hrun
  repeat'(first|(first|refine Stp.h ?_)<;>try simp only[Zc,simprocAttr,↓reduceIte,reduceCtorEq,implies_true,Int.ofNat_lt]|(with_reducible first|assumption|refine And.intro ?_ ?_)|(intro h;first|omega|exact tg h ‹_›|exact tg ‹_› h|skip))
  all_goals first|omega|(rw[←hrun];done)|skip
theorem I5{α:Type}(p:α→Bool):∀(l:List α) (k:Nat),decide (0≤Rw p l k)=l.any p
 | [],k=>by simp[Rw]
 |x::l,k=>by
  by_cases hp:p x=true
  ·simp[Rw,hp]
  ·simp only[Bool.not_eq_true]at hp
   simpa[Rw,hp]using I5 p l (k+1)
theorem Fo(l:List Int)(v:Int)(hlen:l.length≤9223372036854775807):
 RdC Tryz.prog 66 [.ro (.int .i64) l,.v (.a (.int .i64 v))] (.one (.a (.bool (decide (v∈l))))):=by
 refine Vr.fn.rd (by simp) (by simp[Zz]) (by simp[Zz]) fun w=> ?_
 have h1:decide (0≤Rw (fun x=>decide (v=x)) l 0)=decide (v∈l):=by
  rw[I5,Bool.eq_iff_iff];simp
 repeat'(first|(first|refine Stp.h ?_|(refine rq (Zfd l v hlen) ?_ ?_;focus simp[Zz];done))<;>try simp only[Zc,simprocAttr,↓reduceIte,reduceCtorEq,implies_true,h1]|(with_reducible first|assumption|refine And.intro ?_ ?_)|(intro h;first|omega|exact tg h ‹_›|exact tg ‹_› h|skip))
def Fits(l:List (List UInt8×List Ln)):Prop:=l.length≤9223372036854775807∧∀u∈l,u.2.length≤9223372036854775807
def Nr:List UInt8×List Ln:=([],[])
def F0(s:Spot):Prop:=(0≤s.at_∧s.at_≤65536)∧Xm s.name=true∧s.name≠[]
theorem Ki:∀(l:List Ln) (k:Nat) (a:Int) (seen:List (List UInt8)) (acc:List Spot),0≤a→a≤65536→(∀s∈acc,F0 s)→(∀s∈(Wz l k a seen acc).1,F0 s)∧(Wz l k a seen acc).1.length≤acc.length+l.length∧0≤(Wz l k a seen acc).2.1∧(Wz l k a seen acc).2.1≤65536
 | [],k,a,seen,acc,h0,h1,h=>⟨h,Nat.le_refl _,h0,h1⟩
 |x::l,k,a,seen,acc,h0,h1,h=>by
  unfold Wz
  have hle:=Bh x
  split
  ·simp
  ·rename_i hw
   have hw':U2 x=0:=by simpa using hw
   split
   ·rename_i hlb
    split
    ·simp
    ·obtain⟨g1,g2,g3⟩:=Ki l (k+1) a (x.label::seen) (acc++[⟨x.label,a⟩]) h0 h1 (fun s hs=>by
      rcases List.mem_append.1 hs with hs|hs
      ·exact h s hs
      ·simp only[List.mem_singleton]at hs;subst hs
       exact⟨⟨h0,h1⟩,(P7 hw' hlb).1,hlb⟩)
     refine⟨g1,?_,g3⟩
     simp only[List.length_append,List.length_cons,List.length_nil]at g2 ⊢;omega
   ·split
    ·simp
    ·obtain⟨g1,g2,g3⟩:=Ki l (k+1) (a+Ow x) seen acc (by omega) (by omega) h
     refine⟨g1,?_,g3⟩
     simp only[List.length_cons];omega
theorem H3(l:List Ln)(a:Int)(h0:0≤a)(h1:a≤65536):(∀s∈(Yc l a).1,F0 s)∧(Yc l a).1.length≤l.length∧0≤(Yc l a).2.1∧(Yc l a).2.1≤65536:=by
 have:=Ki l 0 a [] [] h0 h1 (by simp)
 simpa[Yc]using this
@[reducible] def Own:Type:=List UInt8→Option (Kd.ty (.int .i64))
def Si:Own:=fun _=>none
theorem Ex:(fun _=>none)=Si:=rfl
def Ux(u:Int):List Spot→Own→Option Own
 | [],f=>some f
 |s::l,f=>if La s.name=true then Ux u l f else if(f s.name).isSome=true then none else Ux u l fun t=>if t=s.name then some u else f t
def Uq:List (List UInt8×List Ln)→Nat→Own→Own×Int×Int
 | [],_,f=>(f,0,0)
 |u::l,k,f=>if 40000<u.2.length then(Si,5,k)else if(Yc u.2 0).2.2.1≠0 then(Si,(Yc u.2 0).2.2.1,k)else
   match Ux k (Yc u.2 0).1 f with
   |none=>(Si,7,k)
   |some f'=>Uq l (k+1) f'
def Z8(l:List (List UInt8×List Ln)):Own×Int×Int:=if 400<l.length then(Si,5,0)else Uq l 0 Si
def chV(l:List (List UInt8×List Ln)):SV:=if(Z8 l).2.1=0 then .tup [.a (.ref 1),.agg [.int .i64 0,.int .i64 0]]else .tup [.a (.raw (.map none)),.agg [.int .i64 (Z8 l).2.1,.int .i64 (Z8 l).2.2]]
noncomputable def chR(l:List (List UInt8×List Ln)):List (Nat×Res):=if(Z8 l).2.1=0 then[(1,.smap Tryz.prog 9 3 (.int .i64) (Z8 l).1 16000000)]else[]
theorem Cc{l:List (List UInt8×List Ln)}{e k:Int}{f:Own}(h:Z8 l=(f,e,k))(he:e≠0):chV l= .tup [.a (.raw (.map none)),.agg [.int .i64 e,.int .i64 k]]∧chR l=[]:=by
 unfold chV chR;rw[h];simp[he]
theorem ch_ok{l:List (List UInt8×List Ln)}{k:Int}{f:Own}(h:Z8 l=(f,0,k)):chV l= .tup [.a (.ref 1),.agg [.int .i64 0,.int .i64 0]]∧chR l=[(1,.smap Tryz.prog 9 3 (.int .i64) f 16000000)]:=by
 unfold chV chR;rw[h];simp
set_option maxHeartbeats 4000000 in
theorem Zbb(l:List (List UInt8×List Ln))(hf:Fits l):
 GC Tryz.prog 61 [.a (.ref 0)] [(0,.rou l)] 1 [] (chV l) (chR l) 2:=by
 refine Of.fn.gc (by simp) (by
  unfold chV chR
  by_cases h:(Z8 l).2.1=0
  ·rw[if_pos h,if_pos h];exact(by simp[Zu,Zw,Zv,Zj,Ze,Vc.S1.okN,At.okN,SV.okN,Res.okN,Res.outOk,Zo,Res.own,Value.oneCell'])
  ·rw[if_neg h,if_neg h];exact(by simp[Zu,Zw,Zv,Zj,Ze,Vc.S1.okN,At.okN,SV.okN,Res.okN,Res.outOk,Zo,Res.own,Value.oneCell'])) fun w X fr=> ?_
 by_cases hbig:400<l.length
 ·have e:Z8 l=(Si,5,0):=if_pos hbig
  obtain⟨e1,e2⟩:=Cc e (by decide)
  rw[e1,e2]
  repeat'(first|(first|refine Stp.h ?_)<;>try simp only[Zc,simprocAttr,↓reduceIte,reduceCtorEq,implies_true]|(with_reducible first|assumption|refine And.intro ?_ ?_)|(intro h;first|omega|exact tg h ‹_›|exact tg ‹_› h|skip))
  all_goals first|omega|skip
 have e:Z8 l=Uq l 0 Si:=if_neg hbig
 repeat'(first|(first|refine Stp.h ?_)<;>try simp only[Zc,simprocAttr,↓reduceIte,reduceCtorEq,implies_true]|(with_reducible first|assumption|refine And.intro ?_ ?_)|(intro h;first|omega|exact tg h ‹_›|exact tg ‹_› h|skip))
 all_goals first|omega|skip
 refine T.loop (ι:= {p:Nat×Own×Nat//p.1≤l.length∧Uq (l.drop p.1) p.1 p.2.1=Z8 l∧p.2.2≤40000*p.1})
  (fun x=>⟨[(21,.one (.a (.int .i64 (x.1.1:Int)))),(20,.one (.a (.int .i64 l.length))),(19,.one (.a (.ref 0))),(4,.one (.a (.ref 2))),(3,.one (.a (.loc 1 0)))],
    [(2,.smap Tryz.prog 9 3 (.int .i64) x.1.2.1 x.1.2.2),(1,.cells 80 [.int .i64 0,.int .i64 0]),(0,.rou l)],3⟩)
  (fun x=>l.length-x.1.1) ⟨(0,Si,0),by simp,by simp[e],by simp⟩ (Ent.mk1 (id) (by simp[Zx,Ex])) ?_
 rintro⟨⟨k,f,n⟩,hk,hrun,hn⟩
 simp only at hk hrun hn
 by_cases hlt:k<l.length
 ·have hdrop:l.drop k=l.getD k Nr::l.drop (k+1):=by
   rw[List.drop_eq_getElem_cons hlt];simp[List.getD,hlt]
  generalize hx:l.getD k Nr=u at hdrop
  have hx':l.getD k ([],[])=u:=hx
  rw[hdrop]at hrun
  simp only[Uq]at hrun
  have hw:IntKind.i64.wrap ((k:Int)+1)=((k+1:Nat):Int):=Zy (by omega)
  have ht:((k:Int)).toNat=k:=by omega
  by_cases hul:40000<u.2.length
  ·rw[if_pos hul]at hrun
   obtain⟨e1,e2⟩:=Cc hrun.symm (by decide)
   rw[e1,e2]
   repeat'(first|(first|refine Stp.h ?_)<;>try simp only[Zc,simprocAttr,↓reduceIte,reduceCtorEq,implies_true,hx',hw,ht,Int.ofNat_lt]|(with_reducible first|assumption|refine And.intro ?_ ?_)|(intro h;first|omega|exact tg h ‹_›|exact tg ‹_› h|skip))
   all_goals first|omega|skip
  rw[if_neg hul]at hrun
  by_cases hsp:(Yc u.2 0).2.2.1=0
  ·rw[if_neg (by simpa using hsp)]at hrun
   obtain⟨hsok,hslen,_,_⟩:=H3 u.2 0 (by omega) (by omega)
   have hSp:=Nf u.2 0 (by omega) (by omega) (by omega)
   generalize hsp1:(Yc u.2 0).1=sp at hrun hsok hslen hSp
   repeat'(first|(first|refine Stp.h ?_|(refine Za.rw hSp ?_ ?_;(focus(((repeat'(first|exact rfl|exact trivial|refine And.intro ?_ ?_|(simp[Zz];done))));done))))<;>try simp only[Zc,simprocAttr,↓reduceIte,reduceCtorEq,implies_true,hx',hw,ht,hsp,Int.ofNat_lt]|(with_reducible first|assumption|refine And.intro ?_ ?_)|(intro h;first|omega|exact tg h ‹_›|exact tg ‹_› h|skip))
   all_goals first|omega|skip
   refine T.loop (ι:= {p:Nat×Own×Nat//p.1≤sp.length∧Ux k (sp.drop p.1) p.2.1=Ux k sp f∧p.2.2≤40000*k+p.1})
    (fun x=>⟨[(48,.one (.a (.int .i64 (x.1.1:Int)))),(47,.one (.a (.int .i64 sp.length))),(46,.one (.a (.ref 3))),(21,.one (.a (.int .i64 (k:Int)))),(20,.one (.a (.int .i64 l.length))),(19,.one (.a (.ref 0))),(5,.one (.a (.int .i64 (k:Int)))),(4,.one (.a (.ref 2))),(3,.one (.a (.loc 1 0)))],
      [(3,.row 109 .spot sp),(2,.smap Tryz.prog 9 3 (.int .i64) x.1.2.1 x.1.2.2),(1,.cells 80 [.int .i64 0,.int .i64 0]),(0,.rou l)],4⟩)
    (fun x=>sp.length-x.1.1) ⟨(0,f,n),by simp,by simp,by simpa using hn⟩ (Ent.mk1 (fun n=>if n=3 then 5 else n) (by simp[Zx])) ?_
   rintro⟨⟨j,f',n'⟩,hj,hrun2,hn'⟩
   simp only at hj hrun2 hn'
   by_cases hlt2:j<sp.length
   ·have hdrop2:sp.drop j=sp.getD j O6::sp.drop (j+1):=by
     rw[List.drop_eq_getElem_cons hlt2];simp[List.getD,hlt2]
    have hmem2:sp.getD j O6∈sp:=by simp[List.getD,hlt2]
    generalize hy:sp.getD j O6=y at hdrop2 hmem2
    have hy':sp.getD j (Kd.dflt .spot)=y:=hy
    obtain⟨⟨hy0,hy1⟩,hyn,hyne⟩:=hsok y hmem2
    have hyl:=O0 hyn
    rw[hdrop2]at hrun2
    simp only[Ux]at hrun2
    have hw2:IntKind.i64.wrap ((j:Int)+1)=((j+1:Nat):Int):=Zy (by omega)
    have ht2:((j:Int)).toNat=j:=by omega
    cases hown:La y.name with
    |true=>
     rw[if_pos hown]at hrun2
     repeat'(first|(first|refine Stp.h ?_|(refine rq (Xp y.name hyne) ?_ ?_;focus simp[Zz];done))<;>try simp only[Zc,simprocAttr,↓reduceIte,reduceCtorEq,implies_true,hy',hw2,ht2,hown,Int.ofNat_lt]|(with_reducible first|assumption|refine And.intro ?_ ?_)|(intro h;first|omega|exact tg h ‹_›|exact tg ‹_› h|skip))
     all_goals first|omega|skip
     exact⟨⟨(j+1,f',n'),hlt2,hrun2,by simp only;omega⟩,(Ent.mk1 (id) (by simp[Zx,hw2])),by simp only;omega⟩
    |false=>
     rw[if_neg (by simp[hown])]at hrun2
     cases hfy:f' y.name with
     |some v=>
      rw[if_pos (by rw[hfy];rfl)]at hrun2
      rw[←hrun2]at hrun
      simp only at hrun
      obtain⟨e1,e2⟩:=Cc hrun.symm (by decide)
      rw[e1,e2]
      repeat'(first|(first|refine Stp.h ?_|(refine rq (Xp y.name hyne) ?_ ?_;focus simp[Zz];done))<;>try simp only[Zc,simprocAttr,↓reduceIte,reduceCtorEq,implies_true,hy',hw2,ht2,hown,hfy,Int.ofNat_lt]|(with_reducible first|assumption|refine And.intro ?_ ?_)|(intro h;first|omega|exact tg h ‹_›|exact tg ‹_› h|skip))
      all_goals first|omega|skip
     |none=>
      rw[if_neg (by rw[hfy];simp)]at hrun2
      repeat'(first|(first|refine Stp.h ?_|(refine rq (Xp y.name hyne) ?_ ?_;focus simp[Zz];done))<;>try simp only[Zc,simprocAttr,↓reduceIte,reduceCtorEq,implies_true,hy',hw2,ht2,hown,hfy,Int.ofNat_lt]|(with_reducible first|assumption|refine And.intro ?_ ?_)|(intro h;first|omega|exact tg h ‹_›|exact tg ‹_› h|skip))
      all_goals first|omega|skip
      all_goals try(first|(show(-9223372036854775808:Int)≤(k:Int);omega)|(show(k:Int)≤9223372036854775807;omega))
      exact⟨⟨(j+1,fun t=>if t=y.name then some (k:Int)else f' t,n'+1),hlt2,hrun2,by simp only;omega⟩,(Ent.mk1 (id) (by simp[Zx,hw2])),by simp only;omega⟩
   ·have hj2:j=sp.length:=by omega
    subst hj2
    rw[List.drop_length]at hrun2
    simp only[Ux]at hrun2
    rw[←hrun2]at hrun
    simp only at hrun
    repeat'(first|(first|refine Stp.h ?_)<;>try simp only[Zc,simprocAttr,↓reduceIte,reduceCtorEq,implies_true,hw,Int.ofNat_lt]|(with_reducible first|assumption|refine And.intro ?_ ?_)|(intro h;first|omega|exact tg h ‹_›|exact tg ‹_› h|skip))
    all_goals first|omega|skip
    exact⟨⟨(k+1,f',n'),hlt,hrun,by simp only;omega⟩,(Ent.mk1 (id) (by simp[Zx,hw])),by simp only;omega⟩
  ·rw[if_pos (by simpa using hsp)]at hrun
   obtain⟨e1,e2⟩:=Cc hrun.symm (by simpa using hsp)
   rw[e1,e2]
   repeat'(first|(first|refine Stp.h ?_|(refine Za.rw (Nf u.2 0 (by omega) (by omega) (by omega)) ?_ ?_;(focus(((repeat'(first|exact rfl|exact trivial|refine And.intro ?_ ?_|(simp[Zz];done))));done))))<;>try simp only[Zc,simprocAttr,↓reduceIte,reduceCtorEq,implies_true,hx',hw,ht,hsp,Int.ofNat_lt]|(with_reducible first|assumption|refine And.intro ?_ ?_)|(intro h;first|omega|exact tg h ‹_›|exact tg ‹_› h|skip))
   all_goals first|omega|skip
 ·have hk2:k=l.length:=by omega
  subst hk2
  rw[List.drop_length]at hrun
  simp only[Uq]at hrun
  obtain⟨e1,e2⟩:=ch_ok hrun.symm
  rw[e1,e2]
  refine T.weak (Ent.smapLe (m:=2) 16000000 rfl (by simp only;omega)) ?_
  repeat'(first|(first|refine Stp.h ?_)<;>try simp only[Zc,simprocAttr,↓reduceIte,reduceCtorEq,implies_true,Int.ofNat_lt]|(with_reducible first|assumption|refine And.intro ?_ ?_)|(intro h;first|omega|exact tg h ‹_›|exact tg ‹_› h|skip))
  all_goals first|omega|skip
def B9(own:Own)(u:Int)(sp:List Spot)(s:List UInt8):Option Int:=if La s=true then(if sp.any (fun y=>decide (y.name=s))=true then some u else none)else own s
def Rn(own:Own)(u:Int)(sp:List Spot):List Ln→List Int→Option (List Int)
 | [],us=>some us
 |x::ls,us=>if x.ref=[]then Rn own u sp ls us else match B9 own u sp x.ref with
  |none=>none
  |some n=>Rn own u sp ls (if n∈us then us else us++[n])
def Mo(sp:List Spot):List Spot:=sp.filter fun s=> !La s.name
def E4:List Spot→Own→Own
 | [],g=>g
 |s::l,g=>E4 l (if La s.name=true then g else fun t=>if t=s.name then some s.at_ else g t)
set_option maxHeartbeats 4000000 in
theorem Zbz{w:World}{X:List Nat}{fr:List Value}{Q:Exit→St→Prop}(l:List (List UInt8×List Ln))(own:Own)(i:Nat)(at_ u end_:Int)(us:List Int)(g:Own)(n:Nat)(sps sp:List Spot)
 (hok:∀s∈sp,F0 s)(hsl:sp.length≤40000)(hn:n≤40000*i)(hsps:sps.length≤40000*i)(hi:i≤400)
 (hQ:∀S' n',n'≤40000*(i+1)→Ent ⟨Tryz.prog,w,X,199,fr⟩ S' ⟨[(14,.one (.a (.int .i64 u))),(15,.one (.a (.ref 9))),(16,.one (.a (.int .i64 end_))),(13,.one (.a (.int .i64 (i:Int)))),(12,.one (.a (.int .i64 at_))),(11,.one (.a (.loc 5 0))),(10,.one (.a (.loc 2 0))),(6,.one (.a (.ref 1))),(5,.one (.a (.loc 8 0))),(4,.one (.a (.loc 7 0))),(0,.one (.a (.ref 0)))],[(0,.rou l),(1,.smap Tryz.prog 9 3 (.int .i64) own 16000000),(2,.cells 78 [(.raw (.slice none 0 0)),.ref 3,.ref 4]),(3,.row 3 (.int .i64) us),(4,.row 109 .spot (sps++Mo sp)),(5,.cells 101 [.ref 6]),(6,.smap Tryz.prog 9 3 (.int .i64) (E4 sp g) n'),(7,.cells 78 [(.raw (.slice none 0 0)),(.raw (.slice none 0 0)),(.raw (.slice none 0 0))]),(8,.cells 80 [.int .i64 0,.int .i64 0]),(9,.row 109 .spot sp)],10⟩→Q (.exit 2) S'):
 T ⟨Tryz.prog,w,X,199,fr⟩ (.loop W8.c19) Q ⟨[(92,.one (.a (.int .i64 0))),(91,.one (.a (.int .i64 sp.length))),(90,.one (.a (.ref 9))),(14,.one (.a (.int .i64 u))),(15,.one (.a (.ref 9))),(16,.one (.a (.int .i64 end_))),(13,.one (.a (.int .i64 (i:Int)))),(12,.one (.a (.int .i64 at_))),(11,.one (.a (.loc 5 0))),(10,.one (.a (.loc 2 0))),(6,.one (.a (.ref 1))),(5,.one (.a (.loc 8 0))),(4,.one (.a (.loc 7 0))),(0,.one (.a (.ref 0)))],[(0,.rou l),(1,.smap Tryz.prog 9 3 (.int .i64) own 16000000),(2,.cells 78 [(.raw (.slice none 0 0)),.ref 3,.ref 4]),(3,.row 3 (.int .i64) us),(4,.row 109 .spot sps),(5,.cells 101 [.ref 6]),(6,.smap Tryz.prog 9 3 (.int .i64) g n),(7,.cells 78 [(.raw (.slice none 0 0)),(.raw (.slice none 0 0)),(.raw (.slice none 0 0))]),(8,.cells 80 [.int .i64 0,.int .i64 0]),(9,.row 109 .spot sp)],10⟩:=by
 refine T.loop (ι:= {p:Nat×Own×Nat×List Spot//p.1≤sp.length∧E4 (sp.drop p.1) p.2.1=E4 sp g∧p.2.2.1≤n+p.1∧p.2.2.2++Mo (sp.drop p.1)=sps++Mo sp∧p.2.2.2.length≤sps.length+p.1})
  (fun x=>⟨[(92,.one (.a (.int .i64 (x.1.1:Int)))),(91,.one (.a (.int .i64 sp.length))),(90,.one (.a (.ref 9))),(14,.one (.a (.int .i64 u))),(15,.one (.a (.ref 9))),(16,.one (.a (.int .i64 end_))),(13,.one (.a (.int .i64 (i:Int)))),(12,.one (.a (.int .i64 at_))),(11,.one (.a (.loc 5 0))),(10,.one (.a (.loc 2 0))),(6,.one (.a (.ref 1))),(5,.one (.a (.loc 8 0))),(4,.one (.a (.loc 7 0))),(0,.one (.a (.ref 0)))],[(0,.rou l),(1,.smap Tryz.prog 9 3 (.int .i64) own 16000000),(2,.cells 78 [(.raw (.slice none 0 0)),.ref 3,.ref 4]),(3,.row 3 (.int .i64) us),(4,.row 109 .spot x.1.2.2.2),(5,.cells 101 [.ref 6]),(6,.smap Tryz.prog 9 3 (.int .i64) x.1.2.1 x.1.2.2.1),(7,.cells 78 [(.raw (.slice none 0 0)),(.raw (.slice none 0 0)),(.raw (.slice none 0 0))]),(8,.cells 80 [.int .i64 0,.int .i64 0]),(9,.row 109 .spot sp)],10⟩) (fun x=>sp.length-x.1.1) ⟨(0,g,n,sps),by simp,by simp,by simp,by simp,by simp⟩ (Ent.mk1 (id) (by simp[Zx])) ?_
 rintro⟨⟨j,g',n',sps'⟩,hj,hg,hn',hs,hs'⟩
 simp only at hj hg hn' hs hs'
 by_cases hlt:j<sp.length
 ·have hdrop:sp.drop j=sp.getD j O6::sp.drop (j+1):=by
   rw[List.drop_eq_getElem_cons hlt];simp[List.getD,hlt]
  have hmem:sp.getD j O6∈sp:=by simp[List.getD,hlt]
  generalize hy:sp.getD j O6=y at hdrop hmem
  have hy':sp.getD j (Kd.dflt .spot)=y:=hy
  obtain⟨⟨hy0,hy1⟩,hyn,hyne⟩:=hok y hmem
  have hyl:=O0 hyn
  rw[hdrop]at hg hs
  simp only[E4]at hg
  have hw:IntKind.i64.wrap ((j:Int)+1)=((j+1:Nat):Int):=Zy (by omega)
  have ht:((j:Int)).toNat=j:=by omega
  cases hown:La y.name with
  |true=>
   rw[if_pos hown]at hg
   have hv:Mo (y::sp.drop (j+1))=Mo (sp.drop (j+1)):=by simp[Mo,hown]
   rw[hv]at hs
   repeat'(first|(first|refine Stp.h ?_|(refine rq (Xp y.name hyne) ?_ ?_;focus simp[Zz];done))<;>try simp only[Zc,simprocAttr,↓reduceIte,reduceCtorEq,implies_true,hy',hw,ht,hown,Int.ofNat_lt]|(with_reducible first|assumption|refine And.intro ?_ ?_)|(intro h;first|omega|exact tg h ‹_›|exact tg ‹_› h|skip))
   all_goals first|omega|skip
   exact⟨⟨(j+1,g',n',sps'),hlt,hg,by simp only;omega,hs,by simp only;omega⟩,(Ent.mk1 (id) (by simp[Zx,hw])),by simp only;omega⟩
  |false=>
   rw[if_neg (by simp[hown])]at hg
   have hv:Mo (y::sp.drop (j+1))=y::Mo (sp.drop (j+1)):=by simp[Mo,hown]
   rw[hv]at hs
   repeat'(first|(first|refine Stp.h ?_|(refine rq (Xp y.name hyne) ?_ ?_;focus simp[Zz];done))<;>try simp only[Zc,simprocAttr,↓reduceIte,reduceCtorEq,implies_true,hy',hw,ht,hown,Int.ofNat_lt]|(with_reducible first|assumption|refine And.intro ?_ ?_)|(intro h;first|omega|exact tg h ‹_›|exact tg ‹_› h|skip))
   all_goals first|omega|skip
   all_goals try(first|(show(-9223372036854775808:Int)≤y.at_;omega)|(show y.at_≤(9223372036854775807:Int);omega))
   exact⟨⟨(j+1,fun t=>if t=y.name then some y.at_ else g' t,n'+1,sps'++[y]),hlt,hg,by simp only;omega,by simpa using hs,by simp only[List.length_append,List.length_cons,List.length_nil];omega⟩,(Ent.mk1 (fun n=>if n=4 then 12 else n) (by simp[Zx,hw])),by simp only;omega⟩
 ·have hk2:j=sp.length:=by omega
  subst hk2
  rw[List.drop_length]at hg hs
  simp only[E4]at hg
  have hs2:sps'=sps++Mo sp:=by simpa[Mo]using hs
  subst hs2
  subst hg
  repeat'(first|(first|refine Stp.h ?_)<;>try simp only[Zc,simprocAttr,↓reduceIte,reduceCtorEq,implies_true,Int.ofNat_lt]|(with_reducible first|assumption|refine And.intro ?_ ?_)|(intro h;first|omega|exact tg h ‹_›|exact tg ‹_› h|skip))
  all_goals first|omega|skip
  exact hQ _ n' (by omega) (Ent.mk1 (id) (by simp[Zx]))
def Oz(s:List UInt8):List S1→Option SV
 | [.agg [.str t,.int .i64 _]]=>some (.one (.a (.bool (decide (t=s)))))
 |_=>none
theorem J7(R:List (Nat×Res))(nx m:Nat)(x:Ln)(hm:Zo (roR R) m=some (Res.rocells x.cells)):Za3 Tryz.prog R nx 65 [m] (Oz x.ref):=by
 refine⟨Qb.enters,_,_,_,Qb.fn,fun args r hr=> ?_⟩
 unfold Oz at hr
 split at hr
 ·rename_i t n
  cases hr
  refine⟨by simp[Se,S1.bd,At.bd],by simp[SV.bd,S1.bd,At.bd],by simp,fun w=> ?_⟩
  refine T.weak (S2:=⟨[(0,.one (.agg [.str t,.int .i64 n])),(1,.one (.a (.loc 0 0)))],[(0,.rocells x.cells)],1⟩) (Ent.mk1 (fun _=>m) (by simp[Zx,hm,Y4,Ln.cells])) ?_
  repeat'(first|(first|refine Stp.h ?_)<;>try simp only[Zc,simprocAttr,↓reduceIte,reduceCtorEq,implies_true]|(with_reducible first|assumption|refine And.intro ?_ ?_)|(intro h;first|omega|exact tg h ‹_›|exact tg ‹_› h|skip))
 ·cases hr
theorem Aa{own:Own}{u:Int}{sp:List Spot}{s:List UInt8}:B9 own u sp s=if La s=true then(if sp.any (fun y=>decide (y.name=s))=true then some u else none)else own s:=rfl
set_option maxHeartbeats 8000000 in
theorem Zb0{w:World}{X:List Nat}{fr:List Value}{Q:Exit→St→Prop}(l:List (List UInt8×List Ln))(own:Own)(i:Nat)(at_ u:Int)(us:List Int)(g:Own)(n:Nat)(sps sp:List Spot)(ls:List Ln)
 (hw0:∀x∈ls,U2 x=0)(hsl:sp.length≤40000)(hll:ls.length≤40000)(hus:us.length≤1000)
 (hQ:∀us' S',Rn own u sp ls us=some us'→Ent ⟨Tryz.prog,w,X,199,fr⟩ S' ⟨[(13,.one (.a (.int .i64 (i:Int)))),(12,.one (.a (.int .i64 at_))),(11,.one (.a (.loc 5 0))),(10,.one (.a (.loc 2 0))),(6,.one (.a (.ref 1))),(5,.one (.a (.loc 8 0))),(4,.one (.a (.loc 7 0))),(0,.one (.a (.ref 0)))],[(0,.rou l),(1,.smap Tryz.prog 9 3 (.int .i64) own 16000000),(2,.cells 78 [(.raw (.slice none 0 0)),.ref 3,.ref 4]),(3,.row 3 (.int .i64) us'),(4,.row 109 .spot sps),(5,.cells 101 [.ref 6]),(6,.smap Tryz.prog 9 3 (.int .i64) g n),(7,.cells 78 [(.raw (.slice none 0 0)),(.raw (.slice none 0 0)),(.raw (.slice none 0 0))]),(8,.cells 80 [.int .i64 0,.int .i64 0])],9⟩→Q (.exit 4) S')
 (hE:∀S',Rn own u sp ls us=none→Ent ⟨Tryz.prog,w,X,199,fr⟩ S' ⟨[(5,.one (.a (.loc 1 0))),(4,.one (.a (.loc 0 0)))],[(0,.cells 78 [(.raw (.slice none 0 0)),(.raw (.slice none 0 0)),(.raw (.slice none 0 0))]),(1,.cells 80 [.int .i64 6,.int .i64 u])],2⟩→Q .ret S'):
 T ⟨Tryz.prog,w,X,199,fr⟩ (.loop W8.c41) Q ⟨[(119,.one (.a (.int .i64 0))),(118,.one (.a (.int .i64 ls.length))),(117,.one (.a (.ref 10))),(14,.one (.a (.int .i64 u))),(15,.one (.a (.ref 9))),(13,.one (.a (.int .i64 (i:Int)))),(12,.one (.a (.int .i64 at_))),(11,.one (.a (.loc 5 0))),(10,.one (.a (.loc 2 0))),(6,.one (.a (.ref 1))),(5,.one (.a (.loc 8 0))),(4,.one (.a (.loc 7 0))),(0,.one (.a (.ref 0)))],[(0,.rou l),(1,.smap Tryz.prog 9 3 (.int .i64) own 16000000),(2,.cells 78 [(.raw (.slice none 0 0)),.ref 3,.ref 4]),(3,.row 3 (.int .i64) us),(4,.row 109 .spot sps),(5,.cells 101 [.ref 6]),(6,.smap Tryz.prog 9 3 (.int .i64) g n),(7,.cells 78 [(.raw (.slice none 0 0)),(.raw (.slice none 0 0)),(.raw (.slice none 0 0))]),(8,.cells 80 [.int .i64 0,.int .i64 0]),(9,.row 109 .spot sp),(10,.ro .line ls)],11⟩:=by
 refine T.loop (ι:= {p:Nat×List Int//p.1≤ls.length∧Rn own u sp (ls.drop p.1) p.2=Rn own u sp ls us∧p.2.length≤us.length+p.1})
  (fun x=>⟨[(119,.one (.a (.int .i64 (x.1.1:Int)))),(118,.one (.a (.int .i64 ls.length))),(117,.one (.a (.ref 10))),(14,.one (.a (.int .i64 u))),(15,.one (.a (.ref 9))),(13,.one (.a (.int .i64 (i:Int)))),(12,.one (.a (.int .i64 at_))),(11,.one (.a (.loc 5 0))),(10,.one (.a (.loc 2 0))),(6,.one (.a (.ref 1))),(5,.one (.a (.loc 8 0))),(4,.one (.a (.loc 7 0))),(0,.one (.a (.ref 0)))],[(0,.rou l),(1,.smap Tryz.prog 9 3 (.int .i64) own 16000000),(2,.cells 78 [(.raw (.slice none 0 0)),.ref 3,.ref 4]),(3,.row 3 (.int .i64) x.1.2),(4,.row 109 .spot sps),(5,.cells 101 [.ref 6]),(6,.smap Tryz.prog 9 3 (.int .i64) g n),(7,.cells 78 [(.raw (.slice none 0 0)),(.raw (.slice none 0 0)),(.raw (.slice none 0 0))]),(8,.cells 80 [.int .i64 0,.int .i64 0]),(9,.row 109 .spot sp),(10,.ro .line ls)],11⟩) (fun x=>ls.length-x.1.1) ⟨(0,us),by simp,by simp,by simp⟩ (Ent.mk1 (id) (by simp[Zx])) ?_
 rintro⟨⟨j,us'⟩,hj,hrun,hul⟩
 simp only at hj hrun hul
 by_cases hlt:j<ls.length
 ·have hdrop:ls.drop j=ls.getD j ln0::ls.drop (j+1):=by
   rw[List.drop_eq_getElem_cons hlt];simp[List.getD,hlt]
  have hmem:ls.getD j ln0∈ls:=by simp[List.getD,hlt]
  generalize hy:ls.getD j ln0=x at hdrop hmem
  have hy':ls.getD j (Kd.dflt .line)=x:=hy
  have hwx:=hw0 x hmem
  rw[hdrop]at hrun
  simp only[Rn]at hrun
  have hw:IntKind.i64.wrap ((j:Int)+1)=((j+1:Nat):Int):=Zy (by omega)
  have ht:((j:Int)).toNat=j:=by omega
  by_cases hrf:x.ref=[]
  ·rw[if_pos hrf]at hrun
   have hrfd:decide (x.ref=[])=true:=decide_eq_true hrf
   repeat'(first|(first|refine Stp.h ?_)<;>try simp only[Zc,simprocAttr,↓reduceIte,reduceCtorEq,implies_true,hy',hw,ht,hrfd,Int.ofNat_lt]|(with_reducible first|assumption|refine And.intro ?_ ?_)|(intro h;first|omega|exact tg h ‹_›|exact tg ‹_› h|skip))
   all_goals first|omega|skip
   exact⟨⟨(j+1,us'),hlt,hrun,by simp only;omega⟩,(Ent.mk1 (id) (by simp[Zx,hw])),by simp only;omega⟩
  rw[if_neg hrf]at hrun
  have hlb:x.label=[]:=Decidable.byContradiction fun h=>hrf (P7 hwx h).2.1
  have hxl:=O0 ((Mr hwx hlb).2 hrf).1
  have hgs:∀y∈sp,Oz x.ref [.agg [.str y.name,.int .i64 y.at_]]=some (.one (.a (.bool ((fun y:Spot=>decide (y.name=x.ref)) y)))):=fun y _=>rfl
  have hCF:=Lq sp (Oz x.ref) (fun y=>decide (y.name=x.ref)) hgs (by omega)
  rw[I5]at hCF
  have hCt:∀v,RdC Tryz.prog 66 [.ro (.int .i64) us',.v (.a (.int .i64 v))] (.one (.a (.bool (decide (v∈us'))))):=fun v=>Fo us' v (by omega)
  rw[Aa]at hrun
  cases hown:La x.ref with
  |true=>
   rw[if_pos hown]at hrun
   cases hany:sp.any (fun y=>decide (y.name=x.ref))with
   |true=>
    rw[if_pos hany]at hrun
    rw[hany]at hCF
    simp only at hrun
    by_cases hin:u∈us'
    ·rw[if_pos hin]at hrun
     repeat'(first|(first|refine Stp.h ?_|(refine rq (Xp x.ref hrf) ?_ ?_;focus simp[Zz];done)|((with_reducible first|apply Za.rd (hCt _)|apply Zf.rd (hCt _));focus((repeat'(first|exact rfl|exact trivial|refine And.intro ?_ ?_|(simp[Zz];done)));done))|(refine Za.gc hCF ?_ ?_;rotate_left))<;>try simp only[Zc,simprocAttr,↓reduceIte,reduceCtorEq,implies_true,hy',hw,ht,hrf,hown,hin,Int.ofNat_lt]|(with_reducible first|assumption|refine And.intro ?_ ?_)|(intro h;first|omega|exact tg h ‹_›|exact tg ‹_› h|skip))
     all_goals first|omega|skip
     ·exact⟨⟨(j+1,us'),hlt,hrun,by simp only;omega⟩,(Ent.mk1 (id) (by simp[Zx,hw])),by simp only;omega⟩
     ·exact⟨rfl,⟨rfl,⟨rfl,by simp,J7 _ _ _ x rfl⟩,trivial⟩,List.nodup_nil⟩
    ·rw[if_neg hin]at hrun
     repeat'(first|(first|refine Stp.h ?_|(refine rq (Xp x.ref hrf) ?_ ?_;focus simp[Zz];done)|((with_reducible first|apply Za.rd (hCt _)|apply Zf.rd (hCt _));focus((repeat'(first|exact rfl|exact trivial|refine And.intro ?_ ?_|(simp[Zz];done)));done))|(refine Za.gc hCF ?_ ?_;rotate_left))<;>try simp only[Zc,simprocAttr,↓reduceIte,reduceCtorEq,implies_true,hy',hw,ht,hrf,hown,hin,Int.ofNat_lt]|(with_reducible first|assumption|refine And.intro ?_ ?_)|(intro h;first|omega|exact tg h ‹_›|exact tg ‹_› h|skip))
     all_goals first|omega|skip
     ·exact⟨⟨(j+1,us'++[u]),hlt,hrun,by simp only[List.length_append,List.length_cons,List.length_nil];omega⟩,(Ent.mk1 (fun n=>if n=3 then 13 else n) (by simp[Zx,hw])),by simp only;omega⟩
     ·exact⟨rfl,⟨rfl,⟨rfl,by simp,J7 _ _ _ x rfl⟩,trivial⟩,List.nodup_nil⟩
   |false=>
    rw[if_neg (by rw[hany];decide)]at hrun
    rw[hany]at hCF
    simp only at hrun
    repeat'(first|(first|refine Stp.h ?_|(refine rq (Xp x.ref hrf) ?_ ?_;focus simp[Zz];done)|((with_reducible first|apply Za.rd (hCt _)|apply Zf.rd (hCt _));focus((repeat'(first|exact rfl|exact trivial|refine And.intro ?_ ?_|(simp[Zz];done)));done))|(refine Za.gc hCF ?_ ?_;rotate_left))<;>try simp only[Zc,simprocAttr,↓reduceIte,reduceCtorEq,implies_true,hy',hw,ht,hrf,hown,Int.ofNat_lt]|(with_reducible first|assumption|refine And.intro ?_ ?_)|(intro h;first|omega|exact tg h ‹_›|exact tg ‹_› h|skip))
    all_goals first|omega|skip
    ·exact hE _ hrun.symm (Ent.mk1 (fun n=>n+7) (by simp[Zx]))
    ·exact⟨rfl,⟨rfl,⟨rfl,by simp,J7 _ _ _ x rfl⟩,trivial⟩,List.nodup_nil⟩
  |false=>
   rw[if_neg (by rw[hown];decide)]at hrun
   cases hox:own x.ref with
   |some v=>
    rw[hox]at hrun
    simp only at hrun
    by_cases hin:v∈us'
    ·rw[if_pos hin]at hrun
     repeat'(first|(first|refine Stp.h ?_|(refine rq (Xp x.ref hrf) ?_ ?_;focus simp[Zz];done)|((with_reducible first|apply Za.rd (hCt _)|apply Zf.rd (hCt _));focus((repeat'(first|exact rfl|exact trivial|refine And.intro ?_ ?_|(simp[Zz];done)));done)))<;>try simp only[Zc,simprocAttr,↓reduceIte,reduceCtorEq,implies_true,hy',hw,ht,hrf,hown,hin,hox,Int.ofNat_lt]|(with_reducible first|assumption|refine And.intro ?_ ?_)|(intro h;first|omega|exact tg h ‹_›|exact tg ‹_› h|skip))
     all_goals first|omega|skip
     ·exact⟨⟨(j+1,us'),hlt,hrun,by simp only;omega⟩,(Ent.mk1 (id) (by simp[Zx,hw])),by simp only;omega⟩
    ·rw[if_neg hin]at hrun
     repeat'(first|(first|refine Stp.h ?_|(refine rq (Xp x.ref hrf) ?_ ?_;focus simp[Zz];done)|((with_reducible first|apply Za.rd (hCt _)|apply Zf.rd (hCt _));focus((repeat'(first|exact rfl|exact trivial|refine And.intro ?_ ?_|(simp[Zz];done)));done)))<;>try simp only[Zc,simprocAttr,↓reduceIte,reduceCtorEq,implies_true,hy',hw,ht,hrf,hown,hin,hox,Int.ofNat_lt]|(with_reducible first|assumption|refine And.intro ?_ ?_)|(intro h;first|omega|exact tg h ‹_›|exact tg ‹_› h|skip))
     all_goals first|omega|skip
     ·exact⟨⟨(j+1,us'++[v]),hlt,hrun,by simp only[List.length_append,List.length_cons,List.length_nil];omega⟩,(Ent.mk1 (fun n=>if n=3 then 13 else n) (by simp[Zx,hw])),by simp only;omega⟩
   |none=>
    rw[hox]at hrun
    simp only at hrun
    repeat'(first|(first|refine Stp.h ?_|(refine rq (Xp x.ref hrf) ?_ ?_;focus simp[Zz];done)|((with_reducible first|apply Za.rd (hCt _)|apply Zf.rd (hCt _));focus((repeat'(first|exact rfl|exact trivial|refine And.intro ?_ ?_|(simp[Zz];done)));done)))<;>try simp only[Zc,simprocAttr,↓reduceIte,reduceCtorEq,implies_true,hy',hw,ht,hrf,hown,hox,Int.ofNat_lt]|(with_reducible first|assumption|refine And.intro ?_ ?_)|(intro h;first|omega|exact tg h ‹_›|exact tg ‹_› h|skip))
    all_goals first|omega|skip
    ·exact hE _ hrun.symm (Ent.mk1 (fun n=>n+7) (by simp[Zx]))
 ·have hk2:j=ls.length:=by omega
  subst hk2
  rw[List.drop_length]at hrun
  simp only[Rn]at hrun
  repeat'(first|(first|refine Stp.h ?_)<;>try simp only[Zc,simprocAttr,↓reduceIte,reduceCtorEq,implies_true,Int.ofNat_lt]|(with_reducible first|assumption|refine And.intro ?_ ?_)|(intro h;first|omega|exact tg h ‹_›|exact tg ‹_› h|skip))
  all_goals first|omega|skip
  exact hQ us' _ hrun.symm (Ent.mk1 (id) (by simp[Zx]))
end Go.Proofs.YtbmecnjmbhokgaaGreatDoor
