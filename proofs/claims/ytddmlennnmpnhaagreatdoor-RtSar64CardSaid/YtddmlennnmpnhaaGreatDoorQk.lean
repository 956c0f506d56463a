/- The small code of functions, and that it is theirs: printed by a program over the seat's translation. -/
import Derived.Test.YtddmlennnmpnhaaGreatDoorQh
import Derived.Test.YtddmlennnmpnhaaGreatDoorChecked
import Derived.KernelRfl
namespace Go.Proofs.YtddmlennnmpnhaaGreatDoor
open Vc
namespace Uj
abbrev r0:List In:=[i1 6 (.mv (.k (.a (.raw (.pointer none)))))]
abbrev r1:DT:=(tm 7 0 false (tm 8 1 false (tk 9 (.nchk (.t 8)) true (tk 10 (.faddr 0 (.t 9)) true (tk 11 (.load 1 false (.t 10)) true (tm 12 1 true (tk 13 (.nchk (.t 12)) true (tk 14 (.faddr 1 (.t 13)) true (tk 15 (.load 1 false (.t 14)) true (tm 16 2 true (tk 17 (.nchk (.t 16)) true (tk 18 (.faddr 0 (.t 17)) true (tk 19 (.load 1 false (.t 18)) true (.alt (mv 20 2) true (al 21 (.nchk (.t 20)) true (al 22 (.faddr 1 (.t 21)) true (al 23 (.load 1 false (.t 22)) true (al 24 (.call 36 [.t 11,.t 15,.t 19,.t 23]) false (tk 25 (.ext 0 (.t 24)) false (tk 26 (.ext 1 (.t 24)) false (al 27 (.call 35 [.t 7,.t 25,.t 26]) false (tm 6 27 false .done) .stop))) .stop) .stop) .stop) .stop) .stop))))))))))))))
abbrev code:IC:=.seq (.reg r0) (.seq (.dany r1) .ret)
abbrev res:List RV:=[.tmp 6]
theorem fn:Body Tryz.prog 20 28 code res:=⟨by decide,Tryz.f20,_,Tryz.func20,rfl,rfl,by kernel_rfl,by kernel_rfl⟩
end Uj
namespace Wg
abbrev r0:List In:=[i1 6 (.mv (.k (.a (.raw (.pointer none)))))]
abbrev r1:DT:=(tm 7 0 false (tm 8 1 false (tk 9 (.nchk (.t 8)) true (tk 10 (.faddr 0 (.t 9)) true (tk 11 (.load 1 false (.t 10)) true (tm 12 1 true (tk 13 (.nchk (.t 12)) true (tk 14 (.faddr 1 (.t 13)) true (tk 15 (.load 1 false (.t 14)) true (tm 16 2 true (tk 17 (.nchk (.t 16)) true (tk 18 (.faddr 0 (.t 17)) true (tk 19 (.load 1 false (.t 18)) true (tk 20 (.un .not (.t 19)) true (.alt (mv 21 2) true (al 22 (.nchk (.t 21)) true (al 23 (.faddr 1 (.t 22)) true (al 24 (.load 1 false (.t 23)) true (al 25 (.call 36 [.t 11,.t 15,.t 20,.t 24]) false (tk 26 (.ext 0 (.t 25)) false (tk 27 (.ext 1 (.t 25)) false (al 28 (.call 35 [.t 7,.t 26,.t 27]) false (tm 6 28 false .done) .stop))) .stop) .stop) .stop) .stop) .stop)))))))))))))))
abbrev code:IC:=.seq (.reg r0) (.seq (.dany r1) .ret)
abbrev res:List RV:=[.tmp 6]
theorem fn:Body Tryz.prog 21 29 code res:=⟨by decide,Tryz.f21,_,Tryz.func21,rfl,rfl,by kernel_rfl,by kernel_rfl⟩
end Wg
namespace X9
abbrev r0:List In:=[i1 2 (.mv (kI 0))]
abbrev r1:List In:=[mv 3 0,i1 4 (.nchk (.t 3)),i1 5 (.faddr 1 (.t 4)),i1 6 (.load 1 false (.t 5)),i1 7 (.len (.t 6)),i1 8 (.bin .eql (.t 7) (kI 0))]
abbrev r2:List In:=[i1 2 (.mv (kI 0))]
abbrev r3:List In:=[mv 9 0,i1 10 (.nchk (.t 9)),i1 11 (.faddr 0 (.t 10)),i1 12 (.load 1 false (.t 11))]
abbrev r4:List In:=[i1 2 (.mv (kI (-1)))]
abbrev r5:List In:=[i1 2 (.mv (kI 1))]
abbrev code:IC:=.seq (.reg r0) (.seq (.seq (.reg r1) (.cond (.t 8) (.seq (.reg r2) .ret) .skip)) (.seq (.seq (.reg r3) (.cond (.t 12) (.seq (.reg r4) .ret) .skip)) (.seq (.reg r5) .ret)))
abbrev res:List RV:=[.tmp 2]
theorem fn:Body Tryz.prog 23 13 code res:=⟨by decide,Tryz.f23,_,Tryz.func23,rfl,rfl,by kernel_rfl,by kernel_rfl⟩
end X9
namespace Yw
abbrev r0:List In:=[i1 8 (.mv (.k (.a (.raw (.pointer none))))),i1 9 (.mv (.k (.a (.raw (.pointer none)))))]
abbrev r1:List In:=[mv 14 1,i1 15 (.nchk (.t 14)),i1 16 (.faddr 0 (.t 15)),i1 17 (.load 1 false (.t 16)),mv 18 2,i1 19 (.nchk (.t 18)),i1 20 (.faddr 0 (.t 19)),i1 21 (.load 1 false (.t 20)),mv 10 17,mv 11 21]
abbrev r2:DT:=(tm 23 1 false (tk 24 (.nchk (.t 23)) true (tk 25 (.faddr 1 (.t 24)) true (tk 26 (.load 1 false (.t 25)) true (.alt (mv 27 2) true (al 28 (.nchk (.t 27)) true (al 29 (.faddr 1 (.t 28)) true (al 30 (.load 1 false (.t 29)) true (al 31 (.call 38 [.t 26,.t 30]) false (tm 22 31 false (tk 32 (.ext 0 (.t 22)) false (tk 33 (.ext 1 (.t 22)) false (tm 12 32 false (tm 13 33 false .done))))) .stop) .stop) .stop) .stop) .stop)))))
abbrev r3:List In:=[mv 34 0,mv 35 10,mv 36 11,i1 37 (.beq true (.t 35) (.t 36)),mv 38 12,i1 39 (.call 35 [.t 34,.t 37,.t 38])]
abbrev r4:List In:=[mv 40 3,mv 41 10,mv 42 13,i1 43 (.call 35 [.t 40,.t 41,.t 42])]
abbrev r5:List In:=[mv 44 0,mv 45 3,mv 8 44,mv 9 45]
abbrev code:IC:=.seq (.reg r0) (.seq (.dreg r1) (.seq (.dany r2) (.seq (.reg r3) (.seq (.reg r4) (.seq (.reg r5) .ret)))))
abbrev res:List RV:=[.tmp 8,.tmp 9]
theorem fn:Body Tryz.prog 24 46 code res:=⟨by decide,Tryz.f24,_,Tryz.func24,rfl,rfl,by kernel_rfl,by kernel_rfl⟩
end Yw
namespace Uk
abbrev r0:List In:=[i1 4 (.mv (kI 0))]
abbrev r1:List In:=[mv 6 0,i1 7 (.nchk (.t 6)),i1 8 (.faddr 0 (.t 7)),i1 9 (.load 1 false (.t 8)),mv 10 1,i1 11 (.nchk (.t 10)),i1 12 (.faddr 0 (.t 11)),i1 13 (.load 1 false (.t 12)),i1 14 (.beq true (.t 9) (.t 13))]
abbrev r2:List In:=[mv 15 0,i1 16 (.nchk (.t 15)),i1 17 (.faddr 0 (.t 16)),i1 18 (.load 1 false (.t 17))]
abbrev r3:List In:=[i1 4 (.mv (kI (-1)))]
abbrev r4:List In:=[i1 4 (.mv (kI 1))]
abbrev r5:List In:=[mv 19 0,i1 20 (.nchk (.t 19)),i1 21 (.faddr 1 (.t 20)),i1 22 (.load 1 false (.t 21)),mv 23 1,i1 24 (.nchk (.t 23)),i1 25 (.faddr 1 (.t 24)),i1 26 (.load 1 false (.t 25)),i1 27 (.call 39 [.t 22,.t 26]),mv 5 27]
abbrev r6:List In:=[mv 28 0,i1 29 (.nchk (.t 28)),i1 30 (.faddr 0 (.t 29)),i1 31 (.load 1 false (.t 30))]
abbrev r7:List In:=[mv 32 5,i1 33 (.un .neg (.t 32)),mv 4 33]
abbrev r8:List In:=[mv 34 5,mv 4 34]
abbrev code:IC:=.seq (.reg r0) (.seq (.seq (.dreg r1) (.cond (.t 14) (.seq (.seq (.reg r2) (.cond (.t 18) (.seq (.reg r3) .ret) .skip)) (.seq (.reg r4) .ret)) .skip)) (.seq (.dreg r5) (.seq (.seq (.reg r6) (.cond (.t 31) (.seq (.reg r7) .ret) .skip)) (.seq (.reg r8) .ret))))
abbrev res:List RV:=[.tmp 4]
theorem fn:Body Tryz.prog 25 35 code res:=⟨by decide,Tryz.f25,_,Tryz.func25,rfl,rfl,by kernel_rfl,by kernel_rfl⟩
end Uk
namespace Wy
abbrev r0:List In:=[i1 4 (.mv (.k (.a (.raw (.pointer none)))))]
abbrev r1:List In:=[mv 6 1,i1 7 (.conv .u64 (.t 6)),mv 5 7]
abbrev r2:List In:=[mv 8 1,i1 9 (.bin .lss (.t 8) (kI 0))]
abbrev r3:List In:=[mv 10 5,i1 11 (.un .neg (.t 10)),mv 5 11]
abbrev r4:List In:=[mv 12 0,mv 13 1,i1 14 (.bin .lss (.t 13) (kI 0)),mv 15 5,i1 16 (.call 40 [.t 15]),i1 17 (.call 35 [.t 12,.t 14,.t 16]),mv 4 17]
abbrev code:IC:=.seq (.reg r0) (.seq (.reg r1) (.seq (.seq (.reg r2) (.cond (.t 9) (.reg r3) .skip)) (.seq (.reg r4) .ret)))
abbrev res:List RV:=[.tmp 4]
theorem fn:Body Tryz.prog 26 18 code res:=⟨by decide,Tryz.f26,_,Tryz.func26,rfl,rfl,by kernel_rfl,by kernel_rfl⟩
end Wy
namespace Wa
abbrev r0:List In:=[i1 6 (.mv (.k (.a (.raw (.pointer none)))))]
abbrev r1:List In:=[mv 7 0,mv 8 2,i1 9 (.nchk (.t 7)),i1 10 (.faddr 1 (.t 9)),i0 (.store 1 (.t 10) (.t 8))]
abbrev r2:List In:=[mv 11 0,mv 12 1,mv 13 12,i2 13 true 14 (.mv (.t 2)),i2 13 true 15 (.len (.t 14)),i2 13 true 16 (.bin .gtr (.t 15) (kI 0)),i1 17 (.pick (.t 13) (.t 16) (kB false)),i1 18 (.nchk (.t 11)),i1 19 (.faddr 0 (.t 18)),i0 (.store 1 (.t 19) (.t 17))]
abbrev r3:List In:=[mv 20 0,mv 6 20]
abbrev code:IC:=.seq (.reg r0) (.seq (.reg r1) (.seq (.reg r2) (.seq (.reg r3) .ret)))
abbrev res:List RV:=[.tmp 6]
theorem fn:Body Tryz.prog 35 21 code res:=⟨by decide,Tryz.f35,_,Tryz.func35,rfl,rfl,by kernel_rfl,by kernel_rfl⟩
end Wa
namespace Vx
abbrev r0:List In:=[i1 8 (.mv (kB false)),i1 9 (.mv (.k (.a (.raw (.slice none 0 0)))))]
abbrev r1:List In:=[mv 10 0,mv 11 2,i1 12 (.beq false (.t 10) (.t 11))]
abbrev r2:List In:=[mv 13 0,mv 14 1,mv 15 3,i1 16 (.call 51 [.t 14,.t 15]),mv 8 13,mv 9 16]
abbrev r3:List In:=[mv 17 1,mv 18 3,i1 19 (.call 39 [.t 17,.t 18]),i1 20 (.bin .geq (.t 19) (kI 0))]
abbrev r4:List In:=[mv 21 0,mv 22 1,mv 23 3,i1 24 (.call 52 [.t 22,.t 23]),mv 8 21,mv 9 24]
abbrev r5:List In:=[mv 25 2,mv 26 3,mv 27 1,i1 28 (.call 52 [.t 26,.t 27]),mv 8 25,mv 9 28]
abbrev code:IC:=.seq (.reg r0) (.seq (.seq (.reg r1) (.cond (.t 12) (.seq (.reg r2) .ret) .skip)) (.seq (.seq (.reg r3) (.cond (.t 20) (.seq (.reg r4) .ret) .skip)) (.seq (.reg r5) .ret)))
abbrev res:List RV:=[.tmp 8,.tmp 9]
theorem fn:Body Tryz.prog 36 29 code res:=⟨by decide,Tryz.f36,_,Tryz.func36,rfl,rfl,by kernel_rfl,by kernel_rfl⟩
end Vx
namespace Wh
abbrev r0:List In:=[i1 4 (.mv (.k (.a (.raw (.slice none 0 0))))),i1 5 (.mv (.k (.a (.raw (.slice none 0 0)))))]
abbrev r1:List In:=[mv 28 1,i1 29 (.len (.t 28)),i1 30 (.bin .eql (.t 29) (kI 0))]
abbrev r2:List In:=[i1 4 (.mv (.k (.a (.raw (.slice none 0 0))))),i1 5 (.mv (.k (.a (.raw (.slice none 0 0)))))]
abbrev r3:List In:=[mv 31 0,mv 32 1,i1 33 (.call 39 [.t 31,.t 32]),i1 34 (.bin .lss (.t 33) (kI 0))]
abbrev r4:List In:=[mv 35 0,i1 36 (.call 54 [.t 35]),i1 4 (.mv (.k (.a (.raw (.slice none 0 0))))),mv 5 36]
abbrev r5:List In:=[mv 37 0,i1 38 (.len (.t 37)),i1 39 (.bin .leq (.t 38) (kI 2))]
abbrev r6:List In:=[mv 40 0,i1 41 (.call 55 [.t 40]),mv 42 1,i1 43 (.call 55 [.t 42]),mv 6 41,mv 7 43]
abbrev r7:DT:=(tm 44 6 false (tm 45 7 false (tk 46 (.bin .quo (.t 44) (.t 45)) false (tm 48 6 false (tm 49 7 false (tk 50 (.bin .rem (.t 48) (.t 49)) false (al 47 (.call 40 [.t 46]) false (al 51 (.call 40 [.t 50]) false (tm 4 47 false (tm 5 51 false .done)) .stop) .stop)))))))
abbrev r8:List In:=[mv 52 1,i1 53 (.len (.t 52)),i1 54 (.bin .eql (.t 53) (kI 1))]
abbrev r9:List In:=[mv 56 0,mv 57 1,i1 58 (.iaddr 1 (.t 57) (kI 0)),i1 59 (.load 1 false (.t 58)),i1 60 (.call 56 [.t 56,.t 59]),mv 55 60,i1 61 (.ext 0 (.t 55)),i1 62 (.ext 1 (.t 55)),mv 8 61,mv 9 62]
abbrev r10:List In:=[mv 63 8,mv 64 9,i1 65 (.bsl 90 1 1 [.int .u32 0] [(0,1,(.t 64))]),i1 66 (.call 53 [.t 65]),mv 4 63,mv 5 66]
abbrev r11:List In:=[mv 67 1,i1 68 (.call 57 [.t 67]),i1 69 (.bin .sub (.t 68) (kI 1)),i1 70 (.bin .rem (.t 69) (kI 32)),i1 71 (.bin .sub (kI 32) (.t 70)),i1 72 (.bin .sub (.t 71) (kI 1)),i1 73 (.conv .u64 (.t 72)),mv 10 73]
abbrev r12:List In:=[mv 74 1,mv 75 10,i1 76 (.call 47 [.t 74,.t 75]),mv 11 76]
abbrev r13:List In:=[mv 77 0,i1 78 (.len (.t 77)),i1 79 (.bin .add (.t 78) (kI 2)),i1 80 (.mks 90 (.int .u32) 4 (.t 79) (.t 79)),mv 12 80]
abbrev r14:List In:=[mv 81 12,mv 82 0,mv 83 10,i1 84 (.call 47 [.t 82,.t 83]),i1 85 (.cpy 90 1 (.t 81) (.t 84))]
abbrev r15:List In:=[mv 86 11,i1 87 (.len (.t 86)),mv 13 87]
abbrev r16:List In:=[mv 88 12,i1 89 (.len (.t 88)),mv 90 13,i1 91 (.bin .sub (.t 89) (.t 90)),i1 92 (.bin .sub (.t 91) (kI 1)),mv 14 92]
abbrev r17:List In:=[mv 93 14,i1 94 (.bin .add (.t 93) (kI 1)),i1 95 (.mks 90 (.int .u32) 4 (.t 94) (.t 94)),mv 15 95]
abbrev r18:List In:=[mv 96 11,mv 97 13,i1 98 (.bin .sub (.t 97) (kI 1)),i1 99 (.iaddr 1 (.t 96) (.t 98)),i1 100 (.load 1 false (.t 99)),i1 101 (.conv .u64 (.t 100)),mv 102 11,mv 103 13,i1 104 (.bin .sub (.t 103) (kI 2)),i1 105 (.iaddr 1 (.t 102) (.t 104)),i1 106 (.load 1 false (.t 105)),i1 107 (.conv .u64 (.t 106)),mv 16 101,mv 17 107]
abbrev r19:List In:=[mv 108 14,mv 18 108]
abbrev r20:List In:=[mv 109 18,i1 110 (.bin .geq (.t 109) (kI 0))]
abbrev r21:List In:=[mv 113 12,mv 114 18,mv 115 13,i1 116 (.bin .add (.t 114) (.t 115)),i1 117 (.iaddr 1 (.t 113) (.t 116)),i1 118 (.load 1 false (.t 117)),i1 119 (.conv .u64 (.t 118)),i1 120 (.bin .shl (.t 119) (.k (.a (.int .u64 32)))),mv 121 12,mv 122 18,mv 123 13,i1 124 (.bin .add (.t 122) (.t 123)),i1 125 (.bin .sub (.t 124) (kI 1)),i1 126 (.iaddr 1 (.t 121) (.t 125)),i1 127 (.load 1 false (.t 126)),i1 128 (.conv .u64 (.t 127)),i1 129 (.bin .or (.t 120) (.t 128)),mv 19 129]
abbrev r22:List In:=[mv 130 19,mv 131 16,i1 132 (.bin .quo (.t 130) (.t 131)),mv 133 19,mv 134 16,i1 135 (.bin .rem (.t 133) (.t 134)),mv 20 132,mv 21 135]
abbrev r23:List In:=[mv 136 20,i1 137 (.bin .gtr (.t 136) (.k (.a (.int .u64 4294967295)))),mv 138 137,i2 138 false 139 (.mv (.t 20)),i2 138 false 140 (.mv (.t 17)),i2 138 false 141 (.bin .mul (.t 139) (.t 140)),i2 138 false 142 (.mv (.t 21)),i2 138 false 143 (.bin .shl (.t 142) (.k (.a (.int .u64 32)))),i2 138 false 144 (.mv (.t 12)),i2 138 false 145 (.mv (.t 18)),i2 138 false 146 (.mv (.t 13)),i2 138 false 147 (.bin .add (.t 145) (.t 146)),i2 138 false 148 (.bin .sub (.t 147) (kI 2)),i2 138 false 149 (.iaddr 1 (.t 144) (.t 148)),i2 138 false 150 (.load 1 false (.t 149)),i2 138 false 151 (.conv .u64 (.t 150)),i2 138 false 152 (.bin .or (.t 143) (.t 151)),i2 138 false 153 (.bin .gtr (.t 141) (.t 152)),i1 154 (.pick (.t 138) (kB true) (.t 153))]
abbrev r24:List In:=[mv 155 20,i1 156 (.bin .sub (.t 155) (.k (.a (.int .u64 1)))),mv 20 156]
abbrev r25:List In:=[mv 157 21,mv 158 16,i1 159 (.bin .add (.t 157) (.t 158)),mv 21 159]
abbrev r26:List In:=[mv 160 21,i1 161 (.bin .gtr (.t 160) (.k (.a (.int .u64 4294967295))))]
abbrev r27:List In:=[i1 22 (.mv (.k (.a (.int .u64 0)))),i1 23 (.mv (.k (.a (.int .u64 0))))]
abbrev r28:List In:=[i1 24 (.mv (kI 0))]
abbrev r29:List In:=[mv 162 24,mv 163 13,i1 164 (.bin .lss (.t 162) (.t 163))]
abbrev r30:List In:=[mv 167 22,mv 168 20,mv 169 11,mv 170 24,i1 171 (.iaddr 1 (.t 169) (.t 170)),i1 172 (.load 1 false (.t 171)),i1 173 (.conv .u64 (.t 172)),i1 174 (.bin .mul (.t 168) (.t 173)),i1 175 (.bin .add (.t 167) (.t 174)),mv 22 175]
abbrev r31:List In:=[mv 176 12,mv 177 24,mv 178 18,i1 179 (.bin .add (.t 177) (.t 178)),i1 180 (.iaddr 1 (.t 176) (.t 179)),i1 181 (.load 1 false (.t 180)),i1 182 (.conv .u64 (.t 181)),mv 183 22,i1 184 (.conv .u32 (.t 183)),i1 185 (.conv .u64 (.t 184)),i1 186 (.bin .sub (.t 182) (.t 185)),mv 187 23,i1 188 (.bin .sub (.t 186) (.t 187)),mv 25 188]
abbrev r32:List In:=[mv 189 12,mv 190 24,mv 191 18,i1 192 (.bin .add (.t 190) (.t 191)),mv 193 25,i1 194 (.conv .u32 (.t 193)),i1 195 (.iaddr 1 (.t 189) (.t 192)),i0 (.store 1 (.t 195) (.t 194))]
abbrev r33:List In:=[mv 196 25,i1 197 (.bin .shr (.t 196) (.k (.a (.int .u64 63)))),mv 23 197]
abbrev r34:List In:=[mv 198 22,i1 199 (.bin .shr (.t 198) (.k (.a (.int .u64 32)))),mv 22 199]
abbrev r35:List In:=[mv 165 24,i1 166 (.bin .add (.t 165) (kI 1)),mv 24 166]
abbrev r36:List In:=[mv 200 12,mv 201 18,mv 202 13,i1 203 (.bin .add (.t 201) (.t 202)),i1 204 (.iaddr 1 (.t 200) (.t 203)),i1 205 (.load 1 false (.t 204)),i1 206 (.conv .u64 (.t 205)),mv 207 22,i1 208 (.bin .sub (.t 206) (.t 207)),mv 209 23,i1 210 (.bin .sub (.t 208) (.t 209)),mv 26 210]
abbrev r37:List In:=[mv 211 12,mv 212 18,mv 213 13,i1 214 (.bin .add (.t 212) (.t 213)),mv 215 26,i1 216 (.conv .u32 (.t 215)),i1 217 (.iaddr 1 (.t 211) (.t 214)),i0 (.store 1 (.t 217) (.t 216))]
abbrev r38:List In:=[mv 218 26,i1 219 (.bin .shr (.t 218) (.k (.a (.int .u64 63)))),i1 220 (.bin .neq (.t 219) (.k (.a (.int .u64 0))))]
abbrev r39:List In:=[mv 221 20,i1 222 (.bin .sub (.t 221) (.k (.a (.int .u64 1)))),mv 20 222]
abbrev r40:List In:=[i1 22 (.mv (.k (.a (.int .u64 0))))]
abbrev r41:List In:=[i1 27 (.mv (kI 0))]
abbrev r42:List In:=[mv 223 27,mv 224 13,i1 225 (.bin .lss (.t 223) (.t 224))]
abbrev r43:List In:=[mv 228 22,mv 229 12,mv 230 27,mv 231 18,i1 232 (.bin .add (.t 230) (.t 231)),i1 233 (.iaddr 1 (.t 229) (.t 232)),i1 234 (.load 1 false (.t 233)),i1 235 (.conv .u64 (.t 234)),mv 236 11,mv 237 27,i1 238 (.iaddr 1 (.t 236) (.t 237)),i1 239 (.load 1 false (.t 238)),i1 240 (.conv .u64 (.t 239)),i1 241 (.bin .add (.t 235) (.t 240)),i1 242 (.bin .add (.t 228) (.t 241)),mv 22 242]
abbrev r44:List In:=[mv 243 12,mv 244 27,mv 245 18,i1 246 (.bin .add (.t 244) (.t 245)),mv 247 22,i1 248 (.conv .u32 (.t 247)),i1 249 (.iaddr 1 (.t 243) (.t 246)),i0 (.store 1 (.t 249) (.t 248))]
abbrev r45:List In:=[mv 250 22,i1 251 (.bin .shr (.t 250) (.k (.a (.int .u64 32)))),mv 22 251]
abbrev r46:List In:=[mv 226 27,i1 227 (.bin .add (.t 226) (kI 1)),mv 27 227]
abbrev r47:List In:=[mv 252 12,mv 253 18,mv 254 13,i1 255 (.bin .add (.t 253) (.t 254)),i1 256 (.iaddr 1 (.t 252) (.t 255)),i1 257 (.load 1 false (.t 256)),mv 258 22,i1 259 (.conv .u32 (.t 258)),i1 260 (.bin .add (.t 257) (.t 259)),i1 261 (.iaddr 1 (.t 252) (.t 255)),i0 (.store 1 (.t 261) (.t 260))]
abbrev r48:List In:=[mv 262 15,mv 263 18,mv 264 20,i1 265 (.conv .u32 (.t 264)),i1 266 (.iaddr 1 (.t 262) (.t 263)),i0 (.store 1 (.t 266) (.t 265))]
abbrev r49:List In:=[mv 111 18,i1 112 (.bin .sub (.t 111) (kI 1)),mv 18 112]
abbrev r50:List In:=[mv 267 15,i1 268 (.call 53 [.t 267]),mv 269 12,i1 270 (.call 53 [.t 269]),mv 271 10,i1 272 (.call 58 [.t 270,.t 271]),mv 4 268,mv 5 272]
abbrev code:IC:=.seq (.reg r0) (.seq (.seq (.reg r1) (.cond (.t 30) (.seq (.reg r2) .ret) .skip)) (.seq (.seq (.reg r3) (.cond (.t 34) (.seq (.reg r4) .ret) .skip)) (.seq (.seq (.reg r5) (.cond (.t 39) (.seq (.reg r6) (.seq (.dany r7) .ret)) .skip)) (.seq (.seq (.reg r8) (.cond (.t 54) (.seq (.reg r9) (.seq (.reg r10) .ret)) .skip)) (.seq (.reg r11) (.seq (.reg r12) (.seq (.reg r13) (.seq (.reg r14) (.seq (.reg r15) (.seq (.reg r16) (.seq (.reg r17) (.seq (.dreg r18) (.seq (.seq (.reg r19) (.block 0 (.loop (.seq (.seq (.reg r20) (.cond (.t 110) .skip (.exit 0))) (.seq (.block 1 (.seq (.dreg r21) (.seq (.dreg r22) (.seq (.block 2 (.loop (.seq (.seq (.reg r23) (.cond (.t 154) .skip (.exit 2))) (.block 3 (.seq (.reg r24) (.seq (.reg r25) (.seq (.reg r26) (.cond (.t 161) (.exit 2) .skip)))))))) (.seq (.reg r27) (.seq (.seq (.reg r28) (.block 4 (.loop (.seq (.seq (.reg r29) (.cond (.t 164) .skip (.exit 4))) (.seq (.block 5 (.seq (.reg r30) (.seq (.reg r31) (.seq (.reg r32) (.seq (.reg r33) (.reg r34)))))) (.reg r35)))))) (.seq (.reg r36) (.seq (.reg r37) (.seq (.seq (.reg r38) (.cond (.t 220) (.seq (.reg r39) (.seq (.reg r40) (.seq (.seq (.reg r41) (.block 6 (.loop (.seq (.seq (.reg r42) (.cond (.t 225) .skip (.exit 6))) (.seq (.block 7 (.seq (.dreg r43) (.seq (.reg r44) (.reg r45)))) (.reg r46)))))) (.reg r47)))) .skip)) (.reg r48)))))))))) (.reg r49)))))) (.seq (.reg r50) .ret))))))))))))))
abbrev res:List RV:=[.tmp 4,.tmp 5]
theorem fn:Body Tryz.prog 38 273 code res:=⟨by decide,Tryz.f38,_,Tryz.func38,rfl,rfl,by kernel_rfl,by kernel_rfl⟩
end Wh
namespace S7
abbrev r0:List In:=[i1 4 (.mv (kI 0))]
abbrev r1:List In:=[mv 6 0,i1 7 (.len (.t 6)),mv 8 1,i1 9 (.len (.t 8)),i1 10 (.bin .neq (.t 7) (.t 9))]
abbrev r2:List In:=[mv 11 0,i1 12 (.len (.t 11)),mv 13 1,i1 14 (.len (.t 13)),i1 15 (.bin .lss (.t 12) (.t 14))]
abbrev r3:List In:=[i1 4 (.mv (kI (-1)))]
abbrev r4:List In:=[i1 4 (.mv (kI 1))]
abbrev r5:List In:=[mv 16 0,i1 17 (.len (.t 16)),i1 18 (.bin .sub (.t 17) (kI 1)),mv 5 18]
abbrev r6:List In:=[mv 19 5,i1 20 (.bin .geq (.t 19) (kI 0))]
abbrev r7:List In:=[mv 23 0,mv 24 5,i1 25 (.iaddr 1 (.t 23) (.t 24)),i1 26 (.load 1 false (.t 25)),mv 27 1,mv 28 5,i1 29 (.iaddr 1 (.t 27) (.t 28)),i1 30 (.load 1 false (.t 29)),i1 31 (.bin .neq (.t 26) (.t 30))]
abbrev r8:List In:=[mv 32 0,mv 33 5,i1 34 (.iaddr 1 (.t 32) (.t 33)),i1 35 (.load 1 false (.t 34)),mv 36 1,mv 37 5,i1 38 (.iaddr 1 (.t 36) (.t 37)),i1 39 (.load 1 false (.t 38)),i1 40 (.bin .lss (.t 35) (.t 39))]
abbrev r9:List In:=[i1 4 (.mv (kI (-1)))]
abbrev r10:List In:=[i1 4 (.mv (kI 1))]
abbrev r11:List In:=[mv 21 5,i1 22 (.bin .sub (.t 21) (kI 1)),mv 5 22]
abbrev r12:List In:=[i1 4 (.mv (kI 0))]
abbrev code:IC:=.seq (.reg r0) (.seq (.seq (.reg r1) (.cond (.t 10) (.seq (.seq (.reg r2) (.cond (.t 15) (.seq (.reg r3) .ret) .skip)) (.seq (.reg r4) .ret)) .skip)) (.seq (.seq (.reg r5) (.block 0 (.loop (.seq (.seq (.reg r6) (.cond (.t 20) .skip (.exit 0))) (.seq (.block 1 (.seq (.dreg r7) (.cond (.t 31) (.seq (.seq (.dreg r8) (.cond (.t 40) (.seq (.reg r9) .ret) .skip)) (.seq (.reg r10) .ret)) .skip))) (.reg r11)))))) (.seq (.reg r12) .ret)))
abbrev res:List RV:=[.tmp 4]
theorem fn:Body Tryz.prog 39 41 code res:=⟨by decide,Tryz.f39,_,Tryz.func39,rfl,rfl,by kernel_rfl,by kernel_rfl⟩
end S7
namespace Tq
abbrev r0:List In:=[i1 2 (.mv (.k (.a (.raw (.slice none 0 0)))))]
abbrev r1:List In:=[mv 3 0,i1 4 (.conv .u32 (.t 3)),mv 5 0,i1 6 (.bin .shr (.t 5) (.k (.a (.int .u64 32)))),i1 7 (.conv .u32 (.t 6)),i1 8 (.bsl 90 1 2 [.int .u32 0,.int .u32 0] [(0,1,(.t 4)),(1,1,(.t 7))]),i1 9 (.call 53 [.t 8]),mv 2 9]
abbrev code:IC:=.seq (.reg r0) (.seq (.reg r1) .ret)
abbrev res:List RV:=[.tmp 2]
theorem fn:Body Tryz.prog 40 10 code res:=⟨by decide,Tryz.f40,_,Tryz.func40,rfl,rfl,by kernel_rfl,by kernel_rfl⟩
end Tq
namespace Xi
abbrev r0:List In:=[i1 6 (.mv (.k (.a (.raw (.pointer none)))))]
abbrev r1:List In:=[i1 7 (.alloc 34 [.bool false,.raw (.slice none 0 0)]),mv 8 1,mv 9 2,mv 10 0,i1 11 (.call 32 [.t 7,.t 8,.t 9,.t 10])]
abbrev r2:List In:=[mv 12 0,mv 6 12]
abbrev code:IC:=.seq (.reg r0) (.seq (.reg r1) (.seq (.reg r2) .ret))
abbrev res:List RV:=[.tmp 6]
theorem fn:Body Tryz.prog 41 13 code res:=⟨by decide,Tryz.f41,_,Tryz.func41,rfl,rfl,by kernel_rfl,by kernel_rfl⟩
end Xi
namespace Vl
abbrev r0:List In:=[i1 2 (.mv (.k (.a (.int .u64 0))))]
abbrev r1:List In:=[i1 3 (.mv (.k (.a (.int .u64 0))))]
abbrev r2:List In:=[mv 4 0,i1 5 (.nchk (.t 4)),i1 6 (.faddr 1 (.t 5)),i1 7 (.load 1 false (.t 6)),i1 8 (.len (.t 7)),i1 9 (.bin .gtr (.t 8) (kI 0))]
abbrev r3:List In:=[mv 10 0,i1 11 (.nchk (.t 10)),i1 12 (.faddr 1 (.t 11)),i1 13 (.load 1 false (.t 12)),i1 14 (.iaddr 1 (.t 13) (kI 0)),i1 15 (.load 1 false (.t 14)),i1 16 (.conv .u64 (.t 15)),mv 3 16]
abbrev r4:List In:=[mv 17 0,i1 18 (.nchk (.t 17)),i1 19 (.faddr 1 (.t 18)),i1 20 (.load 1 false (.t 19)),i1 21 (.len (.t 20)),i1 22 (.bin .gtr (.t 21) (kI 1))]
abbrev r5:List In:=[mv 23 3,mv 24 0,i1 25 (.nchk (.t 24)),i1 26 (.faddr 1 (.t 25)),i1 27 (.load 1 false (.t 26)),i1 28 (.iaddr 1 (.t 27) (kI 1)),i1 29 (.load 1 false (.t 28)),i1 30 (.conv .u64 (.t 29)),i1 31 (.bin .shl (.t 30) (.k (.a (.int .u64 32)))),i1 32 (.bin .or (.t 23) (.t 31)),mv 3 32]
abbrev r6:List In:=[mv 33 3,mv 2 33]
abbrev code:IC:=.seq (.reg r0) (.seq (.reg r1) (.seq (.seq (.reg r2) (.cond (.t 9) (.reg r3) .skip)) (.seq (.seq (.reg r4) (.cond (.t 22) (.reg r5) .skip)) (.seq (.reg r6) .ret))))
abbrev res:List RV:=[.tmp 2]
theorem fn:Body Tryz.prog 42 34 code res:=⟨by decide,Tryz.f42,_,Tryz.func42,rfl,rfl,by kernel_rfl,by kernel_rfl⟩
end Vl
namespace Yv
abbrev r0:List In:=[i1 8 (.mv (.k (.a (.raw (.pointer none))))),i1 9 (.mv (.k (.a (.raw (.pointer none)))))]
abbrev r1:List In:=[i1 11 (.alloc 34 [.bool false,.raw (.slice none 0 0)]),mv 12 2,i1 13 (.call 48 [.t 11,.t 12]),mv 10 13]
abbrev r2:List In:=[mv 14 0,mv 15 1,mv 16 2,mv 17 3,i1 18 (.call 24 [.t 14,.t 15,.t 16,.t 17])]
abbrev r3:List In:=[mv 19 3,i1 20 (.nchk (.t 19)),i1 21 (.faddr 0 (.t 20)),i1 22 (.load 1 false (.t 21))]
abbrev r4:List In:=[mv 23 10,i1 24 (.nchk (.t 23)),i1 25 (.faddr 0 (.t 24)),i1 26 (.load 1 false (.t 25))]
abbrev r5:List In:=[mv 27 0,mv 28 0,i1 29 (.call 49 [kI 1]),i1 30 (.call 20 [.t 27,.t 28,.t 29])]
abbrev r6:List In:=[mv 31 3,mv 32 3,mv 33 10,i1 34 (.call 21 [.t 31,.t 32,.t 33])]
abbrev r7:List In:=[mv 35 0,mv 36 0,i1 37 (.call 49 [kI 1]),i1 38 (.call 21 [.t 35,.t 36,.t 37])]
abbrev r8:List In:=[mv 39 3,mv 40 3,mv 41 10,i1 42 (.call 20 [.t 39,.t 40,.t 41])]
abbrev r9:List In:=[mv 43 0,mv 44 3,mv 8 43,mv 9 44]
abbrev code:IC:=.seq (.reg r0) (.seq (.reg r1) (.seq (.reg r2) (.seq (.seq (.reg r3) (.cond (.t 22) (.seq (.reg r4) (.cond (.t 26) (.seq (.reg r5) (.reg r6)) (.seq (.reg r7) (.reg r8)))) .skip)) (.seq (.reg r9) .ret))))
abbrev res:List RV:=[.tmp 8,.tmp 9]
theorem fn:Body Tryz.prog 32 45 code res:=⟨by decide,Tryz.f32,_,Tryz.func32,rfl,rfl,by kernel_rfl,by kernel_rfl⟩
end Yv
namespace Vq
abbrev r0:List In:=[i1 2 (.mv (kI 0))]
abbrev r1:List In:=[mv 4 0,i1 5 (.call 42 [.t 4]),i1 6 (.conv .i64 (.t 5)),mv 3 6]
abbrev r2:List In:=[mv 7 0,i1 8 (.nchk (.t 7)),i1 9 (.faddr 0 (.t 8)),i1 10 (.load 1 false (.t 9))]
abbrev r3:List In:=[mv 11 3,i1 12 (.un .neg (.t 11)),mv 3 12]
abbrev r4:List In:=[mv 13 3,mv 2 13]
abbrev code:IC:=.seq (.reg r0) (.seq (.reg r1) (.seq (.seq (.reg r2) (.cond (.t 10) (.reg r3) .skip)) (.seq (.reg r4) .ret)))
abbrev res:List RV:=[.tmp 2]
theorem fn:Body Tryz.prog 43 14 code res:=⟨by decide,Tryz.f43,_,Tryz.func43,rfl,rfl,by kernel_rfl,by kernel_rfl⟩
end Vq
namespace Wm
abbrev r0:List In:=[i1 4 (.mv (.k (.a (.raw (.pointer none)))))]
abbrev r1:List In:=[mv 5 0,mv 6 1,i1 7 (.call 40 [.t 6]),i1 8 (.call 35 [.t 5,kB false,.t 7]),mv 4 8]
abbrev code:IC:=.seq (.reg r0) (.seq (.reg r1) .ret)
abbrev res:List RV:=[.tmp 4]
theorem fn:Body Tryz.prog 50 9 code res:=⟨by decide,Tryz.f50,_,Tryz.func50,rfl,rfl,by kernel_rfl,by kernel_rfl⟩
end Wm
namespace Wf
abbrev r0:List In:=[i1 6 (.mv (.k (.a (.raw (.pointer none)))))]
abbrev r1:DT:=(tm 7 0 false (tm 8 1 false (tk 9 (.nchk (.t 8)) true (tk 10 (.faddr 0 (.t 9)) true (tk 11 (.load 1 false (.t 10)) true (tm 12 1 true (tk 13 (.nchk (.t 12)) true (tk 14 (.faddr 1 (.t 13)) true (tk 15 (.load 1 false (.t 14)) true (.alt (mv 16 2) true (al 17 (.call 47 [.t 15,.t 16]) true (al 18 (.call 35 [.t 7,.t 11,.t 17]) false (tm 6 18 false .done) .stop) .stop) .stop))))))))))
abbrev code:IC:=.seq (.reg r0) (.seq (.dany r1) .ret)
abbrev res:List RV:=[.tmp 6]
theorem fn:Body Tryz.prog 31 19 code res:=⟨by decide,Tryz.f31,_,Tryz.func31,rfl,rfl,by kernel_rfl,by kernel_rfl⟩
end Wf
namespace U8
abbrev r0:List In:=[i1 2 (.mv (.k (.a (.raw (.pointer none)))))]
abbrev r1:List In:=[i1 3 (.alloc 34 [.bool false,.raw (.slice none 0 0)]),mv 4 0,i1 5 (.call 26 [.t 3,.t 4]),mv 2 5]
abbrev code:IC:=.seq (.reg r0) (.seq (.reg r1) .ret)
abbrev res:List RV:=[.tmp 2]
theorem fn:Body Tryz.prog 49 6 code res:=⟨by decide,Tryz.f49,_,Tryz.func49,rfl,rfl,by kernel_rfl,by kernel_rfl⟩
end U8
namespace S6
abbrev r0:List In:=[i1 4 (.mv (.k (.a (.raw (.slice none 0 0)))))]
abbrev r1:List In:=[mv 8 0,i1 9 (.len (.t 8)),mv 10 1,i1 11 (.len (.t 10)),i1 12 (.bin .lss (.t 9) (.t 11))]
abbrev r2:List In:=[mv 13 1,mv 14 0,mv 0 13,mv 1 14]
abbrev r3:List In:=[mv 15 0,i1 16 (.len (.t 15)),i1 17 (.bin .add (.t 16) (kI 1)),i1 18 (.mks 90 (.int .u32) 4 (.t 17) (.t 17)),mv 5 18]
abbrev r4:List In:=[i1 6 (.mv (.k (.a (.int .u64 0))))]
abbrev r5:List In:=[i1 7 (.mv (kI 0))]
abbrev r6:List In:=[mv 19 7,mv 20 0,i1 21 (.len (.t 20)),i1 22 (.bin .lss (.t 19) (.t 21))]
abbrev r7:List In:=[mv 25 6,mv 26 0,mv 27 7,i1 28 (.iaddr 1 (.t 26) (.t 27)),i1 29 (.load 1 false (.t 28)),i1 30 (.conv .u64 (.t 29)),i1 31 (.bin .add (.t 25) (.t 30)),mv 6 31]
abbrev r8:List In:=[mv 32 7,mv 33 1,i1 34 (.len (.t 33)),i1 35 (.bin .lss (.t 32) (.t 34))]
abbrev r9:List In:=[mv 36 6,mv 37 1,mv 38 7,i1 39 (.iaddr 1 (.t 37) (.t 38)),i1 40 (.load 1 false (.t 39)),i1 41 (.conv .u64 (.t 40)),i1 42 (.bin .add (.t 36) (.t 41)),mv 6 42]
abbrev r10:List In:=[mv 43 5,mv 44 7,mv 45 6,i1 46 (.conv .u32 (.t 45)),i1 47 (.iaddr 1 (.t 43) (.t 44)),i0 (.store 1 (.t 47) (.t 46))]
abbrev r11:List In:=[mv 48 6,i1 49 (.bin .shr (.t 48) (.k (.a (.int .u64 32)))),mv 6 49]
abbrev r12:List In:=[mv 23 7,i1 24 (.bin .add (.t 23) (kI 1)),mv 7 24]
abbrev r13:List In:=[mv 50 5,mv 51 0,i1 52 (.len (.t 51)),mv 53 6,i1 54 (.conv .u32 (.t 53)),i1 55 (.iaddr 1 (.t 50) (.t 52)),i0 (.store 1 (.t 55) (.t 54))]
abbrev r14:List In:=[mv 56 5,i1 57 (.call 53 [.t 56]),mv 4 57]
abbrev code:IC:=.seq (.reg r0) (.seq (.seq (.reg r1) (.cond (.t 12) (.reg r2) .skip)) (.seq (.reg r3) (.seq (.reg r4) (.seq (.seq (.reg r5) (.block 0 (.loop (.seq (.seq (.reg r6) (.cond (.t 22) .skip (.exit 0))) (.seq (.block 1 (.seq (.reg r7) (.seq (.seq (.reg r8) (.cond (.t 35) (.reg r9) .skip)) (.seq (.reg r10) (.reg r11))))) (.reg r12)))))) (.seq (.reg r13) (.seq (.reg r14) .ret))))))
abbrev res:List RV:=[.tmp 4]
theorem fn:Body Tryz.prog 51 58 code res:=⟨by decide,Tryz.f51,_,Tryz.func51,rfl,rfl,by kernel_rfl,by kernel_rfl⟩
end S6
namespace S8
abbrev r0:List In:=[i1 4 (.mv (.k (.a (.raw (.slice none 0 0)))))]
abbrev r1:List In:=[mv 9 0,i1 10 (.len (.t 9)),i1 11 (.mks 90 (.int .u32) 4 (.t 10) (.t 10)),mv 5 11]
abbrev r2:List In:=[i1 6 (.mv (.k (.a (.int .u64 0))))]
abbrev r3:List In:=[i1 7 (.mv (kI 0))]
abbrev r4:List In:=[mv 12 7,mv 13 0,i1 14 (.len (.t 13)),i1 15 (.bin .lss (.t 12) (.t 14))]
abbrev r5:List In:=[mv 18 0,mv 19 7,i1 20 (.iaddr 1 (.t 18) (.t 19)),i1 21 (.load 1 false (.t 20)),i1 22 (.conv .u64 (.t 21)),mv 23 6,i1 24 (.bin .sub (.t 22) (.t 23)),mv 8 24]
abbrev r6:List In:=[mv 25 7,mv 26 1,i1 27 (.len (.t 26)),i1 28 (.bin .lss (.t 25) (.t 27))]
abbrev r7:List In:=[mv 29 8,mv 30 1,mv 31 7,i1 32 (.iaddr 1 (.t 30) (.t 31)),i1 33 (.load 1 false (.t 32)),i1 34 (.conv .u64 (.t 33)),i1 35 (.bin .sub (.t 29) (.t 34)),mv 8 35]
abbrev r8:List In:=[mv 36 5,mv 37 7,mv 38 8,i1 39 (.conv .u32 (.t 38)),i1 40 (.iaddr 1 (.t 36) (.t 37)),i0 (.store 1 (.t 40) (.t 39))]
abbrev r9:List In:=[mv 41 8,i1 42 (.bin .shr (.t 41) (.k (.a (.int .u64 63)))),mv 6 42]
abbrev r10:List In:=[mv 16 7,i1 17 (.bin .add (.t 16) (kI 1)),mv 7 17]
abbrev r11:List In:=[mv 43 5,i1 44 (.call 53 [.t 43]),mv 4 44]
abbrev code:IC:=.seq (.reg r0) (.seq (.reg r1) (.seq (.reg r2) (.seq (.seq (.reg r3) (.block 0 (.loop (.seq (.seq (.reg r4) (.cond (.t 15) .skip (.exit 0))) (.seq (.block 1 (.seq (.reg r5) (.seq (.seq (.reg r6) (.cond (.t 28) (.reg r7) .skip)) (.seq (.reg r8) (.reg r9))))) (.reg r10)))))) (.seq (.reg r11) .ret))))
abbrev res:List RV:=[.tmp 4]
theorem fn:Body Tryz.prog 52 45 code res:=⟨by decide,Tryz.f52,_,Tryz.func52,rfl,rfl,by kernel_rfl,by kernel_rfl⟩
end S8
namespace Yy
abbrev r0:List In:=[i1 2 (.mv (.k (.a (.raw (.slice none 0 0)))))]
abbrev r1:List In:=[mv 4 0,i1 5 (.len (.t 4)),mv 3 5]
abbrev r2:List In:=[mv 6 3,i1 7 (.bin .gtr (.t 6) (kI 0)),mv 8 7,i2 8 true 9 (.mv (.t 0)),i2 8 true 10 (.mv (.t 3)),i2 8 true 11 (.bin .sub (.t 10) (kI 1)),i2 8 true 12 (.iaddr 1 (.t 9) (.t 11)),i2 8 true 13 (.load 1 false (.t 12)),i2 8 true 14 (.bin .eql (.t 13) (.k (.a (.int .u32 0)))),i1 15 (.pick (.t 8) (.t 14) (kB false))]
abbrev r3:List In:=[mv 16 3,i1 17 (.bin .sub (.t 16) (kI 1)),mv 3 17]
abbrev r4:List In:=[mv 18 0,mv 19 3,i1 20 (.sl 1 (.t 18) none (some (.t 19))),mv 2 20]
def c6:IC:=.seq (.reg r4) .ret
abbrev code:IC:=.seq (.reg r0) (.seq (.reg r1) (.seq (.block 0 (.loop (.seq (.seq (.reg r2) (.cond (.t 15) .skip (.exit 0))) (.block 1 (.reg r3))))) c6))
abbrev res:List RV:=[.tmp 2]
theorem fn:Body Tryz.prog 53 21 code res:=⟨by decide,Tryz.f53,_,Tryz.func53,rfl,rfl,by kernel_rfl,by kernel_rfl⟩
end Yy
namespace Sc
abbrev r0:List In:=[i1 2 (.mv (.k (.a (.raw (.slice none 0 0)))))]
abbrev r1:List In:=[mv 3 0,i1 4 (.app 32 90 1 4 (.k (.a (.raw (.slice none 0 0)))) (.t 3)),mv 2 4]
abbrev code:IC:=.seq (.reg r0) (.seq (.reg r1) .ret)
abbrev res:List RV:=[.tmp 2]
theorem fn:Body Tryz.prog 54 5 code res:=⟨by decide,Tryz.f54,_,Tryz.func54,rfl,rfl,by kernel_rfl,by kernel_rfl⟩
end Sc
namespace Tn
abbrev r0:List In:=[i1 2 (.mv (.k (.a (.int .u64 0))))]
abbrev r1:List In:=[i1 3 (.mv (.k (.a (.int .u64 0))))]
abbrev r2:List In:=[mv 4 0,i1 5 (.len (.t 4)),i1 6 (.bin .gtr (.t 5) (kI 0))]
abbrev r3:List In:=[mv 7 0,i1 8 (.iaddr 1 (.t 7) (kI 0)),i1 9 (.load 1 false (.t 8)),i1 10 (.conv .u64 (.t 9)),mv 3 10]
abbrev r4:List In:=[mv 11 0,i1 12 (.len (.t 11)),i1 13 (.bin .gtr (.t 12) (kI 1))]
abbrev r5:List In:=[mv 14 3,mv 15 0,i1 16 (.iaddr 1 (.t 15) (kI 1)),i1 17 (.load 1 false (.t 16)),i1 18 (.conv .u64 (.t 17)),i1 19 (.bin .shl (.t 18) (.k (.a (.int .u64 32)))),i1 20 (.bin .or (.t 14) (.t 19)),mv 3 20]
abbrev r6:List In:=[mv 21 3,mv 2 21]
abbrev code:IC:=.seq (.reg r0) (.seq (.reg r1) (.seq (.seq (.reg r2) (.cond (.t 6) (.reg r3) .skip)) (.seq (.seq (.reg r4) (.cond (.t 13) (.reg r5) .skip)) (.seq (.reg r6) .ret))))
abbrev res:List RV:=[.tmp 2]
theorem fn:Body Tryz.prog 55 22 code res:=⟨by decide,Tryz.f55,_,Tryz.func55,rfl,rfl,by kernel_rfl,by kernel_rfl⟩
end Tn
namespace Tp
abbrev r0:List In:=[i1 4 (.mv (.k (.a (.raw (.slice none 0 0))))),i1 5 (.mv (.k (.a (.int .u32 0))))]
abbrev r1:List In:=[mv 9 0,i1 10 (.len (.t 9)),i1 11 (.mks 90 (.int .u32) 4 (.t 10) (.t 10)),mv 6 11]
abbrev r2:List In:=[i1 7 (.mv (.k (.a (.int .u64 0))))]
abbrev r3:List In:=[mv 12 0,i1 13 (.len (.t 12)),i1 14 (.bin .sub (.t 13) (kI 1)),mv 8 14]
abbrev r4:List In:=[mv 15 8,i1 16 (.bin .geq (.t 15) (kI 0))]
abbrev r5:List In:=[mv 19 7,i1 20 (.bin .shl (.t 19) (.k (.a (.int .u64 32)))),mv 21 0,mv 22 8,i1 23 (.iaddr 1 (.t 21) (.t 22)),i1 24 (.load 1 false (.t 23)),i1 25 (.conv .u64 (.t 24)),i1 26 (.bin .or (.t 20) (.t 25)),mv 7 26]
abbrev r6:List In:=[mv 27 6,mv 28 8,mv 29 7,mv 30 1,i1 31 (.conv .u64 (.t 30)),i1 32 (.bin .quo (.t 29) (.t 31)),i1 33 (.conv .u32 (.t 32)),i1 34 (.iaddr 1 (.t 27) (.t 28)),i0 (.store 1 (.t 34) (.t 33))]
abbrev r7:List In:=[mv 35 7,mv 36 1,i1 37 (.conv .u64 (.t 36)),i1 38 (.bin .rem (.t 35) (.t 37)),mv 7 38]
abbrev r8:List In:=[mv 17 8,i1 18 (.bin .sub (.t 17) (kI 1)),mv 8 18]
abbrev r9:List In:=[mv 39 6,i1 40 (.call 53 [.t 39]),mv 41 7,i1 42 (.conv .u32 (.t 41)),mv 4 40,mv 5 42]
abbrev code:IC:=.seq (.reg r0) (.seq (.reg r1) (.seq (.reg r2) (.seq (.seq (.reg r3) (.block 0 (.loop (.seq (.seq (.reg r4) (.cond (.t 16) .skip (.exit 0))) (.seq (.block 1 (.seq (.reg r5) (.seq (.reg r6) (.reg r7)))) (.reg r8)))))) (.seq (.reg r9) .ret))))
abbrev res:List RV:=[.tmp 4,.tmp 5]
theorem fn:Body Tryz.prog 56 43 code res:=⟨by decide,Tryz.f56,_,Tryz.func56,rfl,rfl,by kernel_rfl,by kernel_rfl⟩
end Tp
namespace U9
abbrev r0:List In:=[i1 2 (.mv (kI 0))]
abbrev r1:List In:=[mv 5 0,i1 6 (.len (.t 5)),i1 7 (.bin .eql (.t 6) (kI 0))]
abbrev r2:List In:=[i1 2 (.mv (kI 0))]
abbrev r3:List In:=[i1 3 (.mv (kI 0))]
abbrev r4:List In:=[mv 8 0,mv 9 0,i1 10 (.len (.t 9)),i1 11 (.bin .sub (.t 10) (kI 1)),i1 12 (.iaddr 1 (.t 8) (.t 11)),i1 13 (.load 1 false (.t 12)),mv 4 13]
abbrev r5:List In:=[mv 14 4,i1 15 (.bin .neq (.t 14) (.k (.a (.int .u32 0))))]
abbrev r6:List In:=[mv 18 3,i1 19 (.bin .add (.t 18) (kI 1)),mv 3 19]
abbrev r7:List In:=[mv 16 4,i1 17 (.bin .shr (.t 16) (.k (.a (.int .u64 1)))),mv 4 17]
abbrev r8:List In:=[mv 20 0,i1 21 (.len (.t 20)),i1 22 (.bin .sub (.t 21) (kI 1)),i1 23 (.bin .mul (.t 22) (kI 32)),mv 24 3,i1 25 (.bin .add (.t 23) (.t 24)),mv 2 25]
abbrev code:IC:=.seq (.reg r0) (.seq (.seq (.reg r1) (.cond (.t 7) (.seq (.reg r2) .ret) .skip)) (.seq (.reg r3) (.seq (.seq (.reg r4) (.block 0 (.loop (.seq (.seq (.reg r5) (.cond (.t 15) .skip (.exit 0))) (.seq (.block 1 (.reg r6)) (.reg r7)))))) (.seq (.reg r8) .ret))))
abbrev res:List RV:=[.tmp 2]
theorem fn:Body Tryz.prog 57 26 code res:=⟨by decide,Tryz.f57,_,Tryz.func57,rfl,rfl,by kernel_rfl,by kernel_rfl⟩
end U9
namespace Vn
abbrev r0:List In:=[i1 4 (.mv (.k (.a (.raw (.slice none 0 0)))))]
abbrev r1:List In:=[mv 10 0,i1 11 (.len (.t 10)),i1 12 (.bin .eql (.t 11) (kI 0))]
abbrev r2:List In:=[i1 4 (.mv (.k (.a (.raw (.slice none 0 0)))))]
abbrev r3:List In:=[mv 13 1,i1 14 (.bin .quo (.t 13) (.k (.a (.int .u64 32)))),i1 15 (.conv .i64 (.t 14)),mv 16 1,i1 17 (.bin .rem (.t 16) (.k (.a (.int .u64 32)))),mv 5 15,mv 6 17]
abbrev r4:List In:=[mv 18 0,i1 19 (.len (.t 18)),mv 20 5,i1 21 (.bin .add (.t 19) (.t 20)),i1 22 (.bin .add (.t 21) (kI 1)),i1 23 (.mks 90 (.int .u32) 4 (.t 22) (.t 22)),mv 7 23]
abbrev r5:List In:=[i1 8 (.mv (kI 0))]
abbrev r6:List In:=[mv 24 8,mv 25 0,i1 26 (.len (.t 25)),i1 27 (.bin .lss (.t 24) (.t 26))]
abbrev r7:List In:=[mv 30 0,mv 31 8,i1 32 (.iaddr 1 (.t 30) (.t 31)),i1 33 (.load 1 false (.t 32)),i1 34 (.conv .u64 (.t 33)),mv 35 6,i1 36 (.bin .shl (.t 34) (.t 35)),mv 9 36]
abbrev r8:List In:=[mv 37 7,mv 38 8,mv 39 5,i1 40 (.bin .add (.t 38) (.t 39)),i1 41 (.iaddr 1 (.t 37) (.t 40)),i1 42 (.load 1 false (.t 41)),mv 43 9,i1 44 (.conv .u32 (.t 43)),i1 45 (.bin .or (.t 42) (.t 44)),i1 46 (.iaddr 1 (.t 37) (.t 40)),i0 (.store 1 (.t 46) (.t 45))]
abbrev r9:List In:=[mv 47 7,mv 48 8,mv 49 5,i1 50 (.bin .add (.t 48) (.t 49)),i1 51 (.bin .add (.t 50) (kI 1)),i1 52 (.iaddr 1 (.t 47) (.t 51)),i1 53 (.load 1 false (.t 52)),mv 54 9,i1 55 (.bin .shr (.t 54) (.k (.a (.int .u64 32)))),i1 56 (.conv .u32 (.t 55)),i1 57 (.bin .or (.t 53) (.t 56)),i1 58 (.iaddr 1 (.t 47) (.t 51)),i0 (.store 1 (.t 58) (.t 57))]
abbrev r10:List In:=[mv 28 8,i1 29 (.bin .add (.t 28) (kI 1)),mv 8 29]
abbrev r11:List In:=[mv 59 7,i1 60 (.call 53 [.t 59]),mv 4 60]
abbrev code:IC:=.seq (.reg r0) (.seq (.seq (.reg r1) (.cond (.t 12) (.seq (.reg r2) .ret) .skip)) (.seq (.reg r3) (.seq (.reg r4) (.seq (.seq (.reg r5) (.block 0 (.loop (.seq (.seq (.reg r6) (.cond (.t 27) .skip (.exit 0))) (.seq (.block 1 (.seq (.reg r7) (.seq (.reg r8) (.reg r9)))) (.reg r10)))))) (.seq (.reg r11) .ret)))))
abbrev res:List RV:=[.tmp 4]
theorem fn:Body Tryz.prog 47 61 code res:=⟨by decide,Tryz.f47,_,Tryz.func47,rfl,rfl,by kernel_rfl,by kernel_rfl⟩
end Vn
namespace To
abbrev r0:List In:=[i1 4 (.mv (.k (.a (.raw (.slice none 0 0)))))]
abbrev r1:List In:=[mv 10 1,i1 11 (.bin .quo (.t 10) (.k (.a (.int .u64 32)))),i1 12 (.conv .i64 (.t 11)),mv 13 1,i1 14 (.bin .rem (.t 13) (.k (.a (.int .u64 32)))),mv 5 12,mv 6 14]
abbrev r2:List In:=[mv 15 5,mv 16 0,i1 17 (.len (.t 16)),i1 18 (.bin .geq (.t 15) (.t 17))]
abbrev r3:List In:=[i1 4 (.mv (.k (.a (.raw (.slice none 0 0)))))]
abbrev r4:List In:=[mv 19 0,i1 20 (.len (.t 19)),mv 21 5,i1 22 (.bin .sub (.t 20) (.t 21)),i1 23 (.mks 90 (.int .u32) 4 (.t 22) (.t 22)),mv 7 23]
abbrev r5:List In:=[i1 8 (.mv (kI 0))]
abbrev r6:List In:=[mv 24 8,mv 25 7,i1 26 (.len (.t 25)),i1 27 (.bin .lss (.t 24) (.t 26))]
abbrev r7:List In:=[mv 30 0,mv 31 8,mv 32 5,i1 33 (.bin .add (.t 31) (.t 32)),i1 34 (.iaddr 1 (.t 30) (.t 33)),i1 35 (.load 1 false (.t 34)),i1 36 (.conv .u64 (.t 35)),mv 9 36]
abbrev r8:List In:=[mv 37 8,mv 38 5,i1 39 (.bin .add (.t 37) (.t 38)),i1 40 (.bin .add (.t 39) (kI 1)),mv 41 0,i1 42 (.len (.t 41)),i1 43 (.bin .lss (.t 40) (.t 42))]
abbrev r9:List In:=[mv 44 9,mv 45 0,mv 46 8,mv 47 5,i1 48 (.bin .add (.t 46) (.t 47)),i1 49 (.bin .add (.t 48) (kI 1)),i1 50 (.iaddr 1 (.t 45) (.t 49)),i1 51 (.load 1 false (.t 50)),i1 52 (.conv .u64 (.t 51)),i1 53 (.bin .shl (.t 52) (.k (.a (.int .u64 32)))),i1 54 (.bin .or (.t 44) (.t 53)),mv 9 54]
abbrev r10:List In:=[mv 55 7,mv 56 8,mv 57 9,mv 58 6,i1 59 (.bin .shr (.t 57) (.t 58)),i1 60 (.conv .u32 (.t 59)),i1 61 (.iaddr 1 (.t 55) (.t 56)),i0 (.store 1 (.t 61) (.t 60))]
abbrev r11:List In:=[mv 28 8,i1 29 (.bin .add (.t 28) (kI 1)),mv 8 29]
abbrev r12:List In:=[mv 62 7,i1 63 (.call 53 [.t 62]),mv 4 63]
abbrev code:IC:=.seq (.reg r0) (.seq (.reg r1) (.seq (.seq (.reg r2) (.cond (.t 18) (.seq (.reg r3) .ret) .skip)) (.seq (.reg r4) (.seq (.seq (.reg r5) (.block 0 (.loop (.seq (.seq (.reg r6) (.cond (.t 27) .skip (.exit 0))) (.seq (.block 1 (.seq (.reg r7) (.seq (.seq (.reg r8) (.cond (.t 43) (.reg r9) .skip)) (.reg r10)))) (.reg r11)))))) (.seq (.reg r12) .ret)))))
abbrev res:List RV:=[.tmp 4]
theorem fn:Body Tryz.prog 58 64 code res:=⟨by decide,Tryz.f58,_,Tryz.func58,rfl,rfl,by kernel_rfl,by kernel_rfl⟩
end To
namespace Ul
abbrev r0:List In:=[i1 4 (.mv (.k (.a (.raw (.pointer none)))))]
abbrev r1:DT:=(tm 5 0 false (tm 6 1 false (tk 7 (.nchk (.t 6)) true (tk 8 (.faddr 0 (.t 7)) true (tk 9 (.load 1 false (.t 8)) true (.alt (mv 10 1) true (al 11 (.nchk (.t 10)) true (al 12 (.faddr 1 (.t 11)) true (al 13 (.load 1 false (.t 12)) true (al 14 (.call 54 [.t 13]) true (al 15 (.call 35 [.t 5,.t 9,.t 14]) false (tm 4 15 false .done) .stop) .stop) .stop) .stop) .stop) .stop))))))
abbrev code:IC:=.seq (.reg r0) (.seq (.dany r1) .ret)
abbrev res:List RV:=[.tmp 4]
theorem fn:Body Tryz.prog 48 16 code res:=⟨by decide,Tryz.f48,_,Tryz.func48,rfl,rfl,by kernel_rfl,by kernel_rfl⟩
end Ul
end Go.Proofs.YtddmlennnmpnhaaGreatDoor
