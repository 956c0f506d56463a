/- A part of the proofs of this seat's laws: steps on the way, joined. It has no conditions of its own. -/
import Derived.Test.YtddmlennnmpnhaaGreatDoorQh
import Derived.Test.YtddmlennnmpnhaaGreatDoorChecked
import Derived.KernelRfl
import Derived.Test.YtddmlennnmpnhaaGreatDoorQi
namespace Go.Proofs.YtddmlennnmpnhaaGreatDoor
open Vc
namespace J6
abbrev r0:List In:=[i1 6 (.mv (kI 0)),i1 7 (.alloc 49 [.bool false,.bool false,.bool false,.bool false])]
abbrev r1:List In:=[i1 8 (.mv (kI 0))]
abbrev r2:List In:=[mv 11 2]
abbrev r3:List In:=[i1 8 (.mv (kI 1))]
abbrev r4:List In:=[mv 12 0,i1 13 (.bin .and (.t 12) (kI 65535)),mv 14 1,i1 15 (.bin .and (.t 14) (kI 65535)),mv 0 13,mv 1 15]
abbrev r5:List In:=[mv 16 0,mv 17 1,i1 18 (.bin .add (.t 16) (.t 17)),mv 19 8,i1 20 (.bin .add (.t 18) (.t 19)),mv 9 20]
abbrev r6:List In:=[mv 21 9,i1 22 (.bin .and (.t 21) (kI 65535)),mv 10 22]
abbrev r7:List In:=[mv 23 10,mv 24 9,i1 25 (.bin .gtr (.t 24) (kI 65535)),mv 26 10,i1 27 (.bin .eql (.t 26) (kI 0)),mv 28 10,i1 29 (.bin .gtr (.t 28) (kI 32767)),mv 30 0,mv 31 10,i1 32 (.bin .xor (.t 30) (.t 31)),mv 33 1,mv 34 10,i1 35 (.bin .xor (.t 33) (.t 34)),i1 36 (.bin .and (.t 32) (.t 35)),i1 37 (.bin .and (.t 36) (kI 32768)),i1 38 (.bin .neq (.t 37) (kI 0)),i1 39 (.build [.bool false,.bool false,.bool false,.bool false] [(0,1,(.t 25)),(1,1,(.t 27)),(2,1,(.t 29)),(3,1,(.t 38))]),mv 6 23,i0 (.store 4 (.t 7) (.t 39))]
abbrev code:IC:=.seq (.reg r0) (.seq (.reg r1) (.seq (.seq (.reg r2) (.cond (.t 11) (.reg r3) .skip)) (.seq (.reg r4) (.seq (.reg r5) (.seq (.reg r6) (.seq (.reg r7) .ret))))))
abbrev res:List RV:=[.tmp 6,.cell 7 4 true]
theorem fn:Body Tryz.prog 164 40 code res:=⟨by decide,Tryz.f164,_,Tryz.func164,rfl,rfl,by kernel_rfl,by kernel_rfl⟩
end J6
namespace R4
abbrev r0:List In:=[i1 6 (.mv (kI 0)),i1 7 (.alloc 49 [.bool false,.bool false,.bool false,.bool false])]
abbrev r1:List In:=[mv 11 0,mv 12 1,i1 13 (.un .xor (.t 12)),mv 14 2,i1 15 (.un .not (.t 14)),i1 16 (.call 164 [.t 11,.t 13,.t 15]),mv 10 16,i1 17 (.ext 0 (.t 10)),i1 18 (.ext 1 (.t 10)),i1 9 (.alloc 49 [.bool false,.bool false,.bool false,.bool false]),mv 8 17,i0 (.store 4 (.t 9) (.t 18))]
abbrev r2:List In:=[i1 19 (.faddr 0 (.t 9)),i1 20 (.load 1 false (.t 19)),i1 21 (.un .not (.t 20)),i1 22 (.faddr 0 (.t 9)),i0 (.store 1 (.t 22) (.t 21))]
abbrev r3:List In:=[mv 23 8,i1 24 (.load 4 true (.t 9)),mv 6 23]
abbrev r4:List In:=[i0 (.store 4 (.t 7) (.t 24))]
abbrev code:IC:=.seq (.reg r0) (.seq (.reg r1) (.seq (.reg r2) (.seq (.dregt r3 r4) .ret)))
abbrev res:List RV:=[.tmp 6,.cell 7 4 true]
theorem fn:Body Tryz.prog 165 25 code res:=⟨by decide,Tryz.f165,_,Tryz.func165,rfl,rfl,by kernel_rfl,by kernel_rfl⟩
end R4
namespace S4
abbrev r0:List In:=[i1 4 (.mv (kI 0))]
abbrev r1:List In:=[mv 5 0,i1 6 (.nchk (.t 5)),i1 7 (.faddr 0 (.t 6)),i1 8 (.faddr 13 (.t 7)),i1 9 (.load 1 false (.t 8)),mv 10 1,i1 11 (.bin .and (.t 10) (kI 65535)),i1 12 (.iaddr 1 (.t 9) (.t 11)),i1 13 (.load 1 false (.t 12)),mv 4 13]
abbrev code:IC:=.seq (.reg r0) (.seq (.reg r1) .ret)
abbrev res:List RV:=[.tmp 4]
theorem fn:Body Tryz.prog 120 14 code res:=⟨by decide,Tryz.f120,_,Tryz.func120,rfl,rfl,by kernel_rfl,by kernel_rfl⟩
end S4
namespace Sb
abbrev r0:List In:=[mv 6 0,i1 7 (.nchk (.t 6)),i1 8 (.faddr 0 (.t 7)),i1 9 (.faddr 13 (.t 8)),i1 10 (.load 1 false (.t 9)),mv 11 1,i1 12 (.bin .and (.t 11) (kI 65535)),mv 13 2,i1 14 (.bin .and (.t 13) (kI 65535)),i1 15 (.iaddr 1 (.t 10) (.t 12)),i0 (.store 1 (.t 15) (.t 14))]
abbrev code:IC:=(.reg r0)
abbrev res:List RV:=[]
theorem fn:Body Tryz.prog 121 16 code res:=⟨by decide,Tryz.f121,_,Tryz.func121,rfl,rfl,by kernel_rfl,by kernel_rfl⟩
end Sb
namespace S5
abbrev r0:List In:=[mv 4 0,mv 5 0,i1 6 (.nchk (.t 5)),i1 7 (.faddr 0 (.t 6)),i1 8 (.faddr 0 (.t 7)),i1 9 (.iarr 8 1 (.t 8) (kI 7)),i1 10 (.load 1 false (.t 9)),i1 11 (.bin .sub (.t 10) (kI 1)),i1 12 (.bin .and (.t 11) (kI 65535)),i1 13 (.nchk (.t 4)),i1 14 (.faddr 0 (.t 13)),i1 15 (.faddr 0 (.t 14))]
abbrev r1:List In:=[i1 16 (.iarr 8 1 (.t 15) (kI 7)),i0 (.store 1 (.t 16) (.t 12))]
abbrev r2:List In:=[mv 17 0,mv 18 0,i1 19 (.nchk (.t 18)),i1 20 (.faddr 0 (.t 19)),i1 21 (.faddr 0 (.t 20)),i1 22 (.iarr 8 1 (.t 21) (kI 7)),i1 23 (.load 1 false (.t 22)),mv 24 1,i1 25 (.call 121 [.t 17,.t 23,.t 24])]
abbrev code:IC:=.seq (.dregt r0 r1) (.reg r2)
abbrev res:List RV:=[]
theorem fn:Body Tryz.prog 125 26 code res:=⟨by decide,Tryz.f125,_,Tryz.func125,rfl,rfl,by kernel_rfl,by kernel_rfl⟩
end S5
namespace Ry
abbrev r0:List In:=[i1 2 (.mv (kI 0))]
abbrev r1:List In:=[mv 4 0,mv 5 0,i1 6 (.nchk (.t 5)),i1 7 (.faddr 0 (.t 6)),i1 8 (.faddr 0 (.t 7)),i1 9 (.iarr 8 1 (.t 8) (kI 7)),i1 10 (.load 1 false (.t 9)),i1 11 (.call 120 [.t 4,.t 10]),mv 3 11]
abbrev r2:List In:=[mv 12 0,mv 13 0,i1 14 (.nchk (.t 13)),i1 15 (.faddr 0 (.t 14)),i1 16 (.faddr 0 (.t 15)),i1 17 (.iarr 8 1 (.t 16) (kI 7)),i1 18 (.load 1 false (.t 17)),i1 19 (.bin .add (.t 18) (kI 1)),i1 20 (.bin .and (.t 19) (kI 65535)),i1 21 (.nchk (.t 12)),i1 22 (.faddr 0 (.t 21)),i1 23 (.faddr 0 (.t 22))]
abbrev r3:List In:=[i1 24 (.iarr 8 1 (.t 23) (kI 7)),i0 (.store 1 (.t 24) (.t 20))]
abbrev r4:List In:=[mv 25 3,mv 2 25]
abbrev code:IC:=.seq (.reg r0) (.seq (.reg r1) (.seq (.dregt r2 r3) (.seq (.reg r4) .ret)))
abbrev res:List RV:=[.tmp 2]
theorem fn:Body Tryz.prog 126 26 code res:=⟨by decide,Tryz.f126,_,Tryz.func126,rfl,rfl,by kernel_rfl,by kernel_rfl⟩
end Ry
namespace Sa
abbrev r0:List In:=[i1 6 (.mv (kI 0))]
abbrev r1:List In:=[mv 7 1,i1 8 (.bin .and (.t 7) (kI 65535)),mv 1 8]
abbrev r2:List In:=[mv 9 0,mv 10 2,mv 11 1,i1 12 (.bin .eql (.t 11) (kI 0)),mv 13 1,i1 14 (.bin .gtr (.t 13) (kI 32767)),i1 15 (.build [.bool false,.bool false,.bool false,.bool false] [(0,1,(.t 10)),(1,1,(.t 12)),(2,1,(.t 14))]),i1 16 (.nchk (.t 9)),i1 17 (.faddr 0 (.t 16)),i1 18 (.faddr 8 (.t 17)),i0 (.store 4 (.t 18) (.t 15))]
abbrev r3:List In:=[mv 19 1,mv 6 19]
abbrev code:IC:=.seq (.reg r0) (.seq (.reg r1) (.seq (.reg r2) (.seq (.reg r3) .ret)))
abbrev res:List RV:=[.tmp 6]
theorem fn:Body Tryz.prog 166 20 code res:=⟨by decide,Tryz.f166,_,Tryz.func166,rfl,rfl,by kernel_rfl,by kernel_rfl⟩
end Sa
namespace Rz
abbrev r0:List In:=[i1 8 (.mv (kI 0))]
abbrev r1:List In:=[mv 11 0,i1 12 (.nchk (.t 11)),i1 13 (.faddr 0 (.t 12)),i1 14 (.faddr 8 (.t 13)),i1 15 (.load 4 true (.t 14)),i1 9 (.alloc 49 [.bool false,.bool false,.bool false,.bool false]),i0 (.store 4 (.t 9) (.t 15))]
abbrev r2:List In:=[i1 10 (.mv (kI 0))]
abbrev r3:List In:=[mv 16 1]
abbrev r4:List In:=[i1 18 (.bin .eql (.t 16) (kI 5)),mv 17 18]
abbrev r5:List In:=[i1 19 (.bin .eql (.t 16) (kI 6)),mv 17 19]
abbrev r6:List In:=[mv 21 0,mv 22 2,mv 23 3,mv 24 1,i1 25 (.bin .eql (.t 24) (kI 6)),mv 26 25,i2 26 true 27 (.faddr 0 (.t 9)),i2 26 true 28 (.load 1 false (.t 27)),i1 29 (.pick (.t 26) (.t 28) (kB false)),i1 30 (.call 164 [.t 22,.t 23,.t 29]),mv 20 30,i1 31 (.ext 0 (.t 20)),i1 32 (.ext 1 (.t 20)),mv 10 31,i1 33 (.nchk (.t 21)),i1 34 (.faddr 0 (.t 33)),i1 35 (.faddr 8 (.t 34)),i0 (.store 4 (.t 35) (.t 32))]
abbrev r7:List In:=[i1 37 (.bin .eql (.t 16) (kI 7)),mv 36 37]
abbrev r8:List In:=[i1 38 (.bin .eql (.t 16) (kI 12)),mv 36 38]
abbrev r9:List In:=[mv 40 0,mv 41 2,mv 42 3,i1 43 (.call 165 [.t 41,.t 42,kB false]),mv 39 43,i1 44 (.ext 0 (.t 39)),i1 45 (.ext 1 (.t 39)),mv 10 44,i1 46 (.nchk (.t 40)),i1 47 (.faddr 0 (.t 46)),i1 48 (.faddr 8 (.t 47)),i0 (.store 4 (.t 48) (.t 45))]
abbrev r10:List In:=[i1 50 (.bin .eql (.t 16) (kI 8)),mv 49 50]
abbrev r11:List In:=[i1 51 (.bin .eql (.t 16) (kI 13)),mv 49 51]
abbrev r12:List In:=[mv 53 0,mv 54 2,mv 55 3,i1 56 (.faddr 0 (.t 9)),i1 57 (.load 1 false (.t 56)),i1 58 (.call 165 [.t 54,.t 55,.t 57]),mv 52 58,i1 59 (.ext 0 (.t 52)),i1 60 (.ext 1 (.t 52)),mv 10 59,i1 61 (.nchk (.t 53)),i1 62 (.faddr 0 (.t 61)),i1 63 (.faddr 8 (.t 62)),i0 (.store 4 (.t 63) (.t 60))]
abbrev r13:List In:=[mv 64 1,i1 65 (.bin .eql (.t 64) (kI 13))]
abbrev r14:List In:=[mv 66 0,mv 67 0,i1 68 (.nchk (.t 67)),i1 69 (.faddr 0 (.t 68)),i1 70 (.faddr 8 (.t 69)),i1 71 (.faddr 1 (.t 70)),i1 72 (.load 1 false (.t 71)),mv 73 72,i2 73 true 74 (.faddr 1 (.t 9)),i2 73 true 75 (.load 1 false (.t 74)),i1 76 (.pick (.t 73) (.t 75) (kB false)),i1 77 (.nchk (.t 66)),i1 78 (.faddr 0 (.t 77)),i1 79 (.faddr 8 (.t 78)),i1 80 (.faddr 1 (.t 79)),i0 (.store 1 (.t 80) (.t 76))]
abbrev r15:List In:=[i1 82 (.bin .eql (.t 16) (kI 9)),mv 81 82]
abbrev r16:List In:=[mv 83 0,mv 84 2,mv 85 3,i1 86 (.bin .and (.t 84) (.t 85)),i1 87 (.call 166 [.t 83,.t 86,kB false]),mv 10 87]
abbrev r17:List In:=[i1 89 (.bin .eql (.t 16) (kI 10)),mv 88 89]
abbrev r18:List In:=[mv 90 0,mv 91 2,mv 92 3,i1 93 (.bin .or (.t 91) (.t 92)),i1 94 (.call 166 [.t 90,.t 93,kB false]),mv 10 94]
abbrev r19:List In:=[i1 96 (.bin .eql (.t 16) (kI 11)),mv 95 96]
abbrev r20:List In:=[mv 97 0,mv 98 2,mv 99 3,i1 100 (.bin .xor (.t 98) (.t 99)),i1 101 (.call 166 [.t 97,.t 100,kB false]),mv 10 101]
abbrev r21:List In:=[mv 102 10,mv 8 102]
abbrev code:IC:=.seq (.reg r0) (.seq (.reg r1) (.seq (.reg r2) (.seq (.seq (.reg r3) (.block 0 (.seq (.seq (.reg r4) (.cond (.t 17) .skip (.reg r5))) (.cond (.t 17) (.reg r6) (.seq (.seq (.reg r7) (.cond (.t 36) .skip (.reg r8))) (.cond (.t 36) (.reg r9) (.seq (.seq (.reg r10) (.cond (.t 49) .skip (.reg r11))) (.cond (.t 49) (.seq (.reg r12) (.seq (.reg r13) (.cond (.t 65) (.reg r14) .skip))) (.seq (.reg r15) (.cond (.t 81) (.reg r16) (.seq (.reg r17) (.cond (.t 88) (.reg r18) (.seq (.reg r19) (.cond (.t 95) (.reg r20) .skip)))))))))))))) (.seq (.reg r21) .ret))))
abbrev res:List RV:=[.tmp 8]
theorem fn:Body Tryz.prog 122 103 code res:=⟨by decide,Tryz.f122,_,Tryz.func122,rfl,rfl,by kernel_rfl,by kernel_rfl⟩
end Rz
namespace U7
abbrev r0:List In:=[i1 6 (.mv (kI 0))]
abbrev r1:List In:=[i1 7 (.mv (kI 0))]
abbrev r2:List In:=[mv 9 1,i1 10 (.bin .eql (.t 9) (kI 15)),mv 11 10,i2 11 true 12 (.mv (.t 0)),i2 11 true 13 (.nchk (.t 12)),i2 11 true 14 (.faddr 0 (.t 13)),i2 11 true 15 (.faddr 8 (.t 14)),i2 11 true 16 (.faddr 0 (.t 15)),i2 11 true 17 (.load 1 false (.t 16)),i1 18 (.pick (.t 11) (.t 17) (kB false)),mv 8 18]
abbrev r3:List In:=[i1 7 (.mv (kI 1))]
abbrev r4:List In:=[mv 20 1,i1 21 (.bin .eql (.t 20) (kI 18)),mv 22 21,i2 22 true 23 (.mv (.t 0)),i2 22 true 24 (.nchk (.t 23)),i2 22 true 25 (.faddr 0 (.t 24)),i2 22 true 26 (.faddr 8 (.t 25)),i2 22 true 27 (.faddr 0 (.t 26)),i2 22 true 28 (.load 1 false (.t 27)),i1 29 (.pick (.t 22) (.t 28) (kB false)),mv 19 29]
abbrev r5:List In:=[mv 30 1,i1 31 (.bin .eql (.t 30) (kI 17)),mv 32 31,i2 32 true 33 (.mv (.t 2)),i2 32 true 34 (.bin .gtr (.t 33) (kI 32767)),i1 35 (.pick (.t 32) (.t 34) (kB false)),mv 19 35]
abbrev r6:List In:=[i1 7 (.mv (kI 32768))]
abbrev r7:List In:=[mv 36 1,i1 37 (.bin .eql (.t 36) (kI 14)),mv 38 37,i2 38 false 39 (.mv (.t 1)),i2 38 false 40 (.bin .eql (.t 39) (kI 15)),i1 41 (.pick (.t 38) (kB true) (.t 40))]
abbrev r8:List In:=[mv 42 0,mv 43 2,i1 44 (.bin .shl (.t 43) (.k (.a (.int .u64 1)))),mv 45 7,i1 46 (.bin .or (.t 44) (.t 45)),mv 47 2,i1 48 (.bin .gtr (.t 47) (kI 32767)),i1 49 (.call 166 [.t 42,.t 46,.t 48]),mv 6 49]
abbrev r9:List In:=[mv 50 0,mv 51 2,i1 52 (.bin .shr (.t 51) (.k (.a (.int .u64 1)))),mv 53 7,i1 54 (.bin .or (.t 52) (.t 53)),mv 55 2,i1 56 (.bin .and (.t 55) (kI 1)),i1 57 (.bin .eql (.t 56) (kI 1)),i1 58 (.call 166 [.t 50,.t 54,.t 57]),mv 6 58]
abbrev code:IC:=.seq (.reg r0) (.seq (.reg r1) (.seq (.block 0 (.seq (.reg r2) (.cond (.t 8) (.reg r3) (.seq (.seq (.reg r4) (.cond (.t 19) .skip (.reg r5))) (.cond (.t 19) (.reg r6) .skip))))) (.seq (.seq (.reg r7) (.cond (.t 41) (.seq (.reg r8) .ret) .skip)) (.seq (.reg r9) .ret))))
abbrev res:List RV:=[.tmp 6]
theorem fn:Body Tryz.prog 123 59 code res:=⟨by decide,Tryz.f123,_,Tryz.func123,rfl,rfl,by kernel_rfl,by kernel_rfl⟩
end U7
namespace S0
abbrev r0:List In:=[i1 4 (.mv (kB false))]
abbrev r1:List In:=[mv 6 0,i1 7 (.nchk (.t 6)),i1 8 (.faddr 0 (.t 7)),i1 9 (.faddr 8 (.t 8)),i1 10 (.load 4 true (.t 9)),i1 5 (.alloc 49 [.bool false,.bool false,.bool false,.bool false]),i0 (.store 4 (.t 5) (.t 10))]
abbrev r2:List In:=[mv 11 1]
abbrev r3:List In:=[i1 13 (.bin .eql (.t 11) (kI 20)),mv 12 13]
abbrev r4:List In:=[i1 14 (.faddr 1 (.t 5)),i1 15 (.load 1 false (.t 14)),mv 4 15]
abbrev r5:List In:=[i1 17 (.bin .eql (.t 11) (kI 21)),mv 16 17]
abbrev r6:List In:=[i1 18 (.faddr 1 (.t 5)),i1 19 (.load 1 false (.t 18)),i1 20 (.un .not (.t 19)),mv 4 20]
abbrev r7:List In:=[i1 22 (.bin .eql (.t 11) (kI 22)),mv 21 22]
abbrev r8:List In:=[i1 23 (.faddr 0 (.t 5)),i1 24 (.load 1 false (.t 23)),mv 4 24]
abbrev r9:List In:=[i1 26 (.bin .eql (.t 11) (kI 23)),mv 25 26]
abbrev r10:List In:=[i1 27 (.faddr 0 (.t 5)),i1 28 (.load 1 false (.t 27)),i1 29 (.un .not (.t 28)),mv 4 29]
abbrev r11:List In:=[i1 31 (.bin .eql (.t 11) (kI 24)),mv 30 31]
abbrev r12:List In:=[i1 32 (.faddr 2 (.t 5)),i1 33 (.load 1 false (.t 32)),i1 34 (.faddr 3 (.t 5)),i1 35 (.load 1 false (.t 34)),i1 36 (.beq true (.t 33) (.t 35)),mv 4 36]
abbrev r13:List In:=[i1 38 (.bin .eql (.t 11) (kI 25)),mv 37 38]
abbrev r14:List In:=[i1 39 (.faddr 2 (.t 5)),i1 40 (.load 1 false (.t 39)),i1 41 (.faddr 3 (.t 5)),i1 42 (.load 1 false (.t 41)),i1 43 (.beq false (.t 40) (.t 42)),mv 4 43]
abbrev r15:List In:=[i1 4 (.mv (kB true))]
abbrev code:IC:=.seq (.reg r0) (.seq (.reg r1) (.seq (.seq (.reg r2) (.block 0 (.seq (.reg r3) (.cond (.t 12) (.seq (.reg r4) .ret) (.seq (.reg r5) (.cond (.t 16) (.seq (.reg r6) .ret) (.seq (.reg r7) (.cond (.t 21) (.seq (.reg r8) .ret) (.seq (.reg r9) (.cond (.t 25) (.seq (.reg r10) .ret) (.seq (.reg r11) (.cond (.t 30) (.seq (.reg r12) .ret) (.seq (.reg r13) (.cond (.t 37) (.seq (.reg r14) .ret) .skip)))))))))))))) (.seq (.reg r15) .ret)))
abbrev res:List RV:=[.tmp 4]
theorem fn:Body Tryz.prog 124 44 code res:=⟨by decide,Tryz.f124,_,Tryz.func124,rfl,rfl,by kernel_rfl,by kernel_rfl⟩
end S0
namespace Zl
abbrev r0:List In:=[i1 2 (.mv (kI 0))]
abbrev r1:DT:=(tm 9 0 false (tk 10 (.nchk (.t 9)) true (tk 11 (.faddr 14 (.t 10)) true (tk 12 (.load 1 false (.t 11)) true (tm 13 0 true (tk 14 (.nchk (.t 13)) true (tk 15 (.faddr 0 (.t 14)) true (tk 16 (.faddr 12 (.t 15)) true (tk 17 (.load 1 false (.t 16)) true (al 18 (.call 119 [.t 12,.t 17]) false (tm 8 18 false (tk 19 (.ext 0 (.t 8)) false (tk 20 (.ext 1 (.t 8)) false (al 3 (.alloc 73 [.int .i64 0,.int .i64 0,.int .i64 0,.int .i64 0]) true (.alt (i0 (.store 4 (.t 3) (.t 19))) false (tm 4 20 false .done) .stop) .stop)))) (al 3 (.alloc 73 [.int .i64 0,.int .i64 0,.int .i64 0,.int .i64 0]) true (al 18 (.call 119 [.t 12,.t 17]) false (tm 8 18 false (tk 19 (.ext 0 (.t 8)) false (tk 20 (.ext 1 (.t 8)) false (.alt (i0 (.store 4 (.t 3) (.t 19))) false (tm 4 20 false .done) .stop)))) .stop) .stop)))))))))))
abbrev r2:List In:=[mv 21 4,i1 22 (.bin .eql (.t 21) (kI 0))]
abbrev r3:List In:=[i1 2 (.mv (kI 4))]
abbrev c2:IC:=.seq (.reg r2) (.cond (.t 22) (.seq (.reg r3) .ret) .skip)
abbrev r4:List In:=[mv 23 0,i1 24 (.nchk (.t 23)),i1 25 (.faddr 0 (.t 24)),i1 26 (.faddr 12 (.t 25)),i1 27 (.load 1 false (.t 26)),mv 28 4,i1 29 (.bin .add (.t 27) (.t 28)),mv 5 29]
abbrev r5:List In:=[mv 30 0,i1 31 (.nchk (.t 30)),i1 32 (.faddr 0 (.t 31)),i1 33 (.faddr 0 (.t 32)),mv 6 33]
abbrev r6:List In:=[i1 34 (.faddr 0 (.t 3)),i1 35 (.load 1 false (.t 34)),mv 7 35]
abbrev r7:List In:=[mv 37 7,i1 38 (.bin .eql (.t 37) (kI 0)),mv 36 38]
abbrev r8:List In:=[i1 2 (.mv (kI 1))]
abbrev r9:List In:=[mv 40 7,i1 41 (.bin .eql (.t 40) (kI 32)),mv 39 41]
abbrev r10:List In:=[mv 42 0,i1 43 (.faddr 3 (.t 3)),i1 44 (.load 1 false (.t 43)),i1 45 (.nchk (.t 42)),i1 46 (.faddr 16 (.t 45)),i1 47 (.faddr 1 (.t 46)),i0 (.store 1 (.t 47) (.t 44))]
abbrev r11:List In:=[i1 2 (.mv (kI 2))]
abbrev r12:List In:=[mv 49 7,i1 50 (.bin .eql (.t 49) (kI 1)),mv 48 50]
abbrev r13:List In:=[mv 51 6,i1 52 (.faddr 1 (.t 3)),i1 53 (.load 1 false (.t 52)),mv 54 6,i1 55 (.faddr 2 (.t 3)),i1 56 (.load 1 false (.t 55)),i1 57 (.nchk (.t 54)),i1 58 (.iarr 8 1 (.t 57) (.t 56)),i1 59 (.load 1 false (.t 58)),i1 60 (.nchk (.t 51))]
abbrev r14:List In:=[i1 61 (.iarr 8 1 (.t 60) (.t 53)),i0 (.store 1 (.t 61) (.t 59))]
abbrev r15:List In:=[mv 63 7,i1 64 (.bin .eql (.t 63) (kI 2)),mv 62 64]
abbrev r16:List In:=[mv 65 6,i1 66 (.faddr 1 (.t 3)),i1 67 (.load 1 false (.t 66)),i1 68 (.faddr 3 (.t 3)),i1 69 (.load 1 false (.t 68)),i1 70 (.nchk (.t 65))]
abbrev r17:List In:=[i1 71 (.iarr 8 1 (.t 70) (.t 67)),i0 (.store 1 (.t 71) (.t 69))]
abbrev r18:List In:=[mv 73 7,i1 74 (.bin .eql (.t 73) (kI 3)),mv 72 74]
abbrev r19:DT:=(tm 75 6 true (tk 76 (.faddr 1 (.t 3)) true (tk 77 (.load 1 false (.t 76)) true (tm 78 0 true (tm 79 6 true (tk 80 (.faddr 2 (.t 3)) true (tk 81 (.load 1 false (.t 80)) true (tk 82 (.nchk (.t 79)) true (tk 83 (.iarr 8 1 (.t 82) (.t 81)) true (tk 85 (.faddr 3 (.t 3)) true (tk 86 (.load 1 false (.t 85)) true (tk 89 (.nchk (.t 75)) true (al 84 (.load 1 false (.t 83)) true (tk 87 (.bin .add (.t 84) (.t 86)) true (al 88 (.call 120 [.t 78,.t 87]) true (tk 90 (.iarr 8 1 (.t 89) (.t 77)) true (.alt (i0 (.store 1 (.t 90) (.t 88))) false .done .stop)) .stop)) .stop)))))))))))))
abbrev r20:List In:=[mv 92 7,i1 93 (.bin .eql (.t 92) (kI 4)),mv 91 93]
abbrev r21:List In:=[mv 94 0,mv 95 6,i1 96 (.faddr 1 (.t 3)),i1 97 (.load 1 false (.t 96)),i1 98 (.nchk (.t 95)),i1 99 (.iarr 8 1 (.t 98) (.t 97)),i1 100 (.load 1 false (.t 99)),i1 101 (.faddr 3 (.t 3)),i1 102 (.load 1 false (.t 101)),i1 103 (.bin .add (.t 100) (.t 102)),mv 104 6,i1 105 (.faddr 2 (.t 3)),i1 106 (.load 1 false (.t 105)),i1 107 (.nchk (.t 104)),i1 108 (.iarr 8 1 (.t 107) (.t 106)),i1 109 (.load 1 false (.t 108))]
abbrev r22:List In:=[i1 110 (.call 121 [.t 94,.t 103,.t 109])]
abbrev r23:List In:=[mv 112 7,i1 113 (.bin .eql (.t 112) (kI 12)),mv 114 113,i2 114 false 115 (.mv (.t 7)),i2 114 false 116 (.bin .eql (.t 115) (kI 13)),i1 117 (.pick (.t 114) (kB true) (.t 116)),mv 111 117]
abbrev r24:List In:=[mv 118 0,mv 119 7,mv 120 6,i1 121 (.faddr 1 (.t 3)),i1 122 (.load 1 false (.t 121)),i1 123 (.nchk (.t 120)),i1 124 (.iarr 8 1 (.t 123) (.t 122)),i1 125 (.load 1 false (.t 124)),mv 126 6,i1 127 (.faddr 2 (.t 3)),i1 128 (.load 1 false (.t 127)),i1 129 (.nchk (.t 126)),i1 130 (.iarr 8 1 (.t 129) (.t 128)),i1 131 (.load 1 false (.t 130))]
abbrev r25:List In:=[i1 132 (.call 122 [.t 118,.t 119,.t 125,.t 131])]
abbrev r26:List In:=[mv 134 7,i1 135 (.bin .geq (.t 134) (kI 5)),mv 136 135,i2 136 true 137 (.mv (.t 7)),i2 136 true 138 (.bin .leq (.t 137) (kI 11)),i1 139 (.pick (.t 136) (.t 138) (kB false)),mv 133 139]
abbrev r27:DT:=(tm 140 6 true (tk 141 (.faddr 1 (.t 3)) true (tk 142 (.load 1 false (.t 141)) true (tm 143 0 true (tm 144 7 true (tm 145 6 true (tk 146 (.faddr 1 (.t 3)) true (tk 147 (.load 1 false (.t 146)) true (tk 148 (.nchk (.t 145)) true (tk 149 (.iarr 8 1 (.t 148) (.t 147)) true (tm 151 6 true (tk 152 (.faddr 2 (.t 3)) true (tk 153 (.load 1 false (.t 152)) true (tk 154 (.nchk (.t 151)) true (tk 155 (.iarr 8 1 (.t 154) (.t 153)) true (tk 158 (.nchk (.t 140)) true (al 150 (.load 1 false (.t 149)) true (al 156 (.load 1 false (.t 155)) true (al 157 (.call 122 [.t 143,.t 144,.t 150,.t 156]) true (tk 159 (.iarr 8 1 (.t 158) (.t 142)) true (.alt (i0 (.store 1 (.t 159) (.t 157))) false .done .stop)) .stop) .stop) (al 156 (.load 1 false (.t 155)) true (al 150 (.load 1 false (.t 149)) true (al 157 (.call 122 [.t 143,.t 144,.t 150,.t 156]) true (tk 159 (.iarr 8 1 (.t 158) (.t 142)) true (.alt (i0 (.store 1 (.t 159) (.t 157))) false .done .stop)) .stop) .stop) .stop))))))))))))))))))
abbrev r28:List In:=[mv 161 7,i1 162 (.bin .geq (.t 161) (kI 14)),mv 163 162,i2 163 true 164 (.mv (.t 7)),i2 163 true 165 (.bin .leq (.t 164) (kI 18)),i1 166 (.pick (.t 163) (.t 165) (kB false)),mv 160 166]
abbrev r29:DT:=(tm 167 6 true (tk 168 (.faddr 1 (.t 3)) true (tk 169 (.load 1 false (.t 168)) true (tm 170 0 true (tm 171 7 true (tm 172 6 true (tk 173 (.faddr 1 (.t 3)) true (tk 174 (.load 1 false (.t 173)) true (tk 175 (.nchk (.t 172)) true (tk 176 (.iarr 8 1 (.t 175) (.t 174)) true (tk 179 (.nchk (.t 167)) true (al 177 (.load 1 false (.t 176)) true (al 178 (.call 123 [.t 170,.t 171,.t 177]) true (tk 180 (.iarr 8 1 (.t 179) (.t 169)) true (.alt (i0 (.store 1 (.t 180) (.t 178))) false .done .stop)) .stop) .stop))))))))))))
abbrev r30:List In:=[mv 182 7,i1 183 (.bin .geq (.t 182) (kI 19)),mv 184 183,i2 184 true 185 (.mv (.t 7)),i2 184 true 186 (.bin .leq (.t 185) (kI 25)),i1 187 (.pick (.t 184) (.t 186) (kB false)),mv 181 187]
abbrev r31:List In:=[mv 188 0,mv 189 7,i1 190 (.call 124 [.t 188,.t 189])]
abbrev r32:List In:=[i1 191 (.faddr 3 (.t 3)),i1 192 (.load 1 false (.t 191)),mv 5 192]
abbrev r33:List In:=[mv 194 7,i1 195 (.bin .eql (.t 194) (kI 26)),mv 193 195]
abbrev r34:List In:=[mv 196 0,mv 197 5,i1 198 (.call 125 [.t 196,.t 197])]
abbrev r35:List In:=[i1 199 (.faddr 3 (.t 3)),i1 200 (.load 1 false (.t 199)),mv 5 200]
abbrev r36:List In:=[mv 202 7,i1 203 (.bin .eql (.t 202) (kI 27)),mv 201 203]
abbrev r37:List In:=[mv 204 0,i1 205 (.call 126 [.t 204]),mv 5 205]
abbrev r38:List In:=[mv 207 7,i1 208 (.bin .eql (.t 207) (kI 28)),mv 206 208]
abbrev r39:List In:=[mv 209 0,mv 210 6,i1 211 (.faddr 2 (.t 3)),i1 212 (.load 1 false (.t 211)),i1 213 (.nchk (.t 210)),i1 214 (.iarr 8 1 (.t 213) (.t 212)),i1 215 (.load 1 false (.t 214))]
abbrev r40:List In:=[i1 216 (.call 125 [.t 209,.t 215])]
abbrev r41:List In:=[mv 218 7,i1 219 (.bin .eql (.t 218) (kI 29)),mv 217 219]
abbrev r42:DT:=(tm 220 6 true (tk 221 (.faddr 1 (.t 3)) true (tk 222 (.load 1 false (.t 221)) true (tm 223 0 true (tk 225 (.nchk (.t 220)) true (al 224 (.call 126 [.t 223]) true (tk 226 (.iarr 8 1 (.t 225) (.t 222)) true (.alt (i0 (.store 1 (.t 226) (.t 224))) false .done .stop)) .stop))))))
abbrev r43:List In:=[mv 228 7,i1 229 (.bin .eql (.t 228) (kI 31)),mv 227 229]
abbrev r44:List In:=[mv 230 0,i1 231 (.faddr 1 (.t 3)),i1 232 (.load 1 false (.t 231)),i1 233 (.call 127 [.t 230,.t 232])]
abbrev r45:List In:=[mv 235 7,i1 236 (.bin .eql (.t 235) (kI 30)),mv 234 236]
abbrev r46:List In:=[mv 237 0,i1 238 (.nchk (.t 237)),i1 239 (.faddr 16 (.t 238)),i1 240 (.faddr 2 (.t 239)),i1 241 (.load 1 false (.t 240)),i1 242 (.len (.t 241)),i1 243 (.bin .eql (.t 242) (kI 65536))]
abbrev r47:List In:=[i1 2 (.mv (kI 5))]
abbrev r48:DT:=(tm 244 0 true (tm 245 0 true (tk 246 (.nchk (.t 245)) true (tk 247 (.faddr 16 (.t 246)) true (tk 248 (.faddr 2 (.t 247)) true (tm 250 6 true (tk 251 (.faddr 2 (.t 3)) true (tk 252 (.load 1 false (.t 251)) true (tk 253 (.nchk (.t 250)) true (tk 254 (.iarr 8 1 (.t 253) (.t 252)) true (al 249 (.load 1 false (.t 248)) true (al 255 (.load 1 false (.t 254)) true (tk 256 (.conv .u8 (.t 255)) true (al 257 (.bsl 5 1 1 [.int .u8 0] [(0,1,(.t 256))]) true (al 258 (.app 46 5 1 1 (.t 249) (.t 257)) true (tk 259 (.nchk (.t 244)) true (tk 260 (.faddr 16 (.t 259)) true (tk 261 (.faddr 2 (.t 260)) true (.alt (i0 (.store 1 (.t 261) (.t 258))) false .done .stop)))) .stop) .stop)) .stop) (al 255 (.load 1 false (.t 254)) true (tk 256 (.conv .u8 (.t 255)) true (al 249 (.load 1 false (.t 248)) true (al 257 (.bsl 5 1 1 [.int .u8 0] [(0,1,(.t 256))]) true (al 258 (.app 46 5 1 1 (.t 249) (.t 257)) true (tk 259 (.nchk (.t 244)) true (tk 260 (.faddr 16 (.t 259)) true (tk 261 (.faddr 2 (.t 260)) true (.alt (i0 (.store 1 (.t 261) (.t 258))) false .done .stop)))) .stop) .stop) (al 257 (.bsl 5 1 1 [.int .u8 0] [(0,1,(.t 256))]) true (al 249 (.load 1 false (.t 248)) true (al 258 (.app 46 5 1 1 (.t 249) (.t 257)) true (tk 259 (.nchk (.t 244)) true (tk 260 (.faddr 16 (.t 259)) true (tk 261 (.faddr 2 (.t 260)) true (.alt (i0 (.store 1 (.t 261) (.t 258))) false .done .stop)))) .stop) .stop) .stop))) .stop))))))))))))
abbrev r49:List In:=[mv 262 0,mv 263 5,i1 264 (.bin .and (.t 263) (kI 65535)),i1 265 (.nchk (.t 262)),i1 266 (.faddr 0 (.t 265)),i1 267 (.faddr 12 (.t 266)),i0 (.store 1 (.t 267) (.t 264))]
abbrev r50:List In:=[i1 2 (.mv (kI 0))]
abbrev c51:IC:=.seq (.reg r4) (.seq (.reg r5) (.seq (.seq (.reg r6) (.block 0 (.seq (.reg r7) (.cond (.t 36) (.seq (.reg r8) .ret) (.seq (.reg r9) (.cond (.t 39) (.seq (.reg r10) (.seq (.reg r11) .ret)) (.seq (.reg r12) (.cond (.t 48) (.dregt r13 r14) (.seq (.reg r15) (.cond (.t 62) (.dregt r16 r17) (.seq (.reg r18) (.cond (.t 72) (.dany r19) (.seq (.reg r20) (.cond (.t 91) (.dregt r21 r22) (.seq (.reg r23) (.cond (.t 111) (.dregt r24 r25) (.seq (.reg r26) (.cond (.t 133) (.dany r27) (.seq (.reg r28) (.cond (.t 160) (.dany r29) (.seq (.reg r30) (.cond (.t 181) (.seq (.reg r31) (.cond (.t 190) (.reg r32) .skip)) (.seq (.reg r33) (.cond (.t 193) (.seq (.reg r34) (.reg r35)) (.seq (.reg r36) (.cond (.t 201) (.reg r37) (.seq (.reg r38) (.cond (.t 206) (.dregt r39 r40) (.seq (.reg r41) (.cond (.t 217) (.dany r42) (.seq (.reg r43) (.cond (.t 227) (.reg r44) (.seq (.reg r45) (.cond (.t 234) (.seq (.seq (.reg r46) (.cond (.t 243) (.seq (.reg r47) .ret) .skip)) (.dany r48)) .skip)))))))))))))))))))))))))))))))))) (.seq (.reg r49) (.seq (.reg r50) .ret))))
def c52:IC:=.seq c2 c51
abbrev code:IC:=.seq (.reg r0) (.seq (.dany r1) c52)
abbrev res:List RV:=[.tmp 2]
theorem fn:Body Tryz.prog 88 268 code res:=⟨by decide,Tryz.f88,_,Tryz.func88,rfl,rfl,by kernel_rfl,by kernel_rfl⟩
end Zl
namespace Ky
abbrev r0:List In:=[i1 1 (.box 51 (.t 0)),i1 2 (.mv (kI 0))]
abbrev r1:List In:=[i1 7 (.faddr 13 (.t 1)),i1 8 (.load 1 false (.t 7)),i1 9 (.len (.t 8)),i1 10 (.bin .gtr (.t 9) (kI 65536))]
abbrev r2:List In:=[i1 2 (.mv (kI 4))]
abbrev r3:DT:=(tk 11 (.faddr 0 (.t 1)) true (tk 13 (.faddr 12 (.t 1)) true (tk 14 (.load 1 false (.t 13)) true (tk 18 (.mv (kI 0)) true (al 12 (.slA 8 (.t 11)) true (al 15 (.bsl 3 1 1 [.int .i64 0] [(0,1,(.t 14))]) true (al 16 (.app 43 3 1 8 (.t 12) (.t 15)) true (al 17 (.len (.t 16)) true .done .stop) .stop) .stop) (al 15 (.bsl 3 1 1 [.int .i64 0] [(0,1,(.t 14))]) true (al 12 (.slA 8 (.t 11)) true (al 16 (.app 43 3 1 8 (.t 12) (.t 15)) true (al 17 (.len (.t 16)) true .done .stop) .stop) .stop) .stop))))))
abbrev r4:List In:=[i1 19 (.bin .lss (.t 18) (.t 17))]
abbrev r5:List In:=[i1 20 (.iaddr 1 (.t 16) (.t 18)),i1 21 (.load 1 false (.t 20)),mv 4 21]
abbrev r6:List In:=[mv 22 4,i1 23 (.bin .lss (.t 22) (kI 0)),mv 24 23,i2 24 false 25 (.mv (.t 4)),i2 24 false 26 (.bin .gtr (.t 25) (kI 65535)),i1 27 (.pick (.t 24) (kB true) (.t 26))]
abbrev r7:List In:=[i1 2 (.mv (kI 3))]
abbrev r8:List In:=[i1 28 (.bin .add (.t 18) (kI 1)),mv 18 28]
abbrev r9:List In:=[i1 29 (.faddr 13 (.t 1)),i1 30 (.load 1 false (.t 29)),i1 31 (.len (.t 30)),i1 32 (.mv (kI 0))]
abbrev r10:List In:=[i1 33 (.bin .lss (.t 32) (.t 31))]
abbrev r11:List In:=[i1 34 (.iaddr 1 (.t 30) (.t 32)),i1 35 (.load 1 false (.t 34)),mv 6 35]
abbrev r12:List In:=[mv 36 6,i1 37 (.bin .lss (.t 36) (kI 0)),mv 38 37,i2 38 false 39 (.mv (.t 6)),i2 38 false 40 (.bin .gtr (.t 39) (kI 65535)),i1 41 (.pick (.t 38) (kB true) (.t 40))]
abbrev r13:List In:=[i1 2 (.mv (kI 3))]
abbrev r14:List In:=[i1 42 (.bin .add (.t 32) (kI 1)),mv 32 42]
abbrev r15:List In:=[i1 2 (.mv (kI 0))]
abbrev code:IC:=.seq (.reg r0) (.seq (.seq (.reg r1) (.cond (.t 10) (.seq (.reg r2) .ret) .skip)) (.seq (.seq (.dany r3) (.block 0 (.loop (.seq (.reg r4) (.seq (.cond (.t 19) .skip (.exit 0)) (.seq (.block 1 (.seq (.reg r5) (.seq (.reg r6) (.cond (.t 27) (.seq (.reg r7) .ret) .skip)))) (.reg r8))))))) (.seq (.seq (.reg r9) (.block 2 (.loop (.seq (.reg r10) (.seq (.cond (.t 33) .skip (.exit 2)) (.seq (.block 3 (.seq (.reg r11) (.seq (.reg r12) (.cond (.t 41) (.seq (.reg r13) .ret) .skip)))) (.reg r14))))))) (.seq (.reg r15) .ret))))
abbrev res:List RV:=[.tmp 2]
theorem fn:Body Tryz.prog 118 43 code res:=⟨by decide,Tryz.f118,_,Tryz.func118,rfl,rfl,by kernel_rfl,by kernel_rfl⟩
end Ky
namespace J1
abbrev r0:List In:=[i1 5 (.box 51 (.t 1)),i1 8 (.mv (kI 0))]
abbrev r1:List In:=[mv 10 0,i1 11 (.len (.t 10)),i1 12 (.bin .gtr (.t 11) (kI 65536)),mv 13 12,i2 13 false 14 (.mv (.t 2)),i2 13 false 15 (.len (.t 14)),i2 13 false 16 (.bin .gtr (.t 15) (kI 65536)),i1 17 (.pick (.t 13) (kB true) (.t 16))]
abbrev r2:List In:=[i1 8 (.mv (kI 4))]
abbrev r3:List In:=[i1 18 (.load 14 true (.t 5)),i1 19 (.call 118 [.t 18]),mv 9 19]
abbrev r4:List In:=[mv 20 9,i1 21 (.bin .neq (.t 20) (kI 0))]
abbrev r5:List In:=[mv 22 9,mv 8 22]
abbrev r6:List In:=[mv 23 3,i1 24 (.bin .lss (.t 23) (kI 0)),mv 25 24,i2 25 false 26 (.mv (.t 3)),i2 25 false 27 (.bin .gtr (.t 26) (kI 1000000)),i1 28 (.pick (.t 25) (kB true) (.t 27))]
abbrev r7:List In:=[i1 8 (.mv (kI 3))]
abbrev r8:List In:=[i1 8 (.mv (kI 0))]
abbrev code:IC:=.seq (.reg r0) (.seq (.seq (.reg r1) (.cond (.t 17) (.seq (.reg r2) .ret) .skip)) (.seq (.seq (.reg r3) (.seq (.reg r4) (.cond (.t 21) (.seq (.reg r5) .ret) .skip))) (.seq (.seq (.reg r6) (.cond (.t 28) (.seq (.reg r7) .ret) .skip)) (.seq (.reg r8) .ret))))
abbrev res:List RV:=[.tmp 8]
theorem fn:Body Tryz.prog 86 29 code res:=⟨by decide,Tryz.f86,_,Tryz.func86,rfl,rfl,by kernel_rfl,by kernel_rfl⟩
end J1
namespace Kx
abbrev r0:List In:=[i1 7 (.box 51 (.t 1)),i1 12 (.alloc 53 [.int .i64 0,.int .i64 0,.raw (.slice none 0 0),.int .i64 0,.int .i64 0,.int .i64 0,.int .i64 0,.int .i64 0,.int .i64 0,.int .i64 0,.int .i64 0,.int .i64 0,.int .i64 0,.bool false,.bool false,.bool false,.bool false,.int .i64 0,.raw (.slice none 0 0)]),i1 13 (.mv (kI 0))]
abbrev r1:List In:=[mv 18 0,i1 19 (.load 14 true (.t 7)),mv 20 2,mv 21 3,i1 22 (.call 86 [.t 18,.t 19,.t 20,.t 21]),mv 14 22]
abbrev r2:List In:=[mv 23 14,i1 24 (.bin .neq (.t 23) (kI 0))]
abbrev r3:List In:=[i1 25 (.build [.int .i64 0,.int .i64 0,.raw (.slice none 0 0),.int .i64 0,.int .i64 0,.int .i64 0,.int .i64 0,.int .i64 0,.int .i64 0,.int .i64 0,.int .i64 0,.int .i64 0,.int .i64 0,.bool false,.bool false,.bool false,.bool false,.int .i64 0,.raw (.slice none 0 0)] []),mv 26 14,i0 (.store 19 (.t 12) (.t 25)),mv 13 26]
abbrev r4:List In:=[i1 27 (.load 14 true (.t 7)),mv 28 0,mv 29 2,i1 30 (.build [.int .i64 0,.int .i64 0,.int .i64 0,.int .i64 0,.int .i64 0,.int .i64 0,.int .i64 0,.int .i64 0,.bool false,.bool false,.bool false,.bool false,.int .i64 0,.raw (.slice none 0 0),.raw (.slice none 0 0),.raw (.slice none 0 0),.int .i64 0,.int .i64 0,.raw (.slice none 0 0),.int .i64 0,.int .i64 0,.int .i64 0,.int .i64 0,.int .i64 0,.int .i64 0,.int .i64 0,.int .i64 0,.int .i64 0,.int .i64 0,.bool false,.bool false,.bool false,.bool false,.int .i64 0,.raw (.slice none 0 0)] [(0,14,(.t 27)),(14,1,(.t 28)),(15,1,(.t 29))]),i1 31 (.box 152 (.t 30)),mv 15 31]
abbrev r5:DT:=(tm 32 15 true (tk 33 (.faddr 13 (.t 7)) true (tk 34 (.load 1 false (.t 33)) true (tk 36 (.faddr 13 (.t 7)) true (tk 37 (.load 1 false (.t 36)) true (al 35 (.call 87 [.t 34]) true (al 38 (.len (.t 37)) true (tk 39 (.bin .sub (kI 65536) (.t 38)) true (al 40 (.app0 (.t 35) (.t 39)) true (tk 41 (.nchk (.t 32)) true (tk 42 (.faddr 0 (.t 41)) true (tk 43 (.faddr 13 (.t 42)) true (.alt (i0 (.store 1 (.t 43) (.t 40))) false .done .stop)))) .stop)) .stop) (al 38 (.len (.t 37)) true (tk 39 (.bin .sub (kI 65536) (.t 38)) true (al 35 (.call 87 [.t 34]) true (al 40 (.app0 (.t 35) (.t 39)) true (tk 41 (.nchk (.t 32)) true (tk 42 (.faddr 0 (.t 41)) true (tk 43 (.faddr 13 (.t 42)) true (.alt (i0 (.store 1 (.t 43) (.t 40))) false .done .stop)))) .stop) .stop)) .stop)))))))
abbrev r6:List In:=[mv 44 15,i1 45 (.nchk (.t 44)),i1 46 (.faddr 16 (.t 45)),i1 47 (.faddr 0 (.t 46)),i1 48 (.load 1 false (.t 47)),i1 49 (.bin .eql (.t 48) (kI 0))]
abbrev r7:List In:=[mv 50 4,i1 51 (.fnil true (.t 50) (.k (.a (.raw .nilFunc)))),mv 52 51,i2 52 true 53 (.mv (.t 4)),i2 52 true 54 (.mv (.t 15)),i2 52 true 55 (.nchk (.t 54)),i2 52 true 56 (.faddr 0 (.t 55)),i2 52 true 57 (.faddr 12 (.t 56)),i2 52 true 58 (.load 1 false (.t 57)),i2 52 true 59 (.callv (.t 53) [.t 58]),i1 60 (.pick (.t 52) (.t 59) (kB false))]
abbrev r8:List In:=[mv 61 15,i1 62 (.nchk (.t 61)),i1 63 (.faddr 16 (.t 62)),i1 64 (.faddr 0 (.t 63)),i0 (.store 1 (.t 64) (kI 6))]
abbrev r9:List In:=[mv 65 15,i1 66 (.nchk (.t 65)),i1 67 (.faddr 16 (.t 66)),i1 68 (.faddr 4 (.t 67)),i1 69 (.load 1 false (.t 68)),mv 70 3,i1 71 (.bin .eql (.t 69) (.t 70))]
abbrev r10:List In:=[mv 72 15,i1 73 (.nchk (.t 72)),i1 74 (.faddr 16 (.t 73)),i1 75 (.faddr 0 (.t 74)),i0 (.store 1 (.t 75) (kI 3))]
abbrev r11:List In:=[mv 76 15,i1 77 (.nchk (.t 76)),i1 78 (.faddr 16 (.t 77)),i1 79 (.faddr 4 (.t 78)),i1 80 (.load 1 false (.t 79)),i1 81 (.bin .add (.t 80) (kI 1)),i1 82 (.nchk (.t 76)),i1 83 (.faddr 16 (.t 82)),i1 84 (.faddr 4 (.t 83)),i0 (.store 1 (.t 84) (.t 81))]
abbrev r12:List In:=[mv 85 15,i1 86 (.nchk (.t 85)),i1 87 (.faddr 0 (.t 86)),i1 88 (.faddr 12 (.t 87)),i1 89 (.load 1 false (.t 88)),mv 16 89]
abbrev r13:List In:=[mv 90 15,mv 91 15,i1 92 (.call 88 [.t 91]),i1 93 (.nchk (.t 90)),i1 94 (.faddr 16 (.t 93)),i1 95 (.faddr 0 (.t 94)),i0 (.store 1 (.t 95) (.t 92))]
abbrev r14:List In:=[mv 96 5,i1 97 (.fnil true (.t 96) (.k (.a (.raw .nilFunc))))]
abbrev r15:List In:=[mv 98 5,mv 99 16,mv 100 15,i1 101 (.nchk (.t 100)),i1 102 (.faddr 0 (.t 101)),i1 103 (.callv (.t 98) [.t 99,.t 102])]
abbrev r16:List In:=[mv 104 15,i1 105 (.nchk (.t 104)),i1 106 (.faddr 0 (.t 105)),i1 107 (.faddr 13 (.t 106)),i1 108 (.load 1 false (.t 107)),i1 109 (.len (.t 108)),mv 17 109]
abbrev r17:List In:=[mv 110 17,i1 111 (.bin .gtr (.t 110) (kI 0)),mv 112 111,i2 112 true 113 (.mv (.t 15)),i2 112 true 114 (.nchk (.t 113)),i2 112 true 115 (.faddr 0 (.t 114)),i2 112 true 116 (.faddr 13 (.t 115)),i2 112 true 117 (.load 1 false (.t 116)),i2 112 true 118 (.mv (.t 17)),i2 112 true 119 (.bin .sub (.t 118) (kI 1)),i2 112 true 120 (.iaddr 1 (.t 117) (.t 119)),i2 112 true 121 (.load 1 false (.t 120)),i2 112 true 122 (.bin .eql (.t 121) (kI 0)),i1 123 (.pick (.t 112) (.t 122) (kB false))]
abbrev r18:List In:=[mv 124 17,i1 125 (.bin .sub (.t 124) (kI 1)),mv 17 125]
abbrev r19:List In:=[mv 126 15,mv 127 15,i1 128 (.nchk (.t 127)),i1 129 (.faddr 0 (.t 128)),i1 130 (.faddr 13 (.t 129)),i1 131 (.load 1 false (.t 130)),mv 132 17,i1 133 (.sl 1 (.t 131) none (some (.t 132))),i1 134 (.call 87 [.t 133]),i1 135 (.nchk (.t 126)),i1 136 (.faddr 0 (.t 135)),i1 137 (.faddr 13 (.t 136)),i0 (.store 1 (.t 137) (.t 134))]
abbrev r20:List In:=[mv 138 15,mv 139 15,i1 140 (.nchk (.t 139)),i1 141 (.faddr 0 (.t 140)),i1 142 (.load 14 true (.t 141)),i1 143 (.nchk (.t 138)),i1 144 (.faddr 16 (.t 143)),i1 145 (.faddr 5 (.t 144)),i0 (.store 14 (.t 145) (.t 142))]
abbrev r21:List In:=[mv 146 15,i1 147 (.nchk (.t 146)),i1 148 (.faddr 16 (.t 147)),i1 149 (.load 19 true (.t 148)),i0 (.store 19 (.t 12) (.t 149)),i1 13 (.mv (kI 0))]
abbrev code:IC:=.seq (.reg r0) (.seq (.seq (.reg r1) (.seq (.reg r2) (.cond (.t 24) (.seq (.reg r3) .ret) .skip))) (.seq (.reg r4) (.seq (.dany r5) (.seq (.block 0 (.loop (.seq (.seq (.reg r6) (.cond (.t 49) .skip (.exit 0))) (.block 1 (.seq (.seq (.reg r7) (.cond (.t 60) (.seq (.reg r8) (.exit 0)) .skip)) (.seq (.seq (.reg r9) (.cond (.t 71) (.seq (.reg r10) (.exit 0)) .skip)) (.seq (.reg r11) (.seq (.reg r12) (.seq (.reg r13) (.seq (.reg r14) (.cond (.t 97) (.reg r15) .skip))))))))))) (.seq (.reg r16) (.seq (.block 2 (.loop (.seq (.seq (.reg r17) (.cond (.t 123) .skip (.exit 2))) (.block 3 (.reg r18))))) (.seq (.reg r19) (.seq (.reg r20) (.seq (.reg r21) .ret)))))))))
abbrev res:List RV:=[.cell 12 19 true,.tmp 13]
theorem fn:Body Tryz.prog 73 150 code res:=⟨by decide,Tryz.f73,_,Tryz.func73,rfl,rfl,by kernel_rfl,by kernel_rfl⟩
end Kx
namespace Gp
abbrev r0:List In:=[i1 5 (.box 51 (.t 1)),i1 8 (.alloc 53 [.int .i64 0,.int .i64 0,.raw (.slice none 0 0),.int .i64 0,.int .i64 0,.int .i64 0,.int .i64 0,.int .i64 0,.int .i64 0,.int .i64 0,.int .i64 0,.int .i64 0,.int .i64 0,.bool false,.bool false,.bool false,.bool false,.int .i64 0,.raw (.slice none 0 0)]),i1 9 (.mv (kI 0))]
abbrev r1:List In:=[mv 10 0,i1 11 (.load 14 true (.t 5)),mv 12 2,mv 13 3,i1 14 (.call 73 [.t 10,.t 11,.t 12,.t 13,(.k (.a (.raw .nilFunc))),(.k (.a (.raw .nilFunc)))]),i1 15 (.ext 0 (.t 14)),i1 16 (.ext 1 (.t 14)),i0 (.store 19 (.t 8) (.t 15)),mv 9 16]
abbrev code:IC:=.seq (.reg r0) (.seq (.reg r1) .ret)
abbrev res:List RV:=[.cell 8 19 true,.tmp 9]
theorem fn:Body Tryz.prog 46 17 code res:=⟨by decide,Tryz.f46,_,Tryz.func46,rfl,rfl,by kernel_rfl,by kernel_rfl⟩
end Gp
namespace Um
abbrev r0:List In:=[i1 2 (.mv (.k (.a (.raw (.slice none 0 0)))))]
abbrev r1:List In:=[mv 3 0,i1 4 (.snil false (.t 3) (.k (.a (.raw (.slice none 0 0)))))]
abbrev r2:List In:=[i1 2 (.mv (.k (.a (.raw (.slice none 0 0)))))]
abbrev r3:List In:=[i1 5 (.bsl0 3 1),mv 6 0,i1 7 (.app 43 3 1 8 (.t 5) (.t 6)),mv 2 7]
abbrev code:IC:=.seq (.reg r0) (.seq (.seq (.reg r1) (.cond (.t 4) (.seq (.reg r2) .ret) .skip)) (.seq (.reg r3) .ret))
abbrev res:List RV:=[.tmp 2]
theorem fn:Body Tryz.prog 87 8 code res:=⟨by decide,Tryz.f87,_,Tryz.func87,rfl,rfl,by kernel_rfl,by kernel_rfl⟩
end Um
end Go.Proofs.YtddmlennnmpnhaaGreatDoor
namespace Go.Proofs.YtddmlennnmpnhaaGreatDoor
open Go.RowKit Vc
set_option linter.unusedVariables false
set_option linter.unusedSimpArgs false
attribute [local irreducible] T Za Zn Ent RdC RwC Yd Ze Zh
def Pa(x:Ins):Int:=x.op*1024+(if Qh x.op then x.d*128 else 0)+(if Qi x.op then x.s*16 else 0)
def Kt(x:Ins):List Int:=Pa x::(if Ui x.op then[x.imm]else[])
def Za3:List Ins→Nat→List Int→List Int×Int×Int
 | [],_,acc=>(acc,0,0)
 |x::l,k,acc=>if Wx x=0 then(if 65536<(acc++Kt x).length then([],4,k)else Za3 l (k+1) (acc++Kt x))else([],Wx x,k)
def Cs(l:List Ins):List Int×Int×Int:=Za3 l 0 []
theorem Kl(n:Int)(k:Nat)(h0:0≤n)(h1:n≤1000000)(hk:k≤20):Sn .i64 n k=n*2^k:=by
 unfold Sn
 have e:min (k:Int).toNat IntKind.i64.bits=k:=by simp[IntKind.bits];omega
 rw[e]
 have hp:(2:Int)^k≤1048576:=by
  have:(2:Nat)^k≤2^20:=Nat.pow_le_pow_right (by decide) hk
  have h2:((2^k:Nat):Int)≤((2^20:Nat):Int):=by exact_mod_cast this
  simpa using h2
 have hp0:(0:Int)≤2^k:=Int.le_of_lt (Int.pow_pos (by decide))
 have hm:n*2^k≤1000000*1048576:=Int.mul_le_mul h1 hp hp0 (by decide)
 have hm0:0≤n*2^k:=Int.mul_nonneg h0 hp0
 exact Zk (by omega) (by omega)
theorem or_fin:∀(a:Fin 33) (b c:Fin 8),orI .i64 ((a.val:Int)*1024+(b.val:Int)*128) ((c.val:Int)*16)=(a.val:Int)*1024+(b.val:Int)*128+(c.val:Int)*16:=by decide+kernel
theorem or_fin2:∀(a:Fin 33) (b:Fin 8),orI .i64 ((a.val:Int)*1024) ((b.val:Int)*128)=(a.val:Int)*1024+(b.val:Int)*128:=by decide+kernel
theorem or3(a b c:Int)(h1:0≤a∧a≤32)(h2:0≤b∧b≤7)(h3:0≤c∧c≤7):orI .i64 (a*1024+b*128) (c*16)=a*1024+b*128+c*16:=by
 have:=or_fin ⟨a.toNat,by omega⟩ ⟨b.toNat,by omega⟩ ⟨c.toNat,by omega⟩
 simp only[Int.toNat_of_nonneg h1.1,Int.toNat_of_nonneg h2.1,Int.toNat_of_nonneg h3.1]at this
 exact this
theorem or2(a b:Int)(h1:0≤a∧a≤32)(h2:0≤b∧b≤7):orI .i64 (a*1024) (b*128)=a*1024+b*128:=by
 have:=or_fin2 ⟨a.toNat,by omega⟩ ⟨b.toNat,by omega⟩
 simp only[Int.toNat_of_nonneg h1.1,Int.toNat_of_nonneg h2.1]at this
 exact this
theorem Li(x:Ins)(h:Wx x=0):(0≤x.op∧x.op≤32)∧(Qh x.op=true→0≤x.d∧x.d≤7)∧(Qi x.op=true→0≤x.s∧x.s≤7)∧(Ui x.op=true→0≤x.imm∧x.imm≤65535):=by
 unfold Wx at h
 split at h
 ·omega
 ·rename_i hk
  split at h
  ·omega
  ·rename_i h2
   simp only[Bool.or_eq_true,Bool.and_eq_true,Bool.not_eq_true',not_or,not_and,Bool.not_eq_false,reg,Qo,decide_eq_true_eq]at h2
   simp only[Th,Bool.not_eq_false,decide_eq_true_eq]at hk
   exact⟨hk,h2.1,h2.2.1,h2.2.2⟩
theorem Zez(n:Int)(h0:0≤n)(h1:n≤1000000):Sn .i64 n 10=n*1024:=Kl n 10 h0 h1 (by decide)
theorem shl7(n:Int)(h0:0≤n)(h1:n≤1000000):Sn .i64 n 7=n*128:=Kl n 7 h0 h1 (by decide)
theorem shl4(n:Int)(h0:0≤n)(h1:n≤1000000):Sn .i64 n 4=n*16:=Kl n 4 h0 h1 (by decide)
theorem word_11{x:Ins}(h:Wx x=0)(hD:Qh x.op=true)(hS:Qi x.op=true):orI .i64 (orI .i64 (Sn .i64 x.op 10) (Sn .i64 x.d 7)) (Sn .i64 x.s 4)=Pa x:=by
 obtain⟨h1,h2,h3,_⟩:=Li x h
 have h2:=h2 hD
 have h3:=h3 hS
 rw[Zez _ h1.1 (by omega),shl7 _ h2.1 (by omega),shl4 _ h3.1 (by omega),or2 _ _ h1 h2,or3 _ _ _ h1 h2 h3]
 simp[Pa,hD,hS]
theorem word_10{x:Ins}(h:Wx x=0)(hD:Qh x.op=true)(hS:Qi x.op=false):orI .i64 (Sn .i64 x.op 10) (Sn .i64 x.d 7)=Pa x:=by
 obtain⟨h1,h2,h3,_⟩:=Li x h
 have h2:=h2 hD
 rw[Zez _ h1.1 (by omega),shl7 _ h2.1 (by omega),or2 _ _ h1 h2]
 simp[Pa,hD,hS]
theorem word_01{x:Ins}(h:Wx x=0)(hD:Qh x.op=false)(hS:Qi x.op=true):orI .i64 (Sn .i64 x.op 10) (Sn .i64 x.s 4)=Pa x:=by
 obtain⟨h1,h2,h3,_⟩:=Li x h
 have h3:=h3 hS
 have:=or3 x.op 0 x.s h1 (by omega) h3
 rw[Zez _ h1.1 (by omega),shl4 _ h3.1 (by omega)]
 simpa[Pa,hD,hS]using this
theorem word_00{x:Ins}(h:Wx x=0)(hD:Qh x.op=false)(hS:Qi x.op=false):Sn .i64 x.op 10=Pa x:=by
 obtain⟨h1,h2,h3,_⟩:=Li x h
 rw[Zez _ h1.1 (by omega)]
 simp[Pa,hD,hS]
theorem words_I{x:Ins}(h:Ui x.op=true):Kt x=[Pa x,x.imm]:=by simp[Kt,h]
theorem words_N{x:Ins}(h:Ui x.op=false):Kt x=[Pa x]:=by simp[Kt,h]
theorem Zak(l:List Ins):RwC Tryz.prog 72 [.ro .ins l] 3 (.int .i64) (Cs l).1 [.agg [.int .i64 (Cs l).2.1,.int .i64 (Cs l).2.2]]:=by
 refine Oc.fn.rw (by simp) (by simp[Zz]) (by simp[S1.bd,At.bd]) fun w=> ?_
 repeat'(first|(first|refine Stp.h ?_)<;>try simp only[Zc,simprocAttr,↓reduceIte,reduceCtorEq,implies_true]|(with_reducible first|assumption|refine And.intro ?_ ?_)|(intro h;first|omega|exact tg h ‹_›|exact tg ‹_› h|skip))
 refine T.weak (Ent.nilRow (t:=4) 3 (.int .i64) rfl) ?_
 simp only[Zc,simprocAttr,↓reduceIte,reduceCtorEq,implies_true]
 refine T.loop (ι:= {p:Nat×List Int//p.1≤l.length∧Za3 (l.drop p.1) p.1 p.2=Cs l∧p.1≤p.2.length∧p.2.length≤65536})
  (fun x=>⟨[(4,.one (.a (.ref 2))),(12,.one (.a (.int .i64 (x.1.1:Int)))),(11,.one (.a (.int .i64 l.length))),(10,.one (.a (.ref 0))),(3,.one (.a (.loc 1 0)))],
    [(2,.row 3 (.int .i64) x.1.2),(1,.cells 83 [.int .i64 0,.int .i64 0]),(0,.ro .ins l)],3⟩)
  (fun x=>l.length-x.1.1) ⟨(0,[]),by simp,by simp[Cs],by simp,by simp⟩ (Ent.mk1 (id) (by simp[Zt])) ?_
 rintro⟨⟨k,acc⟩,hk,hrun,hka,hacc⟩
 simp only at hk hrun hka hacc
 have hw:IntKind.i64.wrap ((k:Int)+1)=((k+1:Nat):Int):=Zx (by omega)
 by_cases hlt:k<l.length
 ·have hdrop:l.drop k=l.getD k ⟨0,0,0,0⟩::l.drop (k+1):=by
   rw[List.drop_eq_getElem_cons hlt];simp[List.getD,hlt]
  generalize hx:l.getD k ⟨0,0,0,0⟩=x at hdrop
  have hx':l.getD k (Kd.dflt .ins)=x:=hx
  rw[hdrop]at hrun
  simp only[Za3]at hrun
  repeat'(first|(first|refine Stp.h ?_|((with_reducible first|apply Za.rd (Nf _)|apply Ze.rd (Nf _));focus((repeat'(first|exact rfl|exact trivial|refine And.intro ?_ ?_|(simp[Zz];done)));done))|((with_reducible first|apply Za.rd (Vp _)|apply Ze.rd (Vp _));focus((repeat'(first|exact rfl|exact trivial|refine And.intro ?_ ?_|(simp[Zz];done)));done)))<;>try simp only[Zc,simprocAttr,↓reduceIte,reduceCtorEq,implies_true,hx',hw,Int.toNat_natCast,Int.ofNat_lt,List.length_append]|(with_reducible first|assumption|refine And.intro ?_ ?_)|(intro h;first|omega|exact tg h ‹_›|exact tg ‹_› h|skip))
  all_goals first|omega|skip
  all_goals try(first|rw[word_11 ‹_› ‹_› ‹_›]|rw[word_10 ‹_› ‹_› ‹_›]|rw[word_01 ‹_› ‹_› ‹_›]|rw[word_00 ‹_› ‹_› ‹_›])
  all_goals try(first|rw[words_I ‹_›]at hrun|rw[words_N ‹_›]at hrun)
  all_goals try simp only[List.length_append,List.length_cons,List.length_nil,Nat.zero_add]at hrun
  all_goals first
   |(rw[if_neg ‹¬Wx x=0›]at hrun;rw[←hrun];done)
   |(rw[if_pos ‹Wx x=0›,if_pos (by omega)]at hrun;rw[←hrun];done)
   |(rw[if_pos ‹Wx x=0›,if_neg (by omega)]at hrun
     first
      |exact⟨⟨(k+1,acc++[Pa x,x.imm]),hlt,hrun,by simp;omega,by simp;omega⟩,(Ent.mk1 (fun n=>if n=2 then 8 else n) (by simp[Zt])),by simp;omega⟩
      |exact⟨⟨(k+1,acc++[Pa x]),hlt,hrun,by simp;omega,by simp;omega⟩,(Ent.mk1 (fun n=>if n=2 then 6 else n) (by simp[Zt])),by simp;omega⟩)
 ·have hk2:k=l.length:=by omega
  subst hk2
  rw[List.drop_length]at hrun
  simp only[Za3]at hrun
  repeat'(first|(first|refine Stp.h ?_)<;>try simp only[Zc,simprocAttr,↓reduceIte,reduceCtorEq,implies_true,hw,Int.toNat_natCast,Int.ofNat_lt]|(with_reducible first|assumption|refine And.intro ?_ ?_)|(intro h;first|omega|exact tg h ‹_›|exact tg ‹_› h|skip))
  all_goals first|omega|(rw[←hrun];done)
theorem Ie(x:Int)(m k:Nat)(h0:0≤x)(h1:x<9223372036854775808)(hm:m+1=2^k)(hk:k≤62):Mx .i64 x (m:Int)=x%((m+1:Nat):Int):=by
 obtain⟨n,rfl⟩:=Int.eq_ofNat_of_zero_le h0
 have hm62:m+1≤4611686018427387904:=by
  rw[hm]
  have:(2:Nat)^k≤2^62:=Nat.pow_le_pow_right (by decide) hk
  exact this
 have hm':m=2^k-1:=by omega
 unfold Mx
 have e1:BitVec.ofInt IntKind.i64.bits (n:Int)=BitVec.ofNat 64 n:=BitVec.ofInt_natCast 64 n
 have e2:BitVec.ofInt IntKind.i64.bits (m:Int)=BitVec.ofNat 64 m:=BitVec.ofInt_natCast 64 m
 have e3:(BitVec.ofNat 64 n&&& BitVec.ofNat 64 m).toNat=n%(m+1):=by
  rw[BitVec.toNat_and,BitVec.toNat_ofNat,BitVec.toNat_ofNat,Nat.mod_eq_of_lt (by omega),Nat.mod_eq_of_lt (by omega),hm,hm',Nat.and_two_pow_sub_one_eq_mod]
 have e4:(BitVec.ofInt IntKind.i64.bits (n:Int)&&& BitVec.ofInt IntKind.i64.bits (m:Int)).toNat=n%(m+1):=by
  rw[e1,e2];exact e3
 rw[e4]
 have hlt:=Nat.mod_lt n (show 0<m+1 by omega)
 rw[Zk (by omega) (by omega)]
 omega
theorem and7(x:Int)(h0:0≤x)(h1:x<9223372036854775808):Mx .i64 x 7=x%8:=Ie x 7 3 h0 h1 (by decide) (by decide)
theorem and15(x:Int)(h0:0≤x)(h1:x<9223372036854775808):Mx .i64 x 15=x%16:=Ie x 15 4 h0 h1 (by decide) (by decide)
theorem shr10(x:Int):P0 .i64 x 10=x/1024:=rfl
theorem shr7(x:Int):P0 .i64 x 7=x/128:=rfl
theorem shr4(x:Int):P0 .i64 x 4=x/16:=rfl
def insOf(w imm:Int):Ins:=⟨w/1024,w/128%8,w/16%8,imm⟩
def okW(w:Int):Bool:=Qo w&&Th (w/1024)&&decide (w%16=0)&&(Qh (w/1024)||decide (w/128%8=0))&&(Qi (w/1024)||decide (w/16%8=0))
def Xb(ws:List Int)(p:Int):Ins×Int:=
 if p<0∨(ws.length:Int)≤p then(Vt,0)else
 if okW (ws.getD p.toNat 0)=false then(Vt,0)else
 if Ui (ws.getD p.toNat 0/1024)=false then(insOf (ws.getD p.toNat 0) 0,1)else
 if p+1<(ws.length:Int)∧Qo (ws.getD (p+1).toNat 0)=true then(insOf (ws.getD p.toNat 0) (ws.getD (p+1).toNat 0),2)else(Vt,0)
theorem Zaf{x:Int}(h:Qo x=true):0≤x∧x≤65535:=by simpa[Qo]using h
set_option maxHeartbeats 1000000 in
theorem One_any(ws:List Int)(p:Int)(hlen:ws.length≤9223372036854775807):RdC Tryz.prog 119 [.ro (.int .i64) ws,.v (.a (.int .i64 p))] (.tup [.agg (Xb ws p).1.cells,.a (.int .i64 (Xb ws p).2)]):=by
 refine Kz.fn.rd (by simp) (by simp[Zz]) (by simp[Zz]) fun w=> ?_
 by_cases hin:p<0∨(ws.length:Int)≤p
 ·have e:Xb ws p=(Vt,0):=if_pos hin
  repeat'(first|(first|refine Stp.h ?_|((with_reducible first|apply Za.rd (Ve _)|apply Ze.rd (Ve _));focus((repeat'(first|exact rfl|exact trivial|refine And.intro ?_ ?_|(simp[Zz];done)));done))|((with_reducible first|apply Za.rd (Vp _)|apply Ze.rd (Vp _));focus((repeat'(first|exact rfl|exact trivial|refine And.intro ?_ ?_|(simp[Zz];done)));done)))<;>try simp only[Zc,simprocAttr,↓reduceIte,reduceCtorEq,implies_true,hin,e,Vt]|(with_reducible first|assumption|refine And.intro ?_ ?_)|(intro h;first|omega|exact tg h ‹_›|exact tg ‹_› h|skip))
  all_goals omega
 ·have hin2:0≤p∧p<ws.length:=by omega
  have hw:IntKind.i64.wrap (p+1)=p+1:=Zk (by omega) (by omega)
  have d0:(Kd.int .i64).dflt=(0:Int):=rfl
  unfold Xb
  rw[if_neg hin]
  generalize hx:ws.getD p.toNat 0=x
  have hx':ws.getD p.toNat (Kd.int .i64).dflt=x:=hx
  generalize hy:ws.getD (p+1).toNat 0=y
  have hy':ws.getD (p+1).toNat (Kd.int .i64).dflt=y:=hy
  cases hwx:Qo x with
  |false=>
   have hok:okW x=false:=by simp[okW,hwx]
   repeat'(first|(first|refine Stp.h ?_|((with_reducible first|apply Za.rd (Ve _)|apply Ze.rd (Ve _));focus((repeat'(first|exact rfl|exact trivial|refine And.intro ?_ ?_|(simp[Zz];done)));done))|((with_reducible first|apply Za.rd (Vp _)|apply Ze.rd (Vp _));focus((repeat'(first|exact rfl|exact trivial|refine And.intro ?_ ?_|(simp[Zz];done)));done)))<;>try simp only[Zc,simprocAttr,↓reduceIte,reduceCtorEq,implies_true,hin,hx',hwx,hok,Vt]|(with_reducible first|assumption|refine And.intro ?_ ?_)|(intro h;first|omega|exact tg h ‹_›|exact tg ‹_› h|skip))
   all_goals omega
  |true=>
   have hb:=Zaf hwx
   have a15:=and15 x hb.1 (by omega)
   have a7:=and7 (x/128) (by omega) (by omega)
   have a7':=and7 (x/16) (by omega) (by omega)
   repeat'(first|(first|refine Stp.h ?_|((with_reducible first|apply Za.rd (Ve _)|apply Ze.rd (Ve _));focus((repeat'(first|exact rfl|exact trivial|refine And.intro ?_ ?_|(simp[Zz];done)));done))|((with_reducible first|apply Za.rd (Vp _)|apply Ze.rd (Vp _));focus((repeat'(first|exact rfl|exact trivial|refine And.intro ?_ ?_|(simp[Zz];done)));done)))<;>try simp only[Zc,simprocAttr,↓reduceIte,reduceCtorEq,implies_true,hin,hx',hy',hwx,hw,shr10,shr7,shr4,a15,a7,a7']|(with_reducible first|assumption|refine And.intro ?_ ?_)|(intro h;first|omega|exact tg h ‹_›|exact tg ‹_› h|skip))
   all_goals first|omega|skip
   ·have hok:okW x=false:=by
     rcases h with((h|h)|h)|h<;>simp[okW,hwx,h]
    rw[if_pos hok];rfl
   ·have hok:¬okW x=false:=by
     rename_i h1
     obtain⟨⟨⟨h2,h3⟩,h4⟩,h5⟩:=h1
     cases hd:Qh (x/1024)<;>cases hs:Qi (x/1024)<;>simp_all[okW]
    rw[if_neg hok,if_pos h];rfl
   ·have hok:¬okW x=false:=by
     rename_i h1 h0
     obtain⟨⟨⟨h2,h3⟩,h4⟩,h5⟩:=h1
     cases hd:Qh (x/1024)<;>cases hs:Qi (x/1024)<;>simp_all[okW]
    have hni:¬Ui (x/1024)=false:=by simp_all
    have hno:¬(p+1<(ws.length:Int)∧Qo y=true):=by
     rintro⟨g1,g2⟩
     rcases h with h|h
     ·omega
     ·simp[g2]at h
    rw[if_neg hok,if_neg hni,if_neg hno];rfl
   ·have hok:¬okW x=false:=by
     rename_i h1 h0
     obtain⟨⟨⟨h2,h3⟩,h4⟩,h5⟩:=h1
     cases hd:Qh (x/1024)<;>cases hs:Qi (x/1024)<;>simp_all[okW]
    have hni:¬Ui (x/1024)=false:=by simp_all
    have hyes:p+1<(ws.length:Int)∧Qo y=true:=⟨by omega,h.2⟩
    rw[if_neg hok,if_neg hni,if_pos hyes];rfl
   all_goals omega
end Go.Proofs.YtddmlennnmpnhaaGreatDoor
namespace Go.Proofs.YtddmlennnmpnhaaGreatDoor
open Go Go.RowKit Vc
set_option linter.unusedVariables false
set_option linter.unusedSimpArgs false
attribute [local irreducible] T Za Zn Ent RdC RwC Yd Ze Zh
theorem Xa(x:Int):BitVec.ofInt 64 x=BitVec.ofNat 64 (x%18446744073709551616).toNat:=by
 apply BitVec.eq_of_toNat_eq
 rw[BitVec.toNat_ofInt,BitVec.toNat_ofNat]
 have:((2^64:Nat):Int)=18446744073709551616:=by decide
 rw[this]
 have h1:=Int.emod_nonneg x (show(18446744073709551616:Int)≠0 by decide)
 have h2:=Int.emod_lt_of_pos x (show(0:Int)<18446744073709551616 by decide)
 rw[Nat.mod_eq_of_lt (by omega)]
theorem Wo(x:Int):Mx .i64 x 65535=x%65536:=by
 have h1:=Int.emod_nonneg x (show(18446744073709551616:Int)≠0 by decide)
 have h2:=Int.emod_lt_of_pos x (show(0:Int)<18446744073709551616 by decide)
 have h3:=Int.emod_nonneg x (show(65536:Int)≠0 by decide)
 have h4:=Int.emod_lt_of_pos x (show(0:Int)<65536 by decide)
 show IntKind.i64.wrap ((BitVec.ofInt 64 x&&& BitVec.ofInt 64 65535).toNat:Nat)=_
 rw[Xa x,Xa 65535]
 have e:(BitVec.ofNat 64 (x%18446744073709551616).toNat&&& BitVec.ofNat 64 ((65535:Int)%18446744073709551616).toNat).toNat=(x%65536).toNat:=by
  rw[BitVec.toNat_and,BitVec.toNat_ofNat,BitVec.toNat_ofNat,Nat.mod_eq_of_lt (by omega)]
  have e2:((65535:Int)%18446744073709551616).toNat%2^64=2^16-1:=by decide
  rw[e2,Nat.and_two_pow_sub_one_eq_mod]
  omega
 rw[e]
 exact Zk (by omega) (by omega) |>.trans (by omega)
theorem xor_m1(x:Int)(h1: -9223372036854775808≤x)(h2:x≤9223372036854775807):Mr .i64 (-1) x= -x-1:=by
 have h3:=Int.emod_nonneg x (show(18446744073709551616:Int)≠0 by decide)
 have h4:=Int.emod_lt_of_pos x (show(0:Int)<18446744073709551616 by decide)
 show IntKind.i64.wrap ((BitVec.ofInt 64 (-1)^^^BitVec.ofInt 64 x).toNat:Nat)=_
 rw[Xa x,Xa (-1)]
 have e0:BitVec.ofNat 64 ((-1:Int)%18446744073709551616).toNat=BitVec.allOnes 64:=by decide
 rw[e0,BitVec.allOnes_xor,BitVec.toNat_not,BitVec.toNat_ofNat,Nat.mod_eq_of_lt (by omega)]
 show IntKind.i64.wrap (((18446744073709551616-1-(x%18446744073709551616).toNat:Nat)):Int)=_
 rcases Int.lt_or_le x 0 with h|h
 ·have e:(x%18446744073709551616)=x+18446744073709551616:=by omega
  rw[e]
  exact Zk (by omega) (by omega) |>.trans (by omega)
 ·have e:(x%18446744073709551616)=x:=by omega
  rw[e]
  rw[IntKind.wrap_i64];omega
def cI(b:Bool):Int:=if b then 1 else 0
def T9(a b:Int)(ci:Bool):Int:=(a+b+cI ci)%65536
def Zdi(a b r:Int):Bool:= !decide (Mx .i64 (Mx .i64 (Mr .i64 a r) (Mr .i64 b r)) 32768=0)
theorem Zje(a b:Int)(ci:Bool):0≤T9 a b ci∧T9 a b ci≤65535:=by
 unfold T9
 have h1:=Int.emod_nonneg (a+b+cI ci) (show(65536:Int)≠0 by decide)
 have h2:=Int.emod_lt_of_pos (a+b+cI ci) (show(0:Int)<65536 by decide)
 omega
def Zjd(a b:Int)(ci:Bool):List At:=[.bool (decide (65535<a+b+cI ci)),.bool (decide (T9 a b ci=0)),.bool (decide (32767<T9 a b ci)),.bool (Zdi a b (T9 a b ci))]
theorem Zds(a b:Int)(ci:Bool):RdC Tryz.prog 164 [.v (.a (.int .i64 a)),.v (.a (.int .i64 b)),.v (.a (.bool ci))] (.tup [.a (.int .i64 (T9 (a%65536) (b%65536) ci)),.agg (Zjd (a%65536) (b%65536) ci)]):=by
 refine J6.fn.rd (by simp) (by simp[Zz]) (by simp[SV.bd,Vc.S1.bd,At.bd,Zjd]) fun w=> ?_
 have ha:=Int.emod_nonneg a (show(65536:Int)≠0 by decide)
 have ha2:=Int.emod_lt_of_pos a (show(0:Int)<65536 by decide)
 have hb:=Int.emod_nonneg b (show(65536:Int)≠0 by decide)
 have hb2:=Int.emod_lt_of_pos b (show(0:Int)<65536 by decide)
 have e1:=Wo a
 have e2:=Wo b
 generalize a%65536=x at*
 generalize b%65536=y at*
 have w1:IntKind.i64.wrap (x+y)=x+y:=Zk (by omega) (by omega)
 cases ci
 ·have w2:IntKind.i64.wrap (x+y+0)=x+y+cI false:=Zk (by omega) (by omega)
  have e3:=Wo (x+y+cI false)
  have e4:(x+y+cI false)%65536=T9 x y false:=rfl
  rw[e4]at e3
  repeat'(first|(first|refine Stp.h ?_)<;>try simp only[Zc,simprocAttr,↓reduceIte,reduceCtorEq,implies_true,e1,e2,w1,w2,e3,Zjd,Zdi]|(with_reducible first|assumption|refine And.intro ?_ ?_)|(intro h;first|omega|exact tg h ‹_›|exact tg ‹_› h|skip))
 ·have w2:IntKind.i64.wrap (x+y+1)=x+y+cI true:=Zk (by omega) (by omega)
  have e3:=Wo (x+y+cI true)
  have e4:(x+y+cI true)%65536=T9 x y true:=rfl
  rw[e4]at e3
  repeat'(first|(first|refine Stp.h ?_)<;>try simp only[Zc,simprocAttr,↓reduceIte,reduceCtorEq,implies_true,e1,e2,w1,w2,e3,Zjd,Zdi]|(with_reducible first|assumption|refine And.intro ?_ ?_)|(intro h;first|omega|exact tg h ‹_›|exact tg ‹_› h|skip))
def Sk(a b:Int)(bi:Bool):Int:=T9 a (65535-b) (!bi)
def difF(a b:Int)(bi:Bool):List At:=[.bool (!decide (65535<a+(65535-b)+cI (!bi))),.bool (decide (Sk a b bi=0)),.bool (decide (32767<Sk a b bi)),.bool (Zdi a (65535-b) (Sk a b bi))]
theorem Jy(a b:Int)(bi:Bool)(ha:0≤a∧a≤65535)(hb:0≤b∧b≤65535):RdC Tryz.prog 165 [.v (.a (.int .i64 a)),.v (.a (.int .i64 b)),.v (.a (.bool bi))] (.tup [.a (.int .i64 (Sk a b bi)),.agg (difF a b bi)]):=by
 refine R4.fn.rd (by simp) (by simp[Zz]) (by simp[SV.bd,Vc.S1.bd,At.bd,difF]) fun w=> ?_
 have hx:Mr .i64 (-1) b= -b-1:=xor_m1 b (by omega) (by omega)
 have hsg:(if IntKind.i64.signed=true then(-1:Int)else IntKind.i64.max)= -1:=rfl
 have hS:=Zds a (-b-1) (!bi)
 have e1:a%65536=a:=by omega
 have e2:(-b-1)%65536=65535-b:=by omega
 rw[e1,e2]at hS
 have e3:T9 a (65535-b) (!bi)=Sk a b bi:=rfl
 have e4:Zjd a (65535-b) (!bi)=[.bool (decide (65535<a+(65535-b)+cI (!bi))),.bool (decide (Sk a b bi=0)),.bool (decide (32767<Sk a b bi)),.bool (Zdi a (65535-b) (Sk a b bi))]:=rfl
 rw[e3,e4]at hS
 repeat'(first|(first|refine Stp.h ?_|(refine rq hS ?_ ?_;focus simp[Zz];done))<;>try simp only[Zc,simprocAttr,↓reduceIte,reduceCtorEq,implies_true,hx,hsg,difF]|(with_reducible first|assumption|refine And.intro ?_ ?_)|(intro h;first|omega|exact tg h ‹_›|exact tg ‹_› h|skip))
end Go.Proofs.YtddmlennnmpnhaaGreatDoor
