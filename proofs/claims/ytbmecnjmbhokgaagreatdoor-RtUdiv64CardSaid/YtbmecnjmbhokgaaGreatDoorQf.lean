/- A part of the proofs of this seat's laws: steps on the way, joined. It has no conditions of its own. -/
import Derived.Test.YtbmecnjmbhokgaaGreatDoorQe
import Derived.Test.YtbmecnjmbhokgaaGreatDoorChecked
import Derived.KernelRfl
namespace Go.Proofs.YtbmecnjmbhokgaaGreatDoor
open Vc
namespace V8
abbrev r0:List In:=[i1 6 (.mv (.k (.a (.raw (.pointer none)))))]
abbrev r1:DT:=(tm 7 0 false
 (tm 8 1 false
 (tk 9 (.nchk (.t 8)) true
 (tk 10 (.faddr 0 (.t 9)) true
 (tk 11 (.load 1 false (.t 10)) true
 (tm 12 1 true
 (tk 13 (.nchk (.t 12)) true
 (tk 14 (.faddr 1 (.t 13)) true
 (tk 15 (.load 1 false (.t 14)) true
 (tm 16 2 true
 (tk 17 (.nchk (.t 16)) true
 (tk 18 (.faddr 0 (.t 17)) true
 (tk 19 (.load 1 false (.t 18)) true
 (.alt (mv 20 2) true
 (al 21 (.nchk (.t 20)) true
 (al 22 (.faddr 1 (.t 21)) true
 (al 23 (.load 1 false (.t 22)) true
 (al 24 (.call 33 [.t 11,.t 15,.t 19,.t 23]) false
 (tk 25 (.ext 0 (.t 24)) false
 (tk 26 (.ext 1 (.t 24)) false
 (al 27 (.call 32 [.t 7,.t 25,.t 26]) false
 (tm 6 27 false
 .done)
 .stop)))
 .stop)
 .stop)
 .stop)
 .stop)
 .stop))))))))))))))
abbrev code:IC:=.seq (.reg r0) (.seq (.dany r1) .ret)
abbrev res:List RV:=[.tmp 6]
theorem fn:Body Tryz.prog 19 28 code res:=⟨by decide,Tryz.f19,_,Tryz.func19,rfl,rfl,by kernel_rfl,by kernel_rfl⟩
end V8
namespace Ud
abbrev r0:List In:=[i1 6 (.mv (.k (.a (.raw (.pointer none)))))]
abbrev r1:DT:=(tm 7 0 false
 (tm 8 1 false
 (tk 9 (.nchk (.t 8)) true
 (tk 10 (.faddr 0 (.t 9)) true
 (tk 11 (.load 1 false (.t 10)) true
 (tm 12 1 true
 (tk 13 (.nchk (.t 12)) true
 (tk 14 (.faddr 1 (.t 13)) true
 (tk 15 (.load 1 false (.t 14)) true
 (tm 16 2 true
 (tk 17 (.nchk (.t 16)) true
 (tk 18 (.faddr 0 (.t 17)) true
 (tk 19 (.load 1 false (.t 18)) true
 (tk 20 (.un .not (.t 19)) true
 (.alt (mv 21 2) true
 (al 22 (.nchk (.t 21)) true
 (al 23 (.faddr 1 (.t 22)) true
 (al 24 (.load 1 false (.t 23)) true
 (al 25 (.call 33 [.t 11,.t 15,.t 20,.t 24]) false
 (tk 26 (.ext 0 (.t 25)) false
 (tk 27 (.ext 1 (.t 25)) false
 (al 28 (.call 32 [.t 7,.t 26,.t 27]) false
 (tm 6 28 false
 .done)
 .stop)))
 .stop)
 .stop)
 .stop)
 .stop)
 .stop)))))))))))))))
abbrev code:IC:=.seq (.reg r0) (.seq (.dany r1) .ret)
abbrev res:List RV:=[.tmp 6]
theorem fn:Body Tryz.prog 20 29 code res:=⟨by decide,Tryz.f20,_,Tryz.func20,rfl,rfl,by kernel_rfl,by kernel_rfl⟩
end Ud
namespace Ub
abbrev r0:List In:=[i1 6 (.mv (.k (.a (.raw (.pointer none)))))]
abbrev r1:DT:=(tm 7 0 false
 (tm 8 1 false
 (tk 9 (.nchk (.t 8)) true
 (tk 10 (.faddr 0 (.t 9)) true
 (tk 11 (.load 1 false (.t 10)) true
 (tm 12 2 true
 (tk 13 (.nchk (.t 12)) true
 (tk 14 (.faddr 0 (.t 13)) true
 (tk 15 (.load 1 false (.t 14)) true
 (tk 16 (.beq true (.t 11) (.t 15)) false
 (tm 17 1 true
 (tk 18 (.nchk (.t 17)) true
 (tk 19 (.faddr 1 (.t 18)) true
 (tk 20 (.load 1 false (.t 19)) true
 (.alt (mv 21 2) true
 (al 22 (.nchk (.t 21)) true
 (al 23 (.faddr 1 (.t 22)) true
 (al 24 (.load 1 false (.t 23)) true
 (al 25 (.call 34 [.t 20,.t 24]) true
 (al 26 (.call 32 [.t 7,.t 16,.t 25]) false
 (tm 6 26 false
 .done)
 .stop)
 .stop)
 .stop)
 .stop)
 .stop)
 .stop)))))))))))))))
abbrev code:IC:=.seq (.reg r0) (.seq (.dany r1) .ret)
abbrev res:List RV:=[.tmp 6]
theorem fn:Body Tryz.prog 21 27 code res:=⟨by decide,Tryz.f21,_,Tryz.func21,rfl,rfl,by kernel_rfl,by kernel_rfl⟩
end Ub
namespace Xh
abbrev r0:List In:=[i1 2 (.mv (kI 0))]
abbrev r1:List In:=[mv 3 0,
i1 4 (.nchk (.t 3)),
i1 5 (.faddr 1 (.t 4)),
i1 6 (.load 1 false (.t 5)),
i1 7 (.len (.t 6)),
i1 8 (.bin .eql (.t 7) (kI 0))]
abbrev r2:List In:=[i1 2 (.mv (kI 0))]
abbrev r3:List In:=[mv 9 0,
i1 10 (.nchk (.t 9)),
i1 11 (.faddr 0 (.t 10)),
i1 12 (.load 1 false (.t 11))]
abbrev r4:List In:=[i1 2 (.mv (kI (-1)))]
abbrev r5:List In:=[i1 2 (.mv (kI 1))]
abbrev code:IC:=.seq (.reg r0) (.seq (.seq (.reg r1) (.cond (.t 8) (.seq (.reg r2) .ret) .skip)) (.seq (.seq (.reg r3) (.cond (.t 12) (.seq (.reg r4) .ret) .skip)) (.seq (.reg r5) .ret)))
abbrev res:List RV:=[.tmp 2]
theorem fn:Body Tryz.prog 22 13 code res:=⟨by decide,Tryz.f22,_,Tryz.func22,rfl,rfl,by kernel_rfl,by kernel_rfl⟩
end Xh
namespace Y6
abbrev r0:List In:=[i1 8 (.mv (.k (.a (.raw (.pointer none))))),
i1 9 (.mv (.k (.a (.raw (.pointer none)))))]
abbrev r1:List In:=[mv 14 1,
i1 15 (.nchk (.t 14)),
i1 16 (.faddr 0 (.t 15)),
i1 17 (.load 1 false (.t 16)),
mv 18 2,
i1 19 (.nchk (.t 18)),
i1 20 (.faddr 0 (.t 19)),
i1 21 (.load 1 false (.t 20)),
mv 10 17,
mv 11 21]
abbrev r2:DT:=(tm 23 1 false
 (tk 24 (.nchk (.t 23)) true
 (tk 25 (.faddr 1 (.t 24)) true
 (tk 26 (.load 1 false (.t 25)) true
 (.alt (mv 27 2) true
 (al 28 (.nchk (.t 27)) true
 (al 29 (.faddr 1 (.t 28)) true
 (al 30 (.load 1 false (.t 29)) true
 (al 31 (.call 35 [.t 26,.t 30]) false
 (tm 22 31 false
 (tk 32 (.ext 0 (.t 22)) false
 (tk 33 (.ext 1 (.t 22)) false
 (tm 12 32 false
 (tm 13 33 false
 .done)))))
 .stop)
 .stop)
 .stop)
 .stop)
 .stop)))))
abbrev r3:List In:=[mv 34 0,
mv 35 10,
mv 36 11,
i1 37 (.beq true (.t 35) (.t 36)),
mv 38 12,
i1 39 (.call 32 [.t 34,.t 37,.t 38])]
abbrev r4:List In:=[mv 40 3,
mv 41 10,
mv 42 13,
i1 43 (.call 32 [.t 40,.t 41,.t 42])]
abbrev r5:List In:=[mv 44 0,
mv 45 3,
mv 8 44,
mv 9 45]
abbrev code:IC:=.seq (.reg r0) (.seq (.dreg r1) (.seq (.dany r2) (.seq (.reg r3) (.seq (.reg r4) (.seq (.reg r5) .ret)))))
abbrev res:List RV:=[.tmp 8,.tmp 9]
theorem fn:Body Tryz.prog 23 46 code res:=⟨by decide,Tryz.f23,_,Tryz.func23,rfl,rfl,by kernel_rfl,by kernel_rfl⟩
end Y6
namespace V9
abbrev r0:List In:=[i1 4 (.mv (kI 0))]
abbrev r1:List In:=[mv 6 0,
i1 7 (.nchk (.t 6)),
i1 8 (.faddr 0 (.t 7)),
i1 9 (.load 1 false (.t 8)),
mv 10 1,
i1 11 (.nchk (.t 10)),
i1 12 (.faddr 0 (.t 11)),
i1 13 (.load 1 false (.t 12)),
i1 14 (.beq true (.t 9) (.t 13))]
abbrev r2:List In:=[mv 15 0,
i1 16 (.nchk (.t 15)),
i1 17 (.faddr 0 (.t 16)),
i1 18 (.load 1 false (.t 17))]
abbrev r3:List In:=[i1 4 (.mv (kI (-1)))]
abbrev r4:List In:=[i1 4 (.mv (kI 1))]
abbrev r5:List In:=[mv 19 0,
i1 20 (.nchk (.t 19)),
i1 21 (.faddr 1 (.t 20)),
i1 22 (.load 1 false (.t 21)),
mv 23 1,
i1 24 (.nchk (.t 23)),
i1 25 (.faddr 1 (.t 24)),
i1 26 (.load 1 false (.t 25)),
i1 27 (.call 36 [.t 22,.t 26]),
mv 5 27]
abbrev r6:List In:=[mv 28 0,
i1 29 (.nchk (.t 28)),
i1 30 (.faddr 0 (.t 29)),
i1 31 (.load 1 false (.t 30))]
abbrev r7:List In:=[mv 32 5,
i1 33 (.un .neg (.t 32)),
mv 4 33]
abbrev r8:List In:=[mv 34 5,
mv 4 34]
abbrev code:IC:=.seq (.reg r0) (.seq (.seq (.dreg r1) (.cond (.t 14) (.seq (.seq (.reg r2) (.cond (.t 18) (.seq (.reg r3) .ret) .skip)) (.seq (.reg r4) .ret)) .skip)) (.seq (.dreg r5) (.seq (.seq (.reg r6) (.cond (.t 31) (.seq (.reg r7) .ret) .skip)) (.seq (.reg r8) .ret))))
abbrev res:List RV:=[.tmp 4]
theorem fn:Body Tryz.prog 24 35 code res:=⟨by decide,Tryz.f24,_,Tryz.func24,rfl,rfl,by kernel_rfl,by kernel_rfl⟩
end V9
namespace Ww
abbrev r0:List In:=[i1 4 (.mv (.k (.a (.raw (.pointer none)))))]
abbrev r1:List In:=[mv 6 1,
i1 7 (.conv .u64 (.t 6)),
mv 5 7]
abbrev r2:List In:=[mv 8 1,
i1 9 (.bin .lss (.t 8) (kI 0))]
abbrev r3:List In:=[mv 10 5,
i1 11 (.un .neg (.t 10)),
mv 5 11]
abbrev r4:List In:=[mv 12 0,
mv 13 1,
i1 14 (.bin .lss (.t 13) (kI 0)),
mv 15 5,
i1 16 (.call 37 [.t 15]),
i1 17 (.call 32 [.t 12,.t 14,.t 16]),
mv 4 17]
abbrev code:IC:=.seq (.reg r0) (.seq (.reg r1) (.seq (.seq (.reg r2) (.cond (.t 9) (.reg r3) .skip)) (.seq (.reg r4) .ret)))
abbrev res:List RV:=[.tmp 4]
theorem fn:Body Tryz.prog 25 18 code res:=⟨by decide,Tryz.f25,_,Tryz.func25,rfl,rfl,by kernel_rfl,by kernel_rfl⟩
end Ww
namespace Wa
abbrev r0:List In:=[i1 6 (.mv (.k (.a (.raw (.pointer none)))))]
abbrev r1:List In:=[mv 7 0,
mv 8 2,
i1 9 (.nchk (.t 7)),
i1 10 (.faddr 1 (.t 9)),
i0 (.store 1 (.t 10) (.t 8))]
abbrev r2:List In:=[mv 11 0,
mv 12 1,
mv 13 12,
i2 13 true 14 (.mv (.t 2)),
i2 13 true 15 (.len (.t 14)),
i2 13 true 16 (.bin .gtr (.t 15) (kI 0)),
i1 17 (.pick (.t 13) (.t 16) (kB false)),
i1 18 (.nchk (.t 11)),
i1 19 (.faddr 0 (.t 18)),
i0 (.store 1 (.t 19) (.t 17))]
abbrev r3:List In:=[mv 20 0,
mv 6 20]
abbrev code:IC:=.seq (.reg r0) (.seq (.reg r1) (.seq (.reg r2) (.seq (.reg r3) .ret)))
abbrev res:List RV:=[.tmp 6]
theorem fn:Body Tryz.prog 32 21 code res:=⟨by decide,Tryz.f32,_,Tryz.func32,rfl,rfl,by kernel_rfl,by kernel_rfl⟩
end Wa
namespace Sy
abbrev r0:List In:=[i1 8 (.mv (kB false)),
i1 9 (.mv (.k (.a (.raw (.slice none 0 0)))))]
abbrev r1:List In:=[mv 10 0,
mv 11 2,
i1 12 (.beq false (.t 10) (.t 11))]
abbrev r2:List In:=[mv 13 0,
mv 14 1,
mv 15 3,
i1 16 (.call 48 [.t 14,.t 15]),
mv 8 13,
mv 9 16]
abbrev r3:List In:=[mv 17 1,
mv 18 3,
i1 19 (.call 36 [.t 17,.t 18]),
i1 20 (.bin .geq (.t 19) (kI 0))]
abbrev r4:List In:=[mv 21 0,
mv 22 1,
mv 23 3,
i1 24 (.call 49 [.t 22,.t 23]),
mv 8 21,
mv 9 24]
abbrev r5:List In:=[mv 25 2,
mv 26 3,
mv 27 1,
i1 28 (.call 49 [.t 26,.t 27]),
mv 8 25,
mv 9 28]
abbrev code:IC:=.seq (.reg r0) (.seq (.seq (.reg r1) (.cond (.t 12) (.seq (.reg r2) .ret) .skip)) (.seq (.seq (.reg r3) (.cond (.t 20) (.seq (.reg r4) .ret) .skip)) (.seq (.reg r5) .ret)))
abbrev res:List RV:=[.tmp 8,.tmp 9]
theorem fn:Body Tryz.prog 33 29 code res:=⟨by decide,Tryz.f33,_,Tryz.func33,rfl,rfl,by kernel_rfl,by kernel_rfl⟩
end Sy
namespace Sw
abbrev r0:List In:=[i1 4 (.mv (.k (.a (.raw (.slice none 0 0)))))]
abbrev r1:List In:=[mv 9 0,
i1 10 (.len (.t 9)),
i1 11 (.bin .eql (.t 10) (kI 0)),
mv 12 11,
i2 12 false 13 (.mv (.t 1)),
i2 12 false 14 (.len (.t 13)),
i2 12 false 15 (.bin .eql (.t 14) (kI 0)),
i1 16 (.pick (.t 12) (kB true) (.t 15))]
abbrev r2:List In:=[i1 4 (.mv (.k (.a (.raw (.slice none 0 0)))))]
abbrev r3:List In:=[mv 17 0,
i1 18 (.len (.t 17)),
mv 19 1,
i1 20 (.len (.t 19)),
i1 21 (.bin .add (.t 18) (.t 20)),
i1 22 (.mks 87 (.int .u32) 4 (.t 21) (.t 21)),
mv 5 22]
abbrev r4:List In:=[i1 6 (.mv (kI 0))]
abbrev r5:List In:=[mv 23 6,
mv 24 0,
i1 25 (.len (.t 24)),
i1 26 (.bin .lss (.t 23) (.t 25))]
abbrev r6:List In:=[i1 7 (.mv (.k (.a (.int .u64 0))))]
abbrev r7:List In:=[i1 8 (.mv (kI 0))]
abbrev r8:List In:=[mv 29 8,
mv 30 1,
i1 31 (.len (.t 30)),
i1 32 (.bin .lss (.t 29) (.t 31))]
abbrev r9:List In:=[mv 35 7,
mv 36 0,
mv 37 6,
i1 38 (.iaddr 1 (.t 36) (.t 37)),
i1 39 (.load 1 false (.t 38)),
i1 40 (.conv .u64 (.t 39)),
mv 41 1,
mv 42 8,
i1 43 (.iaddr 1 (.t 41) (.t 42)),
i1 44 (.load 1 false (.t 43)),
i1 45 (.conv .u64 (.t 44)),
i1 46 (.bin .mul (.t 40) (.t 45)),
mv 47 5,
mv 48 6,
mv 49 8,
i1 50 (.bin .add (.t 48) (.t 49)),
i1 51 (.iaddr 1 (.t 47) (.t 50)),
i1 52 (.load 1 false (.t 51)),
i1 53 (.conv .u64 (.t 52)),
i1 54 (.bin .add (.t 46) (.t 53)),
i1 55 (.bin .add (.t 35) (.t 54)),
mv 7 55]
abbrev r10:List In:=[mv 56 5,
mv 57 6,
mv 58 8,
i1 59 (.bin .add (.t 57) (.t 58)),
mv 60 7,
i1 61 (.conv .u32 (.t 60)),
i1 62 (.iaddr 1 (.t 56) (.t 59)),
i0 (.store 1 (.t 62) (.t 61))]
abbrev r11:List In:=[mv 63 7,
i1 64 (.bin .shr (.t 63) (.k (.a (.int .u64 32)))),
mv 7 64]
abbrev r12:List In:=[mv 33 8,
i1 34 (.bin .add (.t 33) (kI 1)),
mv 8 34]
abbrev r13:List In:=[mv 65 5,
mv 66 6,
mv 67 1,
i1 68 (.len (.t 67)),
i1 69 (.bin .add (.t 66) (.t 68)),
mv 70 7,
i1 71 (.conv .u32 (.t 70)),
i1 72 (.iaddr 1 (.t 65) (.t 69)),
i0 (.store 1 (.t 72) (.t 71))]
abbrev r14:List In:=[mv 27 6,
i1 28 (.bin .add (.t 27) (kI 1)),
mv 6 28]
abbrev r15:List In:=[mv 73 5,
i1 74 (.call 50 [.t 73]),
mv 4 74]
abbrev code:IC:=.seq (.reg r0) (.seq (.seq (.reg r1) (.cond (.t 16) (.seq (.reg r2) .ret) .skip)) (.seq (.reg r3) (.seq (.seq (.reg r4) (.block 0 (.loop (.seq (.seq (.reg r5) (.cond (.t 26) .skip (.exit 0))) (.seq (.block 1 (.seq (.reg r6) (.seq (.seq (.reg r7) (.block 2 (.loop (.seq (.seq (.reg r8) (.cond (.t 32) .skip (.exit 2))) (.seq (.block 3 (.seq (.dreg r9) (.seq (.reg r10) (.reg r11)))) (.reg r12)))))) (.reg r13)))) (.reg r14)))))) (.seq (.reg r15) .ret))))
abbrev res:List RV:=[.tmp 4]
theorem fn:Body Tryz.prog 34 75 code res:=⟨by decide,Tryz.f34,_,Tryz.func34,rfl,rfl,by kernel_rfl,by kernel_rfl⟩
end Sw
namespace Sv
abbrev r0:List In:=[i1 4 (.mv (.k (.a (.raw (.slice none 0 0))))),
i1 5 (.mv (.k (.a (.raw (.slice none 0 0)))))]
abbrev r1:List In:=[mv 28 1,
i1 29 (.len (.t 28)),
i1 30 (.bin .eql (.t 29) (kI 0))]
abbrev r2:List In:=[i1 4 (.mv (.k (.a (.raw (.slice none 0 0))))),
i1 5 (.mv (.k (.a (.raw (.slice none 0 0)))))]
abbrev r3:List In:=[mv 31 0,
mv 32 1,
i1 33 (.call 36 [.t 31,.t 32]),
i1 34 (.bin .lss (.t 33) (kI 0))]
abbrev r4:List In:=[mv 35 0,
i1 36 (.call 51 [.t 35]),
i1 4 (.mv (.k (.a (.raw (.slice none 0 0))))),
mv 5 36]
abbrev r5:List In:=[mv 37 0,
i1 38 (.len (.t 37)),
i1 39 (.bin .leq (.t 38) (kI 2))]
abbrev r6:List In:=[mv 40 0,
i1 41 (.call 52 [.t 40]),
mv 42 1,
i1 43 (.call 52 [.t 42]),
mv 6 41,
mv 7 43]
abbrev r7:DT:=(tm 44 6 false
 (tm 45 7 false
 (tk 46 (.bin .quo (.t 44) (.t 45)) false
 (tm 48 6 false
 (tm 49 7 false
 (tk 50 (.bin .rem (.t 48) (.t 49)) false
 (al 47 (.call 37 [.t 46]) false
 (al 51 (.call 37 [.t 50]) false
 (tm 4 47 false
 (tm 5 51 false
 .done))
 .stop)
 .stop)))))))
abbrev r8:List In:=[mv 52 1,
i1 53 (.len (.t 52)),
i1 54 (.bin .eql (.t 53) (kI 1))]
abbrev r9:List In:=[mv 56 0,
mv 57 1,
i1 58 (.iaddr 1 (.t 57) (kI 0)),
i1 59 (.load 1 false (.t 58)),
i1 60 (.call 53 [.t 56,.t 59]),
mv 55 60,
i1 61 (.ext 0 (.t 55)),
i1 62 (.ext 1 (.t 55)),
mv 8 61,
mv 9 62]
abbrev r10:List In:=[mv 63 8,
mv 64 9,
i1 65 (.bsl 87 1 1 [.int .u32 0] [(0,1,(.t 64))]),
i1 66 (.call 50 [.t 65]),
mv 4 63,
mv 5 66]
abbrev r11:List In:=[mv 67 1,
i1 68 (.call 54 [.t 67]),
i1 69 (.bin .sub (.t 68) (kI 1)),
i1 70 (.bin .rem (.t 69) (kI 32)),
i1 71 (.bin .sub (kI 32) (.t 70)),
i1 72 (.bin .sub (.t 71) (kI 1)),
i1 73 (.conv .u64 (.t 72)),
mv 10 73]
abbrev r12:List In:=[mv 74 1,
mv 75 10,
i1 76 (.call 55 [.t 74,.t 75]),
mv 11 76]
abbrev r13:List In:=[mv 77 0,
i1 78 (.len (.t 77)),
i1 79 (.bin .add (.t 78) (kI 2)),
i1 80 (.mks 87 (.int .u32) 4 (.t 79) (.t 79)),
mv 12 80]
abbrev r14:List In:=[mv 81 12,
mv 82 0,
mv 83 10,
i1 84 (.call 55 [.t 82,.t 83]),
i1 85 (.cpy 87 1 (.t 81) (.t 84))]
abbrev r15:List In:=[mv 86 11,
i1 87 (.len (.t 86)),
mv 13 87]
abbrev r16:List In:=[mv 88 12,
i1 89 (.len (.t 88)),
mv 90 13,
i1 91 (.bin .sub (.t 89) (.t 90)),
i1 92 (.bin .sub (.t 91) (kI 1)),
mv 14 92]
abbrev r17:List In:=[mv 93 14,
i1 94 (.bin .add (.t 93) (kI 1)),
i1 95 (.mks 87 (.int .u32) 4 (.t 94) (.t 94)),
mv 15 95]
abbrev r18:List In:=[mv 96 11,
mv 97 13,
i1 98 (.bin .sub (.t 97) (kI 1)),
i1 99 (.iaddr 1 (.t 96) (.t 98)),
i1 100 (.load 1 false (.t 99)),
i1 101 (.conv .u64 (.t 100)),
mv 102 11,
mv 103 13,
i1 104 (.bin .sub (.t 103) (kI 2)),
i1 105 (.iaddr 1 (.t 102) (.t 104)),
i1 106 (.load 1 false (.t 105)),
i1 107 (.conv .u64 (.t 106)),
mv 16 101,
mv 17 107]
abbrev r19:List In:=[mv 108 14,
mv 18 108]
abbrev r20:List In:=[mv 109 18,
i1 110 (.bin .geq (.t 109) (kI 0))]
abbrev r21:List In:=[mv 113 12,
mv 114 18,
mv 115 13,
i1 116 (.bin .add (.t 114) (.t 115)),
i1 117 (.iaddr 1 (.t 113) (.t 116)),
i1 118 (.load 1 false (.t 117)),
i1 119 (.conv .u64 (.t 118)),
i1 120 (.bin .shl (.t 119) (.k (.a (.int .u64 32)))),
mv 121 12,
mv 122 18,
mv 123 13,
i1 124 (.bin .add (.t 122) (.t 123)),
i1 125 (.bin .sub (.t 124) (kI 1)),
i1 126 (.iaddr 1 (.t 121) (.t 125)),
i1 127 (.load 1 false (.t 126)),
i1 128 (.conv .u64 (.t 127)),
i1 129 (.bin .or (.t 120) (.t 128)),
mv 19 129]
abbrev r22:List In:=[mv 130 19,
mv 131 16,
i1 132 (.bin .quo (.t 130) (.t 131)),
mv 133 19,
mv 134 16,
i1 135 (.bin .rem (.t 133) (.t 134)),
mv 20 132,
mv 21 135]
abbrev r23:List In:=[mv 136 20,
i1 137 (.bin .gtr (.t 136) (.k (.a (.int .u64 4294967295)))),
mv 138 137,
i2 138 false 139 (.mv (.t 20)),
i2 138 false 140 (.mv (.t 17)),
i2 138 false 141 (.bin .mul (.t 139) (.t 140)),
i2 138 false 142 (.mv (.t 21)),
i2 138 false 143 (.bin .shl (.t 142) (.k (.a (.int .u64 32)))),
i2 138 false 144 (.mv (.t 12)),
i2 138 false 145 (.mv (.t 18)),
i2 138 false 146 (.mv (.t 13)),
i2 138 false 147 (.bin .add (.t 145) (.t 146)),
i2 138 false 148 (.bin .sub (.t 147) (kI 2)),
i2 138 false 149 (.iaddr 1 (.t 144) (.t 148)),
i2 138 false 150 (.load 1 false (.t 149)),
i2 138 false 151 (.conv .u64 (.t 150)),
i2 138 false 152 (.bin .or (.t 143) (.t 151)),
i2 138 false 153 (.bin .gtr (.t 141) (.t 152)),
i1 154 (.pick (.t 138) (kB true) (.t 153))]
abbrev r24:List In:=[mv 155 20,
i1 156 (.bin .sub (.t 155) (.k (.a (.int .u64 1)))),
mv 20 156]
abbrev r25:List In:=[mv 157 21,
mv 158 16,
i1 159 (.bin .add (.t 157) (.t 158)),
mv 21 159]
abbrev r26:List In:=[mv 160 21,
i1 161 (.bin .gtr (.t 160) (.k (.a (.int .u64 4294967295))))]
abbrev r27:List In:=[i1 22 (.mv (.k (.a (.int .u64 0)))),
i1 23 (.mv (.k (.a (.int .u64 0))))]
abbrev r28:List In:=[i1 24 (.mv (kI 0))]
abbrev r29:List In:=[mv 162 24,
mv 163 13,
i1 164 (.bin .lss (.t 162) (.t 163))]
abbrev r30:List In:=[mv 167 22,
mv 168 20,
mv 169 11,
mv 170 24,
i1 171 (.iaddr 1 (.t 169) (.t 170)),
i1 172 (.load 1 false (.t 171)),
i1 173 (.conv .u64 (.t 172)),
i1 174 (.bin .mul (.t 168) (.t 173)),
i1 175 (.bin .add (.t 167) (.t 174)),
mv 22 175]
abbrev r31:List In:=[mv 176 12,
mv 177 24,
mv 178 18,
i1 179 (.bin .add (.t 177) (.t 178)),
i1 180 (.iaddr 1 (.t 176) (.t 179)),
i1 181 (.load 1 false (.t 180)),
i1 182 (.conv .u64 (.t 181)),
mv 183 22,
i1 184 (.conv .u32 (.t 183)),
i1 185 (.conv .u64 (.t 184)),
i1 186 (.bin .sub (.t 182) (.t 185)),
mv 187 23,
i1 188 (.bin .sub (.t 186) (.t 187)),
mv 25 188]
abbrev r32:List In:=[mv 189 12,
mv 190 24,
mv 191 18,
i1 192 (.bin .add (.t 190) (.t 191)),
mv 193 25,
i1 194 (.conv .u32 (.t 193)),
i1 195 (.iaddr 1 (.t 189) (.t 192)),
i0 (.store 1 (.t 195) (.t 194))]
abbrev r33:List In:=[mv 196 25,
i1 197 (.bin .shr (.t 196) (.k (.a (.int .u64 63)))),
mv 23 197]
abbrev r34:List In:=[mv 198 22,
i1 199 (.bin .shr (.t 198) (.k (.a (.int .u64 32)))),
mv 22 199]
abbrev r35:List In:=[mv 165 24,
i1 166 (.bin .add (.t 165) (kI 1)),
mv 24 166]
abbrev r36:List In:=[mv 200 12,
mv 201 18,
mv 202 13,
i1 203 (.bin .add (.t 201) (.t 202)),
i1 204 (.iaddr 1 (.t 200) (.t 203)),
i1 205 (.load 1 false (.t 204)),
i1 206 (.conv .u64 (.t 205)),
mv 207 22,
i1 208 (.bin .sub (.t 206) (.t 207)),
mv 209 23,
i1 210 (.bin .sub (.t 208) (.t 209)),
mv 26 210]
abbrev r37:List In:=[mv 211 12,
mv 212 18,
mv 213 13,
i1 214 (.bin .add (.t 212) (.t 213)),
mv 215 26,
i1 216 (.conv .u32 (.t 215)),
i1 217 (.iaddr 1 (.t 211) (.t 214)),
i0 (.store 1 (.t 217) (.t 216))]
abbrev r38:List In:=[mv 218 26,
i1 219 (.bin .shr (.t 218) (.k (.a (.int .u64 63)))),
i1 220 (.bin .neq (.t 219) (.k (.a (.int .u64 0))))]
abbrev r39:List In:=[mv 221 20,
i1 222 (.bin .sub (.t 221) (.k (.a (.int .u64 1)))),
mv 20 222]
abbrev r40:List In:=[i1 22 (.mv (.k (.a (.int .u64 0))))]
abbrev r41:List In:=[i1 27 (.mv (kI 0))]
abbrev r42:List In:=[mv 223 27,
mv 224 13,
i1 225 (.bin .lss (.t 223) (.t 224))]
abbrev r43:List In:=[mv 228 22,
mv 229 12,
mv 230 27,
mv 231 18,
i1 232 (.bin .add (.t 230) (.t 231)),
i1 233 (.iaddr 1 (.t 229) (.t 232)),
i1 234 (.load 1 false (.t 233)),
i1 235 (.conv .u64 (.t 234)),
mv 236 11,
mv 237 27,
i1 238 (.iaddr 1 (.t 236) (.t 237)),
i1 239 (.load 1 false (.t 238)),
i1 240 (.conv .u64 (.t 239)),
i1 241 (.bin .add (.t 235) (.t 240)),
i1 242 (.bin .add (.t 228) (.t 241)),
mv 22 242]
abbrev r44:List In:=[mv 243 12,
mv 244 27,
mv 245 18,
i1 246 (.bin .add (.t 244) (.t 245)),
mv 247 22,
i1 248 (.conv .u32 (.t 247)),
i1 249 (.iaddr 1 (.t 243) (.t 246)),
i0 (.store 1 (.t 249) (.t 248))]
abbrev r45:List In:=[mv 250 22,
i1 251 (.bin .shr (.t 250) (.k (.a (.int .u64 32)))),
mv 22 251]
abbrev r46:List In:=[mv 226 27,
i1 227 (.bin .add (.t 226) (kI 1)),
mv 27 227]
abbrev r47:List In:=[mv 252 12,
mv 253 18,
mv 254 13,
i1 255 (.bin .add (.t 253) (.t 254)),
i1 256 (.iaddr 1 (.t 252) (.t 255)),
i1 257 (.load 1 false (.t 256)),
mv 258 22,
i1 259 (.conv .u32 (.t 258)),
i1 260 (.bin .add (.t 257) (.t 259)),
i1 261 (.iaddr 1 (.t 252) (.t 255)),
i0 (.store 1 (.t 261) (.t 260))]
abbrev r48:List In:=[mv 262 15,
mv 263 18,
mv 264 20,
i1 265 (.conv .u32 (.t 264)),
i1 266 (.iaddr 1 (.t 262) (.t 263)),
i0 (.store 1 (.t 266) (.t 265))]
abbrev r49:List In:=[mv 111 18,
i1 112 (.bin .sub (.t 111) (kI 1)),
mv 18 112]
abbrev r50:List In:=[mv 267 15,
i1 268 (.call 50 [.t 267]),
mv 269 12,
i1 270 (.call 50 [.t 269]),
mv 271 10,
i1 272 (.call 56 [.t 270,.t 271]),
mv 4 268,
mv 5 272]
abbrev code:IC:=.seq (.reg r0) (.seq (.seq (.reg r1) (.cond (.t 30) (.seq (.reg r2) .ret) .skip)) (.seq (.seq (.reg r3) (.cond (.t 34) (.seq (.reg r4) .ret) .skip)) (.seq (.seq (.reg r5) (.cond (.t 39) (.seq (.reg r6) (.seq (.dany r7) .ret)) .skip)) (.seq (.seq (.reg r8) (.cond (.t 54) (.seq (.reg r9) (.seq (.reg r10) .ret)) .skip)) (.seq (.reg r11) (.seq (.reg r12) (.seq (.reg r13) (.seq (.reg r14) (.seq (.reg r15) (.seq (.reg r16) (.seq (.reg r17) (.seq (.dreg r18) (.seq (.seq (.reg r19) (.block 0 (.loop (.seq (.seq (.reg r20) (.cond (.t 110) .skip (.exit 0))) (.seq (.block 1 (.seq (.dreg r21) (.seq (.dreg r22) (.seq (.block 2 (.loop (.seq (.seq (.reg r23) (.cond (.t 154) .skip (.exit 2))) (.block 3 (.seq (.reg r24) (.seq (.reg r25) (.seq (.reg r26) (.cond (.t 161) (.exit 2) .skip)))))))) (.seq (.reg r27) (.seq (.seq (.reg r28) (.block 4 (.loop (.seq (.seq (.reg r29) (.cond (.t 164) .skip (.exit 4))) (.seq (.block 5 (.seq (.reg r30) (.seq (.reg r31) (.seq (.reg r32) (.seq (.reg r33) (.reg r34)))))) (.reg r35)))))) (.seq (.reg r36) (.seq (.reg r37) (.seq (.seq (.reg r38) (.cond (.t 220) (.seq (.reg r39) (.seq (.reg r40) (.seq (.seq (.reg r41) (.block 6 (.loop (.seq (.seq (.reg r42) (.cond (.t 225) .skip (.exit 6))) (.seq (.block 7 (.seq (.dreg r43) (.seq (.reg r44) (.reg r45)))) (.reg r46)))))) (.reg r47)))) .skip)) (.reg r48)))))))))) (.reg r49)))))) (.seq (.reg r50) .ret))))))))))))))
abbrev res:List RV:=[.tmp 4,.tmp 5]
theorem fn:Body Tryz.prog 35 273 code res:=⟨by decide,Tryz.f35,_,Tryz.func35,rfl,rfl,by kernel_rfl,by kernel_rfl⟩
end Sv
namespace Su
abbrev r0:List In:=[i1 4 (.mv (kI 0))]
abbrev r1:List In:=[mv 6 0,
i1 7 (.len (.t 6)),
mv 8 1,
i1 9 (.len (.t 8)),
i1 10 (.bin .neq (.t 7) (.t 9))]
abbrev r2:List In:=[mv 11 0,
i1 12 (.len (.t 11)),
mv 13 1,
i1 14 (.len (.t 13)),
i1 15 (.bin .lss (.t 12) (.t 14))]
abbrev r3:List In:=[i1 4 (.mv (kI (-1)))]
abbrev r4:List In:=[i1 4 (.mv (kI 1))]
abbrev r5:List In:=[mv 16 0,
i1 17 (.len (.t 16)),
i1 18 (.bin .sub (.t 17) (kI 1)),
mv 5 18]
abbrev r6:List In:=[mv 19 5,
i1 20 (.bin .geq (.t 19) (kI 0))]
abbrev r7:List In:=[mv 23 0,
mv 24 5,
i1 25 (.iaddr 1 (.t 23) (.t 24)),
i1 26 (.load 1 false (.t 25)),
mv 27 1,
mv 28 5,
i1 29 (.iaddr 1 (.t 27) (.t 28)),
i1 30 (.load 1 false (.t 29)),
i1 31 (.bin .neq (.t 26) (.t 30))]
abbrev r8:List In:=[mv 32 0,
mv 33 5,
i1 34 (.iaddr 1 (.t 32) (.t 33)),
i1 35 (.load 1 false (.t 34)),
mv 36 1,
mv 37 5,
i1 38 (.iaddr 1 (.t 36) (.t 37)),
i1 39 (.load 1 false (.t 38)),
i1 40 (.bin .lss (.t 35) (.t 39))]
abbrev r9:List In:=[i1 4 (.mv (kI (-1)))]
abbrev r10:List In:=[i1 4 (.mv (kI 1))]
abbrev r11:List In:=[mv 21 5,
i1 22 (.bin .sub (.t 21) (kI 1)),
mv 5 22]
abbrev r12:List In:=[i1 4 (.mv (kI 0))]
abbrev code:IC:=.seq (.reg r0) (.seq (.seq (.reg r1) (.cond (.t 10) (.seq (.seq (.reg r2) (.cond (.t 15) (.seq (.reg r3) .ret) .skip)) (.seq (.reg r4) .ret)) .skip)) (.seq (.seq (.reg r5) (.block 0 (.loop (.seq (.seq (.reg r6) (.cond (.t 20) .skip (.exit 0))) (.seq (.block 1 (.seq (.dreg r7) (.cond (.t 31) (.seq (.seq (.dreg r8) (.cond (.t 40) (.seq (.reg r9) .ret) .skip)) (.seq (.reg r10) .ret)) .skip))) (.reg r11)))))) (.seq (.reg r12) .ret)))
abbrev res:List RV:=[.tmp 4]
theorem fn:Body Tryz.prog 36 41 code res:=⟨by decide,Tryz.f36,_,Tryz.func36,rfl,rfl,by kernel_rfl,by kernel_rfl⟩
end Su
namespace Tg
abbrev r0:List In:=[i1 2 (.mv (.k (.a (.raw (.slice none 0 0)))))]
abbrev r1:List In:=[mv 3 0,
i1 4 (.conv .u32 (.t 3)),
mv 5 0,
i1 6 (.bin .shr (.t 5) (.k (.a (.int .u64 32)))),
i1 7 (.conv .u32 (.t 6)),
i1 8 (.bsl 87 1 2 [.int .u32 0,.int .u32 0] [(0,1,(.t 4)),(1,1,(.t 7))]),
i1 9 (.call 50 [.t 8]),
mv 2 9]
abbrev code:IC:=.seq (.reg r0) (.seq (.reg r1) .ret)
abbrev res:List RV:=[.tmp 2]
theorem fn:Body Tryz.prog 37 10 code res:=⟨by decide,Tryz.f37,_,Tryz.func37,rfl,rfl,by kernel_rfl,by kernel_rfl⟩
end Tg
namespace Wh
abbrev r0:List In:=[i1 6 (.mv (.k (.a (.raw (.pointer none)))))]
abbrev r1:List In:=[i1 7 (.alloc 33 [.bool false,.raw (.slice none 0 0)]),
mv 8 1,
mv 9 2,
mv 10 0,
i1 11 (.call 40 [.t 7,.t 8,.t 9,.t 10])]
abbrev r2:List In:=[mv 12 0,
mv 6 12]
abbrev code:IC:=.seq (.reg r0) (.seq (.reg r1) (.seq (.reg r2) .ret))
abbrev res:List RV:=[.tmp 6]
theorem fn:Body Tryz.prog 38 13 code res:=⟨by decide,Tryz.f38,_,Tryz.func38,rfl,rfl,by kernel_rfl,by kernel_rfl⟩
end Wh
namespace Vl
abbrev r0:List In:=[i1 2 (.mv (.k (.a (.int .u64 0))))]
abbrev r1:List In:=[i1 3 (.mv (.k (.a (.int .u64 0))))]
abbrev r2:List In:=[mv 4 0,
i1 5 (.nchk (.t 4)),
i1 6 (.faddr 1 (.t 5)),
i1 7 (.load 1 false (.t 6)),
i1 8 (.len (.t 7)),
i1 9 (.bin .gtr (.t 8) (kI 0))]
abbrev r3:List In:=[mv 10 0,
i1 11 (.nchk (.t 10)),
i1 12 (.faddr 1 (.t 11)),
i1 13 (.load 1 false (.t 12)),
i1 14 (.iaddr 1 (.t 13) (kI 0)),
i1 15 (.load 1 false (.t 14)),
i1 16 (.conv .u64 (.t 15)),
mv 3 16]
abbrev r4:List In:=[mv 17 0,
i1 18 (.nchk (.t 17)),
i1 19 (.faddr 1 (.t 18)),
i1 20 (.load 1 false (.t 19)),
i1 21 (.len (.t 20)),
i1 22 (.bin .gtr (.t 21) (kI 1))]
abbrev r5:List In:=[mv 23 3,
mv 24 0,
i1 25 (.nchk (.t 24)),
i1 26 (.faddr 1 (.t 25)),
i1 27 (.load 1 false (.t 26)),
i1 28 (.iaddr 1 (.t 27) (kI 1)),
i1 29 (.load 1 false (.t 28)),
i1 30 (.conv .u64 (.t 29)),
i1 31 (.bin .shl (.t 30) (.k (.a (.int .u64 32)))),
i1 32 (.bin .or (.t 23) (.t 31)),
mv 3 32]
abbrev r6:List In:=[mv 33 3,
mv 2 33]
abbrev code:IC:=.seq (.reg r0) (.seq (.reg r1) (.seq (.seq (.reg r2) (.cond (.t 9) (.reg r3) .skip)) (.seq (.seq (.reg r4) (.cond (.t 22) (.reg r5) .skip)) (.seq (.reg r6) .ret))))
abbrev res:List RV:=[.tmp 2]
theorem fn:Body Tryz.prog 39 34 code res:=⟨by decide,Tryz.f39,_,Tryz.func39,rfl,rfl,by kernel_rfl,by kernel_rfl⟩
end Vl
namespace Y5
abbrev r0:List In:=[i1 8 (.mv (.k (.a (.raw (.pointer none))))),
i1 9 (.mv (.k (.a (.raw (.pointer none)))))]
abbrev r1:List In:=[i1 11 (.alloc 33 [.bool false,.raw (.slice none 0 0)]),
mv 12 2,
i1 13 (.call 57 [.t 11,.t 12]),
mv 10 13]
abbrev r2:List In:=[mv 14 0,
mv 15 1,
mv 16 2,
mv 17 3,
i1 18 (.call 23 [.t 14,.t 15,.t 16,.t 17])]
abbrev r3:List In:=[mv 19 3,
i1 20 (.nchk (.t 19)),
i1 21 (.faddr 0 (.t 20)),
i1 22 (.load 1 false (.t 21))]
abbrev r4:List In:=[mv 23 10,
i1 24 (.nchk (.t 23)),
i1 25 (.faddr 0 (.t 24)),
i1 26 (.load 1 false (.t 25))]
abbrev r5:List In:=[mv 27 0,
mv 28 0,
i1 29 (.call 47 [kI 1]),
i1 30 (.call 19 [.t 27,.t 28,.t 29])]
abbrev r6:List In:=[mv 31 3,
mv 32 3,
mv 33 10,
i1 34 (.call 20 [.t 31,.t 32,.t 33])]
abbrev r7:List In:=[mv 35 0,
mv 36 0,
i1 37 (.call 47 [kI 1]),
i1 38 (.call 20 [.t 35,.t 36,.t 37])]
abbrev r8:List In:=[mv 39 3,
mv 40 3,
mv 41 10,
i1 42 (.call 19 [.t 39,.t 40,.t 41])]
abbrev r9:List In:=[mv 43 0,
mv 44 3,
mv 8 43,
mv 9 44]
abbrev code:IC:=.seq (.reg r0) (.seq (.reg r1) (.seq (.reg r2) (.seq (.seq (.reg r3) (.cond (.t 22) (.seq (.reg r4) (.cond (.t 26) (.seq (.reg r5) (.reg r6)) (.seq (.reg r7) (.reg r8)))) .skip)) (.seq (.reg r9) .ret))))
abbrev res:List RV:=[.tmp 8,.tmp 9]
theorem fn:Body Tryz.prog 40 45 code res:=⟨by decide,Tryz.f40,_,Tryz.func40,rfl,rfl,by kernel_rfl,by kernel_rfl⟩
end Y5
namespace Vr
abbrev r0:List In:=[i1 2 (.mv (kI 0))]
abbrev r1:List In:=[mv 4 0,
i1 5 (.call 39 [.t 4]),
i1 6 (.conv .i64 (.t 5)),
mv 3 6]
abbrev r2:List In:=[mv 7 0,
i1 8 (.nchk (.t 7)),
i1 9 (.faddr 0 (.t 8)),
i1 10 (.load 1 false (.t 9))]
abbrev r3:List In:=[mv 11 3,
i1 12 (.un .neg (.t 11)),
mv 3 12]
abbrev r4:List In:=[mv 13 3,
mv 2 13]
abbrev code:IC:=.seq (.reg r0) (.seq (.reg r1) (.seq (.seq (.reg r2) (.cond (.t 10) (.reg r3) .skip)) (.seq (.reg r4) .ret)))
abbrev res:List RV:=[.tmp 2]
theorem fn:Body Tryz.prog 41 14 code res:=⟨by decide,Tryz.f41,_,Tryz.func41,rfl,rfl,by kernel_rfl,by kernel_rfl⟩
end Vr
namespace Wm
abbrev r0:List In:=[i1 4 (.mv (.k (.a (.raw (.pointer none)))))]
abbrev r1:List In:=[mv 5 0,
mv 6 1,
i1 7 (.call 37 [.t 6]),
i1 8 (.call 32 [.t 5,kB false,.t 7]),
mv 4 8]
abbrev code:IC:=.seq (.reg r0) (.seq (.reg r1) .ret)
abbrev res:List RV:=[.tmp 4]
theorem fn:Body Tryz.prog 45 9 code res:=⟨by decide,Tryz.f45,_,Tryz.func45,rfl,rfl,by kernel_rfl,by kernel_rfl⟩
end Wm
namespace Ua
abbrev r0:List In:=[i1 6 (.mv (.k (.a (.raw (.pointer none)))))]
abbrev r1:DT:=(tm 7 0 false
 (tm 8 1 false
 (tk 9 (.nchk (.t 8)) true
 (tk 10 (.faddr 0 (.t 9)) true
 (tk 11 (.load 1 false (.t 10)) true
 (tm 12 1 true
 (tk 13 (.nchk (.t 12)) true
 (tk 14 (.faddr 1 (.t 13)) true
 (tk 15 (.load 1 false (.t 14)) true
 (.alt (mv 16 2) true
 (al 17 (.call 55 [.t 15,.t 16]) true
 (al 18 (.call 32 [.t 7,.t 11,.t 17]) false
 (tm 6 18 false
 .done)
 .stop)
 .stop)
 .stop))))))))))
abbrev code:IC:=.seq (.reg r0) (.seq (.dany r1) .ret)
abbrev res:List RV:=[.tmp 6]
theorem fn:Body Tryz.prog 46 19 code res:=⟨by decide,Tryz.f46,_,Tryz.func46,rfl,rfl,by kernel_rfl,by kernel_rfl⟩
end Ua
namespace Uz
abbrev r0:List In:=[i1 2 (.mv (.k (.a (.raw (.pointer none)))))]
abbrev r1:List In:=[i1 3 (.alloc 33 [.bool false,.raw (.slice none 0 0)]),
mv 4 0,
i1 5 (.call 25 [.t 3,.t 4]),
mv 2 5]
abbrev code:IC:=.seq (.reg r0) (.seq (.reg r1) .ret)
abbrev res:List RV:=[.tmp 2]
theorem fn:Body Tryz.prog 47 6 code res:=⟨by decide,Tryz.f47,_,Tryz.func47,rfl,rfl,by kernel_rfl,by kernel_rfl⟩
end Uz
namespace Sx
abbrev r0:List In:=[i1 4 (.mv (.k (.a (.raw (.slice none 0 0)))))]
abbrev r1:List In:=[mv 9 0,
i1 10 (.len (.t 9)),
i1 11 (.mks 87 (.int .u32) 4 (.t 10) (.t 10)),
mv 5 11]
abbrev r2:List In:=[i1 6 (.mv (.k (.a (.int .u64 0))))]
abbrev r3:List In:=[i1 7 (.mv (kI 0))]
abbrev r4:List In:=[mv 12 7,
mv 13 0,
i1 14 (.len (.t 13)),
i1 15 (.bin .lss (.t 12) (.t 14))]
abbrev r5:List In:=[mv 18 0,
mv 19 7,
i1 20 (.iaddr 1 (.t 18) (.t 19)),
i1 21 (.load 1 false (.t 20)),
i1 22 (.conv .u64 (.t 21)),
mv 23 6,
i1 24 (.bin .sub (.t 22) (.t 23)),
mv 8 24]
abbrev r6:List In:=[mv 25 7,
mv 26 1,
i1 27 (.len (.t 26)),
i1 28 (.bin .lss (.t 25) (.t 27))]
abbrev r7:List In:=[mv 29 8,
mv 30 1,
mv 31 7,
i1 32 (.iaddr 1 (.t 30) (.t 31)),
i1 33 (.load 1 false (.t 32)),
i1 34 (.conv .u64 (.t 33)),
i1 35 (.bin .sub (.t 29) (.t 34)),
mv 8 35]
abbrev r8:List In:=[mv 36 5,
mv 37 7,
mv 38 8,
i1 39 (.conv .u32 (.t 38)),
i1 40 (.iaddr 1 (.t 36) (.t 37)),
i0 (.store 1 (.t 40) (.t 39))]
abbrev r9:List In:=[mv 41 8,
i1 42 (.bin .shr (.t 41) (.k (.a (.int .u64 63)))),
mv 6 42]
abbrev r10:List In:=[mv 16 7,
i1 17 (.bin .add (.t 16) (kI 1)),
mv 7 17]
abbrev r11:List In:=[mv 43 5,
i1 44 (.call 50 [.t 43]),
mv 4 44]
abbrev code:IC:=.seq (.reg r0) (.seq (.reg r1) (.seq (.reg r2) (.seq (.seq (.reg r3) (.block 0 (.loop (.seq (.seq (.reg r4) (.cond (.t 15) .skip (.exit 0))) (.seq (.block 1 (.seq (.reg r5) (.seq (.seq (.reg r6) (.cond (.t 28) (.reg r7) .skip)) (.seq (.reg r8) (.reg r9))))) (.reg r10)))))) (.seq (.reg r11) .ret))))
abbrev res:List RV:=[.tmp 4]
theorem fn:Body Tryz.prog 49 45 code res:=⟨by decide,Tryz.f49,_,Tryz.func49,rfl,rfl,by kernel_rfl,by kernel_rfl⟩
end Sx
namespace Y2
abbrev r0:List In:=[i1 2 (.mv (.k (.a (.raw (.slice none 0 0)))))]
abbrev r1:List In:=[mv 4 0,
i1 5 (.len (.t 4)),
mv 3 5]
abbrev r2:List In:=[mv 6 3,
i1 7 (.bin .gtr (.t 6) (kI 0)),
mv 8 7,
i2 8 true 9 (.mv (.t 0)),
i2 8 true 10 (.mv (.t 3)),
i2 8 true 11 (.bin .sub (.t 10) (kI 1)),
i2 8 true 12 (.iaddr 1 (.t 9) (.t 11)),
i2 8 true 13 (.load 1 false (.t 12)),
i2 8 true 14 (.bin .eql (.t 13) (.k (.a (.int .u32 0)))),
i1 15 (.pick (.t 8) (.t 14) (kB false))]
abbrev r3:List In:=[mv 16 3,
i1 17 (.bin .sub (.t 16) (kI 1)),
mv 3 17]
abbrev r4:List In:=[mv 18 0,
mv 19 3,
i1 20 (.sl 1 (.t 18) none (some (.t 19))),
mv 2 20]
def c6:IC:=.seq (.reg r4) .ret
abbrev code:IC:=.seq (.reg r0) (.seq (.reg r1) (.seq (.block 0 (.loop (.seq (.seq (.reg r2) (.cond (.t 15) .skip (.exit 0))) (.block 1 (.reg r3))))) c6))
abbrev res:List RV:=[.tmp 2]
theorem fn:Body Tryz.prog 50 21 code res:=⟨by decide,Tryz.f50,_,Tryz.func50,rfl,rfl,by kernel_rfl,by kernel_rfl⟩
end Y2
namespace T3
abbrev r0:List In:=[i1 2 (.mv (.k (.a (.raw (.slice none 0 0)))))]
abbrev r1:List In:=[mv 3 0,
i1 4 (.app 31 87 1 4 (.k (.a (.raw (.slice none 0 0)))) (.t 3)),
mv 2 4]
abbrev code:IC:=.seq (.reg r0) (.seq (.reg r1) .ret)
abbrev res:List RV:=[.tmp 2]
theorem fn:Body Tryz.prog 51 5 code res:=⟨by decide,Tryz.f51,_,Tryz.func51,rfl,rfl,by kernel_rfl,by kernel_rfl⟩
end T3
namespace Tf
abbrev r0:List In:=[i1 2 (.mv (.k (.a (.int .u64 0))))]
abbrev r1:List In:=[i1 3 (.mv (.k (.a (.int .u64 0))))]
abbrev r2:List In:=[mv 4 0,
i1 5 (.len (.t 4)),
i1 6 (.bin .gtr (.t 5) (kI 0))]
abbrev r3:List In:=[mv 7 0,
i1 8 (.iaddr 1 (.t 7) (kI 0)),
i1 9 (.load 1 false (.t 8)),
i1 10 (.conv .u64 (.t 9)),
mv 3 10]
abbrev r4:List In:=[mv 11 0,
i1 12 (.len (.t 11)),
i1 13 (.bin .gtr (.t 12) (kI 1))]
abbrev r5:List In:=[mv 14 3,
mv 15 0,
i1 16 (.iaddr 1 (.t 15) (kI 1)),
i1 17 (.load 1 false (.t 16)),
i1 18 (.conv .u64 (.t 17)),
i1 19 (.bin .shl (.t 18) (.k (.a (.int .u64 32)))),
i1 20 (.bin .or (.t 14) (.t 19)),
mv 3 20]
abbrev r6:List In:=[mv 21 3,
mv 2 21]
abbrev code:IC:=.seq (.reg r0) (.seq (.reg r1) (.seq (.seq (.reg r2) (.cond (.t 6) (.reg r3) .skip)) (.seq (.seq (.reg r4) (.cond (.t 13) (.reg r5) .skip)) (.seq (.reg r6) .ret))))
abbrev res:List RV:=[.tmp 2]
theorem fn:Body Tryz.prog 52 22 code res:=⟨by decide,Tryz.f52,_,Tryz.func52,rfl,rfl,by kernel_rfl,by kernel_rfl⟩
end Tf
namespace T2
abbrev r0:List In:=[i1 4 (.mv (.k (.a (.raw (.slice none 0 0)))))]
abbrev r1:List In:=[mv 10 0,
i1 11 (.len (.t 10)),
i1 12 (.bin .eql (.t 11) (kI 0))]
abbrev r2:List In:=[i1 4 (.mv (.k (.a (.raw (.slice none 0 0)))))]
abbrev r3:List In:=[mv 13 1,
i1 14 (.bin .quo (.t 13) (.k (.a (.int .u64 32)))),
i1 15 (.conv .i64 (.t 14)),
mv 16 1,
i1 17 (.bin .rem (.t 16) (.k (.a (.int .u64 32)))),
mv 5 15,
mv 6 17]
abbrev r4:List In:=[mv 18 0,
i1 19 (.len (.t 18)),
mv 20 5,
i1 21 (.bin .add (.t 19) (.t 20)),
i1 22 (.bin .add (.t 21) (kI 1)),
i1 23 (.mks 87 (.int .u32) 4 (.t 22) (.t 22)),
mv 7 23]
abbrev r5:List In:=[i1 8 (.mv (kI 0))]
abbrev r6:List In:=[mv 24 8,
mv 25 0,
i1 26 (.len (.t 25)),
i1 27 (.bin .lss (.t 24) (.t 26))]
abbrev r7:List In:=[mv 30 0,
mv 31 8,
i1 32 (.iaddr 1 (.t 30) (.t 31)),
i1 33 (.load 1 false (.t 32)),
i1 34 (.conv .u64 (.t 33)),
mv 35 6,
i1 36 (.bin .shl (.t 34) (.t 35)),
mv 9 36]
abbrev r8:List In:=[mv 37 7,
mv 38 8,
mv 39 5,
i1 40 (.bin .add (.t 38) (.t 39)),
i1 41 (.iaddr 1 (.t 37) (.t 40)),
i1 42 (.load 1 false (.t 41)),
mv 43 9,
i1 44 (.conv .u32 (.t 43)),
i1 45 (.bin .or (.t 42) (.t 44)),
i1 46 (.iaddr 1 (.t 37) (.t 40)),
i0 (.store 1 (.t 46) (.t 45))]
abbrev r9:List In:=[mv 47 7,
mv 48 8,
mv 49 5,
i1 50 (.bin .add (.t 48) (.t 49)),
i1 51 (.bin .add (.t 50) (kI 1)),
i1 52 (.iaddr 1 (.t 47) (.t 51)),
i1 53 (.load 1 false (.t 52)),
mv 54 9,
i1 55 (.bin .shr (.t 54) (.k (.a (.int .u64 32)))),
i1 56 (.conv .u32 (.t 55)),
i1 57 (.bin .or (.t 53) (.t 56)),
i1 58 (.iaddr 1 (.t 47) (.t 51)),
i0 (.store 1 (.t 58) (.t 57))]
abbrev r10:List In:=[mv 28 8,
i1 29 (.bin .add (.t 28) (kI 1)),
mv 8 29]
abbrev r11:List In:=[mv 59 7,
i1 60 (.call 50 [.t 59]),
mv 4 60]
abbrev code:IC:=.seq (.reg r0) (.seq (.seq (.reg r1) (.cond (.t 12) (.seq (.reg r2) .ret) .skip)) (.seq (.reg r3) (.seq (.reg r4) (.seq (.seq (.reg r5) (.block 0 (.loop (.seq (.seq (.reg r6) (.cond (.t 27) .skip (.exit 0))) (.seq (.block 1 (.seq (.reg r7) (.seq (.reg r8) (.reg r9)))) (.reg r10)))))) (.seq (.reg r11) .ret)))))
abbrev res:List RV:=[.tmp 4]
theorem fn:Body Tryz.prog 55 61 code res:=⟨by decide,Tryz.f55,_,Tryz.func55,rfl,rfl,by kernel_rfl,by kernel_rfl⟩
end T2
namespace Uc
abbrev r0:List In:=[i1 4 (.mv (.k (.a (.raw (.pointer none)))))]
abbrev r1:DT:=(tm 5 0 false
 (tm 6 1 false
 (tk 7 (.nchk (.t 6)) true
 (tk 8 (.faddr 0 (.t 7)) true
 (tk 9 (.load 1 false (.t 8)) true
 (.alt (mv 10 1) true
 (al 11 (.nchk (.t 10)) true
 (al 12 (.faddr 1 (.t 11)) true
 (al 13 (.load 1 false (.t 12)) true
 (al 14 (.call 51 [.t 13]) true
 (al 15 (.call 32 [.t 5,.t 9,.t 14]) false
 (tm 4 15 false
 .done)
 .stop)
 .stop)
 .stop)
 .stop)
 .stop)
 .stop))))))
abbrev code:IC:=.seq (.reg r0) (.seq (.dany r1) .ret)
abbrev res:List RV:=[.tmp 4]
theorem fn:Body Tryz.prog 57 16 code res:=⟨by decide,Tryz.f57,_,Tryz.func57,rfl,rfl,by kernel_rfl,by kernel_rfl⟩
end Uc
namespace Jq
abbrev r0:List In:=[i1 6 (.mv (kI 0)),
i1 7 (.alloc 48 [.bool false,.bool false,.bool false,.bool false])]
abbrev r1:List In:=[i1 8 (.mv (kI 0))]
abbrev r2:List In:=[mv 11 2]
abbrev r3:List In:=[i1 8 (.mv (kI 1))]
abbrev r4:List In:=[mv 12 0,
i1 13 (.bin .and (.t 12) (kI 65535)),
mv 14 1,
i1 15 (.bin .and (.t 14) (kI 65535)),
mv 0 13,
mv 1 15]
abbrev r5:List In:=[mv 16 0,
mv 17 1,
i1 18 (.bin .add (.t 16) (.t 17)),
mv 19 8,
i1 20 (.bin .add (.t 18) (.t 19)),
mv 9 20]
abbrev r6:List In:=[mv 21 9,
i1 22 (.bin .and (.t 21) (kI 65535)),
mv 10 22]
abbrev r7:List In:=[mv 23 10,
mv 24 9,
i1 25 (.bin .gtr (.t 24) (kI 65535)),
mv 26 10,
i1 27 (.bin .eql (.t 26) (kI 0)),
mv 28 10,
i1 29 (.bin .gtr (.t 28) (kI 32767)),
mv 30 0,
mv 31 10,
i1 32 (.bin .xor (.t 30) (.t 31)),
mv 33 1,
mv 34 10,
i1 35 (.bin .xor (.t 33) (.t 34)),
i1 36 (.bin .and (.t 32) (.t 35)),
i1 37 (.bin .and (.t 36) (kI 32768)),
i1 38 (.bin .neq (.t 37) (kI 0)),
i1 39 (.build [.bool false,.bool false,.bool false,.bool false] [(0,1,(.t 25)),(1,1,(.t 27)),(2,1,(.t 29)),(3,1,(.t 38))]),
mv 6 23,
i0 (.store 4 (.t 7) (.t 39))]
abbrev code:IC:=.seq (.reg r0) (.seq (.reg r1) (.seq (.seq (.reg r2) (.cond (.t 11) (.reg r3) .skip)) (.seq (.reg r4) (.seq (.reg r5) (.seq (.reg r6) (.seq (.reg r7) .ret))))))
abbrev res:List RV:=[.tmp 6,.cell 7 4 true]
theorem fn:Body Tryz.prog 163 40 code res:=⟨by decide,Tryz.f163,_,Tryz.func163,rfl,rfl,by kernel_rfl,by kernel_rfl⟩
end Jq
namespace Rs
abbrev r0:List In:=[i1 6 (.mv (kI 0)),
i1 7 (.alloc 48 [.bool false,.bool false,.bool false,.bool false])]
abbrev r1:List In:=[mv 11 0,
mv 12 1,
i1 13 (.un .xor (.t 12)),
mv 14 2,
i1 15 (.un .not (.t 14)),
i1 16 (.call 163 [.t 11,.t 13,.t 15]),
mv 10 16,
i1 17 (.ext 0 (.t 10)),
i1 18 (.ext 1 (.t 10)),
i1 9 (.alloc 48 [.bool false,.bool false,.bool false,.bool false]),
mv 8 17,
i0 (.store 4 (.t 9) (.t 18))]
abbrev r2:List In:=[i1 19 (.faddr 0 (.t 9)),
i1 20 (.load 1 false (.t 19)),
i1 21 (.un .not (.t 20)),
i1 22 (.faddr 0 (.t 9)),
i0 (.store 1 (.t 22) (.t 21))]
abbrev r3:List In:=[mv 23 8,
i1 24 (.load 4 true (.t 9)),
mv 6 23]
abbrev r4:List In:=[i0 (.store 4 (.t 7) (.t 24))]
abbrev code:IC:=.seq (.reg r0) (.seq (.reg r1) (.seq (.reg r2) (.seq (.dregt r3 r4) .ret)))
abbrev res:List RV:=[.tmp 6,.cell 7 4 true]
theorem fn:Body Tryz.prog 164 25 code res:=⟨by decide,Tryz.f164,_,Tryz.func164,rfl,rfl,by kernel_rfl,by kernel_rfl⟩
end Rs
namespace Sr
abbrev r0:List In:=[i1 4 (.mv (kI 0))]
abbrev r1:List In:=[mv 5 0,
i1 6 (.nchk (.t 5)),
i1 7 (.faddr 0 (.t 6)),
i1 8 (.faddr 13 (.t 7)),
i1 9 (.load 1 false (.t 8)),
mv 10 1,
i1 11 (.bin .and (.t 10) (kI 65535)),
i1 12 (.iaddr 1 (.t 9) (.t 11)),
i1 13 (.load 1 false (.t 12)),
mv 4 13]
abbrev code:IC:=.seq (.reg r0) (.seq (.reg r1) .ret)
abbrev res:List RV:=[.tmp 4]
theorem fn:Body Tryz.prog 119 14 code res:=⟨by decide,Tryz.f119,_,Tryz.func119,rfl,rfl,by kernel_rfl,by kernel_rfl⟩
end Sr
namespace T1
abbrev r0:List In:=[mv 6 0,
i1 7 (.nchk (.t 6)),
i1 8 (.faddr 0 (.t 7)),
i1 9 (.faddr 13 (.t 8)),
i1 10 (.load 1 false (.t 9)),
mv 11 1,
i1 12 (.bin .and (.t 11) (kI 65535)),
mv 13 2,
i1 14 (.bin .and (.t 13) (kI 65535)),
i1 15 (.iaddr 1 (.t 10) (.t 12)),
i0 (.store 1 (.t 15) (.t 14))]
abbrev code:IC:=(.reg r0)
abbrev res:List RV:=[]
theorem fn:Body Tryz.prog 120 16 code res:=⟨by decide,Tryz.f120,_,Tryz.func120,rfl,rfl,by kernel_rfl,by kernel_rfl⟩
end T1
namespace Ss
abbrev r0:List In:=[mv 4 0,
mv 5 0,
i1 6 (.nchk (.t 5)),
i1 7 (.faddr 0 (.t 6)),
i1 8 (.faddr 0 (.t 7)),
i1 9 (.iarr 8 1 (.t 8) (kI 7)),
i1 10 (.load 1 false (.t 9)),
i1 11 (.bin .sub (.t 10) (kI 1)),
i1 12 (.bin .and (.t 11) (kI 65535)),
i1 13 (.nchk (.t 4)),
i1 14 (.faddr 0 (.t 13)),
i1 15 (.faddr 0 (.t 14))]
abbrev r1:List In:=[i1 16 (.iarr 8 1 (.t 15) (kI 7)),
i0 (.store 1 (.t 16) (.t 12))]
abbrev r2:List In:=[mv 17 0,
mv 18 0,
i1 19 (.nchk (.t 18)),
i1 20 (.faddr 0 (.t 19)),
i1 21 (.faddr 0 (.t 20)),
i1 22 (.iarr 8 1 (.t 21) (kI 7)),
i1 23 (.load 1 false (.t 22)),
mv 24 1,
i1 25 (.call 120 [.t 17,.t 23,.t 24])]
abbrev code:IC:=.seq (.dregt r0 r1) (.reg r2)
abbrev res:List RV:=[]
theorem fn:Body Tryz.prog 124 26 code res:=⟨by decide,Tryz.f124,_,Tryz.func124,rfl,rfl,by kernel_rfl,by kernel_rfl⟩
end Ss
namespace Rp
abbrev r0:List In:=[i1 2 (.mv (kI 0))]
abbrev r1:List In:=[mv 4 0,
mv 5 0,
i1 6 (.nchk (.t 5)),
i1 7 (.faddr 0 (.t 6)),
i1 8 (.faddr 0 (.t 7)),
i1 9 (.iarr 8 1 (.t 8) (kI 7)),
i1 10 (.load 1 false (.t 9)),
i1 11 (.call 119 [.t 4,.t 10]),
mv 3 11]
abbrev r2:List In:=[mv 12 0,
mv 13 0,
i1 14 (.nchk (.t 13)),
i1 15 (.faddr 0 (.t 14)),
i1 16 (.faddr 0 (.t 15)),
i1 17 (.iarr 8 1 (.t 16) (kI 7)),
i1 18 (.load 1 false (.t 17)),
i1 19 (.bin .add (.t 18) (kI 1)),
i1 20 (.bin .and (.t 19) (kI 65535)),
i1 21 (.nchk (.t 12)),
i1 22 (.faddr 0 (.t 21)),
i1 23 (.faddr 0 (.t 22))]
abbrev r3:List In:=[i1 24 (.iarr 8 1 (.t 23) (kI 7)),
i0 (.store 1 (.t 24) (.t 20))]
abbrev r4:List In:=[mv 25 3,
mv 2 25]
abbrev code:IC:=.seq (.reg r0) (.seq (.reg r1) (.seq (.dregt r2 r3) (.seq (.reg r4) .ret)))
abbrev res:List RV:=[.tmp 2]
theorem fn:Body Tryz.prog 125 26 code res:=⟨by decide,Tryz.f125,_,Tryz.func125,rfl,rfl,by kernel_rfl,by kernel_rfl⟩
end Rp
namespace T0
abbrev r0:List In:=[i1 6 (.mv (kI 0))]
abbrev r1:List In:=[mv 7 1,
i1 8 (.bin .and (.t 7) (kI 65535)),
mv 1 8]
abbrev r2:List In:=[mv 9 0,
mv 10 2,
mv 11 1,
i1 12 (.bin .eql (.t 11) (kI 0)),
mv 13 1,
i1 14 (.bin .gtr (.t 13) (kI 32767)),
i1 15 (.build [.bool false,.bool false,.bool false,.bool false] [(0,1,(.t 10)),(1,1,(.t 12)),(2,1,(.t 14))]),
i1 16 (.nchk (.t 9)),
i1 17 (.faddr 0 (.t 16)),
i1 18 (.faddr 8 (.t 17)),
i0 (.store 4 (.t 18) (.t 15))]
abbrev r3:List In:=[mv 19 1,
mv 6 19]
abbrev code:IC:=.seq (.reg r0) (.seq (.reg r1) (.seq (.reg r2) (.seq (.reg r3) .ret)))
abbrev res:List RV:=[.tmp 6]
theorem fn:Body Tryz.prog 165 20 code res:=⟨by decide,Tryz.f165,_,Tryz.func165,rfl,rfl,by kernel_rfl,by kernel_rfl⟩
end T0
namespace Rq
abbrev r0:List In:=[i1 8 (.mv (kI 0))]
abbrev r1:List In:=[mv 11 0,
i1 12 (.nchk (.t 11)),
i1 13 (.faddr 0 (.t 12)),
i1 14 (.faddr 8 (.t 13)),
i1 15 (.load 4 true (.t 14)),
i1 9 (.alloc 48 [.bool false,.bool false,.bool false,.bool false]),
i0 (.store 4 (.t 9) (.t 15))]
abbrev r2:List In:=[i1 10 (.mv (kI 0))]
abbrev r3:List In:=[mv 16 1]
abbrev r4:List In:=[i1 18 (.bin .eql (.t 16) (kI 5)),
mv 17 18]
abbrev r5:List In:=[i1 19 (.bin .eql (.t 16) (kI 6)),
mv 17 19]
abbrev r6:List In:=[mv 21 0,
mv 22 2,
mv 23 3,
mv 24 1,
i1 25 (.bin .eql (.t 24) (kI 6)),
mv 26 25,
i2 26 true 27 (.faddr 0 (.t 9)),
i2 26 true 28 (.load 1 false (.t 27)),
i1 29 (.pick (.t 26) (.t 28) (kB false)),
i1 30 (.call 163 [.t 22,.t 23,.t 29]),
mv 20 30,
i1 31 (.ext 0 (.t 20)),
i1 32 (.ext 1 (.t 20)),
mv 10 31,
i1 33 (.nchk (.t 21)),
i1 34 (.faddr 0 (.t 33)),
i1 35 (.faddr 8 (.t 34)),
i0 (.store 4 (.t 35) (.t 32))]
abbrev r7:List In:=[i1 37 (.bin .eql (.t 16) (kI 7)),
mv 36 37]
abbrev r8:List In:=[i1 38 (.bin .eql (.t 16) (kI 12)),
mv 36 38]
abbrev r9:List In:=[mv 40 0,
mv 41 2,
mv 42 3,
i1 43 (.call 164 [.t 41,.t 42,kB false]),
mv 39 43,
i1 44 (.ext 0 (.t 39)),
i1 45 (.ext 1 (.t 39)),
mv 10 44,
i1 46 (.nchk (.t 40)),
i1 47 (.faddr 0 (.t 46)),
i1 48 (.faddr 8 (.t 47)),
i0 (.store 4 (.t 48) (.t 45))]
abbrev r10:List In:=[i1 50 (.bin .eql (.t 16) (kI 8)),
mv 49 50]
abbrev r11:List In:=[i1 51 (.bin .eql (.t 16) (kI 13)),
mv 49 51]
abbrev r12:List In:=[mv 53 0,
mv 54 2,
mv 55 3,
i1 56 (.faddr 0 (.t 9)),
i1 57 (.load 1 false (.t 56)),
i1 58 (.call 164 [.t 54,.t 55,.t 57]),
mv 52 58,
i1 59 (.ext 0 (.t 52)),
i1 60 (.ext 1 (.t 52)),
mv 10 59,
i1 61 (.nchk (.t 53)),
i1 62 (.faddr 0 (.t 61)),
i1 63 (.faddr 8 (.t 62)),
i0 (.store 4 (.t 63) (.t 60))]
abbrev r13:List In:=[mv 64 1,
i1 65 (.bin .eql (.t 64) (kI 13))]
abbrev r14:List In:=[mv 66 0,
mv 67 0,
i1 68 (.nchk (.t 67)),
i1 69 (.faddr 0 (.t 68)),
i1 70 (.faddr 8 (.t 69)),
i1 71 (.faddr 1 (.t 70)),
i1 72 (.load 1 false (.t 71)),
mv 73 72,
i2 73 true 74 (.faddr 1 (.t 9)),
i2 73 true 75 (.load 1 false (.t 74)),
i1 76 (.pick (.t 73) (.t 75) (kB false)),
i1 77 (.nchk (.t 66)),
i1 78 (.faddr 0 (.t 77)),
i1 79 (.faddr 8 (.t 78)),
i1 80 (.faddr 1 (.t 79)),
i0 (.store 1 (.t 80) (.t 76))]
abbrev r15:List In:=[i1 82 (.bin .eql (.t 16) (kI 9)),
mv 81 82]
abbrev r16:List In:=[mv 83 0,
mv 84 2,
mv 85 3,
i1 86 (.bin .and (.t 84) (.t 85)),
i1 87 (.call 165 [.t 83,.t 86,kB false]),
mv 10 87]
abbrev r17:List In:=[i1 89 (.bin .eql (.t 16) (kI 10)),
mv 88 89]
abbrev r18:List In:=[mv 90 0,
mv 91 2,
mv 92 3,
i1 93 (.bin .or (.t 91) (.t 92)),
i1 94 (.call 165 [.t 90,.t 93,kB false]),
mv 10 94]
abbrev r19:List In:=[i1 96 (.bin .eql (.t 16) (kI 11)),
mv 95 96]
abbrev r20:List In:=[mv 97 0,
mv 98 2,
mv 99 3,
i1 100 (.bin .xor (.t 98) (.t 99)),
i1 101 (.call 165 [.t 97,.t 100,kB false]),
mv 10 101]
abbrev r21:List In:=[mv 102 10,
mv 8 102]
abbrev code:IC:=.seq (.reg r0) (.seq (.reg r1) (.seq (.reg r2) (.seq (.seq (.reg r3) (.block 0 (.seq (.seq (.reg r4) (.cond (.t 17) .skip (.reg r5))) (.cond (.t 17) (.reg r6) (.seq (.seq (.reg r7) (.cond (.t 36) .skip (.reg r8))) (.cond (.t 36) (.reg r9) (.seq (.seq (.reg r10) (.cond (.t 49) .skip (.reg r11))) (.cond (.t 49) (.seq (.reg r12) (.seq (.reg r13) (.cond (.t 65) (.reg r14) .skip))) (.seq (.reg r15) (.cond (.t 81) (.reg r16) (.seq (.reg r17) (.cond (.t 88) (.reg r18) (.seq (.reg r19) (.cond (.t 95) (.reg r20) .skip)))))))))))))) (.seq (.reg r21) .ret))))
abbrev res:List RV:=[.tmp 8]
theorem fn:Body Tryz.prog 121 103 code res:=⟨by decide,Tryz.f121,_,Tryz.func121,rfl,rfl,by kernel_rfl,by kernel_rfl⟩
end Rq
namespace Uy
abbrev r0:List In:=[i1 6 (.mv (kI 0))]
abbrev r1:List In:=[i1 7 (.mv (kI 0))]
abbrev r2:List In:=[mv 9 1,
i1 10 (.bin .eql (.t 9) (kI 15)),
mv 11 10,
i2 11 true 12 (.mv (.t 0)),
i2 11 true 13 (.nchk (.t 12)),
i2 11 true 14 (.faddr 0 (.t 13)),
i2 11 true 15 (.faddr 8 (.t 14)),
i2 11 true 16 (.faddr 0 (.t 15)),
i2 11 true 17 (.load 1 false (.t 16)),
i1 18 (.pick (.t 11) (.t 17) (kB false)),
mv 8 18]
abbrev r3:List In:=[i1 7 (.mv (kI 1))]
abbrev r4:List In:=[mv 20 1,
i1 21 (.bin .eql (.t 20) (kI 18)),
mv 22 21,
i2 22 true 23 (.mv (.t 0)),
i2 22 true 24 (.nchk (.t 23)),
i2 22 true 25 (.faddr 0 (.t 24)),
i2 22 true 26 (.faddr 8 (.t 25)),
i2 22 true 27 (.faddr 0 (.t 26)),
i2 22 true 28 (.load 1 false (.t 27)),
i1 29 (.pick (.t 22) (.t 28) (kB false)),
mv 19 29]
abbrev r5:List In:=[mv 30 1,
i1 31 (.bin .eql (.t 30) (kI 17)),
mv 32 31,
i2 32 true 33 (.mv (.t 2)),
i2 32 true 34 (.bin .gtr (.t 33) (kI 32767)),
i1 35 (.pick (.t 32) (.t 34) (kB false)),
mv 19 35]
abbrev r6:List In:=[i1 7 (.mv (kI 32768))]
abbrev r7:List In:=[mv 36 1,
i1 37 (.bin .eql (.t 36) (kI 14)),
mv 38 37,
i2 38 false 39 (.mv (.t 1)),
i2 38 false 40 (.bin .eql (.t 39) (kI 15)),
i1 41 (.pick (.t 38) (kB true) (.t 40))]
abbrev r8:List In:=[mv 42 0,
mv 43 2,
i1 44 (.bin .shl (.t 43) (.k (.a (.int .u64 1)))),
mv 45 7,
i1 46 (.bin .or (.t 44) (.t 45)),
mv 47 2,
i1 48 (.bin .gtr (.t 47) (kI 32767)),
i1 49 (.call 165 [.t 42,.t 46,.t 48]),
mv 6 49]
abbrev r9:List In:=[mv 50 0,
mv 51 2,
i1 52 (.bin .shr (.t 51) (.k (.a (.int .u64 1)))),
mv 53 7,
i1 54 (.bin .or (.t 52) (.t 53)),
mv 55 2,
i1 56 (.bin .and (.t 55) (kI 1)),
i1 57 (.bin .eql (.t 56) (kI 1)),
i1 58 (.call 165 [.t 50,.t 54,.t 57]),
mv 6 58]
abbrev code:IC:=.seq (.reg r0) (.seq (.reg r1) (.seq (.block 0 (.seq (.reg r2) (.cond (.t 8) (.reg r3) (.seq (.seq (.reg r4) (.cond (.t 19) .skip (.reg r5))) (.cond (.t 19) (.reg r6) .skip))))) (.seq (.seq (.reg r7) (.cond (.t 41) (.seq (.reg r8) .ret) .skip)) (.seq (.reg r9) .ret))))
abbrev res:List RV:=[.tmp 6]
theorem fn:Body Tryz.prog 122 59 code res:=⟨by decide,Tryz.f122,_,Tryz.func122,rfl,rfl,by kernel_rfl,by kernel_rfl⟩
end Uy
namespace Sq
abbrev r0:List In:=[i1 4 (.mv (kB false))]
abbrev r1:List In:=[mv 6 0,
i1 7 (.nchk (.t 6)),
i1 8 (.faddr 0 (.t 7)),
i1 9 (.faddr 8 (.t 8)),
i1 10 (.load 4 true (.t 9)),
i1 5 (.alloc 48 [.bool false,.bool false,.bool false,.bool false]),
i0 (.store 4 (.t 5) (.t 10))]
abbrev r2:List In:=[mv 11 1]
abbrev r3:List In:=[i1 13 (.bin .eql (.t 11) (kI 20)),
mv 12 13]
abbrev r4:List In:=[i1 14 (.faddr 1 (.t 5)),
i1 15 (.load 1 false (.t 14)),
mv 4 15]
abbrev r5:List In:=[i1 17 (.bin .eql (.t 11) (kI 21)),
mv 16 17]
abbrev r6:List In:=[i1 18 (.faddr 1 (.t 5)),
i1 19 (.load 1 false (.t 18)),
i1 20 (.un .not (.t 19)),
mv 4 20]
abbrev r7:List In:=[i1 22 (.bin .eql (.t 11) (kI 22)),
mv 21 22]
abbrev r8:List In:=[i1 23 (.faddr 0 (.t 5)),
i1 24 (.load 1 false (.t 23)),
mv 4 24]
abbrev r9:List In:=[i1 26 (.bin .eql (.t 11) (kI 23)),
mv 25 26]
abbrev r10:List In:=[i1 27 (.faddr 0 (.t 5)),
i1 28 (.load 1 false (.t 27)),
i1 29 (.un .not (.t 28)),
mv 4 29]
abbrev r11:List In:=[i1 31 (.bin .eql (.t 11) (kI 24)),
mv 30 31]
abbrev r12:List In:=[i1 32 (.faddr 2 (.t 5)),
i1 33 (.load 1 false (.t 32)),
i1 34 (.faddr 3 (.t 5)),
i1 35 (.load 1 false (.t 34)),
i1 36 (.beq true (.t 33) (.t 35)),
mv 4 36]
abbrev r13:List In:=[i1 38 (.bin .eql (.t 11) (kI 25)),
mv 37 38]
abbrev r14:List In:=[i1 39 (.faddr 2 (.t 5)),
i1 40 (.load 1 false (.t 39)),
i1 41 (.faddr 3 (.t 5)),
i1 42 (.load 1 false (.t 41)),
i1 43 (.beq false (.t 40) (.t 42)),
mv 4 43]
abbrev r15:List In:=[i1 4 (.mv (kB true))]
abbrev code:IC:=.seq (.reg r0) (.seq (.reg r1) (.seq (.seq (.reg r2) (.block 0 (.seq (.reg r3) (.cond (.t 12) (.seq (.reg r4) .ret) (.seq (.reg r5) (.cond (.t 16) (.seq (.reg r6) .ret) (.seq (.reg r7) (.cond (.t 21) (.seq (.reg r8) .ret) (.seq (.reg r9) (.cond (.t 25) (.seq (.reg r10) .ret) (.seq (.reg r11) (.cond (.t 30) (.seq (.reg r12) .ret) (.seq (.reg r13) (.cond (.t 37) (.seq (.reg r14) .ret) .skip)))))))))))))) (.seq (.reg r15) .ret)))
abbrev res:List RV:=[.tmp 4]
theorem fn:Body Tryz.prog 123 44 code res:=⟨by decide,Tryz.f123,_,Tryz.func123,rfl,rfl,by kernel_rfl,by kernel_rfl⟩
end Sq
namespace Zk
abbrev r0:List In:=[i1 2 (.mv (kI 0))]
abbrev r1:DT:=(tm 9 0 false
 (tk 10 (.nchk (.t 9)) true
 (tk 11 (.faddr 14 (.t 10)) true
 (tk 12 (.load 1 false (.t 11)) true
 (tm 13 0 true
 (tk 14 (.nchk (.t 13)) true
 (tk 15 (.faddr 0 (.t 14)) true
 (tk 16 (.faddr 12 (.t 15)) true
 (tk 17 (.load 1 false (.t 16)) true
 (al 18 (.call 118 [.t 12,.t 17]) false
 (tm 8 18 false
 (tk 19 (.ext 0 (.t 8)) false
 (tk 20 (.ext 1 (.t 8)) false
 (al 3 (.alloc 70 [.int .i64 0,.int .i64 0,.int .i64 0,.int .i64 0]) true
 (.alt (i0 (.store 4 (.t 3) (.t 19))) false
 (tm 4 20 false
 .done)
 .stop)
 .stop))))
 (al 3 (.alloc 70 [.int .i64 0,.int .i64 0,.int .i64 0,.int .i64 0]) true
 (al 18 (.call 118 [.t 12,.t 17]) false
 (tm 8 18 false
 (tk 19 (.ext 0 (.t 8)) false
 (tk 20 (.ext 1 (.t 8)) false
 (.alt (i0 (.store 4 (.t 3) (.t 19))) false
 (tm 4 20 false
 .done)
 .stop))))
 .stop)
 .stop)))))))))))
abbrev r2:List In:=[mv 21 4,
i1 22 (.bin .eql (.t 21) (kI 0))]
abbrev r3:List In:=[i1 2 (.mv (kI 4))]
abbrev c2:IC:=.seq (.reg r2) (.cond (.t 22) (.seq (.reg r3) .ret) .skip)
abbrev r4:List In:=[mv 23 0,
i1 24 (.nchk (.t 23)),
i1 25 (.faddr 0 (.t 24)),
i1 26 (.faddr 12 (.t 25)),
i1 27 (.load 1 false (.t 26)),
mv 28 4,
i1 29 (.bin .add (.t 27) (.t 28)),
mv 5 29]
abbrev r5:List In:=[mv 30 0,
i1 31 (.nchk (.t 30)),
i1 32 (.faddr 0 (.t 31)),
i1 33 (.faddr 0 (.t 32)),
mv 6 33]
abbrev r6:List In:=[i1 34 (.faddr 0 (.t 3)),
i1 35 (.load 1 false (.t 34)),
mv 7 35]
abbrev r7:List In:=[mv 37 7,
i1 38 (.bin .eql (.t 37) (kI 0)),
mv 36 38]
abbrev r8:List In:=[i1 2 (.mv (kI 1))]
abbrev r9:List In:=[mv 40 7,
i1 41 (.bin .eql (.t 40) (kI 32)),
mv 39 41]
abbrev r10:List In:=[mv 42 0,
i1 43 (.faddr 3 (.t 3)),
i1 44 (.load 1 false (.t 43)),
i1 45 (.nchk (.t 42)),
i1 46 (.faddr 16 (.t 45)),
i1 47 (.faddr 1 (.t 46)),
i0 (.store 1 (.t 47) (.t 44))]
abbrev r11:List In:=[i1 2 (.mv (kI 2))]
abbrev r12:List In:=[mv 49 7,
i1 50 (.bin .eql (.t 49) (kI 1)),
mv 48 50]
abbrev r13:List In:=[mv 51 6,
i1 52 (.faddr 1 (.t 3)),
i1 53 (.load 1 false (.t 52)),
mv 54 6,
i1 55 (.faddr 2 (.t 3)),
i1 56 (.load 1 false (.t 55)),
i1 57 (.nchk (.t 54)),
i1 58 (.iarr 8 1 (.t 57) (.t 56)),
i1 59 (.load 1 false (.t 58)),
i1 60 (.nchk (.t 51))]
abbrev r14:List In:=[i1 61 (.iarr 8 1 (.t 60) (.t 53)),
i0 (.store 1 (.t 61) (.t 59))]
abbrev r15:List In:=[mv 63 7,
i1 64 (.bin .eql (.t 63) (kI 2)),
mv 62 64]
abbrev r16:List In:=[mv 65 6,
i1 66 (.faddr 1 (.t 3)),
i1 67 (.load 1 false (.t 66)),
i1 68 (.faddr 3 (.t 3)),
i1 69 (.load 1 false (.t 68)),
i1 70 (.nchk (.t 65))]
abbrev r17:List In:=[i1 71 (.iarr 8 1 (.t 70) (.t 67)),
i0 (.store 1 (.t 71) (.t 69))]
abbrev r18:List In:=[mv 73 7,
i1 74 (.bin .eql (.t 73) (kI 3)),
mv 72 74]
abbrev r19:DT:=(tm 75 6 true
 (tk 76 (.faddr 1 (.t 3)) true
 (tk 77 (.load 1 false (.t 76)) true
 (tm 78 0 true
 (tm 79 6 true
 (tk 80 (.faddr 2 (.t 3)) true
 (tk 81 (.load 1 false (.t 80)) true
 (tk 82 (.nchk (.t 79)) true
 (tk 83 (.iarr 8 1 (.t 82) (.t 81)) true
 (tk 85 (.faddr 3 (.t 3)) true
 (tk 86 (.load 1 false (.t 85)) true
 (tk 89 (.nchk (.t 75)) true
 (al 84 (.load 1 false (.t 83)) true
 (tk 87 (.bin .add (.t 84) (.t 86)) true
 (al 88 (.call 119 [.t 78,.t 87]) true
 (tk 90 (.iarr 8 1 (.t 89) (.t 77)) true
 (.alt (i0 (.store 1 (.t 90) (.t 88))) false
 .done
 .stop))
 .stop))
 .stop)))))))))))))
abbrev r20:List In:=[mv 92 7,
i1 93 (.bin .eql (.t 92) (kI 4)),
mv 91 93]
abbrev r21:List In:=[mv 94 0,
mv 95 6,
i1 96 (.faddr 1 (.t 3)),
i1 97 (.load 1 false (.t 96)),
i1 98 (.nchk (.t 95)),
i1 99 (.iarr 8 1 (.t 98) (.t 97)),
i1 100 (.load 1 false (.t 99)),
i1 101 (.faddr 3 (.t 3)),
i1 102 (.load 1 false (.t 101)),
i1 103 (.bin .add (.t 100) (.t 102)),
mv 104 6,
i1 105 (.faddr 2 (.t 3)),
i1 106 (.load 1 false (.t 105)),
i1 107 (.nchk (.t 104)),
i1 108 (.iarr 8 1 (.t 107) (.t 106)),
i1 109 (.load 1 false (.t 108))]
abbrev r22:List In:=[i1 110 (.call 120 [.t 94,.t 103,.t 109])]
abbrev r23:List In:=[mv 112 7,
i1 113 (.bin .eql (.t 112) (kI 12)),
mv 114 113,
i2 114 false 115 (.mv (.t 7)),
i2 114 false 116 (.bin .eql (.t 115) (kI 13)),
i1 117 (.pick (.t 114) (kB true) (.t 116)),
mv 111 117]
abbrev r24:List In:=[mv 118 0,
mv 119 7,
mv 120 6,
i1 121 (.faddr 1 (.t 3)),
i1 122 (.load 1 false (.t 121)),
i1 123 (.nchk (.t 120)),
i1 124 (.iarr 8 1 (.t 123) (.t 122)),
i1 125 (.load 1 false (.t 124)),
mv 126 6,
i1 127 (.faddr 2 (.t 3)),
i1 128 (.load 1 false (.t 127)),
i1 129 (.nchk (.t 126)),
i1 130 (.iarr 8 1 (.t 129) (.t 128)),
i1 131 (.load 1 false (.t 130))]
abbrev r25:List In:=[i1 132 (.call 121 [.t 118,.t 119,.t 125,.t 131])]
abbrev r26:List In:=[mv 134 7,
i1 135 (.bin .geq (.t 134) (kI 5)),
mv 136 135,
i2 136 true 137 (.mv (.t 7)),
i2 136 true 138 (.bin .leq (.t 137) (kI 11)),
i1 139 (.pick (.t 136) (.t 138) (kB false)),
mv 133 139]
abbrev r27:DT:=(tm 140 6 true
 (tk 141 (.faddr 1 (.t 3)) true
 (tk 142 (.load 1 false (.t 141)) true
 (tm 143 0 true
 (tm 144 7 true
 (tm 145 6 true
 (tk 146 (.faddr 1 (.t 3)) true
 (tk 147 (.load 1 false (.t 146)) true
 (tk 148 (.nchk (.t 145)) true
 (tk 149 (.iarr 8 1 (.t 148) (.t 147)) true
 (tm 151 6 true
 (tk 152 (.faddr 2 (.t 3)) true
 (tk 153 (.load 1 false (.t 152)) true
 (tk 154 (.nchk (.t 151)) true
 (tk 155 (.iarr 8 1 (.t 154) (.t 153)) true
 (tk 158 (.nchk (.t 140)) true
 (al 150 (.load 1 false (.t 149)) true
 (al 156 (.load 1 false (.t 155)) true
 (al 157 (.call 121 [.t 143,.t 144,.t 150,.t 156]) true
 (tk 159 (.iarr 8 1 (.t 158) (.t 142)) true
 (.alt (i0 (.store 1 (.t 159) (.t 157))) false
 .done
 .stop))
 .stop)
 .stop)
 (al 156 (.load 1 false (.t 155)) true
 (al 150 (.load 1 false (.t 149)) true
 (al 157 (.call 121 [.t 143,.t 144,.t 150,.t 156]) true
 (tk 159 (.iarr 8 1 (.t 158) (.t 142)) true
 (.alt (i0 (.store 1 (.t 159) (.t 157))) false
 .done
 .stop))
 .stop)
 .stop)
 .stop))))))))))))))))))
abbrev r28:List In:=[mv 161 7,
i1 162 (.bin .geq (.t 161) (kI 14)),
mv 163 162,
i2 163 true 164 (.mv (.t 7)),
i2 163 true 165 (.bin .leq (.t 164) (kI 18)),
i1 166 (.pick (.t 163) (.t 165) (kB false)),
mv 160 166]
abbrev r29:DT:=(tm 167 6 true
 (tk 168 (.faddr 1 (.t 3)) true
 (tk 169 (.load 1 false (.t 168)) true
 (tm 170 0 true
 (tm 171 7 true
 (tm 172 6 true
 (tk 173 (.faddr 1 (.t 3)) true
 (tk 174 (.load 1 false (.t 173)) true
 (tk 175 (.nchk (.t 172)) true
 (tk 176 (.iarr 8 1 (.t 175) (.t 174)) true
 (tk 179 (.nchk (.t 167)) true
 (al 177 (.load 1 false (.t 176)) true
 (al 178 (.call 122 [.t 170,.t 171,.t 177]) true
 (tk 180 (.iarr 8 1 (.t 179) (.t 169)) true
 (.alt (i0 (.store 1 (.t 180) (.t 178))) false
 .done
 .stop))
 .stop)
 .stop))))))))))))
abbrev r30:List In:=[mv 182 7,
i1 183 (.bin .geq (.t 182) (kI 19)),
mv 184 183,
i2 184 true 185 (.mv (.t 7)),
i2 184 true 186 (.bin .leq (.t 185) (kI 25)),
i1 187 (.pick (.t 184) (.t 186) (kB false)),
mv 181 187]
abbrev r31:List In:=[mv 188 0,
mv 189 7,
i1 190 (.call 123 [.t 188,.t 189])]
abbrev r32:List In:=[i1 191 (.faddr 3 (.t 3)),
i1 192 (.load 1 false (.t 191)),
mv 5 192]
abbrev r33:List In:=[mv 194 7,
i1 195 (.bin .eql (.t 194) (kI 26)),
mv 193 195]
abbrev r34:List In:=[mv 196 0,
mv 197 5,
i1 198 (.call 124 [.t 196,.t 197])]
abbrev r35:List In:=[i1 199 (.faddr 3 (.t 3)),
i1 200 (.load 1 false (.t 199)),
mv 5 200]
abbrev r36:List In:=[mv 202 7,
i1 203 (.bin .eql (.t 202) (kI 27)),
mv 201 203]
abbrev r37:List In:=[mv 204 0,
i1 205 (.call 125 [.t 204]),
mv 5 205]
abbrev r38:List In:=[mv 207 7,
i1 208 (.bin .eql (.t 207) (kI 28)),
mv 206 208]
abbrev r39:List In:=[mv 209 0,
mv 210 6,
i1 211 (.faddr 2 (.t 3)),
i1 212 (.load 1 false (.t 211)),
i1 213 (.nchk (.t 210)),
i1 214 (.iarr 8 1 (.t 213) (.t 212)),
i1 215 (.load 1 false (.t 214))]
abbrev r40:List In:=[i1 216 (.call 124 [.t 209,.t 215])]
abbrev r41:List In:=[mv 218 7,
i1 219 (.bin .eql (.t 218) (kI 29)),
mv 217 219]
abbrev r42:DT:=(tm 220 6 true
 (tk 221 (.faddr 1 (.t 3)) true
 (tk 222 (.load 1 false (.t 221)) true
 (tm 223 0 true
 (tk 225 (.nchk (.t 220)) true
 (al 224 (.call 125 [.t 223]) true
 (tk 226 (.iarr 8 1 (.t 225) (.t 222)) true
 (.alt (i0 (.store 1 (.t 226) (.t 224))) false
 .done
 .stop))
 .stop))))))
abbrev r43:List In:=[mv 228 7,
i1 229 (.bin .eql (.t 228) (kI 31)),
mv 227 229]
abbrev r44:List In:=[mv 230 0,
i1 231 (.faddr 1 (.t 3)),
i1 232 (.load 1 false (.t 231)),
i1 233 (.call 126 [.t 230,.t 232])]
abbrev r45:List In:=[mv 235 7,
i1 236 (.bin .eql (.t 235) (kI 30)),
mv 234 236]
abbrev r46:List In:=[mv 237 0,
i1 238 (.nchk (.t 237)),
i1 239 (.faddr 16 (.t 238)),
i1 240 (.faddr 2 (.t 239)),
i1 241 (.load 1 false (.t 240)),
i1 242 (.len (.t 241)),
i1 243 (.bin .eql (.t 242) (kI 65536))]
abbrev r47:List In:=[i1 2 (.mv (kI 5))]
abbrev r48:DT:=(tm 244 0 true
 (tm 245 0 true
 (tk 246 (.nchk (.t 245)) true
 (tk 247 (.faddr 16 (.t 246)) true
 (tk 248 (.faddr 2 (.t 247)) true
 (tm 250 6 true
 (tk 251 (.faddr 2 (.t 3)) true
 (tk 252 (.load 1 false (.t 251)) true
 (tk 253 (.nchk (.t 250)) true
 (tk 254 (.iarr 8 1 (.t 253) (.t 252)) true
 (al 249 (.load 1 false (.t 248)) true
 (al 255 (.load 1 false (.t 254)) true
 (tk 256 (.conv .u8 (.t 255)) true
 (al 257 (.bsl 5 1 1 [.int .u8 0] [(0,1,(.t 256))]) true
 (al 258 (.app 45 5 1 1 (.t 249) (.t 257)) true
 (tk 259 (.nchk (.t 244)) true
 (tk 260 (.faddr 16 (.t 259)) true
 (tk 261 (.faddr 2 (.t 260)) true
 (.alt (i0 (.store 1 (.t 261) (.t 258))) false
 .done
 .stop))))
 .stop)
 .stop))
 .stop)
 (al 255 (.load 1 false (.t 254)) true
 (tk 256 (.conv .u8 (.t 255)) true
 (al 249 (.load 1 false (.t 248)) true
 (al 257 (.bsl 5 1 1 [.int .u8 0] [(0,1,(.t 256))]) true
 (al 258 (.app 45 5 1 1 (.t 249) (.t 257)) true
 (tk 259 (.nchk (.t 244)) true
 (tk 260 (.faddr 16 (.t 259)) true
 (tk 261 (.faddr 2 (.t 260)) true
 (.alt (i0 (.store 1 (.t 261) (.t 258))) false
 .done
 .stop))))
 .stop)
 .stop)
 (al 257 (.bsl 5 1 1 [.int .u8 0] [(0,1,(.t 256))]) true
 (al 249 (.load 1 false (.t 248)) true
 (al 258 (.app 45 5 1 1 (.t 249) (.t 257)) true
 (tk 259 (.nchk (.t 244)) true
 (tk 260 (.faddr 16 (.t 259)) true
 (tk 261 (.faddr 2 (.t 260)) true
 (.alt (i0 (.store 1 (.t 261) (.t 258))) false
 .done
 .stop))))
 .stop)
 .stop)
 .stop)))
 .stop))))))))))))
abbrev r49:List In:=[mv 262 0,
mv 263 5,
i1 264 (.bin .and (.t 263) (kI 65535)),
i1 265 (.nchk (.t 262)),
i1 266 (.faddr 0 (.t 265)),
i1 267 (.faddr 12 (.t 266)),
i0 (.store 1 (.t 267) (.t 264))]
abbrev r50:List In:=[i1 2 (.mv (kI 0))]
abbrev c51:IC:=.seq (.reg r4) (.seq (.reg r5) (.seq (.seq (.reg r6) (.block 0 (.seq (.reg r7) (.cond (.t 36) (.seq (.reg r8) .ret) (.seq (.reg r9) (.cond (.t 39) (.seq (.reg r10) (.seq (.reg r11) .ret)) (.seq (.reg r12) (.cond (.t 48) (.dregt r13 r14) (.seq (.reg r15) (.cond (.t 62) (.dregt r16 r17) (.seq (.reg r18) (.cond (.t 72) (.dany r19) (.seq (.reg r20) (.cond (.t 91) (.dregt r21 r22) (.seq (.reg r23) (.cond (.t 111) (.dregt r24 r25) (.seq (.reg r26) (.cond (.t 133) (.dany r27) (.seq (.reg r28) (.cond (.t 160) (.dany r29) (.seq (.reg r30) (.cond (.t 181) (.seq (.reg r31) (.cond (.t 190) (.reg r32) .skip)) (.seq (.reg r33) (.cond (.t 193) (.seq (.reg r34) (.reg r35)) (.seq (.reg r36) (.cond (.t 201) (.reg r37) (.seq (.reg r38) (.cond (.t 206) (.dregt r39 r40) (.seq (.reg r41) (.cond (.t 217) (.dany r42) (.seq (.reg r43) (.cond (.t 227) (.reg r44) (.seq (.reg r45) (.cond (.t 234) (.seq (.seq (.reg r46) (.cond (.t 243) (.seq (.reg r47) .ret) .skip)) (.dany r48)) .skip)))))))))))))))))))))))))))))))))) (.seq (.reg r49) (.seq (.reg r50) .ret))))
def c52:IC:=.seq c2 c51
abbrev code:IC:=.seq (.reg r0) (.seq (.dany r1) c52)
abbrev res:List RV:=[.tmp 2]
theorem fn:Body Tryz.prog 87 268 code res:=⟨by decide,Tryz.f87,_,Tryz.func87,rfl,rfl,by kernel_rfl,by kernel_rfl⟩
end Zk
namespace Ki
abbrev r0:List In:=[i1 1 (.box 50 (.t 0)),
i1 2 (.mv (kI 0))]
abbrev r1:List In:=[i1 7 (.faddr 13 (.t 1)),
i1 8 (.load 1 false (.t 7)),
i1 9 (.len (.t 8)),
i1 10 (.bin .gtr (.t 9) (kI 65536))]
abbrev r2:List In:=[i1 2 (.mv (kI 4))]
abbrev r3:DT:=(tk 11 (.faddr 0 (.t 1)) true
 (tk 13 (.faddr 12 (.t 1)) true
 (tk 14 (.load 1 false (.t 13)) true
 (tk 18 (.mv (kI 0)) true
 (al 12 (.slA 8 (.t 11)) true
 (al 15 (.bsl 3 1 1 [.int .i64 0] [(0,1,(.t 14))]) true
 (al 16 (.app 42 3 1 8 (.t 12) (.t 15)) true
 (al 17 (.len (.t 16)) true
 .done
 .stop)
 .stop)
 .stop)
 (al 15 (.bsl 3 1 1 [.int .i64 0] [(0,1,(.t 14))]) true
 (al 12 (.slA 8 (.t 11)) true
 (al 16 (.app 42 3 1 8 (.t 12) (.t 15)) true
 (al 17 (.len (.t 16)) true
 .done
 .stop)
 .stop)
 .stop)
 .stop))))))
abbrev r4:List In:=[i1 19 (.bin .lss (.t 18) (.t 17))]
abbrev r5:List In:=[i1 20 (.iaddr 1 (.t 16) (.t 18)),
i1 21 (.load 1 false (.t 20)),
mv 4 21]
abbrev r6:List In:=[mv 22 4,
i1 23 (.bin .lss (.t 22) (kI 0)),
mv 24 23,
i2 24 false 25 (.mv (.t 4)),
i2 24 false 26 (.bin .gtr (.t 25) (kI 65535)),
i1 27 (.pick (.t 24) (kB true) (.t 26))]
abbrev r7:List In:=[i1 2 (.mv (kI 3))]
abbrev r8:List In:=[i1 28 (.bin .add (.t 18) (kI 1)),
mv 18 28]
abbrev r9:List In:=[i1 29 (.faddr 13 (.t 1)),
i1 30 (.load 1 false (.t 29)),
i1 31 (.len (.t 30)),
i1 32 (.mv (kI 0))]
abbrev r10:List In:=[i1 33 (.bin .lss (.t 32) (.t 31))]
abbrev r11:List In:=[i1 34 (.iaddr 1 (.t 30) (.t 32)),
i1 35 (.load 1 false (.t 34)),
mv 6 35]
abbrev r12:List In:=[mv 36 6,
i1 37 (.bin .lss (.t 36) (kI 0)),
mv 38 37,
i2 38 false 39 (.mv (.t 6)),
i2 38 false 40 (.bin .gtr (.t 39) (kI 65535)),
i1 41 (.pick (.t 38) (kB true) (.t 40))]
abbrev r13:List In:=[i1 2 (.mv (kI 3))]
abbrev r14:List In:=[i1 42 (.bin .add (.t 32) (kI 1)),
mv 32 42]
abbrev r15:List In:=[i1 2 (.mv (kI 0))]
abbrev code:IC:=.seq (.reg r0) (.seq (.seq (.reg r1) (.cond (.t 10) (.seq (.reg r2) .ret) .skip)) (.seq (.seq (.dany r3) (.block 0 (.loop (.seq (.reg r4) (.seq (.cond (.t 19) .skip (.exit 0)) (.seq (.block 1 (.seq (.reg r5) (.seq (.reg r6) (.cond (.t 27) (.seq (.reg r7) .ret) .skip)))) (.reg r8))))))) (.seq (.seq (.reg r9) (.block 2 (.loop (.seq (.reg r10) (.seq (.cond (.t 33) .skip (.exit 2)) (.seq (.block 3 (.seq (.reg r11) (.seq (.reg r12) (.cond (.t 41) (.seq (.reg r13) .ret) .skip)))) (.reg r14))))))) (.seq (.reg r15) .ret))))
abbrev res:List RV:=[.tmp 2]
theorem fn:Body Tryz.prog 117 43 code res:=⟨by decide,Tryz.f117,_,Tryz.func117,rfl,rfl,by kernel_rfl,by kernel_rfl⟩
end Ki
namespace Jl
abbrev r0:List In:=[i1 5 (.box 50 (.t 1)),
i1 8 (.mv (kI 0))]
abbrev r1:List In:=[mv 10 0,
i1 11 (.len (.t 10)),
i1 12 (.bin .gtr (.t 11) (kI 65536)),
mv 13 12,
i2 13 false 14 (.mv (.t 2)),
i2 13 false 15 (.len (.t 14)),
i2 13 false 16 (.bin .gtr (.t 15) (kI 65536)),
i1 17 (.pick (.t 13) (kB true) (.t 16))]
abbrev r2:List In:=[i1 8 (.mv (kI 4))]
abbrev r3:List In:=[i1 18 (.load 14 true (.t 5)),
i1 19 (.call 117 [.t 18]),
mv 9 19]
abbrev r4:List In:=[mv 20 9,
i1 21 (.bin .neq (.t 20) (kI 0))]
abbrev r5:List In:=[mv 22 9,
mv 8 22]
abbrev r6:List In:=[mv 23 3,
i1 24 (.bin .lss (.t 23) (kI 0)),
mv 25 24,
i2 25 false 26 (.mv (.t 3)),
i2 25 false 27 (.bin .gtr (.t 26) (kI 1000000)),
i1 28 (.pick (.t 25) (kB true) (.t 27))]
abbrev r7:List In:=[i1 8 (.mv (kI 3))]
abbrev r8:List In:=[i1 8 (.mv (kI 0))]
abbrev code:IC:=.seq (.reg r0) (.seq (.seq (.reg r1) (.cond (.t 17) (.seq (.reg r2) .ret) .skip)) (.seq (.seq (.reg r3) (.seq (.reg r4) (.cond (.t 21) (.seq (.reg r5) .ret) .skip))) (.seq (.seq (.reg r6) (.cond (.t 28) (.seq (.reg r7) .ret) .skip)) (.seq (.reg r8) .ret))))
abbrev res:List RV:=[.tmp 8]
theorem fn:Body Tryz.prog 85 29 code res:=⟨by decide,Tryz.f85,_,Tryz.func85,rfl,rfl,by kernel_rfl,by kernel_rfl⟩
end Jl
namespace Kh
abbrev r0:List In:=[i1 7 (.box 50 (.t 1)),
i1 12 (.alloc 52 [.int .i64 0,.int .i64 0,.raw (.slice none 0 0),.int .i64 0,.int .i64 0,.int .i64 0,.int .i64 0,.int .i64 0,.int .i64 0,.int .i64 0,.int .i64 0,.int .i64 0,.int .i64 0,.bool false,.bool false,.bool false,.bool false,.int .i64 0,.raw (.slice none 0 0)]),
i1 13 (.mv (kI 0))]
abbrev r1:List In:=[mv 18 0,
i1 19 (.load 14 true (.t 7)),
mv 20 2,
mv 21 3,
i1 22 (.call 85 [.t 18,.t 19,.t 20,.t 21]),
mv 14 22]
abbrev r2:List In:=[mv 23 14,
i1 24 (.bin .neq (.t 23) (kI 0))]
abbrev r3:List In:=[i1 25 (.build [.int .i64 0,.int .i64 0,.raw (.slice none 0 0),.int .i64 0,.int .i64 0,.int .i64 0,.int .i64 0,.int .i64 0,.int .i64 0,.int .i64 0,.int .i64 0,.int .i64 0,.int .i64 0,.bool false,.bool false,.bool false,.bool false,.int .i64 0,.raw (.slice none 0 0)] []),
mv 26 14,
i0 (.store 19 (.t 12) (.t 25)),
mv 13 26]
abbrev r4:List In:=[i1 27 (.load 14 true (.t 7)),
mv 28 0,
mv 29 2,
i1 30 (.build [.int .i64 0,.int .i64 0,.int .i64 0,.int .i64 0,.int .i64 0,.int .i64 0,.int .i64 0,.int .i64 0,.bool false,.bool false,.bool false,.bool false,.int .i64 0,.raw (.slice none 0 0),.raw (.slice none 0 0),.raw (.slice none 0 0),.int .i64 0,.int .i64 0,.raw (.slice none 0 0),.int .i64 0,.int .i64 0,.int .i64 0,.int .i64 0,.int .i64 0,.int .i64 0,.int .i64 0,.int .i64 0,.int .i64 0,.int .i64 0,.bool false,.bool false,.bool false,.bool false,.int .i64 0,.raw (.slice none 0 0)] [(0,14,(.t 27)),(14,1,(.t 28)),(15,1,(.t 29))]),
i1 31 (.box 151 (.t 30)),
mv 15 31]
abbrev r5:DT:=(tm 32 15 true
 (tk 33 (.faddr 13 (.t 7)) true
 (tk 34 (.load 1 false (.t 33)) true
 (tk 36 (.faddr 13 (.t 7)) true
 (tk 37 (.load 1 false (.t 36)) true
 (al 35 (.call 86 [.t 34]) true
 (al 38 (.len (.t 37)) true
 (tk 39 (.bin .sub (kI 65536) (.t 38)) true
 (al 40 (.app0 (.t 35) (.t 39)) true
 (tk 41 (.nchk (.t 32)) true
 (tk 42 (.faddr 0 (.t 41)) true
 (tk 43 (.faddr 13 (.t 42)) true
 (.alt (i0 (.store 1 (.t 43) (.t 40))) false
 .done
 .stop))))
 .stop))
 .stop)
 (al 38 (.len (.t 37)) true
 (tk 39 (.bin .sub (kI 65536) (.t 38)) true
 (al 35 (.call 86 [.t 34]) true
 (al 40 (.app0 (.t 35) (.t 39)) true
 (tk 41 (.nchk (.t 32)) true
 (tk 42 (.faddr 0 (.t 41)) true
 (tk 43 (.faddr 13 (.t 42)) true
 (.alt (i0 (.store 1 (.t 43) (.t 40))) false
 .done
 .stop))))
 .stop)
 .stop))
 .stop)))))))
abbrev r6:List In:=[mv 44 15,
i1 45 (.nchk (.t 44)),
i1 46 (.faddr 16 (.t 45)),
i1 47 (.faddr 0 (.t 46)),
i1 48 (.load 1 false (.t 47)),
i1 49 (.bin .eql (.t 48) (kI 0))]
abbrev r7:List In:=[mv 50 4,
i1 51 (.fnil true (.t 50) (.k (.a (.raw .nilFunc)))),
mv 52 51,
i2 52 true 53 (.mv (.t 4)),
i2 52 true 54 (.mv (.t 15)),
i2 52 true 55 (.nchk (.t 54)),
i2 52 true 56 (.faddr 0 (.t 55)),
i2 52 true 57 (.faddr 12 (.t 56)),
i2 52 true 58 (.load 1 false (.t 57)),
i2 52 true 59 (.callv (.t 53) [.t 58]),
i1 60 (.pick (.t 52) (.t 59) (kB false))]
abbrev r8:List In:=[mv 61 15,
i1 62 (.nchk (.t 61)),
i1 63 (.faddr 16 (.t 62)),
i1 64 (.faddr 0 (.t 63)),
i0 (.store 1 (.t 64) (kI 6))]
abbrev r9:List In:=[mv 65 15,
i1 66 (.nchk (.t 65)),
i1 67 (.faddr 16 (.t 66)),
i1 68 (.faddr 4 (.t 67)),
i1 69 (.load 1 false (.t 68)),
mv 70 3,
i1 71 (.bin .eql (.t 69) (.t 70))]
abbrev r10:List In:=[mv 72 15,
i1 73 (.nchk (.t 72)),
i1 74 (.faddr 16 (.t 73)),
i1 75 (.faddr 0 (.t 74)),
i0 (.store 1 (.t 75) (kI 3))]
abbrev r11:List In:=[mv 76 15,
i1 77 (.nchk (.t 76)),
i1 78 (.faddr 16 (.t 77)),
i1 79 (.faddr 4 (.t 78)),
i1 80 (.load 1 false (.t 79)),
i1 81 (.bin .add (.t 80) (kI 1)),
i1 82 (.nchk (.t 76)),
i1 83 (.faddr 16 (.t 82)),
i1 84 (.faddr 4 (.t 83)),
i0 (.store 1 (.t 84) (.t 81))]
abbrev r12:List In:=[mv 85 15,
i1 86 (.nchk (.t 85)),
i1 87 (.faddr 0 (.t 86)),
i1 88 (.faddr 12 (.t 87)),
i1 89 (.load 1 false (.t 88)),
mv 16 89]
abbrev r13:List In:=[mv 90 15,
mv 91 15,
i1 92 (.call 87 [.t 91]),
i1 93 (.nchk (.t 90)),
i1 94 (.faddr 16 (.t 93)),
i1 95 (.faddr 0 (.t 94)),
i0 (.store 1 (.t 95) (.t 92))]
abbrev r14:List In:=[mv 96 5,
i1 97 (.fnil true (.t 96) (.k (.a (.raw .nilFunc))))]
abbrev r15:List In:=[mv 98 5,
mv 99 16,
mv 100 15,
i1 101 (.nchk (.t 100)),
i1 102 (.faddr 0 (.t 101)),
i1 103 (.callv (.t 98) [.t 99,.t 102])]
abbrev r16:List In:=[mv 104 15,
i1 105 (.nchk (.t 104)),
i1 106 (.faddr 0 (.t 105)),
i1 107 (.faddr 13 (.t 106)),
i1 108 (.load 1 false (.t 107)),
i1 109 (.len (.t 108)),
mv 17 109]
abbrev r17:List In:=[mv 110 17,
i1 111 (.bin .gtr (.t 110) (kI 0)),
mv 112 111,
i2 112 true 113 (.mv (.t 15)),
i2 112 true 114 (.nchk (.t 113)),
i2 112 true 115 (.faddr 0 (.t 114)),
i2 112 true 116 (.faddr 13 (.t 115)),
i2 112 true 117 (.load 1 false (.t 116)),
i2 112 true 118 (.mv (.t 17)),
i2 112 true 119 (.bin .sub (.t 118) (kI 1)),
i2 112 true 120 (.iaddr 1 (.t 117) (.t 119)),
i2 112 true 121 (.load 1 false (.t 120)),
i2 112 true 122 (.bin .eql (.t 121) (kI 0)),
i1 123 (.pick (.t 112) (.t 122) (kB false))]
abbrev r18:List In:=[mv 124 17,
i1 125 (.bin .sub (.t 124) (kI 1)),
mv 17 125]
abbrev r19:List In:=[mv 126 15,
mv 127 15,
i1 128 (.nchk (.t 127)),
i1 129 (.faddr 0 (.t 128)),
i1 130 (.faddr 13 (.t 129)),
i1 131 (.load 1 false (.t 130)),
mv 132 17,
i1 133 (.sl 1 (.t 131) none (some (.t 132))),
i1 134 (.call 86 [.t 133]),
i1 135 (.nchk (.t 126)),
i1 136 (.faddr 0 (.t 135)),
i1 137 (.faddr 13 (.t 136)),
i0 (.store 1 (.t 137) (.t 134))]
abbrev r20:List In:=[mv 138 15,
mv 139 15,
i1 140 (.nchk (.t 139)),
i1 141 (.faddr 0 (.t 140)),
i1 142 (.load 14 true (.t 141)),
i1 143 (.nchk (.t 138)),
i1 144 (.faddr 16 (.t 143)),
i1 145 (.faddr 5 (.t 144)),
i0 (.store 14 (.t 145) (.t 142))]
abbrev r21:List In:=[mv 146 15,
i1 147 (.nchk (.t 146)),
i1 148 (.faddr 16 (.t 147)),
i1 149 (.load 19 true (.t 148)),
i0 (.store 19 (.t 12) (.t 149)),
i1 13 (.mv (kI 0))]
abbrev code:IC:=.seq (.reg r0) (.seq (.seq (.reg r1) (.seq (.reg r2) (.cond (.t 24) (.seq (.reg r3) .ret) .skip))) (.seq (.reg r4) (.seq (.dany r5) (.seq (.block 0 (.loop (.seq (.seq (.reg r6) (.cond (.t 49) .skip (.exit 0))) (.block 1 (.seq (.seq (.reg r7) (.cond (.t 60) (.seq (.reg r8) (.exit 0)) .skip)) (.seq (.seq (.reg r9) (.cond (.t 71) (.seq (.reg r10) (.exit 0)) .skip)) (.seq (.reg r11) (.seq (.reg r12) (.seq (.reg r13) (.seq (.reg r14) (.cond (.t 97) (.reg r15) .skip))))))))))) (.seq (.reg r16) (.seq (.block 2 (.loop (.seq (.seq (.reg r17) (.cond (.t 123) .skip (.exit 2))) (.block 3 (.reg r18))))) (.seq (.reg r19) (.seq (.reg r20) (.seq (.reg r21) .ret)))))))))
abbrev res:List RV:=[.cell 12 19 true,.tmp 13]
theorem fn:Body Tryz.prog 72 150 code res:=⟨by decide,Tryz.f72,_,Tryz.func72,rfl,rfl,by kernel_rfl,by kernel_rfl⟩
end Kh
namespace H0
abbrev r0:List In:=[i1 5 (.box 50 (.t 1)),
i1 8 (.alloc 52 [.int .i64 0,.int .i64 0,.raw (.slice none 0 0),.int .i64 0,.int .i64 0,.int .i64 0,.int .i64 0,.int .i64 0,.int .i64 0,.int .i64 0,.int .i64 0,.int .i64 0,.int .i64 0,.bool false,.bool false,.bool false,.bool false,.int .i64 0,.raw (.slice none 0 0)]),
i1 9 (.mv (kI 0))]
abbrev r1:List In:=[mv 10 0,
i1 11 (.load 14 true (.t 5)),
mv 12 2,
mv 13 3,
i1 14 (.call 72 [.t 10,.t 11,.t 12,.t 13,(.k (.a (.raw .nilFunc))),(.k (.a (.raw .nilFunc)))]),
i1 15 (.ext 0 (.t 14)),
i1 16 (.ext 1 (.t 14)),
i0 (.store 19 (.t 8) (.t 15)),
mv 9 16]
abbrev code:IC:=.seq (.reg r0) (.seq (.reg r1) .ret)
abbrev res:List RV:=[.cell 8 19 true,.tmp 9]
theorem fn:Body Tryz.prog 44 17 code res:=⟨by decide,Tryz.f44,_,Tryz.func44,rfl,rfl,by kernel_rfl,by kernel_rfl⟩
end H0
namespace Ue
abbrev r0:List In:=[i1 2 (.mv (.k (.a (.raw (.slice none 0 0)))))]
abbrev r1:List In:=[mv 3 0,
i1 4 (.snil false (.t 3) (.k (.a (.raw (.slice none 0 0)))))]
abbrev r2:List In:=[i1 2 (.mv (.k (.a (.raw (.slice none 0 0)))))]
abbrev r3:List In:=[i1 5 (.bsl0 3 1),
mv 6 0,
i1 7 (.app 42 3 1 8 (.t 5) (.t 6)),
mv 2 7]
abbrev code:IC:=.seq (.reg r0) (.seq (.seq (.reg r1) (.cond (.t 4) (.seq (.reg r2) .ret) .skip)) (.seq (.reg r3) .ret))
abbrev res:List RV:=[.tmp 2]
theorem fn:Body Tryz.prog 86 8 code res:=⟨by decide,Tryz.f86,_,Tryz.func86,rfl,rfl,by kernel_rfl,by kernel_rfl⟩
end Ue
end Go.Proofs.YtbmecnjmbhokgaaGreatDoor
namespace Go.Proofs.YtbmecnjmbhokgaaGreatDoor
open Go.RowKit Vc
set_option linter.unusedVariables false
set_option linter.unusedSimpArgs false
attribute [local irreducible] T Za Zn Ent RdC RwC Yj Zf Zi
def Qz(x:Ins):Int:=x.op*1024+(if R7 x.op then x.d*128 else 0)+(if R8 x.op then x.s*16 else 0)
def Kc(x:Ins):List Int:=Qz x::(if V7 x.op then[x.imm]else[])
def Zay:List Ins→Nat→List Int→List Int×Int×Int
 | [],_,acc=>(acc,0,0)
 |x::l,k,acc=>if Wv x=0 then(if 65536<(acc++Kc x).length then([],4,k)else Zay l (k+1) (acc++Kc x))else([],Wv x,k)
def D8(l:List Ins):List Int×Int×Int:=Zay l 0 []
theorem L5(n:Int)(k:Nat)(h0:0≤n)(h1:n≤1000000)(hk:k≤20):Po .i64 n k=n*2^k:=by
 unfold Po
 have e:min (k:Int).toNat IntKind.i64.bits=k:=by simp[IntKind.bits];omega
 rw[e]
 have hp:(2:Int)^k≤1048576:=by
  have:(2:Nat)^k≤2^20:=Nat.pow_le_pow_right (by decide) hk
  have h2:((2^k:Nat):Int)≤((2^20:Nat):Int):=by exact_mod_cast this
  simpa using h2
 have hp0:(0:Int)≤2^k:=Int.le_of_lt (Int.pow_pos (by decide))
 have hm:n*2^k≤1000000*1048576:=Int.mul_le_mul h1 hp hp0 (by decide)
 have hm0:0≤n*2^k:=Int.mul_nonneg h0 hp0
 exact Zm (by omega) (by omega)
theorem or_fin:∀(a:Fin 33) (b c:Fin 8),orI .i64 ((a.val:Int)*1024+(b.val:Int)*128) ((c.val:Int)*16)=(a.val:Int)*1024+(b.val:Int)*128+(c.val:Int)*16:=by decide+kernel
theorem or_fin2:∀(a:Fin 33) (b:Fin 8),orI .i64 ((a.val:Int)*1024) ((b.val:Int)*128)=(a.val:Int)*1024+(b.val:Int)*128:=by decide+kernel
theorem or3(a b c:Int)(h1:0≤a∧a≤32)(h2:0≤b∧b≤7)(h3:0≤c∧c≤7):orI .i64 (a*1024+b*128) (c*16)=a*1024+b*128+c*16:=by
 have:=or_fin ⟨a.toNat,by omega⟩ ⟨b.toNat,by omega⟩ ⟨c.toNat,by omega⟩
 simp only[Int.toNat_of_nonneg h1.1,Int.toNat_of_nonneg h2.1,Int.toNat_of_nonneg h3.1]at this
 exact this
theorem or2(a b:Int)(h1:0≤a∧a≤32)(h2:0≤b∧b≤7):orI .i64 (a*1024) (b*128)=a*1024+b*128:=by
 have:=or_fin2 ⟨a.toNat,by omega⟩ ⟨b.toNat,by omega⟩
 simp only[Int.toNat_of_nonneg h1.1,Int.toNat_of_nonneg h2.1]at this
 exact this
theorem M6(x:Ins)(h:Wv x=0):(0≤x.op∧x.op≤32)∧(R7 x.op=true→0≤x.d∧x.d≤7)∧(R8 x.op=true→0≤x.s∧x.s≤7)∧(V7 x.op=true→0≤x.imm∧x.imm≤65535):=by
 unfold Wv at h
 split at h
 ·omega
 ·rename_i hk
  split at h
  ·omega
  ·rename_i h2
   simp only[Bool.or_eq_true,Bool.and_eq_true,Bool.not_eq_true',not_or,not_and,Bool.not_eq_false,reg,Qd,decide_eq_true_eq]at h2
   simp only[U8,Bool.not_eq_false,decide_eq_true_eq]at hk
   exact⟨hk,h2.1,h2.2.1,h2.2.2⟩
theorem Zd4(n:Int)(h0:0≤n)(h1:n≤1000000):Po .i64 n 10=n*1024:=L5 n 10 h0 h1 (by decide)
theorem shl7(n:Int)(h0:0≤n)(h1:n≤1000000):Po .i64 n 7=n*128:=L5 n 7 h0 h1 (by decide)
theorem shl4(n:Int)(h0:0≤n)(h1:n≤1000000):Po .i64 n 4=n*16:=L5 n 4 h0 h1 (by decide)
theorem word_11{x:Ins}(h:Wv x=0)(hD:R7 x.op=true)(hS:R8 x.op=true):orI .i64 (orI .i64 (Po .i64 x.op 10) (Po .i64 x.d 7)) (Po .i64 x.s 4)=Qz x:=by
 obtain⟨h1,h2,h3,_⟩:=M6 x h
 have h2:=h2 hD
 have h3:=h3 hS
 rw[Zd4 _ h1.1 (by omega),shl7 _ h2.1 (by omega),shl4 _ h3.1 (by omega),or2 _ _ h1 h2,or3 _ _ _ h1 h2 h3]
 simp[Qz,hD,hS]
theorem word_10{x:Ins}(h:Wv x=0)(hD:R7 x.op=true)(hS:R8 x.op=false):orI .i64 (Po .i64 x.op 10) (Po .i64 x.d 7)=Qz x:=by
 obtain⟨h1,h2,h3,_⟩:=M6 x h
 have h2:=h2 hD
 rw[Zd4 _ h1.1 (by omega),shl7 _ h2.1 (by omega),or2 _ _ h1 h2]
 simp[Qz,hD,hS]
theorem word_01{x:Ins}(h:Wv x=0)(hD:R7 x.op=false)(hS:R8 x.op=true):orI .i64 (Po .i64 x.op 10) (Po .i64 x.s 4)=Qz x:=by
 obtain⟨h1,h2,h3,_⟩:=M6 x h
 have h3:=h3 hS
 have:=or3 x.op 0 x.s h1 (by omega) h3
 rw[Zd4 _ h1.1 (by omega),shl4 _ h3.1 (by omega)]
 simpa[Qz,hD,hS]using this
theorem word_00{x:Ins}(h:Wv x=0)(hD:R7 x.op=false)(hS:R8 x.op=false):Po .i64 x.op 10=Qz x:=by
 obtain⟨h1,h2,h3,_⟩:=M6 x h
 rw[Zd4 _ h1.1 (by omega)]
 simp[Qz,hD,hS]
theorem words_I{x:Ins}(h:V7 x.op=true):Kc x=[Qz x,x.imm]:=by simp[Kc,h]
theorem words_N{x:Ins}(h:V7 x.op=false):Kc x=[Qz x]:=by simp[Kc,h]
theorem Zaj(l:List Ins):RwC Tryz.prog 71 [.ro .ins l] 3 (.int .i64) (D8 l).1 [.agg [.int .i64 (D8 l).2.1,.int .i64 (D8 l).2.2]]:=by
 refine P1.fn.rw (by simp) (by simp[Zz]) (by simp[S1.bd,At.bd]) fun w=> ?_
 repeat'(first|(first|refine Stp.h ?_)<;>try simp only[Zd,simprocAttr,↓reduceIte,reduceCtorEq,implies_true]|(with_reducible first|assumption|refine And.intro ?_ ?_)|(intro h;first|omega|exact tg h ‹_›|exact tg ‹_› h|skip))
 refine T.weak (Ent.nilRow (t:=4) 3 (.int .i64) rfl) ?_
 simp only[Zd,simprocAttr,↓reduceIte,reduceCtorEq,implies_true]
 refine T.loop (ι:= {p:Nat×List Int//p.1≤l.length∧Zay (l.drop p.1) p.1 p.2=D8 l∧p.1≤p.2.length∧p.2.length≤65536})
  (fun x=>⟨[(4,.one (.a (.ref 2))),(12,.one (.a (.int .i64 (x.1.1:Int)))),(11,.one (.a (.int .i64 l.length))),(10,.one (.a (.ref 0))),(3,.one (.a (.loc 1 0)))],
    [(2,.row 3 (.int .i64) x.1.2),(1,.cells 80 [.int .i64 0,.int .i64 0]),(0,.ro .ins l)],3⟩)
  (fun x=>l.length-x.1.1) ⟨(0,[]),by simp,by simp[D8],by simp,by simp⟩ (Ent.mk1 (id) (by simp[Zy])) ?_
 rintro⟨⟨k,acc⟩,hk,hrun,hka,hacc⟩
 simp only at hk hrun hka hacc
 have hw:IntKind.i64.wrap ((k:Int)+1)=((k+1:Nat):Int):=Zx (by omega)
 by_cases hlt:k<l.length
 ·have hdrop:l.drop k=l.getD k ⟨0,0,0,0⟩::l.drop (k+1):=by
   rw[List.drop_eq_getElem_cons hlt];simp[List.getD,hlt]
  generalize hx:l.getD k ⟨0,0,0,0⟩=x at hdrop
  have hx':l.getD k (Kd.dflt .ins)=x:=hx
  rw[hdrop]at hrun
  simp only[Zay]at hrun
  repeat'(first|(first|refine Stp.h ?_|((with_reducible first|apply Za.rd (O4 _)|apply Zf.rd (O4 _));focus((repeat'(first|exact rfl|exact trivial|refine And.intro ?_ ?_|(simp[Zz];done)));done))|((with_reducible first|apply Za.rd (Vq _)|apply Zf.rd (Vq _));focus((repeat'(first|exact rfl|exact trivial|refine And.intro ?_ ?_|(simp[Zz];done)));done)))<;>try simp only[Zd,simprocAttr,↓reduceIte,reduceCtorEq,implies_true,hx',hw,Int.toNat_natCast,Int.ofNat_lt,List.length_append]|(with_reducible first|assumption|refine And.intro ?_ ?_)|(intro h;first|omega|exact tg h ‹_›|exact tg ‹_› h|skip))
  all_goals first|omega|skip
  all_goals try(first|rw[word_11 ‹_› ‹_› ‹_›]|rw[word_10 ‹_› ‹_› ‹_›]|rw[word_01 ‹_› ‹_› ‹_›]|rw[word_00 ‹_› ‹_› ‹_›])
  all_goals try(first|rw[words_I ‹_›]at hrun|rw[words_N ‹_›]at hrun)
  all_goals try simp only[List.length_append,List.length_cons,List.length_nil,Nat.zero_add]at hrun
  all_goals first
   |(rw[if_neg ‹¬Wv x=0›]at hrun;rw[←hrun];done)
   |(rw[if_pos ‹Wv x=0›,if_pos (by omega)]at hrun;rw[←hrun];done)
   |(rw[if_pos ‹Wv x=0›,if_neg (by omega)]at hrun
     first
      |exact⟨⟨(k+1,acc++[Qz x,x.imm]),hlt,hrun,by simp;omega,by simp;omega⟩,(Ent.mk1 (fun n=>if n=2 then 8 else n) (by simp[Zy])),by simp;omega⟩
      |exact⟨⟨(k+1,acc++[Qz x]),hlt,hrun,by simp;omega,by simp;omega⟩,(Ent.mk1 (fun n=>if n=2 then 6 else n) (by simp[Zy])),by simp;omega⟩)
 ·have hk2:k=l.length:=by omega
  subst hk2
  rw[List.drop_length]at hrun
  simp only[Zay]at hrun
  repeat'(first|(first|refine Stp.h ?_)<;>try simp only[Zd,simprocAttr,↓reduceIte,reduceCtorEq,implies_true,hw,Int.toNat_natCast,Int.ofNat_lt]|(with_reducible first|assumption|refine And.intro ?_ ?_)|(intro h;first|omega|exact tg h ‹_›|exact tg ‹_› h|skip))
  all_goals first|omega|(rw[←hrun];done)
theorem Jy(x:Int)(m k:Nat)(h0:0≤x)(h1:x<9223372036854775808)(hm:m+1=2^k)(hk:k≤62):Mn .i64 x (m:Int)=x%((m+1:Nat):Int):=by
 obtain⟨n,rfl⟩:=Int.eq_ofNat_of_zero_le h0
 have hm62:m+1≤4611686018427387904:=by
  rw[hm]
  have:(2:Nat)^k≤2^62:=Nat.pow_le_pow_right (by decide) hk
  exact this
 have hm':m=2^k-1:=by omega
 unfold Mn
 have e1:BitVec.ofInt IntKind.i64.bits (n:Int)=BitVec.ofNat 64 n:=BitVec.ofInt_natCast 64 n
 have e2:BitVec.ofInt IntKind.i64.bits (m:Int)=BitVec.ofNat 64 m:=BitVec.ofInt_natCast 64 m
 have e3:(BitVec.ofNat 64 n&&& BitVec.ofNat 64 m).toNat=n%(m+1):=by
  rw[BitVec.toNat_and,BitVec.toNat_ofNat,BitVec.toNat_ofNat,Nat.mod_eq_of_lt (by omega),Nat.mod_eq_of_lt (by omega),hm,hm',Nat.and_two_pow_sub_one_eq_mod]
 have e4:(BitVec.ofInt IntKind.i64.bits (n:Int)&&& BitVec.ofInt IntKind.i64.bits (m:Int)).toNat=n%(m+1):=by
  rw[e1,e2];exact e3
 rw[e4]
 have hlt:=Nat.mod_lt n (show 0<m+1 by omega)
 rw[Zm (by omega) (by omega)]
 omega
theorem and7(x:Int)(h0:0≤x)(h1:x<9223372036854775808):Mn .i64 x 7=x%8:=Jy x 7 3 h0 h1 (by decide) (by decide)
theorem and15(x:Int)(h0:0≤x)(h1:x<9223372036854775808):Mn .i64 x 15=x%16:=Jy x 15 4 h0 h1 (by decide) (by decide)
theorem shr10(x:Int):Hz .i64 x 10=x/1024:=rfl
theorem shr7(x:Int):Hz .i64 x 7=x/128:=rfl
theorem shr4(x:Int):Hz .i64 x 4=x/16:=rfl
def insOf(w imm:Int):Ins:=⟨w/1024,w/128%8,w/16%8,imm⟩
def okW(w:Int):Bool:=Qd w&&U8 (w/1024)&&decide (w%16=0)&&(R7 (w/1024)||decide (w/128%8=0))&&(R8 (w/1024)||decide (w/16%8=0))
def Y4(ws:List Int)(p:Int):Ins×Int:=
 if p<0∨(ws.length:Int)≤p then(Vt,0)else
 if okW (ws.getD p.toNat 0)=false then(Vt,0)else
 if V7 (ws.getD p.toNat 0/1024)=false then(insOf (ws.getD p.toNat 0) 0,1)else
 if p+1<(ws.length:Int)∧Qd (ws.getD (p+1).toNat 0)=true then(insOf (ws.getD p.toNat 0) (ws.getD (p+1).toNat 0),2)else(Vt,0)
theorem Zad{x:Int}(h:Qd x=true):0≤x∧x≤65535:=by simpa[Qd]using h
set_option maxHeartbeats 1000000 in
theorem One_any(ws:List Int)(p:Int)(hlen:ws.length≤9223372036854775807):RdC Tryz.prog 118 [.ro (.int .i64) ws,.v (.a (.int .i64 p))] (.tup [.agg (Y4 ws p).1.cells,.a (.int .i64 (Y4 ws p).2)]):=by
 refine Kj.fn.rd (by simp) (by simp[Zz]) (by simp[Zz]) fun w=> ?_
 by_cases hin:p<0∨(ws.length:Int)≤p
 ·have e:Y4 ws p=(Vt,0):=if_pos hin
  repeat'(first|(first|refine Stp.h ?_|((with_reducible first|apply Za.rd (Vd _)|apply Zf.rd (Vd _));focus((repeat'(first|exact rfl|exact trivial|refine And.intro ?_ ?_|(simp[Zz];done)));done))|((with_reducible first|apply Za.rd (Vq _)|apply Zf.rd (Vq _));focus((repeat'(first|exact rfl|exact trivial|refine And.intro ?_ ?_|(simp[Zz];done)));done)))<;>try simp only[Zd,simprocAttr,↓reduceIte,reduceCtorEq,implies_true,hin,e,Vt]|(with_reducible first|assumption|refine And.intro ?_ ?_)|(intro h;first|omega|exact tg h ‹_›|exact tg ‹_› h|skip))
  all_goals omega
 ·have hin2:0≤p∧p<ws.length:=by omega
  have hw:IntKind.i64.wrap (p+1)=p+1:=Zm (by omega) (by omega)
  have d0:(Kd.int .i64).dflt=(0:Int):=rfl
  unfold Y4
  rw[if_neg hin]
  generalize hx:ws.getD p.toNat 0=x
  have hx':ws.getD p.toNat (Kd.int .i64).dflt=x:=hx
  generalize hy:ws.getD (p+1).toNat 0=y
  have hy':ws.getD (p+1).toNat (Kd.int .i64).dflt=y:=hy
  cases hwx:Qd x with
  |false=>
   have hok:okW x=false:=by simp[okW,hwx]
   repeat'(first|(first|refine Stp.h ?_|((with_reducible first|apply Za.rd (Vd _)|apply Zf.rd (Vd _));focus((repeat'(first|exact rfl|exact trivial|refine And.intro ?_ ?_|(simp[Zz];done)));done))|((with_reducible first|apply Za.rd (Vq _)|apply Zf.rd (Vq _));focus((repeat'(first|exact rfl|exact trivial|refine And.intro ?_ ?_|(simp[Zz];done)));done)))<;>try simp only[Zd,simprocAttr,↓reduceIte,reduceCtorEq,implies_true,hin,hx',hwx,hok,Vt]|(with_reducible first|assumption|refine And.intro ?_ ?_)|(intro h;first|omega|exact tg h ‹_›|exact tg ‹_› h|skip))
   all_goals omega
  |true=>
   have hb:=Zad hwx
   have a15:=and15 x hb.1 (by omega)
   have a7:=and7 (x/128) (by omega) (by omega)
   have a7':=and7 (x/16) (by omega) (by omega)
   repeat'(first|(first|refine Stp.h ?_|((with_reducible first|apply Za.rd (Vd _)|apply Zf.rd (Vd _));focus((repeat'(first|exact rfl|exact trivial|refine And.intro ?_ ?_|(simp[Zz];done)));done))|((with_reducible first|apply Za.rd (Vq _)|apply Zf.rd (Vq _));focus((repeat'(first|exact rfl|exact trivial|refine And.intro ?_ ?_|(simp[Zz];done)));done)))<;>try simp only[Zd,simprocAttr,↓reduceIte,reduceCtorEq,implies_true,hin,hx',hy',hwx,hw,shr10,shr7,shr4,a15,a7,a7']|(with_reducible first|assumption|refine And.intro ?_ ?_)|(intro h;first|omega|exact tg h ‹_›|exact tg ‹_› h|skip))
   all_goals first|omega|skip
   ·have hok:okW x=false:=by
     rcases h with((h|h)|h)|h<;>simp[okW,hwx,h]
    rw[if_pos hok];rfl
   ·have hok:¬okW x=false:=by
     rename_i h1
     obtain⟨⟨⟨h2,h3⟩,h4⟩,h5⟩:=h1
     cases hd:R7 (x/1024)<;>cases hs:R8 (x/1024)<;>simp_all[okW]
    rw[if_neg hok,if_pos h];rfl
   ·have hok:¬okW x=false:=by
     rename_i h1 h0
     obtain⟨⟨⟨h2,h3⟩,h4⟩,h5⟩:=h1
     cases hd:R7 (x/1024)<;>cases hs:R8 (x/1024)<;>simp_all[okW]
    have hni:¬V7 (x/1024)=false:=by simp_all
    have hno:¬(p+1<(ws.length:Int)∧Qd y=true):=by
     rintro⟨g1,g2⟩
     rcases h with h|h
     ·omega
     ·simp[g2]at h
    rw[if_neg hok,if_neg hni,if_neg hno];rfl
   ·have hok:¬okW x=false:=by
     rename_i h1 h0
     obtain⟨⟨⟨h2,h3⟩,h4⟩,h5⟩:=h1
     cases hd:R7 (x/1024)<;>cases hs:R8 (x/1024)<;>simp_all[okW]
    have hni:¬V7 (x/1024)=false:=by simp_all
    have hyes:p+1<(ws.length:Int)∧Qd y=true:=⟨by omega,h.2⟩
    rw[if_neg hok,if_neg hni,if_pos hyes];rfl
   all_goals omega
end Go.Proofs.YtbmecnjmbhokgaaGreatDoor
namespace Go.Proofs.YtbmecnjmbhokgaaGreatDoor
open Go Go.RowKit Vc
set_option linter.unusedVariables false
set_option linter.unusedSimpArgs false
attribute [local irreducible] T Za Zn Ent RdC RwC Yj Zf Zi
theorem Y3(x:Int):BitVec.ofInt 64 x=BitVec.ofNat 64 (x%18446744073709551616).toNat:=by
 apply BitVec.eq_of_toNat_eq
 rw[BitVec.toNat_ofInt,BitVec.toNat_ofNat]
 have:((2^64:Nat):Int)=18446744073709551616:=by decide
 rw[this]
 have h1:=Int.emod_nonneg x (show(18446744073709551616:Int)≠0 by decide)
 have h2:=Int.emod_lt_of_pos x (show(0:Int)<18446744073709551616 by decide)
 rw[Nat.mod_eq_of_lt (by omega)]
theorem Wo(x:Int):Mn .i64 x 65535=x%65536:=by
 have h1:=Int.emod_nonneg x (show(18446744073709551616:Int)≠0 by decide)
 have h2:=Int.emod_lt_of_pos x (show(0:Int)<18446744073709551616 by decide)
 have h3:=Int.emod_nonneg x (show(65536:Int)≠0 by decide)
 have h4:=Int.emod_lt_of_pos x (show(0:Int)<65536 by decide)
 show IntKind.i64.wrap ((BitVec.ofInt 64 x&&& BitVec.ofInt 64 65535).toNat:Nat)=_
 rw[Y3 x,Y3 65535]
 have e:(BitVec.ofNat 64 (x%18446744073709551616).toNat&&& BitVec.ofNat 64 ((65535:Int)%18446744073709551616).toNat).toNat=(x%65536).toNat:=by
  rw[BitVec.toNat_and,BitVec.toNat_ofNat,BitVec.toNat_ofNat,Nat.mod_eq_of_lt (by omega)]
  have e2:((65535:Int)%18446744073709551616).toNat%2^64=2^16-1:=by decide
  rw[e2,Nat.and_two_pow_sub_one_eq_mod]
  omega
 rw[e]
 exact Zm (by omega) (by omega) |>.trans (by omega)
theorem xor_m1(x:Int)(h1: -9223372036854775808≤x)(h2:x≤9223372036854775807):Mh .i64 (-1) x= -x-1:=by
 have h3:=Int.emod_nonneg x (show(18446744073709551616:Int)≠0 by decide)
 have h4:=Int.emod_lt_of_pos x (show(0:Int)<18446744073709551616 by decide)
 show IntKind.i64.wrap ((BitVec.ofInt 64 (-1)^^^BitVec.ofInt 64 x).toNat:Nat)=_
 rw[Y3 x,Y3 (-1)]
 have e0:BitVec.ofNat 64 ((-1:Int)%18446744073709551616).toNat=BitVec.allOnes 64:=by decide
 rw[e0,BitVec.allOnes_xor,BitVec.toNat_not,BitVec.toNat_ofNat,Nat.mod_eq_of_lt (by omega)]
 show IntKind.i64.wrap (((18446744073709551616-1-(x%18446744073709551616).toNat:Nat)):Int)=_
 rcases Int.lt_or_le x 0 with h|h
 ·have e:(x%18446744073709551616)=x+18446744073709551616:=by omega
  rw[e]
  exact Zm (by omega) (by omega) |>.trans (by omega)
 ·have e:(x%18446744073709551616)=x:=by omega
  rw[e]
  rw[IntKind.wrap_i64];omega
def cI(b:Bool):Int:=if b then 1 else 0
def Tz(a b:Int)(ci:Bool):Int:=(a+b+cI ci)%65536
def Zcm(a b r:Int):Bool:= !decide (Mn .i64 (Mn .i64 (Mh .i64 a r) (Mh .i64 b r)) 32768=0)
theorem Zh3(a b:Int)(ci:Bool):0≤Tz a b ci∧Tz a b ci≤65535:=by
 unfold Tz
 have h1:=Int.emod_nonneg (a+b+cI ci) (show(65536:Int)≠0 by decide)
 have h2:=Int.emod_lt_of_pos (a+b+cI ci) (show(0:Int)<65536 by decide)
 omega
def Zh2(a b:Int)(ci:Bool):List At:=[.bool (decide (65535<a+b+cI ci)),.bool (decide (Tz a b ci=0)),.bool (decide (32767<Tz a b ci)),.bool (Zcm a b (Tz a b ci))]
theorem Zcv(a b:Int)(ci:Bool):RdC Tryz.prog 163 [.v (.a (.int .i64 a)),.v (.a (.int .i64 b)),.v (.a (.bool ci))] (.tup [.a (.int .i64 (Tz (a%65536) (b%65536) ci)),.agg (Zh2 (a%65536) (b%65536) ci)]):=by
 refine Jq.fn.rd (by simp) (by simp[Zz]) (by simp[SV.bd,Vc.S1.bd,At.bd,Zh2]) fun w=> ?_
 have ha:=Int.emod_nonneg a (show(65536:Int)≠0 by decide)
 have ha2:=Int.emod_lt_of_pos a (show(0:Int)<65536 by decide)
 have hb:=Int.emod_nonneg b (show(65536:Int)≠0 by decide)
 have hb2:=Int.emod_lt_of_pos b (show(0:Int)<65536 by decide)
 have e1:=Wo a
 have e2:=Wo b
 generalize a%65536=x at*
 generalize b%65536=y at*
 have w1:IntKind.i64.wrap (x+y)=x+y:=Zm (by omega) (by omega)
 cases ci
 ·have w2:IntKind.i64.wrap (x+y+0)=x+y+cI false:=Zm (by omega) (by omega)
  have e3:=Wo (x+y+cI false)
  have e4:(x+y+cI false)%65536=Tz x y false:=rfl
  rw[e4]at e3
  repeat'(first|(first|refine Stp.h ?_)<;>try simp only[Zd,simprocAttr,↓reduceIte,reduceCtorEq,implies_true,e1,e2,w1,w2,e3,Zh2,Zcm]|(with_reducible first|assumption|refine And.intro ?_ ?_)|(intro h;first|omega|exact tg h ‹_›|exact tg ‹_› h|skip))
 ·have w2:IntKind.i64.wrap (x+y+1)=x+y+cI true:=Zm (by omega) (by omega)
  have e3:=Wo (x+y+cI true)
  have e4:(x+y+cI true)%65536=Tz x y true:=rfl
  rw[e4]at e3
  repeat'(first|(first|refine Stp.h ?_)<;>try simp only[Zd,simprocAttr,↓reduceIte,reduceCtorEq,implies_true,e1,e2,w1,w2,e3,Zh2,Zcm]|(with_reducible first|assumption|refine And.intro ?_ ?_)|(intro h;first|omega|exact tg h ‹_›|exact tg ‹_› h|skip))
def T8(a b:Int)(bi:Bool):Int:=Tz a (65535-b) (!bi)
def difF(a b:Int)(bi:Bool):List At:=[.bool (!decide (65535<a+(65535-b)+cI (!bi))),.bool (decide (T8 a b bi=0)),.bool (decide (32767<T8 a b bi)),.bool (Zcm a (65535-b) (T8 a b bi))]
theorem Jj(a b:Int)(bi:Bool)(ha:0≤a∧a≤65535)(hb:0≤b∧b≤65535):RdC Tryz.prog 164 [.v (.a (.int .i64 a)),.v (.a (.int .i64 b)),.v (.a (.bool bi))] (.tup [.a (.int .i64 (T8 a b bi)),.agg (difF a b bi)]):=by
 refine Rs.fn.rd (by simp) (by simp[Zz]) (by simp[SV.bd,Vc.S1.bd,At.bd,difF]) fun w=> ?_
 have hx:Mh .i64 (-1) b= -b-1:=xor_m1 b (by omega) (by omega)
 have hsg:(if IntKind.i64.signed=true then(-1:Int)else IntKind.i64.max)= -1:=rfl
 have hS:=Zcv a (-b-1) (!bi)
 have e1:a%65536=a:=by omega
 have e2:(-b-1)%65536=65535-b:=by omega
 rw[e1,e2]at hS
 have e3:Tz a (65535-b) (!bi)=T8 a b bi:=rfl
 have e4:Zh2 a (65535-b) (!bi)=[.bool (decide (65535<a+(65535-b)+cI (!bi))),.bool (decide (T8 a b bi=0)),.bool (decide (32767<T8 a b bi)),.bool (Zcm a (65535-b) (T8 a b bi))]:=rfl
 rw[e3,e4]at hS
 repeat'(first|(first|refine Stp.h ?_|(refine rq hS ?_ ?_;focus simp[Zz];done))<;>try simp only[Zd,simprocAttr,↓reduceIte,reduceCtorEq,implies_true,hx,hsg,difF]|(with_reducible first|assumption|refine And.intro ?_ ?_)|(intro h;first|omega|exact tg h ‹_›|exact tg ‹_› h|skip))
def mcs(f:Nat→Int)(t:List At):List At:=((List.range 8).map fun i=>At.int .i64 (f i))++t
def Qx(f:Nat→Int)(o:Nat)(x:Int):Nat→Int:=fun i=>if i=o then x else f i
theorem F8{f:Nat→Int}{t:List At}{o:Nat}(h:o<8):(mcs f t)[o]? =some (.int .i64 (f o)):=by
 unfold mcs;rw[List.getElem?_append_left (by simpa using h)];simp[h]
theorem F7{f:Nat→Int}{t:List At}{o:Nat}(h:8≤o):(mcs f t)[o]? =t[o-8]? :=by
 unfold mcs;rw[List.getElem?_append_right (by simpa using h)];simp
theorem Jf{f:Nat→Int}{t:List At}:(mcs f t).length=8+t.length:=by simp[mcs]
theorem C7{f:Nat→Int}{t:List At}{o:Nat}(h:8≤o):(mcs f t).take o=mcs f (t.take (o-8)):=by
 unfold mcs;rw[List.take_append,List.take_of_length_le (by simpa using h)];simp
theorem Iy{f:Nat→Int}{t:List At}{o:Nat}(h:8≤o):(mcs f t).drop o=t.drop (o-8):=by
 unfold mcs;rw[List.drop_append,List.drop_of_length_le (by simpa using h)];simp
theorem Zdm{f:Nat→Int}{a b:List At}:mcs f a++b=mcs f (a++b):=by simp[mcs]
theorem Ea{f:Nat→Int}{t:List At}{o:Nat}{x:Int}(h:o<8):(mcs f t).take o++[.int .i64 x]++(mcs f t).drop (o+1)=mcs (Qx f o x) t:=by
 have e:mcs (Qx f o x) t=(mcs f t).set o (.int .i64 x):=by
  apply List.ext_getElem?
  intro i
  rw[List.getElem?_set]
  by_cases hi:i<8
  ·rw[F8 hi]
   by_cases he:o=i
   ·subst he;rw[if_pos rfl,if_pos (by rw[Jf];omega)];simp[Qx]
   ·rw[if_neg he,F8 hi];simp[Qx,Ne.symm he]
  ·rw[F7 (by omega),if_neg (by omega),F7 (by omega)]
 rw[e,List.set_eq_take_append_cons_drop,if_pos (by rw[Jf];omega)];simp
theorem C6{f:Nat→Int}{t:List At}{x:Int}:(mcs f t).take 7++[.int .i64 x]++t=mcs (Qx f 7 x) t:=by
 have h:=Ea (f:=f) (t:=t) (o:=7) (x:=x) (by decide)
 rw[Iy (by decide)]at h
 exact h
theorem Eb{f:Nat→Int}{t:List At}{σ:Nat→At}:(mcs f t).map (At.sub σ)=mcs f (t.map (At.sub σ)):=by
 unfold mcs;rw[List.map_append,List.map_map];rfl
theorem F9{f:Nat→Int}{t:List At}{σ:Nat→Nat}:(mcs f t).map (At.ren σ)=mcs f (t.map (At.ren σ)):=by
 unfold mcs;rw[List.map_append,List.map_map];rfl
theorem C5{f g:Nat→Int}{t u:List At}{b:Bnd}:Ug (mcs f t) (mcs g u) b=Ug t u b:=by rfl
theorem Xw{f:Nat→Int}{t:List At}{q:At→Prop}(hq:∀i,q (.int .i64 i)):(∀x,x∈mcs f t→q x)↔∀x∈t,q x:=by
 unfold mcs
 refine⟨fun h x hx=>h x (List.mem_append_right _ hx),fun h x hx=> ?_⟩
 rcases List.mem_append.1 hx with hx|hx
 ·obtain⟨i,_,rfl⟩:=List.mem_map.1 hx;exact hq _
 ·exact h x hx
structure Fl where
 c:Bool
 z:Bool
 n:Bool
 v:Bool
def z14:List At:=mcs (fun _=>0) [.bool false,.bool false,.bool false,.bool false,.int .i64 0,.raw (.slice none 0 0)]
def TL(x:Fl)(at_ how trap rd st:Int):List At:=
 .bool x.c:: .bool x.z:: .bool x.n:: .bool x.v:: .int .i64 at_:: .ref 1:: .ref 2:: .raw (.slice none 0 0):: .int .i64 how:: .int .i64 trap:: .raw (.slice none 0 0):: .int .i64 rd:: .int .i64 st::z14
theorem Zeh:z14.length=14:=rfl
theorem Ux{q:At→Prop}(h1:∀i,q (.int .i64 i))(h2:q (.bool false))(h3:q (.raw (.slice none 0 0))):(∀x,x∈z14→q x)↔True:=by
 rw[z14,Xw h1]
 refine⟨fun _=>trivial,fun _ x hx=> ?_⟩
 simp only[List.mem_cons,List.not_mem_nil,or_false]at hx
 rcases hx with rfl|rfl|rfl|rfl|rfl|rfl
 ·exact h2
 ·exact h2
 ·exact h2
 ·exact h2
 ·exact h1 0
 ·exact h3
theorem Zej{σ:Nat→At}:z14.map (At.sub σ)=z14:=by rw[z14,Eb];rfl
theorem Zei{σ:Nat→Nat}:z14.map (At.ren σ)=z14:=by rw[z14,F9];rfl
theorem Zag{b:Bnd}:Ug z14 z14 b=b:=rfl
theorem c8:((8:Nat):Int)=8:=rfl
theorem Z2:type_of%(And.intro @F8<|And.intro @F7<|And.intro @Jf<|And.intro @C7<|And.intro @Iy<|And.intro @Zdm<|And.intro @Ea<|And.intro @C6<|And.intro @Eb<|And.intro @F9<|And.intro @C5<|And.intro @Xw<|And.intro @Zeh<|And.intro @Ux<|And.intro @Zej<|And.intro @Zei<|And.intro @Zag<|And.intro @TL.eq_1<|And.intro Nat.zero_add<|And.intro Nat.add_zero<|And.intro Nat.mul_one<|And.intro Nat.sub_zero c8):=
 ⟨@F8,@F7,@Jf,@C7,@Iy,@Zdm,@Ea,@C6,@Eb,@F9,@C5,@Xw,@Zeh,@Ux,@Zej,@Zei,@Zag,@TL.eq_1,Nat.zero_add,Nat.add_zero,Nat.mul_one,Nat.sub_zero,c8⟩
@[reducible] def MR(f:Nat→Int)(x:Fl)(at_ how trap rd st:Int)(mem code:List Int):List (Nat×Res):=
  [(0,.cells 151 (mcs f (TL x at_ how trap rd st))),(1,.row 3 (.int .i64) mem),(2,.row 3 (.int .i64) code)]
section
variable (f:Nat→Int) (x:Fl) (at_ how trap rd st:Int) (mem code:List Int) (hm:mem.length=65536)
include hm
theorem Zdk(p:Int):GC Tryz.prog 119 [.a (.loc 0 0),.a (.int .i64 p)] (MR f x at_ how trap rd st mem code) 3 [0,1,2] (.one (.a (.int .i64 (mem.getD (p%65536).toNat 0)))) (MR f x at_ how trap rd st mem code) 3:=by
 have ha:=Int.emod_nonneg p (show(65536:Int)≠0 by decide)
 have ha2:=Int.emod_lt_of_pos p (show(0:Int)<65536 by decide)
 have e1:=Wo p
 generalize hq:p%65536=q at*
 have hl:q<(mem.length:Int):=by omega
 have hl2:q.toNat<mem.length:=by omega
 have d0:(Kd.int .i64).dflt=(0:Int):=rfl
 refine Sr.fn.gc (by simp) (by simp[Zu,Zw,Zv,Zj,Ze,Vc.S1.okN,At.okN,SV.okN,Res.okN,Res.outOk,Zo,Res.own,Value.oneCell',MR,Xw,TL,Ux]) fun w X fr=> ?_
 repeat'(first|(first|refine Stp.h ?_)<;>try simp only[Zd,simprocAttr,↓reduceIte,reduceCtorEq,implies_true,Z2,e1,hl,hl2,ha,d0]|(with_reducible first|assumption|refine And.intro ?_ ?_)|(intro h;first|omega|exact tg h ‹_›|exact tg ‹_› h|skip))
theorem A3(p v:Int):GC Tryz.prog 120 [.a (.loc 0 0),.a (.int .i64 p),.a (.int .i64 v)] (MR f x at_ how trap rd st mem code) 3 [0,1,2] (.tup []) (MR f x at_ how trap rd st (mem.set (p%65536).toNat (v%65536)) code) 3:=by
 have ha:=Int.emod_nonneg p (show(65536:Int)≠0 by decide)
 have ha2:=Int.emod_lt_of_pos p (show(0:Int)<65536 by decide)
 have e1:=Wo p
 have e2:=Wo v
 generalize hq:p%65536=q at*
 have hl:q<(mem.length:Int):=by omega
 have hl2:q.toNat<mem.length:=by omega
 have d0:(Kd.int .i64).dflt=(0:Int):=rfl
 refine T1.fn.gc (by simp) (by simp[Zu,Zw,Zv,Zj,Ze,Vc.S1.okN,At.okN,SV.okN,Res.okN,Res.outOk,Zo,Res.own,Value.oneCell',MR,Xw,TL,Ux]) fun w X fr=> ?_
 repeat'(first|(first|refine Stp.h ?_)<;>try simp only[Zd,simprocAttr,↓reduceIte,reduceCtorEq,implies_true,Z2,e1,e2,hl,hl2,ha,d0]|(with_reducible first|assumption|refine And.intro ?_ ?_)|(intro h;first|omega|exact tg h ‹_›|exact tg ‹_› h|skip))
theorem Zdy(h7:0≤f 7∧f 7≤65535)(v:Int):GC Tryz.prog 124 [.a (.loc 0 0),.a (.int .i64 v)] (MR f x at_ how trap rd st mem code) 3 [0,1,2] (.tup []) (MR (Qx f 7 ((f 7-1)%65536)) x at_ how trap rd st (mem.set ((f 7-1)%65536).toNat (v%65536)) code) 3:=by
 have w1:IntKind.i64.wrap (f 7-1)=f 7-1:=Zm (by omega) (by omega)
 have e1:=Wo (f 7-1)
 have e3:Qx f 7 ((f 7-1)%65536) 7=(f 7-1)%65536:=rfl
 have hS:=A3 (Qx f 7 ((f 7-1)%65536)) x at_ how trap rd st mem code hm ((f 7-1)%65536) v
 have e2:((f 7-1)%65536)%65536=(f 7-1)%65536:=by omega
 rw[e2]at hS
 generalize (f 7-1)%65536=q at*
 refine Ss.fn.gc (by simp) (by simp[Zu,Zw,Zv,Zj,Ze,Vc.S1.okN,At.okN,SV.okN,Res.okN,Res.outOk,Zo,Res.own,Value.oneCell',MR,Xw,TL,Ux]) fun w X fr=> ?_
 repeat'(first|(first|refine Stp.h ?_|(refine Za.gc hS ?_ ?_;focus simp[Zb,Z2];done))<;>try simp only[Zd,simprocAttr,↓reduceIte,reduceCtorEq,implies_true,Z2,w1,e1,e3,Int.reduceToNat]|(with_reducible first|assumption|refine And.intro ?_ ?_)|(intro h;first|omega|exact tg h ‹_›|exact tg ‹_› h|skip))
theorem pop_gc(h7:0≤f 7∧f 7≤65535):GC Tryz.prog 125 [.a (.loc 0 0)] (MR f x at_ how trap rd st mem code) 3 [0,1,2] (.one (.a (.int .i64 (mem.getD (f 7).toNat 0)))) (MR (Qx f 7 ((f 7+1)%65536)) x at_ how trap rd st mem code) 3:=by
 have w1:IntKind.i64.wrap (f 7+1)=f 7+1:=Zm (by omega) (by omega)
 have e1:=Wo (f 7+1)
 have hS:=Zdk f x at_ how trap rd st mem code hm (f 7)
 have e2:(f 7)%65536=f 7:=by omega
 rw[e2]at hS
 generalize (f 7+1)%65536=q at*
 refine Rp.fn.gc (by simp) (by simp[Zu,Zw,Zv,Zj,Ze,Vc.S1.okN,At.okN,SV.okN,Res.okN,Res.outOk,Zo,Res.own,Value.oneCell',MR,Xw,TL,Ux]) fun w X fr=> ?_
 repeat'(first|(first|refine Stp.h ?_|(refine Za.gc hS ?_ ?_;focus simp[Zb,Z2];done))<;>try simp only[Zd,simprocAttr,↓reduceIte,reduceCtorEq,implies_true,Z2,w1,e1,Int.reduceToNat]|(with_reducible first|assumption|refine And.intro ?_ ?_)|(intro h;first|omega|exact tg h ‹_›|exact tg ‹_› h|skip))
omit hm in
theorem A0(r:Int)(cy:Bool):GC Tryz.prog 165 [.a (.loc 0 0),.a (.int .i64 r),.a (.bool cy)] (MR f x at_ how trap rd st mem code) 3 [0,1,2] (.one (.a (.int .i64 (r%65536)))) (MR f ⟨cy,decide (r%65536=0),decide (32767<r%65536),false⟩ at_ how trap rd st mem code) 3:=by
 have e1:=Wo r
 generalize r%65536=q at*
 refine T0.fn.gc (by simp) (by simp[Zu,Zw,Zv,Zj,Ze,Vc.S1.okN,At.okN,SV.okN,Res.okN,Res.outOk,Zo,Res.own,Value.oneCell',MR,Xw,TL,Ux]) fun w X fr=> ?_
 repeat'(first|(first|refine Stp.h ?_)<;>try simp only[Zd,simprocAttr,↓reduceIte,reduceCtorEq,implies_true,Z2,e1]|(with_reducible first|assumption|refine And.intro ?_ ?_)|(intro h;first|omega|exact tg h ‹_›|exact tg ‹_› h|skip))
end
def Rj(r:Int)(cy:Bool):Fl:=⟨cy,decide (r=0),decide (32767<r),false⟩
def G0(a b:Int)(ci:Bool):Fl:=⟨decide (65535<a+b+cI ci),decide (Tz a b ci=0),decide (32767<Tz a b ci),Zcm a b (Tz a b ci)⟩
def Nk(a b:Int)(bi:Bool):Fl:=⟨!decide (65535<a+(65535-b)+cI (!bi)),decide (T8 a b bi=0),decide (32767<T8 a b bi),Zcm a (65535-b) (T8 a b bi)⟩
def twoR(op a b:Int)(x:Fl):Int:=
 if op=5 then Tz a b false else if op=6 then Tz a b x.c else if op=7∨op=12 then T8 a b false else if op=8∨op=13 then T8 a b x.c else
 if op=9 then Mn .i64 a b%65536 else if op=10 then orI .i64 a b%65536 else Mh .i64 a b%65536
def twoF(op a b:Int)(x:Fl):Fl:=
 if op=5 then G0 a b false else if op=6 then G0 a b x.c else if op=7∨op=12 then Nk a b false else if op=8 then Nk a b x.c else if op=13 then {Nk a b x.c with z:=(Nk a b x.c).z&&x.z}else
 if op=9 then Rj (Mn .i64 a b%65536) false else if op=10 then Rj (orI .i64 a b%65536) false else Rj (Mh .i64 a b%65536) false
section
variable (f:Nat→Int) (x:Fl) (at_ how trap rd st:Int) (mem code:List Int)
set_option maxHeartbeats 16000000 in
theorem Zia(op a b:Int)(hop:op=5∨op=6∨op=7∨op=8∨op=12∨op=13∨op=10∨op=11)(ha:0≤a∧a≤65535)(hb:0≤b∧b≤65535):
 GC Tryz.prog 121 [.a (.loc 0 0),.a (.int .i64 op),.a (.int .i64 a),.a (.int .i64 b)] (MR f x at_ how trap rd st mem code) 3 [0,1,2] (.one (.a (.int .i64 (twoR op a b x)))) (MR f (twoF op a b x) at_ how trap rd st mem code) 3:=by
 have hS:∀ci,RdC Tryz.prog 163 [.v (.a (.int .i64 a)),.v (.a (.int .i64 b)),.v (.a (.bool ci))] (.tup [.a (.int .i64 (Tz a b ci)),.agg [.bool (G0 a b ci).c,.bool (G0 a b ci).z,.bool (G0 a b ci).n,.bool (G0 a b ci).v]]):=fun ci=>by
  have:=Zcv a b ci
  have e1:a%65536=a:=by omega
  have e2:b%65536=b:=by omega
  rw[e1,e2]at this
  exact this
 have hD:∀bi,RdC Tryz.prog 164 [.v (.a (.int .i64 a)),.v (.a (.int .i64 b)),.v (.a (.bool bi))] (.tup [.a (.int .i64 (T8 a b bi)),.agg [.bool (Nk a b bi).c,.bool (Nk a b bi).z,.bool (Nk a b bi).n,.bool (Nk a b bi).v]]):=fun bi=>Jj a b bi ha hb
 have key:∀r,GC Tryz.prog 165 [.a (.loc 0 0),.a (.int .i64 r),.a (.bool false)] (MR f x at_ how trap rd st mem code) 3 [0,1,2] (.one (.a (.int .i64 (r%65536)))) (MR f (Rj (r%65536) false) at_ how trap rd st mem code) 3:=fun r=>A0 f x at_ how trap rd st mem code r false
 have hO:=key (orI .i64 a b)
 have hX:=key (Mh .i64 a b)
 refine Rq.fn.gc (by simp) (by simp[Zu,Zw,Zv,Zj,Ze,Vc.S1.okN,At.okN,SV.okN,Res.okN,Res.outOk,Zo,Res.own,Value.oneCell',MR,Xw,TL,Ux]) fun w X fr=> ?_
 rcases hop with rfl|rfl|rfl|rfl|rfl|rfl|rfl|rfl<;>simp only[twoR,twoF,Int.reduceEq,↓reduceIte,or_false,or_true,false_or,true_or]<;>
 (repeat'(first|(first|refine Stp.h ?_|((with_reducible first|apply Za.rd (hS _)|apply Zf.rd (hS _));focus((repeat'(first|exact rfl|exact trivial|refine And.intro ?_ ?_|(simp[Zz];done)));done))|((with_reducible first|apply Za.rd (hD _)|apply Zf.rd (hD _));focus((repeat'(first|exact rfl|exact trivial|refine And.intro ?_ ?_|(simp[Zz];done)));done))|(refine Za.gc hO ?_ ?_;focus simp[Zb,Z2];done)|(refine Za.gc hX ?_ ?_;focus simp[Zb,Z2];done))<;>try simp only[Zd,simprocAttr,↓reduceIte,reduceCtorEq,implies_true,Z2]|(with_reducible first|assumption|refine And.intro ?_ ?_)|(intro h;first|omega|exact tg h ‹_›|exact tg ‹_› h|skip)))
theorem F2(op:Int)(hop:op=19∨op=20∨op=21∨op=22∨op=23):GC Tryz.prog 123 [.a (.loc 0 0),.a (.int .i64 op)] (MR f x at_ how trap rd st mem code) 3 [0,1,2] (.one (.a (.bool (if op=20 then x.z else if op=21 then !x.z else if op=22 then x.c else if op=23 then !x.c else true)))) (MR f x at_ how trap rd st mem code) 3:=by
 refine Sq.fn.gc (by simp) (by simp[Zu,Zw,Zv,Zj,Ze,Vc.S1.okN,At.okN,SV.okN,Res.okN,Res.outOk,Zo,Res.own,Value.oneCell',MR,Xw,TL,Ux]) fun w X fr=> ?_
 rcases hop with rfl|rfl|rfl|rfl|rfl<;>simp only[Int.reduceEq,↓reduceIte]<;>
 (repeat'(first|(first|refine Stp.h ?_)<;>try simp only[Zd,simprocAttr,↓reduceIte,reduceCtorEq,implies_true,Z2]|(with_reducible first|assumption|refine And.intro ?_ ?_)|(intro h;first|omega|exact tg h ‹_›|exact tg ‹_› h|skip)))
def shR(op a:Int)(c:Bool):Int:=
 if op=14 then(2*a)%65536 else if op=15 then(2*a+cI c)%65536 else if op=16 then a/2 else if op=17 then a/2+32768*cI (decide (32767<a))else a/2+32768*cI c
def shF(op a:Int)(c:Bool):Fl:=Rj (shR op a c) (if op=14∨op=15 then decide (32767<a)else decide (a%2=1))
theorem Bh(a:Int)(h:0≤a∧a≤65535):orI .i64 (2*a) 1=2*a+1:=by
 obtain⟨n,rfl⟩:=Int.eq_ofNat_of_zero_le h.1
 show IntKind.i64.wrap ((BitVec.ofInt 64 (2*(n:Int))|||BitVec.ofInt 64 1).toNat:Nat)=_
 rw[Y3,Y3 1]
 have e1:(2*(n:Int)%18446744073709551616).toNat=2*n:=by omega
 have e2:((1:Int)%18446744073709551616).toNat=1:=by decide
 rw[e1,e2,BitVec.toNat_or,BitVec.toNat_ofNat,BitVec.toNat_ofNat,Nat.mod_eq_of_lt (by omega),Nat.mod_eq_of_lt (by decide)]
 have e3:2*n|||1=2*n+1:=by
  have:=Nat.two_pow_add_eq_or_of_lt (i:=1) (b:=1) (by decide) n
  rw[Nat.pow_one]at this;exact this.symm
 rw[e3]
 exact Zm (by omega) (by omega) |>.trans (by omega)
theorem orI_top(a:Int)(h:0≤a∧a≤32767):orI .i64 a 32768=a+32768:=by
 obtain⟨n,rfl⟩:=Int.eq_ofNat_of_zero_le h.1
 show IntKind.i64.wrap ((BitVec.ofInt 64 (n:Int)|||BitVec.ofInt 64 32768).toNat:Nat)=_
 rw[Y3,Y3 32768]
 have e1:((n:Int)%18446744073709551616).toNat=n:=by omega
 have e2:((32768:Int)%18446744073709551616).toNat=32768:=by decide
 rw[e1,e2,BitVec.toNat_or,BitVec.toNat_ofNat,BitVec.toNat_ofNat,Nat.mod_eq_of_lt (by omega),Nat.mod_eq_of_lt (by decide)]
 have e3:n|||32768=n+32768:=by
  have h2:32768+n=32768|||n:=Nat.two_pow_add_eq_or_of_lt (i:=15) (b:=n) (by omega) 1
  rw[Nat.or_comm,←h2];omega
 rw[e3]
 exact Zm (by omega) (by omega) |>.trans (by omega)
theorem Bi(a:Int)(h:0≤a∧a≤131070):orI .i64 a 0=a:=by
 obtain⟨n,rfl⟩:=Int.eq_ofNat_of_zero_le h.1
 show IntKind.i64.wrap ((BitVec.ofInt 64 (n:Int)|||BitVec.ofInt 64 0).toNat:Nat)=_
 rw[Y3,Y3 0]
 have e1:((n:Int)%18446744073709551616).toNat=n:=by omega
 rw[e1,BitVec.toNat_or,BitVec.toNat_ofNat,Nat.mod_eq_of_lt (by omega)]
 have e3:n|||(BitVec.ofNat 64 ((0:Int)%18446744073709551616).toNat).toNat=n:=Nat.or_zero n
 rw[e3]
 exact Zm (by omega) (by omega)
theorem and_one(a:Int)(h:0≤a∧a≤65535):Mn .i64 a 1=a%2:=Jy a 1 1 h.1 (by omega) (by decide) (by decide)
set_option maxHeartbeats 16000000 in
theorem Zce(op a:Int)(hop:op=14∨op=15∨op=16∨op=17∨op=18)(ha:0≤a∧a≤65535):
 GC Tryz.prog 122 [.a (.loc 0 0),.a (.int .i64 op),.a (.int .i64 a)] (MR f x at_ how trap rd st mem code) 3 [0,1,2] (.one (.a (.int .i64 (shR op a x.c)))) (MR f (shF op a x.c) at_ how trap rd st mem code) 3:=by
 have w1:Po .i64 a 1=2*a:=by
  show IntKind.i64.wrap (a*2^1)=_
  rw[Zm (by omega) (by omega)];omega
 have w2:Hz .i64 a 1=a/2:=rfl
 have o1:=Bh a ha
 have o2:=Bi (2*a) (by omega)
 have o3:=Bi (a/2) (by omega)
 have o4:=orI_top (a/2) (by omega)
 have a1:=and_one a ha
 have key:∀(r r':Int) (cy:Bool),r%65536=r'→GC Tryz.prog 165 [.a (.loc 0 0),.a (.int .i64 r),.a (.bool cy)] (MR f x at_ how trap rd st mem code) 3 [0,1,2] (.one (.a (.int .i64 r'))) (MR f (Rj r' cy) at_ how trap rd st mem code) 3:=fun r r' cy h=>by
  subst h;exact A0 f x at_ how trap rd st mem code r cy
 have k1:∀ {r:Int},0≤r→r≤65535→r%65536=r:=fun h1 h2=>by omega
 obtain⟨xc,xz,xn,xv⟩:=x
 refine Uy.fn.gc (by simp) (by simp[Zu,Zw,Zv,Zj,Ze,Vc.S1.okN,At.okN,SV.okN,Res.okN,Res.outOk,Zo,Res.own,Value.oneCell',MR,Xw,TL,Ux]) fun w X fr=> ?_
 rcases hop with rfl|rfl|rfl|rfl|rfl<;>simp only[shR,shF,Int.reduceEq,↓reduceIte,or_false,or_true,true_or]
 ·have hK:=key (2*a) _ (decide (32767<a)) rfl
  repeat'(first|(first|refine Stp.h ?_|(refine Za.gc hK ?_ ?_;focus simp[Zb,Z2];done))<;>try simp only[Zd,simprocAttr,↓reduceIte,reduceCtorEq,implies_true,Z2,w1,o2,Int.reduceToNat]|(with_reducible first|assumption|refine And.intro ?_ ?_)|(intro h;first|omega|exact tg h ‹_›|exact tg ‹_› h|skip))
 ·cases xc
  ·have hK:=key (2*a) ((2*a+cI false)%65536) (decide (32767<a)) (by simp[cI])
   repeat'(first|(first|refine Stp.h ?_|(refine Za.gc hK ?_ ?_;focus simp[Zb,Z2];done))<;>try simp only[Zd,simprocAttr,↓reduceIte,reduceCtorEq,implies_true,Z2,w1,o2,Int.reduceToNat]|(with_reducible first|assumption|refine And.intro ?_ ?_)|(intro h;first|omega|exact tg h ‹_›|exact tg ‹_› h|skip))
  ·have hK:=key (2*a+1) ((2*a+cI true)%65536) (decide (32767<a)) (by simp[cI])
   repeat'(first|(first|refine Stp.h ?_|(refine Za.gc hK ?_ ?_;focus simp[Zb,Z2];done))<;>try simp only[Zd,simprocAttr,↓reduceIte,reduceCtorEq,implies_true,Z2,w1,o1,Int.reduceToNat]|(with_reducible first|assumption|refine And.intro ?_ ?_)|(intro h;first|omega|exact tg h ‹_›|exact tg ‹_› h|skip))
 ·have hK:=key (a/2) (a/2) (decide (a%2=1)) (by omega)
  repeat'(first|(first|refine Stp.h ?_|(refine Za.gc hK ?_ ?_;focus simp[Zb,Z2];done))<;>try simp only[Zd,simprocAttr,↓reduceIte,reduceCtorEq,implies_true,Z2,w2,o3,a1,Int.reduceToNat]|(with_reducible first|assumption|refine And.intro ?_ ?_)|(intro h;first|omega|exact tg h ‹_›|exact tg ‹_› h|skip))
 ·by_cases hb:32767<a
  ·have hK:=key (a/2+32768) (a/2+32768*cI (decide (32767<a))) (decide (a%2=1)) (by simp[cI,hb];omega)
   repeat'(first|(first|refine Stp.h ?_|(refine Za.gc hK ?_ ?_;focus simp[Zb,Z2];done))<;>try simp only[Zd,simprocAttr,↓reduceIte,reduceCtorEq,implies_true,Z2,w2,o4,a1,hb,decide_true,Int.reduceToNat]|(with_reducible first|assumption|refine And.intro ?_ ?_)|(intro h;first|omega|exact tg h ‹_›|exact tg ‹_› h|skip))
   all_goals simp[hb]
  ·have hK:=key (a/2) (a/2+32768*cI (decide (32767<a))) (decide (a%2=1)) (by simp[cI,hb];omega)
   repeat'(first|(first|refine Stp.h ?_|(refine Za.gc hK ?_ ?_;focus simp[Zb,Z2];done))<;>try simp only[Zd,simprocAttr,↓reduceIte,reduceCtorEq,implies_true,Z2,w2,o3,a1,hb,decide_false,Int.reduceToNat]|(with_reducible first|assumption|refine And.intro ?_ ?_)|(intro h;first|omega|exact tg h ‹_›|exact tg ‹_› h|skip))
   all_goals simp[hb]
 ·cases xc
  ·have hK:=key (a/2) (a/2+32768*cI false) (decide (a%2=1)) (by simp[cI];omega)
   repeat'(first|(first|refine Stp.h ?_|(refine Za.gc hK ?_ ?_;focus simp[Zb,Z2];done))<;>try simp only[Zd,simprocAttr,↓reduceIte,reduceCtorEq,implies_true,Z2,w2,o3,a1,Int.reduceToNat]|(with_reducible first|assumption|refine And.intro ?_ ?_)|(intro h;first|omega|exact tg h ‹_›|exact tg ‹_› h|skip))
  ·have hK:=key (a/2+32768) (a/2+32768*cI true) (decide (a%2=1)) (by simp[cI];omega)
   repeat'(first|(first|refine Stp.h ?_|(refine Za.gc hK ?_ ?_;focus simp[Zb,Z2];done))<;>try simp only[Zd,simprocAttr,↓reduceIte,reduceCtorEq,implies_true,Z2,w2,o4,a1,Int.reduceToNat]|(with_reducible first|assumption|refine And.intro ?_ ?_)|(intro h;first|omega|exact tg h ‹_›|exact tg ‹_› h|skip))
end
def w32(n:Int):Prop:=0≤n∧n<4294967296
def wOk(l:List Int):Prop:=∀j,w32 (l.getD j 0)
def nv:List Int→Int
 | []=>0
 |a::r=>a+4294967296*nv r
def wds(x:Nat):List Int:=if h:x=0 then[]else((x%4294967296:Nat):Int)::wds (x/4294967296)
termination_by x
decreasing_by omega
theorem Yk:wds 0=[]:=by rw[wds];simp
theorem Te{x:Nat}(h:x≠0):wds x=((x%4294967296:Nat):Int)::wds (x/4294967296):=by rw[wds,dif_neg h]
theorem Qy{a:Int}{l:List Int}:wOk (a::l)↔w32 a∧wOk l:=by
 refine⟨fun h=>⟨h 0,fun j=>h (j+1)⟩,fun h j=> ?_⟩
 cases j with
 |zero=>exact h.1
 |succ j=>exact h.2 j
theorem E8:wOk []:=fun j=>by simp[w32]
theorem Oz:∀(n x:Nat),x≤n→wOk (wds x)
 |0,x,h=>by obtain rfl:x=0:=by omega
            rw[Yk];exact E8
 |n+1,x,h=>by
  by_cases hx:x=0
  ·subst hx;rw[Yk];exact E8
  ·rw[Te hx,Qy]
   exact⟨by unfold w32;omega,Oz n _ (by omega)⟩
theorem Om:∀(n x:Nat),x≤n→nv (wds x)=x
 |0,x,h=>by obtain rfl:x=0:=by omega
            rw[Yk];rfl
 |n+1,x,h=>by
  by_cases hx:x=0
  ·subst hx;rw[Yk];rfl
  ·rw[Te hx,nv,Om n _ (by omega)];omega
theorem nv_nn:∀(l:List Int),wOk l→0≤nv l
 | [],_=>Int.le_refl _
 |a::l,h=>by
  have h1:=(Qy.1 h).1
  have h2:=nv_nn l (Qy.1 h).2
  unfold w32 at h1
  simp only[nv];omega
theorem Td:∀(n x:Nat),x<4294967296^n→(wds x).length≤n
 |0,x,h=>by obtain rfl:x=0:=by simpa using h
            rw[Yk];simp
 |n+1,x,h=>by
  by_cases hx:x=0
  ·subst hx;rw[Yk];simp
  ·rw[Te hx,List.length_cons]
   have:=Td n (x/4294967296) (by rw[Nat.pow_succ]at h;exact Nat.div_lt_of_lt_mul (by rw[Nat.mul_comm];exact h))
   omega
theorem Zed{x:Nat}:wds x=[]↔x=0:=by
 refine⟨fun h=> ?_,fun h=>by rw[h,Yk]⟩
 by_cases hx:x=0
 ·exact hx
 ·rw[Te hx]at h;cases h
theorem Uv{x:Nat}:(wds x).length=0↔x=0:=by rw[List.length_eq_zero_iff,Zed]
def W0(l:List Int):Nat→Nat
 |0=>0
 |n+1=>if l.getD n 0=0 then W0 l n else n+1
theorem A9(l:List Int):∀n,W0 l n≤n
 |0=>Nat.le_refl _
 |n+1=>by unfold W0;split;exact Nat.le_succ_of_le (A9 l n);exact Nat.le_refl _
theorem Hm(a:Int)(l:List Int):∀n,W0 (a::l) (n+1)=if W0 l n=0 then(if a=0 then 0 else 1)else W0 l n+1
 |0=>by simp[W0]
 |n+1=>by
  have e1:W0 (a::l) (n+1+1)=if l.getD n 0=0 then W0 (a::l) (n+1)else n+1+1:=rfl
  have e2:W0 l (n+1)=if l.getD n 0=0 then W0 l n else n+1:=rfl
  rw[e1,e2]
  by_cases h:l.getD n 0=0
  ·rw[if_pos h,if_pos h,Hm a l n]
  ·rw[if_neg h,if_neg h];simp
theorem Zaa:∀(l:List Int),wOk l→l.take (W0 l l.length)=wds (nv l).toNat
 | [],_=>by simp[W0,nv,Yk]
 |a::l,h=>by
  obtain⟨h1,h2⟩:=Qy.1 h
  have ih:=Zaa l h2
  have hn:=nv_nn l h2
  unfold w32 at h1
  rw[List.length_cons,Hm]
  have hd:(a+4294967296*nv l).toNat/4294967296=(nv l).toNat:=by omega
  have hm:(((a+4294967296*nv l).toNat%4294967296:Nat):Int)=a:=by omega
  by_cases h0:W0 l l.length=0
  ·rw[h0,List.take_zero]at ih
   have hz:(nv l).toNat=0:=Zed.1 ih.symm
   rw[if_pos h0]
   by_cases ha:a=0
   ·rw[if_pos ha,List.take_zero]
    have:(nv (a::l)).toNat=0:=by simp only[nv];omega
    rw[this,Yk]
   ·rw[if_neg ha]
    have hx:(nv (a::l)).toNat≠0:=by simp only[nv];omega
    rw[Te hx]
    simp only[nv]
    rw[hd,hm,hz,Yk];rfl
  ·rw[if_neg h0,List.take_succ_cons,ih]
   have hz:(nv l).toNat≠0:=fun e=>by
    rw[e,Yk]at ih
    have:=congrArg List.length ih
    simp only[List.length_take,List.length_nil]at this
    have:=A9 l l.length
    omega
   have hx:(nv (a::l)).toNat≠0:=by simp only[nv];omega
   rw[Te hx]
   simp only[nv]
   rw[hd,hm]
set_option maxHeartbeats 4000000 in
theorem Zh9(l:List Int)(hl:wOk l)(h0:0<l.length∧l.length≤1000)(w:World)(X:List Nat)(fr:List Value):T ⟨Tryz.prog,w,X,21,fr⟩ Y2.code (Qu ⟨Tryz.prog,w,X,21,fr⟩ [RV.tmp 2] (D9 [] (.one (.a (.ref 1))) [(1,.row 87 (.int .u32) (wds (nv l).toNat))])) ⟨[(0,.one (.a (.ref 0)))],[(0,.row 87 (.int .u32) l)],1⟩:=by
 repeat'(first|(first|refine Stp.h ?_)<;>try simp only[Zd,simprocAttr,↓reduceIte,reduceCtorEq,implies_true]|(with_reducible first|assumption|refine And.intro ?_ ?_)|(intro h;first|omega|exact tg h ‹_›|exact tg ‹_› h|skip))
 all_goals first|omega|skip
 refine T.loop (ι:= {t:Nat//t≤l.length∧W0 l t=W0 l l.length}) (fun y=>⟨[(3,.one (.a (.int .i64 (y.1:Int)))),(0,.one (.a (.ref 0)))],[(0,.row 87 (.int .u32) l)],1⟩) (fun y=>y.1) ⟨l.length,Nat.le_refl _,rfl⟩ (Ent.mk1 (id) (by simp[Zy])) ?_
 rintro⟨t,ht1,ht2⟩
 simp only
 have fin:W0 l t=t→t=W0 l l.length:=fun h=>by omega
 have last:∀t,t≤l.length→t=W0 l l.length→T ⟨Tryz.prog,w,X,21,fr⟩ Y2.c6 (Qu ⟨Tryz.prog,w,X,21,fr⟩ [RV.tmp 2] (D9 [] (.one (.a (.ref 1))) [(1,.row 87 (.int .u32) (wds (nv l).toNat))])) ⟨[(3,.one (.a (.int .i64 (t:Int)))),(0,.one (.a (.ref 0)))],[(0,.row 87 (.int .u32) l)],1⟩:=fun t h1 h2=>by
  show T _ (.seq (.reg Y2.r4) .ret) _ _
  have htn:((t:Int)).toNat=t:=by omega
  have tz:(0:Int).toNat=0:=rfl
  have t0:(0:Int)≤t:=by omega
  refine T.cut (ι:=Unit) (fun _=>⟨[(2,.one (.a (.ref 1)))],[(1,.view 0 1 0 t),(0,.row 87 (.int .u32) l)],2⟩) ?_ fun _=> ?_
  ·repeat'(first|(first|refine Stp.h ?_)<;>try simp only[Zd,simprocAttr,↓reduceIte,reduceCtorEq,implies_true,htn,tz,t0,h1,Nat.zero_add,Nat.add_zero]|(with_reducible first|assumption|refine And.intro ?_ ?_)|(intro h;first|omega|exact tg h ‹_›|exact tg ‹_› h|skip))
   all_goals first|omega|exact⟨(),(Ent.mk1 (id) (by simp[Zy]))⟩|skip
  ·refine T.weak (Ent.viewRow 0 1 t rfl rfl rfl h1 h0.1) ?_
   rw[h2,Zaa l hl]
   repeat'(first|(first|refine Stp.h ?_)<;>try simp only[Zd,simprocAttr,↓reduceIte,reduceCtorEq,implies_true]|(with_reducible first|assumption|refine And.intro ?_ ?_)|(intro h;first|omega|exact tg h ‹_›|exact tg ‹_› h|skip))
 rcases t with _|t
 ·have hp:¬(0:Int)<((0:Nat):Int):=by omega
  repeat'(first|(first|refine Stp.h ?_)<;>try simp only[Zd,simprocAttr,↓reduceIte,reduceCtorEq,implies_true,hp,decide_false]|(with_reducible first|assumption|refine And.intro ?_ ?_)|(intro h;first|omega|exact tg h ‹_›|exact tg ‹_› h|skip))
  all_goals first|omega|exact T.weak (Ent.mk1 (id) (by simp[Zy])) (last 0 (Nat.zero_le _) (fin rfl))|skip
 ·have hw1:IntKind.i64.wrap (((t+1:Nat):Int)-1)=(t:Int):=by rw[Zm (by omega) (by omega)];omega
  have hp:(0:Int)<((t+1:Nat):Int):=by omega
  have htn:((t:Nat):Int).toNat=t:=by omega
  have htl:(t:Int)<l.length:=by omega
  have htl2:t<l.length:=by omega
  have d0:(Kd.int .u32).dflt=(0:Int):=rfl
  by_cases hz:l.getD t 0=0
  ·have ht3:W0 l t=W0 l l.length:=by rw[←ht2,W0,if_pos hz]
   repeat'(first|(first|refine Stp.h ?_)<;>try simp only[Zd,simprocAttr,↓reduceIte,reduceCtorEq,implies_true,hw1,hp,htn,htl,htl2,d0,hz,decide_true,Int.ofNat_lt]|(with_reducible first|assumption|refine And.intro ?_ ?_)|(intro h;first|omega|exact tg h ‹_›|exact tg ‹_› h|skip))
   all_goals first|omega|exact⟨⟨t,by omega,ht3⟩,(Ent.mk1 (id) (by simp[Zy])),by simp only;omega⟩|skip
  ·have ht3:W0 l (t+1)=t+1:=by rw[W0,if_neg hz]
   repeat'(first|(first|refine Stp.h ?_)<;>try simp only[Zd,simprocAttr,↓reduceIte,reduceCtorEq,implies_true,hw1,hp,htn,htl,htl2,d0,hz,decide_true,decide_false,Int.ofNat_lt]|(with_reducible first|assumption|refine And.intro ?_ ?_)|(intro h;first|omega|exact tg h ‹_›|exact tg ‹_› h|skip))
   all_goals first|omega|exact T.weak (Ent.mk1 (id) (by simp[Zy])) (last (t+1) ht1 (fin ht3))|skip
theorem E4(l:List Int)(hl:wOk l)(h0:0<l.length∧l.length≤1000):GC Tryz.prog 50 [.a (.ref 0)] [(0,.row 87 (.int .u32) l)] 1 [] (.one (.a (.ref 1))) [(1,.row 87 (.int .u32) (wds (nv l).toNat))] 2:=by
 refine Y2.fn.gc (by simp) (by simp[Zu,Zw,Zv,Zj,Ze,Vc.S1.okN,At.okN,SV.okN,Res.okN,Res.outOk,Zo,Res.own,Value.oneCell']) fun w X fr=> ?_
 exact T.weak (Ent.mk1 id (by simp[Zy,Y1,Vc.frS])) (Zh9 l hl h0 w X fr)
theorem Zh8(a b:Int)(ha:w32 a)(hb:w32 b):GC Tryz.prog 50 [.a (.ref 0)] [(0,.lit 87 1 2 [.int .u32 a,.int .u32 b])] 1 [] (.one (.a (.ref 1))) [(1,.row 87 (.int .u32) (wds (a+4294967296*b).toNat))] 2:=by
 have h:nv [a,b]=a+4294967296*b:=by simp[nv]
 have ho:wOk [a,b]:=Qy.2 ⟨ha,Qy.2 ⟨hb,E8⟩⟩
 have key:=Zh9 [a,b] ho ⟨by simp,by simp⟩
 rw[h]at key
 refine Y2.fn.gc (by simp) (by simp[Zu,Zw,Zv,Zj,Ze,Vc.S1.okN,At.okN,SV.okN,Res.okN,Res.outOk,Zo,Res.own,Value.oneCell']) fun w X fr=> ?_
 refine T.weak (Ent.litRow (m:=0) (E:=87) (z:=1) (e:=2) (l:=[.int .u32 a,.int .u32 b]) (.int .u32) [a,b] rfl rfl rfl rfl (by decide)) ?_
 exact T.weak (Ent.mk1 id (by simp[Zy,Y1,Vc.frS])) (key w X fr)
theorem Le(x:Nat)(hx:x<18446744073709551616):GC Tryz.prog 37 [.a (.int .u64 (x:Int))] [] 0 [] (.one (.a (.ref 0))) [(0,.row 87 (.int .u32) (wds x))] 1:=by
 have w1:IntKind.u32.wrap (x:Int)=(x:Int)%4294967296:=by rw[IntKind.wrap_u32]
 have w2:Hz .u64 (x:Int) 32=(x:Int)/4294967296:=rfl
 have w3:IntKind.u32.wrap ((x:Int)/4294967296)=(x:Int)/4294967296:=by rw[IntKind.wrap_u32];omega
 have hT:=Zh8 ((x:Int)%4294967296) ((x:Int)/4294967296) (by unfold w32;omega) (by unfold w32;omega)
 have e:((x:Int)%4294967296+4294967296*((x:Int)/4294967296)).toNat=x:=by omega
 rw[e]at hT
 refine Tg.fn.gc (by simp) (by simp[Zu,Zw,Zv,Zj,Ze,Vc.S1.okN,At.okN,SV.okN,Res.okN,Res.outOk,Zo,Res.own,Value.oneCell']) fun w X fr=> ?_
 repeat'(first|(first|refine Stp.h ?_|(refine Za.gc hT ?_ ?_;focus simp[Zb];done))<;>try simp only[Zd,simprocAttr,↓reduceIte,reduceCtorEq,implies_true,w1,w2,w3,Int.reduceToNat]|(with_reducible first|assumption|refine And.intro ?_ ?_)|(intro h;first|omega|exact tg h ‹_›|exact tg ‹_› h|skip))
theorem Zd9(l:List Int)(hl:l.length≤1000):GC Tryz.prog 51 [.a (.ref 0)] [(0,.ro (.int .u32) l)] 1 [] (.one (.a (.ref 1))) [(1,.row 87 (.int .u32) l)] 2:=by
 have h1:l.length*4≤140737488355328:=by omega
 have h2:l.length≤4611686018427387904:=by omega
 refine T3.fn.gc (by simp) (by simp[Zu,Zw,Zv,Zj,Ze,Vc.S1.okN,At.okN,SV.okN,Res.okN,Res.outOk,Zo,Res.own,Value.oneCell']) fun w X fr=> ?_
 repeat'(first|(first|refine Stp.h ?_)<;>try simp only[Zd,simprocAttr,↓reduceIte,reduceCtorEq,implies_true,h1,h2]|(with_reducible first|assumption|refine And.intro ?_ ?_)|(intro h;first|omega|exact tg h ‹_›|exact tg ‹_› h|skip))
theorem wds_cases(x:Nat)(hx:x<18446744073709551616):(x=0∧wds x=[])∨(0<x∧x<4294967296∧wds x=[(x:Int)])∨(4294967296≤x∧wds x=[((x%4294967296:Nat):Int),((x/4294967296:Nat):Int)]):=by
 by_cases h0:x=0
 ·left;subst h0;exact⟨rfl,Yk⟩
 ·right
  rw[Te h0]
  by_cases h1:x<4294967296
  ·left
   have e:x/4294967296=0:=by omega
   rw[e,Yk,Nat.mod_eq_of_lt h1];exact⟨by omega,h1,rfl⟩
  ·right
   have e:x/4294967296≠0:=by omega
   have e2:x/4294967296/4294967296=0:=by omega
   rw[Te e,e2,Yk,Nat.mod_eq_of_lt (show x/4294967296<4294967296 by omega)];exact⟨by omega,rfl⟩
theorem or_hi(a b:Int)(ha:w32 a)(hb:w32 b):orI .u64 a (b*4294967296)=a+4294967296*b:=by
 unfold w32 at ha hb
 obtain⟨n,rfl⟩:=Int.eq_ofNat_of_zero_le ha.1
 obtain⟨m,rfl⟩:=Int.eq_ofNat_of_zero_le hb.1
 show IntKind.u64.wrap ((BitVec.ofInt 64 (n:Int)|||BitVec.ofInt 64 ((m:Int)*4294967296)).toNat:Nat)=_
 rw[Y3,Y3 ((m:Int)*4294967296)]
 have e1:((n:Int)%18446744073709551616).toNat=n:=by omega
 have e2:((m:Int)*4294967296%18446744073709551616).toNat=4294967296*m:=by omega
 rw[e1,e2,BitVec.toNat_or,BitVec.toNat_ofNat,BitVec.toNat_ofNat,Nat.mod_eq_of_lt (by omega),Nat.mod_eq_of_lt (by omega)]
 have h2:4294967296*m+n=4294967296*m|||n:=Nat.two_pow_add_eq_or_of_lt (i:=32) (b:=n) (by omega) m
 rw[Nat.or_comm,←h2]
 rw[IntWalk.u64_in _ (by omega)];omega
theorem Gw(x:Nat)(hx:x<18446744073709551616):RdC Tryz.prog 52 [.ro (.int .u32) (wds x)] (.one (.a (.int .u64 (x:Int)))):=by
 refine Tf.fn.rd (by simp) (by simp[Zz]) (by simp[Zz]) fun w=> ?_
 have d0:(Kd.int .u32).dflt=(0:Int):=rfl
 have c1:((1:Nat):Int)=1:=rfl
 have c0:((0:Nat):Int)=0:=rfl
 have c2:((2:Nat):Int)=2:=rfl
 rcases wds_cases x hx with⟨rfl,e⟩|⟨h0,h1,e⟩|⟨h1,e⟩<;>rw[e]
 ·repeat'(first|(first|refine Stp.h ?_)<;>try simp only[Zd,simprocAttr,↓reduceIte,reduceCtorEq,implies_true,List.length_nil,c0]|(with_reducible first|assumption|refine And.intro ?_ ?_)|(intro h;first|omega|exact tg h ‹_›|exact tg ‹_› h|skip))
 ·have w1:IntKind.u64.wrap (x:Int)=x:=by rw[IntWalk.u64_in _ (by omega)]
  repeat'(first|(first|refine Stp.h ?_)<;>try simp only[Zd,simprocAttr,↓reduceIte,reduceCtorEq,implies_true,w1,Int.reduceToNat,List.length_cons,List.length_nil,List.getD_cons_zero,Nat.zero_add,c1,d0]|(with_reducible first|assumption|refine And.intro ?_ ?_)|(intro h;first|omega|exact tg h ‹_›|exact tg ‹_› h|skip))
 ·have hl:((x%4294967296:Nat):Int)<4294967296:=by omega
  have hh:((x/4294967296:Nat):Int)<4294967296:=by omega
  have w1:IntKind.u64.wrap ((x%4294967296:Nat):Int)=((x%4294967296:Nat):Int):=by rw[IntWalk.u64_in _ (by omega)]
  have w2:IntKind.u64.wrap ((x/4294967296:Nat):Int)=((x/4294967296:Nat):Int):=by rw[IntWalk.u64_in _ (by omega)]
  have w3:Po .u64 ((x/4294967296:Nat):Int) 32=((x/4294967296:Nat):Int)*4294967296:=by
   show IntKind.u64.wrap (((x/4294967296:Nat):Int)*2^32)=_
   rw[IntWalk.u64_in _ (by omega)];rfl
  have w4:=or_hi ((x%4294967296:Nat):Int) ((x/4294967296:Nat):Int) ⟨by omega,hl⟩ ⟨by omega,hh⟩
  have w5:((x%4294967296:Nat):Int)+4294967296*((x/4294967296:Nat):Int)=x:=by omega
  rw[w5]at w4
  generalize ((x%4294967296:Nat):Int)=a at*
  generalize ((x/4294967296:Nat):Int)=b at*
  repeat'(first|(first|refine Stp.h ?_)<;>try simp only[Zd,simprocAttr,↓reduceIte,reduceCtorEq,implies_true,w1,w2,w3,w4,Int.reduceToNat,List.length_cons,List.length_nil,List.getD_cons_zero,List.getD_cons_succ,Nat.zero_add,c1,c2,d0]|(with_reducible first|assumption|refine And.intro ?_ ?_)|(intro h;first|omega|exact tg h ‹_›|exact tg ‹_› h|skip))
def p32:Nat→Int
 |0=>1
 |n+1=>4294967296*p32 n
theorem Jg:∀n,0<p32 n
 |0=>by decide
 |n+1=>by have:=Jg n;simp only[p32];omega
theorem Bj:∀ {m n:Nat},m≤n→p32 m≤p32 n
 |m,0,h=>by obtain rfl:m=0:=by omega
            exact Int.le_refl _
 |m,n+1,h=>by
  rcases Nat.lt_or_ge m (n+1)with h1|h1
  ·have:=Bj (show m≤n by omega)
   have:=Jg n
   simp only[p32];omega
  ·obtain rfl:m=n+1:=by omega
   exact Int.le_refl _
def Vp(g:Nat→Int):Nat→Int
 |0=>0
 |t+1=>Vp g t+p32 t*g t
theorem Iw(g:Nat→Int):∀t,Vp g (t+1)=g 0+4294967296*Vp (fun j=>g (j+1)) t
 |0=>by simp[Vp,p32]
 |t+1=>by
  rw[Vp,Iw g t,Vp,p32,Int.mul_add,Int.mul_assoc];omega
theorem Lr:∀l:List Int,nv l=Vp (fun j=>l.getD j 0) l.length
 | []=>rfl
 |a::l=>by rw[nv,Lr l,List.length_cons,Iw];rfl
theorem Oh{g:Nat→Int}(h:∀j,w32 (g j)):∀t,0≤Vp g t∧Vp g t<p32 t
 |0=>by simp[Vp,p32]
 |t+1=>by
  have ih:=Oh h t
  have h1:=h t
  have hp:=Jg t
  unfold w32 at h1
  simp only[Vp,p32]
  have e1:0≤p32 t*g t:=Int.mul_nonneg (by omega) h1.1
  have e2:p32 t*g t≤p32 t*4294967295:=Int.mul_le_mul_of_nonneg_left (by omega) (by omega)
  omega
def Fq(l m:List Int):Nat→Int
 |0=>0
 |t+1=>if l.getD t 0=m.getD t 0 then Fq l m t else if l.getD t 0<m.getD t 0 then-1 else 1
def sgI(a b:Int):Int:=if a<b then-1 else if a=b then 0 else 1
theorem Zd1{a b:Int}(h:a<b):sgI a b= -1:=if_pos h
theorem Zd0{a b:Int}(h:b<a):sgI a b=1:=by unfold sgI;rw[if_neg (by omega),if_neg (by omega)]
theorem sg_add(a b q:Int):sgI (a+q) (b+q)=sgI a b:=by
 rcases Int.lt_trichotomy a b with h|h|h
 ·rw[Zd1 h,Zd1 (by omega)]
 ·rw[h];unfold sgI;rw[if_neg (by omega),if_pos rfl,if_neg (by omega),if_pos rfl]
 ·rw[Zd0 h,Zd0 (by omega)]
theorem Dy{l m:List Int}(hl:wOk l)(hm:wOk m):∀t,Fq l m t=sgI (Vp (fun j=>l.getD j 0) t) (Vp (fun j=>m.getD j 0) t)
 |0=>rfl
 |t+1=>by
  have ih:=Dy hl hm t
  have r1:=Oh hl t
  have r2:=Oh hm t
  have hp:=Jg t
  simp only[Fq,Vp]
  by_cases he:l.getD t 0=m.getD t 0
  ·rw[if_pos he,ih,he,sg_add]
  ·rw[if_neg he]
   by_cases hlt:l.getD t 0<m.getD t 0
   ·rw[if_pos hlt]
    have:p32 t*(l.getD t 0+1)≤p32 t*m.getD t 0:=Int.mul_le_mul_of_nonneg_left (by omega) (by omega)
    rw[Int.mul_add]at this
    rw[Zd1 (by omega)]
   ·rw[if_neg hlt]
    have:p32 t*(m.getD t 0+1)≤p32 t*l.getD t 0:=Int.mul_le_mul_of_nonneg_left (by omega) (by omega)
    rw[Int.mul_add]at this
    rw[Zd0 (by omega)]
theorem Zef:∀(n x:Nat),x≤n→x≠0→p32 ((wds x).length-1)≤x
 |0,x,h,h0=>by omega
 |n+1,x,h,h0=>by
  rw[Te h0,List.length_cons,Nat.add_sub_cancel]
  by_cases hq:x/4294967296=0
  ·rw[hq,Yk];simp[p32];omega
  ·have ih:=Zef n (x/4294967296) (by omega) hq
   have hl:(wds (x/4294967296)).length≠0:=fun e=>hq (Uv.1 e)
   obtain⟨k,hk⟩:∃k,(wds (x/4294967296)).length=k+1:=⟨_,(Nat.succ_pred_eq_of_ne_zero hl).symm⟩
   rw[hk]at ih ⊢
   rw[Nat.add_sub_cancel]at ih
   simp only[p32];omega
theorem Ld{x y:Nat}(h:(wds x).length<(wds y).length):x<y:=by
 have hy:y≠0:=fun e=>by rw[e,Yk]at h;simp at h
 have h1:=Zef y y (Nat.le_refl _) hy
 have h2:=(Oh (g:=fun j=>(wds x).getD j 0) (Oz x x (Nat.le_refl _)) (wds x).length).2
 rw[←Lr,Om x x (Nat.le_refl _)]at h2
 have h3:=Bj (show(wds x).length≤(wds y).length-1 by omega)
 omega
def cmpI(x y:Nat):Int:=if x<y then-1 else if x=y then 0 else 1
set_option maxHeartbeats 4000000 in
theorem Fr(x y:Nat)(hx:(wds x).length≤1000)(hy:(wds y).length≤1000):RdC Tryz.prog 36 [.ro (.int .u32) (wds x),.ro (.int .u32) (wds y)] (.one (.a (.int .i64 (cmpI x y)))):=by
 refine Su.fn.rd (by simp) (by simp[Zz]) (by simp[Zz]) fun w=> ?_
 have d0:(Kd.int .u32).dflt=(0:Int):=rfl
 have kx:=Oz x x (Nat.le_refl _)
 have ky:=Oz y y (Nat.le_refl _)
 have vx:=Om x x (Nat.le_refl _)
 have vy:=Om y y (Nat.le_refl _)
 have lxy:(wds x).length<(wds y).length→x<y:=Ld
 have lyx:(wds y).length<(wds x).length→y<x:=Ld
 rw[Lr]at vx vy
 generalize wds x=l at*
 generalize wds y=m at*
 have hc:=Dy kx ky l.length
 by_cases hlen:l.length=m.length
 ·have hr:Fq l m l.length=cmpI x y:=by
   rw[hc,vx,hlen,vy]
   unfold cmpI
   rcases Nat.lt_trichotomy x y with h|h|h
   ·rw[if_pos h,Zd1 (by omega)]
   ·subst h;rw[if_neg (by omega),if_pos rfl];unfold sgI;rw[if_neg (by omega),if_pos rfl]
   ·rw[if_neg (by omega),if_neg (by omega),Zd0 (by omega)]
  have hw0:IntKind.i64.wrap ((l.length:Int)-1)=(l.length:Int)-1:=Zm (by omega) (by omega)
  have hl2:((l.length:Nat):Int)=(m.length:Int):=by omega
  have hw2:IntKind.i64.wrap ((m.length:Int)-1)=(m.length:Int)-1:=Zm (by omega) (by omega)
  rw[←hr]
  repeat'(first|(first|refine Stp.h ?_)<;>try simp only[Zd,simprocAttr,↓reduceIte,reduceCtorEq,implies_true,hl2,hw0,decide_true,Bool.not_true]|(with_reducible first|assumption|refine And.intro ?_ ?_)|(intro h;first|omega|exact tg h ‹_›|exact tg ‹_› h|skip))
  all_goals first|omega|skip
  refine T.loop (ι:= {t:Nat//t≤l.length∧Fq l m t=Fq l m l.length}) (fun q=>⟨[(5,.one (.a (.int .i64 ((q.1:Int)-1)))),(0,.one (.a (.ref 0))),(1,.one (.a (.ref 1)))],[(0,.ro (.int .u32) l),(1,.ro (.int .u32) m)],2⟩) (fun q=>q.1) ⟨l.length,Nat.le_refl _,rfl⟩ (Ent.mk1 (id) (by simp[Zy,hlen,hw2])) ?_
  rintro⟨t,ht1,ht2⟩
  simp only
  rcases t with _|t
  ·have hp:¬(0:Int)≤((0:Nat):Int)-1:=by omega
   have hz:Fq l m l.length=0:=ht2.symm
   rw[hz]
   repeat'(first|(first|refine Stp.h ?_)<;>try simp only[Zd,simprocAttr,↓reduceIte,reduceCtorEq,implies_true,hp]|(with_reducible first|assumption|refine And.intro ?_ ?_)|(intro h;first|omega|exact tg h ‹_›|exact tg ‹_› h|skip))
  ·have hp:(0:Int)≤((t+1:Nat):Int)-1:=by omega
   have ht:((t+1:Nat):Int)-1=(t:Int):=by omega
   have hw1:IntKind.i64.wrap ((t:Int)-1)=(t:Int)-1:=Zm (by omega) (by omega)
   have htn:((t:Nat):Int).toNat=t:=by omega
   have t0:(0:Int)≤t:=by omega
   have htl:(t:Int)<l.length:=by omega
   have htl2:t<l.length:=by omega
   have htm:(t:Int)<m.length:=by omega
   have htm2:t<m.length:=by omega
   rw[ht]
   have e3:Fq l m (t+1)=if l.getD t 0=m.getD t 0 then Fq l m t else if l.getD t 0<m.getD t 0 then-1 else 1:=rfl
   rw[e3]at ht2
   by_cases hz:l.getD t 0=m.getD t 0
   ·rw[if_pos hz]at ht2
    repeat'(first|(first|refine Stp.h ?_)<;>try simp only[Zd,simprocAttr,↓reduceIte,reduceCtorEq,implies_true,hw1,t0,htn,htl,htl2,htm,htm2,d0,hz,decide_true,Bool.not_true]|(with_reducible first|assumption|refine And.intro ?_ ?_)|(intro h;first|omega|exact tg h ‹_›|exact tg ‹_› h|skip))
    all_goals first|omega|exact⟨⟨t,by omega,ht2⟩,(Ent.mk1 (id) (by simp[Zy])),by simp only;omega⟩|skip
   ·rw[if_neg hz]at ht2
    rw[←ht2]
    by_cases hlt:l.getD t 0<m.getD t 0
    ·rw[if_pos hlt]
     repeat'(first|(first|refine Stp.h ?_)<;>try simp only[Zd,simprocAttr,↓reduceIte,reduceCtorEq,implies_true,t0,htn,htl,htl2,htm,htm2,d0,hz,hlt,decide_true,decide_false,Bool.not_false]|(with_reducible first|assumption|refine And.intro ?_ ?_)|(intro h;first|omega|exact tg h ‹_›|exact tg ‹_› h|skip))
     all_goals first|omega|skip
    ·rw[if_neg hlt]
     repeat'(first|(first|refine Stp.h ?_)<;>try simp only[Zd,simprocAttr,↓reduceIte,reduceCtorEq,implies_true,t0,htn,htl,htl2,htm,htm2,d0,hz,hlt,decide_true,decide_false,Bool.not_false]|(with_reducible first|assumption|refine And.intro ?_ ?_)|(intro h;first|omega|exact tg h ‹_›|exact tg ‹_› h|skip))
     all_goals first|omega|skip
 ·have hl2:¬((l.length:Nat):Int)=(m.length:Int):=by omega
  by_cases hlt:l.length<m.length
  ·have hr:cmpI x y= -1:=if_pos (lxy hlt)
   have hli:(l.length:Int)<m.length:=by omega
   rw[hr]
   repeat'(first|(first|refine Stp.h ?_)<;>try simp only[Zd,simprocAttr,↓reduceIte,reduceCtorEq,implies_true,hl2,hli,decide_false,decide_true,Bool.not_false]|(with_reducible first|assumption|refine And.intro ?_ ?_)|(intro h;first|omega|exact tg h ‹_›|exact tg ‹_› h|skip))
   all_goals first|omega|skip
  ·have hyx:=lyx (by omega)
   have hr:cmpI x y=1:=by unfold cmpI;rw[if_neg (by omega),if_neg (by omega)]
   have hli:¬(l.length:Int)<m.length:=by omega
   rw[hr]
   repeat'(first|(first|refine Stp.h ?_)<;>try simp only[Zd,simprocAttr,↓reduceIte,reduceCtorEq,implies_true,hl2,hli,decide_false,decide_true,Bool.not_false]|(with_reducible first|assumption|refine And.intro ?_ ?_)|(intro h;first|omega|exact tg h ‹_›|exact tg ‹_› h|skip))
   all_goals first|omega|skip
end Go.Proofs.YtbmecnjmbhokgaaGreatDoor
