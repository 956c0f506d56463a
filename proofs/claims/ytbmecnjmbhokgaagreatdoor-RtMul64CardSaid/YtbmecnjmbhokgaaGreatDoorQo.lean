/- A part of the proofs of this seat's laws: steps on the way, joined. It has no conditions of its own. -/
import Derived.Test.YtbmecnjmbhokgaaGreatDoorQh
import Derived.Test.YtbmecnjmbhokgaaGreatDoorChecked
import Derived.KernelRfl
import Derived.Test.YtbmecnjmbhokgaaGreatDoorQn
import Derived.Test.YtbmecnjmbhokgaaGreatDoorQj
namespace Go.Proofs.YtbmecnjmbhokgaaGreatDoor
open Vc
namespace J4
abbrev r0:List In:=[i1 0 (.mv (.k (.a (.raw (.map none)))))]
abbrev r1:List In:=[i1 1 (.fmk), i0 (.fupd (.t 1) (.k (.a (.str [109,117,108]))) (.k (.a (.raw (.func (.func 88) #[] #[]))))), i0 (.fupd (.t 1) (.k (.a (.str [117,100,105,118]))) (.k (.a (.raw (.func (.func 89) #[] #[]))))), i0 (.fupd (.t 1) (.k (.a (.str [117,114,101,109]))) (.k (.a (.raw (.func (.func 91) #[] #[]))))), i0 (.fupd (.t 1) (.k (.a (.str [115,100,105,118]))) (.k (.a (.raw (.func (.func 92) #[] #[]))))), i0 (.fupd (.t 1) (.k (.a (.str [115,114,101,109]))) (.k (.a (.raw (.func (.func 94) #[] #[]))))), i0 (.fupd (.t 1) (.k (.a (.str [115,104,108]))) (.k (.a (.raw (.func (.func 95) #[] #[]))))), i0 (.fupd (.t 1) (.k (.a (.str [115,104,114]))) (.k (.a (.raw (.func (.func 97) #[] #[]))))), i0 (.fupd (.t 1) (.k (.a (.str [115,97,114]))) (.k (.a (.raw (.func (.func 98) #[] #[]))))), mv 2 1, mv 0 2]
abbrev code:IC:=.seq (.reg r0) (.seq (.reg r1) .ret)
abbrev res:List RV:=[.tmp 0]
theorem fn:Body Tryz.prog 73 3 code res:=⟨by decide,Tryz.f73,_,Tryz.func73,rfl,rfl,by kernel_rfl,by kernel_rfl⟩
end J4
namespace N4
abbrev r0:List In:=[i1 0 (.mv (.k (.a (.raw (.slice none 0 0)))))]
abbrev r1:List In:=[i1 1 (.mv (.k (.a (.raw (.slice none 0 0)))))]
abbrev r2:List In:=[i1 5 (.call 73 []), i1 6 (.frng (.t 5))]
abbrev r3:List In:=[i1 7 (.fnxt (.t 6)), i1 8 (.ext 0 (.t 7))]
abbrev r4:List In:=[i1 9 (.fent (.t 6)), i1 10 (.ext 0 (.t 9)), mv 2 10]
abbrev r5:List In:=[i1 11 (.bsl 9 1 3 [.str [],.str [],.str []] [(0,1,(.k (.a (.str [49])))),(1,1,(.k (.a (.str [50])))),(2,1,(.k (.a (.str [52]))))]), i1 12 (.len (.t 11)), i1 13 (.mv (kI 0))]
abbrev r6:List In:=[i1 14 (.bin .lss (.t 13) (.t 12))]
abbrev r7:List In:=[i1 15 (.iaddr 1 (.t 11) (.t 13)), i1 16 (.load 1 false (.t 15)), mv 4 16]
abbrev r8:List In:=[mv 17 1, mv 18 2, mv 19 4, i1 20 (.bin .add (.t 18) (.t 19)), i1 21 (.bsl 9 1 1 [.str []] [(0,1,(.t 20))]), i1 22 (.app 95 9 1 16 (.t 17) (.t 21)), mv 1 22]
abbrev r9:List In:=[i1 23 (.bin .add (.t 13) (kI 1)), mv 13 23]
abbrev r10:List In:=[mv 24 1, i1 25 (.call 74 [.t 24])]
abbrev r11:List In:=[mv 26 1, mv 0 26]
abbrev code:IC:=.seq (.reg r0) (.seq (.reg r1) (.seq (.seq (.reg r2) (.block 0 (.loop (.seq (.reg r3) (.seq (.cond (.t 8) .skip (.exit 0)) (.block 1 (.seq (.reg r4) (.seq (.reg r5) (.block 2 (.loop (.seq (.reg r6) (.seq (.cond (.t 14) .skip (.exit 2)) (.seq (.block 3 (.seq (.reg r7) (.reg r8))) (.reg r9)))))))))))))) (.seq (.reg r10) (.seq (.reg r11) .ret))))
abbrev res:List RV:=[.tmp 0]
theorem fn:Body Tryz.prog 58 27 code res:=⟨by decide,Tryz.f58,_,Tryz.func58,rfl,rfl,by kernel_rfl,by kernel_rfl⟩
end N4
namespace Gi
abbrev r0:List In:=[i1 2 (.mv (.k (.a (.str [])))), i1 3 (.mv (kI 0))]
abbrev r1:List In:=[i1 6 (.call 58 []), mv 7 0, i1 8 (.call 75 [.t 6,.t 7]), i1 9 (.un .not (.t 8))]
abbrev r2:List In:=[i1 2 (.mv (.k (.a (.str [])))), i1 3 (.mv (kI 7))]
abbrev r3:List In:=[mv 10 0, i1 11 (.slen (.t 10)), i1 12 (.bin .sub (.t 11) (kI 1)), mv 4 12]
abbrev r4:List In:=[mv 13 0, mv 14 4, i1 15 (.sidx (.t 13) (.t 14)), i1 16 (.bin .sub (.t 15) (.k (.a (.int .u8 48)))), i1 17 (.conv .i64 (.t 16)), i1 18 (.build [.raw (.pointer none),.raw (.slice none 0 0),.int .i64 0] [(2,1,(.t 17))]), i1 19 (.box 131 (.t 18)), mv 5 19]
abbrev r5:List In:=[mv 20 5, mv 21 0, i1 22 (.bin .add (.t 21) (.k (.a (.str [58])))), i1 23 (.bsl 9 1 1 [.str []] [(0,1,(.t 22))]), i1 24 (.call 76 [.t 20,.t 23])]
abbrev r6:DT:=(tm 26 0 false
 (tm 27 4 false
 (tk 28 (.ssl (.t 26) none (some (.t 27))) false
 (tm 30 5 false
 (al 25 (.call 73 []) false
 (al 29 (.flook false (.t 25) (.t 28)) false
 (al 31 (.callv (.t 29) [.t 30]) false
 .done
 .stop)
 .stop)
 .stop)))))
abbrev r7:List In:=[mv 32 5, i1 33 (.nchk (.t 32)), i1 34 (.faddr 0 (.t 33)), i1 35 (.call 77 [.t 34]), mv 2 35, i1 3 (.mv (kI 0))]
abbrev code:IC:=.seq (.reg r0) (.seq (.seq (.reg r1) (.cond (.t 9) (.seq (.reg r2) .ret) .skip)) (.seq (.reg r3) (.seq (.reg r4) (.seq (.reg r5) (.seq (.dany r6) (.seq (.reg r7) .ret))))))
abbrev res:List RV:=[.tmp 2,.tmp 3]
theorem fn:Body Tryz.prog 59 36 code res:=⟨by decide,Tryz.f59,_,Tryz.func59,rfl,rfl,by kernel_rfl,by kernel_rfl⟩
end Gi
namespace J2
abbrev r0:List In:=[i1 0 (.mv (.k (.a (.raw (.slice none 0 0)))))]
abbrev r1:List In:=[i1 1 (.mv (.k (.a (.raw (.slice none 0 0)))))]
abbrev r2:List In:=[i1 8 (.call 58 []), i1 9 (.len (.t 8)), i1 10 (.mv (kI 0))]
abbrev r3:List In:=[i1 11 (.bin .lss (.t 10) (.t 9))]
abbrev r4:List In:=[i1 12 (.iaddr 1 (.t 8) (.t 10)), i1 13 (.load 1 false (.t 12)), mv 3 13]
abbrev r5:List In:=[mv 15 3, i1 16 (.call 59 [.t 15]), mv 14 16, i1 17 (.ext 0 (.t 14)), i1 18 (.ext 1 (.t 14)), mv 4 17, mv 5 18]
abbrev r6:List In:=[mv 20 4, i1 21 (.call 60 [.t 20]), mv 19 21, i1 22 (.ext 0 (.t 19)), i1 23 (.ext 1 (.t 19)), i1 7 (.alloc 80 [.int .i64 0,.int .i64 0]), mv 6 22, i0 (.store 2 (.t 7) (.t 23))]
abbrev r7:List In:=[mv 24 1, mv 25 3, mv 26 6, i1 27 (.build [.str [],.raw (.slice none 0 0)] [(0,1,(.t 25)),(1,1,(.t 26))]), i1 28 (.bsl 75 2 1 [.str [],.raw (.slice none 0 0)] [(0,2,(.t 27))]), i1 29 (.app 67 75 2 40 (.t 24) (.t 28)), mv 1 29]
abbrev r8:List In:=[i1 30 (.bin .add (.t 10) (kI 1)), mv 10 30]
abbrev r9:List In:=[mv 31 1, mv 0 31]
abbrev code:IC:=.seq (.reg r0) (.seq (.reg r1) (.seq (.seq (.reg r2) (.block 0 (.loop (.seq (.reg r3) (.seq (.cond (.t 11) .skip (.exit 0)) (.seq (.block 1 (.seq (.reg r4) (.seq (.reg r5) (.seq (.reg r6) (.reg r7))))) (.reg r8))))))) (.seq (.reg r9) .ret)))
abbrev res:List RV:=[.tmp 0]
theorem fn:Body Tryz.prog 42 32 code res:=⟨by decide,Tryz.f42,_,Tryz.func42,rfl,rfl,by kernel_rfl,by kernel_rfl⟩
end J2
namespace T3
abbrev r0:List In:=[mv 6 1, i1 7 (.len (.t 6)), i1 8 (.mv (kI 0))]
abbrev r1:List In:=[i1 9 (.bin .lss (.t 8) (.t 7))]
abbrev r2:List In:=[i1 10 (.iaddr 1 (.t 6) (.t 8)), i1 11 (.load 1 false (.t 10)), mv 5 11]
abbrev r3:List In:=[mv 12 5, i1 13 (.call 102 [.t 12,(.k (.a (.str [58])))]), i1 14 (.un .not (.t 13))]
abbrev r4:List In:=[mv 15 0, i1 16 (.nchk (.t 15)), i1 17 (.faddr 0 (.t 16)), i1 18 (.call 103 [.t 17,(.k (.a (.int .u8 9)))])]
abbrev r5:List In:=[mv 19 0, i1 20 (.nchk (.t 19)), i1 21 (.faddr 0 (.t 20)), mv 22 5, i1 23 (.bin .add (.t 22) (.k (.a (.str [10])))), i1 24 (.call 104 [.t 21,.t 23])]
abbrev r6:List In:=[i1 25 (.bin .add (.t 8) (kI 1)), mv 8 25]
abbrev code:IC:=.seq (.reg r0) (.block 0 (.loop (.seq (.reg r1) (.seq (.cond (.t 9) .skip (.exit 0)) (.seq (.block 1 (.seq (.reg r2) (.seq (.seq (.reg r3) (.cond (.t 14) (.reg r4) .skip)) (.reg r5)))) (.reg r6))))))
abbrev res:List RV:=[]
theorem fn:Body Tryz.prog 76 26 code res:=⟨by decide,Tryz.f76,_,Tryz.func76,rfl,rfl,by kernel_rfl,by kernel_rfl⟩
end T3
namespace Dv
abbrev r0:List In:=[i1 4 (.mv (.k (.a (.str []))))]
abbrev r1:List In:=[mv 7 1, i1 8 (.len (.t 7)), i1 9 (.mv (kI 0))]
abbrev r2:List In:=[i1 10 (.bin .lss (.t 9) (.t 8))]
abbrev r3:List In:=[i1 11 (.iaddr 1 (.t 7) (.t 9)), i1 12 (.load 1 false (.t 11)), mv 6 12]
abbrev r4:List In:=[mv 13 0, mv 14 6, i1 15 (.call 167 [.t 14]), i1 16 (.call 166 [.t 13,(.k (.a (.str [37,100]))),.t 15,kI 1]), mv 0 16]
abbrev r5:List In:=[i1 17 (.bin .add (.t 9) (kI 1)), mv 9 17]
abbrev r6:List In:=[mv 18 0, mv 4 18]
abbrev code:IC:=.seq (.reg r0) (.seq (.seq (.reg r1) (.block 0 (.loop (.seq (.reg r2) (.seq (.cond (.t 10) .skip (.exit 0)) (.seq (.block 1 (.seq (.reg r3) (.reg r4))) (.reg r5))))))) (.seq (.reg r6) .ret))
abbrev res:List RV:=[.tmp 4]
theorem fn:Body Tryz.prog 128 19 code res:=⟨by decide,Tryz.f128,_,Tryz.func128,rfl,rfl,by kernel_rfl,by kernel_rfl⟩
end Dv
namespace J3
abbrev r0:List In:=[i1 6 (.mv (.k (.a (.str []))))]
abbrev r1:List In:=[mv 7 2, i1 8 (.bin .eql (.t 7) (kI 0))]
abbrev r2:List In:=[mv 9 0, mv 6 9]
abbrev r3:List In:=[mv 10 1, mv 6 10]
abbrev code:IC:=.seq (.reg r0) (.seq (.seq (.reg r1) (.cond (.t 8) (.seq (.reg r2) .ret) .skip)) (.seq (.reg r3) .ret))
abbrev res:List RV:=[.tmp 6]
theorem fn:Body Tryz.prog 168 11 code res:=⟨by decide,Tryz.f168,_,Tryz.func168,rfl,rfl,by kernel_rfl,by kernel_rfl⟩
end J3
namespace S8
abbrev r0:List In:=[mv 13 0, i1 14 (.nchk (.t 13)), i1 15 (.faddr 2 (.t 14)), i1 16 (.load 1 false (.t 15)), i1 17 (.mv (kI 0))]
abbrev r1:List In:=[i1 18 (.bin .lss (.t 17) (.t 16))]
abbrev r2:List In:=[mv 19 17, mv 12 19]
abbrev r3:List In:=[mv 20 0, mv 21 1, mv 22 2, mv 23 12, i1 24 (.bin .add (.t 22) (.t 23)), i1 25 (.bsl 3 1 2 [.int .i64 0,.int .i64 0] [(0,1,(.t 21)),(1,1,(.t 24))]), i1 26 (.call 128 [(.k (.a (.str [108,100,32,114,50,44,32,114,37,100,44,32,37,100]))),.t 25]), i1 27 (.bsl 9 1 1 [.str []] [(0,1,(.t 26))]), i1 28 (.call 76 [.t 20,.t 27])]
abbrev r4:List In:=[mv 29 0, mv 30 3, mv 31 4, mv 32 12, i1 33 (.call 168 [.t 30,.t 31,.t 32]), i1 34 (.bin .add (.t 33) (.k (.a (.str [32,114,50])))), mv 35 5, i1 36 (.bin .add (.t 34) (.t 35)), i1 37 (.bsl 9 1 1 [.str []] [(0,1,(.t 36))]), i1 38 (.call 76 [.t 29,.t 37])]
abbrev r5:List In:=[mv 39 0, mv 40 1, mv 41 2, mv 42 12, i1 43 (.bin .add (.t 41) (.t 42)), i1 44 (.bsl 3 1 2 [.int .i64 0,.int .i64 0] [(0,1,(.t 40)),(1,1,(.t 43))]), i1 45 (.call 128 [(.k (.a (.str [115,116,32,114,37,100,44,32,114,50,44,32,37,100]))),.t 44]), i1 46 (.bsl 9 1 1 [.str []] [(0,1,(.t 45))]), i1 47 (.call 76 [.t 39,.t 46])]
abbrev r6:List In:=[i1 48 (.bin .add (.t 17) (kI 1)), mv 17 48]
abbrev code:IC:=.seq (.reg r0) (.block 0 (.loop (.seq (.reg r1) (.seq (.cond (.t 18) .skip (.exit 0)) (.seq (.block 1 (.seq (.reg r2) (.seq (.reg r3) (.seq (.reg r4) (.reg r5))))) (.reg r6))))))
abbrev res:List RV:=[]
theorem fn:Body Tryz.prog 131 49 code res:=⟨by decide,Tryz.f131,_,Tryz.func131,rfl,rfl,by kernel_rfl,by kernel_rfl⟩
end S8
namespace Qq
abbrev r0:List In:=[mv 8 0, i1 9 (.nchk (.t 8)), i1 10 (.faddr 2 (.t 9)), i1 11 (.load 1 false (.t 10)), i1 12 (.mv (kI 0))]
abbrev r1:List In:=[i1 13 (.bin .lss (.t 12) (.t 11))]
abbrev r2:List In:=[mv 14 12, mv 6 14]
abbrev r3:List In:=[mv 15 0, i1 16 (.nchk (.t 15)), i1 17 (.faddr 2 (.t 16)), i1 18 (.load 1 false (.t 17)), i1 19 (.bin .sub (.t 18) (kI 1)), mv 20 6, i1 21 (.bin .sub (.t 19) (.t 20)), mv 7 21]
abbrev r4:List In:=[mv 22 0, mv 23 1, mv 24 7, i1 25 (.bsl 3 1 2 [.int .i64 0,.int .i64 0] [(0,1,(.t 23)),(1,1,(.t 24))]), i1 26 (.call 128 [(.k (.a (.str [108,100,32,114,50,44,32,114,37,100,44,32,37,100]))),.t 25]), mv 27 2, mv 28 6, i1 29 (.call 168 [.t 27,(.k (.a (.str [114,111,114]))),.t 28]), i1 30 (.bin .add (.t 29) (.k (.a (.str [32,114,50])))), mv 31 1, mv 32 7, i1 33 (.bsl 3 1 2 [.int .i64 0,.int .i64 0] [(0,1,(.t 31)),(1,1,(.t 32))]), i1 34 (.call 128 [(.k (.a (.str [115,116,32,114,37,100,44,32,114,50,44,32,37,100]))),.t 33]), i1 35 (.bsl 9 1 3 [.str [],.str [],.str []] [(0,1,(.t 26)),(1,1,(.t 30)),(2,1,(.t 34))]), i1 36 (.call 76 [.t 22,.t 35])]
abbrev r5:List In:=[i1 37 (.bin .add (.t 12) (kI 1)), mv 12 37]
abbrev code:IC:=.seq (.reg r0) (.block 0 (.loop (.seq (.reg r1) (.seq (.cond (.t 13) .skip (.exit 0)) (.seq (.block 1 (.seq (.reg r2) (.seq (.reg r3) (.reg r4)))) (.reg r5))))))
abbrev res:List RV:=[]
theorem fn:Body Tryz.prog 129 38 code res:=⟨by decide,Tryz.f129,_,Tryz.func129,rfl,rfl,by kernel_rfl,by kernel_rfl⟩
end Qq
namespace Qp
abbrev r0:List In:=[mv 15 0, i1 16 (.nchk (.t 15)), i1 17 (.faddr 2 (.t 16)), i1 18 (.load 1 false (.t 17)), i1 19 (.mv (kI 0))]
abbrev r1:List In:=[i1 20 (.bin .lss (.t 19) (.t 18))]
abbrev r2:List In:=[mv 21 19, mv 14 21]
abbrev r3:List In:=[mv 22 0, mv 23 1, mv 24 14, i1 25 (.bsl 3 1 2 [.int .i64 0,.int .i64 0] [(0,1,(.t 23)),(1,1,(.t 24))]), i1 26 (.call 128 [(.k (.a (.str [108,100,32,114,50,44,32,114,37,100,44,32,37,100]))),.t 25]), mv 27 2, mv 28 3, mv 29 14, i1 30 (.bin .add (.t 28) (.t 29)), i1 31 (.bsl 3 1 2 [.int .i64 0,.int .i64 0] [(0,1,(.t 27)),(1,1,(.t 30))]), i1 32 (.call 128 [(.k (.a (.str [108,100,32,114,52,44,32,114,37,100,44,32,37,100]))),.t 31]), mv 33 4, mv 34 5, mv 35 14, i1 36 (.call 168 [.t 33,.t 34,.t 35]), i1 37 (.bin .add (.t 36) (.k (.a (.str [32,114,50,44,32,114,52])))), i1 38 (.bsl 9 1 3 [.str [],.str [],.str []] [(0,1,(.t 26)),(1,1,(.t 32)),(2,1,(.t 37))]), i1 39 (.call 76 [.t 22,.t 38])]
abbrev r4:List In:=[mv 40 6]
abbrev r5:List In:=[mv 41 0, mv 42 1, mv 43 14, i1 44 (.bsl 3 1 2 [.int .i64 0,.int .i64 0] [(0,1,(.t 42)),(1,1,(.t 43))]), i1 45 (.call 128 [(.k (.a (.str [115,116,32,114,37,100,44,32,114,50,44,32,37,100]))),.t 44]), i1 46 (.bsl 9 1 1 [.str []] [(0,1,(.t 45))]), i1 47 (.call 76 [.t 41,.t 46])]
abbrev r6:List In:=[i1 48 (.bin .add (.t 19) (kI 1)), mv 19 48]
abbrev code:IC:=.seq (.reg r0) (.block 0 (.loop (.seq (.reg r1) (.seq (.cond (.t 20) .skip (.exit 0)) (.seq (.block 1 (.seq (.reg r2) (.seq (.reg r3) (.seq (.reg r4) (.cond (.t 40) (.reg r5) .skip))))) (.reg r6))))))
abbrev res:List RV:=[]
theorem fn:Body Tryz.prog 130 49 code res:=⟨by decide,Tryz.f130,_,Tryz.func130,rfl,rfl,by kernel_rfl,by kernel_rfl⟩
end Qp
namespace S9
abbrev r0:List In:=[mv 5 0, i1 6 (.nchk (.t 5)), i1 7 (.faddr 2 (.t 6)), i1 8 (.load 1 false (.t 7)), i1 9 (.mv (kI 0))]
abbrev r1:List In:=[i1 10 (.bin .lss (.t 9) (.t 8))]
abbrev r2:List In:=[mv 11 9, mv 4 11]
abbrev r3:List In:=[mv 12 0, mv 13 1, mv 14 0, i1 15 (.nchk (.t 14)), i1 16 (.faddr 2 (.t 15)), i1 17 (.load 1 false (.t 16)), i1 18 (.bin .sub (.t 17) (kI 1)), mv 19 4, i1 20 (.bin .sub (.t 18) (.t 19)), i1 21 (.bsl 3 1 2 [.int .i64 0,.int .i64 0] [(0,1,(.t 13)),(1,1,(.t 20))]), i1 22 (.call 128 [(.k (.a (.str [108,100,32,114,50,44,32,114,37,100,44,32,37,100]))),.t 21]), i1 23 (.bsl 9 1 2 [.str [],.str []] [(0,1,(.t 22)),(1,1,(.k (.a (.str [112,117,115,104,32,114,50]))))]), i1 24 (.call 76 [.t 12,.t 23])]
abbrev r4:List In:=[i1 25 (.bin .add (.t 9) (kI 1)), mv 9 25]
abbrev code:IC:=.seq (.reg r0) (.block 0 (.loop (.seq (.reg r1) (.seq (.cond (.t 10) .skip (.exit 0)) (.seq (.block 1 (.seq (.reg r2) (.reg r3))) (.reg r4))))))
abbrev res:List RV:=[]
theorem fn:Body Tryz.prog 127 26 code res:=⟨by decide,Tryz.f127,_,Tryz.func127,rfl,rfl,by kernel_rfl,by kernel_rfl⟩
end S9
namespace Ra
abbrev r0:List In:=[mv 5 0, i1 6 (.nchk (.t 5)), i1 7 (.faddr 2 (.t 6)), i1 8 (.load 1 false (.t 7)), i1 9 (.mv (kI 0))]
abbrev r1:List In:=[i1 10 (.bin .lss (.t 9) (.t 8))]
abbrev r2:List In:=[mv 11 9, mv 4 11]
abbrev r3:List In:=[mv 12 0, mv 13 1, mv 14 4, i1 15 (.bsl 3 1 2 [.int .i64 0,.int .i64 0] [(0,1,(.t 13)),(1,1,(.t 14))]), i1 16 (.call 128 [(.k (.a (.str [108,100,32,114,50,44,32,114,37,100,44,32,37,100]))),.t 15]), mv 17 4, i1 18 (.call 168 [(.k (.a (.str [115,117,98]))),(.k (.a (.str [115,98,99]))),.t 17]), i1 19 (.bin .add (.t 18) (.k (.a (.str [32,114,52,44,32,114,50])))), mv 20 1, mv 21 4, i1 22 (.bsl 3 1 2 [.int .i64 0,.int .i64 0] [(0,1,(.t 20)),(1,1,(.t 21))]), i1 23 (.call 128 [(.k (.a (.str [115,116,32,114,37,100,44,32,114,52,44,32,37,100]))),.t 22]), i1 24 (.bsl 9 1 4 [.str [],.str [],.str [],.str []] [(0,1,(.k (.a (.str [108,100,105,32,114,52,44,32,48])))),(1,1,(.t 16)),(2,1,(.t 19)),(3,1,(.t 23))]), i1 25 (.call 76 [.t 12,.t 24])]
abbrev r4:List In:=[i1 26 (.bin .add (.t 9) (kI 1)), mv 9 26]
abbrev code:IC:=.seq (.reg r0) (.block 0 (.loop (.seq (.reg r1) (.seq (.cond (.t 10) .skip (.exit 0)) (.seq (.block 1 (.seq (.reg r2) (.reg r3))) (.reg r4))))))
abbrev res:List RV:=[]
theorem fn:Body Tryz.prog 135 27 code res:=⟨by decide,Tryz.f135,_,Tryz.func135,rfl,rfl,by kernel_rfl,by kernel_rfl⟩
end Ra
namespace Qr
abbrev r0:List In:=[mv 4 0, mv 5 1, i1 6 (.bsl 3 1 1 [.int .i64 0] [(0,1,(.t 5))]), i1 7 (.call 128 [(.k (.a (.str [108,100,105,32,114,50,44,32,37,100]))),.t 6]), i1 8 (.bsl 9 1 3 [.str [],.str [],.str []] [(0,1,(.t 7)),(1,1,(.k (.a (.str [97,100,100,32,114,55,44,32,114,50])))),(2,1,(.k (.a (.str [114,101,116]))))]), i1 9 (.call 76 [.t 4,.t 8])]
abbrev code:IC:=(.reg r0)
abbrev res:List RV:=[]
theorem fn:Body Tryz.prog 133 10 code res:=⟨by decide,Tryz.f133,_,Tryz.func133,rfl,rfl,by kernel_rfl,by kernel_rfl⟩
end Qr
namespace R3
abbrev r0:List In:=[mv 2 0, i1 3 (.bsl 9 1 3 [.str [],.str [],.str []] [(0,1,(.k (.a (.str [108,100,105,32,114,52,44,32,49])))),(1,1,(.k (.a (.str [115,117,98,32,114,51,44,32,114,52])))),(2,1,(.k (.a (.str [106,110,122,32,46,108,111,111,112]))))]), i1 4 (.call 76 [.t 2,.t 3])]
abbrev code:IC:=(.reg r0)
abbrev res:List RV:=[]
theorem fn:Body Tryz.prog 132 5 code res:=⟨by decide,Tryz.f132,_,Tryz.func132,rfl,rfl,by kernel_rfl,by kernel_rfl⟩
end R3
namespace Tp
abbrev r0:List In:=[mv 8 0, mv 9 1, mv 10 2, i1 11 (.bsl 3 1 2 [.int .i64 0,.int .i64 0] [(0,1,(.t 9)),(1,1,(.t 10))]), i1 12 (.call 128 [(.k (.a (.str [108,100,32,114,50,44,32,114,37,100,44,32,37,100]))),.t 11]), mv 13 3, i1 14 (.bin .add (.k (.a (.str [106,110,99,32]))) (.t 13)), i1 15 (.bsl 9 1 3 [.str [],.str [],.str []] [(0,1,(.t 12)),(1,1,(.k (.a (.str [115,104,108,32,114,50])))),(2,1,(.t 14))]), i1 16 (.call 76 [.t 8,.t 15])]
abbrev code:IC:=(.reg r0)
abbrev res:List RV:=[]
theorem fn:Body Tryz.prog 134 17 code res:=⟨by decide,Tryz.f134,_,Tryz.func134,rfl,rfl,by kernel_rfl,by kernel_rfl⟩
end Tp
namespace T2
abbrev r0:List In:=[mv 3 0, i1 4 (.call 127 [.t 3,kI 0])]
abbrev r1:List In:=[mv 5 0, i1 6 (.call 127 [.t 5,kI 1])]
abbrev r2:List In:=[mv 7 0, i1 8 (.bsl 9 1 1 [.str []] [(0,1,(.k (.a (.str [108,100,105,32,114,50,44,32,48]))))]), i1 9 (.call 76 [.t 7,.t 8])]
abbrev r3:List In:=[mv 10 0, i1 11 (.nchk (.t 10)), i1 12 (.faddr 2 (.t 11)), i1 13 (.load 1 false (.t 12)), i1 14 (.mv (kI 0))]
abbrev r4:List In:=[i1 15 (.bin .lss (.t 14) (.t 13))]
abbrev r5:List In:=[mv 16 14, mv 2 16]
abbrev r6:List In:=[mv 17 0, mv 18 2, i1 19 (.bsl 3 1 1 [.int .i64 0] [(0,1,(.t 18))]), i1 20 (.call 128 [(.k (.a (.str [115,116,32,114,48,44,32,114,50,44,32,37,100]))),.t 19]), i1 21 (.bsl 9 1 1 [.str []] [(0,1,(.t 20))]), i1 22 (.call 76 [.t 17,.t 21])]
abbrev r7:List In:=[i1 23 (.bin .add (.t 14) (kI 1)), mv 14 23]
abbrev r8:List In:=[mv 24 0, mv 25 0, i1 26 (.nchk (.t 25)), i1 27 (.faddr 2 (.t 26)), i1 28 (.load 1 false (.t 27)), i1 29 (.bin .mul (kI 16) (.t 28)), i1 30 (.bsl 3 1 1 [.int .i64 0] [(0,1,(.t 29))]), i1 31 (.call 128 [(.k (.a (.str [108,100,105,32,114,51,44,32,37,100]))),.t 30]), i1 32 (.bsl 9 1 2 [.str [],.str []] [(0,1,(.t 31)),(1,1,(.k (.a (.str [46,108,111,111,112,58]))))]), i1 33 (.call 76 [.t 24,.t 32])]
abbrev r9:List In:=[mv 34 0, i1 35 (.call 129 [.t 34,kI 7,(.k (.a (.str [115,104,114])))])]
abbrev r10:List In:=[mv 36 0, i1 37 (.bsl 9 1 1 [.str []] [(0,1,(.k (.a (.str [106,110,99,32,46,115,107,105,112]))))]), i1 38 (.call 76 [.t 36,.t 37])]
abbrev r11:List In:=[mv 39 0, mv 40 0, i1 41 (.nchk (.t 40)), i1 42 (.faddr 2 (.t 41)), i1 43 (.load 1 false (.t 42)), i1 44 (.call 130 [.t 39,kI 0,kI 7,.t 43,(.k (.a (.str [97,100,100]))),(.k (.a (.str [97,100,99]))),kB true])]
abbrev r12:List In:=[mv 45 0, i1 46 (.bsl 9 1 1 [.str []] [(0,1,(.k (.a (.str [46,115,107,105,112,58]))))]), i1 47 (.call 76 [.t 45,.t 46])]
abbrev r13:List In:=[mv 48 0, mv 49 0, i1 50 (.nchk (.t 49)), i1 51 (.faddr 2 (.t 50)), i1 52 (.load 1 false (.t 51)), i1 53 (.call 131 [.t 48,kI 7,.t 52,(.k (.a (.str [115,104,108]))),(.k (.a (.str [114,111,108]))),(.k (.a (.str [])))])]
abbrev r14:List In:=[mv 54 0, i1 55 (.call 132 [.t 54])]
abbrev r15:List In:=[mv 56 0, mv 57 0, i1 58 (.nchk (.t 57)), i1 59 (.faddr 2 (.t 58)), i1 60 (.load 1 false (.t 59)), i1 61 (.bin .mul (kI 2) (.t 60)), i1 62 (.call 133 [.t 56,.t 61])]
abbrev code:IC:=.seq (.reg r0) (.seq (.reg r1) (.seq (.reg r2) (.seq (.seq (.reg r3) (.block 0 (.loop (.seq (.reg r4) (.seq (.cond (.t 15) .skip (.exit 0)) (.seq (.block 1 (.seq (.reg r5) (.reg r6))) (.reg r7))))))) (.seq (.reg r8) (.seq (.reg r9) (.seq (.reg r10) (.seq (.reg r11) (.seq (.reg r12) (.seq (.reg r13) (.seq (.reg r14) (.reg r15)))))))))))
abbrev res:List RV:=[]
theorem fn:Body Tryz.prog 88 63 code res:=⟨by decide,Tryz.f88,_,Tryz.func88,rfl,rfl,by kernel_rfl,by kernel_rfl⟩
theorem enters:Xt Tryz.prog 88=true:=by kernel_rfl
end T2
namespace T1
abbrev r0:List In:=[mv 6 0, i1 7 (.bsl 9 1 1 [.str []] [(0,1,(.k (.a (.str [108,100,32,114,50,44,32,114,49,44,32,48]))))]), i1 8 (.call 76 [.t 6,.t 7])]
abbrev r1:List In:=[i1 4 (.mv (kI 1))]
abbrev r2:List In:=[mv 9 4, mv 10 0, i1 11 (.nchk (.t 10)), i1 12 (.faddr 2 (.t 11)), i1 13 (.load 1 false (.t 12)), i1 14 (.bin .lss (.t 9) (.t 13))]
abbrev r3:List In:=[mv 17 0, mv 18 4, i1 19 (.bsl 3 1 1 [.int .i64 0] [(0,1,(.t 18))]), i1 20 (.call 128 [(.k (.a (.str [108,100,32,114,52,44,32,114,49,44,32,37,100]))),.t 19]), i1 21 (.bsl 9 1 2 [.str [],.str []] [(0,1,(.t 20)),(1,1,(.k (.a (.str [111,114,32,114,50,44,32,114,52]))))]), i1 22 (.call 76 [.t 17,.t 21])]
abbrev r4:List In:=[mv 15 4, i1 16 (.bin .add (.t 15) (kI 1)), mv 4 16]
abbrev r5:List In:=[mv 23 0, i1 24 (.bsl 9 1 6 [.str [],.str [],.str [],.str [],.str [],.str []] [(0,1,(.k (.a (.str [108,100,105,32,114,52,44,32,48])))),(1,1,(.k (.a (.str [99,109,112,32,114,50,44,32,114,52])))),(2,1,(.k (.a (.str [106,110,122,32,46,111,107])))),(3,1,(.k (.a (.str [116,114,97,112,32,49])))),(4,1,(.k (.a (.str [46,111,107,58])))),(5,1,(.k (.a (.str [108,100,105,32,114,50,44,32,48]))))]), i1 25 (.call 76 [.t 23,.t 24])]
abbrev r6:List In:=[mv 26 0, i1 27 (.nchk (.t 26)), i1 28 (.faddr 2 (.t 27)), i1 29 (.load 1 false (.t 28)), i1 30 (.mv (kI 0))]
abbrev r7:List In:=[i1 31 (.bin .lss (.t 30) (.t 29))]
abbrev r8:List In:=[mv 32 0, i1 33 (.bsl 9 1 1 [.str []] [(0,1,(.k (.a (.str [112,117,115,104,32,114,50]))))]), i1 34 (.call 76 [.t 32,.t 33])]
abbrev r9:List In:=[i1 35 (.bin .add (.t 30) (kI 1)), mv 30 35]
abbrev r10:List In:=[mv 36 0, mv 37 0, i1 38 (.nchk (.t 37)), i1 39 (.faddr 2 (.t 38)), i1 40 (.load 1 false (.t 39)), i1 41 (.bin .mul (kI 16) (.t 40)), i1 42 (.bsl 3 1 1 [.int .i64 0] [(0,1,(.t 41))]), i1 43 (.call 128 [(.k (.a (.str [108,100,105,32,114,51,44,32,37,100]))),.t 42]), i1 44 (.bsl 9 1 2 [.str [],.str []] [(0,1,(.t 43)),(1,1,(.k (.a (.str [46,108,111,111,112,58]))))]), i1 45 (.call 76 [.t 36,.t 44])]
abbrev r11:List In:=[mv 46 0, i1 47 (.call 131 [.t 46,kI 0,kI 0,(.k (.a (.str [115,104,108]))),(.k (.a (.str [114,111,108]))),(.k (.a (.str [])))])]
abbrev r12:List In:=[mv 48 0, i1 49 (.call 131 [.t 48,kI 7,kI 0,(.k (.a (.str [114,111,108]))),(.k (.a (.str [114,111,108]))),(.k (.a (.str [])))])]
abbrev r13:List In:=[mv 50 0, i1 51 (.bsl 9 1 1 [.str []] [(0,1,(.k (.a (.str [106,99,32,46,116,97,107,101]))))]), i1 52 (.call 76 [.t 50,.t 51])]
abbrev r14:List In:=[mv 53 0, i1 54 (.call 130 [.t 53,kI 7,kI 1,kI 0,(.k (.a (.str [99,109,112]))),(.k (.a (.str [99,112,99]))),kB false])]
abbrev r15:List In:=[mv 55 0, i1 56 (.bsl 9 1 2 [.str [],.str []] [(0,1,(.k (.a (.str [106,99,32,46,110,101,120,116])))),(1,1,(.k (.a (.str [46,116,97,107,101,58]))))]), i1 57 (.call 76 [.t 55,.t 56])]
abbrev r16:List In:=[mv 58 0, i1 59 (.call 130 [.t 58,kI 7,kI 1,kI 0,(.k (.a (.str [115,117,98]))),(.k (.a (.str [115,98,99]))),kB true])]
abbrev r17:List In:=[mv 60 0, i1 61 (.bsl 9 1 5 [.str [],.str [],.str [],.str [],.str []] [(0,1,(.k (.a (.str [108,100,32,114,50,44,32,114,48,44,32,48])))),(1,1,(.k (.a (.str [108,100,105,32,114,52,44,32,49])))),(2,1,(.k (.a (.str [111,114,32,114,50,44,32,114,52])))),(3,1,(.k (.a (.str [115,116,32,114,48,44,32,114,50,44,32,48])))),(4,1,(.k (.a (.str [46,110,101,120,116,58]))))]), i1 62 (.call 76 [.t 60,.t 61])]
abbrev r18:List In:=[mv 63 0, i1 64 (.call 132 [.t 63])]
abbrev r19:List In:=[i1 5 (.mv (kI 0))]
abbrev r20:List In:=[mv 65 5, mv 66 0, i1 67 (.nchk (.t 66)), i1 68 (.faddr 2 (.t 67)), i1 69 (.load 1 false (.t 68)), i1 70 (.bin .lss (.t 65) (.t 69)), mv 71 70, i2 71 true 72 (.mv (.t 1)), i1 73 (.pick (.t 71) (.t 72) (kB false))]
abbrev r21:List In:=[mv 76 0, mv 77 5, i1 78 (.bsl 3 1 1 [.int .i64 0] [(0,1,(.t 77))]), i1 79 (.call 128 [(.k (.a (.str [108,100,32,114,50,44,32,114,55,44,32,37,100]))),.t 78]), mv 80 5, i1 81 (.bsl 3 1 1 [.int .i64 0] [(0,1,(.t 80))]), i1 82 (.call 128 [(.k (.a (.str [115,116,32,114,48,44,32,114,50,44,32,37,100]))),.t 81]), i1 83 (.bsl 9 1 2 [.str [],.str []] [(0,1,(.t 79)),(1,1,(.t 82))]), i1 84 (.call 76 [.t 76,.t 83])]
abbrev r22:List In:=[mv 74 5, i1 75 (.bin .add (.t 74) (kI 1)), mv 5 75]
abbrev r23:List In:=[mv 85 0, mv 86 0, i1 87 (.nchk (.t 86)), i1 88 (.faddr 2 (.t 87)), i1 89 (.load 1 false (.t 88)), i1 90 (.call 133 [.t 85,.t 89])]
abbrev code:IC:=.seq (.reg r0) (.seq (.seq (.reg r1) (.block 0 (.loop (.seq (.seq (.reg r2) (.cond (.t 14) .skip (.exit 0))) (.seq (.block 1 (.reg r3)) (.reg r4)))))) (.seq (.reg r5) (.seq (.seq (.reg r6) (.block 2 (.loop (.seq (.reg r7) (.seq (.cond (.t 31) .skip (.exit 2)) (.seq (.block 3 (.reg r8)) (.reg r9))))))) (.seq (.reg r10) (.seq (.reg r11) (.seq (.reg r12) (.seq (.reg r13) (.seq (.reg r14) (.seq (.reg r15) (.seq (.reg r16) (.seq (.reg r17) (.seq (.reg r18) (.seq (.seq (.reg r19) (.block 4 (.loop (.seq (.seq (.reg r20) (.cond (.t 73) .skip (.exit 4))) (.seq (.block 5 (.reg r21)) (.reg r22)))))) (.reg r23))))))))))))))
abbrev res:List RV:=[]
theorem fn:Body Tryz.prog 90 91 code res:=⟨by decide,Tryz.f90,_,Tryz.func90,rfl,rfl,by kernel_rfl,by kernel_rfl⟩
end T1
namespace V2
abbrev r0:List In:=[mv 4 0, mv 5 0, i1 6 (.nchk (.t 5)), i1 7 (.faddr 2 (.t 6)), i1 8 (.load 1 false (.t 7)), i1 9 (.bin .sub (.t 8) (kI 1)), i1 10 (.bsl 3 1 1 [.int .i64 0] [(0,1,(.t 9))]), i1 11 (.call 128 [(.k (.a (.str [108,100,32,114,53,44,32,114,48,44,32,37,100]))),.t 10]), i1 12 (.bsl 9 1 1 [.str []] [(0,1,(.t 11))]), i1 13 (.call 76 [.t 4,.t 12])]
abbrev r1:List In:=[mv 14 1, i1 15 (.un .not (.t 14))]
abbrev r2:List In:=[mv 16 0, mv 17 0, i1 18 (.nchk (.t 17)), i1 19 (.faddr 2 (.t 18)), i1 20 (.load 1 false (.t 19)), i1 21 (.bin .sub (.t 20) (kI 1)), i1 22 (.bsl 3 1 1 [.int .i64 0] [(0,1,(.t 21))]), i1 23 (.call 128 [(.k (.a (.str [108,100,32,114,50,44,32,114,49,44,32,37,100]))),.t 22]), i1 24 (.bsl 9 1 2 [.str [],.str []] [(0,1,(.t 23)),(1,1,(.k (.a (.str [120,111,114,32,114,53,44,32,114,50]))))]), i1 25 (.call 76 [.t 16,.t 24])]
abbrev r3:List In:=[mv 26 0, i1 27 (.bsl 9 1 1 [.str []] [(0,1,(.k (.a (.str [112,117,115,104,32,114,53]))))]), i1 28 (.call 76 [.t 26,.t 27])]
abbrev r4:List In:=[mv 29 0, i1 30 (.call 127 [.t 29,kI 1])]
abbrev r5:List In:=[mv 31 0, i1 32 (.bsl 9 1 1 [.str []] [(0,1,(.k (.a (.str [109,111,118,32,114,49,44,32,114,55]))))]), i1 33 (.call 76 [.t 31,.t 32])]
abbrev r6:List In:=[mv 34 0, mv 35 0, i1 36 (.nchk (.t 35)), i1 37 (.faddr 2 (.t 36)), i1 38 (.load 1 false (.t 37)), i1 39 (.bin .sub (.t 38) (kI 1)), i1 40 (.call 134 [.t 34,kI 1,.t 39,(.k (.a (.str [46,111,118,101,114])))])]
abbrev r7:List In:=[mv 41 0, i1 42 (.call 135 [.t 41,kI 1])]
abbrev r8:List In:=[mv 43 0, i1 44 (.bsl 9 1 1 [.str []] [(0,1,(.k (.a (.str [46,111,118,101,114,58]))))]), i1 45 (.call 76 [.t 43,.t 44])]
abbrev r9:List In:=[mv 46 0, mv 47 0, i1 48 (.nchk (.t 47)), i1 49 (.faddr 2 (.t 48)), i1 50 (.load 1 false (.t 49)), i1 51 (.bin .sub (.t 50) (kI 1)), i1 52 (.call 134 [.t 46,kI 0,.t 51,(.k (.a (.str [46,98,111,116,104])))])]
abbrev r10:List In:=[mv 53 0, i1 54 (.call 135 [.t 53,kI 0])]
abbrev r11:List In:=[mv 55 0, i1 56 (.bsl 9 1 1 [.str []] [(0,1,(.k (.a (.str [46,98,111,116,104,58]))))]), i1 57 (.call 76 [.t 55,.t 56])]
abbrev r12:List In:=[mv 58 1]
abbrev r13:List In:=[mv 59 0, mv 60 0, i1 61 (.nchk (.t 60)), i1 62 (.faddr 2 (.t 61)), i1 63 (.load 1 false (.t 62)), i1 64 (.bsl 3 1 1 [.int .i64 0] [(0,1,(.t 63))]), i1 65 (.call 128 [(.k (.a (.str [99,97,108,108,32,117,114,101,109,37,100]))),.t 64]), i1 66 (.bsl 9 1 1 [.str []] [(0,1,(.t 65))]), i1 67 (.call 76 [.t 59,.t 66])]
abbrev r14:List In:=[mv 68 0, mv 69 0, i1 70 (.nchk (.t 69)), i1 71 (.faddr 2 (.t 70)), i1 72 (.load 1 false (.t 71)), i1 73 (.bsl 3 1 1 [.int .i64 0] [(0,1,(.t 72))]), i1 74 (.call 128 [(.k (.a (.str [99,97,108,108,32,117,100,105,118,37,100]))),.t 73]), i1 75 (.bsl 9 1 1 [.str []] [(0,1,(.t 74))]), i1 76 (.call 76 [.t 68,.t 75])]
abbrev r15:List In:=[mv 77 0, mv 78 0, i1 79 (.nchk (.t 78)), i1 80 (.faddr 2 (.t 79)), i1 81 (.load 1 false (.t 80)), i1 82 (.call 134 [.t 77,kI 7,.t 81,(.k (.a (.str [46,100,111,110,101])))])]
abbrev r16:List In:=[mv 83 0, i1 84 (.call 135 [.t 83,kI 0])]
abbrev r17:List In:=[mv 85 0, i1 86 (.bsl 9 1 1 [.str []] [(0,1,(.k (.a (.str [46,100,111,110,101,58]))))]), i1 87 (.call 76 [.t 85,.t 86])]
abbrev r18:List In:=[mv 88 0, mv 89 0, i1 90 (.nchk (.t 89)), i1 91 (.faddr 2 (.t 90)), i1 92 (.load 1 false (.t 91)), i1 93 (.bin .add (.t 92) (kI 1)), i1 94 (.call 133 [.t 88,.t 93])]
abbrev code:IC:=.seq (.reg r0) (.seq (.seq (.reg r1) (.cond (.t 15) (.reg r2) .skip)) (.seq (.reg r3) (.seq (.reg r4) (.seq (.reg r5) (.seq (.reg r6) (.seq (.reg r7) (.seq (.reg r8) (.seq (.reg r9) (.seq (.reg r10) (.seq (.reg r11) (.seq (.seq (.reg r12) (.cond (.t 58) (.reg r13) (.reg r14))) (.seq (.reg r15) (.seq (.reg r16) (.seq (.reg r17) (.reg r18)))))))))))))))
abbrev res:List RV:=[]
theorem fn:Body Tryz.prog 93 95 code res:=⟨by decide,Tryz.f93,_,Tryz.func93,rfl,rfl,by kernel_rfl,by kernel_rfl⟩
end V2
namespace W2
abbrev r0:List In:=[mv 4 0, mv 5 0, i1 6 (.nchk (.t 5)), i1 7 (.faddr 2 (.t 6)), i1 8 (.load 1 false (.t 7)), i1 9 (.bin .mul (kI 16) (.t 8)), i1 10 (.bsl 3 1 1 [.int .i64 0] [(0,1,(.t 9))]), i1 11 (.call 128 [(.k (.a (.str [108,100,105,32,114,52,44,32,37,100]))),.t 10]), i1 12 (.bsl 9 1 9 [.str [],.str [],.str [],.str [],.str [],.str [],.str [],.str [],.str []] [(0,1,(.k (.a (.str [108,100,32,114,51,44,32,114,49,44,32,48])))),(1,1,(.t 11)),(2,1,(.k (.a (.str [99,109,112,32,114,51,44,32,114,52])))),(3,1,(.k (.a (.str [106,99,32,46,108,111,111,112])))),(4,1,(.k (.a (.str [109,111,118,32,114,51,44,32,114,52])))),(5,1,(.k (.a (.str [46,108,111,111,112,58])))),(6,1,(.k (.a (.str [108,100,105,32,114,52,44,32,48])))),(7,1,(.k (.a (.str [99,109,112,32,114,51,44,32,114,52])))),(8,1,(.k (.a (.str [106,122,32,46,100,111,110,101]))))]), i1 13 (.call 76 [.t 4,.t 12])]
abbrev r1:List In:=[mv 14 1, i1 15 (.bin .eql (.t 14) (.k (.a (.str [115,104,108]))))]
abbrev r2:List In:=[mv 16 0, i1 17 (.call 131 [.t 16,kI 0,kI 0,(.k (.a (.str [115,104,108]))),(.k (.a (.str [114,111,108]))),(.k (.a (.str [])))])]
abbrev r3:List In:=[mv 18 0, mv 19 1, i1 20 (.call 129 [.t 18,kI 0,.t 19])]
abbrev r4:List In:=[mv 21 0, i1 22 (.bsl 9 1 5 [.str [],.str [],.str [],.str [],.str []] [(0,1,(.k (.a (.str [108,100,105,32,114,52,44,32,49])))),(1,1,(.k (.a (.str [115,117,98,32,114,51,44,32,114,52])))),(2,1,(.k (.a (.str [106,109,112,32,46,108,111,111,112])))),(3,1,(.k (.a (.str [46,100,111,110,101,58])))),(4,1,(.k (.a (.str [114,101,116]))))]), i1 23 (.call 76 [.t 21,.t 22])]
abbrev code:IC:=.seq (.reg r0) (.seq (.seq (.reg r1) (.cond (.t 15) (.reg r2) (.reg r3))) (.reg r4))
abbrev res:List RV:=[]
theorem fn:Body Tryz.prog 96 24 code res:=⟨by decide,Tryz.f96,_,Tryz.func96,rfl,rfl,by kernel_rfl,by kernel_rfl⟩
end W2
namespace Pc
abbrev r0:List In:=[mv 2 0, i1 3 (.call 90 [.t 2,kB false])]
abbrev code:IC:=(.reg r0)
abbrev res:List RV:=[]
theorem fn:Body Tryz.prog 89 4 code res:=⟨by decide,Tryz.f89,_,Tryz.func89,rfl,rfl,by kernel_rfl,by kernel_rfl⟩
theorem enters:Xt Tryz.prog 89=true:=by kernel_rfl
end Pc
namespace Pd
abbrev r0:List In:=[mv 2 0, i1 3 (.call 90 [.t 2,kB true])]
abbrev code:IC:=(.reg r0)
abbrev res:List RV:=[]
theorem fn:Body Tryz.prog 91 4 code res:=⟨by decide,Tryz.f91,_,Tryz.func91,rfl,rfl,by kernel_rfl,by kernel_rfl⟩
theorem enters:Xt Tryz.prog 91=true:=by kernel_rfl
end Pd
namespace Pe
abbrev r0:List In:=[mv 2 0, i1 3 (.call 93 [.t 2,kB false])]
abbrev code:IC:=(.reg r0)
abbrev res:List RV:=[]
theorem fn:Body Tryz.prog 92 4 code res:=⟨by decide,Tryz.f92,_,Tryz.func92,rfl,rfl,by kernel_rfl,by kernel_rfl⟩
theorem enters:Xt Tryz.prog 92=true:=by kernel_rfl
end Pe
namespace Pg
abbrev r0:List In:=[mv 2 0, i1 3 (.call 93 [.t 2,kB true])]
abbrev code:IC:=(.reg r0)
abbrev res:List RV:=[]
theorem fn:Body Tryz.prog 94 4 code res:=⟨by decide,Tryz.f94,_,Tryz.func94,rfl,rfl,by kernel_rfl,by kernel_rfl⟩
theorem enters:Xt Tryz.prog 94=true:=by kernel_rfl
end Pg
namespace Ph
abbrev r0:List In:=[mv 2 0, i1 3 (.call 96 [.t 2,(.k (.a (.str [115,104,108])))])]
abbrev code:IC:=(.reg r0)
abbrev res:List RV:=[]
theorem fn:Body Tryz.prog 95 4 code res:=⟨by decide,Tryz.f95,_,Tryz.func95,rfl,rfl,by kernel_rfl,by kernel_rfl⟩
theorem enters:Xt Tryz.prog 95=true:=by kernel_rfl
end Ph
namespace Pi
abbrev r0:List In:=[mv 2 0, i1 3 (.call 96 [.t 2,(.k (.a (.str [115,104,114])))])]
abbrev code:IC:=(.reg r0)
abbrev res:List RV:=[]
theorem fn:Body Tryz.prog 97 4 code res:=⟨by decide,Tryz.f97,_,Tryz.func97,rfl,rfl,by kernel_rfl,by kernel_rfl⟩
theorem enters:Xt Tryz.prog 97=true:=by kernel_rfl
end Pi
namespace Pj
abbrev r0:List In:=[mv 2 0, i1 3 (.call 96 [.t 2,(.k (.a (.str [115,97,114])))])]
abbrev code:IC:=(.reg r0)
abbrev res:List RV:=[]
theorem fn:Body Tryz.prog 98 4 code res:=⟨by decide,Tryz.f98,_,Tryz.func98,rfl,rfl,by kernel_rfl,by kernel_rfl⟩
theorem enters:Xt Tryz.prog 98=true:=by kernel_rfl
end Pj
end Go.Proofs.YtbmecnjmbhokgaaGreatDoor
namespace Go.Proofs.YtbmecnjmbhokgaaGreatDoor
open Go Go.RowKit Vc
set_option linter.unusedVariables false
set_option linter.unusedSimpArgs false
attribute [local irreducible] T Za Zn Ent RdC RwC Ye Zf Zh
set_option maxHeartbeats 1000000 in
set_option maxRecDepth 100000 in
theorem Ch(b:Nat)(w:World)(h0:w.cell? ⟨b,0,none⟩=some (.pointer none))(hsh:w.shape? b=some (131,3))(hfz:w.frozen? ⟨b,0,none⟩=false):
 Calls Tryz.prog 148 #[.pointer (some ⟨b,0,none⟩)] w fun e w'=>e= .returned (.tuple #[])∧w'=w.setCell ⟨b,0,none⟩ (.pointer (some ⟨b,0,none⟩)):=by
 obtain⟨j,hj,hjs⟩:∃j,Tryz.prog.info? 129=some j∧j.size=2:=Option.map_eq_some_iff.1 (by kernel_rfl:(Tryz.prog.info? 129).map (·.size)=some 2)
 go_enter Tryz.func148,Tryz.ntmps148
 go_wp2
 rw[Lib.run_to_unsafe w ⟨b,0,none⟩ Tryz.underlying127 Tryz.underlying220 hj (by rw[hjs];decide) hsh (Nat.zero_lt_succ 2)]
 simp only[Result.andThen]
 rw[Oper.upon_value]
 go_wp2
 rw[run_callFunc_extern Tryz.func175 (by kernel_rfl) (by kernel_rfl) (by kernel_rfl) (e:=Extern.AbiNoEscape.same) (by kernel_rfl)]
 rw[Lib.run_noEscape]
 simp only[Result.andThen]
 rw[Oper.upon_value]
 go_wp2
 rw[Lib.run_from_unsafe w ⟨b,0,none⟩ Tryz.underlying220 Tryz.underlying127 hj hsh (by kernel_rfl)]
 simp only[Result.andThen]
 rw[Oper.upon_value]
 go_wp2
 go_end0
 exact⟨rfl,rfl⟩
theorem Iu(n:Int)(l:Bytes):
 GC Tryz.prog 148 [.a (.loc 0 0)] [(0,.cells 131 [.loc 0 0,.ref 1,.int .i64 n]),(1,.row 5 (.int .u8) l)] 2 [0,1] (.tup []) [(0,.cells 131 [.loc 0 0,.ref 1,.int .i64 n]),(1,.row 5 (.int .u8) l)] 2:=by
 refine⟨(by simp[Zu,Zw,Zv,Zj,Ze,Vc.S1.okN,At.okN,SV.okN,Res.okN,Res.outOk,Zo,Res.own,Value.oneCell']),fun ρ w hm=> ?_⟩
 obtain⟨b,hb,hcell⟩:=hm.res 0 _ (List.mem_cons_self ..)
 have h1:S1.den ρ (.a (.loc 0 0))= .pointer (some ⟨b,0,none⟩):=by simp[S1.den,At.den,Wo,hb]
 simp only[List.map_cons,List.map_nil,h1]
 refine(Is b w ?_).mono fun e w' ⟨he,hw⟩=>⟨ρ,fun _ _=>rfl,he,hw▸hm⟩
 rw[Lib.cell_of_heap hcell]
 show some (Wo (ρ 0) 0)=_
 rw[hb];rfl
theorem Ci(n:Int):
 GC Tryz.prog 148 [.a (.loc 0 0)] [(0,.cells 131 [.raw (.pointer none),.raw (.slice none 0 0),.int .i64 n])] 1 [0] (.tup []) [(0,.cells 131 [.loc 0 0,.raw (.slice none 0 0),.int .i64 n])] 1:=by
 refine⟨(by simp[Zu,Zw,Zv,Zj,Ze,Vc.S1.okN,At.okN,SV.okN,Res.okN,Res.outOk,Zo,Res.own,Value.oneCell']),fun ρ w hm=> ?_⟩
 obtain⟨b,hb,hcell⟩:=hm.res 0 _ (List.mem_cons_self ..)
 have h1:S1.den ρ (.a (.loc 0 0))= .pointer (some ⟨b,0,none⟩):=by simp[S1.den,At.den,Wo,hb]
 simp only[List.map_cons,List.map_nil,h1]
 refine(Ch b w ?_ ?_ ?_).mono fun e w' ⟨he,hw⟩=>⟨ρ,fun _ _=>rfl,he,hw▸ ?_⟩
 ·rw[Lib.cell_of_heap hcell];rfl
 ·simp[World.shape?,hcell]
 ·simp[World.frozen?,hcell]
 ·have hh:(w.setCell ⟨b,0,none⟩ (.pointer (some ⟨b,0,none⟩))).heap[b]? =some (.cells #[.pointer (some ⟨b,0,none⟩),.slice none 0 0,.int .i64 n] 131 (0,0)):=by
   simp only[World.setCell,Array.getElem?_modify,hcell,if_true,Option.map_some]
   rfl
  have:=hm.rewrite (w':=w.setCell ⟨b,0,none⟩ (.pointer (some ⟨b,0,none⟩))) (r':=.cells 131 [.loc 0 0,.raw (.slice none 0 0),.int .i64 n]) (g:=b) (List.mem_cons_self ..) (by simp[Res.block,hb]) (by simp[Res.block,hb]) rfl rfl rfl
   (by simp[World.setCell]) (fun k hk=>by simp only[World.setCell,Array.getElem?_modify];rw[if_neg (fun e=>hk e.symm)]) (by simp[Res.bd,At.bd,Value.oneCell']) (fun O'=>⟨b,hb,by rw[hh];simp[At.den,Wo,hb]⟩)
  simpa[upd,del]using this
theorem Mx(n:Int)(a s:List UInt8)(h:a.length+s.length≤140737488355328):
 GC Tryz.prog 104 [.a (.loc 0 0),.a (.str s)] [(0,.cells 131 [.loc 0 0,.ref 1,.int .i64 n]),(1,.row 5 (.int .u8) (bytesI a))] 2 [0] (.tup [.a (.int .i64 s.length),.a (.raw .nilIface)]) [(0,.cells 131 [.loc 0 0,.ref 2,.int .i64 n]),(2,.row 5 (.int .u8) (bytesI (a++s)))] 3:=by
 rw[←Zba]
 have hl:=Il a
 generalize bytesI a=l at*
 refine Xg.fn.gc (by simp) (by simp[Zu,Zw,Zv,Zj,Ze,Vc.S1.okN,At.okN,SV.okN,Res.okN,Res.outOk,Zo,Res.own,Value.oneCell']) fun w X fr=> ?_
 repeat'(first|(first|refine Stp.h ?_|(refine Za.gc (Iu n l) ?_ ?_;focus simp[Zb]))<;>try simp only[Zc,simprocAttr,↓reduceIte,reduceCtorEq,implies_true]|(with_reducible first|assumption|refine And.intro ?_ ?_)|(intro h;first|omega|exact tg h ‹_›|exact tg ‹_› h|skip))
 all_goals first|omega|skip
theorem N5(n:Int)(s:List UInt8)(h:s.length≤140737488355328):
 GC Tryz.prog 104 [.a (.loc 0 0),.a (.str s)] [(0,.cells 131 [.raw (.pointer none),.raw (.slice none 0 0),.int .i64 n])] 1 [0] (.tup [.a (.int .i64 s.length),.a (.raw .nilIface)]) [(0,.cells 131 [.loc 0 0,.ref 1,.int .i64 n]),(1,.row 5 (.int .u8) (bytesI s))] 2:=by
 refine Xg.fn.gc (by simp) (by simp[Zu,Zw,Zv,Zj,Ze,Vc.S1.okN,At.okN,SV.okN,Res.okN,Res.outOk,Zo,Res.own,Value.oneCell']) fun w X fr=> ?_
 repeat'(first|(first|refine Stp.h ?_|(refine Za.gc (Ci n) ?_ ?_;focus simp[Zb]))<;>try simp only[Zc,simprocAttr,↓reduceIte,reduceCtorEq,implies_true]|(with_reducible first|assumption|refine And.intro ?_ ?_)|(intro h;first|omega|exact tg h ‹_›|exact tg ‹_› h|skip))
 all_goals first|omega|skip
theorem Za6(n:Int)(a:List UInt8)(h:a.length+1≤140737488355328):
 GC Tryz.prog 103 [.a (.loc 0 0),.a (.int .u8 9)] [(0,.cells 131 [.loc 0 0,.ref 1,.int .i64 n]),(1,.row 5 (.int .u8) (bytesI a))] 2 [0] (.one (.a (.raw .nilIface))) [(0,.cells 131 [.loc 0 0,.ref 2,.int .i64 n]),(2,.row 5 (.int .u8) (bytesI (a++[9])))] 3:=by
 have e:bytesI (a++[9])=bytesI a++[9]:=(D9 a 9).symm
 rw[e]
 have hl:=Il a
 generalize bytesI a=l at*
 refine W3.fn.gc (by simp) (by simp[Zu,Zw,Zv,Zj,Ze,Vc.S1.okN,At.okN,SV.okN,Res.okN,Res.outOk,Zo,Res.own,Value.oneCell']) fun w X fr=> ?_
 repeat'(first|(first|refine Stp.h ?_|(refine Za.gc (Iu n l) ?_ ?_;focus simp[Zb]))<;>try simp only[Zc,simprocAttr,↓reduceIte,reduceCtorEq,implies_true]|(with_reducible first|assumption|refine And.intro ?_ ?_)|(intro h;first|omega|exact tg h ‹_›|exact tg ‹_› h|skip))
 all_goals first|omega|skip
def Kb(s:List UInt8):List UInt8:=(if Lib.hasSuffix s [58]=true then s else 9::s)++[10]
def putS(ls:List (List UInt8)):List UInt8:=(ls.map Kb).flatten
theorem Q3(a b:List (List UInt8)):putS (a++b)=putS a++putS b:=by simp[putS]
theorem Zgg(ls:List (List UInt8))(k:Nat):(putS (ls.take k)).length≤(putS ls).length:=by
 conv=>rhs;rw[←List.take_append_drop k ls,Q3]
 simp
theorem Ga(G:Nat)(H:Nat→Option Obj)(s p:List UInt8)(hs:s.length≤9223372036854775807):
 GCp G H Tryz.prog 102 [.a (.str s),.a (.str p)] [] 0 [] (.one (.a (.bool (Lib.hasSuffix s p)))) [] 0:=
 GCp.plain (by simp[S1.bd,At.bd]) (by simp[SV.bd,S1.bd,At.bd]) (by simp[Zu,Zw,Zv,Zj,Ze,Vc.S1.okN,At.okN,SV.okN,Res.okN,Res.outOk,Zo,Res.own,Value.oneCell']) fun w hg=>
  (Tryz.strings_HasSuffix ⟨s.toArray⟩ ⟨p.toArray⟩ w (by simpa[ByteArray.size]using hs)).mono fun e w' ⟨he,hw⟩=>⟨he,hw▸Below.refl _ _⟩
theorem Mw(s p:List UInt8)(hs:s.length≤9223372036854775807):
 GC Tryz.prog 102 [.a (.str s),.a (.str p)] [] 0 [] (.one (.a (.bool (Lib.hasSuffix s p)))) [] 0:=(Ga 0 (fun _=>none) s p hs).gc
set_option maxHeartbeats 4000000 in
theorem Zs(n:Int)(acc:List UInt8)(ls:List (List UInt8))(hb:acc.length+(putS ls).length≤1000000)(hl:ls.length≤1000000):
 GC Tryz.prog 76 [.a (.loc 0 0),.a (.ref 2)] [(0,.cells 131 [.loc 0 0,.ref 1,.int .i64 n]),(1,.row 5 (.int .u8) (bytesI acc)),(2,.ro .str ls)] 3 [0] (.tup []) [(0,.cells 131 [.loc 0 0,.ref 3,.int .i64 n]),(3,.row 5 (.int .u8) (bytesI (acc++putS ls)))] 4:=by
 refine T3.fn.gc (by simp) (by simp[Zu,Zw,Zv,Zj,Ze,Vc.S1.okN,At.okN,SV.okN,Res.okN,Res.outOk,Zo,Res.own,Value.oneCell']) fun w X fr=> ?_
 repeat'(first|(first|refine Stp.h ?_)<;>try simp only[Zc,simprocAttr,↓reduceIte,reduceCtorEq,implies_true]|(with_reducible first|assumption|refine And.intro ?_ ?_)|(intro h;first|omega|exact tg h ‹_›|exact tg ‹_› h|skip))
 all_goals first|omega|skip
 refine T.loop (ι:= {k:Nat//k≤ls.length})
  (fun x=>⟨[(8,.one (.a (.int .i64 (x.1:Int)))),(7,.one (.a (.int .i64 ls.length))),(6,.one (.a (.ref 2))),(0,.one (.a (.loc 0 0))),(1000000,.one (.a (.ref 0)))],
    [(0,.cells 131 [.loc 0 0,.ref 1,.int .i64 n]),(1,.row 5 (.int .u8) (bytesI (acc++putS (ls.take x.1)))),(2,.ro .str ls)],3⟩) (fun x=>ls.length-x.1) ⟨0,by simp⟩ (Ent.mk1 (id) (by simp[Zx,putS])) ?_
 rintro⟨k,hk⟩
 simp only
 by_cases hlt:k<ls.length
 ·generalize hx:ls[k]=x
  have hx':ls.getD k (Kd.dflt .str)=x:=by show ls.getD k []=x;simp[List.getD,hlt,hx]
  have htk:putS (ls.take (k+1))=putS (ls.take k)++Kb x:=by
   rw[List.take_add_one,List.getElem?_eq_getElem hlt,hx,Q3]
   simp[putS]
  have hle:=Zgg ls (k+1)
  rw[htk]at hle
  simp only[List.length_append]at hle
  have hxl:x.length+1≤(Kb x).length:=by unfold Kb;split<;>simp
  have hpl:(Kb x).length≤x.length+2:=by unfold Kb;split<;>simp
  have hw:IntKind.i64.wrap ((k:Int)+1)=((k+1:Nat):Int):=Zy (by omega)
  have ht:((k:Int)).toNat=k:=by omega
  generalize ha:acc++putS (ls.take k)=a
  have hal:a.length=acc.length+(putS (ls.take k)).length:=by rw[←ha];simp
  have ha2:acc++putS (ls.take (k+1))=a++Kb x:=by rw[htk,←ha,List.append_assoc]
  have hS:=Mw x [58] (by omega)
  cases hsf:Lib.hasSuffix x [58]
  ·rw[hsf]at hS
   have hp:Kb x=[9]++(x++[10]):=by unfold Kb;rw[hsf];rfl
   have hB:=Za6 n a (by omega)
   have hW:=Mx n (a++[9]) (x++[10]) (by simp only[List.length_append,List.length_cons,List.length_nil];omega)
   have ha3:(a++[9])++(x++[10])=a++Kb x:=by rw[hp,List.append_assoc]
   rw[ha3]at hW
   repeat'(first|(first|refine Stp.h ?_|(refine Za.gc hS ?_ ?_;focus simp[Zb];done)|(refine Za.gc hB ?_ ?_;focus simp[Zb];done)|(refine Za.gc hW ?_ ?_;focus simp[Zb];done))<;>try simp only[Zc,simprocAttr,↓reduceIte,reduceCtorEq,implies_true,hx',hw,ht,Int.ofNat_lt]|(with_reducible first|assumption|refine And.intro ?_ ?_)|(intro h;first|omega|exact tg h ‹_›|exact tg ‹_› h|skip))
   all_goals first|omega|skip
   exact⟨⟨k+1,hlt⟩,(Ent.mk1 (fun n=>if n=1 then 4 else n) (by simp[Zx,ha2,hw])),by simp only;omega⟩
  ·rw[hsf]at hS
   have hp:Kb x=x++[10]:=by unfold Kb;rw[hsf];rfl
   have hW:=Mx n a (x++[10]) (by simp only[List.length_append,List.length_cons,List.length_nil];omega)
   have ha3:a++(x++[10])=a++Kb x:=by rw[hp]
   rw[ha3]at hW
   repeat'(first|(first|refine Stp.h ?_|(refine Za.gc hS ?_ ?_;focus simp[Zb];done)|(refine Za.gc hW ?_ ?_;focus simp[Zb];done))<;>try simp only[Zc,simprocAttr,↓reduceIte,reduceCtorEq,implies_true,hx',hw,ht,Int.ofNat_lt]|(with_reducible first|assumption|refine And.intro ?_ ?_)|(intro h;first|omega|exact tg h ‹_›|exact tg ‹_› h|skip))
   all_goals first|omega|skip
   exact⟨⟨k+1,hlt⟩,(Ent.mk1 (fun n=>if n=1 then 3 else n) (by simp[Zx,ha2,hw])),by simp only;omega⟩
 ·have hk2:k=ls.length:=by omega
  subst hk2
  rw[List.take_length]
  repeat'(first|(first|refine Stp.h ?_)<;>try simp only[Zc,simprocAttr,↓reduceIte,reduceCtorEq,implies_true,Int.ofNat_lt]|(with_reducible first|assumption|refine And.intro ?_ ?_)|(intro h;first|omega|exact tg h ‹_›|exact tg ‹_› h|skip))
  all_goals first|omega|skip
theorem Lg(old new:List UInt8):∀(k:Nat) (s:List UInt8),(Lib.replaceK old new k s).length≤s.length+k*new.length
 |0,s=>by unfold Lib.replaceK;simp
 |k+1,s=>by
  unfold Lib.replaceK
  split
  ·omega
  ·have ih:=Lg old new k (s.drop ((Lib.index s old).toNat+old.length))
   simp only[List.length_append,List.length_take,List.length_drop,Nat.succ_mul]at ih ⊢
   omega
theorem Ac(s new:List UInt8):(Lib.replace s [37,100] new 1).length≤s.length+new.length:=by
 unfold Lib.replace
 split
 ·omega
 ·have h1:Lib.replaceNum s [37,100] 1≤1:=by unfold Lib.replaceNum;split<;>omega
  have:=Lg [37,100] new (Lib.replaceNum s [37,100] 1) s
  have h2:Lib.replaceNum s [37,100] 1*new.length≤1*new.length:=Nat.mul_le_mul_right _ h1
  omega
theorem Dy{G:Nat}{H:Nat→Option Obj}(hM:Yn G H)(s new:List UInt8)(hs:s.length≤1000)(hn:new.length≤1000):
 GCp G H Tryz.prog 166 [.a (.str s),.a (.str [37,100]),.a (.str new),.a (.int .i64 1)] [] 0 [] (.one (.a (.str (Lib.replace s [37,100] new 1)))) [] 0:=
 GCp.plain (by simp[S1.bd,At.bd]) (by simp[SV.bd,S1.bd,At.bd]) (by simp[Zu,Zw,Zv,Zj,Ze,Vc.S1.okN,At.okN,SV.okN,Res.okN,Res.outOk,Zo,Res.own,Value.oneCell']) fun w hg=>by
  obtain⟨m,hm⟩:=hM w _ hg
  have hc:Lib.countB ⟨s.toArray⟩ ⟨[37,100].toArray⟩≤1001:=by
   have:=Lib.count_le s [37,100]
   have e:Lib.countB ⟨s.toArray⟩ ⟨[37,100].toArray⟩=Lib.count s [37,100]:=rfl
   rw[e];omega
  have hp:Lib.countB ⟨s.toArray⟩ ⟨[37,100].toArray⟩*new.length≤1001*1000:=Nat.mul_le_mul hc hn
  exact Tryz.strings_Replace ⟨s.toArray⟩ ⟨[37,100].toArray⟩ ⟨new.toArray⟩ 1 m w (by simp[ByteArray.size];omega) hm (by simp[ByteArray.size]) (by
   have e1:ByteArray.size ⟨s.toArray⟩=s.length:=by simp[ByteArray.size]
   have e2:ByteArray.size ⟨new.toArray⟩=new.length:=by simp[ByteArray.size]
   rw[e1,e2];omega)
def sayS(t:List UInt8)(ls:List Int):List UInt8:=ls.foldl (fun t n=>Lib.replace t [37,100] (Lib.itoa n) 1) t
set_option maxHeartbeats 4000000 in
theorem Ym{G:Nat}{H:Nat→Option Obj}(hM:Yn G H)(hH:Z4 G H)(t:List UInt8)(ls:List Int)(hr:∀n∈ls,0≤n∧n≤65535)(hl:ls.length≤10)(ht:t.length≤100):
 GCp G H Tryz.prog 128 [.a (.str t),.a (.ref 0)] [(0,.ro (.int .i64) ls)] 1 [] (.one (.a (.str (sayS t ls)))) [] 1:=by
 refine Dv.fn.gcp (by simp) (by simp[Zu,Zw,Zv,Zj,Ze,Vc.S1.okN,At.okN,SV.okN,Res.okN,Res.outOk,Zo,Res.own,Value.oneCell']) fun w X fr hglob=> ?_
 repeat'(first|(first|refine Stp.h ?_)<;>try simp only[Zc,simprocAttr,↓reduceIte,reduceCtorEq,implies_true]|(with_reducible first|assumption|refine And.intro ?_ ?_)|(intro h;first|omega|exact tg h ‹_›|exact tg ‹_› h|skip))
 all_goals first|omega|skip
 refine T.loop (ι:= {k:Nat//k≤ls.length∧(sayS t (ls.take k)).length≤100+21*k})
  (fun x=>⟨[(9,.one (.a (.int .i64 (x.1:Int)))),(8,.one (.a (.int .i64 ls.length))),(7,.one (.a (.ref 0))),(0,.one (.a (.str (sayS t (ls.take x.1)))))],[(0,.ro (.int .i64) ls)],1⟩) (fun x=>ls.length-x.1) ⟨0,by simp,by simpa[sayS]using ht⟩ (Ent.mk1 (id) (by simp[Zx,sayS])) ?_
 rintro⟨k,hk,hsl⟩
 simp only
 by_cases hlt:k<ls.length
 ·generalize hx:ls[k]=x
  have hx':ls.getD k (Kd.dflt (.int .i64))=x:=by show ls.getD k 0=x;simp[List.getD,hlt,hx]
  have hxr:=hr x (by rw[←hx];exact List.getElem_mem hlt)
  have htk:sayS t (ls.take (k+1))=Lib.replace (sayS t (ls.take k)) [37,100] (Lib.itoa x) 1:=by
   unfold sayS
   rw[List.take_add_one,List.getElem?_eq_getElem hlt,hx]
   simp
  generalize sayS t (ls.take k)=u at hsl htk
  have hI:=Zg7 G H hH x hxr.1 hxr.2
  have hil:=Lib.itoa_length_le x (by omega) (by omega)
  have hR:=Dy hM u (Lib.itoa x) (by omega) (by omega)
  have hrl:=Ac u (Lib.itoa x)
  have hw:IntKind.i64.wrap ((k:Int)+1)=((k+1:Nat):Int):=Zy (by omega)
  have htt:((k:Int)).toNat=k:=by omega
  generalize Lib.itoa x=v at*
  generalize Lib.replace u [37,100] v 1=z at*
  repeat'(first|(first|refine Stp.h ?_|(refine Za.gcp hglob hI ?_ ?_;focus simp[Zb];done)|(refine Za.gcp hglob hR ?_ ?_;focus simp[Zb];done))<;>try simp only[Zc,simprocAttr,↓reduceIte,reduceCtorEq,implies_true,hx',hw,htt,Int.ofNat_lt]|(with_reducible first|assumption|refine And.intro ?_ ?_)|(intro h;first|omega|exact tg h ‹_›|exact tg ‹_› h|skip))
  all_goals first|omega|skip
  exact⟨⟨k+1,hlt,by rw[htk];omega⟩,(Ent.mk1 (id) (by simp[Zx,htk,hw])),by simp only;omega⟩
 ·have hk2:k=ls.length:=by omega
  subst hk2
  rw[List.take_length]
  repeat'(first|(first|refine Stp.h ?_)<;>try simp only[Zc,simprocAttr,↓reduceIte,reduceCtorEq,implies_true,Int.ofNat_lt]|(with_reducible first|assumption|refine And.intro ?_ ?_)|(intro h;first|omega|exact tg h ‹_›|exact tg ‹_› h|skip))
  all_goals first|omega|skip
def Xr(a b:List UInt8)(i:Int):List UInt8:=if i=0 then a else b
theorem Xv(a b:List UInt8)(i:Int):RdC Tryz.prog 168 [.v (.a (.str a)),.v (.a (.str b)),.v (.a (.int .i64 i))] (.one (.a (.str (Xr a b i)))):=by
 refine J3.fn.rd (by simp) (by simp[Zz]) (by simp[Zz]) fun w=> ?_
 unfold Xr
 by_cases h:i=0
 ·rw[if_pos h]
  repeat'(first|(first|refine Stp.h ?_)<;>try simp only[Zc,simprocAttr,↓reduceIte,reduceCtorEq,implies_true,h]|(with_reducible first|assumption|refine And.intro ?_ ?_)|(intro h;first|omega|exact tg h ‹_›|exact tg ‹_› h|skip))
 ·rw[if_neg h]
  repeat'(first|(first|refine Stp.h ?_)<;>try simp only[Zc,simprocAttr,↓reduceIte,reduceCtorEq,implies_true,h]|(with_reducible first|assumption|refine And.intro ?_ ?_)|(intro h;first|omega|exact tg h ‹_›|exact tg ‹_› h|skip))
end Go.Proofs.YtbmecnjmbhokgaaGreatDoor
