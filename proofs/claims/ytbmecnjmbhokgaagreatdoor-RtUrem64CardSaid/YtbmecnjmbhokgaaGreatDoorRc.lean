/- The small code of functions, and that it is theirs: printed by a program over the seat's translation. -/
import Derived.Test.YtbmecnjmbhokgaaGreatDoorQh
import Derived.Test.YtbmecnjmbhokgaaGreatDoorChecked
import Derived.KernelRfl
namespace Go.Proofs.YtbmecnjmbhokgaaGreatDoor
open Vc
namespace X7
abbrev r0:List In:=[i1 12 (.mv (kB false))]
abbrev r1:List In:=[mv 16 0, mv 17 1, i1 18 (.call 15 [(.k (.a (.int .u8 37))),.t 16,.t 17,kI 16,kB false]), mv 15 18, i1 19 (.ext 0 (.t 15)), i1 20 (.ext 1 (.t 15)), mv 13 19, mv 14 20]
abbrev r2:List In:=[mv 21 0, mv 22 1, mv 23 2, mv 24 3, mv 25 4, mv 26 5, mv 27 13, mv 28 14, i1 29 (.bin .eql (.t 28) (kI 10)), i1 30 (.call 16 [(.k (.a (.str [117,114,101,109,49]))),kI 1,kI 1,.t 21,.t 22,.t 23,.t 24,.t 25,.t 26,.t 27,.t 29]), mv 12 30]
abbrev code:IC:=.seq (.reg r0) (.seq (.reg r1) (.seq (.reg r2) .ret))
abbrev res:List RV:=[.tmp 12]
theorem fn:Body Tryz.prog 9 31 code res:=⟨by decide,Tryz.f9,_,Tryz.func9,rfl,rfl,by kernel_rfl,by kernel_rfl⟩
end X7
namespace X8
abbrev r0:List In:=[i1 12 (.mv (kB false))]
abbrev r1:List In:=[mv 16 0, mv 17 1, i1 18 (.call 15 [(.k (.a (.int .u8 37))),.t 16,.t 17,kI 32,kB false]), mv 15 18, i1 19 (.ext 0 (.t 15)), i1 20 (.ext 1 (.t 15)), mv 13 19, mv 14 20]
abbrev r2:List In:=[mv 21 0, mv 22 1, mv 23 2, mv 24 3, mv 25 4, mv 26 5, mv 27 13, mv 28 14, i1 29 (.bin .eql (.t 28) (kI 10)), i1 30 (.call 16 [(.k (.a (.str [117,114,101,109,50]))),kI 2,kI 2,.t 21,.t 22,.t 23,.t 24,.t 25,.t 26,.t 27,.t 29]), mv 12 30]
abbrev code:IC:=.seq (.reg r0) (.seq (.reg r1) (.seq (.reg r2) .ret))
abbrev res:List RV:=[.tmp 12]
theorem fn:Body Tryz.prog 10 31 code res:=⟨by decide,Tryz.f10,_,Tryz.func10,rfl,rfl,by kernel_rfl,by kernel_rfl⟩
end X8
namespace X9
abbrev r0:List In:=[i1 12 (.mv (kB false))]
abbrev r1:List In:=[mv 16 0, mv 17 1, i1 18 (.call 15 [(.k (.a (.int .u8 37))),.t 16,.t 17,kI 64,kB false]), mv 15 18, i1 19 (.ext 0 (.t 15)), i1 20 (.ext 1 (.t 15)), mv 13 19, mv 14 20]
abbrev r2:List In:=[mv 21 0, mv 22 1, mv 23 2, mv 24 3, mv 25 4, mv 26 5, mv 27 13, mv 28 14, i1 29 (.bin .eql (.t 28) (kI 10)), i1 30 (.call 16 [(.k (.a (.str [117,114,101,109,52]))),kI 4,kI 4,.t 21,.t 22,.t 23,.t 24,.t 25,.t 26,.t 27,.t 29]), mv 12 30]
abbrev code:IC:=.seq (.reg r0) (.seq (.reg r1) (.seq (.reg r2) .ret))
abbrev res:List RV:=[.tmp 12]
theorem fn:Body Tryz.prog 11 31 code res:=⟨by decide,Tryz.f11,_,Tryz.func11,rfl,rfl,by kernel_rfl,by kernel_rfl⟩
end X9
end Go.Proofs.YtbmecnjmbhokgaaGreatDoor
