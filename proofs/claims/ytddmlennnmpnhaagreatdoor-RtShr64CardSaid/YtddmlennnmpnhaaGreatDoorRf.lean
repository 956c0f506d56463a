/- The small code of functions, and that it is theirs: printed by a program over the seat's translation. -/
import Derived.Test.YtddmlennnmpnhaaGreatDoorQh
import Derived.Test.YtddmlennnmpnhaaGreatDoorChecked
import Derived.KernelRfl
namespace Go.Proofs.YtddmlennnmpnhaaGreatDoor
open Vc
namespace V8
abbrev r0:List In:=[i1 12 (.mv (kB false))]
abbrev r1:List In:=[mv 16 0,mv 17 1,i1 18 (.bin .rem (.t 17) (.k (.a (.int .u64 65536)))),i1 19 (.call 17 [.t 16,.t 18,kI 16,kB false,kB false]),mv 15 19,i1 20 (.ext 0 (.t 15)),i1 21 (.ext 1 (.t 15)),mv 13 20,mv 14 21]
abbrev r2:List In:=[mv 22 0,mv 23 1,mv 24 2,mv 25 3,mv 26 4,mv 27 5,mv 28 13,mv 29 14,i1 30 (.bin .eql (.t 29) (kI 10)),i1 31 (.call 16 [(.k (.a (.str [115,104,114,49]))),kI 1,kI 1,.t 22,.t 23,.t 24,.t 25,.t 26,.t 27,.t 28,.t 30]),mv 12 31]
abbrev code:IC:=.seq (.reg r0) (.seq (.reg r1) (.seq (.reg r2) .ret))
abbrev res:List RV:=[.tmp 12]
theorem fn:Body Tryz.prog 9 32 code res:=⟨by decide,Tryz.f9,_,Tryz.func9,rfl,rfl,by kernel_rfl,by kernel_rfl⟩
end V8
namespace V9
abbrev r0:List In:=[i1 12 (.mv (kB false))]
abbrev r1:List In:=[mv 16 0,mv 17 1,i1 18 (.bin .rem (.t 17) (.k (.a (.int .u64 65536)))),i1 19 (.call 17 [.t 16,.t 18,kI 32,kB false,kB false]),mv 15 19,i1 20 (.ext 0 (.t 15)),i1 21 (.ext 1 (.t 15)),mv 13 20,mv 14 21]
abbrev r2:List In:=[mv 22 0,mv 23 1,mv 24 2,mv 25 3,mv 26 4,mv 27 5,mv 28 13,mv 29 14,i1 30 (.bin .eql (.t 29) (kI 10)),i1 31 (.call 16 [(.k (.a (.str [115,104,114,50]))),kI 2,kI 1,.t 22,.t 23,.t 24,.t 25,.t 26,.t 27,.t 28,.t 30]),mv 12 31]
abbrev code:IC:=.seq (.reg r0) (.seq (.reg r1) (.seq (.reg r2) .ret))
abbrev res:List RV:=[.tmp 12]
theorem fn:Body Tryz.prog 10 32 code res:=⟨by decide,Tryz.f10,_,Tryz.func10,rfl,rfl,by kernel_rfl,by kernel_rfl⟩
end V9
namespace Ua
abbrev r0:List In:=[i1 12 (.mv (kB false))]
abbrev r1:List In:=[mv 16 0,mv 17 1,i1 18 (.bin .rem (.t 17) (.k (.a (.int .u64 65536)))),i1 19 (.call 17 [.t 16,.t 18,kI 64,kB false,kB false]),mv 15 19,i1 20 (.ext 0 (.t 15)),i1 21 (.ext 1 (.t 15)),mv 13 20,mv 14 21]
abbrev r2:List In:=[mv 22 0,mv 23 1,mv 24 2,mv 25 3,mv 26 4,mv 27 5,mv 28 13,mv 29 14,i1 30 (.bin .eql (.t 29) (kI 10)),i1 31 (.call 16 [(.k (.a (.str [115,104,114,52]))),kI 4,kI 1,.t 22,.t 23,.t 24,.t 25,.t 26,.t 27,.t 28,.t 30]),mv 12 31]
abbrev code:IC:=.seq (.reg r0) (.seq (.reg r1) (.seq (.reg r2) .ret))
abbrev res:List RV:=[.tmp 12]
theorem fn:Body Tryz.prog 11 32 code res:=⟨by decide,Tryz.f11,_,Tryz.func11,rfl,rfl,by kernel_rfl,by kernel_rfl⟩
end Ua
end Go.Proofs.YtddmlennnmpnhaaGreatDoor
