/- A part of the proofs of this seat's laws: steps on the way, joined. It has no conditions of its own. -/
import Derived.Test.YtbmecnjmbhokgaaGreatDoorQh
import Derived.Test.YtbmecnjmbhokgaaGreatDoorChecked
import Derived.KernelRfl
import Derived.Test.YtbmecnjmbhokgaaGreatDoorQg
import Derived.Lib.ItoaNum
import Derived.Lib.ItoaLen
import Derived.Lib.ItoaMem
import Derived.Lib.Join
import Derived.Lib.LaidTab
import Derived.Shelf.Strings.Builder1
import Derived.Shelf.Strings.Builder2
import Derived.Shelf.Strings.Trim
import Derived.Shelf.Small.Utf8
import Derived.Shelf.Small.Strs
import Derived.Shelf.Small.Wraps
import Derived.Shelf.Strconv.Atoi
import Derived.Shelf.Strconv.Itoa0
import Derived.Shelf.Strconv.Itoa1
import Derived.Shelf.LaysM
import Derived.Shelf.Strconv.Itoa2
import Derived.Shelf.Strconv.Itoa3
import Derived.Shelf.Strings.Search1
import Derived.Shelf.Strings.Search2
import Derived.Shelf.Strings.Search3
import Derived.Shelf.Strings.Cut
import Derived.Shelf.Strings.Count
import Derived.Shelf.Strings.Shaped
import Derived.Shelf.Sort.Plain
import Derived.Shelf.Strings.Prefix
import Derived.Shelf.Strings.Split
import Derived.Shelf.Strings.Replace
import Derived.Shelf.Strings.Runes
import Derived.Shelf.Strings.AsciiSet
import Derived.Shelf.Unicode.DecodeSlow
import Derived.Shelf.Slices.In.SortNone
import Derived.Test.YtbmecnjmbhokgaaGreatDoorProg
namespace Go.Proofs.YtbmecnjmbhokgaaGreatDoor
open Vc
namespace J1
abbrev r0:List In:=[i1 2 (.alloc 145 [.bool false,.bool false,.bool false,.bool false])]
abbrev r1:List In:=[mv 4 0, i1 5 (.bin .eql (.t 4) (kI 0)), mv 6 5, i2 6 false 7 (.mv (.t 0)), i2 6 false 8 (.bin .eql (.t 7) (kI 27)), i1 9 (.pick (.t 6) (kB true) (.t 8)), mv 3 9]
abbrev r2:List In:=[i1 10 (.build [.bool false,.bool false,.bool false,.bool false] [(3,1,(kB true))]), i0 (.store 4 (.t 2) (.t 10))]
abbrev r3:List In:=[mv 12 0, i1 13 (.bin .eql (.t 12) (kI 1)), mv 14 13, i2 14 false 15 (.mv (.t 0)), i2 14 false 16 (.bin .geq (.t 15) (kI 5)), i2 14 false 17 (.mv (.t 16)), i2 17 true 18 (.mv (.t 0)), i2 17 true 19 (.bin .leq (.t 18) (kI 13)), i2 14 false 20 (.pick (.t 17) (.t 19) (kB false)), i1 21 (.pick (.t 14) (kB true) (.t 20)), mv 11 21]
abbrev r4:List In:=[i1 22 (.build [.bool false,.bool false,.bool false,.bool false] [(0,1,(kB true)),(1,1,(kB true)),(3,1,(kB true))]), i0 (.store 4 (.t 2) (.t 22))]
abbrev r5:List In:=[mv 24 0, i1 25 (.bin .eql (.t 24) (kI 2)), mv 23 25]
abbrev r6:List In:=[i1 26 (.build [.bool false,.bool false,.bool false,.bool false] [(0,1,(kB true)),(2,1,(kB true)),(3,1,(kB true))]), i0 (.store 4 (.t 2) (.t 26))]
abbrev r7:List In:=[mv 28 0, i1 29 (.bin .eql (.t 28) (kI 3)), mv 30 29, i2 30 false 31 (.mv (.t 0)), i2 30 false 32 (.bin .eql (.t 31) (kI 4)), i1 33 (.pick (.t 30) (kB true) (.t 32)), mv 27 33]
abbrev r8:List In:=[i1 34 (.build [.bool false,.bool false,.bool false,.bool false] [(0,1,(kB true)),(1,1,(kB true)),(2,1,(kB true)),(3,1,(kB true))]), i0 (.store 4 (.t 2) (.t 34))]
abbrev r9:List In:=[mv 36 0, i1 37 (.bin .geq (.t 36) (kI 14)), mv 38 37, i2 38 true 39 (.mv (.t 0)), i2 38 true 40 (.bin .leq (.t 39) (kI 18)), i1 41 (.pick (.t 38) (.t 40) (kB false)), mv 42 41, i2 42 false 43 (.mv (.t 0)), i2 42 false 44 (.bin .eql (.t 43) (kI 29)), i1 45 (.pick (.t 42) (kB true) (.t 44)), mv 46 45, i2 46 false 47 (.mv (.t 0)), i2 46 false 48 (.bin .eql (.t 47) (kI 31)), i1 49 (.pick (.t 46) (kB true) (.t 48)), mv 35 49]
abbrev r10:List In:=[i1 50 (.build [.bool false,.bool false,.bool false,.bool false] [(0,1,(kB true)),(3,1,(kB true))]), i0 (.store 4 (.t 2) (.t 50))]
abbrev r11:List In:=[mv 52 0, i1 53 (.bin .eql (.t 52) (kI 28)), mv 54 53, i2 54 false 55 (.mv (.t 0)), i2 54 false 56 (.bin .eql (.t 55) (kI 30)), i1 57 (.pick (.t 54) (kB true) (.t 56)), mv 51 57]
abbrev r12:List In:=[i1 58 (.build [.bool false,.bool false,.bool false,.bool false] [(1,1,(kB true)),(3,1,(kB true))]), i0 (.store 4 (.t 2) (.t 58))]
abbrev r13:List In:=[mv 60 0, i1 61 (.bin .geq (.t 60) (kI 19)), mv 62 61, i2 62 true 63 (.mv (.t 0)), i2 62 true 64 (.bin .leq (.t 63) (kI 26)), i1 65 (.pick (.t 62) (.t 64) (kB false)), mv 66 65, i2 66 false 67 (.mv (.t 0)), i2 66 false 68 (.bin .eql (.t 67) (kI 32)), i1 69 (.pick (.t 66) (kB true) (.t 68)), mv 59 69]
abbrev r14:List In:=[i1 70 (.build [.bool false,.bool false,.bool false,.bool false] [(2,1,(kB true)),(3,1,(kB true))]), i0 (.store 4 (.t 2) (.t 70))]
abbrev r15:List In:=[i1 71 (.build [.bool false,.bool false,.bool false,.bool false] []), i0 (.store 4 (.t 2) (.t 71))]
abbrev code:IC:=.seq (.reg r0) (.seq (.block 0 (.seq (.reg r1) (.cond (.t 3) (.seq (.reg r2) .ret) (.seq (.reg r3) (.cond (.t 11) (.seq (.reg r4) .ret) (.seq (.reg r5) (.cond (.t 23) (.seq (.reg r6) .ret) (.seq (.reg r7) (.cond (.t 27) (.seq (.reg r8) .ret) (.seq (.reg r9) (.cond (.t 35) (.seq (.reg r10) .ret) (.seq (.reg r11) (.cond (.t 51) (.seq (.reg r12) .ret) (.seq (.reg r13) (.cond (.t 59) (.seq (.reg r14) .ret) .skip))))))))))))))) (.seq (.reg r15) .ret))
abbrev res:List RV:=[.cell 2 4 true]
theorem fn:Body Tryz.prog 84 72 code res:=⟨by decide,Tryz.f84,_,Tryz.func84,rfl,rfl,by kernel_rfl,by kernel_rfl⟩
end J1
namespace Pb
abbrev r0:List In:=[i1 2 (.mv (kB false)), i1 3 (.mv (kB false)), i1 4 (.mv (kB false)), i1 5 (.mv (kI 0))]
abbrev r1:List In:=[mv 7 0, i1 8 (.call 84 [.t 7]), i1 6 (.alloc 145 [.bool false,.bool false,.bool false,.bool false]), i0 (.store 4 (.t 6) (.t 8))]
abbrev r2:List In:=[i1 9 (.faddr 3 (.t 6)), i1 10 (.load 1 false (.t 9)), i1 11 (.un .not (.t 10))]
abbrev r3:List In:=[i1 2 (.mv (kB false)), i1 3 (.mv (kB false)), i1 4 (.mv (kB false)), i1 5 (.mv (kI 1))]
abbrev r4:List In:=[i1 12 (.faddr 0 (.t 6)), i1 13 (.load 1 false (.t 12)), i1 14 (.faddr 1 (.t 6)), i1 15 (.load 1 false (.t 14)), i1 16 (.faddr 2 (.t 6)), i1 17 (.load 1 false (.t 16)), mv 2 13, mv 3 15, mv 4 17, i1 5 (.mv (kI 0))]
abbrev code:IC:=.seq (.reg r0) (.seq (.reg r1) (.seq (.seq (.reg r2) (.cond (.t 11) (.seq (.reg r3) .ret) .skip)) (.seq (.dreg r4) .ret)))
abbrev res:List RV:=[.tmp 2,.tmp 3,.tmp 4,.tmp 5]
theorem fn:Body Tryz.prog 111 18 code res:=⟨by decide,Tryz.f111,_,Tryz.func111,rfl,rfl,by kernel_rfl,by kernel_rfl⟩
end Pb
namespace Mu
abbrev r0:List In:=[i1 2 (.mv (kI 0)), i1 3 (.mv (kI 0))]
abbrev r1:List In:=[mv 5 0, i1 6 (.call 84 [.t 5]), i1 4 (.alloc 145 [.bool false,.bool false,.bool false,.bool false]), i0 (.store 4 (.t 4) (.t 6))]
abbrev r2:List In:=[i1 8 (.faddr 3 (.t 4)), i1 9 (.load 1 false (.t 8)), i1 10 (.un .not (.t 9)), mv 7 10]
abbrev r3:List In:=[i1 2 (.mv (kI 0)), i1 3 (.mv (kI 1))]
abbrev r4:List In:=[i1 12 (.faddr 2 (.t 4)), i1 13 (.load 1 false (.t 12)), mv 11 13]
abbrev r5:List In:=[i1 2 (.mv (kI 2)), i1 3 (.mv (kI 0))]
abbrev r6:List In:=[i1 2 (.mv (kI 1)), i1 3 (.mv (kI 0))]
abbrev code:IC:=.seq (.reg r0) (.seq (.reg r1) (.seq (.block 0 (.seq (.reg r2) (.cond (.t 7) (.seq (.reg r3) .ret) (.seq (.reg r4) (.cond (.t 11) (.seq (.reg r5) .ret) .skip))))) (.seq (.reg r6) .ret)))
abbrev res:List RV:=[.tmp 2,.tmp 3]
theorem fn:Body Tryz.prog 81 14 code res:=⟨by decide,Tryz.f81,_,Tryz.func81,rfl,rfl,by kernel_rfl,by kernel_rfl⟩
end Mu
namespace Nt
abbrev r0:List In:=[i1 1 (.box 70 (.t 0)), i1 2 (.mv (kI 0))]
abbrev r1:List In:=[i1 4 (.faddr 0 (.t 1)), i1 5 (.load 1 false (.t 4)), i1 6 (.call 84 [.t 5]), i1 3 (.alloc 145 [.bool false,.bool false,.bool false,.bool false]), i0 (.store 4 (.t 3) (.t 6))]
abbrev r2:List In:=[i1 8 (.faddr 3 (.t 3)), i1 9 (.load 1 false (.t 8)), i1 10 (.un .not (.t 9)), mv 7 10]
abbrev r3:List In:=[i1 2 (.mv (kI 1))]
abbrev r4:List In:=[i1 12 (.faddr 0 (.t 3)), i1 13 (.load 1 false (.t 12)), mv 14 13, i2 14 true 15 (.faddr 1 (.t 1)), i2 14 true 16 (.load 1 false (.t 15)), i2 14 true 17 (.call 115 [.t 16]), i2 14 true 18 (.un .not (.t 17)), i1 19 (.pick (.t 14) (.t 18) (kB false)), mv 11 19]
abbrev r5:List In:=[i1 20 (.faddr 1 (.t 3)), i1 21 (.load 1 false (.t 20)), mv 22 21, i2 22 true 23 (.faddr 2 (.t 1)), i2 22 true 24 (.load 1 false (.t 23)), i2 22 true 25 (.call 115 [.t 24]), i2 22 true 26 (.un .not (.t 25)), i1 27 (.pick (.t 22) (.t 26) (kB false)), mv 11 27]
abbrev r6:List In:=[i1 28 (.faddr 2 (.t 3)), i1 29 (.load 1 false (.t 28)), mv 30 29, i2 30 true 31 (.faddr 3 (.t 1)), i2 30 true 32 (.load 1 false (.t 31)), i2 30 true 33 (.call 116 [.t 32]), i2 30 true 34 (.un .not (.t 33)), i1 35 (.pick (.t 30) (.t 34) (kB false)), mv 11 35]
abbrev r7:List In:=[i1 2 (.mv (kI 3))]
abbrev r8:List In:=[i1 2 (.mv (kI 0))]
abbrev code:IC:=.seq (.reg r0) (.seq (.reg r1) (.seq (.block 0 (.seq (.reg r2) (.cond (.t 7) (.seq (.reg r3) .ret) (.seq (.seq (.reg r4) (.cond (.t 11) .skip (.seq (.reg r5) (.cond (.t 11) .skip (.reg r6))))) (.cond (.t 11) (.seq (.reg r7) .ret) .skip))))) (.seq (.reg r8) .ret)))
abbrev res:List RV:=[.tmp 2]
theorem fn:Body Tryz.prog 83 36 code res:=⟨by decide,Tryz.f83,_,Tryz.func83,rfl,rfl,by kernel_rfl,by kernel_rfl⟩
end Nt
namespace Qo
abbrev r0:List In:=[i1 2 (.mv (kB false))]
abbrev r1:List In:=[mv 3 0, i1 4 (.bin .geq (.t 3) (kI 0)), mv 5 4, i2 5 true 6 (.mv (.t 0)), i2 5 true 7 (.bin .leq (.t 6) (kI 7)), i1 8 (.pick (.t 5) (.t 7) (kB false)), mv 2 8]
abbrev code:IC:=.seq (.reg r0) (.seq (.reg r1) .ret)
abbrev res:List RV:=[.tmp 2]
theorem fn:Body Tryz.prog 115 9 code res:=⟨by decide,Tryz.f115,_,Tryz.func115,rfl,rfl,by kernel_rfl,by kernel_rfl⟩
end Qo
namespace Oe
abbrev r0:List In:=[i1 2 (.mv (kB false))]
abbrev r1:List In:=[mv 3 0, i1 4 (.bin .geq (.t 3) (kI 0)), mv 5 4, i2 5 true 6 (.mv (.t 0)), i2 5 true 7 (.bin .leq (.t 6) (kI 65535)), i1 8 (.pick (.t 5) (.t 7) (kB false)), mv 2 8]
abbrev code:IC:=.seq (.reg r0) (.seq (.reg r1) .ret)
abbrev res:List RV:=[.tmp 2]
theorem fn:Body Tryz.prog 116 9 code res:=⟨by decide,Tryz.f116,_,Tryz.func116,rfl,rfl,by kernel_rfl,by kernel_rfl⟩
end Oe
namespace Od
abbrev r0:List In:=[i1 2 (.mv (.k (.a (.raw (.slice none 0 0))))), i1 3 (.alloc 80 [.int .i64 0,.int .i64 0])]
abbrev r1:List In:=[i1 4 (.mv (.k (.a (.raw (.slice none 0 0)))))]
abbrev r2:List In:=[mv 10 0, i1 11 (.len (.t 10)), i1 12 (.mv (kI 0))]
abbrev r3:List In:=[i1 13 (.bin .lss (.t 12) (.t 11))]
abbrev r4:List In:=[mv 14 12, i1 15 (.iaddr 4 (.t 10) (.t 12)), i1 16 (.load 4 true (.t 15)), i1 6 (.alloc 70 [.int .i64 0,.int .i64 0,.int .i64 0,.int .i64 0]), mv 5 14, i0 (.store 4 (.t 6) (.t 16))]
abbrev r5:List In:=[i1 17 (.load 4 true (.t 6)), i1 18 (.call 83 [.t 17]), mv 7 18]
abbrev r6:List In:=[mv 19 7, i1 20 (.bin .neq (.t 19) (kI 0))]
abbrev r7:List In:=[mv 21 7, mv 22 5, i1 23 (.build [.int .i64 0,.int .i64 0] [(0,1,(.t 21)),(1,1,(.t 22))]), i1 2 (.mv (.k (.a (.raw (.slice none 0 0))))), i0 (.store 2 (.t 3) (.t 23))]
abbrev r8:List In:=[i1 24 (.faddr 0 (.t 6)), i1 25 (.load 1 false (.t 24)), i1 26 (.call 84 [.t 25]), i1 8 (.alloc 145 [.bool false,.bool false,.bool false,.bool false]), i0 (.store 4 (.t 8) (.t 26))]
abbrev r9:List In:=[i1 27 (.faddr 0 (.t 6)), i1 28 (.load 1 false (.t 27)), i1 29 (.bin .shl (.t 28) (.k (.a (.int .u64 10)))), mv 9 29]
abbrev r10:List In:=[i1 30 (.faddr 0 (.t 8)), i1 31 (.load 1 false (.t 30))]
abbrev r11:List In:=[mv 32 9, i1 33 (.faddr 1 (.t 6)), i1 34 (.load 1 false (.t 33)), i1 35 (.bin .shl (.t 34) (.k (.a (.int .u64 7)))), i1 36 (.bin .or (.t 32) (.t 35)), mv 9 36]
abbrev r12:List In:=[i1 37 (.faddr 1 (.t 8)), i1 38 (.load 1 false (.t 37))]
abbrev r13:List In:=[mv 39 9, i1 40 (.faddr 2 (.t 6)), i1 41 (.load 1 false (.t 40)), i1 42 (.bin .shl (.t 41) (.k (.a (.int .u64 4)))), i1 43 (.bin .or (.t 39) (.t 42)), mv 9 43]
abbrev r14:List In:=[mv 44 4, mv 45 9, i1 46 (.bsl 3 1 1 [.int .i64 0] [(0,1,(.t 45))]), i1 47 (.app 42 3 1 8 (.t 44) (.t 46)), mv 4 47]
abbrev r15:List In:=[i1 48 (.faddr 2 (.t 8)), i1 49 (.load 1 false (.t 48))]
abbrev r16:List In:=[mv 50 4, i1 51 (.faddr 3 (.t 6)), i1 52 (.load 1 false (.t 51)), i1 53 (.bsl 3 1 1 [.int .i64 0] [(0,1,(.t 52))]), i1 54 (.app 42 3 1 8 (.t 50) (.t 53)), mv 4 54]
abbrev r17:List In:=[mv 55 4, i1 56 (.len (.t 55)), i1 57 (.bin .gtr (.t 56) (kI 65536))]
abbrev r18:List In:=[mv 58 5, i1 59 (.build [.int .i64 0,.int .i64 0] [(0,1,(kI 4)),(1,1,(.t 58))]), i1 2 (.mv (.k (.a (.raw (.slice none 0 0))))), i0 (.store 2 (.t 3) (.t 59))]
abbrev r19:List In:=[i1 60 (.bin .add (.t 12) (kI 1)), mv 12 60]
abbrev r20:List In:=[mv 61 4, i1 62 (.build [.int .i64 0,.int .i64 0] []), mv 2 61, i0 (.store 2 (.t 3) (.t 62))]
abbrev code:IC:=.seq (.reg r0) (.seq (.reg r1) (.seq (.seq (.reg r2) (.block 0 (.loop (.seq (.reg r3) (.seq (.cond (.t 13) .skip (.exit 0)) (.seq (.block 1 (.seq (.reg r4) (.seq (.seq (.reg r5) (.seq (.reg r6) (.cond (.t 20) (.seq (.reg r7) .ret) .skip))) (.seq (.reg r8) (.seq (.reg r9) (.seq (.seq (.reg r10) (.cond (.t 31) (.reg r11) .skip)) (.seq (.seq (.reg r12) (.cond (.t 38) (.reg r13) .skip)) (.seq (.reg r14) (.seq (.seq (.reg r15) (.cond (.t 49) (.reg r16) .skip)) (.seq (.reg r17) (.cond (.t 57) (.seq (.reg r18) .ret) .skip))))))))))) (.reg r19))))))) (.seq (.reg r20) .ret)))
abbrev res:List RV:=[.tmp 2,.cell 3 2 true]
theorem fn:Body Tryz.prog 71 63 code res:=⟨by decide,Tryz.f71,_,Tryz.func71,rfl,rfl,by kernel_rfl,by kernel_rfl⟩
end Od
namespace Ku
abbrev r0:List In:=[i1 4 (.alloc 70 [.int .i64 0,.int .i64 0,.int .i64 0,.int .i64 0]), i1 5 (.mv (kI 0))]
abbrev r1:List In:=[mv 9 1, i1 10 (.bin .lss (.t 9) (kI 0)), mv 11 10, i2 11 false 12 (.mv (.t 1)), i2 11 false 13 (.mv (.t 0)), i2 11 false 14 (.len (.t 13)), i2 11 false 15 (.bin .geq (.t 12) (.t 14)), i1 16 (.pick (.t 11) (kB true) (.t 15)), mv 17 16, i2 17 false 18 (.mv (.t 0)), i2 17 false 19 (.mv (.t 1)), i2 17 false 20 (.iaddr 1 (.t 18) (.t 19)), i2 17 false 21 (.load 1 false (.t 20)), i2 17 false 22 (.call 116 [.t 21]), i2 17 false 23 (.un .not (.t 22)), i1 24 (.pick (.t 17) (kB true) (.t 23))]
abbrev r2:List In:=[i1 25 (.build [.int .i64 0,.int .i64 0,.int .i64 0,.int .i64 0] []), i0 (.store 4 (.t 4) (.t 25)), i1 5 (.mv (kI 0))]
abbrev r3:List In:=[mv 26 0, mv 27 1, i1 28 (.iaddr 1 (.t 26) (.t 27)), i1 29 (.load 1 false (.t 28)), mv 6 29]
abbrev r4:List In:=[mv 30 6, i1 31 (.bin .shr (.t 30) (.k (.a (.int .u64 10)))), mv 32 6, i1 33 (.bin .shr (.t 32) (.k (.a (.int .u64 7)))), i1 34 (.bin .and (.t 33) (kI 7)), mv 35 6, i1 36 (.bin .shr (.t 35) (.k (.a (.int .u64 4)))), i1 37 (.bin .and (.t 36) (kI 7)), i1 38 (.build [.int .i64 0,.int .i64 0,.int .i64 0,.int .i64 0] [(0,1,(.t 31)),(1,1,(.t 34)),(2,1,(.t 37))]), i1 7 (.alloc 70 [.int .i64 0,.int .i64 0,.int .i64 0,.int .i64 0]), i0 (.store 4 (.t 7) (.t 38))]
abbrev r5:List In:=[i1 39 (.faddr 0 (.t 7)), i1 40 (.load 1 false (.t 39)), i1 41 (.call 84 [.t 40]), i1 8 (.alloc 145 [.bool false,.bool false,.bool false,.bool false]), i0 (.store 4 (.t 8) (.t 41))]
abbrev r6:List In:=[i1 42 (.faddr 3 (.t 8)), i1 43 (.load 1 false (.t 42)), i1 44 (.un .not (.t 43)), mv 45 44, i2 45 false 46 (.mv (.t 6)), i2 45 false 47 (.bin .and (.t 46) (kI 15)), i2 45 false 48 (.bin .neq (.t 47) (kI 0)), i1 49 (.pick (.t 45) (kB true) (.t 48)), mv 50 49, i2 50 false 51 (.faddr 0 (.t 8)), i2 50 false 52 (.load 1 false (.t 51)), i2 50 false 53 (.un .not (.t 52)), i2 50 false 54 (.mv (.t 53)), i2 54 true 55 (.faddr 1 (.t 7)), i2 54 true 56 (.load 1 false (.t 55)), i2 54 true 57 (.bin .neq (.t 56) (kI 0)), i2 50 false 58 (.pick (.t 54) (.t 57) (kB false)), i1 59 (.pick (.t 50) (kB true) (.t 58)), mv 60 59, i2 60 false 61 (.faddr 1 (.t 8)), i2 60 false 62 (.load 1 false (.t 61)), i2 60 false 63 (.un .not (.t 62)), i2 60 false 64 (.mv (.t 63)), i2 64 true 65 (.faddr 2 (.t 7)), i2 64 true 66 (.load 1 false (.t 65)), i2 64 true 67 (.bin .neq (.t 66) (kI 0)), i2 60 false 68 (.pick (.t 64) (.t 67) (kB false)), i1 69 (.pick (.t 60) (kB true) (.t 68))]
abbrev r7:List In:=[i1 70 (.build [.int .i64 0,.int .i64 0,.int .i64 0,.int .i64 0] []), i0 (.store 4 (.t 4) (.t 70)), i1 5 (.mv (kI 0))]
abbrev r8:List In:=[i1 71 (.faddr 2 (.t 8)), i1 72 (.load 1 false (.t 71)), i1 73 (.un .not (.t 72))]
abbrev r9:List In:=[i1 74 (.load 4 true (.t 7)), i0 (.store 4 (.t 4) (.t 74)), i1 5 (.mv (kI 1))]
abbrev r10:List In:=[mv 75 1, i1 76 (.bin .add (.t 75) (kI 1)), mv 77 0, i1 78 (.len (.t 77)), i1 79 (.bin .geq (.t 76) (.t 78)), mv 80 79, i2 80 false 81 (.mv (.t 0)), i2 80 false 82 (.mv (.t 1)), i2 80 false 83 (.bin .add (.t 82) (kI 1)), i2 80 false 84 (.iaddr 1 (.t 81) (.t 83)), i2 80 false 85 (.load 1 false (.t 84)), i2 80 false 86 (.call 116 [.t 85]), i2 80 false 87 (.un .not (.t 86)), i1 88 (.pick (.t 80) (kB true) (.t 87))]
abbrev r11:List In:=[i1 89 (.build [.int .i64 0,.int .i64 0,.int .i64 0,.int .i64 0] []), i0 (.store 4 (.t 4) (.t 89)), i1 5 (.mv (kI 0))]
abbrev r12:List In:=[mv 90 0, mv 91 1, i1 92 (.bin .add (.t 91) (kI 1)), i1 93 (.iaddr 1 (.t 90) (.t 92)), i1 94 (.load 1 false (.t 93)), i1 95 (.faddr 3 (.t 7)), i0 (.store 1 (.t 95) (.t 94))]
abbrev r13:List In:=[i1 96 (.load 4 true (.t 7)), i0 (.store 4 (.t 4) (.t 96)), i1 5 (.mv (kI 2))]
abbrev code:IC:=.seq (.reg r0) (.seq (.seq (.reg r1) (.cond (.t 24) (.seq (.reg r2) .ret) .skip)) (.seq (.reg r3) (.seq (.reg r4) (.seq (.reg r5) (.seq (.seq (.reg r6) (.cond (.t 69) (.seq (.reg r7) .ret) .skip)) (.seq (.seq (.reg r8) (.cond (.t 73) (.seq (.reg r9) .ret) .skip)) (.seq (.seq (.reg r10) (.cond (.t 88) (.seq (.reg r11) .ret) .skip)) (.seq (.reg r12) (.seq (.reg r13) .ret)))))))))
abbrev res:List RV:=[.cell 4 4 true,.tmp 5]
theorem fn:Body Tryz.prog 118 97 code res:=⟨by decide,Tryz.f118,_,Tryz.func118,rfl,rfl,by kernel_rfl,by kernel_rfl⟩
end Ku
end Go.Proofs.YtbmecnjmbhokgaaGreatDoor
namespace Go.Proofs.YtbmecnjmbhokgaaGreatDoor
open Go.RowKit Vc
set_option linter.unusedVariables false
set_option linter.unusedSimpArgs false
attribute [local irreducible] T Za Zn Ent RdC RwC Ye Zf Zh
theorem mix:Tryz.prog.follows .mixedOrders=true:=by kernel_rfl
instance:Mix Tryz.prog:=⟨mix⟩
def Qg(n:Int):Bool:=decide (n=1∨(5≤n∧n≤13)∨n=2∨n=3∨n=4∨(14≤n∧n≤18)∨n=29∨n=31)
def Qh(n:Int):Bool:=decide (n=1∨(5≤n∧n≤13)∨n=3∨n=4∨n=28∨n=30)
def Ue(n:Int):Bool:=decide (n=2∨n=3∨n=4∨(19≤n∧n≤26)∨n=32)
def Tg(n:Int):Bool:=decide (0≤n∧n≤32)
theorem Vu(n:Int):RdC Tryz.prog 84 [.v (.a (.int .i64 n))] (.one (.agg [.bool (Qg n),.bool (Qh n),.bool (Ue n),.bool (Tg n)])):=by
 refine J1.fn.rd (by simp) (by simp[Zz]) (by simp[Zz]) fun w=> ?_
 repeat'(first|(first|refine Stp.h ?_)<;>try simp only[Zc,simprocAttr,↓reduceIte,reduceCtorEq,implies_true]|(with_reducible first|assumption|refine And.intro ?_ ?_)|(intro h;first|omega|exact tg h ‹_›|exact tg ‹_› h|skip))
 all_goals simp only[Qg,Qh,Ue,Tg,SV.one.injEq,S1.agg.injEq,List.cons.injEq,At.bool.injEq,true_eq_decide_iff,false_eq_decide_iff,and_true]
 all_goals omega
def reg(n:Int):Bool:=decide (0≤n)&&decide (n≤7)
def Qm(n:Int):Bool:=decide (0≤n)&&decide (n≤65535)
theorem Le(n:Int):RdC Tryz.prog 115 [.v (.a (.int .i64 n))] (.one (.a (.bool (reg n)))):=by
 refine Qo.fn.rd (by simp) (by simp[Zz]) (by simp[Zz]) fun w=> ?_
 repeat'(first|(first|refine Stp.h ?_)<;>try simp only[Zc,simprocAttr,↓reduceIte,reduceCtorEq,implies_true]|(with_reducible first|assumption|refine And.intro ?_ ?_)|(intro h;first|omega|exact tg h ‹_›|exact tg ‹_› h|skip))
 rfl
theorem Vh(n:Int):RdC Tryz.prog 116 [.v (.a (.int .i64 n))] (.one (.a (.bool (Qm n)))):=by
 refine Oe.fn.rd (by simp) (by simp[Zz]) (by simp[Zz]) fun w=> ?_
 repeat'(first|(first|refine Stp.h ?_)<;>try simp only[Zc,simprocAttr,↓reduceIte,reduceCtorEq,implies_true]|(with_reducible first|assumption|refine And.intro ?_ ?_)|(intro h;first|omega|exact tg h ‹_›|exact tg ‹_› h|skip))
 rfl
theorem D3(n:Int)(h:Tg n=true):RdC Tryz.prog 111 [.v (.a (.int .i64 n))] (.tup [.a (.bool (Qg n)),.a (.bool (Qh n)),.a (.bool (Ue n)),.a (.int .i64 0)]):=by
 refine Pb.fn.rd (by simp) (by simp[Zz]) (by simp[Zz]) fun w=> ?_
 repeat'(first|(first|refine Stp.h ?_|((with_reducible first|apply Za.rd (Vu _)|apply Zf.rd (Vu _));focus((repeat'(first|exact rfl|exact trivial|refine And.intro ?_ ?_|(simp[Zz];done)));done)))<;>try simp only[Zc,simprocAttr,↓reduceIte,reduceCtorEq,implies_true,h]|(with_reducible first|assumption|refine And.intro ?_ ?_)|(intro h;first|omega|exact tg h ‹_›|exact tg ‹_› h|skip))
theorem Uses_no(n:Int)(h:Tg n=false):RdC Tryz.prog 111 [.v (.a (.int .i64 n))] (.tup [.a (.bool false),.a (.bool false),.a (.bool false),.a (.int .i64 1)]):=by
 refine Pb.fn.rd (by simp) (by simp[Zz]) (by simp[Zz]) fun w=> ?_
 repeat'(first|(first|refine Stp.h ?_|((with_reducible first|apply Za.rd (Vu _)|apply Zf.rd (Vu _));focus((repeat'(first|exact rfl|exact trivial|refine And.intro ?_ ?_|(simp[Zz];done)));done)))<;>try simp only[Zc,simprocAttr,↓reduceIte,reduceCtorEq,implies_true,h]|(with_reducible first|assumption|refine And.intro ?_ ?_)|(intro h;first|omega|exact tg h ‹_›|exact tg ‹_› h|skip))
def W0(x:Ins):Int:=if Tg x.op=false then 1 else if(Qg x.op&& !reg x.d)||((Qh x.op&& !reg x.s)||(Ue x.op&& !Qm x.imm))then 3 else 0
set_option maxHeartbeats 1000000 in
theorem Ng(x:Ins):RdC Tryz.prog 83 [.v (.agg x.cells)] (.one (.a (.int .i64 (W0 x)))):=by
 refine Nt.fn.rd (by simp) (by simp[Q0,S1.bd,At.bd,Ins.cells]) (by simp[Zz]) fun w=> ?_
 repeat'(first|(first|refine Stp.h ?_|((with_reducible first|apply Za.rd (Vu _)|apply Zf.rd (Vu _));focus((repeat'(first|exact rfl|exact trivial|refine And.intro ?_ ?_|(simp[Zz];done)));done))|((with_reducible first|apply Za.rd (Le _)|apply Zf.rd (Le _));focus((repeat'(first|exact rfl|exact trivial|refine And.intro ?_ ?_|(simp[Zz];done)));done))|((with_reducible first|apply Za.rd (Vh _)|apply Zf.rd (Vh _));focus((repeat'(first|exact rfl|exact trivial|refine And.intro ?_ ?_|(simp[Zz];done)));done)))<;>try simp only[Zc,simprocAttr,↓reduceIte,reduceCtorEq,implies_true]|(with_reducible first|assumption|refine And.intro ?_ ?_)|(intro h;first|omega|exact tg h ‹_›|exact tg ‹_› h|skip))
 all_goals simp_all[W0]
def I9(n:Int):Int:=if Ue n then 2 else 1
theorem Dw(n:Int)(h:Tg n=true):RdC Tryz.prog 81 [.v (.a (.int .i64 n))] (.tup [.a (.int .i64 (I9 n)),.a (.int .i64 0)]):=by
 refine Mu.fn.rd (by simp) (by simp[Zz]) (by simp[Zz]) fun w=> ?_
 repeat'(first|(first|refine Stp.h ?_|((with_reducible first|apply Za.rd (Vu _)|apply Zf.rd (Vu _));focus((repeat'(first|exact rfl|exact trivial|refine And.intro ?_ ?_|(simp[Zz];done)));done)))<;>try simp only[Zc,simprocAttr,↓reduceIte,reduceCtorEq,implies_true,h]|(with_reducible first|assumption|refine And.intro ?_ ?_)|(intro h;first|omega|exact tg h ‹_›|exact tg ‹_› h|skip))
 all_goals simp_all[I9]
def Vx:Ins:=⟨0,0,0,0⟩
end Go.Proofs.YtbmecnjmbhokgaaGreatDoor
namespace Go.Proofs.YtbmecnjmbhokgaaGreatDoor
open Vc
namespace Kp
abbrev r0:List In:=[i1 2 (.mv (kB false))]
abbrev r1:List In:=[mv 6 0, i1 7 (.slen (.t 6)), i1 8 (.bin .lss (.t 7) (kI 1)), mv 9 8, i2 9 false 10 (.mv (.t 0)), i2 9 false 11 (.slen (.t 10)), i2 9 false 12 (.bin .gtr (.t 11) (kI 32)), i1 13 (.pick (.t 9) (kB true) (.t 12))]
abbrev r2:List In:=[i1 2 (.mv (kB false))]
abbrev r3:List In:=[mv 14 0, i1 15 (.slen (.t 14)), i1 16 (.mv (kI 0))]
abbrev r4:List In:=[i1 17 (.bin .lss (.t 16) (.t 15))]
abbrev r5:List In:=[mv 18 16, mv 3 18]
abbrev r6:List In:=[mv 19 0, mv 20 3, i1 21 (.sidx (.t 19) (.t 20)), mv 4 21]
abbrev r7:List In:=[mv 22 4, i1 23 (.bin .geq (.t 22) (.k (.a (.int .u8 97)))), mv 24 23, i2 24 true 25 (.mv (.t 4)), i2 24 true 26 (.bin .leq (.t 25) (.k (.a (.int .u8 122)))), i1 27 (.pick (.t 24) (.t 26) (kB false)), mv 28 27, i2 28 false 29 (.mv (.t 4)), i2 28 false 30 (.bin .eql (.t 29) (.k (.a (.int .u8 95)))), i1 31 (.pick (.t 28) (kB true) (.t 30)), mv 32 31, i2 32 false 33 (.mv (.t 4)), i2 32 false 34 (.bin .eql (.t 33) (.k (.a (.int .u8 46)))), i2 32 false 35 (.mv (.t 34)), i2 35 true 36 (.mv (.t 3)), i2 35 true 37 (.bin .eql (.t 36) (kI 0)), i2 32 false 38 (.pick (.t 35) (.t 37) (kB false)), i1 39 (.pick (.t 32) (kB true) (.t 38)), mv 5 39]
abbrev r8:List In:=[mv 40 5, i1 41 (.un .not (.t 40)), mv 42 41, i2 42 true 43 (.mv (.t 3)), i2 42 true 44 (.bin .eql (.t 43) (kI 0)), i2 42 true 45 (.mv (.t 44)), i2 45 false 46 (.mv (.t 4)), i2 45 false 47 (.bin .lss (.t 46) (.k (.a (.int .u8 48)))), i2 42 true 48 (.pick (.t 45) (kB true) (.t 47)), i2 42 true 49 (.mv (.t 48)), i2 49 false 50 (.mv (.t 4)), i2 49 false 51 (.bin .gtr (.t 50) (.k (.a (.int .u8 57)))), i2 42 true 52 (.pick (.t 49) (kB true) (.t 51)), i1 53 (.pick (.t 42) (.t 52) (kB false))]
abbrev r9:List In:=[i1 2 (.mv (kB false))]
abbrev r10:List In:=[i1 54 (.bin .add (.t 16) (kI 1)), mv 16 54]
abbrev r11:List In:=[mv 55 0, i1 56 (.bin .neq (.t 55) (.k (.a (.str [46])))), mv 2 56]
abbrev code:IC:=.seq (.reg r0) (.seq (.seq (.reg r1) (.cond (.t 13) (.seq (.reg r2) .ret) .skip)) (.seq (.seq (.reg r3) (.block 0 (.loop (.seq (.reg r4) (.seq (.cond (.t 17) .skip (.exit 0)) (.seq (.block 1 (.seq (.reg r5) (.seq (.reg r6) (.seq (.reg r7) (.seq (.reg r8) (.cond (.t 53) (.seq (.reg r9) .ret) .skip)))))) (.reg r10))))))) (.seq (.reg r11) .ret)))
abbrev res:List RV:=[.tmp 2]
theorem fn:Body Tryz.prog 109 57 code res:=⟨by decide,Tryz.f109,_,Tryz.func109,rfl,rfl,by kernel_rfl,by kernel_rfl⟩
end Kp
namespace Mt
abbrev r0:List In:=[i1 2 (.mv (kB false))]
abbrev r1:List In:=[mv 8 0, i1 9 (.call 111 [.t 8]), mv 7 9, i1 10 (.ext 0 (.t 7)), i1 11 (.ext 1 (.t 7)), i1 12 (.ext 2 (.t 7)), i1 13 (.ext 3 (.t 7)), mv 3 10, mv 4 11, mv 5 12, mv 6 13]
abbrev r2:List In:=[mv 14 6, i1 15 (.bin .eql (.t 14) (kI 0)), mv 16 15, i2 16 true 17 (.mv (.t 5)), i1 18 (.pick (.t 16) (.t 17) (kB false)), mv 19 18, i2 19 true 20 (.mv (.t 0)), i2 19 true 21 (.bin .neq (.t 20) (kI 32)), i1 22 (.pick (.t 19) (.t 21) (kB false)), mv 2 22]
abbrev code:IC:=.seq (.reg r0) (.seq (.reg r1) (.seq (.reg r2) .ret))
abbrev res:List RV:=[.tmp 2]
theorem fn:Body Tryz.prog 114 23 code res:=⟨by decide,Tryz.f114,_,Tryz.func114,rfl,rfl,by kernel_rfl,by kernel_rfl⟩
end Mt
namespace Kr
abbrev r0:List In:=[i1 1 (.box 72 (.t 0)), i1 2 (.mv (kI 0))]
abbrev r1:List In:=[i1 4 (.faddr 0 (.t 1)), i1 5 (.load 1 false (.t 4)), i1 6 (.bin .neq (.t 5) (.k (.a (.str []))))]
abbrev r2:List In:=[i1 7 (.faddr 0 (.t 1)), i1 8 (.load 1 false (.t 7)), i1 9 (.call 109 [.t 8]), i1 10 (.un .not (.t 9))]
abbrev r3:List In:=[i1 2 (.mv (kI 7))]
abbrev r4:List In:=[i1 11 (.faddr 5 (.t 1)), i1 12 (.load 1 false (.t 11)), i1 13 (.bin .neq (.t 12) (.k (.a (.str [])))), mv 14 13, i2 14 false 15 (.faddr 1 (.t 1)), i2 14 false 16 (.load 4 true (.t 15)), i2 14 false 17 (.build [.int .i64 0,.int .i64 0,.int .i64 0,.int .i64 0] []), i2 14 false 18 (.aeq true [.int,.int,.int,.int] (.t 16) (.t 17)), i1 19 (.pick (.t 14) (kB true) (.t 18))]
abbrev r5:List In:=[i1 2 (.mv (kI 8))]
abbrev r6:List In:=[i1 2 (.mv (kI 0))]
abbrev r7:List In:=[i1 20 (.faddr 1 (.t 1)), i1 21 (.load 4 true (.t 20)), i1 22 (.call 83 [.t 21]), mv 3 22]
abbrev r8:List In:=[mv 23 3, i1 24 (.bin .neq (.t 23) (kI 0))]
abbrev r9:List In:=[mv 25 3, mv 2 25]
abbrev r10:List In:=[i1 27 (.faddr 5 (.t 1)), i1 28 (.load 1 false (.t 27)), i1 29 (.bin .eql (.t 28) (.k (.a (.str [])))), mv 26 29]
abbrev r11:List In:=[i1 2 (.mv (kI 0))]
abbrev r12:List In:=[i1 31 (.faddr 5 (.t 1)), i1 32 (.load 1 false (.t 31)), i1 33 (.call 109 [.t 32]), i1 34 (.un .not (.t 33)), mv 30 34]
abbrev r13:List In:=[i1 2 (.mv (kI 7))]
abbrev r14:List In:=[i1 36 (.faddr 1 (.t 1)), i1 37 (.faddr 0 (.t 36)), i1 38 (.load 1 false (.t 37)), i1 39 (.call 114 [.t 38]), i1 40 (.un .not (.t 39)), mv 41 40, i2 41 false 42 (.faddr 1 (.t 1)), i2 41 false 43 (.faddr 3 (.t 42)), i2 41 false 44 (.load 1 false (.t 43)), i2 41 false 45 (.bin .neq (.t 44) (kI 0)), i1 46 (.pick (.t 41) (kB true) (.t 45)), mv 35 46]
abbrev r15:List In:=[i1 2 (.mv (kI 8))]
abbrev r16:List In:=[i1 2 (.mv (kI 0))]
abbrev code:IC:=.seq (.reg r0) (.seq (.seq (.reg r1) (.cond (.t 6) (.seq (.seq (.reg r2) (.cond (.t 10) (.seq (.reg r3) .ret) .skip)) (.seq (.seq (.reg r4) (.cond (.t 19) (.seq (.reg r5) .ret) .skip)) (.seq (.reg r6) .ret))) .skip)) (.seq (.seq (.reg r7) (.seq (.reg r8) (.cond (.t 24) (.seq (.reg r9) .ret) .skip))) (.seq (.block 0 (.seq (.reg r10) (.cond (.t 26) (.seq (.reg r11) .ret) (.seq (.reg r12) (.cond (.t 30) (.seq (.reg r13) .ret) (.seq (.reg r14) (.cond (.t 35) (.seq (.reg r15) .ret) .skip))))))) (.seq (.reg r16) .ret))))
abbrev res:List RV:=[.tmp 2]
theorem fn:Body Tryz.prog 80 47 code res:=⟨by decide,Tryz.f80,_,Tryz.func80,rfl,rfl,by kernel_rfl,by kernel_rfl⟩
end Kr
end Go.Proofs.YtbmecnjmbhokgaaGreatDoor
namespace Go.Proofs.YtbmecnjmbhokgaaGreatDoor
open Go.RowKit Vc
set_option linter.unusedVariables false
set_option linter.unusedSimpArgs false
attribute [local irreducible] T Za Zn Ent RdC RwC Ye Zf Zh
def Gb(i:Nat)(c:Int):Bool:=(decide (97≤c)&&decide (c≤122))||(decide (c=95)||((decide (c=46)&&decide (i=0))||(decide (0<i)&&(decide (48≤c)&&decide (c≤57)))))
def Xm(s:List UInt8):Bool:=(decide (1≤s.length)&&decide (s.length≤32))&&(decide (s≠[46])&&(List.range s.length).all fun i=>Gb i (Wh s i))
theorem Zb3{s:List UInt8}{k:Nat}(hk:k<s.length)(h:Gb k (Wh s k)=false):Xm s=false:=by
 unfold Xm
 have:((List.range s.length).all fun i=>Gb i (Wh s i))=false:=by
  rw[List.all_eq_false]
  exact⟨k,by simpa using hk,by simp[h]⟩
 simp[this]
theorem Bs{s:List UInt8}(h1:1≤s.length)(h2:s.length≤32)(h:∀i,i<s.length→Gb i (Wh s i)=true):Xm s=decide (s≠[46]):=by
 unfold Xm
 have:((List.range s.length).all fun i=>Gb i (Wh s i))=true:=by
  rw[List.all_eq_true]
  exact fun i hi=>h i (by simpa using hi)
 simp[this,h1,h2]
theorem Bt{s:List UInt8}(h:32<s.length):Xm s=false:=by
 unfold Xm;simp;omega
theorem Zb4:Xm []=false:=by decide
set_option maxHeartbeats 1000000 in
theorem Sq(s:List UInt8):RdC Tryz.prog 109 [.v (.a (.str s))] (.one (.a (.bool (Xm s)))):=by
 refine Kp.fn.rd (by simp) (by simp[Zz]) (by simp[Zz]) fun w=> ?_
 by_cases hl:1≤s.length∧s.length≤32
 ·have h1:¬(s.length:Int)<1:=by omega
  have h2:¬(32:Int)<s.length:=by omega
  repeat'(first|(first|refine Stp.h ?_)<;>try simp only[Zc,simprocAttr,↓reduceIte,reduceCtorEq,implies_true,h1,h2]|(with_reducible first|assumption|refine And.intro ?_ ?_)|(intro h;first|omega|exact tg h ‹_›|exact tg ‹_› h|skip))
  all_goals first|omega|skip
  refine T.loop (ι:= {k:Nat//k≤s.length∧∀i,i<k→Gb i (Wh s i)=true})
   (fun x=>⟨[(16,.one (.a (.int .i64 (x.1:Int)))),(15,.one (.a (.int .i64 s.length))),(0,.one (.a (.str s)))],[],0⟩)
   (fun x=>s.length-x.1) ⟨0,by simp,by simp⟩ (Ent.mk1 (id) (by simp[Zx])) ?_
  rintro⟨k,hk,hrun⟩
  by_cases hlt:k<s.length
  ·have hw:IntKind.i64.wrap ((k:Int)+1)=((k+1:Nat):Int):=Zy (by omega)
   have ht:((k:Int)).toNat=k:=by omega
   generalize hc:Wh s k=c
   cases hok:Gb k c with
   |false=>
    have hn:=Zb3 hlt (hc▸hok)
    simp only[Gb,Bool.or_eq_false_iff,Bool.and_eq_false_iff,decide_eq_false_iff_not]at hok
    repeat'(first|(first|refine Stp.h ?_)<;>try simp only[Zc,simprocAttr,↓reduceIte,reduceCtorEq,implies_true,hw,ht,hc,Int.ofNat_lt]|(with_reducible first|assumption|refine And.intro ?_ ?_)|(intro h;first|omega|exact tg h ‹_›|exact tg ‹_› h|skip))
    all_goals first|omega|exact congrArg _ (congrArg _ (congrArg _ hn.symm))|skip
   |true=>
    have hall:∀i,i<k+1→Gb i (Wh s i)=true:=fun i hi=>by
     by_cases hik:i<k
     ·exact hrun i hik
     ·have:i=k:=by omega
      subst this;rw[hc];exact hok
    simp only[Gb,Bool.or_eq_true,Bool.and_eq_true,decide_eq_true_eq]at hok
    repeat'(first|(first|refine Stp.h ?_)<;>try simp only[Zc,simprocAttr,↓reduceIte,reduceCtorEq,implies_true,hw,ht,hc,Int.ofNat_lt]|(with_reducible first|assumption|refine And.intro ?_ ?_)|(intro h;first|omega|exact tg h ‹_›|exact tg ‹_› h|skip))
    all_goals first|omega|exact⟨⟨k+1,hlt,hall⟩,(Ent.mk1 (id) (by simp[Zx])),by simp only;omega⟩|skip
  ·have hk2:k=s.length:=by omega
   subst hk2
   have hg:=Bs hl.1 hl.2 hrun
   repeat'(first|(first|refine Stp.h ?_)<;>try simp only[Zc,simprocAttr,↓reduceIte,reduceCtorEq,implies_true,Int.ofNat_lt,hg]|(with_reducible first|assumption|refine And.intro ?_ ?_)|(intro h;first|omega|exact tg h ‹_›|exact tg ‹_› h|skip))
   all_goals first|omega|simp|skip
 ·by_cases h0:s=[]
  ·subst h0
   have:=Zb4
   repeat'(first|(first|refine Stp.h ?_)<;>try simp only[Zc,simprocAttr,↓reduceIte,reduceCtorEq,implies_true,this]|(with_reducible first|assumption|refine And.intro ?_ ?_)|(intro h;first|omega|exact tg h ‹_›|exact tg ‹_› h|skip))
   all_goals first|omega|simp|skip
  ·have hpos:1≤s.length:=by cases s with|nil=>exact absurd rfl h0|cons _ _=>simp
   have hn:=Bt (s:=s) (by omega)
   have h1:¬(s.length:Int)<1:=by omega
   have h2:(32:Int)<s.length:=by omega
   repeat'(first|(first|refine Stp.h ?_)<;>try simp only[Zc,simprocAttr,↓reduceIte,reduceCtorEq,implies_true,h1,h2,hn]|(with_reducible first|assumption|refine And.intro ?_ ?_)|(intro h;first|omega|exact tg h ‹_›|exact tg ‹_› h|skip))
def Uy(n:Int):Bool:=Ue n&& !decide (n=32)
theorem Rm(n:Int):RdC Tryz.prog 114 [.v (.a (.int .i64 n))] (.one (.a (.bool (Uy n)))):=by
 refine Mt.fn.rd (by simp) (by simp[Zz]) (by simp[Zz]) fun w=> ?_
 cases hk:Tg n with
 |true=>
  repeat'(first|(first|refine Stp.h ?_|(refine rq (D3 n hk) ?_ ?_;focus simp[Zz];done))<;>try simp only[Zc,simprocAttr,↓reduceIte,reduceCtorEq,implies_true,Uy]|(with_reducible first|assumption|refine And.intro ?_ ?_)|(intro h;first|omega|exact tg h ‹_›|exact tg ‹_› h|skip))
 |false=>
  have hi:Ue n=false:=by
   simp only[Tg,Ue,decide_eq_false_iff_not]at hk ⊢;omega
  repeat'(first|(first|refine Stp.h ?_|(refine rq (Uses_no n hk) ?_ ?_;focus simp[Zz];done))<;>try simp only[Zc,simprocAttr,↓reduceIte,reduceCtorEq,implies_true,Uy,hi]|(with_reducible first|assumption|refine And.intro ?_ ?_)|(intro h;first|omega|exact tg h ‹_›|exact tg ‹_› h|skip))
def U2(x:Ln):Int:=
 if x.label≠[]then(if Xm x.label=false then 7 else if x.ref≠[]∨x.ins≠Vx then 8 else 0)
 else if W0 x.ins≠0 then W0 x.ins else if x.ref=[]then 0 else if Xm x.ref=false then 7 else if Uy x.ins.op=false∨x.ins.imm≠0 then 8 else 0
def ln0:Ln:=⟨[],Vx,[]⟩
theorem ins_no(x:Ins):x=Vx↔x.op=0∧x.d=0∧x.s=0∧x.imm=0:=by
 cases x;simp[Vx]
set_option maxHeartbeats 2000000 in
theorem Xy(x:Ln):RdC Tryz.prog 80 [.v (.agg x.cells)] (.one (.a (.int .i64 (U2 x)))):=by
 refine Kr.fn.rd (by simp) (by simp[Q0,S1.bd,At.bd,Ln.cells]) (by simp[Zz]) fun w=> ?_
 by_cases hlb:x.label=[]
 ·repeat'(first|(first|refine Stp.h ?_|((with_reducible first|apply Za.rd (Sq _)|apply Zf.rd (Sq _));focus((repeat'(first|exact rfl|exact trivial|refine And.intro ?_ ?_|(simp[Zz];done)));done))|(refine rq (Ng x.ins) ?_ ?_;focus simp[Zz];done)|((with_reducible first|apply Za.rd (Rm _)|apply Zf.rd (Rm _));focus((repeat'(first|exact rfl|exact trivial|refine And.intro ?_ ?_|(simp[Zz];done)));done)))<;>try simp only[Zc,simprocAttr,↓reduceIte,reduceCtorEq,implies_true,hlb]|(with_reducible first|assumption|refine And.intro ?_ ?_)|(intro h;first|omega|exact tg h ‹_›|exact tg ‹_› h|skip))
  all_goals simp_all[U2]
 ·repeat'(first|(first|refine Stp.h ?_|((with_reducible first|apply Za.rd (Sq _)|apply Zf.rd (Sq _));focus((repeat'(first|exact rfl|exact trivial|refine And.intro ?_ ?_|(simp[Zz];done)));done))|(refine rq (Ng x.ins) ?_ ?_;focus simp[Zz];done)|((with_reducible first|apply Za.rd (Rm _)|apply Zf.rd (Rm _));focus((repeat'(first|exact rfl|exact trivial|refine And.intro ?_ ?_|(simp[Zz];done)));done)))<;>try simp only[Zc,simprocAttr,↓reduceIte,reduceCtorEq,implies_true,hlb]|(with_reducible first|assumption|refine And.intro ?_ ?_)|(intro h;first|omega|exact tg h ‹_›|exact tg ‹_› h|skip))
  all_goals simp_all[U2,ins_no]
def Ow(x:Ln):Int:=if x.label≠[]then 0 else if Ue x.ins.op then 2 else 1
end Go.Proofs.YtbmecnjmbhokgaaGreatDoor
namespace Go.Proofs.YtbmecnjmbhokgaaGreatDoor
open Vc
namespace Vy
abbrev r0:List In:=[i1 0 (.mv (.k (.a (.raw (.slice none 0 0)))))]
abbrev r1:List In:=[i1 1 (.bsl 9 1 33 [.str [],.str [],.str [],.str [],.str [],.str [],.str [],.str [],.str [],.str [],.str [],.str [],.str [],.str [],.str [],.str [],.str [],.str [],.str [],.str [],.str [],.str [],.str [],.str [],.str [],.str [],.str [],.str [],.str [],.str [],.str [],.str [],.str []] [(0,1,(.k (.a (.str [104,97,108,116])))),(1,1,(.k (.a (.str [109,111,118])))),(2,1,(.k (.a (.str [108,100,105])))),(3,1,(.k (.a (.str [108,100])))),(4,1,(.k (.a (.str [115,116])))),(5,1,(.k (.a (.str [97,100,100])))),(6,1,(.k (.a (.str [97,100,99])))),(7,1,(.k (.a (.str [115,117,98])))),(8,1,(.k (.a (.str [115,98,99])))),(9,1,(.k (.a (.str [97,110,100])))),(10,1,(.k (.a (.str [111,114])))),(11,1,(.k (.a (.str [120,111,114])))),(12,1,(.k (.a (.str [99,109,112])))),(13,1,(.k (.a (.str [99,112,99])))),(14,1,(.k (.a (.str [115,104,108])))),(15,1,(.k (.a (.str [114,111,108])))),(16,1,(.k (.a (.str [115,104,114])))),(17,1,(.k (.a (.str [115,97,114])))),(18,1,(.k (.a (.str [114,111,114])))),(19,1,(.k (.a (.str [106,109,112])))),(20,1,(.k (.a (.str [106,122])))),(21,1,(.k (.a (.str [106,110,122])))),(22,1,(.k (.a (.str [106,99])))),(23,1,(.k (.a (.str [106,110,99])))),(24,1,(.k (.a (.str [106,108,116])))),(25,1,(.k (.a (.str [106,103,101])))),(26,1,(.k (.a (.str [99,97,108,108])))),(27,1,(.k (.a (.str [114,101,116])))),(28,1,(.k (.a (.str [112,117,115,104])))),(29,1,(.k (.a (.str [112,111,112])))),(30,1,(.k (.a (.str [111,117,116])))),(31,1,(.k (.a (.str [105,110])))),(32,1,(.k (.a (.str [116,114,97,112]))))]), mv 0 1]
abbrev code:IC:=.seq (.reg r0) (.seq (.reg r1) .ret)
abbrev res:List RV:=[.tmp 0]
theorem fn:Body Tryz.prog 110 2 code res:=⟨by decide,Tryz.f110,_,Tryz.func110,rfl,rfl,by kernel_rfl,by kernel_rfl⟩
end Vy
end Go.Proofs.YtbmecnjmbhokgaaGreatDoor
namespace Go.Proofs.YtbmecnjmbhokgaaGreatDoor
open Go Go.RowKit Vc
set_option linter.unusedVariables false
set_option linter.unusedSimpArgs false
attribute [local irreducible] T Za Zn Ent RdC RwC Ye Zf Zh
def Hd:List (List UInt8):=[[104,97,108,116],[109,111,118],[108,100,105],[108,100],[115,116],[97,100,100],[97,100,99],[115,117,98],[115,98,99],[97,110,100],[111,114],[120,111,114],[99,109,112],[99,112,99],[115,104,108],[114,111,108],[115,104,114],[115,97,114],[114,111,114],[106,109,112],[106,122],[106,110,122],[106,99],[106,110,99],[106,108,116],[106,103,101],[99,97,108,108],[114,101,116],[112,117,115,104],[112,111,112],[111,117,116],[105,110],[116,114,97,112]]
theorem Eu:GC Tryz.prog 110 [] [] 0 [] (.one (.a (.ref 0))) [(0,.row 9 .str Hd)] 1:=by
 refine Vy.fn.gc (by simp) (by simp[Zu,Zw,Zv,Zj,Ze,Vc.S1.okN,At.okN,SV.okN,Res.okN,Res.outOk,Zo,Res.own,Value.oneCell']) fun w X fr=> ?_
 refine T.regs ?_
 simp only[Zc,simprocAttr,↓reduceIte,reduceCtorEq,implies_true,Vy.r0]
 refine T.regs ?_
 simp only[Zc,simprocAttr,↓reduceIte,reduceCtorEq,implies_true,Vy.r1]
 refine T.weak (Ent.litRow (m:=0) .str Hd rfl rfl rfl rfl (by decide)) ?_
 simp only[Zc,simprocAttr,↓reduceIte,reduceCtorEq,implies_true]
 repeat'(first|(first|refine Stp.h ?_)<;>try simp only[Zc,simprocAttr,↓reduceIte,reduceCtorEq,implies_true]|(with_reducible first|assumption|refine And.intro ?_ ?_)|(intro h;first|omega|exact tg h ‹_›|exact tg ‹_› h|skip))
end Go.Proofs.YtbmecnjmbhokgaaGreatDoor
namespace Go.Proofs.YtbmecnjmbhokgaaGreatDoor
open Go.RowKit Vc
set_option linter.unusedVariables false
set_option linter.unusedSimpArgs false
def trimB(s:List UInt8):List UInt8:=Lib.trimS s [32,9]
def Sf:List (List UInt8)→List UInt8→Nat→Int
 | [],_,_=> -1
 |x::l,w,k=>if x=w then(k:Int)else Sf l w (k+1)
def kindS(w:List UInt8):Int:=Sf Hd w 0
def Mk(s:List UInt8)(most:Nat):Option Nat:=match Hg s with
 |some v=>if v≤most then some v else none
 |none=>none
def E7:List UInt8→Option Nat
 |b::s=>if b=114 then Mk s 7 else none
 | []=>none
def R8(rest:List UInt8):List (List UInt8):=if trimB rest=[]then[]else(splitS 44 (trimB rest)).map trimB
def Oc(has:Bool)(ps:List (List UInt8)):Except Int (Nat×List (List UInt8)):=
 if has=false then .ok (0,ps)else match ps with
 | []=>.error 5
 |p::ps=>match E7 p with
  |some n=>.ok (n,ps)
  |none=>.error 2
def Q6(op:Int)(ps:List (List UInt8)):Except Int (Nat×List UInt8×List (List UInt8)):=
 if Ue op=false then .ok (0,[],ps)else match ps with
 | []=>.error 5
 |p::ps=>match Mk p 65535 with
  |some n=>.ok (n,[],ps)
  |none=>if Xm p=true∧Uy op=true then .ok (0,p,ps)else .error 2
def insV(op:Int)(ps:List (List UInt8)):Except Int Ln:=
 match Oc (Qg op) ps with
 |.error e=>.error e
 |.ok (d,ps)=>match Oc (Qh op) ps with
  |.error e=>.error e
  |.ok (s,ps)=>match Q6 op ps with
   |.error e=>.error e
   |.ok (i,r,ps)=>if ps=[]then .ok ⟨[],⟨op,d,s,i⟩,r⟩else .error 5
def Ny(s:List UInt8):Except Int (Option Ln):=
 let t:=trimB (upToS 59 s).1
 if t=[]then .ok none
 else if t.getLast? =some 58 then(if Xm t.dropLast=true then .ok (some ⟨t.dropLast,Vx,[]⟩)else .error 7)
 else if kindS (upToS 32 t).1<0 then .error 1
 else match insV (kindS (upToS 32 t).1) (R8 (upToS 32 t).2.1)with
  |.error e=>.error e
  |.ok l=>.ok (some l)
def Ob:List (List UInt8)→Nat→List Ln→List Ln×Int×Int
 | [],_,acc=>(acc,0,0)
 |s::l,k,acc=>match Ny s with
  |.error e=>([],e,k)
  |.ok none=>Ob l (k+1) acc
  |.ok (some x)=>Ob l (k+1) (acc++[x])
def K1(t:List UInt8):List Ln×Int×Int:=
 if 1048576<t.length then([],4,0)else if 40000<(Em t).length then([],5,0)else Ob (Em t) 0 []
end Go.Proofs.YtbmecnjmbhokgaaGreatDoor
namespace Go.Proofs.YtbmecnjmbhokgaaGreatDoor
open Go.RowKit
set_option linter.unusedVariables false
set_option linter.unusedSimpArgs false
namespace Vc
theorem C2{w:World}{g n:Nat}(k:Nat)(hk:k≠g):(w.freeze ⟨g,0,none⟩ n).heap[k]? =w.heap[k]? :=by
 unfold World.freeze
 split
 ·rfl
 ·rename_i h
  rw[Array.getElem?_modify,if_neg (fun e=>hk e.symm)]
theorem C4(w:World)(g n:Nat):(w.freeze ⟨g,0,none⟩ n).os=w.os∧(w.freeze ⟨g,0,none⟩ n).tape=w.tape∧(w.freeze ⟨g,0,none⟩ n).output=w.output:=by
 unfold World.freeze
 split<;>exact⟨rfl,rfl,rfl⟩
theorem C5(w:World)(g n:Nat):(w.freeze ⟨g,0,none⟩ n).heap.size=w.heap.size:=by
 unfold World.freeze
 split
 ·rfl
 ·exact Array.size_modify ..
theorem Zc7(ρ:Env)(l:List (List UInt8)):((l.flatMap (Kd.enc .str)).map (At.den ρ))=l.map fun y=>Value.string ⟨y.toArray⟩:=by
 induction l with
 |nil=>rfl
 |cons x l ih=>simp only[List.flatMap_cons,List.map_append,List.map_cons,ih];rfl
end Vc
end Go.Proofs.YtbmecnjmbhokgaaGreatDoor
namespace Go.Proofs
open Go.Shelf
def Tryz.lays160_ren:Go.Shelf.Ren:=⟨fun|160=>107|232=>154|231=>153|227=>155|234=>157|233=>156|236=>159|235=>158|228=>180|271=>182|151=>181|197=>177|120=>195|152=>194|260=>189|137=>206|119=>207|224=>192|225=>191|217=>190|266=>204|n=>n,fun|9=>9|4=>4|3=>3|5=>5|117=>206|116=>205|0=>0|124=>209|21=>21|105=>223|46=>86|119=>240|139=>243|138=>242|n=>n,fun|3=>1|4=>2|n=>n⟩
theorem Tryz.lays160:Go.Proofs.Lays.n160 Tryz.prog Tryz.lays160_ren:= {
 mixed:=by kernel_rfl
 f119:=Tryz.func207.trans (congrArg some (by kernel_rfl))
 f120:=Tryz.func195.trans (congrArg some (by kernel_rfl))
 f137:=Tryz.func206.trans (congrArg some (by kernel_rfl))
 f151:=Tryz.func181.trans (congrArg some (by kernel_rfl))
 f152:=Tryz.func194.trans (congrArg some (by kernel_rfl))
 f160:=Tryz.func107.trans (congrArg some (by kernel_rfl))
 f197:=Tryz.func177.trans (congrArg some (by kernel_rfl))
 f217:=Tryz.func190.trans (congrArg some (by kernel_rfl))
 f224:=Tryz.func192.trans (congrArg some (by kernel_rfl))
 f225:=Tryz.func191.trans (congrArg some (by kernel_rfl))
 f227:=Tryz.func155.trans (congrArg some (by kernel_rfl))
 f228:=Tryz.func180.trans (congrArg some (by kernel_rfl))
 f231:=Tryz.func153.trans (congrArg some (by kernel_rfl))
 f232:=Tryz.func154.trans (congrArg some (by kernel_rfl))
 f233:=Tryz.func156.trans (congrArg some (by kernel_rfl))
 f234:=Tryz.func157.trans (congrArg some (by kernel_rfl))
 f235:=Tryz.func158.trans (congrArg some (by kernel_rfl))
 f236:=Tryz.func159.trans (congrArg some (by kernel_rfl))
 f260:=Tryz.func189.trans (congrArg some (by kernel_rfl))
 f266:=Tryz.func204.trans (congrArg some (by kernel_rfl))
 f271:=Tryz.func182.trans (congrArg some (by kernel_rfl))
 t0:=Tryz.underlying0
 a0:=Tryz.isAgg0
 z0:=Tryz.sizeOf0
 v0:=Tryz.zeroValue0
 t3:=Tryz.underlying3
 a3:=Tryz.isAgg3
 z3:=Tryz.sizeOf3
 v3:=Tryz.zeroValue3
 t4:=Tryz.underlying4
 a4:=Tryz.isAgg4
 z4:=Tryz.sizeOf4
 v4:=Tryz.zeroValue4
 t5:=Tryz.underlying5
 a5:=Tryz.isAgg5
 z5:=Tryz.sizeOf5
 v5:=Tryz.zeroValue5
 t9:=Tryz.underlying9
 a9:=Tryz.isAgg9
 z9:=Tryz.sizeOf9
 v9:=Tryz.zeroValue9
 t21:=Tryz.underlying21
 a21:=Tryz.isAgg21
 z21:=Tryz.sizeOf21
 v21:=Tryz.zeroValue21
 t46:=Tryz.underlying86
 a46:=Tryz.isAgg86
 z46:=Tryz.sizeOf86
 v46:=Tryz.zeroValue86
 t105:=Tryz.underlying223
 a105:=Tryz.isAgg223
 z105:=Tryz.sizeOf223
 v105:=Tryz.zeroValue223
 t116:=Tryz.underlying205
 a116:=Tryz.isAgg205
 z116:=Tryz.sizeOf205
 t117:=Tryz.underlying206
 a117:=Tryz.isAgg206
 z117:=Tryz.sizeOf206
 v117:=Tryz.zeroValue206
 t119:=Tryz.underlying240
 a119:=Tryz.isAgg240
 z119:=Tryz.sizeOf240
 t124:=Tryz.underlying209
 a124:=Tryz.isAgg209
 z124:=Tryz.sizeOf209
 v124:=Tryz.zeroValue209
 t138:=Tryz.underlying242
 a138:=Tryz.isAgg242
 z138:=Tryz.sizeOf242
 v138:=Tryz.zeroValue242
 t139:=Tryz.underlying243
 a139:=Tryz.isAgg243
 z139:=Tryz.sizeOf243
 v139:=Tryz.zeroValue243
 g3:=by kernel_rfl
 g4:=by kernel_rfl}
open Go.RowKit in
def Tryz.lays103_ren:Go.Shelf.Ren:=⟨fun|103=>161|210=>183|206=>196|n=>n,fun|9=>9|4=>4|24=>170|3=>3|n=>n,fun|n=>n⟩
theorem Tryz.lays103:Go.Proofs.Lays.n103 Tryz.prog Tryz.lays103_ren:= {
 mixed:=by kernel_rfl
 f103:=Tryz.func161.trans (congrArg some (by kernel_rfl))
 f206:=Tryz.func196.trans (congrArg some (by kernel_rfl))
 f210:=Tryz.func183.trans (congrArg some (by kernel_rfl))
 t3:=Tryz.underlying3
 a3:=Tryz.isAgg3
 z3:=Tryz.sizeOf3
 v3:=Tryz.zeroValue3
 t4:=Tryz.underlying4
 a4:=Tryz.isAgg4
 z4:=Tryz.sizeOf4
 v4:=Tryz.zeroValue4
 t9:=Tryz.underlying9
 a9:=Tryz.isAgg9
 z9:=Tryz.sizeOf9
 v9:=Tryz.zeroValue9
 t24:=Tryz.underlying170
 a24:=Tryz.isAgg170
 z24:=Tryz.sizeOf170
 v24:=Tryz.zeroValue170}
open Go.RowKit in
theorem Tryz.strings_CutPrefix(s p:ByteArray)(w:World):
 Calls Tryz.prog 161 #[.string s,.string p] w fun e w'=>e= .returned (.tuple #[.string ⟨(Lib.trimPrefix s.data.toList p.data.toList).toArray⟩,.bool (Lib.hasPrefix s.data.toList p.data.toList)])∧w'=w:=Any.strings_CutPrefix Tryz.lays103 s p w
def Tryz.lays104_ren:Go.Shelf.Ren:=⟨fun|104=>108|211=>160|207=>147|n=>n,fun|9=>9|4=>4|24=>170|3=>3|n=>n,fun|n=>n⟩
theorem Tryz.lays104:Go.Proofs.Lays.n104 Tryz.prog Tryz.lays104_ren:= {
 mixed:=by kernel_rfl
 f104:=Tryz.func108.trans (congrArg some (by kernel_rfl))
 f207:=Tryz.func147.trans (congrArg some (by kernel_rfl))
 f211:=Tryz.func160.trans (congrArg some (by kernel_rfl))
 t3:=Tryz.underlying3
 a3:=Tryz.isAgg3
 z3:=Tryz.sizeOf3
 v3:=Tryz.zeroValue3
 t4:=Tryz.underlying4
 a4:=Tryz.isAgg4
 z4:=Tryz.sizeOf4
 v4:=Tryz.zeroValue4
 t9:=Tryz.underlying9
 a9:=Tryz.isAgg9
 z9:=Tryz.sizeOf9
 v9:=Tryz.zeroValue9
 t24:=Tryz.underlying170
 a24:=Tryz.isAgg170
 z24:=Tryz.sizeOf170
 v24:=Tryz.zeroValue170}
open Go.RowKit in
theorem Tryz.strings_CutSuffix(s p:ByteArray)(w:World)(hs:s.size≤9223372036854775807):
 Calls Tryz.prog 108 #[.string s,.string p] w fun e w'=>e= .returned (.tuple #[.string ⟨(Lib.trimSuffix s.data.toList p.data.toList).toArray⟩,.bool (Lib.hasSuffix s.data.toList p.data.toList)])∧w'=w:=Any.strings_CutSuffix Tryz.lays104 s p w hs
def Tryz.lays172_ren:Go.Shelf.Ren:=⟨fun|172=>162|244=>184|245=>185|247=>197|279=>198|280=>199|281=>200|282=>201|287=>208|316=>209|171=>167|205=>210|321=>216|322=>217|243=>187|246=>203|283=>212|284=>213|285=>214|286=>215|129=>146|317=>218|318=>219|319=>220|320=>221|337=>222|338=>223|n=>n,fun|9=>9|3=>3|75=>161|76=>163|4=>4|5=>5|167=>233|37=>45|0=>0|85=>234|2=>2|168=>236|53=>22|175=>247|46=>86|210=>251|127=>165|145=>261|143=>259|21=>21|171=>254|173=>256|212=>263|51=>87|20=>20|213=>264|232=>265|233=>266|80=>134|n=>n,fun|15=>3|16=>4|17=>5|18=>6|19=>7|n=>n⟩
theorem Tryz.lays172:Go.Proofs.Lays.n172 Tryz.prog Tryz.lays172_ren:= {
 mixed:=by kernel_rfl
 f129:=Tryz.func146.trans (congrArg some (by kernel_rfl))
 f171:=Tryz.func167.trans (congrArg some (by kernel_rfl))
 f172:=Tryz.func162.trans (congrArg some (by kernel_rfl))
 f205:=Tryz.func210.trans (congrArg some (by kernel_rfl))
 f243:=Tryz.func187.trans (congrArg some (by kernel_rfl))
 f244:=Tryz.func184.trans (congrArg some (by kernel_rfl))
 f245:=Tryz.func185.trans (congrArg some (by kernel_rfl))
 f246:=Tryz.func203.trans (congrArg some (by kernel_rfl))
 f247:=Tryz.func197.trans (congrArg some (by kernel_rfl))
 f279:=Tryz.func198.trans (congrArg some (by kernel_rfl))
 f280:=Tryz.func199.trans (congrArg some (by kernel_rfl))
 f281:=Tryz.func200.trans (congrArg some (by kernel_rfl))
 f282:=Tryz.func201.trans (congrArg some (by kernel_rfl))
 f283:=Tryz.func212.trans (congrArg some (by kernel_rfl))
 f284:=Tryz.func213.trans (congrArg some (by kernel_rfl))
 f285:=Tryz.func214.trans (congrArg some (by kernel_rfl))
 f286:=Tryz.func215.trans (congrArg some (by kernel_rfl))
 f287:=Tryz.func208.trans (congrArg some (by kernel_rfl))
 f316:=Tryz.func209.trans (congrArg some (by kernel_rfl))
 f317:=Tryz.func218.trans (congrArg some (by kernel_rfl))
 f318:=Tryz.func219.trans (congrArg some (by kernel_rfl))
 f319:=Tryz.func220.trans (congrArg some (by kernel_rfl))
 f320:=Tryz.func221.trans (congrArg some (by kernel_rfl))
 f321:=Tryz.func216.trans (congrArg some (by kernel_rfl))
 f322:=Tryz.func217.trans (congrArg some (by kernel_rfl))
 f337:=Tryz.func222.trans (congrArg some (by kernel_rfl))
 f338:=Tryz.func223.trans (congrArg some (by kernel_rfl))
 t0:=Tryz.underlying0
 a0:=Tryz.isAgg0
 z0:=Tryz.sizeOf0
 v0:=Tryz.zeroValue0
 t2:=Tryz.underlying2
 a2:=Tryz.isAgg2
 z2:=Tryz.sizeOf2
 v2:=Tryz.zeroValue2
 t3:=Tryz.underlying3
 a3:=Tryz.isAgg3
 z3:=Tryz.sizeOf3
 v3:=Tryz.zeroValue3
 t4:=Tryz.underlying4
 a4:=Tryz.isAgg4
 z4:=Tryz.sizeOf4
 v4:=Tryz.zeroValue4
 t5:=Tryz.underlying5
 a5:=Tryz.isAgg5
 z5:=Tryz.sizeOf5
 v5:=Tryz.zeroValue5
 t9:=Tryz.underlying9
 a9:=Tryz.isAgg9
 z9:=Tryz.sizeOf9
 v9:=Tryz.zeroValue9
 t20:=Tryz.underlying20
 a20:=Tryz.isAgg20
 z20:=Tryz.sizeOf20
 v20:=Tryz.zeroValue20
 t21:=Tryz.underlying21
 a21:=Tryz.isAgg21
 z21:=Tryz.sizeOf21
 v21:=Tryz.zeroValue21
 t37:=Tryz.underlying45
 a37:=Tryz.isAgg45
 z37:=Tryz.sizeOf45
 v37:=Tryz.zeroValue45
 t46:=Tryz.underlying86
 a46:=Tryz.isAgg86
 z46:=Tryz.sizeOf86
 v46:=Tryz.zeroValue86
 t51:=Tryz.underlying87
 a51:=Tryz.isAgg87
 z51:=Tryz.sizeOf87
 v51:=Tryz.zeroValue87
 t53:=Tryz.underlying22
 a53:=Tryz.isAgg22
 z53:=Tryz.sizeOf22
 v53:=Tryz.zeroValue22
 t75:=Tryz.underlying161
 a75:=Tryz.isAgg161
 z75:=Tryz.sizeOf161
 v75:=Tryz.zeroValue161
 t76:=Tryz.underlying163
 a76:=Tryz.isAgg163
 z76:=Tryz.sizeOf163
 v76:=Tryz.zeroValue163
 t85:=Tryz.underlying234
 a85:=Tryz.isAgg234
 z85:=Tryz.sizeOf234
 v85:=Tryz.zeroValue234
 t127:=Tryz.underlying165
 a127:=Tryz.isAgg165
 z127:=Tryz.sizeOf165
 v127:=Tryz.zeroValue165
 t143:=Tryz.underlying259
 a143:=Tryz.isAgg259
 z143:=Tryz.sizeOf259
 v143:=Tryz.zeroValue259
 t145:=Tryz.underlying261
 a145:=Tryz.isAgg261
 z145:=Tryz.sizeOf261
 v145:=Tryz.zeroValue261
 t167:=Tryz.underlying233
 a167:=Tryz.isAgg233
 z167:=Tryz.sizeOf233
 v167:=Tryz.zeroValue233
 t168:=Tryz.underlying236
 a168:=Tryz.isAgg236
 z168:=Tryz.sizeOf236
 v168:=Tryz.zeroValue236
 t171:=Tryz.underlying254
 a171:=Tryz.isAgg254
 z171:=Tryz.sizeOf254
 v171:=Tryz.zeroValue254
 t173:=Tryz.underlying256
 a173:=Tryz.isAgg256
 z173:=Tryz.sizeOf256
 v173:=Tryz.zeroValue256
 t175:=Tryz.underlying247
 a175:=Tryz.isAgg247
 z175:=Tryz.sizeOf247
 v175:=Tryz.zeroValue247
 t210:=Tryz.underlying251
 a210:=Tryz.isAgg251
 z210:=Tryz.sizeOf251
 v210:=Tryz.zeroValue251
 t212:=Tryz.underlying263
 a212:=Tryz.isAgg263
 z212:=Tryz.sizeOf263
 v212:=Tryz.zeroValue263
 t213:=Tryz.underlying264
 a213:=Tryz.isAgg264
 z213:=Tryz.sizeOf264
 t232:=Tryz.underlying265
 a232:=Tryz.isAgg265
 z232:=Tryz.sizeOf265
 v232:=Tryz.zeroValue265
 t233:=Tryz.underlying266
 a233:=Tryz.isAgg266
 z233:=Tryz.sizeOf266
 v233:=Tryz.zeroValue266
 g15:=by kernel_rfl
 g16:=by kernel_rfl
 g17:=by kernel_rfl
 g18:=by kernel_rfl
 g19:=by kernel_rfl}
open Go.RowKit in
theorem Tryz.strconv_Atoi(s:ByteArray)(n:Int)(hl:s.size≤18)(h:Lib.atoi s.data.toList=some n)(w:World):
 Calls Tryz.prog 162 #[.string s] w fun e w'=>e= .returned (.tuple #[.int .i64 n,.nilIface])∧∃t,w'=Lib.bytesWorld w 5 t:=Any.strconv_Atoi Tryz.lays172 s n hl h w
def Tryz.lays145_ren:Go.Shelf.Ren:=⟨fun|145=>106|220=>152|219=>179|217=>190|225=>191|224=>192|267=>193|266=>204|314=>205|n=>n,fun|9=>9|4=>4|59=>167|3=>3|5=>5|46=>86|146=>244|51=>87|n=>n,fun|1=>0|n=>n⟩
theorem Tryz.lays145:Go.Proofs.Lays.n145 Tryz.prog Tryz.lays145_ren:= {
 mixed:=by kernel_rfl
 f145:=Tryz.func106.trans (congrArg some (by kernel_rfl))
 f217:=Tryz.func190.trans (congrArg some (by kernel_rfl))
 f219:=Tryz.func179.trans (congrArg some (by kernel_rfl))
 f220:=Tryz.func152.trans (congrArg some (by kernel_rfl))
 f224:=Tryz.func192.trans (congrArg some (by kernel_rfl))
 f225:=Tryz.func191.trans (congrArg some (by kernel_rfl))
 f266:=Tryz.func204.trans (congrArg some (by kernel_rfl))
 f267:=Tryz.func193.trans (congrArg some (by kernel_rfl))
 f314:=Tryz.func205.trans (congrArg some (by kernel_rfl))
 t3:=Tryz.underlying3
 a3:=Tryz.isAgg3
 z3:=Tryz.sizeOf3
 v3:=Tryz.zeroValue3
 t4:=Tryz.underlying4
 a4:=Tryz.isAgg4
 z4:=Tryz.sizeOf4
 v4:=Tryz.zeroValue4
 t5:=Tryz.underlying5
 a5:=Tryz.isAgg5
 z5:=Tryz.sizeOf5
 v5:=Tryz.zeroValue5
 t9:=Tryz.underlying9
 a9:=Tryz.isAgg9
 z9:=Tryz.sizeOf9
 v9:=Tryz.zeroValue9
 t46:=Tryz.underlying86
 a46:=Tryz.isAgg86
 z46:=Tryz.sizeOf86
 v46:=Tryz.zeroValue86
 t51:=Tryz.underlying87
 a51:=Tryz.isAgg87
 z51:=Tryz.sizeOf87
 v51:=Tryz.zeroValue87
 t59:=Tryz.underlying167
 a59:=Tryz.isAgg167
 z59:=Tryz.sizeOf167
 v59:=Tryz.zeroValue167
 t146:=Tryz.underlying244
 a146:=Tryz.isAgg244
 z146:=Tryz.sizeOf244
 v146:=Tryz.zeroValue244
 g1:=by kernel_rfl}
open Go.RowKit Go.Lib in
theorem Tryz.strings_Cut(s sep:ByteArray)(m:Int)(w:World)(hs:s.size<4294967281)(hm:w.cell? ⟨0,0,none⟩=some (.int .i64 m)):
 Calls Tryz.prog 106 #[.string s,.string sep] w fun e w'=>e= .returned (.tuple #[.string ⟨(Lib.cut s.data.toList sep.data.toList).1.toArray⟩,.string ⟨(Lib.cut s.data.toList sep.data.toList).2.1.toArray⟩,.bool (Lib.cut s.data.toList sep.data.toList).2.2])∧∃n,w'=w.drewN n:=Any.strings_Cut Tryz.lays145 s sep m w hs hm
def Tryz.lays146_ren:Go.Shelf.Ren:=⟨fun|146=>78|221=>105|268=>149|138=>150|143=>151|195=>176|197=>177|218=>178|219=>179|260=>189|217=>190|225=>191|224=>192|267=>193|266=>204|314=>205|n=>n,fun|9=>9|31=>95|3=>3|4=>4|0=>0|105=>223|21=>21|5=>5|46=>86|119=>240|139=>243|138=>242|146=>244|51=>87|n=>n,fun|1=>0|3=>1|4=>2|n=>n⟩
theorem Tryz.lays146:Go.Proofs.Lays.n146 Tryz.prog Tryz.lays146_ren:= {
 mixed:=by kernel_rfl
 f138:=Tryz.func150.trans (congrArg some (by kernel_rfl))
 f143:=Tryz.func151.trans (congrArg some (by kernel_rfl))
 f146:=Tryz.func78.trans (congrArg some (by kernel_rfl))
 f195:=Tryz.func176.trans (congrArg some (by kernel_rfl))
 f197:=Tryz.func177.trans (congrArg some (by kernel_rfl))
 f217:=Tryz.func190.trans (congrArg some (by kernel_rfl))
 f218:=Tryz.func178.trans (congrArg some (by kernel_rfl))
 f219:=Tryz.func179.trans (congrArg some (by kernel_rfl))
 f221:=Tryz.func105.trans (congrArg some (by kernel_rfl))
 f224:=Tryz.func192.trans (congrArg some (by kernel_rfl))
 f225:=Tryz.func191.trans (congrArg some (by kernel_rfl))
 f260:=Tryz.func189.trans (congrArg some (by kernel_rfl))
 f266:=Tryz.func204.trans (congrArg some (by kernel_rfl))
 f267:=Tryz.func193.trans (congrArg some (by kernel_rfl))
 f268:=Tryz.func149.trans (congrArg some (by kernel_rfl))
 f314:=Tryz.func205.trans (congrArg some (by kernel_rfl))
 t0:=Tryz.underlying0
 a0:=Tryz.isAgg0
 z0:=Tryz.sizeOf0
 v0:=Tryz.zeroValue0
 t3:=Tryz.underlying3
 a3:=Tryz.isAgg3
 z3:=Tryz.sizeOf3
 v3:=Tryz.zeroValue3
 t4:=Tryz.underlying4
 a4:=Tryz.isAgg4
 z4:=Tryz.sizeOf4
 v4:=Tryz.zeroValue4
 t5:=Tryz.underlying5
 a5:=Tryz.isAgg5
 z5:=Tryz.sizeOf5
 v5:=Tryz.zeroValue5
 t9:=Tryz.underlying9
 a9:=Tryz.isAgg9
 z9:=Tryz.sizeOf9
 v9:=Tryz.zeroValue9
 t21:=Tryz.underlying21
 a21:=Tryz.isAgg21
 z21:=Tryz.sizeOf21
 v21:=Tryz.zeroValue21
 t31:=Tryz.underlying95
 a31:=Tryz.isAgg95
 z31:=Tryz.sizeOf95
 v31:=Tryz.zeroValue95
 t46:=Tryz.underlying86
 a46:=Tryz.isAgg86
 z46:=Tryz.sizeOf86
 v46:=Tryz.zeroValue86
 t51:=Tryz.underlying87
 a51:=Tryz.isAgg87
 z51:=Tryz.sizeOf87
 v51:=Tryz.zeroValue87
 t105:=Tryz.underlying223
 a105:=Tryz.isAgg223
 z105:=Tryz.sizeOf223
 v105:=Tryz.zeroValue223
 t119:=Tryz.underlying240
 a119:=Tryz.isAgg240
 z119:=Tryz.sizeOf240
 t138:=Tryz.underlying242
 a138:=Tryz.isAgg242
 z138:=Tryz.sizeOf242
 v138:=Tryz.zeroValue242
 t139:=Tryz.underlying243
 a139:=Tryz.isAgg243
 z139:=Tryz.sizeOf243
 v139:=Tryz.zeroValue243
 t146:=Tryz.underlying244
 a146:=Tryz.isAgg244
 z146:=Tryz.sizeOf244
 v146:=Tryz.zeroValue244
 g1:=by kernel_rfl
 g3:=by kernel_rfl
 g4:=by kernel_rfl}
open Go.RowKit Go.Lib in
theorem Tryz.strings_Split(s sep:ByteArray)(m:Int)(w:World)(hs:s.size<4294967281)(hm:w.cell? ⟨0,0,none⟩=some (.int .i64 m))(h1:1≤sep.size):
 Calls Tryz.prog 78 #[.string s,.string sep] w fun e w'=>
  e= .returned (.slice (some ⟨w.heap.size,0,none⟩) (Lib.countB s sep+1) (Lib.countB s sep+1))∧w'=w.alloc (.cells ((Lib.splitB sep 0 (Lib.countB s sep) s).map Value.string).toArray 9):=Any.strings_Split Tryz.lays146 (by kernel_rfl) s sep m w hs hm h1
end Go.Proofs
