/- A part of the proofs of this seat's laws: steps on the way, joined. It has no conditions of its own. -/
import Derived.Test.YtddmlennnmpnhaaGreatDoorQh
import Derived.Test.YtddmlennnmpnhaaGreatDoorChecked
import Derived.KernelRfl
import Derived.Test.YtddmlennnmpnhaaGreatDoorQg
import Derived.Lib.ItoaNum
import Derived.Lib.ItoaLen
import Derived.Lib.ItoaMem
import Derived.Lib.Join
import Derived.Lib.LaidTab
import Derived.Shelf.Strings.Builder1
import Derived.Shelf.Strings.Builder2
import Derived.Shelf.Strings.Trim
import Derived.Shelf.Small.Utf8
import Derived.Shelf.Small.Strs
import Derived.Shelf.Small.Wraps
import Derived.Shelf.Strconv.Atoi
import Derived.Shelf.Strconv.Itoa0
import Derived.Shelf.Strconv.Itoa1
import Derived.Shelf.LaysM
import Derived.Shelf.Strconv.Itoa2
import Derived.Shelf.Strconv.Itoa3
import Derived.Shelf.Strings.Search1
import Derived.Shelf.Strings.Search2
import Derived.Shelf.Strings.Search3
import Derived.Shelf.Strings.Cut
import Derived.Shelf.Strings.Count
import Derived.Shelf.Strings.Shaped
import Derived.Shelf.Sort.Plain
import Derived.Shelf.Strings.Prefix
import Derived.Shelf.Strings.Split
import Derived.Shelf.Strings.Replace
import Derived.Shelf.Strings.Runes
import Derived.Shelf.Strings.AsciiSet
import Derived.Shelf.Unicode.DecodeSlow
import Derived.Shelf.Slices.In.SortNone
import Derived.Test.YtddmlennnmpnhaaGreatDoorProg
namespace Go.Proofs.YtddmlennnmpnhaaGreatDoor
open Vc
namespace J2
abbrev r0:List In:=[i1 2 (.alloc 146 [.bool false,.bool false,.bool false,.bool false])]
abbrev r1:List In:=[mv 4 0,i1 5 (.bin .eql (.t 4) (kI 0)),mv 6 5,i2 6 false 7 (.mv (.t 0)),i2 6 false 8 (.bin .eql (.t 7) (kI 27)),i1 9 (.pick (.t 6) (kB true) (.t 8)),mv 3 9]
abbrev r2:List In:=[i1 10 (.build [.bool false,.bool false,.bool false,.bool false] [(3,1,(kB true))]),i0 (.store 4 (.t 2) (.t 10))]
abbrev r3:List In:=[mv 12 0,i1 13 (.bin .eql (.t 12) (kI 1)),mv 14 13,i2 14 false 15 (.mv (.t 0)),i2 14 false 16 (.bin .geq (.t 15) (kI 5)),i2 14 false 17 (.mv (.t 16)),i2 17 true 18 (.mv (.t 0)),i2 17 true 19 (.bin .leq (.t 18) (kI 13)),i2 14 false 20 (.pick (.t 17) (.t 19) (kB false)),i1 21 (.pick (.t 14) (kB true) (.t 20)),mv 11 21]
abbrev r4:List In:=[i1 22 (.build [.bool false,.bool false,.bool false,.bool false] [(0,1,(kB true)),(1,1,(kB true)),(3,1,(kB true))]),i0 (.store 4 (.t 2) (.t 22))]
abbrev r5:List In:=[mv 24 0,i1 25 (.bin .eql (.t 24) (kI 2)),mv 23 25]
abbrev r6:List In:=[i1 26 (.build [.bool false,.bool false,.bool false,.bool false] [(0,1,(kB true)),(2,1,(kB true)),(3,1,(kB true))]),i0 (.store 4 (.t 2) (.t 26))]
abbrev r7:List In:=[mv 28 0,i1 29 (.bin .eql (.t 28) (kI 3)),mv 30 29,i2 30 false 31 (.mv (.t 0)),i2 30 false 32 (.bin .eql (.t 31) (kI 4)),i1 33 (.pick (.t 30) (kB true) (.t 32)),mv 27 33]
abbrev r8:List In:=[i1 34 (.build [.bool false,.bool false,.bool false,.bool false] [(0,1,(kB true)),(1,1,(kB true)),(2,1,(kB true)),(3,1,(kB true))]),i0 (.store 4 (.t 2) (.t 34))]
abbrev r9:List In:=[mv 36 0,i1 37 (.bin .geq (.t 36) (kI 14)),mv 38 37,i2 38 true 39 (.mv (.t 0)),i2 38 true 40 (.bin .leq (.t 39) (kI 18)),i1 41 (.pick (.t 38) (.t 40) (kB false)),mv 42 41,i2 42 false 43 (.mv (.t 0)),i2 42 false 44 (.bin .eql (.t 43) (kI 29)),i1 45 (.pick (.t 42) (kB true) (.t 44)),mv 46 45,i2 46 false 47 (.mv (.t 0)),i2 46 false 48 (.bin .eql (.t 47) (kI 31)),i1 49 (.pick (.t 46) (kB true) (.t 48)),mv 35 49]
abbrev r10:List In:=[i1 50 (.build [.bool false,.bool false,.bool false,.bool false] [(0,1,(kB true)),(3,1,(kB true))]),i0 (.store 4 (.t 2) (.t 50))]
abbrev r11:List In:=[mv 52 0,i1 53 (.bin .eql (.t 52) (kI 28)),mv 54 53,i2 54 false 55 (.mv (.t 0)),i2 54 false 56 (.bin .eql (.t 55) (kI 30)),i1 57 (.pick (.t 54) (kB true) (.t 56)),mv 51 57]
abbrev r12:List In:=[i1 58 (.build [.bool false,.bool false,.bool false,.bool false] [(1,1,(kB true)),(3,1,(kB true))]),i0 (.store 4 (.t 2) (.t 58))]
abbrev r13:List In:=[mv 60 0,i1 61 (.bin .geq (.t 60) (kI 19)),mv 62 61,i2 62 true 63 (.mv (.t 0)),i2 62 true 64 (.bin .leq (.t 63) (kI 26)),i1 65 (.pick (.t 62) (.t 64) (kB false)),mv 66 65,i2 66 false 67 (.mv (.t 0)),i2 66 false 68 (.bin .eql (.t 67) (kI 32)),i1 69 (.pick (.t 66) (kB true) (.t 68)),mv 59 69]
abbrev r14:List In:=[i1 70 (.build [.bool false,.bool false,.bool false,.bool false] [(2,1,(kB true)),(3,1,(kB true))]),i0 (.store 4 (.t 2) (.t 70))]
abbrev r15:List In:=[i1 71 (.build [.bool false,.bool false,.bool false,.bool false] []),i0 (.store 4 (.t 2) (.t 71))]
abbrev code:IC:=.seq (.reg r0) (.seq (.block 0 (.seq (.reg r1) (.cond (.t 3) (.seq (.reg r2) .ret) (.seq (.reg r3) (.cond (.t 11) (.seq (.reg r4) .ret) (.seq (.reg r5) (.cond (.t 23) (.seq (.reg r6) .ret) (.seq (.reg r7) (.cond (.t 27) (.seq (.reg r8) .ret) (.seq (.reg r9) (.cond (.t 35) (.seq (.reg r10) .ret) (.seq (.reg r11) (.cond (.t 51) (.seq (.reg r12) .ret) (.seq (.reg r13) (.cond (.t 59) (.seq (.reg r14) .ret) .skip))))))))))))))) (.seq (.reg r15) .ret))
abbrev res:List RV:=[.cell 2 4 true]
theorem fn:Body Tryz.prog 85 72 code res:=⟨by decide,Tryz.f85,_,Tryz.func85,rfl,rfl,by kernel_rfl,by kernel_rfl⟩
end J2
namespace Pc
abbrev r0:List In:=[i1 2 (.mv (kB false)),i1 3 (.mv (kB false)),i1 4 (.mv (kB false)),i1 5 (.mv (kI 0))]
abbrev r1:List In:=[mv 7 0,i1 8 (.call 85 [.t 7]),i1 6 (.alloc 146 [.bool false,.bool false,.bool false,.bool false]),i0 (.store 4 (.t 6) (.t 8))]
abbrev r2:List In:=[i1 9 (.faddr 3 (.t 6)),i1 10 (.load 1 false (.t 9)),i1 11 (.un .not (.t 10))]
abbrev r3:List In:=[i1 2 (.mv (kB false)),i1 3 (.mv (kB false)),i1 4 (.mv (kB false)),i1 5 (.mv (kI 1))]
abbrev r4:List In:=[i1 12 (.faddr 0 (.t 6)),i1 13 (.load 1 false (.t 12)),i1 14 (.faddr 1 (.t 6)),i1 15 (.load 1 false (.t 14)),i1 16 (.faddr 2 (.t 6)),i1 17 (.load 1 false (.t 16)),mv 2 13,mv 3 15,mv 4 17,i1 5 (.mv (kI 0))]
abbrev code:IC:=.seq (.reg r0) (.seq (.reg r1) (.seq (.seq (.reg r2) (.cond (.t 11) (.seq (.reg r3) .ret) .skip)) (.seq (.dreg r4) .ret)))
abbrev res:List RV:=[.tmp 2,.tmp 3,.tmp 4,.tmp 5]
theorem fn:Body Tryz.prog 112 18 code res:=⟨by decide,Tryz.f112,_,Tryz.func112,rfl,rfl,by kernel_rfl,by kernel_rfl⟩
end Pc
namespace Mt
abbrev r0:List In:=[i1 2 (.mv (kI 0)),i1 3 (.mv (kI 0))]
abbrev r1:List In:=[mv 5 0,i1 6 (.call 85 [.t 5]),i1 4 (.alloc 146 [.bool false,.bool false,.bool false,.bool false]),i0 (.store 4 (.t 4) (.t 6))]
abbrev r2:List In:=[i1 8 (.faddr 3 (.t 4)),i1 9 (.load 1 false (.t 8)),i1 10 (.un .not (.t 9)),mv 7 10]
abbrev r3:List In:=[i1 2 (.mv (kI 0)),i1 3 (.mv (kI 1))]
abbrev r4:List In:=[i1 12 (.faddr 2 (.t 4)),i1 13 (.load 1 false (.t 12)),mv 11 13]
abbrev r5:List In:=[i1 2 (.mv (kI 2)),i1 3 (.mv (kI 0))]
abbrev r6:List In:=[i1 2 (.mv (kI 1)),i1 3 (.mv (kI 0))]
abbrev code:IC:=.seq (.reg r0) (.seq (.reg r1) (.seq (.block 0 (.seq (.reg r2) (.cond (.t 7) (.seq (.reg r3) .ret) (.seq (.reg r4) (.cond (.t 11) (.seq (.reg r5) .ret) .skip))))) (.seq (.reg r6) .ret)))
abbrev res:List RV:=[.tmp 2,.tmp 3]
theorem fn:Body Tryz.prog 82 14 code res:=⟨by decide,Tryz.f82,_,Tryz.func82,rfl,rfl,by kernel_rfl,by kernel_rfl⟩
end Mt
namespace Nt
abbrev r0:List In:=[i1 1 (.box 73 (.t 0)),i1 2 (.mv (kI 0))]
abbrev r1:List In:=[i1 4 (.faddr 0 (.t 1)),i1 5 (.load 1 false (.t 4)),i1 6 (.call 85 [.t 5]),i1 3 (.alloc 146 [.bool false,.bool false,.bool false,.bool false]),i0 (.store 4 (.t 3) (.t 6))]
abbrev r2:List In:=[i1 8 (.faddr 3 (.t 3)),i1 9 (.load 1 false (.t 8)),i1 10 (.un .not (.t 9)),mv 7 10]
abbrev r3:List In:=[i1 2 (.mv (kI 1))]
abbrev r4:List In:=[i1 12 (.faddr 0 (.t 3)),i1 13 (.load 1 false (.t 12)),mv 14 13,i2 14 true 15 (.faddr 1 (.t 1)),i2 14 true 16 (.load 1 false (.t 15)),i2 14 true 17 (.call 116 [.t 16]),i2 14 true 18 (.un .not (.t 17)),i1 19 (.pick (.t 14) (.t 18) (kB false)),mv 11 19]
abbrev r5:List In:=[i1 20 (.faddr 1 (.t 3)),i1 21 (.load 1 false (.t 20)),mv 22 21,i2 22 true 23 (.faddr 2 (.t 1)),i2 22 true 24 (.load 1 false (.t 23)),i2 22 true 25 (.call 116 [.t 24]),i2 22 true 26 (.un .not (.t 25)),i1 27 (.pick (.t 22) (.t 26) (kB false)),mv 11 27]
abbrev r6:List In:=[i1 28 (.faddr 2 (.t 3)),i1 29 (.load 1 false (.t 28)),mv 30 29,i2 30 true 31 (.faddr 3 (.t 1)),i2 30 true 32 (.load 1 false (.t 31)),i2 30 true 33 (.call 117 [.t 32]),i2 30 true 34 (.un .not (.t 33)),i1 35 (.pick (.t 30) (.t 34) (kB false)),mv 11 35]
abbrev r7:List In:=[i1 2 (.mv (kI 3))]
abbrev r8:List In:=[i1 2 (.mv (kI 0))]
abbrev code:IC:=.seq (.reg r0) (.seq (.reg r1) (.seq (.block 0 (.seq (.reg r2) (.cond (.t 7) (.seq (.reg r3) .ret) (.seq (.seq (.reg r4) (.cond (.t 11) .skip (.seq (.reg r5) (.cond (.t 11) .skip (.reg r6))))) (.cond (.t 11) (.seq (.reg r7) .ret) .skip))))) (.seq (.reg r8) .ret)))
abbrev res:List RV:=[.tmp 2]
theorem fn:Body Tryz.prog 84 36 code res:=⟨by decide,Tryz.f84,_,Tryz.func84,rfl,rfl,by kernel_rfl,by kernel_rfl⟩
end Nt
namespace Qp
abbrev r0:List In:=[i1 2 (.mv (kB false))]
abbrev r1:List In:=[mv 3 0,i1 4 (.bin .geq (.t 3) (kI 0)),mv 5 4,i2 5 true 6 (.mv (.t 0)),i2 5 true 7 (.bin .leq (.t 6) (kI 7)),i1 8 (.pick (.t 5) (.t 7) (kB false)),mv 2 8]
abbrev code:IC:=.seq (.reg r0) (.seq (.reg r1) .ret)
abbrev res:List RV:=[.tmp 2]
theorem fn:Body Tryz.prog 116 9 code res:=⟨by decide,Tryz.f116,_,Tryz.func116,rfl,rfl,by kernel_rfl,by kernel_rfl⟩
end Qp
namespace Od
abbrev r0:List In:=[i1 2 (.mv (kB false))]
abbrev r1:List In:=[mv 3 0,i1 4 (.bin .geq (.t 3) (kI 0)),mv 5 4,i2 5 true 6 (.mv (.t 0)),i2 5 true 7 (.bin .leq (.t 6) (kI 65535)),i1 8 (.pick (.t 5) (.t 7) (kB false)),mv 2 8]
abbrev code:IC:=.seq (.reg r0) (.seq (.reg r1) .ret)
abbrev res:List RV:=[.tmp 2]
theorem fn:Body Tryz.prog 117 9 code res:=⟨by decide,Tryz.f117,_,Tryz.func117,rfl,rfl,by kernel_rfl,by kernel_rfl⟩
end Od
namespace Oc
abbrev r0:List In:=[i1 2 (.mv (.k (.a (.raw (.slice none 0 0))))),i1 3 (.alloc 83 [.int .i64 0,.int .i64 0])]
abbrev r1:List In:=[i1 4 (.mv (.k (.a (.raw (.slice none 0 0)))))]
abbrev r2:List In:=[mv 10 0,i1 11 (.len (.t 10)),i1 12 (.mv (kI 0))]
abbrev r3:List In:=[i1 13 (.bin .lss (.t 12) (.t 11))]
abbrev r4:List In:=[mv 14 12,i1 15 (.iaddr 4 (.t 10) (.t 12)),i1 16 (.load 4 true (.t 15)),i1 6 (.alloc 73 [.int .i64 0,.int .i64 0,.int .i64 0,.int .i64 0]),mv 5 14,i0 (.store 4 (.t 6) (.t 16))]
abbrev r5:List In:=[i1 17 (.load 4 true (.t 6)),i1 18 (.call 84 [.t 17]),mv 7 18]
abbrev r6:List In:=[mv 19 7,i1 20 (.bin .neq (.t 19) (kI 0))]
abbrev r7:List In:=[mv 21 7,mv 22 5,i1 23 (.build [.int .i64 0,.int .i64 0] [(0,1,(.t 21)),(1,1,(.t 22))]),i1 2 (.mv (.k (.a (.raw (.slice none 0 0))))),i0 (.store 2 (.t 3) (.t 23))]
abbrev r8:List In:=[i1 24 (.faddr 0 (.t 6)),i1 25 (.load 1 false (.t 24)),i1 26 (.call 85 [.t 25]),i1 8 (.alloc 146 [.bool false,.bool false,.bool false,.bool false]),i0 (.store 4 (.t 8) (.t 26))]
abbrev r9:List In:=[i1 27 (.faddr 0 (.t 6)),i1 28 (.load 1 false (.t 27)),i1 29 (.bin .shl (.t 28) (.k (.a (.int .u64 10)))),mv 9 29]
abbrev r10:List In:=[i1 30 (.faddr 0 (.t 8)),i1 31 (.load 1 false (.t 30))]
abbrev r11:List In:=[mv 32 9,i1 33 (.faddr 1 (.t 6)),i1 34 (.load 1 false (.t 33)),i1 35 (.bin .shl (.t 34) (.k (.a (.int .u64 7)))),i1 36 (.bin .or (.t 32) (.t 35)),mv 9 36]
abbrev r12:List In:=[i1 37 (.faddr 1 (.t 8)),i1 38 (.load 1 false (.t 37))]
abbrev r13:List In:=[mv 39 9,i1 40 (.faddr 2 (.t 6)),i1 41 (.load 1 false (.t 40)),i1 42 (.bin .shl (.t 41) (.k (.a (.int .u64 4)))),i1 43 (.bin .or (.t 39) (.t 42)),mv 9 43]
abbrev r14:List In:=[mv 44 4,mv 45 9,i1 46 (.bsl 3 1 1 [.int .i64 0] [(0,1,(.t 45))]),i1 47 (.app 43 3 1 8 (.t 44) (.t 46)),mv 4 47]
abbrev r15:List In:=[i1 48 (.faddr 2 (.t 8)),i1 49 (.load 1 false (.t 48))]
abbrev r16:List In:=[mv 50 4,i1 51 (.faddr 3 (.t 6)),i1 52 (.load 1 false (.t 51)),i1 53 (.bsl 3 1 1 [.int .i64 0] [(0,1,(.t 52))]),i1 54 (.app 43 3 1 8 (.t 50) (.t 53)),mv 4 54]
abbrev r17:List In:=[mv 55 4,i1 56 (.len (.t 55)),i1 57 (.bin .gtr (.t 56) (kI 65536))]
abbrev r18:List In:=[mv 58 5,i1 59 (.build [.int .i64 0,.int .i64 0] [(0,1,(kI 4)),(1,1,(.t 58))]),i1 2 (.mv (.k (.a (.raw (.slice none 0 0))))),i0 (.store 2 (.t 3) (.t 59))]
abbrev r19:List In:=[i1 60 (.bin .add (.t 12) (kI 1)),mv 12 60]
abbrev r20:List In:=[mv 61 4,i1 62 (.build [.int .i64 0,.int .i64 0] []),mv 2 61,i0 (.store 2 (.t 3) (.t 62))]
abbrev code:IC:=.seq (.reg r0) (.seq (.reg r1) (.seq (.seq (.reg r2) (.block 0 (.loop (.seq (.reg r3) (.seq (.cond (.t 13) .skip (.exit 0)) (.seq (.block 1 (.seq (.reg r4) (.seq (.seq (.reg r5) (.seq (.reg r6) (.cond (.t 20) (.seq (.reg r7) .ret) .skip))) (.seq (.reg r8) (.seq (.reg r9) (.seq (.seq (.reg r10) (.cond (.t 31) (.reg r11) .skip)) (.seq (.seq (.reg r12) (.cond (.t 38) (.reg r13) .skip)) (.seq (.reg r14) (.seq (.seq (.reg r15) (.cond (.t 49) (.reg r16) .skip)) (.seq (.reg r17) (.cond (.t 57) (.seq (.reg r18) .ret) .skip))))))))))) (.reg r19))))))) (.seq (.reg r20) .ret)))
abbrev res:List RV:=[.tmp 2,.cell 3 2 true]
theorem fn:Body Tryz.prog 72 63 code res:=⟨by decide,Tryz.f72,_,Tryz.func72,rfl,rfl,by kernel_rfl,by kernel_rfl⟩
end Oc
namespace Kz
abbrev r0:List In:=[i1 4 (.alloc 73 [.int .i64 0,.int .i64 0,.int .i64 0,.int .i64 0]),i1 5 (.mv (kI 0))]
abbrev r1:List In:=[mv 9 1,i1 10 (.bin .lss (.t 9) (kI 0)),mv 11 10,i2 11 false 12 (.mv (.t 1)),i2 11 false 13 (.mv (.t 0)),i2 11 false 14 (.len (.t 13)),i2 11 false 15 (.bin .geq (.t 12) (.t 14)),i1 16 (.pick (.t 11) (kB true) (.t 15)),mv 17 16,i2 17 false 18 (.mv (.t 0)),i2 17 false 19 (.mv (.t 1)),i2 17 false 20 (.iaddr 1 (.t 18) (.t 19)),i2 17 false 21 (.load 1 false (.t 20)),i2 17 false 22 (.call 117 [.t 21]),i2 17 false 23 (.un .not (.t 22)),i1 24 (.pick (.t 17) (kB true) (.t 23))]
abbrev r2:List In:=[i1 25 (.build [.int .i64 0,.int .i64 0,.int .i64 0,.int .i64 0] []),i0 (.store 4 (.t 4) (.t 25)),i1 5 (.mv (kI 0))]
abbrev r3:List In:=[mv 26 0,mv 27 1,i1 28 (.iaddr 1 (.t 26) (.t 27)),i1 29 (.load 1 false (.t 28)),mv 6 29]
abbrev r4:List In:=[mv 30 6,i1 31 (.bin .shr (.t 30) (.k (.a (.int .u64 10)))),mv 32 6,i1 33 (.bin .shr (.t 32) (.k (.a (.int .u64 7)))),i1 34 (.bin .and (.t 33) (kI 7)),mv 35 6,i1 36 (.bin .shr (.t 35) (.k (.a (.int .u64 4)))),i1 37 (.bin .and (.t 36) (kI 7)),i1 38 (.build [.int .i64 0,.int .i64 0,.int .i64 0,.int .i64 0] [(0,1,(.t 31)),(1,1,(.t 34)),(2,1,(.t 37))]),i1 7 (.alloc 73 [.int .i64 0,.int .i64 0,.int .i64 0,.int .i64 0]),i0 (.store 4 (.t 7) (.t 38))]
abbrev r5:List In:=[i1 39 (.faddr 0 (.t 7)),i1 40 (.load 1 false (.t 39)),i1 41 (.call 85 [.t 40]),i1 8 (.alloc 146 [.bool false,.bool false,.bool false,.bool false]),i0 (.store 4 (.t 8) (.t 41))]
abbrev r6:List In:=[i1 42 (.faddr 3 (.t 8)),i1 43 (.load 1 false (.t 42)),i1 44 (.un .not (.t 43)),mv 45 44,i2 45 false 46 (.mv (.t 6)),i2 45 false 47 (.bin .and (.t 46) (kI 15)),i2 45 false 48 (.bin .neq (.t 47) (kI 0)),i1 49 (.pick (.t 45) (kB true) (.t 48)),mv 50 49,i2 50 false 51 (.faddr 0 (.t 8)),i2 50 false 52 (.load 1 false (.t 51)),i2 50 false 53 (.un .not (.t 52)),i2 50 false 54 (.mv (.t 53)),i2 54 true 55 (.faddr 1 (.t 7)),i2 54 true 56 (.load 1 false (.t 55)),i2 54 true 57 (.bin .neq (.t 56) (kI 0)),i2 50 false 58 (.pick (.t 54) (.t 57) (kB false)),i1 59 (.pick (.t 50) (kB true) (.t 58)),mv 60 59,i2 60 false 61 (.faddr 1 (.t 8)),i2 60 false 62 (.load 1 false (.t 61)),i2 60 false 63 (.un .not (.t 62)),i2 60 false 64 (.mv (.t 63)),i2 64 true 65 (.faddr 2 (.t 7)),i2 64 true 66 (.load 1 false (.t 65)),i2 64 true 67 (.bin .neq (.t 66) (kI 0)),i2 60 false 68 (.pick (.t 64) (.t 67) (kB false)),i1 69 (.pick (.t 60) (kB true) (.t 68))]
abbrev r7:List In:=[i1 70 (.build [.int .i64 0,.int .i64 0,.int .i64 0,.int .i64 0] []),i0 (.store 4 (.t 4) (.t 70)),i1 5 (.mv (kI 0))]
abbrev r8:List In:=[i1 71 (.faddr 2 (.t 8)),i1 72 (.load 1 false (.t 71)),i1 73 (.un .not (.t 72))]
abbrev r9:List In:=[i1 74 (.load 4 true (.t 7)),i0 (.store 4 (.t 4) (.t 74)),i1 5 (.mv (kI 1))]
abbrev r10:List In:=[mv 75 1,i1 76 (.bin .add (.t 75) (kI 1)),mv 77 0,i1 78 (.len (.t 77)),i1 79 (.bin .geq (.t 76) (.t 78)),mv 80 79,i2 80 false 81 (.mv (.t 0)),i2 80 false 82 (.mv (.t 1)),i2 80 false 83 (.bin .add (.t 82) (kI 1)),i2 80 false 84 (.iaddr 1 (.t 81) (.t 83)),i2 80 false 85 (.load 1 false (.t 84)),i2 80 false 86 (.call 117 [.t 85]),i2 80 false 87 (.un .not (.t 86)),i1 88 (.pick (.t 80) (kB true) (.t 87))]
abbrev r11:List In:=[i1 89 (.build [.int .i64 0,.int .i64 0,.int .i64 0,.int .i64 0] []),i0 (.store 4 (.t 4) (.t 89)),i1 5 (.mv (kI 0))]
abbrev r12:List In:=[mv 90 0,mv 91 1,i1 92 (.bin .add (.t 91) (kI 1)),i1 93 (.iaddr 1 (.t 90) (.t 92)),i1 94 (.load 1 false (.t 93)),i1 95 (.faddr 3 (.t 7)),i0 (.store 1 (.t 95) (.t 94))]
abbrev r13:List In:=[i1 96 (.load 4 true (.t 7)),i0 (.store 4 (.t 4) (.t 96)),i1 5 (.mv (kI 2))]
abbrev code:IC:=.seq (.reg r0) (.seq (.seq (.reg r1) (.cond (.t 24) (.seq (.reg r2) .ret) .skip)) (.seq (.reg r3) (.seq (.reg r4) (.seq (.reg r5) (.seq (.seq (.reg r6) (.cond (.t 69) (.seq (.reg r7) .ret) .skip)) (.seq (.seq (.reg r8) (.cond (.t 73) (.seq (.reg r9) .ret) .skip)) (.seq (.seq (.reg r10) (.cond (.t 88) (.seq (.reg r11) .ret) .skip)) (.seq (.reg r12) (.seq (.reg r13) .ret)))))))))
abbrev res:List RV:=[.cell 4 4 true,.tmp 5]
theorem fn:Body Tryz.prog 119 97 code res:=⟨by decide,Tryz.f119,_,Tryz.func119,rfl,rfl,by kernel_rfl,by kernel_rfl⟩
end Kz
end Go.Proofs.YtddmlennnmpnhaaGreatDoor
namespace Go.Proofs.YtddmlennnmpnhaaGreatDoor
open Go.RowKit Vc
set_option linter.unusedVariables false
set_option linter.unusedSimpArgs false
attribute [local irreducible] T Za Zn Ent RdC RwC Yd Ze Zh
theorem mix:Tryz.prog.follows .mixedOrders=true:=by kernel_rfl
instance:Mix Tryz.prog:=⟨mix⟩
def Qh(n:Int):Bool:=decide (n=1∨(5≤n∧n≤13)∨n=2∨n=3∨n=4∨(14≤n∧n≤18)∨n=29∨n=31)
def Qi(n:Int):Bool:=decide (n=1∨(5≤n∧n≤13)∨n=3∨n=4∨n=28∨n=30)
def Ui(n:Int):Bool:=decide (n=2∨n=3∨n=4∨(19≤n∧n≤26)∨n=32)
def Th(n:Int):Bool:=decide (0≤n∧n≤32)
theorem Vp(n:Int):RdC Tryz.prog 85 [.v (.a (.int .i64 n))] (.one (.agg [.bool (Qh n),.bool (Qi n),.bool (Ui n),.bool (Th n)])):=by
 refine J2.fn.rd (by simp) (by simp[Zz]) (by simp[Zz]) fun w=> ?_
 repeat'(first|(first|refine Stp.h ?_)<;>try simp only[Zc,simprocAttr,↓reduceIte,reduceCtorEq,implies_true]|(with_reducible first|assumption|refine And.intro ?_ ?_)|(intro h;first|omega|exact tg h ‹_›|exact tg ‹_› h|skip))
 all_goals simp only[Qh,Qi,Ui,Th,SV.one.injEq,S1.agg.injEq,List.cons.injEq,At.bool.injEq,true_eq_decide_iff,false_eq_decide_iff,and_true]
 all_goals omega
def reg(n:Int):Bool:=decide (0≤n)&&decide (n≤7)
def Qo(n:Int):Bool:=decide (0≤n)&&decide (n≤65535)
theorem Lf(n:Int):RdC Tryz.prog 116 [.v (.a (.int .i64 n))] (.one (.a (.bool (reg n)))):=by
 refine Qp.fn.rd (by simp) (by simp[Zz]) (by simp[Zz]) fun w=> ?_
 repeat'(first|(first|refine Stp.h ?_)<;>try simp only[Zc,simprocAttr,↓reduceIte,reduceCtorEq,implies_true]|(with_reducible first|assumption|refine And.intro ?_ ?_)|(intro h;first|omega|exact tg h ‹_›|exact tg ‹_› h|skip))
 rfl
theorem Ve(n:Int):RdC Tryz.prog 117 [.v (.a (.int .i64 n))] (.one (.a (.bool (Qo n)))):=by
 refine Od.fn.rd (by simp) (by simp[Zz]) (by simp[Zz]) fun w=> ?_
 repeat'(first|(first|refine Stp.h ?_)<;>try simp only[Zc,simprocAttr,↓reduceIte,reduceCtorEq,implies_true]|(with_reducible first|assumption|refine And.intro ?_ ?_)|(intro h;first|omega|exact tg h ‹_›|exact tg ‹_› h|skip))
 rfl
theorem D8(n:Int)(h:Th n=true):RdC Tryz.prog 112 [.v (.a (.int .i64 n))] (.tup [.a (.bool (Qh n)),.a (.bool (Qi n)),.a (.bool (Ui n)),.a (.int .i64 0)]):=by
 refine Pc.fn.rd (by simp) (by simp[Zz]) (by simp[Zz]) fun w=> ?_
 repeat'(first|(first|refine Stp.h ?_|((with_reducible first|apply Za.rd (Vp _)|apply Ze.rd (Vp _));focus((repeat'(first|exact rfl|exact trivial|refine And.intro ?_ ?_|(simp[Zz];done)));done)))<;>try simp only[Zc,simprocAttr,↓reduceIte,reduceCtorEq,implies_true,h]|(with_reducible first|assumption|refine And.intro ?_ ?_)|(intro h;first|omega|exact tg h ‹_›|exact tg ‹_› h|skip))
theorem Uses_no(n:Int)(h:Th n=false):RdC Tryz.prog 112 [.v (.a (.int .i64 n))] (.tup [.a (.bool false),.a (.bool false),.a (.bool false),.a (.int .i64 1)]):=by
 refine Pc.fn.rd (by simp) (by simp[Zz]) (by simp[Zz]) fun w=> ?_
 repeat'(first|(first|refine Stp.h ?_|((with_reducible first|apply Za.rd (Vp _)|apply Ze.rd (Vp _));focus((repeat'(first|exact rfl|exact trivial|refine And.intro ?_ ?_|(simp[Zz];done)));done)))<;>try simp only[Zc,simprocAttr,↓reduceIte,reduceCtorEq,implies_true,h]|(with_reducible first|assumption|refine And.intro ?_ ?_)|(intro h;first|omega|exact tg h ‹_›|exact tg ‹_› h|skip))
def Wx(x:Ins):Int:=if Th x.op=false then 1 else if(Qh x.op&& !reg x.d)||((Qi x.op&& !reg x.s)||(Ui x.op&& !Qo x.imm))then 3 else 0
set_option maxHeartbeats 1000000 in
theorem Nf(x:Ins):RdC Tryz.prog 84 [.v (.agg x.cells)] (.one (.a (.int .i64 (Wx x)))):=by
 refine Nt.fn.rd (by simp) (by simp[Q4,S1.bd,At.bd,Ins.cells]) (by simp[Zz]) fun w=> ?_
 repeat'(first|(first|refine Stp.h ?_|((with_reducible first|apply Za.rd (Vp _)|apply Ze.rd (Vp _));focus((repeat'(first|exact rfl|exact trivial|refine And.intro ?_ ?_|(simp[Zz];done)));done))|((with_reducible first|apply Za.rd (Lf _)|apply Ze.rd (Lf _));focus((repeat'(first|exact rfl|exact trivial|refine And.intro ?_ ?_|(simp[Zz];done)));done))|((with_reducible first|apply Za.rd (Ve _)|apply Ze.rd (Ve _));focus((repeat'(first|exact rfl|exact trivial|refine And.intro ?_ ?_|(simp[Zz];done)));done)))<;>try simp only[Zc,simprocAttr,↓reduceIte,reduceCtorEq,implies_true]|(with_reducible first|assumption|refine And.intro ?_ ?_)|(intro h;first|omega|exact tg h ‹_›|exact tg ‹_› h|skip))
 all_goals simp_all[Wx]
def I8(n:Int):Int:=if Ui n then 2 else 1
theorem Dr(n:Int)(h:Th n=true):RdC Tryz.prog 82 [.v (.a (.int .i64 n))] (.tup [.a (.int .i64 (I8 n)),.a (.int .i64 0)]):=by
 refine Mt.fn.rd (by simp) (by simp[Zz]) (by simp[Zz]) fun w=> ?_
 repeat'(first|(first|refine Stp.h ?_|((with_reducible first|apply Za.rd (Vp _)|apply Ze.rd (Vp _));focus((repeat'(first|exact rfl|exact trivial|refine And.intro ?_ ?_|(simp[Zz];done)));done)))<;>try simp only[Zc,simprocAttr,↓reduceIte,reduceCtorEq,implies_true,h]|(with_reducible first|assumption|refine And.intro ?_ ?_)|(intro h;first|omega|exact tg h ‹_›|exact tg ‹_› h|skip))
 all_goals simp_all[I8]
def Vt:Ins:=⟨0,0,0,0⟩
end Go.Proofs.YtddmlennnmpnhaaGreatDoor
namespace Go.Proofs.YtddmlennnmpnhaaGreatDoor
open Vc
namespace Ku
abbrev r0:List In:=[i1 2 (.mv (kB false))]
abbrev r1:List In:=[mv 6 0,i1 7 (.slen (.t 6)),i1 8 (.bin .lss (.t 7) (kI 1)),mv 9 8,i2 9 false 10 (.mv (.t 0)),i2 9 false 11 (.slen (.t 10)),i2 9 false 12 (.bin .gtr (.t 11) (kI 32)),i1 13 (.pick (.t 9) (kB true) (.t 12))]
abbrev r2:List In:=[i1 2 (.mv (kB false))]
abbrev r3:List In:=[mv 14 0,i1 15 (.slen (.t 14)),i1 16 (.mv (kI 0))]
abbrev r4:List In:=[i1 17 (.bin .lss (.t 16) (.t 15))]
abbrev r5:List In:=[mv 18 16,mv 3 18]
abbrev r6:List In:=[mv 19 0,mv 20 3,i1 21 (.sidx (.t 19) (.t 20)),mv 4 21]
abbrev r7:List In:=[mv 22 4,i1 23 (.bin .geq (.t 22) (.k (.a (.int .u8 97)))),mv 24 23,i2 24 true 25 (.mv (.t 4)),i2 24 true 26 (.bin .leq (.t 25) (.k (.a (.int .u8 122)))),i1 27 (.pick (.t 24) (.t 26) (kB false)),mv 28 27,i2 28 false 29 (.mv (.t 4)),i2 28 false 30 (.bin .eql (.t 29) (.k (.a (.int .u8 95)))),i1 31 (.pick (.t 28) (kB true) (.t 30)),mv 32 31,i2 32 false 33 (.mv (.t 4)),i2 32 false 34 (.bin .eql (.t 33) (.k (.a (.int .u8 46)))),i2 32 false 35 (.mv (.t 34)),i2 35 true 36 (.mv (.t 3)),i2 35 true 37 (.bin .eql (.t 36) (kI 0)),i2 32 false 38 (.pick (.t 35) (.t 37) (kB false)),i1 39 (.pick (.t 32) (kB true) (.t 38)),mv 5 39]
abbrev r8:List In:=[mv 40 5,i1 41 (.un .not (.t 40)),mv 42 41,i2 42 true 43 (.mv (.t 3)),i2 42 true 44 (.bin .eql (.t 43) (kI 0)),i2 42 true 45 (.mv (.t 44)),i2 45 false 46 (.mv (.t 4)),i2 45 false 47 (.bin .lss (.t 46) (.k (.a (.int .u8 48)))),i2 42 true 48 (.pick (.t 45) (kB true) (.t 47)),i2 42 true 49 (.mv (.t 48)),i2 49 false 50 (.mv (.t 4)),i2 49 false 51 (.bin .gtr (.t 50) (.k (.a (.int .u8 57)))),i2 42 true 52 (.pick (.t 49) (kB true) (.t 51)),i1 53 (.pick (.t 42) (.t 52) (kB false))]
abbrev r9:List In:=[i1 2 (.mv (kB false))]
abbrev r10:List In:=[i1 54 (.bin .add (.t 16) (kI 1)),mv 16 54]
abbrev r11:List In:=[mv 55 0,i1 56 (.bin .neq (.t 55) (.k (.a (.str [46])))),mv 2 56]
abbrev code:IC:=.seq (.reg r0) (.seq (.seq (.reg r1) (.cond (.t 13) (.seq (.reg r2) .ret) .skip)) (.seq (.seq (.reg r3) (.block 0 (.loop (.seq (.reg r4) (.seq (.cond (.t 17) .skip (.exit 0)) (.seq (.block 1 (.seq (.reg r5) (.seq (.reg r6) (.seq (.reg r7) (.seq (.reg r8) (.cond (.t 53) (.seq (.reg r9) .ret) .skip)))))) (.reg r10))))))) (.seq (.reg r11) .ret)))
abbrev res:List RV:=[.tmp 2]
theorem fn:Body Tryz.prog 110 57 code res:=⟨by decide,Tryz.f110,_,Tryz.func110,rfl,rfl,by kernel_rfl,by kernel_rfl⟩
end Ku
namespace Ms
abbrev r0:List In:=[i1 2 (.mv (kB false))]
abbrev r1:List In:=[mv 8 0,i1 9 (.call 112 [.t 8]),mv 7 9,i1 10 (.ext 0 (.t 7)),i1 11 (.ext 1 (.t 7)),i1 12 (.ext 2 (.t 7)),i1 13 (.ext 3 (.t 7)),mv 3 10,mv 4 11,mv 5 12,mv 6 13]
abbrev r2:List In:=[mv 14 6,i1 15 (.bin .eql (.t 14) (kI 0)),mv 16 15,i2 16 true 17 (.mv (.t 5)),i1 18 (.pick (.t 16) (.t 17) (kB false)),mv 19 18,i2 19 true 20 (.mv (.t 0)),i2 19 true 21 (.bin .neq (.t 20) (kI 32)),i1 22 (.pick (.t 19) (.t 21) (kB false)),mv 2 22]
abbrev code:IC:=.seq (.reg r0) (.seq (.reg r1) (.seq (.reg r2) .ret))
abbrev res:List RV:=[.tmp 2]
theorem fn:Body Tryz.prog 115 23 code res:=⟨by decide,Tryz.f115,_,Tryz.func115,rfl,rfl,by kernel_rfl,by kernel_rfl⟩
end Ms
namespace Kw
abbrev r0:List In:=[i1 1 (.box 75 (.t 0)),i1 2 (.mv (kI 0))]
abbrev r1:List In:=[i1 4 (.faddr 0 (.t 1)),i1 5 (.load 1 false (.t 4)),i1 6 (.bin .neq (.t 5) (.k (.a (.str []))))]
abbrev r2:List In:=[i1 7 (.faddr 0 (.t 1)),i1 8 (.load 1 false (.t 7)),i1 9 (.call 110 [.t 8]),i1 10 (.un .not (.t 9))]
abbrev r3:List In:=[i1 2 (.mv (kI 7))]
abbrev r4:List In:=[i1 11 (.faddr 5 (.t 1)),i1 12 (.load 1 false (.t 11)),i1 13 (.bin .neq (.t 12) (.k (.a (.str [])))),mv 14 13,i2 14 false 15 (.faddr 1 (.t 1)),i2 14 false 16 (.load 4 true (.t 15)),i2 14 false 17 (.build [.int .i64 0,.int .i64 0,.int .i64 0,.int .i64 0] []),i2 14 false 18 (.aeq true [.int,.int,.int,.int] (.t 16) (.t 17)),i1 19 (.pick (.t 14) (kB true) (.t 18))]
abbrev r5:List In:=[i1 2 (.mv (kI 8))]
abbrev r6:List In:=[i1 2 (.mv (kI 0))]
abbrev r7:List In:=[i1 20 (.faddr 1 (.t 1)),i1 21 (.load 4 true (.t 20)),i1 22 (.call 84 [.t 21]),mv 3 22]
abbrev r8:List In:=[mv 23 3,i1 24 (.bin .neq (.t 23) (kI 0))]
abbrev r9:List In:=[mv 25 3,mv 2 25]
abbrev r10:List In:=[i1 27 (.faddr 5 (.t 1)),i1 28 (.load 1 false (.t 27)),i1 29 (.bin .eql (.t 28) (.k (.a (.str [])))),mv 26 29]
abbrev r11:List In:=[i1 2 (.mv (kI 0))]
abbrev r12:List In:=[i1 31 (.faddr 5 (.t 1)),i1 32 (.load 1 false (.t 31)),i1 33 (.call 110 [.t 32]),i1 34 (.un .not (.t 33)),mv 30 34]
abbrev r13:List In:=[i1 2 (.mv (kI 7))]
abbrev r14:List In:=[i1 36 (.faddr 1 (.t 1)),i1 37 (.faddr 0 (.t 36)),i1 38 (.load 1 false (.t 37)),i1 39 (.call 115 [.t 38]),i1 40 (.un .not (.t 39)),mv 41 40,i2 41 false 42 (.faddr 1 (.t 1)),i2 41 false 43 (.faddr 3 (.t 42)),i2 41 false 44 (.load 1 false (.t 43)),i2 41 false 45 (.bin .neq (.t 44) (kI 0)),i1 46 (.pick (.t 41) (kB true) (.t 45)),mv 35 46]
abbrev r15:List In:=[i1 2 (.mv (kI 8))]
abbrev r16:List In:=[i1 2 (.mv (kI 0))]
abbrev code:IC:=.seq (.reg r0) (.seq (.seq (.reg r1) (.cond (.t 6) (.seq (.seq (.reg r2) (.cond (.t 10) (.seq (.reg r3) .ret) .skip)) (.seq (.seq (.reg r4) (.cond (.t 19) (.seq (.reg r5) .ret) .skip)) (.seq (.reg r6) .ret))) .skip)) (.seq (.seq (.reg r7) (.seq (.reg r8) (.cond (.t 24) (.seq (.reg r9) .ret) .skip))) (.seq (.block 0 (.seq (.reg r10) (.cond (.t 26) (.seq (.reg r11) .ret) (.seq (.reg r12) (.cond (.t 30) (.seq (.reg r13) .ret) (.seq (.reg r14) (.cond (.t 35) (.seq (.reg r15) .ret) .skip))))))) (.seq (.reg r16) .ret))))
abbrev res:List RV:=[.tmp 2]
theorem fn:Body Tryz.prog 81 47 code res:=⟨by decide,Tryz.f81,_,Tryz.func81,rfl,rfl,by kernel_rfl,by kernel_rfl⟩
end Kw
end Go.Proofs.YtddmlennnmpnhaaGreatDoor
namespace Go.Proofs.YtddmlennnmpnhaaGreatDoor
open Go.RowKit Vc
set_option linter.unusedVariables false
set_option linter.unusedSimpArgs false
attribute [local irreducible] T Za Zn Ent RdC RwC Yd Ze Zh
def Gh(i:Nat)(c:Int):Bool:=(decide (97≤c)&&decide (c≤122))||(decide (c=95)||((decide (c=46)&&decide (i=0))||(decide (0<i)&&(decide (48≤c)&&decide (c≤57)))))
def Xk(s:List UInt8):Bool:=(decide (1≤s.length)&&decide (s.length≤32))&&(decide (s≠[46])&&(List.range s.length).all fun i=>Gh i (Wc s i))
theorem Zbp{s:List UInt8}{k:Nat}(hk:k<s.length)(h:Gh k (Wc s k)=false):Xk s=false:=by
 unfold Xk
 have:((List.range s.length).all fun i=>Gh i (Wc s i))=false:=by
  rw[List.all_eq_false]
  exact⟨k,by simpa using hk,by simp[h]⟩
 simp[this]
theorem Bu{s:List UInt8}(h1:1≤s.length)(h2:s.length≤32)(h:∀i,i<s.length→Gh i (Wc s i)=true):Xk s=decide (s≠[46]):=by
 unfold Xk
 have:((List.range s.length).all fun i=>Gh i (Wc s i))=true:=by
  rw[List.all_eq_true]
  exact fun i hi=>h i (by simpa using hi)
 simp[this,h1,h2]
theorem Bv{s:List UInt8}(h:32<s.length):Xk s=false:=by
 unfold Xk;simp;omega
theorem Zbq:Xk []=false:=by decide
set_option maxHeartbeats 1000000 in
theorem Su(s:List UInt8):RdC Tryz.prog 110 [.v (.a (.str s))] (.one (.a (.bool (Xk s)))):=by
 refine Ku.fn.rd (by simp) (by simp[Zz]) (by simp[Zz]) fun w=> ?_
 by_cases hl:1≤s.length∧s.length≤32
 ·have h1:¬(s.length:Int)<1:=by omega
  have h2:¬(32:Int)<s.length:=by omega
  repeat'(first|(first|refine Stp.h ?_)<;>try simp only[Zc,simprocAttr,↓reduceIte,reduceCtorEq,implies_true,h1,h2]|(with_reducible first|assumption|refine And.intro ?_ ?_)|(intro h;first|omega|exact tg h ‹_›|exact tg ‹_› h|skip))
  all_goals first|omega|skip
  refine T.loop (ι:= {k:Nat//k≤s.length∧∀i,i<k→Gh i (Wc s i)=true})
   (fun x=>⟨[(16,.one (.a (.int .i64 (x.1:Int)))),(15,.one (.a (.int .i64 s.length))),(0,.one (.a (.str s)))],[],0⟩)
   (fun x=>s.length-x.1) ⟨0,by simp,by simp⟩ (Ent.mk1 (id) (by simp[Zt])) ?_
  rintro⟨k,hk,hrun⟩
  by_cases hlt:k<s.length
  ·have hw:IntKind.i64.wrap ((k:Int)+1)=((k+1:Nat):Int):=Zx (by omega)
   have ht:((k:Int)).toNat=k:=by omega
   generalize hc:Wc s k=c
   cases hok:Gh k c with
   |false=>
    have hn:=Zbp hlt (hc▸hok)
    simp only[Gh,Bool.or_eq_false_iff,Bool.and_eq_false_iff,decide_eq_false_iff_not]at hok
    repeat'(first|(first|refine Stp.h ?_)<;>try simp only[Zc,simprocAttr,↓reduceIte,reduceCtorEq,implies_true,hw,ht,hc,Int.ofNat_lt]|(with_reducible first|assumption|refine And.intro ?_ ?_)|(intro h;first|omega|exact tg h ‹_›|exact tg ‹_› h|skip))
    all_goals first|omega|exact congrArg _ (congrArg _ (congrArg _ hn.symm))|skip
   |true=>
    have hall:∀i,i<k+1→Gh i (Wc s i)=true:=fun i hi=>by
     by_cases hik:i<k
     ·exact hrun i hik
     ·have:i=k:=by omega
      subst this;rw[hc];exact hok
    simp only[Gh,Bool.or_eq_true,Bool.and_eq_true,decide_eq_true_eq]at hok
    repeat'(first|(first|refine Stp.h ?_)<;>try simp only[Zc,simprocAttr,↓reduceIte,reduceCtorEq,implies_true,hw,ht,hc,Int.ofNat_lt]|(with_reducible first|assumption|refine And.intro ?_ ?_)|(intro h;first|omega|exact tg h ‹_›|exact tg ‹_› h|skip))
    all_goals first|omega|exact⟨⟨k+1,hlt,hall⟩,(Ent.mk1 (id) (by simp[Zt])),by simp only;omega⟩|skip
  ·have hk2:k=s.length:=by omega
   subst hk2
   have hg:=Bu hl.1 hl.2 hrun
   repeat'(first|(first|refine Stp.h ?_)<;>try simp only[Zc,simprocAttr,↓reduceIte,reduceCtorEq,implies_true,Int.ofNat_lt,hg]|(with_reducible first|assumption|refine And.intro ?_ ?_)|(intro h;first|omega|exact tg h ‹_›|exact tg ‹_› h|skip))
   all_goals first|omega|simp|skip
 ·by_cases h0:s=[]
  ·subst h0
   have:=Zbq
   repeat'(first|(first|refine Stp.h ?_)<;>try simp only[Zc,simprocAttr,↓reduceIte,reduceCtorEq,implies_true,this]|(with_reducible first|assumption|refine And.intro ?_ ?_)|(intro h;first|omega|exact tg h ‹_›|exact tg ‹_› h|skip))
   all_goals first|omega|simp|skip
  ·have hpos:1≤s.length:=by cases s with|nil=>exact absurd rfl h0|cons _ _=>simp
   have hn:=Bv (s:=s) (by omega)
   have h1:¬(s.length:Int)<1:=by omega
   have h2:(32:Int)<s.length:=by omega
   repeat'(first|(first|refine Stp.h ?_)<;>try simp only[Zc,simprocAttr,↓reduceIte,reduceCtorEq,implies_true,h1,h2,hn]|(with_reducible first|assumption|refine And.intro ?_ ?_)|(intro h;first|omega|exact tg h ‹_›|exact tg ‹_› h|skip))
def U1(n:Int):Bool:=Ui n&& !decide (n=32)
theorem Rm(n:Int):RdC Tryz.prog 115 [.v (.a (.int .i64 n))] (.one (.a (.bool (U1 n)))):=by
 refine Ms.fn.rd (by simp) (by simp[Zz]) (by simp[Zz]) fun w=> ?_
 cases hk:Th n with
 |true=>
  repeat'(first|(first|refine Stp.h ?_|(refine rq (D8 n hk) ?_ ?_;focus simp[Zz];done))<;>try simp only[Zc,simprocAttr,↓reduceIte,reduceCtorEq,implies_true,U1]|(with_reducible first|assumption|refine And.intro ?_ ?_)|(intro h;first|omega|exact tg h ‹_›|exact tg ‹_› h|skip))
 |false=>
  have hi:Ui n=false:=by
   simp only[Th,Ui,decide_eq_false_iff_not]at hk ⊢;omega
  repeat'(first|(first|refine Stp.h ?_|(refine rq (Uses_no n hk) ?_ ?_;focus simp[Zz];done))<;>try simp only[Zc,simprocAttr,↓reduceIte,reduceCtorEq,implies_true,U1,hi]|(with_reducible first|assumption|refine And.intro ?_ ?_)|(intro h;first|omega|exact tg h ‹_›|exact tg ‹_› h|skip))
def U5(x:Ln):Int:=
 if x.label≠[]then(if Xk x.label=false then 7 else if x.ref≠[]∨x.ins≠Vt then 8 else 0)
 else if Wx x.ins≠0 then Wx x.ins else if x.ref=[]then 0 else if Xk x.ref=false then 7 else if U1 x.ins.op=false∨x.ins.imm≠0 then 8 else 0
def ln0:Ln:=⟨[],Vt,[]⟩
theorem ins_no(x:Ins):x=Vt↔x.op=0∧x.d=0∧x.s=0∧x.imm=0:=by
 cases x;simp[Vt]
set_option maxHeartbeats 2000000 in
theorem Xz(x:Ln):RdC Tryz.prog 81 [.v (.agg x.cells)] (.one (.a (.int .i64 (U5 x)))):=by
 refine Kw.fn.rd (by simp) (by simp[Q4,S1.bd,At.bd,Ln.cells]) (by simp[Zz]) fun w=> ?_
 by_cases hlb:x.label=[]
 ·repeat'(first|(first|refine Stp.h ?_|((with_reducible first|apply Za.rd (Su _)|apply Ze.rd (Su _));focus((repeat'(first|exact rfl|exact trivial|refine And.intro ?_ ?_|(simp[Zz];done)));done))|(refine rq (Nf x.ins) ?_ ?_;focus simp[Zz];done)|((with_reducible first|apply Za.rd (Rm _)|apply Ze.rd (Rm _));focus((repeat'(first|exact rfl|exact trivial|refine And.intro ?_ ?_|(simp[Zz];done)));done)))<;>try simp only[Zc,simprocAttr,↓reduceIte,reduceCtorEq,implies_true,hlb]|(with_reducible first|assumption|refine And.intro ?_ ?_)|(intro h;first|omega|exact tg h ‹_›|exact tg ‹_› h|skip))
  all_goals simp_all[U5]
 ·repeat'(first|(first|refine Stp.h ?_|((with_reducible first|apply Za.rd (Su _)|apply Ze.rd (Su _));focus((repeat'(first|exact rfl|exact trivial|refine And.intro ?_ ?_|(simp[Zz];done)));done))|(refine rq (Nf x.ins) ?_ ?_;focus simp[Zz];done)|((with_reducible first|apply Za.rd (Rm _)|apply Ze.rd (Rm _));focus((repeat'(first|exact rfl|exact trivial|refine And.intro ?_ ?_|(simp[Zz];done)));done)))<;>try simp only[Zc,simprocAttr,↓reduceIte,reduceCtorEq,implies_true,hlb]|(with_reducible first|assumption|refine And.intro ?_ ?_)|(intro h;first|omega|exact tg h ‹_›|exact tg ‹_› h|skip))
  all_goals simp_all[U5,ins_no]
def Oy(x:Ln):Int:=if x.label≠[]then 0 else if Ui x.ins.op then 2 else 1
end Go.Proofs.YtddmlennnmpnhaaGreatDoor
namespace Go.Proofs.YtddmlennnmpnhaaGreatDoor
open Vc
namespace Vv
abbrev r0:List In:=[i1 0 (.mv (.k (.a (.raw (.slice none 0 0)))))]
abbrev r1:List In:=[i1 1 (.bsl 9 1 33 [.str [],.str [],.str [],.str [],.str [],.str [],.str [],.str [],.str [],.str [],.str [],.str [],.str [],.str [],.str [],.str [],.str [],.str [],.str [],.str [],.str [],.str [],.str [],.str [],.str [],.str [],.str [],.str [],.str [],.str [],.str [],.str [],.str []] [(0,1,(.k (.a (.str [104,97,108,116])))),(1,1,(.k (.a (.str [109,111,118])))),(2,1,(.k (.a (.str [108,100,105])))),(3,1,(.k (.a (.str [108,100])))),(4,1,(.k (.a (.str [115,116])))),(5,1,(.k (.a (.str [97,100,100])))),(6,1,(.k (.a (.str [97,100,99])))),(7,1,(.k (.a (.str [115,117,98])))),(8,1,(.k (.a (.str [115,98,99])))),(9,1,(.k (.a (.str [97,110,100])))),(10,1,(.k (.a (.str [111,114])))),(11,1,(.k (.a (.str [120,111,114])))),(12,1,(.k (.a (.str [99,109,112])))),(13,1,(.k (.a (.str [99,112,99])))),(14,1,(.k (.a (.str [115,104,108])))),(15,1,(.k (.a (.str [114,111,108])))),(16,1,(.k (.a (.str [115,104,114])))),(17,1,(.k (.a (.str [115,97,114])))),(18,1,(.k (.a (.str [114,111,114])))),(19,1,(.k (.a (.str [106,109,112])))),(20,1,(.k (.a (.str [106,122])))),(21,1,(.k (.a (.str [106,110,122])))),(22,1,(.k (.a (.str [106,99])))),(23,1,(.k (.a (.str [106,110,99])))),(24,1,(.k (.a (.str [106,108,116])))),(25,1,(.k (.a (.str [106,103,101])))),(26,1,(.k (.a (.str [99,97,108,108])))),(27,1,(.k (.a (.str [114,101,116])))),(28,1,(.k (.a (.str [112,117,115,104])))),(29,1,(.k (.a (.str [112,111,112])))),(30,1,(.k (.a (.str [111,117,116])))),(31,1,(.k (.a (.str [105,110])))),(32,1,(.k (.a (.str [116,114,97,112]))))]),mv 0 1]
abbrev code:IC:=.seq (.reg r0) (.seq (.reg r1) .ret)
abbrev res:List RV:=[.tmp 0]
theorem fn:Body Tryz.prog 111 2 code res:=⟨by decide,Tryz.f111,_,Tryz.func111,rfl,rfl,by kernel_rfl,by kernel_rfl⟩
end Vv
end Go.Proofs.YtddmlennnmpnhaaGreatDoor
namespace Go.Proofs.YtddmlennnmpnhaaGreatDoor
open Go Go.RowKit Vc
set_option linter.unusedVariables false
set_option linter.unusedSimpArgs false
attribute [local irreducible] T Za Zn Ent RdC RwC Yd Ze Zh
def Hc:List (List UInt8):=[[104,97,108,116],[109,111,118],[108,100,105],[108,100],[115,116],[97,100,100],[97,100,99],[115,117,98],[115,98,99],[97,110,100],[111,114],[120,111,114],[99,109,112],[99,112,99],[115,104,108],[114,111,108],[115,104,114],[115,97,114],[114,111,114],[106,109,112],[106,122],[106,110,122],[106,99],[106,110,99],[106,108,116],[106,103,101],[99,97,108,108],[114,101,116],[112,117,115,104],[112,111,112],[111,117,116],[105,110],[116,114,97,112]]
theorem Ey:GC Tryz.prog 111 [] [] 0 [] (.one (.a (.ref 0))) [(0,.row 9 .str Hc)] 1:=by
 refine Vv.fn.gc (by simp) (by simp[Zu,Zw,Zv,Zj,Zf,Vc.S1.okN,At.okN,SV.okN,Res.okN,Res.outOk,Zo,Res.own,Value.oneCell']) fun w X fr=> ?_
 refine T.regs ?_
 simp only[Zc,simprocAttr,↓reduceIte,reduceCtorEq,implies_true,Vv.r0]
 refine T.regs ?_
 simp only[Zc,simprocAttr,↓reduceIte,reduceCtorEq,implies_true,Vv.r1]
 refine T.weak (Ent.litRow (m:=0) .str Hc rfl rfl rfl rfl (by decide)) ?_
 simp only[Zc,simprocAttr,↓reduceIte,reduceCtorEq,implies_true]
 repeat'(first|(first|refine Stp.h ?_)<;>try simp only[Zc,simprocAttr,↓reduceIte,reduceCtorEq,implies_true]|(with_reducible first|assumption|refine And.intro ?_ ?_)|(intro h;first|omega|exact tg h ‹_›|exact tg ‹_› h|skip))
end Go.Proofs.YtddmlennnmpnhaaGreatDoor
namespace Go.Proofs.YtddmlennnmpnhaaGreatDoor
open Go.RowKit Vc
set_option linter.unusedVariables false
set_option linter.unusedSimpArgs false
def trimB(s:List UInt8):List UInt8:=Lib.trimS s [32,9]
def Sh:List (List UInt8)→List UInt8→Nat→Int
 | [],_,_=> -1
 |x::l,w,k=>if x=w then(k:Int)else Sh l w (k+1)
def kindS(w:List UInt8):Int:=Sh Hc w 0
def Mi(s:List UInt8)(most:Nat):Option Nat:=match Hf s with
 |some v=>if v≤most then some v else none
 |none=>none
def Da:List UInt8→Option Nat
 |b::s=>if b=114 then Mi s 7 else none
 | []=>none
def R8(rest:List UInt8):List (List UInt8):=if trimB rest=[]then[]else(splitS 44 (trimB rest)).map trimB
def Oa(has:Bool)(ps:List (List UInt8)):Except Int (Nat×List (List UInt8)):=
 if has=false then .ok (0,ps)else match ps with
 | []=>.error 5
 |p::ps=>match Da p with
  |some n=>.ok (n,ps)
  |none=>.error 2
def Q8(op:Int)(ps:List (List UInt8)):Except Int (Nat×List UInt8×List (List UInt8)):=
 if Ui op=false then .ok (0,[],ps)else match ps with
 | []=>.error 5
 |p::ps=>match Mi p 65535 with
  |some n=>.ok (n,[],ps)
  |none=>if Xk p=true∧U1 op=true then .ok (0,p,ps)else .error 2
def insV(op:Int)(ps:List (List UInt8)):Except Int Ln:=
 match Oa (Qh op) ps with
 |.error e=>.error e
 |.ok (d,ps)=>match Oa (Qi op) ps with
  |.error e=>.error e
  |.ok (s,ps)=>match Q8 op ps with
   |.error e=>.error e
   |.ok (i,r,ps)=>if ps=[]then .ok ⟨[],⟨op,d,s,i⟩,r⟩else .error 5
def Ny(s:List UInt8):Except Int (Option Ln):=
 let t:=trimB (upToS 59 s).1
 if t=[]then .ok none
 else if t.getLast? =some 58 then(if Xk t.dropLast=true then .ok (some ⟨t.dropLast,Vt,[]⟩)else .error 7)
 else if kindS (upToS 32 t).1<0 then .error 1
 else match insV (kindS (upToS 32 t).1) (R8 (upToS 32 t).2.1)with
  |.error e=>.error e
  |.ok l=>.ok (some l)
def P9:List (List UInt8)→Nat→List Ln→List Ln×Int×Int
 | [],_,acc=>(acc,0,0)
 |s::l,k,acc=>match Ny s with
  |.error e=>([],e,k)
  |.ok none=>P9 l (k+1) acc
  |.ok (some x)=>P9 l (k+1) (acc++[x])
def K6(t:List UInt8):List Ln×Int×Int:=
 if 1048576<t.length then([],4,0)else if 40000<(Ep t).length then([],5,0)else P9 (Ep t) 0 []
end Go.Proofs.YtddmlennnmpnhaaGreatDoor
namespace Go.Proofs.YtddmlennnmpnhaaGreatDoor
open Go.RowKit
set_option linter.unusedVariables false
set_option linter.unusedSimpArgs false
namespace Vc
theorem C5{w:World}{g n:Nat}(k:Nat)(hk:k≠g):(w.freeze ⟨g,0,none⟩ n).heap[k]? =w.heap[k]? :=by
 unfold World.freeze
 split
 ·rfl
 ·rename_i h
  rw[Array.getElem?_modify,if_neg (fun e=>hk e.symm)]
theorem C7(w:World)(g n:Nat):(w.freeze ⟨g,0,none⟩ n).os=w.os∧(w.freeze ⟨g,0,none⟩ n).tape=w.tape∧(w.freeze ⟨g,0,none⟩ n).output=w.output:=by
 unfold World.freeze
 split<;>exact⟨rfl,rfl,rfl⟩
theorem C8(w:World)(g n:Nat):(w.freeze ⟨g,0,none⟩ n).heap.size=w.heap.size:=by
 unfold World.freeze
 split
 ·rfl
 ·exact Array.size_modify ..
theorem Zde(ρ:Env)(l:List (List UInt8)):((l.flatMap (Kd.enc .str)).map (At.den ρ))=l.map fun y=>Value.string ⟨y.toArray⟩:=by
 induction l with
 |nil=>rfl
 |cons x l ih=>simp only[List.flatMap_cons,List.map_append,List.map_cons,ih];rfl
end Vc
end Go.Proofs.YtddmlennnmpnhaaGreatDoor
namespace Go.Proofs
open Go.Shelf
def Tryz.lays160_ren:Go.Shelf.Ren:=⟨fun|160=>108|232=>155|231=>154|227=>156|234=>158|233=>157|236=>160|235=>159|228=>181|271=>183|151=>182|197=>178|120=>196|152=>195|260=>190|137=>207|119=>208|224=>193|225=>192|217=>191|266=>205|n=>n,fun|9=>9|4=>4|3=>3|5=>5|117=>207|116=>206|0=>0|124=>210|21=>21|105=>224|46=>57|119=>241|139=>244|138=>243|n=>n,fun|3=>1|4=>2|n=>n⟩
theorem Tryz.lays160:Go.Proofs.Lays.n160 Tryz.prog Tryz.lays160_ren:= {
 mixed:=by kernel_rfl
 f119:=Tryz.func208.trans (congrArg some (by kernel_rfl))
 f120:=Tryz.func196.trans (congrArg some (by kernel_rfl))
 f137:=Tryz.func207.trans (congrArg some (by kernel_rfl))
 f151:=Tryz.func182.trans (congrArg some (by kernel_rfl))
 f152:=Tryz.func195.trans (congrArg some (by kernel_rfl))
 f160:=Tryz.func108.trans (congrArg some (by kernel_rfl))
 f197:=Tryz.func178.trans (congrArg some (by kernel_rfl))
 f217:=Tryz.func191.trans (congrArg some (by kernel_rfl))
 f224:=Tryz.func193.trans (congrArg some (by kernel_rfl))
 f225:=Tryz.func192.trans (congrArg some (by kernel_rfl))
 f227:=Tryz.func156.trans (congrArg some (by kernel_rfl))
 f228:=Tryz.func181.trans (congrArg some (by kernel_rfl))
 f231:=Tryz.func154.trans (congrArg some (by kernel_rfl))
 f232:=Tryz.func155.trans (congrArg some (by kernel_rfl))
 f233:=Tryz.func157.trans (congrArg some (by kernel_rfl))
 f234:=Tryz.func158.trans (congrArg some (by kernel_rfl))
 f235:=Tryz.func159.trans (congrArg some (by kernel_rfl))
 f236:=Tryz.func160.trans (congrArg some (by kernel_rfl))
 f260:=Tryz.func190.trans (congrArg some (by kernel_rfl))
 f266:=Tryz.func205.trans (congrArg some (by kernel_rfl))
 f271:=Tryz.func183.trans (congrArg some (by kernel_rfl))
 t0:=Tryz.underlying0
 a0:=Tryz.isAgg0
 z0:=Tryz.sizeOf0
 v0:=Tryz.zeroValue0
 t3:=Tryz.underlying3
 a3:=Tryz.isAgg3
 z3:=Tryz.sizeOf3
 v3:=Tryz.zeroValue3
 t4:=Tryz.underlying4
 a4:=Tryz.isAgg4
 z4:=Tryz.sizeOf4
 v4:=Tryz.zeroValue4
 t5:=Tryz.underlying5
 a5:=Tryz.isAgg5
 z5:=Tryz.sizeOf5
 v5:=Tryz.zeroValue5
 t9:=Tryz.underlying9
 a9:=Tryz.isAgg9
 z9:=Tryz.sizeOf9
 v9:=Tryz.zeroValue9
 t21:=Tryz.underlying21
 a21:=Tryz.isAgg21
 z21:=Tryz.sizeOf21
 v21:=Tryz.zeroValue21
 t46:=Tryz.underlying57
 a46:=Tryz.isAgg57
 z46:=Tryz.sizeOf57
 v46:=Tryz.zeroValue57
 t105:=Tryz.underlying224
 a105:=Tryz.isAgg224
 z105:=Tryz.sizeOf224
 v105:=Tryz.zeroValue224
 t116:=Tryz.underlying206
 a116:=Tryz.isAgg206
 z116:=Tryz.sizeOf206
 t117:=Tryz.underlying207
 a117:=Tryz.isAgg207
 z117:=Tryz.sizeOf207
 v117:=Tryz.zeroValue207
 t119:=Tryz.underlying241
 a119:=Tryz.isAgg241
 z119:=Tryz.sizeOf241
 t124:=Tryz.underlying210
 a124:=Tryz.isAgg210
 z124:=Tryz.sizeOf210
 v124:=Tryz.zeroValue210
 t138:=Tryz.underlying243
 a138:=Tryz.isAgg243
 z138:=Tryz.sizeOf243
 v138:=Tryz.zeroValue243
 t139:=Tryz.underlying244
 a139:=Tryz.isAgg244
 z139:=Tryz.sizeOf244
 v139:=Tryz.zeroValue244
 g3:=by kernel_rfl
 g4:=by kernel_rfl}
open Go.RowKit in
def Tryz.lays103_ren:Go.Shelf.Ren:=⟨fun|103=>162|210=>184|206=>197|n=>n,fun|9=>9|4=>4|24=>171|3=>3|n=>n,fun|n=>n⟩
theorem Tryz.lays103:Go.Proofs.Lays.n103 Tryz.prog Tryz.lays103_ren:= {
 mixed:=by kernel_rfl
 f103:=Tryz.func162.trans (congrArg some (by kernel_rfl))
 f206:=Tryz.func197.trans (congrArg some (by kernel_rfl))
 f210:=Tryz.func184.trans (congrArg some (by kernel_rfl))
 t3:=Tryz.underlying3
 a3:=Tryz.isAgg3
 z3:=Tryz.sizeOf3
 v3:=Tryz.zeroValue3
 t4:=Tryz.underlying4
 a4:=Tryz.isAgg4
 z4:=Tryz.sizeOf4
 v4:=Tryz.zeroValue4
 t9:=Tryz.underlying9
 a9:=Tryz.isAgg9
 z9:=Tryz.sizeOf9
 v9:=Tryz.zeroValue9
 t24:=Tryz.underlying171
 a24:=Tryz.isAgg171
 z24:=Tryz.sizeOf171
 v24:=Tryz.zeroValue171}
open Go.RowKit in
theorem Tryz.strings_CutPrefix(s p:ByteArray)(w:World):
 Calls Tryz.prog 162 #[.string s,.string p] w fun e w'=>e= .returned (.tuple #[.string ⟨(Lib.trimPrefix s.data.toList p.data.toList).toArray⟩,.bool (Lib.hasPrefix s.data.toList p.data.toList)])∧w'=w:=Any.strings_CutPrefix Tryz.lays103 s p w
def Tryz.lays104_ren:Go.Shelf.Ren:=⟨fun|104=>109|211=>161|207=>148|n=>n,fun|9=>9|4=>4|24=>171|3=>3|n=>n,fun|n=>n⟩
theorem Tryz.lays104:Go.Proofs.Lays.n104 Tryz.prog Tryz.lays104_ren:= {
 mixed:=by kernel_rfl
 f104:=Tryz.func109.trans (congrArg some (by kernel_rfl))
 f207:=Tryz.func148.trans (congrArg some (by kernel_rfl))
 f211:=Tryz.func161.trans (congrArg some (by kernel_rfl))
 t3:=Tryz.underlying3
 a3:=Tryz.isAgg3
 z3:=Tryz.sizeOf3
 v3:=Tryz.zeroValue3
 t4:=Tryz.underlying4
 a4:=Tryz.isAgg4
 z4:=Tryz.sizeOf4
 v4:=Tryz.zeroValue4
 t9:=Tryz.underlying9
 a9:=Tryz.isAgg9
 z9:=Tryz.sizeOf9
 v9:=Tryz.zeroValue9
 t24:=Tryz.underlying171
 a24:=Tryz.isAgg171
 z24:=Tryz.sizeOf171
 v24:=Tryz.zeroValue171}
open Go.RowKit in
theorem Tryz.strings_CutSuffix(s p:ByteArray)(w:World)(hs:s.size≤9223372036854775807):
 Calls Tryz.prog 109 #[.string s,.string p] w fun e w'=>e= .returned (.tuple #[.string ⟨(Lib.trimSuffix s.data.toList p.data.toList).toArray⟩,.bool (Lib.hasSuffix s.data.toList p.data.toList)])∧w'=w:=Any.strings_CutSuffix Tryz.lays104 s p w hs
def Tryz.lays172_ren:Go.Shelf.Ren:=⟨fun|172=>163|244=>185|245=>186|247=>198|279=>199|280=>200|281=>201|282=>202|287=>209|316=>210|171=>168|205=>211|321=>217|322=>218|243=>188|246=>204|283=>213|284=>214|285=>215|286=>216|129=>147|317=>219|318=>220|319=>221|320=>222|337=>223|338=>224|n=>n,fun|9=>9|3=>3|75=>162|76=>164|4=>4|5=>5|167=>234|37=>46|0=>0|85=>235|2=>2|168=>237|53=>22|175=>248|46=>57|210=>252|127=>166|145=>262|143=>260|21=>21|171=>255|173=>257|212=>264|51=>90|20=>20|213=>265|232=>266|233=>267|80=>135|n=>n,fun|15=>3|16=>4|17=>5|18=>6|19=>7|n=>n⟩
theorem Tryz.lays172:Go.Proofs.Lays.n172 Tryz.prog Tryz.lays172_ren:= {
 mixed:=by kernel_rfl
 f129:=Tryz.func147.trans (congrArg some (by kernel_rfl))
 f171:=Tryz.func168.trans (congrArg some (by kernel_rfl))
 f172:=Tryz.func163.trans (congrArg some (by kernel_rfl))
 f205:=Tryz.func211.trans (congrArg some (by kernel_rfl))
 f243:=Tryz.func188.trans (congrArg some (by kernel_rfl))
 f244:=Tryz.func185.trans (congrArg some (by kernel_rfl))
 f245:=Tryz.func186.trans (congrArg some (by kernel_rfl))
 f246:=Tryz.func204.trans (congrArg some (by kernel_rfl))
 f247:=Tryz.func198.trans (congrArg some (by kernel_rfl))
 f279:=Tryz.func199.trans (congrArg some (by kernel_rfl))
 f280:=Tryz.func200.trans (congrArg some (by kernel_rfl))
 f281:=Tryz.func201.trans (congrArg some (by kernel_rfl))
 f282:=Tryz.func202.trans (congrArg some (by kernel_rfl))
 f283:=Tryz.func213.trans (congrArg some (by kernel_rfl))
 f284:=Tryz.func214.trans (congrArg some (by kernel_rfl))
 f285:=Tryz.func215.trans (congrArg some (by kernel_rfl))
 f286:=Tryz.func216.trans (congrArg some (by kernel_rfl))
 f287:=Tryz.func209.trans (congrArg some (by kernel_rfl))
 f316:=Tryz.func210.trans (congrArg some (by kernel_rfl))
 f317:=Tryz.func219.trans (congrArg some (by kernel_rfl))
 f318:=Tryz.func220.trans (congrArg some (by kernel_rfl))
 f319:=Tryz.func221.trans (congrArg some (by kernel_rfl))
 f320:=Tryz.func222.trans (congrArg some (by kernel_rfl))
 f321:=Tryz.func217.trans (congrArg some (by kernel_rfl))
 f322:=Tryz.func218.trans (congrArg some (by kernel_rfl))
 f337:=Tryz.func223.trans (congrArg some (by kernel_rfl))
 f338:=Tryz.func224.trans (congrArg some (by kernel_rfl))
 t0:=Tryz.underlying0
 a0:=Tryz.isAgg0
 z0:=Tryz.sizeOf0
 v0:=Tryz.zeroValue0
 t2:=Tryz.underlying2
 a2:=Tryz.isAgg2
 z2:=Tryz.sizeOf2
 v2:=Tryz.zeroValue2
 t3:=Tryz.underlying3
 a3:=Tryz.isAgg3
 z3:=Tryz.sizeOf3
 v3:=Tryz.zeroValue3
 t4:=Tryz.underlying4
 a4:=Tryz.isAgg4
 z4:=Tryz.sizeOf4
 v4:=Tryz.zeroValue4
 t5:=Tryz.underlying5
 a5:=Tryz.isAgg5
 z5:=Tryz.sizeOf5
 v5:=Tryz.zeroValue5
 t9:=Tryz.underlying9
 a9:=Tryz.isAgg9
 z9:=Tryz.sizeOf9
 v9:=Tryz.zeroValue9
 t20:=Tryz.underlying20
 a20:=Tryz.isAgg20
 z20:=Tryz.sizeOf20
 v20:=Tryz.zeroValue20
 t21:=Tryz.underlying21
 a21:=Tryz.isAgg21
 z21:=Tryz.sizeOf21
 v21:=Tryz.zeroValue21
 t37:=Tryz.underlying46
 a37:=Tryz.isAgg46
 z37:=Tryz.sizeOf46
 v37:=Tryz.zeroValue46
 t46:=Tryz.underlying57
 a46:=Tryz.isAgg57
 z46:=Tryz.sizeOf57
 v46:=Tryz.zeroValue57
 t51:=Tryz.underlying90
 a51:=Tryz.isAgg90
 z51:=Tryz.sizeOf90
 v51:=Tryz.zeroValue90
 t53:=Tryz.underlying22
 a53:=Tryz.isAgg22
 z53:=Tryz.sizeOf22
 v53:=Tryz.zeroValue22
 t75:=Tryz.underlying162
 a75:=Tryz.isAgg162
 z75:=Tryz.sizeOf162
 v75:=Tryz.zeroValue162
 t76:=Tryz.underlying164
 a76:=Tryz.isAgg164
 z76:=Tryz.sizeOf164
 v76:=Tryz.zeroValue164
 t85:=Tryz.underlying235
 a85:=Tryz.isAgg235
 z85:=Tryz.sizeOf235
 v85:=Tryz.zeroValue235
 t127:=Tryz.underlying166
 a127:=Tryz.isAgg166
 z127:=Tryz.sizeOf166
 v127:=Tryz.zeroValue166
 t143:=Tryz.underlying260
 a143:=Tryz.isAgg260
 z143:=Tryz.sizeOf260
 v143:=Tryz.zeroValue260
 t145:=Tryz.underlying262
 a145:=Tryz.isAgg262
 z145:=Tryz.sizeOf262
 v145:=Tryz.zeroValue262
 t167:=Tryz.underlying234
 a167:=Tryz.isAgg234
 z167:=Tryz.sizeOf234
 v167:=Tryz.zeroValue234
 t168:=Tryz.underlying237
 a168:=Tryz.isAgg237
 z168:=Tryz.sizeOf237
 v168:=Tryz.zeroValue237
 t171:=Tryz.underlying255
 a171:=Tryz.isAgg255
 z171:=Tryz.sizeOf255
 v171:=Tryz.zeroValue255
 t173:=Tryz.underlying257
 a173:=Tryz.isAgg257
 z173:=Tryz.sizeOf257
 v173:=Tryz.zeroValue257
 t175:=Tryz.underlying248
 a175:=Tryz.isAgg248
 z175:=Tryz.sizeOf248
 v175:=Tryz.zeroValue248
 t210:=Tryz.underlying252
 a210:=Tryz.isAgg252
 z210:=Tryz.sizeOf252
 v210:=Tryz.zeroValue252
 t212:=Tryz.underlying264
 a212:=Tryz.isAgg264
 z212:=Tryz.sizeOf264
 v212:=Tryz.zeroValue264
 t213:=Tryz.underlying265
 a213:=Tryz.isAgg265
 z213:=Tryz.sizeOf265
 t232:=Tryz.underlying266
 a232:=Tryz.isAgg266
 z232:=Tryz.sizeOf266
 v232:=Tryz.zeroValue266
 t233:=Tryz.underlying267
 a233:=Tryz.isAgg267
 z233:=Tryz.sizeOf267
 v233:=Tryz.zeroValue267
 g15:=by kernel_rfl
 g16:=by kernel_rfl
 g17:=by kernel_rfl
 g18:=by kernel_rfl
 g19:=by kernel_rfl}
open Go.RowKit in
theorem Tryz.strconv_Atoi(s:ByteArray)(n:Int)(hl:s.size≤18)(h:Lib.atoi s.data.toList=some n)(w:World):
 Calls Tryz.prog 163 #[.string s] w fun e w'=>e= .returned (.tuple #[.int .i64 n,.nilIface])∧∃t,w'=Lib.bytesWorld w 5 t:=Any.strconv_Atoi Tryz.lays172 s n hl h w
def Tryz.lays145_ren:Go.Shelf.Ren:=⟨fun|145=>107|220=>153|219=>180|217=>191|225=>192|224=>193|267=>194|266=>205|314=>206|n=>n,fun|9=>9|4=>4|59=>168|3=>3|5=>5|46=>57|146=>245|51=>90|n=>n,fun|1=>0|n=>n⟩
theorem Tryz.lays145:Go.Proofs.Lays.n145 Tryz.prog Tryz.lays145_ren:= {
 mixed:=by kernel_rfl
 f145:=Tryz.func107.trans (congrArg some (by kernel_rfl))
 f217:=Tryz.func191.trans (congrArg some (by kernel_rfl))
 f219:=Tryz.func180.trans (congrArg some (by kernel_rfl))
 f220:=Tryz.func153.trans (congrArg some (by kernel_rfl))
 f224:=Tryz.func193.trans (congrArg some (by kernel_rfl))
 f225:=Tryz.func192.trans (congrArg some (by kernel_rfl))
 f266:=Tryz.func205.trans (congrArg some (by kernel_rfl))
 f267:=Tryz.func194.trans (congrArg some (by kernel_rfl))
 f314:=Tryz.func206.trans (congrArg some (by kernel_rfl))
 t3:=Tryz.underlying3
 a3:=Tryz.isAgg3
 z3:=Tryz.sizeOf3
 v3:=Tryz.zeroValue3
 t4:=Tryz.underlying4
 a4:=Tryz.isAgg4
 z4:=Tryz.sizeOf4
 v4:=Tryz.zeroValue4
 t5:=Tryz.underlying5
 a5:=Tryz.isAgg5
 z5:=Tryz.sizeOf5
 v5:=Tryz.zeroValue5
 t9:=Tryz.underlying9
 a9:=Tryz.isAgg9
 z9:=Tryz.sizeOf9
 v9:=Tryz.zeroValue9
 t46:=Tryz.underlying57
 a46:=Tryz.isAgg57
 z46:=Tryz.sizeOf57
 v46:=Tryz.zeroValue57
 t51:=Tryz.underlying90
 a51:=Tryz.isAgg90
 z51:=Tryz.sizeOf90
 v51:=Tryz.zeroValue90
 t59:=Tryz.underlying168
 a59:=Tryz.isAgg168
 z59:=Tryz.sizeOf168
 v59:=Tryz.zeroValue168
 t146:=Tryz.underlying245
 a146:=Tryz.isAgg245
 z146:=Tryz.sizeOf245
 v146:=Tryz.zeroValue245
 g1:=by kernel_rfl}
open Go.RowKit Go.Lib in
theorem Tryz.strings_Cut(s sep:ByteArray)(m:Int)(w:World)(hs:s.size<4294967281)(hm:w.cell? ⟨0,0,none⟩=some (.int .i64 m)):
 Calls Tryz.prog 107 #[.string s,.string sep] w fun e w'=>e= .returned (.tuple #[.string ⟨(Lib.cut s.data.toList sep.data.toList).1.toArray⟩,.string ⟨(Lib.cut s.data.toList sep.data.toList).2.1.toArray⟩,.bool (Lib.cut s.data.toList sep.data.toList).2.2])∧∃n,w'=w.drewN n:=Any.strings_Cut Tryz.lays145 s sep m w hs hm
def Tryz.lays146_ren:Go.Shelf.Ren:=⟨fun|146=>79|221=>106|268=>150|138=>151|143=>152|195=>177|197=>178|218=>179|219=>180|260=>190|217=>191|225=>192|224=>193|267=>194|266=>205|314=>206|n=>n,fun|9=>9|31=>96|3=>3|4=>4|0=>0|105=>224|21=>21|5=>5|46=>57|119=>241|139=>244|138=>243|146=>245|51=>90|n=>n,fun|1=>0|3=>1|4=>2|n=>n⟩
theorem Tryz.lays146:Go.Proofs.Lays.n146 Tryz.prog Tryz.lays146_ren:= {
 mixed:=by kernel_rfl
 f138:=Tryz.func151.trans (congrArg some (by kernel_rfl))
 f143:=Tryz.func152.trans (congrArg some (by kernel_rfl))
 f146:=Tryz.func79.trans (congrArg some (by kernel_rfl))
 f195:=Tryz.func177.trans (congrArg some (by kernel_rfl))
 f197:=Tryz.func178.trans (congrArg some (by kernel_rfl))
 f217:=Tryz.func191.trans (congrArg some (by kernel_rfl))
 f218:=Tryz.func179.trans (congrArg some (by kernel_rfl))
 f219:=Tryz.func180.trans (congrArg some (by kernel_rfl))
 f221:=Tryz.func106.trans (congrArg some (by kernel_rfl))
 f224:=Tryz.func193.trans (congrArg some (by kernel_rfl))
 f225:=Tryz.func192.trans (congrArg some (by kernel_rfl))
 f260:=Tryz.func190.trans (congrArg some (by kernel_rfl))
 f266:=Tryz.func205.trans (congrArg some (by kernel_rfl))
 f267:=Tryz.func194.trans (congrArg some (by kernel_rfl))
 f268:=Tryz.func150.trans (congrArg some (by kernel_rfl))
 f314:=Tryz.func206.trans (congrArg some (by kernel_rfl))
 t0:=Tryz.underlying0
 a0:=Tryz.isAgg0
 z0:=Tryz.sizeOf0
 v0:=Tryz.zeroValue0
 t3:=Tryz.underlying3
 a3:=Tryz.isAgg3
 z3:=Tryz.sizeOf3
 v3:=Tryz.zeroValue3
 t4:=Tryz.underlying4
 a4:=Tryz.isAgg4
 z4:=Tryz.sizeOf4
 v4:=Tryz.zeroValue4
 t5:=Tryz.underlying5
 a5:=Tryz.isAgg5
 z5:=Tryz.sizeOf5
 v5:=Tryz.zeroValue5
 t9:=Tryz.underlying9
 a9:=Tryz.isAgg9
 z9:=Tryz.sizeOf9
 v9:=Tryz.zeroValue9
 t21:=Tryz.underlying21
 a21:=Tryz.isAgg21
 z21:=Tryz.sizeOf21
 v21:=Tryz.zeroValue21
 t31:=Tryz.underlying96
 a31:=Tryz.isAgg96
 z31:=Tryz.sizeOf96
 v31:=Tryz.zeroValue96
 t46:=Tryz.underlying57
 a46:=Tryz.isAgg57
 z46:=Tryz.sizeOf57
 v46:=Tryz.zeroValue57
 t51:=Tryz.underlying90
 a51:=Tryz.isAgg90
 z51:=Tryz.sizeOf90
 v51:=Tryz.zeroValue90
 t105:=Tryz.underlying224
 a105:=Tryz.isAgg224
 z105:=Tryz.sizeOf224
 v105:=Tryz.zeroValue224
 t119:=Tryz.underlying241
 a119:=Tryz.isAgg241
 z119:=Tryz.sizeOf241
 t138:=Tryz.underlying243
 a138:=Tryz.isAgg243
 z138:=Tryz.sizeOf243
 v138:=Tryz.zeroValue243
 t139:=Tryz.underlying244
 a139:=Tryz.isAgg244
 z139:=Tryz.sizeOf244
 v139:=Tryz.zeroValue244
 t146:=Tryz.underlying245
 a146:=Tryz.isAgg245
 z146:=Tryz.sizeOf245
 v146:=Tryz.zeroValue245
 g1:=by kernel_rfl
 g3:=by kernel_rfl
 g4:=by kernel_rfl}
open Go.RowKit Go.Lib in
theorem Tryz.strings_Split(s sep:ByteArray)(m:Int)(w:World)(hs:s.size<4294967281)(hm:w.cell? ⟨0,0,none⟩=some (.int .i64 m))(h1:1≤sep.size):
 Calls Tryz.prog 79 #[.string s,.string sep] w fun e w'=>
  e= .returned (.slice (some ⟨w.heap.size,0,none⟩) (Lib.countB s sep+1) (Lib.countB s sep+1))∧w'=w.alloc (.cells ((Lib.splitB sep 0 (Lib.countB s sep) s).map Value.string).toArray 9):=Any.strings_Split Tryz.lays146 (by kernel_rfl) s sep m w hs hm h1
end Go.Proofs
