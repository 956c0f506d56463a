/- A part of the proofs of this seat's laws: steps on the way, joined. It has no conditions of its own. -/
import Derived.Test.YtbmecnjmbhokgaaGreatDoorQe
import Derived.Test.YtbmecnjmbhokgaaGreatDoorChecked
import Derived.KernelRfl
import Derived.Test.YtbmecnjmbhokgaaGreatDoorQf
import Derived.Lib.Builder
import Derived.Lib.UnsafeStr
import Derived.Lib.Walk
import Derived.WalkKit
import Derived.Laws.Externs
import Derived.Shelf.Strings.Builder1
import Derived.Shelf.Strings.Builder2
import Derived.Shelf.Strings.Trim
import Derived.Shelf.Small.Utf8
import Derived.Shelf.Small.Strs
import Derived.Shelf.Small.Wraps
import Derived.Shelf.Strconv.Atoi
import Derived.Shelf.Strconv.Itoa0
import Derived.Shelf.Strconv.Itoa1
import Derived.Shelf.LaysM
import Derived.Shelf.Strconv.Itoa2
import Derived.Shelf.Strconv.Itoa3
import Derived.Shelf.Strings.Search1
import Derived.Shelf.Strings.Search2
import Derived.Shelf.Strings.Search3
import Derived.Shelf.Strings.Cut
import Derived.Shelf.Strings.Count
import Derived.Shelf.Strings.Shaped
import Derived.Shelf.Sort.Plain
import Derived.Shelf.Strings.Prefix
import Derived.Shelf.Strings.Split
import Derived.Shelf.Strings.Replace
import Derived.Shelf.Strings.Runes
import Derived.Shelf.Strings.AsciiSet
import Derived.Shelf.Unicode.DecodeSlow
import Derived.Shelf.Slices.In.SortNone
import Derived.Test.YtbmecnjmbhokgaaGreatDoorProg
import Derived.Lib.AppendIntMem
namespace Go.Proofs.YtbmecnjmbhokgaaGreatDoor
open Vc
namespace Xe
abbrev r0:List In:=[i1 14 (.alloc 52 [.int .i64 0,.int .i64 0,.raw (.slice none 0 0),.int .i64 0,.int .i64 0,.int .i64 0,.int .i64 0,.int .i64 0,.int .i64 0,.int .i64 0,.int .i64 0,.int .i64 0,.int .i64 0,.bool false,.bool false,.bool false,.bool false,.int .i64 0,.raw (.slice none 0 0)]),
i1 15 (.mv (.k (.a (.raw (.slice none 0 0))))),
i1 16 (.mv (kB false))]
abbrev r1:List In:=[i1 25 (.call 42 []),
i1 26 (.build [.str [],.int .i64 0,.int .i64 0,.int .i64 0,.int .i64 0,.str []] [(0,1,(.k (.a (.str [109,97,105,110]))))]),
i1 27 (.build [.int .i64 0,.int .i64 0,.int .i64 0,.int .i64 0] [(0,1,(kI 26))]),
mv 28 0,
i1 29 (.build [.str [],.int .i64 0,.int .i64 0,.int .i64 0,.int .i64 0,.str []] [(1,4,(.t 27)),(5,1,(.t 28))]),
i1 30 (.build [.int .i64 0,.int .i64 0,.int .i64 0,.int .i64 0] [(0,1,(kI 0))]),
i1 31 (.build [.str [],.int .i64 0,.int .i64 0,.int .i64 0,.int .i64 0,.str []] [(1,4,(.t 30))]),
i1 32 (.bsl 72 6 3 [.str [],.int .i64 0,.int .i64 0,.int .i64 0,.int .i64 0,.str [],.str [],.int .i64 0,.int .i64 0,.int .i64 0,.int .i64 0,.str [],.str [],.int .i64 0,.int .i64 0,.int .i64 0,.int .i64 0,.str []] [(0,6,(.t 26)),(6,6,(.t 29)),(12,6,(.t 31))]),
i1 33 (.build [.str [],.raw (.slice none 0 0)] [(1,1,(.t 32))]),
i1 34 (.bsl 75 2 1 [.str [],.raw (.slice none 0 0)] [(0,2,(.t 33))]),
i1 35 (.app 67 75 2 40 (.t 25) (.t 34)),
mv 17 35]
abbrev r2:List In:=[mv 37 17,
i1 38 (.call 43 [.t 37,(.k (.a (.str [109,97,105,110])))]),
mv 36 38,
i1 39 (.ext 0 (.t 36)),
i1 40 (.ext 1 (.t 36)),
i1 18 (.alloc 78 [.raw (.slice none 0 0),.raw (.slice none 0 0),.raw (.slice none 0 0)]),
i1 19 (.alloc 80 [.int .i64 0,.int .i64 0]),
i0 (.store 3 (.t 18) (.t 39)),
i0 (.store 2 (.t 19) (.t 40))]
abbrev r3:List In:=[i1 41 (.mks 3 (.int .i64) 8 (kI 65536) (kI 65536)),
mv 20 41]
abbrev r4:List In:=[mv 42 20,
i1 43 (.len (.t 42)),
i1 44 (.mv (kI 0))]
abbrev r5:List In:=[i1 45 (.bin .lss (.t 44) (.t 43))]
abbrev r6:List In:=[mv 46 44,
mv 21 46]
abbrev r7:List In:=[mv 47 20,
mv 48 21,
mv 49 6,
i1 50 (.iaddr 1 (.t 47) (.t 48)),
i0 (.store 1 (.t 50) (.t 49))]
abbrev r8:List In:=[i1 51 (.bin .add (.t 44) (kI 1)),
mv 44 51]
abbrev r9:List In:=[mv 52 20,
mv 53 3,
i1 54 (.sl 1 (.t 52) (some (.t 53)) none),
mv 55 1,
i1 56 (.cpy 3 1 (.t 54) (.t 55))]
abbrev r10:List In:=[mv 57 20,
mv 58 4,
i1 59 (.sl 1 (.t 57) (some (.t 58)) none),
mv 60 2,
i1 61 (.cpy 3 1 (.t 59) (.t 60))]
abbrev r11:List In:=[mv 62 3,
mv 63 4,
mv 64 6,
mv 65 6,
mv 66 6,
mv 67 6,
mv 68 6,
mv 69 5,
i1 70 (.build [.int .i64 0,.int .i64 0,.int .i64 0,.int .i64 0,.int .i64 0,.int .i64 0,.int .i64 0,.int .i64 0] [(0,1,(.t 62)),(1,1,(.t 63)),(2,1,(.t 64)),(3,1,(.t 65)),(4,1,(.t 66)),(5,1,(.t 67)),(6,1,(.t 68)),(7,1,(.t 69))]),
mv 71 20,
i1 72 (.build [.int .i64 0,.int .i64 0,.int .i64 0,.int .i64 0,.int .i64 0,.int .i64 0,.int .i64 0,.int .i64 0,.bool false,.bool false,.bool false,.bool false,.int .i64 0,.raw (.slice none 0 0)] [(0,8,(.t 70)),(13,1,(.t 71))]),
i1 22 (.alloc 50 [.int .i64 0,.int .i64 0,.int .i64 0,.int .i64 0,.int .i64 0,.int .i64 0,.int .i64 0,.int .i64 0,.bool false,.bool false,.bool false,.bool false,.int .i64 0,.raw (.slice none 0 0)]),
i0 (.store 14 (.t 22) (.t 72))]
abbrev r12:List In:=[i1 74 (.faddr 0 (.t 18)),
i1 75 (.load 1 false (.t 74)),
i1 76 (.load 14 true (.t 22)),
i1 77 (.call 44 [.t 75,.t 76,(.k (.a (.raw (.slice none 0 0)))),kI 1000000]),
mv 73 77,
i1 78 (.ext 0 (.t 73)),
i1 79 (.ext 1 (.t 73)),
i1 23 (.alloc 52 [.int .i64 0,.int .i64 0,.raw (.slice none 0 0),.int .i64 0,.int .i64 0,.int .i64 0,.int .i64 0,.int .i64 0,.int .i64 0,.int .i64 0,.int .i64 0,.int .i64 0,.int .i64 0,.bool false,.bool false,.bool false,.bool false,.int .i64 0,.raw (.slice none 0 0)]),
i0 (.store 19 (.t 23) (.t 78)),
mv 24 79]
abbrev r13:List In:=[i1 80 (.load 19 true (.t 23)),
mv 81 20,
i1 82 (.faddr 0 (.t 19)),
i1 83 (.load 1 false (.t 82)),
i1 84 (.bin .eql (.t 83) (kI 0)),
mv 85 84,
i2 85 true 86 (.mv (.t 24)),
i2 85 true 87 (.bin .eql (.t 86) (kI 0)),
i1 88 (.pick (.t 85) (.t 87) (kB false)),
i0 (.store 19 (.t 14) (.t 80)),
mv 15 81,
mv 16 88]
abbrev code:IC:=.seq (.reg r0) (.seq (.reg r1) (.seq (.reg r2) (.seq (.reg r3) (.seq (.seq (.reg r4) (.block 0 (.loop (.seq (.reg r5) (.seq (.cond (.t 45) .skip (.exit 0)) (.seq (.block 1 (.seq (.reg r6) (.reg r7))) (.reg r8))))))) (.seq (.reg r9) (.seq (.reg r10) (.seq (.reg r11) (.seq (.reg r12) (.seq (.reg r13) .ret)))))))))
abbrev res:List RV:=[.cell 14 19 true,.tmp 15,.tmp 16]
theorem fn:Body Tryz.prog 29 89 code res:=⟨by decide,Tryz.f29,_,Tryz.func29,rfl,rfl,by kernel_rfl,by kernel_rfl⟩
end Xe
namespace Xu
abbrev r0:List In:=[i1 22 (.mv (kB false))]
abbrev r1:List In:=[mv 34 8,
i1 35 (.bin .lss (.t 34) (kI 0)),
mv 36 35,
i2 36 false 37 (.mv (.t 8)),
i2 36 false 38 (.bin .gtr (.t 37) (kI 65535)),
i1 39 (.pick (.t 36) (kB true) (.t 38)),
mv 40 39,
i2 40 false 41 (.mv (.t 7)),
i2 40 false 42 (.bin .lss (.t 41) (kI 64)),
i1 43 (.pick (.t 40) (kB true) (.t 42)),
mv 44 43,
i2 44 false 45 (.mv (.t 7)),
i2 44 false 46 (.bin .gtr (.t 45) (kI 65535)),
i1 47 (.pick (.t 44) (kB true) (.t 46)),
mv 48 47,
i2 48 false 49 (.mv (.t 5)),
i2 48 false 50 (.mv (.t 1)),
i2 48 false 51 (.mv (.t 6)),
i2 48 false 52 (.mv (.t 2)),
i2 48 false 53 (.call 27 [.t 49,.t 50,.t 51,.t 52]),
i2 48 false 54 (.un .not (.t 53)),
i1 55 (.pick (.t 48) (kB true) (.t 54)),
mv 56 55,
i2 56 false 57 (.mv (.t 5)),
i2 56 false 58 (.mv (.t 1)),
i2 56 false 59 (.mv (.t 7)),
i2 56 false 60 (.bin .sub (.t 59) (kI 64)),
i2 56 false 61 (.call 27 [.t 57,.t 58,.t 60,kI 64]),
i2 56 false 62 (.un .not (.t 61)),
i1 63 (.pick (.t 56) (kB true) (.t 62)),
mv 64 63,
i2 64 false 65 (.mv (.t 6)),
i2 64 false 66 (.mv (.t 2)),
i2 64 false 67 (.mv (.t 7)),
i2 64 false 68 (.bin .sub (.t 67) (kI 64)),
i2 64 false 69 (.call 27 [.t 65,.t 66,.t 68,kI 64]),
i2 64 false 70 (.un .not (.t 69)),
i1 71 (.pick (.t 64) (kB true) (.t 70))]
abbrev r2:List In:=[i1 22 (.mv (kB true))]
abbrev r3:List In:=[mv 73 3,
mv 74 1,
i1 75 (.bin .mul (kI 16) (.t 74)),
i1 76 (.call 28 [.t 73,.t 75]),
mv 72 76,
i1 77 (.ext 0 (.t 72)),
i1 78 (.ext 1 (.t 72)),
mv 23 77,
mv 24 78]
abbrev r4:List In:=[mv 80 4,
mv 81 2,
i1 82 (.bin .mul (kI 16) (.t 81)),
i1 83 (.call 28 [.t 80,.t 82]),
mv 79 83,
i1 84 (.ext 0 (.t 79)),
i1 85 (.ext 1 (.t 79)),
mv 25 84,
mv 26 85]
abbrev r5:List In:=[mv 87 0,
mv 88 23,
mv 89 25,
mv 90 5,
mv 91 6,
mv 92 7,
mv 93 8,
i1 94 (.call 29 [.t 87,.t 88,.t 89,.t 90,.t 91,.t 92,.t 93]),
mv 86 94,
i1 95 (.ext 0 (.t 86)),
i1 96 (.ext 1 (.t 86)),
i1 97 (.ext 2 (.t 86)),
i1 27 (.alloc 52 [.int .i64 0,.int .i64 0,.raw (.slice none 0 0),.int .i64 0,.int .i64 0,.int .i64 0,.int .i64 0,.int .i64 0,.int .i64 0,.int .i64 0,.int .i64 0,.int .i64 0,.int .i64 0,.bool false,.bool false,.bool false,.bool false,.int .i64 0,.raw (.slice none 0 0)]),
i0 (.store 19 (.t 27) (.t 95)),
mv 28 96,
mv 29 97]
abbrev r6:List In:=[mv 98 29,
i1 99 (.un .not (.t 98))]
abbrev r7:List In:=[i1 22 (.mv (kB false))]
abbrev r8:List In:=[mv 100 10]
abbrev r9:List In:=[i1 101 (.faddr 0 (.t 27)),
i1 102 (.load 1 false (.t 101)),
i1 103 (.bin .eql (.t 102) (kI 2)),
mv 104 103,
i2 104 true 105 (.faddr 1 (.t 27)),
i2 104 true 106 (.load 1 false (.t 105)),
i2 104 true 107 (.bin .eql (.t 106) (kI 1)),
i1 108 (.pick (.t 104) (.t 107) (kB false)),
mv 22 108]
abbrev r10:List In:=[i1 109 (.faddr 0 (.t 27)),
i1 110 (.load 1 false (.t 109)),
i1 111 (.bin .neq (.t 110) (kI 1)),
mv 112 111,
i2 112 false 113 (.faddr 4 (.t 27)),
i2 112 false 114 (.load 1 false (.t 113)),
i2 112 false 115 (.bin .gtr (.t 114) (kI 20000)),
i1 116 (.pick (.t 112) (kB true) (.t 115)),
mv 117 116,
i2 117 false 118 (.faddr 5 (.t 27)),
i2 117 false 119 (.faddr 0 (.t 118)),
i2 117 false 120 (.iarr 8 1 (.t 119) (kI 7)),
i2 117 false 121 (.load 1 false (.t 120)),
i2 117 false 122 (.mv (.t 7)),
i2 117 false 123 (.bin .neq (.t 121) (.t 122)),
i1 124 (.pick (.t 117) (kB true) (.t 123)),
mv 125 124,
i2 125 false 126 (.faddr 2 (.t 27)),
i2 125 false 127 (.load 1 false (.t 126)),
i2 125 false 128 (.len (.t 127)),
i2 125 false 129 (.bin .neq (.t 128) (kI 0)),
i1 130 (.pick (.t 125) (kB true) (.t 129)),
mv 131 130,
i2 131 false 132 (.faddr 3 (.t 27)),
i2 131 false 133 (.load 1 false (.t 132)),
i2 131 false 134 (.bin .neq (.t 133) (kI 0)),
i1 135 (.pick (.t 131) (kB true) (.t 134))]
abbrev r11:List In:=[i1 22 (.mv (kB false))]
abbrev r12:List In:=[mv 137 9,
mv 138 1,
i1 139 (.bin .mul (kI 16) (.t 138)),
i1 140 (.call 28 [.t 137,.t 139]),
mv 136 140,
i1 141 (.ext 0 (.t 136)),
i1 142 (.ext 1 (.t 136)),
mv 30 141,
mv 31 142]
abbrev r13:List In:=[mv 143 28,
mv 144 5,
i1 145 (.sl 1 (.t 143) (some (.t 144)) none),
mv 146 30,
i1 147 (.cpy 3 1 (.t 145) (.t 146))]
abbrev r14:List In:=[mv 148 28,
i1 149 (.len (.t 148)),
i1 150 (.mv (kI 0))]
abbrev r15:List In:=[i1 151 (.bin .lss (.t 150) (.t 149))]
abbrev r16:List In:=[mv 152 150,
mv 32 152]
abbrev r17:List In:=[i1 33 (.mv (kI 0))]
abbrev r18:List In:=[mv 153 32,
i1 154 (.faddr 5 (.t 27)),
i1 155 (.faddr 13 (.t 154)),
i1 156 (.load 1 false (.t 155)),
i1 157 (.len (.t 156)),
i1 158 (.bin .lss (.t 153) (.t 157))]
abbrev r19:List In:=[i1 159 (.faddr 5 (.t 27)),
i1 160 (.faddr 13 (.t 159)),
i1 161 (.load 1 false (.t 160)),
mv 162 32,
i1 163 (.iaddr 1 (.t 161) (.t 162)),
i1 164 (.load 1 false (.t 163)),
mv 33 164]
abbrev r20:List In:=[mv 165 33,
mv 166 28,
mv 167 32,
i1 168 (.iaddr 1 (.t 166) (.t 167)),
i1 169 (.load 1 false (.t 168)),
i1 170 (.bin .neq (.t 165) (.t 169)),
mv 171 170,
i2 171 true 172 (.mv (.t 32)),
i2 171 true 173 (.mv (.t 7)),
i2 171 true 174 (.bin .sub (.t 173) (kI 64)),
i2 171 true 175 (.bin .lss (.t 172) (.t 174)),
i2 171 true 176 (.mv (.t 175)),
i2 176 false 177 (.mv (.t 32)),
i2 176 false 178 (.mv (.t 7)),
i2 176 false 179 (.bin .geq (.t 177) (.t 178)),
i2 171 true 180 (.pick (.t 176) (kB true) (.t 179)),
i1 181 (.pick (.t 171) (.t 180) (kB false))]
abbrev r21:List In:=[i1 22 (.mv (kB false))]
abbrev r22:List In:=[i1 182 (.bin .add (.t 150) (kI 1)),
mv 150 182]
abbrev r23:List In:=[i1 22 (.mv (kB true))]
abbrev code:IC:=.seq (.reg r0) (.seq (.seq (.reg r1) (.cond (.t 71) (.seq (.reg r2) .ret) .skip)) (.seq (.reg r3) (.seq (.reg r4) (.seq (.reg r5) (.seq (.seq (.reg r6) (.cond (.t 99) (.seq (.reg r7) .ret) .skip)) (.seq (.seq (.reg r8) (.cond (.t 100) (.seq (.reg r9) .ret) .skip)) (.seq (.seq (.reg r10) (.cond (.t 135) (.seq (.reg r11) .ret) .skip)) (.seq (.reg r12) (.seq (.reg r13) (.seq (.seq (.reg r14) (.block 0 (.loop (.seq (.reg r15) (.seq (.cond (.t 151) .skip (.exit 0)) (.seq (.block 1 (.seq (.reg r16) (.seq (.reg r17) (.seq (.seq (.reg r18) (.cond (.t 158) (.reg r19) .skip)) (.seq (.reg r20) (.cond (.t 181) (.seq (.reg r21) .ret) .skip)))))) (.reg r22))))))) (.seq (.reg r23) .ret)))))))))))
abbrev res:List RV:=[.tmp 22]
theorem fn:Body Tryz.prog 16 183 code res:=⟨by decide,Tryz.f16,_,Tryz.func16,rfl,rfl,by kernel_rfl,by kernel_rfl⟩
end Xu
namespace U0
abbrev r0:List In:=[i1 8 (.mv (kB false))]
abbrev r1:List In:=[mv 9 0,
i1 10 (.bin .geq (.t 9) (kI 0)),
mv 11 10,
i2 11 true 12 (.mv (.t 2)),
i2 11 true 13 (.bin .geq (.t 12) (kI 0)),
i1 14 (.pick (.t 11) (.t 13) (kB false)),
mv 15 14,
i2 15 true 16 (.mv (.t 0)),
i2 15 true 17 (.mv (.t 1)),
i2 15 true 18 (.bin .sub (kI 65536) (.t 17)),
i2 15 true 19 (.bin .leq (.t 16) (.t 18)),
i1 20 (.pick (.t 15) (.t 19) (kB false)),
mv 21 20,
i2 21 true 22 (.mv (.t 2)),
i2 21 true 23 (.mv (.t 3)),
i2 21 true 24 (.bin .sub (kI 65536) (.t 23)),
i2 21 true 25 (.bin .leq (.t 22) (.t 24)),
i1 26 (.pick (.t 21) (.t 25) (kB false)),
mv 27 26,
i2 27 true 28 (.mv (.t 0)),
i2 27 true 29 (.mv (.t 1)),
i2 27 true 30 (.bin .add (.t 28) (.t 29)),
i2 27 true 31 (.mv (.t 2)),
i2 27 true 32 (.bin .leq (.t 30) (.t 31)),
i2 27 true 33 (.mv (.t 32)),
i2 33 false 34 (.mv (.t 2)),
i2 33 false 35 (.mv (.t 3)),
i2 33 false 36 (.bin .add (.t 34) (.t 35)),
i2 33 false 37 (.mv (.t 0)),
i2 33 false 38 (.bin .leq (.t 36) (.t 37)),
i2 27 true 39 (.pick (.t 33) (kB true) (.t 38)),
i1 40 (.pick (.t 27) (.t 39) (kB false)),
mv 8 40]
abbrev code:IC:=.seq (.reg r0) (.seq (.reg r1) .ret)
abbrev res:List RV:=[.tmp 8]
theorem fn:Body Tryz.prog 27 41 code res:=⟨by decide,Tryz.f27,_,Tryz.func27,rfl,rfl,by kernel_rfl,by kernel_rfl⟩
end U0
namespace Y7
abbrev r0:List In:=[i1 10 (.mv (.k (.a (.int .u64 0)))),
i1 11 (.mv (kI 0))]
abbrev r1:List In:=[mv 16 3,
i1 17 (.call 17 [.t 16]),
i1 18 (.un .not (.t 17))]
abbrev r2:List In:=[i1 10 (.mv (.k (.a (.int .u64 0)))),
i1 11 (.mv (kI 1))]
abbrev r3:List In:=[mv 19 1,
mv 20 3,
mv 21 4,
i1 22 (.call 18 [.t 19,.t 20,.t 21]),
mv 23 2,
mv 24 3,
mv 25 4,
i1 26 (.call 18 [.t 23,.t 24,.t 25]),
mv 12 22,
mv 13 26]
abbrev r4:List In:=[i1 27 (.alloc 33 [.bool false,.raw (.slice none 0 0)]),
mv 14 27]
abbrev r5:List In:=[mv 28 0]
abbrev r6:List In:=[i1 30 (.bin .eql (.t 28) (.k (.a (.int .u8 43)))),
mv 29 30]
abbrev r7:List In:=[mv 31 14,
mv 32 12,
mv 33 13,
i1 34 (.call 19 [.t 31,.t 32,.t 33])]
abbrev r8:List In:=[i1 36 (.bin .eql (.t 28) (.k (.a (.int .u8 45)))),
mv 35 36]
abbrev r9:List In:=[mv 37 14,
mv 38 12,
mv 39 13,
i1 40 (.call 20 [.t 37,.t 38,.t 39])]
abbrev r10:List In:=[i1 42 (.bin .eql (.t 28) (.k (.a (.int .u8 42)))),
mv 41 42]
abbrev r11:List In:=[mv 43 14,
mv 44 12,
mv 45 13,
i1 46 (.call 21 [.t 43,.t 44,.t 45])]
abbrev r12:List In:=[i1 48 (.bin .eql (.t 28) (.k (.a (.int .u8 47)))),
mv 47 48]
abbrev r13:List In:=[i1 49 (.bin .eql (.t 28) (.k (.a (.int .u8 37)))),
mv 47 49]
abbrev r14:List In:=[mv 50 13,
i1 51 (.call 22 [.t 50]),
i1 52 (.bin .eql (.t 51) (kI 0))]
abbrev r15:List In:=[i1 10 (.mv (.k (.a (.int .u64 0)))),
i1 11 (.mv (kI 10))]
abbrev r16:List In:=[i1 53 (.alloc 33 [.bool false,.raw (.slice none 0 0)]),
mv 15 53]
abbrev r17:List In:=[mv 54 14,
mv 55 12,
mv 56 13,
mv 57 15,
i1 58 (.call 23 [.t 54,.t 55,.t 56,.t 57])]
abbrev r18:List In:=[mv 59 0,
i1 60 (.bin .eql (.t 59) (.k (.a (.int .u8 37))))]
abbrev r19:List In:=[mv 61 15,
mv 14 61]
abbrev r20:List In:=[i1 63 (.bin .eql (.t 28) (.k (.a (.int .u8 60)))),
mv 62 63]
abbrev r21:List In:=[mv 64 12,
mv 65 13,
i1 66 (.call 24 [.t 64,.t 65]),
i1 67 (.bin .lss (.t 66) (kI 0))]
abbrev r22:List In:=[mv 68 14,
i1 69 (.call 25 [.t 68,kI 1])]
abbrev r23:List In:=[mv 70 14,
mv 71 3,
i1 72 (.call 26 [.t 70,.t 71]),
mv 10 72,
i1 11 (.mv (kI 0))]
abbrev code:IC:=.seq (.reg r0) (.seq (.seq (.reg r1) (.cond (.t 18) (.seq (.reg r2) .ret) .skip)) (.seq (.reg r3) (.seq (.reg r4) (.seq (.seq (.reg r5) (.block 0 (.seq (.reg r6) (.cond (.t 29) (.reg r7) (.seq (.reg r8) (.cond (.t 35) (.reg r9) (.seq (.reg r10) (.cond (.t 41) (.reg r11) (.seq (.seq (.reg r12) (.cond (.t 47) .skip (.reg r13))) (.cond (.t 47) (.seq (.seq (.reg r14) (.cond (.t 52) (.seq (.reg r15) .ret) .skip)) (.seq (.reg r16) (.seq (.reg r17) (.seq (.reg r18) (.cond (.t 60) (.reg r19) .skip))))) (.seq (.reg r20) (.cond (.t 62) (.seq (.reg r21) (.cond (.t 67) (.reg r22) .skip)) .skip)))))))))))) (.seq (.reg r23) .ret)))))
abbrev res:List RV:=[.tmp 10,.tmp 11]
theorem fn:Body Tryz.prog 15 73 code res:=⟨by decide,Tryz.f15,_,Tryz.func15,rfl,rfl,by kernel_rfl,by kernel_rfl⟩
end Y7
namespace U3
abbrev r0:List In:=[i1 2 (.mv (kB false))]
abbrev r1:List In:=[i1 5 (.bsl 3 1 4 [.int .i64 0,.int .i64 0,.int .i64 0,.int .i64 0] [(0,1,(kI 8)),(1,1,(kI 16)),(2,1,(kI 32)),(3,1,(kI 64))]),
i1 6 (.len (.t 5)),
i1 7 (.mv (kI 0))]
abbrev r2:List In:=[i1 8 (.bin .lss (.t 7) (.t 6))]
abbrev r3:List In:=[i1 9 (.iaddr 1 (.t 5) (.t 7)),
i1 10 (.load 1 false (.t 9)),
mv 4 10]
abbrev r4:List In:=[mv 11 0,
mv 12 4,
i1 13 (.bin .eql (.t 11) (.t 12))]
abbrev r5:List In:=[i1 2 (.mv (kB true))]
abbrev r6:List In:=[i1 14 (.bin .add (.t 7) (kI 1)),
mv 7 14]
abbrev r7:List In:=[i1 2 (.mv (kB false))]
abbrev code:IC:=.seq (.reg r0) (.seq (.seq (.reg r1) (.block 0 (.loop (.seq (.reg r2) (.seq (.cond (.t 8) .skip (.exit 0)) (.seq (.block 1 (.seq (.reg r3) (.seq (.reg r4) (.cond (.t 13) (.seq (.reg r5) .ret) .skip)))) (.reg r6))))))) (.seq (.reg r7) .ret))
abbrev res:List RV:=[.tmp 2]
theorem fn:Body Tryz.prog 17 15 code res:=⟨by decide,Tryz.f17,_,Tryz.func17,rfl,rfl,by kernel_rfl,by kernel_rfl⟩
end U3
namespace Ws
abbrev r0:List In:=[i1 6 (.mv (.k (.a (.raw (.pointer none)))))]
abbrev r1:List In:=[mv 8 0,
i1 9 (.call 30 [.t 8]),
mv 10 1,
i1 11 (.call 26 [.t 9,.t 10]),
i1 12 (.call 30 [.t 11]),
mv 7 12]
abbrev r2:List In:=[mv 13 2,
mv 14 13,
i2 14 true 15 (.mv (.t 7)),
i2 14 true 16 (.mv (.t 1)),
i2 14 true 17 (.bin .sub (.t 16) (kI 1)),
i2 14 true 18 (.call 31 [.t 17]),
i2 14 true 19 (.call 24 [.t 15,.t 18]),
i2 14 true 20 (.bin .geq (.t 19) (kI 0)),
i1 21 (.pick (.t 14) (.t 20) (kB false))]
abbrev r3:List In:=[mv 22 7,
mv 23 7,
mv 24 1,
i1 25 (.call 31 [.t 24]),
i1 26 (.call 20 [.t 22,.t 23,.t 25])]
abbrev r4:List In:=[mv 27 7,
mv 6 27]
abbrev code:IC:=.seq (.reg r0) (.seq (.reg r1) (.seq (.seq (.reg r2) (.cond (.t 21) (.reg r3) .skip)) (.seq (.reg r4) .ret)))
abbrev res:List RV:=[.tmp 6]
theorem fn:Body Tryz.prog 18 28 code res:=⟨by decide,Tryz.f18,_,Tryz.func18,rfl,rfl,by kernel_rfl,by kernel_rfl⟩
end Ws
namespace Vn
abbrev r0:List In:=[i1 4 (.mv (.k (.a (.int .u64 0))))]
abbrev r1:List In:=[i1 5 (.alloc 33 [.bool false,.raw (.slice none 0 0)]),
mv 6 0,
mv 7 1,
i1 8 (.call 31 [.t 7]),
i1 9 (.call 38 [.t 5,.t 6,.t 8]),
i1 10 (.call 39 [.t 9]),
mv 4 10]
abbrev code:IC:=.seq (.reg r0) (.seq (.reg r1) .ret)
abbrev res:List RV:=[.tmp 4]
theorem fn:Body Tryz.prog 26 11 code res:=⟨by decide,Tryz.f26,_,Tryz.func26,rfl,rfl,by kernel_rfl,by kernel_rfl⟩
end Vn
namespace U1
abbrev r0:List In:=[i1 4 (.mv (.k (.a (.raw (.slice none 0 0))))),
i1 5 (.mv (kI 0))]
abbrev r1:List In:=[mv 10 1,
i1 11 (.call 17 [.t 10]),
i1 12 (.un .not (.t 11))]
abbrev r2:List In:=[i1 4 (.mv (.k (.a (.raw (.slice none 0 0))))),
i1 5 (.mv (kI 1))]
abbrev r3:List In:=[mv 13 0,
i1 14 (.call 30 [.t 13]),
mv 15 1,
i1 16 (.call 26 [.t 14,.t 15]),
i1 17 (.call 30 [.t 16]),
mv 6 17]
abbrev r4:List In:=[i1 7 (.mv (.k (.a (.raw (.slice none 0 0)))))]
abbrev r5:List In:=[i1 8 (.mv (kI 0))]
abbrev r6:List In:=[mv 18 8,
i1 19 (.bin .eql (.t 18) (kI 0)),
mv 20 19,
i2 20 false 21 (.mv (.t 8)),
i2 20 false 22 (.mv (.t 1)),
i2 20 false 23 (.bin .quo (.t 22) (kI 16)),
i2 20 false 24 (.bin .lss (.t 21) (.t 23)),
i1 25 (.pick (.t 20) (kB true) (.t 24))]
abbrev r7:List In:=[i1 28 (.alloc 33 [.bool false,.raw (.slice none 0 0)]),
mv 9 28]
abbrev r8:List In:=[mv 29 6,
mv 30 6,
i1 31 (.call 31 [kI 16]),
mv 32 9,
i1 33 (.call 40 [.t 29,.t 30,.t 31,.t 32])]
abbrev r9:List In:=[mv 34 7,
mv 35 9,
i1 36 (.call 41 [.t 35]),
i1 37 (.bsl 3 1 1 [.int .i64 0] [(0,1,(.t 36))]),
i1 38 (.app 42 3 1 8 (.t 34) (.t 37)),
mv 7 38]
abbrev r10:List In:=[mv 26 8,
i1 27 (.bin .add (.t 26) (kI 1)),
mv 8 27]
abbrev r11:List In:=[mv 39 7,
mv 4 39,
i1 5 (.mv (kI 0))]
abbrev code:IC:=.seq (.reg r0) (.seq (.seq (.reg r1) (.cond (.t 12) (.seq (.reg r2) .ret) .skip)) (.seq (.reg r3) (.seq (.reg r4) (.seq (.seq (.reg r5) (.block 0 (.loop (.seq (.seq (.reg r6) (.cond (.t 25) .skip (.exit 0))) (.seq (.block 1 (.seq (.reg r7) (.seq (.reg r8) (.reg r9)))) (.reg r10)))))) (.seq (.reg r11) .ret)))))
abbrev res:List RV:=[.tmp 4,.tmp 5]
theorem fn:Body Tryz.prog 28 40 code res:=⟨by decide,Tryz.f28,_,Tryz.func28,rfl,rfl,by kernel_rfl,by kernel_rfl⟩
end U1
namespace U2
abbrev r0:List In:=[i1 2 (.mv (.k (.a (.raw (.pointer none)))))]
abbrev r1:List In:=[i1 3 (.alloc 33 [.bool false,.raw (.slice none 0 0)]),
mv 4 0,
i1 5 (.call 45 [.t 3,.t 4]),
mv 2 5]
abbrev code:IC:=.seq (.reg r0) (.seq (.reg r1) .ret)
abbrev res:List RV:=[.tmp 2]
theorem fn:Body Tryz.prog 30 6 code res:=⟨by decide,Tryz.f30,_,Tryz.func30,rfl,rfl,by kernel_rfl,by kernel_rfl⟩
end U2
namespace T4
abbrev r0:List In:=[i1 2 (.mv (.k (.a (.raw (.pointer none)))))]
abbrev r1:List In:=[i1 3 (.alloc 33 [.bool false,.raw (.slice none 0 0)]),
i1 4 (.call 47 [kI 1]),
mv 5 0,
i1 6 (.conv .u64 (.t 5)),
i1 7 (.call 46 [.t 3,.t 4,.t 6]),
mv 2 7]
abbrev code:IC:=.seq (.reg r0) (.seq (.reg r1) .ret)
abbrev res:List RV:=[.tmp 2]
theorem fn:Body Tryz.prog 31 8 code res:=⟨by decide,Tryz.f31,_,Tryz.func31,rfl,rfl,by kernel_rfl,by kernel_rfl⟩
end T4
end Go.Proofs.YtbmecnjmbhokgaaGreatDoor
namespace Go.Proofs.YtbmecnjmbhokgaaGreatDoor
open Go Go.RowKit Vc
set_option linter.unusedVariables false
set_option linter.unusedSimpArgs false
attribute [local irreducible] T Za Zn Ent RdC RwC Yj Zf Zi
theorem Tc(b neg:Bool)(l:List Int):GC Tryz.prog 32 [.a (.loc 0 0),.a (.bool neg),.a (.ref 1)] [(0,.cells 33 [.bool b,.raw (.slice none 0 0)]),(1,.row 87 (.int .u32) l)] 2 [0,1] (.one (.a (.loc 0 0)))
 [(0,.cells 33 [.bool (neg&&decide (0<l.length)),.ref 1]),(1,.row 87 (.int .u32) l)] 2:=by
 refine Wa.fn.gc (by simp) (by simp[Zu,Zw,Zv,Zj,Ze,Vc.S1.okN,At.okN,SV.okN,Res.okN,Res.outOk,Zo,Res.own,Value.oneCell']) fun w X fr=> ?_
 have e:decide ((0:Int)<(l.length:Int))=decide (0<l.length):=by simp
 cases neg
 ·repeat'(first|(first|refine Stp.h ?_)<;>try simp only[Zd,simprocAttr,↓reduceIte,reduceCtorEq,implies_true,Bool.false_and]|(with_reducible first|assumption|refine And.intro ?_ ?_)|(intro h;first|omega|exact tg h ‹_›|exact tg ‹_› h|skip))
 ·repeat'(first|(first|refine Stp.h ?_)<;>try simp only[Zd,simprocAttr,↓reduceIte,reduceCtorEq,implies_true,e,Bool.true_and]|(with_reducible first|assumption|refine And.intro ?_ ?_)|(intro h;first|omega|exact tg h ‹_›|exact tg ‹_› h|skip))
theorem Ip(b neg:Bool)(l o:List Int):GC Tryz.prog 32 [.a (.loc 0 0),.a (.bool neg),.a (.ref 1)] [(0,.cells 33 [.bool b,.ref 2]),(1,.row 87 (.int .u32) l),(2,.row 87 (.int .u32) o)] 3 [0,1] (.one (.a (.loc 0 0)))
 [(0,.cells 33 [.bool (neg&&decide (0<l.length)),.ref 1]),(1,.row 87 (.int .u32) l)] 3:=by
 refine Wa.fn.gc (by simp) (by simp[Zu,Zw,Zv,Zj,Ze,Vc.S1.okN,At.okN,SV.okN,Res.okN,Res.outOk,Zo,Res.own,Value.oneCell']) fun w X fr=> ?_
 have e:decide ((0:Int)<(l.length:Int))=decide (0<l.length):=by simp
 cases neg
 ·repeat'(first|(first|refine Stp.h ?_)<;>try simp only[Zd,simprocAttr,↓reduceIte,reduceCtorEq,implies_true,Bool.false_and]|(with_reducible first|assumption|refine And.intro ?_ ?_)|(intro h;first|omega|exact tg h ‹_›|exact tg ‹_› h|skip))
 ·repeat'(first|(first|refine Stp.h ?_)<;>try simp only[Zd,simprocAttr,↓reduceIte,reduceCtorEq,implies_true,e,Bool.true_and]|(with_reducible first|assumption|refine And.intro ?_ ?_)|(intro h;first|omega|exact tg h ‹_›|exact tg ‹_› h|skip))
theorem Ff(b:Bool)(x:Nat)(hx:x<18446744073709551616):GC Tryz.prog 45 [.a (.loc 0 0),.a (.int .u64 (x:Int))] [(0,.cells 33 [.bool b,.raw (.slice none 0 0)])] 1 [0] (.one (.a (.loc 0 0)))
 [(0,.cells 33 [.bool false,.ref 1]),(1,.row 87 (.int .u32) (wds x))] 2:=by
 have hW:=Le x hx
 have hG:=Tc b false (wds x)
 simp only[Bool.false_and]at hG
 refine Wm.fn.gc (by simp) (by simp[Zu,Zw,Zv,Zj,Ze,Vc.S1.okN,At.okN,SV.okN,Res.okN,Res.outOk,Zo,Res.own,Value.oneCell']) fun w X fr=> ?_
 repeat'(first|(first|refine Stp.h ?_|(refine Za.gc hW ?_ ?_;focus simp[Zb];done)|(refine Za.gc hG ?_ ?_;focus simp[Zb];done))<;>try simp only[Zd,simprocAttr,↓reduceIte,reduceCtorEq,implies_true]|(with_reducible first|assumption|refine And.intro ?_ ?_)|(intro h;first|omega|exact tg h ‹_›|exact tg ‹_› h|skip))
theorem Qm(x:Nat)(hx:x<18446744073709551616):GC Tryz.prog 30 [.a (.int .u64 (x:Int))] [] 0 [] (.one (.a (.loc 0 0)))
 [(0,.cells 33 [.bool false,.ref 1]),(1,.row 87 (.int .u32) (wds x))] 2:=by
 have hS:=Ff false x hx
 refine U2.fn.gc (by simp) (by simp[Zu,Zw,Zv,Zj,Ze,Vc.S1.okN,At.okN,SV.okN,Res.okN,Res.outOk,Zo,Res.own,Value.oneCell']) fun w X fr=> ?_
 repeat'(first|(first|refine Stp.h ?_|(refine Za.gc hS ?_ ?_;focus simp[Zb];done))<;>try simp only[Zd,simprocAttr,↓reduceIte,reduceCtorEq,implies_true]|(with_reducible first|assumption|refine And.intro ?_ ?_)|(intro h;first|omega|exact tg h ‹_›|exact tg ‹_› h|skip))
theorem H2(x:Nat)(hx:x<9223372036854775808):GC Tryz.prog 47 [.a (.int .i64 (x:Int))] [] 0 [] (.one (.a (.loc 0 0)))
 [(0,.cells 33 [.bool false,.ref 1]),(1,.row 87 (.int .u32) (wds x))] 2:=by
 have hW:=Le x (by omega)
 have hG:=Tc false false (wds x)
 simp only[Bool.false_and]at hG
 have w1:IntKind.u64.wrap (x:Int)=x:=by rw[IntWalk.u64_in _ (by omega)]
 have x0:¬(x:Int)<0:=by omega
 have hS:GC Tryz.prog 25 [.a (.loc 0 0),.a (.int .i64 (x:Int))] [(0,.cells 33 [.bool false,.raw (.slice none 0 0)])] 1 [0] (.one (.a (.loc 0 0)))
  [(0,.cells 33 [.bool false,.ref 1]),(1,.row 87 (.int .u32) (wds x))] 2:=by
  refine Ww.fn.gc (by simp) (by simp[Zu,Zw,Zv,Zj,Ze,Vc.S1.okN,At.okN,SV.okN,Res.okN,Res.outOk,Zo,Res.own,Value.oneCell']) fun w X fr=> ?_
  repeat'(first|(first|refine Stp.h ?_|(refine Za.gc hW ?_ ?_;focus simp[Zb];done)|(refine Za.gc hG ?_ ?_;focus simp[Zb];done))<;>try simp only[Zd,simprocAttr,↓reduceIte,reduceCtorEq,implies_true,w1,x0,decide_false]|(with_reducible first|assumption|refine And.intro ?_ ?_)|(intro h;first|omega|exact tg h ‹_›|exact tg ‹_› h|skip))
 refine Uz.fn.gc (by simp) (by simp[Zu,Zw,Zv,Zj,Ze,Vc.S1.okN,At.okN,SV.okN,Res.okN,Res.outOk,Zo,Res.own,Value.oneCell']) fun w X fr=> ?_
 repeat'(first|(first|refine Stp.h ?_|(refine Za.gc hS ?_ ?_;focus simp[Zb];done))<;>try simp only[Zd,simprocAttr,↓reduceIte,reduceCtorEq,implies_true]|(with_reducible first|assumption|refine And.intro ?_ ?_)|(intro h;first|omega|exact tg h ‹_›|exact tg ‹_› h|skip))
theorem Zam(b n:Bool)(l:List Int)(hl:l.length≤1000)(hn:n=(n&&decide (0<l.length))):GC Tryz.prog 57 [.a (.loc 0 0),.a (.loc 1 0)] [(0,.cells 33 [.bool b,.raw (.slice none 0 0)]),(1,.rocells [.bool n,.ref 2]),(2,.ro (.int .u32) l)] 3 [0] (.one (.a (.loc 0 0)))
 [(0,.cells 33 [.bool n,.ref 3]),(3,.row 87 (.int .u32) l)] 4:=by
 have hT:=Zd9 l hl
 have hG:=Tc b n l
 rw[←hn]at hG
 refine Uc.fn.gc (by simp) (by simp[Zu,Zw,Zv,Zj,Ze,Vc.S1.okN,At.okN,SV.okN,Res.okN,Res.outOk,Zo,Res.own,Value.oneCell']) fun w X fr=> ?_
 repeat'(first|(first|refine Stp.h ?_|(refine Za.gc hT ?_ ?_;focus simp[Zb];done)|(refine Za.gc hG ?_ ?_;focus simp[Zb];done))<;>try simp only[Zd,simprocAttr,↓reduceIte,reduceCtorEq,implies_true]|(with_reducible first|assumption|refine And.intro ?_ ?_)|(intro h;first|omega|exact tg h ‹_›|exact tg ‹_› h|skip))
theorem Nu(x:Nat)(hx:x<18446744073709551616)(n:Bool):GC Tryz.prog 39 [.a (.loc 0 0)] [(0,.rocells [.bool n,.ref 1]),(1,.ro (.int .u32) (wds x))] 2 [] (.one (.a (.int .u64 (x:Int)))) [] 2:=by
 refine Vl.fn.gc (by simp) (by simp[Zu,Zw,Zv,Zj,Ze,Vc.S1.okN,At.okN,SV.okN,Res.okN,Res.outOk,Zo,Res.own,Value.oneCell']) fun w X fr=> ?_
 have d0:(Kd.int .u32).dflt=(0:Int):=rfl
 have c1:((1:Nat):Int)=1:=rfl
 have c0:((0:Nat):Int)=0:=rfl
 have c2:((2:Nat):Int)=2:=rfl
 rcases wds_cases x hx with⟨rfl,e⟩|⟨h0,h1,e⟩|⟨h1,e⟩<;>rw[e]
 ·repeat'(first|(first|refine Stp.h ?_)<;>try simp only[Zd,simprocAttr,↓reduceIte,reduceCtorEq,implies_true,List.length_nil,c0]|(with_reducible first|assumption|refine And.intro ?_ ?_)|(intro h;first|omega|exact tg h ‹_›|exact tg ‹_› h|skip))
 ·have w1:IntKind.u64.wrap (x:Int)=x:=by rw[IntWalk.u64_in _ (by omega)]
  repeat'(first|(first|refine Stp.h ?_)<;>try simp only[Zd,simprocAttr,↓reduceIte,reduceCtorEq,implies_true,w1,Int.reduceToNat,List.length_cons,List.length_nil,List.getD_cons_zero,Nat.zero_add,c1,d0]|(with_reducible first|assumption|refine And.intro ?_ ?_)|(intro h;first|omega|exact tg h ‹_›|exact tg ‹_› h|skip))
 ·have hl:((x%4294967296:Nat):Int)<4294967296:=by omega
  have hh:((x/4294967296:Nat):Int)<4294967296:=by omega
  have w1:IntKind.u64.wrap ((x%4294967296:Nat):Int)=((x%4294967296:Nat):Int):=by rw[IntWalk.u64_in _ (by omega)]
  have w2:IntKind.u64.wrap ((x/4294967296:Nat):Int)=((x/4294967296:Nat):Int):=by rw[IntWalk.u64_in _ (by omega)]
  have w3:Po .u64 ((x/4294967296:Nat):Int) 32=((x/4294967296:Nat):Int)*4294967296:=by
   show IntKind.u64.wrap (((x/4294967296:Nat):Int)*2^32)=_
   rw[IntWalk.u64_in _ (by omega)];rfl
  have w4:=or_hi ((x%4294967296:Nat):Int) ((x/4294967296:Nat):Int) ⟨by omega,hl⟩ ⟨by omega,hh⟩
  have w5:((x%4294967296:Nat):Int)+4294967296*((x/4294967296:Nat):Int)=x:=by omega
  rw[w5]at w4
  generalize ((x%4294967296:Nat):Int)=a at*
  generalize ((x/4294967296:Nat):Int)=b at*
  repeat'(first|(first|refine Stp.h ?_)<;>try simp only[Zd,simprocAttr,↓reduceIte,reduceCtorEq,implies_true,w1,w2,w3,w4,Int.reduceToNat,List.length_cons,List.length_nil,List.getD_cons_zero,List.getD_cons_succ,Nat.zero_add,c1,c2,d0]|(with_reducible first|assumption|refine And.intro ?_ ?_)|(intro h;first|omega|exact tg h ‹_›|exact tg ‹_› h|skip))
theorem Zeo(x:Nat)(hx:x<9223372036854775808):GC Tryz.prog 41 [.a (.loc 0 0)] [(0,.rocells [.bool false,.ref 1]),(1,.ro (.int .u32) (wds x))] 2 [] (.one (.a (.int .i64 (x:Int)))) [] 2:=by
 have hU:=Nu x (by omega) false
 have w1:IntKind.i64.wrap (x:Int)=x:=Zm (by omega) (by omega)
 refine Vr.fn.gc (by simp) (by simp[Zu,Zw,Zv,Zj,Ze,Vc.S1.okN,At.okN,SV.okN,Res.okN,Res.outOk,Zo,Res.own,Value.oneCell']) fun w X fr=> ?_
 repeat'(first|(first|refine Stp.h ?_|(refine Za.gc hU ?_ ?_;focus simp[Zb];done))<;>try simp only[Zd,simprocAttr,↓reduceIte,reduceCtorEq,implies_true,w1]|(with_reducible first|assumption|refine And.intro ?_ ?_)|(intro h;first|omega|exact tg h ‹_›|exact tg ‹_› h|skip))
theorem Ef:∀n,nv (List.replicate n 0)=0
 |0=>rfl
 |n+1=>by rw[List.replicate_succ,nv,Ef n];rfl
theorem Ls:∀(l:List Int) (k:Nat) (v:Int),k<l.length→nv (l.set k v)=nv l+p32 k*(v-l.getD k 0)
 | [],k,v,h=>by simp at h
 |a::l,0,v,h=>by simp[nv,p32];omega
 |a::l,k+1,v,h=>by
  have ih:=Ls l k v (by simpa using h)
  rw[List.set_cons_succ,nv,nv,ih,p32,Int.mul_add,Int.mul_assoc]
  have:(a::l).getD (k+1) 0=l.getD k 0:=rfl
  rw[this];omega
theorem E9(n:Nat):wOk (List.replicate n 0):=fun j=>by
 rw[List.getD_eq_getElem?_getD,List.getElem?_replicate];split<;>simp[w32]
theorem Lc{l:List Int}(h:wOk l){k:Nat}{v:Int}(hv:w32 v):wOk (l.set k v):=fun j=>by
 rw[List.getD_eq_getElem?_getD,List.getElem?_set]
 split
 ·split
  ·exact hv
  ·simp[w32]
 ·rw[←List.getD_eq_getElem?_getD];exact h j
theorem Zdx:∀n,p32 n=2^(32*n)
 |0=>rfl
 |n+1=>by rw[p32,Zdx n,show 32*(n+1)=32*n+32 by omega,Int.pow_add,Int.mul_comm];rfl
theorem I5(v:Int)(h:w32 v):orI .u32 0 v=v:=by
 unfold w32 at h
 have e:(BitVec.ofInt 32 0|||BitVec.ofInt 32 v).toNat=v.toNat:=by
  have e0:BitVec.ofInt 32 0=0#32:=rfl
  rw[e0,BitVec.zero_or,BitVec.toNat_ofInt]
  have:((2^32:Nat):Int)=4294967296:=by decide
  rw[this];omega
 show IntKind.u32.wrap ((BitVec.ofInt 32 0|||BitVec.ofInt 32 v).toNat:Nat)=v
 rw[e,IntWalk.u32_in _ (by omega)];omega
set_option maxHeartbeats 4000000 in
theorem Zbc(n:Nat)(hn:n≤64):GC Tryz.prog 55 [.a (.ref 0),.a (.int .u64 (n:Int))] [(0,.ro (.int .u32) [1])] 1 [] (.one (.a (.ref 1))) [(1,.row 87 (.int .u32) (wds (2^n)))] 2:=by
 obtain⟨w,s,hw,hs⟩:∃w s,n=32*w+s∧s<32:=⟨n/32,n%32,by omega,by omega⟩
 have hps:(0:Int)<2^s∧(2:Int)^s<4294967296:=by
  have h1:(2:Nat)^s<2^32:=Nat.pow_lt_pow_right (by decide) hs
  have h2:0<(2:Nat)^s:=Nat.pow_pos (by decide)
  have h3:((2^s:Nat):Int)=(2:Int)^s:=by simp
  omega
 have q1:IntKind.u64.wrap (((n:Nat):Int).tdiv 32)=(w:Int):=by
  rw[Int.tdiv_eq_ediv_of_nonneg (by omega),IntWalk.u64_in _ (by omega)];omega
 have q2:((n:Nat):Int).tmod 32=(s:Int):=by rw[Int.tmod_eq_emod_of_nonneg (by omega)];omega
 have q3:IntKind.i64.wrap (w:Int)=w:=Zm (by omega) (by omega)
 have q4:IntKind.i64.wrap (1+(w:Int))=1+(w:Int):=Zm (by omega) (by omega)
 have q5:IntKind.i64.wrap (1+(w:Int)+1)=(w:Int)+2:=by rw[Zm (by omega) (by omega)];omega
 have q6:((w:Int)+2).toNat=w+2:=by omega
 have q7:(0:Int)≤(w:Int)+2:=by omega
 have q8:(4:Nat)*((w:Int)+2)≤281474976710656:=by omega
 have q9:(w:Int)+2≤4611686018427387904:=by omega
 have d0:(Kd.int .u32).dflt=(0:Int):=rfl
 have c1:((1:Nat):Int)=1:=rfl
 have c2:¬(1:Int)=0:=by decide
 refine T2.fn.gc (by simp) (by simp[Zu,Zw,Zv,Zj,Ze,Vc.S1.okN,At.okN,SV.okN,Res.okN,Res.outOk,Zo,Res.own,Value.oneCell']) fun w' X fr=> ?_
 repeat'(first|(first|refine Stp.h ?_)<;>try simp only[Zd,simprocAttr,↓reduceIte,reduceCtorEq,implies_true,q1,q2,q3,q4,q5,q6,q7,q8,q9,d0,c1,c2,List.length_cons,List.length_nil,Nat.zero_add,ne_eq,not_false_eq_true]|(with_reducible first|assumption|refine And.intro ?_ ?_)|(intro h;first|omega|exact tg h ‹_›|exact tg ‹_› h|skip))
 all_goals first|omega|skip
 have hL0:(List.replicate (w+2) (0:Int)).length=w+2:=by simp
 have g0:(List.replicate (w+2) (0:Int)).getD w 0=0:=by simp[List.getD]
 have g1:(List.replicate (w+2) (0:Int)).getD (w+1) 0=0:=by simp[List.getD]
 have hvz:nv (List.replicate (w+2) (0:Int))=0:=Ef _
 have hoz:wOk (List.replicate (w+2) (0:Int)):=E9 _
 have hV:(2:Int)^n=p32 w*2^s:=by rw[Zdx,hw,Int.pow_add]
 have s1:Po .u64 1 (s:Int)=2^s:=by
  show IntKind.u64.wrap (1*2^min ((s:Int)).toNat IntKind.u64.bits)=_
  have:min ((s:Int)).toNat IntKind.u64.bits=s:=by show min ((s:Int)).toNat 64=s;omega
  rw[this,Int.one_mul,IntWalk.u64_in _ (by omega)]
 have hN:(2^n:Nat)=((2:Int)^n).toNat:=by
  have:((2^n:Nat):Int)=(2:Int)^n:=by simp
  rw[←this,Int.toNat_natCast]
 generalize (2:Int)^s=V at*
 have s2:IntKind.u32.wrap V=V:=by rw[IntWalk.u32_in _ (by omega)]
 have s3:Hz .u64 V 32=0:=by
  show V/2^32=0
  have:(2:Int)^32=4294967296:=by decide
  rw[this];omega
 have s4:IntKind.u32.wrap 0=0:=rfl
 have o1:=I5 V ⟨by omega,by omega⟩
 have o2:=I5 0 ⟨by decide,by decide⟩
 have hL1:nv (((List.replicate (w+2) (0:Int)).set w V).set (w+1) 0)=(2:Int)^n∧wOk (((List.replicate (w+2) (0:Int)).set w V).set (w+1) 0)∧(((List.replicate (w+2) (0:Int)).set w V).set (w+1) 0).length=w+2:=by
  have e1:((List.replicate (w+2) (0:Int)).set w V).getD (w+1) 0=0:=by
   rw[List.getD_eq_getElem?_getD,List.getElem?_set_ne (by omega),←List.getD_eq_getElem?_getD,g1]
  refine⟨?_,Lc (Lc hoz ⟨by omega,by omega⟩) ⟨by decide,by decide⟩,by simp⟩
  rw[Ls _ _ _ (by simp),e1,Ls _ _ _ (by simp),g0,hvz,hV]
  simp
 have g2:((List.replicate (w+2) (0:Int)).set w V).getD (w+1) 0=0:=by
  rw[List.getD_eq_getElem?_getD,List.getElem?_set_ne (by omega),←List.getD_eq_getElem?_getD,g1]
 have hL2:((List.replicate (w+2) (0:Int)).set w V).length=w+2:=by simp
 generalize List.replicate (w+2) (0:Int)=L0 at*
 have hT:=E4 ((L0.set w V).set (w+1) 0) hL1.2.1 (by rw[hL1.2.2];omega)
 rw[hL1.1,←hN]at hT
 have i1:IntKind.i64.wrap (0+(w:Int))=w:=by rw[Zm (by omega) (by omega)];omega
 have i2:((w:Nat):Int).toNat=w:=by omega
 have i3:(0:Int)≤w:=by omega
 have i4:(w:Int)<((w+2:Nat):Int):=by omega
 have i5:w<w+2:=by omega
 have i6:IntKind.i64.wrap ((w:Int)+1)=((w+1:Nat):Int):=Zx (by omega)
 have i7:(((w+1:Nat)):Int).toNat=w+1:=by omega
 have i8:(0:Int)≤((w+1:Nat):Int):=by omega
 have i9:((w+1:Nat):Int)<((w+2:Nat):Int):=by omega
 have i10:w+1<w+2:=by omega
 have i11:IntKind.u64.wrap 1=1:=rfl
 have i12:IntKind.i64.wrap 1=1:=rfl
 have c3:¬(1:Int)<1:=by decide
 have c4:(0:Int)<1:=by decide
 have c5:(0:Int)≤0:=by decide
 refine T.loop (ι:= {y:Nat//y≤1}) (fun y=>⟨[(8,.one (.a (.int .i64 (if y.1=0 then 0 else 1)))),(7,.one (.a (.ref 1))),(6,.one (.a (.int .u64 (s:Int)))),(5,.one (.a (.int .i64 (w:Int)))),(0,.one (.a (.ref 0)))],
  [(1,.row 87 (.int .u32) (if y.1=0 then L0 else(L0.set w V).set (w+1) 0)),(0,.ro (.int .u32) [1])],2⟩) (fun y=>1-y.1) ⟨0,by omega⟩ (Ent.mk1 (id) (by simp[Zy])) ?_
 rintro⟨y,hy⟩
 simp only
 by_cases h0:y=0
 ·subst h0
  simp only[↓reduceIte]
  repeat'(first|(first|refine Stp.h ?_)<;>try simp only[Zd,simprocAttr,↓reduceIte,reduceCtorEq,implies_true,hL0,hL2,s1,s2,s3,s4,o1,o2,g0,g2,i1,i2,i3,i4,i5,i6,i7,i8,i9,i10,i11,i12,c1,c4,c5,d0,List.length_cons,List.length_nil,Nat.zero_add,Int.reduceToNat,List.getD_cons_zero,List.length_set]|(with_reducible first|assumption|refine And.intro ?_ ?_)|(intro h;first|omega|exact tg h ‹_›|exact tg ‹_› h|skip))
  all_goals first|omega|exact⟨⟨1,Nat.le_refl _⟩,(Ent.mk1 (id) (by simp[Zy])),by simp only;omega⟩|skip
 ·obtain rfl:y=1:=by omega
  simp only[Nat.reduceEqDiff,↓reduceIte]
  repeat'(first|(first|refine Stp.h ?_|(refine Za.gc hT ?_ ?_;focus simp[Zb];done))<;>try simp only[Zd,simprocAttr,↓reduceIte,reduceCtorEq,implies_true,c1,c3,List.length_cons,List.length_nil,Nat.zero_add]|(with_reducible first|assumption|refine And.intro ?_ ?_)|(intro h;first|omega|exact tg h ‹_›|exact tg ‹_› h|skip))
  all_goals first|omega|skip
theorem Zee:wds 1=[1]:=by rw[Te (by decide)];rw[show(1:Nat)/4294967296=0 by decide,Yk];rfl
theorem Zeq(n:Nat)(hn:n≤64):GC Tryz.prog 46 [.a (.loc 0 0),.a (.loc 1 0),.a (.int .u64 (n:Int))] [(0,.cells 33 [.bool false,.raw (.slice none 0 0)]),(1,.rocells [.bool false,.ref 2]),(2,.ro (.int .u32) [1])] 3 [0] (.one (.a (.loc 0 0)))
 [(0,.cells 33 [.bool false,.ref 3]),(3,.row 87 (.int .u32) (wds (2^n)))] 4:=by
 have hL:=Zbc n hn
 have hG:=Tc false false (wds (2^n))
 simp only[Bool.false_and]at hG
 refine Ua.fn.gc (by simp) (by simp[Zu,Zw,Zv,Zj,Ze,Vc.S1.okN,At.okN,SV.okN,Res.okN,Res.outOk,Zo,Res.own,Value.oneCell']) fun w X fr=> ?_
 repeat'(first|(first|refine Stp.h ?_|(refine Za.gc hL ?_ ?_;focus simp[Zb];done)|(refine Za.gc hG ?_ ?_;focus simp[Zb];done))<;>try simp only[Zd,simprocAttr,↓reduceIte,reduceCtorEq,implies_true]|(with_reducible first|assumption|refine And.intro ?_ ?_)|(intro h;first|omega|exact tg h ‹_›|exact tg ‹_› h|skip))
theorem Jv(n:Nat)(hn:n≤64):GC Tryz.prog 31 [.a (.int .i64 (n:Int))] [] 0 [] (.one (.a (.loc 0 0)))
 [(0,.cells 33 [.bool false,.ref 1]),(1,.row 87 (.int .u32) (wds (2^n)))] 2:=by
 have hN:=H2 1 (by decide)
 have hL:=Zeq n hn
 rw[Zee]at hN
 have w1:IntKind.u64.wrap (n:Int)=n:=by rw[IntWalk.u64_in _ (by omega)]
 have c1:((1:Nat):Int)=1:=rfl
 rw[c1]at hN
 refine T4.fn.gc (by simp) (by simp[Zu,Zw,Zv,Zj,Ze,Vc.S1.okN,At.okN,SV.okN,Res.okN,Res.outOk,Zo,Res.own,Value.oneCell']) fun w X fr=> ?_
 repeat'(first|(first|refine Stp.h ?_|(refine Za.gc hN ?_ ?_;focus simp[Zb];done)|(refine Za.gc hL ?_ ?_;focus simp[Zb];done))<;>try simp only[Zd,simprocAttr,↓reduceIte,reduceCtorEq,implies_true,w1]|(with_reducible first|assumption|refine And.intro ?_ ?_)|(intro h;first|omega|exact tg h ‹_›|exact tg ‹_› h|skip))
theorem Zaw(x y:Nat)(hx:x<18446744073709551616)(hy:y≠0)(hly:(wds y).length≤1000):GC Tryz.prog 35 [.a (.ref 0),.a (.ref 1)] [(0,.ro (.int .u32) (wds x)),(1,.ro (.int .u32) (wds y))] 2 [] (.tup [.a (.ref 2),.a (.ref 3)])
 [(2,.row 87 (.int .u32) (wds (x/y))),(3,.row 87 (.int .u32) (wds (x%y)))] 4:=by
 have hlx:(wds x).length≤2:=Td 2 x hx
 have hC:=Fr x y (by omega) hly
 have hT:=Zd9 (wds x) (by omega)
 have hl0:¬((wds y).length:Int)=0:=fun e=>hy (Uv.1 (by omega))
 refine Sv.fn.gc (by simp) (by simp[Zu,Zw,Zv,Zj,Ze,Vc.S1.okN,At.okN,SV.okN,Res.okN,Res.outOk,Zo,Res.own,Value.oneCell']) fun w X fr=> ?_
 by_cases hlt:x<y
 ·have hc:cmpI x y= -1:=if_pos hlt
  rw[hc]at hC
  rw[Nat.div_eq_of_lt hlt,Nat.mod_eq_of_lt hlt,Yk]
  have c1:(-1:Int)<0:=by decide
  repeat'(first|(first|refine Stp.h ?_|(refine rq hC ?_ ?_;focus simp[Zz];done)|(refine Za.gc hT ?_ ?_;focus simp[Zb];done))<;>try simp only[Zd,simprocAttr,↓reduceIte,reduceCtorEq,implies_true,hl0,c1,decide_true,decide_false]|(with_reducible first|assumption|refine And.intro ?_ ?_)|(intro h;first|omega|exact tg h ‹_›|exact tg ‹_› h|skip))
  all_goals first|omega|skip
 ·have hc:¬cmpI x y<0:=by unfold cmpI;rw[if_neg hlt];split<;>decide
  generalize cmpI x y=cv at*
  have hPx:=Gw x hx
  have hPy:=Gw y (by omega)
  have hl2:((wds x).length:Int)≤2:=by omega
  have hq:x/y≤x:=Nat.div_le_self x y
  have hr:x%y<y:=Nat.mod_lt _ (by omega)
  have hW1:=Le (x/y) (by omega)
  have hW2:=Le (x%y) (by omega)
  have q1:IntKind.u64.wrap (((x:Nat):Int).tdiv (y:Int))=((x/y:Nat):Int):=by
   have e:(x:Int).tdiv (y:Int)=((x/y:Nat):Int):=rfl
   have key:∀q:Nat,q≤x→IntKind.u64.wrap (q:Int)=q:=fun q hq=>IntWalk.u64_in _ (by omega)
   rw[e];exact key _ hq
  have q2:((x:Nat):Int).tmod (y:Int)=((x%y:Nat):Int):=rfl
  have y0:¬(y:Int)=0:=by omega
  repeat'(first|(first|refine Stp.h ?_|(refine rq hC ?_ ?_;focus simp[Zz];done)|(refine rq hPx ?_ ?_;focus simp[Zz];done)|(refine rq hPy ?_ ?_;focus simp[Zz];done)|(refine Za.gc hW1 ?_ ?_;focus simp[Zb];done)|(refine Za.gc hW2 ?_ ?_;focus simp[Zb];done))<;>try simp only[Zd,simprocAttr,↓reduceIte,reduceCtorEq,implies_true,hl0,hc,hl2,q1,q2,y0,decide_true,decide_false,ne_eq,not_false_eq_true]|(with_reducible first|assumption|refine And.intro ?_ ?_)|(intro h;first|omega|exact tg h ‹_›|exact tg ‹_› h|skip))
  all_goals first|omega|skip
theorem H3(x y:Nat)(hx:x<18446744073709551616)(hy:y≠0)(hly:(wds y).length≤1000)(b c:Bool):GC Tryz.prog 23 [.a (.loc 0 0),.a (.loc 1 0),.a (.loc 3 0),.a (.loc 5 0)]
 [(0,.cells 33 [.bool b,.raw (.slice none 0 0)]),(1,.rocells [.bool false,.ref 2]),(2,.ro (.int .u32) (wds x)),(3,.rocells [.bool false,.ref 4]),(4,.ro (.int .u32) (wds y)),(5,.cells 33 [.bool c,.raw (.slice none 0 0)])] 6 [0,5] (.tup [.a (.loc 0 0),.a (.loc 5 0)])
 [(0,.cells 33 [.bool false,.ref 6]),(6,.row 87 (.int .u32) (wds (x/y))),(5,.cells 33 [.bool false,.ref 7]),(7,.row 87 (.int .u32) (wds (x%y)))] 8:=by
 have hD:=Zaw x y hx hy hly
 have hG:=Tc b false (wds (x/y))
 have hG2:=Tc c false (wds (x%y))
 simp only[Bool.false_and]at hG hG2
 refine Y6.fn.gc (by simp) (by simp[Zu,Zw,Zv,Zj,Ze,Vc.S1.okN,At.okN,SV.okN,Res.okN,Res.outOk,Zo,Res.own,Value.oneCell']) fun w X fr=> ?_
 repeat'(first|(first|refine Stp.h ?_|(refine Za.gc hD ?_ ?_;focus simp[Zb];done)|(refine Za.gc hG ?_ ?_;focus simp[Zb];done)|(refine Za.gc hG2 ?_ ?_;focus simp[Zb];done))<;>try simp only[Zd,simprocAttr,↓reduceIte,reduceCtorEq,implies_true,bne_self_eq_false]|(with_reducible first|assumption|refine And.intro ?_ ?_)|(intro h;first|omega|exact tg h ‹_›|exact tg ‹_› h|skip))
theorem Zal(x y:Nat)(hx:x<18446744073709551616)(hy:y≠0)(hly:(wds y).length≤1000)(c:Bool):GC Tryz.prog 23 [.a (.loc 0 0),.a (.loc 0 0),.a (.loc 3 0),.a (.loc 5 0)]
 [(0,.cells 33 [.bool false,.ref 2]),(2,.row 87 (.int .u32) (wds x)),(3,.rocells [.bool false,.ref 4]),(4,.ro (.int .u32) (wds y)),(5,.cells 33 [.bool c,.raw (.slice none 0 0)])] 6 [0,5] (.tup [.a (.loc 0 0),.a (.loc 5 0)])
 [(0,.cells 33 [.bool false,.ref 6]),(6,.row 87 (.int .u32) (wds (x/y))),(5,.cells 33 [.bool false,.ref 7]),(7,.row 87 (.int .u32) (wds (x%y)))] 8:=by
 have hD:=Zaw x y hx hy hly
 have hG:=Ip false false (wds (x/y)) (wds x)
 have hG2:=Tc c false (wds (x%y))
 simp only[Bool.false_and]at hG hG2
 refine Y6.fn.gc (by simp) (by simp[Zu,Zw,Zv,Zj,Ze,Vc.S1.okN,At.okN,SV.okN,Res.okN,Res.outOk,Zo,Res.own,Value.oneCell']) fun w X fr=> ?_
 repeat'(first|(first|refine Stp.h ?_|(refine Za.gc hD ?_ ?_;focus simp[Zb];done)|(refine Za.gc hG ?_ ?_;focus simp[Zb];done)|(refine Za.gc hG2 ?_ ?_;focus simp[Zb];done))<;>try simp only[Zd,simprocAttr,↓reduceIte,reduceCtorEq,implies_true,bne_self_eq_false]|(with_reducible first|assumption|refine And.intro ?_ ?_)|(intro h;first|omega|exact tg h ‹_›|exact tg ‹_› h|skip))
theorem Zem(x y:Nat)(hx:x<18446744073709551616)(hy:y≠0)(hly:(wds y).length≤1000)(b c:Bool):GC Tryz.prog 40 [.a (.loc 0 0),.a (.loc 1 0),.a (.loc 3 0),.a (.loc 5 0)]
 [(0,.cells 33 [.bool b,.raw (.slice none 0 0)]),(1,.rocells [.bool false,.ref 2]),(2,.ro (.int .u32) (wds x)),(3,.rocells [.bool false,.ref 4]),(4,.ro (.int .u32) (wds y)),(5,.cells 33 [.bool c,.raw (.slice none 0 0)])] 6 [0,5] (.tup [.a (.loc 0 0),.a (.loc 5 0)])
 [(0,.cells 33 [.bool false,.ref 6]),(6,.row 87 (.int .u32) (wds (x/y))),(5,.cells 33 [.bool false,.ref 7]),(7,.row 87 (.int .u32) (wds (x%y)))] 8:=by
 have hQ:=H3 x y hx hy hly b c
 have hS:=Zam false false (wds y) hly rfl
 refine Y5.fn.gc (by simp) (by simp[Zu,Zw,Zv,Zj,Ze,Vc.S1.okN,At.okN,SV.okN,Res.okN,Res.outOk,Zo,Res.own,Value.oneCell']) fun w X fr=> ?_
 repeat'(first|(first|refine Stp.h ?_|(refine Za.gc hQ ?_ ?_;focus simp[Zb];done)|(refine Za.gc hS ?_ ?_;focus simp[Zb];done))<;>try simp only[Zd,simprocAttr,↓reduceIte,reduceCtorEq,implies_true]|(with_reducible first|assumption|refine And.intro ?_ ?_)|(intro h;first|omega|exact tg h ‹_›|exact tg ‹_› h|skip))
theorem Zah(x y:Nat)(hx:x<18446744073709551616)(hy:y≠0)(hly:(wds y).length≤1000)(c:Bool):GC Tryz.prog 40 [.a (.loc 0 0),.a (.loc 0 0),.a (.loc 3 0),.a (.loc 5 0)]
 [(0,.cells 33 [.bool false,.ref 2]),(2,.row 87 (.int .u32) (wds x)),(3,.rocells [.bool false,.ref 4]),(4,.ro (.int .u32) (wds y)),(5,.cells 33 [.bool c,.raw (.slice none 0 0)])] 6 [0,5] (.tup [.a (.loc 0 0),.a (.loc 5 0)])
 [(0,.cells 33 [.bool false,.ref 6]),(6,.row 87 (.int .u32) (wds (x/y))),(5,.cells 33 [.bool false,.ref 7]),(7,.row 87 (.int .u32) (wds (x%y)))] 8:=by
 have hQ:=Zal x y hx hy hly c
 have hS:=Zam false false (wds y) hly rfl
 refine Y5.fn.gc (by simp) (by simp[Zu,Zw,Zv,Zj,Ze,Vc.S1.okN,At.okN,SV.okN,Res.okN,Res.outOk,Zo,Res.own,Value.oneCell']) fun w X fr=> ?_
 repeat'(first|(first|refine Stp.h ?_|(refine Za.gc hQ ?_ ?_;focus simp[Zb];done)|(refine Za.gc hS ?_ ?_;focus simp[Zb];done))<;>try simp only[Zd,simprocAttr,↓reduceIte,reduceCtorEq,implies_true]|(with_reducible first|assumption|refine And.intro ?_ ?_)|(intro h;first|omega|exact tg h ‹_›|exact tg ‹_› h|skip))
theorem Mod_gc(x y:Nat)(hx:x<18446744073709551616)(hy:y≠0)(hly:(wds y).length≤1000)(c:Bool):GC Tryz.prog 38 [.a (.loc 0 0),.a (.loc 1 0),.a (.loc 3 0)]
 [(0,.cells 33 [.bool c,.raw (.slice none 0 0)]),(1,.rocells [.bool false,.ref 2]),(2,.ro (.int .u32) (wds x)),(3,.rocells [.bool false,.ref 4]),(4,.ro (.int .u32) (wds y))] 5 [0] (.one (.a (.loc 0 0)))
 [(0,.cells 33 [.bool false,.ref 5]),(5,.row 87 (.int .u32) (wds (x%y)))] 6:=by
 have hD:=Zem x y hx hy hly false c
 refine Wh.fn.gc (by simp) (by simp[Zu,Zw,Zv,Zj,Ze,Vc.S1.okN,At.okN,SV.okN,Res.okN,Res.outOk,Zo,Res.own,Value.oneCell']) fun w X fr=> ?_
 repeat'(first|(first|refine Stp.h ?_|(refine Za.gc hD ?_ ?_;focus simp[Zb];done))<;>try simp only[Zd,simprocAttr,↓reduceIte,reduceCtorEq,implies_true]|(with_reducible first|assumption|refine And.intro ?_ ?_)|(intro h;first|omega|exact tg h ‹_›|exact tg ‹_› h|skip))
theorem Nt(x w:Nat)(hx:x<18446744073709551616)(hw:w≤64):GC Tryz.prog 26 [.a (.loc 0 0),.a (.int .i64 (w:Int))] [(0,.rocells [.bool false,.ref 1]),(1,.ro (.int .u32) (wds x))] 2 [] (.one (.a (.int .u64 ((x%2^w:Nat):Int)))) [] 2:=by
 have hp:2^w≠0:=Nat.ne_of_gt (Nat.pow_pos (by decide))
 have hl:(wds (2^w)).length≤3:=Td 3 _ (by
  have:2^w≤2^64:=Nat.pow_le_pow_right (by decide) hw
  have:(2:Nat)^64<4294967296^3:=by decide
  omega)
 have hT:=Jv w hw
 have hM:=Mod_gc x (2^w) hx hp (by omega) false
 have hle:x%2^w≤x:=Nat.mod_le _ _
 have hU:=Nu (x%2^w) (by omega) false
 refine Vn.fn.gc (by simp) (by simp[Zu,Zw,Zv,Zj,Ze,Vc.S1.okN,At.okN,SV.okN,Res.okN,Res.outOk,Zo,Res.own,Value.oneCell']) fun w X fr=> ?_
 repeat'(first|(first|refine Stp.h ?_|(refine Za.gc hT ?_ ?_;focus simp[Zb];done)|(refine Za.gc hM ?_ ?_;focus simp[Zb];done)|(refine Za.gc hU ?_ ?_;focus simp[Zb];done))<;>try simp only[Zd,simprocAttr,↓reduceIte,reduceCtorEq,implies_true]|(with_reducible first|assumption|refine And.intro ?_ ?_)|(intro h;first|omega|exact tg h ‹_›|exact tg ‹_› h|skip))
theorem Si(w:Nat)(hw:w=16∨w=32∨w=64):GC Tryz.prog 17 [.a (.int .i64 (w:Int))] [] 0 [] (.one (.a (.bool true))) [] 0:=by
 obtain⟨n,hn3,hn,hlt⟩:∃n,n≤3∧[(8:Int),16,32,64].getD n 0=(w:Int)∧∀k,k<n→¬(w:Int)=[(8:Int),16,32,64].getD k 0:=by
  rcases hw with rfl|rfl|rfl
  ·exact⟨1,by decide,rfl,by decide⟩
  ·exact⟨2,by decide,rfl,by decide⟩
  ·exact⟨3,by decide,rfl,by decide⟩
 refine U3.fn.gc (by simp) (by simp[Zu,Zw,Zv,Zj,Ze,Vc.S1.okN,At.okN,SV.okN,Res.okN,Res.outOk,Zo,Res.own,Value.oneCell']) fun w' X fr=> ?_
 repeat'(first|(first|refine Stp.h ?_)<;>try simp only[Zd,simprocAttr,↓reduceIte,reduceCtorEq,implies_true]|(with_reducible first|assumption|refine And.intro ?_ ?_)|(intro h;first|omega|exact tg h ‹_›|exact tg ‹_› h|skip))
 refine T.weak (Ent.litRow (m:=0) (.int .i64) [8,16,32,64] rfl rfl rfl rfl (by decide)) ?_
 simp only[Zd,simprocAttr,↓reduceIte,reduceCtorEq,implies_true]
 have hL:[(8:Int),16,32,64].length=4:=rfl
 generalize [(8:Int),16,32,64]=L at*
 refine T.loop (ι:= {j:Nat//j≤n})
  (fun x=>⟨[(7,.one (.a (.int .i64 (x.1:Int)))),(6,.one (.a (.int .i64 4))),(5,.one (.a (.ref 0))),(0,.one (.a (.int .i64 (w:Int))))],
    [(0,.row 3 (.int .i64) L)],1⟩) (fun x=>n-x.1) ⟨0,by omega⟩ (Ent.mk1 (id) (by simp[Zy])) ?_
 rintro⟨j,hj⟩
 simp only
 have jl:(j:Int)<4:=by omega
 have j0:(0:Int)≤j:=by omega
 have jt:((j:Nat):Int).toNat=j:=by omega
 have jL:j<4:=by omega
 have d0:(Kd.int .i64).dflt=(0:Int):=rfl
 by_cases hn':j=n
 ·subst hn'
  repeat'(first|(first|refine Stp.h ?_)<;>try simp only[Zd,simprocAttr,↓reduceIte,reduceCtorEq,implies_true,jl,j0,jt,jL,hL,hn,d0,decide_true]|(with_reducible first|assumption|refine And.intro ?_ ?_)|(intro h;first|omega|exact tg h ‹_›|exact tg ‹_› h|skip))
  all_goals first|omega|skip
 ·have hw:IntKind.i64.wrap ((j:Int)+1)=((j+1:Nat):Int):=Zx (by omega)
  have hne:=hlt j (by omega)
  repeat'(first|(first|refine Stp.h ?_)<;>try simp only[Zd,simprocAttr,↓reduceIte,reduceCtorEq,implies_true,jl,j0,jt,jL,hL,hw,hne,d0,decide_false]|(with_reducible first|assumption|refine And.intro ?_ ?_)|(intro h;first|omega|exact tg h ‹_›|exact tg ‹_› h|skip))
  all_goals first|omega|exact⟨⟨j+1,by omega⟩,(Ent.mk1 (id) (by simp[Zy])),by simp only;omega⟩|skip
theorem Zgi(l:List Int)(h:l.length≠0):GC Tryz.prog 22 [.a (.loc 0 0)] [(0,.rocells [.bool false,.ref 1]),(1,.ro (.int .u32) l)] 2 [] (.one (.a (.int .i64 1))) [] 2:=by
 have e:¬(l.length:Int)=0:=by omega
 refine Xh.fn.gc (by simp) (by simp[Zu,Zw,Zv,Zj,Ze,Vc.S1.okN,At.okN,SV.okN,Res.okN,Res.outOk,Zo,Res.own,Value.oneCell']) fun w X fr=> ?_
 repeat'(first|(first|refine Stp.h ?_)<;>try simp only[Zd,simprocAttr,↓reduceIte,reduceCtorEq,implies_true,e,decide_false]|(with_reducible first|assumption|refine And.intro ?_ ?_)|(intro h;first|omega|exact tg h ‹_›|exact tg ‹_› h|skip))
theorem H4:GC Tryz.prog 22 [.a (.loc 0 0)] [(0,.rocells [.bool false,.ref 1]),(1,.ro (.int .u32) [])] 2 [] (.one (.a (.int .i64 0))) [] 2:=by
 refine Xh.fn.gc (by simp) (by simp[Zu,Zw,Zv,Zj,Ze,Vc.S1.okN,At.okN,SV.okN,Res.okN,Res.outOk,Zo,Res.own,Value.oneCell']) fun w X fr=> ?_
 have c0:((0:Nat):Int)=0:=rfl
 repeat'(first|(first|refine Stp.h ?_)<;>try simp only[Zd,simprocAttr,↓reduceIte,reduceCtorEq,implies_true,List.length_nil,c0,decide_true]|(with_reducible first|assumption|refine And.intro ?_ ?_)|(intro h;first|omega|exact tg h ‹_›|exact tg ‹_› h|skip))
theorem Qk(x w:Nat)(hx:x<18446744073709551616)(hw:w≤64):GC Tryz.prog 18 [.a (.int .u64 (x:Int)),.a (.int .i64 (w:Int)),.a (.bool false)] [] 0 [] (.one (.a (.loc 0 0)))
 [(0,.cells 33 [.bool false,.ref 1]),(1,.row 87 (.int .u32) (wds (x%2^w)))] 2:=by
 have hW:=Qm x hx
 have hF:=Nt x w hx hw
 have hle:x%2^w≤x:=Nat.mod_le _ _
 have hW2:=Qm (x%2^w) (by omega)
 refine Ws.fn.gc (by simp) (by simp[Zu,Zw,Zv,Zj,Ze,Vc.S1.okN,At.okN,SV.okN,Res.okN,Res.outOk,Zo,Res.own,Value.oneCell']) fun w X fr=> ?_
 repeat'(first|(first|refine Stp.h ?_|(refine Za.gc hW ?_ ?_;focus simp[Zb];done)|(refine Za.gc hF ?_ ?_;focus simp[Zb];done)|(refine Za.gc hW2 ?_ ?_;focus simp[Zb];done)|refine Zf.split ?_ ?_|refine Zi.no ?_)<;>try simp only[Zd,simprocAttr,↓reduceIte,reduceCtorEq,implies_true]|(with_reducible first|assumption|refine And.intro ?_ ?_)|(intro h;first|omega|exact tg h ‹_›|exact tg ‹_› h|skip))
def wsp(x m:Nat):List Int:=(List.range m).map fun i=>((x/65536^i%65536:Nat):Int)
theorem Sf(x m:Nat):(wsp x m).length=m:=by simp[wsp]
theorem Zid(x m:Nat):wsp x (m+1)=wsp x m++[((x/65536^m%65536:Nat):Int)]:=by simp[wsp,List.range_succ]
theorem P5(x m:Nat)(hx:x<18446744073709551616)(hm:m=1∨m=2∨m=4):GC Tryz.prog 28 [.a (.int .u64 (x:Int)),.a (.int .i64 ((16*m:Nat):Int))] [] 0 []
 (.tup [.a (.ref 0),.a (.int .i64 0)]) [(0,.row 3 (.int .i64) (wsp (x%2^(16*m)) m))] 1:=by
 have hW:=Si (16*m) (by omega)
 have hX:=Qm x hx
 have hF:=Nt x (16*m) hx (by omega)
 have hle:x%2^(16*m)≤x:=Nat.mod_le _ _
 have hY:=Qm (x%2^(16*m)) (by omega)
 have hT:=Jv 16 (by decide)
 have c16:((16:Nat):Int)=16:=rfl
 have e16:2^16=65536:=by decide
 rw[c16,e16]at hT
 have q1:((16*m:Nat):Int).tdiv 16=(m:Int):=by rw[Int.tdiv_eq_ediv_of_nonneg (by omega)];omega
 have q2:IntKind.i64.wrap (m:Int)=m:=Zm (by omega) (by omega)
 refine U1.fn.gc (by simp) (by simp[Zu,Zw,Zv,Zj,Ze,Vc.S1.okN,At.okN,SV.okN,Res.okN,Res.outOk,Zo,Res.own,Value.oneCell']) fun w X fr=> ?_
 generalize x%2^(16*m)=y at*
 repeat'(first|(first|refine Stp.h ?_|(refine Za.gc hW ?_ ?_;focus simp[Zb];done)|(refine Za.gc hX ?_ ?_;focus simp[Zb];done)|(refine Za.gc hF ?_ ?_;focus simp[Zb];done)|(refine Za.gc hY ?_ ?_;focus simp[Zb];done))<;>try simp only[Zd,simprocAttr,↓reduceIte,reduceCtorEq,implies_true,decide_true,decide_false]|(with_reducible first|assumption|refine And.intro ?_ ?_)|(intro h;first|omega|exact tg h ‹_›|exact tg ‹_› h|skip))
 all_goals first|omega|skip
 refine T.weak (Ent.nilRow (t:=7) 3 (.int .i64) rfl) ?_
 simp only[Zd,simprocAttr,↓reduceIte,reduceCtorEq,implies_true]
 have hy:y<18446744073709551616:=by omega
 refine T.loop (ι:= {j:Nat//j≤m})
  (fun j=>⟨[(7,.one (.a (.ref 2))),(8,.one (.a (.int .i64 (j.1:Int)))),(6,.one (.a (.loc 0 0))),(1,.one (.a (.int .i64 ((16*m:Nat):Int))))],
    [(2,.row 3 (.int .i64) (wsp y j.1)),(0,.cells 33 [.bool false,.ref 1]),(1,.row 87 (.int .u32) (wds (y/65536^j.1)))],3⟩) (fun j=>m-j.1) ⟨0,by omega⟩ (Ent.mk1 (fun n=>if n=0 then 2 else if n=1 then 3 else 4) (by simp[Zy,Nat.pow_zero,Nat.div_one,wsp,List.range_zero,List.map_nil])) ?_
 rintro⟨j,hj⟩
 simp only
 by_cases hjm:j<m
 ·have jl:(j:Int)<m:=by omega
  have hw:IntKind.i64.wrap ((j:Int)+1)=((j+1:Nat):Int):=Zx (by omega)
  have hq:y/65536^j≤y:=Nat.div_le_self _ _
  have hl5:=Td 1 65536 (by decide)
  have hD:=Zah (y/65536^j) 65536 (by omega) (by decide) (by omega) false
  have hr:y/65536^j%65536<65536:=Nat.mod_lt _ (by decide)
  have hI:=Zeo (y/65536^j%65536) (by omega)
  have hs:=Zid y j
  have hsl:=Sf y j
  have e2:y/65536^(j+1)=y/65536^j/65536:=by rw[Nat.pow_succ,Nat.div_div_eq_div_mul]
  have w1:IntKind.i64.wrap ((y/65536^j%65536:Nat):Int)=((y/65536^j%65536:Nat):Int):=by
   generalize y/65536^j%65536=r at*
   exact Zm (by omega) (by omega)
  have hsp:(wsp y j).length≤1000:=by omega
  generalize y/65536^j=z at*
  generalize wsp y j=L at*
  by_cases hj0:j=0
  ·subst hj0
   have hw0:IntKind.i64.wrap (0+1)=((0+1:Nat):Int):=rfl
   have j00:((0:Nat):Int)=0:=rfl
   repeat'(first|(first|refine Stp.h ?_|(refine Za.gc hT ?_ ?_;focus simp[Zb];done)|(refine Za.gc hD ?_ ?_;focus simp[Zb];done)|(refine Za.gc hI ?_ ?_;focus simp[Zb];done)|refine Zf.split ?_ ?_|refine Zi.no ?_)<;>try simp only[Zd,simprocAttr,↓reduceIte,reduceCtorEq,implies_true,jl,j00,q1,q2,hw0,w1,decide_true,decide_false]|(with_reducible first|assumption|refine And.intro ?_ ?_)|(intro h;first|omega|exact tg h ‹_›|exact tg ‹_› h|skip))
   all_goals first|omega|exact⟨⟨0+1,hjm⟩,(Ent.mk1 (fun n=>if n=2 then 9 else if n=1 then 6 else n) (by simp[Zy,hs,e2])),by simp only;omega⟩|skip
  ·have j00:¬(j:Int)=0:=by omega
   repeat'(first|(first|refine Stp.h ?_|(refine Za.gc hT ?_ ?_;focus simp[Zb];done)|(refine Za.gc hD ?_ ?_;focus simp[Zb];done)|(refine Za.gc hI ?_ ?_;focus simp[Zb];done)|refine Zf.split ?_ ?_|refine Zi.no ?_)<;>try simp only[Zd,simprocAttr,↓reduceIte,reduceCtorEq,implies_true,jl,j00,q1,q2,hw,w1,decide_true,decide_false]|(with_reducible first|assumption|refine And.intro ?_ ?_)|(intro h;first|omega|exact tg h ‹_›|exact tg ‹_› h|skip))
   all_goals first|omega|exact⟨⟨j+1,hjm⟩,(Ent.mk1 (fun n=>if n=2 then 9 else if n=1 then 6 else n) (by simp[Zy,hs,e2])),by simp only;omega⟩|skip
 ·obtain rfl:j=m:=by omega
  have j00:¬(j:Int)=0:=by omega
  have jl:¬(j:Int)<j:=by omega
  repeat'(first|(first|refine Stp.h ?_|(refine Za.gc hT ?_ ?_;focus simp[Zb];done)|refine Zf.split ?_ ?_|refine Zi.no ?_)<;>try simp only[Zd,simprocAttr,↓reduceIte,reduceCtorEq,implies_true,jl,j00,q1,q2,decide_true,decide_false]|(with_reducible first|assumption|refine And.intro ?_ ?_)|(intro h;first|omega|exact tg h ‹_›|exact tg ‹_› h|skip))
  all_goals first|omega|skip
def apB(p n q m:Int):Bool:=decide (0≤p)&&decide (0≤q)&&decide (p≤IntKind.i64.wrap (65536-n))&&decide (q≤IntKind.i64.wrap (65536-m))&&(decide (IntKind.i64.wrap (p+n)≤q)||decide (IntKind.i64.wrap (q+m)≤p))
set_option maxHeartbeats 4000000 in
theorem Ve(p n q m:Int):GC Tryz.prog 27 [.a (.int .i64 p),.a (.int .i64 n),.a (.int .i64 q),.a (.int .i64 m)] [] 0 [] (.one (.a (.bool (apB p n q m)))) [] 0:=by
 unfold apB
 obtain⟨b1,h1⟩:∃b,decide (0≤p)=b:=⟨_,rfl⟩
 obtain⟨b2,h2⟩:∃b,decide (0≤q)=b:=⟨_,rfl⟩
 obtain⟨b3,h3⟩:∃b,decide (p≤IntKind.i64.wrap (65536-n))=b:=⟨_,rfl⟩
 obtain⟨b4,h4⟩:∃b,decide (q≤IntKind.i64.wrap (65536-m))=b:=⟨_,rfl⟩
 obtain⟨b5,h5⟩:∃b,decide (IntKind.i64.wrap (p+n)≤q)=b:=⟨_,rfl⟩
 obtain⟨b6,h6⟩:∃b,decide (IntKind.i64.wrap (q+m)≤p)=b:=⟨_,rfl⟩
 rw[h1,h2,h3,h4,h5,h6]
 refine U0.fn.gc (by simp) (by simp[Zu,Zw,Zv,Zj,Ze,Vc.S1.okN,At.okN,SV.okN,Res.okN,Res.outOk,Zo,Res.own,Value.oneCell']) fun w' X fr=> ?_
 rcases b1 with _|_
 rotate_left
 rcases b2 with _|_
 rotate_left
 rcases b3 with _|_
 rotate_left
 rcases b4 with _|_
 rotate_left
 rcases b5 with _|_
 rcases b6 with _|_
 all_goals
  repeat'(first|(first|refine Stp.h ?_)<;>try simp only[Zd,simprocAttr,↓reduceIte,reduceCtorEq,implies_true,h1,h2,h3,h4,h5,h6,Bool.and_true,Bool.and_false,Bool.true_and,Bool.false_and,Bool.or_true,Bool.or_false,Bool.true_or,Bool.false_or]|(with_reducible first|assumption|refine And.intro ?_ ?_)|(intro h;first|omega|exact tg h ‹_›|exact tg ‹_› h|skip))
theorem Mo{p n q m:Int}(hp: -9223372036854775808≤p∧p≤9223372036854775807)(hq: -9223372036854775808≤q∧q≤9223372036854775807)(hn:0≤n∧n≤65536)(hm:0≤m∧m≤65536):
 apB p n q m=true↔0≤p∧0≤q∧p+n≤65536∧q+m≤65536∧(p+n≤q∨q+m≤p):=by
 unfold apB
 rw[Zm (n:=65536-n) (by omega) (by omega),Zm (n:=65536-m) (by omega) (by omega)]
 simp only[Bool.and_eq_true,Bool.or_eq_true,decide_eq_true_eq]
 by_cases h:0≤p∧0≤q∧p≤65536-n∧q≤65536-m
 ·rw[Zm (n:=p+n) (by omega) (by omega),Zm (n:=q+m) (by omega) (by omega)]
  omega
 ·omega
end Go.Proofs.YtbmecnjmbhokgaaGreatDoor
namespace Go.Proofs.YtbmecnjmbhokgaaGreatDoor
open Vc
namespace Xf
abbrev r0:List In:=[i1 4 (.mv (kI 0)),
i1 5 (.mv (.k (.a (.raw .nilIface))))]
abbrev r1:List In:=[mv 6 0,
i1 7 (.call 148 [.t 6])]
abbrev r2:List In:=[mv 8 0,
mv 9 0,
i1 10 (.nchk (.t 9)),
i1 11 (.faddr 1 (.t 10)),
i1 12 (.load 1 false (.t 11)),
mv 13 1,
i1 14 (.apps 45 5 (.t 12) (.t 13)),
i1 15 (.nchk (.t 8)),
i1 16 (.faddr 1 (.t 15)),
i0 (.store 1 (.t 16) (.t 14))]
abbrev r3:List In:=[mv 17 1,
i1 18 (.slen (.t 17)),
mv 4 18,
i1 5 (.mv (.k (.a (.raw .nilIface))))]
abbrev code:IC:=.seq (.reg r0) (.seq (.reg r1) (.seq (.reg r2) (.seq (.reg r3) .ret)))
abbrev res:List RV:=[.tmp 4,.tmp 5]
theorem fn:Body Tryz.prog 104 19 code res:=⟨by decide,Tryz.f104,_,Tryz.func104,rfl,rfl,by kernel_rfl,by kernel_rfl⟩
end Xf
namespace Wy
abbrev r0:List In:=[i1 4 (.mv (.k (.a (.raw .nilIface))))]
abbrev r1:List In:=[mv 5 0,
i1 6 (.call 148 [.t 5])]
abbrev r2:List In:=[mv 7 0,
mv 8 0,
i1 9 (.nchk (.t 8)),
i1 10 (.faddr 1 (.t 9)),
i1 11 (.load 1 false (.t 10)),
mv 12 1,
i1 13 (.bsl 5 1 1 [.int .u8 0] [(0,1,(.t 12))]),
i1 14 (.app 45 5 1 1 (.t 11) (.t 13)),
i1 15 (.nchk (.t 7)),
i1 16 (.faddr 1 (.t 15)),
i0 (.store 1 (.t 16) (.t 14))]
abbrev r3:List In:=[i1 4 (.mv (.k (.a (.raw .nilIface))))]
abbrev code:IC:=.seq (.reg r0) (.seq (.reg r1) (.seq (.reg r2) (.seq (.reg r3) .ret)))
abbrev res:List RV:=[.tmp 4]
theorem fn:Body Tryz.prog 103 17 code res:=⟨by decide,Tryz.f103,_,Tryz.func103,rfl,rfl,by kernel_rfl,by kernel_rfl⟩
end Wy
end Go.Proofs.YtbmecnjmbhokgaaGreatDoor
namespace Go.Proofs.YtbmecnjmbhokgaaGreatDoor
open Go Go.RowKit
set_option linter.unusedVariables false
set_option linter.unusedSimpArgs false
set_option maxHeartbeats 1000000 in
set_option maxRecDepth 100000 in
theorem Ib(b:Nat)(w:World)(h0:w.cell? ⟨b,0,none⟩=some (.pointer (some ⟨b,0,none⟩))):
 Calls Tryz.prog 148 #[.pointer (some ⟨b,0,none⟩)] w fun e w'=>e= .returned (.tuple #[])∧w'=w:=by
 obtain⟨j,hj,hjs⟩:∃j,Tryz.prog.info? 129=some j∧j.size=2:=Option.map_eq_some_iff.1 (by kernel_rfl:(Tryz.prog.info? 129).map (·.size)=some 2)
 go_enter Tryz.func148,Tryz.ntmps148
 go_wp2
 rw[Lib.run_neq_ptr_same w _ Tryz.underlying127 hj]
 go_wp2
 go_end0
 exact⟨rfl,rfl⟩
end Go.Proofs.YtbmecnjmbhokgaaGreatDoor
namespace Go.Proofs
open Go.Shelf
def Tryz.laysM171_ren:Go.Shelf.Ren:=⟨fun|171=>167|243=>187|246=>203|283=>212|284=>213|285=>214|286=>215|129=>146|317=>218|318=>219|319=>220|320=>221|337=>222|338=>223|n=>n,fun|3=>3|9=>9|2=>2|4=>4|171=>254|0=>0|53=>22|37=>45|5=>5|173=>256|212=>263|51=>87|20=>20|213=>264|46=>86|232=>265|233=>266|n=>n,fun|17=>5|18=>6|19=>7|n=>n⟩
theorem Tryz.laysM171:Go.Proofs.LaysM.n171 Tryz.prog Tryz.laysM171_ren:= {
 mixed:=by kernel_rfl
 f129:=Tryz.func146.trans (congrArg some (by kernel_rfl))
 f171:=Tryz.func167.trans (congrArg some (by kernel_rfl))
 f243:=Tryz.func187.trans (congrArg some (by kernel_rfl))
 f246:=Tryz.func203.trans (congrArg some (by kernel_rfl))
 f283:=Tryz.func212.trans (congrArg some (by kernel_rfl))
 f284:=Tryz.func213.trans (congrArg some (by kernel_rfl))
 f285:=Tryz.func214.trans (congrArg some (by kernel_rfl))
 f286:=Tryz.func215.trans (congrArg some (by kernel_rfl))
 f317:=Tryz.func218.trans (congrArg some (by kernel_rfl))
 f318:=Tryz.func219.trans (congrArg some (by kernel_rfl))
 f319:=Tryz.func220.trans (congrArg some (by kernel_rfl))
 f320:=Tryz.func221.trans (congrArg some (by kernel_rfl))
 f337:=Tryz.func222.trans (congrArg some (by kernel_rfl))
 f338:=Tryz.func223.trans (congrArg some (by kernel_rfl))
 t0:=Tryz.underlying0
 a0:=Tryz.isAgg0
 z0:=Tryz.sizeOf0
 v0:=Tryz.zeroValue0
 t2:=Tryz.underlying2
 a2:=Tryz.isAgg2
 z2:=Tryz.sizeOf2
 v2:=Tryz.zeroValue2
 t3:=Tryz.underlying3
 a3:=Tryz.isAgg3
 z3:=Tryz.sizeOf3
 v3:=Tryz.zeroValue3
 t4:=Tryz.underlying4
 a4:=Tryz.isAgg4
 z4:=Tryz.sizeOf4
 v4:=Tryz.zeroValue4
 t5:=Tryz.underlying5
 a5:=Tryz.isAgg5
 z5:=Tryz.sizeOf5
 v5:=Tryz.zeroValue5
 t9:=Tryz.underlying9
 a9:=Tryz.isAgg9
 z9:=Tryz.sizeOf9
 v9:=Tryz.zeroValue9
 t20:=Tryz.underlying20
 a20:=Tryz.isAgg20
 z20:=Tryz.sizeOf20
 v20:=Tryz.zeroValue20
 t37:=Tryz.underlying45
 a37:=Tryz.isAgg45
 z37:=Tryz.sizeOf45
 v37:=Tryz.zeroValue45
 t46:=Tryz.underlying86
 a46:=Tryz.isAgg86
 z46:=Tryz.sizeOf86
 v46:=Tryz.zeroValue86
 t51:=Tryz.underlying87
 a51:=Tryz.isAgg87
 z51:=Tryz.sizeOf87
 v51:=Tryz.zeroValue87
 t53:=Tryz.underlying22
 a53:=Tryz.isAgg22
 z53:=Tryz.sizeOf22
 v53:=Tryz.zeroValue22
 t171:=Tryz.underlying254
 a171:=Tryz.isAgg254
 z171:=Tryz.sizeOf254
 v171:=Tryz.zeroValue254
 t173:=Tryz.underlying256
 a173:=Tryz.isAgg256
 z173:=Tryz.sizeOf256
 v173:=Tryz.zeroValue256
 t212:=Tryz.underlying263
 a212:=Tryz.isAgg263
 z212:=Tryz.sizeOf263
 v212:=Tryz.zeroValue263
 t213:=Tryz.underlying264
 a213:=Tryz.isAgg264
 z213:=Tryz.sizeOf264
 t232:=Tryz.underlying265
 a232:=Tryz.isAgg265
 z232:=Tryz.sizeOf265
 v232:=Tryz.zeroValue265
 t233:=Tryz.underlying266
 a233:=Tryz.isAgg266
 z233:=Tryz.sizeOf266
 v233:=Tryz.zeroValue266
 g17:=by kernel_rfl
 g18:=by kernel_rfl
 g19:=by kernel_rfl
 i0:=by kernel_rfl
 i2:=by kernel_rfl
 i3:=by kernel_rfl
 i4:=by kernel_rfl
 i5:=by kernel_rfl
 i9:=by kernel_rfl
 i20:=by kernel_rfl
 i37:=by kernel_rfl
 i46:=by kernel_rfl
 i51:=by kernel_rfl
 i53:=by kernel_rfl
 i171:=by kernel_rfl
 i173:=by kernel_rfl
 i212:=by kernel_rfl
 i232:=by kernel_rfl
 i233:=by kernel_rfl
 m17:=by kernel_rfl
 m18:=by kernel_rfl
 m19:=by kernel_rfl}
open Go.RowKit Go.Sort Go.Lib in
theorem Tryz.strconv_Itoa(n:Int)(h0: -9223372036854775808≤n)(h1:n≤9223372036854775807)(w:World)(htab:Lib.TabIs Tryz.prog w "internal/strconv.uint64pow10" .u64 Lib.pow10Tab):
 Calls Tryz.prog 167 #[.int .i64 n] w fun e w'=>e= .returned (.string ⟨(Lib.itoa n).toArray⟩)∧∃k os,w'=grow (w.drewN k) os:=Any.strconv_Itoa Tryz.laysM171 n h0 h1 w htab
def Tryz.lays100_ren:Go.Shelf.Ren:=⟨fun|100=>102|207=>147|n=>n,fun|9=>9|4=>4|3=>3|n=>n,fun|n=>n⟩
theorem Tryz.lays100:Go.Proofs.Lays.n100 Tryz.prog Tryz.lays100_ren:= {
 mixed:=by kernel_rfl
 f100:=Tryz.func102.trans (congrArg some (by kernel_rfl))
 f207:=Tryz.func147.trans (congrArg some (by kernel_rfl))
 t3:=Tryz.underlying3
 a3:=Tryz.isAgg3
 z3:=Tryz.sizeOf3
 v3:=Tryz.zeroValue3
 t4:=Tryz.underlying4
 a4:=Tryz.isAgg4
 z4:=Tryz.sizeOf4
 v4:=Tryz.zeroValue4
 t9:=Tryz.underlying9
 a9:=Tryz.isAgg9
 z9:=Tryz.sizeOf9
 v9:=Tryz.zeroValue9}
open Go.RowKit Go.Lib in
theorem Tryz.strings_HasSuffix(s p:ByteArray)(w:World)(hs:s.size≤9223372036854775807):
 Calls Tryz.prog 102 #[.string s,.string p] w fun e w'=>e= .returned (.bool (Lib.hasSuffix s.data.toList p.data.toList))∧w'=w:=Any.strings_HasSuffix Tryz.lays100 s p w hs
def Tryz.lays154_ren:Go.Shelf.Ren:=⟨fun|154=>166|138=>150|165=>186|143=>151|166=>104|197=>177|169=>77|195=>176|218=>178|240=>148|241=>202|219=>179|260=>189|276=>175|277=>211|217=>190|225=>191|224=>192|267=>193|266=>204|314=>205|n=>n,fun|9=>9|3=>3|4=>4|72=>129|0=>0|76=>163|105=>223|21=>21|5=>5|70=>127|20=>20|37=>45|75=>161|127=>165|164=>220|46=>86|119=>240|139=>243|138=>242|146=>244|51=>87|80=>134|n=>n,fun|1=>0|3=>1|4=>2|n=>n⟩
theorem Tryz.lays154:Go.Proofs.Lays.n154 Tryz.prog Tryz.lays154_ren:= {
 mixed:=by kernel_rfl
 f138:=Tryz.func150.trans (congrArg some (by kernel_rfl))
 f143:=Tryz.func151.trans (congrArg some (by kernel_rfl))
 f154:=Tryz.func166.trans (congrArg some (by kernel_rfl))
 f165:=Tryz.func186.trans (congrArg some (by kernel_rfl))
 f166:=Tryz.func104.trans (congrArg some (by kernel_rfl))
 f169:=Tryz.func77.trans (congrArg some (by kernel_rfl))
 f195:=Tryz.func176.trans (congrArg some (by kernel_rfl))
 f197:=Tryz.func177.trans (congrArg some (by kernel_rfl))
 f217:=Tryz.func190.trans (congrArg some (by kernel_rfl))
 f218:=Tryz.func178.trans (congrArg some (by kernel_rfl))
 f219:=Tryz.func179.trans (congrArg some (by kernel_rfl))
 f224:=Tryz.func192.trans (congrArg some (by kernel_rfl))
 f225:=Tryz.func191.trans (congrArg some (by kernel_rfl))
 f240:=Tryz.func148.trans (congrArg some (by kernel_rfl))
 f241:=Tryz.func202.trans (congrArg some (by kernel_rfl))
 f260:=Tryz.func189.trans (congrArg some (by kernel_rfl))
 f266:=Tryz.func204.trans (congrArg some (by kernel_rfl))
 f267:=Tryz.func193.trans (congrArg some (by kernel_rfl))
 f276:=Tryz.func175.trans (congrArg some (by kernel_rfl))
 f277:=Tryz.func211.trans (congrArg some (by kernel_rfl))
 f314:=Tryz.func205.trans (congrArg some (by kernel_rfl))
 t0:=Tryz.underlying0
 a0:=Tryz.isAgg0
 z0:=Tryz.sizeOf0
 v0:=Tryz.zeroValue0
 t3:=Tryz.underlying3
 a3:=Tryz.isAgg3
 z3:=Tryz.sizeOf3
 v3:=Tryz.zeroValue3
 t4:=Tryz.underlying4
 a4:=Tryz.isAgg4
 z4:=Tryz.sizeOf4
 v4:=Tryz.zeroValue4
 t5:=Tryz.underlying5
 a5:=Tryz.isAgg5
 z5:=Tryz.sizeOf5
 v5:=Tryz.zeroValue5
 t9:=Tryz.underlying9
 a9:=Tryz.isAgg9
 z9:=Tryz.sizeOf9
 v9:=Tryz.zeroValue9
 t20:=Tryz.underlying20
 a20:=Tryz.isAgg20
 z20:=Tryz.sizeOf20
 v20:=Tryz.zeroValue20
 t21:=Tryz.underlying21
 a21:=Tryz.isAgg21
 z21:=Tryz.sizeOf21
 v21:=Tryz.zeroValue21
 t37:=Tryz.underlying45
 a37:=Tryz.isAgg45
 z37:=Tryz.sizeOf45
 v37:=Tryz.zeroValue45
 t46:=Tryz.underlying86
 a46:=Tryz.isAgg86
 z46:=Tryz.sizeOf86
 v46:=Tryz.zeroValue86
 t51:=Tryz.underlying87
 a51:=Tryz.isAgg87
 z51:=Tryz.sizeOf87
 v51:=Tryz.zeroValue87
 t70:=Tryz.underlying127
 a70:=Tryz.isAgg127
 z70:=Tryz.sizeOf127
 v70:=Tryz.zeroValue127
 t72:=Tryz.underlying129
 a72:=Tryz.isAgg129
 z72:=Tryz.sizeOf129
 v72:=Tryz.zeroValue129
 t75:=Tryz.underlying161
 a75:=Tryz.isAgg161
 z75:=Tryz.sizeOf161
 v75:=Tryz.zeroValue161
 t76:=Tryz.underlying163
 a76:=Tryz.isAgg163
 z76:=Tryz.sizeOf163
 v76:=Tryz.zeroValue163
 t105:=Tryz.underlying223
 a105:=Tryz.isAgg223
 z105:=Tryz.sizeOf223
 v105:=Tryz.zeroValue223
 t119:=Tryz.underlying240
 a119:=Tryz.isAgg240
 z119:=Tryz.sizeOf240
 t127:=Tryz.underlying165
 a127:=Tryz.isAgg165
 z127:=Tryz.sizeOf165
 v127:=Tryz.zeroValue165
 t138:=Tryz.underlying242
 a138:=Tryz.isAgg242
 z138:=Tryz.sizeOf242
 v138:=Tryz.zeroValue242
 t139:=Tryz.underlying243
 a139:=Tryz.isAgg243
 z139:=Tryz.sizeOf243
 v139:=Tryz.zeroValue243
 t146:=Tryz.underlying244
 a146:=Tryz.isAgg244
 z146:=Tryz.sizeOf244
 v146:=Tryz.zeroValue244
 t164:=Tryz.underlying220
 a164:=Tryz.isAgg220
 z164:=Tryz.sizeOf220
 v164:=Tryz.zeroValue220
 g1:=by kernel_rfl
 g3:=by kernel_rfl
 g4:=by kernel_rfl}
theorem Tryz.Builder_Extra_154:Builder.Extra Tryz.prog Tryz.lays154_ren:= {
 sizeBuilder:=by kernel_rfl
 liesBuilder:=by kernel_rfl
 t5:=Tryz.underlying5
 a5:=Tryz.isAgg5
 z5:=Tryz.sizeOf5
 v5:=Tryz.zeroValue5
 infoByte:=by kernel_rfl
 cellsByte:=by kernel_rfl
 sizeByte:=by kernel_rfl
 neB5:=by decide}
open Go.RowKit Go.Lib in
theorem Tryz.strings_Replace(s old new:ByteArray)(n:Int)(m:Int)(w:World)(hs:s.size<4294967281)(hm:w.cell? ⟨0,0,none⟩=some (.int .i64 m))(h1:1≤old.size)(hlen:s.size+Lib.countB s old*new.size≤140737488355328):
 Calls Tryz.prog 166 #[.string s,.string old,.string new,.int .i64 n] w fun e w'=>
  e= .returned (.string ⟨(Lib.replace s.data.toList old.data.toList new.data.toList n).toArray⟩)∧Below w.heap.size w w':=Any.strings_Replace Tryz.lays154 Tryz.Builder_Extra_154 s old new n m w hs hm h1 hlen
end Go.Proofs
namespace Go.Proofs.YtbmecnjmbhokgaaGreatDoor
open Go Go.RowKit Vc
set_option linter.unusedVariables false
set_option linter.unusedSimpArgs false
attribute [local irreducible] T Za Zn Ent RdC RwC Yj Zf Zi
abbrev Bytes:Type:=List (Kd.ty (.int .u8))
theorem Zas(a b:List UInt8):bytesI a++bytesI b=bytesI (a++b):=by simp[bytesI]
theorem J5(a:List UInt8):(bytesI a).length=a.length:=by simp[bytesI]
theorem Dt(a:List UInt8)(c:UInt8):bytesI a++[((c.toNat:Nat):Int)]=bytesI (a++[c]):=by simp[bytesI]
@[reducible] def Z5(G:Nat)(H:Nat→Option Obj):Prop:=∀w X,Wb G H w X→Lib.TabIs Tryz.prog w "internal/strconv.uint64pow10" .u64 Lib.pow10Tab
theorem Zgf(G:Nat)(H:Nat→Option Obj)(hH:Z5 G H)(n:Int)(h0:0≤n)(h1:n≤65535):
 GCp G H Tryz.prog 167 [.a (.int .i64 n)] [] 0 [] (.one (.a (.str (Lib.itoa n)))) [] 0:=
 GCp.plain (by simp[S1.bd,At.bd]) (by simp[SV.bd,S1.bd,At.bd]) (by simp[Zu,Zw,Zv,Zj,Ze,Vc.S1.okN,At.okN,SV.okN,Res.okN,Res.outOk,Zo,Res.own,Value.oneCell']) fun w hg=>(Tryz.strconv_Itoa n (by omega) (by omega) w (hH w _ hg)).mono fun e w' ⟨he,k,os,hw⟩=>⟨he,hw▸Lib.below_grow _ w (Nat.le_refl _) k os⟩
end Go.Proofs.YtbmecnjmbhokgaaGreatDoor
namespace Go.Proofs.YtbmecnjmbhokgaaGreatDoor
open Vc
namespace Jp
abbrev r0:List In:=[i1 0 (.mv (.k (.a (.raw (.map none)))))]
abbrev r1:List In:=[i1 1 (.fmk),
i0 (.fupd (.t 1) (.k (.a (.str [109,117,108]))) (.k (.a (.raw (.func (.func 88) #[] #[]))))),
i0 (.fupd (.t 1) (.k (.a (.str [117,100,105,118]))) (.k (.a (.raw (.func (.func 89) #[] #[]))))),
i0 (.fupd (.t 1) (.k (.a (.str [117,114,101,109]))) (.k (.a (.raw (.func (.func 91) #[] #[]))))),
i0 (.fupd (.t 1) (.k (.a (.str [115,100,105,118]))) (.k (.a (.raw (.func (.func 92) #[] #[]))))),
i0 (.fupd (.t 1) (.k (.a (.str [115,114,101,109]))) (.k (.a (.raw (.func (.func 94) #[] #[]))))),
i0 (.fupd (.t 1) (.k (.a (.str [115,104,108]))) (.k (.a (.raw (.func (.func 95) #[] #[]))))),
i0 (.fupd (.t 1) (.k (.a (.str [115,104,114]))) (.k (.a (.raw (.func (.func 97) #[] #[]))))),
i0 (.fupd (.t 1) (.k (.a (.str [115,97,114]))) (.k (.a (.raw (.func (.func 98) #[] #[]))))),
mv 2 1,
mv 0 2]
abbrev code:IC:=.seq (.reg r0) (.seq (.reg r1) .ret)
abbrev res:List RV:=[.tmp 0]
theorem fn:Body Tryz.prog 73 3 code res:=⟨by decide,Tryz.f73,_,Tryz.func73,rfl,rfl,by kernel_rfl,by kernel_rfl⟩
end Jp
namespace Ns
abbrev r0:List In:=[i1 0 (.mv (.k (.a (.raw (.slice none 0 0)))))]
abbrev r1:List In:=[i1 1 (.mv (.k (.a (.raw (.slice none 0 0)))))]
abbrev r2:List In:=[i1 5 (.call 73 []),
i1 6 (.frng (.t 5))]
abbrev r3:List In:=[i1 7 (.fnxt (.t 6)),
i1 8 (.ext 0 (.t 7))]
abbrev r4:List In:=[i1 9 (.fent (.t 6)),
i1 10 (.ext 0 (.t 9)),
mv 2 10]
abbrev r5:List In:=[i1 11 (.bsl 9 1 3 [.str [],.str [],.str []] [(0,1,(.k (.a (.str [49])))),(1,1,(.k (.a (.str [50])))),(2,1,(.k (.a (.str [52]))))]),
i1 12 (.len (.t 11)),
i1 13 (.mv (kI 0))]
abbrev r6:List In:=[i1 14 (.bin .lss (.t 13) (.t 12))]
abbrev r7:List In:=[i1 15 (.iaddr 1 (.t 11) (.t 13)),
i1 16 (.load 1 false (.t 15)),
mv 4 16]
abbrev r8:List In:=[mv 17 1,
mv 18 2,
mv 19 4,
i1 20 (.bin .add (.t 18) (.t 19)),
i1 21 (.bsl 9 1 1 [.str []] [(0,1,(.t 20))]),
i1 22 (.app 95 9 1 16 (.t 17) (.t 21)),
mv 1 22]
abbrev r9:List In:=[i1 23 (.bin .add (.t 13) (kI 1)),
mv 13 23]
abbrev r10:List In:=[mv 24 1,
i1 25 (.call 74 [.t 24])]
abbrev r11:List In:=[mv 26 1,
mv 0 26]
abbrev code:IC:=.seq (.reg r0) (.seq (.reg r1) (.seq (.seq (.reg r2) (.block 0 (.loop (.seq (.reg r3) (.seq (.cond (.t 8) .skip (.exit 0)) (.block 1 (.seq (.reg r4) (.seq (.reg r5) (.block 2 (.loop (.seq (.reg r6) (.seq (.cond (.t 14) .skip (.exit 2)) (.seq (.block 3 (.seq (.reg r7) (.reg r8))) (.reg r9)))))))))))))) (.seq (.reg r10) (.seq (.reg r11) .ret))))
abbrev res:List RV:=[.tmp 0]
theorem fn:Body Tryz.prog 58 27 code res:=⟨by decide,Tryz.f58,_,Tryz.func58,rfl,rfl,by kernel_rfl,by kernel_rfl⟩
end Ns
namespace H1
abbrev r0:List In:=[i1 2 (.mv (.k (.a (.str [])))),
i1 3 (.mv (kI 0))]
abbrev r1:List In:=[i1 6 (.call 58 []),
mv 7 0,
i1 8 (.call 75 [.t 6,.t 7]),
i1 9 (.un .not (.t 8))]
abbrev r2:List In:=[i1 2 (.mv (.k (.a (.str [])))),
i1 3 (.mv (kI 7))]
abbrev r3:List In:=[mv 10 0,
i1 11 (.slen (.t 10)),
i1 12 (.bin .sub (.t 11) (kI 1)),
mv 4 12]
abbrev r4:List In:=[mv 13 0,
mv 14 4,
i1 15 (.sidx (.t 13) (.t 14)),
i1 16 (.bin .sub (.t 15) (.k (.a (.int .u8 48)))),
i1 17 (.conv .i64 (.t 16)),
i1 18 (.build [.raw (.pointer none),.raw (.slice none 0 0),.int .i64 0] [(2,1,(.t 17))]),
i1 19 (.box 131 (.t 18)),
mv 5 19]
abbrev r5:List In:=[mv 20 5,
mv 21 0,
i1 22 (.bin .add (.t 21) (.k (.a (.str [58])))),
i1 23 (.bsl 9 1 1 [.str []] [(0,1,(.t 22))]),
i1 24 (.call 76 [.t 20,.t 23])]
abbrev r6:DT:=(tm 26 0 false
 (tm 27 4 false
 (tk 28 (.ssl (.t 26) none (some (.t 27))) false
 (tm 30 5 false
 (al 25 (.call 73 []) false
 (al 29 (.flook false (.t 25) (.t 28)) false
 (al 31 (.callv (.t 29) [.t 30]) false
 .done
 .stop)
 .stop)
 .stop)))))
abbrev r7:List In:=[mv 32 5,
i1 33 (.nchk (.t 32)),
i1 34 (.faddr 0 (.t 33)),
i1 35 (.call 77 [.t 34]),
mv 2 35,
i1 3 (.mv (kI 0))]
abbrev code:IC:=.seq (.reg r0) (.seq (.seq (.reg r1) (.cond (.t 9) (.seq (.reg r2) .ret) .skip)) (.seq (.reg r3) (.seq (.reg r4) (.seq (.reg r5) (.seq (.dany r6) (.seq (.reg r7) .ret))))))
abbrev res:List RV:=[.tmp 2,.tmp 3]
theorem fn:Body Tryz.prog 59 36 code res:=⟨by decide,Tryz.f59,_,Tryz.func59,rfl,rfl,by kernel_rfl,by kernel_rfl⟩
end H1
namespace Jn
abbrev r0:List In:=[i1 0 (.mv (.k (.a (.raw (.slice none 0 0)))))]
abbrev r1:List In:=[i1 1 (.mv (.k (.a (.raw (.slice none 0 0)))))]
abbrev r2:List In:=[i1 8 (.call 58 []),
i1 9 (.len (.t 8)),
i1 10 (.mv (kI 0))]
abbrev r3:List In:=[i1 11 (.bin .lss (.t 10) (.t 9))]
abbrev r4:List In:=[i1 12 (.iaddr 1 (.t 8) (.t 10)),
i1 13 (.load 1 false (.t 12)),
mv 3 13]
abbrev r5:List In:=[mv 15 3,
i1 16 (.call 59 [.t 15]),
mv 14 16,
i1 17 (.ext 0 (.t 14)),
i1 18 (.ext 1 (.t 14)),
mv 4 17,
mv 5 18]
abbrev r6:List In:=[mv 20 4,
i1 21 (.call 60 [.t 20]),
mv 19 21,
i1 22 (.ext 0 (.t 19)),
i1 23 (.ext 1 (.t 19)),
i1 7 (.alloc 80 [.int .i64 0,.int .i64 0]),
mv 6 22,
i0 (.store 2 (.t 7) (.t 23))]
abbrev r7:List In:=[mv 24 1,
mv 25 3,
mv 26 6,
i1 27 (.build [.str [],.raw (.slice none 0 0)] [(0,1,(.t 25)),(1,1,(.t 26))]),
i1 28 (.bsl 75 2 1 [.str [],.raw (.slice none 0 0)] [(0,2,(.t 27))]),
i1 29 (.app 67 75 2 40 (.t 24) (.t 28)),
mv 1 29]
abbrev r8:List In:=[i1 30 (.bin .add (.t 10) (kI 1)),
mv 10 30]
abbrev r9:List In:=[mv 31 1,
mv 0 31]
abbrev code:IC:=.seq (.reg r0) (.seq (.reg r1) (.seq (.seq (.reg r2) (.block 0 (.loop (.seq (.reg r3) (.seq (.cond (.t 11) .skip (.exit 0)) (.seq (.block 1 (.seq (.reg r4) (.seq (.reg r5) (.seq (.reg r6) (.reg r7))))) (.reg r8))))))) (.seq (.reg r9) .ret)))
abbrev res:List RV:=[.tmp 0]
theorem fn:Body Tryz.prog 42 32 code res:=⟨by decide,Tryz.f42,_,Tryz.func42,rfl,rfl,by kernel_rfl,by kernel_rfl⟩
end Jn
namespace Tv
abbrev r0:List In:=[mv 6 1,
i1 7 (.len (.t 6)),
i1 8 (.mv (kI 0))]
abbrev r1:List In:=[i1 9 (.bin .lss (.t 8) (.t 7))]
abbrev r2:List In:=[i1 10 (.iaddr 1 (.t 6) (.t 8)),
i1 11 (.load 1 false (.t 10)),
mv 5 11]
abbrev r3:List In:=[mv 12 5,
i1 13 (.call 102 [.t 12,(.k (.a (.str [58])))]),
i1 14 (.un .not (.t 13))]
abbrev r4:List In:=[mv 15 0,
i1 16 (.nchk (.t 15)),
i1 17 (.faddr 0 (.t 16)),
i1 18 (.call 103 [.t 17,(.k (.a (.int .u8 9)))])]
abbrev r5:List In:=[mv 19 0,
i1 20 (.nchk (.t 19)),
i1 21 (.faddr 0 (.t 20)),
mv 22 5,
i1 23 (.bin .add (.t 22) (.k (.a (.str [10])))),
i1 24 (.call 104 [.t 21,.t 23])]
abbrev r6:List In:=[i1 25 (.bin .add (.t 8) (kI 1)),
mv 8 25]
abbrev code:IC:=.seq (.reg r0) (.block 0 (.loop (.seq (.reg r1) (.seq (.cond (.t 9) .skip (.exit 0)) (.seq (.block 1 (.seq (.reg r2) (.seq (.seq (.reg r3) (.cond (.t 14) (.reg r4) .skip)) (.reg r5)))) (.reg r6))))))
abbrev res:List RV:=[]
theorem fn:Body Tryz.prog 76 26 code res:=⟨by decide,Tryz.f76,_,Tryz.func76,rfl,rfl,by kernel_rfl,by kernel_rfl⟩
end Tv
namespace Dg
abbrev r0:List In:=[i1 4 (.mv (.k (.a (.str []))))]
abbrev r1:List In:=[mv 7 1,
i1 8 (.len (.t 7)),
i1 9 (.mv (kI 0))]
abbrev r2:List In:=[i1 10 (.bin .lss (.t 9) (.t 8))]
abbrev r3:List In:=[i1 11 (.iaddr 1 (.t 7) (.t 9)),
i1 12 (.load 1 false (.t 11)),
mv 6 12]
abbrev r4:List In:=[mv 13 0,
mv 14 6,
i1 15 (.call 167 [.t 14]),
i1 16 (.call 166 [.t 13,(.k (.a (.str [37,100]))),.t 15,kI 1]),
mv 0 16]
abbrev r5:List In:=[i1 17 (.bin .add (.t 9) (kI 1)),
mv 9 17]
abbrev r6:List In:=[mv 18 0,
mv 4 18]
abbrev code:IC:=.seq (.reg r0) (.seq (.seq (.reg r1) (.block 0 (.loop (.seq (.reg r2) (.seq (.cond (.t 10) .skip (.exit 0)) (.seq (.block 1 (.seq (.reg r3) (.reg r4))) (.reg r5))))))) (.seq (.reg r6) .ret))
abbrev res:List RV:=[.tmp 4]
theorem fn:Body Tryz.prog 128 19 code res:=⟨by decide,Tryz.f128,_,Tryz.func128,rfl,rfl,by kernel_rfl,by kernel_rfl⟩
end Dg
namespace Jo
abbrev r0:List In:=[i1 6 (.mv (.k (.a (.str []))))]
abbrev r1:List In:=[mv 7 2,
i1 8 (.bin .eql (.t 7) (kI 0))]
abbrev r2:List In:=[mv 9 0,
mv 6 9]
abbrev r3:List In:=[mv 10 1,
mv 6 10]
abbrev code:IC:=.seq (.reg r0) (.seq (.seq (.reg r1) (.cond (.t 8) (.seq (.reg r2) .ret) .skip)) (.seq (.reg r3) .ret))
abbrev res:List RV:=[.tmp 6]
theorem fn:Body Tryz.prog 168 11 code res:=⟨by decide,Tryz.f168,_,Tryz.func168,rfl,rfl,by kernel_rfl,by kernel_rfl⟩
end Jo
namespace Sz
abbrev r0:List In:=[mv 13 0,
i1 14 (.nchk (.t 13)),
i1 15 (.faddr 2 (.t 14)),
i1 16 (.load 1 false (.t 15)),
i1 17 (.mv (kI 0))]
abbrev r1:List In:=[i1 18 (.bin .lss (.t 17) (.t 16))]
abbrev r2:List In:=[mv 19 17,
mv 12 19]
abbrev r3:List In:=[mv 20 0,
mv 21 1,
mv 22 2,
mv 23 12,
i1 24 (.bin .add (.t 22) (.t 23)),
i1 25 (.bsl 3 1 2 [.int .i64 0,.int .i64 0] [(0,1,(.t 21)),(1,1,(.t 24))]),
i1 26 (.call 128 [(.k (.a (.str [108,100,32,114,50,44,32,114,37,100,44,32,37,100]))),.t 25]),
i1 27 (.bsl 9 1 1 [.str []] [(0,1,(.t 26))]),
i1 28 (.call 76 [.t 20,.t 27])]
abbrev r4:List In:=[mv 29 0,
mv 30 3,
mv 31 4,
mv 32 12,
i1 33 (.call 168 [.t 30,.t 31,.t 32]),
i1 34 (.bin .add (.t 33) (.k (.a (.str [32,114,50])))),
mv 35 5,
i1 36 (.bin .add (.t 34) (.t 35)),
i1 37 (.bsl 9 1 1 [.str []] [(0,1,(.t 36))]),
i1 38 (.call 76 [.t 29,.t 37])]
abbrev r5:List In:=[mv 39 0,
mv 40 1,
mv 41 2,
mv 42 12,
i1 43 (.bin .add (.t 41) (.t 42)),
i1 44 (.bsl 3 1 2 [.int .i64 0,.int .i64 0] [(0,1,(.t 40)),(1,1,(.t 43))]),
i1 45 (.call 128 [(.k (.a (.str [115,116,32,114,37,100,44,32,114,50,44,32,37,100]))),.t 44]),
i1 46 (.bsl 9 1 1 [.str []] [(0,1,(.t 45))]),
i1 47 (.call 76 [.t 39,.t 46])]
abbrev r6:List In:=[i1 48 (.bin .add (.t 17) (kI 1)),
mv 17 48]
abbrev code:IC:=.seq (.reg r0) (.block 0 (.loop (.seq (.reg r1) (.seq (.cond (.t 18) .skip (.exit 0)) (.seq (.block 1 (.seq (.reg r2) (.seq (.reg r3) (.seq (.reg r4) (.reg r5))))) (.reg r6))))))
abbrev res:List RV:=[]
theorem fn:Body Tryz.prog 131 49 code res:=⟨by decide,Tryz.f131,_,Tryz.func131,rfl,rfl,by kernel_rfl,by kernel_rfl⟩
end Sz
namespace Qh
abbrev r0:List In:=[mv 8 0,
i1 9 (.nchk (.t 8)),
i1 10 (.faddr 2 (.t 9)),
i1 11 (.load 1 false (.t 10)),
i1 12 (.mv (kI 0))]
abbrev r1:List In:=[i1 13 (.bin .lss (.t 12) (.t 11))]
abbrev r2:List In:=[mv 14 12,
mv 6 14]
abbrev r3:List In:=[mv 15 0,
i1 16 (.nchk (.t 15)),
i1 17 (.faddr 2 (.t 16)),
i1 18 (.load 1 false (.t 17)),
i1 19 (.bin .sub (.t 18) (kI 1)),
mv 20 6,
i1 21 (.bin .sub (.t 19) (.t 20)),
mv 7 21]
abbrev r4:List In:=[mv 22 0,
mv 23 1,
mv 24 7,
i1 25 (.bsl 3 1 2 [.int .i64 0,.int .i64 0] [(0,1,(.t 23)),(1,1,(.t 24))]),
i1 26 (.call 128 [(.k (.a (.str [108,100,32,114,50,44,32,114,37,100,44,32,37,100]))),.t 25]),
mv 27 2,
mv 28 6,
i1 29 (.call 168 [.t 27,(.k (.a (.str [114,111,114]))),.t 28]),
i1 30 (.bin .add (.t 29) (.k (.a (.str [32,114,50])))),
mv 31 1,
mv 32 7,
i1 33 (.bsl 3 1 2 [.int .i64 0,.int .i64 0] [(0,1,(.t 31)),(1,1,(.t 32))]),
i1 34 (.call 128 [(.k (.a (.str [115,116,32,114,37,100,44,32,114,50,44,32,37,100]))),.t 33]),
i1 35 (.bsl 9 1 3 [.str [],.str [],.str []] [(0,1,(.t 26)),(1,1,(.t 30)),(2,1,(.t 34))]),
i1 36 (.call 76 [.t 22,.t 35])]
abbrev r5:List In:=[i1 37 (.bin .add (.t 12) (kI 1)),
mv 12 37]
abbrev code:IC:=.seq (.reg r0) (.block 0 (.loop (.seq (.reg r1) (.seq (.cond (.t 13) .skip (.exit 0)) (.seq (.block 1 (.seq (.reg r2) (.seq (.reg r3) (.reg r4)))) (.reg r5))))))
abbrev res:List RV:=[]
theorem fn:Body Tryz.prog 129 38 code res:=⟨by decide,Tryz.f129,_,Tryz.func129,rfl,rfl,by kernel_rfl,by kernel_rfl⟩
end Qh
namespace Qg
abbrev r0:List In:=[mv 15 0,
i1 16 (.nchk (.t 15)),
i1 17 (.faddr 2 (.t 16)),
i1 18 (.load 1 false (.t 17)),
i1 19 (.mv (kI 0))]
abbrev r1:List In:=[i1 20 (.bin .lss (.t 19) (.t 18))]
abbrev r2:List In:=[mv 21 19,
mv 14 21]
abbrev r3:List In:=[mv 22 0,
mv 23 1,
mv 24 14,
i1 25 (.bsl 3 1 2 [.int .i64 0,.int .i64 0] [(0,1,(.t 23)),(1,1,(.t 24))]),
i1 26 (.call 128 [(.k (.a (.str [108,100,32,114,50,44,32,114,37,100,44,32,37,100]))),.t 25]),
mv 27 2,
mv 28 3,
mv 29 14,
i1 30 (.bin .add (.t 28) (.t 29)),
i1 31 (.bsl 3 1 2 [.int .i64 0,.int .i64 0] [(0,1,(.t 27)),(1,1,(.t 30))]),
i1 32 (.call 128 [(.k (.a (.str [108,100,32,114,52,44,32,114,37,100,44,32,37,100]))),.t 31]),
mv 33 4,
mv 34 5,
mv 35 14,
i1 36 (.call 168 [.t 33,.t 34,.t 35]),
i1 37 (.bin .add (.t 36) (.k (.a (.str [32,114,50,44,32,114,52])))),
i1 38 (.bsl 9 1 3 [.str [],.str [],.str []] [(0,1,(.t 26)),(1,1,(.t 32)),(2,1,(.t 37))]),
i1 39 (.call 76 [.t 22,.t 38])]
abbrev r4:List In:=[mv 40 6]
abbrev r5:List In:=[mv 41 0,
mv 42 1,
mv 43 14,
i1 44 (.bsl 3 1 2 [.int .i64 0,.int .i64 0] [(0,1,(.t 42)),(1,1,(.t 43))]),
i1 45 (.call 128 [(.k (.a (.str [115,116,32,114,37,100,44,32,114,50,44,32,37,100]))),.t 44]),
i1 46 (.bsl 9 1 1 [.str []] [(0,1,(.t 45))]),
i1 47 (.call 76 [.t 41,.t 46])]
abbrev r6:List In:=[i1 48 (.bin .add (.t 19) (kI 1)),
mv 19 48]
abbrev code:IC:=.seq (.reg r0) (.block 0 (.loop (.seq (.reg r1) (.seq (.cond (.t 20) .skip (.exit 0)) (.seq (.block 1 (.seq (.reg r2) (.seq (.reg r3) (.seq (.reg r4) (.cond (.t 40) (.reg r5) .skip))))) (.reg r6))))))
abbrev res:List RV:=[]
theorem fn:Body Tryz.prog 130 49 code res:=⟨by decide,Tryz.f130,_,Tryz.func130,rfl,rfl,by kernel_rfl,by kernel_rfl⟩
end Qg
namespace S0
abbrev r0:List In:=[mv 5 0,
i1 6 (.nchk (.t 5)),
i1 7 (.faddr 2 (.t 6)),
i1 8 (.load 1 false (.t 7)),
i1 9 (.mv (kI 0))]
abbrev r1:List In:=[i1 10 (.bin .lss (.t 9) (.t 8))]
abbrev r2:List In:=[mv 11 9,
mv 4 11]
abbrev r3:List In:=[mv 12 0,
mv 13 1,
mv 14 0,
i1 15 (.nchk (.t 14)),
i1 16 (.faddr 2 (.t 15)),
i1 17 (.load 1 false (.t 16)),
i1 18 (.bin .sub (.t 17) (kI 1)),
mv 19 4,
i1 20 (.bin .sub (.t 18) (.t 19)),
i1 21 (.bsl 3 1 2 [.int .i64 0,.int .i64 0] [(0,1,(.t 13)),(1,1,(.t 20))]),
i1 22 (.call 128 [(.k (.a (.str [108,100,32,114,50,44,32,114,37,100,44,32,37,100]))),.t 21]),
i1 23 (.bsl 9 1 2 [.str [],.str []] [(0,1,(.t 22)),(1,1,(.k (.a (.str [112,117,115,104,32,114,50]))))]),
i1 24 (.call 76 [.t 12,.t 23])]
abbrev r4:List In:=[i1 25 (.bin .add (.t 9) (kI 1)),
mv 9 25]
abbrev code:IC:=.seq (.reg r0) (.block 0 (.loop (.seq (.reg r1) (.seq (.cond (.t 10) .skip (.exit 0)) (.seq (.block 1 (.seq (.reg r2) (.reg r3))) (.reg r4))))))
abbrev res:List RV:=[]
theorem fn:Body Tryz.prog 127 26 code res:=⟨by decide,Tryz.f127,_,Tryz.func127,rfl,rfl,by kernel_rfl,by kernel_rfl⟩
end S0
namespace S4
abbrev r0:List In:=[mv 5 0,
i1 6 (.nchk (.t 5)),
i1 7 (.faddr 2 (.t 6)),
i1 8 (.load 1 false (.t 7)),
i1 9 (.mv (kI 0))]
abbrev r1:List In:=[i1 10 (.bin .lss (.t 9) (.t 8))]
abbrev r2:List In:=[mv 11 9,
mv 4 11]
abbrev r3:List In:=[mv 12 0,
mv 13 1,
mv 14 4,
i1 15 (.bsl 3 1 2 [.int .i64 0,.int .i64 0] [(0,1,(.t 13)),(1,1,(.t 14))]),
i1 16 (.call 128 [(.k (.a (.str [108,100,32,114,50,44,32,114,37,100,44,32,37,100]))),.t 15]),
mv 17 4,
i1 18 (.call 168 [(.k (.a (.str [115,117,98]))),(.k (.a (.str [115,98,99]))),.t 17]),
i1 19 (.bin .add (.t 18) (.k (.a (.str [32,114,52,44,32,114,50])))),
mv 20 1,
mv 21 4,
i1 22 (.bsl 3 1 2 [.int .i64 0,.int .i64 0] [(0,1,(.t 20)),(1,1,(.t 21))]),
i1 23 (.call 128 [(.k (.a (.str [115,116,32,114,37,100,44,32,114,52,44,32,37,100]))),.t 22]),
i1 24 (.bsl 9 1 4 [.str [],.str [],.str [],.str []] [(0,1,(.k (.a (.str [108,100,105,32,114,52,44,32,48])))),(1,1,(.t 16)),(2,1,(.t 19)),(3,1,(.t 23))]),
i1 25 (.call 76 [.t 12,.t 24])]
abbrev r4:List In:=[i1 26 (.bin .add (.t 9) (kI 1)),
mv 9 26]
abbrev code:IC:=.seq (.reg r0) (.block 0 (.loop (.seq (.reg r1) (.seq (.cond (.t 10) .skip (.exit 0)) (.seq (.block 1 (.seq (.reg r2) (.reg r3))) (.reg r4))))))
abbrev res:List RV:=[]
theorem fn:Body Tryz.prog 135 27 code res:=⟨by decide,Tryz.f135,_,Tryz.func135,rfl,rfl,by kernel_rfl,by kernel_rfl⟩
end S4
namespace Qi
abbrev r0:List In:=[mv 4 0,
mv 5 1,
i1 6 (.bsl 3 1 1 [.int .i64 0] [(0,1,(.t 5))]),
i1 7 (.call 128 [(.k (.a (.str [108,100,105,32,114,50,44,32,37,100]))),.t 6]),
i1 8 (.bsl 9 1 3 [.str [],.str [],.str []] [(0,1,(.t 7)),(1,1,(.k (.a (.str [97,100,100,32,114,55,44,32,114,50])))),(2,1,(.k (.a (.str [114,101,116]))))]),
i1 9 (.call 76 [.t 4,.t 8])]
abbrev code:IC:=(.reg r0)
abbrev res:List RV:=[]
theorem fn:Body Tryz.prog 133 10 code res:=⟨by decide,Tryz.f133,_,Tryz.func133,rfl,rfl,by kernel_rfl,by kernel_rfl⟩
end Qi
namespace Rr
abbrev r0:List In:=[mv 2 0,
i1 3 (.bsl 9 1 3 [.str [],.str [],.str []] [(0,1,(.k (.a (.str [108,100,105,32,114,52,44,32,49])))),(1,1,(.k (.a (.str [115,117,98,32,114,51,44,32,114,52])))),(2,1,(.k (.a (.str [106,110,122,32,46,108,111,111,112]))))]),
i1 4 (.call 76 [.t 2,.t 3])]
abbrev code:IC:=(.reg r0)
abbrev res:List RV:=[]
theorem fn:Body Tryz.prog 132 5 code res:=⟨by decide,Tryz.f132,_,Tryz.func132,rfl,rfl,by kernel_rfl,by kernel_rfl⟩
end Rr
namespace Th
abbrev r0:List In:=[mv 8 0,
mv 9 1,
mv 10 2,
i1 11 (.bsl 3 1 2 [.int .i64 0,.int .i64 0] [(0,1,(.t 9)),(1,1,(.t 10))]),
i1 12 (.call 128 [(.k (.a (.str [108,100,32,114,50,44,32,114,37,100,44,32,37,100]))),.t 11]),
mv 13 3,
i1 14 (.bin .add (.k (.a (.str [106,110,99,32]))) (.t 13)),
i1 15 (.bsl 9 1 3 [.str [],.str [],.str []] [(0,1,(.t 12)),(1,1,(.k (.a (.str [115,104,108,32,114,50])))),(2,1,(.t 14))]),
i1 16 (.call 76 [.t 8,.t 15])]
abbrev code:IC:=(.reg r0)
abbrev res:List RV:=[]
theorem fn:Body Tryz.prog 134 17 code res:=⟨by decide,Tryz.f134,_,Tryz.func134,rfl,rfl,by kernel_rfl,by kernel_rfl⟩
end Th
namespace Tu
abbrev r0:List In:=[mv 3 0,
i1 4 (.call 127 [.t 3,kI 0])]
abbrev r1:List In:=[mv 5 0,
i1 6 (.call 127 [.t 5,kI 1])]
abbrev r2:List In:=[mv 7 0,
i1 8 (.bsl 9 1 1 [.str []] [(0,1,(.k (.a (.str [108,100,105,32,114,50,44,32,48]))))]),
i1 9 (.call 76 [.t 7,.t 8])]
abbrev r3:List In:=[mv 10 0,
i1 11 (.nchk (.t 10)),
i1 12 (.faddr 2 (.t 11)),
i1 13 (.load 1 false (.t 12)),
i1 14 (.mv (kI 0))]
abbrev r4:List In:=[i1 15 (.bin .lss (.t 14) (.t 13))]
abbrev r5:List In:=[mv 16 14,
mv 2 16]
abbrev r6:List In:=[mv 17 0,
mv 18 2,
i1 19 (.bsl 3 1 1 [.int .i64 0] [(0,1,(.t 18))]),
i1 20 (.call 128 [(.k (.a (.str [115,116,32,114,48,44,32,114,50,44,32,37,100]))),.t 19]),
i1 21 (.bsl 9 1 1 [.str []] [(0,1,(.t 20))]),
i1 22 (.call 76 [.t 17,.t 21])]
abbrev r7:List In:=[i1 23 (.bin .add (.t 14) (kI 1)),
mv 14 23]
abbrev r8:List In:=[mv 24 0,
mv 25 0,
i1 26 (.nchk (.t 25)),
i1 27 (.faddr 2 (.t 26)),
i1 28 (.load 1 false (.t 27)),
i1 29 (.bin .mul (kI 16) (.t 28)),
i1 30 (.bsl 3 1 1 [.int .i64 0] [(0,1,(.t 29))]),
i1 31 (.call 128 [(.k (.a (.str [108,100,105,32,114,51,44,32,37,100]))),.t 30]),
i1 32 (.bsl 9 1 2 [.str [],.str []] [(0,1,(.t 31)),(1,1,(.k (.a (.str [46,108,111,111,112,58]))))]),
i1 33 (.call 76 [.t 24,.t 32])]
abbrev r9:List In:=[mv 34 0,
i1 35 (.call 129 [.t 34,kI 7,(.k (.a (.str [115,104,114])))])]
abbrev r10:List In:=[mv 36 0,
i1 37 (.bsl 9 1 1 [.str []] [(0,1,(.k (.a (.str [106,110,99,32,46,115,107,105,112]))))]),
i1 38 (.call 76 [.t 36,.t 37])]
abbrev r11:List In:=[mv 39 0,
mv 40 0,
i1 41 (.nchk (.t 40)),
i1 42 (.faddr 2 (.t 41)),
i1 43 (.load 1 false (.t 42)),
i1 44 (.call 130 [.t 39,kI 0,kI 7,.t 43,(.k (.a (.str [97,100,100]))),(.k (.a (.str [97,100,99]))),kB true])]
abbrev r12:List In:=[mv 45 0,
i1 46 (.bsl 9 1 1 [.str []] [(0,1,(.k (.a (.str [46,115,107,105,112,58]))))]),
i1 47 (.call 76 [.t 45,.t 46])]
abbrev r13:List In:=[mv 48 0,
mv 49 0,
i1 50 (.nchk (.t 49)),
i1 51 (.faddr 2 (.t 50)),
i1 52 (.load 1 false (.t 51)),
i1 53 (.call 131 [.t 48,kI 7,.t 52,(.k (.a (.str [115,104,108]))),(.k (.a (.str [114,111,108]))),(.k (.a (.str [])))])]
abbrev r14:List In:=[mv 54 0,
i1 55 (.call 132 [.t 54])]
abbrev r15:List In:=[mv 56 0,
mv 57 0,
i1 58 (.nchk (.t 57)),
i1 59 (.faddr 2 (.t 58)),
i1 60 (.load 1 false (.t 59)),
i1 61 (.bin .mul (kI 2) (.t 60)),
i1 62 (.call 133 [.t 56,.t 61])]
abbrev code:IC:=.seq (.reg r0) (.seq (.reg r1) (.seq (.reg r2) (.seq (.seq (.reg r3) (.block 0 (.loop (.seq (.reg r4) (.seq (.cond (.t 15) .skip (.exit 0)) (.seq (.block 1 (.seq (.reg r5) (.reg r6))) (.reg r7))))))) (.seq (.reg r8) (.seq (.reg r9) (.seq (.reg r10) (.seq (.reg r11) (.seq (.reg r12) (.seq (.reg r13) (.seq (.reg r14) (.reg r15)))))))))))
abbrev res:List RV:=[]
theorem fn:Body Tryz.prog 88 63 code res:=⟨by decide,Tryz.f88,_,Tryz.func88,rfl,rfl,by kernel_rfl,by kernel_rfl⟩
theorem enters:Xr Tryz.prog 88=true:=by kernel_rfl
end Tu
namespace Tt
abbrev r0:List In:=[mv 6 0,
i1 7 (.bsl 9 1 1 [.str []] [(0,1,(.k (.a (.str [108,100,32,114,50,44,32,114,49,44,32,48]))))]),
i1 8 (.call 76 [.t 6,.t 7])]
abbrev r1:List In:=[i1 4 (.mv (kI 1))]
abbrev r2:List In:=[mv 9 4,
mv 10 0,
i1 11 (.nchk (.t 10)),
i1 12 (.faddr 2 (.t 11)),
i1 13 (.load 1 false (.t 12)),
i1 14 (.bin .lss (.t 9) (.t 13))]
abbrev r3:List In:=[mv 17 0,
mv 18 4,
i1 19 (.bsl 3 1 1 [.int .i64 0] [(0,1,(.t 18))]),
i1 20 (.call 128 [(.k (.a (.str [108,100,32,114,52,44,32,114,49,44,32,37,100]))),.t 19]),
i1 21 (.bsl 9 1 2 [.str [],.str []] [(0,1,(.t 20)),(1,1,(.k (.a (.str [111,114,32,114,50,44,32,114,52]))))]),
i1 22 (.call 76 [.t 17,.t 21])]
abbrev r4:List In:=[mv 15 4,
i1 16 (.bin .add (.t 15) (kI 1)),
mv 4 16]
abbrev r5:List In:=[mv 23 0,
i1 24 (.bsl 9 1 6 [.str [],.str [],.str [],.str [],.str [],.str []] [(0,1,(.k (.a (.str [108,100,105,32,114,52,44,32,48])))),(1,1,(.k (.a (.str [99,109,112,32,114,50,44,32,114,52])))),(2,1,(.k (.a (.str [106,110,122,32,46,111,107])))),(3,1,(.k (.a (.str [116,114,97,112,32,49])))),(4,1,(.k (.a (.str [46,111,107,58])))),(5,1,(.k (.a (.str [108,100,105,32,114,50,44,32,48]))))]),
i1 25 (.call 76 [.t 23,.t 24])]
abbrev r6:List In:=[mv 26 0,
i1 27 (.nchk (.t 26)),
i1 28 (.faddr 2 (.t 27)),
i1 29 (.load 1 false (.t 28)),
i1 30 (.mv (kI 0))]
abbrev r7:List In:=[i1 31 (.bin .lss (.t 30) (.t 29))]
abbrev r8:List In:=[mv 32 0,
i1 33 (.bsl 9 1 1 [.str []] [(0,1,(.k (.a (.str [112,117,115,104,32,114,50]))))]),
i1 34 (.call 76 [.t 32,.t 33])]
abbrev r9:List In:=[i1 35 (.bin .add (.t 30) (kI 1)),
mv 30 35]
abbrev r10:List In:=[mv 36 0,
mv 37 0,
i1 38 (.nchk (.t 37)),
i1 39 (.faddr 2 (.t 38)),
i1 40 (.load 1 false (.t 39)),
i1 41 (.bin .mul (kI 16) (.t 40)),
i1 42 (.bsl 3 1 1 [.int .i64 0] [(0,1,(.t 41))]),
i1 43 (.call 128 [(.k (.a (.str [108,100,105,32,114,51,44,32,37,100]))),.t 42]),
i1 44 (.bsl 9 1 2 [.str [],.str []] [(0,1,(.t 43)),(1,1,(.k (.a (.str [46,108,111,111,112,58]))))]),
i1 45 (.call 76 [.t 36,.t 44])]
abbrev r11:List In:=[mv 46 0,
i1 47 (.call 131 [.t 46,kI 0,kI 0,(.k (.a (.str [115,104,108]))),(.k (.a (.str [114,111,108]))),(.k (.a (.str [])))])]
abbrev r12:List In:=[mv 48 0,
i1 49 (.call 131 [.t 48,kI 7,kI 0,(.k (.a (.str [114,111,108]))),(.k (.a (.str [114,111,108]))),(.k (.a (.str [])))])]
abbrev r13:List In:=[mv 50 0,
i1 51 (.bsl 9 1 1 [.str []] [(0,1,(.k (.a (.str [106,99,32,46,116,97,107,101]))))]),
i1 52 (.call 76 [.t 50,.t 51])]
abbrev r14:List In:=[mv 53 0,
i1 54 (.call 130 [.t 53,kI 7,kI 1,kI 0,(.k (.a (.str [99,109,112]))),(.k (.a (.str [99,112,99]))),kB false])]
abbrev r15:List In:=[mv 55 0,
i1 56 (.bsl 9 1 2 [.str [],.str []] [(0,1,(.k (.a (.str [106,99,32,46,110,101,120,116])))),(1,1,(.k (.a (.str [46,116,97,107,101,58]))))]),
i1 57 (.call 76 [.t 55,.t 56])]
abbrev r16:List In:=[mv 58 0,
i1 59 (.call 130 [.t 58,kI 7,kI 1,kI 0,(.k (.a (.str [115,117,98]))),(.k (.a (.str [115,98,99]))),kB true])]
abbrev r17:List In:=[mv 60 0,
i1 61 (.bsl 9 1 5 [.str [],.str [],.str [],.str [],.str []] [(0,1,(.k (.a (.str [108,100,32,114,50,44,32,114,48,44,32,48])))),(1,1,(.k (.a (.str [108,100,105,32,114,52,44,32,49])))),(2,1,(.k (.a (.str [111,114,32,114,50,44,32,114,52])))),(3,1,(.k (.a (.str [115,116,32,114,48,44,32,114,50,44,32,48])))),(4,1,(.k (.a (.str [46,110,101,120,116,58]))))]),
i1 62 (.call 76 [.t 60,.t 61])]
abbrev r18:List In:=[mv 63 0,
i1 64 (.call 132 [.t 63])]
abbrev r19:List In:=[i1 5 (.mv (kI 0))]
abbrev r20:List In:=[mv 65 5,
mv 66 0,
i1 67 (.nchk (.t 66)),
i1 68 (.faddr 2 (.t 67)),
i1 69 (.load 1 false (.t 68)),
i1 70 (.bin .lss (.t 65) (.t 69)),
mv 71 70,
i2 71 true 72 (.mv (.t 1)),
i1 73 (.pick (.t 71) (.t 72) (kB false))]
abbrev r21:List In:=[mv 76 0,
mv 77 5,
i1 78 (.bsl 3 1 1 [.int .i64 0] [(0,1,(.t 77))]),
i1 79 (.call 128 [(.k (.a (.str [108,100,32,114,50,44,32,114,55,44,32,37,100]))),.t 78]),
mv 80 5,
i1 81 (.bsl 3 1 1 [.int .i64 0] [(0,1,(.t 80))]),
i1 82 (.call 128 [(.k (.a (.str [115,116,32,114,48,44,32,114,50,44,32,37,100]))),.t 81]),
i1 83 (.bsl 9 1 2 [.str [],.str []] [(0,1,(.t 79)),(1,1,(.t 82))]),
i1 84 (.call 76 [.t 76,.t 83])]
abbrev r22:List In:=[mv 74 5,
i1 75 (.bin .add (.t 74) (kI 1)),
mv 5 75]
abbrev r23:List In:=[mv 85 0,
mv 86 0,
i1 87 (.nchk (.t 86)),
i1 88 (.faddr 2 (.t 87)),
i1 89 (.load 1 false (.t 88)),
i1 90 (.call 133 [.t 85,.t 89])]
abbrev code:IC:=.seq (.reg r0) (.seq (.seq (.reg r1) (.block 0 (.loop (.seq (.seq (.reg r2) (.cond (.t 14) .skip (.exit 0))) (.seq (.block 1 (.reg r3)) (.reg r4)))))) (.seq (.reg r5) (.seq (.seq (.reg r6) (.block 2 (.loop (.seq (.reg r7) (.seq (.cond (.t 31) .skip (.exit 2)) (.seq (.block 3 (.reg r8)) (.reg r9))))))) (.seq (.reg r10) (.seq (.reg r11) (.seq (.reg r12) (.seq (.reg r13) (.seq (.reg r14) (.seq (.reg r15) (.seq (.reg r16) (.seq (.reg r17) (.seq (.reg r18) (.seq (.seq (.reg r19) (.block 4 (.loop (.seq (.seq (.reg r20) (.cond (.t 73) .skip (.exit 4))) (.seq (.block 5 (.reg r21)) (.reg r22)))))) (.reg r23))))))))))))))
abbrev res:List RV:=[]
theorem fn:Body Tryz.prog 90 91 code res:=⟨by decide,Tryz.f90,_,Tryz.func90,rfl,rfl,by kernel_rfl,by kernel_rfl⟩
end Tt
namespace Vw
abbrev r0:List In:=[mv 4 0,
mv 5 0,
i1 6 (.nchk (.t 5)),
i1 7 (.faddr 2 (.t 6)),
i1 8 (.load 1 false (.t 7)),
i1 9 (.bin .sub (.t 8) (kI 1)),
i1 10 (.bsl 3 1 1 [.int .i64 0] [(0,1,(.t 9))]),
i1 11 (.call 128 [(.k (.a (.str [108,100,32,114,53,44,32,114,48,44,32,37,100]))),.t 10]),
i1 12 (.bsl 9 1 1 [.str []] [(0,1,(.t 11))]),
i1 13 (.call 76 [.t 4,.t 12])]
abbrev r1:List In:=[mv 14 1,
i1 15 (.un .not (.t 14))]
abbrev r2:List In:=[mv 16 0,
mv 17 0,
i1 18 (.nchk (.t 17)),
i1 19 (.faddr 2 (.t 18)),
i1 20 (.load 1 false (.t 19)),
i1 21 (.bin .sub (.t 20) (kI 1)),
i1 22 (.bsl 3 1 1 [.int .i64 0] [(0,1,(.t 21))]),
i1 23 (.call 128 [(.k (.a (.str [108,100,32,114,50,44,32,114,49,44,32,37,100]))),.t 22]),
i1 24 (.bsl 9 1 2 [.str [],.str []] [(0,1,(.t 23)),(1,1,(.k (.a (.str [120,111,114,32,114,53,44,32,114,50]))))]),
i1 25 (.call 76 [.t 16,.t 24])]
abbrev r3:List In:=[mv 26 0,
i1 27 (.bsl 9 1 1 [.str []] [(0,1,(.k (.a (.str [112,117,115,104,32,114,53]))))]),
i1 28 (.call 76 [.t 26,.t 27])]
abbrev r4:List In:=[mv 29 0,
i1 30 (.call 127 [.t 29,kI 1])]
abbrev r5:List In:=[mv 31 0,
i1 32 (.bsl 9 1 1 [.str []] [(0,1,(.k (.a (.str [109,111,118,32,114,49,44,32,114,55]))))]),
i1 33 (.call 76 [.t 31,.t 32])]
abbrev r6:List In:=[mv 34 0,
mv 35 0,
i1 36 (.nchk (.t 35)),
i1 37 (.faddr 2 (.t 36)),
i1 38 (.load 1 false (.t 37)),
i1 39 (.bin .sub (.t 38) (kI 1)),
i1 40 (.call 134 [.t 34,kI 1,.t 39,(.k (.a (.str [46,111,118,101,114])))])]
abbrev r7:List In:=[mv 41 0,
i1 42 (.call 135 [.t 41,kI 1])]
abbrev r8:List In:=[mv 43 0,
i1 44 (.bsl 9 1 1 [.str []] [(0,1,(.k (.a (.str [46,111,118,101,114,58]))))]),
i1 45 (.call 76 [.t 43,.t 44])]
abbrev r9:List In:=[mv 46 0,
mv 47 0,
i1 48 (.nchk (.t 47)),
i1 49 (.faddr 2 (.t 48)),
i1 50 (.load 1 false (.t 49)),
i1 51 (.bin .sub (.t 50) (kI 1)),
i1 52 (.call 134 [.t 46,kI 0,.t 51,(.k (.a (.str [46,98,111,116,104])))])]
abbrev r10:List In:=[mv 53 0,
i1 54 (.call 135 [.t 53,kI 0])]
abbrev r11:List In:=[mv 55 0,
i1 56 (.bsl 9 1 1 [.str []] [(0,1,(.k (.a (.str [46,98,111,116,104,58]))))]),
i1 57 (.call 76 [.t 55,.t 56])]
abbrev r12:List In:=[mv 58 1]
abbrev r13:List In:=[mv 59 0,
mv 60 0,
i1 61 (.nchk (.t 60)),
i1 62 (.faddr 2 (.t 61)),
i1 63 (.load 1 false (.t 62)),
i1 64 (.bsl 3 1 1 [.int .i64 0] [(0,1,(.t 63))]),
i1 65 (.call 128 [(.k (.a (.str [99,97,108,108,32,117,114,101,109,37,100]))),.t 64]),
i1 66 (.bsl 9 1 1 [.str []] [(0,1,(.t 65))]),
i1 67 (.call 76 [.t 59,.t 66])]
abbrev r14:List In:=[mv 68 0,
mv 69 0,
i1 70 (.nchk (.t 69)),
i1 71 (.faddr 2 (.t 70)),
i1 72 (.load 1 false (.t 71)),
i1 73 (.bsl 3 1 1 [.int .i64 0] [(0,1,(.t 72))]),
i1 74 (.call 128 [(.k (.a (.str [99,97,108,108,32,117,100,105,118,37,100]))),.t 73]),
i1 75 (.bsl 9 1 1 [.str []] [(0,1,(.t 74))]),
i1 76 (.call 76 [.t 68,.t 75])]
abbrev r15:List In:=[mv 77 0,
mv 78 0,
i1 79 (.nchk (.t 78)),
i1 80 (.faddr 2 (.t 79)),
i1 81 (.load 1 false (.t 80)),
i1 82 (.call 134 [.t 77,kI 7,.t 81,(.k (.a (.str [46,100,111,110,101])))])]
abbrev r16:List In:=[mv 83 0,
i1 84 (.call 135 [.t 83,kI 0])]
abbrev r17:List In:=[mv 85 0,
i1 86 (.bsl 9 1 1 [.str []] [(0,1,(.k (.a (.str [46,100,111,110,101,58]))))]),
i1 87 (.call 76 [.t 85,.t 86])]
abbrev r18:List In:=[mv 88 0,
mv 89 0,
i1 90 (.nchk (.t 89)),
i1 91 (.faddr 2 (.t 90)),
i1 92 (.load 1 false (.t 91)),
i1 93 (.bin .add (.t 92) (kI 1)),
i1 94 (.call 133 [.t 88,.t 93])]
abbrev code:IC:=.seq (.reg r0) (.seq (.seq (.reg r1) (.cond (.t 15) (.reg r2) .skip)) (.seq (.reg r3) (.seq (.reg r4) (.seq (.reg r5) (.seq (.reg r6) (.seq (.reg r7) (.seq (.reg r8) (.seq (.reg r9) (.seq (.reg r10) (.seq (.reg r11) (.seq (.seq (.reg r12) (.cond (.t 58) (.reg r13) (.reg r14))) (.seq (.reg r15) (.seq (.reg r16) (.seq (.reg r17) (.reg r18)))))))))))))))
abbrev res:List RV:=[]
theorem fn:Body Tryz.prog 93 95 code res:=⟨by decide,Tryz.f93,_,Tryz.func93,rfl,rfl,by kernel_rfl,by kernel_rfl⟩
end Vw
namespace Wx
abbrev r0:List In:=[mv 4 0,
mv 5 0,
i1 6 (.nchk (.t 5)),
i1 7 (.faddr 2 (.t 6)),
i1 8 (.load 1 false (.t 7)),
i1 9 (.bin .mul (kI 16) (.t 8)),
i1 10 (.bsl 3 1 1 [.int .i64 0] [(0,1,(.t 9))]),
i1 11 (.call 128 [(.k (.a (.str [108,100,105,32,114,52,44,32,37,100]))),.t 10]),
i1 12 (.bsl 9 1 9 [.str [],.str [],.str [],.str [],.str [],.str [],.str [],.str [],.str []] [(0,1,(.k (.a (.str [108,100,32,114,51,44,32,114,49,44,32,48])))),(1,1,(.t 11)),(2,1,(.k (.a (.str [99,109,112,32,114,51,44,32,114,52])))),(3,1,(.k (.a (.str [106,99,32,46,108,111,111,112])))),(4,1,(.k (.a (.str [109,111,118,32,114,51,44,32,114,52])))),(5,1,(.k (.a (.str [46,108,111,111,112,58])))),(6,1,(.k (.a (.str [108,100,105,32,114,52,44,32,48])))),(7,1,(.k (.a (.str [99,109,112,32,114,51,44,32,114,52])))),(8,1,(.k (.a (.str [106,122,32,46,100,111,110,101]))))]),
i1 13 (.call 76 [.t 4,.t 12])]
abbrev r1:List In:=[mv 14 1,
i1 15 (.bin .eql (.t 14) (.k (.a (.str [115,104,108]))))]
abbrev r2:List In:=[mv 16 0,
i1 17 (.call 131 [.t 16,kI 0,kI 0,(.k (.a (.str [115,104,108]))),(.k (.a (.str [114,111,108]))),(.k (.a (.str [])))])]
abbrev r3:List In:=[mv 18 0,
mv 19 1,
i1 20 (.call 129 [.t 18,kI 0,.t 19])]
abbrev r4:List In:=[mv 21 0,
i1 22 (.bsl 9 1 5 [.str [],.str [],.str [],.str [],.str []] [(0,1,(.k (.a (.str [108,100,105,32,114,52,44,32,49])))),(1,1,(.k (.a (.str [115,117,98,32,114,51,44,32,114,52])))),(2,1,(.k (.a (.str [106,109,112,32,46,108,111,111,112])))),(3,1,(.k (.a (.str [46,100,111,110,101,58])))),(4,1,(.k (.a (.str [114,101,116]))))]),
i1 23 (.call 76 [.t 21,.t 22])]
abbrev code:IC:=.seq (.reg r0) (.seq (.seq (.reg r1) (.cond (.t 15) (.reg r2) (.reg r3))) (.reg r4))
abbrev res:List RV:=[]
theorem fn:Body Tryz.prog 96 24 code res:=⟨by decide,Tryz.f96,_,Tryz.func96,rfl,rfl,by kernel_rfl,by kernel_rfl⟩
end Wx
namespace Q4
abbrev r0:List In:=[mv 2 0,
i1 3 (.call 90 [.t 2,kB false])]
abbrev code:IC:=(.reg r0)
abbrev res:List RV:=[]
theorem fn:Body Tryz.prog 89 4 code res:=⟨by decide,Tryz.f89,_,Tryz.func89,rfl,rfl,by kernel_rfl,by kernel_rfl⟩
theorem enters:Xr Tryz.prog 89=true:=by kernel_rfl
end Q4
namespace Q5
abbrev r0:List In:=[mv 2 0,
i1 3 (.call 90 [.t 2,kB true])]
abbrev code:IC:=(.reg r0)
abbrev res:List RV:=[]
theorem fn:Body Tryz.prog 91 4 code res:=⟨by decide,Tryz.f91,_,Tryz.func91,rfl,rfl,by kernel_rfl,by kernel_rfl⟩
theorem enters:Xr Tryz.prog 91=true:=by kernel_rfl
end Q5
namespace Q6
abbrev r0:List In:=[mv 2 0,
i1 3 (.call 93 [.t 2,kB false])]
abbrev code:IC:=(.reg r0)
abbrev res:List RV:=[]
theorem fn:Body Tryz.prog 92 4 code res:=⟨by decide,Tryz.f92,_,Tryz.func92,rfl,rfl,by kernel_rfl,by kernel_rfl⟩
theorem enters:Xr Tryz.prog 92=true:=by kernel_rfl
end Q6
namespace Q7
abbrev r0:List In:=[mv 2 0,
i1 3 (.call 93 [.t 2,kB true])]
abbrev code:IC:=(.reg r0)
abbrev res:List RV:=[]
theorem fn:Body Tryz.prog 94 4 code res:=⟨by decide,Tryz.f94,_,Tryz.func94,rfl,rfl,by kernel_rfl,by kernel_rfl⟩
theorem enters:Xr Tryz.prog 94=true:=by kernel_rfl
end Q7
namespace Q8
abbrev r0:List In:=[mv 2 0,
i1 3 (.call 96 [.t 2,(.k (.a (.str [115,104,108])))])]
abbrev code:IC:=(.reg r0)
abbrev res:List RV:=[]
theorem fn:Body Tryz.prog 95 4 code res:=⟨by decide,Tryz.f95,_,Tryz.func95,rfl,rfl,by kernel_rfl,by kernel_rfl⟩
theorem enters:Xr Tryz.prog 95=true:=by kernel_rfl
end Q8
namespace Q9
abbrev r0:List In:=[mv 2 0,
i1 3 (.call 96 [.t 2,(.k (.a (.str [115,104,114])))])]
abbrev code:IC:=(.reg r0)
abbrev res:List RV:=[]
theorem fn:Body Tryz.prog 97 4 code res:=⟨by decide,Tryz.f97,_,Tryz.func97,rfl,rfl,by kernel_rfl,by kernel_rfl⟩
theorem enters:Xr Tryz.prog 97=true:=by kernel_rfl
end Q9
namespace Pa
abbrev r0:List In:=[mv 2 0,
i1 3 (.call 96 [.t 2,(.k (.a (.str [115,97,114])))])]
abbrev code:IC:=(.reg r0)
abbrev res:List RV:=[]
theorem fn:Body Tryz.prog 98 4 code res:=⟨by decide,Tryz.f98,_,Tryz.func98,rfl,rfl,by kernel_rfl,by kernel_rfl⟩
theorem enters:Xr Tryz.prog 98=true:=by kernel_rfl
end Pa
end Go.Proofs.YtbmecnjmbhokgaaGreatDoor
namespace Go.Proofs.YtbmecnjmbhokgaaGreatDoor
open Go Go.RowKit Vc
set_option linter.unusedVariables false
set_option linter.unusedSimpArgs false
attribute [local irreducible] T Za Zn Ent RdC RwC Yj Zf Zi
set_option maxHeartbeats 1000000 in
set_option maxRecDepth 100000 in
theorem D1(b:Nat)(w:World)(h0:w.cell? ⟨b,0,none⟩=some (.pointer none))(hsh:w.shape? b=some (131,3))(hfz:w.frozen? ⟨b,0,none⟩=false):
 Calls Tryz.prog 148 #[.pointer (some ⟨b,0,none⟩)] w fun e w'=>e= .returned (.tuple #[])∧w'=w.setCell ⟨b,0,none⟩ (.pointer (some ⟨b,0,none⟩)):=by
 obtain⟨j,hj,hjs⟩:∃j,Tryz.prog.info? 129=some j∧j.size=2:=Option.map_eq_some_iff.1 (by kernel_rfl:(Tryz.prog.info? 129).map (·.size)=some 2)
 go_enter Tryz.func148,Tryz.ntmps148
 go_wp2
 rw[Lib.run_to_unsafe w ⟨b,0,none⟩ Tryz.underlying127 Tryz.underlying220 hj (by rw[hjs];decide) hsh (Nat.zero_lt_succ 2)]
 simp only[Result.andThen]
 rw[Oper.upon_value]
 go_wp2
 rw[run_callFunc_extern Tryz.func175 (by kernel_rfl) (by kernel_rfl) (by kernel_rfl) (e:=Extern.AbiNoEscape.same) (by kernel_rfl)]
 rw[Lib.run_noEscape]
 simp only[Result.andThen]
 rw[Oper.upon_value]
 go_wp2
 rw[Lib.run_from_unsafe w ⟨b,0,none⟩ Tryz.underlying220 Tryz.underlying127 hj hsh (by kernel_rfl)]
 simp only[Result.andThen]
 rw[Oper.upon_value]
 go_wp2
 go_end0
 exact⟨rfl,rfl⟩
theorem Ic(n:Int)(l:Bytes):
 GC Tryz.prog 148 [.a (.loc 0 0)] [(0,.cells 131 [.loc 0 0,.ref 1,.int .i64 n]),(1,.row 5 (.int .u8) l)] 2 [0,1] (.tup []) [(0,.cells 131 [.loc 0 0,.ref 1,.int .i64 n]),(1,.row 5 (.int .u8) l)] 2:=by
 refine⟨(by simp[Zu,Zw,Zv,Zj,Ze,Vc.S1.okN,At.okN,SV.okN,Res.okN,Res.outOk,Zo,Res.own,Value.oneCell']),fun ρ w hm=> ?_⟩
 obtain⟨b,hb,hcell⟩:=hm.res 0 _ (List.mem_cons_self ..)
 have h1:S1.den ρ (.a (.loc 0 0))= .pointer (some ⟨b,0,none⟩):=by simp[S1.den,At.den,Wl,hb]
 simp only[List.map_cons,List.map_nil,h1]
 refine(Ib b w ?_).mono fun e w' ⟨he,hw⟩=>⟨ρ,fun _ _=>rfl,he,hw▸hm⟩
 rw[Lib.cell_of_heap hcell]
 show some (Wl (ρ 0) 0)=_
 rw[hb];rfl
theorem D2(n:Int):
 GC Tryz.prog 148 [.a (.loc 0 0)] [(0,.cells 131 [.raw (.pointer none),.raw (.slice none 0 0),.int .i64 n])] 1 [0] (.tup []) [(0,.cells 131 [.loc 0 0,.raw (.slice none 0 0),.int .i64 n])] 1:=by
 refine⟨(by simp[Zu,Zw,Zv,Zj,Ze,Vc.S1.okN,At.okN,SV.okN,Res.okN,Res.outOk,Zo,Res.own,Value.oneCell']),fun ρ w hm=> ?_⟩
 obtain⟨b,hb,hcell⟩:=hm.res 0 _ (List.mem_cons_self ..)
 have h1:S1.den ρ (.a (.loc 0 0))= .pointer (some ⟨b,0,none⟩):=by simp[S1.den,At.den,Wl,hb]
 simp only[List.map_cons,List.map_nil,h1]
 refine(D1 b w ?_ ?_ ?_).mono fun e w' ⟨he,hw⟩=>⟨ρ,fun _ _=>rfl,he,hw▸ ?_⟩
 ·rw[Lib.cell_of_heap hcell];rfl
 ·simp[World.shape?,hcell]
 ·simp[World.frozen?,hcell]
 ·have hh:(w.setCell ⟨b,0,none⟩ (.pointer (some ⟨b,0,none⟩))).heap[b]? =some (.cells #[.pointer (some ⟨b,0,none⟩),.slice none 0 0,.int .i64 n] 131 (0,0)):=by
   simp only[World.setCell,Array.getElem?_modify,hcell,if_true,Option.map_some]
   rfl
  have:=hm.rewrite (w':=w.setCell ⟨b,0,none⟩ (.pointer (some ⟨b,0,none⟩))) (r':=.cells 131 [.loc 0 0,.raw (.slice none 0 0),.int .i64 n]) (g:=b) (List.mem_cons_self ..) (by simp[Res.block,hb]) (by simp[Res.block,hb]) rfl rfl rfl
   (by simp[World.setCell]) (fun k hk=>by simp only[World.setCell,Array.getElem?_modify];rw[if_neg (fun e=>hk e.symm)]) (by simp[Res.bd,At.bd,Value.oneCell']) (fun O'=>⟨b,hb,by rw[hh];simp[At.den,Wl,hb]⟩)
  simpa[upd,del]using this
theorem Mm(n:Int)(a s:List UInt8)(h:a.length+s.length≤140737488355328):
 GC Tryz.prog 104 [.a (.loc 0 0),.a (.str s)] [(0,.cells 131 [.loc 0 0,.ref 1,.int .i64 n]),(1,.row 5 (.int .u8) (bytesI a))] 2 [0] (.tup [.a (.int .i64 s.length),.a (.raw .nilIface)]) [(0,.cells 131 [.loc 0 0,.ref 2,.int .i64 n]),(2,.row 5 (.int .u8) (bytesI (a++s)))] 3:=by
 rw[←Zas]
 have hl:=J5 a
 generalize bytesI a=l at*
 refine Xf.fn.gc (by simp) (by simp[Zu,Zw,Zv,Zj,Ze,Vc.S1.okN,At.okN,SV.okN,Res.okN,Res.outOk,Zo,Res.own,Value.oneCell']) fun w X fr=> ?_
 repeat'(first|(first|refine Stp.h ?_|(refine Za.gc (Ic n l) ?_ ?_;focus simp[Zb]))<;>try simp only[Zd,simprocAttr,↓reduceIte,reduceCtorEq,implies_true]|(with_reducible first|assumption|refine And.intro ?_ ?_)|(intro h;first|omega|exact tg h ‹_›|exact tg ‹_› h|skip))
 all_goals first|omega|skip
theorem Nv(n:Int)(s:List UInt8)(h:s.length≤140737488355328):
 GC Tryz.prog 104 [.a (.loc 0 0),.a (.str s)] [(0,.cells 131 [.raw (.pointer none),.raw (.slice none 0 0),.int .i64 n])] 1 [0] (.tup [.a (.int .i64 s.length),.a (.raw .nilIface)]) [(0,.cells 131 [.loc 0 0,.ref 1,.int .i64 n]),(1,.row 5 (.int .u8) (bytesI s))] 2:=by
 refine Xf.fn.gc (by simp) (by simp[Zu,Zw,Zv,Zj,Ze,Vc.S1.okN,At.okN,SV.okN,Res.okN,Res.outOk,Zo,Res.own,Value.oneCell']) fun w X fr=> ?_
 repeat'(first|(first|refine Stp.h ?_|(refine Za.gc (D2 n) ?_ ?_;focus simp[Zb]))<;>try simp only[Zd,simprocAttr,↓reduceIte,reduceCtorEq,implies_true]|(with_reducible first|assumption|refine And.intro ?_ ?_)|(intro h;first|omega|exact tg h ‹_›|exact tg ‹_› h|skip))
 all_goals first|omega|skip
theorem Zao(n:Int)(a:List UInt8)(h:a.length+1≤140737488355328):
 GC Tryz.prog 103 [.a (.loc 0 0),.a (.int .u8 9)] [(0,.cells 131 [.loc 0 0,.ref 1,.int .i64 n]),(1,.row 5 (.int .u8) (bytesI a))] 2 [0] (.one (.a (.raw .nilIface))) [(0,.cells 131 [.loc 0 0,.ref 2,.int .i64 n]),(2,.row 5 (.int .u8) (bytesI (a++[9])))] 3:=by
 have e:bytesI (a++[9])=bytesI a++[9]:=(Dt a 9).symm
 rw[e]
 have hl:=J5 a
 generalize bytesI a=l at*
 refine Wy.fn.gc (by simp) (by simp[Zu,Zw,Zv,Zj,Ze,Vc.S1.okN,At.okN,SV.okN,Res.okN,Res.outOk,Zo,Res.own,Value.oneCell']) fun w X fr=> ?_
 repeat'(first|(first|refine Stp.h ?_|(refine Za.gc (Ic n l) ?_ ?_;focus simp[Zb]))<;>try simp only[Zd,simprocAttr,↓reduceIte,reduceCtorEq,implies_true]|(with_reducible first|assumption|refine And.intro ?_ ?_)|(intro h;first|omega|exact tg h ‹_›|exact tg ‹_› h|skip))
 all_goals first|omega|skip
def Lw(s:List UInt8):List UInt8:=(if Lib.hasSuffix s [58]=true then s else 9::s)++[10]
def putS(ls:List (List UInt8)):List UInt8:=(ls.map Lw).flatten
theorem Qt(a b:List (List UInt8)):putS (a++b)=putS a++putS b:=by simp[putS]
theorem Zfp(ls:List (List UInt8))(k:Nat):(putS (ls.take k)).length≤(putS ls).length:=by
 conv=>rhs;rw[←List.take_append_drop k ls,Qt]
 simp
theorem Hs(G:Nat)(H:Nat→Option Obj)(s p:List UInt8)(hs:s.length≤9223372036854775807):
 GCp G H Tryz.prog 102 [.a (.str s),.a (.str p)] [] 0 [] (.one (.a (.bool (Lib.hasSuffix s p)))) [] 0:=
 GCp.plain (by simp[S1.bd,At.bd]) (by simp[SV.bd,S1.bd,At.bd]) (by simp[Zu,Zw,Zv,Zj,Ze,Vc.S1.okN,At.okN,SV.okN,Res.okN,Res.outOk,Zo,Res.own,Value.oneCell']) fun w hg=>
  (Tryz.strings_HasSuffix ⟨s.toArray⟩ ⟨p.toArray⟩ w (by simpa[ByteArray.size]using hs)).mono fun e w' ⟨he,hw⟩=>⟨he,hw▸Below.refl _ _⟩
theorem Ml(s p:List UInt8)(hs:s.length≤9223372036854775807):
 GC Tryz.prog 102 [.a (.str s),.a (.str p)] [] 0 [] (.one (.a (.bool (Lib.hasSuffix s p)))) [] 0:=(Hs 0 (fun _=>none) s p hs).gc
set_option maxHeartbeats 4000000 in
theorem Zr(n:Int)(acc:List UInt8)(ls:List (List UInt8))(hb:acc.length+(putS ls).length≤1000000)(hl:ls.length≤1000000):
 GC Tryz.prog 76 [.a (.loc 0 0),.a (.ref 2)] [(0,.cells 131 [.loc 0 0,.ref 1,.int .i64 n]),(1,.row 5 (.int .u8) (bytesI acc)),(2,.ro .str ls)] 3 [0] (.tup []) [(0,.cells 131 [.loc 0 0,.ref 3,.int .i64 n]),(3,.row 5 (.int .u8) (bytesI (acc++putS ls)))] 4:=by
 refine Tv.fn.gc (by simp) (by simp[Zu,Zw,Zv,Zj,Ze,Vc.S1.okN,At.okN,SV.okN,Res.okN,Res.outOk,Zo,Res.own,Value.oneCell']) fun w X fr=> ?_
 repeat'(first|(first|refine Stp.h ?_)<;>try simp only[Zd,simprocAttr,↓reduceIte,reduceCtorEq,implies_true]|(with_reducible first|assumption|refine And.intro ?_ ?_)|(intro h;first|omega|exact tg h ‹_›|exact tg ‹_› h|skip))
 all_goals first|omega|skip
 refine T.loop (ι:= {k:Nat//k≤ls.length})
  (fun x=>⟨[(8,.one (.a (.int .i64 (x.1:Int)))),(7,.one (.a (.int .i64 ls.length))),(6,.one (.a (.ref 2))),(0,.one (.a (.loc 0 0))),(1000000,.one (.a (.ref 0)))],
    [(0,.cells 131 [.loc 0 0,.ref 1,.int .i64 n]),(1,.row 5 (.int .u8) (bytesI (acc++putS (ls.take x.1)))),(2,.ro .str ls)],3⟩) (fun x=>ls.length-x.1) ⟨0,by simp⟩ (Ent.mk1 (id) (by simp[Zy,putS])) ?_
 rintro⟨k,hk⟩
 simp only
 by_cases hlt:k<ls.length
 ·generalize hx:ls[k]=x
  have hx':ls.getD k (Kd.dflt .str)=x:=by show ls.getD k []=x;simp[List.getD,hlt,hx]
  have htk:putS (ls.take (k+1))=putS (ls.take k)++Lw x:=by
   rw[List.take_add_one,List.getElem?_eq_getElem hlt,hx,Qt]
   simp[putS]
  have hle:=Zfp ls (k+1)
  rw[htk]at hle
  simp only[List.length_append]at hle
  have hxl:x.length+1≤(Lw x).length:=by unfold Lw;split<;>simp
  have hpl:(Lw x).length≤x.length+2:=by unfold Lw;split<;>simp
  have hw:IntKind.i64.wrap ((k:Int)+1)=((k+1:Nat):Int):=Zx (by omega)
  have ht:((k:Int)).toNat=k:=by omega
  generalize ha:acc++putS (ls.take k)=a
  have hal:a.length=acc.length+(putS (ls.take k)).length:=by rw[←ha];simp
  have ha2:acc++putS (ls.take (k+1))=a++Lw x:=by rw[htk,←ha,List.append_assoc]
  have hS:=Ml x [58] (by omega)
  cases hsf:Lib.hasSuffix x [58]
  ·rw[hsf]at hS
   have hp:Lw x=[9]++(x++[10]):=by unfold Lw;rw[hsf];rfl
   have hB:=Zao n a (by omega)
   have hW:=Mm n (a++[9]) (x++[10]) (by simp only[List.length_append,List.length_cons,List.length_nil];omega)
   have ha3:(a++[9])++(x++[10])=a++Lw x:=by rw[hp,List.append_assoc]
   rw[ha3]at hW
   repeat'(first|(first|refine Stp.h ?_|(refine Za.gc hS ?_ ?_;focus simp[Zb];done)|(refine Za.gc hB ?_ ?_;focus simp[Zb];done)|(refine Za.gc hW ?_ ?_;focus simp[Zb];done))<;>try simp only[Zd,simprocAttr,↓reduceIte,reduceCtorEq,implies_true,hx',hw,ht,Int.ofNat_lt]|(with_reducible first|assumption|refine And.intro ?_ ?_)|(intro h;first|omega|exact tg h ‹_›|exact tg ‹_› h|skip))
   all_goals first|omega|skip
   exact⟨⟨k+1,hlt⟩,(Ent.mk1 (fun n=>if n=1 then 4 else n) (by simp[Zy,ha2,hw])),by simp only;omega⟩
  ·rw[hsf]at hS
   have hp:Lw x=x++[10]:=by unfold Lw;rw[hsf];rfl
   have hW:=Mm n a (x++[10]) (by simp only[List.length_append,List.length_cons,List.length_nil];omega)
   have ha3:a++(x++[10])=a++Lw x:=by rw[hp]
   rw[ha3]at hW
   repeat'(first|(first|refine Stp.h ?_|(refine Za.gc hS ?_ ?_;focus simp[Zb];done)|(refine Za.gc hW ?_ ?_;focus simp[Zb];done))<;>try simp only[Zd,simprocAttr,↓reduceIte,reduceCtorEq,implies_true,hx',hw,ht,Int.ofNat_lt]|(with_reducible first|assumption|refine And.intro ?_ ?_)|(intro h;first|omega|exact tg h ‹_›|exact tg ‹_› h|skip))
   all_goals first|omega|skip
   exact⟨⟨k+1,hlt⟩,(Ent.mk1 (fun n=>if n=1 then 3 else n) (by simp[Zy,ha2,hw])),by simp only;omega⟩
 ·have hk2:k=ls.length:=by omega
  subst hk2
  rw[List.take_length]
  repeat'(first|(first|refine Stp.h ?_)<;>try simp only[Zd,simprocAttr,↓reduceIte,reduceCtorEq,implies_true,Int.ofNat_lt]|(with_reducible first|assumption|refine And.intro ?_ ?_)|(intro h;first|omega|exact tg h ‹_›|exact tg ‹_› h|skip))
  all_goals first|omega|skip
theorem M5(old new:List UInt8):∀(k:Nat) (s:List UInt8),(Lib.replaceK old new k s).length≤s.length+k*new.length
 |0,s=>by unfold Lib.replaceK;simp
 |k+1,s=>by
  unfold Lib.replaceK
  split
  ·omega
  ·have ih:=M5 old new k (s.drop ((Lib.index s old).toNat+old.length))
   simp only[List.length_append,List.length_take,List.length_drop,Nat.succ_mul]at ih ⊢
   omega
theorem Bt(s new:List UInt8):(Lib.replace s [37,100] new 1).length≤s.length+new.length:=by
 unfold Lib.replace
 split
 ·omega
 ·have h1:Lib.replaceNum s [37,100] 1≤1:=by unfold Lib.replaceNum;split<;>omega
  have:=M5 [37,100] new (Lib.replaceNum s [37,100] 1) s
  have h2:Lib.replaceNum s [37,100] 1*new.length≤1*new.length:=Nat.mul_le_mul_right _ h1
  omega
theorem Dj{G:Nat}{H:Nat→Option Obj}(hM:Yo G H)(s new:List UInt8)(hs:s.length≤1000)(hn:new.length≤1000):
 GCp G H Tryz.prog 166 [.a (.str s),.a (.str [37,100]),.a (.str new),.a (.int .i64 1)] [] 0 [] (.one (.a (.str (Lib.replace s [37,100] new 1)))) [] 0:=
 GCp.plain (by simp[S1.bd,At.bd]) (by simp[SV.bd,S1.bd,At.bd]) (by simp[Zu,Zw,Zv,Zj,Ze,Vc.S1.okN,At.okN,SV.okN,Res.okN,Res.outOk,Zo,Res.own,Value.oneCell']) fun w hg=>by
  obtain⟨m,hm⟩:=hM w _ hg
  have hc:Lib.countB ⟨s.toArray⟩ ⟨[37,100].toArray⟩≤1001:=by
   have:=Lib.count_le s [37,100]
   have e:Lib.countB ⟨s.toArray⟩ ⟨[37,100].toArray⟩=Lib.count s [37,100]:=rfl
   rw[e];omega
  have hp:Lib.countB ⟨s.toArray⟩ ⟨[37,100].toArray⟩*new.length≤1001*1000:=Nat.mul_le_mul hc hn
  exact Tryz.strings_Replace ⟨s.toArray⟩ ⟨[37,100].toArray⟩ ⟨new.toArray⟩ 1 m w (by simp[ByteArray.size];omega) hm (by simp[ByteArray.size]) (by
   have e1:ByteArray.size ⟨s.toArray⟩=s.length:=by simp[ByteArray.size]
   have e2:ByteArray.size ⟨new.toArray⟩=new.length:=by simp[ByteArray.size]
   rw[e1,e2];omega)
def sayS(t:List UInt8)(ls:List Int):List UInt8:=ls.foldl (fun t n=>Lib.replace t [37,100] (Lib.itoa n) 1) t
set_option maxHeartbeats 4000000 in
theorem Ym{G:Nat}{H:Nat→Option Obj}(hM:Yo G H)(hH:Z5 G H)(t:List UInt8)(ls:List Int)(hr:∀n∈ls,0≤n∧n≤65535)(hl:ls.length≤10)(ht:t.length≤100):
 GCp G H Tryz.prog 128 [.a (.str t),.a (.ref 0)] [(0,.ro (.int .i64) ls)] 1 [] (.one (.a (.str (sayS t ls)))) [] 1:=by
 refine Dg.fn.gcp (by simp) (by simp[Zu,Zw,Zv,Zj,Ze,Vc.S1.okN,At.okN,SV.okN,Res.okN,Res.outOk,Zo,Res.own,Value.oneCell']) fun w X fr hglob=> ?_
 repeat'(first|(first|refine Stp.h ?_)<;>try simp only[Zd,simprocAttr,↓reduceIte,reduceCtorEq,implies_true]|(with_reducible first|assumption|refine And.intro ?_ ?_)|(intro h;first|omega|exact tg h ‹_›|exact tg ‹_› h|skip))
 all_goals first|omega|skip
 refine T.loop (ι:= {k:Nat//k≤ls.length∧(sayS t (ls.take k)).length≤100+21*k})
  (fun x=>⟨[(9,.one (.a (.int .i64 (x.1:Int)))),(8,.one (.a (.int .i64 ls.length))),(7,.one (.a (.ref 0))),(0,.one (.a (.str (sayS t (ls.take x.1)))))],[(0,.ro (.int .i64) ls)],1⟩) (fun x=>ls.length-x.1) ⟨0,by simp,by simpa[sayS]using ht⟩ (Ent.mk1 (id) (by simp[Zy,sayS])) ?_
 rintro⟨k,hk,hsl⟩
 simp only
 by_cases hlt:k<ls.length
 ·generalize hx:ls[k]=x
  have hx':ls.getD k (Kd.dflt (.int .i64))=x:=by show ls.getD k 0=x;simp[List.getD,hlt,hx]
  have hxr:=hr x (by rw[←hx];exact List.getElem_mem hlt)
  have htk:sayS t (ls.take (k+1))=Lib.replace (sayS t (ls.take k)) [37,100] (Lib.itoa x) 1:=by
   unfold sayS
   rw[List.take_add_one,List.getElem?_eq_getElem hlt,hx]
   simp
  generalize sayS t (ls.take k)=u at hsl htk
  have hI:=Zgf G H hH x hxr.1 hxr.2
  have hil:=Lib.itoa_length_le x (by omega) (by omega)
  have hR:=Dj hM u (Lib.itoa x) (by omega) (by omega)
  have hrl:=Bt u (Lib.itoa x)
  have hw:IntKind.i64.wrap ((k:Int)+1)=((k+1:Nat):Int):=Zx (by omega)
  have htt:((k:Int)).toNat=k:=by omega
  generalize Lib.itoa x=v at*
  generalize Lib.replace u [37,100] v 1=z at*
  repeat'(first|(first|refine Stp.h ?_|(refine Za.gcp hglob hI ?_ ?_;focus simp[Zb];done)|(refine Za.gcp hglob hR ?_ ?_;focus simp[Zb];done))<;>try simp only[Zd,simprocAttr,↓reduceIte,reduceCtorEq,implies_true,hx',hw,htt,Int.ofNat_lt]|(with_reducible first|assumption|refine And.intro ?_ ?_)|(intro h;first|omega|exact tg h ‹_›|exact tg ‹_› h|skip))
  all_goals first|omega|skip
  exact⟨⟨k+1,hlt,by rw[htk];omega⟩,(Ent.mk1 (id) (by simp[Zy,htk,hw])),by simp only;omega⟩
 ·have hk2:k=ls.length:=by omega
  subst hk2
  rw[List.take_length]
  repeat'(first|(first|refine Stp.h ?_)<;>try simp only[Zd,simprocAttr,↓reduceIte,reduceCtorEq,implies_true,Int.ofNat_lt]|(with_reducible first|assumption|refine And.intro ?_ ?_)|(intro h;first|omega|exact tg h ‹_›|exact tg ‹_› h|skip))
  all_goals first|omega|skip
def Xp(a b:List UInt8)(i:Int):List UInt8:=if i=0 then a else b
theorem Xt(a b:List UInt8)(i:Int):RdC Tryz.prog 168 [.v (.a (.str a)),.v (.a (.str b)),.v (.a (.int .i64 i))] (.one (.a (.str (Xp a b i)))):=by
 refine Jo.fn.rd (by simp) (by simp[Zz]) (by simp[Zz]) fun w=> ?_
 unfold Xp
 by_cases h:i=0
 ·rw[if_pos h]
  repeat'(first|(first|refine Stp.h ?_)<;>try simp only[Zd,simprocAttr,↓reduceIte,reduceCtorEq,implies_true,h]|(with_reducible first|assumption|refine And.intro ?_ ?_)|(intro h;first|omega|exact tg h ‹_›|exact tg ‹_› h|skip))
 ·rw[if_neg h]
  repeat'(first|(first|refine Stp.h ?_)<;>try simp only[Zd,simprocAttr,↓reduceIte,reduceCtorEq,implies_true,h]|(with_reducible first|assumption|refine And.intro ?_ ?_)|(intro h;first|omega|exact tg h ‹_›|exact tg ‹_› h|skip))
end Go.Proofs.YtbmecnjmbhokgaaGreatDoor
