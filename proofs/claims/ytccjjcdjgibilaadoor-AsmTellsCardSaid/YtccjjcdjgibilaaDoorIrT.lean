/- The small code of functions, and that it is theirs: printed by a program over the seat's translation. -/
import Derived.Test.YtccjjcdjgibilaaDoorVcGf
import Derived.Test.YtccjjcdjgibilaaDoorChecked
import Derived.KernelRfl
namespace Go.Proofs.YtccjjcdjgibilaaDoor
open Vc
namespace Xz
def r0 : List In := [⟨none, (some 4), .mv (.k (.a (.int .i64 0)))⟩,
  ⟨none, (some 5), .mv (.k (.a (.raw .nilIface)))⟩]
def r1 : List In := [⟨none, (some 6), .mv (.t 0)⟩,
  ⟨none, (some 7), .call 54 [(.t 6)]⟩]
def r2 : List In := [⟨none, (some 8), .mv (.t 0)⟩,
  ⟨none, (some 9), .mv (.t 0)⟩,
  ⟨none, (some 10), .nchk (.t 9)⟩,
  ⟨none, (some 11), .faddr 1 (.t 10)⟩,
  ⟨none, (some 12), .load 1 false (.t 11)⟩,
  ⟨none, (some 13), .mv (.t 1)⟩,
  ⟨none, (some 14), .apps 43 5 (.t 12) (.t 13)⟩,
  ⟨none, (some 15), .nchk (.t 8)⟩,
  ⟨none, (some 16), .faddr 1 (.t 15)⟩,
  ⟨none, none, .store 1 (.t 16) (.t 14)⟩]
def r3 : List In := [⟨none, (some 17), .mv (.t 1)⟩,
  ⟨none, (some 18), .slen (.t 17)⟩,
  ⟨none, (some 4), .mv (.t 18)⟩,
  ⟨none, (some 5), .mv (.k (.a (.raw .nilIface)))⟩]
@[reducible] def c0 : IC := .seq (.reg r3) .ret
@[reducible] def c1 : IC := .seq (.reg r2) c0
@[reducible] def c2 : IC := .seq (.reg r1) c1
@[reducible] def c3 : IC := .seq (.reg r0) c2
@[reducible] def code : IC := c3
def res : List RV := [.tmp 4, .tmp 5]
theorem rs : type_of% (And.intro r0.eq_1 <| And.intro r1.eq_1 <| And.intro r2.eq_1 <| r3.eq_1) := And.intro r0.eq_1 <| And.intro r1.eq_1 <| And.intro r2.eq_1 <| r3.eq_1
theorem fn : Body Tryd.prog 27 19 code res := ⟨by decide, Tryd.f27, _, Tryd.func27, rfl, rfl, by kernel_rfl, by kernel_rfl⟩
theorem enters : Xx Tryd.prog 27 = true := by kernel_rfl
end Xz
namespace X3
def r0 : List In := [⟨none, (some 4), .mv (.k (.a (.raw .nilIface)))⟩]
def r1 : List In := [⟨none, (some 5), .mv (.t 0)⟩,
  ⟨none, (some 6), .call 54 [(.t 5)]⟩]
def r2 : List In := [⟨none, (some 7), .mv (.t 0)⟩,
  ⟨none, (some 8), .mv (.t 0)⟩,
  ⟨none, (some 9), .nchk (.t 8)⟩,
  ⟨none, (some 10), .faddr 1 (.t 9)⟩,
  ⟨none, (some 11), .load 1 false (.t 10)⟩,
  ⟨none, (some 12), .mv (.t 1)⟩,
  ⟨none, (some 13), .bsl 5 1 1 [.int .u8 0] [(0, 1, (.t 12))]⟩,
  ⟨none, (some 14), .app 43 5 1 1 (.t 11) (.t 13)⟩,
  ⟨none, (some 15), .nchk (.t 7)⟩,
  ⟨none, (some 16), .faddr 1 (.t 15)⟩,
  ⟨none, none, .store 1 (.t 16) (.t 14)⟩]
def r3 : List In := [⟨none, (some 4), .mv (.k (.a (.raw .nilIface)))⟩]
@[reducible] def c0 : IC := .seq (.reg r3) .ret
@[reducible] def c1 : IC := .seq (.reg r2) c0
@[reducible] def c2 : IC := .seq (.reg r1) c1
@[reducible] def c3 : IC := .seq (.reg r0) c2
@[reducible] def code : IC := c3
def res : List RV := [.tmp 4]
theorem rs : type_of% (And.intro r0.eq_1 <| And.intro r1.eq_1 <| And.intro r2.eq_1 <| r3.eq_1) := And.intro r0.eq_1 <| And.intro r1.eq_1 <| And.intro r2.eq_1 <| r3.eq_1
theorem fn : Body Tryd.prog 31 17 code res := ⟨by decide, Tryd.f31, _, Tryd.func31, rfl, rfl, by kernel_rfl, by kernel_rfl⟩
theorem enters : Xx Tryd.prog 31 = true := by kernel_rfl
end X3
namespace S6
def r0 : List In := [⟨none, (some 2), .mv (.k (.a (.str [])))⟩]
def r1 : List In := [⟨none, (some 3), .mv (.t 0)⟩,
  ⟨none, (some 4), .call 30 [(.t 3)]⟩,
  ⟨none, (some 5), .bin .add (.k (.a (.str [114]))) (.t 4)⟩,
  ⟨none, (some 2), .mv (.t 5)⟩]
@[reducible] def c0 : IC := .seq (.reg r1) .ret
@[reducible] def c1 : IC := .seq (.reg r0) c0
@[reducible] def code : IC := c1
def res : List RV := [.tmp 2]
theorem rs : type_of% (And.intro r0.eq_1 <| r1.eq_1) := And.intro r0.eq_1 <| r1.eq_1
theorem fn : Body Tryd.prog 29 6 code res := ⟨by decide, Tryd.f29, _, Tryd.func29, rfl, rfl, by kernel_rfl, by kernel_rfl⟩
theorem enters : Xx Tryd.prog 29 = true := by kernel_rfl
end S6
namespace W9
def r0 : List In := [⟨none, (some 0), .mv (.k (.a (.raw (.slice none 0 0))))⟩]
def r1 : List In := [⟨none, (some 1), .bsl 9 1 33 [.str [], .str [], .str [], .str [], .str [], .str [], .str [], .str [], .str [], .str [], .str [], .str [], .str [], .str [], .str [], .str [], .str [], .str [], .str [], .str [], .str [], .str [], .str [], .str [], .str [], .str [], .str [], .str [], .str [], .str [], .str [], .str [], .str []] [(0, 1, (.k (.a (.str [104, 97, 108, 116])))), (1, 1, (.k (.a (.str [109, 111, 118])))), (2, 1, (.k (.a (.str [108, 100, 105])))), (3, 1, (.k (.a (.str [108, 100])))), (4, 1, (.k (.a (.str [115, 116])))), (5, 1, (.k (.a (.str [97, 100, 100])))), (6, 1, (.k (.a (.str [97, 100, 99])))), (7, 1, (.k (.a (.str [115, 117, 98])))), (8, 1, (.k (.a (.str [115, 98, 99])))), (9, 1, (.k (.a (.str [97, 110, 100])))), (10, 1, (.k (.a (.str [111, 114])))), (11, 1, (.k (.a (.str [120, 111, 114])))), (12, 1, (.k (.a (.str [99, 109, 112])))), (13, 1, (.k (.a (.str [99, 112, 99])))), (14, 1, (.k (.a (.str [115, 104, 108])))), (15, 1, (.k (.a (.str [114, 111, 108])))), (16, 1, (.k (.a (.str [115, 104, 114])))), (17, 1, (.k (.a (.str [115, 97, 114])))), (18, 1, (.k (.a (.str [114, 111, 114])))), (19, 1, (.k (.a (.str [106, 109, 112])))), (20, 1, (.k (.a (.str [106, 122])))), (21, 1, (.k (.a (.str [106, 110, 122])))), (22, 1, (.k (.a (.str [106, 99])))), (23, 1, (.k (.a (.str [106, 110, 99])))), (24, 1, (.k (.a (.str [106, 108, 116])))), (25, 1, (.k (.a (.str [106, 103, 101])))), (26, 1, (.k (.a (.str [99, 97, 108, 108])))), (27, 1, (.k (.a (.str [114, 101, 116])))), (28, 1, (.k (.a (.str [112, 117, 115, 104])))), (29, 1, (.k (.a (.str [112, 111, 112])))), (30, 1, (.k (.a (.str [111, 117, 116])))), (31, 1, (.k (.a (.str [105, 110])))), (32, 1, (.k (.a (.str [116, 114, 97, 112]))))]⟩,
  ⟨none, (some 0), .mv (.t 1)⟩]
@[reducible] def c0 : IC := .seq (.reg r1) .ret
@[reducible] def c1 : IC := .seq (.reg r0) c0
@[reducible] def code : IC := c1
def res : List RV := [.tmp 0]
theorem rs : type_of% (And.intro r0.eq_1 <| r1.eq_1) := And.intro r0.eq_1 <| r1.eq_1
theorem fn : Body Tryd.prog 32 2 code res := ⟨by decide, Tryd.f32, _, Tryd.func32, rfl, rfl, by kernel_rfl, by kernel_rfl⟩
theorem enters : Xx Tryd.prog 32 = true := by kernel_rfl
end W9
namespace Y4
def r0 : List In := [⟨none, (some 2), .mv (.k (.a (.str [])))⟩,
  ⟨none, (some 3), .alloc 31 [.int .i64 0, .int .i64 0]⟩]
def r1 : List In := [⟨none, (some 13), .mv (.t 0)⟩,
  ⟨none, (some 14), .len (.t 13)⟩,
  ⟨none, (some 15), .bin .gtr (.t 14) (.k (.a (.int .i64 40000)))⟩]
def r2 : List In := [⟨none, (some 16), .build [.int .i64 0, .int .i64 0] [(0, 1, (.k (.a (.int .i64 5))))]⟩,
  ⟨none, (some 2), .mv (.k (.a (.str [])))⟩,
  ⟨none, none, .store 2 (.t 3) (.t 16)⟩]
@[reducible] def c0 : IC := .seq (.reg r2) .ret
@[reducible] def c1 : IC := .cond (.t 15) c0 .skip
@[reducible] def c2 : IC := .seq (.reg r1) c1
def r3 : List In := [⟨none, (some 4), .alloc 58 [.raw (.pointer none), .raw (.slice none 0 0)]⟩]
def r4 : List In := [⟨none, (some 17), .mv (.t 0)⟩,
  ⟨none, (some 18), .len (.t 17)⟩,
  ⟨none, (some 19), .mv (.k (.a (.int .i64 0)))⟩]
def r5 : List In := [⟨none, (some 20), .bin .lss (.t 19) (.t 18)⟩]
@[reducible] def c3 : IC := .cond (.t 20) .skip (.exit 0)
def r6 : List In := [⟨none, (some 21), .mv (.t 19)⟩,
  ⟨none, (some 22), .iaddr 6 (.t 17) (.t 19)⟩,
  ⟨none, (some 23), .load 6 true (.t 22)⟩,
  ⟨none, (some 6), .alloc 27 [.str [], .int .i64 0, .int .i64 0, .int .i64 0, .int .i64 0, .str []]⟩,
  ⟨none, (some 5), .mv (.t 21)⟩,
  ⟨none, none, .store 6 (.t 6) (.t 23)⟩]
def r7 : List In := [⟨none, (some 24), .load 6 true (.t 6)⟩,
  ⟨none, (some 25), .call 9 [(.t 24)]⟩,
  ⟨none, (some 7), .mv (.t 25)⟩]
def r8 : List In := [⟨none, (some 26), .mv (.t 7)⟩,
  ⟨none, (some 27), .bin .neq (.t 26) (.k (.a (.int .i64 0)))⟩]
def r9 : List In := [⟨none, (some 28), .mv (.t 7)⟩,
  ⟨none, (some 29), .mv (.t 5)⟩,
  ⟨none, (some 30), .build [.int .i64 0, .int .i64 0] [(0, 1, (.t 28)), (1, 1, (.t 29))]⟩,
  ⟨none, (some 2), .mv (.k (.a (.str [])))⟩,
  ⟨none, none, .store 2 (.t 3) (.t 30)⟩]
@[reducible] def c4 : IC := .seq (.reg r9) .ret
@[reducible] def c5 : IC := .cond (.t 27) c4 .skip
@[reducible] def c6 : IC := .seq (.reg r8) c5
@[reducible] def c7 : IC := .seq (.reg r7) c6
def r10 : List In := [⟨none, (some 31), .faddr 0 (.t 6)⟩,
  ⟨none, (some 32), .load 1 false (.t 31)⟩,
  ⟨none, (some 33), .bin .neq (.t 32) (.k (.a (.str [])))⟩]
def r11 : List In := [⟨none, (some 34), .faddr 0 (.t 6)⟩,
  ⟨none, (some 35), .load 1 false (.t 34)⟩,
  ⟨none, (some 36), .bin .add (.t 35) (.k (.a (.str [58, 10])))⟩,
  ⟨none, (some 37), .call 27 [(.t 4), (.t 36)]⟩]
@[reducible] def c8 : IC := .seq (.reg r11) (.exit 1)
@[reducible] def c9 : IC := .cond (.t 33) c8 .skip
@[reducible] def c10 : IC := .seq (.reg r10) c9
def r12 : List In := [⟨none, (some 8), .mv (.k (.a (.raw (.slice none 0 0))))⟩]
def r13 : List In := [⟨none, (some 39), .faddr 1 (.t 6)⟩,
  ⟨none, (some 40), .faddr 0 (.t 39)⟩,
  ⟨none, (some 41), .load 1 false (.t 40)⟩,
  ⟨none, (some 42), .call 28 [(.t 41)]⟩,
  ⟨none, (some 38), .mv (.t 42)⟩,
  ⟨none, (some 43), .ext 0 (.t 38)⟩,
  ⟨none, (some 44), .ext 1 (.t 38)⟩,
  ⟨none, (some 45), .ext 2 (.t 38)⟩,
  ⟨none, (some 46), .ext 3 (.t 38)⟩,
  ⟨none, (some 9), .mv (.t 43)⟩,
  ⟨none, (some 10), .mv (.t 44)⟩,
  ⟨none, (some 11), .mv (.t 45)⟩,
  ⟨none, (some 12), .mv (.t 46)⟩]
def r14 : List In := [⟨none, (some 47), .mv (.t 9)⟩]
def r15 : List In := [⟨none, (some 48), .mv (.t 8)⟩,
  ⟨none, (some 49), .faddr 1 (.t 6)⟩,
  ⟨none, (some 50), .faddr 1 (.t 49)⟩,
  ⟨none, (some 51), .load 1 false (.t 50)⟩,
  ⟨none, (some 52), .call 29 [(.t 51)]⟩,
  ⟨none, (some 53), .bsl 9 1 1 [.str []] [(0, 1, (.t 52))]⟩,
  ⟨none, (some 54), .app 63 9 1 16 (.t 48) (.t 53)⟩,
  ⟨none, (some 8), .mv (.t 54)⟩]
@[reducible] def c11 : IC := .cond (.t 47) (.reg r15) .skip
@[reducible] def c12 : IC := .seq (.reg r14) c11
def r16 : List In := [⟨none, (some 55), .mv (.t 10)⟩]
def r17 : List In := [⟨none, (some 56), .mv (.t 8)⟩,
  ⟨none, (some 57), .faddr 1 (.t 6)⟩,
  ⟨none, (some 58), .faddr 2 (.t 57)⟩,
  ⟨none, (some 59), .load 1 false (.t 58)⟩,
  ⟨none, (some 60), .call 29 [(.t 59)]⟩,
  ⟨none, (some 61), .bsl 9 1 1 [.str []] [(0, 1, (.t 60))]⟩,
  ⟨none, (some 62), .app 63 9 1 16 (.t 56) (.t 61)⟩,
  ⟨none, (some 8), .mv (.t 62)⟩]
@[reducible] def c13 : IC := .cond (.t 55) (.reg r17) .skip
@[reducible] def c14 : IC := .seq (.reg r16) c13
def r18 : List In := [⟨none, (some 64), .mv (.t 11)⟩,
  ⟨none, (some 65), .mv (.t 64)⟩,
  ⟨(some (65, true)), (some 66), .faddr 5 (.t 6)⟩,
  ⟨(some (65, true)), (some 67), .load 1 false (.t 66)⟩,
  ⟨(some (65, true)), (some 68), .bin .neq (.t 67) (.k (.a (.str [])))⟩,
  ⟨none, (some 69), .pick (.t 65) (.t 68) (.k (.a (.bool false)))⟩,
  ⟨none, (some 63), .mv (.t 69)⟩]
def r19 : List In := [⟨none, (some 70), .mv (.t 8)⟩,
  ⟨none, (some 71), .faddr 5 (.t 6)⟩,
  ⟨none, (some 72), .load 1 false (.t 71)⟩,
  ⟨none, (some 73), .bsl 9 1 1 [.str []] [(0, 1, (.t 72))]⟩,
  ⟨none, (some 74), .app 63 9 1 16 (.t 70) (.t 73)⟩,
  ⟨none, (some 8), .mv (.t 74)⟩]
def r20 : List In := [⟨none, (some 76), .mv (.t 11)⟩,
  ⟨none, (some 75), .mv (.t 76)⟩]
def r21 : List In := [⟨none, (some 77), .mv (.t 8)⟩,
  ⟨none, (some 78), .faddr 1 (.t 6)⟩,
  ⟨none, (some 79), .faddr 3 (.t 78)⟩,
  ⟨none, (some 80), .load 1 false (.t 79)⟩,
  ⟨none, (some 81), .call 30 [(.t 80)]⟩,
  ⟨none, (some 82), .bsl 9 1 1 [.str []] [(0, 1, (.t 81))]⟩,
  ⟨none, (some 83), .app 63 9 1 16 (.t 77) (.t 82)⟩,
  ⟨none, (some 8), .mv (.t 83)⟩]
@[reducible] def c15 : IC := .cond (.t 75) (.reg r21) .skip
@[reducible] def c16 : IC := .seq (.reg r20) c15
@[reducible] def c17 : IC := .cond (.t 63) (.reg r19) c16
@[reducible] def c18 : IC := .seq (.reg r18) c17
@[reducible] def c19 : IC := .block 2 c18
def r22 : List In := [⟨none, (some 84), .call 31 [(.t 4), (.k (.a (.int .u8 9)))]⟩]
def r23 : DT := (.take ⟨none, (some 86), .faddr 1 (.t 6)⟩ true
  (.take ⟨none, (some 87), .faddr 0 (.t 86)⟩ true
  (.take ⟨none, (some 88), .load 1 false (.t 87)⟩ true
  (.alt ⟨none, (some 85), .call 32 []⟩ true
  (.alt ⟨none, (some 89), .iaddr 1 (.t 85) (.t 88)⟩ false
  (.alt ⟨none, (some 90), .load 1 false (.t 89)⟩ false
  (.alt ⟨none, (some 91), .call 27 [(.t 4), (.t 90)]⟩ false
  .done
  .stop)
  .stop)
  .stop)
  .stop))))
def r24 : List In := [⟨none, (some 92), .mv (.t 8)⟩,
  ⟨none, (some 93), .len (.t 92)⟩,
  ⟨none, (some 94), .bin .gtr (.t 93) (.k (.a (.int .i64 0)))⟩]
def r25 : List In := [⟨none, (some 95), .call 31 [(.t 4), (.k (.a (.int .u8 32)))]⟩]
@[reducible] def c20 : IC := .cond (.t 94) (.reg r25) .skip
@[reducible] def c21 : IC := .seq (.reg r24) c20
def r26 : List In := [⟨none, (some 96), .mv (.t 8)⟩,
  ⟨none, (some 97), .call 33 [(.t 96), (.k (.a (.str [44, 32])))]⟩,
  ⟨none, (some 98), .bin .add (.t 97) (.k (.a (.str [10])))⟩,
  ⟨none, (some 99), .call 27 [(.t 4), (.t 98)]⟩]
@[reducible] def c22 : IC := .seq c21 (.reg r26)
@[reducible] def c23 : IC := .seq (.dany r23) c22
def c24 : IC := .seq (.reg r22) c23
@[reducible] def c25 : IC := .seq c19 c24
@[reducible] def c26 : IC := .seq c14 c25
@[reducible] def c27 : IC := .seq c12 c26
@[reducible] def c28 : IC := .seq (.reg r13) c27
@[reducible] def c29 : IC := .seq (.reg r12) c28
@[reducible] def c30 : IC := .seq c10 c29
@[reducible] def c31 : IC := .seq c7 c30
@[reducible] def c32 : IC := .seq (.reg r6) c31
@[reducible] def c33 : IC := .block 1 c32
def r27 : List In := [⟨none, (some 100), .bin .add (.t 19) (.k (.a (.int .i64 1)))⟩,
  ⟨none, (some 19), .mv (.t 100)⟩]
@[reducible] def c34 : IC := .seq c33 (.reg r27)
@[reducible] def c35 : IC := .seq c3 c34
@[reducible] def c36 : IC := .seq (.reg r5) c35
@[reducible] def c37 : IC := .loop c36
@[reducible] def c38 : IC := .block 0 c37
@[reducible] def c39 : IC := .seq (.reg r4) c38
def r28 : List In := [⟨none, (some 101), .call 34 [(.t 4)]⟩,
  ⟨none, (some 102), .build [.int .i64 0, .int .i64 0] []⟩,
  ⟨none, (some 2), .mv (.t 101)⟩,
  ⟨none, none, .store 2 (.t 3) (.t 102)⟩]
@[reducible] def c40 : IC := .seq (.reg r28) .ret
@[reducible] def c41 : IC := .seq c39 c40
@[reducible] def c42 : IC := .seq (.reg r3) c41
@[reducible] def c43 : IC := .seq c2 c42
@[reducible] def c44 : IC := .seq (.reg r0) c43
@[reducible] def code : IC := c44
def res : List RV := [.tmp 2, .cell 3 2 true]
theorem rs : type_of% (And.intro r0.eq_1 <| And.intro r1.eq_1 <| And.intro r2.eq_1 <| And.intro r3.eq_1 <| And.intro r4.eq_1 <| And.intro r5.eq_1 <| And.intro r6.eq_1 <| And.intro r7.eq_1 <| And.intro r8.eq_1 <| And.intro r9.eq_1 <| And.intro r10.eq_1 <| And.intro r11.eq_1 <| And.intro r12.eq_1 <| And.intro r13.eq_1 <| And.intro r14.eq_1 <| And.intro r15.eq_1 <| And.intro r16.eq_1 <| And.intro r17.eq_1 <| And.intro r18.eq_1 <| And.intro r19.eq_1 <| And.intro r20.eq_1 <| And.intro r21.eq_1 <| And.intro r22.eq_1 <| And.intro r23.eq_1 <| And.intro r24.eq_1 <| And.intro r25.eq_1 <| And.intro r26.eq_1 <| And.intro r27.eq_1 <| r28.eq_1) := And.intro r0.eq_1 <| And.intro r1.eq_1 <| And.intro r2.eq_1 <| And.intro r3.eq_1 <| And.intro r4.eq_1 <| And.intro r5.eq_1 <| And.intro r6.eq_1 <| And.intro r7.eq_1 <| And.intro r8.eq_1 <| And.intro r9.eq_1 <| And.intro r10.eq_1 <| And.intro r11.eq_1 <| And.intro r12.eq_1 <| And.intro r13.eq_1 <| And.intro r14.eq_1 <| And.intro r15.eq_1 <| And.intro r16.eq_1 <| And.intro r17.eq_1 <| And.intro r18.eq_1 <| And.intro r19.eq_1 <| And.intro r20.eq_1 <| And.intro r21.eq_1 <| And.intro r22.eq_1 <| And.intro r23.eq_1 <| And.intro r24.eq_1 <| And.intro r25.eq_1 <| And.intro r26.eq_1 <| And.intro r27.eq_1 <| r28.eq_1
theorem fn : Body Tryd.prog 11 103 code res := ⟨by decide, Tryd.f11, _, Tryd.func11, rfl, rfl, by kernel_rfl, by kernel_rfl⟩
theorem enters : Xx Tryd.prog 11 = true := by kernel_rfl
end Y4
namespace Wr
def r0 : List In := [⟨none, (some 2), .mv (.k (.a (.str [])))⟩]
def r1 : List In := [⟨none, (some 4), .bsl 9 1 33 [.str [], .str [], .str [], .str [], .str [], .str [], .str [], .str [], .str [], .str [], .str [], .str [], .str [], .str [], .str [], .str [], .str [], .str [], .str [], .str [], .str [], .str [], .str [], .str [], .str [], .str [], .str [], .str [], .str [], .str [], .str [], .str [], .str []] [(0, 1, (.k (.a (.str [104, 97, 108, 116])))), (1, 1, (.k (.a (.str [109, 111, 118])))), (2, 1, (.k (.a (.str [108, 100, 105])))), (3, 1, (.k (.a (.str [108, 100])))), (4, 1, (.k (.a (.str [115, 116])))), (5, 1, (.k (.a (.str [97, 100, 100])))), (6, 1, (.k (.a (.str [97, 100, 99])))), (7, 1, (.k (.a (.str [115, 117, 98])))), (8, 1, (.k (.a (.str [115, 98, 99])))), (9, 1, (.k (.a (.str [97, 110, 100])))), (10, 1, (.k (.a (.str [111, 114])))), (11, 1, (.k (.a (.str [120, 111, 114])))), (12, 1, (.k (.a (.str [99, 109, 112])))), (13, 1, (.k (.a (.str [99, 112, 99])))), (14, 1, (.k (.a (.str [115, 104, 108])))), (15, 1, (.k (.a (.str [114, 111, 108])))), (16, 1, (.k (.a (.str [115, 104, 114])))), (17, 1, (.k (.a (.str [115, 97, 114])))), (18, 1, (.k (.a (.str [114, 111, 114])))), (19, 1, (.k (.a (.str [106, 109, 112])))), (20, 1, (.k (.a (.str [106, 122])))), (21, 1, (.k (.a (.str [106, 110, 122])))), (22, 1, (.k (.a (.str [106, 99])))), (23, 1, (.k (.a (.str [106, 110, 99])))), (24, 1, (.k (.a (.str [106, 108, 116])))), (25, 1, (.k (.a (.str [106, 103, 101])))), (26, 1, (.k (.a (.str [99, 97, 108, 108])))), (27, 1, (.k (.a (.str [114, 101, 116])))), (28, 1, (.k (.a (.str [112, 117, 115, 104])))), (29, 1, (.k (.a (.str [112, 111, 112])))), (30, 1, (.k (.a (.str [111, 117, 116])))), (31, 1, (.k (.a (.str [105, 110])))), (32, 1, (.k (.a (.str [116, 114, 97, 112]))))]⟩,
  ⟨none, (some 3), .mv (.t 4)⟩]
def r2 : List In := [⟨none, (some 5), .mv (.t 3)⟩,
  ⟨none, (some 6), .mv (.t 0)⟩,
  ⟨none, (some 7), .iaddr 1 (.t 5) (.t 6)⟩,
  ⟨none, (some 8), .load 1 false (.t 7)⟩,
  ⟨none, (some 2), .mv (.t 8)⟩]
@[reducible] def c0 : IC := .seq (.reg r2) .ret
@[reducible] def c1 : IC := .seq (.reg r1) c0
@[reducible] def c2 : IC := .seq (.reg r0) c1
@[reducible] def code : IC := c2
def res : List RV := [.tmp 2]
theorem rs : type_of% (And.intro r0.eq_1 <| And.intro r1.eq_1 <| r2.eq_1) := And.intro r0.eq_1 <| And.intro r1.eq_1 <| r2.eq_1
theorem fn : Body Tryd.prog 35 9 code res := ⟨by decide, Tryd.f35, _, Tryd.func35, rfl, rfl, by kernel_rfl, by kernel_rfl⟩
theorem enters : Xx Tryd.prog 35 = true := by kernel_rfl
end Wr
namespace Wh
def r0 : List In := [⟨none, (some 2), .mv (.k (.a (.str [])))⟩]
def r1 : List In := [⟨none, (some 3), .mv (.t 0)⟩,
  ⟨none, (some 4), .bin .lss (.t 3) (.k (.a (.int .i64 10)))⟩]
def r2 : List In := [⟨none, (some 5), .mv (.t 0)⟩,
  ⟨none, (some 6), .bin .add (.k (.a (.int .i64 48))) (.t 5)⟩,
  ⟨none, (some 7), .conv .i32 (.t 6)⟩,
  ⟨none, (some 8), .r2s (.t 7)⟩,
  ⟨none, (some 2), .mv (.t 8)⟩]
@[reducible] def c0 : IC := .seq (.reg r2) .ret
@[reducible] def c1 : IC := .cond (.t 4) c0 .skip
@[reducible] def c2 : IC := .seq (.reg r1) c1
def r3 : List In := [⟨none, (some 9), .mv (.t 0)⟩,
  ⟨none, (some 10), .bin .quo (.t 9) (.k (.a (.int .i64 10)))⟩,
  ⟨none, (some 11), .call 37 [(.t 10)]⟩,
  ⟨none, (some 12), .mv (.t 0)⟩,
  ⟨none, (some 13), .bin .rem (.t 12) (.k (.a (.int .i64 10)))⟩,
  ⟨none, (some 14), .bin .add (.k (.a (.int .i64 48))) (.t 13)⟩,
  ⟨none, (some 15), .conv .i32 (.t 14)⟩,
  ⟨none, (some 16), .r2s (.t 15)⟩,
  ⟨none, (some 17), .bin .add (.t 11) (.t 16)⟩,
  ⟨none, (some 2), .mv (.t 17)⟩]
@[reducible] def c3 : IC := .seq (.reg r3) .ret
@[reducible] def c4 : IC := .seq c2 c3
@[reducible] def c5 : IC := .seq (.reg r0) c4
@[reducible] def code : IC := c5
def res : List RV := [.tmp 2]
theorem rs : type_of% (And.intro r0.eq_1 <| And.intro r1.eq_1 <| And.intro r2.eq_1 <| r3.eq_1) := And.intro r0.eq_1 <| And.intro r1.eq_1 <| And.intro r2.eq_1 <| r3.eq_1
theorem fn : Body Tryd.prog 37 18 code res := ⟨by decide, Tryd.f37, _, Tryd.func37, rfl, rfl, by kernel_rfl, by kernel_rfl⟩
theorem enters : Xx Tryd.prog 37 = true := by kernel_rfl
end Wh
namespace Z3
def r0 : List In := [⟨none, (some 2), .mv (.k (.a (.str [])))⟩,
  ⟨none, (some 3), .alloc 31 [.int .i64 0, .int .i64 0]⟩]
def r1 : List In := [⟨none, (some 12), .mv (.t 0)⟩,
  ⟨none, (some 13), .len (.t 12)⟩,
  ⟨none, (some 14), .bin .gtr (.t 13) (.k (.a (.int .i64 40000)))⟩]
def r2 : List In := [⟨none, (some 15), .build [.int .i64 0, .int .i64 0] [(0, 1, (.k (.a (.int .i64 5))))]⟩,
  ⟨none, (some 2), .mv (.k (.a (.str [])))⟩,
  ⟨none, none, .store 2 (.t 3) (.t 15)⟩]
@[reducible] def c0 : IC := .seq (.reg r2) .ret
@[reducible] def c1 : IC := .cond (.t 14) c0 .skip
@[reducible] def c2 : IC := .seq (.reg r1) c1
def r3 : List In := [⟨none, (some 4), .mv (.k (.a (.raw (.slice none 0 0))))⟩]
def r4 : List In := [⟨none, (some 16), .mv (.t 0)⟩,
  ⟨none, (some 17), .len (.t 16)⟩,
  ⟨none, (some 18), .mv (.k (.a (.int .i64 0)))⟩]
def r5 : List In := [⟨none, (some 19), .bin .lss (.t 18) (.t 17)⟩]
@[reducible] def c3 : IC := .cond (.t 19) .skip (.exit 0)
def r6 : List In := [⟨none, (some 20), .mv (.t 18)⟩,
  ⟨none, (some 21), .iaddr 6 (.t 16) (.t 18)⟩,
  ⟨none, (some 22), .load 6 true (.t 21)⟩,
  ⟨none, (some 6), .alloc 27 [.str [], .int .i64 0, .int .i64 0, .int .i64 0, .int .i64 0, .str []]⟩,
  ⟨none, (some 5), .mv (.t 20)⟩,
  ⟨none, none, .store 6 (.t 6) (.t 22)⟩]
def r7 : List In := [⟨none, (some 23), .load 6 true (.t 6)⟩,
  ⟨none, (some 24), .call 10 [(.t 23)]⟩,
  ⟨none, (some 7), .mv (.t 24)⟩]
def r8 : List In := [⟨none, (some 25), .mv (.t 7)⟩,
  ⟨none, (some 26), .bin .neq (.t 25) (.k (.a (.int .i64 0)))⟩]
def r9 : List In := [⟨none, (some 27), .mv (.t 7)⟩,
  ⟨none, (some 28), .mv (.t 5)⟩,
  ⟨none, (some 29), .build [.int .i64 0, .int .i64 0] [(0, 1, (.t 27)), (1, 1, (.t 28))]⟩,
  ⟨none, (some 2), .mv (.k (.a (.str [])))⟩,
  ⟨none, none, .store 2 (.t 3) (.t 29)⟩]
@[reducible] def c4 : IC := .seq (.reg r9) .ret
@[reducible] def c5 : IC := .cond (.t 26) c4 .skip
@[reducible] def c6 : IC := .seq (.reg r8) c5
@[reducible] def c7 : IC := .seq (.reg r7) c6
def r10 : List In := [⟨none, (some 30), .faddr 0 (.t 6)⟩,
  ⟨none, (some 31), .load 1 false (.t 30)⟩,
  ⟨none, (some 32), .bin .neq (.t 31) (.k (.a (.str [])))⟩]
def r11 : List In := [⟨none, (some 33), .mv (.t 4)⟩,
  ⟨none, (some 34), .faddr 0 (.t 6)⟩,
  ⟨none, (some 35), .load 1 false (.t 34)⟩,
  ⟨none, (some 36), .apps 43 5 (.t 33) (.t 35)⟩,
  ⟨none, (some 37), .apps 43 5 (.t 36) (.k (.a (.str [58, 10])))⟩,
  ⟨none, (some 4), .mv (.t 37)⟩]
@[reducible] def c8 : IC := .seq (.reg r11) (.exit 1)
@[reducible] def c9 : IC := .cond (.t 32) c8 .skip
@[reducible] def c10 : IC := .seq (.reg r10) c9
def r12 : List In := [⟨none, (some 38), .faddr 1 (.t 6)⟩,
  ⟨none, (some 39), .faddr 0 (.t 38)⟩,
  ⟨none, (some 40), .load 1 false (.t 39)⟩,
  ⟨none, (some 41), .call 35 [(.t 40)]⟩,
  ⟨none, (some 42), .bin .add (.k (.a (.str [9]))) (.t 41)⟩,
  ⟨none, (some 8), .mv (.t 42)⟩]
def r13 : List In := [⟨none, (some 9), .mv (.k (.a (.str [32])))⟩]
def r14 : List In := [⟨none, (some 43), .bsl 5 1 3 [.int .u8 0, .int .u8 0, .int .u8 0] [(0, 1, (.k (.a (.int .u8 100)))), (1, 1, (.k (.a (.int .u8 115)))), (2, 1, (.k (.a (.int .u8 105))))]⟩,
  ⟨none, (some 44), .frz (.t 43)⟩,
  ⟨none, (some 45), .len (.t 44)⟩,
  ⟨none, (some 46), .mv (.k (.a (.int .i64 0)))⟩]
def r15 : List In := [⟨none, (some 47), .bin .lss (.t 46) (.t 45)⟩]
@[reducible] def c11 : IC := .cond (.t 47) .skip (.exit 2)
def r16 : List In := [⟨none, (some 48), .iaddr 1 (.t 44) (.t 46)⟩,
  ⟨none, (some 49), .load 1 false (.t 48)⟩,
  ⟨none, (some 11), .mv (.t 49)⟩]
def r17 : List In := [⟨none, (some 50), .faddr 1 (.t 6)⟩,
  ⟨none, (some 51), .faddr 0 (.t 50)⟩,
  ⟨none, (some 52), .load 1 false (.t 51)⟩,
  ⟨none, (some 53), .mv (.t 11)⟩,
  ⟨none, (some 54), .call 36 [(.t 52), (.t 53)]⟩,
  ⟨none, (some 55), .un .not (.t 54)⟩]
@[reducible] def c12 : IC := .cond (.t 55) (.exit 3) .skip
@[reducible] def c13 : IC := .seq (.reg r17) c12
def r18 : List In := [⟨none, (some 56), .mv (.t 8)⟩,
  ⟨none, (some 57), .mv (.t 9)⟩,
  ⟨none, (some 58), .bin .add (.t 56) (.t 57)⟩,
  ⟨none, (some 8), .mv (.t 58)⟩]
def r19 : List In := [⟨none, (some 9), .mv (.k (.a (.str [44, 32])))⟩]
def r20 : List In := [⟨none, (some 66), .mv (.t 11)⟩,
  ⟨none, (some 67), .bin .eql (.t 66) (.k (.a (.int .u8 100)))⟩,
  ⟨none, (some 65), .mv (.t 67)⟩]
def r21 : List In := [⟨none, (some 68), .mv (.t 8)⟩,
  ⟨none, (some 69), .bin .add (.t 68) (.k (.a (.str [114])))⟩,
  ⟨none, (some 70), .faddr 1 (.t 6)⟩,
  ⟨none, (some 71), .faddr 1 (.t 70)⟩,
  ⟨none, (some 72), .load 1 false (.t 71)⟩,
  ⟨none, (some 73), .call 37 [(.t 72)]⟩,
  ⟨none, (some 74), .bin .add (.t 69) (.t 73)⟩,
  ⟨none, (some 8), .mv (.t 74)⟩]
def r22 : List In := [⟨none, (some 76), .mv (.t 11)⟩,
  ⟨none, (some 77), .bin .eql (.t 76) (.k (.a (.int .u8 115)))⟩,
  ⟨none, (some 75), .mv (.t 77)⟩]
def r23 : List In := [⟨none, (some 78), .mv (.t 8)⟩,
  ⟨none, (some 79), .bin .add (.t 78) (.k (.a (.str [114])))⟩,
  ⟨none, (some 80), .faddr 1 (.t 6)⟩,
  ⟨none, (some 81), .faddr 2 (.t 80)⟩,
  ⟨none, (some 82), .load 1 false (.t 81)⟩,
  ⟨none, (some 83), .call 37 [(.t 82)]⟩,
  ⟨none, (some 84), .bin .add (.t 79) (.t 83)⟩,
  ⟨none, (some 8), .mv (.t 84)⟩]
def r24 : List In := [⟨none, (some 86), .faddr 5 (.t 6)⟩,
  ⟨none, (some 87), .load 1 false (.t 86)⟩,
  ⟨none, (some 88), .bin .neq (.t 87) (.k (.a (.str [])))⟩,
  ⟨none, (some 85), .mv (.t 88)⟩]
def r25 : List In := [⟨none, (some 89), .mv (.t 8)⟩,
  ⟨none, (some 90), .faddr 5 (.t 6)⟩,
  ⟨none, (some 91), .load 1 false (.t 90)⟩,
  ⟨none, (some 92), .bin .add (.t 89) (.t 91)⟩,
  ⟨none, (some 8), .mv (.t 92)⟩]
def r26 : List In := [⟨none, (some 59), .mv (.t 8)⟩,
  ⟨none, (some 60), .faddr 1 (.t 6)⟩,
  ⟨none, (some 61), .faddr 3 (.t 60)⟩,
  ⟨none, (some 62), .load 1 false (.t 61)⟩,
  ⟨none, (some 63), .call 37 [(.t 62)]⟩,
  ⟨none, (some 64), .bin .add (.t 59) (.t 63)⟩,
  ⟨none, (some 8), .mv (.t 64)⟩]
@[reducible] def c14 : IC := .cond (.t 85) (.reg r25) (.reg r26)
@[reducible] def c15 : IC := .seq (.reg r24) c14
@[reducible] def c16 : IC := .cond (.t 75) (.reg r23) c15
@[reducible] def c17 : IC := .seq (.reg r22) c16
@[reducible] def c18 : IC := .cond (.t 65) (.reg r21) c17
@[reducible] def c19 : IC := .seq (.reg r20) c18
@[reducible] def c20 : IC := .block 4 c19
@[reducible] def c21 : IC := .seq (.reg r19) c20
@[reducible] def c22 : IC := .seq (.reg r18) c21
@[reducible] def c23 : IC := .seq c13 c22
@[reducible] def c24 : IC := .seq (.reg r16) c23
@[reducible] def c25 : IC := .block 3 c24
def r27 : List In := [⟨none, (some 93), .bin .add (.t 46) (.k (.a (.int .i64 1)))⟩,
  ⟨none, (some 46), .mv (.t 93)⟩]
@[reducible] def c26 : IC := .seq c25 (.reg r27)
@[reducible] def c27 : IC := .seq c11 c26
@[reducible] def c28 : IC := .seq (.reg r15) c27
@[reducible] def c29 : IC := .loop c28
@[reducible] def c30 : IC := .block 2 c29
@[reducible] def c31 : IC := .seq (.reg r14) c30
def r28 : List In := [⟨none, (some 94), .mv (.t 4)⟩,
  ⟨none, (some 95), .mv (.t 8)⟩,
  ⟨none, (some 96), .apps 43 5 (.t 94) (.t 95)⟩,
  ⟨none, (some 97), .bsl 5 1 1 [.int .u8 0] [(0, 1, (.k (.a (.int .u8 10))))]⟩,
  ⟨none, (some 98), .app 43 5 1 1 (.t 96) (.t 97)⟩,
  ⟨none, (some 4), .mv (.t 98)⟩]
@[reducible] def c32 : IC := .seq c31 (.reg r28)
@[reducible] def c33 : IC := .seq (.reg r13) c32
@[reducible] def c34 : IC := .seq (.reg r12) c33
@[reducible] def c35 : IC := .seq c10 c34
@[reducible] def c36 : IC := .seq c7 c35
@[reducible] def c37 : IC := .seq (.reg r6) c36
@[reducible] def c38 : IC := .block 1 c37
def r29 : List In := [⟨none, (some 99), .bin .add (.t 18) (.k (.a (.int .i64 1)))⟩,
  ⟨none, (some 18), .mv (.t 99)⟩]
@[reducible] def c39 : IC := .seq c38 (.reg r29)
@[reducible] def c40 : IC := .seq c3 c39
@[reducible] def c41 : IC := .seq (.reg r5) c40
@[reducible] def c42 : IC := .loop c41
@[reducible] def c43 : IC := .block 0 c42
@[reducible] def c44 : IC := .seq (.reg r4) c43
def r30 : List In := [⟨none, (some 100), .mv (.t 4)⟩,
  ⟨none, (some 101), .b2s (.t 100)⟩,
  ⟨none, (some 102), .build [.int .i64 0, .int .i64 0] []⟩,
  ⟨none, (some 2), .mv (.t 101)⟩,
  ⟨none, none, .store 2 (.t 3) (.t 102)⟩]
@[reducible] def c45 : IC := .seq (.reg r30) .ret
@[reducible] def c46 : IC := .seq c44 c45
@[reducible] def c47 : IC := .seq (.reg r3) c46
@[reducible] def c48 : IC := .seq c2 c47
@[reducible] def c49 : IC := .seq (.reg r0) c48
@[reducible] def code : IC := c49
def res : List RV := [.tmp 2, .cell 3 2 true]
theorem rs : type_of% (And.intro r0.eq_1 <| And.intro r1.eq_1 <| And.intro r2.eq_1 <| And.intro r3.eq_1 <| And.intro r4.eq_1 <| And.intro r5.eq_1 <| And.intro r6.eq_1 <| And.intro r7.eq_1 <| And.intro r8.eq_1 <| And.intro r9.eq_1 <| And.intro r10.eq_1 <| And.intro r11.eq_1 <| And.intro r12.eq_1 <| And.intro r13.eq_1 <| And.intro r14.eq_1 <| And.intro r15.eq_1 <| And.intro r16.eq_1 <| And.intro r17.eq_1 <| And.intro r18.eq_1 <| And.intro r19.eq_1 <| And.intro r20.eq_1 <| And.intro r21.eq_1 <| And.intro r22.eq_1 <| And.intro r23.eq_1 <| And.intro r24.eq_1 <| And.intro r25.eq_1 <| And.intro r26.eq_1 <| And.intro r27.eq_1 <| And.intro r28.eq_1 <| And.intro r29.eq_1 <| r30.eq_1) := And.intro r0.eq_1 <| And.intro r1.eq_1 <| And.intro r2.eq_1 <| And.intro r3.eq_1 <| And.intro r4.eq_1 <| And.intro r5.eq_1 <| And.intro r6.eq_1 <| And.intro r7.eq_1 <| And.intro r8.eq_1 <| And.intro r9.eq_1 <| And.intro r10.eq_1 <| And.intro r11.eq_1 <| And.intro r12.eq_1 <| And.intro r13.eq_1 <| And.intro r14.eq_1 <| And.intro r15.eq_1 <| And.intro r16.eq_1 <| And.intro r17.eq_1 <| And.intro r18.eq_1 <| And.intro r19.eq_1 <| And.intro r20.eq_1 <| And.intro r21.eq_1 <| And.intro r22.eq_1 <| And.intro r23.eq_1 <| And.intro r24.eq_1 <| And.intro r25.eq_1 <| And.intro r26.eq_1 <| And.intro r27.eq_1 <| And.intro r28.eq_1 <| And.intro r29.eq_1 <| r30.eq_1
theorem fn : Body Tryd.prog 12 103 code res := ⟨by decide, Tryd.f12, _, Tryd.func12, rfl, rfl, by kernel_rfl, by kernel_rfl⟩
theorem enters : Xx Tryd.prog 12 = true := by kernel_rfl
end Z3
namespace Yy
def r0 : List In := [⟨none, (some 2), .mv (.k (.a (.raw (.slice none 0 0))))⟩,
  ⟨none, (some 3), .alloc 31 [.int .i64 0, .int .i64 0]⟩]
def r1 : List In := [⟨none, (some 13), .mv (.t 0)⟩,
  ⟨none, (some 14), .len (.t 13)⟩,
  ⟨none, (some 15), .bin .gtr (.t 14) (.k (.a (.int .i64 40000)))⟩]
def r2 : List In := [⟨none, (some 16), .build [.int .i64 0, .int .i64 0] [(0, 1, (.k (.a (.int .i64 5))))]⟩,
  ⟨none, (some 2), .mv (.k (.a (.raw (.slice none 0 0))))⟩,
  ⟨none, none, .store 2 (.t 3) (.t 16)⟩]
@[reducible] def c0 : IC := .seq (.reg r2) .ret
@[reducible] def c1 : IC := .cond (.t 15) c0 .skip
@[reducible] def c2 : IC := .seq (.reg r1) c1
def r3 : List In := [⟨none, (some 18), .mv (.t 0)⟩,
  ⟨none, (some 19), .call 42 [(.t 18), (.k (.a (.int .i64 0)))]⟩,
  ⟨none, (some 17), .mv (.t 19)⟩,
  ⟨none, (some 20), .ext 0 (.t 17)⟩,
  ⟨none, (some 21), .ext 1 (.t 17)⟩,
  ⟨none, (some 5), .alloc 31 [.int .i64 0, .int .i64 0]⟩,
  ⟨none, (some 4), .mv (.t 20)⟩,
  ⟨none, none, .store 2 (.t 5) (.t 21)⟩]
def r4 : List In := [⟨none, (some 22), .faddr 0 (.t 5)⟩,
  ⟨none, (some 23), .load 1 false (.t 22)⟩,
  ⟨none, (some 24), .bin .neq (.t 23) (.k (.a (.int .i64 0)))⟩]
def r5 : List In := [⟨none, (some 25), .load 2 true (.t 5)⟩,
  ⟨none, (some 2), .mv (.k (.a (.raw (.slice none 0 0))))⟩]
def r6 : List In := [⟨none, none, .store 2 (.t 3) (.t 25)⟩]
@[reducible] def c3 : IC := .seq (.dregt r5 r6) .ret
@[reducible] def c4 : IC := .cond (.t 24) c3 .skip
@[reducible] def c5 : IC := .seq (.reg r4) c4
@[reducible] def c6 : IC := .seq (.reg r3) c5
def r7 : List In := [⟨none, (some 6), .mv (.k (.a (.raw (.slice none 0 0))))⟩]
def r8 : List In := [⟨none, (some 26), .mv (.t 0)⟩,
  ⟨none, (some 27), .len (.t 26)⟩,
  ⟨none, (some 28), .mv (.k (.a (.int .i64 0)))⟩]
def r9 : List In := [⟨none, (some 29), .bin .lss (.t 28) (.t 27)⟩]
@[reducible] def c7 : IC := .cond (.t 29) .skip (.exit 0)
def r10 : List In := [⟨none, (some 30), .mv (.t 28)⟩,
  ⟨none, (some 31), .iaddr 6 (.t 26) (.t 28)⟩,
  ⟨none, (some 32), .load 6 true (.t 31)⟩,
  ⟨none, (some 8), .alloc 27 [.str [], .int .i64 0, .int .i64 0, .int .i64 0, .int .i64 0, .str []]⟩,
  ⟨none, (some 7), .mv (.t 30)⟩,
  ⟨none, none, .store 6 (.t 8) (.t 32)⟩]
def r11 : List In := [⟨none, (some 33), .faddr 0 (.t 8)⟩,
  ⟨none, (some 34), .load 1 false (.t 33)⟩,
  ⟨none, (some 35), .bin .neq (.t 34) (.k (.a (.str [])))⟩]
@[reducible] def c8 : IC := .cond (.t 35) (.exit 1) .skip
@[reducible] def c9 : IC := .seq (.reg r11) c8
def r12 : List In := [⟨none, (some 36), .faddr 1 (.t 8)⟩,
  ⟨none, (some 37), .load 4 true (.t 36)⟩,
  ⟨none, (some 9), .alloc 25 [.int .i64 0, .int .i64 0, .int .i64 0, .int .i64 0]⟩,
  ⟨none, none, .store 4 (.t 9) (.t 37)⟩]
def r13 : List In := [⟨none, (some 38), .faddr 5 (.t 8)⟩,
  ⟨none, (some 39), .load 1 false (.t 38)⟩,
  ⟨none, (some 40), .bin .neq (.t 39) (.k (.a (.str [])))⟩]
def r14 : List In := [⟨none, (some 41), .mv (.t 0)⟩,
  ⟨none, (some 42), .faddr 5 (.t 8)⟩,
  ⟨none, (some 43), .load 1 false (.t 42)⟩,
  ⟨none, (some 44), .call 43 [(.t 41), (.t 43), (.k (.a (.int .i64 0)))]⟩,
  ⟨none, (some 10), .mv (.t 44)⟩]
def r15 : List In := [⟨none, (some 45), .mv (.t 10)⟩,
  ⟨none, (some 46), .bin .lss (.t 45) (.k (.a (.int .i64 0)))⟩]
def r16 : List In := [⟨none, (some 47), .mv (.t 7)⟩,
  ⟨none, (some 48), .build [.int .i64 0, .int .i64 0] [(0, 1, (.k (.a (.int .i64 6)))), (1, 1, (.t 47))]⟩,
  ⟨none, (some 2), .mv (.k (.a (.raw (.slice none 0 0))))⟩,
  ⟨none, none, .store 2 (.t 3) (.t 48)⟩]
@[reducible] def c10 : IC := .seq (.reg r16) .ret
@[reducible] def c11 : IC := .cond (.t 46) c10 .skip
@[reducible] def c12 : IC := .seq (.reg r15) c11
def r17 : List In := [⟨none, (some 49), .mv (.t 10)⟩,
  ⟨none, (some 50), .bin .rem (.t 49) (.k (.a (.int .i64 65536)))⟩,
  ⟨none, (some 51), .faddr 3 (.t 9)⟩,
  ⟨none, none, .store 1 (.t 51) (.t 50)⟩]
@[reducible] def c13 : IC := .seq c12 (.reg r17)
@[reducible] def c14 : IC := .seq (.reg r14) c13
@[reducible] def c15 : IC := .cond (.t 40) c14 .skip
@[reducible] def c16 : IC := .seq (.reg r13) c15
def r18 : List In := [⟨none, (some 53), .load 4 true (.t 9)⟩,
  ⟨none, (some 54), .bsl 25 4 1 [.int .i64 0, .int .i64 0, .int .i64 0, .int .i64 0] [(0, 4, (.t 53))]⟩,
  ⟨none, (some 55), .call 44 [(.t 54)]⟩,
  ⟨none, (some 52), .mv (.t 55)⟩,
  ⟨none, (some 56), .ext 0 (.t 52)⟩,
  ⟨none, (some 57), .ext 1 (.t 52)⟩,
  ⟨none, (some 12), .alloc 31 [.int .i64 0, .int .i64 0]⟩,
  ⟨none, (some 11), .mv (.t 56)⟩,
  ⟨none, none, .store 2 (.t 12) (.t 57)⟩]
def r19 : List In := [⟨none, (some 58), .mv (.t 6)⟩,
  ⟨none, (some 59), .mv (.t 11)⟩,
  ⟨none, (some 60), .app 34 3 1 8 (.t 58) (.t 59)⟩,
  ⟨none, (some 6), .mv (.t 60)⟩]
@[reducible] def c17 : IC := .seq (.reg r18) (.reg r19)
@[reducible] def c18 : IC := .seq c16 c17
@[reducible] def c19 : IC := .seq (.reg r12) c18
@[reducible] def c20 : IC := .seq c9 c19
@[reducible] def c21 : IC := .seq (.reg r10) c20
@[reducible] def c22 : IC := .block 1 c21
def r20 : List In := [⟨none, (some 61), .bin .add (.t 28) (.k (.a (.int .i64 1)))⟩,
  ⟨none, (some 28), .mv (.t 61)⟩]
@[reducible] def c23 : IC := .seq c22 (.reg r20)
@[reducible] def c24 : IC := .seq c7 c23
@[reducible] def c25 : IC := .seq (.reg r9) c24
@[reducible] def c26 : IC := .loop c25
@[reducible] def c27 : IC := .block 0 c26
@[reducible] def c28 : IC := .seq (.reg r8) c27
def r21 : List In := [⟨none, (some 62), .mv (.t 6)⟩,
  ⟨none, (some 63), .build [.int .i64 0, .int .i64 0] []⟩,
  ⟨none, (some 2), .mv (.t 62)⟩,
  ⟨none, none, .store 2 (.t 3) (.t 63)⟩]
@[reducible] def c29 : IC := .seq (.reg r21) .ret
@[reducible] def c30 : IC := .seq c28 c29
@[reducible] def c31 : IC := .seq (.reg r7) c30
@[reducible] def c32 : IC := .seq c6 c31
@[reducible] def c33 : IC := .seq c2 c32
@[reducible] def c34 : IC := .seq (.reg r0) c33
@[reducible] def code : IC := c34
def res : List RV := [.tmp 2, .cell 3 2 true]
theorem rs : type_of% (And.intro r0.eq_1 <| And.intro r1.eq_1 <| And.intro r2.eq_1 <| And.intro r3.eq_1 <| And.intro r4.eq_1 <| And.intro r5.eq_1 <| And.intro r6.eq_1 <| And.intro r7.eq_1 <| And.intro r8.eq_1 <| And.intro r9.eq_1 <| And.intro r10.eq_1 <| And.intro r11.eq_1 <| And.intro r12.eq_1 <| And.intro r13.eq_1 <| And.intro r14.eq_1 <| And.intro r15.eq_1 <| And.intro r16.eq_1 <| And.intro r17.eq_1 <| And.intro r18.eq_1 <| And.intro r19.eq_1 <| And.intro r20.eq_1 <| r21.eq_1) := And.intro r0.eq_1 <| And.intro r1.eq_1 <| And.intro r2.eq_1 <| And.intro r3.eq_1 <| And.intro r4.eq_1 <| And.intro r5.eq_1 <| And.intro r6.eq_1 <| And.intro r7.eq_1 <| And.intro r8.eq_1 <| And.intro r9.eq_1 <| And.intro r10.eq_1 <| And.intro r11.eq_1 <| And.intro r12.eq_1 <| And.intro r13.eq_1 <| And.intro r14.eq_1 <| And.intro r15.eq_1 <| And.intro r16.eq_1 <| And.intro r17.eq_1 <| And.intro r18.eq_1 <| And.intro r19.eq_1 <| And.intro r20.eq_1 <| r21.eq_1
theorem fn : Body Tryd.prog 14 64 code res := ⟨by decide, Tryd.f14, _, Tryd.func14, rfl, rfl, by kernel_rfl, by kernel_rfl⟩
theorem enters : Xx Tryd.prog 14 = true := by kernel_rfl
end Yy
namespace X4
def r0 : List In := [⟨none, (some 4), .mv (.k (.a (.bool false)))⟩]
def r1 : List In := [⟨none, (some 13), .mv (.t 1)⟩,
  ⟨none, (some 14), .call 7 [(.t 13)]⟩,
  ⟨none, (some 15), .mv (.t 1)⟩,
  ⟨none, (some 16), .call 8 [(.t 15)]⟩,
  ⟨none, (some 17), .beq true (.t 14) (.t 16)⟩]
def r2 : List In := [⟨none, (some 4), .mv (.k (.a (.bool false)))⟩]
@[reducible] def c0 : IC := .seq (.reg r2) .ret
@[reducible] def c1 : IC := .cond (.t 17) c0 .skip
@[reducible] def c2 : IC := .seq (.reg r1) c1
def r3 : List In := [⟨none, (some 18), .mv (.t 0)⟩,
  ⟨none, (some 19), .len (.t 18)⟩,
  ⟨none, (some 20), .mv (.k (.a (.int .i64 0)))⟩]
def r4 : List In := [⟨none, (some 21), .bin .lss (.t 20) (.t 19)⟩]
@[reducible] def c3 : IC := .cond (.t 21) .skip (.exit 0)
def r5 : List In := [⟨none, (some 22), .iaddr 6 (.t 18) (.t 20)⟩,
  ⟨none, (some 23), .load 6 true (.t 22)⟩,
  ⟨none, (some 6), .alloc 27 [.str [], .int .i64 0, .int .i64 0, .int .i64 0, .int .i64 0, .str []]⟩,
  ⟨none, none, .store 6 (.t 6) (.t 23)⟩]
def r6 : List In := [⟨none, (some 24), .load 6 true (.t 6)⟩,
  ⟨none, (some 25), .call 9 [(.t 24)]⟩,
  ⟨none, (some 26), .load 6 true (.t 6)⟩,
  ⟨none, (some 27), .call 10 [(.t 26)]⟩,
  ⟨none, (some 28), .bin .neq (.t 25) (.t 27)⟩]
def r7 : List In := [⟨none, (some 4), .mv (.k (.a (.bool false)))⟩]
@[reducible] def c4 : IC := .seq (.reg r7) .ret
@[reducible] def c5 : IC := .cond (.t 28) c4 .skip
@[reducible] def c6 : IC := .seq (.dreg r6) c5
@[reducible] def c7 : IC := .seq (.reg r5) c6
@[reducible] def c8 : IC := .block 1 c7
def r8 : List In := [⟨none, (some 29), .bin .add (.t 20) (.k (.a (.int .i64 1)))⟩,
  ⟨none, (some 20), .mv (.t 29)⟩]
@[reducible] def c9 : IC := .seq c8 (.reg r8)
@[reducible] def c10 : IC := .seq c3 c9
@[reducible] def c11 : IC := .seq (.reg r4) c10
@[reducible] def c12 : IC := .loop c11
@[reducible] def c13 : IC := .block 0 c12
@[reducible] def c14 : IC := .seq (.reg r3) c13
def r9 : List In := [⟨none, (some 31), .mv (.t 0)⟩,
  ⟨none, (some 32), .call 11 [(.t 31)]⟩,
  ⟨none, (some 30), .mv (.t 32)⟩,
  ⟨none, (some 33), .ext 0 (.t 30)⟩,
  ⟨none, (some 34), .ext 1 (.t 30)⟩,
  ⟨none, (some 8), .alloc 31 [.int .i64 0, .int .i64 0]⟩,
  ⟨none, (some 7), .mv (.t 33)⟩,
  ⟨none, none, .store 2 (.t 8) (.t 34)⟩]
def r10 : List In := [⟨none, (some 36), .mv (.t 0)⟩,
  ⟨none, (some 37), .call 12 [(.t 36)]⟩,
  ⟨none, (some 35), .mv (.t 37)⟩,
  ⟨none, (some 38), .ext 0 (.t 35)⟩,
  ⟨none, (some 39), .ext 1 (.t 35)⟩,
  ⟨none, (some 10), .alloc 31 [.int .i64 0, .int .i64 0]⟩,
  ⟨none, (some 9), .mv (.t 38)⟩,
  ⟨none, none, .store 2 (.t 10) (.t 39)⟩]
def r11 : List In := [⟨none, (some 40), .mv (.t 7)⟩,
  ⟨none, (some 41), .mv (.t 9)⟩,
  ⟨none, (some 42), .bin .neq (.t 40) (.t 41)⟩,
  ⟨none, (some 43), .mv (.t 42)⟩,
  ⟨(some (43, false)), (some 44), .load 2 true (.t 8)⟩,
  ⟨(some (43, false)), (some 45), .load 2 true (.t 10)⟩,
  ⟨(some (43, false)), (some 46), .aeq true [.int, .int] (.t 44) (.t 45)⟩,
  ⟨none, (some 47), .pick (.t 43) (.k (.a (.bool true))) (.t 46)⟩]
def r12 : List In := [⟨none, (some 4), .mv (.k (.a (.bool false)))⟩]
@[reducible] def c15 : IC := .seq (.reg r12) .ret
@[reducible] def c16 : IC := .cond (.t 47) c15 .skip
@[reducible] def c17 : IC := .seq (.reg r11) c16
def r13 : List In := [⟨none, (some 49), .mv (.t 0)⟩,
  ⟨none, (some 50), .call 13 [(.t 49)]⟩,
  ⟨none, (some 48), .mv (.t 50)⟩,
  ⟨none, (some 51), .ext 0 (.t 48)⟩,
  ⟨none, (some 52), .ext 1 (.t 48)⟩,
  ⟨none, (some 11), .mv (.t 51)⟩,
  ⟨none, none, .store 2 (.t 8) (.t 52)⟩]
def r14 : List In := [⟨none, (some 54), .mv (.t 0)⟩,
  ⟨none, (some 55), .call 14 [(.t 54)]⟩,
  ⟨none, (some 53), .mv (.t 55)⟩,
  ⟨none, (some 56), .ext 0 (.t 53)⟩,
  ⟨none, (some 57), .ext 1 (.t 53)⟩,
  ⟨none, (some 12), .mv (.t 56)⟩,
  ⟨none, none, .store 2 (.t 10) (.t 57)⟩]
def r15 : List In := [⟨none, (some 58), .load 2 true (.t 8)⟩,
  ⟨none, (some 59), .load 2 true (.t 10)⟩,
  ⟨none, (some 60), .aeq false [.int, .int] (.t 58) (.t 59)⟩,
  ⟨none, (some 61), .mv (.t 60)⟩,
  ⟨(some (61, true)), (some 62), .mv (.t 11)⟩,
  ⟨(some (61, true)), (some 63), .mv (.t 12)⟩,
  ⟨(some (61, true)), (some 64), .call 15 [(.t 62), (.t 63)]⟩,
  ⟨none, (some 65), .pick (.t 61) (.t 64) (.k (.a (.bool false)))⟩,
  ⟨none, (some 4), .mv (.t 65)⟩]
@[reducible] def c18 : IC := .seq (.reg r15) .ret
@[reducible] def c19 : IC := .seq (.reg r14) c18
@[reducible] def c20 : IC := .seq (.reg r13) c19
@[reducible] def c21 : IC := .seq c17 c20
@[reducible] def c22 : IC := .seq (.reg r10) c21
@[reducible] def c23 : IC := .seq (.reg r9) c22
@[reducible] def c24 : IC := .seq c14 c23
@[reducible] def c25 : IC := .seq c2 c24
@[reducible] def c26 : IC := .seq (.reg r0) c25
@[reducible] def code : IC := c26
def res : List RV := [.tmp 4]
theorem rs : type_of% (And.intro r0.eq_1 <| And.intro r1.eq_1 <| And.intro r2.eq_1 <| And.intro r3.eq_1 <| And.intro r4.eq_1 <| And.intro r5.eq_1 <| And.intro r6.eq_1 <| And.intro r7.eq_1 <| And.intro r8.eq_1 <| And.intro r9.eq_1 <| And.intro r10.eq_1 <| And.intro r11.eq_1 <| And.intro r12.eq_1 <| And.intro r13.eq_1 <| And.intro r14.eq_1 <| r15.eq_1) := And.intro r0.eq_1 <| And.intro r1.eq_1 <| And.intro r2.eq_1 <| And.intro r3.eq_1 <| And.intro r4.eq_1 <| And.intro r5.eq_1 <| And.intro r6.eq_1 <| And.intro r7.eq_1 <| And.intro r8.eq_1 <| And.intro r9.eq_1 <| And.intro r10.eq_1 <| And.intro r11.eq_1 <| And.intro r12.eq_1 <| And.intro r13.eq_1 <| And.intro r14.eq_1 <| r15.eq_1
theorem fn : Body Tryd.prog 3 66 code res := ⟨by decide, Tryd.f3, _, Tryd.func3, rfl, rfl, by kernel_rfl, by kernel_rfl⟩
theorem enters : Xx Tryd.prog 3 = true := by kernel_rfl
end X4
end Go.Proofs.YtccjjcdjgibilaaDoor
