/- The small code of functions, and that it is theirs: printed by a program over the seat's translation. -/
import Derived.Test.YtccjjcdjgibilaaGreatDoorVcGf
import Derived.Test.YtccjjcdjgibilaaGreatDoorChecked
import Derived.KernelRfl
namespace Go.Proofs.YtccjjcdjgibilaaGreatDoor
open Vc
namespace X5
def r0 : List In := [⟨none, (some 4), .mv (.k (.a (.int .i64 0)))⟩,
  ⟨none, (some 5), .mv (.k (.a (.raw .nilIface)))⟩]
def r1 : List In := [⟨none, (some 6), .mv (.t 0)⟩,
  ⟨none, (some 7), .call 29 [(.t 6)]⟩]
def r2 : List In := [⟨none, (some 8), .mv (.t 0)⟩,
  ⟨none, (some 9), .mv (.t 0)⟩,
  ⟨none, (some 10), .nchk (.t 9)⟩,
  ⟨none, (some 11), .faddr 1 (.t 10)⟩,
  ⟨none, (some 12), .load 1 false (.t 11)⟩,
  ⟨none, (some 13), .mv (.t 1)⟩,
  ⟨none, (some 14), .apps 42 5 (.t 12) (.t 13)⟩,
  ⟨none, (some 15), .nchk (.t 8)⟩,
  ⟨none, (some 16), .faddr 1 (.t 15)⟩,
  ⟨none, none, .store 1 (.t 16) (.t 14)⟩]
def r3 : List In := [⟨none, (some 17), .mv (.t 1)⟩,
  ⟨none, (some 18), .slen (.t 17)⟩,
  ⟨none, (some 4), .mv (.t 18)⟩,
  ⟨none, (some 5), .mv (.k (.a (.raw .nilIface)))⟩]
@[reducible] def c0 : IC := .seq (.reg r3) .ret
@[reducible] def c1 : IC := .seq (.reg r2) c0
@[reducible] def c2 : IC := .seq (.reg r1) c1
@[reducible] def c3 : IC := .seq (.reg r0) c2
@[reducible] def code : IC := c3
def res : List RV := [.tmp 4, .tmp 5]
theorem rs : type_of% (And.intro r0.eq_1 <| And.intro r1.eq_1 <| And.intro r2.eq_1 <| r3.eq_1) := And.intro r0.eq_1 <| And.intro r1.eq_1 <| And.intro r2.eq_1 <| r3.eq_1
theorem fn : Body Tryz.prog 11 19 code res := ⟨by decide, Tryz.f11, _, Tryz.func11, rfl, rfl, by kernel_rfl, by kernel_rfl⟩
theorem enters : X9 Tryz.prog 11 = true := by kernel_rfl
end X5
namespace X7
def r0 : List In := [⟨none, (some 4), .mv (.k (.a (.raw .nilIface)))⟩]
def r1 : List In := [⟨none, (some 5), .mv (.t 0)⟩,
  ⟨none, (some 6), .call 29 [(.t 5)]⟩]
def r2 : List In := [⟨none, (some 7), .mv (.t 0)⟩,
  ⟨none, (some 8), .mv (.t 0)⟩,
  ⟨none, (some 9), .nchk (.t 8)⟩,
  ⟨none, (some 10), .faddr 1 (.t 9)⟩,
  ⟨none, (some 11), .load 1 false (.t 10)⟩,
  ⟨none, (some 12), .mv (.t 1)⟩,
  ⟨none, (some 13), .bsl 5 1 1 [.int .u8 0] [(0, 1, (.t 12))]⟩,
  ⟨none, (some 14), .app 42 5 1 1 (.t 11) (.t 13)⟩,
  ⟨none, (some 15), .nchk (.t 7)⟩,
  ⟨none, (some 16), .faddr 1 (.t 15)⟩,
  ⟨none, none, .store 1 (.t 16) (.t 14)⟩]
def r3 : List In := [⟨none, (some 4), .mv (.k (.a (.raw .nilIface)))⟩]
@[reducible] def c0 : IC := .seq (.reg r3) .ret
@[reducible] def c1 : IC := .seq (.reg r2) c0
@[reducible] def c2 : IC := .seq (.reg r1) c1
@[reducible] def c3 : IC := .seq (.reg r0) c2
@[reducible] def code : IC := c3
def res : List RV := [.tmp 4]
theorem rs : type_of% (And.intro r0.eq_1 <| And.intro r1.eq_1 <| And.intro r2.eq_1 <| r3.eq_1) := And.intro r0.eq_1 <| And.intro r1.eq_1 <| And.intro r2.eq_1 <| r3.eq_1
theorem fn : Body Tryz.prog 15 17 code res := ⟨by decide, Tryz.f15, _, Tryz.func15, rfl, rfl, by kernel_rfl, by kernel_rfl⟩
theorem enters : X9 Tryz.prog 15 = true := by kernel_rfl
end X7
namespace Sw
def r0 : List In := [⟨none, (some 2), .mv (.k (.a (.str [])))⟩]
def r1 : List In := [⟨none, (some 3), .mv (.t 0)⟩,
  ⟨none, (some 4), .call 14 [(.t 3)]⟩,
  ⟨none, (some 5), .bin .add (.k (.a (.str [114]))) (.t 4)⟩,
  ⟨none, (some 2), .mv (.t 5)⟩]
@[reducible] def c0 : IC := .seq (.reg r1) .ret
@[reducible] def c1 : IC := .seq (.reg r0) c0
@[reducible] def code : IC := c1
def res : List RV := [.tmp 2]
theorem rs : type_of% (And.intro r0.eq_1 <| r1.eq_1) := And.intro r0.eq_1 <| r1.eq_1
theorem fn : Body Tryz.prog 13 6 code res := ⟨by decide, Tryz.f13, _, Tryz.func13, rfl, rfl, by kernel_rfl, by kernel_rfl⟩
theorem enters : X9 Tryz.prog 13 = true := by kernel_rfl
end Sw
namespace Y9
def r0 : List In := [⟨none, (some 2), .mv (.k (.a (.str [])))⟩,
  ⟨none, (some 3), .alloc 26 [.int .i64 0, .int .i64 0]⟩]
def r1 : List In := [⟨none, (some 13), .mv (.t 0)⟩,
  ⟨none, (some 14), .len (.t 13)⟩,
  ⟨none, (some 15), .bin .gtr (.t 14) (.k (.a (.int .i64 40000)))⟩]
def r2 : List In := [⟨none, (some 16), .build [.int .i64 0, .int .i64 0] [(0, 1, (.k (.a (.int .i64 5))))]⟩,
  ⟨none, (some 2), .mv (.k (.a (.str [])))⟩,
  ⟨none, none, .store 2 (.t 3) (.t 16)⟩]
@[reducible] def c0 : IC := .seq (.reg r2) .ret
@[reducible] def c1 : IC := .cond (.t 15) c0 .skip
@[reducible] def c2 : IC := .seq (.reg r1) c1
def r3 : List In := [⟨none, (some 4), .alloc 44 [.raw (.pointer none), .raw (.slice none 0 0)]⟩]
def r4 : List In := [⟨none, (some 17), .mv (.t 0)⟩,
  ⟨none, (some 18), .len (.t 17)⟩,
  ⟨none, (some 19), .mv (.k (.a (.int .i64 0)))⟩]
def r5 : List In := [⟨none, (some 20), .bin .lss (.t 19) (.t 18)⟩]
@[reducible] def c3 : IC := .cond (.t 20) .skip (.exit 0)
def r6 : List In := [⟨none, (some 21), .mv (.t 19)⟩,
  ⟨none, (some 22), .iaddr 6 (.t 17) (.t 19)⟩,
  ⟨none, (some 23), .load 6 true (.t 22)⟩,
  ⟨none, (some 6), .alloc 34 [.str [], .int .i64 0, .int .i64 0, .int .i64 0, .int .i64 0, .str []]⟩,
  ⟨none, (some 5), .mv (.t 21)⟩,
  ⟨none, none, .store 6 (.t 6) (.t 23)⟩]
def r7 : List In := [⟨none, (some 24), .load 6 true (.t 6)⟩,
  ⟨none, (some 25), .call 10 [(.t 24)]⟩,
  ⟨none, (some 7), .mv (.t 25)⟩]
def r8 : List In := [⟨none, (some 26), .mv (.t 7)⟩,
  ⟨none, (some 27), .bin .neq (.t 26) (.k (.a (.int .i64 0)))⟩]
def r9 : List In := [⟨none, (some 28), .mv (.t 7)⟩,
  ⟨none, (some 29), .mv (.t 5)⟩,
  ⟨none, (some 30), .build [.int .i64 0, .int .i64 0] [(0, 1, (.t 28)), (1, 1, (.t 29))]⟩,
  ⟨none, (some 2), .mv (.k (.a (.str [])))⟩,
  ⟨none, none, .store 2 (.t 3) (.t 30)⟩]
@[reducible] def c4 : IC := .seq (.reg r9) .ret
@[reducible] def c5 : IC := .cond (.t 27) c4 .skip
@[reducible] def c6 : IC := .seq (.reg r8) c5
@[reducible] def c7 : IC := .seq (.reg r7) c6
def r10 : List In := [⟨none, (some 31), .faddr 0 (.t 6)⟩,
  ⟨none, (some 32), .load 1 false (.t 31)⟩,
  ⟨none, (some 33), .bin .neq (.t 32) (.k (.a (.str [])))⟩]
def r11 : List In := [⟨none, (some 34), .faddr 0 (.t 6)⟩,
  ⟨none, (some 35), .load 1 false (.t 34)⟩,
  ⟨none, (some 36), .bin .add (.t 35) (.k (.a (.str [58, 10])))⟩,
  ⟨none, (some 37), .call 11 [(.t 4), (.t 36)]⟩]
@[reducible] def c8 : IC := .seq (.reg r11) (.exit 1)
@[reducible] def c9 : IC := .cond (.t 33) c8 .skip
@[reducible] def c10 : IC := .seq (.reg r10) c9
def r12 : List In := [⟨none, (some 8), .mv (.k (.a (.raw (.slice none 0 0))))⟩]
def r13 : List In := [⟨none, (some 39), .faddr 1 (.t 6)⟩,
  ⟨none, (some 40), .faddr 0 (.t 39)⟩,
  ⟨none, (some 41), .load 1 false (.t 40)⟩,
  ⟨none, (some 42), .call 12 [(.t 41)]⟩,
  ⟨none, (some 38), .mv (.t 42)⟩,
  ⟨none, (some 43), .ext 0 (.t 38)⟩,
  ⟨none, (some 44), .ext 1 (.t 38)⟩,
  ⟨none, (some 45), .ext 2 (.t 38)⟩,
  ⟨none, (some 46), .ext 3 (.t 38)⟩,
  ⟨none, (some 9), .mv (.t 43)⟩,
  ⟨none, (some 10), .mv (.t 44)⟩,
  ⟨none, (some 11), .mv (.t 45)⟩,
  ⟨none, (some 12), .mv (.t 46)⟩]
def r14 : List In := [⟨none, (some 47), .mv (.t 9)⟩]
def r15 : List In := [⟨none, (some 48), .mv (.t 8)⟩,
  ⟨none, (some 49), .faddr 1 (.t 6)⟩,
  ⟨none, (some 50), .faddr 1 (.t 49)⟩,
  ⟨none, (some 51), .load 1 false (.t 50)⟩,
  ⟨none, (some 52), .call 13 [(.t 51)]⟩,
  ⟨none, (some 53), .bsl 9 1 1 [.str []] [(0, 1, (.t 52))]⟩,
  ⟨none, (some 54), .app 50 9 1 16 (.t 48) (.t 53)⟩,
  ⟨none, (some 8), .mv (.t 54)⟩]
@[reducible] def c11 : IC := .cond (.t 47) (.reg r15) .skip
@[reducible] def c12 : IC := .seq (.reg r14) c11
def r16 : List In := [⟨none, (some 55), .mv (.t 10)⟩]
def r17 : List In := [⟨none, (some 56), .mv (.t 8)⟩,
  ⟨none, (some 57), .faddr 1 (.t 6)⟩,
  ⟨none, (some 58), .faddr 2 (.t 57)⟩,
  ⟨none, (some 59), .load 1 false (.t 58)⟩,
  ⟨none, (some 60), .call 13 [(.t 59)]⟩,
  ⟨none, (some 61), .bsl 9 1 1 [.str []] [(0, 1, (.t 60))]⟩,
  ⟨none, (some 62), .app 50 9 1 16 (.t 56) (.t 61)⟩,
  ⟨none, (some 8), .mv (.t 62)⟩]
@[reducible] def c13 : IC := .cond (.t 55) (.reg r17) .skip
@[reducible] def c14 : IC := .seq (.reg r16) c13
def r18 : List In := [⟨none, (some 64), .mv (.t 11)⟩,
  ⟨none, (some 65), .mv (.t 64)⟩,
  ⟨(some (65, true)), (some 66), .faddr 5 (.t 6)⟩,
  ⟨(some (65, true)), (some 67), .load 1 false (.t 66)⟩,
  ⟨(some (65, true)), (some 68), .bin .neq (.t 67) (.k (.a (.str [])))⟩,
  ⟨none, (some 69), .pick (.t 65) (.t 68) (.k (.a (.bool false)))⟩,
  ⟨none, (some 63), .mv (.t 69)⟩]
def r19 : List In := [⟨none, (some 70), .mv (.t 8)⟩,
  ⟨none, (some 71), .faddr 5 (.t 6)⟩,
  ⟨none, (some 72), .load 1 false (.t 71)⟩,
  ⟨none, (some 73), .bsl 9 1 1 [.str []] [(0, 1, (.t 72))]⟩,
  ⟨none, (some 74), .app 50 9 1 16 (.t 70) (.t 73)⟩,
  ⟨none, (some 8), .mv (.t 74)⟩]
def r20 : List In := [⟨none, (some 76), .mv (.t 11)⟩,
  ⟨none, (some 75), .mv (.t 76)⟩]
def r21 : List In := [⟨none, (some 77), .mv (.t 8)⟩,
  ⟨none, (some 78), .faddr 1 (.t 6)⟩,
  ⟨none, (some 79), .faddr 3 (.t 78)⟩,
  ⟨none, (some 80), .load 1 false (.t 79)⟩,
  ⟨none, (some 81), .call 14 [(.t 80)]⟩,
  ⟨none, (some 82), .bsl 9 1 1 [.str []] [(0, 1, (.t 81))]⟩,
  ⟨none, (some 83), .app 50 9 1 16 (.t 77) (.t 82)⟩,
  ⟨none, (some 8), .mv (.t 83)⟩]
@[reducible] def c15 : IC := .cond (.t 75) (.reg r21) .skip
@[reducible] def c16 : IC := .seq (.reg r20) c15
@[reducible] def c17 : IC := .cond (.t 63) (.reg r19) c16
@[reducible] def c18 : IC := .seq (.reg r18) c17
@[reducible] def c19 : IC := .block 2 c18
def r22 : List In := [⟨none, (some 84), .call 15 [(.t 4), (.k (.a (.int .u8 9)))]⟩]
def r23 : DT := (.take ⟨none, (some 86), .faddr 1 (.t 6)⟩ true
  (.take ⟨none, (some 87), .faddr 0 (.t 86)⟩ true
  (.take ⟨none, (some 88), .load 1 false (.t 87)⟩ true
  (.alt ⟨none, (some 85), .call 16 []⟩ true
  (.alt ⟨none, (some 89), .iaddr 1 (.t 85) (.t 88)⟩ false
  (.alt ⟨none, (some 90), .load 1 false (.t 89)⟩ false
  (.alt ⟨none, (some 91), .call 11 [(.t 4), (.t 90)]⟩ false
  .done
  .stop)
  .stop)
  .stop)
  .stop))))
def r24 : List In := [⟨none, (some 92), .mv (.t 8)⟩,
  ⟨none, (some 93), .len (.t 92)⟩,
  ⟨none, (some 94), .bin .gtr (.t 93) (.k (.a (.int .i64 0)))⟩]
def r25 : List In := [⟨none, (some 95), .call 15 [(.t 4), (.k (.a (.int .u8 32)))]⟩]
@[reducible] def c20 : IC := .cond (.t 94) (.reg r25) .skip
@[reducible] def c21 : IC := .seq (.reg r24) c20
def r26 : List In := [⟨none, (some 96), .mv (.t 8)⟩,
  ⟨none, (some 97), .call 17 [(.t 96), (.k (.a (.str [44, 32])))]⟩,
  ⟨none, (some 98), .bin .add (.t 97) (.k (.a (.str [10])))⟩,
  ⟨none, (some 99), .call 11 [(.t 4), (.t 98)]⟩]
@[reducible] def c22 : IC := .seq c21 (.reg r26)
@[reducible] def c23 : IC := .seq (.dany r23) c22
def c24 : IC := .seq (.reg r22) c23
@[reducible] def c25 : IC := .seq c19 c24
@[reducible] def c26 : IC := .seq c14 c25
@[reducible] def c27 : IC := .seq c12 c26
@[reducible] def c28 : IC := .seq (.reg r13) c27
@[reducible] def c29 : IC := .seq (.reg r12) c28
@[reducible] def c30 : IC := .seq c10 c29
@[reducible] def c31 : IC := .seq c7 c30
@[reducible] def c32 : IC := .seq (.reg r6) c31
@[reducible] def c33 : IC := .block 1 c32
def r27 : List In := [⟨none, (some 100), .bin .add (.t 19) (.k (.a (.int .i64 1)))⟩,
  ⟨none, (some 19), .mv (.t 100)⟩]
@[reducible] def c34 : IC := .seq c33 (.reg r27)
@[reducible] def c35 : IC := .seq c3 c34
@[reducible] def c36 : IC := .seq (.reg r5) c35
@[reducible] def c37 : IC := .loop c36
@[reducible] def c38 : IC := .block 0 c37
@[reducible] def c39 : IC := .seq (.reg r4) c38
def r28 : List In := [⟨none, (some 101), .call 18 [(.t 4)]⟩,
  ⟨none, (some 102), .build [.int .i64 0, .int .i64 0] []⟩,
  ⟨none, (some 2), .mv (.t 101)⟩,
  ⟨none, none, .store 2 (.t 3) (.t 102)⟩]
@[reducible] def c40 : IC := .seq (.reg r28) .ret
@[reducible] def c41 : IC := .seq c39 c40
@[reducible] def c42 : IC := .seq (.reg r3) c41
@[reducible] def c43 : IC := .seq c2 c42
@[reducible] def c44 : IC := .seq (.reg r0) c43
@[reducible] def code : IC := c44
def res : List RV := [.tmp 2, .cell 3 2 true]
theorem rs : type_of% (And.intro r0.eq_1 <| And.intro r1.eq_1 <| And.intro r2.eq_1 <| And.intro r3.eq_1 <| And.intro r4.eq_1 <| And.intro r5.eq_1 <| And.intro r6.eq_1 <| And.intro r7.eq_1 <| And.intro r8.eq_1 <| And.intro r9.eq_1 <| And.intro r10.eq_1 <| And.intro r11.eq_1 <| And.intro r12.eq_1 <| And.intro r13.eq_1 <| And.intro r14.eq_1 <| And.intro r15.eq_1 <| And.intro r16.eq_1 <| And.intro r17.eq_1 <| And.intro r18.eq_1 <| And.intro r19.eq_1 <| And.intro r20.eq_1 <| And.intro r21.eq_1 <| And.intro r22.eq_1 <| And.intro r23.eq_1 <| And.intro r24.eq_1 <| And.intro r25.eq_1 <| And.intro r26.eq_1 <| And.intro r27.eq_1 <| r28.eq_1) := And.intro r0.eq_1 <| And.intro r1.eq_1 <| And.intro r2.eq_1 <| And.intro r3.eq_1 <| And.intro r4.eq_1 <| And.intro r5.eq_1 <| And.intro r6.eq_1 <| And.intro r7.eq_1 <| And.intro r8.eq_1 <| And.intro r9.eq_1 <| And.intro r10.eq_1 <| And.intro r11.eq_1 <| And.intro r12.eq_1 <| And.intro r13.eq_1 <| And.intro r14.eq_1 <| And.intro r15.eq_1 <| And.intro r16.eq_1 <| And.intro r17.eq_1 <| And.intro r18.eq_1 <| And.intro r19.eq_1 <| And.intro r20.eq_1 <| And.intro r21.eq_1 <| And.intro r22.eq_1 <| And.intro r23.eq_1 <| And.intro r24.eq_1 <| And.intro r25.eq_1 <| And.intro r26.eq_1 <| And.intro r27.eq_1 <| r28.eq_1
theorem fn : Body Tryz.prog 5 103 code res := ⟨by decide, Tryz.f5, _, Tryz.func5, rfl, rfl, by kernel_rfl, by kernel_rfl⟩
theorem enters : X9 Tryz.prog 5 = true := by kernel_rfl
end Y9
end Go.Proofs.YtccjjcdjgibilaaGreatDoor
