/- The small code of functions, and that it is theirs: printed by a program over the seat's translation. -/
import Derived.Test.YtccjjcdjgibilaaGreatDoorVcGf
import Derived.Test.YtccjjcdjgibilaaGreatDoorChecked
import Derived.KernelRfl
namespace Go.Proofs.YtccjjcdjgibilaaGreatDoor
open Vc
namespace Wq
def r0 : List In := [⟨none, (some 2), .mv (.k (.a (.bool false)))⟩]
def r1 : List In := [⟨none, (some 6), .mv (.t 0)⟩,
  ⟨none, (some 7), .slen (.t 6)⟩,
  ⟨none, (some 8), .bin .lss (.t 7) (.k (.a (.int .i64 1)))⟩,
  ⟨none, (some 9), .mv (.t 8)⟩,
  ⟨(some (9, false)), (some 10), .mv (.t 0)⟩,
  ⟨(some (9, false)), (some 11), .slen (.t 10)⟩,
  ⟨(some (9, false)), (some 12), .bin .gtr (.t 11) (.k (.a (.int .i64 32)))⟩,
  ⟨none, (some 13), .pick (.t 9) (.k (.a (.bool true))) (.t 12)⟩]
def r2 : List In := [⟨none, (some 2), .mv (.k (.a (.bool false)))⟩]
@[reducible] def c0 : IC := .seq (.reg r2) .ret
@[reducible] def c1 : IC := .cond (.t 13) c0 .skip
@[reducible] def c2 : IC := .seq (.reg r1) c1
def r3 : List In := [⟨none, (some 14), .mv (.t 0)⟩,
  ⟨none, (some 15), .slen (.t 14)⟩,
  ⟨none, (some 16), .mv (.k (.a (.int .i64 0)))⟩]
def r4 : List In := [⟨none, (some 17), .bin .lss (.t 16) (.t 15)⟩]
@[reducible] def c3 : IC := .cond (.t 17) .skip (.exit 0)
def r5 : List In := [⟨none, (some 18), .mv (.t 16)⟩,
  ⟨none, (some 3), .mv (.t 18)⟩]
def r6 : List In := [⟨none, (some 19), .mv (.t 0)⟩,
  ⟨none, (some 20), .mv (.t 3)⟩,
  ⟨none, (some 21), .sidx (.t 19) (.t 20)⟩,
  ⟨none, (some 4), .mv (.t 21)⟩]
def r7 : List In := [⟨none, (some 22), .mv (.t 4)⟩,
  ⟨none, (some 23), .bin .geq (.t 22) (.k (.a (.int .u8 97)))⟩,
  ⟨none, (some 24), .mv (.t 23)⟩,
  ⟨(some (24, true)), (some 25), .mv (.t 4)⟩,
  ⟨(some (24, true)), (some 26), .bin .leq (.t 25) (.k (.a (.int .u8 122)))⟩,
  ⟨none, (some 27), .pick (.t 24) (.t 26) (.k (.a (.bool false)))⟩,
  ⟨none, (some 28), .mv (.t 27)⟩,
  ⟨(some (28, false)), (some 29), .mv (.t 4)⟩,
  ⟨(some (28, false)), (some 30), .bin .eql (.t 29) (.k (.a (.int .u8 95)))⟩,
  ⟨none, (some 31), .pick (.t 28) (.k (.a (.bool true))) (.t 30)⟩,
  ⟨none, (some 32), .mv (.t 31)⟩,
  ⟨(some (32, false)), (some 33), .mv (.t 4)⟩,
  ⟨(some (32, false)), (some 34), .bin .eql (.t 33) (.k (.a (.int .u8 46)))⟩,
  ⟨(some (32, false)), (some 35), .mv (.t 34)⟩,
  ⟨(some (35, true)), (some 36), .mv (.t 3)⟩,
  ⟨(some (35, true)), (some 37), .bin .eql (.t 36) (.k (.a (.int .i64 0)))⟩,
  ⟨(some (32, false)), (some 38), .pick (.t 35) (.t 37) (.k (.a (.bool false)))⟩,
  ⟨none, (some 39), .pick (.t 32) (.k (.a (.bool true))) (.t 38)⟩,
  ⟨none, (some 5), .mv (.t 39)⟩]
def r8 : List In := [⟨none, (some 40), .mv (.t 5)⟩,
  ⟨none, (some 41), .un .not (.t 40)⟩,
  ⟨none, (some 42), .mv (.t 41)⟩,
  ⟨(some (42, true)), (some 43), .mv (.t 3)⟩,
  ⟨(some (42, true)), (some 44), .bin .eql (.t 43) (.k (.a (.int .i64 0)))⟩,
  ⟨(some (42, true)), (some 45), .mv (.t 44)⟩,
  ⟨(some (45, false)), (some 46), .mv (.t 4)⟩,
  ⟨(some (45, false)), (some 47), .bin .lss (.t 46) (.k (.a (.int .u8 48)))⟩,
  ⟨(some (42, true)), (some 48), .pick (.t 45) (.k (.a (.bool true))) (.t 47)⟩,
  ⟨(some (42, true)), (some 49), .mv (.t 48)⟩,
  ⟨(some (49, false)), (some 50), .mv (.t 4)⟩,
  ⟨(some (49, false)), (some 51), .bin .gtr (.t 50) (.k (.a (.int .u8 57)))⟩,
  ⟨(some (42, true)), (some 52), .pick (.t 49) (.k (.a (.bool true))) (.t 51)⟩,
  ⟨none, (some 53), .pick (.t 42) (.t 52) (.k (.a (.bool false)))⟩]
def r9 : List In := [⟨none, (some 2), .mv (.k (.a (.bool false)))⟩]
@[reducible] def c4 : IC := .seq (.reg r9) .ret
@[reducible] def c5 : IC := .cond (.t 53) c4 .skip
@[reducible] def c6 : IC := .seq (.reg r8) c5
@[reducible] def c7 : IC := .seq (.reg r7) c6
@[reducible] def c8 : IC := .seq (.reg r6) c7
@[reducible] def c9 : IC := .seq (.reg r5) c8
@[reducible] def c10 : IC := .block 1 c9
def r10 : List In := [⟨none, (some 54), .bin .add (.t 16) (.k (.a (.int .i64 1)))⟩,
  ⟨none, (some 16), .mv (.t 54)⟩]
@[reducible] def c11 : IC := .seq c10 (.reg r10)
@[reducible] def c12 : IC := .seq c3 c11
@[reducible] def c13 : IC := .seq (.reg r4) c12
@[reducible] def c14 : IC := .loop c13
@[reducible] def c15 : IC := .block 0 c14
@[reducible] def c16 : IC := .seq (.reg r3) c15
def r11 : List In := [⟨none, (some 55), .mv (.t 0)⟩,
  ⟨none, (some 56), .bin .neq (.t 55) (.k (.a (.str [46])))⟩,
  ⟨none, (some 2), .mv (.t 56)⟩]
@[reducible] def c17 : IC := .seq (.reg r11) .ret
@[reducible] def c18 : IC := .seq c16 c17
@[reducible] def c19 : IC := .seq c2 c18
@[reducible] def c20 : IC := .seq (.reg r0) c19
@[reducible] def code : IC := c20
def res : List RV := [.tmp 2]
theorem rs : type_of% (And.intro r0.eq_1 <| And.intro r1.eq_1 <| And.intro r2.eq_1 <| And.intro r3.eq_1 <| And.intro r4.eq_1 <| And.intro r5.eq_1 <| And.intro r6.eq_1 <| And.intro r7.eq_1 <| And.intro r8.eq_1 <| And.intro r9.eq_1 <| And.intro r10.eq_1 <| r11.eq_1) := And.intro r0.eq_1 <| And.intro r1.eq_1 <| And.intro r2.eq_1 <| And.intro r3.eq_1 <| And.intro r4.eq_1 <| And.intro r5.eq_1 <| And.intro r6.eq_1 <| And.intro r7.eq_1 <| And.intro r8.eq_1 <| And.intro r9.eq_1 <| And.intro r10.eq_1 <| r11.eq_1
theorem fn : Body Tryz.prog 26 57 code res := ⟨by decide, Tryz.f26, _, Tryz.func26, rfl, rfl, by kernel_rfl, by kernel_rfl⟩
theorem enters : X9 Tryz.prog 26 = true := by kernel_rfl
end Wq
namespace Vw
def r0 : List In := [⟨none, (some 2), .mv (.k (.a (.bool false)))⟩]
def r1 : List In := [⟨none, (some 8), .mv (.t 0)⟩,
  ⟨none, (some 9), .call 12 [(.t 8)]⟩,
  ⟨none, (some 7), .mv (.t 9)⟩,
  ⟨none, (some 10), .ext 0 (.t 7)⟩,
  ⟨none, (some 11), .ext 1 (.t 7)⟩,
  ⟨none, (some 12), .ext 2 (.t 7)⟩,
  ⟨none, (some 13), .ext 3 (.t 7)⟩,
  ⟨none, (some 3), .mv (.t 10)⟩,
  ⟨none, (some 4), .mv (.t 11)⟩,
  ⟨none, (some 5), .mv (.t 12)⟩,
  ⟨none, (some 6), .mv (.t 13)⟩]
def r2 : List In := [⟨none, (some 14), .mv (.t 6)⟩,
  ⟨none, (some 15), .bin .eql (.t 14) (.k (.a (.int .i64 0)))⟩,
  ⟨none, (some 16), .mv (.t 15)⟩,
  ⟨(some (16, true)), (some 17), .mv (.t 5)⟩,
  ⟨none, (some 18), .pick (.t 16) (.t 17) (.k (.a (.bool false)))⟩,
  ⟨none, (some 19), .mv (.t 18)⟩,
  ⟨(some (19, true)), (some 20), .mv (.t 0)⟩,
  ⟨(some (19, true)), (some 21), .bin .neq (.t 20) (.k (.a (.int .i64 32)))⟩,
  ⟨none, (some 22), .pick (.t 19) (.t 21) (.k (.a (.bool false)))⟩,
  ⟨none, (some 2), .mv (.t 22)⟩]
@[reducible] def c0 : IC := .seq (.reg r2) .ret
@[reducible] def c1 : IC := .seq (.reg r1) c0
@[reducible] def c2 : IC := .seq (.reg r0) c1
@[reducible] def code : IC := c2
def res : List RV := [.tmp 2]
theorem rs : type_of% (And.intro r0.eq_1 <| And.intro r1.eq_1 <| r2.eq_1) := And.intro r0.eq_1 <| And.intro r1.eq_1 <| r2.eq_1
theorem fn : Body Tryz.prog 28 23 code res := ⟨by decide, Tryz.f28, _, Tryz.func28, rfl, rfl, by kernel_rfl, by kernel_rfl⟩
theorem enters : X9 Tryz.prog 28 = true := by kernel_rfl
end Vw
namespace V9
def r0 : List In := [⟨none, (some 1), .box 34 (.t 0)⟩,
  ⟨none, (some 2), .mv (.k (.a (.int .i64 0)))⟩]
def r1 : List In := [⟨none, (some 4), .faddr 0 (.t 1)⟩,
  ⟨none, (some 5), .load 1 false (.t 4)⟩,
  ⟨none, (some 6), .bin .neq (.t 5) (.k (.a (.str [])))⟩]
def r2 : List In := [⟨none, (some 7), .faddr 0 (.t 1)⟩,
  ⟨none, (some 8), .load 1 false (.t 7)⟩,
  ⟨none, (some 9), .call 26 [(.t 8)]⟩,
  ⟨none, (some 10), .un .not (.t 9)⟩]
def r3 : List In := [⟨none, (some 2), .mv (.k (.a (.int .i64 7)))⟩]
@[reducible] def c0 : IC := .seq (.reg r3) .ret
@[reducible] def c1 : IC := .cond (.t 10) c0 .skip
@[reducible] def c2 : IC := .seq (.reg r2) c1
def r4 : List In := [⟨none, (some 11), .faddr 5 (.t 1)⟩,
  ⟨none, (some 12), .load 1 false (.t 11)⟩,
  ⟨none, (some 13), .bin .neq (.t 12) (.k (.a (.str [])))⟩,
  ⟨none, (some 14), .mv (.t 13)⟩,
  ⟨(some (14, false)), (some 15), .faddr 1 (.t 1)⟩,
  ⟨(some (14, false)), (some 16), .load 4 true (.t 15)⟩,
  ⟨(some (14, false)), (some 17), .build [.int .i64 0, .int .i64 0, .int .i64 0, .int .i64 0] []⟩,
  ⟨(some (14, false)), (some 18), .aeq true [.int, .int, .int, .int] (.t 16) (.t 17)⟩,
  ⟨none, (some 19), .pick (.t 14) (.k (.a (.bool true))) (.t 18)⟩]
def r5 : List In := [⟨none, (some 2), .mv (.k (.a (.int .i64 8)))⟩]
@[reducible] def c3 : IC := .seq (.reg r5) .ret
@[reducible] def c4 : IC := .cond (.t 19) c3 .skip
@[reducible] def c5 : IC := .seq (.reg r4) c4
def r6 : List In := [⟨none, (some 2), .mv (.k (.a (.int .i64 0)))⟩]
@[reducible] def c6 : IC := .seq (.reg r6) .ret
@[reducible] def c7 : IC := .seq c5 c6
@[reducible] def c8 : IC := .seq c2 c7
@[reducible] def c9 : IC := .cond (.t 6) c8 .skip
@[reducible] def c10 : IC := .seq (.reg r1) c9
def r7 : List In := [⟨none, (some 20), .faddr 1 (.t 1)⟩,
  ⟨none, (some 21), .load 4 true (.t 20)⟩,
  ⟨none, (some 22), .call 27 [(.t 21)]⟩,
  ⟨none, (some 3), .mv (.t 22)⟩]
def r8 : List In := [⟨none, (some 23), .mv (.t 3)⟩,
  ⟨none, (some 24), .bin .neq (.t 23) (.k (.a (.int .i64 0)))⟩]
def r9 : List In := [⟨none, (some 25), .mv (.t 3)⟩,
  ⟨none, (some 2), .mv (.t 25)⟩]
@[reducible] def c11 : IC := .seq (.reg r9) .ret
@[reducible] def c12 : IC := .cond (.t 24) c11 .skip
@[reducible] def c13 : IC := .seq (.reg r8) c12
@[reducible] def c14 : IC := .seq (.reg r7) c13
def r10 : List In := [⟨none, (some 27), .faddr 5 (.t 1)⟩,
  ⟨none, (some 28), .load 1 false (.t 27)⟩,
  ⟨none, (some 29), .bin .eql (.t 28) (.k (.a (.str [])))⟩,
  ⟨none, (some 26), .mv (.t 29)⟩]
def r11 : List In := [⟨none, (some 2), .mv (.k (.a (.int .i64 0)))⟩]
@[reducible] def c15 : IC := .seq (.reg r11) .ret
def r12 : List In := [⟨none, (some 31), .faddr 5 (.t 1)⟩,
  ⟨none, (some 32), .load 1 false (.t 31)⟩,
  ⟨none, (some 33), .call 26 [(.t 32)]⟩,
  ⟨none, (some 34), .un .not (.t 33)⟩,
  ⟨none, (some 30), .mv (.t 34)⟩]
def r13 : List In := [⟨none, (some 2), .mv (.k (.a (.int .i64 7)))⟩]
@[reducible] def c16 : IC := .seq (.reg r13) .ret
def r14 : List In := [⟨none, (some 36), .faddr 1 (.t 1)⟩,
  ⟨none, (some 37), .faddr 0 (.t 36)⟩,
  ⟨none, (some 38), .load 1 false (.t 37)⟩,
  ⟨none, (some 39), .call 28 [(.t 38)]⟩,
  ⟨none, (some 40), .un .not (.t 39)⟩,
  ⟨none, (some 41), .mv (.t 40)⟩,
  ⟨(some (41, false)), (some 42), .faddr 1 (.t 1)⟩,
  ⟨(some (41, false)), (some 43), .faddr 3 (.t 42)⟩,
  ⟨(some (41, false)), (some 44), .load 1 false (.t 43)⟩,
  ⟨(some (41, false)), (some 45), .bin .neq (.t 44) (.k (.a (.int .i64 0)))⟩,
  ⟨none, (some 46), .pick (.t 41) (.k (.a (.bool true))) (.t 45)⟩,
  ⟨none, (some 35), .mv (.t 46)⟩]
def r15 : List In := [⟨none, (some 2), .mv (.k (.a (.int .i64 8)))⟩]
@[reducible] def c17 : IC := .seq (.reg r15) .ret
@[reducible] def c18 : IC := .cond (.t 35) c17 .skip
@[reducible] def c19 : IC := .seq (.reg r14) c18
@[reducible] def c20 : IC := .cond (.t 30) c16 c19
@[reducible] def c21 : IC := .seq (.reg r12) c20
@[reducible] def c22 : IC := .cond (.t 26) c15 c21
@[reducible] def c23 : IC := .seq (.reg r10) c22
@[reducible] def c24 : IC := .block 0 c23
def r16 : List In := [⟨none, (some 2), .mv (.k (.a (.int .i64 0)))⟩]
@[reducible] def c25 : IC := .seq (.reg r16) .ret
@[reducible] def c26 : IC := .seq c24 c25
@[reducible] def c27 : IC := .seq c14 c26
@[reducible] def c28 : IC := .seq c10 c27
@[reducible] def c29 : IC := .seq (.reg r0) c28
@[reducible] def code : IC := c29
def res : List RV := [.tmp 2]
theorem rs : type_of% (And.intro r0.eq_1 <| And.intro r1.eq_1 <| And.intro r2.eq_1 <| And.intro r3.eq_1 <| And.intro r4.eq_1 <| And.intro r5.eq_1 <| And.intro r6.eq_1 <| And.intro r7.eq_1 <| And.intro r8.eq_1 <| And.intro r9.eq_1 <| And.intro r10.eq_1 <| And.intro r11.eq_1 <| And.intro r12.eq_1 <| And.intro r13.eq_1 <| And.intro r14.eq_1 <| And.intro r15.eq_1 <| r16.eq_1) := And.intro r0.eq_1 <| And.intro r1.eq_1 <| And.intro r2.eq_1 <| And.intro r3.eq_1 <| And.intro r4.eq_1 <| And.intro r5.eq_1 <| And.intro r6.eq_1 <| And.intro r7.eq_1 <| And.intro r8.eq_1 <| And.intro r9.eq_1 <| And.intro r10.eq_1 <| And.intro r11.eq_1 <| And.intro r12.eq_1 <| And.intro r13.eq_1 <| And.intro r14.eq_1 <| And.intro r15.eq_1 <| r16.eq_1
theorem fn : Body Tryz.prog 10 47 code res := ⟨by decide, Tryz.f10, _, Tryz.func10, rfl, rfl, by kernel_rfl, by kernel_rfl⟩
theorem enters : X9 Tryz.prog 10 = true := by kernel_rfl
end V9
end Go.Proofs.YtccjjcdjgibilaaGreatDoor
