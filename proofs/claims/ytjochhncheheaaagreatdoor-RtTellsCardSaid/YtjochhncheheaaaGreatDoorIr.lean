/- The small code of functions, and that it is theirs: printed by a program over the seat's translation. -/
import Derived.Test.YtjochhncheheaaaGreatDoorVcGc
import Derived.Test.YtjochhncheheaaaGreatDoorChecked
import Derived.KernelRfl
namespace Go.Proofs.YtjochhncheheaaaGreatDoor
open Vc
namespace Sh
def r0 : List In := [⟨none, (some 2), .alloc 148 [.bool false, .bool false, .bool false, .bool false]⟩]
def r1 : List In := [⟨none, (some 4), .mv (.t 0)⟩,
  ⟨none, (some 5), .bin .eql (.t 4) (.k (.a (.int .i64 0)))⟩,
  ⟨none, (some 6), .mv (.t 5)⟩,
  ⟨(some (6, false)), (some 7), .mv (.t 0)⟩,
  ⟨(some (6, false)), (some 8), .bin .eql (.t 7) (.k (.a (.int .i64 27)))⟩,
  ⟨none, (some 9), .pick (.t 6) (.k (.a (.bool true))) (.t 8)⟩,
  ⟨none, (some 3), .mv (.t 9)⟩]
def r2 : List In := [⟨none, (some 10), .build [.bool false, .bool false, .bool false, .bool false] [(3, 1, (.k (.a (.bool true))))]⟩,
  ⟨none, none, .store 4 (.t 2) (.t 10)⟩]
@[reducible] def c0 : IC := .seq (.reg r2) .ret
def r3 : List In := [⟨none, (some 12), .mv (.t 0)⟩,
  ⟨none, (some 13), .bin .eql (.t 12) (.k (.a (.int .i64 1)))⟩,
  ⟨none, (some 14), .mv (.t 13)⟩,
  ⟨(some (14, false)), (some 15), .mv (.t 0)⟩,
  ⟨(some (14, false)), (some 16), .bin .geq (.t 15) (.k (.a (.int .i64 5)))⟩,
  ⟨(some (14, false)), (some 17), .mv (.t 16)⟩,
  ⟨(some (17, true)), (some 18), .mv (.t 0)⟩,
  ⟨(some (17, true)), (some 19), .bin .leq (.t 18) (.k (.a (.int .i64 13)))⟩,
  ⟨(some (14, false)), (some 20), .pick (.t 17) (.t 19) (.k (.a (.bool false)))⟩,
  ⟨none, (some 21), .pick (.t 14) (.k (.a (.bool true))) (.t 20)⟩,
  ⟨none, (some 11), .mv (.t 21)⟩]
def r4 : List In := [⟨none, (some 22), .build [.bool false, .bool false, .bool false, .bool false] [(0, 1, (.k (.a (.bool true)))), (1, 1, (.k (.a (.bool true)))), (3, 1, (.k (.a (.bool true))))]⟩,
  ⟨none, none, .store 4 (.t 2) (.t 22)⟩]
@[reducible] def c1 : IC := .seq (.reg r4) .ret
def r5 : List In := [⟨none, (some 24), .mv (.t 0)⟩,
  ⟨none, (some 25), .bin .eql (.t 24) (.k (.a (.int .i64 2)))⟩,
  ⟨none, (some 23), .mv (.t 25)⟩]
def r6 : List In := [⟨none, (some 26), .build [.bool false, .bool false, .bool false, .bool false] [(0, 1, (.k (.a (.bool true)))), (2, 1, (.k (.a (.bool true)))), (3, 1, (.k (.a (.bool true))))]⟩,
  ⟨none, none, .store 4 (.t 2) (.t 26)⟩]
@[reducible] def c2 : IC := .seq (.reg r6) .ret
def r7 : List In := [⟨none, (some 28), .mv (.t 0)⟩,
  ⟨none, (some 29), .bin .eql (.t 28) (.k (.a (.int .i64 3)))⟩,
  ⟨none, (some 30), .mv (.t 29)⟩,
  ⟨(some (30, false)), (some 31), .mv (.t 0)⟩,
  ⟨(some (30, false)), (some 32), .bin .eql (.t 31) (.k (.a (.int .i64 4)))⟩,
  ⟨none, (some 33), .pick (.t 30) (.k (.a (.bool true))) (.t 32)⟩,
  ⟨none, (some 27), .mv (.t 33)⟩]
def r8 : List In := [⟨none, (some 34), .build [.bool false, .bool false, .bool false, .bool false] [(0, 1, (.k (.a (.bool true)))), (1, 1, (.k (.a (.bool true)))), (2, 1, (.k (.a (.bool true)))), (3, 1, (.k (.a (.bool true))))]⟩,
  ⟨none, none, .store 4 (.t 2) (.t 34)⟩]
@[reducible] def c3 : IC := .seq (.reg r8) .ret
def r9 : List In := [⟨none, (some 36), .mv (.t 0)⟩,
  ⟨none, (some 37), .bin .geq (.t 36) (.k (.a (.int .i64 14)))⟩,
  ⟨none, (some 38), .mv (.t 37)⟩,
  ⟨(some (38, true)), (some 39), .mv (.t 0)⟩,
  ⟨(some (38, true)), (some 40), .bin .leq (.t 39) (.k (.a (.int .i64 18)))⟩,
  ⟨none, (some 41), .pick (.t 38) (.t 40) (.k (.a (.bool false)))⟩,
  ⟨none, (some 42), .mv (.t 41)⟩,
  ⟨(some (42, false)), (some 43), .mv (.t 0)⟩,
  ⟨(some (42, false)), (some 44), .bin .eql (.t 43) (.k (.a (.int .i64 29)))⟩,
  ⟨none, (some 45), .pick (.t 42) (.k (.a (.bool true))) (.t 44)⟩,
  ⟨none, (some 46), .mv (.t 45)⟩,
  ⟨(some (46, false)), (some 47), .mv (.t 0)⟩,
  ⟨(some (46, false)), (some 48), .bin .eql (.t 47) (.k (.a (.int .i64 31)))⟩,
  ⟨none, (some 49), .pick (.t 46) (.k (.a (.bool true))) (.t 48)⟩,
  ⟨none, (some 35), .mv (.t 49)⟩]
def r10 : List In := [⟨none, (some 50), .build [.bool false, .bool false, .bool false, .bool false] [(0, 1, (.k (.a (.bool true)))), (3, 1, (.k (.a (.bool true))))]⟩,
  ⟨none, none, .store 4 (.t 2) (.t 50)⟩]
@[reducible] def c4 : IC := .seq (.reg r10) .ret
def r11 : List In := [⟨none, (some 52), .mv (.t 0)⟩,
  ⟨none, (some 53), .bin .eql (.t 52) (.k (.a (.int .i64 28)))⟩,
  ⟨none, (some 54), .mv (.t 53)⟩,
  ⟨(some (54, false)), (some 55), .mv (.t 0)⟩,
  ⟨(some (54, false)), (some 56), .bin .eql (.t 55) (.k (.a (.int .i64 30)))⟩,
  ⟨none, (some 57), .pick (.t 54) (.k (.a (.bool true))) (.t 56)⟩,
  ⟨none, (some 51), .mv (.t 57)⟩]
def r12 : List In := [⟨none, (some 58), .build [.bool false, .bool false, .bool false, .bool false] [(1, 1, (.k (.a (.bool true)))), (3, 1, (.k (.a (.bool true))))]⟩,
  ⟨none, none, .store 4 (.t 2) (.t 58)⟩]
@[reducible] def c5 : IC := .seq (.reg r12) .ret
def r13 : List In := [⟨none, (some 60), .mv (.t 0)⟩,
  ⟨none, (some 61), .bin .geq (.t 60) (.k (.a (.int .i64 19)))⟩,
  ⟨none, (some 62), .mv (.t 61)⟩,
  ⟨(some (62, true)), (some 63), .mv (.t 0)⟩,
  ⟨(some (62, true)), (some 64), .bin .leq (.t 63) (.k (.a (.int .i64 26)))⟩,
  ⟨none, (some 65), .pick (.t 62) (.t 64) (.k (.a (.bool false)))⟩,
  ⟨none, (some 66), .mv (.t 65)⟩,
  ⟨(some (66, false)), (some 67), .mv (.t 0)⟩,
  ⟨(some (66, false)), (some 68), .bin .eql (.t 67) (.k (.a (.int .i64 32)))⟩,
  ⟨none, (some 69), .pick (.t 66) (.k (.a (.bool true))) (.t 68)⟩,
  ⟨none, (some 59), .mv (.t 69)⟩]
def r14 : List In := [⟨none, (some 70), .build [.bool false, .bool false, .bool false, .bool false] [(2, 1, (.k (.a (.bool true)))), (3, 1, (.k (.a (.bool true))))]⟩,
  ⟨none, none, .store 4 (.t 2) (.t 70)⟩]
@[reducible] def c6 : IC := .seq (.reg r14) .ret
@[reducible] def c7 : IC := .cond (.t 59) c6 .skip
@[reducible] def c8 : IC := .seq (.reg r13) c7
@[reducible] def c9 : IC := .cond (.t 51) c5 c8
@[reducible] def c10 : IC := .seq (.reg r11) c9
@[reducible] def c11 : IC := .cond (.t 35) c4 c10
@[reducible] def c12 : IC := .seq (.reg r9) c11
@[reducible] def c13 : IC := .cond (.t 27) c3 c12
@[reducible] def c14 : IC := .seq (.reg r7) c13
@[reducible] def c15 : IC := .cond (.t 23) c2 c14
@[reducible] def c16 : IC := .seq (.reg r5) c15
@[reducible] def c17 : IC := .cond (.t 11) c1 c16
@[reducible] def c18 : IC := .seq (.reg r3) c17
@[reducible] def c19 : IC := .cond (.t 3) c0 c18
@[reducible] def c20 : IC := .seq (.reg r1) c19
@[reducible] def c21 : IC := .block 0 c20
def r15 : List In := [⟨none, (some 71), .build [.bool false, .bool false, .bool false, .bool false] []⟩,
  ⟨none, none, .store 4 (.t 2) (.t 71)⟩]
@[reducible] def c22 : IC := .seq (.reg r15) .ret
@[reducible] def c23 : IC := .seq c21 c22
@[reducible] def c24 : IC := .seq (.reg r0) c23
@[reducible] def code : IC := c24
def res : List RV := [.cell 2 4 true]
theorem rs : type_of% (And.intro r0.eq_1 <| And.intro r1.eq_1 <| And.intro r2.eq_1 <| And.intro r3.eq_1 <| And.intro r4.eq_1 <| And.intro r5.eq_1 <| And.intro r6.eq_1 <| And.intro r7.eq_1 <| And.intro r8.eq_1 <| And.intro r9.eq_1 <| And.intro r10.eq_1 <| And.intro r11.eq_1 <| And.intro r12.eq_1 <| And.intro r13.eq_1 <| And.intro r14.eq_1 <| r15.eq_1) := And.intro r0.eq_1 <| And.intro r1.eq_1 <| And.intro r2.eq_1 <| And.intro r3.eq_1 <| And.intro r4.eq_1 <| And.intro r5.eq_1 <| And.intro r6.eq_1 <| And.intro r7.eq_1 <| And.intro r8.eq_1 <| And.intro r9.eq_1 <| And.intro r10.eq_1 <| And.intro r11.eq_1 <| And.intro r12.eq_1 <| And.intro r13.eq_1 <| And.intro r14.eq_1 <| r15.eq_1
theorem fn : Body Tryz.prog 77 72 code res := ⟨by decide, Tryz.f77, _, Tryz.func77, rfl, rfl, by kernel_rfl, by kernel_rfl⟩
theorem enters : Zu Tryz.prog 77 = true := by kernel_rfl
end Sh
namespace Wa
def r0 : List In := [⟨none, (some 2), .mv (.k (.a (.bool false)))⟩,
  ⟨none, (some 3), .mv (.k (.a (.bool false)))⟩,
  ⟨none, (some 4), .mv (.k (.a (.bool false)))⟩,
  ⟨none, (some 5), .mv (.k (.a (.int .i64 0)))⟩]
def r1 : List In := [⟨none, (some 7), .mv (.t 0)⟩,
  ⟨none, (some 8), .call 77 [(.t 7)]⟩,
  ⟨none, (some 6), .alloc 148 [.bool false, .bool false, .bool false, .bool false]⟩,
  ⟨none, none, .store 4 (.t 6) (.t 8)⟩]
def r2 : List In := [⟨none, (some 9), .faddr 3 (.t 6)⟩,
  ⟨none, (some 10), .load 1 false (.t 9)⟩,
  ⟨none, (some 11), .un .not (.t 10)⟩]
def r3 : List In := [⟨none, (some 2), .mv (.k (.a (.bool false)))⟩,
  ⟨none, (some 3), .mv (.k (.a (.bool false)))⟩,
  ⟨none, (some 4), .mv (.k (.a (.bool false)))⟩,
  ⟨none, (some 5), .mv (.k (.a (.int .i64 1)))⟩]
@[reducible] def c0 : IC := .seq (.reg r3) .ret
@[reducible] def c1 : IC := .cond (.t 11) c0 .skip
@[reducible] def c2 : IC := .seq (.reg r2) c1
def r4 : List In := [⟨none, (some 12), .faddr 0 (.t 6)⟩,
  ⟨none, (some 13), .load 1 false (.t 12)⟩,
  ⟨none, (some 14), .faddr 1 (.t 6)⟩,
  ⟨none, (some 15), .load 1 false (.t 14)⟩,
  ⟨none, (some 16), .faddr 2 (.t 6)⟩,
  ⟨none, (some 17), .load 1 false (.t 16)⟩,
  ⟨none, (some 2), .mv (.t 13)⟩,
  ⟨none, (some 3), .mv (.t 15)⟩,
  ⟨none, (some 4), .mv (.t 17)⟩,
  ⟨none, (some 5), .mv (.k (.a (.int .i64 0)))⟩]
@[reducible] def c3 : IC := .seq (.dreg r4) .ret
@[reducible] def c4 : IC := .seq c2 c3
@[reducible] def c5 : IC := .seq (.reg r1) c4
@[reducible] def c6 : IC := .seq (.reg r0) c5
@[reducible] def code : IC := c6
def res : List RV := [.tmp 2, .tmp 3, .tmp 4, .tmp 5]
theorem rs : type_of% (And.intro r0.eq_1 <| And.intro r1.eq_1 <| And.intro r2.eq_1 <| And.intro r3.eq_1 <| r4.eq_1) := And.intro r0.eq_1 <| And.intro r1.eq_1 <| And.intro r2.eq_1 <| And.intro r3.eq_1 <| r4.eq_1
theorem fn : Body Tryz.prog 69 18 code res := ⟨by decide, Tryz.f69, _, Tryz.func69, rfl, rfl, by kernel_rfl, by kernel_rfl⟩
theorem enters : Zu Tryz.prog 69 = true := by kernel_rfl
end Wa
namespace X8
def r0 : List In := [⟨none, (some 2), .mv (.k (.a (.int .i64 0)))⟩,
  ⟨none, (some 3), .mv (.k (.a (.int .i64 0)))⟩]
def r1 : List In := [⟨none, (some 5), .mv (.t 0)⟩,
  ⟨none, (some 6), .call 77 [(.t 5)]⟩,
  ⟨none, (some 4), .alloc 148 [.bool false, .bool false, .bool false, .bool false]⟩,
  ⟨none, none, .store 4 (.t 4) (.t 6)⟩]
def r2 : List In := [⟨none, (some 8), .faddr 3 (.t 4)⟩,
  ⟨none, (some 9), .load 1 false (.t 8)⟩,
  ⟨none, (some 10), .un .not (.t 9)⟩,
  ⟨none, (some 7), .mv (.t 10)⟩]
def r3 : List In := [⟨none, (some 2), .mv (.k (.a (.int .i64 0)))⟩,
  ⟨none, (some 3), .mv (.k (.a (.int .i64 1)))⟩]
@[reducible] def c0 : IC := .seq (.reg r3) .ret
def r4 : List In := [⟨none, (some 12), .faddr 2 (.t 4)⟩,
  ⟨none, (some 13), .load 1 false (.t 12)⟩,
  ⟨none, (some 11), .mv (.t 13)⟩]
def r5 : List In := [⟨none, (some 2), .mv (.k (.a (.int .i64 2)))⟩,
  ⟨none, (some 3), .mv (.k (.a (.int .i64 0)))⟩]
@[reducible] def c1 : IC := .seq (.reg r5) .ret
@[reducible] def c2 : IC := .cond (.t 11) c1 .skip
@[reducible] def c3 : IC := .seq (.reg r4) c2
@[reducible] def c4 : IC := .cond (.t 7) c0 c3
@[reducible] def c5 : IC := .seq (.reg r2) c4
@[reducible] def c6 : IC := .block 0 c5
def r6 : List In := [⟨none, (some 2), .mv (.k (.a (.int .i64 1)))⟩,
  ⟨none, (some 3), .mv (.k (.a (.int .i64 0)))⟩]
@[reducible] def c7 : IC := .seq (.reg r6) .ret
@[reducible] def c8 : IC := .seq c6 c7
@[reducible] def c9 : IC := .seq (.reg r1) c8
@[reducible] def c10 : IC := .seq (.reg r0) c9
@[reducible] def code : IC := c10
def res : List RV := [.tmp 2, .tmp 3]
theorem rs : type_of% (And.intro r0.eq_1 <| And.intro r1.eq_1 <| And.intro r2.eq_1 <| And.intro r3.eq_1 <| And.intro r4.eq_1 <| And.intro r5.eq_1 <| r6.eq_1) := And.intro r0.eq_1 <| And.intro r1.eq_1 <| And.intro r2.eq_1 <| And.intro r3.eq_1 <| And.intro r4.eq_1 <| And.intro r5.eq_1 <| r6.eq_1
theorem fn : Body Tryz.prog 74 14 code res := ⟨by decide, Tryz.f74, _, Tryz.func74, rfl, rfl, by kernel_rfl, by kernel_rfl⟩
theorem enters : Zu Tryz.prog 74 = true := by kernel_rfl
end X8
namespace Ud
def r0 : List In := [⟨none, (some 1), .box 38 (.t 0)⟩,
  ⟨none, (some 2), .mv (.k (.a (.int .i64 0)))⟩]
def r1 : List In := [⟨none, (some 4), .faddr 0 (.t 1)⟩,
  ⟨none, (some 5), .load 1 false (.t 4)⟩,
  ⟨none, (some 6), .call 77 [(.t 5)]⟩,
  ⟨none, (some 3), .alloc 148 [.bool false, .bool false, .bool false, .bool false]⟩,
  ⟨none, none, .store 4 (.t 3) (.t 6)⟩]
def r2 : List In := [⟨none, (some 8), .faddr 3 (.t 3)⟩,
  ⟨none, (some 9), .load 1 false (.t 8)⟩,
  ⟨none, (some 10), .un .not (.t 9)⟩,
  ⟨none, (some 7), .mv (.t 10)⟩]
def r3 : List In := [⟨none, (some 2), .mv (.k (.a (.int .i64 1)))⟩]
@[reducible] def c0 : IC := .seq (.reg r3) .ret
def r4 : List In := [⟨none, (some 12), .faddr 0 (.t 3)⟩,
  ⟨none, (some 13), .load 1 false (.t 12)⟩,
  ⟨none, (some 14), .mv (.t 13)⟩,
  ⟨(some (14, true)), (some 15), .faddr 1 (.t 1)⟩,
  ⟨(some (14, true)), (some 16), .load 1 false (.t 15)⟩,
  ⟨(some (14, true)), (some 17), .call 127 [(.t 16)]⟩,
  ⟨(some (14, true)), (some 18), .un .not (.t 17)⟩,
  ⟨none, (some 19), .pick (.t 14) (.t 18) (.k (.a (.bool false)))⟩,
  ⟨none, (some 11), .mv (.t 19)⟩]
def r5 : List In := [⟨none, (some 20), .faddr 1 (.t 3)⟩,
  ⟨none, (some 21), .load 1 false (.t 20)⟩,
  ⟨none, (some 22), .mv (.t 21)⟩,
  ⟨(some (22, true)), (some 23), .faddr 2 (.t 1)⟩,
  ⟨(some (22, true)), (some 24), .load 1 false (.t 23)⟩,
  ⟨(some (22, true)), (some 25), .call 127 [(.t 24)]⟩,
  ⟨(some (22, true)), (some 26), .un .not (.t 25)⟩,
  ⟨none, (some 27), .pick (.t 22) (.t 26) (.k (.a (.bool false)))⟩,
  ⟨none, (some 11), .mv (.t 27)⟩]
def r6 : List In := [⟨none, (some 28), .faddr 2 (.t 3)⟩,
  ⟨none, (some 29), .load 1 false (.t 28)⟩,
  ⟨none, (some 30), .mv (.t 29)⟩,
  ⟨(some (30, true)), (some 31), .faddr 3 (.t 1)⟩,
  ⟨(some (30, true)), (some 32), .load 1 false (.t 31)⟩,
  ⟨(some (30, true)), (some 33), .call 128 [(.t 32)]⟩,
  ⟨(some (30, true)), (some 34), .un .not (.t 33)⟩,
  ⟨none, (some 35), .pick (.t 30) (.t 34) (.k (.a (.bool false)))⟩,
  ⟨none, (some 11), .mv (.t 35)⟩]
@[reducible] def c1 : IC := .cond (.t 11) .skip (.reg r6)
@[reducible] def c2 : IC := .seq (.reg r5) c1
@[reducible] def c3 : IC := .cond (.t 11) .skip c2
@[reducible] def c4 : IC := .seq (.reg r4) c3
def r7 : List In := [⟨none, (some 2), .mv (.k (.a (.int .i64 3)))⟩]
@[reducible] def c5 : IC := .seq (.reg r7) .ret
@[reducible] def c6 : IC := .cond (.t 11) c5 .skip
@[reducible] def c7 : IC := .seq c4 c6
@[reducible] def c8 : IC := .cond (.t 7) c0 c7
@[reducible] def c9 : IC := .seq (.reg r2) c8
@[reducible] def c10 : IC := .block 0 c9
def r8 : List In := [⟨none, (some 2), .mv (.k (.a (.int .i64 0)))⟩]
@[reducible] def c11 : IC := .seq (.reg r8) .ret
@[reducible] def c12 : IC := .seq c10 c11
@[reducible] def c13 : IC := .seq (.reg r1) c12
@[reducible] def c14 : IC := .seq (.reg r0) c13
@[reducible] def code : IC := c14
def res : List RV := [.tmp 2]
theorem rs : type_of% (And.intro r0.eq_1 <| And.intro r1.eq_1 <| And.intro r2.eq_1 <| And.intro r3.eq_1 <| And.intro r4.eq_1 <| And.intro r5.eq_1 <| And.intro r6.eq_1 <| And.intro r7.eq_1 <| r8.eq_1) := And.intro r0.eq_1 <| And.intro r1.eq_1 <| And.intro r2.eq_1 <| And.intro r3.eq_1 <| And.intro r4.eq_1 <| And.intro r5.eq_1 <| And.intro r6.eq_1 <| And.intro r7.eq_1 <| r8.eq_1
theorem fn : Body Tryz.prog 76 36 code res := ⟨by decide, Tryz.f76, _, Tryz.func76, rfl, rfl, by kernel_rfl, by kernel_rfl⟩
theorem enters : Zu Tryz.prog 76 = true := by kernel_rfl
end Ud
namespace Wt
def r0 : List In := [⟨none, (some 2), .mv (.k (.a (.bool false)))⟩]
def r1 : List In := [⟨none, (some 3), .mv (.t 0)⟩,
  ⟨none, (some 4), .bin .geq (.t 3) (.k (.a (.int .i64 0)))⟩,
  ⟨none, (some 5), .mv (.t 4)⟩,
  ⟨(some (5, true)), (some 6), .mv (.t 0)⟩,
  ⟨(some (5, true)), (some 7), .bin .leq (.t 6) (.k (.a (.int .i64 7)))⟩,
  ⟨none, (some 8), .pick (.t 5) (.t 7) (.k (.a (.bool false)))⟩,
  ⟨none, (some 2), .mv (.t 8)⟩]
@[reducible] def c0 : IC := .seq (.reg r1) .ret
@[reducible] def c1 : IC := .seq (.reg r0) c0
@[reducible] def code : IC := c1
def res : List RV := [.tmp 2]
theorem rs : type_of% (And.intro r0.eq_1 <| r1.eq_1) := And.intro r0.eq_1 <| r1.eq_1
theorem fn : Body Tryz.prog 127 9 code res := ⟨by decide, Tryz.f127, _, Tryz.func127, rfl, rfl, by kernel_rfl, by kernel_rfl⟩
theorem enters : Zu Tryz.prog 127 = true := by kernel_rfl
end Wt
namespace V0
def r0 : List In := [⟨none, (some 2), .mv (.k (.a (.bool false)))⟩]
def r1 : List In := [⟨none, (some 3), .mv (.t 0)⟩,
  ⟨none, (some 4), .bin .geq (.t 3) (.k (.a (.int .i64 0)))⟩,
  ⟨none, (some 5), .mv (.t 4)⟩,
  ⟨(some (5, true)), (some 6), .mv (.t 0)⟩,
  ⟨(some (5, true)), (some 7), .bin .leq (.t 6) (.k (.a (.int .i64 65535)))⟩,
  ⟨none, (some 8), .pick (.t 5) (.t 7) (.k (.a (.bool false)))⟩,
  ⟨none, (some 2), .mv (.t 8)⟩]
@[reducible] def c0 : IC := .seq (.reg r1) .ret
@[reducible] def c1 : IC := .seq (.reg r0) c0
@[reducible] def code : IC := c1
def res : List RV := [.tmp 2]
theorem rs : type_of% (And.intro r0.eq_1 <| r1.eq_1) := And.intro r0.eq_1 <| r1.eq_1
theorem fn : Body Tryz.prog 128 9 code res := ⟨by decide, Tryz.f128, _, Tryz.func128, rfl, rfl, by kernel_rfl, by kernel_rfl⟩
theorem enters : Zu Tryz.prog 128 = true := by kernel_rfl
end V0
namespace Xk
def r0 : List In := [⟨none, (some 2), .mv (.k (.a (.raw (.slice none 0 0))))⟩,
  ⟨none, (some 3), .alloc 32 [.int .i64 0, .int .i64 0]⟩]
def r1 : List In := [⟨none, (some 4), .mv (.k (.a (.raw (.slice none 0 0))))⟩]
def r2 : List In := [⟨none, (some 10), .mv (.t 0)⟩,
  ⟨none, (some 11), .len (.t 10)⟩,
  ⟨none, (some 12), .mv (.k (.a (.int .i64 0)))⟩]
def r3 : List In := [⟨none, (some 13), .bin .lss (.t 12) (.t 11)⟩]
@[reducible] def c0 : IC := .cond (.t 13) .skip (.exit 0)
def r4 : List In := [⟨none, (some 14), .mv (.t 12)⟩,
  ⟨none, (some 15), .iaddr 4 (.t 10) (.t 12)⟩,
  ⟨none, (some 16), .load 4 true (.t 15)⟩,
  ⟨none, (some 6), .alloc 38 [.int .i64 0, .int .i64 0, .int .i64 0, .int .i64 0]⟩,
  ⟨none, (some 5), .mv (.t 14)⟩,
  ⟨none, none, .store 4 (.t 6) (.t 16)⟩]
def r5 : List In := [⟨none, (some 17), .load 4 true (.t 6)⟩,
  ⟨none, (some 18), .call 76 [(.t 17)]⟩,
  ⟨none, (some 7), .mv (.t 18)⟩]
def r6 : List In := [⟨none, (some 19), .mv (.t 7)⟩,
  ⟨none, (some 20), .bin .neq (.t 19) (.k (.a (.int .i64 0)))⟩]
def r7 : List In := [⟨none, (some 21), .mv (.t 7)⟩,
  ⟨none, (some 22), .mv (.t 5)⟩,
  ⟨none, (some 23), .build [.int .i64 0, .int .i64 0] [(0, 1, (.t 21)), (1, 1, (.t 22))]⟩,
  ⟨none, (some 2), .mv (.k (.a (.raw (.slice none 0 0))))⟩,
  ⟨none, none, .store 2 (.t 3) (.t 23)⟩]
@[reducible] def c1 : IC := .seq (.reg r7) .ret
@[reducible] def c2 : IC := .cond (.t 20) c1 .skip
@[reducible] def c3 : IC := .seq (.reg r6) c2
@[reducible] def c4 : IC := .seq (.reg r5) c3
def r8 : List In := [⟨none, (some 24), .faddr 0 (.t 6)⟩,
  ⟨none, (some 25), .load 1 false (.t 24)⟩,
  ⟨none, (some 26), .call 77 [(.t 25)]⟩,
  ⟨none, (some 8), .alloc 148 [.bool false, .bool false, .bool false, .bool false]⟩,
  ⟨none, none, .store 4 (.t 8) (.t 26)⟩]
def r9 : List In := [⟨none, (some 27), .faddr 0 (.t 6)⟩,
  ⟨none, (some 28), .load 1 false (.t 27)⟩,
  ⟨none, (some 29), .bin .shl (.t 28) (.k (.a (.int .u64 10)))⟩,
  ⟨none, (some 9), .mv (.t 29)⟩]
def r10 : List In := [⟨none, (some 30), .faddr 0 (.t 8)⟩,
  ⟨none, (some 31), .load 1 false (.t 30)⟩]
def r11 : List In := [⟨none, (some 32), .mv (.t 9)⟩,
  ⟨none, (some 33), .faddr 1 (.t 6)⟩,
  ⟨none, (some 34), .load 1 false (.t 33)⟩,
  ⟨none, (some 35), .bin .shl (.t 34) (.k (.a (.int .u64 7)))⟩,
  ⟨none, (some 36), .bin .or (.t 32) (.t 35)⟩,
  ⟨none, (some 9), .mv (.t 36)⟩]
@[reducible] def c5 : IC := .cond (.t 31) (.reg r11) .skip
@[reducible] def c6 : IC := .seq (.reg r10) c5
def r12 : List In := [⟨none, (some 37), .faddr 1 (.t 8)⟩,
  ⟨none, (some 38), .load 1 false (.t 37)⟩]
def r13 : List In := [⟨none, (some 39), .mv (.t 9)⟩,
  ⟨none, (some 40), .faddr 2 (.t 6)⟩,
  ⟨none, (some 41), .load 1 false (.t 40)⟩,
  ⟨none, (some 42), .bin .shl (.t 41) (.k (.a (.int .u64 4)))⟩,
  ⟨none, (some 43), .bin .or (.t 39) (.t 42)⟩,
  ⟨none, (some 9), .mv (.t 43)⟩]
@[reducible] def c7 : IC := .cond (.t 38) (.reg r13) .skip
@[reducible] def c8 : IC := .seq (.reg r12) c7
def r14 : List In := [⟨none, (some 44), .mv (.t 4)⟩,
  ⟨none, (some 45), .mv (.t 9)⟩,
  ⟨none, (some 46), .bsl 3 1 1 [.int .i64 0] [(0, 1, (.t 45))]⟩,
  ⟨none, (some 47), .app 41 3 1 8 (.t 44) (.t 46)⟩,
  ⟨none, (some 4), .mv (.t 47)⟩]
def r15 : List In := [⟨none, (some 48), .faddr 2 (.t 8)⟩,
  ⟨none, (some 49), .load 1 false (.t 48)⟩]
def r16 : List In := [⟨none, (some 50), .mv (.t 4)⟩,
  ⟨none, (some 51), .faddr 3 (.t 6)⟩,
  ⟨none, (some 52), .load 1 false (.t 51)⟩,
  ⟨none, (some 53), .bsl 3 1 1 [.int .i64 0] [(0, 1, (.t 52))]⟩,
  ⟨none, (some 54), .app 41 3 1 8 (.t 50) (.t 53)⟩,
  ⟨none, (some 4), .mv (.t 54)⟩]
@[reducible] def c9 : IC := .cond (.t 49) (.reg r16) .skip
@[reducible] def c10 : IC := .seq (.reg r15) c9
def r17 : List In := [⟨none, (some 55), .mv (.t 4)⟩,
  ⟨none, (some 56), .len (.t 55)⟩,
  ⟨none, (some 57), .bin .gtr (.t 56) (.k (.a (.int .i64 65536)))⟩]
def r18 : List In := [⟨none, (some 58), .mv (.t 5)⟩,
  ⟨none, (some 59), .build [.int .i64 0, .int .i64 0] [(0, 1, (.k (.a (.int .i64 4)))), (1, 1, (.t 58))]⟩,
  ⟨none, (some 2), .mv (.k (.a (.raw (.slice none 0 0))))⟩,
  ⟨none, none, .store 2 (.t 3) (.t 59)⟩]
@[reducible] def c11 : IC := .seq (.reg r18) .ret
@[reducible] def c12 : IC := .cond (.t 57) c11 .skip
@[reducible] def c13 : IC := .seq (.reg r17) c12
@[reducible] def c14 : IC := .seq c10 c13
@[reducible] def c15 : IC := .seq (.reg r14) c14
@[reducible] def c16 : IC := .seq c8 c15
@[reducible] def c17 : IC := .seq c6 c16
@[reducible] def c18 : IC := .seq (.reg r9) c17
@[reducible] def c19 : IC := .seq (.reg r8) c18
@[reducible] def c20 : IC := .seq c4 c19
@[reducible] def c21 : IC := .seq (.reg r4) c20
@[reducible] def c22 : IC := .block 1 c21
def r19 : List In := [⟨none, (some 60), .bin .add (.t 12) (.k (.a (.int .i64 1)))⟩,
  ⟨none, (some 12), .mv (.t 60)⟩]
@[reducible] def c23 : IC := .seq c22 (.reg r19)
@[reducible] def c24 : IC := .seq c0 c23
@[reducible] def c25 : IC := .seq (.reg r3) c24
@[reducible] def c26 : IC := .loop c25
@[reducible] def c27 : IC := .block 0 c26
@[reducible] def c28 : IC := .seq (.reg r2) c27
def r20 : List In := [⟨none, (some 61), .mv (.t 4)⟩,
  ⟨none, (some 62), .build [.int .i64 0, .int .i64 0] []⟩,
  ⟨none, (some 2), .mv (.t 61)⟩,
  ⟨none, none, .store 2 (.t 3) (.t 62)⟩]
@[reducible] def c29 : IC := .seq (.reg r20) .ret
@[reducible] def c30 : IC := .seq c28 c29
@[reducible] def c31 : IC := .seq (.reg r1) c30
@[reducible] def c32 : IC := .seq (.reg r0) c31
@[reducible] def code : IC := c32
def res : List RV := [.tmp 2, .cell 3 2 true]
theorem rs : type_of% (And.intro r0.eq_1 <| And.intro r1.eq_1 <| And.intro r2.eq_1 <| And.intro r3.eq_1 <| And.intro r4.eq_1 <| And.intro r5.eq_1 <| And.intro r6.eq_1 <| And.intro r7.eq_1 <| And.intro r8.eq_1 <| And.intro r9.eq_1 <| And.intro r10.eq_1 <| And.intro r11.eq_1 <| And.intro r12.eq_1 <| And.intro r13.eq_1 <| And.intro r14.eq_1 <| And.intro r15.eq_1 <| And.intro r16.eq_1 <| And.intro r17.eq_1 <| And.intro r18.eq_1 <| And.intro r19.eq_1 <| r20.eq_1) := And.intro r0.eq_1 <| And.intro r1.eq_1 <| And.intro r2.eq_1 <| And.intro r3.eq_1 <| And.intro r4.eq_1 <| And.intro r5.eq_1 <| And.intro r6.eq_1 <| And.intro r7.eq_1 <| And.intro r8.eq_1 <| And.intro r9.eq_1 <| And.intro r10.eq_1 <| And.intro r11.eq_1 <| And.intro r12.eq_1 <| And.intro r13.eq_1 <| And.intro r14.eq_1 <| And.intro r15.eq_1 <| And.intro r16.eq_1 <| And.intro r17.eq_1 <| And.intro r18.eq_1 <| And.intro r19.eq_1 <| r20.eq_1
theorem fn : Body Tryz.prog 32 63 code res := ⟨by decide, Tryz.f32, _, Tryz.func32, rfl, rfl, by kernel_rfl, by kernel_rfl⟩
theorem enters : Zu Tryz.prog 32 = true := by kernel_rfl
end Xk
namespace X5
def r0 : List In := [⟨none, (some 4), .alloc 38 [.int .i64 0, .int .i64 0, .int .i64 0, .int .i64 0]⟩,
  ⟨none, (some 5), .mv (.k (.a (.int .i64 0)))⟩]
def r1 : List In := [⟨none, (some 9), .mv (.t 1)⟩,
  ⟨none, (some 10), .bin .lss (.t 9) (.k (.a (.int .i64 0)))⟩,
  ⟨none, (some 11), .mv (.t 10)⟩,
  ⟨(some (11, false)), (some 12), .mv (.t 1)⟩,
  ⟨(some (11, false)), (some 13), .mv (.t 0)⟩,
  ⟨(some (11, false)), (some 14), .len (.t 13)⟩,
  ⟨(some (11, false)), (some 15), .bin .geq (.t 12) (.t 14)⟩,
  ⟨none, (some 16), .pick (.t 11) (.k (.a (.bool true))) (.t 15)⟩,
  ⟨none, (some 17), .mv (.t 16)⟩,
  ⟨(some (17, false)), (some 18), .mv (.t 0)⟩,
  ⟨(some (17, false)), (some 19), .mv (.t 1)⟩,
  ⟨(some (17, false)), (some 20), .iaddr 1 (.t 18) (.t 19)⟩,
  ⟨(some (17, false)), (some 21), .load 1 false (.t 20)⟩,
  ⟨(some (17, false)), (some 22), .call 128 [(.t 21)]⟩,
  ⟨(some (17, false)), (some 23), .un .not (.t 22)⟩,
  ⟨none, (some 24), .pick (.t 17) (.k (.a (.bool true))) (.t 23)⟩]
def r2 : List In := [⟨none, (some 25), .build [.int .i64 0, .int .i64 0, .int .i64 0, .int .i64 0] []⟩,
  ⟨none, none, .store 4 (.t 4) (.t 25)⟩,
  ⟨none, (some 5), .mv (.k (.a (.int .i64 0)))⟩]
@[reducible] def c0 : IC := .seq (.reg r2) .ret
@[reducible] def c1 : IC := .cond (.t 24) c0 .skip
@[reducible] def c2 : IC := .seq (.reg r1) c1
def r3 : List In := [⟨none, (some 26), .mv (.t 0)⟩,
  ⟨none, (some 27), .mv (.t 1)⟩,
  ⟨none, (some 28), .iaddr 1 (.t 26) (.t 27)⟩,
  ⟨none, (some 29), .load 1 false (.t 28)⟩,
  ⟨none, (some 6), .mv (.t 29)⟩]
def r4 : List In := [⟨none, (some 30), .mv (.t 6)⟩,
  ⟨none, (some 31), .bin .shr (.t 30) (.k (.a (.int .u64 10)))⟩,
  ⟨none, (some 32), .mv (.t 6)⟩,
  ⟨none, (some 33), .bin .shr (.t 32) (.k (.a (.int .u64 7)))⟩,
  ⟨none, (some 34), .bin .and (.t 33) (.k (.a (.int .i64 7)))⟩,
  ⟨none, (some 35), .mv (.t 6)⟩,
  ⟨none, (some 36), .bin .shr (.t 35) (.k (.a (.int .u64 4)))⟩,
  ⟨none, (some 37), .bin .and (.t 36) (.k (.a (.int .i64 7)))⟩,
  ⟨none, (some 38), .build [.int .i64 0, .int .i64 0, .int .i64 0, .int .i64 0] [(0, 1, (.t 31)), (1, 1, (.t 34)), (2, 1, (.t 37))]⟩,
  ⟨none, (some 7), .alloc 38 [.int .i64 0, .int .i64 0, .int .i64 0, .int .i64 0]⟩,
  ⟨none, none, .store 4 (.t 7) (.t 38)⟩]
def r5 : List In := [⟨none, (some 39), .faddr 0 (.t 7)⟩,
  ⟨none, (some 40), .load 1 false (.t 39)⟩,
  ⟨none, (some 41), .call 77 [(.t 40)]⟩,
  ⟨none, (some 8), .alloc 148 [.bool false, .bool false, .bool false, .bool false]⟩,
  ⟨none, none, .store 4 (.t 8) (.t 41)⟩]
def r6 : List In := [⟨none, (some 42), .faddr 3 (.t 8)⟩,
  ⟨none, (some 43), .load 1 false (.t 42)⟩,
  ⟨none, (some 44), .un .not (.t 43)⟩,
  ⟨none, (some 45), .mv (.t 44)⟩,
  ⟨(some (45, false)), (some 46), .mv (.t 6)⟩,
  ⟨(some (45, false)), (some 47), .bin .and (.t 46) (.k (.a (.int .i64 15)))⟩,
  ⟨(some (45, false)), (some 48), .bin .neq (.t 47) (.k (.a (.int .i64 0)))⟩,
  ⟨none, (some 49), .pick (.t 45) (.k (.a (.bool true))) (.t 48)⟩,
  ⟨none, (some 50), .mv (.t 49)⟩,
  ⟨(some (50, false)), (some 51), .faddr 0 (.t 8)⟩,
  ⟨(some (50, false)), (some 52), .load 1 false (.t 51)⟩,
  ⟨(some (50, false)), (some 53), .un .not (.t 52)⟩,
  ⟨(some (50, false)), (some 54), .mv (.t 53)⟩,
  ⟨(some (54, true)), (some 55), .faddr 1 (.t 7)⟩,
  ⟨(some (54, true)), (some 56), .load 1 false (.t 55)⟩,
  ⟨(some (54, true)), (some 57), .bin .neq (.t 56) (.k (.a (.int .i64 0)))⟩,
  ⟨(some (50, false)), (some 58), .pick (.t 54) (.t 57) (.k (.a (.bool false)))⟩,
  ⟨none, (some 59), .pick (.t 50) (.k (.a (.bool true))) (.t 58)⟩,
  ⟨none, (some 60), .mv (.t 59)⟩,
  ⟨(some (60, false)), (some 61), .faddr 1 (.t 8)⟩,
  ⟨(some (60, false)), (some 62), .load 1 false (.t 61)⟩,
  ⟨(some (60, false)), (some 63), .un .not (.t 62)⟩,
  ⟨(some (60, false)), (some 64), .mv (.t 63)⟩,
  ⟨(some (64, true)), (some 65), .faddr 2 (.t 7)⟩,
  ⟨(some (64, true)), (some 66), .load 1 false (.t 65)⟩,
  ⟨(some (64, true)), (some 67), .bin .neq (.t 66) (.k (.a (.int .i64 0)))⟩,
  ⟨(some (60, false)), (some 68), .pick (.t 64) (.t 67) (.k (.a (.bool false)))⟩,
  ⟨none, (some 69), .pick (.t 60) (.k (.a (.bool true))) (.t 68)⟩]
def r7 : List In := [⟨none, (some 70), .build [.int .i64 0, .int .i64 0, .int .i64 0, .int .i64 0] []⟩,
  ⟨none, none, .store 4 (.t 4) (.t 70)⟩,
  ⟨none, (some 5), .mv (.k (.a (.int .i64 0)))⟩]
@[reducible] def c3 : IC := .seq (.reg r7) .ret
@[reducible] def c4 : IC := .cond (.t 69) c3 .skip
@[reducible] def c5 : IC := .seq (.reg r6) c4
def r8 : List In := [⟨none, (some 71), .faddr 2 (.t 8)⟩,
  ⟨none, (some 72), .load 1 false (.t 71)⟩,
  ⟨none, (some 73), .un .not (.t 72)⟩]
def r9 : List In := [⟨none, (some 74), .load 4 true (.t 7)⟩,
  ⟨none, none, .store 4 (.t 4) (.t 74)⟩,
  ⟨none, (some 5), .mv (.k (.a (.int .i64 1)))⟩]
@[reducible] def c6 : IC := .seq (.reg r9) .ret
@[reducible] def c7 : IC := .cond (.t 73) c6 .skip
@[reducible] def c8 : IC := .seq (.reg r8) c7
def r10 : List In := [⟨none, (some 75), .mv (.t 1)⟩,
  ⟨none, (some 76), .bin .add (.t 75) (.k (.a (.int .i64 1)))⟩,
  ⟨none, (some 77), .mv (.t 0)⟩,
  ⟨none, (some 78), .len (.t 77)⟩,
  ⟨none, (some 79), .bin .geq (.t 76) (.t 78)⟩,
  ⟨none, (some 80), .mv (.t 79)⟩,
  ⟨(some (80, false)), (some 81), .mv (.t 0)⟩,
  ⟨(some (80, false)), (some 82), .mv (.t 1)⟩,
  ⟨(some (80, false)), (some 83), .bin .add (.t 82) (.k (.a (.int .i64 1)))⟩,
  ⟨(some (80, false)), (some 84), .iaddr 1 (.t 81) (.t 83)⟩,
  ⟨(some (80, false)), (some 85), .load 1 false (.t 84)⟩,
  ⟨(some (80, false)), (some 86), .call 128 [(.t 85)]⟩,
  ⟨(some (80, false)), (some 87), .un .not (.t 86)⟩,
  ⟨none, (some 88), .pick (.t 80) (.k (.a (.bool true))) (.t 87)⟩]
def r11 : List In := [⟨none, (some 89), .build [.int .i64 0, .int .i64 0, .int .i64 0, .int .i64 0] []⟩,
  ⟨none, none, .store 4 (.t 4) (.t 89)⟩,
  ⟨none, (some 5), .mv (.k (.a (.int .i64 0)))⟩]
@[reducible] def c9 : IC := .seq (.reg r11) .ret
@[reducible] def c10 : IC := .cond (.t 88) c9 .skip
@[reducible] def c11 : IC := .seq (.reg r10) c10
def r12 : List In := [⟨none, (some 90), .mv (.t 0)⟩,
  ⟨none, (some 91), .mv (.t 1)⟩,
  ⟨none, (some 92), .bin .add (.t 91) (.k (.a (.int .i64 1)))⟩,
  ⟨none, (some 93), .iaddr 1 (.t 90) (.t 92)⟩,
  ⟨none, (some 94), .load 1 false (.t 93)⟩,
  ⟨none, (some 95), .faddr 3 (.t 7)⟩,
  ⟨none, none, .store 1 (.t 95) (.t 94)⟩]
def r13 : List In := [⟨none, (some 96), .load 4 true (.t 7)⟩,
  ⟨none, none, .store 4 (.t 4) (.t 96)⟩,
  ⟨none, (some 5), .mv (.k (.a (.int .i64 2)))⟩]
@[reducible] def c12 : IC := .seq (.reg r13) .ret
@[reducible] def c13 : IC := .seq (.reg r12) c12
@[reducible] def c14 : IC := .seq c11 c13
@[reducible] def c15 : IC := .seq c8 c14
@[reducible] def c16 : IC := .seq c5 c15
@[reducible] def c17 : IC := .seq (.reg r5) c16
@[reducible] def c18 : IC := .seq (.reg r4) c17
@[reducible] def c19 : IC := .seq (.reg r3) c18
@[reducible] def c20 : IC := .seq c2 c19
@[reducible] def c21 : IC := .seq (.reg r0) c20
@[reducible] def code : IC := c21
def res : List RV := [.cell 4 4 true, .tmp 5]
theorem rs : type_of% (And.intro r0.eq_1 <| And.intro r1.eq_1 <| And.intro r2.eq_1 <| And.intro r3.eq_1 <| And.intro r4.eq_1 <| And.intro r5.eq_1 <| And.intro r6.eq_1 <| And.intro r7.eq_1 <| And.intro r8.eq_1 <| And.intro r9.eq_1 <| And.intro r10.eq_1 <| And.intro r11.eq_1 <| And.intro r12.eq_1 <| r13.eq_1) := And.intro r0.eq_1 <| And.intro r1.eq_1 <| And.intro r2.eq_1 <| And.intro r3.eq_1 <| And.intro r4.eq_1 <| And.intro r5.eq_1 <| And.intro r6.eq_1 <| And.intro r7.eq_1 <| And.intro r8.eq_1 <| And.intro r9.eq_1 <| And.intro r10.eq_1 <| And.intro r11.eq_1 <| And.intro r12.eq_1 <| r13.eq_1
theorem fn : Body Tryz.prog 183 97 code res := ⟨by decide, Tryz.f183, _, Tryz.func183, rfl, rfl, by kernel_rfl, by kernel_rfl⟩
theorem enters : Zu Tryz.prog 183 = true := by kernel_rfl
end X5
end Go.Proofs.YtjochhncheheaaaGreatDoor
