/- The small code of functions, and that it is theirs: printed by a program over the seat's translation. -/
import Derived.Test.YtjochhncheheaaaGreatDoorVcGc
import Derived.Test.YtjochhncheheaaaGreatDoorChecked
import Derived.KernelRfl
namespace Go.Proofs.YtjochhncheheaaaGreatDoor
open Vc
namespace Y5
def r0 : List In := [⟨none, (some 2), .mv (.k (.a (.bool false)))⟩]
def r1 : List In := [⟨none, (some 6), .mv (.t 0)⟩,
  ⟨none, (some 7), .slen (.t 6)⟩,
  ⟨none, (some 8), .bin .lss (.t 7) (.k (.a (.int .i64 1)))⟩,
  ⟨none, (some 9), .mv (.t 8)⟩,
  ⟨(some (9, false)), (some 10), .mv (.t 0)⟩,
  ⟨(some (9, false)), (some 11), .slen (.t 10)⟩,
  ⟨(some (9, false)), (some 12), .bin .gtr (.t 11) (.k (.a (.int .i64 32)))⟩,
  ⟨none, (some 13), .pick (.t 9) (.k (.a (.bool true))) (.t 12)⟩]
def r2 : List In := [⟨none, (some 2), .mv (.k (.a (.bool false)))⟩]
@[reducible] def c0 : IC := .seq (.reg r2) .ret
@[reducible] def c1 : IC := .cond (.t 13) c0 .skip
@[reducible] def c2 : IC := .seq (.reg r1) c1
def r3 : List In := [⟨none, (some 14), .mv (.t 0)⟩,
  ⟨none, (some 15), .slen (.t 14)⟩,
  ⟨none, (some 16), .mv (.k (.a (.int .i64 0)))⟩]
def r4 : List In := [⟨none, (some 17), .bin .lss (.t 16) (.t 15)⟩]
@[reducible] def c3 : IC := .cond (.t 17) .skip (.exit 0)
def r5 : List In := [⟨none, (some 18), .mv (.t 16)⟩,
  ⟨none, (some 3), .mv (.t 18)⟩]
def r6 : List In := [⟨none, (some 19), .mv (.t 0)⟩,
  ⟨none, (some 20), .mv (.t 3)⟩,
  ⟨none, (some 21), .sidx (.t 19) (.t 20)⟩,
  ⟨none, (some 4), .mv (.t 21)⟩]
def r7 : List In := [⟨none, (some 22), .mv (.t 4)⟩,
  ⟨none, (some 23), .bin .geq (.t 22) (.k (.a (.int .u8 97)))⟩,
  ⟨none, (some 24), .mv (.t 23)⟩,
  ⟨(some (24, true)), (some 25), .mv (.t 4)⟩,
  ⟨(some (24, true)), (some 26), .bin .leq (.t 25) (.k (.a (.int .u8 122)))⟩,
  ⟨none, (some 27), .pick (.t 24) (.t 26) (.k (.a (.bool false)))⟩,
  ⟨none, (some 28), .mv (.t 27)⟩,
  ⟨(some (28, false)), (some 29), .mv (.t 4)⟩,
  ⟨(some (28, false)), (some 30), .bin .eql (.t 29) (.k (.a (.int .u8 95)))⟩,
  ⟨none, (some 31), .pick (.t 28) (.k (.a (.bool true))) (.t 30)⟩,
  ⟨none, (some 32), .mv (.t 31)⟩,
  ⟨(some (32, false)), (some 33), .mv (.t 4)⟩,
  ⟨(some (32, false)), (some 34), .bin .eql (.t 33) (.k (.a (.int .u8 46)))⟩,
  ⟨(some (32, false)), (some 35), .mv (.t 34)⟩,
  ⟨(some (35, true)), (some 36), .mv (.t 3)⟩,
  ⟨(some (35, true)), (some 37), .bin .eql (.t 36) (.k (.a (.int .i64 0)))⟩,
  ⟨(some (32, false)), (some 38), .pick (.t 35) (.t 37) (.k (.a (.bool false)))⟩,
  ⟨none, (some 39), .pick (.t 32) (.k (.a (.bool true))) (.t 38)⟩,
  ⟨none, (some 5), .mv (.t 39)⟩]
def r8 : List In := [⟨none, (some 40), .mv (.t 5)⟩,
  ⟨none, (some 41), .un .not (.t 40)⟩,
  ⟨none, (some 42), .mv (.t 41)⟩,
  ⟨(some (42, true)), (some 43), .mv (.t 3)⟩,
  ⟨(some (42, true)), (some 44), .bin .eql (.t 43) (.k (.a (.int .i64 0)))⟩,
  ⟨(some (42, true)), (some 45), .mv (.t 44)⟩,
  ⟨(some (45, false)), (some 46), .mv (.t 4)⟩,
  ⟨(some (45, false)), (some 47), .bin .lss (.t 46) (.k (.a (.int .u8 48)))⟩,
  ⟨(some (42, true)), (some 48), .pick (.t 45) (.k (.a (.bool true))) (.t 47)⟩,
  ⟨(some (42, true)), (some 49), .mv (.t 48)⟩,
  ⟨(some (49, false)), (some 50), .mv (.t 4)⟩,
  ⟨(some (49, false)), (some 51), .bin .gtr (.t 50) (.k (.a (.int .u8 57)))⟩,
  ⟨(some (42, true)), (some 52), .pick (.t 49) (.k (.a (.bool true))) (.t 51)⟩,
  ⟨none, (some 53), .pick (.t 42) (.t 52) (.k (.a (.bool false)))⟩]
def r9 : List In := [⟨none, (some 2), .mv (.k (.a (.bool false)))⟩]
@[reducible] def c4 : IC := .seq (.reg r9) .ret
@[reducible] def c5 : IC := .cond (.t 53) c4 .skip
@[reducible] def c6 : IC := .seq (.reg r8) c5
@[reducible] def c7 : IC := .seq (.reg r7) c6
@[reducible] def c8 : IC := .seq (.reg r6) c7
@[reducible] def c9 : IC := .seq (.reg r5) c8
@[reducible] def c10 : IC := .block 1 c9
def r10 : List In := [⟨none, (some 54), .bin .add (.t 16) (.k (.a (.int .i64 1)))⟩,
  ⟨none, (some 16), .mv (.t 54)⟩]
@[reducible] def c11 : IC := .seq c10 (.reg r10)
@[reducible] def c12 : IC := .seq c3 c11
@[reducible] def c13 : IC := .seq (.reg r4) c12
@[reducible] def c14 : IC := .loop c13
@[reducible] def c15 : IC := .block 0 c14
@[reducible] def c16 : IC := .seq (.reg r3) c15
def r11 : List In := [⟨none, (some 55), .mv (.t 0)⟩,
  ⟨none, (some 56), .bin .neq (.t 55) (.k (.a (.str [46])))⟩,
  ⟨none, (some 2), .mv (.t 56)⟩]
@[reducible] def c17 : IC := .seq (.reg r11) .ret
@[reducible] def c18 : IC := .seq c16 c17
@[reducible] def c19 : IC := .seq c2 c18
@[reducible] def c20 : IC := .seq (.reg r0) c19
@[reducible] def code : IC := c20
def res : List RV := [.tmp 2]
theorem rs : type_of% (And.intro r0.eq_1 <| And.intro r1.eq_1 <| And.intro r2.eq_1 <| And.intro r3.eq_1 <| And.intro r4.eq_1 <| And.intro r5.eq_1 <| And.intro r6.eq_1 <| And.intro r7.eq_1 <| And.intro r8.eq_1 <| And.intro r9.eq_1 <| And.intro r10.eq_1 <| r11.eq_1) := And.intro r0.eq_1 <| And.intro r1.eq_1 <| And.intro r2.eq_1 <| And.intro r3.eq_1 <| And.intro r4.eq_1 <| And.intro r5.eq_1 <| And.intro r6.eq_1 <| And.intro r7.eq_1 <| And.intro r8.eq_1 <| And.intro r9.eq_1 <| And.intro r10.eq_1 <| r11.eq_1
theorem fn : Body Tryz.prog 67 57 code res := ⟨by decide, Tryz.f67, _, Tryz.func67, rfl, rfl, by kernel_rfl, by kernel_rfl⟩
theorem enters : Zu Tryz.prog 67 = true := by kernel_rfl
end Y5
namespace Wu
def r0 : List In := [⟨none, (some 2), .mv (.k (.a (.bool false)))⟩]
def r1 : List In := [⟨none, (some 8), .mv (.t 0)⟩,
  ⟨none, (some 9), .call 69 [(.t 8)]⟩,
  ⟨none, (some 7), .mv (.t 9)⟩,
  ⟨none, (some 10), .ext 0 (.t 7)⟩,
  ⟨none, (some 11), .ext 1 (.t 7)⟩,
  ⟨none, (some 12), .ext 2 (.t 7)⟩,
  ⟨none, (some 13), .ext 3 (.t 7)⟩,
  ⟨none, (some 3), .mv (.t 10)⟩,
  ⟨none, (some 4), .mv (.t 11)⟩,
  ⟨none, (some 5), .mv (.t 12)⟩,
  ⟨none, (some 6), .mv (.t 13)⟩]
def r2 : List In := [⟨none, (some 14), .mv (.t 6)⟩,
  ⟨none, (some 15), .bin .eql (.t 14) (.k (.a (.int .i64 0)))⟩,
  ⟨none, (some 16), .mv (.t 15)⟩,
  ⟨(some (16, true)), (some 17), .mv (.t 5)⟩,
  ⟨none, (some 18), .pick (.t 16) (.t 17) (.k (.a (.bool false)))⟩,
  ⟨none, (some 19), .mv (.t 18)⟩,
  ⟨(some (19, true)), (some 20), .mv (.t 0)⟩,
  ⟨(some (19, true)), (some 21), .bin .neq (.t 20) (.k (.a (.int .i64 32)))⟩,
  ⟨none, (some 22), .pick (.t 19) (.t 21) (.k (.a (.bool false)))⟩,
  ⟨none, (some 2), .mv (.t 22)⟩]
@[reducible] def c0 : IC := .seq (.reg r2) .ret
@[reducible] def c1 : IC := .seq (.reg r1) c0
@[reducible] def c2 : IC := .seq (.reg r0) c1
@[reducible] def code : IC := c2
def res : List RV := [.tmp 2]
theorem rs : type_of% (And.intro r0.eq_1 <| And.intro r1.eq_1 <| r2.eq_1) := And.intro r0.eq_1 <| And.intro r1.eq_1 <| r2.eq_1
theorem fn : Body Tryz.prog 72 23 code res := ⟨by decide, Tryz.f72, _, Tryz.func72, rfl, rfl, by kernel_rfl, by kernel_rfl⟩
theorem enters : Zu Tryz.prog 72 = true := by kernel_rfl
end Wu
namespace W8
def r0 : List In := [⟨none, (some 1), .box 40 (.t 0)⟩,
  ⟨none, (some 2), .mv (.k (.a (.int .i64 0)))⟩]
def r1 : List In := [⟨none, (some 4), .faddr 0 (.t 1)⟩,
  ⟨none, (some 5), .load 1 false (.t 4)⟩,
  ⟨none, (some 6), .bin .neq (.t 5) (.k (.a (.str [])))⟩]
def r2 : List In := [⟨none, (some 7), .faddr 0 (.t 1)⟩,
  ⟨none, (some 8), .load 1 false (.t 7)⟩,
  ⟨none, (some 9), .call 67 [(.t 8)]⟩,
  ⟨none, (some 10), .un .not (.t 9)⟩]
def r3 : List In := [⟨none, (some 2), .mv (.k (.a (.int .i64 7)))⟩]
@[reducible] def c0 : IC := .seq (.reg r3) .ret
@[reducible] def c1 : IC := .cond (.t 10) c0 .skip
@[reducible] def c2 : IC := .seq (.reg r2) c1
def r4 : List In := [⟨none, (some 11), .faddr 5 (.t 1)⟩,
  ⟨none, (some 12), .load 1 false (.t 11)⟩,
  ⟨none, (some 13), .bin .neq (.t 12) (.k (.a (.str [])))⟩,
  ⟨none, (some 14), .mv (.t 13)⟩,
  ⟨(some (14, false)), (some 15), .faddr 1 (.t 1)⟩,
  ⟨(some (14, false)), (some 16), .load 4 true (.t 15)⟩,
  ⟨(some (14, false)), (some 17), .build [.int .i64 0, .int .i64 0, .int .i64 0, .int .i64 0] []⟩,
  ⟨(some (14, false)), (some 18), .aeq true [.int, .int, .int, .int] (.t 16) (.t 17)⟩,
  ⟨none, (some 19), .pick (.t 14) (.k (.a (.bool true))) (.t 18)⟩]
def r5 : List In := [⟨none, (some 2), .mv (.k (.a (.int .i64 8)))⟩]
@[reducible] def c3 : IC := .seq (.reg r5) .ret
@[reducible] def c4 : IC := .cond (.t 19) c3 .skip
@[reducible] def c5 : IC := .seq (.reg r4) c4
def r6 : List In := [⟨none, (some 2), .mv (.k (.a (.int .i64 0)))⟩]
@[reducible] def c6 : IC := .seq (.reg r6) .ret
@[reducible] def c7 : IC := .seq c5 c6
@[reducible] def c8 : IC := .seq c2 c7
@[reducible] def c9 : IC := .cond (.t 6) c8 .skip
@[reducible] def c10 : IC := .seq (.reg r1) c9
def r7 : List In := [⟨none, (some 20), .faddr 1 (.t 1)⟩,
  ⟨none, (some 21), .load 4 true (.t 20)⟩,
  ⟨none, (some 22), .call 76 [(.t 21)]⟩,
  ⟨none, (some 3), .mv (.t 22)⟩]
def r8 : List In := [⟨none, (some 23), .mv (.t 3)⟩,
  ⟨none, (some 24), .bin .neq (.t 23) (.k (.a (.int .i64 0)))⟩]
def r9 : List In := [⟨none, (some 25), .mv (.t 3)⟩,
  ⟨none, (some 2), .mv (.t 25)⟩]
@[reducible] def c11 : IC := .seq (.reg r9) .ret
@[reducible] def c12 : IC := .cond (.t 24) c11 .skip
@[reducible] def c13 : IC := .seq (.reg r8) c12
@[reducible] def c14 : IC := .seq (.reg r7) c13
def r10 : List In := [⟨none, (some 27), .faddr 5 (.t 1)⟩,
  ⟨none, (some 28), .load 1 false (.t 27)⟩,
  ⟨none, (some 29), .bin .eql (.t 28) (.k (.a (.str [])))⟩,
  ⟨none, (some 26), .mv (.t 29)⟩]
def r11 : List In := [⟨none, (some 2), .mv (.k (.a (.int .i64 0)))⟩]
@[reducible] def c15 : IC := .seq (.reg r11) .ret
def r12 : List In := [⟨none, (some 31), .faddr 5 (.t 1)⟩,
  ⟨none, (some 32), .load 1 false (.t 31)⟩,
  ⟨none, (some 33), .call 67 [(.t 32)]⟩,
  ⟨none, (some 34), .un .not (.t 33)⟩,
  ⟨none, (some 30), .mv (.t 34)⟩]
def r13 : List In := [⟨none, (some 2), .mv (.k (.a (.int .i64 7)))⟩]
@[reducible] def c16 : IC := .seq (.reg r13) .ret
def r14 : List In := [⟨none, (some 36), .faddr 1 (.t 1)⟩,
  ⟨none, (some 37), .faddr 0 (.t 36)⟩,
  ⟨none, (some 38), .load 1 false (.t 37)⟩,
  ⟨none, (some 39), .call 72 [(.t 38)]⟩,
  ⟨none, (some 40), .un .not (.t 39)⟩,
  ⟨none, (some 41), .mv (.t 40)⟩,
  ⟨(some (41, false)), (some 42), .faddr 1 (.t 1)⟩,
  ⟨(some (41, false)), (some 43), .faddr 3 (.t 42)⟩,
  ⟨(some (41, false)), (some 44), .load 1 false (.t 43)⟩,
  ⟨(some (41, false)), (some 45), .bin .neq (.t 44) (.k (.a (.int .i64 0)))⟩,
  ⟨none, (some 46), .pick (.t 41) (.k (.a (.bool true))) (.t 45)⟩,
  ⟨none, (some 35), .mv (.t 46)⟩]
def r15 : List In := [⟨none, (some 2), .mv (.k (.a (.int .i64 8)))⟩]
@[reducible] def c17 : IC := .seq (.reg r15) .ret
@[reducible] def c18 : IC := .cond (.t 35) c17 .skip
@[reducible] def c19 : IC := .seq (.reg r14) c18
@[reducible] def c20 : IC := .cond (.t 30) c16 c19
@[reducible] def c21 : IC := .seq (.reg r12) c20
@[reducible] def c22 : IC := .cond (.t 26) c15 c21
@[reducible] def c23 : IC := .seq (.reg r10) c22
@[reducible] def c24 : IC := .block 0 c23
def r16 : List In := [⟨none, (some 2), .mv (.k (.a (.int .i64 0)))⟩]
@[reducible] def c25 : IC := .seq (.reg r16) .ret
@[reducible] def c26 : IC := .seq c24 c25
@[reducible] def c27 : IC := .seq c14 c26
@[reducible] def c28 : IC := .seq c10 c27
@[reducible] def c29 : IC := .seq (.reg r0) c28
@[reducible] def code : IC := c29
def res : List RV := [.tmp 2]
theorem rs : type_of% (And.intro r0.eq_1 <| And.intro r1.eq_1 <| And.intro r2.eq_1 <| And.intro r3.eq_1 <| And.intro r4.eq_1 <| And.intro r5.eq_1 <| And.intro r6.eq_1 <| And.intro r7.eq_1 <| And.intro r8.eq_1 <| And.intro r9.eq_1 <| And.intro r10.eq_1 <| And.intro r11.eq_1 <| And.intro r12.eq_1 <| And.intro r13.eq_1 <| And.intro r14.eq_1 <| And.intro r15.eq_1 <| r16.eq_1) := And.intro r0.eq_1 <| And.intro r1.eq_1 <| And.intro r2.eq_1 <| And.intro r3.eq_1 <| And.intro r4.eq_1 <| And.intro r5.eq_1 <| And.intro r6.eq_1 <| And.intro r7.eq_1 <| And.intro r8.eq_1 <| And.intro r9.eq_1 <| And.intro r10.eq_1 <| And.intro r11.eq_1 <| And.intro r12.eq_1 <| And.intro r13.eq_1 <| And.intro r14.eq_1 <| And.intro r15.eq_1 <| r16.eq_1
theorem fn : Body Tryz.prog 73 47 code res := ⟨by decide, Tryz.f73, _, Tryz.func73, rfl, rfl, by kernel_rfl, by kernel_rfl⟩
theorem enters : Zu Tryz.prog 73 = true := by kernel_rfl
end W8
end Go.Proofs.YtjochhncheheaaaGreatDoor
namespace Go.Proofs.YtjochhncheheaaaGreatDoor
open Vc
namespace Y4
noncomputable def r0 : List In := [⟨none, (some 4), .mv (.k (.a (.raw (.slice none 0 0))))⟩,
  ⟨none, (some 5), .mv (.k (.a (.int .i64 0)))⟩,
  ⟨none, (some 6), .alloc 32 [.int .i64 0, .int .i64 0]⟩]
noncomputable def r1 : List In := [⟨none, (some 7), .mv (.k (.a (.raw (.slice none 0 0))))⟩]
noncomputable def r2 : List In := [⟨none, (some 14), .mkmap Tryz.prog 9 4 .bool⟩,
  ⟨none, (some 8), .mv (.t 14)⟩]
noncomputable def r3 : List In := [⟨none, (some 15), .mv (.t 0)⟩,
  ⟨none, (some 16), .len (.t 15)⟩,
  ⟨none, (some 17), .mv (.k (.a (.int .i64 0)))⟩]
noncomputable def r4 : List In := [⟨none, (some 18), .bin .lss (.t 17) (.t 16)⟩]
@[reducible] noncomputable def c0 : IC := .cond (.t 18) .skip (.exit 0)
noncomputable def r5 : List In := [⟨none, (some 19), .mv (.t 17)⟩,
  ⟨none, (some 20), .iaddr 6 (.t 15) (.t 17)⟩,
  ⟨none, (some 21), .load 6 true (.t 20)⟩,
  ⟨none, (some 10), .alloc 40 [.str [], .int .i64 0, .int .i64 0, .int .i64 0, .int .i64 0, .str []]⟩,
  ⟨none, (some 9), .mv (.t 19)⟩,
  ⟨none, none, .store 6 (.t 10) (.t 21)⟩]
noncomputable def r6 : List In := [⟨none, (some 22), .load 6 true (.t 10)⟩,
  ⟨none, (some 23), .call 73 [(.t 22)]⟩,
  ⟨none, (some 11), .mv (.t 23)⟩]
noncomputable def r7 : List In := [⟨none, (some 24), .mv (.t 11)⟩,
  ⟨none, (some 25), .bin .neq (.t 24) (.k (.a (.int .i64 0)))⟩]
noncomputable def r8 : List In := [⟨none, (some 26), .mv (.t 11)⟩,
  ⟨none, (some 27), .mv (.t 9)⟩,
  ⟨none, (some 28), .build [.int .i64 0, .int .i64 0] [(0, 1, (.t 26)), (1, 1, (.t 27))]⟩,
  ⟨none, (some 4), .mv (.k (.a (.raw (.slice none 0 0))))⟩,
  ⟨none, (some 5), .mv (.k (.a (.int .i64 0)))⟩,
  ⟨none, none, .store 2 (.t 6) (.t 28)⟩]
@[reducible] noncomputable def c1 : IC := .seq (.reg r8) .ret
@[reducible] noncomputable def c2 : IC := .cond (.t 25) c1 .skip
@[reducible] noncomputable def c3 : IC := .seq (.reg r7) c2
@[reducible] noncomputable def c4 : IC := .seq (.reg r6) c3
noncomputable def r9 : List In := [⟨none, (some 29), .faddr 0 (.t 10)⟩,
  ⟨none, (some 30), .load 1 false (.t 29)⟩,
  ⟨none, (some 31), .bin .neq (.t 30) (.k (.a (.str [])))⟩]
noncomputable def r10 : List In := [⟨none, (some 32), .mv (.t 8)⟩,
  ⟨none, (some 33), .faddr 0 (.t 10)⟩,
  ⟨none, (some 34), .load 1 false (.t 33)⟩,
  ⟨none, (some 35), .mlook Tryz.prog 9 4 .bool false (.t 32) (.t 34)⟩]
noncomputable def r11 : List In := [⟨none, (some 36), .mv (.t 9)⟩,
  ⟨none, (some 37), .build [.int .i64 0, .int .i64 0] [(0, 1, (.k (.a (.int .i64 7)))), (1, 1, (.t 36))]⟩,
  ⟨none, (some 4), .mv (.k (.a (.raw (.slice none 0 0))))⟩,
  ⟨none, (some 5), .mv (.k (.a (.int .i64 0)))⟩,
  ⟨none, none, .store 2 (.t 6) (.t 37)⟩]
@[reducible] noncomputable def c5 : IC := .seq (.reg r11) .ret
@[reducible] noncomputable def c6 : IC := .cond (.t 35) c5 .skip
@[reducible] noncomputable def c7 : IC := .seq (.reg r10) c6
noncomputable def r12 : List In := [⟨none, (some 38), .mv (.t 8)⟩,
  ⟨none, (some 39), .faddr 0 (.t 10)⟩,
  ⟨none, (some 40), .load 1 false (.t 39)⟩,
  ⟨none, none, .mupd Tryz.prog 9 4 .bool (.t 38) (.t 40) (.k (.a (.bool true)))⟩]
noncomputable def r13 : List In := [⟨none, (some 41), .mv (.t 7)⟩,
  ⟨none, (some 42), .faddr 0 (.t 10)⟩,
  ⟨none, (some 43), .load 1 false (.t 42)⟩,
  ⟨none, (some 44), .mv (.t 1)⟩,
  ⟨none, (some 45), .build [.str [], .int .i64 0] [(0, 1, (.t 43)), (1, 1, (.t 44))]⟩,
  ⟨none, (some 46), .bsl 79 2 1 [.str [], .int .i64 0] [(0, 2, (.t 45))]⟩,
  ⟨none, (some 47), .app 42 79 2 24 (.t 41) (.t 46)⟩,
  ⟨none, (some 7), .mv (.t 47)⟩]
@[reducible] noncomputable def c8 : IC := .seq (.reg r13) (.exit 1)
@[reducible] noncomputable def c9 : IC := .seq (.reg r12) c8
@[reducible] noncomputable def c10 : IC := .seq c7 c9
@[reducible] noncomputable def c11 : IC := .cond (.t 31) c10 .skip
@[reducible] noncomputable def c12 : IC := .seq (.reg r9) c11
noncomputable def r14 : List In := [⟨none, (some 49), .faddr 1 (.t 10)⟩,
  ⟨none, (some 50), .faddr 0 (.t 49)⟩,
  ⟨none, (some 51), .load 1 false (.t 50)⟩,
  ⟨none, (some 52), .call 74 [(.t 51)]⟩,
  ⟨none, (some 48), .mv (.t 52)⟩,
  ⟨none, (some 53), .ext 0 (.t 48)⟩,
  ⟨none, (some 54), .ext 1 (.t 48)⟩,
  ⟨none, (some 12), .mv (.t 53)⟩,
  ⟨none, (some 13), .mv (.t 54)⟩]
noncomputable def r15 : List In := [⟨none, (some 55), .mv (.t 1)⟩,
  ⟨none, (some 56), .mv (.t 12)⟩,
  ⟨none, (some 57), .bin .add (.t 55) (.t 56)⟩,
  ⟨none, (some 1), .mv (.t 57)⟩]
noncomputable def r16 : List In := [⟨none, (some 58), .mv (.t 1)⟩,
  ⟨none, (some 59), .bin .gtr (.t 58) (.k (.a (.int .i64 65536)))⟩]
noncomputable def r17 : List In := [⟨none, (some 60), .mv (.t 9)⟩,
  ⟨none, (some 61), .build [.int .i64 0, .int .i64 0] [(0, 1, (.k (.a (.int .i64 4)))), (1, 1, (.t 60))]⟩,
  ⟨none, (some 4), .mv (.k (.a (.raw (.slice none 0 0))))⟩,
  ⟨none, (some 5), .mv (.k (.a (.int .i64 0)))⟩,
  ⟨none, none, .store 2 (.t 6) (.t 61)⟩]
@[reducible] noncomputable def c13 : IC := .seq (.reg r17) .ret
@[reducible] noncomputable def c14 : IC := .cond (.t 59) c13 .skip
@[reducible] noncomputable def c15 : IC := .seq (.reg r16) c14
@[reducible] noncomputable def c16 : IC := .seq (.reg r15) c15
@[reducible] noncomputable def c17 : IC := .seq (.reg r14) c16
@[reducible] noncomputable def c18 : IC := .seq c12 c17
@[reducible] noncomputable def c19 : IC := .seq c4 c18
@[reducible] noncomputable def c20 : IC := .seq (.reg r5) c19
@[reducible] noncomputable def c21 : IC := .block 1 c20
noncomputable def r18 : List In := [⟨none, (some 62), .bin .add (.t 17) (.k (.a (.int .i64 1)))⟩,
  ⟨none, (some 17), .mv (.t 62)⟩]
@[reducible] noncomputable def c22 : IC := .seq c21 (.reg r18)
@[reducible] noncomputable def c23 : IC := .seq c0 c22
@[reducible] noncomputable def c24 : IC := .seq (.reg r4) c23
@[reducible] noncomputable def c25 : IC := .loop c24
@[reducible] noncomputable def c26 : IC := .block 0 c25
@[reducible] noncomputable def c27 : IC := .seq (.reg r3) c26
noncomputable def r19 : List In := [⟨none, (some 63), .mv (.t 7)⟩,
  ⟨none, (some 64), .mv (.t 1)⟩,
  ⟨none, (some 65), .build [.int .i64 0, .int .i64 0] []⟩,
  ⟨none, (some 4), .mv (.t 63)⟩,
  ⟨none, (some 5), .mv (.t 64)⟩,
  ⟨none, none, .store 2 (.t 6) (.t 65)⟩]
@[reducible] noncomputable def c28 : IC := .seq (.reg r19) .ret
@[reducible] noncomputable def c29 : IC := .seq c27 c28
@[reducible] noncomputable def c30 : IC := .seq (.reg r2) c29
@[reducible] noncomputable def c31 : IC := .seq (.reg r1) c30
@[reducible] noncomputable def c32 : IC := .seq (.reg r0) c31
@[reducible] noncomputable def code : IC := c32
def res : List RV := [.tmp 4, .tmp 5, .cell 6 2 true]
theorem rs : type_of% (And.intro r0.eq_1 <| And.intro r1.eq_1 <| And.intro r2.eq_1 <| And.intro r3.eq_1 <| And.intro r4.eq_1 <| And.intro r5.eq_1 <| And.intro r6.eq_1 <| And.intro r7.eq_1 <| And.intro r8.eq_1 <| And.intro r9.eq_1 <| And.intro r10.eq_1 <| And.intro r11.eq_1 <| And.intro r12.eq_1 <| And.intro r13.eq_1 <| And.intro r14.eq_1 <| And.intro r15.eq_1 <| And.intro r16.eq_1 <| And.intro r17.eq_1 <| And.intro r18.eq_1 <| r19.eq_1) := And.intro r0.eq_1 <| And.intro r1.eq_1 <| And.intro r2.eq_1 <| And.intro r3.eq_1 <| And.intro r4.eq_1 <| And.intro r5.eq_1 <| And.intro r6.eq_1 <| And.intro r7.eq_1 <| And.intro r8.eq_1 <| And.intro r9.eq_1 <| And.intro r10.eq_1 <| And.intro r11.eq_1 <| And.intro r12.eq_1 <| And.intro r13.eq_1 <| And.intro r14.eq_1 <| And.intro r15.eq_1 <| And.intro r16.eq_1 <| And.intro r17.eq_1 <| And.intro r18.eq_1 <| r19.eq_1
theorem fn : Body Tryz.prog 23 66 code res := ⟨by decide, Tryz.f23, _, Tryz.func23, rfl, rfl, by kernel_rfl, by kernel_rfl⟩
theorem enters : Zu Tryz.prog 23 = true := by kernel_rfl
end Y4
namespace Yl
def r0 : List In := [⟨none, (some 4), .mv (.k (.a (.raw (.slice none 0 0))))⟩,
  ⟨none, (some 5), .alloc 32 [.int .i64 0, .int .i64 0]⟩]
def r1 : List In := [⟨none, (some 6), .mv (.k (.a (.raw (.slice none 0 0))))⟩]
def r2 : List In := [⟨none, (some 12), .mv (.t 0)⟩,
  ⟨none, (some 13), .len (.t 12)⟩,
  ⟨none, (some 14), .mv (.k (.a (.int .i64 0)))⟩]
def r3 : List In := [⟨none, (some 15), .bin .lss (.t 14) (.t 13)⟩]
@[reducible] def c0 : IC := .cond (.t 15) .skip (.exit 0)
def r4 : List In := [⟨none, (some 16), .mv (.t 14)⟩,
  ⟨none, (some 17), .iaddr 6 (.t 12) (.t 14)⟩,
  ⟨none, (some 18), .load 6 true (.t 17)⟩,
  ⟨none, (some 8), .alloc 40 [.str [], .int .i64 0, .int .i64 0, .int .i64 0, .int .i64 0, .str []]⟩,
  ⟨none, (some 7), .mv (.t 16)⟩,
  ⟨none, none, .store 6 (.t 8) (.t 18)⟩]
def r5 : List In := [⟨none, (some 19), .faddr 0 (.t 8)⟩,
  ⟨none, (some 20), .load 1 false (.t 19)⟩,
  ⟨none, (some 21), .bin .neq (.t 20) (.k (.a (.str [])))⟩]
@[reducible] def c1 : IC := .cond (.t 21) (.exit 1) .skip
@[reducible] def c2 : IC := .seq (.reg r5) c1
def r6 : List In := [⟨none, (some 22), .faddr 1 (.t 8)⟩,
  ⟨none, (some 23), .load 4 true (.t 22)⟩,
  ⟨none, (some 9), .alloc 38 [.int .i64 0, .int .i64 0, .int .i64 0, .int .i64 0]⟩,
  ⟨none, none, .store 4 (.t 9) (.t 23)⟩]
def r7 : List In := [⟨none, (some 24), .faddr 5 (.t 8)⟩,
  ⟨none, (some 25), .load 1 false (.t 24)⟩,
  ⟨none, (some 26), .bin .neq (.t 25) (.k (.a (.str [])))⟩]
def r8 : List In := [⟨none, (some 28), .mv (.t 1)⟩,
  ⟨none, (some 29), .faddr 5 (.t 8)⟩,
  ⟨none, (some 30), .load 1 false (.t 29)⟩,
  ⟨none, (some 31), .callv (.t 28) [(.t 30)]⟩,
  ⟨none, (some 27), .mv (.t 31)⟩,
  ⟨none, (some 32), .ext 0 (.t 27)⟩,
  ⟨none, (some 33), .ext 1 (.t 27)⟩,
  ⟨none, (some 10), .mv (.t 32)⟩,
  ⟨none, (some 11), .mv (.t 33)⟩]
def r9 : List In := [⟨none, (some 34), .mv (.t 11)⟩,
  ⟨none, (some 35), .un .not (.t 34)⟩]
def r10 : List In := [⟨none, (some 36), .mv (.t 7)⟩,
  ⟨none, (some 37), .build [.int .i64 0, .int .i64 0] [(0, 1, (.k (.a (.int .i64 6)))), (1, 1, (.t 36))]⟩,
  ⟨none, (some 4), .mv (.k (.a (.raw (.slice none 0 0))))⟩,
  ⟨none, none, .store 2 (.t 5) (.t 37)⟩]
@[reducible] def c3 : IC := .seq (.reg r10) .ret
@[reducible] def c4 : IC := .cond (.t 35) c3 .skip
@[reducible] def c5 : IC := .seq (.reg r9) c4
def r11 : List In := [⟨none, (some 38), .mv (.t 10)⟩,
  ⟨none, (some 39), .bin .and (.t 38) (.k (.a (.int .i64 65535)))⟩,
  ⟨none, (some 40), .faddr 3 (.t 9)⟩,
  ⟨none, none, .store 1 (.t 40) (.t 39)⟩]
@[reducible] def c6 : IC := .seq c5 (.reg r11)
@[reducible] def c7 : IC := .seq (.reg r8) c6
@[reducible] def c8 : IC := .cond (.t 26) c7 .skip
@[reducible] def c9 : IC := .seq (.reg r7) c8
def r12 : List In := [⟨none, (some 41), .mv (.t 6)⟩,
  ⟨none, (some 42), .load 4 true (.t 9)⟩,
  ⟨none, (some 43), .bsl 38 4 1 [.int .i64 0, .int .i64 0, .int .i64 0, .int .i64 0] [(0, 4, (.t 42))]⟩,
  ⟨none, (some 44), .app 84 38 4 32 (.t 41) (.t 43)⟩,
  ⟨none, (some 6), .mv (.t 44)⟩]
@[reducible] def c10 : IC := .seq c9 (.reg r12)
@[reducible] def c11 : IC := .seq (.reg r6) c10
@[reducible] def c12 : IC := .seq c2 c11
@[reducible] def c13 : IC := .seq (.reg r4) c12
@[reducible] def c14 : IC := .block 1 c13
def r13 : List In := [⟨none, (some 45), .bin .add (.t 14) (.k (.a (.int .i64 1)))⟩,
  ⟨none, (some 14), .mv (.t 45)⟩]
@[reducible] def c15 : IC := .seq c14 (.reg r13)
@[reducible] def c16 : IC := .seq c0 c15
@[reducible] def c17 : IC := .seq (.reg r3) c16
@[reducible] def c18 : IC := .loop c17
@[reducible] def c19 : IC := .block 0 c18
@[reducible] def c20 : IC := .seq (.reg r2) c19
def r14 : List In := [⟨none, (some 46), .mv (.t 6)⟩,
  ⟨none, (some 47), .build [.int .i64 0, .int .i64 0] []⟩,
  ⟨none, (some 4), .mv (.t 46)⟩,
  ⟨none, none, .store 2 (.t 5) (.t 47)⟩]
@[reducible] def c21 : IC := .seq (.reg r14) .ret
@[reducible] def c22 : IC := .seq c20 c21
@[reducible] def c23 : IC := .seq (.reg r1) c22
@[reducible] def c24 : IC := .seq (.reg r0) c23
@[reducible] def code : IC := c24
def res : List RV := [.tmp 4, .cell 5 2 true]
theorem rs : type_of% (And.intro r0.eq_1 <| And.intro r1.eq_1 <| And.intro r2.eq_1 <| And.intro r3.eq_1 <| And.intro r4.eq_1 <| And.intro r5.eq_1 <| And.intro r6.eq_1 <| And.intro r7.eq_1 <| And.intro r8.eq_1 <| And.intro r9.eq_1 <| And.intro r10.eq_1 <| And.intro r11.eq_1 <| And.intro r12.eq_1 <| And.intro r13.eq_1 <| r14.eq_1) := And.intro r0.eq_1 <| And.intro r1.eq_1 <| And.intro r2.eq_1 <| And.intro r3.eq_1 <| And.intro r4.eq_1 <| And.intro r5.eq_1 <| And.intro r6.eq_1 <| And.intro r7.eq_1 <| And.intro r8.eq_1 <| And.intro r9.eq_1 <| And.intro r10.eq_1 <| And.intro r11.eq_1 <| And.intro r12.eq_1 <| And.intro r13.eq_1 <| r14.eq_1
theorem fn : Body Tryz.prog 28 48 code res := ⟨by decide, Tryz.f28, _, Tryz.func28, rfl, rfl, by kernel_rfl, by kernel_rfl⟩
theorem enters : Zu Tryz.prog 28 = true := by kernel_rfl
end Yl
end Go.Proofs.YtjochhncheheaaaGreatDoor
namespace Go.Proofs.YtjochhncheheaaaGreatDoor
open Vc
namespace Xw
def r0 : List In := [⟨none, (some 0), .mv (.k (.a (.raw (.slice none 0 0))))⟩]
def r1 : List In := [⟨none, (some 1), .bsl 9 1 33 [.str [], .str [], .str [], .str [], .str [], .str [], .str [], .str [], .str [], .str [], .str [], .str [], .str [], .str [], .str [], .str [], .str [], .str [], .str [], .str [], .str [], .str [], .str [], .str [], .str [], .str [], .str [], .str [], .str [], .str [], .str [], .str [], .str []] [(0, 1, (.k (.a (.str [104, 97, 108, 116])))), (1, 1, (.k (.a (.str [109, 111, 118])))), (2, 1, (.k (.a (.str [108, 100, 105])))), (3, 1, (.k (.a (.str [108, 100])))), (4, 1, (.k (.a (.str [115, 116])))), (5, 1, (.k (.a (.str [97, 100, 100])))), (6, 1, (.k (.a (.str [97, 100, 99])))), (7, 1, (.k (.a (.str [115, 117, 98])))), (8, 1, (.k (.a (.str [115, 98, 99])))), (9, 1, (.k (.a (.str [97, 110, 100])))), (10, 1, (.k (.a (.str [111, 114])))), (11, 1, (.k (.a (.str [120, 111, 114])))), (12, 1, (.k (.a (.str [99, 109, 112])))), (13, 1, (.k (.a (.str [99, 112, 99])))), (14, 1, (.k (.a (.str [115, 104, 108])))), (15, 1, (.k (.a (.str [114, 111, 108])))), (16, 1, (.k (.a (.str [115, 104, 114])))), (17, 1, (.k (.a (.str [115, 97, 114])))), (18, 1, (.k (.a (.str [114, 111, 114])))), (19, 1, (.k (.a (.str [106, 109, 112])))), (20, 1, (.k (.a (.str [106, 122])))), (21, 1, (.k (.a (.str [106, 110, 122])))), (22, 1, (.k (.a (.str [106, 99])))), (23, 1, (.k (.a (.str [106, 110, 99])))), (24, 1, (.k (.a (.str [106, 108, 116])))), (25, 1, (.k (.a (.str [106, 103, 101])))), (26, 1, (.k (.a (.str [99, 97, 108, 108])))), (27, 1, (.k (.a (.str [114, 101, 116])))), (28, 1, (.k (.a (.str [112, 117, 115, 104])))), (29, 1, (.k (.a (.str [112, 111, 112])))), (30, 1, (.k (.a (.str [111, 117, 116])))), (31, 1, (.k (.a (.str [105, 110])))), (32, 1, (.k (.a (.str [116, 114, 97, 112]))))]⟩,
  ⟨none, (some 0), .mv (.t 1)⟩]
@[reducible] def c0 : IC := .seq (.reg r1) .ret
@[reducible] def c1 : IC := .seq (.reg r0) c0
@[reducible] def code : IC := c1
def res : List RV := [.tmp 0]
theorem rs : type_of% (And.intro r0.eq_1 <| r1.eq_1) := And.intro r0.eq_1 <| r1.eq_1
theorem fn : Body Tryz.prog 68 2 code res := ⟨by decide, Tryz.f68, _, Tryz.func68, rfl, rfl, by kernel_rfl, by kernel_rfl⟩
theorem enters : Zu Tryz.prog 68 = true := by kernel_rfl
end Xw
end Go.Proofs.YtjochhncheheaaaGreatDoor
namespace Go.Proofs.YtjochhncheheaaaGreatDoor
open Vc
namespace Zt
def r0 : List In := [⟨none, (some 4), .mv (.k (.a (.int .i64 0)))⟩,
  ⟨none, (some 5), .mv (.k (.a (.raw .nilIface)))⟩]
def r1 : List In := [⟨none, (some 6), .mv (.t 0)⟩,
  ⟨none, (some 7), .call 112 [(.t 6)]⟩]
def r2 : List In := [⟨none, (some 8), .mv (.t 0)⟩,
  ⟨none, (some 9), .mv (.t 0)⟩,
  ⟨none, (some 10), .nchk (.t 9)⟩,
  ⟨none, (some 11), .faddr 1 (.t 10)⟩,
  ⟨none, (some 12), .load 1 false (.t 11)⟩,
  ⟨none, (some 13), .mv (.t 1)⟩,
  ⟨none, (some 14), .apps 60 5 (.t 12) (.t 13)⟩,
  ⟨none, (some 15), .nchk (.t 8)⟩,
  ⟨none, (some 16), .faddr 1 (.t 15)⟩,
  ⟨none, none, .store 1 (.t 16) (.t 14)⟩]
def r3 : List In := [⟨none, (some 17), .mv (.t 1)⟩,
  ⟨none, (some 18), .slen (.t 17)⟩,
  ⟨none, (some 4), .mv (.t 18)⟩,
  ⟨none, (some 5), .mv (.k (.a (.raw .nilIface)))⟩]
@[reducible] def c0 : IC := .seq (.reg r3) .ret
@[reducible] def c1 : IC := .seq (.reg r2) c0
@[reducible] def c2 : IC := .seq (.reg r1) c1
@[reducible] def c3 : IC := .seq (.reg r0) c2
@[reducible] def code : IC := c3
def res : List RV := [.tmp 4, .tmp 5]
theorem rs : type_of% (And.intro r0.eq_1 <| And.intro r1.eq_1 <| And.intro r2.eq_1 <| r3.eq_1) := And.intro r0.eq_1 <| And.intro r1.eq_1 <| And.intro r2.eq_1 <| r3.eq_1
theorem fn : Body Tryz.prog 62 19 code res := ⟨by decide, Tryz.f62, _, Tryz.func62, rfl, rfl, by kernel_rfl, by kernel_rfl⟩
theorem enters : Zu Tryz.prog 62 = true := by kernel_rfl
end Zt
namespace Z3
def r0 : List In := [⟨none, (some 4), .mv (.k (.a (.raw .nilIface)))⟩]
def r1 : List In := [⟨none, (some 5), .mv (.t 0)⟩,
  ⟨none, (some 6), .call 112 [(.t 5)]⟩]
def r2 : List In := [⟨none, (some 7), .mv (.t 0)⟩,
  ⟨none, (some 8), .mv (.t 0)⟩,
  ⟨none, (some 9), .nchk (.t 8)⟩,
  ⟨none, (some 10), .faddr 1 (.t 9)⟩,
  ⟨none, (some 11), .load 1 false (.t 10)⟩,
  ⟨none, (some 12), .mv (.t 1)⟩,
  ⟨none, (some 13), .bsl 5 1 1 [.int .u8 0] [(0, 1, (.t 12))]⟩,
  ⟨none, (some 14), .app 60 5 1 1 (.t 11) (.t 13)⟩,
  ⟨none, (some 15), .nchk (.t 7)⟩,
  ⟨none, (some 16), .faddr 1 (.t 15)⟩,
  ⟨none, none, .store 1 (.t 16) (.t 14)⟩]
def r3 : List In := [⟨none, (some 4), .mv (.k (.a (.raw .nilIface)))⟩]
@[reducible] def c0 : IC := .seq (.reg r3) .ret
@[reducible] def c1 : IC := .seq (.reg r2) c0
@[reducible] def c2 : IC := .seq (.reg r1) c1
@[reducible] def c3 : IC := .seq (.reg r0) c2
@[reducible] def code : IC := c3
def res : List RV := [.tmp 4]
theorem rs : type_of% (And.intro r0.eq_1 <| And.intro r1.eq_1 <| And.intro r2.eq_1 <| r3.eq_1) := And.intro r0.eq_1 <| And.intro r1.eq_1 <| And.intro r2.eq_1 <| r3.eq_1
theorem fn : Body Tryz.prog 61 17 code res := ⟨by decide, Tryz.f61, _, Tryz.func61, rfl, rfl, by kernel_rfl, by kernel_rfl⟩
theorem enters : Zu Tryz.prog 61 = true := by kernel_rfl
end Z3
end Go.Proofs.YtjochhncheheaaaGreatDoor
namespace Go.Proofs.YtjochhncheheaaaGreatDoor
open Vc
namespace Yn
def r0 : List In := [⟨none, (some 4), .mv (.k (.a (.int .i64 0)))⟩,
  ⟨none, (some 5), .mv (.k (.a (.bool false)))⟩]
def r1 : List In := [⟨none, (some 8), .mv (.t 0)⟩,
  ⟨none, (some 9), .bin .eql (.t 8) (.k (.a (.str [])))⟩,
  ⟨none, (some 10), .mv (.t 9)⟩,
  ⟨(some (10, false)), (some 11), .mv (.t 0)⟩,
  ⟨(some (10, false)), (some 12), .slen (.t 11)⟩,
  ⟨(some (10, false)), (some 13), .bin .gtr (.t 12) (.k (.a (.int .i64 5)))⟩,
  ⟨none, (some 14), .pick (.t 10) (.k (.a (.bool true))) (.t 13)⟩,
  ⟨none, (some 15), .mv (.t 14)⟩,
  ⟨(some (15, false)), (some 16), .mv (.t 0)⟩,
  ⟨(some (15, false)), (some 17), .call 65 [(.t 16), (.k (.a (.str [48, 49, 50, 51, 52, 53, 54, 55, 56, 57])))]⟩,
  ⟨(some (15, false)), (some 18), .bin .neq (.t 17) (.k (.a (.str [])))⟩,
  ⟨none, (some 19), .pick (.t 15) (.k (.a (.bool true))) (.t 18)⟩,
  ⟨none, (some 20), .mv (.t 19)⟩,
  ⟨(some (20, false)), (some 21), .mv (.t 0)⟩,
  ⟨(some (20, false)), (some 22), .slen (.t 21)⟩,
  ⟨(some (20, false)), (some 23), .bin .gtr (.t 22) (.k (.a (.int .i64 1)))⟩,
  ⟨(some (20, false)), (some 24), .mv (.t 23)⟩,
  ⟨(some (24, true)), (some 25), .mv (.t 0)⟩,
  ⟨(some (24, true)), (some 26), .sidx (.t 25) (.k (.a (.int .i64 0)))⟩,
  ⟨(some (24, true)), (some 27), .bin .eql (.t 26) (.k (.a (.int .u8 48)))⟩,
  ⟨(some (20, false)), (some 28), .pick (.t 24) (.t 27) (.k (.a (.bool false)))⟩,
  ⟨none, (some 29), .pick (.t 20) (.k (.a (.bool true))) (.t 28)⟩]
def r2 : List In := [⟨none, (some 4), .mv (.k (.a (.int .i64 0)))⟩,
  ⟨none, (some 5), .mv (.k (.a (.bool false)))⟩]
@[reducible] def c0 : IC := .seq (.reg r2) .ret
@[reducible] def c1 : IC := .cond (.t 29) c0 .skip
@[reducible] def c2 : IC := .seq (.reg r1) c1
def r3 : List In := [⟨none, (some 31), .mv (.t 0)⟩,
  ⟨none, (some 32), .call 126 [(.t 31)]⟩,
  ⟨none, (some 30), .mv (.t 32)⟩,
  ⟨none, (some 33), .ext 0 (.t 30)⟩,
  ⟨none, (some 34), .ext 1 (.t 30)⟩,
  ⟨none, (some 6), .mv (.t 33)⟩,
  ⟨none, (some 7), .mv (.t 34)⟩]
def r4 : List In := [⟨none, (some 35), .mv (.t 6)⟩,
  ⟨none, (some 36), .mv (.t 6)⟩,
  ⟨none, (some 37), .mv (.t 1)⟩,
  ⟨none, (some 38), .bin .leq (.t 36) (.t 37)⟩,
  ⟨none, (some 4), .mv (.t 35)⟩,
  ⟨none, (some 5), .mv (.t 38)⟩]
@[reducible] def c3 : IC := .seq (.reg r4) .ret
@[reducible] def c4 : IC := .seq (.reg r3) c3
@[reducible] def c5 : IC := .seq c2 c4
@[reducible] def c6 : IC := .seq (.reg r0) c5
@[reducible] def code : IC := c6
def res : List RV := [.tmp 4, .tmp 5]
theorem rs : type_of% (And.intro r0.eq_1 <| And.intro r1.eq_1 <| And.intro r2.eq_1 <| And.intro r3.eq_1 <| r4.eq_1) := And.intro r0.eq_1 <| And.intro r1.eq_1 <| And.intro r2.eq_1 <| And.intro r3.eq_1 <| r4.eq_1
theorem fn : Body Tryz.prog 71 39 code res := ⟨by decide, Tryz.f71, _, Tryz.func71, rfl, rfl, by kernel_rfl, by kernel_rfl⟩
theorem enters : Zu Tryz.prog 71 = true := by kernel_rfl
end Yn
namespace Yj
def r0 : List In := [⟨none, (some 2), .mv (.k (.a (.int .i64 0)))⟩,
  ⟨none, (some 3), .mv (.k (.a (.bool false)))⟩]
def r1 : List In := [⟨none, (some 7), .mv (.t 0)⟩,
  ⟨none, (some 8), .call 125 [(.t 7), (.k (.a (.str [114])))]⟩,
  ⟨none, (some 6), .mv (.t 8)⟩,
  ⟨none, (some 9), .ext 0 (.t 6)⟩,
  ⟨none, (some 10), .ext 1 (.t 6)⟩,
  ⟨none, (some 4), .mv (.t 9)⟩,
  ⟨none, (some 5), .mv (.t 10)⟩]
def r2 : List In := [⟨none, (some 11), .mv (.t 5)⟩,
  ⟨none, (some 12), .un .not (.t 11)⟩]
def r3 : List In := [⟨none, (some 2), .mv (.k (.a (.int .i64 0)))⟩,
  ⟨none, (some 3), .mv (.k (.a (.bool false)))⟩]
@[reducible] def c0 : IC := .seq (.reg r3) .ret
@[reducible] def c1 : IC := .cond (.t 12) c0 .skip
@[reducible] def c2 : IC := .seq (.reg r2) c1
def r4 : List In := [⟨none, (some 13), .mv (.t 4)⟩,
  ⟨none, (some 14), .call 71 [(.t 13), (.k (.a (.int .i64 7)))]⟩,
  ⟨none, (some 15), .ext 0 (.t 14)⟩,
  ⟨none, (some 16), .ext 1 (.t 14)⟩,
  ⟨none, (some 2), .mv (.t 15)⟩,
  ⟨none, (some 3), .mv (.t 16)⟩]
@[reducible] def c3 : IC := .seq (.reg r4) .ret
@[reducible] def c4 : IC := .seq c2 c3
@[reducible] def c5 : IC := .seq (.reg r1) c4
@[reducible] def c6 : IC := .seq (.reg r0) c5
@[reducible] def code : IC := c6
def res : List RV := [.tmp 2, .tmp 3]
theorem rs : type_of% (And.intro r0.eq_1 <| And.intro r1.eq_1 <| And.intro r2.eq_1 <| And.intro r3.eq_1 <| r4.eq_1) := And.intro r0.eq_1 <| And.intro r1.eq_1 <| And.intro r2.eq_1 <| And.intro r3.eq_1 <| r4.eq_1
theorem fn : Body Tryz.prog 70 17 code res := ⟨by decide, Tryz.f70, _, Tryz.func70, rfl, rfl, by kernel_rfl, by kernel_rfl⟩
theorem enters : Zu Tryz.prog 70 = true := by kernel_rfl
end Yj
namespace Zk
def r0 : List In := [⟨none, (some 2), .alloc 40 [.str [], .int .i64 0, .int .i64 0, .int .i64 0, .int .i64 0, .str []]⟩,
  ⟨none, (some 3), .mv (.k (.a (.bool false)))⟩,
  ⟨none, (some 4), .mv (.k (.a (.int .i64 0)))⟩]
def r1 : List In := [⟨none, (some 24), .mv (.t 0)⟩,
  ⟨none, (some 25), .call 64 [(.t 24), (.k (.a (.str [59])))]⟩,
  ⟨none, (some 23), .mv (.t 25)⟩,
  ⟨none, (some 26), .ext 0 (.t 23)⟩,
  ⟨none, (some 27), .ext 1 (.t 23)⟩,
  ⟨none, (some 28), .ext 2 (.t 23)⟩,
  ⟨none, (some 0), .mv (.t 26)⟩]
def r2 : List In := [⟨none, (some 29), .mv (.t 0)⟩,
  ⟨none, (some 30), .call 65 [(.t 29), (.k (.a (.str [32, 9])))]⟩,
  ⟨none, (some 0), .mv (.t 30)⟩]
def r3 : List In := [⟨none, (some 31), .mv (.t 0)⟩,
  ⟨none, (some 32), .bin .eql (.t 31) (.k (.a (.str [])))⟩]
def r4 : List In := [⟨none, (some 33), .load 6 true (.t 2)⟩,
  ⟨none, none, .store 6 (.t 2) (.t 33)⟩,
  ⟨none, (some 3), .mv (.k (.a (.bool false)))⟩,
  ⟨none, (some 4), .mv (.k (.a (.int .i64 0)))⟩]
@[reducible] def c0 : IC := .seq (.reg r4) .ret
@[reducible] def c1 : IC := .cond (.t 32) c0 .skip
@[reducible] def c2 : IC := .seq (.reg r3) c1
def r5 : List In := [⟨none, (some 35), .mv (.t 0)⟩,
  ⟨none, (some 36), .call 66 [(.t 35), (.k (.a (.str [58])))]⟩,
  ⟨none, (some 34), .mv (.t 36)⟩,
  ⟨none, (some 37), .ext 0 (.t 34)⟩,
  ⟨none, (some 38), .ext 1 (.t 34)⟩,
  ⟨none, (some 5), .mv (.t 37)⟩,
  ⟨none, (some 6), .mv (.t 38)⟩]
def r6 : List In := [⟨none, (some 39), .mv (.t 6)⟩]
def r7 : List In := [⟨none, (some 40), .mv (.t 5)⟩,
  ⟨none, (some 41), .call 67 [(.t 40)]⟩,
  ⟨none, (some 42), .un .not (.t 41)⟩]
def r8 : List In := [⟨none, (some 43), .load 6 true (.t 2)⟩,
  ⟨none, none, .store 6 (.t 2) (.t 43)⟩,
  ⟨none, (some 3), .mv (.k (.a (.bool false)))⟩,
  ⟨none, (some 4), .mv (.k (.a (.int .i64 7)))⟩]
@[reducible] def c3 : IC := .seq (.reg r8) .ret
@[reducible] def c4 : IC := .cond (.t 42) c3 .skip
@[reducible] def c5 : IC := .seq (.reg r7) c4
def r9 : List In := [⟨none, (some 44), .mv (.t 5)⟩,
  ⟨none, (some 45), .build [.str [], .int .i64 0, .int .i64 0, .int .i64 0, .int .i64 0, .str []] [(0, 1, (.t 44))]⟩,
  ⟨none, none, .store 6 (.t 2) (.t 45)⟩,
  ⟨none, (some 3), .mv (.k (.a (.bool true)))⟩,
  ⟨none, (some 4), .mv (.k (.a (.int .i64 0)))⟩]
@[reducible] def c6 : IC := .seq (.reg r9) .ret
@[reducible] def c7 : IC := .seq c5 c6
@[reducible] def c8 : IC := .cond (.t 39) c7 .skip
@[reducible] def c9 : IC := .seq (.reg r6) c8
@[reducible] def c10 : IC := .seq (.reg r5) c9
def r10 : List In := [⟨none, (some 47), .mv (.t 0)⟩,
  ⟨none, (some 48), .call 64 [(.t 47), (.k (.a (.str [32])))]⟩,
  ⟨none, (some 46), .mv (.t 48)⟩,
  ⟨none, (some 49), .ext 0 (.t 46)⟩,
  ⟨none, (some 50), .ext 1 (.t 46)⟩,
  ⟨none, (some 51), .ext 2 (.t 46)⟩,
  ⟨none, (some 7), .mv (.t 49)⟩,
  ⟨none, (some 8), .mv (.t 50)⟩,
  ⟨none, (some 9), .mv (.t 51)⟩]
def r11 : List In := [⟨none, (some 52), .call 68 []⟩,
  ⟨none, (some 53), .mv (.t 7)⟩,
  ⟨none, (some 54), .call 59 [(.t 52), (.t 53)]⟩,
  ⟨none, (some 10), .mv (.t 54)⟩]
def r12 : List In := [⟨none, (some 55), .mv (.t 10)⟩,
  ⟨none, (some 56), .bin .lss (.t 55) (.k (.a (.int .i64 0)))⟩]
def r13 : List In := [⟨none, (some 57), .load 6 true (.t 2)⟩,
  ⟨none, none, .store 6 (.t 2) (.t 57)⟩,
  ⟨none, (some 3), .mv (.k (.a (.bool false)))⟩,
  ⟨none, (some 4), .mv (.k (.a (.int .i64 1)))⟩]
@[reducible] def c11 : IC := .seq (.reg r13) .ret
@[reducible] def c12 : IC := .cond (.t 56) c11 .skip
@[reducible] def c13 : IC := .seq (.reg r12) c12
def r14 : List In := [⟨none, (some 11), .mv (.k (.a (.raw (.slice none 0 0))))⟩]
def r15 : List In := [⟨none, (some 58), .mv (.t 8)⟩,
  ⟨none, (some 59), .call 65 [(.t 58), (.k (.a (.str [32, 9])))]⟩,
  ⟨none, (some 8), .mv (.t 59)⟩]
def r16 : List In := [⟨none, (some 60), .mv (.t 8)⟩,
  ⟨none, (some 61), .bin .neq (.t 60) (.k (.a (.str [])))⟩]
def r17 : List In := [⟨none, (some 62), .mv (.t 8)⟩,
  ⟨none, (some 63), .call 20 [(.t 62), (.k (.a (.str [44])))]⟩,
  ⟨none, (some 11), .mv (.t 63)⟩]
@[reducible] def c14 : IC := .cond (.t 61) (.reg r17) .skip
@[reducible] def c15 : IC := .seq (.reg r16) c14
@[reducible] def c16 : IC := .seq (.reg r15) c15
def r18 : List In := [⟨none, (some 64), .mv (.t 10)⟩,
  ⟨none, (some 65), .faddr 1 (.t 2)⟩,
  ⟨none, (some 66), .faddr 0 (.t 65)⟩,
  ⟨none, none, .store 1 (.t 66) (.t 64)⟩]
def r19 : List In := [⟨none, (some 68), .mv (.t 10)⟩,
  ⟨none, (some 69), .call 69 [(.t 68)]⟩,
  ⟨none, (some 67), .mv (.t 69)⟩,
  ⟨none, (some 70), .ext 0 (.t 67)⟩,
  ⟨none, (some 71), .ext 1 (.t 67)⟩,
  ⟨none, (some 72), .ext 2 (.t 67)⟩,
  ⟨none, (some 73), .ext 3 (.t 67)⟩,
  ⟨none, (some 12), .mv (.t 70)⟩,
  ⟨none, (some 13), .mv (.t 71)⟩,
  ⟨none, (some 14), .mv (.t 72)⟩,
  ⟨none, (some 15), .mv (.t 73)⟩]
def r20 : List In := [⟨none, (some 74), .mv (.t 12)⟩,
  ⟨none, (some 75), .faddr 1 (.t 2)⟩,
  ⟨none, (some 76), .faddr 1 (.t 75)⟩,
  ⟨none, (some 77), .build [.bool false, .raw (.pointer none)] [(0, 1, (.t 74)), (1, 1, (.t 76))]⟩,
  ⟨none, (some 78), .mv (.t 13)⟩,
  ⟨none, (some 79), .faddr 1 (.t 2)⟩,
  ⟨none, (some 80), .faddr 2 (.t 79)⟩,
  ⟨none, (some 81), .build [.bool false, .raw (.pointer none)] [(0, 1, (.t 78)), (1, 1, (.t 80))]⟩,
  ⟨none, (some 82), .bsl 138 2 2 [.bool false, .raw (.pointer none), .bool false, .raw (.pointer none)] [(0, 2, (.t 77)), (2, 2, (.t 81))]⟩,
  ⟨none, (some 83), .len (.t 82)⟩,
  ⟨none, (some 84), .mv (.k (.a (.int .i64 0)))⟩]
def r21 : List In := [⟨none, (some 85), .bin .lss (.t 84) (.t 83)⟩]
@[reducible] def c17 : IC := .cond (.t 85) .skip (.exit 0)
def r22 : List In := [⟨none, (some 86), .iaddr 2 (.t 82) (.t 84)⟩,
  ⟨none, (some 87), .load 2 true (.t 86)⟩,
  ⟨none, (some 17), .alloc 138 [.bool false, .raw (.pointer none)]⟩,
  ⟨none, none, .store 2 (.t 17) (.t 87)⟩]
def r23 : List In := [⟨none, (some 88), .faddr 0 (.t 17)⟩,
  ⟨none, (some 89), .load 1 false (.t 88)⟩,
  ⟨none, (some 90), .un .not (.t 89)⟩]
@[reducible] def c18 : IC := .cond (.t 90) (.exit 1) .skip
@[reducible] def c19 : IC := .seq (.reg r23) c18
def r24 : List In := [⟨none, (some 91), .mv (.t 11)⟩,
  ⟨none, (some 92), .len (.t 91)⟩,
  ⟨none, (some 93), .bin .eql (.t 92) (.k (.a (.int .i64 0)))⟩]
def r25 : List In := [⟨none, (some 94), .build [.str [], .int .i64 0, .int .i64 0, .int .i64 0, .int .i64 0, .str []] []⟩,
  ⟨none, none, .store 6 (.t 2) (.t 94)⟩,
  ⟨none, (some 3), .mv (.k (.a (.bool false)))⟩,
  ⟨none, (some 4), .mv (.k (.a (.int .i64 5)))⟩]
@[reducible] def c20 : IC := .seq (.reg r25) .ret
@[reducible] def c21 : IC := .cond (.t 93) c20 .skip
@[reducible] def c22 : IC := .seq (.reg r24) c21
def r26 : List In := [⟨none, (some 96), .mv (.t 11)⟩,
  ⟨none, (some 97), .iaddr 1 (.t 96) (.k (.a (.int .i64 0)))⟩,
  ⟨none, (some 98), .load 1 false (.t 97)⟩,
  ⟨none, (some 99), .call 65 [(.t 98), (.k (.a (.str [32, 9])))]⟩,
  ⟨none, (some 100), .call 70 [(.t 99)]⟩,
  ⟨none, (some 95), .mv (.t 100)⟩,
  ⟨none, (some 101), .ext 0 (.t 95)⟩,
  ⟨none, (some 102), .ext 1 (.t 95)⟩,
  ⟨none, (some 18), .mv (.t 101)⟩,
  ⟨none, (some 19), .mv (.t 102)⟩]
def r27 : List In := [⟨none, (some 103), .mv (.t 19)⟩,
  ⟨none, (some 104), .un .not (.t 103)⟩]
def r28 : List In := [⟨none, (some 105), .build [.str [], .int .i64 0, .int .i64 0, .int .i64 0, .int .i64 0, .str []] []⟩,
  ⟨none, none, .store 6 (.t 2) (.t 105)⟩,
  ⟨none, (some 3), .mv (.k (.a (.bool false)))⟩,
  ⟨none, (some 4), .mv (.k (.a (.int .i64 2)))⟩]
@[reducible] def c23 : IC := .seq (.reg r28) .ret
@[reducible] def c24 : IC := .cond (.t 104) c23 .skip
@[reducible] def c25 : IC := .seq (.reg r27) c24
def r29 : DT := (.take ⟨none, (some 108), .mv (.t 18)⟩ false
  (.take ⟨none, (some 109), .mv (.t 11)⟩ false
  (.alt ⟨none, (some 106), .faddr 1 (.t 17)⟩ false
  (.alt ⟨none, (some 107), .load 1 false (.t 106)⟩ false
  (.alt ⟨none, (some 110), .sl 1 (.t 109) (some (.k (.a (.int .i64 1)))) none⟩ false
  (.alt ⟨none, (some 111), .nchk (.t 107)⟩ false
  (.alt ⟨none, none, .store 1 (.t 111) (.t 108)⟩ false
  (.take ⟨none, (some 11), .mv (.t 110)⟩ false
  .done)
  .stop)
  .stop)
  (.alt ⟨none, (some 111), .nchk (.t 107)⟩ false
  (.alt ⟨none, (some 110), .sl 1 (.t 109) (some (.k (.a (.int .i64 1)))) none⟩ false
  (.alt ⟨none, none, .store 1 (.t 111) (.t 108)⟩ false
  (.take ⟨none, (some 11), .mv (.t 110)⟩ false
  .done)
  .stop)
  (.alt ⟨none, none, .store 1 (.t 111) (.t 108)⟩ false
  (.alt ⟨none, (some 110), .sl 1 (.t 109) (some (.k (.a (.int .i64 1)))) none⟩ false
  (.take ⟨none, (some 11), .mv (.t 110)⟩ false
  .done)
  .stop)
  .stop))
  .stop))
  (.alt ⟨none, (some 110), .sl 1 (.t 109) (some (.k (.a (.int .i64 1)))) none⟩ false
  (.alt ⟨none, (some 107), .load 1 false (.t 106)⟩ false
  (.alt ⟨none, (some 111), .nchk (.t 107)⟩ false
  (.alt ⟨none, none, .store 1 (.t 111) (.t 108)⟩ false
  (.take ⟨none, (some 11), .mv (.t 110)⟩ false
  .done)
  .stop)
  .stop)
  .stop)
  .stop))
  (.alt ⟨none, (some 110), .sl 1 (.t 109) (some (.k (.a (.int .i64 1)))) none⟩ false
  (.alt ⟨none, (some 106), .faddr 1 (.t 17)⟩ false
  (.alt ⟨none, (some 107), .load 1 false (.t 106)⟩ false
  (.alt ⟨none, (some 111), .nchk (.t 107)⟩ false
  (.alt ⟨none, none, .store 1 (.t 111) (.t 108)⟩ false
  (.take ⟨none, (some 11), .mv (.t 110)⟩ false
  .done)
  .stop)
  .stop)
  .stop)
  .stop)
  .stop))))
@[reducible] def c26 : IC := .seq c25 (.dany r29)
@[reducible] def c27 : IC := .seq (.reg r26) c26
@[reducible] def c28 : IC := .seq c22 c27
@[reducible] def c29 : IC := .seq c19 c28
@[reducible] def c30 : IC := .seq (.reg r22) c29
@[reducible] def c31 : IC := .block 1 c30
def r30 : List In := [⟨none, (some 112), .bin .add (.t 84) (.k (.a (.int .i64 1)))⟩,
  ⟨none, (some 84), .mv (.t 112)⟩]
@[reducible] def c32 : IC := .seq c31 (.reg r30)
@[reducible] def c33 : IC := .seq c17 c32
@[reducible] def c34 : IC := .seq (.reg r21) c33
@[reducible] def c35 : IC := .loop c34
@[reducible] def c36 : IC := .block 0 c35
@[reducible] def c37 : IC := .seq (.reg r20) c36
def r31 : List In := [⟨none, (some 113), .mv (.t 14)⟩]
def r32 : List In := [⟨none, (some 114), .mv (.t 11)⟩,
  ⟨none, (some 115), .len (.t 114)⟩,
  ⟨none, (some 116), .bin .eql (.t 115) (.k (.a (.int .i64 0)))⟩]
def r33 : List In := [⟨none, (some 117), .build [.str [], .int .i64 0, .int .i64 0, .int .i64 0, .int .i64 0, .str []] []⟩,
  ⟨none, none, .store 6 (.t 2) (.t 117)⟩,
  ⟨none, (some 3), .mv (.k (.a (.bool false)))⟩,
  ⟨none, (some 4), .mv (.k (.a (.int .i64 5)))⟩]
@[reducible] def c38 : IC := .seq (.reg r33) .ret
@[reducible] def c39 : IC := .cond (.t 116) c38 .skip
@[reducible] def c40 : IC := .seq (.reg r32) c39
def r34 : List In := [⟨none, (some 118), .mv (.t 11)⟩,
  ⟨none, (some 119), .iaddr 1 (.t 118) (.k (.a (.int .i64 0)))⟩,
  ⟨none, (some 120), .load 1 false (.t 119)⟩,
  ⟨none, (some 121), .call 65 [(.t 120), (.k (.a (.str [32, 9])))]⟩,
  ⟨none, (some 20), .mv (.t 121)⟩]
def r35 : List In := [⟨none, (some 123), .mv (.t 20)⟩,
  ⟨none, (some 124), .call 71 [(.t 123), (.k (.a (.int .i64 65535)))]⟩,
  ⟨none, (some 122), .mv (.t 124)⟩,
  ⟨none, (some 125), .ext 0 (.t 122)⟩,
  ⟨none, (some 126), .ext 1 (.t 122)⟩,
  ⟨none, (some 21), .mv (.t 125)⟩,
  ⟨none, (some 22), .mv (.t 126)⟩]
def r36 : List In := [⟨none, (some 129), .mv (.t 22)⟩,
  ⟨none, (some 128), .mv (.t 129)⟩]
def r37 : List In := [⟨none, (some 130), .mv (.t 21)⟩,
  ⟨none, (some 131), .faddr 1 (.t 2)⟩,
  ⟨none, (some 132), .faddr 3 (.t 131)⟩,
  ⟨none, none, .store 1 (.t 132) (.t 130)⟩]
def r38 : List In := [⟨none, (some 134), .mv (.t 20)⟩,
  ⟨none, (some 135), .call 67 [(.t 134)]⟩,
  ⟨none, (some 136), .mv (.t 135)⟩,
  ⟨(some (136, true)), (some 137), .mv (.t 10)⟩,
  ⟨(some (136, true)), (some 138), .call 72 [(.t 137)]⟩,
  ⟨none, (some 139), .pick (.t 136) (.t 138) (.k (.a (.bool false)))⟩,
  ⟨none, (some 133), .mv (.t 139)⟩]
def r39 : List In := [⟨none, (some 140), .mv (.t 20)⟩,
  ⟨none, (some 141), .faddr 5 (.t 2)⟩,
  ⟨none, none, .store 1 (.t 141) (.t 140)⟩]
def r40 : List In := [⟨none, (some 127), .build [.str [], .int .i64 0, .int .i64 0, .int .i64 0, .int .i64 0, .str []] []⟩,
  ⟨none, none, .store 6 (.t 2) (.t 127)⟩,
  ⟨none, (some 3), .mv (.k (.a (.bool false)))⟩,
  ⟨none, (some 4), .mv (.k (.a (.int .i64 2)))⟩]
@[reducible] def c41 : IC := .seq (.reg r40) .ret
@[reducible] def c42 : IC := .cond (.t 133) (.reg r39) c41
@[reducible] def c43 : IC := .seq (.reg r38) c42
@[reducible] def c44 : IC := .cond (.t 128) (.reg r37) c43
@[reducible] def c45 : IC := .seq (.reg r36) c44
@[reducible] def c46 : IC := .block 2 c45
def r41 : List In := [⟨none, (some 142), .mv (.t 11)⟩,
  ⟨none, (some 143), .sl 1 (.t 142) (some (.k (.a (.int .i64 1)))) none⟩,
  ⟨none, (some 11), .mv (.t 143)⟩]
@[reducible] def c47 : IC := .seq c46 (.reg r41)
@[reducible] def c48 : IC := .seq (.reg r35) c47
@[reducible] def c49 : IC := .seq (.reg r34) c48
@[reducible] def c50 : IC := .seq c40 c49
@[reducible] def c51 : IC := .cond (.t 113) c50 .skip
@[reducible] def c52 : IC := .seq (.reg r31) c51
def r42 : List In := [⟨none, (some 144), .mv (.t 11)⟩,
  ⟨none, (some 145), .len (.t 144)⟩,
  ⟨none, (some 146), .bin .gtr (.t 145) (.k (.a (.int .i64 0)))⟩]
def r43 : List In := [⟨none, (some 147), .build [.str [], .int .i64 0, .int .i64 0, .int .i64 0, .int .i64 0, .str []] []⟩,
  ⟨none, none, .store 6 (.t 2) (.t 147)⟩,
  ⟨none, (some 3), .mv (.k (.a (.bool false)))⟩,
  ⟨none, (some 4), .mv (.k (.a (.int .i64 5)))⟩]
@[reducible] def c53 : IC := .seq (.reg r43) .ret
@[reducible] def c54 : IC := .cond (.t 146) c53 .skip
@[reducible] def c55 : IC := .seq (.reg r42) c54
def r44 : List In := [⟨none, (some 148), .load 6 true (.t 2)⟩,
  ⟨none, none, .store 6 (.t 2) (.t 148)⟩,
  ⟨none, (some 3), .mv (.k (.a (.bool true)))⟩,
  ⟨none, (some 4), .mv (.k (.a (.int .i64 0)))⟩]
@[reducible] def c56 : IC := .seq (.reg r44) .ret
@[reducible] def c57 : IC := .seq c55 c56
@[reducible] def c58 : IC := .seq c52 c57
@[reducible] def c59 : IC := .seq c37 c58
@[reducible] def c60 : IC := .seq (.reg r19) c59
@[reducible] def c61 : IC := .seq (.reg r18) c60
@[reducible] def c62 : IC := .seq c16 c61
@[reducible] def c63 : IC := .seq (.reg r14) c62
@[reducible] def c64 : IC := .seq c13 c63
@[reducible] def c65 : IC := .seq (.reg r11) c64
@[reducible] def c66 : IC := .seq (.reg r10) c65
@[reducible] def c67 : IC := .seq c10 c66
@[reducible] def c68 : IC := .seq c2 c67
@[reducible] def c69 : IC := .seq (.reg r2) c68
@[reducible] def c70 : IC := .seq (.reg r1) c69
@[reducible] def c71 : IC := .seq (.reg r0) c70
@[reducible] def code : IC := c71
def res : List RV := [.cell 2 6 true, .tmp 3, .tmp 4]
theorem rs : type_of% (And.intro r0.eq_1 <| And.intro r1.eq_1 <| And.intro r2.eq_1 <| And.intro r3.eq_1 <| And.intro r4.eq_1 <| And.intro r5.eq_1 <| And.intro r6.eq_1 <| And.intro r7.eq_1 <| And.intro r8.eq_1 <| And.intro r9.eq_1 <| And.intro r10.eq_1 <| And.intro r11.eq_1 <| And.intro r12.eq_1 <| And.intro r13.eq_1 <| And.intro r14.eq_1 <| And.intro r15.eq_1 <| And.intro r16.eq_1 <| And.intro r17.eq_1 <| And.intro r18.eq_1 <| And.intro r19.eq_1 <| And.intro r20.eq_1 <| And.intro r21.eq_1 <| And.intro r22.eq_1 <| And.intro r23.eq_1 <| And.intro r24.eq_1 <| And.intro r25.eq_1 <| And.intro r26.eq_1 <| And.intro r27.eq_1 <| And.intro r28.eq_1 <| And.intro r29.eq_1 <| And.intro r30.eq_1 <| And.intro r31.eq_1 <| And.intro r32.eq_1 <| And.intro r33.eq_1 <| And.intro r34.eq_1 <| And.intro r35.eq_1 <| And.intro r36.eq_1 <| And.intro r37.eq_1 <| And.intro r38.eq_1 <| And.intro r39.eq_1 <| And.intro r40.eq_1 <| And.intro r41.eq_1 <| And.intro r42.eq_1 <| And.intro r43.eq_1 <| r44.eq_1) := And.intro r0.eq_1 <| And.intro r1.eq_1 <| And.intro r2.eq_1 <| And.intro r3.eq_1 <| And.intro r4.eq_1 <| And.intro r5.eq_1 <| And.intro r6.eq_1 <| And.intro r7.eq_1 <| And.intro r8.eq_1 <| And.intro r9.eq_1 <| And.intro r10.eq_1 <| And.intro r11.eq_1 <| And.intro r12.eq_1 <| And.intro r13.eq_1 <| And.intro r14.eq_1 <| And.intro r15.eq_1 <| And.intro r16.eq_1 <| And.intro r17.eq_1 <| And.intro r18.eq_1 <| And.intro r19.eq_1 <| And.intro r20.eq_1 <| And.intro r21.eq_1 <| And.intro r22.eq_1 <| And.intro r23.eq_1 <| And.intro r24.eq_1 <| And.intro r25.eq_1 <| And.intro r26.eq_1 <| And.intro r27.eq_1 <| And.intro r28.eq_1 <| And.intro r29.eq_1 <| And.intro r30.eq_1 <| And.intro r31.eq_1 <| And.intro r32.eq_1 <| And.intro r33.eq_1 <| And.intro r34.eq_1 <| And.intro r35.eq_1 <| And.intro r36.eq_1 <| And.intro r37.eq_1 <| And.intro r38.eq_1 <| And.intro r39.eq_1 <| And.intro r40.eq_1 <| And.intro r41.eq_1 <| And.intro r42.eq_1 <| And.intro r43.eq_1 <| r44.eq_1
theorem fn : Body Tryz.prog 21 149 code res := ⟨by decide, Tryz.f21, _, Tryz.func21, rfl, rfl, by kernel_rfl, by kernel_rfl⟩
theorem enters : Zu Tryz.prog 21 = true := by kernel_rfl
end Zk
namespace Z5
def r0 : List In := [⟨none, (some 2), .mv (.k (.a (.raw (.slice none 0 0))))⟩,
  ⟨none, (some 3), .alloc 32 [.int .i64 0, .int .i64 0]⟩]
def r1 : List In := [⟨none, (some 11), .mv (.t 0)⟩,
  ⟨none, (some 12), .slen (.t 11)⟩,
  ⟨none, (some 13), .bin .gtr (.t 12) (.k (.a (.int .i64 1048576)))⟩]
def r2 : List In := [⟨none, (some 14), .build [.int .i64 0, .int .i64 0] [(0, 1, (.k (.a (.int .i64 4))))]⟩,
  ⟨none, (some 2), .mv (.k (.a (.raw (.slice none 0 0))))⟩,
  ⟨none, none, .store 2 (.t 3) (.t 14)⟩]
@[reducible] def c0 : IC := .seq (.reg r2) .ret
@[reducible] def c1 : IC := .cond (.t 13) c0 .skip
@[reducible] def c2 : IC := .seq (.reg r1) c1
def r3 : List In := [⟨none, (some 15), .mv (.t 0)⟩,
  ⟨none, (some 16), .call 20 [(.t 15), (.k (.a (.str [10])))]⟩,
  ⟨none, (some 4), .mv (.t 16)⟩]
def r4 : List In := [⟨none, (some 17), .mv (.t 4)⟩,
  ⟨none, (some 18), .mv (.t 4)⟩,
  ⟨none, (some 19), .len (.t 18)⟩,
  ⟨none, (some 20), .bin .sub (.t 19) (.k (.a (.int .i64 1)))⟩,
  ⟨none, (some 21), .iaddr 1 (.t 17) (.t 20)⟩,
  ⟨none, (some 22), .load 1 false (.t 21)⟩,
  ⟨none, (some 23), .bin .eql (.t 22) (.k (.a (.str [])))⟩]
def r5 : List In := [⟨none, (some 24), .mv (.t 4)⟩,
  ⟨none, (some 25), .mv (.t 4)⟩,
  ⟨none, (some 26), .len (.t 25)⟩,
  ⟨none, (some 27), .bin .sub (.t 26) (.k (.a (.int .i64 1)))⟩,
  ⟨none, (some 28), .sl 1 (.t 24) none (some (.t 27))⟩,
  ⟨none, (some 4), .mv (.t 28)⟩]
@[reducible] def c3 : IC := .cond (.t 23) (.reg r5) .skip
@[reducible] def c4 : IC := .seq (.reg r4) c3
def r6 : List In := [⟨none, (some 29), .mv (.t 4)⟩,
  ⟨none, (some 30), .len (.t 29)⟩,
  ⟨none, (some 31), .bin .gtr (.t 30) (.k (.a (.int .i64 40000)))⟩]
def r7 : List In := [⟨none, (some 32), .build [.int .i64 0, .int .i64 0] [(0, 1, (.k (.a (.int .i64 5))))]⟩,
  ⟨none, (some 2), .mv (.k (.a (.raw (.slice none 0 0))))⟩,
  ⟨none, none, .store 2 (.t 3) (.t 32)⟩]
@[reducible] def c5 : IC := .seq (.reg r7) .ret
@[reducible] def c6 : IC := .cond (.t 31) c5 .skip
@[reducible] def c7 : IC := .seq (.reg r6) c6
def r8 : List In := [⟨none, (some 5), .mv (.k (.a (.raw (.slice none 0 0))))⟩]
def r9 : List In := [⟨none, (some 33), .mv (.t 4)⟩,
  ⟨none, (some 34), .len (.t 33)⟩,
  ⟨none, (some 35), .mv (.k (.a (.int .i64 0)))⟩]
def r10 : List In := [⟨none, (some 36), .bin .lss (.t 35) (.t 34)⟩]
@[reducible] def c8 : IC := .cond (.t 36) .skip (.exit 0)
def r11 : List In := [⟨none, (some 37), .mv (.t 35)⟩,
  ⟨none, (some 38), .iaddr 1 (.t 33) (.t 35)⟩,
  ⟨none, (some 39), .load 1 false (.t 38)⟩,
  ⟨none, (some 6), .mv (.t 37)⟩,
  ⟨none, (some 7), .mv (.t 39)⟩]
def r12 : List In := [⟨none, (some 41), .mv (.t 7)⟩,
  ⟨none, (some 42), .call 21 [(.t 41)]⟩,
  ⟨none, (some 40), .mv (.t 42)⟩,
  ⟨none, (some 43), .ext 0 (.t 40)⟩,
  ⟨none, (some 44), .ext 1 (.t 40)⟩,
  ⟨none, (some 45), .ext 2 (.t 40)⟩,
  ⟨none, (some 8), .alloc 40 [.str [], .int .i64 0, .int .i64 0, .int .i64 0, .int .i64 0, .str []]⟩,
  ⟨none, none, .store 6 (.t 8) (.t 43)⟩,
  ⟨none, (some 9), .mv (.t 44)⟩,
  ⟨none, (some 10), .mv (.t 45)⟩]
def r13 : List In := [⟨none, (some 46), .mv (.t 10)⟩,
  ⟨none, (some 47), .bin .neq (.t 46) (.k (.a (.int .i64 0)))⟩]
def r14 : List In := [⟨none, (some 48), .mv (.t 10)⟩,
  ⟨none, (some 49), .mv (.t 6)⟩,
  ⟨none, (some 50), .build [.int .i64 0, .int .i64 0] [(0, 1, (.t 48)), (1, 1, (.t 49))]⟩,
  ⟨none, (some 2), .mv (.k (.a (.raw (.slice none 0 0))))⟩,
  ⟨none, none, .store 2 (.t 3) (.t 50)⟩]
@[reducible] def c9 : IC := .seq (.reg r14) .ret
@[reducible] def c10 : IC := .cond (.t 47) c9 .skip
@[reducible] def c11 : IC := .seq (.reg r13) c10
def r15 : List In := [⟨none, (some 51), .mv (.t 9)⟩]
def r16 : List In := [⟨none, (some 52), .mv (.t 5)⟩,
  ⟨none, (some 53), .load 6 true (.t 8)⟩,
  ⟨none, (some 54), .bsl 40 6 1 [.str [], .int .i64 0, .int .i64 0, .int .i64 0, .int .i64 0, .str []] [(0, 6, (.t 53))]⟩,
  ⟨none, (some 55), .app 30 40 6 64 (.t 52) (.t 54)⟩,
  ⟨none, (some 5), .mv (.t 55)⟩]
@[reducible] def c12 : IC := .cond (.t 51) (.reg r16) .skip
@[reducible] def c13 : IC := .seq (.reg r15) c12
@[reducible] def c14 : IC := .seq c11 c13
@[reducible] def c15 : IC := .seq (.reg r12) c14
@[reducible] def c16 : IC := .seq (.reg r11) c15
@[reducible] def c17 : IC := .block 1 c16
def r17 : List In := [⟨none, (some 56), .bin .add (.t 35) (.k (.a (.int .i64 1)))⟩,
  ⟨none, (some 35), .mv (.t 56)⟩]
@[reducible] def c18 : IC := .seq c17 (.reg r17)
@[reducible] def c19 : IC := .seq c8 c18
@[reducible] def c20 : IC := .seq (.reg r10) c19
@[reducible] def c21 : IC := .loop c20
@[reducible] def c22 : IC := .block 0 c21
@[reducible] def c23 : IC := .seq (.reg r9) c22
def r18 : List In := [⟨none, (some 57), .mv (.t 5)⟩,
  ⟨none, (some 58), .build [.int .i64 0, .int .i64 0] []⟩,
  ⟨none, (some 2), .mv (.t 57)⟩,
  ⟨none, none, .store 2 (.t 3) (.t 58)⟩]
@[reducible] def c24 : IC := .seq (.reg r18) .ret
@[reducible] def c25 : IC := .seq c23 c24
@[reducible] def c26 : IC := .seq (.reg r8) c25
@[reducible] def c27 : IC := .seq c7 c26
@[reducible] def c28 : IC := .seq c4 c27
@[reducible] def c29 : IC := .seq (.reg r3) c28
@[reducible] def c30 : IC := .seq c2 c29
@[reducible] def c31 : IC := .seq (.reg r0) c30
@[reducible] def code : IC := c31
def res : List RV := [.tmp 2, .cell 3 2 true]
theorem rs : type_of% (And.intro r0.eq_1 <| And.intro r1.eq_1 <| And.intro r2.eq_1 <| And.intro r3.eq_1 <| And.intro r4.eq_1 <| And.intro r5.eq_1 <| And.intro r6.eq_1 <| And.intro r7.eq_1 <| And.intro r8.eq_1 <| And.intro r9.eq_1 <| And.intro r10.eq_1 <| And.intro r11.eq_1 <| And.intro r12.eq_1 <| And.intro r13.eq_1 <| And.intro r14.eq_1 <| And.intro r15.eq_1 <| And.intro r16.eq_1 <| And.intro r17.eq_1 <| r18.eq_1) := And.intro r0.eq_1 <| And.intro r1.eq_1 <| And.intro r2.eq_1 <| And.intro r3.eq_1 <| And.intro r4.eq_1 <| And.intro r5.eq_1 <| And.intro r6.eq_1 <| And.intro r7.eq_1 <| And.intro r8.eq_1 <| And.intro r9.eq_1 <| And.intro r10.eq_1 <| And.intro r11.eq_1 <| And.intro r12.eq_1 <| And.intro r13.eq_1 <| And.intro r14.eq_1 <| And.intro r15.eq_1 <| And.intro r16.eq_1 <| And.intro r17.eq_1 <| r18.eq_1
theorem fn : Body Tryz.prog 11 59 code res := ⟨by decide, Tryz.f11, _, Tryz.func11, rfl, rfl, by kernel_rfl, by kernel_rfl⟩
theorem enters : Zu Tryz.prog 11 = true := by kernel_rfl
end Z5
namespace Zy
def r0 : List In := [⟨none, (some 4), .mv (.k (.a (.int .i64 0)))⟩]
def r1 : List In := [⟨none, (some 6), .mv (.t 0)⟩,
  ⟨none, (some 7), .len (.t 6)⟩,
  ⟨none, (some 8), .mv (.k (.a (.int .i64 0)))⟩]
def r2 : List In := [⟨none, (some 9), .bin .lss (.t 8) (.t 7)⟩]
@[reducible] def c0 : IC := .cond (.t 9) .skip (.exit 0)
def r3 : List In := [⟨none, (some 10), .mv (.t 8)⟩,
  ⟨none, (some 5), .mv (.t 10)⟩]
def r4 : List In := [⟨none, (some 11), .mv (.t 1)⟩,
  ⟨none, (some 12), .mv (.t 0)⟩,
  ⟨none, (some 13), .mv (.t 5)⟩,
  ⟨none, (some 14), .iaddr 1 (.t 12) (.t 13)⟩,
  ⟨none, (some 15), .load 1 false (.t 14)⟩,
  ⟨none, (some 16), .bin .eql (.t 11) (.t 15)⟩]
def r5 : List In := [⟨none, (some 17), .mv (.t 5)⟩,
  ⟨none, (some 4), .mv (.t 17)⟩]
@[reducible] def c1 : IC := .seq (.reg r5) .ret
@[reducible] def c2 : IC := .cond (.t 16) c1 .skip
@[reducible] def c3 : IC := .seq (.reg r4) c2
@[reducible] def c4 : IC := .seq (.reg r3) c3
@[reducible] def c5 : IC := .block 1 c4
def r6 : List In := [⟨none, (some 18), .bin .add (.t 8) (.k (.a (.int .i64 1)))⟩,
  ⟨none, (some 8), .mv (.t 18)⟩]
@[reducible] def c6 : IC := .seq c5 (.reg r6)
@[reducible] def c7 : IC := .seq c0 c6
@[reducible] def c8 : IC := .seq (.reg r2) c7
@[reducible] def c9 : IC := .loop c8
@[reducible] def c10 : IC := .block 0 c9
@[reducible] def c11 : IC := .seq (.reg r1) c10
def r7 : List In := [⟨none, (some 4), .mv (.k (.a (.int .i64 (-1))))⟩]
@[reducible] def c12 : IC := .seq (.reg r7) .ret
@[reducible] def c13 : IC := .seq c11 c12
@[reducible] def c14 : IC := .seq (.reg r0) c13
@[reducible] def code : IC := c14
def res : List RV := [.tmp 4]
theorem rs : type_of% (And.intro r0.eq_1 <| And.intro r1.eq_1 <| And.intro r2.eq_1 <| And.intro r3.eq_1 <| And.intro r4.eq_1 <| And.intro r5.eq_1 <| And.intro r6.eq_1 <| r7.eq_1) := And.intro r0.eq_1 <| And.intro r1.eq_1 <| And.intro r2.eq_1 <| And.intro r3.eq_1 <| And.intro r4.eq_1 <| And.intro r5.eq_1 <| And.intro r6.eq_1 <| r7.eq_1
theorem fn : Body Tryz.prog 59 19 code res := ⟨by decide, Tryz.f59, _, Tryz.func59, rfl, rfl, by kernel_rfl, by kernel_rfl⟩
theorem enters : Zu Tryz.prog 59 = true := by kernel_rfl
end Zy
end Go.Proofs.YtjochhncheheaaaGreatDoor
