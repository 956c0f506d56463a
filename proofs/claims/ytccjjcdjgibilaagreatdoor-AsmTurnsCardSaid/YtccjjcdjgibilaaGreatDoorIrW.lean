/- The small code of functions, and that it is theirs: printed by a program over the seat's translation. -/
import Derived.Test.YtccjjcdjgibilaaGreatDoorVcGf
import Derived.Test.YtccjjcdjgibilaaGreatDoorChecked
import Derived.KernelRfl
namespace Go.Proofs.YtccjjcdjgibilaaGreatDoor
open Vc
namespace W1
def r0 : List In := [⟨none, (some 0), .mv (.k (.a (.bool false)))⟩]
def r1 : List In := [⟨none, (some 6), .call 6 [(.k (.a (.str [97, 58, 10, 9, 108, 100, 105, 32, 114, 49, 44, 32, 53, 32, 59, 32, 102, 105, 118, 101, 10, 9, 106, 109, 112, 32, 97, 10])))]⟩,
  ⟨none, (some 5), .mv (.t 6)⟩,
  ⟨none, (some 7), .ext 0 (.t 5)⟩,
  ⟨none, (some 8), .ext 1 (.t 5)⟩,
  ⟨none, (some 2), .alloc 26 [.int .i64 0, .int .i64 0]⟩,
  ⟨none, (some 1), .mv (.t 7)⟩,
  ⟨none, none, .store 2 (.t 2) (.t 8)⟩]
def r2 : List In := [⟨none, (some 10), .mv (.t 1)⟩,
  ⟨none, (some 11), .call 9 [(.t 10)]⟩,
  ⟨none, (some 9), .mv (.t 11)⟩,
  ⟨none, (some 12), .ext 0 (.t 9)⟩,
  ⟨none, (some 13), .ext 1 (.t 9)⟩,
  ⟨none, (some 4), .alloc 26 [.int .i64 0, .int .i64 0]⟩,
  ⟨none, (some 3), .mv (.t 12)⟩,
  ⟨none, none, .store 2 (.t 4) (.t 13)⟩]
def r3 : List In := [⟨none, (some 14), .faddr 0 (.t 2)⟩,
  ⟨none, (some 15), .load 1 false (.t 14)⟩,
  ⟨none, (some 16), .bin .eql (.t 15) (.k (.a (.int .i64 0)))⟩,
  ⟨none, (some 17), .mv (.t 16)⟩,
  ⟨(some (17, true)), (some 18), .faddr 0 (.t 4)⟩,
  ⟨(some (17, true)), (some 19), .load 1 false (.t 18)⟩,
  ⟨(some (17, true)), (some 20), .bin .eql (.t 19) (.k (.a (.int .i64 0)))⟩,
  ⟨none, (some 21), .pick (.t 17) (.t 20) (.k (.a (.bool false)))⟩,
  ⟨none, (some 22), .mv (.t 21)⟩,
  ⟨(some (22, true)), (some 23), .mv (.t 1)⟩,
  ⟨(some (22, true)), (some 24), .len (.t 23)⟩,
  ⟨(some (22, true)), (some 25), .bin .eql (.t 24) (.k (.a (.int .i64 3)))⟩,
  ⟨none, (some 26), .pick (.t 22) (.t 25) (.k (.a (.bool false)))⟩,
  ⟨none, (some 27), .mv (.t 26)⟩,
  ⟨(some (27, true)), (some 28), .mv (.t 3)⟩,
  ⟨(some (27, true)), (some 29), .len (.t 28)⟩,
  ⟨(some (27, true)), (some 30), .bin .eql (.t 29) (.k (.a (.int .i64 4)))⟩,
  ⟨none, (some 31), .pick (.t 27) (.t 30) (.k (.a (.bool false)))⟩,
  ⟨none, (some 32), .mv (.t 31)⟩,
  ⟨(some (32, true)), (some 33), .mv (.t 3)⟩,
  ⟨(some (32, true)), (some 34), .iaddr 1 (.t 33) (.k (.a (.int .i64 3)))⟩,
  ⟨(some (32, true)), (some 35), .load 1 false (.t 34)⟩,
  ⟨(some (32, true)), (some 36), .bin .eql (.t 35) (.k (.a (.int .i64 0)))⟩,
  ⟨none, (some 37), .pick (.t 32) (.t 36) (.k (.a (.bool false)))⟩,
  ⟨none, (some 0), .mv (.t 37)⟩]
@[reducible] def c0 : IC := .seq (.reg r3) .ret
@[reducible] def c1 : IC := .seq (.reg r2) c0
@[reducible] def c2 : IC := .seq (.reg r1) c1
@[reducible] def c3 : IC := .seq (.reg r0) c2
@[reducible] def code : IC := c3
def res : List RV := [.tmp 0]
theorem rs : type_of% (And.intro r0.eq_1 <| And.intro r1.eq_1 <| And.intro r2.eq_1 <| r3.eq_1) := And.intro r0.eq_1 <| And.intro r1.eq_1 <| And.intro r2.eq_1 <| r3.eq_1
theorem fn : Body Tryz.prog 4 38 code res := ⟨by decide, Tryz.f4, _, Tryz.func4, rfl, rfl, by kernel_rfl, by kernel_rfl⟩
theorem enters : X9 Tryz.prog 4 = true := by kernel_rfl
end W1
namespace Yh
def r0 : List In := [⟨none, (some 4), .mv (.k (.a (.bool false)))⟩]
def r1 : List In := [⟨none, (some 14), .call 4 []⟩,
  ⟨none, (some 15), .un .not (.t 14)⟩]
def r2 : List In := [⟨none, (some 4), .mv (.k (.a (.bool false)))⟩]
@[reducible] def c0 : IC := .seq (.reg r2) .ret
@[reducible] def c1 : IC := .cond (.t 15) c0 .skip
@[reducible] def c2 : IC := .seq (.reg r1) c1
def r3 : List In := [⟨none, (some 17), .mv (.t 0)⟩,
  ⟨none, (some 18), .call 5 [(.t 17)]⟩,
  ⟨none, (some 16), .mv (.t 18)⟩,
  ⟨none, (some 19), .ext 0 (.t 16)⟩,
  ⟨none, (some 20), .ext 1 (.t 16)⟩,
  ⟨none, (some 6), .alloc 26 [.int .i64 0, .int .i64 0]⟩,
  ⟨none, (some 5), .mv (.t 19)⟩,
  ⟨none, none, .store 2 (.t 6) (.t 20)⟩]
def r4 : List In := [⟨none, (some 21), .faddr 0 (.t 6)⟩,
  ⟨none, (some 22), .load 1 false (.t 21)⟩,
  ⟨none, (some 23), .bin .eql (.t 22) (.k (.a (.int .i64 0)))⟩,
  ⟨none, (some 24), .mv (.t 23)⟩,
  ⟨(some (24, true)), (some 25), .mv (.t 5)⟩,
  ⟨(some (24, true)), (some 26), .slen (.t 25)⟩,
  ⟨(some (24, true)), (some 27), .bin .leq (.t 26) (.k (.a (.int .i64 1048576)))⟩,
  ⟨none, (some 28), .pick (.t 24) (.t 27) (.k (.a (.bool false)))⟩]
def r5 : List In := [⟨none, (some 30), .mv (.t 5)⟩,
  ⟨none, (some 31), .call 6 [(.t 30)]⟩,
  ⟨none, (some 29), .mv (.t 31)⟩,
  ⟨none, (some 32), .ext 0 (.t 29)⟩,
  ⟨none, (some 33), .ext 1 (.t 29)⟩,
  ⟨none, (some 8), .alloc 26 [.int .i64 0, .int .i64 0]⟩,
  ⟨none, (some 7), .mv (.t 32)⟩,
  ⟨none, none, .store 2 (.t 8) (.t 33)⟩]
def r6 : List In := [⟨none, (some 34), .faddr 0 (.t 8)⟩,
  ⟨none, (some 35), .load 1 false (.t 34)⟩,
  ⟨none, (some 36), .bin .neq (.t 35) (.k (.a (.int .i64 0)))⟩,
  ⟨none, (some 37), .mv (.t 36)⟩,
  ⟨(some (37, false)), (some 38), .mv (.t 7)⟩,
  ⟨(some (37, false)), (some 39), .len (.t 38)⟩,
  ⟨(some (37, false)), (some 40), .mv (.t 0)⟩,
  ⟨(some (37, false)), (some 41), .len (.t 40)⟩,
  ⟨(some (37, false)), (some 42), .bin .neq (.t 39) (.t 41)⟩,
  ⟨none, (some 43), .pick (.t 37) (.k (.a (.bool true))) (.t 42)⟩]
def r7 : List In := [⟨none, (some 4), .mv (.k (.a (.bool false)))⟩]
@[reducible] def c3 : IC := .seq (.reg r7) .ret
@[reducible] def c4 : IC := .cond (.t 43) c3 .skip
@[reducible] def c5 : IC := .seq (.reg r6) c4
def r8 : List In := [⟨none, (some 44), .mv (.t 0)⟩,
  ⟨none, (some 45), .len (.t 44)⟩,
  ⟨none, (some 46), .mv (.k (.a (.int .i64 0)))⟩]
def r9 : List In := [⟨none, (some 47), .bin .lss (.t 46) (.t 45)⟩]
@[reducible] def c6 : IC := .cond (.t 47) .skip (.exit 0)
def r10 : List In := [⟨none, (some 48), .mv (.t 46)⟩,
  ⟨none, (some 9), .mv (.t 48)⟩]
def r11 : List In := [⟨none, (some 49), .mv (.t 7)⟩,
  ⟨none, (some 50), .mv (.t 9)⟩,
  ⟨none, (some 51), .iaddr 6 (.t 49) (.t 50)⟩,
  ⟨none, (some 52), .load 6 true (.t 51)⟩,
  ⟨none, (some 53), .mv (.t 0)⟩,
  ⟨none, (some 54), .mv (.t 9)⟩,
  ⟨none, (some 55), .iaddr 6 (.t 53) (.t 54)⟩,
  ⟨none, (some 56), .load 6 true (.t 55)⟩,
  ⟨none, (some 57), .call 7 [(.t 56)]⟩,
  ⟨none, (some 58), .aeq true [.str, .int, .int, .int, .int, .str] (.t 52) (.t 57)⟩]
def r12 : List In := [⟨none, (some 4), .mv (.k (.a (.bool false)))⟩]
@[reducible] def c7 : IC := .seq (.reg r12) .ret
@[reducible] def c8 : IC := .cond (.t 58) c7 .skip
@[reducible] def c9 : IC := .seq (.dreg r11) c8
@[reducible] def c10 : IC := .seq (.reg r10) c9
@[reducible] def c11 : IC := .block 1 c10
def r13 : List In := [⟨none, (some 59), .bin .add (.t 46) (.k (.a (.int .i64 1)))⟩,
  ⟨none, (some 46), .mv (.t 59)⟩]
@[reducible] def c12 : IC := .seq c11 (.reg r13)
@[reducible] def c13 : IC := .seq c6 c12
@[reducible] def c14 : IC := .seq (.reg r9) c13
@[reducible] def c15 : IC := .loop c14
@[reducible] def c16 : IC := .block 0 c15
@[reducible] def c17 : IC := .seq (.reg r8) c16
@[reducible] def c18 : IC := .seq c5 c17
@[reducible] def c19 : IC := .seq (.reg r5) c18
@[reducible] def c20 : IC := .cond (.t 28) c19 .skip
@[reducible] def c21 : IC := .seq (.reg r4) c20
@[reducible] def c22 : IC := .seq (.reg r3) c21
def r14 : List In := [⟨none, (some 61), .mv (.t 1)⟩,
  ⟨none, (some 62), .call 6 [(.t 61)]⟩,
  ⟨none, (some 60), .mv (.t 62)⟩,
  ⟨none, (some 63), .ext 0 (.t 60)⟩,
  ⟨none, (some 64), .ext 1 (.t 60)⟩,
  ⟨none, (some 11), .alloc 26 [.int .i64 0, .int .i64 0]⟩,
  ⟨none, (some 10), .mv (.t 63)⟩,
  ⟨none, none, .store 2 (.t 11) (.t 64)⟩]
def r15 : List In := [⟨none, (some 65), .faddr 0 (.t 11)⟩,
  ⟨none, (some 66), .load 1 false (.t 65)⟩,
  ⟨none, (some 67), .bin .neq (.t 66) (.k (.a (.int .i64 0)))⟩]
def r16 : List In := [⟨none, (some 4), .mv (.k (.a (.bool true)))⟩]
@[reducible] def c23 : IC := .seq (.reg r16) .ret
@[reducible] def c24 : IC := .cond (.t 67) c23 .skip
@[reducible] def c25 : IC := .seq (.reg r15) c24
def r17 : List In := [⟨none, (some 69), .mv (.t 10)⟩,
  ⟨none, (some 70), .call 5 [(.t 69)]⟩,
  ⟨none, (some 68), .mv (.t 70)⟩,
  ⟨none, (some 71), .ext 0 (.t 68)⟩,
  ⟨none, (some 72), .ext 1 (.t 68)⟩,
  ⟨none, (some 12), .mv (.t 71)⟩,
  ⟨none, none, .store 2 (.t 11) (.t 72)⟩]
def r18 : List In := [⟨none, (some 73), .faddr 0 (.t 11)⟩,
  ⟨none, (some 74), .load 1 false (.t 73)⟩,
  ⟨none, (some 75), .bin .neq (.t 74) (.k (.a (.int .i64 0)))⟩,
  ⟨none, (some 76), .mv (.t 75)⟩,
  ⟨(some (76, false)), (some 77), .mv (.t 12)⟩,
  ⟨(some (76, false)), (some 78), .slen (.t 77)⟩,
  ⟨(some (76, false)), (some 79), .bin .gtr (.t 78) (.k (.a (.int .i64 1048576)))⟩,
  ⟨none, (some 80), .pick (.t 76) (.k (.a (.bool true))) (.t 79)⟩]
def r19 : List In := [⟨none, (some 81), .faddr 0 (.t 11)⟩,
  ⟨none, (some 82), .load 1 false (.t 81)⟩,
  ⟨none, (some 83), .bin .eql (.t 82) (.k (.a (.int .i64 0)))⟩,
  ⟨none, (some 4), .mv (.t 83)⟩]
@[reducible] def c26 : IC := .seq (.reg r19) .ret
@[reducible] def c27 : IC := .cond (.t 80) c26 .skip
@[reducible] def c28 : IC := .seq (.reg r18) c27
def r20 : List In := [⟨none, (some 85), .mv (.t 12)⟩,
  ⟨none, (some 86), .call 6 [(.t 85)]⟩,
  ⟨none, (some 84), .mv (.t 86)⟩,
  ⟨none, (some 87), .ext 0 (.t 84)⟩,
  ⟨none, (some 88), .ext 1 (.t 84)⟩,
  ⟨none, (some 13), .mv (.t 87)⟩,
  ⟨none, none, .store 2 (.t 11) (.t 88)⟩]
def r21 : List In := [⟨none, (some 89), .faddr 0 (.t 11)⟩,
  ⟨none, (some 90), .load 1 false (.t 89)⟩,
  ⟨none, (some 91), .bin .eql (.t 90) (.k (.a (.int .i64 0)))⟩,
  ⟨none, (some 92), .mv (.t 91)⟩,
  ⟨(some (92, true)), (some 93), .mv (.t 10)⟩,
  ⟨(some (92, true)), (some 94), .mv (.t 13)⟩,
  ⟨(some (92, true)), (some 95), .call 8 [(.t 93), (.t 94)]⟩,
  ⟨none, (some 96), .pick (.t 92) (.t 95) (.k (.a (.bool false)))⟩,
  ⟨none, (some 4), .mv (.t 96)⟩]
@[reducible] def c29 : IC := .seq (.reg r21) .ret
@[reducible] def c30 : IC := .seq (.reg r20) c29
@[reducible] def c31 : IC := .seq c28 c30
@[reducible] def c32 : IC := .seq (.reg r17) c31
@[reducible] def c33 : IC := .seq c25 c32
def c34 : IC := .seq (.reg r14) c33
@[reducible] def c35 : IC := .seq c22 c34
@[reducible] def c36 : IC := .seq c2 c35
@[reducible] def c37 : IC := .seq (.reg r0) c36
@[reducible] def code : IC := c37
def res : List RV := [.tmp 4]
theorem rs : type_of% (And.intro r0.eq_1 <| And.intro r1.eq_1 <| And.intro r2.eq_1 <| And.intro r3.eq_1 <| And.intro r4.eq_1 <| And.intro r5.eq_1 <| And.intro r6.eq_1 <| And.intro r7.eq_1 <| And.intro r8.eq_1 <| And.intro r9.eq_1 <| And.intro r10.eq_1 <| And.intro r11.eq_1 <| And.intro r12.eq_1 <| And.intro r13.eq_1 <| And.intro r14.eq_1 <| And.intro r15.eq_1 <| And.intro r16.eq_1 <| And.intro r17.eq_1 <| And.intro r18.eq_1 <| And.intro r19.eq_1 <| And.intro r20.eq_1 <| r21.eq_1) := And.intro r0.eq_1 <| And.intro r1.eq_1 <| And.intro r2.eq_1 <| And.intro r3.eq_1 <| And.intro r4.eq_1 <| And.intro r5.eq_1 <| And.intro r6.eq_1 <| And.intro r7.eq_1 <| And.intro r8.eq_1 <| And.intro r9.eq_1 <| And.intro r10.eq_1 <| And.intro r11.eq_1 <| And.intro r12.eq_1 <| And.intro r13.eq_1 <| And.intro r14.eq_1 <| And.intro r15.eq_1 <| And.intro r16.eq_1 <| And.intro r17.eq_1 <| And.intro r18.eq_1 <| And.intro r19.eq_1 <| And.intro r20.eq_1 <| r21.eq_1
theorem fn : Body Tryz.prog 3 97 code res := ⟨by decide, Tryz.f3, _, Tryz.func3, rfl, rfl, by kernel_rfl, by kernel_rfl⟩
theorem enters : X9 Tryz.prog 3 = true := by kernel_rfl
end Yh
namespace Wu
def r0 : List In := [⟨none, (some 1), .box 34 (.t 0)⟩,
  ⟨none, (some 2), .alloc 34 [.str [], .int .i64 0, .int .i64 0, .int .i64 0, .int .i64 0, .str []]⟩]
def r1 : List In := [⟨none, (some 3), .faddr 0 (.t 1)⟩,
  ⟨none, (some 4), .load 1 false (.t 3)⟩,
  ⟨none, (some 5), .bin .neq (.t 4) (.k (.a (.str [])))⟩]
def r2 : List In := [⟨none, (some 6), .faddr 0 (.t 1)⟩,
  ⟨none, (some 7), .load 1 false (.t 6)⟩,
  ⟨none, (some 8), .build [.str [], .int .i64 0, .int .i64 0, .int .i64 0, .int .i64 0, .str []] [(0, 1, (.t 7))]⟩,
  ⟨none, none, .store 6 (.t 2) (.t 8)⟩]
@[reducible] def c0 : IC := .seq (.reg r2) .ret
@[reducible] def c1 : IC := .cond (.t 5) c0 .skip
@[reducible] def c2 : IC := .seq (.reg r1) c1
def r3 : DT := (.alt ⟨none, (some 9), .faddr 1 (.t 1)⟩ false
  (.alt ⟨none, (some 10), .load 4 true (.t 9)⟩ false
  (.alt ⟨none, (some 11), .call 21 [(.t 10)]⟩ false
  (.alt ⟨none, (some 12), .faddr 5 (.t 1)⟩ false
  (.alt ⟨none, (some 13), .load 1 false (.t 12)⟩ false
  (.take ⟨none, (some 14), .build [.str [], .int .i64 0, .int .i64 0, .int .i64 0, .int .i64 0, .str []] [(1, 4, (.t 11)), (5, 1, (.t 13))]⟩ false
  (.alt ⟨none, none, .store 6 (.t 2) (.t 14)⟩ false
  .done
  .stop))
  .stop)
  .stop)
  (.alt ⟨none, (some 12), .faddr 5 (.t 1)⟩ false
  (.alt ⟨none, (some 11), .call 21 [(.t 10)]⟩ false
  (.alt ⟨none, (some 13), .load 1 false (.t 12)⟩ false
  (.take ⟨none, (some 14), .build [.str [], .int .i64 0, .int .i64 0, .int .i64 0, .int .i64 0, .str []] [(1, 4, (.t 11)), (5, 1, (.t 13))]⟩ false
  (.alt ⟨none, none, .store 6 (.t 2) (.t 14)⟩ false
  .done
  .stop))
  .stop)
  (.alt ⟨none, (some 13), .load 1 false (.t 12)⟩ false
  (.alt ⟨none, (some 11), .call 21 [(.t 10)]⟩ false
  (.take ⟨none, (some 14), .build [.str [], .int .i64 0, .int .i64 0, .int .i64 0, .int .i64 0, .str []] [(1, 4, (.t 11)), (5, 1, (.t 13))]⟩ false
  (.alt ⟨none, none, .store 6 (.t 2) (.t 14)⟩ false
  .done
  .stop))
  .stop)
  .stop))
  .stop))
  (.alt ⟨none, (some 12), .faddr 5 (.t 1)⟩ false
  (.alt ⟨none, (some 10), .load 4 true (.t 9)⟩ false
  (.alt ⟨none, (some 11), .call 21 [(.t 10)]⟩ false
  (.alt ⟨none, (some 13), .load 1 false (.t 12)⟩ false
  (.take ⟨none, (some 14), .build [.str [], .int .i64 0, .int .i64 0, .int .i64 0, .int .i64 0, .str []] [(1, 4, (.t 11)), (5, 1, (.t 13))]⟩ false
  (.alt ⟨none, none, .store 6 (.t 2) (.t 14)⟩ false
  .done
  .stop))
  .stop)
  (.alt ⟨none, (some 13), .load 1 false (.t 12)⟩ false
  (.alt ⟨none, (some 11), .call 21 [(.t 10)]⟩ false
  (.take ⟨none, (some 14), .build [.str [], .int .i64 0, .int .i64 0, .int .i64 0, .int .i64 0, .str []] [(1, 4, (.t 11)), (5, 1, (.t 13))]⟩ false
  (.alt ⟨none, none, .store 6 (.t 2) (.t 14)⟩ false
  .done
  .stop))
  .stop)
  .stop))
  (.alt ⟨none, (some 13), .load 1 false (.t 12)⟩ false
  (.alt ⟨none, (some 10), .load 4 true (.t 9)⟩ false
  (.alt ⟨none, (some 11), .call 21 [(.t 10)]⟩ false
  (.take ⟨none, (some 14), .build [.str [], .int .i64 0, .int .i64 0, .int .i64 0, .int .i64 0, .str []] [(1, 4, (.t 11)), (5, 1, (.t 13))]⟩ false
  (.alt ⟨none, none, .store 6 (.t 2) (.t 14)⟩ false
  .done
  .stop))
  .stop)
  .stop)
  .stop))
  .stop))
  (.alt ⟨none, (some 12), .faddr 5 (.t 1)⟩ false
  (.alt ⟨none, (some 9), .faddr 1 (.t 1)⟩ false
  (.alt ⟨none, (some 10), .load 4 true (.t 9)⟩ false
  (.alt ⟨none, (some 11), .call 21 [(.t 10)]⟩ false
  (.alt ⟨none, (some 13), .load 1 false (.t 12)⟩ false
  (.take ⟨none, (some 14), .build [.str [], .int .i64 0, .int .i64 0, .int .i64 0, .int .i64 0, .str []] [(1, 4, (.t 11)), (5, 1, (.t 13))]⟩ false
  (.alt ⟨none, none, .store 6 (.t 2) (.t 14)⟩ false
  .done
  .stop))
  .stop)
  (.alt ⟨none, (some 13), .load 1 false (.t 12)⟩ false
  (.alt ⟨none, (some 11), .call 21 [(.t 10)]⟩ false
  (.take ⟨none, (some 14), .build [.str [], .int .i64 0, .int .i64 0, .int .i64 0, .int .i64 0, .str []] [(1, 4, (.t 11)), (5, 1, (.t 13))]⟩ false
  (.alt ⟨none, none, .store 6 (.t 2) (.t 14)⟩ false
  .done
  .stop))
  .stop)
  .stop))
  (.alt ⟨none, (some 13), .load 1 false (.t 12)⟩ false
  (.alt ⟨none, (some 10), .load 4 true (.t 9)⟩ false
  (.alt ⟨none, (some 11), .call 21 [(.t 10)]⟩ false
  (.take ⟨none, (some 14), .build [.str [], .int .i64 0, .int .i64 0, .int .i64 0, .int .i64 0, .str []] [(1, 4, (.t 11)), (5, 1, (.t 13))]⟩ false
  (.alt ⟨none, none, .store 6 (.t 2) (.t 14)⟩ false
  .done
  .stop))
  .stop)
  .stop)
  .stop))
  (.alt ⟨none, (some 13), .load 1 false (.t 12)⟩ false
  (.alt ⟨none, (some 9), .faddr 1 (.t 1)⟩ false
  (.alt ⟨none, (some 10), .load 4 true (.t 9)⟩ false
  (.alt ⟨none, (some 11), .call 21 [(.t 10)]⟩ false
  (.take ⟨none, (some 14), .build [.str [], .int .i64 0, .int .i64 0, .int .i64 0, .int .i64 0, .str []] [(1, 4, (.t 11)), (5, 1, (.t 13))]⟩ false
  (.alt ⟨none, none, .store 6 (.t 2) (.t 14)⟩ false
  .done
  .stop))
  .stop)
  .stop)
  .stop)
  .stop))
  .stop))
@[reducible] def c3 : IC := .seq (.dany r3) .ret
@[reducible] def c4 : IC := .seq c2 c3
@[reducible] def c5 : IC := .seq (.reg r0) c4
@[reducible] def code : IC := c5
def res : List RV := [.cell 2 6 true]
theorem rs : type_of% (And.intro r0.eq_1 <| And.intro r1.eq_1 <| And.intro r2.eq_1 <| r3.eq_1) := And.intro r0.eq_1 <| And.intro r1.eq_1 <| And.intro r2.eq_1 <| r3.eq_1
theorem fn : Body Tryz.prog 7 15 code res := ⟨by decide, Tryz.f7, _, Tryz.func7, rfl, rfl, by kernel_rfl, by kernel_rfl⟩
theorem enters : X9 Tryz.prog 7 = true := by kernel_rfl
end Wu
end Go.Proofs.YtccjjcdjgibilaaGreatDoor
