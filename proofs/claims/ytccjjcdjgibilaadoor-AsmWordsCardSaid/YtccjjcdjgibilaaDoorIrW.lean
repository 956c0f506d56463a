/- The small code of functions, and that it is theirs: printed by a program over the seat's translation. -/
import Derived.Test.YtccjjcdjgibilaaDoorVcGf
import Derived.Test.YtccjjcdjgibilaaDoorChecked
import Derived.KernelRfl
namespace Go.Proofs.YtccjjcdjgibilaaDoor
open Vc
namespace Vl
def r0 : List In := [⟨none, (some 0), .mv (.k (.a (.bool false)))⟩]
def r1 : List In := [⟨none, (some 6), .call 16 [(.k (.a (.str [97, 58, 10, 9, 108, 100, 105, 32, 114, 49, 44, 32, 53, 32, 59, 32, 102, 105, 118, 101, 10, 9, 106, 109, 112, 32, 97, 10])))]⟩,
  ⟨none, (some 5), .mv (.t 6)⟩,
  ⟨none, (some 7), .ext 0 (.t 5)⟩,
  ⟨none, (some 8), .ext 1 (.t 5)⟩,
  ⟨none, (some 2), .alloc 31 [.int .i64 0, .int .i64 0]⟩,
  ⟨none, (some 1), .mv (.t 7)⟩,
  ⟨none, none, .store 2 (.t 2) (.t 8)⟩]
def r2 : List In := [⟨none, (some 10), .mv (.t 1)⟩,
  ⟨none, (some 11), .call 13 [(.t 10)]⟩,
  ⟨none, (some 9), .mv (.t 11)⟩,
  ⟨none, (some 12), .ext 0 (.t 9)⟩,
  ⟨none, (some 13), .ext 1 (.t 9)⟩,
  ⟨none, (some 4), .alloc 31 [.int .i64 0, .int .i64 0]⟩,
  ⟨none, (some 3), .mv (.t 12)⟩,
  ⟨none, none, .store 2 (.t 4) (.t 13)⟩]
def r3 : List In := [⟨none, (some 14), .faddr 0 (.t 2)⟩,
  ⟨none, (some 15), .load 1 false (.t 14)⟩,
  ⟨none, (some 16), .bin .eql (.t 15) (.k (.a (.int .i64 0)))⟩,
  ⟨none, (some 17), .mv (.t 16)⟩,
  ⟨(some (17, true)), (some 18), .faddr 0 (.t 4)⟩,
  ⟨(some (17, true)), (some 19), .load 1 false (.t 18)⟩,
  ⟨(some (17, true)), (some 20), .bin .eql (.t 19) (.k (.a (.int .i64 0)))⟩,
  ⟨none, (some 21), .pick (.t 17) (.t 20) (.k (.a (.bool false)))⟩,
  ⟨none, (some 22), .mv (.t 21)⟩,
  ⟨(some (22, true)), (some 23), .mv (.t 1)⟩,
  ⟨(some (22, true)), (some 24), .len (.t 23)⟩,
  ⟨(some (22, true)), (some 25), .bin .eql (.t 24) (.k (.a (.int .i64 3)))⟩,
  ⟨none, (some 26), .pick (.t 22) (.t 25) (.k (.a (.bool false)))⟩,
  ⟨none, (some 27), .mv (.t 26)⟩,
  ⟨(some (27, true)), (some 28), .mv (.t 3)⟩,
  ⟨(some (27, true)), (some 29), .len (.t 28)⟩,
  ⟨(some (27, true)), (some 30), .bin .eql (.t 29) (.k (.a (.int .i64 4)))⟩,
  ⟨none, (some 31), .pick (.t 27) (.t 30) (.k (.a (.bool false)))⟩,
  ⟨none, (some 32), .mv (.t 31)⟩,
  ⟨(some (32, true)), (some 33), .mv (.t 3)⟩,
  ⟨(some (32, true)), (some 34), .iaddr 1 (.t 33) (.k (.a (.int .i64 3)))⟩,
  ⟨(some (32, true)), (some 35), .load 1 false (.t 34)⟩,
  ⟨(some (32, true)), (some 36), .bin .eql (.t 35) (.k (.a (.int .i64 0)))⟩,
  ⟨none, (some 37), .pick (.t 32) (.t 36) (.k (.a (.bool false)))⟩,
  ⟨none, (some 0), .mv (.t 37)⟩]
@[reducible] def c0 : IC := .seq (.reg r3) .ret
@[reducible] def c1 : IC := .seq (.reg r2) c0
@[reducible] def c2 : IC := .seq (.reg r1) c1
@[reducible] def c3 : IC := .seq (.reg r0) c2
@[reducible] def code : IC := c3
def res : List RV := [.tmp 0]
theorem rs : type_of% (And.intro r0.eq_1 <| And.intro r1.eq_1 <| And.intro r2.eq_1 <| r3.eq_1) := And.intro r0.eq_1 <| And.intro r1.eq_1 <| And.intro r2.eq_1 <| r3.eq_1
theorem fn : Body Tryd.prog 19 38 code res := ⟨by decide, Tryd.f19, _, Tryd.func19, rfl, rfl, by kernel_rfl, by kernel_rfl⟩
theorem enters : X0 Tryd.prog 19 = true := by kernel_rfl
end Vl
namespace Xs
def r0 : List In := [⟨none, (some 4), .mv (.k (.a (.bool false)))⟩]
def r1 : List In := [⟨none, (some 11), .call 19 []⟩,
  ⟨none, (some 12), .un .not (.t 11)⟩]
def r2 : List In := [⟨none, (some 4), .mv (.k (.a (.bool false)))⟩]
@[reducible] def c0 : IC := .seq (.reg r2) .ret
@[reducible] def c1 : IC := .cond (.t 12) c0 .skip
@[reducible] def c2 : IC := .seq (.reg r1) c1
def r3 : List In := [⟨none, (some 14), .mv (.t 0)⟩,
  ⟨none, (some 15), .call 16 [(.t 14)]⟩,
  ⟨none, (some 13), .mv (.t 15)⟩,
  ⟨none, (some 16), .ext 0 (.t 13)⟩,
  ⟨none, (some 17), .ext 1 (.t 13)⟩,
  ⟨none, (some 6), .alloc 31 [.int .i64 0, .int .i64 0]⟩,
  ⟨none, (some 5), .mv (.t 16)⟩,
  ⟨none, none, .store 2 (.t 6) (.t 17)⟩]
def r4 : List In := [⟨none, (some 18), .faddr 0 (.t 6)⟩,
  ⟨none, (some 19), .load 1 false (.t 18)⟩,
  ⟨none, (some 20), .bin .neq (.t 19) (.k (.a (.int .i64 0)))⟩,
  ⟨none, (some 21), .mv (.t 20)⟩,
  ⟨(some (21, false)), (some 22), .mv (.t 1)⟩,
  ⟨(some (21, false)), (some 23), .slen (.t 22)⟩,
  ⟨(some (21, false)), (some 24), .bin .gtr (.t 23) (.k (.a (.int .i64 1000)))⟩,
  ⟨none, (some 25), .pick (.t 21) (.k (.a (.bool true))) (.t 24)⟩]
def r5 : List In := [⟨none, (some 4), .mv (.k (.a (.bool true)))⟩]
@[reducible] def c3 : IC := .seq (.reg r5) .ret
@[reducible] def c4 : IC := .cond (.t 25) c3 .skip
@[reducible] def c5 : IC := .seq (.reg r4) c4
def r6 : List In := [⟨none, (some 7), .mv (.k (.a (.raw (.slice none 0 0))))⟩]
def r7 : List In := [⟨none, (some 26), .mv (.t 1)⟩,
  ⟨none, (some 27), .s2b (.t 26)⟩,
  ⟨none, (some 28), .len (.t 27)⟩,
  ⟨none, (some 29), .mv (.k (.a (.int .i64 0)))⟩]
def r8 : List In := [⟨none, (some 30), .bin .lss (.t 29) (.t 28)⟩]
@[reducible] def c6 : IC := .cond (.t 30) .skip (.exit 0)
def r9 : List In := [⟨none, (some 31), .iaddr 1 (.t 27) (.t 29)⟩,
  ⟨none, (some 32), .load 1 false (.t 31)⟩,
  ⟨none, (some 9), .mv (.t 32)⟩]
def r10 : List In := [⟨none, (some 33), .mv (.t 9)⟩,
  ⟨none, (some 34), .bin .neq (.t 33) (.k (.a (.int .u8 10)))⟩]
def r11 : List In := [⟨none, (some 35), .mv (.t 7)⟩,
  ⟨none, (some 36), .mv (.t 9)⟩,
  ⟨none, (some 37), .bsl 5 1 1 [.int .u8 0] [(0, 1, (.t 36))]⟩,
  ⟨none, (some 38), .app 43 5 1 1 (.t 35) (.t 37)⟩,
  ⟨none, (some 7), .mv (.t 38)⟩]
@[reducible] def c7 : IC := .cond (.t 34) (.reg r11) .skip
@[reducible] def c8 : IC := .seq (.reg r10) c7
@[reducible] def c9 : IC := .seq (.reg r9) c8
@[reducible] def c10 : IC := .block 1 c9
def r12 : List In := [⟨none, (some 39), .bin .add (.t 29) (.k (.a (.int .i64 1)))⟩,
  ⟨none, (some 29), .mv (.t 39)⟩]
@[reducible] def c11 : IC := .seq c10 (.reg r12)
@[reducible] def c12 : IC := .seq c6 c11
@[reducible] def c13 : IC := .seq (.reg r8) c12
@[reducible] def c14 : IC := .loop c13
@[reducible] def c15 : IC := .block 0 c14
@[reducible] def c16 : IC := .seq (.reg r7) c15
def r13 : List In := [⟨none, (some 41), .mv (.t 7)⟩,
  ⟨none, (some 42), .b2s (.t 41)⟩,
  ⟨none, (some 43), .bin .add (.k (.a (.str [32, 32, 59]))) (.t 42)⟩,
  ⟨none, (some 44), .bin .add (.t 43) (.k (.a (.str [10])))⟩,
  ⟨none, (some 45), .mv (.t 0)⟩,
  ⟨none, (some 46), .bin .add (.t 44) (.t 45)⟩,
  ⟨none, (some 47), .call 16 [(.t 46)]⟩,
  ⟨none, (some 40), .mv (.t 47)⟩,
  ⟨none, (some 48), .ext 0 (.t 40)⟩,
  ⟨none, (some 49), .ext 1 (.t 40)⟩,
  ⟨none, (some 10), .mv (.t 48)⟩,
  ⟨none, none, .store 2 (.t 6) (.t 49)⟩]
def r14 : List In := [⟨none, (some 50), .faddr 0 (.t 6)⟩,
  ⟨none, (some 51), .load 1 false (.t 50)⟩,
  ⟨none, (some 52), .bin .neq (.t 51) (.k (.a (.int .i64 0)))⟩]
def r15 : List In := [⟨none, (some 53), .faddr 0 (.t 6)⟩,
  ⟨none, (some 54), .load 1 false (.t 53)⟩,
  ⟨none, (some 55), .bin .eql (.t 54) (.k (.a (.int .i64 4)))⟩,
  ⟨none, (some 56), .mv (.t 55)⟩,
  ⟨(some (56, false)), (some 57), .faddr 0 (.t 6)⟩,
  ⟨(some (56, false)), (some 58), .load 1 false (.t 57)⟩,
  ⟨(some (56, false)), (some 59), .bin .eql (.t 58) (.k (.a (.int .i64 5)))⟩,
  ⟨none, (some 60), .pick (.t 56) (.k (.a (.bool true))) (.t 59)⟩,
  ⟨none, (some 4), .mv (.t 60)⟩]
@[reducible] def c17 : IC := .seq (.reg r15) .ret
@[reducible] def c18 : IC := .cond (.t 52) c17 .skip
@[reducible] def c19 : IC := .seq (.reg r14) c18
def r16 : List In := [⟨none, (some 61), .mv (.t 5)⟩,
  ⟨none, (some 62), .mv (.t 10)⟩,
  ⟨none, (some 63), .call 18 [(.t 61), (.t 62)]⟩,
  ⟨none, (some 4), .mv (.t 63)⟩]
@[reducible] def c20 : IC := .seq (.reg r16) .ret
@[reducible] def c21 : IC := .seq c19 c20
@[reducible] def c22 : IC := .seq (.reg r13) c21
@[reducible] def c23 : IC := .seq c16 c22
@[reducible] def c24 : IC := .seq (.reg r6) c23
@[reducible] def c25 : IC := .seq c5 c24
@[reducible] def c26 : IC := .seq (.reg r3) c25
@[reducible] def c27 : IC := .seq c2 c26
@[reducible] def c28 : IC := .seq (.reg r0) c27
@[reducible] def code : IC := c28
def res : List RV := [.tmp 4]
theorem rs : type_of% (And.intro r0.eq_1 <| And.intro r1.eq_1 <| And.intro r2.eq_1 <| And.intro r3.eq_1 <| And.intro r4.eq_1 <| And.intro r5.eq_1 <| And.intro r6.eq_1 <| And.intro r7.eq_1 <| And.intro r8.eq_1 <| And.intro r9.eq_1 <| And.intro r10.eq_1 <| And.intro r11.eq_1 <| And.intro r12.eq_1 <| And.intro r13.eq_1 <| And.intro r14.eq_1 <| And.intro r15.eq_1 <| r16.eq_1) := And.intro r0.eq_1 <| And.intro r1.eq_1 <| And.intro r2.eq_1 <| And.intro r3.eq_1 <| And.intro r4.eq_1 <| And.intro r5.eq_1 <| And.intro r6.eq_1 <| And.intro r7.eq_1 <| And.intro r8.eq_1 <| And.intro r9.eq_1 <| And.intro r10.eq_1 <| And.intro r11.eq_1 <| And.intro r12.eq_1 <| And.intro r13.eq_1 <| And.intro r14.eq_1 <| And.intro r15.eq_1 <| r16.eq_1
theorem fn : Body Tryd.prog 5 64 code res := ⟨by decide, Tryd.f5, _, Tryd.func5, rfl, rfl, by kernel_rfl, by kernel_rfl⟩
theorem enters : X0 Tryd.prog 5 = true := by kernel_rfl
end Xs
namespace Xr
noncomputable def r0 : List In := [⟨none, (some 2), .mv (.k (.a (.bool false)))⟩]
noncomputable def r1 : List In := [⟨none, (some 18), .call 19 []⟩,
  ⟨none, (some 19), .un .not (.t 18)⟩]
noncomputable def r2 : List In := [⟨none, (some 2), .mv (.k (.a (.bool false)))⟩]
@[reducible] noncomputable def c0 : IC := .seq (.reg r2) .ret
@[reducible] noncomputable def c1 : IC := .cond (.t 19) c0 .skip
@[reducible] noncomputable def c2 : IC := .seq (.reg r1) c1
noncomputable def r3 : List In := [⟨none, (some 21), .mv (.t 0)⟩,
  ⟨none, (some 22), .call 13 [(.t 21)]⟩,
  ⟨none, (some 20), .mv (.t 22)⟩,
  ⟨none, (some 23), .ext 0 (.t 20)⟩,
  ⟨none, (some 24), .ext 1 (.t 20)⟩,
  ⟨none, (some 4), .alloc 31 [.int .i64 0, .int .i64 0]⟩,
  ⟨none, (some 3), .mv (.t 23)⟩,
  ⟨none, none, .store 2 (.t 4) (.t 24)⟩]
noncomputable def r4 : List In := [⟨none, (some 25), .faddr 0 (.t 4)⟩,
  ⟨none, (some 26), .load 1 false (.t 25)⟩,
  ⟨none, (some 27), .bin .neq (.t 26) (.k (.a (.int .i64 0)))⟩]
noncomputable def r5 : List In := [⟨none, (some 2), .mv (.k (.a (.bool true)))⟩]
@[reducible] noncomputable def c3 : IC := .seq (.reg r5) .ret
@[reducible] noncomputable def c4 : IC := .cond (.t 27) c3 .skip
@[reducible] noncomputable def c5 : IC := .seq (.reg r4) c4
noncomputable def r6 : List In := [⟨none, (some 29), .mv (.t 3)⟩,
  ⟨none, (some 30), .call 20 [(.t 29)]⟩,
  ⟨none, (some 28), .mv (.t 30)⟩,
  ⟨none, (some 31), .ext 0 (.t 28)⟩,
  ⟨none, (some 32), .ext 1 (.t 28)⟩,
  ⟨none, (some 5), .mv (.t 31)⟩,
  ⟨none, none, .store 2 (.t 4) (.t 32)⟩]
noncomputable def r7 : List In := [⟨none, (some 33), .faddr 0 (.t 4)⟩,
  ⟨none, (some 34), .load 1 false (.t 33)⟩,
  ⟨none, (some 35), .bin .neq (.t 34) (.k (.a (.int .i64 0)))⟩]
noncomputable def r8 : List In := [⟨none, (some 2), .mv (.k (.a (.bool false)))⟩]
@[reducible] noncomputable def c6 : IC := .seq (.reg r8) .ret
@[reducible] noncomputable def c7 : IC := .cond (.t 35) c6 .skip
@[reducible] noncomputable def c8 : IC := .seq (.reg r7) c7
noncomputable def r9 : List In := [⟨none, (some 36), .mkmap Tryd.prog 9 3 (.int .i64)⟩,
  ⟨none, (some 6), .mv (.t 36)⟩]
noncomputable def r10 : List In := [⟨none, (some 7), .mv (.k (.a (.int .i64 0)))⟩]
noncomputable def r11 : List In := [⟨none, (some 37), .mv (.t 0)⟩,
  ⟨none, (some 38), .len (.t 37)⟩,
  ⟨none, (some 39), .mv (.k (.a (.int .i64 0)))⟩]
noncomputable def r12 : List In := [⟨none, (some 40), .bin .lss (.t 39) (.t 38)⟩]
@[reducible] noncomputable def c9 : IC := .cond (.t 40) .skip (.exit 0)
noncomputable def r13 : List In := [⟨none, (some 41), .iaddr 6 (.t 37) (.t 39)⟩,
  ⟨none, (some 42), .load 6 true (.t 41)⟩,
  ⟨none, (some 9), .alloc 27 [.str [], .int .i64 0, .int .i64 0, .int .i64 0, .int .i64 0, .str []]⟩,
  ⟨none, none, .store 6 (.t 9) (.t 42)⟩]
noncomputable def r14 : List In := [⟨none, (some 43), .faddr 0 (.t 9)⟩,
  ⟨none, (some 44), .load 1 false (.t 43)⟩,
  ⟨none, (some 45), .bin .neq (.t 44) (.k (.a (.str [])))⟩]
noncomputable def r15 : List In := [⟨none, (some 46), .mv (.t 6)⟩,
  ⟨none, (some 47), .faddr 0 (.t 9)⟩,
  ⟨none, (some 48), .load 1 false (.t 47)⟩,
  ⟨none, (some 49), .mv (.t 7)⟩,
  ⟨none, none, .mupd Tryd.prog 9 3 (.int .i64) (.t 46) (.t 48) (.t 49)⟩]
@[reducible] noncomputable def c10 : IC := .seq (.reg r15) (.exit 1)
@[reducible] noncomputable def c11 : IC := .cond (.t 45) c10 .skip
@[reducible] noncomputable def c12 : IC := .seq (.reg r14) c11
noncomputable def r16 : List In := [⟨none, (some 51), .faddr 1 (.t 9)⟩,
  ⟨none, (some 52), .faddr 0 (.t 51)⟩,
  ⟨none, (some 53), .load 1 false (.t 52)⟩,
  ⟨none, (some 54), .call 21 [(.t 53)]⟩,
  ⟨none, (some 50), .mv (.t 54)⟩,
  ⟨none, (some 55), .ext 0 (.t 50)⟩,
  ⟨none, (some 56), .ext 1 (.t 50)⟩,
  ⟨none, (some 10), .mv (.t 55)⟩,
  ⟨none, (some 11), .mv (.t 56)⟩]
noncomputable def r17 : List In := [⟨none, (some 57), .mv (.t 7)⟩,
  ⟨none, (some 58), .mv (.t 10)⟩,
  ⟨none, (some 59), .bin .add (.t 57) (.t 58)⟩,
  ⟨none, (some 7), .mv (.t 59)⟩]
@[reducible] noncomputable def c13 : IC := .seq (.reg r16) (.reg r17)
@[reducible] noncomputable def c14 : IC := .seq c12 c13
@[reducible] noncomputable def c15 : IC := .seq (.reg r13) c14
@[reducible] noncomputable def c16 : IC := .block 1 c15
noncomputable def r18 : List In := [⟨none, (some 60), .bin .add (.t 39) (.k (.a (.int .i64 1)))⟩,
  ⟨none, (some 39), .mv (.t 60)⟩]
@[reducible] noncomputable def c17 : IC := .seq c16 (.reg r18)
@[reducible] noncomputable def c18 : IC := .seq c9 c17
@[reducible] noncomputable def c19 : IC := .seq (.reg r12) c18
@[reducible] noncomputable def c20 : IC := .loop c19
@[reducible] noncomputable def c21 : IC := .block 0 c20
@[reducible] noncomputable def c22 : IC := .seq (.reg r11) c21
noncomputable def r19 : List In := [⟨none, (some 12), .mv (.k (.a (.int .i64 0)))⟩]
noncomputable def r20 : List In := [⟨none, (some 61), .mv (.t 0)⟩,
  ⟨none, (some 62), .len (.t 61)⟩,
  ⟨none, (some 63), .mv (.k (.a (.int .i64 0)))⟩]
noncomputable def r21 : List In := [⟨none, (some 64), .bin .lss (.t 63) (.t 62)⟩]
@[reducible] noncomputable def c23 : IC := .cond (.t 64) .skip (.exit 2)
noncomputable def r22 : List In := [⟨none, (some 65), .iaddr 6 (.t 61) (.t 63)⟩,
  ⟨none, (some 66), .load 6 true (.t 65)⟩,
  ⟨none, (some 14), .alloc 27 [.str [], .int .i64 0, .int .i64 0, .int .i64 0, .int .i64 0, .str []]⟩,
  ⟨none, none, .store 6 (.t 14) (.t 66)⟩]
noncomputable def r23 : List In := [⟨none, (some 67), .faddr 0 (.t 14)⟩,
  ⟨none, (some 68), .load 1 false (.t 67)⟩,
  ⟨none, (some 69), .bin .neq (.t 68) (.k (.a (.str [])))⟩]
@[reducible] noncomputable def c24 : IC := .cond (.t 69) (.exit 3) .skip
@[reducible] noncomputable def c25 : IC := .seq (.reg r23) c24
noncomputable def r24 : List In := [⟨none, (some 70), .faddr 1 (.t 14)⟩,
  ⟨none, (some 71), .load 4 true (.t 70)⟩,
  ⟨none, (some 72), .call 22 [(.t 71)]⟩,
  ⟨none, (some 15), .alloc 25 [.int .i64 0, .int .i64 0, .int .i64 0, .int .i64 0]⟩,
  ⟨none, none, .store 4 (.t 15) (.t 72)⟩]
noncomputable def r25 : List In := [⟨none, (some 73), .faddr 5 (.t 14)⟩,
  ⟨none, (some 74), .load 1 false (.t 73)⟩,
  ⟨none, (some 75), .bin .neq (.t 74) (.k (.a (.str [])))⟩]
noncomputable def r26 : List In := [⟨none, (some 77), .mv (.t 6)⟩,
  ⟨none, (some 78), .faddr 5 (.t 14)⟩,
  ⟨none, (some 79), .load 1 false (.t 78)⟩,
  ⟨none, (some 80), .mlook Tryd.prog 9 3 (.int .i64) true (.t 77) (.t 79)⟩,
  ⟨none, (some 76), .mv (.t 80)⟩,
  ⟨none, (some 81), .ext 0 (.t 76)⟩,
  ⟨none, (some 82), .ext 1 (.t 76)⟩,
  ⟨none, (some 16), .mv (.t 81)⟩,
  ⟨none, (some 17), .mv (.t 82)⟩]
noncomputable def r27 : List In := [⟨none, (some 83), .mv (.t 17)⟩,
  ⟨none, (some 84), .un .not (.t 83)⟩]
noncomputable def r28 : List In := [⟨none, (some 2), .mv (.k (.a (.bool false)))⟩]
@[reducible] noncomputable def c26 : IC := .seq (.reg r28) .ret
@[reducible] noncomputable def c27 : IC := .cond (.t 84) c26 .skip
@[reducible] noncomputable def c28 : IC := .seq (.reg r27) c27
noncomputable def r29 : List In := [⟨none, (some 85), .mv (.t 16)⟩,
  ⟨none, (some 86), .bin .rem (.t 85) (.k (.a (.int .i64 65536)))⟩,
  ⟨none, (some 87), .faddr 3 (.t 15)⟩,
  ⟨none, none, .store 1 (.t 87) (.t 86)⟩]
@[reducible] noncomputable def c29 : IC := .seq c28 (.reg r29)
@[reducible] noncomputable def c30 : IC := .seq (.reg r26) c29
@[reducible] noncomputable def c31 : IC := .cond (.t 75) c30 .skip
@[reducible] noncomputable def c32 : IC := .seq (.reg r25) c31
noncomputable def r30 : List In := [⟨none, (some 88), .mv (.t 12)⟩,
  ⟨none, (some 89), .mv (.t 5)⟩,
  ⟨none, (some 90), .len (.t 89)⟩,
  ⟨none, (some 91), .bin .geq (.t 88) (.t 90)⟩,
  ⟨none, (some 92), .mv (.t 91)⟩,
  ⟨(some (92, false)), (some 93), .mv (.t 5)⟩,
  ⟨(some (92, false)), (some 94), .mv (.t 12)⟩,
  ⟨(some (92, false)), (some 95), .iaddr 4 (.t 93) (.t 94)⟩,
  ⟨(some (92, false)), (some 96), .load 4 true (.t 95)⟩,
  ⟨(some (92, false)), (some 97), .load 4 true (.t 15)⟩,
  ⟨(some (92, false)), (some 98), .aeq true [.int, .int, .int, .int] (.t 96) (.t 97)⟩,
  ⟨none, (some 99), .pick (.t 92) (.k (.a (.bool true))) (.t 98)⟩]
noncomputable def r31 : List In := [⟨none, (some 2), .mv (.k (.a (.bool false)))⟩]
@[reducible] noncomputable def c33 : IC := .seq (.reg r31) .ret
@[reducible] noncomputable def c34 : IC := .cond (.t 99) c33 .skip
@[reducible] noncomputable def c35 : IC := .seq (.dreg r30) c34
noncomputable def r32 : List In := [⟨none, (some 100), .mv (.t 12)⟩,
  ⟨none, (some 101), .bin .add (.t 100) (.k (.a (.int .i64 1)))⟩,
  ⟨none, (some 12), .mv (.t 101)⟩]
@[reducible] noncomputable def c36 : IC := .seq c35 (.reg r32)
@[reducible] noncomputable def c37 : IC := .seq c32 c36
@[reducible] noncomputable def c38 : IC := .seq (.reg r24) c37
@[reducible] noncomputable def c39 : IC := .seq c25 c38
@[reducible] noncomputable def c40 : IC := .seq (.reg r22) c39
@[reducible] noncomputable def c41 : IC := .block 3 c40
noncomputable def r33 : List In := [⟨none, (some 102), .bin .add (.t 63) (.k (.a (.int .i64 1)))⟩,
  ⟨none, (some 63), .mv (.t 102)⟩]
@[reducible] noncomputable def c42 : IC := .seq c41 (.reg r33)
@[reducible] noncomputable def c43 : IC := .seq c23 c42
@[reducible] noncomputable def c44 : IC := .seq (.reg r21) c43
@[reducible] noncomputable def c45 : IC := .loop c44
@[reducible] noncomputable def c46 : IC := .block 2 c45
@[reducible] noncomputable def c47 : IC := .seq (.reg r20) c46
noncomputable def r34 : List In := [⟨none, (some 103), .mv (.t 12)⟩,
  ⟨none, (some 104), .mv (.t 5)⟩,
  ⟨none, (some 105), .len (.t 104)⟩,
  ⟨none, (some 106), .bin .eql (.t 103) (.t 105)⟩,
  ⟨none, (some 107), .mv (.t 106)⟩,
  ⟨(some (107, true)), (some 108), .mv (.t 7)⟩,
  ⟨(some (107, true)), (some 109), .mv (.t 3)⟩,
  ⟨(some (107, true)), (some 110), .len (.t 109)⟩,
  ⟨(some (107, true)), (some 111), .bin .eql (.t 108) (.t 110)⟩,
  ⟨none, (some 112), .pick (.t 107) (.t 111) (.k (.a (.bool false)))⟩,
  ⟨none, (some 2), .mv (.t 112)⟩]
@[reducible] noncomputable def c48 : IC := .seq (.reg r34) .ret
@[reducible] noncomputable def c49 : IC := .seq c47 c48
@[reducible] noncomputable def c50 : IC := .seq (.reg r19) c49
@[reducible] noncomputable def c51 : IC := .seq c22 c50
@[reducible] noncomputable def c52 : IC := .seq (.reg r10) c51
@[reducible] noncomputable def c53 : IC := .seq (.reg r9) c52
@[reducible] noncomputable def c54 : IC := .seq c8 c53
@[reducible] noncomputable def c55 : IC := .seq (.reg r6) c54
@[reducible] noncomputable def c56 : IC := .seq c5 c55
@[reducible] noncomputable def c57 : IC := .seq (.reg r3) c56
@[reducible] noncomputable def c58 : IC := .seq c2 c57
@[reducible] noncomputable def c59 : IC := .seq (.reg r0) c58
@[reducible] noncomputable def code : IC := c59
def res : List RV := [.tmp 2]
theorem rs : type_of% (And.intro r0.eq_1 <| And.intro r1.eq_1 <| And.intro r2.eq_1 <| And.intro r3.eq_1 <| And.intro r4.eq_1 <| And.intro r5.eq_1 <| And.intro r6.eq_1 <| And.intro r7.eq_1 <| And.intro r8.eq_1 <| And.intro r9.eq_1 <| And.intro r10.eq_1 <| And.intro r11.eq_1 <| And.intro r12.eq_1 <| And.intro r13.eq_1 <| And.intro r14.eq_1 <| And.intro r15.eq_1 <| And.intro r16.eq_1 <| And.intro r17.eq_1 <| And.intro r18.eq_1 <| And.intro r19.eq_1 <| And.intro r20.eq_1 <| And.intro r21.eq_1 <| And.intro r22.eq_1 <| And.intro r23.eq_1 <| And.intro r24.eq_1 <| And.intro r25.eq_1 <| And.intro r26.eq_1 <| And.intro r27.eq_1 <| And.intro r28.eq_1 <| And.intro r29.eq_1 <| And.intro r30.eq_1 <| And.intro r31.eq_1 <| And.intro r32.eq_1 <| And.intro r33.eq_1 <| r34.eq_1) := And.intro r0.eq_1 <| And.intro r1.eq_1 <| And.intro r2.eq_1 <| And.intro r3.eq_1 <| And.intro r4.eq_1 <| And.intro r5.eq_1 <| And.intro r6.eq_1 <| And.intro r7.eq_1 <| And.intro r8.eq_1 <| And.intro r9.eq_1 <| And.intro r10.eq_1 <| And.intro r11.eq_1 <| And.intro r12.eq_1 <| And.intro r13.eq_1 <| And.intro r14.eq_1 <| And.intro r15.eq_1 <| And.intro r16.eq_1 <| And.intro r17.eq_1 <| And.intro r18.eq_1 <| And.intro r19.eq_1 <| And.intro r20.eq_1 <| And.intro r21.eq_1 <| And.intro r22.eq_1 <| And.intro r23.eq_1 <| And.intro r24.eq_1 <| And.intro r25.eq_1 <| And.intro r26.eq_1 <| And.intro r27.eq_1 <| And.intro r28.eq_1 <| And.intro r29.eq_1 <| And.intro r30.eq_1 <| And.intro r31.eq_1 <| And.intro r32.eq_1 <| And.intro r33.eq_1 <| r34.eq_1
theorem fn : Body Tryd.prog 6 113 code res := ⟨by decide, Tryd.f6, _, Tryd.func6, rfl, rfl, by kernel_rfl, by kernel_rfl⟩
theorem enters : X0 Tryd.prog 6 = true := by kernel_rfl
end Xr
end Go.Proofs.YtccjjcdjgibilaaDoor
