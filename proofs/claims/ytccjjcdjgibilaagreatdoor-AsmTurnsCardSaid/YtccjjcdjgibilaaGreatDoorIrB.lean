/- The small code of functions, and that it is theirs: printed by a program over the seat's translation. -/
import Derived.Test.YtccjjcdjgibilaaGreatDoorVcGf
import Derived.Test.YtccjjcdjgibilaaGreatDoorChecked
import Derived.KernelRfl
namespace Go.Proofs.YtccjjcdjgibilaaGreatDoor
open Vc
namespace Wp
noncomputable def r0 : List In := [⟨none, (some 4), .mv (.k (.a (.raw (.slice none 0 0))))⟩,
  ⟨none, (some 5), .mv (.k (.a (.int .i64 0)))⟩,
  ⟨none, (some 6), .alloc 26 [.int .i64 0, .int .i64 0]⟩]
noncomputable def r1 : List In := [⟨none, (some 7), .mv (.k (.a (.raw (.slice none 0 0))))⟩]
noncomputable def r2 : List In := [⟨none, (some 14), .mkmap Tryz.prog 9 4 .bool⟩,
  ⟨none, (some 8), .mv (.t 14)⟩]
noncomputable def r3 : List In := [⟨none, (some 15), .mv (.t 0)⟩,
  ⟨none, (some 16), .len (.t 15)⟩,
  ⟨none, (some 17), .mv (.k (.a (.int .i64 0)))⟩]
noncomputable def r4 : List In := [⟨none, (some 18), .bin .lss (.t 17) (.t 16)⟩]
@[reducible] noncomputable def c0 : IC := .cond (.t 18) .skip (.exit 0)
noncomputable def r5 : List In := [⟨none, (some 19), .mv (.t 17)⟩,
  ⟨none, (some 20), .iaddr 6 (.t 15) (.t 17)⟩,
  ⟨none, (some 21), .load 6 true (.t 20)⟩,
  ⟨none, (some 10), .alloc 34 [.str [], .int .i64 0, .int .i64 0, .int .i64 0, .int .i64 0, .str []]⟩,
  ⟨none, (some 9), .mv (.t 19)⟩,
  ⟨none, none, .store 6 (.t 10) (.t 21)⟩]
noncomputable def r6 : List In := [⟨none, (some 22), .load 6 true (.t 10)⟩,
  ⟨none, (some 23), .call 10 [(.t 22)]⟩,
  ⟨none, (some 11), .mv (.t 23)⟩]
noncomputable def r7 : List In := [⟨none, (some 24), .mv (.t 11)⟩,
  ⟨none, (some 25), .bin .neq (.t 24) (.k (.a (.int .i64 0)))⟩]
noncomputable def r8 : List In := [⟨none, (some 26), .mv (.t 11)⟩,
  ⟨none, (some 27), .mv (.t 9)⟩,
  ⟨none, (some 28), .build [.int .i64 0, .int .i64 0] [(0, 1, (.t 26)), (1, 1, (.t 27))]⟩,
  ⟨none, (some 4), .mv (.k (.a (.raw (.slice none 0 0))))⟩,
  ⟨none, (some 5), .mv (.k (.a (.int .i64 0)))⟩,
  ⟨none, none, .store 2 (.t 6) (.t 28)⟩]
@[reducible] noncomputable def c1 : IC := .seq (.reg r8) .ret
@[reducible] noncomputable def c2 : IC := .cond (.t 25) c1 .skip
@[reducible] noncomputable def c3 : IC := .seq (.reg r7) c2
@[reducible] noncomputable def c4 : IC := .seq (.reg r6) c3
noncomputable def r9 : List In := [⟨none, (some 29), .faddr 0 (.t 10)⟩,
  ⟨none, (some 30), .load 1 false (.t 29)⟩,
  ⟨none, (some 31), .bin .neq (.t 30) (.k (.a (.str [])))⟩]
noncomputable def r10 : List In := [⟨none, (some 32), .mv (.t 8)⟩,
  ⟨none, (some 33), .faddr 0 (.t 10)⟩,
  ⟨none, (some 34), .load 1 false (.t 33)⟩,
  ⟨none, (some 35), .mlook Tryz.prog 9 4 .bool false (.t 32) (.t 34)⟩]
noncomputable def r11 : List In := [⟨none, (some 36), .mv (.t 9)⟩,
  ⟨none, (some 37), .build [.int .i64 0, .int .i64 0] [(0, 1, (.k (.a (.int .i64 7)))), (1, 1, (.t 36))]⟩,
  ⟨none, (some 4), .mv (.k (.a (.raw (.slice none 0 0))))⟩,
  ⟨none, (some 5), .mv (.k (.a (.int .i64 0)))⟩,
  ⟨none, none, .store 2 (.t 6) (.t 37)⟩]
@[reducible] noncomputable def c5 : IC := .seq (.reg r11) .ret
@[reducible] noncomputable def c6 : IC := .cond (.t 35) c5 .skip
@[reducible] noncomputable def c7 : IC := .seq (.reg r10) c6
noncomputable def r12 : List In := [⟨none, (some 38), .mv (.t 8)⟩,
  ⟨none, (some 39), .faddr 0 (.t 10)⟩,
  ⟨none, (some 40), .load 1 false (.t 39)⟩,
  ⟨none, none, .mupd Tryz.prog 9 4 .bool (.t 38) (.t 40) (.k (.a (.bool true)))⟩]
noncomputable def r13 : List In := [⟨none, (some 41), .mv (.t 7)⟩,
  ⟨none, (some 42), .faddr 0 (.t 10)⟩,
  ⟨none, (some 43), .load 1 false (.t 42)⟩,
  ⟨none, (some 44), .mv (.t 1)⟩,
  ⟨none, (some 45), .build [.str [], .int .i64 0] [(0, 1, (.t 43)), (1, 1, (.t 44))]⟩,
  ⟨none, (some 46), .bsl 67 2 1 [.str [], .int .i64 0] [(0, 2, (.t 45))]⟩,
  ⟨none, (some 47), .app 62 67 2 24 (.t 41) (.t 46)⟩,
  ⟨none, (some 7), .mv (.t 47)⟩]
@[reducible] noncomputable def c8 : IC := .seq (.reg r13) (.exit 1)
@[reducible] noncomputable def c9 : IC := .seq (.reg r12) c8
@[reducible] noncomputable def c10 : IC := .seq c7 c9
@[reducible] noncomputable def c11 : IC := .cond (.t 31) c10 .skip
@[reducible] noncomputable def c12 : IC := .seq (.reg r9) c11
noncomputable def r14 : List In := [⟨none, (some 49), .faddr 1 (.t 10)⟩,
  ⟨none, (some 50), .faddr 0 (.t 49)⟩,
  ⟨none, (some 51), .load 1 false (.t 50)⟩,
  ⟨none, (some 52), .call 41 [(.t 51)]⟩,
  ⟨none, (some 48), .mv (.t 52)⟩,
  ⟨none, (some 53), .ext 0 (.t 48)⟩,
  ⟨none, (some 54), .ext 1 (.t 48)⟩,
  ⟨none, (some 12), .mv (.t 53)⟩,
  ⟨none, (some 13), .mv (.t 54)⟩]
noncomputable def r15 : List In := [⟨none, (some 55), .mv (.t 1)⟩,
  ⟨none, (some 56), .mv (.t 12)⟩,
  ⟨none, (some 57), .bin .add (.t 55) (.t 56)⟩,
  ⟨none, (some 1), .mv (.t 57)⟩]
noncomputable def r16 : List In := [⟨none, (some 58), .mv (.t 1)⟩,
  ⟨none, (some 59), .bin .gtr (.t 58) (.k (.a (.int .i64 65536)))⟩]
noncomputable def r17 : List In := [⟨none, (some 60), .mv (.t 9)⟩,
  ⟨none, (some 61), .build [.int .i64 0, .int .i64 0] [(0, 1, (.k (.a (.int .i64 4)))), (1, 1, (.t 60))]⟩,
  ⟨none, (some 4), .mv (.k (.a (.raw (.slice none 0 0))))⟩,
  ⟨none, (some 5), .mv (.k (.a (.int .i64 0)))⟩,
  ⟨none, none, .store 2 (.t 6) (.t 61)⟩]
@[reducible] noncomputable def c13 : IC := .seq (.reg r17) .ret
@[reducible] noncomputable def c14 : IC := .cond (.t 59) c13 .skip
@[reducible] noncomputable def c15 : IC := .seq (.reg r16) c14
@[reducible] noncomputable def c16 : IC := .seq (.reg r15) c15
@[reducible] noncomputable def c17 : IC := .seq (.reg r14) c16
@[reducible] noncomputable def c18 : IC := .seq c12 c17
@[reducible] noncomputable def c19 : IC := .seq c4 c18
@[reducible] noncomputable def c20 : IC := .seq (.reg r5) c19
@[reducible] noncomputable def c21 : IC := .block 1 c20
noncomputable def r18 : List In := [⟨none, (some 62), .bin .add (.t 17) (.k (.a (.int .i64 1)))⟩,
  ⟨none, (some 17), .mv (.t 62)⟩]
@[reducible] noncomputable def c22 : IC := .seq c21 (.reg r18)
@[reducible] noncomputable def c23 : IC := .seq c0 c22
@[reducible] noncomputable def c24 : IC := .seq (.reg r4) c23
@[reducible] noncomputable def c25 : IC := .loop c24
@[reducible] noncomputable def c26 : IC := .block 0 c25
@[reducible] noncomputable def c27 : IC := .seq (.reg r3) c26
noncomputable def r19 : List In := [⟨none, (some 63), .mv (.t 7)⟩,
  ⟨none, (some 64), .mv (.t 1)⟩,
  ⟨none, (some 65), .build [.int .i64 0, .int .i64 0] []⟩,
  ⟨none, (some 4), .mv (.t 63)⟩,
  ⟨none, (some 5), .mv (.t 64)⟩,
  ⟨none, none, .store 2 (.t 6) (.t 65)⟩]
@[reducible] noncomputable def c28 : IC := .seq (.reg r19) .ret
@[reducible] noncomputable def c29 : IC := .seq c27 c28
@[reducible] noncomputable def c30 : IC := .seq (.reg r2) c29
@[reducible] noncomputable def c31 : IC := .seq (.reg r1) c30
@[reducible] noncomputable def c32 : IC := .seq (.reg r0) c31
@[reducible] noncomputable def code : IC := c32
def res : List RV := [.tmp 4, .tmp 5, .cell 6 2 true]
theorem rs : type_of% (And.intro r0.eq_1 <| And.intro r1.eq_1 <| And.intro r2.eq_1 <| And.intro r3.eq_1 <| And.intro r4.eq_1 <| And.intro r5.eq_1 <| And.intro r6.eq_1 <| And.intro r7.eq_1 <| And.intro r8.eq_1 <| And.intro r9.eq_1 <| And.intro r10.eq_1 <| And.intro r11.eq_1 <| And.intro r12.eq_1 <| And.intro r13.eq_1 <| And.intro r14.eq_1 <| And.intro r15.eq_1 <| And.intro r16.eq_1 <| And.intro r17.eq_1 <| And.intro r18.eq_1 <| r19.eq_1) := And.intro r0.eq_1 <| And.intro r1.eq_1 <| And.intro r2.eq_1 <| And.intro r3.eq_1 <| And.intro r4.eq_1 <| And.intro r5.eq_1 <| And.intro r6.eq_1 <| And.intro r7.eq_1 <| And.intro r8.eq_1 <| And.intro r9.eq_1 <| And.intro r10.eq_1 <| And.intro r11.eq_1 <| And.intro r12.eq_1 <| And.intro r13.eq_1 <| And.intro r14.eq_1 <| And.intro r15.eq_1 <| And.intro r16.eq_1 <| And.intro r17.eq_1 <| And.intro r18.eq_1 <| r19.eq_1
theorem fn : Body Tryz.prog 22 66 code res := ⟨by decide, Tryz.f22, _, Tryz.func22, rfl, rfl, by kernel_rfl, by kernel_rfl⟩
theorem enters : X9 Tryz.prog 22 = true := by kernel_rfl
end Wp
namespace Wf
def r0 : List In := [⟨none, (some 4), .mv (.k (.a (.raw (.slice none 0 0))))⟩,
  ⟨none, (some 5), .alloc 26 [.int .i64 0, .int .i64 0]⟩]
def r1 : List In := [⟨none, (some 6), .mv (.k (.a (.raw (.slice none 0 0))))⟩]
def r2 : List In := [⟨none, (some 12), .mv (.t 0)⟩,
  ⟨none, (some 13), .len (.t 12)⟩,
  ⟨none, (some 14), .mv (.k (.a (.int .i64 0)))⟩]
def r3 : List In := [⟨none, (some 15), .bin .lss (.t 14) (.t 13)⟩]
@[reducible] def c0 : IC := .cond (.t 15) .skip (.exit 0)
def r4 : List In := [⟨none, (some 16), .mv (.t 14)⟩,
  ⟨none, (some 17), .iaddr 6 (.t 12) (.t 14)⟩,
  ⟨none, (some 18), .load 6 true (.t 17)⟩,
  ⟨none, (some 8), .alloc 34 [.str [], .int .i64 0, .int .i64 0, .int .i64 0, .int .i64 0, .str []]⟩,
  ⟨none, (some 7), .mv (.t 16)⟩,
  ⟨none, none, .store 6 (.t 8) (.t 18)⟩]
def r5 : List In := [⟨none, (some 19), .faddr 0 (.t 8)⟩,
  ⟨none, (some 20), .load 1 false (.t 19)⟩,
  ⟨none, (some 21), .bin .neq (.t 20) (.k (.a (.str [])))⟩]
@[reducible] def c1 : IC := .cond (.t 21) (.exit 1) .skip
@[reducible] def c2 : IC := .seq (.reg r5) c1
def r6 : List In := [⟨none, (some 22), .faddr 1 (.t 8)⟩,
  ⟨none, (some 23), .load 4 true (.t 22)⟩,
  ⟨none, (some 9), .alloc 32 [.int .i64 0, .int .i64 0, .int .i64 0, .int .i64 0]⟩,
  ⟨none, none, .store 4 (.t 9) (.t 23)⟩]
def r7 : List In := [⟨none, (some 24), .faddr 5 (.t 8)⟩,
  ⟨none, (some 25), .load 1 false (.t 24)⟩,
  ⟨none, (some 26), .bin .neq (.t 25) (.k (.a (.str [])))⟩]
def r8 : List In := [⟨none, (some 28), .mv (.t 1)⟩,
  ⟨none, (some 29), .faddr 5 (.t 8)⟩,
  ⟨none, (some 30), .load 1 false (.t 29)⟩,
  ⟨none, (some 31), .callv (.t 28) [(.t 30)]⟩,
  ⟨none, (some 27), .mv (.t 31)⟩,
  ⟨none, (some 32), .ext 0 (.t 27)⟩,
  ⟨none, (some 33), .ext 1 (.t 27)⟩,
  ⟨none, (some 10), .mv (.t 32)⟩,
  ⟨none, (some 11), .mv (.t 33)⟩]
def r9 : List In := [⟨none, (some 34), .mv (.t 11)⟩,
  ⟨none, (some 35), .un .not (.t 34)⟩]
def r10 : List In := [⟨none, (some 36), .mv (.t 7)⟩,
  ⟨none, (some 37), .build [.int .i64 0, .int .i64 0] [(0, 1, (.k (.a (.int .i64 6)))), (1, 1, (.t 36))]⟩,
  ⟨none, (some 4), .mv (.k (.a (.raw (.slice none 0 0))))⟩,
  ⟨none, none, .store 2 (.t 5) (.t 37)⟩]
@[reducible] def c3 : IC := .seq (.reg r10) .ret
@[reducible] def c4 : IC := .cond (.t 35) c3 .skip
@[reducible] def c5 : IC := .seq (.reg r9) c4
def r11 : List In := [⟨none, (some 38), .mv (.t 10)⟩,
  ⟨none, (some 39), .bin .and (.t 38) (.k (.a (.int .i64 65535)))⟩,
  ⟨none, (some 40), .faddr 3 (.t 9)⟩,
  ⟨none, none, .store 1 (.t 40) (.t 39)⟩]
@[reducible] def c6 : IC := .seq c5 (.reg r11)
@[reducible] def c7 : IC := .seq (.reg r8) c6
@[reducible] def c8 : IC := .cond (.t 26) c7 .skip
@[reducible] def c9 : IC := .seq (.reg r7) c8
def r12 : List In := [⟨none, (some 41), .mv (.t 6)⟩,
  ⟨none, (some 42), .load 4 true (.t 9)⟩,
  ⟨none, (some 43), .bsl 32 4 1 [.int .i64 0, .int .i64 0, .int .i64 0, .int .i64 0] [(0, 4, (.t 42))]⟩,
  ⟨none, (some 44), .app 68 32 4 32 (.t 41) (.t 43)⟩,
  ⟨none, (some 6), .mv (.t 44)⟩]
@[reducible] def c10 : IC := .seq c9 (.reg r12)
@[reducible] def c11 : IC := .seq (.reg r6) c10
@[reducible] def c12 : IC := .seq c2 c11
@[reducible] def c13 : IC := .seq (.reg r4) c12
@[reducible] def c14 : IC := .block 1 c13
def r13 : List In := [⟨none, (some 45), .bin .add (.t 14) (.k (.a (.int .i64 1)))⟩,
  ⟨none, (some 14), .mv (.t 45)⟩]
@[reducible] def c15 : IC := .seq c14 (.reg r13)
@[reducible] def c16 : IC := .seq c0 c15
@[reducible] def c17 : IC := .seq (.reg r3) c16
@[reducible] def c18 : IC := .loop c17
@[reducible] def c19 : IC := .block 0 c18
@[reducible] def c20 : IC := .seq (.reg r2) c19
def r14 : List In := [⟨none, (some 46), .mv (.t 6)⟩,
  ⟨none, (some 47), .build [.int .i64 0, .int .i64 0] []⟩,
  ⟨none, (some 4), .mv (.t 46)⟩,
  ⟨none, none, .store 2 (.t 5) (.t 47)⟩]
@[reducible] def c21 : IC := .seq (.reg r14) .ret
@[reducible] def c22 : IC := .seq c20 c21
@[reducible] def c23 : IC := .seq (.reg r1) c22
@[reducible] def c24 : IC := .seq (.reg r0) c23
@[reducible] def code : IC := c24
def res : List RV := [.tmp 4, .cell 5 2 true]
theorem rs : type_of% (And.intro r0.eq_1 <| And.intro r1.eq_1 <| And.intro r2.eq_1 <| And.intro r3.eq_1 <| And.intro r4.eq_1 <| And.intro r5.eq_1 <| And.intro r6.eq_1 <| And.intro r7.eq_1 <| And.intro r8.eq_1 <| And.intro r9.eq_1 <| And.intro r10.eq_1 <| And.intro r11.eq_1 <| And.intro r12.eq_1 <| And.intro r13.eq_1 <| r14.eq_1) := And.intro r0.eq_1 <| And.intro r1.eq_1 <| And.intro r2.eq_1 <| And.intro r3.eq_1 <| And.intro r4.eq_1 <| And.intro r5.eq_1 <| And.intro r6.eq_1 <| And.intro r7.eq_1 <| And.intro r8.eq_1 <| And.intro r9.eq_1 <| And.intro r10.eq_1 <| And.intro r11.eq_1 <| And.intro r12.eq_1 <| And.intro r13.eq_1 <| r14.eq_1
theorem fn : Body Tryz.prog 23 48 code res := ⟨by decide, Tryz.f23, _, Tryz.func23, rfl, rfl, by kernel_rfl, by kernel_rfl⟩
theorem enters : X9 Tryz.prog 23 = true := by kernel_rfl
end Wf
namespace Wb
noncomputable def r0 : List In := [⟨none, (some 2), .mv (.k (.a (.raw (.slice none 0 0))))⟩,
  ⟨none, (some 3), .alloc 26 [.int .i64 0, .int .i64 0]⟩]
noncomputable def r1 : List In := [⟨none, (some 11), .mv (.t 0)⟩,
  ⟨none, (some 12), .len (.t 11)⟩,
  ⟨none, (some 13), .bin .gtr (.t 12) (.k (.a (.int .i64 40000)))⟩]
noncomputable def r2 : List In := [⟨none, (some 14), .build [.int .i64 0, .int .i64 0] [(0, 1, (.k (.a (.int .i64 5))))]⟩,
  ⟨none, (some 2), .mv (.k (.a (.raw (.slice none 0 0))))⟩,
  ⟨none, none, .store 2 (.t 3) (.t 14)⟩]
@[reducible] noncomputable def c0 : IC := .seq (.reg r2) .ret
@[reducible] noncomputable def c1 : IC := .cond (.t 13) c0 .skip
@[reducible] noncomputable def c2 : IC := .seq (.reg r1) c1
noncomputable def r3 : List In := [⟨none, (some 16), .mv (.t 0)⟩,
  ⟨none, (some 17), .call 22 [(.t 16), (.k (.a (.int .i64 0)))]⟩,
  ⟨none, (some 15), .mv (.t 17)⟩,
  ⟨none, (some 18), .ext 0 (.t 15)⟩,
  ⟨none, (some 19), .ext 1 (.t 15)⟩,
  ⟨none, (some 20), .ext 2 (.t 15)⟩,
  ⟨none, (some 6), .alloc 26 [.int .i64 0, .int .i64 0]⟩,
  ⟨none, (some 4), .mv (.t 18)⟩,
  ⟨none, (some 5), .mv (.t 19)⟩,
  ⟨none, none, .store 2 (.t 6) (.t 20)⟩]
noncomputable def r4 : List In := [⟨none, (some 21), .faddr 0 (.t 6)⟩,
  ⟨none, (some 22), .load 1 false (.t 21)⟩,
  ⟨none, (some 23), .bin .neq (.t 22) (.k (.a (.int .i64 0)))⟩]
noncomputable def r5 : List In := [⟨none, (some 24), .load 2 true (.t 6)⟩,
  ⟨none, (some 2), .mv (.k (.a (.raw (.slice none 0 0))))⟩]
noncomputable def r6 : List In := [⟨none, none, .store 2 (.t 3) (.t 24)⟩]
@[reducible] noncomputable def c3 : IC := .seq (.dregt r5 r6) .ret
@[reducible] noncomputable def c4 : IC := .cond (.t 23) c3 .skip
@[reducible] noncomputable def c5 : IC := .seq (.reg r4) c4
noncomputable def r7 : List In := [⟨none, (some 25), .mkmap Tryz.prog 9 3 (.int .i64)⟩,
  ⟨none, (some 7), .alloc 65 [.raw (.map none)]⟩,
  ⟨none, none, .store 1 (.t 7) (.t 25)⟩]
noncomputable def r8 : List In := [⟨none, (some 26), .mv (.t 4)⟩,
  ⟨none, (some 27), .len (.t 26)⟩,
  ⟨none, (some 28), .mv (.k (.a (.int .i64 0)))⟩]
noncomputable def r9 : List In := [⟨none, (some 29), .bin .lss (.t 28) (.t 27)⟩]
@[reducible] noncomputable def c6 : IC := .cond (.t 29) .skip (.exit 0)
noncomputable def r10 : List In := [⟨none, (some 30), .iaddr 2 (.t 26) (.t 28)⟩,
  ⟨none, (some 31), .load 2 true (.t 30)⟩,
  ⟨none, (some 9), .alloc 67 [.str [], .int .i64 0]⟩,
  ⟨none, none, .store 2 (.t 9) (.t 31)⟩]
noncomputable def r11 : List In := [⟨none, (some 32), .load 1 false (.t 7)⟩,
  ⟨none, (some 33), .faddr 0 (.t 9)⟩,
  ⟨none, (some 34), .load 1 false (.t 33)⟩,
  ⟨none, (some 35), .faddr 1 (.t 9)⟩,
  ⟨none, (some 36), .load 1 false (.t 35)⟩,
  ⟨none, none, .mupd Tryz.prog 9 3 (.int .i64) (.t 32) (.t 34) (.t 36)⟩]
@[reducible] noncomputable def c7 : IC := .seq (.reg r10) (.reg r11)
@[reducible] noncomputable def c8 : IC := .block 1 c7
noncomputable def r12 : List In := [⟨none, (some 37), .bin .add (.t 28) (.k (.a (.int .i64 1)))⟩,
  ⟨none, (some 28), .mv (.t 37)⟩]
@[reducible] noncomputable def c9 : IC := .seq c8 (.reg r12)
@[reducible] noncomputable def c10 : IC := .seq c6 c9
@[reducible] noncomputable def c11 : IC := .seq (.reg r9) c10
@[reducible] noncomputable def c12 : IC := .loop c11
@[reducible] noncomputable def c13 : IC := .block 0 c12
@[reducible] noncomputable def c14 : IC := .seq (.reg r8) c13
noncomputable def r13 : List In := [⟨none, (some 39), .mv (.t 0)⟩,
  ⟨none, (some 40), .mkf 24 [(.t 7)]⟩,
  ⟨none, (some 41), .call 23 [(.t 39), (.t 40)]⟩,
  ⟨none, (some 38), .mv (.t 41)⟩,
  ⟨none, (some 42), .ext 0 (.t 38)⟩,
  ⟨none, (some 43), .ext 1 (.t 38)⟩,
  ⟨none, (some 10), .mv (.t 42)⟩,
  ⟨none, none, .store 2 (.t 6) (.t 43)⟩]
noncomputable def r14 : List In := [⟨none, (some 44), .faddr 0 (.t 6)⟩,
  ⟨none, (some 45), .load 1 false (.t 44)⟩,
  ⟨none, (some 46), .bin .neq (.t 45) (.k (.a (.int .i64 0)))⟩]
noncomputable def r15 : List In := [⟨none, (some 47), .load 2 true (.t 6)⟩,
  ⟨none, (some 2), .mv (.k (.a (.raw (.slice none 0 0))))⟩]
noncomputable def r16 : List In := [⟨none, none, .store 2 (.t 3) (.t 47)⟩]
@[reducible] noncomputable def c15 : IC := .seq (.dregt r15 r16) .ret
@[reducible] noncomputable def c16 : IC := .cond (.t 46) c15 .skip
@[reducible] noncomputable def c17 : IC := .seq (.reg r14) c16
noncomputable def r17 : List In := [⟨none, (some 48), .mv (.t 10)⟩,
  ⟨none, (some 49), .call 25 [(.t 48)]⟩,
  ⟨none, (some 50), .ext 0 (.t 49)⟩,
  ⟨none, (some 51), .ext 1 (.t 49)⟩,
  ⟨none, (some 2), .mv (.t 50)⟩,
  ⟨none, none, .store 2 (.t 3) (.t 51)⟩]
@[reducible] noncomputable def c18 : IC := .seq (.reg r17) .ret
@[reducible] noncomputable def c19 : IC := .seq c17 c18
@[reducible] noncomputable def c20 : IC := .seq (.reg r13) c19
@[reducible] noncomputable def c21 : IC := .seq c14 c20
@[reducible] noncomputable def c22 : IC := .seq (.reg r7) c21
@[reducible] noncomputable def c23 : IC := .seq c5 c22
@[reducible] noncomputable def c24 : IC := .seq (.reg r3) c23
@[reducible] noncomputable def c25 : IC := .seq c2 c24
@[reducible] noncomputable def c26 : IC := .seq (.reg r0) c25
@[reducible] noncomputable def code : IC := c26
def res : List RV := [.tmp 2, .cell 3 2 true]
theorem rs : type_of% (And.intro r0.eq_1 <| And.intro r1.eq_1 <| And.intro r2.eq_1 <| And.intro r3.eq_1 <| And.intro r4.eq_1 <| And.intro r5.eq_1 <| And.intro r6.eq_1 <| And.intro r7.eq_1 <| And.intro r8.eq_1 <| And.intro r9.eq_1 <| And.intro r10.eq_1 <| And.intro r11.eq_1 <| And.intro r12.eq_1 <| And.intro r13.eq_1 <| And.intro r14.eq_1 <| And.intro r15.eq_1 <| And.intro r16.eq_1 <| r17.eq_1) := And.intro r0.eq_1 <| And.intro r1.eq_1 <| And.intro r2.eq_1 <| And.intro r3.eq_1 <| And.intro r4.eq_1 <| And.intro r5.eq_1 <| And.intro r6.eq_1 <| And.intro r7.eq_1 <| And.intro r8.eq_1 <| And.intro r9.eq_1 <| And.intro r10.eq_1 <| And.intro r11.eq_1 <| And.intro r12.eq_1 <| And.intro r13.eq_1 <| And.intro r14.eq_1 <| And.intro r15.eq_1 <| And.intro r16.eq_1 <| r17.eq_1
theorem fn : Body Tryz.prog 9 52 code res := ⟨by decide, Tryz.f9, _, Tryz.func9, rfl, rfl, by kernel_rfl, by kernel_rfl⟩
theorem enters : X9 Tryz.prog 9 = true := by kernel_rfl
end Wb
namespace Vb
noncomputable def r0 : List In := [⟨none, (some 3), .mv (.k (.a (.int .i64 0)))⟩,
  ⟨none, (some 4), .mv (.k (.a (.bool false)))⟩]
noncomputable def r1 : List In := [⟨none, (some 8), .load 1 false (.t 1)⟩,
  ⟨none, (some 9), .mv (.t 0)⟩,
  ⟨none, (some 10), .mlook Tryz.prog 9 3 (.int .i64) true (.t 8) (.t 9)⟩,
  ⟨none, (some 7), .mv (.t 10)⟩,
  ⟨none, (some 11), .ext 0 (.t 7)⟩,
  ⟨none, (some 12), .ext 1 (.t 7)⟩,
  ⟨none, (some 5), .mv (.t 11)⟩,
  ⟨none, (some 6), .mv (.t 12)⟩]
noncomputable def r2 : List In := [⟨none, (some 13), .mv (.t 5)⟩,
  ⟨none, (some 14), .mv (.t 6)⟩,
  ⟨none, (some 3), .mv (.t 13)⟩,
  ⟨none, (some 4), .mv (.t 14)⟩]
@[reducible] noncomputable def c0 : IC := .seq (.reg r2) .ret
@[reducible] noncomputable def c1 : IC := .seq (.reg r1) c0
@[reducible] noncomputable def c2 : IC := .seq (.reg r0) c1
@[reducible] noncomputable def code : IC := c2
def res : List RV := [.tmp 3, .tmp 4]
theorem rs : type_of% (And.intro r0.eq_1 <| And.intro r1.eq_1 <| r2.eq_1) := And.intro r0.eq_1 <| And.intro r1.eq_1 <| r2.eq_1
theorem fn : Body Tryz.prog 24 15 code res := ⟨by decide, Tryz.f24, _, Tryz.func24, rfl, rfl, by kernel_rfl, by kernel_rfl⟩
theorem enters : X9 Tryz.prog 24 = true := by kernel_rfl
end Vb
end Go.Proofs.YtccjjcdjgibilaaGreatDoor
