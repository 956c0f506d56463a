/- The small code of functions, and that it is theirs: printed by a program over the seat's translation. -/
import Derived.Test.YtjochhncheheaaaGreatDoorVcGc
import Derived.Test.YtjochhncheheaaaGreatDoorChecked
import Derived.KernelRfl
namespace Go.Proofs.YtjochhncheheaaaGreatDoor
open Vc
namespace Ur
def r0 : List In := [⟨none, (some 2), .mv (.k (.a (.bool false)))⟩]
def r1 : List In := [⟨none, (some 3), .mv (.t 0)⟩,
  ⟨none, (some 4), .sidx (.t 3) (.k (.a (.int .i64 0)))⟩,
  ⟨none, (some 5), .bin .eql (.t 4) (.k (.a (.int .u8 46)))⟩,
  ⟨none, (some 2), .mv (.t 5)⟩]
@[reducible] def c0 : IC := .seq (.reg r1) .ret
@[reducible] def c1 : IC := .seq (.reg r0) c0
@[reducible] def code : IC := c1
def res : List RV := [.tmp 2]
theorem rs : type_of% (And.intro r0.eq_1 <| r1.eq_1) := And.intro r0.eq_1 <| r1.eq_1
theorem fn : Body Tryz.prog 24 6 code res := ⟨by decide, Tryz.f24, _, Tryz.func24, rfl, rfl, by kernel_rfl, by kernel_rfl⟩
theorem enters : Zu Tryz.prog 24 = true := by kernel_rfl
end Ur
namespace Z0
noncomputable def r0 : List In := [⟨none, (some 2), .mv (.k (.a (.raw (.map none))))⟩,
  ⟨none, (some 3), .alloc 32 [.int .i64 0, .int .i64 0]⟩]
noncomputable def r1 : List In := [⟨none, (some 14), .mv (.t 0)⟩,
  ⟨none, (some 15), .len (.t 14)⟩,
  ⟨none, (some 16), .bin .gtr (.t 15) (.k (.a (.int .i64 400)))⟩]
noncomputable def r2 : List In := [⟨none, (some 17), .build [.int .i64 0, .int .i64 0] [(0, 1, (.k (.a (.int .i64 5))))]⟩,
  ⟨none, (some 2), .mv (.k (.a (.raw (.map none))))⟩,
  ⟨none, none, .store 2 (.t 3) (.t 17)⟩]
@[reducible] noncomputable def c0 : IC := .seq (.reg r2) .ret
@[reducible] noncomputable def c1 : IC := .cond (.t 16) c0 .skip
@[reducible] noncomputable def c2 : IC := .seq (.reg r1) c1
noncomputable def r3 : List In := [⟨none, (some 18), .mkmap Tryz.prog 9 3 (.int .i64)⟩,
  ⟨none, (some 4), .mv (.t 18)⟩]
noncomputable def r4 : List In := [⟨none, (some 19), .mv (.t 0)⟩,
  ⟨none, (some 20), .len (.t 19)⟩,
  ⟨none, (some 21), .mv (.k (.a (.int .i64 0)))⟩]
noncomputable def r5 : List In := [⟨none, (some 22), .bin .lss (.t 21) (.t 20)⟩]
@[reducible] noncomputable def c3 : IC := .cond (.t 22) .skip (.exit 0)
noncomputable def r6 : List In := [⟨none, (some 23), .mv (.t 21)⟩,
  ⟨none, (some 24), .iaddr 2 (.t 19) (.t 21)⟩,
  ⟨none, (some 25), .load 2 true (.t 24)⟩,
  ⟨none, (some 6), .alloc 36 [.str [], .raw (.slice none 0 0)]⟩,
  ⟨none, (some 5), .mv (.t 23)⟩,
  ⟨none, none, .store 2 (.t 6) (.t 25)⟩]
noncomputable def r7 : List In := [⟨none, (some 26), .faddr 1 (.t 6)⟩,
  ⟨none, (some 27), .load 1 false (.t 26)⟩,
  ⟨none, (some 28), .len (.t 27)⟩,
  ⟨none, (some 29), .bin .gtr (.t 28) (.k (.a (.int .i64 40000)))⟩]
noncomputable def r8 : List In := [⟨none, (some 30), .mv (.t 5)⟩,
  ⟨none, (some 31), .build [.int .i64 0, .int .i64 0] [(0, 1, (.k (.a (.int .i64 5)))), (1, 1, (.t 30))]⟩,
  ⟨none, (some 2), .mv (.k (.a (.raw (.map none))))⟩,
  ⟨none, none, .store 2 (.t 3) (.t 31)⟩]
@[reducible] noncomputable def c4 : IC := .seq (.reg r8) .ret
@[reducible] noncomputable def c5 : IC := .cond (.t 29) c4 .skip
@[reducible] noncomputable def c6 : IC := .seq (.reg r7) c5
noncomputable def r9 : List In := [⟨none, (some 33), .faddr 1 (.t 6)⟩,
  ⟨none, (some 34), .load 1 false (.t 33)⟩,
  ⟨none, (some 35), .call 23 [(.t 34), (.k (.a (.int .i64 0)))]⟩,
  ⟨none, (some 32), .mv (.t 35)⟩,
  ⟨none, (some 36), .ext 0 (.t 32)⟩,
  ⟨none, (some 37), .ext 1 (.t 32)⟩,
  ⟨none, (some 38), .ext 2 (.t 32)⟩,
  ⟨none, (some 9), .alloc 32 [.int .i64 0, .int .i64 0]⟩,
  ⟨none, (some 7), .mv (.t 36)⟩,
  ⟨none, (some 8), .mv (.t 37)⟩,
  ⟨none, none, .store 2 (.t 9) (.t 38)⟩]
noncomputable def r10 : List In := [⟨none, (some 39), .faddr 0 (.t 9)⟩,
  ⟨none, (some 40), .load 1 false (.t 39)⟩,
  ⟨none, (some 41), .bin .neq (.t 40) (.k (.a (.int .i64 0)))⟩]
noncomputable def r11 : List In := [⟨none, (some 42), .faddr 0 (.t 9)⟩,
  ⟨none, (some 43), .load 1 false (.t 42)⟩,
  ⟨none, (some 44), .mv (.t 5)⟩,
  ⟨none, (some 45), .build [.int .i64 0, .int .i64 0] [(0, 1, (.t 43)), (1, 1, (.t 44))]⟩,
  ⟨none, (some 2), .mv (.k (.a (.raw (.map none))))⟩]
noncomputable def r12 : List In := [⟨none, none, .store 2 (.t 3) (.t 45)⟩]
@[reducible] noncomputable def c7 : IC := .seq (.dregt r11 r12) .ret
@[reducible] noncomputable def c8 : IC := .cond (.t 41) c7 .skip
@[reducible] noncomputable def c9 : IC := .seq (.reg r10) c8
noncomputable def r13 : List In := [⟨none, (some 46), .mv (.t 7)⟩,
  ⟨none, (some 47), .len (.t 46)⟩,
  ⟨none, (some 48), .mv (.k (.a (.int .i64 0)))⟩]
noncomputable def r14 : List In := [⟨none, (some 49), .bin .lss (.t 48) (.t 47)⟩]
@[reducible] noncomputable def c10 : IC := .cond (.t 49) .skip (.exit 2)
noncomputable def r15 : List In := [⟨none, (some 50), .iaddr 2 (.t 46) (.t 48)⟩,
  ⟨none, (some 51), .load 2 true (.t 50)⟩,
  ⟨none, (some 11), .alloc 79 [.str [], .int .i64 0]⟩,
  ⟨none, none, .store 2 (.t 11) (.t 51)⟩]
noncomputable def r16 : List In := [⟨none, (some 52), .faddr 0 (.t 11)⟩,
  ⟨none, (some 53), .load 1 false (.t 52)⟩,
  ⟨none, (some 54), .call 24 [(.t 53)]⟩]
@[reducible] noncomputable def c11 : IC := .cond (.t 54) (.exit 3) .skip
@[reducible] noncomputable def c12 : IC := .seq (.reg r16) c11
noncomputable def r17 : List In := [⟨none, (some 56), .mv (.t 4)⟩,
  ⟨none, (some 57), .faddr 0 (.t 11)⟩,
  ⟨none, (some 58), .load 1 false (.t 57)⟩,
  ⟨none, (some 59), .mlook Tryz.prog 9 3 (.int .i64) true (.t 56) (.t 58)⟩,
  ⟨none, (some 55), .mv (.t 59)⟩,
  ⟨none, (some 60), .ext 0 (.t 55)⟩,
  ⟨none, (some 61), .ext 1 (.t 55)⟩,
  ⟨none, (some 12), .mv (.t 60)⟩,
  ⟨none, (some 13), .mv (.t 61)⟩]
noncomputable def r18 : List In := [⟨none, (some 62), .mv (.t 13)⟩]
noncomputable def r19 : List In := [⟨none, (some 63), .mv (.t 5)⟩,
  ⟨none, (some 64), .build [.int .i64 0, .int .i64 0] [(0, 1, (.k (.a (.int .i64 7)))), (1, 1, (.t 63))]⟩,
  ⟨none, (some 2), .mv (.k (.a (.raw (.map none))))⟩,
  ⟨none, none, .store 2 (.t 3) (.t 64)⟩]
@[reducible] noncomputable def c13 : IC := .seq (.reg r19) .ret
@[reducible] noncomputable def c14 : IC := .cond (.t 62) c13 .skip
@[reducible] noncomputable def c15 : IC := .seq (.reg r18) c14
@[reducible] noncomputable def c16 : IC := .seq (.reg r17) c15
noncomputable def r20 : List In := [⟨none, (some 65), .mv (.t 4)⟩,
  ⟨none, (some 66), .faddr 0 (.t 11)⟩,
  ⟨none, (some 67), .load 1 false (.t 66)⟩,
  ⟨none, (some 68), .mv (.t 5)⟩,
  ⟨none, none, .mupd Tryz.prog 9 3 (.int .i64) (.t 65) (.t 67) (.t 68)⟩]
@[reducible] noncomputable def c17 : IC := .seq c16 (.reg r20)
@[reducible] noncomputable def c18 : IC := .seq c12 c17
@[reducible] noncomputable def c19 : IC := .seq (.reg r15) c18
@[reducible] noncomputable def c20 : IC := .block 3 c19
noncomputable def r21 : List In := [⟨none, (some 69), .bin .add (.t 48) (.k (.a (.int .i64 1)))⟩,
  ⟨none, (some 48), .mv (.t 69)⟩]
@[reducible] noncomputable def c21 : IC := .seq c20 (.reg r21)
@[reducible] noncomputable def c22 : IC := .seq c10 c21
@[reducible] noncomputable def c23 : IC := .seq (.reg r14) c22
@[reducible] noncomputable def c24 : IC := .loop c23
@[reducible] noncomputable def c25 : IC := .block 2 c24
@[reducible] noncomputable def c26 : IC := .seq (.reg r13) c25
@[reducible] noncomputable def c27 : IC := .seq c9 c26
@[reducible] noncomputable def c28 : IC := .seq (.reg r9) c27
@[reducible] noncomputable def c29 : IC := .seq c6 c28
@[reducible] noncomputable def c30 : IC := .seq (.reg r6) c29
@[reducible] noncomputable def c31 : IC := .block 1 c30
noncomputable def r22 : List In := [⟨none, (some 70), .bin .add (.t 21) (.k (.a (.int .i64 1)))⟩,
  ⟨none, (some 21), .mv (.t 70)⟩]
@[reducible] noncomputable def c32 : IC := .seq c31 (.reg r22)
@[reducible] noncomputable def c33 : IC := .seq c3 c32
@[reducible] noncomputable def c34 : IC := .seq (.reg r5) c33
@[reducible] noncomputable def c35 : IC := .loop c34
@[reducible] noncomputable def c36 : IC := .block 0 c35
@[reducible] noncomputable def c37 : IC := .seq (.reg r4) c36
noncomputable def r23 : List In := [⟨none, (some 71), .mv (.t 4)⟩,
  ⟨none, (some 72), .build [.int .i64 0, .int .i64 0] []⟩,
  ⟨none, (some 2), .mv (.t 71)⟩,
  ⟨none, none, .store 2 (.t 3) (.t 72)⟩]
@[reducible] noncomputable def c38 : IC := .seq (.reg r23) .ret
@[reducible] noncomputable def c39 : IC := .seq c37 c38
@[reducible] noncomputable def c40 : IC := .seq (.reg r3) c39
@[reducible] noncomputable def c41 : IC := .seq c2 c40
@[reducible] noncomputable def c42 : IC := .seq (.reg r0) c41
@[reducible] noncomputable def code : IC := c42
def res : List RV := [.tmp 2, .cell 3 2 true]
theorem rs : type_of% (And.intro r0.eq_1 <| And.intro r1.eq_1 <| And.intro r2.eq_1 <| And.intro r3.eq_1 <| And.intro r4.eq_1 <| And.intro r5.eq_1 <| And.intro r6.eq_1 <| And.intro r7.eq_1 <| And.intro r8.eq_1 <| And.intro r9.eq_1 <| And.intro r10.eq_1 <| And.intro r11.eq_1 <| And.intro r12.eq_1 <| And.intro r13.eq_1 <| And.intro r14.eq_1 <| And.intro r15.eq_1 <| And.intro r16.eq_1 <| And.intro r17.eq_1 <| And.intro r18.eq_1 <| And.intro r19.eq_1 <| And.intro r20.eq_1 <| And.intro r21.eq_1 <| And.intro r22.eq_1 <| r23.eq_1) := And.intro r0.eq_1 <| And.intro r1.eq_1 <| And.intro r2.eq_1 <| And.intro r3.eq_1 <| And.intro r4.eq_1 <| And.intro r5.eq_1 <| And.intro r6.eq_1 <| And.intro r7.eq_1 <| And.intro r8.eq_1 <| And.intro r9.eq_1 <| And.intro r10.eq_1 <| And.intro r11.eq_1 <| And.intro r12.eq_1 <| And.intro r13.eq_1 <| And.intro r14.eq_1 <| And.intro r15.eq_1 <| And.intro r16.eq_1 <| And.intro r17.eq_1 <| And.intro r18.eq_1 <| And.intro r19.eq_1 <| And.intro r20.eq_1 <| And.intro r21.eq_1 <| And.intro r22.eq_1 <| r23.eq_1
theorem fn : Body Tryz.prog 22 73 code res := ⟨by decide, Tryz.f22, _, Tryz.func22, rfl, rfl, by kernel_rfl, by kernel_rfl⟩
theorem enters : Zu Tryz.prog 22 = true := by kernel_rfl
end Z0
namespace Zl
noncomputable def r0 : List In := [⟨none, (some 4), .alloc 44 [.raw (.slice none 0 0), .raw (.slice none 0 0), .raw (.slice none 0 0)]⟩,
  ⟨none, (some 5), .alloc 32 [.int .i64 0, .int .i64 0]⟩]
noncomputable def r1 : List In := [⟨none, (some 34), .mv (.t 0)⟩,
  ⟨none, (some 35), .call 22 [(.t 34)]⟩,
  ⟨none, (some 33), .mv (.t 35)⟩,
  ⟨none, (some 36), .ext 0 (.t 33)⟩,
  ⟨none, (some 37), .ext 1 (.t 33)⟩,
  ⟨none, (some 7), .alloc 32 [.int .i64 0, .int .i64 0]⟩,
  ⟨none, (some 6), .mv (.t 36)⟩,
  ⟨none, none, .store 2 (.t 7) (.t 37)⟩]
noncomputable def r2 : List In := [⟨none, (some 38), .faddr 0 (.t 7)⟩,
  ⟨none, (some 39), .load 1 false (.t 38)⟩,
  ⟨none, (some 40), .bin .neq (.t 39) (.k (.a (.int .i64 0)))⟩]
noncomputable def r3 : DT := (.take ⟨none, (some 41), .build [.raw (.slice none 0 0), .raw (.slice none 0 0), .raw (.slice none 0 0)] []⟩ false
  (.alt ⟨none, (some 42), .load 2 true (.t 7)⟩ false
  (.alt ⟨none, none, .store 3 (.t 4) (.t 41)⟩ false
  (.alt ⟨none, none, .store 2 (.t 5) (.t 42)⟩ false
  .done
  .stop)
  .stop)
  (.alt ⟨none, none, .store 3 (.t 4) (.t 41)⟩ false
  (.alt ⟨none, (some 42), .load 2 true (.t 7)⟩ false
  (.alt ⟨none, none, .store 2 (.t 5) (.t 42)⟩ false
  .done
  .stop)
  .stop)
  .stop)))
@[reducible] noncomputable def c0 : IC := .seq (.dany r3) .ret
@[reducible] noncomputable def c1 : IC := .cond (.t 40) c0 .skip
@[reducible] noncomputable def c2 : IC := .seq (.reg r2) c1
noncomputable def r4 : List In := [⟨none, (some 44), .mv (.t 6)⟩,
  ⟨none, (some 45), .mv (.t 1)⟩,
  ⟨none, (some 46), .mlook Tryz.prog 9 3 (.int .i64) true (.t 44) (.t 45)⟩,
  ⟨none, (some 43), .mv (.t 46)⟩,
  ⟨none, (some 47), .ext 0 (.t 43)⟩,
  ⟨none, (some 48), .ext 1 (.t 43)⟩,
  ⟨none, (some 8), .mv (.t 47)⟩,
  ⟨none, (some 9), .mv (.t 48)⟩]
noncomputable def r5 : List In := [⟨none, (some 49), .mv (.t 9)⟩,
  ⟨none, (some 50), .un .not (.t 49)⟩]
noncomputable def r6 : List In := [⟨none, (some 51), .build [.raw (.slice none 0 0), .raw (.slice none 0 0), .raw (.slice none 0 0)] []⟩,
  ⟨none, (some 52), .mv (.t 0)⟩,
  ⟨none, (some 53), .len (.t 52)⟩,
  ⟨none, (some 54), .build [.int .i64 0, .int .i64 0] [(0, 1, (.k (.a (.int .i64 6)))), (1, 1, (.t 53))]⟩,
  ⟨none, none, .store 3 (.t 4) (.t 51)⟩,
  ⟨none, none, .store 2 (.t 5) (.t 54)⟩]
@[reducible] noncomputable def c3 : IC := .seq (.reg r6) .ret
@[reducible] noncomputable def c4 : IC := .cond (.t 50) c3 .skip
@[reducible] noncomputable def c5 : IC := .seq (.reg r5) c4
noncomputable def r7 : List In := [⟨none, (some 10), .alloc 44 [.raw (.slice none 0 0), .raw (.slice none 0 0), .raw (.slice none 0 0)]⟩]
noncomputable def r8 : List In := [⟨none, (some 55), .mkmap Tryz.prog 9 3 (.int .i64)⟩,
  ⟨none, (some 11), .alloc 71 [.raw (.map none)]⟩,
  ⟨none, none, .store 1 (.t 11) (.t 55)⟩]
noncomputable def r9 : List In := [⟨none, (some 12), .mv (.k (.a (.int .i64 0)))⟩]
noncomputable def r10 : List In := [⟨none, (some 56), .mv (.t 8)⟩,
  ⟨none, (some 57), .bsl 3 1 1 [.int .i64 0] [(0, 1, (.t 56))]⟩,
  ⟨none, (some 58), .faddr 1 (.t 10)⟩,
  ⟨none, none, .store 1 (.t 58) (.t 57)⟩]
noncomputable def r11 : List In := [⟨none, (some 13), .mv (.k (.a (.int .i64 0)))⟩]
noncomputable def r12 : List In := [⟨none, (some 59), .mv (.t 13)⟩,
  ⟨none, (some 60), .faddr 1 (.t 10)⟩,
  ⟨none, (some 61), .load 1 false (.t 60)⟩,
  ⟨none, (some 62), .len (.t 61)⟩,
  ⟨none, (some 63), .bin .lss (.t 59) (.t 62)⟩]
@[reducible] noncomputable def c6 : IC := .cond (.t 63) .skip (.exit 0)
@[reducible] noncomputable def c7 : IC := .seq (.reg r12) c6
noncomputable def r13 : List In := [⟨none, (some 66), .faddr 1 (.t 10)⟩,
  ⟨none, (some 67), .load 1 false (.t 66)⟩,
  ⟨none, (some 68), .mv (.t 13)⟩,
  ⟨none, (some 69), .iaddr 1 (.t 67) (.t 68)⟩,
  ⟨none, (some 70), .load 1 false (.t 69)⟩,
  ⟨none, (some 14), .mv (.t 70)⟩]
noncomputable def r14 : List In := [⟨none, (some 72), .mv (.t 0)⟩,
  ⟨none, (some 73), .mv (.t 14)⟩,
  ⟨none, (some 74), .iaddr 2 (.t 72) (.t 73)⟩,
  ⟨none, (some 75), .faddr 1 (.t 74)⟩,
  ⟨none, (some 76), .load 1 false (.t 75)⟩,
  ⟨none, (some 77), .mv (.t 12)⟩,
  ⟨none, (some 78), .call 23 [(.t 76), (.t 77)]⟩,
  ⟨none, (some 71), .mv (.t 78)⟩,
  ⟨none, (some 79), .ext 0 (.t 71)⟩,
  ⟨none, (some 80), .ext 1 (.t 71)⟩,
  ⟨none, (some 81), .ext 2 (.t 71)⟩,
  ⟨none, (some 17), .alloc 32 [.int .i64 0, .int .i64 0]⟩,
  ⟨none, (some 15), .mv (.t 79)⟩,
  ⟨none, (some 16), .mv (.t 80)⟩,
  ⟨none, none, .store 2 (.t 17) (.t 81)⟩]
noncomputable def r15 : List In := [⟨none, (some 82), .faddr 0 (.t 17)⟩,
  ⟨none, (some 83), .load 1 false (.t 82)⟩,
  ⟨none, (some 84), .bin .neq (.t 83) (.k (.a (.int .i64 0)))⟩]
noncomputable def r16 : DT := (.take ⟨none, (some 85), .build [.raw (.slice none 0 0), .raw (.slice none 0 0), .raw (.slice none 0 0)] []⟩ false
  (.take ⟨none, (some 88), .mv (.t 14)⟩ false
  (.alt ⟨none, (some 86), .faddr 0 (.t 17)⟩ false
  (.alt ⟨none, (some 87), .load 1 false (.t 86)⟩ false
  (.take ⟨none, (some 89), .build [.int .i64 0, .int .i64 0] [(0, 1, (.t 87)), (1, 1, (.t 88))]⟩ false
  (.alt ⟨none, none, .store 3 (.t 4) (.t 85)⟩ false
  (.alt ⟨none, none, .store 2 (.t 5) (.t 89)⟩ false
  .done
  .stop)
  .stop))
  (.alt ⟨none, none, .store 3 (.t 4) (.t 85)⟩ false
  (.alt ⟨none, (some 87), .load 1 false (.t 86)⟩ false
  (.take ⟨none, (some 89), .build [.int .i64 0, .int .i64 0] [(0, 1, (.t 87)), (1, 1, (.t 88))]⟩ false
  (.alt ⟨none, none, .store 2 (.t 5) (.t 89)⟩ false
  .done
  .stop))
  .stop)
  .stop))
  (.alt ⟨none, none, .store 3 (.t 4) (.t 85)⟩ false
  (.alt ⟨none, (some 86), .faddr 0 (.t 17)⟩ false
  (.alt ⟨none, (some 87), .load 1 false (.t 86)⟩ false
  (.take ⟨none, (some 89), .build [.int .i64 0, .int .i64 0] [(0, 1, (.t 87)), (1, 1, (.t 88))]⟩ false
  (.alt ⟨none, none, .store 2 (.t 5) (.t 89)⟩ false
  .done
  .stop))
  .stop)
  .stop)
  .stop))))
@[reducible] noncomputable def c8 : IC := .seq (.dany r16) .ret
@[reducible] noncomputable def c9 : IC := .cond (.t 84) c8 .skip
@[reducible] noncomputable def c10 : IC := .seq (.reg r15) c9
noncomputable def r17 : List In := [⟨none, (some 90), .mv (.t 15)⟩,
  ⟨none, (some 91), .len (.t 90)⟩,
  ⟨none, (some 92), .mv (.k (.a (.int .i64 0)))⟩]
noncomputable def r18 : List In := [⟨none, (some 93), .bin .lss (.t 92) (.t 91)⟩]
@[reducible] noncomputable def c11 : IC := .cond (.t 93) .skip (.exit 2)
noncomputable def r19 : List In := [⟨none, (some 94), .iaddr 2 (.t 90) (.t 92)⟩,
  ⟨none, (some 95), .load 2 true (.t 94)⟩,
  ⟨none, (some 19), .alloc 79 [.str [], .int .i64 0]⟩,
  ⟨none, none, .store 2 (.t 19) (.t 95)⟩]
noncomputable def r20 : List In := [⟨none, (some 96), .faddr 0 (.t 19)⟩,
  ⟨none, (some 97), .load 1 false (.t 96)⟩,
  ⟨none, (some 98), .call 24 [(.t 97)]⟩,
  ⟨none, (some 99), .un .not (.t 98)⟩]
noncomputable def r21 : List In := [⟨none, (some 100), .load 1 false (.t 11)⟩,
  ⟨none, (some 101), .faddr 0 (.t 19)⟩,
  ⟨none, (some 102), .load 1 false (.t 101)⟩,
  ⟨none, (some 103), .faddr 1 (.t 19)⟩,
  ⟨none, (some 104), .load 1 false (.t 103)⟩,
  ⟨none, none, .mupd Tryz.prog 9 3 (.int .i64) (.t 100) (.t 102) (.t 104)⟩]
noncomputable def r22 : List In := [⟨none, (some 105), .faddr 2 (.t 10)⟩,
  ⟨none, (some 106), .load 1 false (.t 105)⟩,
  ⟨none, (some 107), .load 2 true (.t 19)⟩,
  ⟨none, (some 108), .bsl 79 2 1 [.str [], .int .i64 0] [(0, 2, (.t 107))]⟩,
  ⟨none, (some 109), .app 42 79 2 24 (.t 106) (.t 108)⟩,
  ⟨none, (some 110), .faddr 2 (.t 10)⟩,
  ⟨none, none, .store 1 (.t 110) (.t 109)⟩]
@[reducible] noncomputable def c12 : IC := .seq (.reg r21) (.reg r22)
@[reducible] noncomputable def c13 : IC := .cond (.t 99) c12 .skip
@[reducible] noncomputable def c14 : IC := .seq (.reg r20) c13
@[reducible] noncomputable def c15 : IC := .seq (.reg r19) c14
@[reducible] noncomputable def c16 : IC := .block 3 c15
noncomputable def r23 : List In := [⟨none, (some 111), .bin .add (.t 92) (.k (.a (.int .i64 1)))⟩,
  ⟨none, (some 92), .mv (.t 111)⟩]
@[reducible] noncomputable def c17 : IC := .seq c16 (.reg r23)
@[reducible] noncomputable def c18 : IC := .seq c11 c17
@[reducible] noncomputable def c19 : IC := .seq (.reg r18) c18
@[reducible] noncomputable def c20 : IC := .loop c19
@[reducible] noncomputable def c21 : IC := .block 2 c20
@[reducible] noncomputable def c22 : IC := .seq (.reg r17) c21
noncomputable def r24 : List In := [⟨none, (some 112), .mv (.t 16)⟩,
  ⟨none, (some 12), .mv (.t 112)⟩]
noncomputable def r25 : List In := [⟨none, (some 113), .mv (.t 0)⟩,
  ⟨none, (some 114), .mv (.t 14)⟩,
  ⟨none, (some 115), .iaddr 2 (.t 113) (.t 114)⟩,
  ⟨none, (some 116), .faddr 1 (.t 115)⟩,
  ⟨none, (some 117), .load 1 false (.t 116)⟩,
  ⟨none, (some 118), .len (.t 117)⟩,
  ⟨none, (some 119), .mv (.k (.a (.int .i64 0)))⟩]
noncomputable def r26 : List In := [⟨none, (some 120), .bin .lss (.t 119) (.t 118)⟩]
@[reducible] noncomputable def c23 : IC := .cond (.t 120) .skip (.exit 4)
noncomputable def r27 : List In := [⟨none, (some 121), .iaddr 6 (.t 117) (.t 119)⟩,
  ⟨none, (some 122), .load 6 true (.t 121)⟩,
  ⟨none, (some 21), .alloc 40 [.str [], .int .i64 0, .int .i64 0, .int .i64 0, .int .i64 0, .str []]⟩,
  ⟨none, none, .store 6 (.t 21) (.t 122)⟩]
noncomputable def r28 : List In := [⟨none, (some 123), .faddr 5 (.t 21)⟩,
  ⟨none, (some 124), .load 1 false (.t 123)⟩,
  ⟨none, (some 125), .bin .eql (.t 124) (.k (.a (.str [])))⟩]
@[reducible] noncomputable def c24 : IC := .cond (.t 125) (.exit 5) .skip
@[reducible] noncomputable def c25 : IC := .seq (.reg r28) c24
noncomputable def r29 : List In := [⟨none, (some 127), .mv (.t 6)⟩,
  ⟨none, (some 128), .faddr 5 (.t 21)⟩,
  ⟨none, (some 129), .load 1 false (.t 128)⟩,
  ⟨none, (some 130), .mlook Tryz.prog 9 3 (.int .i64) true (.t 127) (.t 129)⟩,
  ⟨none, (some 126), .mv (.t 130)⟩,
  ⟨none, (some 131), .ext 0 (.t 126)⟩,
  ⟨none, (some 132), .ext 1 (.t 126)⟩,
  ⟨none, (some 22), .mv (.t 131)⟩,
  ⟨none, (some 23), .mv (.t 132)⟩]
noncomputable def r30 : List In := [⟨none, (some 133), .faddr 5 (.t 21)⟩,
  ⟨none, (some 134), .load 1 false (.t 133)⟩,
  ⟨none, (some 135), .call 24 [(.t 134)]⟩]
noncomputable def r31 : List In := [⟨none, (some 136), .mv (.t 14)⟩,
  ⟨none, (some 137), .mv (.t 15)⟩,
  ⟨none, (some 138), .mkf 26 [(.t 21)]⟩,
  ⟨none, (some 139), .call 25 [(.t 137), (.t 138)]⟩,
  ⟨none, (some 22), .mv (.t 136)⟩,
  ⟨none, (some 23), .mv (.t 139)⟩]
@[reducible] noncomputable def c26 : IC := .cond (.t 135) (.reg r31) .skip
@[reducible] noncomputable def c27 : IC := .seq (.reg r30) c26
noncomputable def r32 : List In := [⟨none, (some 140), .mv (.t 23)⟩,
  ⟨none, (some 141), .un .not (.t 140)⟩]
noncomputable def r33 : List In := [⟨none, (some 142), .build [.raw (.slice none 0 0), .raw (.slice none 0 0), .raw (.slice none 0 0)] []⟩,
  ⟨none, (some 143), .mv (.t 14)⟩,
  ⟨none, (some 144), .build [.int .i64 0, .int .i64 0] [(0, 1, (.k (.a (.int .i64 6)))), (1, 1, (.t 143))]⟩,
  ⟨none, none, .store 3 (.t 4) (.t 142)⟩,
  ⟨none, none, .store 2 (.t 5) (.t 144)⟩]
@[reducible] noncomputable def c28 : IC := .seq (.reg r33) .ret
@[reducible] noncomputable def c29 : IC := .cond (.t 141) c28 .skip
@[reducible] noncomputable def c30 : IC := .seq (.reg r32) c29
noncomputable def r34 : List In := [⟨none, (some 145), .faddr 1 (.t 10)⟩,
  ⟨none, (some 146), .load 1 false (.t 145)⟩,
  ⟨none, (some 147), .mv (.t 22)⟩,
  ⟨none, (some 148), .call 27 [(.t 146), (.t 147)]⟩,
  ⟨none, (some 149), .un .not (.t 148)⟩]
noncomputable def r35 : List In := [⟨none, (some 150), .faddr 1 (.t 10)⟩,
  ⟨none, (some 151), .load 1 false (.t 150)⟩,
  ⟨none, (some 152), .mv (.t 22)⟩,
  ⟨none, (some 153), .bsl 3 1 1 [.int .i64 0] [(0, 1, (.t 152))]⟩,
  ⟨none, (some 154), .app 41 3 1 8 (.t 151) (.t 153)⟩,
  ⟨none, (some 155), .faddr 1 (.t 10)⟩,
  ⟨none, none, .store 1 (.t 155) (.t 154)⟩]
@[reducible] noncomputable def c31 : IC := .cond (.t 149) (.reg r35) .skip
@[reducible] noncomputable def c32 : IC := .seq (.reg r34) c31
@[reducible] noncomputable def c33 : IC := .seq c30 c32
@[reducible] noncomputable def c34 : IC := .seq c27 c33
@[reducible] noncomputable def c35 : IC := .seq (.reg r29) c34
@[reducible] noncomputable def c36 : IC := .seq c25 c35
@[reducible] noncomputable def c37 : IC := .seq (.reg r27) c36
@[reducible] noncomputable def c38 : IC := .block 5 c37
noncomputable def r36 : List In := [⟨none, (some 156), .bin .add (.t 119) (.k (.a (.int .i64 1)))⟩,
  ⟨none, (some 119), .mv (.t 156)⟩]
@[reducible] noncomputable def c39 : IC := .seq c38 (.reg r36)
@[reducible] noncomputable def c40 : IC := .seq c23 c39
@[reducible] noncomputable def c41 : IC := .seq (.reg r26) c40
@[reducible] noncomputable def c42 : IC := .loop c41
@[reducible] noncomputable def c43 : IC := .block 4 c42
@[reducible] noncomputable def c44 : IC := .seq (.reg r25) c43
@[reducible] noncomputable def c45 : IC := .seq (.reg r24) c44
@[reducible] noncomputable def c46 : IC := .seq c22 c45
@[reducible] noncomputable def c47 : IC := .seq c10 c46
@[reducible] noncomputable def c48 : IC := .seq (.reg r14) c47
@[reducible] noncomputable def c49 : IC := .seq (.reg r13) c48
@[reducible] noncomputable def c50 : IC := .block 1 c49
noncomputable def r37 : List In := [⟨none, (some 64), .mv (.t 13)⟩,
  ⟨none, (some 65), .bin .add (.t 64) (.k (.a (.int .i64 1)))⟩,
  ⟨none, (some 13), .mv (.t 65)⟩]
@[reducible] noncomputable def c51 : IC := .seq c50 (.reg r37)
@[reducible] noncomputable def c52 : IC := .seq c7 c51
@[reducible] noncomputable def c53 : IC := .loop c52
@[reducible] noncomputable def c54 : IC := .block 0 c53
@[reducible] noncomputable def c55 : IC := .seq (.reg r11) c54
noncomputable def r38 : List In := [⟨none, (some 12), .mv (.k (.a (.int .i64 0)))⟩]
noncomputable def r39 : List In := [⟨none, (some 157), .faddr 1 (.t 10)⟩,
  ⟨none, (some 158), .load 1 false (.t 157)⟩,
  ⟨none, (some 159), .len (.t 158)⟩,
  ⟨none, (some 160), .mv (.k (.a (.int .i64 0)))⟩]
noncomputable def r40 : List In := [⟨none, (some 161), .bin .lss (.t 160) (.t 159)⟩]
@[reducible] noncomputable def c56 : IC := .cond (.t 161) .skip (.exit 6)
noncomputable def r41 : List In := [⟨none, (some 162), .iaddr 1 (.t 158) (.t 160)⟩,
  ⟨none, (some 163), .load 1 false (.t 162)⟩,
  ⟨none, (some 25), .mv (.t 163)⟩]
noncomputable def r42 : List In := [⟨none, (some 165), .mv (.t 0)⟩,
  ⟨none, (some 166), .mv (.t 25)⟩,
  ⟨none, (some 167), .iaddr 2 (.t 165) (.t 166)⟩,
  ⟨none, (some 168), .faddr 1 (.t 167)⟩,
  ⟨none, (some 169), .load 1 false (.t 168)⟩,
  ⟨none, (some 170), .mv (.t 12)⟩,
  ⟨none, (some 171), .call 23 [(.t 169), (.t 170)]⟩,
  ⟨none, (some 164), .mv (.t 171)⟩,
  ⟨none, (some 172), .ext 0 (.t 164)⟩,
  ⟨none, (some 173), .ext 1 (.t 164)⟩,
  ⟨none, (some 174), .ext 2 (.t 164)⟩,
  ⟨none, (some 26), .alloc 42 [.raw (.slice none 0 0)]⟩,
  ⟨none, (some 28), .alloc 32 [.int .i64 0, .int .i64 0]⟩,
  ⟨none, none, .store 1 (.t 26) (.t 172)⟩,
  ⟨none, (some 27), .mv (.t 173)⟩,
  ⟨none, none, .store 2 (.t 28) (.t 174)⟩]
noncomputable def r43 : List In := [⟨none, (some 176), .mv (.t 0)⟩,
  ⟨none, (some 177), .mv (.t 25)⟩,
  ⟨none, (some 178), .iaddr 2 (.t 176) (.t 177)⟩,
  ⟨none, (some 179), .faddr 1 (.t 178)⟩,
  ⟨none, (some 180), .load 1 false (.t 179)⟩,
  ⟨none, (some 181), .mkf 29 [(.t 11), (.t 26)]⟩,
  ⟨none, (some 182), .call 28 [(.t 180), (.t 181)]⟩,
  ⟨none, (some 175), .mv (.t 182)⟩,
  ⟨none, (some 183), .ext 0 (.t 175)⟩,
  ⟨none, (some 184), .ext 1 (.t 175)⟩,
  ⟨none, (some 30), .alloc 32 [.int .i64 0, .int .i64 0]⟩,
  ⟨none, (some 29), .mv (.t 183)⟩,
  ⟨none, none, .store 2 (.t 30) (.t 184)⟩]
noncomputable def r44 : List In := [⟨none, (some 186), .mv (.t 29)⟩,
  ⟨none, (some 187), .call 32 [(.t 186)]⟩,
  ⟨none, (some 185), .mv (.t 187)⟩,
  ⟨none, (some 188), .ext 0 (.t 185)⟩,
  ⟨none, (some 189), .ext 1 (.t 185)⟩,
  ⟨none, (some 32), .alloc 32 [.int .i64 0, .int .i64 0]⟩,
  ⟨none, (some 31), .mv (.t 188)⟩,
  ⟨none, none, .store 2 (.t 32) (.t 189)⟩]
noncomputable def r45 : List In := [⟨none, (some 190), .faddr 0 (.t 10)⟩,
  ⟨none, (some 191), .load 1 false (.t 190)⟩,
  ⟨none, (some 192), .mv (.t 31)⟩,
  ⟨none, (some 193), .app 41 3 1 8 (.t 191) (.t 192)⟩,
  ⟨none, (some 194), .faddr 0 (.t 10)⟩,
  ⟨none, none, .store 1 (.t 194) (.t 193)⟩]
noncomputable def r46 : List In := [⟨none, (some 195), .mv (.t 27)⟩,
  ⟨none, (some 12), .mv (.t 195)⟩]
@[reducible] noncomputable def c57 : IC := .seq (.reg r45) (.reg r46)
@[reducible] noncomputable def c58 : IC := .seq (.reg r44) c57
@[reducible] noncomputable def c59 : IC := .seq (.reg r43) c58
@[reducible] noncomputable def c60 : IC := .seq (.reg r42) c59
@[reducible] noncomputable def c61 : IC := .seq (.reg r41) c60
@[reducible] noncomputable def c62 : IC := .block 7 c61
noncomputable def r47 : List In := [⟨none, (some 196), .bin .add (.t 160) (.k (.a (.int .i64 1)))⟩,
  ⟨none, (some 160), .mv (.t 196)⟩]
@[reducible] noncomputable def c63 : IC := .seq c62 (.reg r47)
@[reducible] noncomputable def c64 : IC := .seq c56 c63
@[reducible] noncomputable def c65 : IC := .seq (.reg r40) c64
@[reducible] noncomputable def c66 : IC := .loop c65
@[reducible] noncomputable def c67 : IC := .block 6 c66
@[reducible] noncomputable def c68 : IC := .seq (.reg r39) c67
noncomputable def r48 : List In := [⟨none, (some 197), .load 3 true (.t 10)⟩,
  ⟨none, (some 198), .build [.int .i64 0, .int .i64 0] []⟩,
  ⟨none, none, .store 3 (.t 4) (.t 197)⟩,
  ⟨none, none, .store 2 (.t 5) (.t 198)⟩]
@[reducible] noncomputable def c69 : IC := .seq (.reg r48) .ret
@[reducible] noncomputable def c70 : IC := .seq c68 c69
@[reducible] noncomputable def c71 : IC := .seq (.reg r38) c70
@[reducible] noncomputable def c72 : IC := .seq c55 c71
@[reducible] noncomputable def c73 : IC := .seq (.reg r10) c72
@[reducible] noncomputable def c74 : IC := .seq (.reg r9) c73
@[reducible] noncomputable def c75 : IC := .seq (.reg r8) c74
@[reducible] noncomputable def c76 : IC := .seq (.reg r7) c75
@[reducible] noncomputable def c77 : IC := .seq c5 c76
@[reducible] noncomputable def c78 : IC := .seq (.reg r4) c77
@[reducible] noncomputable def c79 : IC := .seq c2 c78
@[reducible] noncomputable def c80 : IC := .seq (.reg r1) c79
@[reducible] noncomputable def c81 : IC := .seq (.reg r0) c80
@[reducible] noncomputable def code : IC := c81
def res : List RV := [.cell 4 3 true, .cell 5 2 true]
theorem rs : type_of% (And.intro r0.eq_1 <| And.intro r1.eq_1 <| And.intro r2.eq_1 <| And.intro r3.eq_1 <| And.intro r4.eq_1 <| And.intro r5.eq_1 <| And.intro r6.eq_1 <| And.intro r7.eq_1 <| And.intro r8.eq_1 <| And.intro r9.eq_1 <| And.intro r10.eq_1 <| And.intro r11.eq_1 <| And.intro r12.eq_1 <| And.intro r13.eq_1 <| And.intro r14.eq_1 <| And.intro r15.eq_1 <| And.intro r16.eq_1 <| And.intro r17.eq_1 <| And.intro r18.eq_1 <| And.intro r19.eq_1 <| And.intro r20.eq_1 <| And.intro r21.eq_1 <| And.intro r22.eq_1 <| And.intro r23.eq_1 <| And.intro r24.eq_1 <| And.intro r25.eq_1 <| And.intro r26.eq_1 <| And.intro r27.eq_1 <| And.intro r28.eq_1 <| And.intro r29.eq_1 <| And.intro r30.eq_1 <| And.intro r31.eq_1 <| And.intro r32.eq_1 <| And.intro r33.eq_1 <| And.intro r34.eq_1 <| And.intro r35.eq_1 <| And.intro r36.eq_1 <| And.intro r37.eq_1 <| And.intro r38.eq_1 <| And.intro r39.eq_1 <| And.intro r40.eq_1 <| And.intro r41.eq_1 <| And.intro r42.eq_1 <| And.intro r43.eq_1 <| And.intro r44.eq_1 <| And.intro r45.eq_1 <| And.intro r46.eq_1 <| And.intro r47.eq_1 <| r48.eq_1) := And.intro r0.eq_1 <| And.intro r1.eq_1 <| And.intro r2.eq_1 <| And.intro r3.eq_1 <| And.intro r4.eq_1 <| And.intro r5.eq_1 <| And.intro r6.eq_1 <| And.intro r7.eq_1 <| And.intro r8.eq_1 <| And.intro r9.eq_1 <| And.intro r10.eq_1 <| And.intro r11.eq_1 <| And.intro r12.eq_1 <| And.intro r13.eq_1 <| And.intro r14.eq_1 <| And.intro r15.eq_1 <| And.intro r16.eq_1 <| And.intro r17.eq_1 <| And.intro r18.eq_1 <| And.intro r19.eq_1 <| And.intro r20.eq_1 <| And.intro r21.eq_1 <| And.intro r22.eq_1 <| And.intro r23.eq_1 <| And.intro r24.eq_1 <| And.intro r25.eq_1 <| And.intro r26.eq_1 <| And.intro r27.eq_1 <| And.intro r28.eq_1 <| And.intro r29.eq_1 <| And.intro r30.eq_1 <| And.intro r31.eq_1 <| And.intro r32.eq_1 <| And.intro r33.eq_1 <| And.intro r34.eq_1 <| And.intro r35.eq_1 <| And.intro r36.eq_1 <| And.intro r37.eq_1 <| And.intro r38.eq_1 <| And.intro r39.eq_1 <| And.intro r40.eq_1 <| And.intro r41.eq_1 <| And.intro r42.eq_1 <| And.intro r43.eq_1 <| And.intro r44.eq_1 <| And.intro r45.eq_1 <| And.intro r46.eq_1 <| And.intro r47.eq_1 <| r48.eq_1
theorem fn : Body Tryz.prog 12 199 code res := ⟨by decide, Tryz.f12, _, Tryz.func12, rfl, rfl, by kernel_rfl, by kernel_rfl⟩
theorem enters : Zu Tryz.prog 12 = true := by kernel_rfl
end Zl
namespace W0
def r0 : List In := [⟨none, (some 2), .box 79 (.t 0)⟩,
  ⟨none, (some 3), .mv (.k (.a (.bool false)))⟩]
def r1 : List In := [⟨none, (some 4), .faddr 0 (.t 2)⟩,
  ⟨none, (some 5), .load 1 false (.t 4)⟩,
  ⟨none, (some 6), .faddr 5 (.t 1)⟩,
  ⟨none, (some 7), .load 1 false (.t 6)⟩,
  ⟨none, (some 8), .bin .eql (.t 5) (.t 7)⟩,
  ⟨none, (some 3), .mv (.t 8)⟩]
@[reducible] def c0 : IC := .seq (.reg r1) .ret
@[reducible] def c1 : IC := .seq (.reg r0) c0
@[reducible] def code : IC := c1
def res : List RV := [.tmp 3]
theorem rs : type_of% (And.intro r0.eq_1 <| r1.eq_1) := And.intro r0.eq_1 <| r1.eq_1
theorem fn : Body Tryz.prog 26 9 code res := ⟨by decide, Tryz.f26, _, Tryz.func26, rfl, rfl, by kernel_rfl, by kernel_rfl⟩
theorem enters : Zu Tryz.prog 26 = true := by kernel_rfl
end W0
namespace X0
noncomputable def r0 : List In := [⟨none, (some 3), .box 9 (.t 0)⟩,
  ⟨none, (some 4), .mv (.k (.a (.int .i64 0)))⟩,
  ⟨none, (some 5), .mv (.k (.a (.bool false)))⟩]
noncomputable def r1 : List In := [⟨none, (some 7), .load 1 false (.t 3)⟩,
  ⟨none, (some 8), .call 24 [(.t 7)]⟩,
  ⟨none, (some 9), .un .not (.t 8)⟩]
noncomputable def r2 : List In := [⟨none, (some 10), .load 1 false (.t 1)⟩,
  ⟨none, (some 11), .load 1 false (.t 3)⟩,
  ⟨none, (some 12), .mlook Tryz.prog 9 3 (.int .i64) false (.t 10) (.t 11)⟩,
  ⟨none, (some 4), .mv (.t 12)⟩,
  ⟨none, (some 5), .mv (.k (.a (.bool true)))⟩]
@[reducible] noncomputable def c0 : IC := .seq (.reg r2) .ret
@[reducible] noncomputable def c1 : IC := .cond (.t 9) c0 .skip
@[reducible] noncomputable def c2 : IC := .seq (.reg r1) c1
noncomputable def r3 : List In := [⟨none, (some 13), .load 1 false (.t 2)⟩,
  ⟨none, (some 14), .mkf 31 [(.t 3)]⟩,
  ⟨none, (some 15), .call 30 [(.t 13), (.t 14)]⟩,
  ⟨none, (some 6), .mv (.t 15)⟩]
noncomputable def r4 : List In := [⟨none, (some 16), .load 1 false (.t 2)⟩,
  ⟨none, (some 17), .mv (.t 6)⟩,
  ⟨none, (some 18), .iaddr 2 (.t 16) (.t 17)⟩,
  ⟨none, (some 19), .faddr 1 (.t 18)⟩,
  ⟨none, (some 20), .load 1 false (.t 19)⟩,
  ⟨none, (some 4), .mv (.t 20)⟩,
  ⟨none, (some 5), .mv (.k (.a (.bool true)))⟩]
@[reducible] noncomputable def c3 : IC := .seq (.reg r4) .ret
@[reducible] noncomputable def c4 : IC := .seq (.reg r3) c3
@[reducible] noncomputable def c5 : IC := .seq c2 c4
@[reducible] noncomputable def c6 : IC := .seq (.reg r0) c5
@[reducible] noncomputable def code : IC := c6
def res : List RV := [.tmp 4, .tmp 5]
theorem rs : type_of% (And.intro r0.eq_1 <| And.intro r1.eq_1 <| And.intro r2.eq_1 <| And.intro r3.eq_1 <| r4.eq_1) := And.intro r0.eq_1 <| And.intro r1.eq_1 <| And.intro r2.eq_1 <| And.intro r3.eq_1 <| r4.eq_1
theorem fn : Body Tryz.prog 29 21 code res := ⟨by decide, Tryz.f29, _, Tryz.func29, rfl, rfl, by kernel_rfl, by kernel_rfl⟩
theorem enters : Zu Tryz.prog 29 = true := by kernel_rfl
end X0
namespace Wd
def r0 : List In := [⟨none, (some 2), .box 79 (.t 0)⟩,
  ⟨none, (some 3), .mv (.k (.a (.bool false)))⟩]
def r1 : List In := [⟨none, (some 4), .faddr 0 (.t 2)⟩,
  ⟨none, (some 5), .load 1 false (.t 4)⟩,
  ⟨none, (some 6), .load 1 false (.t 1)⟩,
  ⟨none, (some 7), .bin .eql (.t 5) (.t 6)⟩,
  ⟨none, (some 3), .mv (.t 7)⟩]
@[reducible] def c0 : IC := .seq (.reg r1) .ret
@[reducible] def c1 : IC := .seq (.reg r0) c0
@[reducible] def code : IC := c1
def res : List RV := [.tmp 3]
theorem rs : type_of% (And.intro r0.eq_1 <| r1.eq_1) := And.intro r0.eq_1 <| r1.eq_1
theorem fn : Body Tryz.prog 31 8 code res := ⟨by decide, Tryz.f31, _, Tryz.func31, rfl, rfl, by kernel_rfl, by kernel_rfl⟩
theorem enters : Zu Tryz.prog 31 = true := by kernel_rfl
end Wd
namespace Zz
def r0 : List In := [⟨none, (some 4), .mv (.k (.a (.bool false)))⟩]
def r1 : List In := [⟨none, (some 5), .mv (.t 0)⟩,
  ⟨none, (some 6), .mv (.t 1)⟩,
  ⟨none, (some 7), .call 30 [(.t 5), (.t 6)]⟩,
  ⟨none, (some 8), .bin .geq (.t 7) (.k (.a (.int .i64 0)))⟩,
  ⟨none, (some 4), .mv (.t 8)⟩]
@[reducible] def c0 : IC := .seq (.reg r1) .ret
@[reducible] def c1 : IC := .seq (.reg r0) c0
@[reducible] def code : IC := c1
def res : List RV := [.tmp 4]
theorem rs : type_of% (And.intro r0.eq_1 <| r1.eq_1) := And.intro r0.eq_1 <| r1.eq_1
theorem fn : Body Tryz.prog 25 9 code res := ⟨by decide, Tryz.f25, _, Tryz.func25, rfl, rfl, by kernel_rfl, by kernel_rfl⟩
theorem enters : Zu Tryz.prog 25 = true := by kernel_rfl
end Zz
namespace Xd
def r0 : List In := [⟨none, (some 4), .mv (.k (.a (.bool false)))⟩]
def r1 : List In := [⟨none, (some 5), .mv (.t 0)⟩,
  ⟨none, (some 6), .mv (.t 1)⟩,
  ⟨none, (some 7), .call 75 [(.t 5), (.t 6)]⟩,
  ⟨none, (some 8), .bin .geq (.t 7) (.k (.a (.int .i64 0)))⟩,
  ⟨none, (some 4), .mv (.t 8)⟩]
@[reducible] def c0 : IC := .seq (.reg r1) .ret
@[reducible] def c1 : IC := .seq (.reg r0) c0
@[reducible] def code : IC := c1
def res : List RV := [.tmp 4]
theorem rs : type_of% (And.intro r0.eq_1 <| r1.eq_1) := And.intro r0.eq_1 <| r1.eq_1
theorem fn : Body Tryz.prog 27 9 code res := ⟨by decide, Tryz.f27, _, Tryz.func27, rfl, rfl, by kernel_rfl, by kernel_rfl⟩
theorem enters : Zu Tryz.prog 27 = true := by kernel_rfl
end Xd
namespace Zf
def r0 : List In := [⟨none, (some 4), .mv (.k (.a (.int .i64 0)))⟩]
def r1 : List In := [⟨none, (some 6), .mv (.t 0)⟩,
  ⟨none, (some 7), .len (.t 6)⟩,
  ⟨none, (some 8), .mv (.k (.a (.int .i64 0)))⟩]
def r2 : List In := [⟨none, (some 9), .bin .lss (.t 8) (.t 7)⟩]
@[reducible] def c0 : IC := .cond (.t 9) .skip (.exit 0)
def r3 : List In := [⟨none, (some 10), .mv (.t 8)⟩,
  ⟨none, (some 5), .mv (.t 10)⟩]
def r4 : List In := [⟨none, (some 11), .mv (.t 1)⟩,
  ⟨none, (some 12), .mv (.t 0)⟩,
  ⟨none, (some 13), .mv (.t 5)⟩,
  ⟨none, (some 14), .iaddr 2 (.t 12) (.t 13)⟩,
  ⟨none, (some 15), .load 2 true (.t 14)⟩,
  ⟨none, (some 16), .callv (.t 11) [(.t 15)]⟩]
def r5 : List In := [⟨none, (some 17), .mv (.t 5)⟩,
  ⟨none, (some 4), .mv (.t 17)⟩]
@[reducible] def c1 : IC := .seq (.reg r5) .ret
@[reducible] def c2 : IC := .cond (.t 16) c1 .skip
@[reducible] def c3 : IC := .seq (.reg r4) c2
@[reducible] def c4 : IC := .seq (.reg r3) c3
@[reducible] def c5 : IC := .block 1 c4
def r6 : List In := [⟨none, (some 18), .bin .add (.t 8) (.k (.a (.int .i64 1)))⟩,
  ⟨none, (some 8), .mv (.t 18)⟩]
@[reducible] def c6 : IC := .seq c5 (.reg r6)
@[reducible] def c7 : IC := .seq c0 c6
@[reducible] def c8 : IC := .seq (.reg r2) c7
@[reducible] def c9 : IC := .loop c8
@[reducible] def c10 : IC := .block 0 c9
@[reducible] def c11 : IC := .seq (.reg r1) c10
def r7 : List In := [⟨none, (some 4), .mv (.k (.a (.int .i64 (-1))))⟩]
@[reducible] def c12 : IC := .seq (.reg r7) .ret
@[reducible] def c13 : IC := .seq c11 c12
@[reducible] def c14 : IC := .seq (.reg r0) c13
@[reducible] def code : IC := c14
def res : List RV := [.tmp 4]
theorem rs : type_of% (And.intro r0.eq_1 <| And.intro r1.eq_1 <| And.intro r2.eq_1 <| And.intro r3.eq_1 <| And.intro r4.eq_1 <| And.intro r5.eq_1 <| And.intro r6.eq_1 <| r7.eq_1) := And.intro r0.eq_1 <| And.intro r1.eq_1 <| And.intro r2.eq_1 <| And.intro r3.eq_1 <| And.intro r4.eq_1 <| And.intro r5.eq_1 <| And.intro r6.eq_1 <| r7.eq_1
theorem fn : Body Tryz.prog 30 19 code res := ⟨by decide, Tryz.f30, _, Tryz.func30, rfl, rfl, by kernel_rfl, by kernel_rfl⟩
theorem enters : Zu Tryz.prog 30 = true := by kernel_rfl
end Zf
namespace Z9
def r0 : List In := [⟨none, (some 4), .mv (.k (.a (.int .i64 0)))⟩]
def r1 : List In := [⟨none, (some 6), .mv (.t 0)⟩,
  ⟨none, (some 7), .len (.t 6)⟩,
  ⟨none, (some 8), .mv (.k (.a (.int .i64 0)))⟩]
def r2 : List In := [⟨none, (some 9), .bin .lss (.t 8) (.t 7)⟩]
@[reducible] def c0 : IC := .cond (.t 9) .skip (.exit 0)
def r3 : List In := [⟨none, (some 10), .mv (.t 8)⟩,
  ⟨none, (some 5), .mv (.t 10)⟩]
def r4 : List In := [⟨none, (some 11), .mv (.t 1)⟩,
  ⟨none, (some 12), .mv (.t 0)⟩,
  ⟨none, (some 13), .mv (.t 5)⟩,
  ⟨none, (some 14), .iaddr 1 (.t 12) (.t 13)⟩,
  ⟨none, (some 15), .load 1 false (.t 14)⟩,
  ⟨none, (some 16), .bin .eql (.t 11) (.t 15)⟩]
def r5 : List In := [⟨none, (some 17), .mv (.t 5)⟩,
  ⟨none, (some 4), .mv (.t 17)⟩]
@[reducible] def c1 : IC := .seq (.reg r5) .ret
@[reducible] def c2 : IC := .cond (.t 16) c1 .skip
@[reducible] def c3 : IC := .seq (.reg r4) c2
@[reducible] def c4 : IC := .seq (.reg r3) c3
@[reducible] def c5 : IC := .block 1 c4
def r6 : List In := [⟨none, (some 18), .bin .add (.t 8) (.k (.a (.int .i64 1)))⟩,
  ⟨none, (some 8), .mv (.t 18)⟩]
@[reducible] def c6 : IC := .seq c5 (.reg r6)
@[reducible] def c7 : IC := .seq c0 c6
@[reducible] def c8 : IC := .seq (.reg r2) c7
@[reducible] def c9 : IC := .loop c8
@[reducible] def c10 : IC := .block 0 c9
@[reducible] def c11 : IC := .seq (.reg r1) c10
def r7 : List In := [⟨none, (some 4), .mv (.k (.a (.int .i64 (-1))))⟩]
@[reducible] def c12 : IC := .seq (.reg r7) .ret
@[reducible] def c13 : IC := .seq c11 c12
@[reducible] def c14 : IC := .seq (.reg r0) c13
@[reducible] def code : IC := c14
def res : List RV := [.tmp 4]
theorem rs : type_of% (And.intro r0.eq_1 <| And.intro r1.eq_1 <| And.intro r2.eq_1 <| And.intro r3.eq_1 <| And.intro r4.eq_1 <| And.intro r5.eq_1 <| And.intro r6.eq_1 <| r7.eq_1) := And.intro r0.eq_1 <| And.intro r1.eq_1 <| And.intro r2.eq_1 <| And.intro r3.eq_1 <| And.intro r4.eq_1 <| And.intro r5.eq_1 <| And.intro r6.eq_1 <| r7.eq_1
theorem fn : Body Tryz.prog 75 19 code res := ⟨by decide, Tryz.f75, _, Tryz.func75, rfl, rfl, by kernel_rfl, by kernel_rfl⟩
theorem enters : Zu Tryz.prog 75 = true := by kernel_rfl
end Z9
end Go.Proofs.YtjochhncheheaaaGreatDoor
