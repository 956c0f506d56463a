/- The small code of functions, and that it is theirs: printed by a program over the seat's translation. -/
import Derived.Test.YtibkcfpcfbodaaaVcGf
import Derived.Test.YtibkcfpcfbodaaaChecked
import Derived.KernelRfl
namespace Go.Proofs.Ytibkcfpcfbodaaa
open Vc
namespace Sf
def r0 : List In := [⟨none, (some 2), .mv (.k (.a (.bool false)))⟩]
def r1 : List In := [⟨none, (some 3), .mv (.t 0)⟩,
  ⟨none, (some 4), .sidx (.t 3) (.k (.a (.int .i64 0)))⟩,
  ⟨none, (some 5), .bin .eql (.t 4) (.k (.a (.int .u8 46)))⟩,
  ⟨none, (some 2), .mv (.t 5)⟩]
@[reducible] def c0 : IC := .seq (.reg r1) .ret
@[reducible] def c1 : IC := .seq (.reg r0) c0
@[reducible] def code : IC := c1
def res : List RV := [.tmp 2]
theorem rs : type_of% (And.intro r0.eq_1 <| r1.eq_1) := And.intro r0.eq_1 <| r1.eq_1
theorem fn : Body Try.prog 21 6 code res := ⟨by decide, Try.f21, _, Try.func21, rfl, rfl, by kernel_rfl, by kernel_rfl⟩
theorem enters : Xw Try.prog 21 = true := by kernel_rfl
end Sf
namespace Xy
noncomputable def r0 : List In := [⟨none, (some 2), .mv (.k (.a (.raw (.map none))))⟩,
  ⟨none, (some 3), .alloc 29 [.int .i64 0, .int .i64 0]⟩]
noncomputable def r1 : List In := [⟨none, (some 14), .mv (.t 0)⟩,
  ⟨none, (some 15), .len (.t 14)⟩,
  ⟨none, (some 16), .bin .gtr (.t 15) (.k (.a (.int .i64 400)))⟩]
noncomputable def r2 : List In := [⟨none, (some 17), .build [.int .i64 0, .int .i64 0] [(0, 1, (.k (.a (.int .i64 5))))]⟩,
  ⟨none, (some 2), .mv (.k (.a (.raw (.map none))))⟩,
  ⟨none, none, .store 2 (.t 3) (.t 17)⟩]
@[reducible] noncomputable def c0 : IC := .seq (.reg r2) .ret
@[reducible] noncomputable def c1 : IC := .cond (.t 16) c0 .skip
@[reducible] noncomputable def c2 : IC := .seq (.reg r1) c1
noncomputable def r3 : List In := [⟨none, (some 18), .mkmap Try.prog 9 3 (.int .i64)⟩,
  ⟨none, (some 4), .mv (.t 18)⟩]
noncomputable def r4 : List In := [⟨none, (some 19), .mv (.t 0)⟩,
  ⟨none, (some 20), .len (.t 19)⟩,
  ⟨none, (some 21), .mv (.k (.a (.int .i64 0)))⟩]
noncomputable def r5 : List In := [⟨none, (some 22), .bin .lss (.t 21) (.t 20)⟩]
@[reducible] noncomputable def c3 : IC := .cond (.t 22) .skip (.exit 0)
noncomputable def r6 : List In := [⟨none, (some 23), .mv (.t 21)⟩,
  ⟨none, (some 24), .iaddr 2 (.t 19) (.t 21)⟩,
  ⟨none, (some 25), .load 2 true (.t 24)⟩,
  ⟨none, (some 6), .alloc 39 [.str [], .raw (.slice none 0 0)]⟩,
  ⟨none, (some 5), .mv (.t 23)⟩,
  ⟨none, none, .store 2 (.t 6) (.t 25)⟩]
noncomputable def r7 : List In := [⟨none, (some 26), .faddr 1 (.t 6)⟩,
  ⟨none, (some 27), .load 1 false (.t 26)⟩,
  ⟨none, (some 28), .len (.t 27)⟩,
  ⟨none, (some 29), .bin .gtr (.t 28) (.k (.a (.int .i64 40000)))⟩]
noncomputable def r8 : List In := [⟨none, (some 30), .mv (.t 5)⟩,
  ⟨none, (some 31), .build [.int .i64 0, .int .i64 0] [(0, 1, (.k (.a (.int .i64 5)))), (1, 1, (.t 30))]⟩,
  ⟨none, (some 2), .mv (.k (.a (.raw (.map none))))⟩,
  ⟨none, none, .store 2 (.t 3) (.t 31)⟩]
@[reducible] noncomputable def c4 : IC := .seq (.reg r8) .ret
@[reducible] noncomputable def c5 : IC := .cond (.t 29) c4 .skip
@[reducible] noncomputable def c6 : IC := .seq (.reg r7) c5
noncomputable def r9 : List In := [⟨none, (some 33), .faddr 1 (.t 6)⟩,
  ⟨none, (some 34), .load 1 false (.t 33)⟩,
  ⟨none, (some 35), .call 20 [(.t 34), (.k (.a (.int .i64 0)))]⟩,
  ⟨none, (some 32), .mv (.t 35)⟩,
  ⟨none, (some 36), .ext 0 (.t 32)⟩,
  ⟨none, (some 37), .ext 1 (.t 32)⟩,
  ⟨none, (some 38), .ext 2 (.t 32)⟩,
  ⟨none, (some 9), .alloc 29 [.int .i64 0, .int .i64 0]⟩,
  ⟨none, (some 7), .mv (.t 36)⟩,
  ⟨none, (some 8), .mv (.t 37)⟩,
  ⟨none, none, .store 2 (.t 9) (.t 38)⟩]
noncomputable def r10 : List In := [⟨none, (some 39), .faddr 0 (.t 9)⟩,
  ⟨none, (some 40), .load 1 false (.t 39)⟩,
  ⟨none, (some 41), .bin .neq (.t 40) (.k (.a (.int .i64 0)))⟩]
noncomputable def r11 : List In := [⟨none, (some 42), .faddr 0 (.t 9)⟩,
  ⟨none, (some 43), .load 1 false (.t 42)⟩,
  ⟨none, (some 44), .mv (.t 5)⟩,
  ⟨none, (some 45), .build [.int .i64 0, .int .i64 0] [(0, 1, (.t 43)), (1, 1, (.t 44))]⟩,
  ⟨none, (some 2), .mv (.k (.a (.raw (.map none))))⟩]
noncomputable def r12 : List In := [⟨none, none, .store 2 (.t 3) (.t 45)⟩]
@[reducible] noncomputable def c7 : IC := .seq (.dregt r11 r12) .ret
@[reducible] noncomputable def c8 : IC := .cond (.t 41) c7 .skip
@[reducible] noncomputable def c9 : IC := .seq (.reg r10) c8
noncomputable def r13 : List In := [⟨none, (some 46), .mv (.t 7)⟩,
  ⟨none, (some 47), .len (.t 46)⟩,
  ⟨none, (some 48), .mv (.k (.a (.int .i64 0)))⟩]
noncomputable def r14 : List In := [⟨none, (some 49), .bin .lss (.t 48) (.t 47)⟩]
@[reducible] noncomputable def c10 : IC := .cond (.t 49) .skip (.exit 2)
noncomputable def r15 : List In := [⟨none, (some 50), .iaddr 2 (.t 46) (.t 48)⟩,
  ⟨none, (some 51), .load 2 true (.t 50)⟩,
  ⟨none, (some 11), .alloc 54 [.str [], .int .i64 0]⟩,
  ⟨none, none, .store 2 (.t 11) (.t 51)⟩]
noncomputable def r16 : List In := [⟨none, (some 52), .faddr 0 (.t 11)⟩,
  ⟨none, (some 53), .load 1 false (.t 52)⟩,
  ⟨none, (some 54), .call 21 [(.t 53)]⟩]
@[reducible] noncomputable def c11 : IC := .cond (.t 54) (.exit 3) .skip
@[reducible] noncomputable def c12 : IC := .seq (.reg r16) c11
noncomputable def r17 : List In := [⟨none, (some 56), .mv (.t 4)⟩,
  ⟨none, (some 57), .faddr 0 (.t 11)⟩,
  ⟨none, (some 58), .load 1 false (.t 57)⟩,
  ⟨none, (some 59), .mlook Try.prog 9 3 (.int .i64) true (.t 56) (.t 58)⟩,
  ⟨none, (some 55), .mv (.t 59)⟩,
  ⟨none, (some 60), .ext 0 (.t 55)⟩,
  ⟨none, (some 61), .ext 1 (.t 55)⟩,
  ⟨none, (some 12), .mv (.t 60)⟩,
  ⟨none, (some 13), .mv (.t 61)⟩]
noncomputable def r18 : List In := [⟨none, (some 62), .mv (.t 13)⟩]
noncomputable def r19 : List In := [⟨none, (some 63), .mv (.t 5)⟩,
  ⟨none, (some 64), .build [.int .i64 0, .int .i64 0] [(0, 1, (.k (.a (.int .i64 7)))), (1, 1, (.t 63))]⟩,
  ⟨none, (some 2), .mv (.k (.a (.raw (.map none))))⟩,
  ⟨none, none, .store 2 (.t 3) (.t 64)⟩]
@[reducible] noncomputable def c13 : IC := .seq (.reg r19) .ret
@[reducible] noncomputable def c14 : IC := .cond (.t 62) c13 .skip
@[reducible] noncomputable def c15 : IC := .seq (.reg r18) c14
@[reducible] noncomputable def c16 : IC := .seq (.reg r17) c15
noncomputable def r20 : List In := [⟨none, (some 65), .mv (.t 4)⟩,
  ⟨none, (some 66), .faddr 0 (.t 11)⟩,
  ⟨none, (some 67), .load 1 false (.t 66)⟩,
  ⟨none, (some 68), .mv (.t 5)⟩,
  ⟨none, none, .mupd Try.prog 9 3 (.int .i64) (.t 65) (.t 67) (.t 68)⟩]
@[reducible] noncomputable def c17 : IC := .seq c16 (.reg r20)
@[reducible] noncomputable def c18 : IC := .seq c12 c17
@[reducible] noncomputable def c19 : IC := .seq (.reg r15) c18
@[reducible] noncomputable def c20 : IC := .block 3 c19
noncomputable def r21 : List In := [⟨none, (some 69), .bin .add (.t 48) (.k (.a (.int .i64 1)))⟩,
  ⟨none, (some 48), .mv (.t 69)⟩]
@[reducible] noncomputable def c21 : IC := .seq c20 (.reg r21)
@[reducible] noncomputable def c22 : IC := .seq c10 c21
@[reducible] noncomputable def c23 : IC := .seq (.reg r14) c22
@[reducible] noncomputable def c24 : IC := .loop c23
@[reducible] noncomputable def c25 : IC := .block 2 c24
@[reducible] noncomputable def c26 : IC := .seq (.reg r13) c25
@[reducible] noncomputable def c27 : IC := .seq c9 c26
@[reducible] noncomputable def c28 : IC := .seq (.reg r9) c27
@[reducible] noncomputable def c29 : IC := .seq c6 c28
@[reducible] noncomputable def c30 : IC := .seq (.reg r6) c29
@[reducible] noncomputable def c31 : IC := .block 1 c30
noncomputable def r22 : List In := [⟨none, (some 70), .bin .add (.t 21) (.k (.a (.int .i64 1)))⟩,
  ⟨none, (some 21), .mv (.t 70)⟩]
@[reducible] noncomputable def c32 : IC := .seq c31 (.reg r22)
@[reducible] noncomputable def c33 : IC := .seq c3 c32
@[reducible] noncomputable def c34 : IC := .seq (.reg r5) c33
@[reducible] noncomputable def c35 : IC := .loop c34
@[reducible] noncomputable def c36 : IC := .block 0 c35
@[reducible] noncomputable def c37 : IC := .seq (.reg r4) c36
noncomputable def r23 : List In := [⟨none, (some 71), .mv (.t 4)⟩,
  ⟨none, (some 72), .build [.int .i64 0, .int .i64 0] []⟩,
  ⟨none, (some 2), .mv (.t 71)⟩,
  ⟨none, none, .store 2 (.t 3) (.t 72)⟩]
@[reducible] noncomputable def c38 : IC := .seq (.reg r23) .ret
@[reducible] noncomputable def c39 : IC := .seq c37 c38
@[reducible] noncomputable def c40 : IC := .seq (.reg r3) c39
@[reducible] noncomputable def c41 : IC := .seq c2 c40
@[reducible] noncomputable def c42 : IC := .seq (.reg r0) c41
@[reducible] noncomputable def code : IC := c42
def res : List RV := [.tmp 2, .cell 3 2 true]
theorem rs : type_of% (And.intro r0.eq_1 <| And.intro r1.eq_1 <| And.intro r2.eq_1 <| And.intro r3.eq_1 <| And.intro r4.eq_1 <| And.intro r5.eq_1 <| And.intro r6.eq_1 <| And.intro r7.eq_1 <| And.intro r8.eq_1 <| And.intro r9.eq_1 <| And.intro r10.eq_1 <| And.intro r11.eq_1 <| And.intro r12.eq_1 <| And.intro r13.eq_1 <| And.intro r14.eq_1 <| And.intro r15.eq_1 <| And.intro r16.eq_1 <| And.intro r17.eq_1 <| And.intro r18.eq_1 <| And.intro r19.eq_1 <| And.intro r20.eq_1 <| And.intro r21.eq_1 <| And.intro r22.eq_1 <| r23.eq_1) := And.intro r0.eq_1 <| And.intro r1.eq_1 <| And.intro r2.eq_1 <| And.intro r3.eq_1 <| And.intro r4.eq_1 <| And.intro r5.eq_1 <| And.intro r6.eq_1 <| And.intro r7.eq_1 <| And.intro r8.eq_1 <| And.intro r9.eq_1 <| And.intro r10.eq_1 <| And.intro r11.eq_1 <| And.intro r12.eq_1 <| And.intro r13.eq_1 <| And.intro r14.eq_1 <| And.intro r15.eq_1 <| And.intro r16.eq_1 <| And.intro r17.eq_1 <| And.intro r18.eq_1 <| And.intro r19.eq_1 <| And.intro r20.eq_1 <| And.intro r21.eq_1 <| And.intro r22.eq_1 <| r23.eq_1
theorem fn : Body Try.prog 19 73 code res := ⟨by decide, Try.f19, _, Try.func19, rfl, rfl, by kernel_rfl, by kernel_rfl⟩
theorem enters : Xw Try.prog 19 = true := by kernel_rfl
end Xy
namespace Yz
noncomputable def r0 : List In := [⟨none, (some 4), .alloc 26 [.raw (.slice none 0 0), .raw (.slice none 0 0), .raw (.slice none 0 0)]⟩,
  ⟨none, (some 5), .alloc 29 [.int .i64 0, .int .i64 0]⟩]
noncomputable def r1 : List In := [⟨none, (some 34), .mv (.t 0)⟩,
  ⟨none, (some 35), .call 19 [(.t 34)]⟩,
  ⟨none, (some 33), .mv (.t 35)⟩,
  ⟨none, (some 36), .ext 0 (.t 33)⟩,
  ⟨none, (some 37), .ext 1 (.t 33)⟩,
  ⟨none, (some 7), .alloc 29 [.int .i64 0, .int .i64 0]⟩,
  ⟨none, (some 6), .mv (.t 36)⟩,
  ⟨none, none, .store 2 (.t 7) (.t 37)⟩]
noncomputable def r2 : List In := [⟨none, (some 38), .faddr 0 (.t 7)⟩,
  ⟨none, (some 39), .load 1 false (.t 38)⟩,
  ⟨none, (some 40), .bin .neq (.t 39) (.k (.a (.int .i64 0)))⟩]
noncomputable def r3 : DT := (.take ⟨none, (some 41), .build [.raw (.slice none 0 0), .raw (.slice none 0 0), .raw (.slice none 0 0)] []⟩ false
  (.alt ⟨none, (some 42), .load 2 true (.t 7)⟩ false
  (.alt ⟨none, none, .store 3 (.t 4) (.t 41)⟩ false
  (.alt ⟨none, none, .store 2 (.t 5) (.t 42)⟩ false
  .done
  .stop)
  .stop)
  (.alt ⟨none, none, .store 3 (.t 4) (.t 41)⟩ false
  (.alt ⟨none, (some 42), .load 2 true (.t 7)⟩ false
  (.alt ⟨none, none, .store 2 (.t 5) (.t 42)⟩ false
  .done
  .stop)
  .stop)
  .stop)))
@[reducible] noncomputable def c0 : IC := .seq (.dany r3) .ret
@[reducible] noncomputable def c1 : IC := .cond (.t 40) c0 .skip
@[reducible] noncomputable def c2 : IC := .seq (.reg r2) c1
noncomputable def r4 : List In := [⟨none, (some 44), .mv (.t 6)⟩,
  ⟨none, (some 45), .mv (.t 1)⟩,
  ⟨none, (some 46), .mlook Try.prog 9 3 (.int .i64) true (.t 44) (.t 45)⟩,
  ⟨none, (some 43), .mv (.t 46)⟩,
  ⟨none, (some 47), .ext 0 (.t 43)⟩,
  ⟨none, (some 48), .ext 1 (.t 43)⟩,
  ⟨none, (some 8), .mv (.t 47)⟩,
  ⟨none, (some 9), .mv (.t 48)⟩]
noncomputable def r5 : List In := [⟨none, (some 49), .mv (.t 9)⟩,
  ⟨none, (some 50), .un .not (.t 49)⟩]
noncomputable def r6 : List In := [⟨none, (some 51), .build [.raw (.slice none 0 0), .raw (.slice none 0 0), .raw (.slice none 0 0)] []⟩,
  ⟨none, (some 52), .mv (.t 0)⟩,
  ⟨none, (some 53), .len (.t 52)⟩,
  ⟨none, (some 54), .build [.int .i64 0, .int .i64 0] [(0, 1, (.k (.a (.int .i64 6)))), (1, 1, (.t 53))]⟩,
  ⟨none, none, .store 3 (.t 4) (.t 51)⟩,
  ⟨none, none, .store 2 (.t 5) (.t 54)⟩]
@[reducible] noncomputable def c3 : IC := .seq (.reg r6) .ret
@[reducible] noncomputable def c4 : IC := .cond (.t 50) c3 .skip
@[reducible] noncomputable def c5 : IC := .seq (.reg r5) c4
noncomputable def r7 : List In := [⟨none, (some 10), .alloc 26 [.raw (.slice none 0 0), .raw (.slice none 0 0), .raw (.slice none 0 0)]⟩]
noncomputable def r8 : List In := [⟨none, (some 55), .mkmap Try.prog 9 3 (.int .i64)⟩,
  ⟨none, (some 11), .alloc 52 [.raw (.map none)]⟩,
  ⟨none, none, .store 1 (.t 11) (.t 55)⟩]
noncomputable def r9 : List In := [⟨none, (some 12), .mv (.k (.a (.int .i64 0)))⟩]
noncomputable def r10 : List In := [⟨none, (some 56), .mv (.t 8)⟩,
  ⟨none, (some 57), .bsl 3 1 1 [.int .i64 0] [(0, 1, (.t 56))]⟩,
  ⟨none, (some 58), .faddr 1 (.t 10)⟩,
  ⟨none, none, .store 1 (.t 58) (.t 57)⟩]
noncomputable def r11 : List In := [⟨none, (some 13), .mv (.k (.a (.int .i64 0)))⟩]
noncomputable def r12 : List In := [⟨none, (some 59), .mv (.t 13)⟩,
  ⟨none, (some 60), .faddr 1 (.t 10)⟩,
  ⟨none, (some 61), .load 1 false (.t 60)⟩,
  ⟨none, (some 62), .len (.t 61)⟩,
  ⟨none, (some 63), .bin .lss (.t 59) (.t 62)⟩]
@[reducible] noncomputable def c6 : IC := .cond (.t 63) .skip (.exit 0)
@[reducible] noncomputable def c7 : IC := .seq (.reg r12) c6
noncomputable def r13 : List In := [⟨none, (some 66), .faddr 1 (.t 10)⟩,
  ⟨none, (some 67), .load 1 false (.t 66)⟩,
  ⟨none, (some 68), .mv (.t 13)⟩,
  ⟨none, (some 69), .iaddr 1 (.t 67) (.t 68)⟩,
  ⟨none, (some 70), .load 1 false (.t 69)⟩,
  ⟨none, (some 14), .mv (.t 70)⟩]
noncomputable def r14 : List In := [⟨none, (some 72), .mv (.t 0)⟩,
  ⟨none, (some 73), .mv (.t 14)⟩,
  ⟨none, (some 74), .iaddr 2 (.t 72) (.t 73)⟩,
  ⟨none, (some 75), .faddr 1 (.t 74)⟩,
  ⟨none, (some 76), .load 1 false (.t 75)⟩,
  ⟨none, (some 77), .mv (.t 12)⟩,
  ⟨none, (some 78), .call 20 [(.t 76), (.t 77)]⟩,
  ⟨none, (some 71), .mv (.t 78)⟩,
  ⟨none, (some 79), .ext 0 (.t 71)⟩,
  ⟨none, (some 80), .ext 1 (.t 71)⟩,
  ⟨none, (some 81), .ext 2 (.t 71)⟩,
  ⟨none, (some 17), .alloc 29 [.int .i64 0, .int .i64 0]⟩,
  ⟨none, (some 15), .mv (.t 79)⟩,
  ⟨none, (some 16), .mv (.t 80)⟩,
  ⟨none, none, .store 2 (.t 17) (.t 81)⟩]
noncomputable def r15 : List In := [⟨none, (some 82), .faddr 0 (.t 17)⟩,
  ⟨none, (some 83), .load 1 false (.t 82)⟩,
  ⟨none, (some 84), .bin .neq (.t 83) (.k (.a (.int .i64 0)))⟩]
noncomputable def r16 : DT := (.take ⟨none, (some 85), .build [.raw (.slice none 0 0), .raw (.slice none 0 0), .raw (.slice none 0 0)] []⟩ false
  (.take ⟨none, (some 88), .mv (.t 14)⟩ false
  (.alt ⟨none, (some 86), .faddr 0 (.t 17)⟩ false
  (.alt ⟨none, (some 87), .load 1 false (.t 86)⟩ false
  (.take ⟨none, (some 89), .build [.int .i64 0, .int .i64 0] [(0, 1, (.t 87)), (1, 1, (.t 88))]⟩ false
  (.alt ⟨none, none, .store 3 (.t 4) (.t 85)⟩ false
  (.alt ⟨none, none, .store 2 (.t 5) (.t 89)⟩ false
  .done
  .stop)
  .stop))
  (.alt ⟨none, none, .store 3 (.t 4) (.t 85)⟩ false
  (.alt ⟨none, (some 87), .load 1 false (.t 86)⟩ false
  (.take ⟨none, (some 89), .build [.int .i64 0, .int .i64 0] [(0, 1, (.t 87)), (1, 1, (.t 88))]⟩ false
  (.alt ⟨none, none, .store 2 (.t 5) (.t 89)⟩ false
  .done
  .stop))
  .stop)
  .stop))
  (.alt ⟨none, none, .store 3 (.t 4) (.t 85)⟩ false
  (.alt ⟨none, (some 86), .faddr 0 (.t 17)⟩ false
  (.alt ⟨none, (some 87), .load 1 false (.t 86)⟩ false
  (.take ⟨none, (some 89), .build [.int .i64 0, .int .i64 0] [(0, 1, (.t 87)), (1, 1, (.t 88))]⟩ false
  (.alt ⟨none, none, .store 2 (.t 5) (.t 89)⟩ false
  .done
  .stop))
  .stop)
  .stop)
  .stop))))
@[reducible] noncomputable def c8 : IC := .seq (.dany r16) .ret
@[reducible] noncomputable def c9 : IC := .cond (.t 84) c8 .skip
@[reducible] noncomputable def c10 : IC := .seq (.reg r15) c9
noncomputable def r17 : List In := [⟨none, (some 90), .mv (.t 15)⟩,
  ⟨none, (some 91), .len (.t 90)⟩,
  ⟨none, (some 92), .mv (.k (.a (.int .i64 0)))⟩]
noncomputable def r18 : List In := [⟨none, (some 93), .bin .lss (.t 92) (.t 91)⟩]
@[reducible] noncomputable def c11 : IC := .cond (.t 93) .skip (.exit 2)
noncomputable def r19 : List In := [⟨none, (some 94), .iaddr 2 (.t 90) (.t 92)⟩,
  ⟨none, (some 95), .load 2 true (.t 94)⟩,
  ⟨none, (some 19), .alloc 54 [.str [], .int .i64 0]⟩,
  ⟨none, none, .store 2 (.t 19) (.t 95)⟩]
noncomputable def r20 : List In := [⟨none, (some 96), .faddr 0 (.t 19)⟩,
  ⟨none, (some 97), .load 1 false (.t 96)⟩,
  ⟨none, (some 98), .call 21 [(.t 97)]⟩,
  ⟨none, (some 99), .un .not (.t 98)⟩]
noncomputable def r21 : List In := [⟨none, (some 100), .load 1 false (.t 11)⟩,
  ⟨none, (some 101), .faddr 0 (.t 19)⟩,
  ⟨none, (some 102), .load 1 false (.t 101)⟩,
  ⟨none, (some 103), .faddr 1 (.t 19)⟩,
  ⟨none, (some 104), .load 1 false (.t 103)⟩,
  ⟨none, none, .mupd Try.prog 9 3 (.int .i64) (.t 100) (.t 102) (.t 104)⟩]
noncomputable def r22 : List In := [⟨none, (some 105), .faddr 2 (.t 10)⟩,
  ⟨none, (some 106), .load 1 false (.t 105)⟩,
  ⟨none, (some 107), .load 2 true (.t 19)⟩,
  ⟨none, (some 108), .bsl 54 2 1 [.str [], .int .i64 0] [(0, 2, (.t 107))]⟩,
  ⟨none, (some 109), .app 24 54 2 24 (.t 106) (.t 108)⟩,
  ⟨none, (some 110), .faddr 2 (.t 10)⟩,
  ⟨none, none, .store 1 (.t 110) (.t 109)⟩]
@[reducible] noncomputable def c12 : IC := .seq (.reg r21) (.reg r22)
@[reducible] noncomputable def c13 : IC := .cond (.t 99) c12 .skip
@[reducible] noncomputable def c14 : IC := .seq (.reg r20) c13
@[reducible] noncomputable def c15 : IC := .seq (.reg r19) c14
@[reducible] noncomputable def c16 : IC := .block 3 c15
noncomputable def r23 : List In := [⟨none, (some 111), .bin .add (.t 92) (.k (.a (.int .i64 1)))⟩,
  ⟨none, (some 92), .mv (.t 111)⟩]
@[reducible] noncomputable def c17 : IC := .seq c16 (.reg r23)
@[reducible] noncomputable def c18 : IC := .seq c11 c17
@[reducible] noncomputable def c19 : IC := .seq (.reg r18) c18
@[reducible] noncomputable def c20 : IC := .loop c19
@[reducible] noncomputable def c21 : IC := .block 2 c20
@[reducible] noncomputable def c22 : IC := .seq (.reg r17) c21
noncomputable def r24 : List In := [⟨none, (some 112), .mv (.t 16)⟩,
  ⟨none, (some 12), .mv (.t 112)⟩]
noncomputable def r25 : List In := [⟨none, (some 113), .mv (.t 0)⟩,
  ⟨none, (some 114), .mv (.t 14)⟩,
  ⟨none, (some 115), .iaddr 2 (.t 113) (.t 114)⟩,
  ⟨none, (some 116), .faddr 1 (.t 115)⟩,
  ⟨none, (some 117), .load 1 false (.t 116)⟩,
  ⟨none, (some 118), .len (.t 117)⟩,
  ⟨none, (some 119), .mv (.k (.a (.int .i64 0)))⟩]
noncomputable def r26 : List In := [⟨none, (some 120), .bin .lss (.t 119) (.t 118)⟩]
@[reducible] noncomputable def c23 : IC := .cond (.t 120) .skip (.exit 4)
noncomputable def r27 : List In := [⟨none, (some 121), .iaddr 6 (.t 117) (.t 119)⟩,
  ⟨none, (some 122), .load 6 true (.t 121)⟩,
  ⟨none, (some 21), .alloc 43 [.str [], .int .i64 0, .int .i64 0, .int .i64 0, .int .i64 0, .str []]⟩,
  ⟨none, none, .store 6 (.t 21) (.t 122)⟩]
noncomputable def r28 : List In := [⟨none, (some 123), .faddr 5 (.t 21)⟩,
  ⟨none, (some 124), .load 1 false (.t 123)⟩,
  ⟨none, (some 125), .bin .eql (.t 124) (.k (.a (.str [])))⟩]
@[reducible] noncomputable def c24 : IC := .cond (.t 125) (.exit 5) .skip
@[reducible] noncomputable def c25 : IC := .seq (.reg r28) c24
noncomputable def r29 : List In := [⟨none, (some 127), .mv (.t 6)⟩,
  ⟨none, (some 128), .faddr 5 (.t 21)⟩,
  ⟨none, (some 129), .load 1 false (.t 128)⟩,
  ⟨none, (some 130), .mlook Try.prog 9 3 (.int .i64) true (.t 127) (.t 129)⟩,
  ⟨none, (some 126), .mv (.t 130)⟩,
  ⟨none, (some 131), .ext 0 (.t 126)⟩,
  ⟨none, (some 132), .ext 1 (.t 126)⟩,
  ⟨none, (some 22), .mv (.t 131)⟩,
  ⟨none, (some 23), .mv (.t 132)⟩]
noncomputable def r30 : List In := [⟨none, (some 133), .faddr 5 (.t 21)⟩,
  ⟨none, (some 134), .load 1 false (.t 133)⟩,
  ⟨none, (some 135), .call 21 [(.t 134)]⟩]
noncomputable def r31 : List In := [⟨none, (some 136), .mv (.t 14)⟩,
  ⟨none, (some 137), .mv (.t 15)⟩,
  ⟨none, (some 138), .mkf 23 [(.t 21)]⟩,
  ⟨none, (some 139), .call 22 [(.t 137), (.t 138)]⟩,
  ⟨none, (some 22), .mv (.t 136)⟩,
  ⟨none, (some 23), .mv (.t 139)⟩]
@[reducible] noncomputable def c26 : IC := .cond (.t 135) (.reg r31) .skip
@[reducible] noncomputable def c27 : IC := .seq (.reg r30) c26
noncomputable def r32 : List In := [⟨none, (some 140), .mv (.t 23)⟩,
  ⟨none, (some 141), .un .not (.t 140)⟩]
noncomputable def r33 : List In := [⟨none, (some 142), .build [.raw (.slice none 0 0), .raw (.slice none 0 0), .raw (.slice none 0 0)] []⟩,
  ⟨none, (some 143), .mv (.t 14)⟩,
  ⟨none, (some 144), .build [.int .i64 0, .int .i64 0] [(0, 1, (.k (.a (.int .i64 6)))), (1, 1, (.t 143))]⟩,
  ⟨none, none, .store 3 (.t 4) (.t 142)⟩,
  ⟨none, none, .store 2 (.t 5) (.t 144)⟩]
@[reducible] noncomputable def c28 : IC := .seq (.reg r33) .ret
@[reducible] noncomputable def c29 : IC := .cond (.t 141) c28 .skip
@[reducible] noncomputable def c30 : IC := .seq (.reg r32) c29
noncomputable def r34 : List In := [⟨none, (some 145), .faddr 1 (.t 10)⟩,
  ⟨none, (some 146), .load 1 false (.t 145)⟩,
  ⟨none, (some 147), .mv (.t 22)⟩,
  ⟨none, (some 148), .call 24 [(.t 146), (.t 147)]⟩,
  ⟨none, (some 149), .un .not (.t 148)⟩]
noncomputable def r35 : List In := [⟨none, (some 150), .faddr 1 (.t 10)⟩,
  ⟨none, (some 151), .load 1 false (.t 150)⟩,
  ⟨none, (some 152), .mv (.t 22)⟩,
  ⟨none, (some 153), .bsl 3 1 1 [.int .i64 0] [(0, 1, (.t 152))]⟩,
  ⟨none, (some 154), .app 23 3 1 8 (.t 151) (.t 153)⟩,
  ⟨none, (some 155), .faddr 1 (.t 10)⟩,
  ⟨none, none, .store 1 (.t 155) (.t 154)⟩]
@[reducible] noncomputable def c31 : IC := .cond (.t 149) (.reg r35) .skip
@[reducible] noncomputable def c32 : IC := .seq (.reg r34) c31
@[reducible] noncomputable def c33 : IC := .seq c30 c32
@[reducible] noncomputable def c34 : IC := .seq c27 c33
@[reducible] noncomputable def c35 : IC := .seq (.reg r29) c34
@[reducible] noncomputable def c36 : IC := .seq c25 c35
@[reducible] noncomputable def c37 : IC := .seq (.reg r27) c36
@[reducible] noncomputable def c38 : IC := .block 5 c37
noncomputable def r36 : List In := [⟨none, (some 156), .bin .add (.t 119) (.k (.a (.int .i64 1)))⟩,
  ⟨none, (some 119), .mv (.t 156)⟩]
@[reducible] noncomputable def c39 : IC := .seq c38 (.reg r36)
@[reducible] noncomputable def c40 : IC := .seq c23 c39
@[reducible] noncomputable def c41 : IC := .seq (.reg r26) c40
@[reducible] noncomputable def c42 : IC := .loop c41
@[reducible] noncomputable def c43 : IC := .block 4 c42
@[reducible] noncomputable def c44 : IC := .seq (.reg r25) c43
@[reducible] noncomputable def c45 : IC := .seq (.reg r24) c44
@[reducible] noncomputable def c46 : IC := .seq c22 c45
@[reducible] noncomputable def c47 : IC := .seq c10 c46
@[reducible] noncomputable def c48 : IC := .seq (.reg r14) c47
@[reducible] noncomputable def c49 : IC := .seq (.reg r13) c48
@[reducible] noncomputable def c50 : IC := .block 1 c49
noncomputable def r37 : List In := [⟨none, (some 64), .mv (.t 13)⟩,
  ⟨none, (some 65), .bin .add (.t 64) (.k (.a (.int .i64 1)))⟩,
  ⟨none, (some 13), .mv (.t 65)⟩]
@[reducible] noncomputable def c51 : IC := .seq c50 (.reg r37)
@[reducible] noncomputable def c52 : IC := .seq c7 c51
@[reducible] noncomputable def c53 : IC := .loop c52
@[reducible] noncomputable def c54 : IC := .block 0 c53
@[reducible] noncomputable def c55 : IC := .seq (.reg r11) c54
noncomputable def r38 : List In := [⟨none, (some 12), .mv (.k (.a (.int .i64 0)))⟩]
noncomputable def r39 : List In := [⟨none, (some 157), .faddr 1 (.t 10)⟩,
  ⟨none, (some 158), .load 1 false (.t 157)⟩,
  ⟨none, (some 159), .len (.t 158)⟩,
  ⟨none, (some 160), .mv (.k (.a (.int .i64 0)))⟩]
noncomputable def r40 : List In := [⟨none, (some 161), .bin .lss (.t 160) (.t 159)⟩]
@[reducible] noncomputable def c56 : IC := .cond (.t 161) .skip (.exit 6)
noncomputable def r41 : List In := [⟨none, (some 162), .iaddr 1 (.t 158) (.t 160)⟩,
  ⟨none, (some 163), .load 1 false (.t 162)⟩,
  ⟨none, (some 25), .mv (.t 163)⟩]
noncomputable def r42 : List In := [⟨none, (some 165), .mv (.t 0)⟩,
  ⟨none, (some 166), .mv (.t 25)⟩,
  ⟨none, (some 167), .iaddr 2 (.t 165) (.t 166)⟩,
  ⟨none, (some 168), .faddr 1 (.t 167)⟩,
  ⟨none, (some 169), .load 1 false (.t 168)⟩,
  ⟨none, (some 170), .mv (.t 12)⟩,
  ⟨none, (some 171), .call 20 [(.t 169), (.t 170)]⟩,
  ⟨none, (some 164), .mv (.t 171)⟩,
  ⟨none, (some 172), .ext 0 (.t 164)⟩,
  ⟨none, (some 173), .ext 1 (.t 164)⟩,
  ⟨none, (some 174), .ext 2 (.t 164)⟩,
  ⟨none, (some 26), .alloc 24 [.raw (.slice none 0 0)]⟩,
  ⟨none, (some 28), .alloc 29 [.int .i64 0, .int .i64 0]⟩,
  ⟨none, none, .store 1 (.t 26) (.t 172)⟩,
  ⟨none, (some 27), .mv (.t 173)⟩,
  ⟨none, none, .store 2 (.t 28) (.t 174)⟩]
noncomputable def r43 : List In := [⟨none, (some 176), .mv (.t 0)⟩,
  ⟨none, (some 177), .mv (.t 25)⟩,
  ⟨none, (some 178), .iaddr 2 (.t 176) (.t 177)⟩,
  ⟨none, (some 179), .faddr 1 (.t 178)⟩,
  ⟨none, (some 180), .load 1 false (.t 179)⟩,
  ⟨none, (some 181), .mkf 26 [(.t 11), (.t 26)]⟩,
  ⟨none, (some 182), .call 25 [(.t 180), (.t 181)]⟩,
  ⟨none, (some 175), .mv (.t 182)⟩,
  ⟨none, (some 183), .ext 0 (.t 175)⟩,
  ⟨none, (some 184), .ext 1 (.t 175)⟩,
  ⟨none, (some 30), .alloc 29 [.int .i64 0, .int .i64 0]⟩,
  ⟨none, (some 29), .mv (.t 183)⟩,
  ⟨none, none, .store 2 (.t 30) (.t 184)⟩]
noncomputable def r44 : List In := [⟨none, (some 186), .mv (.t 29)⟩,
  ⟨none, (some 187), .call 29 [(.t 186)]⟩,
  ⟨none, (some 185), .mv (.t 187)⟩,
  ⟨none, (some 188), .ext 0 (.t 185)⟩,
  ⟨none, (some 189), .ext 1 (.t 185)⟩,
  ⟨none, (some 32), .alloc 29 [.int .i64 0, .int .i64 0]⟩,
  ⟨none, (some 31), .mv (.t 188)⟩,
  ⟨none, none, .store 2 (.t 32) (.t 189)⟩]
noncomputable def r45 : List In := [⟨none, (some 190), .faddr 0 (.t 10)⟩,
  ⟨none, (some 191), .load 1 false (.t 190)⟩,
  ⟨none, (some 192), .mv (.t 31)⟩,
  ⟨none, (some 193), .app 23 3 1 8 (.t 191) (.t 192)⟩,
  ⟨none, (some 194), .faddr 0 (.t 10)⟩,
  ⟨none, none, .store 1 (.t 194) (.t 193)⟩]
noncomputable def r46 : List In := [⟨none, (some 195), .mv (.t 27)⟩,
  ⟨none, (some 12), .mv (.t 195)⟩]
@[reducible] noncomputable def c57 : IC := .seq (.reg r45) (.reg r46)
@[reducible] noncomputable def c58 : IC := .seq (.reg r44) c57
@[reducible] noncomputable def c59 : IC := .seq (.reg r43) c58
@[reducible] noncomputable def c60 : IC := .seq (.reg r42) c59
@[reducible] noncomputable def c61 : IC := .seq (.reg r41) c60
@[reducible] noncomputable def c62 : IC := .block 7 c61
noncomputable def r47 : List In := [⟨none, (some 196), .bin .add (.t 160) (.k (.a (.int .i64 1)))⟩,
  ⟨none, (some 160), .mv (.t 196)⟩]
@[reducible] noncomputable def c63 : IC := .seq c62 (.reg r47)
@[reducible] noncomputable def c64 : IC := .seq c56 c63
@[reducible] noncomputable def c65 : IC := .seq (.reg r40) c64
@[reducible] noncomputable def c66 : IC := .loop c65
@[reducible] noncomputable def c67 : IC := .block 6 c66
@[reducible] noncomputable def c68 : IC := .seq (.reg r39) c67
noncomputable def r48 : List In := [⟨none, (some 197), .load 3 true (.t 10)⟩,
  ⟨none, (some 198), .build [.int .i64 0, .int .i64 0] []⟩,
  ⟨none, none, .store 3 (.t 4) (.t 197)⟩,
  ⟨none, none, .store 2 (.t 5) (.t 198)⟩]
@[reducible] noncomputable def c69 : IC := .seq (.reg r48) .ret
@[reducible] noncomputable def c70 : IC := .seq c68 c69
@[reducible] noncomputable def c71 : IC := .seq (.reg r38) c70
@[reducible] noncomputable def c72 : IC := .seq c55 c71
@[reducible] noncomputable def c73 : IC := .seq (.reg r10) c72
@[reducible] noncomputable def c74 : IC := .seq (.reg r9) c73
@[reducible] noncomputable def c75 : IC := .seq (.reg r8) c74
@[reducible] noncomputable def c76 : IC := .seq (.reg r7) c75
@[reducible] noncomputable def c77 : IC := .seq c5 c76
@[reducible] noncomputable def c78 : IC := .seq (.reg r4) c77
@[reducible] noncomputable def c79 : IC := .seq c2 c78
@[reducible] noncomputable def c80 : IC := .seq (.reg r1) c79
@[reducible] noncomputable def c81 : IC := .seq (.reg r0) c80
@[reducible] noncomputable def code : IC := c81
def res : List RV := [.cell 4 3 true, .cell 5 2 true]
theorem rs : type_of% (And.intro r0.eq_1 <| And.intro r1.eq_1 <| And.intro r2.eq_1 <| And.intro r3.eq_1 <| And.intro r4.eq_1 <| And.intro r5.eq_1 <| And.intro r6.eq_1 <| And.intro r7.eq_1 <| And.intro r8.eq_1 <| And.intro r9.eq_1 <| And.intro r10.eq_1 <| And.intro r11.eq_1 <| And.intro r12.eq_1 <| And.intro r13.eq_1 <| And.intro r14.eq_1 <| And.intro r15.eq_1 <| And.intro r16.eq_1 <| And.intro r17.eq_1 <| And.intro r18.eq_1 <| And.intro r19.eq_1 <| And.intro r20.eq_1 <| And.intro r21.eq_1 <| And.intro r22.eq_1 <| And.intro r23.eq_1 <| And.intro r24.eq_1 <| And.intro r25.eq_1 <| And.intro r26.eq_1 <| And.intro r27.eq_1 <| And.intro r28.eq_1 <| And.intro r29.eq_1 <| And.intro r30.eq_1 <| And.intro r31.eq_1 <| And.intro r32.eq_1 <| And.intro r33.eq_1 <| And.intro r34.eq_1 <| And.intro r35.eq_1 <| And.intro r36.eq_1 <| And.intro r37.eq_1 <| And.intro r38.eq_1 <| And.intro r39.eq_1 <| And.intro r40.eq_1 <| And.intro r41.eq_1 <| And.intro r42.eq_1 <| And.intro r43.eq_1 <| And.intro r44.eq_1 <| And.intro r45.eq_1 <| And.intro r46.eq_1 <| And.intro r47.eq_1 <| r48.eq_1) := And.intro r0.eq_1 <| And.intro r1.eq_1 <| And.intro r2.eq_1 <| And.intro r3.eq_1 <| And.intro r4.eq_1 <| And.intro r5.eq_1 <| And.intro r6.eq_1 <| And.intro r7.eq_1 <| And.intro r8.eq_1 <| And.intro r9.eq_1 <| And.intro r10.eq_1 <| And.intro r11.eq_1 <| And.intro r12.eq_1 <| And.intro r13.eq_1 <| And.intro r14.eq_1 <| And.intro r15.eq_1 <| And.intro r16.eq_1 <| And.intro r17.eq_1 <| And.intro r18.eq_1 <| And.intro r19.eq_1 <| And.intro r20.eq_1 <| And.intro r21.eq_1 <| And.intro r22.eq_1 <| And.intro r23.eq_1 <| And.intro r24.eq_1 <| And.intro r25.eq_1 <| And.intro r26.eq_1 <| And.intro r27.eq_1 <| And.intro r28.eq_1 <| And.intro r29.eq_1 <| And.intro r30.eq_1 <| And.intro r31.eq_1 <| And.intro r32.eq_1 <| And.intro r33.eq_1 <| And.intro r34.eq_1 <| And.intro r35.eq_1 <| And.intro r36.eq_1 <| And.intro r37.eq_1 <| And.intro r38.eq_1 <| And.intro r39.eq_1 <| And.intro r40.eq_1 <| And.intro r41.eq_1 <| And.intro r42.eq_1 <| And.intro r43.eq_1 <| And.intro r44.eq_1 <| And.intro r45.eq_1 <| And.intro r46.eq_1 <| And.intro r47.eq_1 <| r48.eq_1
theorem fn : Body Try.prog 8 199 code res := ⟨by decide, Try.f8, _, Try.func8, rfl, rfl, by kernel_rfl, by kernel_rfl⟩
theorem enters : Xw Try.prog 8 = true := by kernel_rfl
end Yz
namespace Uy
def r0 : List In := [⟨none, (some 2), .box 54 (.t 0)⟩,
  ⟨none, (some 3), .mv (.k (.a (.bool false)))⟩]
def r1 : List In := [⟨none, (some 4), .faddr 0 (.t 2)⟩,
  ⟨none, (some 5), .load 1 false (.t 4)⟩,
  ⟨none, (some 6), .faddr 5 (.t 1)⟩,
  ⟨none, (some 7), .load 1 false (.t 6)⟩,
  ⟨none, (some 8), .bin .eql (.t 5) (.t 7)⟩,
  ⟨none, (some 3), .mv (.t 8)⟩]
@[reducible] def c0 : IC := .seq (.reg r1) .ret
@[reducible] def c1 : IC := .seq (.reg r0) c0
@[reducible] def code : IC := c1
def res : List RV := [.tmp 3]
theorem rs : type_of% (And.intro r0.eq_1 <| r1.eq_1) := And.intro r0.eq_1 <| r1.eq_1
theorem fn : Body Try.prog 23 9 code res := ⟨by decide, Try.f23, _, Try.func23, rfl, rfl, by kernel_rfl, by kernel_rfl⟩
theorem enters : Xw Try.prog 23 = true := by kernel_rfl
end Uy
namespace Vy
noncomputable def r0 : List In := [⟨none, (some 3), .box 9 (.t 0)⟩,
  ⟨none, (some 4), .mv (.k (.a (.int .i64 0)))⟩,
  ⟨none, (some 5), .mv (.k (.a (.bool false)))⟩]
noncomputable def r1 : List In := [⟨none, (some 7), .load 1 false (.t 3)⟩,
  ⟨none, (some 8), .call 21 [(.t 7)]⟩,
  ⟨none, (some 9), .un .not (.t 8)⟩]
noncomputable def r2 : List In := [⟨none, (some 10), .load 1 false (.t 1)⟩,
  ⟨none, (some 11), .load 1 false (.t 3)⟩,
  ⟨none, (some 12), .mlook Try.prog 9 3 (.int .i64) false (.t 10) (.t 11)⟩,
  ⟨none, (some 4), .mv (.t 12)⟩,
  ⟨none, (some 5), .mv (.k (.a (.bool true)))⟩]
@[reducible] noncomputable def c0 : IC := .seq (.reg r2) .ret
@[reducible] noncomputable def c1 : IC := .cond (.t 9) c0 .skip
@[reducible] noncomputable def c2 : IC := .seq (.reg r1) c1
noncomputable def r3 : List In := [⟨none, (some 13), .load 1 false (.t 2)⟩,
  ⟨none, (some 14), .mkf 28 [(.t 3)]⟩,
  ⟨none, (some 15), .call 27 [(.t 13), (.t 14)]⟩,
  ⟨none, (some 6), .mv (.t 15)⟩]
noncomputable def r4 : List In := [⟨none, (some 16), .load 1 false (.t 2)⟩,
  ⟨none, (some 17), .mv (.t 6)⟩,
  ⟨none, (some 18), .iaddr 2 (.t 16) (.t 17)⟩,
  ⟨none, (some 19), .faddr 1 (.t 18)⟩,
  ⟨none, (some 20), .load 1 false (.t 19)⟩,
  ⟨none, (some 4), .mv (.t 20)⟩,
  ⟨none, (some 5), .mv (.k (.a (.bool true)))⟩]
@[reducible] noncomputable def c3 : IC := .seq (.reg r4) .ret
@[reducible] noncomputable def c4 : IC := .seq (.reg r3) c3
@[reducible] noncomputable def c5 : IC := .seq c2 c4
@[reducible] noncomputable def c6 : IC := .seq (.reg r0) c5
@[reducible] noncomputable def code : IC := c6
def res : List RV := [.tmp 4, .tmp 5]
theorem rs : type_of% (And.intro r0.eq_1 <| And.intro r1.eq_1 <| And.intro r2.eq_1 <| And.intro r3.eq_1 <| r4.eq_1) := And.intro r0.eq_1 <| And.intro r1.eq_1 <| And.intro r2.eq_1 <| And.intro r3.eq_1 <| r4.eq_1
theorem fn : Body Try.prog 26 21 code res := ⟨by decide, Try.f26, _, Try.func26, rfl, rfl, by kernel_rfl, by kernel_rfl⟩
theorem enters : Xw Try.prog 26 = true := by kernel_rfl
end Vy
namespace Ue
def r0 : List In := [⟨none, (some 2), .box 54 (.t 0)⟩,
  ⟨none, (some 3), .mv (.k (.a (.bool false)))⟩]
def r1 : List In := [⟨none, (some 4), .faddr 0 (.t 2)⟩,
  ⟨none, (some 5), .load 1 false (.t 4)⟩,
  ⟨none, (some 6), .load 1 false (.t 1)⟩,
  ⟨none, (some 7), .bin .eql (.t 5) (.t 6)⟩,
  ⟨none, (some 3), .mv (.t 7)⟩]
@[reducible] def c0 : IC := .seq (.reg r1) .ret
@[reducible] def c1 : IC := .seq (.reg r0) c0
@[reducible] def code : IC := c1
def res : List RV := [.tmp 3]
theorem rs : type_of% (And.intro r0.eq_1 <| r1.eq_1) := And.intro r0.eq_1 <| r1.eq_1
theorem fn : Body Try.prog 28 8 code res := ⟨by decide, Try.f28, _, Try.func28, rfl, rfl, by kernel_rfl, by kernel_rfl⟩
theorem enters : Xw Try.prog 28 = true := by kernel_rfl
end Ue
namespace Vz
def r0 : List In := [⟨none, (some 2), .mv (.k (.a (.bool false)))⟩]
def r1 : List In := [⟨none, (some 3), .mv (.t 0)⟩,
  ⟨none, (some 4), .slen (.t 3)⟩,
  ⟨none, (some 5), .bin .gtr (.t 4) (.k (.a (.int .i64 0)))⟩,
  ⟨none, (some 6), .mv (.t 5)⟩,
  ⟨(some (6, true)), (some 7), .mv (.t 0)⟩,
  ⟨(some (6, true)), (some 8), .sidx (.t 7) (.k (.a (.int .i64 0)))⟩,
  ⟨(some (6, true)), (some 9), .bin .eql (.t 8) (.k (.a (.int .u8 46)))⟩,
  ⟨none, (some 10), .pick (.t 6) (.t 9) (.k (.a (.bool false)))⟩,
  ⟨none, (some 2), .mv (.t 10)⟩]
@[reducible] def c0 : IC := .seq (.reg r1) .ret
@[reducible] def c1 : IC := .seq (.reg r0) c0
@[reducible] def code : IC := c1
def res : List RV := [.tmp 2]
theorem rs : type_of% (And.intro r0.eq_1 <| r1.eq_1) := And.intro r0.eq_1 <| r1.eq_1
theorem fn : Body Try.prog 16 11 code res := ⟨by decide, Try.f16, _, Try.func16, rfl, rfl, by kernel_rfl, by kernel_rfl⟩
theorem enters : Xw Try.prog 16 = true := by kernel_rfl
end Vz
namespace Xu
def r0 : List In := [⟨none, (some 4), .mv (.k (.a (.int .i64 0)))⟩]
def r1 : List In := [⟨none, (some 9), .mv (.t 0)⟩,
  ⟨none, (some 10), .len (.t 9)⟩,
  ⟨none, (some 11), .mv (.k (.a (.int .i64 0)))⟩]
def r2 : List In := [⟨none, (some 12), .bin .lss (.t 11) (.t 10)⟩]
@[reducible] def c0 : IC := .cond (.t 12) .skip (.exit 0)
def r3 : List In := [⟨none, (some 13), .mv (.t 11)⟩,
  ⟨none, (some 14), .iaddr 2 (.t 9) (.t 11)⟩,
  ⟨none, (some 15), .load 2 true (.t 14)⟩,
  ⟨none, (some 6), .alloc 39 [.str [], .raw (.slice none 0 0)]⟩,
  ⟨none, (some 5), .mv (.t 13)⟩,
  ⟨none, none, .store 2 (.t 6) (.t 15)⟩]
def r4 : List In := [⟨none, (some 16), .faddr 1 (.t 6)⟩,
  ⟨none, (some 17), .load 1 false (.t 16)⟩,
  ⟨none, (some 18), .len (.t 17)⟩,
  ⟨none, (some 19), .mv (.k (.a (.int .i64 0)))⟩]
def r5 : List In := [⟨none, (some 20), .bin .lss (.t 19) (.t 18)⟩]
@[reducible] def c1 : IC := .cond (.t 20) .skip (.exit 2)
def r6 : List In := [⟨none, (some 21), .iaddr 6 (.t 17) (.t 19)⟩,
  ⟨none, (some 22), .load 6 true (.t 21)⟩,
  ⟨none, (some 8), .alloc 43 [.str [], .int .i64 0, .int .i64 0, .int .i64 0, .int .i64 0, .str []]⟩,
  ⟨none, none, .store 6 (.t 8) (.t 22)⟩]
def r7 : List In := [⟨none, (some 23), .faddr 0 (.t 8)⟩,
  ⟨none, (some 24), .load 1 false (.t 23)⟩,
  ⟨none, (some 25), .mv (.t 1)⟩,
  ⟨none, (some 26), .bin .eql (.t 24) (.t 25)⟩,
  ⟨none, (some 27), .mv (.t 26)⟩,
  ⟨(some (27, true)), (some 28), .mv (.t 1)⟩,
  ⟨(some (27, true)), (some 29), .call 16 [(.t 28)]⟩,
  ⟨(some (27, true)), (some 30), .un .not (.t 29)⟩,
  ⟨none, (some 31), .pick (.t 27) (.t 30) (.k (.a (.bool false)))⟩]
def r8 : List In := [⟨none, (some 32), .mv (.t 5)⟩,
  ⟨none, (some 4), .mv (.t 32)⟩]
@[reducible] def c2 : IC := .seq (.reg r8) .ret
@[reducible] def c3 : IC := .cond (.t 31) c2 .skip
@[reducible] def c4 : IC := .seq (.reg r7) c3
@[reducible] def c5 : IC := .seq (.reg r6) c4
@[reducible] def c6 : IC := .block 3 c5
def r9 : List In := [⟨none, (some 33), .bin .add (.t 19) (.k (.a (.int .i64 1)))⟩,
  ⟨none, (some 19), .mv (.t 33)⟩]
@[reducible] def c7 : IC := .seq c6 (.reg r9)
@[reducible] def c8 : IC := .seq c1 c7
@[reducible] def c9 : IC := .seq (.reg r5) c8
@[reducible] def c10 : IC := .loop c9
@[reducible] def c11 : IC := .block 2 c10
@[reducible] def c12 : IC := .seq (.reg r4) c11
@[reducible] def c13 : IC := .seq (.reg r3) c12
@[reducible] def c14 : IC := .block 1 c13
def r10 : List In := [⟨none, (some 34), .bin .add (.t 11) (.k (.a (.int .i64 1)))⟩,
  ⟨none, (some 11), .mv (.t 34)⟩]
@[reducible] def c15 : IC := .seq c14 (.reg r10)
@[reducible] def c16 : IC := .seq c0 c15
@[reducible] def c17 : IC := .seq (.reg r2) c16
@[reducible] def c18 : IC := .loop c17
@[reducible] def c19 : IC := .block 0 c18
@[reducible] def c20 : IC := .seq (.reg r1) c19
def r11 : List In := [⟨none, (some 4), .mv (.k (.a (.int .i64 (-1))))⟩]
@[reducible] def c21 : IC := .seq (.reg r11) .ret
@[reducible] def c22 : IC := .seq c20 c21
@[reducible] def c23 : IC := .seq (.reg r0) c22
@[reducible] def code : IC := c23
def res : List RV := [.tmp 4]
theorem rs : type_of% (And.intro r0.eq_1 <| And.intro r1.eq_1 <| And.intro r2.eq_1 <| And.intro r3.eq_1 <| And.intro r4.eq_1 <| And.intro r5.eq_1 <| And.intro r6.eq_1 <| And.intro r7.eq_1 <| And.intro r8.eq_1 <| And.intro r9.eq_1 <| And.intro r10.eq_1 <| r11.eq_1) := And.intro r0.eq_1 <| And.intro r1.eq_1 <| And.intro r2.eq_1 <| And.intro r3.eq_1 <| And.intro r4.eq_1 <| And.intro r5.eq_1 <| And.intro r6.eq_1 <| And.intro r7.eq_1 <| And.intro r8.eq_1 <| And.intro r9.eq_1 <| And.intro r10.eq_1 <| r11.eq_1
theorem fn : Body Try.prog 12 35 code res := ⟨by decide, Try.f12, _, Try.func12, rfl, rfl, by kernel_rfl, by kernel_rfl⟩
theorem enters : Xw Try.prog 12 = true := by kernel_rfl
end Xu
namespace Rn
def r0 : List In := [⟨none, (some 2), .alloc 29 [.int .i64 0, .int .i64 0]⟩]
def r1 : List In := [⟨none, (some 9), .mv (.t 0)⟩,
  ⟨none, (some 10), .len (.t 9)⟩,
  ⟨none, (some 11), .bin .gtr (.t 10) (.k (.a (.int .i64 400)))⟩]
def r2 : List In := [⟨none, (some 12), .build [.int .i64 0, .int .i64 0] [(0, 1, (.k (.a (.int .i64 5))))]⟩,
  ⟨none, none, .store 2 (.t 2) (.t 12)⟩]
@[reducible] def c0 : IC := .seq (.reg r2) .ret
@[reducible] def c1 : IC := .cond (.t 11) c0 .skip
@[reducible] def c2 : IC := .seq (.reg r1) c1
def r3 : List In := [⟨none, (some 13), .mv (.t 0)⟩,
  ⟨none, (some 14), .len (.t 13)⟩,
  ⟨none, (some 15), .mv (.k (.a (.int .i64 0)))⟩]
def r4 : List In := [⟨none, (some 16), .bin .lss (.t 15) (.t 14)⟩]
@[reducible] def c3 : IC := .cond (.t 16) .skip (.exit 0)
def r5 : List In := [⟨none, (some 17), .mv (.t 15)⟩,
  ⟨none, (some 18), .iaddr 2 (.t 13) (.t 15)⟩,
  ⟨none, (some 19), .load 2 true (.t 18)⟩,
  ⟨none, (some 4), .alloc 39 [.str [], .raw (.slice none 0 0)]⟩,
  ⟨none, (some 3), .mv (.t 17)⟩,
  ⟨none, none, .store 2 (.t 4) (.t 19)⟩]
def r6 : List In := [⟨none, (some 20), .faddr 1 (.t 4)⟩,
  ⟨none, (some 21), .load 1 false (.t 20)⟩,
  ⟨none, (some 22), .len (.t 21)⟩,
  ⟨none, (some 23), .bin .gtr (.t 22) (.k (.a (.int .i64 40000)))⟩]
def r7 : List In := [⟨none, (some 24), .mv (.t 3)⟩,
  ⟨none, (some 25), .build [.int .i64 0, .int .i64 0] [(0, 1, (.k (.a (.int .i64 5)))), (1, 1, (.t 24))]⟩,
  ⟨none, none, .store 2 (.t 2) (.t 25)⟩]
@[reducible] def c4 : IC := .seq (.reg r7) .ret
@[reducible] def c5 : IC := .cond (.t 23) c4 .skip
@[reducible] def c6 : IC := .seq (.reg r6) c5
def r8 : List In := [⟨none, (some 27), .faddr 1 (.t 4)⟩,
  ⟨none, (some 28), .load 1 false (.t 27)⟩,
  ⟨none, (some 29), .call 42 [(.t 28), (.k (.a (.int .i64 0)))]⟩,
  ⟨none, (some 26), .mv (.t 29)⟩,
  ⟨none, (some 30), .ext 0 (.t 26)⟩,
  ⟨none, (some 31), .ext 1 (.t 26)⟩,
  ⟨none, (some 6), .alloc 29 [.int .i64 0, .int .i64 0]⟩,
  ⟨none, (some 5), .mv (.t 30)⟩,
  ⟨none, none, .store 2 (.t 6) (.t 31)⟩]
def r9 : List In := [⟨none, (some 32), .faddr 0 (.t 6)⟩,
  ⟨none, (some 33), .load 1 false (.t 32)⟩,
  ⟨none, (some 34), .bin .neq (.t 33) (.k (.a (.int .i64 0)))⟩]
def r10 : List In := [⟨none, (some 35), .faddr 0 (.t 6)⟩,
  ⟨none, (some 36), .load 1 false (.t 35)⟩,
  ⟨none, (some 37), .mv (.t 3)⟩,
  ⟨none, (some 38), .build [.int .i64 0, .int .i64 0] [(0, 1, (.t 36)), (1, 1, (.t 37))]⟩,
  ⟨none, none, .store 2 (.t 2) (.t 38)⟩]
@[reducible] def c7 : IC := .seq (.reg r10) .ret
@[reducible] def c8 : IC := .cond (.t 34) c7 .skip
@[reducible] def c9 : IC := .seq (.reg r9) c8
@[reducible] def c10 : IC := .seq (.reg r8) c9
def r11 : List In := [⟨none, (some 39), .faddr 1 (.t 4)⟩,
  ⟨none, (some 40), .load 1 false (.t 39)⟩,
  ⟨none, (some 41), .len (.t 40)⟩,
  ⟨none, (some 42), .mv (.k (.a (.int .i64 0)))⟩]
def r12 : List In := [⟨none, (some 43), .bin .lss (.t 42) (.t 41)⟩]
@[reducible] def c11 : IC := .cond (.t 43) .skip (.exit 2)
def r13 : List In := [⟨none, (some 44), .iaddr 6 (.t 40) (.t 42)⟩,
  ⟨none, (some 45), .load 6 true (.t 44)⟩,
  ⟨none, (some 8), .alloc 43 [.str [], .int .i64 0, .int .i64 0, .int .i64 0, .int .i64 0, .str []]⟩,
  ⟨none, none, .store 6 (.t 8) (.t 45)⟩]
def r14 : List In := [⟨none, (some 46), .faddr 0 (.t 8)⟩,
  ⟨none, (some 47), .load 1 false (.t 46)⟩,
  ⟨none, (some 48), .bin .neq (.t 47) (.k (.a (.str [])))⟩,
  ⟨none, (some 49), .mv (.t 48)⟩,
  ⟨(some (49, true)), (some 50), .faddr 0 (.t 8)⟩,
  ⟨(some (49, true)), (some 51), .load 1 false (.t 50)⟩,
  ⟨(some (49, true)), (some 52), .call 16 [(.t 51)]⟩,
  ⟨(some (49, true)), (some 53), .un .not (.t 52)⟩,
  ⟨none, (some 54), .pick (.t 49) (.t 53) (.k (.a (.bool false)))⟩,
  ⟨none, (some 55), .mv (.t 54)⟩,
  ⟨(some (55, true)), (some 56), .mv (.t 0)⟩,
  ⟨(some (55, true)), (some 57), .faddr 0 (.t 8)⟩,
  ⟨(some (55, true)), (some 58), .load 1 false (.t 57)⟩,
  ⟨(some (55, true)), (some 59), .call 12 [(.t 56), (.t 58)]⟩,
  ⟨(some (55, true)), (some 60), .mv (.t 3)⟩,
  ⟨(some (55, true)), (some 61), .bin .neq (.t 59) (.t 60)⟩,
  ⟨none, (some 62), .pick (.t 55) (.t 61) (.k (.a (.bool false)))⟩]
def r15 : List In := [⟨none, (some 63), .mv (.t 3)⟩,
  ⟨none, (some 64), .build [.int .i64 0, .int .i64 0] [(0, 1, (.k (.a (.int .i64 7)))), (1, 1, (.t 63))]⟩,
  ⟨none, none, .store 2 (.t 2) (.t 64)⟩]
@[reducible] def c12 : IC := .seq (.reg r15) .ret
@[reducible] def c13 : IC := .cond (.t 62) c12 .skip
@[reducible] def c14 : IC := .seq (.reg r14) c13
@[reducible] def c15 : IC := .seq (.reg r13) c14
@[reducible] def c16 : IC := .block 3 c15
def r16 : List In := [⟨none, (some 65), .bin .add (.t 42) (.k (.a (.int .i64 1)))⟩,
  ⟨none, (some 42), .mv (.t 65)⟩]
@[reducible] def c17 : IC := .seq c16 (.reg r16)
@[reducible] def c18 : IC := .seq c11 c17
@[reducible] def c19 : IC := .seq (.reg r12) c18
@[reducible] def c20 : IC := .loop c19
@[reducible] def c21 : IC := .block 2 c20
@[reducible] def c22 : IC := .seq (.reg r11) c21
@[reducible] def c23 : IC := .seq c10 c22
@[reducible] def c24 : IC := .seq c6 c23
@[reducible] def c25 : IC := .seq (.reg r5) c24
@[reducible] def c26 : IC := .block 1 c25
def r17 : List In := [⟨none, (some 66), .bin .add (.t 15) (.k (.a (.int .i64 1)))⟩,
  ⟨none, (some 15), .mv (.t 66)⟩]
@[reducible] def c27 : IC := .seq c26 (.reg r17)
@[reducible] def c28 : IC := .seq c3 c27
@[reducible] def c29 : IC := .seq (.reg r4) c28
@[reducible] def c30 : IC := .loop c29
@[reducible] def c31 : IC := .block 0 c30
@[reducible] def c32 : IC := .seq (.reg r3) c31
def r18 : List In := [⟨none, (some 67), .build [.int .i64 0, .int .i64 0] []⟩,
  ⟨none, none, .store 2 (.t 2) (.t 67)⟩]
@[reducible] def c33 : IC := .seq (.reg r18) .ret
@[reducible] def c34 : IC := .seq c32 c33
@[reducible] def c35 : IC := .seq c2 c34
@[reducible] def c36 : IC := .seq (.reg r0) c35
@[reducible] def code : IC := c36
def res : List RV := [.cell 2 2 true]
theorem rs : type_of% (And.intro r0.eq_1 <| And.intro r1.eq_1 <| And.intro r2.eq_1 <| And.intro r3.eq_1 <| And.intro r4.eq_1 <| And.intro r5.eq_1 <| And.intro r6.eq_1 <| And.intro r7.eq_1 <| And.intro r8.eq_1 <| And.intro r9.eq_1 <| And.intro r10.eq_1 <| And.intro r11.eq_1 <| And.intro r12.eq_1 <| And.intro r13.eq_1 <| And.intro r14.eq_1 <| And.intro r15.eq_1 <| And.intro r16.eq_1 <| And.intro r17.eq_1 <| r18.eq_1) := And.intro r0.eq_1 <| And.intro r1.eq_1 <| And.intro r2.eq_1 <| And.intro r3.eq_1 <| And.intro r4.eq_1 <| And.intro r5.eq_1 <| And.intro r6.eq_1 <| And.intro r7.eq_1 <| And.intro r8.eq_1 <| And.intro r9.eq_1 <| And.intro r10.eq_1 <| And.intro r11.eq_1 <| And.intro r12.eq_1 <| And.intro r13.eq_1 <| And.intro r14.eq_1 <| And.intro r15.eq_1 <| And.intro r16.eq_1 <| And.intro r17.eq_1 <| r18.eq_1
theorem fn : Body Try.prog 30 68 code res := ⟨by decide, Try.f30, _, Try.func30, rfl, rfl, by kernel_rfl, by kernel_rfl⟩
theorem enters : Xw Try.prog 30 = true := by kernel_rfl
end Rn
namespace Rp
def r0 : List In := [⟨none, (some 4), .mv (.k (.a (.raw (.slice none 0 0))))⟩]
def r1 : List In := [⟨none, (some 5), .mv (.k (.a (.raw (.slice none 0 0))))⟩]
def r2 : List In := [⟨none, (some 6), .mv (.k (.a (.int .i64 0)))⟩]
def r3 : List In := [⟨none, (some 11), .mv (.t 1)⟩,
  ⟨none, (some 12), .len (.t 11)⟩,
  ⟨none, (some 13), .mv (.k (.a (.int .i64 0)))⟩]
def r4 : List In := [⟨none, (some 14), .bin .lss (.t 13) (.t 12)⟩]
@[reducible] def c0 : IC := .cond (.t 14) .skip (.exit 0)
def r5 : List In := [⟨none, (some 15), .iaddr 1 (.t 11) (.t 13)⟩,
  ⟨none, (some 16), .load 1 false (.t 15)⟩,
  ⟨none, (some 8), .mv (.t 16)⟩]
def r6 : List In := [⟨none, (some 17), .mv (.t 5)⟩,
  ⟨none, (some 18), .mv (.t 6)⟩,
  ⟨none, (some 19), .bsl 3 1 1 [.int .i64 0] [(0, 1, (.t 18))]⟩,
  ⟨none, (some 20), .app 23 3 1 8 (.t 17) (.t 19)⟩,
  ⟨none, (some 5), .mv (.t 20)⟩]
def r7 : List In := [⟨none, (some 21), .mv (.t 0)⟩,
  ⟨none, (some 22), .mv (.t 8)⟩,
  ⟨none, (some 23), .iaddr 2 (.t 21) (.t 22)⟩,
  ⟨none, (some 24), .faddr 1 (.t 23)⟩,
  ⟨none, (some 25), .load 1 false (.t 24)⟩,
  ⟨none, (some 26), .len (.t 25)⟩,
  ⟨none, (some 27), .mv (.k (.a (.int .i64 0)))⟩]
def r8 : List In := [⟨none, (some 28), .bin .lss (.t 27) (.t 26)⟩]
@[reducible] def c1 : IC := .cond (.t 28) .skip (.exit 2)
def r9 : List In := [⟨none, (some 29), .iaddr 6 (.t 25) (.t 27)⟩,
  ⟨none, (some 30), .load 6 true (.t 29)⟩,
  ⟨none, (some 10), .alloc 43 [.str [], .int .i64 0, .int .i64 0, .int .i64 0, .int .i64 0, .str []]⟩,
  ⟨none, none, .store 6 (.t 10) (.t 30)⟩]
def r10 : List In := [⟨none, (some 31), .mv (.t 6)⟩,
  ⟨none, (some 32), .load 6 true (.t 10)⟩,
  ⟨none, (some 33), .call 18 [(.t 32)]⟩,
  ⟨none, (some 34), .bin .add (.t 31) (.t 33)⟩,
  ⟨none, (some 6), .mv (.t 34)⟩]
@[reducible] def c2 : IC := .seq (.reg r9) (.reg r10)
@[reducible] def c3 : IC := .block 3 c2
def r11 : List In := [⟨none, (some 35), .bin .add (.t 27) (.k (.a (.int .i64 1)))⟩,
  ⟨none, (some 27), .mv (.t 35)⟩]
@[reducible] def c4 : IC := .seq c3 (.reg r11)
@[reducible] def c5 : IC := .seq c1 c4
@[reducible] def c6 : IC := .seq (.reg r8) c5
@[reducible] def c7 : IC := .loop c6
@[reducible] def c8 : IC := .block 2 c7
@[reducible] def c9 : IC := .seq (.reg r7) c8
@[reducible] def c10 : IC := .seq (.reg r6) c9
@[reducible] def c11 : IC := .seq (.reg r5) c10
@[reducible] def c12 : IC := .block 1 c11
def r12 : List In := [⟨none, (some 36), .bin .add (.t 13) (.k (.a (.int .i64 1)))⟩,
  ⟨none, (some 13), .mv (.t 36)⟩]
@[reducible] def c13 : IC := .seq c12 (.reg r12)
@[reducible] def c14 : IC := .seq c0 c13
@[reducible] def c15 : IC := .seq (.reg r4) c14
@[reducible] def c16 : IC := .loop c15
@[reducible] def c17 : IC := .block 0 c16
@[reducible] def c18 : IC := .seq (.reg r3) c17
def r13 : List In := [⟨none, (some 37), .mv (.t 5)⟩,
  ⟨none, (some 38), .mv (.t 6)⟩,
  ⟨none, (some 39), .bsl 3 1 1 [.int .i64 0] [(0, 1, (.t 38))]⟩,
  ⟨none, (some 40), .app 23 3 1 8 (.t 37) (.t 39)⟩,
  ⟨none, (some 4), .mv (.t 40)⟩]
@[reducible] def c19 : IC := .seq (.reg r13) .ret
@[reducible] def c20 : IC := .seq c18 c19
@[reducible] def c21 : IC := .seq (.reg r2) c20
@[reducible] def c22 : IC := .seq (.reg r1) c21
@[reducible] def c23 : IC := .seq (.reg r0) c22
@[reducible] def code : IC := c23
def res : List RV := [.tmp 4]
theorem rs : type_of% (And.intro r0.eq_1 <| And.intro r1.eq_1 <| And.intro r2.eq_1 <| And.intro r3.eq_1 <| And.intro r4.eq_1 <| And.intro r5.eq_1 <| And.intro r6.eq_1 <| And.intro r7.eq_1 <| And.intro r8.eq_1 <| And.intro r9.eq_1 <| And.intro r10.eq_1 <| And.intro r11.eq_1 <| And.intro r12.eq_1 <| r13.eq_1) := And.intro r0.eq_1 <| And.intro r1.eq_1 <| And.intro r2.eq_1 <| And.intro r3.eq_1 <| And.intro r4.eq_1 <| And.intro r5.eq_1 <| And.intro r6.eq_1 <| And.intro r7.eq_1 <| And.intro r8.eq_1 <| And.intro r9.eq_1 <| And.intro r10.eq_1 <| And.intro r11.eq_1 <| And.intro r12.eq_1 <| r13.eq_1
theorem fn : Body Try.prog 31 41 code res := ⟨by decide, Try.f31, _, Try.func31, rfl, rfl, by kernel_rfl, by kernel_rfl⟩
theorem enters : Xw Try.prog 31 = true := by kernel_rfl
end Rp
namespace R4
def r0 : List In := [⟨none, (some 2), .box 22 (.t 0)⟩,
  ⟨none, (some 4), .alloc 26 [.raw (.slice none 0 0), .raw (.slice none 0 0), .raw (.slice none 0 0)]⟩,
  ⟨none, (some 5), .alloc 29 [.int .i64 0, .int .i64 0]⟩]
def r1 : List In := [⟨none, (some 28), .load 1 false (.t 2)⟩,
  ⟨none, (some 29), .call 30 [(.t 28)]⟩,
  ⟨none, (some 6), .alloc 29 [.int .i64 0, .int .i64 0]⟩,
  ⟨none, none, .store 2 (.t 6) (.t 29)⟩]
def r2 : List In := [⟨none, (some 30), .faddr 0 (.t 6)⟩,
  ⟨none, (some 31), .load 1 false (.t 30)⟩,
  ⟨none, (some 32), .bin .neq (.t 31) (.k (.a (.int .i64 0)))⟩]
def r3 : DT := (.take ⟨none, (some 33), .build [.raw (.slice none 0 0), .raw (.slice none 0 0), .raw (.slice none 0 0)] []⟩ false
  (.alt ⟨none, (some 34), .load 2 true (.t 6)⟩ false
  (.alt ⟨none, none, .store 3 (.t 4) (.t 33)⟩ false
  (.alt ⟨none, none, .store 2 (.t 5) (.t 34)⟩ false
  .done
  .stop)
  .stop)
  (.alt ⟨none, none, .store 3 (.t 4) (.t 33)⟩ false
  (.alt ⟨none, (some 34), .load 2 true (.t 6)⟩ false
  (.alt ⟨none, none, .store 2 (.t 5) (.t 34)⟩ false
  .done
  .stop)
  .stop)
  .stop)))
@[reducible] def c0 : IC := .seq (.dany r3) .ret
@[reducible] def c1 : IC := .cond (.t 32) c0 .skip
@[reducible] def c2 : IC := .seq (.reg r2) c1
@[reducible] def c3 : IC := .seq (.reg r1) c2
def r4 : List In := [⟨none, (some 35), .load 1 false (.t 2)⟩,
  ⟨none, (some 36), .mv (.t 1)⟩,
  ⟨none, (some 37), .call 12 [(.t 35), (.t 36)]⟩,
  ⟨none, (some 7), .mv (.t 37)⟩]
def r5 : List In := [⟨none, (some 38), .mv (.t 1)⟩,
  ⟨none, (some 39), .bin .eql (.t 38) (.k (.a (.str [])))⟩,
  ⟨none, (some 40), .mv (.t 39)⟩,
  ⟨(some (40, false)), (some 41), .mv (.t 7)⟩,
  ⟨(some (40, false)), (some 42), .bin .lss (.t 41) (.k (.a (.int .i64 0)))⟩,
  ⟨none, (some 43), .pick (.t 40) (.k (.a (.bool true))) (.t 42)⟩]
def r6 : DT := (.take ⟨none, (some 44), .build [.raw (.slice none 0 0), .raw (.slice none 0 0), .raw (.slice none 0 0)] []⟩ false
  (.alt ⟨none, (some 45), .load 1 false (.t 2)⟩ false
  (.alt ⟨none, (some 46), .len (.t 45)⟩ false
  (.take ⟨none, (some 47), .build [.int .i64 0, .int .i64 0] [(0, 1, (.k (.a (.int .i64 6)))), (1, 1, (.t 46))]⟩ false
  (.alt ⟨none, none, .store 3 (.t 4) (.t 44)⟩ false
  (.alt ⟨none, none, .store 2 (.t 5) (.t 47)⟩ false
  .done
  .stop)
  .stop))
  (.alt ⟨none, none, .store 3 (.t 4) (.t 44)⟩ false
  (.alt ⟨none, (some 46), .len (.t 45)⟩ false
  (.take ⟨none, (some 47), .build [.int .i64 0, .int .i64 0] [(0, 1, (.k (.a (.int .i64 6)))), (1, 1, (.t 46))]⟩ false
  (.alt ⟨none, none, .store 2 (.t 5) (.t 47)⟩ false
  .done
  .stop))
  .stop)
  .stop))
  (.alt ⟨none, none, .store 3 (.t 4) (.t 44)⟩ false
  (.alt ⟨none, (some 45), .load 1 false (.t 2)⟩ false
  (.alt ⟨none, (some 46), .len (.t 45)⟩ false
  (.take ⟨none, (some 47), .build [.int .i64 0, .int .i64 0] [(0, 1, (.k (.a (.int .i64 6)))), (1, 1, (.t 46))]⟩ false
  (.alt ⟨none, none, .store 2 (.t 5) (.t 47)⟩ false
  .done
  .stop))
  .stop)
  .stop)
  .stop)))
@[reducible] def c4 : IC := .seq (.dany r6) .ret
@[reducible] def c5 : IC := .cond (.t 43) c4 .skip
@[reducible] def c6 : IC := .seq (.reg r5) c5
def r7 : List In := [⟨none, (some 48), .mv (.t 7)⟩,
  ⟨none, (some 49), .bsl 3 1 1 [.int .i64 0] [(0, 1, (.t 48))]⟩,
  ⟨none, (some 8), .alloc 23 [.raw (.slice none 0 0)]⟩,
  ⟨none, none, .store 1 (.t 8) (.t 49)⟩]
def r8 : List In := [⟨none, (some 9), .mv (.k (.a (.int .i64 0)))⟩]
def r9 : List In := [⟨none, (some 50), .mv (.t 9)⟩,
  ⟨none, (some 51), .load 1 false (.t 8)⟩,
  ⟨none, (some 52), .len (.t 51)⟩,
  ⟨none, (some 53), .bin .lss (.t 50) (.t 52)⟩]
@[reducible] def c7 : IC := .cond (.t 53) .skip (.exit 0)
@[reducible] def c8 : IC := .seq (.reg r9) c7
def r10 : List In := [⟨none, (some 56), .load 1 false (.t 8)⟩,
  ⟨none, (some 57), .mv (.t 9)⟩,
  ⟨none, (some 58), .iaddr 1 (.t 56) (.t 57)⟩,
  ⟨none, (some 59), .load 1 false (.t 58)⟩,
  ⟨none, (some 10), .mv (.t 59)⟩]
def r11 : DT := (.take ⟨none, (some 60), .load 1 false (.t 2)⟩ true
  (.take ⟨none, (some 61), .load 1 false (.t 8)⟩ true
  (.alt ⟨none, (some 62), .mv (.t 9)⟩ true
  (.alt ⟨none, (some 63), .bin .add (.t 62) (.k (.a (.int .i64 1)))⟩ true
  (.alt ⟨none, (some 64), .sl 1 (.t 61) none (some (.t 63))⟩ true
  (.alt ⟨none, (some 65), .call 31 [(.t 60), (.t 64)]⟩ false
  (.take ⟨none, (some 11), .mv (.t 65)⟩ false
  .done)
  .stop)
  .stop)
  .stop)
  .stop)))
def r12 : List In := [⟨none, (some 66), .mv (.t 11)⟩,
  ⟨none, (some 67), .mv (.t 9)⟩,
  ⟨none, (some 68), .bin .add (.t 67) (.k (.a (.int .i64 1)))⟩,
  ⟨none, (some 69), .iaddr 1 (.t 66) (.t 68)⟩,
  ⟨none, (some 70), .load 1 false (.t 69)⟩,
  ⟨none, (some 71), .bin .gtr (.t 70) (.k (.a (.int .i64 65536)))⟩]
def r13 : List In := [⟨none, (some 72), .build [.raw (.slice none 0 0), .raw (.slice none 0 0), .raw (.slice none 0 0)] []⟩,
  ⟨none, (some 73), .mv (.t 10)⟩,
  ⟨none, (some 74), .build [.int .i64 0, .int .i64 0] [(0, 1, (.k (.a (.int .i64 4)))), (1, 1, (.t 73))]⟩,
  ⟨none, none, .store 3 (.t 4) (.t 72)⟩,
  ⟨none, none, .store 2 (.t 5) (.t 74)⟩]
@[reducible] def c9 : IC := .seq (.reg r13) .ret
@[reducible] def c10 : IC := .cond (.t 71) c9 .skip
@[reducible] def c11 : IC := .seq (.reg r12) c10
def r14 : List In := [⟨none, (some 75), .load 1 false (.t 2)⟩,
  ⟨none, (some 76), .mv (.t 10)⟩,
  ⟨none, (some 77), .iaddr 2 (.t 75) (.t 76)⟩,
  ⟨none, (some 78), .faddr 1 (.t 77)⟩,
  ⟨none, (some 79), .load 1 false (.t 78)⟩,
  ⟨none, (some 80), .len (.t 79)⟩,
  ⟨none, (some 81), .mv (.k (.a (.int .i64 0)))⟩]
def r15 : List In := [⟨none, (some 82), .bin .lss (.t 81) (.t 80)⟩]
@[reducible] def c12 : IC := .cond (.t 82) .skip (.exit 2)
def r16 : List In := [⟨none, (some 83), .iaddr 6 (.t 79) (.t 81)⟩,
  ⟨none, (some 84), .load 6 true (.t 83)⟩,
  ⟨none, (some 13), .alloc 43 [.str [], .int .i64 0, .int .i64 0, .int .i64 0, .int .i64 0, .str []]⟩,
  ⟨none, none, .store 6 (.t 13) (.t 84)⟩]
def r17 : List In := [⟨none, (some 85), .faddr 5 (.t 13)⟩,
  ⟨none, (some 86), .load 1 false (.t 85)⟩,
  ⟨none, (some 87), .bin .eql (.t 86) (.k (.a (.str [])))⟩]
@[reducible] def c13 : IC := .cond (.t 87) (.exit 3) .skip
@[reducible] def c14 : IC := .seq (.reg r17) c13
def r18 : List In := [⟨none, (some 88), .load 1 false (.t 2)⟩,
  ⟨none, (some 89), .faddr 5 (.t 13)⟩,
  ⟨none, (some 90), .load 1 false (.t 89)⟩,
  ⟨none, (some 91), .call 12 [(.t 88), (.t 90)]⟩,
  ⟨none, (some 14), .mv (.t 91)⟩]
def r19 : List In := [⟨none, (some 92), .faddr 5 (.t 13)⟩,
  ⟨none, (some 93), .load 1 false (.t 92)⟩,
  ⟨none, (some 94), .call 16 [(.t 93)]⟩,
  ⟨none, (some 95), .mv (.t 94)⟩,
  ⟨(some (95, true)), (some 96), .load 1 false (.t 2)⟩,
  ⟨(some (95, true)), (some 97), .mv (.t 10)⟩,
  ⟨(some (95, true)), (some 98), .iaddr 2 (.t 96) (.t 97)⟩,
  ⟨(some (95, true)), (some 99), .faddr 1 (.t 98)⟩,
  ⟨(some (95, true)), (some 100), .load 1 false (.t 99)⟩,
  ⟨(some (95, true)), (some 101), .faddr 5 (.t 13)⟩,
  ⟨(some (95, true)), (some 102), .load 1 false (.t 101)⟩,
  ⟨(some (95, true)), (some 103), .call 17 [(.t 100), (.t 102), (.k (.a (.int .i64 0)))]⟩,
  ⟨(some (95, true)), (some 104), .bin .geq (.t 103) (.k (.a (.int .i64 0)))⟩,
  ⟨none, (some 105), .pick (.t 95) (.t 104) (.k (.a (.bool false)))⟩]
def r20 : List In := [⟨none, (some 106), .mv (.t 10)⟩,
  ⟨none, (some 14), .mv (.t 106)⟩]
@[reducible] def c15 : IC := .cond (.t 105) (.reg r20) .skip
@[reducible] def c16 : IC := .seq (.dreg r19) c15
def r21 : List In := [⟨none, (some 107), .mv (.t 14)⟩,
  ⟨none, (some 108), .bin .lss (.t 107) (.k (.a (.int .i64 0)))⟩]
def r22 : List In := [⟨none, (some 109), .build [.raw (.slice none 0 0), .raw (.slice none 0 0), .raw (.slice none 0 0)] []⟩,
  ⟨none, (some 110), .mv (.t 10)⟩,
  ⟨none, (some 111), .build [.int .i64 0, .int .i64 0] [(0, 1, (.k (.a (.int .i64 6)))), (1, 1, (.t 110))]⟩,
  ⟨none, none, .store 3 (.t 4) (.t 109)⟩,
  ⟨none, none, .store 2 (.t 5) (.t 111)⟩]
@[reducible] def c17 : IC := .seq (.reg r22) .ret
@[reducible] def c18 : IC := .cond (.t 108) c17 .skip
@[reducible] def c19 : IC := .seq (.reg r21) c18
def r23 : List In := [⟨none, (some 15), .mv (.k (.a (.bool false)))⟩]
def r24 : List In := [⟨none, (some 112), .load 1 false (.t 8)⟩,
  ⟨none, (some 113), .len (.t 112)⟩,
  ⟨none, (some 114), .mv (.k (.a (.int .i64 0)))⟩]
def r25 : List In := [⟨none, (some 115), .bin .lss (.t 114) (.t 113)⟩]
@[reducible] def c20 : IC := .cond (.t 115) .skip (.exit 4)
def r26 : List In := [⟨none, (some 116), .iaddr 1 (.t 112) (.t 114)⟩,
  ⟨none, (some 117), .load 1 false (.t 116)⟩,
  ⟨none, (some 17), .mv (.t 117)⟩]
def r27 : List In := [⟨none, (some 118), .mv (.t 15)⟩,
  ⟨none, (some 119), .mv (.t 118)⟩,
  ⟨(some (119, false)), (some 120), .mv (.t 17)⟩,
  ⟨(some (119, false)), (some 121), .mv (.t 14)⟩,
  ⟨(some (119, false)), (some 122), .bin .eql (.t 120) (.t 121)⟩,
  ⟨none, (some 123), .pick (.t 119) (.k (.a (.bool true))) (.t 122)⟩,
  ⟨none, (some 15), .mv (.t 123)⟩]
@[reducible] def c21 : IC := .seq (.reg r26) (.reg r27)
@[reducible] def c22 : IC := .block 5 c21
def r28 : List In := [⟨none, (some 124), .bin .add (.t 114) (.k (.a (.int .i64 1)))⟩,
  ⟨none, (some 114), .mv (.t 124)⟩]
@[reducible] def c23 : IC := .seq c22 (.reg r28)
@[reducible] def c24 : IC := .seq c20 c23
@[reducible] def c25 : IC := .seq (.reg r25) c24
@[reducible] def c26 : IC := .loop c25
@[reducible] def c27 : IC := .block 4 c26
@[reducible] def c28 : IC := .seq (.reg r24) c27
def r29 : List In := [⟨none, (some 125), .mv (.t 15)⟩,
  ⟨none, (some 126), .un .not (.t 125)⟩]
def r30 : List In := [⟨none, (some 127), .load 1 false (.t 8)⟩,
  ⟨none, (some 128), .mv (.t 14)⟩,
  ⟨none, (some 129), .bsl 3 1 1 [.int .i64 0] [(0, 1, (.t 128))]⟩,
  ⟨none, (some 130), .app 23 3 1 8 (.t 127) (.t 129)⟩,
  ⟨none, none, .store 1 (.t 8) (.t 130)⟩]
@[reducible] def c29 : IC := .cond (.t 126) (.reg r30) .skip
@[reducible] def c30 : IC := .seq (.reg r29) c29
@[reducible] def c31 : IC := .seq c28 c30
@[reducible] def c32 : IC := .seq (.reg r23) c31
@[reducible] def c33 : IC := .seq c19 c32
@[reducible] def c34 : IC := .seq c16 c33
@[reducible] def c35 : IC := .seq (.reg r18) c34
@[reducible] def c36 : IC := .seq c14 c35
@[reducible] def c37 : IC := .seq (.reg r16) c36
@[reducible] def c38 : IC := .block 3 c37
def r31 : List In := [⟨none, (some 131), .bin .add (.t 81) (.k (.a (.int .i64 1)))⟩,
  ⟨none, (some 81), .mv (.t 131)⟩]
@[reducible] def c39 : IC := .seq c38 (.reg r31)
@[reducible] def c40 : IC := .seq c12 c39
@[reducible] def c41 : IC := .seq (.reg r15) c40
@[reducible] def c42 : IC := .loop c41
@[reducible] def c43 : IC := .block 2 c42
@[reducible] def c44 : IC := .seq (.reg r14) c43
@[reducible] def c45 : IC := .seq c11 c44
@[reducible] def c46 : IC := .seq (.dany r11) c45
@[reducible] def c47 : IC := .seq (.reg r10) c46
@[reducible] def c48 : IC := .block 1 c47
def r32 : List In := [⟨none, (some 54), .mv (.t 9)⟩,
  ⟨none, (some 55), .bin .add (.t 54) (.k (.a (.int .i64 1)))⟩,
  ⟨none, (some 9), .mv (.t 55)⟩]
@[reducible] def c49 : IC := .seq c48 (.reg r32)
@[reducible] def c50 : IC := .seq c8 c49
@[reducible] def c51 : IC := .loop c50
@[reducible] def c52 : IC := .block 0 c51
@[reducible] def c53 : IC := .seq (.reg r8) c52
def r33 : List In := [⟨none, (some 132), .load 1 false (.t 2)⟩,
  ⟨none, (some 133), .load 1 false (.t 8)⟩,
  ⟨none, (some 134), .call 31 [(.t 132), (.t 133)]⟩,
  ⟨none, (some 18), .alloc 23 [.raw (.slice none 0 0)]⟩,
  ⟨none, none, .store 1 (.t 18) (.t 134)⟩]
def r34 : List In := [⟨none, (some 135), .load 1 false (.t 8)⟩,
  ⟨none, (some 136), .build [.raw (.slice none 0 0), .raw (.slice none 0 0), .raw (.slice none 0 0)] [(1, 1, (.t 135))]⟩,
  ⟨none, (some 19), .alloc 26 [.raw (.slice none 0 0), .raw (.slice none 0 0), .raw (.slice none 0 0)]⟩,
  ⟨none, none, .store 3 (.t 19) (.t 136)⟩]
def r35 : List In := [⟨none, (some 137), .mkf 32 [(.t 2), (.t 8), (.t 18)]⟩,
  ⟨none, (some 20), .mv (.t 137)⟩]
def r36 : List In := [⟨none, (some 138), .load 1 false (.t 8)⟩,
  ⟨none, (some 139), .len (.t 138)⟩,
  ⟨none, (some 140), .mv (.k (.a (.int .i64 0)))⟩]
def r37 : List In := [⟨none, (some 141), .bin .lss (.t 140) (.t 139)⟩]
@[reducible] def c54 : IC := .cond (.t 141) .skip (.exit 6)
def r38 : List In := [⟨none, (some 142), .mv (.t 140)⟩,
  ⟨none, (some 143), .iaddr 1 (.t 138) (.t 140)⟩,
  ⟨none, (some 144), .load 1 false (.t 143)⟩,
  ⟨none, (some 21), .mv (.t 142)⟩,
  ⟨none, (some 22), .mv (.t 144)⟩]
def r39 : List In := [⟨none, (some 145), .load 1 false (.t 2)⟩,
  ⟨none, (some 146), .mv (.t 22)⟩,
  ⟨none, (some 147), .iaddr 2 (.t 145) (.t 146)⟩,
  ⟨none, (some 148), .faddr 1 (.t 147)⟩,
  ⟨none, (some 149), .load 1 false (.t 148)⟩,
  ⟨none, (some 150), .len (.t 149)⟩,
  ⟨none, (some 151), .mv (.k (.a (.int .i64 0)))⟩]
def r40 : List In := [⟨none, (some 152), .bin .lss (.t 151) (.t 150)⟩]
@[reducible] def c55 : IC := .cond (.t 152) .skip (.exit 8)
def r41 : List In := [⟨none, (some 153), .iaddr 6 (.t 149) (.t 151)⟩,
  ⟨none, (some 154), .load 6 true (.t 153)⟩,
  ⟨none, (some 24), .alloc 43 [.str [], .int .i64 0, .int .i64 0, .int .i64 0, .int .i64 0, .str []]⟩,
  ⟨none, none, .store 6 (.t 24) (.t 154)⟩]
def r42 : List In := [⟨none, (some 155), .faddr 0 (.t 24)⟩,
  ⟨none, (some 156), .load 1 false (.t 155)⟩,
  ⟨none, (some 157), .bin .neq (.t 156) (.k (.a (.str [])))⟩]
def r43 : List In := [⟨none, (some 158), .faddr 0 (.t 24)⟩,
  ⟨none, (some 159), .load 1 false (.t 158)⟩,
  ⟨none, (some 160), .call 16 [(.t 159)]⟩,
  ⟨none, (some 161), .un .not (.t 160)⟩]
def r44 : DT := (.take ⟨none, (some 162), .faddr 2 (.t 19)⟩ true
  (.take ⟨none, (some 163), .load 1 false (.t 162)⟩ true
  (.take ⟨none, (some 164), .faddr 0 (.t 24)⟩ true
  (.take ⟨none, (some 165), .load 1 false (.t 164)⟩ true
  (.take ⟨none, (some 166), .mv (.t 20)⟩ true
  (.take ⟨none, (some 167), .faddr 0 (.t 24)⟩ true
  (.take ⟨none, (some 168), .load 1 false (.t 167)⟩ true
  (.take ⟨none, (some 169), .mv (.t 22)⟩ true
  (.take ⟨none, (some 170), .load 1 false (.t 18)⟩ true
  (.alt ⟨none, (some 171), .mv (.t 21)⟩ true
  (.alt ⟨none, (some 172), .iaddr 1 (.t 170) (.t 171)⟩ true
  (.alt ⟨none, (some 173), .load 1 false (.t 172)⟩ true
  (.alt ⟨none, (some 174), .callv (.t 166) [(.t 168), (.t 169), (.t 173)]⟩ true
  (.alt ⟨none, (some 175), .build [.str [], .int .i64 0] [(0, 1, (.t 165)), (1, 1, (.t 174))]⟩ true
  (.alt ⟨none, (some 176), .bsl 54 2 1 [.str [], .int .i64 0] [(0, 2, (.t 175))]⟩ true
  (.alt ⟨none, (some 177), .app 24 54 2 24 (.t 163) (.t 176)⟩ false
  (.alt ⟨none, (some 178), .faddr 2 (.t 19)⟩ false
  (.alt ⟨none, none, .store 1 (.t 178) (.t 177)⟩ false
  .done
  .stop)
  .stop)
  .stop)
  .stop)
  .stop)
  .stop)
  .stop)
  .stop)
  .stop))))))))))
@[reducible] def c56 : IC := .cond (.t 161) (.dany r44) .skip
@[reducible] def c57 : IC := .seq (.reg r43) c56
@[reducible] def c58 : IC := .seq c57 (.exit 9)
@[reducible] def c59 : IC := .cond (.t 157) c58 .skip
@[reducible] def c60 : IC := .seq (.reg r42) c59
def r45 : List In := [⟨none, (some 179), .faddr 1 (.t 24)⟩,
  ⟨none, (some 180), .load 4 true (.t 179)⟩,
  ⟨none, (some 25), .alloc 41 [.int .i64 0, .int .i64 0, .int .i64 0, .int .i64 0]⟩,
  ⟨none, none, .store 4 (.t 25) (.t 180)⟩]
def r46 : List In := [⟨none, (some 181), .faddr 5 (.t 24)⟩,
  ⟨none, (some 182), .load 1 false (.t 181)⟩,
  ⟨none, (some 183), .bin .neq (.t 182) (.k (.a (.str [])))⟩]
def r47 : List In := [⟨none, (some 184), .mv (.t 20)⟩,
  ⟨none, (some 185), .faddr 5 (.t 24)⟩,
  ⟨none, (some 186), .load 1 false (.t 185)⟩,
  ⟨none, (some 187), .mv (.t 22)⟩,
  ⟨none, (some 188), .load 1 false (.t 18)⟩,
  ⟨none, (some 189), .mv (.t 21)⟩,
  ⟨none, (some 190), .iaddr 1 (.t 188) (.t 189)⟩,
  ⟨none, (some 191), .load 1 false (.t 190)⟩]
def r48 : List In := [⟨none, (some 192), .callv (.t 184) [(.t 186), (.t 187), (.t 191)]⟩,
  ⟨none, (some 193), .bin .rem (.t 192) (.k (.a (.int .i64 65536)))⟩,
  ⟨none, (some 194), .faddr 3 (.t 25)⟩,
  ⟨none, none, .store 1 (.t 194) (.t 193)⟩]
@[reducible] def c61 : IC := .cond (.t 183) (.dregt r47 r48) .skip
@[reducible] def c62 : IC := .seq (.reg r46) c61
def r49 : List In := [⟨none, (some 196), .load 4 true (.t 25)⟩,
  ⟨none, (some 197), .bsl 41 4 1 [.int .i64 0, .int .i64 0, .int .i64 0, .int .i64 0] [(0, 4, (.t 196))]⟩,
  ⟨none, (some 198), .call 33 [(.t 197)]⟩,
  ⟨none, (some 195), .mv (.t 198)⟩,
  ⟨none, (some 199), .ext 0 (.t 195)⟩,
  ⟨none, (some 200), .ext 1 (.t 195)⟩,
  ⟨none, (some 27), .alloc 29 [.int .i64 0, .int .i64 0]⟩,
  ⟨none, (some 26), .mv (.t 199)⟩,
  ⟨none, none, .store 2 (.t 27) (.t 200)⟩]
def r50 : List In := [⟨none, (some 201), .faddr 0 (.t 19)⟩,
  ⟨none, (some 202), .load 1 false (.t 201)⟩,
  ⟨none, (some 203), .mv (.t 26)⟩,
  ⟨none, (some 204), .app 23 3 1 8 (.t 202) (.t 203)⟩,
  ⟨none, (some 205), .faddr 0 (.t 19)⟩,
  ⟨none, none, .store 1 (.t 205) (.t 204)⟩]
@[reducible] def c63 : IC := .seq (.reg r49) (.reg r50)
@[reducible] def c64 : IC := .seq c62 c63
@[reducible] def c65 : IC := .seq (.reg r45) c64
@[reducible] def c66 : IC := .seq c60 c65
@[reducible] def c67 : IC := .seq (.reg r41) c66
@[reducible] def c68 : IC := .block 9 c67
def r51 : List In := [⟨none, (some 206), .bin .add (.t 151) (.k (.a (.int .i64 1)))⟩,
  ⟨none, (some 151), .mv (.t 206)⟩]
@[reducible] def c69 : IC := .seq c68 (.reg r51)
@[reducible] def c70 : IC := .seq c55 c69
@[reducible] def c71 : IC := .seq (.reg r40) c70
@[reducible] def c72 : IC := .loop c71
@[reducible] def c73 : IC := .block 8 c72
@[reducible] def c74 : IC := .seq (.reg r39) c73
@[reducible] def c75 : IC := .seq (.reg r38) c74
@[reducible] def c76 : IC := .block 7 c75
def r52 : List In := [⟨none, (some 207), .bin .add (.t 140) (.k (.a (.int .i64 1)))⟩,
  ⟨none, (some 140), .mv (.t 207)⟩]
@[reducible] def c77 : IC := .seq c76 (.reg r52)
@[reducible] def c78 : IC := .seq c54 c77
@[reducible] def c79 : IC := .seq (.reg r37) c78
@[reducible] def c80 : IC := .loop c79
@[reducible] def c81 : IC := .block 6 c80
@[reducible] def c82 : IC := .seq (.reg r36) c81
def r53 : List In := [⟨none, (some 208), .load 3 true (.t 19)⟩,
  ⟨none, (some 209), .build [.int .i64 0, .int .i64 0] []⟩,
  ⟨none, none, .store 3 (.t 4) (.t 208)⟩,
  ⟨none, none, .store 2 (.t 5) (.t 209)⟩]
@[reducible] def c83 : IC := .seq (.reg r53) .ret
@[reducible] def c84 : IC := .seq c82 c83
@[reducible] def c85 : IC := .seq (.reg r35) c84
@[reducible] def c86 : IC := .seq (.reg r34) c85
@[reducible] def c87 : IC := .seq (.reg r33) c86
@[reducible] def c88 : IC := .seq c53 c87
@[reducible] def c89 : IC := .seq (.reg r7) c88
@[reducible] def c90 : IC := .seq c6 c89
@[reducible] def c91 : IC := .seq (.reg r4) c90
@[reducible] def c92 : IC := .seq c3 c91
@[reducible] def c93 : IC := .seq (.reg r0) c92
@[reducible] def code : IC := c93
def res : List RV := [.cell 4 3 true, .cell 5 2 true]
theorem rs : type_of% (And.intro r0.eq_1 <| And.intro r1.eq_1 <| And.intro r2.eq_1 <| And.intro r3.eq_1 <| And.intro r4.eq_1 <| And.intro r5.eq_1 <| And.intro r6.eq_1 <| And.intro r7.eq_1 <| And.intro r8.eq_1 <| And.intro r9.eq_1 <| And.intro r10.eq_1 <| And.intro r11.eq_1 <| And.intro r12.eq_1 <| And.intro r13.eq_1 <| And.intro r14.eq_1 <| And.intro r15.eq_1 <| And.intro r16.eq_1 <| And.intro r17.eq_1 <| And.intro r18.eq_1 <| And.intro r19.eq_1 <| And.intro r20.eq_1 <| And.intro r21.eq_1 <| And.intro r22.eq_1 <| And.intro r23.eq_1 <| And.intro r24.eq_1 <| And.intro r25.eq_1 <| And.intro r26.eq_1 <| And.intro r27.eq_1 <| And.intro r28.eq_1 <| And.intro r29.eq_1 <| And.intro r30.eq_1 <| And.intro r31.eq_1 <| And.intro r32.eq_1 <| And.intro r33.eq_1 <| And.intro r34.eq_1 <| And.intro r35.eq_1 <| And.intro r36.eq_1 <| And.intro r37.eq_1 <| And.intro r38.eq_1 <| And.intro r39.eq_1 <| And.intro r40.eq_1 <| And.intro r41.eq_1 <| And.intro r42.eq_1 <| And.intro r43.eq_1 <| And.intro r44.eq_1 <| And.intro r45.eq_1 <| And.intro r46.eq_1 <| And.intro r47.eq_1 <| And.intro r48.eq_1 <| And.intro r49.eq_1 <| And.intro r50.eq_1 <| And.intro r51.eq_1 <| And.intro r52.eq_1 <| r53.eq_1) := And.intro r0.eq_1 <| And.intro r1.eq_1 <| And.intro r2.eq_1 <| And.intro r3.eq_1 <| And.intro r4.eq_1 <| And.intro r5.eq_1 <| And.intro r6.eq_1 <| And.intro r7.eq_1 <| And.intro r8.eq_1 <| And.intro r9.eq_1 <| And.intro r10.eq_1 <| And.intro r11.eq_1 <| And.intro r12.eq_1 <| And.intro r13.eq_1 <| And.intro r14.eq_1 <| And.intro r15.eq_1 <| And.intro r16.eq_1 <| And.intro r17.eq_1 <| And.intro r18.eq_1 <| And.intro r19.eq_1 <| And.intro r20.eq_1 <| And.intro r21.eq_1 <| And.intro r22.eq_1 <| And.intro r23.eq_1 <| And.intro r24.eq_1 <| And.intro r25.eq_1 <| And.intro r26.eq_1 <| And.intro r27.eq_1 <| And.intro r28.eq_1 <| And.intro r29.eq_1 <| And.intro r30.eq_1 <| And.intro r31.eq_1 <| And.intro r32.eq_1 <| And.intro r33.eq_1 <| And.intro r34.eq_1 <| And.intro r35.eq_1 <| And.intro r36.eq_1 <| And.intro r37.eq_1 <| And.intro r38.eq_1 <| And.intro r39.eq_1 <| And.intro r40.eq_1 <| And.intro r41.eq_1 <| And.intro r42.eq_1 <| And.intro r43.eq_1 <| And.intro r44.eq_1 <| And.intro r45.eq_1 <| And.intro r46.eq_1 <| And.intro r47.eq_1 <| And.intro r48.eq_1 <| And.intro r49.eq_1 <| And.intro r50.eq_1 <| And.intro r51.eq_1 <| And.intro r52.eq_1 <| r53.eq_1
theorem fn : Body Try.prog 9 210 code res := ⟨by decide, Try.f9, _, Try.func9, rfl, rfl, by kernel_rfl, by kernel_rfl⟩
theorem enters : Xw Try.prog 9 = true := by kernel_rfl
end R4
namespace Rd
def r0 : List In := [⟨none, (some 9), .mv (.k (.a (.int .i64 0)))⟩]
def r1 : List In := [⟨none, (some 13), .mv (.t 0)⟩,
  ⟨none, (some 14), .call 16 [(.t 13)]⟩]
def r2 : List In := [⟨none, (some 15), .load 1 false (.t 3)⟩,
  ⟨none, (some 16), .mv (.t 1)⟩,
  ⟨none, (some 17), .iaddr 2 (.t 15) (.t 16)⟩,
  ⟨none, (some 18), .faddr 1 (.t 17)⟩,
  ⟨none, (some 19), .load 1 false (.t 18)⟩,
  ⟨none, (some 20), .mv (.t 0)⟩,
  ⟨none, (some 21), .mv (.t 2)⟩,
  ⟨none, (some 22), .call 17 [(.t 19), (.t 20), (.t 21)]⟩,
  ⟨none, (some 9), .mv (.t 22)⟩]
@[reducible] def c0 : IC := .seq (.reg r2) .ret
@[reducible] def c1 : IC := .cond (.t 14) c0 .skip
@[reducible] def c2 : IC := .seq (.reg r1) c1
def r3 : List In := [⟨none, (some 23), .load 1 false (.t 3)⟩,
  ⟨none, (some 24), .mv (.t 0)⟩,
  ⟨none, (some 25), .call 12 [(.t 23), (.t 24)]⟩,
  ⟨none, (some 10), .mv (.t 25)⟩]
def r4 : List In := [⟨none, (some 26), .load 1 false (.t 4)⟩,
  ⟨none, (some 27), .len (.t 26)⟩,
  ⟨none, (some 28), .mv (.k (.a (.int .i64 0)))⟩]
def r5 : List In := [⟨none, (some 29), .bin .lss (.t 28) (.t 27)⟩]
@[reducible] def c3 : IC := .cond (.t 29) .skip (.exit 0)
def r6 : List In := [⟨none, (some 30), .mv (.t 28)⟩,
  ⟨none, (some 31), .iaddr 1 (.t 26) (.t 28)⟩,
  ⟨none, (some 32), .load 1 false (.t 31)⟩,
  ⟨none, (some 11), .mv (.t 30)⟩,
  ⟨none, (some 12), .mv (.t 32)⟩]
def r7 : List In := [⟨none, (some 33), .mv (.t 12)⟩,
  ⟨none, (some 34), .mv (.t 10)⟩,
  ⟨none, (some 35), .bin .eql (.t 33) (.t 34)⟩]
def r8 : List In := [⟨none, (some 36), .load 1 false (.t 3)⟩,
  ⟨none, (some 37), .mv (.t 10)⟩,
  ⟨none, (some 38), .iaddr 2 (.t 36) (.t 37)⟩,
  ⟨none, (some 39), .faddr 1 (.t 38)⟩,
  ⟨none, (some 40), .load 1 false (.t 39)⟩,
  ⟨none, (some 41), .mv (.t 0)⟩,
  ⟨none, (some 42), .load 1 false (.t 5)⟩,
  ⟨none, (some 43), .mv (.t 11)⟩,
  ⟨none, (some 44), .iaddr 1 (.t 42) (.t 43)⟩,
  ⟨none, (some 45), .load 1 false (.t 44)⟩,
  ⟨none, (some 46), .call 17 [(.t 40), (.t 41), (.t 45)]⟩,
  ⟨none, (some 9), .mv (.t 46)⟩]
@[reducible] def c4 : IC := .seq (.dreg r8) .ret
@[reducible] def c5 : IC := .cond (.t 35) c4 .skip
@[reducible] def c6 : IC := .seq (.reg r7) c5
@[reducible] def c7 : IC := .seq (.reg r6) c6
@[reducible] def c8 : IC := .block 1 c7
def r9 : List In := [⟨none, (some 47), .bin .add (.t 28) (.k (.a (.int .i64 1)))⟩,
  ⟨none, (some 28), .mv (.t 47)⟩]
@[reducible] def c9 : IC := .seq c8 (.reg r9)
@[reducible] def c10 : IC := .seq c3 c9
@[reducible] def c11 : IC := .seq (.reg r5) c10
@[reducible] def c12 : IC := .loop c11
@[reducible] def c13 : IC := .block 0 c12
@[reducible] def c14 : IC := .seq (.reg r4) c13
def r10 : List In := [⟨none, (some 9), .mv (.k (.a (.int .i64 (-1))))⟩]
@[reducible] def c15 : IC := .seq (.reg r10) .ret
@[reducible] def c16 : IC := .seq c14 c15
@[reducible] def c17 : IC := .seq (.reg r3) c16
@[reducible] def c18 : IC := .seq c2 c17
@[reducible] def c19 : IC := .seq (.reg r0) c18
@[reducible] def code : IC := c19
def res : List RV := [.tmp 9]
theorem rs : type_of% (And.intro r0.eq_1 <| And.intro r1.eq_1 <| And.intro r2.eq_1 <| And.intro r3.eq_1 <| And.intro r4.eq_1 <| And.intro r5.eq_1 <| And.intro r6.eq_1 <| And.intro r7.eq_1 <| And.intro r8.eq_1 <| And.intro r9.eq_1 <| r10.eq_1) := And.intro r0.eq_1 <| And.intro r1.eq_1 <| And.intro r2.eq_1 <| And.intro r3.eq_1 <| And.intro r4.eq_1 <| And.intro r5.eq_1 <| And.intro r6.eq_1 <| And.intro r7.eq_1 <| And.intro r8.eq_1 <| And.intro r9.eq_1 <| r10.eq_1
theorem fn : Body Try.prog 32 48 code res := ⟨by decide, Try.f32, _, Try.func32, rfl, rfl, by kernel_rfl, by kernel_rfl⟩
theorem enters : Xw Try.prog 32 = true := by kernel_rfl
end Rd
namespace Wh
def r0 : List In := [⟨none, (some 2), .box 26 (.t 0)⟩,
  ⟨none, (some 3), .box 26 (.t 1)⟩,
  ⟨none, (some 4), .mv (.k (.a (.bool false)))⟩]
def r1 : List In := [⟨none, (some 6), .faddr 0 (.t 2)⟩,
  ⟨none, (some 7), .load 1 false (.t 6)⟩,
  ⟨none, (some 8), .faddr 0 (.t 3)⟩,
  ⟨none, (some 9), .load 1 false (.t 8)⟩,
  ⟨none, (some 10), .call 14 [(.t 7), (.t 9)]⟩,
  ⟨none, (some 11), .un .not (.t 10)⟩,
  ⟨none, (some 12), .mv (.t 11)⟩,
  ⟨(some (12, false)), (some 13), .faddr 1 (.t 2)⟩,
  ⟨(some (12, false)), (some 14), .load 1 false (.t 13)⟩,
  ⟨(some (12, false)), (some 15), .faddr 1 (.t 3)⟩,
  ⟨(some (12, false)), (some 16), .load 1 false (.t 15)⟩,
  ⟨(some (12, false)), (some 17), .call 14 [(.t 14), (.t 16)]⟩,
  ⟨(some (12, false)), (some 18), .un .not (.t 17)⟩,
  ⟨none, (some 19), .pick (.t 12) (.k (.a (.bool true))) (.t 18)⟩,
  ⟨none, (some 20), .mv (.t 19)⟩,
  ⟨(some (20, false)), (some 21), .faddr 2 (.t 2)⟩,
  ⟨(some (20, false)), (some 22), .load 1 false (.t 21)⟩,
  ⟨(some (20, false)), (some 23), .len (.t 22)⟩,
  ⟨(some (20, false)), (some 24), .faddr 2 (.t 3)⟩,
  ⟨(some (20, false)), (some 25), .load 1 false (.t 24)⟩,
  ⟨(some (20, false)), (some 26), .len (.t 25)⟩,
  ⟨(some (20, false)), (some 27), .bin .neq (.t 23) (.t 26)⟩,
  ⟨none, (some 28), .pick (.t 20) (.k (.a (.bool true))) (.t 27)⟩]
def r2 : List In := [⟨none, (some 4), .mv (.k (.a (.bool false)))⟩]
@[reducible] def c0 : IC := .seq (.reg r2) .ret
@[reducible] def c1 : IC := .cond (.t 28) c0 .skip
@[reducible] def c2 : IC := .seq (.reg r1) c1
def r3 : List In := [⟨none, (some 29), .faddr 2 (.t 2)⟩,
  ⟨none, (some 30), .load 1 false (.t 29)⟩,
  ⟨none, (some 31), .len (.t 30)⟩,
  ⟨none, (some 32), .mv (.k (.a (.int .i64 0)))⟩]
def r4 : List In := [⟨none, (some 33), .bin .lss (.t 32) (.t 31)⟩]
@[reducible] def c3 : IC := .cond (.t 33) .skip (.exit 0)
def r5 : List In := [⟨none, (some 34), .mv (.t 32)⟩,
  ⟨none, (some 5), .mv (.t 34)⟩]
def r6 : List In := [⟨none, (some 35), .faddr 2 (.t 2)⟩,
  ⟨none, (some 36), .load 1 false (.t 35)⟩,
  ⟨none, (some 37), .mv (.t 5)⟩,
  ⟨none, (some 38), .iaddr 2 (.t 36) (.t 37)⟩,
  ⟨none, (some 39), .load 2 true (.t 38)⟩,
  ⟨none, (some 40), .faddr 2 (.t 3)⟩,
  ⟨none, (some 41), .load 1 false (.t 40)⟩,
  ⟨none, (some 42), .mv (.t 5)⟩,
  ⟨none, (some 43), .iaddr 2 (.t 41) (.t 42)⟩,
  ⟨none, (some 44), .load 2 true (.t 43)⟩,
  ⟨none, (some 45), .aeq true [.str, .int] (.t 39) (.t 44)⟩]
def r7 : List In := [⟨none, (some 4), .mv (.k (.a (.bool false)))⟩]
@[reducible] def c4 : IC := .seq (.reg r7) .ret
@[reducible] def c5 : IC := .cond (.t 45) c4 .skip
@[reducible] def c6 : IC := .seq (.dreg r6) c5
@[reducible] def c7 : IC := .seq (.reg r5) c6
@[reducible] def c8 : IC := .block 1 c7
def r8 : List In := [⟨none, (some 46), .bin .add (.t 32) (.k (.a (.int .i64 1)))⟩,
  ⟨none, (some 32), .mv (.t 46)⟩]
@[reducible] def c9 : IC := .seq c8 (.reg r8)
@[reducible] def c10 : IC := .seq c3 c9
@[reducible] def c11 : IC := .seq (.reg r4) c10
@[reducible] def c12 : IC := .loop c11
@[reducible] def c13 : IC := .block 0 c12
@[reducible] def c14 : IC := .seq (.reg r3) c13
def r9 : List In := [⟨none, (some 4), .mv (.k (.a (.bool true)))⟩]
@[reducible] def c15 : IC := .seq (.reg r9) .ret
@[reducible] def c16 : IC := .seq c14 c15
@[reducible] def c17 : IC := .seq c2 c16
@[reducible] def c18 : IC := .seq (.reg r0) c17
@[reducible] def code : IC := c18
def res : List RV := [.tmp 4]
theorem rs : type_of% (And.intro r0.eq_1 <| And.intro r1.eq_1 <| And.intro r2.eq_1 <| And.intro r3.eq_1 <| And.intro r4.eq_1 <| And.intro r5.eq_1 <| And.intro r6.eq_1 <| And.intro r7.eq_1 <| And.intro r8.eq_1 <| r9.eq_1) := And.intro r0.eq_1 <| And.intro r1.eq_1 <| And.intro r2.eq_1 <| And.intro r3.eq_1 <| And.intro r4.eq_1 <| And.intro r5.eq_1 <| And.intro r6.eq_1 <| And.intro r7.eq_1 <| And.intro r8.eq_1 <| r9.eq_1
theorem fn : Body Try.prog 10 47 code res := ⟨by decide, Try.f10, _, Try.func10, rfl, rfl, by kernel_rfl, by kernel_rfl⟩
theorem enters : Xw Try.prog 10 = true := by kernel_rfl
end Wh
namespace Xx
def r0 : List In := [⟨none, (some 4), .mv (.k (.a (.bool false)))⟩]
def r1 : List In := [⟨none, (some 5), .mv (.t 0)⟩,
  ⟨none, (some 6), .mv (.t 1)⟩,
  ⟨none, (some 7), .call 27 [(.t 5), (.t 6)]⟩,
  ⟨none, (some 8), .bin .geq (.t 7) (.k (.a (.int .i64 0)))⟩,
  ⟨none, (some 4), .mv (.t 8)⟩]
@[reducible] def c0 : IC := .seq (.reg r1) .ret
@[reducible] def c1 : IC := .seq (.reg r0) c0
@[reducible] def code : IC := c1
def res : List RV := [.tmp 4]
theorem rs : type_of% (And.intro r0.eq_1 <| r1.eq_1) := And.intro r0.eq_1 <| r1.eq_1
theorem fn : Body Try.prog 22 9 code res := ⟨by decide, Try.f22, _, Try.func22, rfl, rfl, by kernel_rfl, by kernel_rfl⟩
theorem enters : Xw Try.prog 22 = true := by kernel_rfl
end Xx
namespace W9
def r0 : List In := [⟨none, (some 4), .mv (.k (.a (.bool false)))⟩]
def r1 : List In := [⟨none, (some 5), .mv (.t 0)⟩,
  ⟨none, (some 6), .mv (.t 1)⟩,
  ⟨none, (some 7), .call 39 [(.t 5), (.t 6)]⟩,
  ⟨none, (some 8), .bin .geq (.t 7) (.k (.a (.int .i64 0)))⟩,
  ⟨none, (some 4), .mv (.t 8)⟩]
@[reducible] def c0 : IC := .seq (.reg r1) .ret
@[reducible] def c1 : IC := .seq (.reg r0) c0
@[reducible] def code : IC := c1
def res : List RV := [.tmp 4]
theorem rs : type_of% (And.intro r0.eq_1 <| r1.eq_1) := And.intro r0.eq_1 <| r1.eq_1
theorem fn : Body Try.prog 24 9 code res := ⟨by decide, Try.f24, _, Try.func24, rfl, rfl, by kernel_rfl, by kernel_rfl⟩
theorem enters : Xw Try.prog 24 = true := by kernel_rfl
end W9
namespace Yd
def r0 : List In := [⟨none, (some 4), .mv (.k (.a (.int .i64 0)))⟩]
def r1 : List In := [⟨none, (some 6), .mv (.t 0)⟩,
  ⟨none, (some 7), .len (.t 6)⟩,
  ⟨none, (some 8), .mv (.k (.a (.int .i64 0)))⟩]
def r2 : List In := [⟨none, (some 9), .bin .lss (.t 8) (.t 7)⟩]
@[reducible] def c0 : IC := .cond (.t 9) .skip (.exit 0)
def r3 : List In := [⟨none, (some 10), .mv (.t 8)⟩,
  ⟨none, (some 5), .mv (.t 10)⟩]
def r4 : List In := [⟨none, (some 11), .mv (.t 1)⟩,
  ⟨none, (some 12), .mv (.t 0)⟩,
  ⟨none, (some 13), .mv (.t 5)⟩,
  ⟨none, (some 14), .iaddr 2 (.t 12) (.t 13)⟩,
  ⟨none, (some 15), .load 2 true (.t 14)⟩,
  ⟨none, (some 16), .callv (.t 11) [(.t 15)]⟩]
def r5 : List In := [⟨none, (some 17), .mv (.t 5)⟩,
  ⟨none, (some 4), .mv (.t 17)⟩]
@[reducible] def c1 : IC := .seq (.reg r5) .ret
@[reducible] def c2 : IC := .cond (.t 16) c1 .skip
@[reducible] def c3 : IC := .seq (.reg r4) c2
@[reducible] def c4 : IC := .seq (.reg r3) c3
@[reducible] def c5 : IC := .block 1 c4
def r6 : List In := [⟨none, (some 18), .bin .add (.t 8) (.k (.a (.int .i64 1)))⟩,
  ⟨none, (some 8), .mv (.t 18)⟩]
@[reducible] def c6 : IC := .seq c5 (.reg r6)
@[reducible] def c7 : IC := .seq c0 c6
@[reducible] def c8 : IC := .seq (.reg r2) c7
@[reducible] def c9 : IC := .loop c8
@[reducible] def c10 : IC := .block 0 c9
@[reducible] def c11 : IC := .seq (.reg r1) c10
def r7 : List In := [⟨none, (some 4), .mv (.k (.a (.int .i64 (-1))))⟩]
@[reducible] def c12 : IC := .seq (.reg r7) .ret
@[reducible] def c13 : IC := .seq c11 c12
@[reducible] def c14 : IC := .seq (.reg r0) c13
@[reducible] def code : IC := c14
def res : List RV := [.tmp 4]
theorem rs : type_of% (And.intro r0.eq_1 <| And.intro r1.eq_1 <| And.intro r2.eq_1 <| And.intro r3.eq_1 <| And.intro r4.eq_1 <| And.intro r5.eq_1 <| And.intro r6.eq_1 <| r7.eq_1) := And.intro r0.eq_1 <| And.intro r1.eq_1 <| And.intro r2.eq_1 <| And.intro r3.eq_1 <| And.intro r4.eq_1 <| And.intro r5.eq_1 <| And.intro r6.eq_1 <| r7.eq_1
theorem fn : Body Try.prog 27 19 code res := ⟨by decide, Try.f27, _, Try.func27, rfl, rfl, by kernel_rfl, by kernel_rfl⟩
theorem enters : Xw Try.prog 27 = true := by kernel_rfl
end Yd
namespace X0
def r0 : List In := [⟨none, (some 4), .mv (.k (.a (.int .i64 0)))⟩]
def r1 : List In := [⟨none, (some 6), .mv (.t 0)⟩,
  ⟨none, (some 7), .len (.t 6)⟩,
  ⟨none, (some 8), .mv (.k (.a (.int .i64 0)))⟩]
def r2 : List In := [⟨none, (some 9), .bin .lss (.t 8) (.t 7)⟩]
@[reducible] def c0 : IC := .cond (.t 9) .skip (.exit 0)
def r3 : List In := [⟨none, (some 10), .mv (.t 8)⟩,
  ⟨none, (some 5), .mv (.t 10)⟩]
def r4 : List In := [⟨none, (some 11), .mv (.t 1)⟩,
  ⟨none, (some 12), .mv (.t 0)⟩,
  ⟨none, (some 13), .mv (.t 5)⟩,
  ⟨none, (some 14), .iaddr 1 (.t 12) (.t 13)⟩,
  ⟨none, (some 15), .load 1 false (.t 14)⟩,
  ⟨none, (some 16), .bin .eql (.t 11) (.t 15)⟩]
def r5 : List In := [⟨none, (some 17), .mv (.t 5)⟩,
  ⟨none, (some 4), .mv (.t 17)⟩]
@[reducible] def c1 : IC := .seq (.reg r5) .ret
@[reducible] def c2 : IC := .cond (.t 16) c1 .skip
@[reducible] def c3 : IC := .seq (.reg r4) c2
@[reducible] def c4 : IC := .seq (.reg r3) c3
@[reducible] def c5 : IC := .block 1 c4
def r6 : List In := [⟨none, (some 18), .bin .add (.t 8) (.k (.a (.int .i64 1)))⟩,
  ⟨none, (some 8), .mv (.t 18)⟩]
@[reducible] def c6 : IC := .seq c5 (.reg r6)
@[reducible] def c7 : IC := .seq c0 c6
@[reducible] def c8 : IC := .seq (.reg r2) c7
@[reducible] def c9 : IC := .loop c8
@[reducible] def c10 : IC := .block 0 c9
@[reducible] def c11 : IC := .seq (.reg r1) c10
def r7 : List In := [⟨none, (some 4), .mv (.k (.a (.int .i64 (-1))))⟩]
@[reducible] def c12 : IC := .seq (.reg r7) .ret
@[reducible] def c13 : IC := .seq c11 c12
@[reducible] def c14 : IC := .seq (.reg r0) c13
@[reducible] def code : IC := c14
def res : List RV := [.tmp 4]
theorem rs : type_of% (And.intro r0.eq_1 <| And.intro r1.eq_1 <| And.intro r2.eq_1 <| And.intro r3.eq_1 <| And.intro r4.eq_1 <| And.intro r5.eq_1 <| And.intro r6.eq_1 <| r7.eq_1) := And.intro r0.eq_1 <| And.intro r1.eq_1 <| And.intro r2.eq_1 <| And.intro r3.eq_1 <| And.intro r4.eq_1 <| And.intro r5.eq_1 <| And.intro r6.eq_1 <| r7.eq_1
theorem fn : Body Try.prog 39 19 code res := ⟨by decide, Try.f39, _, Try.func39, rfl, rfl, by kernel_rfl, by kernel_rfl⟩
theorem enters : Xw Try.prog 39 = true := by kernel_rfl
end X0
namespace Vo
def r0 : List In := [⟨none, (some 0), .mv (.k (.a (.bool false)))⟩]
def r1 : List In := [⟨none, (some 4), .build [.str [], .int .i64 0, .int .i64 0, .int .i64 0, .int .i64 0, .str []] [(0, 1, (.k (.a (.str [98]))))]⟩,
  ⟨none, (some 5), .build [.int .i64 0, .int .i64 0, .int .i64 0, .int .i64 0] [(0, 1, (.k (.a (.int .i64 27))))]⟩,
  ⟨none, (some 6), .build [.str [], .int .i64 0, .int .i64 0, .int .i64 0, .int .i64 0, .str []] [(1, 4, (.t 5))]⟩,
  ⟨none, (some 7), .bsl 43 6 2 [.str [], .int .i64 0, .int .i64 0, .int .i64 0, .int .i64 0, .str [], .str [], .int .i64 0, .int .i64 0, .int .i64 0, .int .i64 0, .str []] [(0, 6, (.t 4)), (6, 6, (.t 6))]⟩,
  ⟨none, (some 8), .build [.str [], .raw (.slice none 0 0)] [(1, 1, (.t 7))]⟩,
  ⟨none, (some 9), .build [.str [], .int .i64 0, .int .i64 0, .int .i64 0, .int .i64 0, .str []] [(0, 1, (.k (.a (.str [97]))))]⟩,
  ⟨none, (some 10), .build [.int .i64 0, .int .i64 0, .int .i64 0, .int .i64 0] [(0, 1, (.k (.a (.int .i64 26))))]⟩,
  ⟨none, (some 11), .build [.str [], .int .i64 0, .int .i64 0, .int .i64 0, .int .i64 0, .str []] [(1, 4, (.t 10)), (5, 1, (.k (.a (.str [98]))))]⟩,
  ⟨none, (some 12), .bsl 43 6 2 [.str [], .int .i64 0, .int .i64 0, .int .i64 0, .int .i64 0, .str [], .str [], .int .i64 0, .int .i64 0, .int .i64 0, .int .i64 0, .str []] [(0, 6, (.t 9)), (6, 6, (.t 11))]⟩,
  ⟨none, (some 13), .build [.str [], .raw (.slice none 0 0)] [(1, 1, (.t 12))]⟩,
  ⟨none, (some 14), .bsl 39 2 2 [.str [], .raw (.slice none 0 0), .str [], .raw (.slice none 0 0)] [(0, 2, (.t 8)), (2, 2, (.t 13))]⟩,
  ⟨none, (some 15), .call 8 [(.t 14), (.k (.a (.str [97])))]⟩,
  ⟨none, (some 3), .mv (.t 15)⟩,
  ⟨none, (some 16), .ext 0 (.t 3)⟩,
  ⟨none, (some 17), .ext 1 (.t 3)⟩,
  ⟨none, (some 1), .alloc 26 [.raw (.slice none 0 0), .raw (.slice none 0 0), .raw (.slice none 0 0)]⟩,
  ⟨none, (some 2), .alloc 29 [.int .i64 0, .int .i64 0]⟩,
  ⟨none, none, .store 3 (.t 1) (.t 16)⟩,
  ⟨none, none, .store 2 (.t 2) (.t 17)⟩]
def r2 : List In := [⟨none, (some 18), .faddr 0 (.t 2)⟩,
  ⟨none, (some 19), .load 1 false (.t 18)⟩,
  ⟨none, (some 20), .bin .eql (.t 19) (.k (.a (.int .i64 0)))⟩,
  ⟨none, (some 21), .mv (.t 20)⟩,
  ⟨(some (21, true)), (some 22), .faddr 0 (.t 1)⟩,
  ⟨(some (21, true)), (some 23), .load 1 false (.t 22)⟩,
  ⟨(some (21, true)), (some 24), .len (.t 23)⟩,
  ⟨(some (21, true)), (some 25), .bin .eql (.t 24) (.k (.a (.int .i64 3)))⟩,
  ⟨none, (some 26), .pick (.t 21) (.t 25) (.k (.a (.bool false)))⟩,
  ⟨none, (some 27), .mv (.t 26)⟩,
  ⟨(some (27, true)), (some 28), .faddr 0 (.t 1)⟩,
  ⟨(some (27, true)), (some 29), .load 1 false (.t 28)⟩,
  ⟨(some (27, true)), (some 30), .iaddr 1 (.t 29) (.k (.a (.int .i64 1)))⟩,
  ⟨(some (27, true)), (some 31), .load 1 false (.t 30)⟩,
  ⟨(some (27, true)), (some 32), .bin .eql (.t 31) (.k (.a (.int .i64 2)))⟩,
  ⟨none, (some 33), .pick (.t 27) (.t 32) (.k (.a (.bool false)))⟩,
  ⟨none, (some 34), .mv (.t 33)⟩,
  ⟨(some (34, true)), (some 35), .faddr 1 (.t 1)⟩,
  ⟨(some (34, true)), (some 36), .load 1 false (.t 35)⟩,
  ⟨(some (34, true)), (some 37), .len (.t 36)⟩,
  ⟨(some (34, true)), (some 38), .bin .eql (.t 37) (.k (.a (.int .i64 2)))⟩,
  ⟨none, (some 39), .pick (.t 34) (.t 38) (.k (.a (.bool false)))⟩,
  ⟨none, (some 40), .mv (.t 39)⟩,
  ⟨(some (40, true)), (some 41), .faddr 1 (.t 1)⟩,
  ⟨(some (40, true)), (some 42), .load 1 false (.t 41)⟩,
  ⟨(some (40, true)), (some 43), .iaddr 1 (.t 42) (.k (.a (.int .i64 0)))⟩,
  ⟨(some (40, true)), (some 44), .load 1 false (.t 43)⟩,
  ⟨(some (40, true)), (some 45), .bin .eql (.t 44) (.k (.a (.int .i64 1)))⟩,
  ⟨none, (some 46), .pick (.t 40) (.t 45) (.k (.a (.bool false)))⟩,
  ⟨none, (some 0), .mv (.t 46)⟩]
@[reducible] def c0 : IC := .seq (.reg r2) .ret
@[reducible] def c1 : IC := .seq (.reg r1) c0
@[reducible] def c2 : IC := .seq (.reg r0) c1
@[reducible] def code : IC := c2
def res : List RV := [.tmp 0]
theorem rs : type_of% (And.intro r0.eq_1 <| And.intro r1.eq_1 <| r2.eq_1) := And.intro r0.eq_1 <| And.intro r1.eq_1 <| r2.eq_1
theorem fn : Body Try.prog 11 47 code res := ⟨by decide, Try.f11, _, Try.func11, rfl, rfl, by kernel_rfl, by kernel_rfl⟩
theorem enters : Xw Try.prog 11 = true := by kernel_rfl
end Vo
namespace Sv
def r0 : List In := [⟨none, (some 4), .mv (.k (.a (.bool false)))⟩]
def r1 : List In := [⟨none, (some 10), .mv (.t 0)⟩,
  ⟨none, (some 11), .mv (.t 1)⟩,
  ⟨none, (some 12), .call 8 [(.t 10), (.t 11)]⟩,
  ⟨none, (some 9), .mv (.t 12)⟩,
  ⟨none, (some 13), .ext 0 (.t 9)⟩,
  ⟨none, (some 14), .ext 1 (.t 9)⟩,
  ⟨none, (some 5), .alloc 26 [.raw (.slice none 0 0), .raw (.slice none 0 0), .raw (.slice none 0 0)]⟩,
  ⟨none, (some 6), .alloc 29 [.int .i64 0, .int .i64 0]⟩,
  ⟨none, none, .store 3 (.t 5) (.t 13)⟩,
  ⟨none, none, .store 2 (.t 6) (.t 14)⟩]
def r2 : List In := [⟨none, (some 16), .mv (.t 0)⟩,
  ⟨none, (some 17), .mv (.t 1)⟩,
  ⟨none, (some 18), .call 9 [(.t 16), (.t 17)]⟩,
  ⟨none, (some 15), .mv (.t 18)⟩,
  ⟨none, (some 19), .ext 0 (.t 15)⟩,
  ⟨none, (some 20), .ext 1 (.t 15)⟩,
  ⟨none, (some 7), .alloc 26 [.raw (.slice none 0 0), .raw (.slice none 0 0), .raw (.slice none 0 0)]⟩,
  ⟨none, (some 8), .alloc 29 [.int .i64 0, .int .i64 0]⟩,
  ⟨none, none, .store 3 (.t 7) (.t 19)⟩,
  ⟨none, none, .store 2 (.t 8) (.t 20)⟩]
def r3 : List In := [⟨none, (some 21), .load 2 true (.t 6)⟩,
  ⟨none, (some 22), .load 2 true (.t 8)⟩,
  ⟨none, (some 23), .aeq false [.int, .int] (.t 21) (.t 22)⟩,
  ⟨none, (some 24), .mv (.t 23)⟩,
  ⟨(some (24, true)), (some 25), .load 3 true (.t 5)⟩,
  ⟨(some (24, true)), (some 26), .load 3 true (.t 7)⟩,
  ⟨(some (24, true)), (some 27), .call 10 [(.t 25), (.t 26)]⟩,
  ⟨none, (some 28), .pick (.t 24) (.t 27) (.k (.a (.bool false)))⟩,
  ⟨none, (some 4), .mv (.t 28)⟩]
@[reducible] def c0 : IC := .seq (.reg r3) .ret
@[reducible] def c1 : IC := .seq (.reg r2) c0
@[reducible] def c2 : IC := .seq (.reg r1) c1
@[reducible] def c3 : IC := .seq (.reg r0) c2
@[reducible] def code : IC := c3
def res : List RV := [.tmp 4]
theorem rs : type_of% (And.intro r0.eq_1 <| And.intro r1.eq_1 <| And.intro r2.eq_1 <| r3.eq_1) := And.intro r0.eq_1 <| And.intro r1.eq_1 <| And.intro r2.eq_1 <| r3.eq_1
theorem fn : Body Try.prog 3 29 code res := ⟨by decide, Try.f3, _, Try.func3, rfl, rfl, by kernel_rfl, by kernel_rfl⟩
theorem enters : Xw Try.prog 3 = true := by kernel_rfl
end Sv
namespace Sq
def r0 : List In := [⟨none, (some 4), .mv (.k (.a (.bool false)))⟩]
def r1 : List In := [⟨none, (some 18), .call 11 []⟩,
  ⟨none, (some 19), .un .not (.t 18)⟩]
def r2 : List In := [⟨none, (some 4), .mv (.k (.a (.bool false)))⟩]
@[reducible] def c0 : IC := .seq (.reg r2) .ret
@[reducible] def c1 : IC := .cond (.t 19) c0 .skip
@[reducible] def c2 : IC := .seq (.reg r1) c1
def r3 : List In := [⟨none, (some 21), .mv (.t 0)⟩,
  ⟨none, (some 22), .mv (.t 1)⟩,
  ⟨none, (some 23), .call 8 [(.t 21), (.t 22)]⟩,
  ⟨none, (some 20), .mv (.t 23)⟩,
  ⟨none, (some 24), .ext 0 (.t 20)⟩,
  ⟨none, (some 25), .ext 1 (.t 20)⟩,
  ⟨none, (some 5), .alloc 26 [.raw (.slice none 0 0), .raw (.slice none 0 0), .raw (.slice none 0 0)]⟩,
  ⟨none, (some 6), .alloc 29 [.int .i64 0, .int .i64 0]⟩,
  ⟨none, none, .store 3 (.t 5) (.t 24)⟩,
  ⟨none, none, .store 2 (.t 6) (.t 25)⟩]
def r4 : List In := [⟨none, (some 26), .faddr 0 (.t 6)⟩,
  ⟨none, (some 27), .load 1 false (.t 26)⟩,
  ⟨none, (some 28), .bin .neq (.t 27) (.k (.a (.int .i64 0)))⟩]
def r5 : List In := [⟨none, (some 29), .faddr 0 (.t 5)⟩,
  ⟨none, (some 30), .load 1 false (.t 29)⟩,
  ⟨none, (some 31), .len (.t 30)⟩,
  ⟨none, (some 32), .bin .eql (.t 31) (.k (.a (.int .i64 0)))⟩,
  ⟨none, (some 33), .mv (.t 32)⟩,
  ⟨(some (33, true)), (some 34), .faddr 1 (.t 5)⟩,
  ⟨(some (33, true)), (some 35), .load 1 false (.t 34)⟩,
  ⟨(some (33, true)), (some 36), .len (.t 35)⟩,
  ⟨(some (33, true)), (some 37), .bin .eql (.t 36) (.k (.a (.int .i64 0)))⟩,
  ⟨none, (some 38), .pick (.t 33) (.t 37) (.k (.a (.bool false)))⟩,
  ⟨none, (some 39), .mv (.t 38)⟩,
  ⟨(some (39, true)), (some 40), .faddr 2 (.t 5)⟩,
  ⟨(some (39, true)), (some 41), .load 1 false (.t 40)⟩,
  ⟨(some (39, true)), (some 42), .len (.t 41)⟩,
  ⟨(some (39, true)), (some 43), .bin .eql (.t 42) (.k (.a (.int .i64 0)))⟩,
  ⟨none, (some 44), .pick (.t 39) (.t 43) (.k (.a (.bool false)))⟩,
  ⟨none, (some 4), .mv (.t 44)⟩]
@[reducible] def c3 : IC := .seq (.reg r5) .ret
@[reducible] def c4 : IC := .cond (.t 28) c3 .skip
@[reducible] def c5 : IC := .seq (.reg r4) c4
def r6 : List In := [⟨none, (some 45), .mv (.t 0)⟩,
  ⟨none, (some 46), .len (.t 45)⟩,
  ⟨none, (some 47), .mks 3 (.int .i64) 8 (.t 46) (.t 46)⟩,
  ⟨none, (some 7), .mv (.t 47)⟩]
def r7 : List In := [⟨none, (some 48), .faddr 1 (.t 5)⟩,
  ⟨none, (some 49), .load 1 false (.t 48)⟩,
  ⟨none, (some 50), .len (.t 49)⟩,
  ⟨none, (some 51), .mv (.k (.a (.int .i64 0)))⟩]
def r8 : List In := [⟨none, (some 52), .bin .lss (.t 51) (.t 50)⟩]
@[reducible] def c6 : IC := .cond (.t 52) .skip (.exit 0)
def r9 : List In := [⟨none, (some 53), .iaddr 1 (.t 49) (.t 51)⟩,
  ⟨none, (some 54), .load 1 false (.t 53)⟩,
  ⟨none, (some 9), .mv (.t 54)⟩]
def r10 : List In := [⟨none, (some 55), .mv (.t 9)⟩,
  ⟨none, (some 56), .bin .lss (.t 55) (.k (.a (.int .i64 0)))⟩,
  ⟨none, (some 57), .mv (.t 56)⟩,
  ⟨(some (57, false)), (some 58), .mv (.t 9)⟩,
  ⟨(some (57, false)), (some 59), .mv (.t 0)⟩,
  ⟨(some (57, false)), (some 60), .len (.t 59)⟩,
  ⟨(some (57, false)), (some 61), .bin .geq (.t 58) (.t 60)⟩,
  ⟨none, (some 62), .pick (.t 57) (.k (.a (.bool true))) (.t 61)⟩]
def r11 : List In := [⟨none, (some 4), .mv (.k (.a (.bool false)))⟩]
@[reducible] def c7 : IC := .seq (.reg r11) .ret
@[reducible] def c8 : IC := .cond (.t 62) c7 .skip
@[reducible] def c9 : IC := .seq (.reg r10) c8
def r12 : List In := [⟨none, (some 63), .mv (.t 7)⟩,
  ⟨none, (some 64), .mv (.t 9)⟩,
  ⟨none, (some 65), .iaddr 1 (.t 63) (.t 64)⟩,
  ⟨none, (some 66), .load 1 false (.t 65)⟩,
  ⟨none, (some 67), .bin .add (.t 66) (.k (.a (.int .i64 1)))⟩,
  ⟨none, (some 68), .iaddr 1 (.t 63) (.t 64)⟩,
  ⟨none, none, .store 1 (.t 68) (.t 67)⟩]
@[reducible] def c10 : IC := .seq c9 (.reg r12)
@[reducible] def c11 : IC := .seq (.reg r9) c10
@[reducible] def c12 : IC := .block 1 c11
def r13 : List In := [⟨none, (some 69), .bin .add (.t 51) (.k (.a (.int .i64 1)))⟩,
  ⟨none, (some 51), .mv (.t 69)⟩]
@[reducible] def c13 : IC := .seq c12 (.reg r13)
@[reducible] def c14 : IC := .seq c6 c13
@[reducible] def c15 : IC := .seq (.reg r8) c14
@[reducible] def c16 : IC := .loop c15
@[reducible] def c17 : IC := .block 0 c16
@[reducible] def c18 : IC := .seq (.reg r7) c17
def r14 : List In := [⟨none, (some 70), .mv (.t 0)⟩,
  ⟨none, (some 71), .len (.t 70)⟩,
  ⟨none, (some 72), .mks 4 .bool 1 (.t 71) (.t 71)⟩,
  ⟨none, (some 10), .mv (.t 72)⟩]
def r15 : List In := [⟨none, (some 73), .mv (.t 0)⟩,
  ⟨none, (some 74), .mv (.t 1)⟩,
  ⟨none, (some 75), .call 12 [(.t 73), (.t 74)]⟩,
  ⟨none, (some 11), .mv (.t 75)⟩]
def r16 : List In := [⟨none, (some 76), .mv (.t 11)⟩,
  ⟨none, (some 77), .bin .geq (.t 76) (.k (.a (.int .i64 0)))⟩]
def r17 : List In := [⟨none, (some 78), .mv (.t 10)⟩,
  ⟨none, (some 79), .mv (.t 11)⟩,
  ⟨none, (some 80), .iaddr 1 (.t 78) (.t 79)⟩,
  ⟨none, none, .store 1 (.t 80) (.k (.a (.bool true)))⟩]
@[reducible] def c19 : IC := .cond (.t 77) (.reg r17) .skip
@[reducible] def c20 : IC := .seq (.reg r16) c19
@[reducible] def c21 : IC := .seq (.reg r15) c20
def r18 : List In := [⟨none, (some 81), .faddr 1 (.t 5)⟩,
  ⟨none, (some 82), .load 1 false (.t 81)⟩,
  ⟨none, (some 83), .len (.t 82)⟩,
  ⟨none, (some 84), .mv (.k (.a (.int .i64 0)))⟩]
def r19 : List In := [⟨none, (some 85), .bin .lss (.t 84) (.t 83)⟩]
@[reducible] def c22 : IC := .cond (.t 85) .skip (.exit 2)
def r20 : List In := [⟨none, (some 86), .iaddr 1 (.t 82) (.t 84)⟩,
  ⟨none, (some 87), .load 1 false (.t 86)⟩,
  ⟨none, (some 13), .mv (.t 87)⟩]
def r21 : List In := [⟨none, (some 88), .mv (.t 0)⟩,
  ⟨none, (some 89), .mv (.t 13)⟩,
  ⟨none, (some 90), .iaddr 2 (.t 88) (.t 89)⟩,
  ⟨none, (some 91), .faddr 1 (.t 90)⟩,
  ⟨none, (some 92), .load 1 false (.t 91)⟩,
  ⟨none, (some 93), .len (.t 92)⟩,
  ⟨none, (some 94), .mv (.k (.a (.int .i64 0)))⟩]
def r22 : List In := [⟨none, (some 95), .bin .lss (.t 94) (.t 93)⟩]
@[reducible] def c23 : IC := .cond (.t 95) .skip (.exit 4)
def r23 : List In := [⟨none, (some 96), .iaddr 6 (.t 92) (.t 94)⟩,
  ⟨none, (some 97), .load 6 true (.t 96)⟩,
  ⟨none, (some 15), .alloc 43 [.str [], .int .i64 0, .int .i64 0, .int .i64 0, .int .i64 0, .str []]⟩,
  ⟨none, none, .store 6 (.t 15) (.t 97)⟩]
def r24 : List In := [⟨none, (some 98), .mv (.t 0)⟩,
  ⟨none, (some 99), .faddr 5 (.t 15)⟩,
  ⟨none, (some 100), .load 1 false (.t 99)⟩,
  ⟨none, (some 101), .call 12 [(.t 98), (.t 100)]⟩,
  ⟨none, (some 16), .mv (.t 101)⟩]
def r25 : List In := [⟨none, (some 102), .faddr 5 (.t 15)⟩,
  ⟨none, (some 103), .load 1 false (.t 102)⟩,
  ⟨none, (some 104), .bin .neq (.t 103) (.k (.a (.str [])))⟩,
  ⟨none, (some 105), .mv (.t 104)⟩,
  ⟨(some (105, true)), (some 106), .mv (.t 16)⟩,
  ⟨(some (105, true)), (some 107), .bin .geq (.t 106) (.k (.a (.int .i64 0)))⟩,
  ⟨none, (some 108), .pick (.t 105) (.t 107) (.k (.a (.bool false)))⟩]
def r26 : List In := [⟨none, (some 109), .mv (.t 10)⟩,
  ⟨none, (some 110), .mv (.t 16)⟩,
  ⟨none, (some 111), .iaddr 1 (.t 109) (.t 110)⟩,
  ⟨none, none, .store 1 (.t 111) (.k (.a (.bool true)))⟩]
@[reducible] def c24 : IC := .cond (.t 108) (.reg r26) .skip
@[reducible] def c25 : IC := .seq (.reg r25) c24
@[reducible] def c26 : IC := .seq (.reg r24) c25
@[reducible] def c27 : IC := .seq (.reg r23) c26
@[reducible] def c28 : IC := .block 5 c27
def r27 : List In := [⟨none, (some 112), .bin .add (.t 94) (.k (.a (.int .i64 1)))⟩,
  ⟨none, (some 94), .mv (.t 112)⟩]
@[reducible] def c29 : IC := .seq c28 (.reg r27)
@[reducible] def c30 : IC := .seq c23 c29
@[reducible] def c31 : IC := .seq (.reg r22) c30
@[reducible] def c32 : IC := .loop c31
@[reducible] def c33 : IC := .block 4 c32
@[reducible] def c34 : IC := .seq (.reg r21) c33
@[reducible] def c35 : IC := .seq (.reg r20) c34
@[reducible] def c36 : IC := .block 3 c35
def r28 : List In := [⟨none, (some 113), .bin .add (.t 84) (.k (.a (.int .i64 1)))⟩,
  ⟨none, (some 84), .mv (.t 113)⟩]
@[reducible] def c37 : IC := .seq c36 (.reg r28)
@[reducible] def c38 : IC := .seq c22 c37
@[reducible] def c39 : IC := .seq (.reg r19) c38
@[reducible] def c40 : IC := .loop c39
@[reducible] def c41 : IC := .block 2 c40
@[reducible] def c42 : IC := .seq (.reg r18) c41
def r29 : List In := [⟨none, (some 114), .mv (.t 0)⟩,
  ⟨none, (some 115), .len (.t 114)⟩,
  ⟨none, (some 116), .mv (.k (.a (.int .i64 0)))⟩]
def r30 : List In := [⟨none, (some 117), .bin .lss (.t 116) (.t 115)⟩]
@[reducible] def c43 : IC := .cond (.t 117) .skip (.exit 6)
def r31 : List In := [⟨none, (some 118), .mv (.t 116)⟩,
  ⟨none, (some 17), .mv (.t 118)⟩]
def r32 : List In := [⟨none, (some 119), .mv (.t 7)⟩,
  ⟨none, (some 120), .mv (.t 17)⟩,
  ⟨none, (some 121), .iaddr 1 (.t 119) (.t 120)⟩,
  ⟨none, (some 122), .load 1 false (.t 121)⟩,
  ⟨none, (some 123), .bin .gtr (.t 122) (.k (.a (.int .i64 1)))⟩,
  ⟨none, (some 124), .mv (.t 123)⟩,
  ⟨(some (124, false)), (some 125), .mv (.t 7)⟩,
  ⟨(some (124, false)), (some 126), .mv (.t 17)⟩,
  ⟨(some (124, false)), (some 127), .iaddr 1 (.t 125) (.t 126)⟩,
  ⟨(some (124, false)), (some 128), .load 1 false (.t 127)⟩,
  ⟨(some (124, false)), (some 129), .bin .eql (.t 128) (.k (.a (.int .i64 1)))⟩,
  ⟨(some (124, false)), (some 130), .mv (.t 10)⟩,
  ⟨(some (124, false)), (some 131), .mv (.t 17)⟩,
  ⟨(some (124, false)), (some 132), .iaddr 1 (.t 130) (.t 131)⟩,
  ⟨(some (124, false)), (some 133), .load 1 false (.t 132)⟩,
  ⟨(some (124, false)), (some 134), .beq true (.t 129) (.t 133)⟩,
  ⟨none, (some 135), .pick (.t 124) (.k (.a (.bool true))) (.t 134)⟩]
def r33 : List In := [⟨none, (some 4), .mv (.k (.a (.bool false)))⟩]
@[reducible] def c44 : IC := .seq (.reg r33) .ret
@[reducible] def c45 : IC := .cond (.t 135) c44 .skip
@[reducible] def c46 : IC := .seq (.dreg r32) c45
@[reducible] def c47 : IC := .seq (.reg r31) c46
@[reducible] def c48 : IC := .block 7 c47
def r34 : List In := [⟨none, (some 136), .bin .add (.t 116) (.k (.a (.int .i64 1)))⟩,
  ⟨none, (some 116), .mv (.t 136)⟩]
@[reducible] def c49 : IC := .seq c48 (.reg r34)
@[reducible] def c50 : IC := .seq c43 c49
@[reducible] def c51 : IC := .seq (.reg r30) c50
@[reducible] def c52 : IC := .loop c51
@[reducible] def c53 : IC := .block 6 c52
@[reducible] def c54 : IC := .seq (.reg r29) c53
def r35 : List In := [⟨none, (some 4), .mv (.k (.a (.bool true)))⟩]
@[reducible] def c55 : IC := .seq (.reg r35) .ret
@[reducible] def c56 : IC := .seq c54 c55
@[reducible] def c57 : IC := .seq c42 c56
@[reducible] def c58 : IC := .seq c21 c57
@[reducible] def c59 : IC := .seq (.reg r14) c58
@[reducible] def c60 : IC := .seq c18 c59
@[reducible] def c61 : IC := .seq (.reg r6) c60
@[reducible] def c62 : IC := .seq c5 c61
@[reducible] def c63 : IC := .seq (.reg r3) c62
@[reducible] def c64 : IC := .seq c2 c63
@[reducible] def c65 : IC := .seq (.reg r0) c64
@[reducible] def code : IC := c65
def res : List RV := [.tmp 4]
theorem rs : type_of% (And.intro r0.eq_1 <| And.intro r1.eq_1 <| And.intro r2.eq_1 <| And.intro r3.eq_1 <| And.intro r4.eq_1 <| And.intro r5.eq_1 <| And.intro r6.eq_1 <| And.intro r7.eq_1 <| And.intro r8.eq_1 <| And.intro r9.eq_1 <| And.intro r10.eq_1 <| And.intro r11.eq_1 <| And.intro r12.eq_1 <| And.intro r13.eq_1 <| And.intro r14.eq_1 <| And.intro r15.eq_1 <| And.intro r16.eq_1 <| And.intro r17.eq_1 <| And.intro r18.eq_1 <| And.intro r19.eq_1 <| And.intro r20.eq_1 <| And.intro r21.eq_1 <| And.intro r22.eq_1 <| And.intro r23.eq_1 <| And.intro r24.eq_1 <| And.intro r25.eq_1 <| And.intro r26.eq_1 <| And.intro r27.eq_1 <| And.intro r28.eq_1 <| And.intro r29.eq_1 <| And.intro r30.eq_1 <| And.intro r31.eq_1 <| And.intro r32.eq_1 <| And.intro r33.eq_1 <| And.intro r34.eq_1 <| r35.eq_1) := And.intro r0.eq_1 <| And.intro r1.eq_1 <| And.intro r2.eq_1 <| And.intro r3.eq_1 <| And.intro r4.eq_1 <| And.intro r5.eq_1 <| And.intro r6.eq_1 <| And.intro r7.eq_1 <| And.intro r8.eq_1 <| And.intro r9.eq_1 <| And.intro r10.eq_1 <| And.intro r11.eq_1 <| And.intro r12.eq_1 <| And.intro r13.eq_1 <| And.intro r14.eq_1 <| And.intro r15.eq_1 <| And.intro r16.eq_1 <| And.intro r17.eq_1 <| And.intro r18.eq_1 <| And.intro r19.eq_1 <| And.intro r20.eq_1 <| And.intro r21.eq_1 <| And.intro r22.eq_1 <| And.intro r23.eq_1 <| And.intro r24.eq_1 <| And.intro r25.eq_1 <| And.intro r26.eq_1 <| And.intro r27.eq_1 <| And.intro r28.eq_1 <| And.intro r29.eq_1 <| And.intro r30.eq_1 <| And.intro r31.eq_1 <| And.intro r32.eq_1 <| And.intro r33.eq_1 <| And.intro r34.eq_1 <| r35.eq_1
theorem fn : Body Try.prog 4 137 code res := ⟨by decide, Try.f4, _, Try.func4, rfl, rfl, by kernel_rfl, by kernel_rfl⟩
theorem enters : Xw Try.prog 4 = true := by kernel_rfl
end Sq
namespace X8
def r0 : List In := [⟨none, (some 5), .box 39 (.t 2)⟩,
  ⟨none, (some 6), .mv (.k (.a (.bool false)))⟩]
def r1 : List In := [⟨none, (some 10), .call 11 []⟩,
  ⟨none, (some 11), .un .not (.t 10)⟩]
def r2 : List In := [⟨none, (some 6), .mv (.k (.a (.bool false)))⟩]
@[reducible] def c0 : IC := .seq (.reg r2) .ret
@[reducible] def c1 : IC := .cond (.t 11) c0 .skip
@[reducible] def c2 : IC := .seq (.reg r1) c1
def r3 : List In := [⟨none, (some 13), .mv (.t 0)⟩,
  ⟨none, (some 14), .mv (.t 1)⟩,
  ⟨none, (some 15), .call 8 [(.t 13), (.t 14)]⟩,
  ⟨none, (some 12), .mv (.t 15)⟩,
  ⟨none, (some 16), .ext 0 (.t 12)⟩,
  ⟨none, (some 17), .ext 1 (.t 12)⟩,
  ⟨none, (some 7), .alloc 26 [.raw (.slice none 0 0), .raw (.slice none 0 0), .raw (.slice none 0 0)]⟩,
  ⟨none, (some 8), .alloc 29 [.int .i64 0, .int .i64 0]⟩,
  ⟨none, none, .store 3 (.t 7) (.t 16)⟩,
  ⟨none, none, .store 2 (.t 8) (.t 17)⟩]
def r4 : List In := [⟨none, (some 18), .faddr 0 (.t 8)⟩,
  ⟨none, (some 19), .load 1 false (.t 18)⟩,
  ⟨none, (some 20), .bin .neq (.t 19) (.k (.a (.int .i64 0)))⟩]
def r5 : List In := [⟨none, (some 6), .mv (.k (.a (.bool true)))⟩]
@[reducible] def c3 : IC := .seq (.reg r5) .ret
@[reducible] def c4 : IC := .cond (.t 20) c3 .skip
@[reducible] def c5 : IC := .seq (.reg r4) c4
def r6 : DT := (.take ⟨none, (some 23), .mv (.t 0)⟩ false
  (.take ⟨none, (some 25), .load 2 true (.t 5)⟩ true
  (.take ⟨none, (some 28), .mv (.t 1)⟩ true
  (.alt ⟨none, (some 22), .bsl0 39 2⟩ true
  (.alt ⟨none, (some 24), .app 22 39 2 40 (.t 22) (.t 23)⟩ true
  (.alt ⟨none, (some 26), .bsl 39 2 1 [.str [], .raw (.slice none 0 0)] [(0, 2, (.t 25))]⟩ true
  (.alt ⟨none, (some 27), .app 22 39 2 40 (.t 24) (.t 26)⟩ true
  (.alt ⟨none, (some 29), .call 8 [(.t 27), (.t 28)]⟩ false
  (.take ⟨none, (some 21), .mv (.t 29)⟩ false
  (.take ⟨none, (some 30), .ext 0 (.t 21)⟩ false
  (.take ⟨none, (some 31), .ext 1 (.t 21)⟩ false
  (.alt ⟨none, (some 9), .alloc 26 [.raw (.slice none 0 0), .raw (.slice none 0 0), .raw (.slice none 0 0)]⟩ true
  (.alt ⟨none, none, .store 3 (.t 9) (.t 30)⟩ false
  (.alt ⟨none, none, .store 2 (.t 8) (.t 31)⟩ false
  .done
  .stop)
  .stop)
  .stop))))
  (.alt ⟨none, (some 9), .alloc 26 [.raw (.slice none 0 0), .raw (.slice none 0 0), .raw (.slice none 0 0)]⟩ true
  (.alt ⟨none, (some 29), .call 8 [(.t 27), (.t 28)]⟩ false
  (.take ⟨none, (some 21), .mv (.t 29)⟩ false
  (.take ⟨none, (some 30), .ext 0 (.t 21)⟩ false
  (.take ⟨none, (some 31), .ext 1 (.t 21)⟩ false
  (.alt ⟨none, none, .store 3 (.t 9) (.t 30)⟩ false
  (.alt ⟨none, none, .store 2 (.t 8) (.t 31)⟩ false
  .done
  .stop)
  .stop))))
  .stop)
  .stop))
  (.alt ⟨none, (some 9), .alloc 26 [.raw (.slice none 0 0), .raw (.slice none 0 0), .raw (.slice none 0 0)]⟩ true
  (.alt ⟨none, (some 27), .app 22 39 2 40 (.t 24) (.t 26)⟩ true
  (.alt ⟨none, (some 29), .call 8 [(.t 27), (.t 28)]⟩ false
  (.take ⟨none, (some 21), .mv (.t 29)⟩ false
  (.take ⟨none, (some 30), .ext 0 (.t 21)⟩ false
  (.take ⟨none, (some 31), .ext 1 (.t 21)⟩ false
  (.alt ⟨none, none, .store 3 (.t 9) (.t 30)⟩ false
  (.alt ⟨none, none, .store 2 (.t 8) (.t 31)⟩ false
  .done
  .stop)
  .stop))))
  .stop)
  .stop)
  .stop))
  (.alt ⟨none, (some 9), .alloc 26 [.raw (.slice none 0 0), .raw (.slice none 0 0), .raw (.slice none 0 0)]⟩ true
  (.alt ⟨none, (some 26), .bsl 39 2 1 [.str [], .raw (.slice none 0 0)] [(0, 2, (.t 25))]⟩ true
  (.alt ⟨none, (some 27), .app 22 39 2 40 (.t 24) (.t 26)⟩ true
  (.alt ⟨none, (some 29), .call 8 [(.t 27), (.t 28)]⟩ false
  (.take ⟨none, (some 21), .mv (.t 29)⟩ false
  (.take ⟨none, (some 30), .ext 0 (.t 21)⟩ false
  (.take ⟨none, (some 31), .ext 1 (.t 21)⟩ false
  (.alt ⟨none, none, .store 3 (.t 9) (.t 30)⟩ false
  (.alt ⟨none, none, .store 2 (.t 8) (.t 31)⟩ false
  .done
  .stop)
  .stop))))
  .stop)
  .stop)
  .stop)
  .stop))
  (.alt ⟨none, (some 26), .bsl 39 2 1 [.str [], .raw (.slice none 0 0)] [(0, 2, (.t 25))]⟩ true
  (.alt ⟨none, (some 24), .app 22 39 2 40 (.t 22) (.t 23)⟩ true
  (.alt ⟨none, (some 27), .app 22 39 2 40 (.t 24) (.t 26)⟩ true
  (.alt ⟨none, (some 29), .call 8 [(.t 27), (.t 28)]⟩ false
  (.take ⟨none, (some 21), .mv (.t 29)⟩ false
  (.take ⟨none, (some 30), .ext 0 (.t 21)⟩ false
  (.take ⟨none, (some 31), .ext 1 (.t 21)⟩ false
  (.alt ⟨none, (some 9), .alloc 26 [.raw (.slice none 0 0), .raw (.slice none 0 0), .raw (.slice none 0 0)]⟩ true
  (.alt ⟨none, none, .store 3 (.t 9) (.t 30)⟩ false
  (.alt ⟨none, none, .store 2 (.t 8) (.t 31)⟩ false
  .done
  .stop)
  .stop)
  .stop))))
  (.alt ⟨none, (some 9), .alloc 26 [.raw (.slice none 0 0), .raw (.slice none 0 0), .raw (.slice none 0 0)]⟩ true
  (.alt ⟨none, (some 29), .call 8 [(.t 27), (.t 28)]⟩ false
  (.take ⟨none, (some 21), .mv (.t 29)⟩ false
  (.take ⟨none, (some 30), .ext 0 (.t 21)⟩ false
  (.take ⟨none, (some 31), .ext 1 (.t 21)⟩ false
  (.alt ⟨none, none, .store 3 (.t 9) (.t 30)⟩ false
  (.alt ⟨none, none, .store 2 (.t 8) (.t 31)⟩ false
  .done
  .stop)
  .stop))))
  .stop)
  .stop))
  (.alt ⟨none, (some 9), .alloc 26 [.raw (.slice none 0 0), .raw (.slice none 0 0), .raw (.slice none 0 0)]⟩ true
  (.alt ⟨none, (some 27), .app 22 39 2 40 (.t 24) (.t 26)⟩ true
  (.alt ⟨none, (some 29), .call 8 [(.t 27), (.t 28)]⟩ false
  (.take ⟨none, (some 21), .mv (.t 29)⟩ false
  (.take ⟨none, (some 30), .ext 0 (.t 21)⟩ false
  (.take ⟨none, (some 31), .ext 1 (.t 21)⟩ false
  (.alt ⟨none, none, .store 3 (.t 9) (.t 30)⟩ false
  (.alt ⟨none, none, .store 2 (.t 8) (.t 31)⟩ false
  .done
  .stop)
  .stop))))
  .stop)
  .stop)
  .stop))
  (.alt ⟨none, (some 9), .alloc 26 [.raw (.slice none 0 0), .raw (.slice none 0 0), .raw (.slice none 0 0)]⟩ true
  (.alt ⟨none, (some 24), .app 22 39 2 40 (.t 22) (.t 23)⟩ true
  (.alt ⟨none, (some 27), .app 22 39 2 40 (.t 24) (.t 26)⟩ true
  (.alt ⟨none, (some 29), .call 8 [(.t 27), (.t 28)]⟩ false
  (.take ⟨none, (some 21), .mv (.t 29)⟩ false
  (.take ⟨none, (some 30), .ext 0 (.t 21)⟩ false
  (.take ⟨none, (some 31), .ext 1 (.t 21)⟩ false
  (.alt ⟨none, none, .store 3 (.t 9) (.t 30)⟩ false
  (.alt ⟨none, none, .store 2 (.t 8) (.t 31)⟩ false
  .done
  .stop)
  .stop))))
  .stop)
  .stop)
  .stop)
  .stop))
  (.alt ⟨none, (some 9), .alloc 26 [.raw (.slice none 0 0), .raw (.slice none 0 0), .raw (.slice none 0 0)]⟩ true
  (.alt ⟨none, (some 24), .app 22 39 2 40 (.t 22) (.t 23)⟩ true
  (.alt ⟨none, (some 26), .bsl 39 2 1 [.str [], .raw (.slice none 0 0)] [(0, 2, (.t 25))]⟩ true
  (.alt ⟨none, (some 27), .app 22 39 2 40 (.t 24) (.t 26)⟩ true
  (.alt ⟨none, (some 29), .call 8 [(.t 27), (.t 28)]⟩ false
  (.take ⟨none, (some 21), .mv (.t 29)⟩ false
  (.take ⟨none, (some 30), .ext 0 (.t 21)⟩ false
  (.take ⟨none, (some 31), .ext 1 (.t 21)⟩ false
  (.alt ⟨none, none, .store 3 (.t 9) (.t 30)⟩ false
  (.alt ⟨none, none, .store 2 (.t 8) (.t 31)⟩ false
  .done
  .stop)
  .stop))))
  .stop)
  .stop)
  .stop)
  (.alt ⟨none, (some 26), .bsl 39 2 1 [.str [], .raw (.slice none 0 0)] [(0, 2, (.t 25))]⟩ true
  (.alt ⟨none, (some 24), .app 22 39 2 40 (.t 22) (.t 23)⟩ true
  (.alt ⟨none, (some 27), .app 22 39 2 40 (.t 24) (.t 26)⟩ true
  (.alt ⟨none, (some 29), .call 8 [(.t 27), (.t 28)]⟩ false
  (.take ⟨none, (some 21), .mv (.t 29)⟩ false
  (.take ⟨none, (some 30), .ext 0 (.t 21)⟩ false
  (.take ⟨none, (some 31), .ext 1 (.t 21)⟩ false
  (.alt ⟨none, none, .store 3 (.t 9) (.t 30)⟩ false
  (.alt ⟨none, none, .store 2 (.t 8) (.t 31)⟩ false
  .done
  .stop)
  .stop))))
  .stop)
  .stop)
  .stop)
  .stop))
  .stop)))
  (.alt ⟨none, (some 26), .bsl 39 2 1 [.str [], .raw (.slice none 0 0)] [(0, 2, (.t 25))]⟩ true
  (.alt ⟨none, (some 22), .bsl0 39 2⟩ true
  (.alt ⟨none, (some 24), .app 22 39 2 40 (.t 22) (.t 23)⟩ true
  (.alt ⟨none, (some 27), .app 22 39 2 40 (.t 24) (.t 26)⟩ true
  (.alt ⟨none, (some 29), .call 8 [(.t 27), (.t 28)]⟩ false
  (.take ⟨none, (some 21), .mv (.t 29)⟩ false
  (.take ⟨none, (some 30), .ext 0 (.t 21)⟩ false
  (.take ⟨none, (some 31), .ext 1 (.t 21)⟩ false
  (.alt ⟨none, (some 9), .alloc 26 [.raw (.slice none 0 0), .raw (.slice none 0 0), .raw (.slice none 0 0)]⟩ true
  (.alt ⟨none, none, .store 3 (.t 9) (.t 30)⟩ false
  (.alt ⟨none, none, .store 2 (.t 8) (.t 31)⟩ false
  .done
  .stop)
  .stop)
  .stop))))
  (.alt ⟨none, (some 9), .alloc 26 [.raw (.slice none 0 0), .raw (.slice none 0 0), .raw (.slice none 0 0)]⟩ true
  (.alt ⟨none, (some 29), .call 8 [(.t 27), (.t 28)]⟩ false
  (.take ⟨none, (some 21), .mv (.t 29)⟩ false
  (.take ⟨none, (some 30), .ext 0 (.t 21)⟩ false
  (.take ⟨none, (some 31), .ext 1 (.t 21)⟩ false
  (.alt ⟨none, none, .store 3 (.t 9) (.t 30)⟩ false
  (.alt ⟨none, none, .store 2 (.t 8) (.t 31)⟩ false
  .done
  .stop)
  .stop))))
  .stop)
  .stop))
  (.alt ⟨none, (some 9), .alloc 26 [.raw (.slice none 0 0), .raw (.slice none 0 0), .raw (.slice none 0 0)]⟩ true
  (.alt ⟨none, (some 27), .app 22 39 2 40 (.t 24) (.t 26)⟩ true
  (.alt ⟨none, (some 29), .call 8 [(.t 27), (.t 28)]⟩ false
  (.take ⟨none, (some 21), .mv (.t 29)⟩ false
  (.take ⟨none, (some 30), .ext 0 (.t 21)⟩ false
  (.take ⟨none, (some 31), .ext 1 (.t 21)⟩ false
  (.alt ⟨none, none, .store 3 (.t 9) (.t 30)⟩ false
  (.alt ⟨none, none, .store 2 (.t 8) (.t 31)⟩ false
  .done
  .stop)
  .stop))))
  .stop)
  .stop)
  .stop))
  (.alt ⟨none, (some 9), .alloc 26 [.raw (.slice none 0 0), .raw (.slice none 0 0), .raw (.slice none 0 0)]⟩ true
  (.alt ⟨none, (some 24), .app 22 39 2 40 (.t 22) (.t 23)⟩ true
  (.alt ⟨none, (some 27), .app 22 39 2 40 (.t 24) (.t 26)⟩ true
  (.alt ⟨none, (some 29), .call 8 [(.t 27), (.t 28)]⟩ false
  (.take ⟨none, (some 21), .mv (.t 29)⟩ false
  (.take ⟨none, (some 30), .ext 0 (.t 21)⟩ false
  (.take ⟨none, (some 31), .ext 1 (.t 21)⟩ false
  (.alt ⟨none, none, .store 3 (.t 9) (.t 30)⟩ false
  (.alt ⟨none, none, .store 2 (.t 8) (.t 31)⟩ false
  .done
  .stop)
  .stop))))
  .stop)
  .stop)
  .stop)
  .stop))
  (.alt ⟨none, (some 9), .alloc 26 [.raw (.slice none 0 0), .raw (.slice none 0 0), .raw (.slice none 0 0)]⟩ true
  (.alt ⟨none, (some 22), .bsl0 39 2⟩ true
  (.alt ⟨none, (some 24), .app 22 39 2 40 (.t 22) (.t 23)⟩ true
  (.alt ⟨none, (some 27), .app 22 39 2 40 (.t 24) (.t 26)⟩ true
  (.alt ⟨none, (some 29), .call 8 [(.t 27), (.t 28)]⟩ false
  (.take ⟨none, (some 21), .mv (.t 29)⟩ false
  (.take ⟨none, (some 30), .ext 0 (.t 21)⟩ false
  (.take ⟨none, (some 31), .ext 1 (.t 21)⟩ false
  (.alt ⟨none, none, .store 3 (.t 9) (.t 30)⟩ false
  (.alt ⟨none, none, .store 2 (.t 8) (.t 31)⟩ false
  .done
  .stop)
  .stop))))
  .stop)
  .stop)
  .stop)
  .stop)
  .stop))
  (.alt ⟨none, (some 9), .alloc 26 [.raw (.slice none 0 0), .raw (.slice none 0 0), .raw (.slice none 0 0)]⟩ true
  (.alt ⟨none, (some 22), .bsl0 39 2⟩ true
  (.alt ⟨none, (some 24), .app 22 39 2 40 (.t 22) (.t 23)⟩ true
  (.alt ⟨none, (some 26), .bsl 39 2 1 [.str [], .raw (.slice none 0 0)] [(0, 2, (.t 25))]⟩ true
  (.alt ⟨none, (some 27), .app 22 39 2 40 (.t 24) (.t 26)⟩ true
  (.alt ⟨none, (some 29), .call 8 [(.t 27), (.t 28)]⟩ false
  (.take ⟨none, (some 21), .mv (.t 29)⟩ false
  (.take ⟨none, (some 30), .ext 0 (.t 21)⟩ false
  (.take ⟨none, (some 31), .ext 1 (.t 21)⟩ false
  (.alt ⟨none, none, .store 3 (.t 9) (.t 30)⟩ false
  (.alt ⟨none, none, .store 2 (.t 8) (.t 31)⟩ false
  .done
  .stop)
  .stop))))
  .stop)
  .stop)
  .stop)
  (.alt ⟨none, (some 26), .bsl 39 2 1 [.str [], .raw (.slice none 0 0)] [(0, 2, (.t 25))]⟩ true
  (.alt ⟨none, (some 24), .app 22 39 2 40 (.t 22) (.t 23)⟩ true
  (.alt ⟨none, (some 27), .app 22 39 2 40 (.t 24) (.t 26)⟩ true
  (.alt ⟨none, (some 29), .call 8 [(.t 27), (.t 28)]⟩ false
  (.take ⟨none, (some 21), .mv (.t 29)⟩ false
  (.take ⟨none, (some 30), .ext 0 (.t 21)⟩ false
  (.take ⟨none, (some 31), .ext 1 (.t 21)⟩ false
  (.alt ⟨none, none, .store 3 (.t 9) (.t 30)⟩ false
  (.alt ⟨none, none, .store 2 (.t 8) (.t 31)⟩ false
  .done
  .stop)
  .stop))))
  .stop)
  .stop)
  .stop)
  .stop))
  (.alt ⟨none, (some 26), .bsl 39 2 1 [.str [], .raw (.slice none 0 0)] [(0, 2, (.t 25))]⟩ true
  (.alt ⟨none, (some 22), .bsl0 39 2⟩ true
  (.alt ⟨none, (some 24), .app 22 39 2 40 (.t 22) (.t 23)⟩ true
  (.alt ⟨none, (some 27), .app 22 39 2 40 (.t 24) (.t 26)⟩ true
  (.alt ⟨none, (some 29), .call 8 [(.t 27), (.t 28)]⟩ false
  (.take ⟨none, (some 21), .mv (.t 29)⟩ false
  (.take ⟨none, (some 30), .ext 0 (.t 21)⟩ false
  (.take ⟨none, (some 31), .ext 1 (.t 21)⟩ false
  (.alt ⟨none, none, .store 3 (.t 9) (.t 30)⟩ false
  (.alt ⟨none, none, .store 2 (.t 8) (.t 31)⟩ false
  .done
  .stop)
  .stop))))
  .stop)
  .stop)
  .stop)
  .stop)
  .stop))
  .stop))))))
def r7 : List In := [⟨none, (some 32), .faddr 0 (.t 8)⟩,
  ⟨none, (some 33), .load 1 false (.t 32)⟩,
  ⟨none, (some 34), .bin .neq (.t 33) (.k (.a (.int .i64 0)))⟩]
def r8 : List In := [⟨none, (some 6), .mv (.k (.a (.bool true)))⟩]
@[reducible] def c6 : IC := .seq (.reg r8) .ret
@[reducible] def c7 : IC := .cond (.t 34) c6 .skip
@[reducible] def c8 : IC := .seq (.reg r7) c7
def r9 : List In := [⟨none, (some 35), .load 3 true (.t 7)⟩,
  ⟨none, (some 36), .load 3 true (.t 9)⟩,
  ⟨none, (some 37), .call 10 [(.t 35), (.t 36)]⟩,
  ⟨none, (some 6), .mv (.t 37)⟩]
@[reducible] def c9 : IC := .seq (.reg r9) .ret
@[reducible] def c10 : IC := .seq c8 c9
@[reducible] def c11 : IC := .seq (.dany r6) c10
@[reducible] def c12 : IC := .seq c5 c11
@[reducible] def c13 : IC := .seq (.reg r3) c12
@[reducible] def c14 : IC := .seq c2 c13
@[reducible] def c15 : IC := .seq (.reg r0) c14
@[reducible] def code : IC := c15
def res : List RV := [.tmp 6]
theorem rs : type_of% (And.intro r0.eq_1 <| And.intro r1.eq_1 <| And.intro r2.eq_1 <| And.intro r3.eq_1 <| And.intro r4.eq_1 <| And.intro r5.eq_1 <| And.intro r6.eq_1 <| And.intro r7.eq_1 <| And.intro r8.eq_1 <| r9.eq_1) := And.intro r0.eq_1 <| And.intro r1.eq_1 <| And.intro r2.eq_1 <| And.intro r3.eq_1 <| And.intro r4.eq_1 <| And.intro r5.eq_1 <| And.intro r6.eq_1 <| And.intro r7.eq_1 <| And.intro r8.eq_1 <| r9.eq_1
theorem fn : Body Try.prog 5 38 code res := ⟨by decide, Try.f5, _, Try.func5, rfl, rfl, by kernel_rfl, by kernel_rfl⟩
theorem enters : Xw Try.prog 5 = true := by kernel_rfl
end X8
namespace Ss
def r0 : List In := [⟨none, (some 4), .mv (.k (.a (.bool false)))⟩]
def r1 : List In := [⟨none, (some 9), .call 11 []⟩,
  ⟨none, (some 10), .un .not (.t 9)⟩]
def r2 : List In := [⟨none, (some 4), .mv (.k (.a (.bool false)))⟩]
@[reducible] def c0 : IC := .seq (.reg r2) .ret
@[reducible] def c1 : IC := .cond (.t 10) c0 .skip
@[reducible] def c2 : IC := .seq (.reg r1) c1
def r3 : List In := [⟨none, (some 12), .mv (.t 0)⟩,
  ⟨none, (some 13), .build [.str [], .raw (.slice none 0 0)] [(1, 1, (.t 12))]⟩,
  ⟨none, (some 14), .bsl 39 2 1 [.str [], .raw (.slice none 0 0)] [(0, 2, (.t 13))]⟩,
  ⟨none, (some 15), .mv (.t 1)⟩,
  ⟨none, (some 16), .call 8 [(.t 14), (.t 15)]⟩,
  ⟨none, (some 11), .mv (.t 16)⟩,
  ⟨none, (some 17), .ext 0 (.t 11)⟩,
  ⟨none, (some 18), .ext 1 (.t 11)⟩,
  ⟨none, (some 5), .alloc 26 [.raw (.slice none 0 0), .raw (.slice none 0 0), .raw (.slice none 0 0)]⟩,
  ⟨none, (some 6), .alloc 29 [.int .i64 0, .int .i64 0]⟩,
  ⟨none, none, .store 3 (.t 5) (.t 17)⟩,
  ⟨none, none, .store 2 (.t 6) (.t 18)⟩]
def r4 : List In := [⟨none, (some 20), .mv (.t 0)⟩,
  ⟨none, (some 21), .call 13 [(.t 20)]⟩,
  ⟨none, (some 19), .mv (.t 21)⟩,
  ⟨none, (some 22), .ext 0 (.t 19)⟩,
  ⟨none, (some 23), .ext 1 (.t 19)⟩,
  ⟨none, (some 8), .alloc 29 [.int .i64 0, .int .i64 0]⟩,
  ⟨none, (some 7), .mv (.t 22)⟩,
  ⟨none, none, .store 2 (.t 8) (.t 23)⟩]
def r5 : List In := [⟨none, (some 24), .faddr 0 (.t 6)⟩,
  ⟨none, (some 25), .load 1 false (.t 24)⟩,
  ⟨none, (some 26), .bin .neq (.t 25) (.k (.a (.int .i64 0)))⟩]
def r6 : List In := [⟨none, (some 4), .mv (.k (.a (.bool true)))⟩]
@[reducible] def c3 : IC := .seq (.reg r6) .ret
@[reducible] def c4 : IC := .cond (.t 26) c3 .skip
@[reducible] def c5 : IC := .seq (.reg r5) c4
def r7 : List In := [⟨none, (some 27), .faddr 0 (.t 8)⟩,
  ⟨none, (some 28), .load 1 false (.t 27)⟩,
  ⟨none, (some 29), .bin .eql (.t 28) (.k (.a (.int .i64 0)))⟩,
  ⟨none, (some 30), .mv (.t 29)⟩,
  ⟨(some (30, true)), (some 31), .faddr 0 (.t 5)⟩,
  ⟨(some (30, true)), (some 32), .load 1 false (.t 31)⟩,
  ⟨(some (30, true)), (some 33), .mv (.t 7)⟩,
  ⟨(some (30, true)), (some 34), .call 14 [(.t 32), (.t 33)]⟩,
  ⟨none, (some 35), .pick (.t 30) (.t 34) (.k (.a (.bool false)))⟩,
  ⟨none, (some 4), .mv (.t 35)⟩]
@[reducible] def c6 : IC := .seq (.reg r7) .ret
@[reducible] def c7 : IC := .seq c5 c6
@[reducible] def c8 : IC := .seq (.reg r4) c7
@[reducible] def c9 : IC := .seq (.reg r3) c8
@[reducible] def c10 : IC := .seq c2 c9
@[reducible] def c11 : IC := .seq (.reg r0) c10
@[reducible] def code : IC := c11
def res : List RV := [.tmp 4]
theorem rs : type_of% (And.intro r0.eq_1 <| And.intro r1.eq_1 <| And.intro r2.eq_1 <| And.intro r3.eq_1 <| And.intro r4.eq_1 <| And.intro r5.eq_1 <| And.intro r6.eq_1 <| r7.eq_1) := And.intro r0.eq_1 <| And.intro r1.eq_1 <| And.intro r2.eq_1 <| And.intro r3.eq_1 <| And.intro r4.eq_1 <| And.intro r5.eq_1 <| And.intro r6.eq_1 <| r7.eq_1
theorem fn : Body Try.prog 6 36 code res := ⟨by decide, Try.f6, _, Try.func6, rfl, rfl, by kernel_rfl, by kernel_rfl⟩
theorem enters : Xw Try.prog 6 = true := by kernel_rfl
end Ss
namespace Ye
noncomputable def r0 : List In := [⟨none, (some 4), .mv (.k (.a (.bool false)))⟩]
noncomputable def r1 : List In := [⟨none, (some 22), .call 11 []⟩,
  ⟨none, (some 23), .un .not (.t 22)⟩]
noncomputable def r2 : List In := [⟨none, (some 4), .mv (.k (.a (.bool false)))⟩]
@[reducible] noncomputable def c0 : IC := .seq (.reg r2) .ret
@[reducible] noncomputable def c1 : IC := .cond (.t 23) c0 .skip
@[reducible] noncomputable def c2 : IC := .seq (.reg r1) c1
noncomputable def r3 : List In := [⟨none, (some 25), .mv (.t 0)⟩,
  ⟨none, (some 26), .mv (.t 1)⟩,
  ⟨none, (some 27), .call 8 [(.t 25), (.t 26)]⟩,
  ⟨none, (some 24), .mv (.t 27)⟩,
  ⟨none, (some 28), .ext 0 (.t 24)⟩,
  ⟨none, (some 29), .ext 1 (.t 24)⟩,
  ⟨none, (some 5), .alloc 26 [.raw (.slice none 0 0), .raw (.slice none 0 0), .raw (.slice none 0 0)]⟩,
  ⟨none, (some 6), .alloc 29 [.int .i64 0, .int .i64 0]⟩,
  ⟨none, none, .store 3 (.t 5) (.t 28)⟩,
  ⟨none, none, .store 2 (.t 6) (.t 29)⟩]
noncomputable def r4 : List In := [⟨none, (some 30), .faddr 0 (.t 6)⟩,
  ⟨none, (some 31), .load 1 false (.t 30)⟩,
  ⟨none, (some 32), .bin .neq (.t 31) (.k (.a (.int .i64 0)))⟩]
noncomputable def r5 : List In := [⟨none, (some 4), .mv (.k (.a (.bool true)))⟩]
@[reducible] noncomputable def c3 : IC := .seq (.reg r5) .ret
@[reducible] noncomputable def c4 : IC := .cond (.t 32) c3 .skip
@[reducible] noncomputable def c5 : IC := .seq (.reg r4) c4
noncomputable def r6 : List In := [⟨none, (some 34), .faddr 0 (.t 5)⟩,
  ⟨none, (some 35), .load 1 false (.t 34)⟩,
  ⟨none, (some 36), .call 15 [(.t 35)]⟩,
  ⟨none, (some 33), .mv (.t 36)⟩,
  ⟨none, (some 37), .ext 0 (.t 33)⟩,
  ⟨none, (some 38), .ext 1 (.t 33)⟩,
  ⟨none, (some 7), .mv (.t 37)⟩,
  ⟨none, none, .store 2 (.t 6) (.t 38)⟩]
noncomputable def r7 : List In := [⟨none, (some 39), .faddr 0 (.t 6)⟩,
  ⟨none, (some 40), .load 1 false (.t 39)⟩,
  ⟨none, (some 41), .bin .neq (.t 40) (.k (.a (.int .i64 0)))⟩]
noncomputable def r8 : List In := [⟨none, (some 4), .mv (.k (.a (.bool false)))⟩]
@[reducible] noncomputable def c6 : IC := .seq (.reg r8) .ret
@[reducible] noncomputable def c7 : IC := .cond (.t 41) c6 .skip
@[reducible] noncomputable def c8 : IC := .seq (.reg r7) c7
noncomputable def r9 : List In := [⟨none, (some 42), .mkmap Try.prog 9 3 (.int .i64)⟩,
  ⟨none, (some 8), .mv (.t 42)⟩]
noncomputable def r10 : List In := [⟨none, (some 43), .faddr 2 (.t 5)⟩,
  ⟨none, (some 44), .load 1 false (.t 43)⟩,
  ⟨none, (some 45), .len (.t 44)⟩,
  ⟨none, (some 46), .mv (.k (.a (.int .i64 0)))⟩]
noncomputable def r11 : List In := [⟨none, (some 47), .bin .lss (.t 46) (.t 45)⟩]
@[reducible] noncomputable def c9 : IC := .cond (.t 47) .skip (.exit 0)
noncomputable def r12 : List In := [⟨none, (some 48), .iaddr 2 (.t 44) (.t 46)⟩,
  ⟨none, (some 49), .load 2 true (.t 48)⟩,
  ⟨none, (some 10), .alloc 54 [.str [], .int .i64 0]⟩,
  ⟨none, none, .store 2 (.t 10) (.t 49)⟩]
noncomputable def r13 : List In := [⟨none, (some 50), .mv (.t 8)⟩,
  ⟨none, (some 51), .faddr 0 (.t 10)⟩,
  ⟨none, (some 52), .load 1 false (.t 51)⟩,
  ⟨none, (some 53), .faddr 1 (.t 10)⟩,
  ⟨none, (some 54), .load 1 false (.t 53)⟩,
  ⟨none, none, .mupd Try.prog 9 3 (.int .i64) (.t 50) (.t 52) (.t 54)⟩]
@[reducible] noncomputable def c10 : IC := .seq (.reg r12) (.reg r13)
@[reducible] noncomputable def c11 : IC := .block 1 c10
noncomputable def r14 : List In := [⟨none, (some 55), .bin .add (.t 46) (.k (.a (.int .i64 1)))⟩,
  ⟨none, (some 46), .mv (.t 55)⟩]
@[reducible] noncomputable def c12 : IC := .seq c11 (.reg r14)
@[reducible] noncomputable def c13 : IC := .seq c9 c12
@[reducible] noncomputable def c14 : IC := .seq (.reg r11) c13
@[reducible] noncomputable def c15 : IC := .loop c14
@[reducible] noncomputable def c16 : IC := .block 0 c15
@[reducible] noncomputable def c17 : IC := .seq (.reg r10) c16
noncomputable def r15 : List In := [⟨none, (some 11), .mv (.k (.a (.int .i64 0)))⟩,
  ⟨none, (some 12), .mv (.k (.a (.int .i64 0)))⟩]
noncomputable def r16 : List In := [⟨none, (some 56), .faddr 1 (.t 5)⟩,
  ⟨none, (some 57), .load 1 false (.t 56)⟩,
  ⟨none, (some 58), .len (.t 57)⟩,
  ⟨none, (some 59), .mv (.k (.a (.int .i64 0)))⟩]
noncomputable def r17 : List In := [⟨none, (some 60), .bin .lss (.t 59) (.t 58)⟩]
@[reducible] noncomputable def c18 : IC := .cond (.t 60) .skip (.exit 2)
noncomputable def r18 : List In := [⟨none, (some 61), .iaddr 1 (.t 57) (.t 59)⟩,
  ⟨none, (some 62), .load 1 false (.t 61)⟩,
  ⟨none, (some 14), .mv (.t 62)⟩]
noncomputable def r19 : List In := [⟨none, (some 63), .mv (.t 12)⟩,
  ⟨none, (some 15), .mv (.t 63)⟩]
noncomputable def r20 : List In := [⟨none, (some 64), .mv (.t 0)⟩,
  ⟨none, (some 65), .mv (.t 14)⟩,
  ⟨none, (some 66), .iaddr 2 (.t 64) (.t 65)⟩,
  ⟨none, (some 67), .faddr 1 (.t 66)⟩,
  ⟨none, (some 68), .load 1 false (.t 67)⟩,
  ⟨none, (some 69), .len (.t 68)⟩,
  ⟨none, (some 70), .mv (.k (.a (.int .i64 0)))⟩]
noncomputable def r21 : List In := [⟨none, (some 71), .bin .lss (.t 70) (.t 69)⟩]
@[reducible] noncomputable def c19 : IC := .cond (.t 71) .skip (.exit 4)
noncomputable def r22 : List In := [⟨none, (some 72), .iaddr 6 (.t 68) (.t 70)⟩,
  ⟨none, (some 73), .load 6 true (.t 72)⟩,
  ⟨none, (some 17), .alloc 43 [.str [], .int .i64 0, .int .i64 0, .int .i64 0, .int .i64 0, .str []]⟩,
  ⟨none, none, .store 6 (.t 17) (.t 73)⟩]
noncomputable def r23 : List In := [⟨none, (some 74), .faddr 0 (.t 17)⟩,
  ⟨none, (some 75), .load 1 false (.t 74)⟩,
  ⟨none, (some 76), .bin .neq (.t 75) (.k (.a (.str [])))⟩]
noncomputable def r24 : List In := [⟨none, (some 78), .mv (.t 8)⟩,
  ⟨none, (some 79), .faddr 0 (.t 17)⟩,
  ⟨none, (some 80), .load 1 false (.t 79)⟩,
  ⟨none, (some 81), .mlook Try.prog 9 3 (.int .i64) true (.t 78) (.t 80)⟩,
  ⟨none, (some 77), .mv (.t 81)⟩,
  ⟨none, (some 82), .ext 0 (.t 77)⟩,
  ⟨none, (some 83), .ext 1 (.t 77)⟩,
  ⟨none, (some 18), .mv (.t 82)⟩,
  ⟨none, (some 19), .mv (.t 83)⟩]
noncomputable def r25 : List In := [⟨none, (some 84), .faddr 0 (.t 17)⟩,
  ⟨none, (some 85), .load 1 false (.t 84)⟩,
  ⟨none, (some 86), .call 16 [(.t 85)]⟩,
  ⟨none, (some 87), .un .not (.t 86)⟩,
  ⟨none, (some 88), .mv (.t 87)⟩,
  ⟨(some (88, true)), (some 89), .mv (.t 19)⟩,
  ⟨(some (88, true)), (some 90), .un .not (.t 89)⟩,
  ⟨(some (88, true)), (some 91), .mv (.t 90)⟩,
  ⟨(some (91, false)), (some 92), .mv (.t 18)⟩,
  ⟨(some (91, false)), (some 93), .mv (.t 12)⟩,
  ⟨(some (91, false)), (some 94), .bin .neq (.t 92) (.t 93)⟩,
  ⟨(some (88, true)), (some 95), .pick (.t 91) (.k (.a (.bool true))) (.t 94)⟩,
  ⟨none, (some 96), .pick (.t 88) (.t 95) (.k (.a (.bool false)))⟩]
noncomputable def r26 : List In := [⟨none, (some 4), .mv (.k (.a (.bool false)))⟩]
@[reducible] noncomputable def c20 : IC := .seq (.reg r26) .ret
@[reducible] noncomputable def c21 : IC := .cond (.t 96) c20 .skip
@[reducible] noncomputable def c22 : IC := .seq (.reg r25) c21
@[reducible] noncomputable def c23 : IC := .seq (.reg r24) c22
@[reducible] noncomputable def c24 : IC := .seq c23 (.exit 5)
@[reducible] noncomputable def c25 : IC := .cond (.t 76) c24 .skip
@[reducible] noncomputable def c26 : IC := .seq (.reg r23) c25
noncomputable def r27 : List In := [⟨none, (some 97), .mv (.t 11)⟩,
  ⟨none, (some 98), .mv (.t 7)⟩,
  ⟨none, (some 99), .len (.t 98)⟩,
  ⟨none, (some 100), .bin .geq (.t 97) (.t 99)⟩,
  ⟨none, (some 101), .mv (.t 100)⟩,
  ⟨(some (101, false)), (some 102), .mv (.t 7)⟩,
  ⟨(some (101, false)), (some 103), .mv (.t 11)⟩,
  ⟨(some (101, false)), (some 104), .iaddr 4 (.t 102) (.t 103)⟩,
  ⟨(some (101, false)), (some 105), .faddr 0 (.t 104)⟩,
  ⟨(some (101, false)), (some 106), .load 1 false (.t 105)⟩,
  ⟨(some (101, false)), (some 107), .faddr 1 (.t 17)⟩,
  ⟨(some (101, false)), (some 108), .faddr 0 (.t 107)⟩,
  ⟨(some (101, false)), (some 109), .load 1 false (.t 108)⟩,
  ⟨(some (101, false)), (some 110), .bin .neq (.t 106) (.t 109)⟩,
  ⟨none, (some 111), .pick (.t 101) (.k (.a (.bool true))) (.t 110)⟩]
noncomputable def r28 : List In := [⟨none, (some 4), .mv (.k (.a (.bool false)))⟩]
@[reducible] noncomputable def c27 : IC := .seq (.reg r28) .ret
@[reducible] noncomputable def c28 : IC := .cond (.t 111) c27 .skip
@[reducible] noncomputable def c29 : IC := .seq (.dreg r27) c28
noncomputable def r29 : List In := [⟨none, (some 112), .faddr 5 (.t 17)⟩,
  ⟨none, (some 113), .load 1 false (.t 112)⟩,
  ⟨none, (some 114), .bin .neq (.t 113) (.k (.a (.str [])))⟩]
noncomputable def r30 : List In := [⟨none, (some 116), .mv (.t 8)⟩,
  ⟨none, (some 117), .faddr 5 (.t 17)⟩,
  ⟨none, (some 118), .load 1 false (.t 117)⟩,
  ⟨none, (some 119), .mlook Try.prog 9 3 (.int .i64) true (.t 116) (.t 118)⟩,
  ⟨none, (some 115), .mv (.t 119)⟩,
  ⟨none, (some 120), .ext 0 (.t 115)⟩,
  ⟨none, (some 121), .ext 1 (.t 115)⟩,
  ⟨none, (some 20), .mv (.t 120)⟩,
  ⟨none, (some 21), .mv (.t 121)⟩]
noncomputable def r31 : List In := [⟨none, (some 122), .faddr 5 (.t 17)⟩,
  ⟨none, (some 123), .load 1 false (.t 122)⟩,
  ⟨none, (some 124), .call 16 [(.t 123)]⟩]
noncomputable def r32 : List In := [⟨none, (some 125), .mv (.t 0)⟩,
  ⟨none, (some 126), .mv (.t 14)⟩,
  ⟨none, (some 127), .iaddr 2 (.t 125) (.t 126)⟩,
  ⟨none, (some 128), .faddr 1 (.t 127)⟩,
  ⟨none, (some 129), .load 1 false (.t 128)⟩,
  ⟨none, (some 130), .faddr 5 (.t 17)⟩,
  ⟨none, (some 131), .load 1 false (.t 130)⟩,
  ⟨none, (some 132), .mv (.t 15)⟩,
  ⟨none, (some 133), .call 17 [(.t 129), (.t 131), (.t 132)]⟩,
  ⟨none, (some 20), .mv (.t 133)⟩,
  ⟨none, (some 21), .mv (.k (.a (.bool true)))⟩]
@[reducible] noncomputable def c30 : IC := .cond (.t 124) (.dreg r32) .skip
@[reducible] noncomputable def c31 : IC := .seq (.reg r31) c30
noncomputable def r33 : List In := [⟨none, (some 134), .mv (.t 21)⟩,
  ⟨none, (some 135), .un .not (.t 134)⟩,
  ⟨none, (some 136), .mv (.t 135)⟩,
  ⟨(some (136, false)), (some 137), .mv (.t 7)⟩,
  ⟨(some (136, false)), (some 138), .mv (.t 11)⟩,
  ⟨(some (136, false)), (some 139), .iaddr 4 (.t 137) (.t 138)⟩,
  ⟨(some (136, false)), (some 140), .faddr 3 (.t 139)⟩,
  ⟨(some (136, false)), (some 141), .load 1 false (.t 140)⟩,
  ⟨(some (136, false)), (some 142), .mv (.t 20)⟩,
  ⟨(some (136, false)), (some 143), .bin .rem (.t 142) (.k (.a (.int .i64 65536)))⟩,
  ⟨(some (136, false)), (some 144), .bin .neq (.t 141) (.t 143)⟩,
  ⟨none, (some 145), .pick (.t 136) (.k (.a (.bool true))) (.t 144)⟩]
noncomputable def r34 : List In := [⟨none, (some 4), .mv (.k (.a (.bool false)))⟩]
@[reducible] noncomputable def c32 : IC := .seq (.reg r34) .ret
@[reducible] noncomputable def c33 : IC := .cond (.t 145) c32 .skip
@[reducible] noncomputable def c34 : IC := .seq (.reg r33) c33
@[reducible] noncomputable def c35 : IC := .seq c31 c34
@[reducible] noncomputable def c36 : IC := .seq (.reg r30) c35
@[reducible] noncomputable def c37 : IC := .cond (.t 114) c36 .skip
@[reducible] noncomputable def c38 : IC := .seq (.reg r29) c37
noncomputable def r35 : List In := [⟨none, (some 146), .mv (.t 12)⟩,
  ⟨none, (some 147), .load 6 true (.t 17)⟩,
  ⟨none, (some 148), .call 18 [(.t 147)]⟩,
  ⟨none, (some 149), .bin .add (.t 146) (.t 148)⟩,
  ⟨none, (some 12), .mv (.t 149)⟩]
noncomputable def r36 : List In := [⟨none, (some 150), .mv (.t 11)⟩,
  ⟨none, (some 151), .bin .add (.t 150) (.k (.a (.int .i64 1)))⟩,
  ⟨none, (some 11), .mv (.t 151)⟩]
@[reducible] noncomputable def c39 : IC := .seq (.reg r35) (.reg r36)
@[reducible] noncomputable def c40 : IC := .seq c38 c39
@[reducible] noncomputable def c41 : IC := .seq c29 c40
@[reducible] noncomputable def c42 : IC := .seq c26 c41
@[reducible] noncomputable def c43 : IC := .seq (.reg r22) c42
@[reducible] noncomputable def c44 : IC := .block 5 c43
noncomputable def r37 : List In := [⟨none, (some 152), .bin .add (.t 70) (.k (.a (.int .i64 1)))⟩,
  ⟨none, (some 70), .mv (.t 152)⟩]
@[reducible] noncomputable def c45 : IC := .seq c44 (.reg r37)
@[reducible] noncomputable def c46 : IC := .seq c19 c45
@[reducible] noncomputable def c47 : IC := .seq (.reg r21) c46
@[reducible] noncomputable def c48 : IC := .loop c47
@[reducible] noncomputable def c49 : IC := .block 4 c48
@[reducible] noncomputable def c50 : IC := .seq (.reg r20) c49
@[reducible] noncomputable def c51 : IC := .seq (.reg r19) c50
@[reducible] noncomputable def c52 : IC := .seq (.reg r18) c51
@[reducible] noncomputable def c53 : IC := .block 3 c52
noncomputable def r38 : List In := [⟨none, (some 153), .bin .add (.t 59) (.k (.a (.int .i64 1)))⟩,
  ⟨none, (some 59), .mv (.t 153)⟩]
@[reducible] noncomputable def c54 : IC := .seq c53 (.reg r38)
@[reducible] noncomputable def c55 : IC := .seq c18 c54
@[reducible] noncomputable def c56 : IC := .seq (.reg r17) c55
@[reducible] noncomputable def c57 : IC := .loop c56
@[reducible] noncomputable def c58 : IC := .block 2 c57
@[reducible] noncomputable def c59 : IC := .seq (.reg r16) c58
noncomputable def r39 : List In := [⟨none, (some 154), .mv (.t 11)⟩,
  ⟨none, (some 155), .mv (.t 7)⟩,
  ⟨none, (some 156), .len (.t 155)⟩,
  ⟨none, (some 157), .bin .eql (.t 154) (.t 156)⟩,
  ⟨none, (some 158), .mv (.t 157)⟩,
  ⟨(some (158, true)), (some 159), .mv (.t 12)⟩,
  ⟨(some (158, true)), (some 160), .faddr 0 (.t 5)⟩,
  ⟨(some (158, true)), (some 161), .load 1 false (.t 160)⟩,
  ⟨(some (158, true)), (some 162), .len (.t 161)⟩,
  ⟨(some (158, true)), (some 163), .bin .eql (.t 159) (.t 162)⟩,
  ⟨none, (some 164), .pick (.t 158) (.t 163) (.k (.a (.bool false)))⟩,
  ⟨none, (some 4), .mv (.t 164)⟩]
@[reducible] noncomputable def c60 : IC := .seq (.reg r39) .ret
@[reducible] noncomputable def c61 : IC := .seq c59 c60
@[reducible] noncomputable def c62 : IC := .seq (.reg r15) c61
@[reducible] noncomputable def c63 : IC := .seq c17 c62
@[reducible] noncomputable def c64 : IC := .seq (.reg r9) c63
@[reducible] noncomputable def c65 : IC := .seq c8 c64
@[reducible] noncomputable def c66 : IC := .seq (.reg r6) c65
@[reducible] noncomputable def c67 : IC := .seq c5 c66
@[reducible] noncomputable def c68 : IC := .seq (.reg r3) c67
@[reducible] noncomputable def c69 : IC := .seq c2 c68
@[reducible] noncomputable def c70 : IC := .seq (.reg r0) c69
@[reducible] noncomputable def code : IC := c70
def res : List RV := [.tmp 4]
theorem rs : type_of% (And.intro r0.eq_1 <| And.intro r1.eq_1 <| And.intro r2.eq_1 <| And.intro r3.eq_1 <| And.intro r4.eq_1 <| And.intro r5.eq_1 <| And.intro r6.eq_1 <| And.intro r7.eq_1 <| And.intro r8.eq_1 <| And.intro r9.eq_1 <| And.intro r10.eq_1 <| And.intro r11.eq_1 <| And.intro r12.eq_1 <| And.intro r13.eq_1 <| And.intro r14.eq_1 <| And.intro r15.eq_1 <| And.intro r16.eq_1 <| And.intro r17.eq_1 <| And.intro r18.eq_1 <| And.intro r19.eq_1 <| And.intro r20.eq_1 <| And.intro r21.eq_1 <| And.intro r22.eq_1 <| And.intro r23.eq_1 <| And.intro r24.eq_1 <| And.intro r25.eq_1 <| And.intro r26.eq_1 <| And.intro r27.eq_1 <| And.intro r28.eq_1 <| And.intro r29.eq_1 <| And.intro r30.eq_1 <| And.intro r31.eq_1 <| And.intro r32.eq_1 <| And.intro r33.eq_1 <| And.intro r34.eq_1 <| And.intro r35.eq_1 <| And.intro r36.eq_1 <| And.intro r37.eq_1 <| And.intro r38.eq_1 <| r39.eq_1) := And.intro r0.eq_1 <| And.intro r1.eq_1 <| And.intro r2.eq_1 <| And.intro r3.eq_1 <| And.intro r4.eq_1 <| And.intro r5.eq_1 <| And.intro r6.eq_1 <| And.intro r7.eq_1 <| And.intro r8.eq_1 <| And.intro r9.eq_1 <| And.intro r10.eq_1 <| And.intro r11.eq_1 <| And.intro r12.eq_1 <| And.intro r13.eq_1 <| And.intro r14.eq_1 <| And.intro r15.eq_1 <| And.intro r16.eq_1 <| And.intro r17.eq_1 <| And.intro r18.eq_1 <| And.intro r19.eq_1 <| And.intro r20.eq_1 <| And.intro r21.eq_1 <| And.intro r22.eq_1 <| And.intro r23.eq_1 <| And.intro r24.eq_1 <| And.intro r25.eq_1 <| And.intro r26.eq_1 <| And.intro r27.eq_1 <| And.intro r28.eq_1 <| And.intro r29.eq_1 <| And.intro r30.eq_1 <| And.intro r31.eq_1 <| And.intro r32.eq_1 <| And.intro r33.eq_1 <| And.intro r34.eq_1 <| And.intro r35.eq_1 <| And.intro r36.eq_1 <| And.intro r37.eq_1 <| And.intro r38.eq_1 <| r39.eq_1
theorem fn : Body Try.prog 7 165 code res := ⟨by decide, Try.f7, _, Try.func7, rfl, rfl, by kernel_rfl, by kernel_rfl⟩
theorem enters : Xw Try.prog 7 = true := by kernel_rfl
end Ye
end Go.Proofs.Ytibkcfpcfbodaaa
