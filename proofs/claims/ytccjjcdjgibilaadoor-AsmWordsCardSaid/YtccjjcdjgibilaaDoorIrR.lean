/- The small code of functions, and that it is theirs: printed by a program over the seat's translation. -/
import Derived.Test.YtccjjcdjgibilaaDoorVcGf
import Derived.Test.YtccjjcdjgibilaaDoorChecked
import Derived.KernelRfl
namespace Go.Proofs.YtccjjcdjgibilaaDoor
open Vc
namespace Wq
def r0 : List In := [⟨none, (some 4), .mv (.k (.a (.int .i64 0)))⟩,
  ⟨none, (some 5), .mv (.k (.a (.bool false)))⟩]
def r1 : List In := [⟨none, (some 8), .mv (.t 0)⟩,
  ⟨none, (some 9), .bin .eql (.t 8) (.k (.a (.str [])))⟩,
  ⟨none, (some 10), .mv (.t 9)⟩,
  ⟨(some (10, false)), (some 11), .mv (.t 0)⟩,
  ⟨(some (10, false)), (some 12), .slen (.t 11)⟩,
  ⟨(some (10, false)), (some 13), .bin .gtr (.t 12) (.k (.a (.int .i64 5)))⟩,
  ⟨none, (some 14), .pick (.t 10) (.k (.a (.bool true))) (.t 13)⟩,
  ⟨none, (some 15), .mv (.t 14)⟩,
  ⟨(some (15, false)), (some 16), .mv (.t 0)⟩,
  ⟨(some (15, false)), (some 17), .call 60 [(.t 16), (.k (.a (.str [48, 49, 50, 51, 52, 53, 54, 55, 56, 57])))]⟩,
  ⟨(some (15, false)), (some 18), .bin .neq (.t 17) (.k (.a (.str [])))⟩,
  ⟨none, (some 19), .pick (.t 15) (.k (.a (.bool true))) (.t 18)⟩,
  ⟨none, (some 20), .mv (.t 19)⟩,
  ⟨(some (20, false)), (some 21), .mv (.t 0)⟩,
  ⟨(some (20, false)), (some 22), .slen (.t 21)⟩,
  ⟨(some (20, false)), (some 23), .bin .gtr (.t 22) (.k (.a (.int .i64 1)))⟩,
  ⟨(some (20, false)), (some 24), .mv (.t 23)⟩,
  ⟨(some (24, true)), (some 25), .mv (.t 0)⟩,
  ⟨(some (24, true)), (some 26), .sidx (.t 25) (.k (.a (.int .i64 0)))⟩,
  ⟨(some (24, true)), (some 27), .bin .eql (.t 26) (.k (.a (.int .u8 48)))⟩,
  ⟨(some (20, false)), (some 28), .pick (.t 24) (.t 27) (.k (.a (.bool false)))⟩,
  ⟨none, (some 29), .pick (.t 20) (.k (.a (.bool true))) (.t 28)⟩]
def r2 : List In := [⟨none, (some 4), .mv (.k (.a (.int .i64 0)))⟩,
  ⟨none, (some 5), .mv (.k (.a (.bool false)))⟩]
@[reducible] def c0 : IC := .seq (.reg r2) .ret
@[reducible] def c1 : IC := .cond (.t 29) c0 .skip
@[reducible] def c2 : IC := .seq (.reg r1) c1
def r3 : List In := [⟨none, (some 31), .mv (.t 0)⟩,
  ⟨none, (some 32), .call 84 [(.t 31)]⟩,
  ⟨none, (some 30), .mv (.t 32)⟩,
  ⟨none, (some 33), .ext 0 (.t 30)⟩,
  ⟨none, (some 34), .ext 1 (.t 30)⟩,
  ⟨none, (some 6), .mv (.t 33)⟩,
  ⟨none, (some 7), .mv (.t 34)⟩]
def r4 : List In := [⟨none, (some 35), .mv (.t 6)⟩,
  ⟨none, (some 36), .mv (.t 6)⟩,
  ⟨none, (some 37), .mv (.t 1)⟩,
  ⟨none, (some 38), .bin .leq (.t 36) (.t 37)⟩,
  ⟨none, (some 4), .mv (.t 35)⟩,
  ⟨none, (some 5), .mv (.t 38)⟩]
@[reducible] def c3 : IC := .seq (.reg r4) .ret
@[reducible] def c4 : IC := .seq (.reg r3) c3
@[reducible] def c5 : IC := .seq c2 c4
@[reducible] def c6 : IC := .seq (.reg r0) c5
@[reducible] def code : IC := c6
def res : List RV := [.tmp 4, .tmp 5]
theorem rs : type_of% (And.intro r0.eq_1 <| And.intro r1.eq_1 <| And.intro r2.eq_1 <| And.intro r3.eq_1 <| r4.eq_1) := And.intro r0.eq_1 <| And.intro r1.eq_1 <| And.intro r2.eq_1 <| And.intro r3.eq_1 <| r4.eq_1
theorem fn : Body Tryd.prog 64 39 code res := ⟨by decide, Tryd.f64, _, Tryd.func64, rfl, rfl, by kernel_rfl, by kernel_rfl⟩
theorem enters : X0 Tryd.prog 64 = true := by kernel_rfl
end Wq
namespace Wi
def r0 : List In := [⟨none, (some 2), .mv (.k (.a (.int .i64 0)))⟩,
  ⟨none, (some 3), .mv (.k (.a (.bool false)))⟩]
def r1 : List In := [⟨none, (some 7), .mv (.t 0)⟩,
  ⟨none, (some 8), .call 83 [(.t 7), (.k (.a (.str [114])))]⟩,
  ⟨none, (some 6), .mv (.t 8)⟩,
  ⟨none, (some 9), .ext 0 (.t 6)⟩,
  ⟨none, (some 10), .ext 1 (.t 6)⟩,
  ⟨none, (some 4), .mv (.t 9)⟩,
  ⟨none, (some 5), .mv (.t 10)⟩]
def r2 : List In := [⟨none, (some 11), .mv (.t 5)⟩,
  ⟨none, (some 12), .un .not (.t 11)⟩]
def r3 : List In := [⟨none, (some 2), .mv (.k (.a (.int .i64 0)))⟩,
  ⟨none, (some 3), .mv (.k (.a (.bool false)))⟩]
@[reducible] def c0 : IC := .seq (.reg r3) .ret
@[reducible] def c1 : IC := .cond (.t 12) c0 .skip
@[reducible] def c2 : IC := .seq (.reg r2) c1
def r4 : List In := [⟨none, (some 13), .mv (.t 4)⟩,
  ⟨none, (some 14), .call 64 [(.t 13), (.k (.a (.int .i64 7)))]⟩,
  ⟨none, (some 15), .ext 0 (.t 14)⟩,
  ⟨none, (some 16), .ext 1 (.t 14)⟩,
  ⟨none, (some 2), .mv (.t 15)⟩,
  ⟨none, (some 3), .mv (.t 16)⟩]
@[reducible] def c3 : IC := .seq (.reg r4) .ret
@[reducible] def c4 : IC := .seq c2 c3
@[reducible] def c5 : IC := .seq (.reg r1) c4
@[reducible] def c6 : IC := .seq (.reg r0) c5
@[reducible] def code : IC := c6
def res : List RV := [.tmp 2, .tmp 3]
theorem rs : type_of% (And.intro r0.eq_1 <| And.intro r1.eq_1 <| And.intro r2.eq_1 <| And.intro r3.eq_1 <| r4.eq_1) := And.intro r0.eq_1 <| And.intro r1.eq_1 <| And.intro r2.eq_1 <| And.intro r3.eq_1 <| r4.eq_1
theorem fn : Body Tryd.prog 63 17 code res := ⟨by decide, Tryd.f63, _, Tryd.func63, rfl, rfl, by kernel_rfl, by kernel_rfl⟩
theorem enters : X0 Tryd.prog 63 = true := by kernel_rfl
end Wi
namespace Xq
def r0 : List In := [⟨none, (some 2), .alloc 27 [.str [], .int .i64 0, .int .i64 0, .int .i64 0, .int .i64 0, .str []]⟩,
  ⟨none, (some 3), .mv (.k (.a (.bool false)))⟩,
  ⟨none, (some 4), .mv (.k (.a (.int .i64 0)))⟩]
def r1 : List In := [⟨none, (some 24), .mv (.t 0)⟩,
  ⟨none, (some 25), .call 59 [(.t 24), (.k (.a (.str [59])))]⟩,
  ⟨none, (some 23), .mv (.t 25)⟩,
  ⟨none, (some 26), .ext 0 (.t 23)⟩,
  ⟨none, (some 27), .ext 1 (.t 23)⟩,
  ⟨none, (some 28), .ext 2 (.t 23)⟩,
  ⟨none, (some 0), .mv (.t 26)⟩]
def r2 : List In := [⟨none, (some 29), .mv (.t 0)⟩,
  ⟨none, (some 30), .call 60 [(.t 29), (.k (.a (.str [32, 9])))]⟩,
  ⟨none, (some 0), .mv (.t 30)⟩]
def r3 : List In := [⟨none, (some 31), .mv (.t 0)⟩,
  ⟨none, (some 32), .bin .eql (.t 31) (.k (.a (.str [])))⟩]
def r4 : List In := [⟨none, (some 33), .load 6 true (.t 2)⟩,
  ⟨none, none, .store 6 (.t 2) (.t 33)⟩,
  ⟨none, (some 3), .mv (.k (.a (.bool false)))⟩,
  ⟨none, (some 4), .mv (.k (.a (.int .i64 0)))⟩]
@[reducible] def c0 : IC := .seq (.reg r4) .ret
@[reducible] def c1 : IC := .cond (.t 32) c0 .skip
@[reducible] def c2 : IC := .seq (.reg r3) c1
def r5 : List In := [⟨none, (some 35), .mv (.t 0)⟩,
  ⟨none, (some 36), .call 61 [(.t 35), (.k (.a (.str [58])))]⟩,
  ⟨none, (some 34), .mv (.t 36)⟩,
  ⟨none, (some 37), .ext 0 (.t 34)⟩,
  ⟨none, (some 38), .ext 1 (.t 34)⟩,
  ⟨none, (some 5), .mv (.t 37)⟩,
  ⟨none, (some 6), .mv (.t 38)⟩]
def r6 : List In := [⟨none, (some 39), .mv (.t 6)⟩]
def r7 : List In := [⟨none, (some 40), .mv (.t 5)⟩,
  ⟨none, (some 41), .call 7 [(.t 40)]⟩,
  ⟨none, (some 42), .un .not (.t 41)⟩]
def r8 : List In := [⟨none, (some 43), .load 6 true (.t 2)⟩,
  ⟨none, none, .store 6 (.t 2) (.t 43)⟩,
  ⟨none, (some 3), .mv (.k (.a (.bool false)))⟩,
  ⟨none, (some 4), .mv (.k (.a (.int .i64 7)))⟩]
@[reducible] def c3 : IC := .seq (.reg r8) .ret
@[reducible] def c4 : IC := .cond (.t 42) c3 .skip
@[reducible] def c5 : IC := .seq (.reg r7) c4
def r9 : List In := [⟨none, (some 44), .mv (.t 5)⟩,
  ⟨none, (some 45), .build [.str [], .int .i64 0, .int .i64 0, .int .i64 0, .int .i64 0, .str []] [(0, 1, (.t 44))]⟩,
  ⟨none, none, .store 6 (.t 2) (.t 45)⟩,
  ⟨none, (some 3), .mv (.k (.a (.bool true)))⟩,
  ⟨none, (some 4), .mv (.k (.a (.int .i64 0)))⟩]
@[reducible] def c6 : IC := .seq (.reg r9) .ret
@[reducible] def c7 : IC := .seq c5 c6
@[reducible] def c8 : IC := .cond (.t 39) c7 .skip
@[reducible] def c9 : IC := .seq (.reg r6) c8
@[reducible] def c10 : IC := .seq (.reg r5) c9
def r10 : List In := [⟨none, (some 47), .mv (.t 0)⟩,
  ⟨none, (some 48), .call 59 [(.t 47), (.k (.a (.str [32])))]⟩,
  ⟨none, (some 46), .mv (.t 48)⟩,
  ⟨none, (some 49), .ext 0 (.t 46)⟩,
  ⟨none, (some 50), .ext 1 (.t 46)⟩,
  ⟨none, (some 51), .ext 2 (.t 46)⟩,
  ⟨none, (some 7), .mv (.t 49)⟩,
  ⟨none, (some 8), .mv (.t 50)⟩,
  ⟨none, (some 9), .mv (.t 51)⟩]
def r11 : List In := [⟨none, (some 52), .call 32 []⟩,
  ⟨none, (some 53), .mv (.t 7)⟩,
  ⟨none, (some 54), .call 62 [(.t 52), (.t 53)]⟩,
  ⟨none, (some 10), .mv (.t 54)⟩]
def r12 : List In := [⟨none, (some 55), .mv (.t 10)⟩,
  ⟨none, (some 56), .bin .lss (.t 55) (.k (.a (.int .i64 0)))⟩]
def r13 : List In := [⟨none, (some 57), .load 6 true (.t 2)⟩,
  ⟨none, none, .store 6 (.t 2) (.t 57)⟩,
  ⟨none, (some 3), .mv (.k (.a (.bool false)))⟩,
  ⟨none, (some 4), .mv (.k (.a (.int .i64 1)))⟩]
@[reducible] def c11 : IC := .seq (.reg r13) .ret
@[reducible] def c12 : IC := .cond (.t 56) c11 .skip
@[reducible] def c13 : IC := .seq (.reg r12) c12
def r14 : List In := [⟨none, (some 11), .mv (.k (.a (.raw (.slice none 0 0))))⟩]
def r15 : List In := [⟨none, (some 58), .mv (.t 8)⟩,
  ⟨none, (some 59), .call 60 [(.t 58), (.k (.a (.str [32, 9])))]⟩,
  ⟨none, (some 8), .mv (.t 59)⟩]
def r16 : List In := [⟨none, (some 60), .mv (.t 8)⟩,
  ⟨none, (some 61), .bin .neq (.t 60) (.k (.a (.str [])))⟩]
def r17 : List In := [⟨none, (some 62), .mv (.t 8)⟩,
  ⟨none, (some 63), .call 45 [(.t 62), (.k (.a (.str [44])))]⟩,
  ⟨none, (some 11), .mv (.t 63)⟩]
@[reducible] def c14 : IC := .cond (.t 61) (.reg r17) .skip
@[reducible] def c15 : IC := .seq (.reg r16) c14
@[reducible] def c16 : IC := .seq (.reg r15) c15
def r18 : List In := [⟨none, (some 64), .mv (.t 10)⟩,
  ⟨none, (some 65), .faddr 1 (.t 2)⟩,
  ⟨none, (some 66), .faddr 0 (.t 65)⟩,
  ⟨none, none, .store 1 (.t 66) (.t 64)⟩]
def r19 : List In := [⟨none, (some 68), .mv (.t 10)⟩,
  ⟨none, (some 69), .call 28 [(.t 68)]⟩,
  ⟨none, (some 67), .mv (.t 69)⟩,
  ⟨none, (some 70), .ext 0 (.t 67)⟩,
  ⟨none, (some 71), .ext 1 (.t 67)⟩,
  ⟨none, (some 72), .ext 2 (.t 67)⟩,
  ⟨none, (some 73), .ext 3 (.t 67)⟩,
  ⟨none, (some 12), .mv (.t 70)⟩,
  ⟨none, (some 13), .mv (.t 71)⟩,
  ⟨none, (some 14), .mv (.t 72)⟩,
  ⟨none, (some 15), .mv (.t 73)⟩]
def r20 : List In := [⟨none, (some 74), .mv (.t 12)⟩,
  ⟨none, (some 75), .faddr 1 (.t 2)⟩,
  ⟨none, (some 76), .faddr 1 (.t 75)⟩,
  ⟨none, (some 77), .build [.bool false, .raw (.pointer none)] [(0, 1, (.t 74)), (1, 1, (.t 76))]⟩,
  ⟨none, (some 78), .mv (.t 13)⟩,
  ⟨none, (some 79), .faddr 1 (.t 2)⟩,
  ⟨none, (some 80), .faddr 2 (.t 79)⟩,
  ⟨none, (some 81), .build [.bool false, .raw (.pointer none)] [(0, 1, (.t 78)), (1, 1, (.t 80))]⟩,
  ⟨none, (some 82), .bsl 105 2 2 [.bool false, .raw (.pointer none), .bool false, .raw (.pointer none)] [(0, 2, (.t 77)), (2, 2, (.t 81))]⟩,
  ⟨none, (some 83), .len (.t 82)⟩,
  ⟨none, (some 84), .mv (.k (.a (.int .i64 0)))⟩]
def r21 : List In := [⟨none, (some 85), .bin .lss (.t 84) (.t 83)⟩]
@[reducible] def c17 : IC := .cond (.t 85) .skip (.exit 0)
def r22 : List In := [⟨none, (some 86), .iaddr 2 (.t 82) (.t 84)⟩,
  ⟨none, (some 87), .load 2 true (.t 86)⟩,
  ⟨none, (some 17), .alloc 105 [.bool false, .raw (.pointer none)]⟩,
  ⟨none, none, .store 2 (.t 17) (.t 87)⟩]
def r23 : List In := [⟨none, (some 88), .faddr 0 (.t 17)⟩,
  ⟨none, (some 89), .load 1 false (.t 88)⟩,
  ⟨none, (some 90), .un .not (.t 89)⟩]
@[reducible] def c18 : IC := .cond (.t 90) (.exit 1) .skip
@[reducible] def c19 : IC := .seq (.reg r23) c18
def r24 : List In := [⟨none, (some 91), .mv (.t 11)⟩,
  ⟨none, (some 92), .len (.t 91)⟩,
  ⟨none, (some 93), .bin .eql (.t 92) (.k (.a (.int .i64 0)))⟩]
def r25 : List In := [⟨none, (some 94), .build [.str [], .int .i64 0, .int .i64 0, .int .i64 0, .int .i64 0, .str []] []⟩,
  ⟨none, none, .store 6 (.t 2) (.t 94)⟩,
  ⟨none, (some 3), .mv (.k (.a (.bool false)))⟩,
  ⟨none, (some 4), .mv (.k (.a (.int .i64 5)))⟩]
@[reducible] def c20 : IC := .seq (.reg r25) .ret
@[reducible] def c21 : IC := .cond (.t 93) c20 .skip
@[reducible] def c22 : IC := .seq (.reg r24) c21
def r26 : List In := [⟨none, (some 96), .mv (.t 11)⟩,
  ⟨none, (some 97), .iaddr 1 (.t 96) (.k (.a (.int .i64 0)))⟩,
  ⟨none, (some 98), .load 1 false (.t 97)⟩,
  ⟨none, (some 99), .call 60 [(.t 98), (.k (.a (.str [32, 9])))]⟩,
  ⟨none, (some 100), .call 63 [(.t 99)]⟩,
  ⟨none, (some 95), .mv (.t 100)⟩,
  ⟨none, (some 101), .ext 0 (.t 95)⟩,
  ⟨none, (some 102), .ext 1 (.t 95)⟩,
  ⟨none, (some 18), .mv (.t 101)⟩,
  ⟨none, (some 19), .mv (.t 102)⟩]
def r27 : List In := [⟨none, (some 103), .mv (.t 19)⟩,
  ⟨none, (some 104), .un .not (.t 103)⟩]
def r28 : List In := [⟨none, (some 105), .build [.str [], .int .i64 0, .int .i64 0, .int .i64 0, .int .i64 0, .str []] []⟩,
  ⟨none, none, .store 6 (.t 2) (.t 105)⟩,
  ⟨none, (some 3), .mv (.k (.a (.bool false)))⟩,
  ⟨none, (some 4), .mv (.k (.a (.int .i64 2)))⟩]
@[reducible] def c23 : IC := .seq (.reg r28) .ret
@[reducible] def c24 : IC := .cond (.t 104) c23 .skip
@[reducible] def c25 : IC := .seq (.reg r27) c24
def r29 : DT := (.take ⟨none, (some 108), .mv (.t 18)⟩ false
  (.take ⟨none, (some 109), .mv (.t 11)⟩ false
  (.alt ⟨none, (some 106), .faddr 1 (.t 17)⟩ false
  (.alt ⟨none, (some 107), .load 1 false (.t 106)⟩ false
  (.alt ⟨none, (some 110), .sl 1 (.t 109) (some (.k (.a (.int .i64 1)))) none⟩ false
  (.alt ⟨none, (some 111), .nchk (.t 107)⟩ false
  (.alt ⟨none, none, .store 1 (.t 111) (.t 108)⟩ false
  (.take ⟨none, (some 11), .mv (.t 110)⟩ false
  .done)
  .stop)
  .stop)
  (.alt ⟨none, (some 111), .nchk (.t 107)⟩ false
  (.alt ⟨none, (some 110), .sl 1 (.t 109) (some (.k (.a (.int .i64 1)))) none⟩ false
  (.alt ⟨none, none, .store 1 (.t 111) (.t 108)⟩ false
  (.take ⟨none, (some 11), .mv (.t 110)⟩ false
  .done)
  .stop)
  (.alt ⟨none, none, .store 1 (.t 111) (.t 108)⟩ false
  (.alt ⟨none, (some 110), .sl 1 (.t 109) (some (.k (.a (.int .i64 1)))) none⟩ false
  (.take ⟨none, (some 11), .mv (.t 110)⟩ false
  .done)
  .stop)
  .stop))
  .stop))
  (.alt ⟨none, (some 110), .sl 1 (.t 109) (some (.k (.a (.int .i64 1)))) none⟩ false
  (.alt ⟨none, (some 107), .load 1 false (.t 106)⟩ false
  (.alt ⟨none, (some 111), .nchk (.t 107)⟩ false
  (.alt ⟨none, none, .store 1 (.t 111) (.t 108)⟩ false
  (.take ⟨none, (some 11), .mv (.t 110)⟩ false
  .done)
  .stop)
  .stop)
  .stop)
  .stop))
  (.alt ⟨none, (some 110), .sl 1 (.t 109) (some (.k (.a (.int .i64 1)))) none⟩ false
  (.alt ⟨none, (some 106), .faddr 1 (.t 17)⟩ false
  (.alt ⟨none, (some 107), .load 1 false (.t 106)⟩ false
  (.alt ⟨none, (some 111), .nchk (.t 107)⟩ false
  (.alt ⟨none, none, .store 1 (.t 111) (.t 108)⟩ false
  (.take ⟨none, (some 11), .mv (.t 110)⟩ false
  .done)
  .stop)
  .stop)
  .stop)
  .stop)
  .stop))))
@[reducible] def c26 : IC := .seq c25 (.dany r29)
@[reducible] def c27 : IC := .seq (.reg r26) c26
@[reducible] def c28 : IC := .seq c22 c27
@[reducible] def c29 : IC := .seq c19 c28
@[reducible] def c30 : IC := .seq (.reg r22) c29
@[reducible] def c31 : IC := .block 1 c30
def r30 : List In := [⟨none, (some 112), .bin .add (.t 84) (.k (.a (.int .i64 1)))⟩,
  ⟨none, (some 84), .mv (.t 112)⟩]
@[reducible] def c32 : IC := .seq c31 (.reg r30)
@[reducible] def c33 : IC := .seq c17 c32
@[reducible] def c34 : IC := .seq (.reg r21) c33
@[reducible] def c35 : IC := .loop c34
@[reducible] def c36 : IC := .block 0 c35
@[reducible] def c37 : IC := .seq (.reg r20) c36
def r31 : List In := [⟨none, (some 113), .mv (.t 14)⟩]
def r32 : List In := [⟨none, (some 114), .mv (.t 11)⟩,
  ⟨none, (some 115), .len (.t 114)⟩,
  ⟨none, (some 116), .bin .eql (.t 115) (.k (.a (.int .i64 0)))⟩]
def r33 : List In := [⟨none, (some 117), .build [.str [], .int .i64 0, .int .i64 0, .int .i64 0, .int .i64 0, .str []] []⟩,
  ⟨none, none, .store 6 (.t 2) (.t 117)⟩,
  ⟨none, (some 3), .mv (.k (.a (.bool false)))⟩,
  ⟨none, (some 4), .mv (.k (.a (.int .i64 5)))⟩]
@[reducible] def c38 : IC := .seq (.reg r33) .ret
@[reducible] def c39 : IC := .cond (.t 116) c38 .skip
@[reducible] def c40 : IC := .seq (.reg r32) c39
def r34 : List In := [⟨none, (some 118), .mv (.t 11)⟩,
  ⟨none, (some 119), .iaddr 1 (.t 118) (.k (.a (.int .i64 0)))⟩,
  ⟨none, (some 120), .load 1 false (.t 119)⟩,
  ⟨none, (some 121), .call 60 [(.t 120), (.k (.a (.str [32, 9])))]⟩,
  ⟨none, (some 20), .mv (.t 121)⟩]
def r35 : List In := [⟨none, (some 123), .mv (.t 20)⟩,
  ⟨none, (some 124), .call 64 [(.t 123), (.k (.a (.int .i64 65535)))]⟩,
  ⟨none, (some 122), .mv (.t 124)⟩,
  ⟨none, (some 125), .ext 0 (.t 122)⟩,
  ⟨none, (some 126), .ext 1 (.t 122)⟩,
  ⟨none, (some 21), .mv (.t 125)⟩,
  ⟨none, (some 22), .mv (.t 126)⟩]
def r36 : List In := [⟨none, (some 129), .mv (.t 22)⟩,
  ⟨none, (some 128), .mv (.t 129)⟩]
def r37 : List In := [⟨none, (some 130), .mv (.t 21)⟩,
  ⟨none, (some 131), .faddr 1 (.t 2)⟩,
  ⟨none, (some 132), .faddr 3 (.t 131)⟩,
  ⟨none, none, .store 1 (.t 132) (.t 130)⟩]
def r38 : List In := [⟨none, (some 134), .mv (.t 20)⟩,
  ⟨none, (some 135), .call 7 [(.t 134)]⟩,
  ⟨none, (some 136), .mv (.t 135)⟩,
  ⟨(some (136, true)), (some 137), .mv (.t 10)⟩,
  ⟨(some (136, true)), (some 138), .call 24 [(.t 137)]⟩,
  ⟨none, (some 139), .pick (.t 136) (.t 138) (.k (.a (.bool false)))⟩,
  ⟨none, (some 133), .mv (.t 139)⟩]
def r39 : List In := [⟨none, (some 140), .mv (.t 20)⟩,
  ⟨none, (some 141), .faddr 5 (.t 2)⟩,
  ⟨none, none, .store 1 (.t 141) (.t 140)⟩]
def r40 : List In := [⟨none, (some 127), .build [.str [], .int .i64 0, .int .i64 0, .int .i64 0, .int .i64 0, .str []] []⟩,
  ⟨none, none, .store 6 (.t 2) (.t 127)⟩,
  ⟨none, (some 3), .mv (.k (.a (.bool false)))⟩,
  ⟨none, (some 4), .mv (.k (.a (.int .i64 2)))⟩]
@[reducible] def c41 : IC := .seq (.reg r40) .ret
@[reducible] def c42 : IC := .cond (.t 133) (.reg r39) c41
@[reducible] def c43 : IC := .seq (.reg r38) c42
@[reducible] def c44 : IC := .cond (.t 128) (.reg r37) c43
@[reducible] def c45 : IC := .seq (.reg r36) c44
@[reducible] def c46 : IC := .block 2 c45
def r41 : List In := [⟨none, (some 142), .mv (.t 11)⟩,
  ⟨none, (some 143), .sl 1 (.t 142) (some (.k (.a (.int .i64 1)))) none⟩,
  ⟨none, (some 11), .mv (.t 143)⟩]
@[reducible] def c47 : IC := .seq c46 (.reg r41)
@[reducible] def c48 : IC := .seq (.reg r35) c47
@[reducible] def c49 : IC := .seq (.reg r34) c48
@[reducible] def c50 : IC := .seq c40 c49
@[reducible] def c51 : IC := .cond (.t 113) c50 .skip
@[reducible] def c52 : IC := .seq (.reg r31) c51
def r42 : List In := [⟨none, (some 144), .mv (.t 11)⟩,
  ⟨none, (some 145), .len (.t 144)⟩,
  ⟨none, (some 146), .bin .gtr (.t 145) (.k (.a (.int .i64 0)))⟩]
def r43 : List In := [⟨none, (some 147), .build [.str [], .int .i64 0, .int .i64 0, .int .i64 0, .int .i64 0, .str []] []⟩,
  ⟨none, none, .store 6 (.t 2) (.t 147)⟩,
  ⟨none, (some 3), .mv (.k (.a (.bool false)))⟩,
  ⟨none, (some 4), .mv (.k (.a (.int .i64 5)))⟩]
@[reducible] def c53 : IC := .seq (.reg r43) .ret
@[reducible] def c54 : IC := .cond (.t 146) c53 .skip
@[reducible] def c55 : IC := .seq (.reg r42) c54
def r44 : List In := [⟨none, (some 148), .load 6 true (.t 2)⟩,
  ⟨none, none, .store 6 (.t 2) (.t 148)⟩,
  ⟨none, (some 3), .mv (.k (.a (.bool true)))⟩,
  ⟨none, (some 4), .mv (.k (.a (.int .i64 0)))⟩]
@[reducible] def c56 : IC := .seq (.reg r44) .ret
@[reducible] def c57 : IC := .seq c55 c56
@[reducible] def c58 : IC := .seq c52 c57
@[reducible] def c59 : IC := .seq c37 c58
@[reducible] def c60 : IC := .seq (.reg r19) c59
@[reducible] def c61 : IC := .seq (.reg r18) c60
@[reducible] def c62 : IC := .seq c16 c61
@[reducible] def c63 : IC := .seq (.reg r14) c62
@[reducible] def c64 : IC := .seq c13 c63
@[reducible] def c65 : IC := .seq (.reg r11) c64
@[reducible] def c66 : IC := .seq (.reg r10) c65
@[reducible] def c67 : IC := .seq c10 c66
@[reducible] def c68 : IC := .seq c2 c67
@[reducible] def c69 : IC := .seq (.reg r2) c68
@[reducible] def c70 : IC := .seq (.reg r1) c69
@[reducible] def c71 : IC := .seq (.reg r0) c70
@[reducible] def code : IC := c71
def res : List RV := [.cell 2 6 true, .tmp 3, .tmp 4]
theorem rs : type_of% (And.intro r0.eq_1 <| And.intro r1.eq_1 <| And.intro r2.eq_1 <| And.intro r3.eq_1 <| And.intro r4.eq_1 <| And.intro r5.eq_1 <| And.intro r6.eq_1 <| And.intro r7.eq_1 <| And.intro r8.eq_1 <| And.intro r9.eq_1 <| And.intro r10.eq_1 <| And.intro r11.eq_1 <| And.intro r12.eq_1 <| And.intro r13.eq_1 <| And.intro r14.eq_1 <| And.intro r15.eq_1 <| And.intro r16.eq_1 <| And.intro r17.eq_1 <| And.intro r18.eq_1 <| And.intro r19.eq_1 <| And.intro r20.eq_1 <| And.intro r21.eq_1 <| And.intro r22.eq_1 <| And.intro r23.eq_1 <| And.intro r24.eq_1 <| And.intro r25.eq_1 <| And.intro r26.eq_1 <| And.intro r27.eq_1 <| And.intro r28.eq_1 <| And.intro r29.eq_1 <| And.intro r30.eq_1 <| And.intro r31.eq_1 <| And.intro r32.eq_1 <| And.intro r33.eq_1 <| And.intro r34.eq_1 <| And.intro r35.eq_1 <| And.intro r36.eq_1 <| And.intro r37.eq_1 <| And.intro r38.eq_1 <| And.intro r39.eq_1 <| And.intro r40.eq_1 <| And.intro r41.eq_1 <| And.intro r42.eq_1 <| And.intro r43.eq_1 <| r44.eq_1) := And.intro r0.eq_1 <| And.intro r1.eq_1 <| And.intro r2.eq_1 <| And.intro r3.eq_1 <| And.intro r4.eq_1 <| And.intro r5.eq_1 <| And.intro r6.eq_1 <| And.intro r7.eq_1 <| And.intro r8.eq_1 <| And.intro r9.eq_1 <| And.intro r10.eq_1 <| And.intro r11.eq_1 <| And.intro r12.eq_1 <| And.intro r13.eq_1 <| And.intro r14.eq_1 <| And.intro r15.eq_1 <| And.intro r16.eq_1 <| And.intro r17.eq_1 <| And.intro r18.eq_1 <| And.intro r19.eq_1 <| And.intro r20.eq_1 <| And.intro r21.eq_1 <| And.intro r22.eq_1 <| And.intro r23.eq_1 <| And.intro r24.eq_1 <| And.intro r25.eq_1 <| And.intro r26.eq_1 <| And.intro r27.eq_1 <| And.intro r28.eq_1 <| And.intro r29.eq_1 <| And.intro r30.eq_1 <| And.intro r31.eq_1 <| And.intro r32.eq_1 <| And.intro r33.eq_1 <| And.intro r34.eq_1 <| And.intro r35.eq_1 <| And.intro r36.eq_1 <| And.intro r37.eq_1 <| And.intro r38.eq_1 <| And.intro r39.eq_1 <| And.intro r40.eq_1 <| And.intro r41.eq_1 <| And.intro r42.eq_1 <| And.intro r43.eq_1 <| r44.eq_1
theorem fn : Body Tryd.prog 46 149 code res := ⟨by decide, Tryd.f46, _, Tryd.func46, rfl, rfl, by kernel_rfl, by kernel_rfl⟩
theorem enters : X0 Tryd.prog 46 = true := by kernel_rfl
end Xq
namespace X1
def r0 : List In := [⟨none, (some 2), .mv (.k (.a (.raw (.slice none 0 0))))⟩,
  ⟨none, (some 3), .alloc 31 [.int .i64 0, .int .i64 0]⟩]
def r1 : List In := [⟨none, (some 11), .mv (.t 0)⟩,
  ⟨none, (some 12), .slen (.t 11)⟩,
  ⟨none, (some 13), .bin .gtr (.t 12) (.k (.a (.int .i64 1048576)))⟩]
def r2 : List In := [⟨none, (some 14), .build [.int .i64 0, .int .i64 0] [(0, 1, (.k (.a (.int .i64 4))))]⟩,
  ⟨none, (some 2), .mv (.k (.a (.raw (.slice none 0 0))))⟩,
  ⟨none, none, .store 2 (.t 3) (.t 14)⟩]
@[reducible] def c0 : IC := .seq (.reg r2) .ret
@[reducible] def c1 : IC := .cond (.t 13) c0 .skip
@[reducible] def c2 : IC := .seq (.reg r1) c1
def r3 : List In := [⟨none, (some 15), .mv (.t 0)⟩,
  ⟨none, (some 16), .call 45 [(.t 15), (.k (.a (.str [10])))]⟩,
  ⟨none, (some 4), .mv (.t 16)⟩]
def r4 : List In := [⟨none, (some 17), .mv (.t 4)⟩,
  ⟨none, (some 18), .mv (.t 4)⟩,
  ⟨none, (some 19), .len (.t 18)⟩,
  ⟨none, (some 20), .bin .sub (.t 19) (.k (.a (.int .i64 1)))⟩,
  ⟨none, (some 21), .iaddr 1 (.t 17) (.t 20)⟩,
  ⟨none, (some 22), .load 1 false (.t 21)⟩,
  ⟨none, (some 23), .bin .eql (.t 22) (.k (.a (.str [])))⟩]
def r5 : List In := [⟨none, (some 24), .mv (.t 4)⟩,
  ⟨none, (some 25), .mv (.t 4)⟩,
  ⟨none, (some 26), .len (.t 25)⟩,
  ⟨none, (some 27), .bin .sub (.t 26) (.k (.a (.int .i64 1)))⟩,
  ⟨none, (some 28), .sl 1 (.t 24) none (some (.t 27))⟩,
  ⟨none, (some 4), .mv (.t 28)⟩]
@[reducible] def c3 : IC := .cond (.t 23) (.reg r5) .skip
@[reducible] def c4 : IC := .seq (.reg r4) c3
def r6 : List In := [⟨none, (some 29), .mv (.t 4)⟩,
  ⟨none, (some 30), .len (.t 29)⟩,
  ⟨none, (some 31), .bin .gtr (.t 30) (.k (.a (.int .i64 40000)))⟩]
def r7 : List In := [⟨none, (some 32), .build [.int .i64 0, .int .i64 0] [(0, 1, (.k (.a (.int .i64 5))))]⟩,
  ⟨none, (some 2), .mv (.k (.a (.raw (.slice none 0 0))))⟩,
  ⟨none, none, .store 2 (.t 3) (.t 32)⟩]
@[reducible] def c5 : IC := .seq (.reg r7) .ret
@[reducible] def c6 : IC := .cond (.t 31) c5 .skip
@[reducible] def c7 : IC := .seq (.reg r6) c6
def r8 : List In := [⟨none, (some 5), .mv (.k (.a (.raw (.slice none 0 0))))⟩]
def r9 : List In := [⟨none, (some 33), .mv (.t 4)⟩,
  ⟨none, (some 34), .len (.t 33)⟩,
  ⟨none, (some 35), .mv (.k (.a (.int .i64 0)))⟩]
def r10 : List In := [⟨none, (some 36), .bin .lss (.t 35) (.t 34)⟩]
@[reducible] def c8 : IC := .cond (.t 36) .skip (.exit 0)
def r11 : List In := [⟨none, (some 37), .mv (.t 35)⟩,
  ⟨none, (some 38), .iaddr 1 (.t 33) (.t 35)⟩,
  ⟨none, (some 39), .load 1 false (.t 38)⟩,
  ⟨none, (some 6), .mv (.t 37)⟩,
  ⟨none, (some 7), .mv (.t 39)⟩]
def r12 : List In := [⟨none, (some 41), .mv (.t 7)⟩,
  ⟨none, (some 42), .call 46 [(.t 41)]⟩,
  ⟨none, (some 40), .mv (.t 42)⟩,
  ⟨none, (some 43), .ext 0 (.t 40)⟩,
  ⟨none, (some 44), .ext 1 (.t 40)⟩,
  ⟨none, (some 45), .ext 2 (.t 40)⟩,
  ⟨none, (some 8), .alloc 27 [.str [], .int .i64 0, .int .i64 0, .int .i64 0, .int .i64 0, .str []]⟩,
  ⟨none, none, .store 6 (.t 8) (.t 43)⟩,
  ⟨none, (some 9), .mv (.t 44)⟩,
  ⟨none, (some 10), .mv (.t 45)⟩]
def r13 : List In := [⟨none, (some 46), .mv (.t 10)⟩,
  ⟨none, (some 47), .bin .neq (.t 46) (.k (.a (.int .i64 0)))⟩]
def r14 : List In := [⟨none, (some 48), .mv (.t 10)⟩,
  ⟨none, (some 49), .mv (.t 6)⟩,
  ⟨none, (some 50), .build [.int .i64 0, .int .i64 0] [(0, 1, (.t 48)), (1, 1, (.t 49))]⟩,
  ⟨none, (some 2), .mv (.k (.a (.raw (.slice none 0 0))))⟩,
  ⟨none, none, .store 2 (.t 3) (.t 50)⟩]
@[reducible] def c9 : IC := .seq (.reg r14) .ret
@[reducible] def c10 : IC := .cond (.t 47) c9 .skip
@[reducible] def c11 : IC := .seq (.reg r13) c10
def r15 : List In := [⟨none, (some 51), .mv (.t 9)⟩]
def r16 : List In := [⟨none, (some 52), .mv (.t 5)⟩,
  ⟨none, (some 53), .load 6 true (.t 8)⟩,
  ⟨none, (some 54), .bsl 27 6 1 [.str [], .int .i64 0, .int .i64 0, .int .i64 0, .int .i64 0, .str []] [(0, 6, (.t 53))]⟩,
  ⟨none, (some 55), .app 22 27 6 64 (.t 52) (.t 54)⟩,
  ⟨none, (some 5), .mv (.t 55)⟩]
@[reducible] def c12 : IC := .cond (.t 51) (.reg r16) .skip
@[reducible] def c13 : IC := .seq (.reg r15) c12
@[reducible] def c14 : IC := .seq c11 c13
@[reducible] def c15 : IC := .seq (.reg r12) c14
@[reducible] def c16 : IC := .seq (.reg r11) c15
@[reducible] def c17 : IC := .block 1 c16
def r17 : List In := [⟨none, (some 56), .bin .add (.t 35) (.k (.a (.int .i64 1)))⟩,
  ⟨none, (some 35), .mv (.t 56)⟩]
@[reducible] def c18 : IC := .seq c17 (.reg r17)
@[reducible] def c19 : IC := .seq c8 c18
@[reducible] def c20 : IC := .seq (.reg r10) c19
@[reducible] def c21 : IC := .loop c20
@[reducible] def c22 : IC := .block 0 c21
@[reducible] def c23 : IC := .seq (.reg r9) c22
def r18 : List In := [⟨none, (some 57), .mv (.t 5)⟩,
  ⟨none, (some 58), .build [.int .i64 0, .int .i64 0] []⟩,
  ⟨none, (some 2), .mv (.t 57)⟩,
  ⟨none, none, .store 2 (.t 3) (.t 58)⟩]
@[reducible] def c24 : IC := .seq (.reg r18) .ret
@[reducible] def c25 : IC := .seq c23 c24
@[reducible] def c26 : IC := .seq (.reg r8) c25
@[reducible] def c27 : IC := .seq c7 c26
@[reducible] def c28 : IC := .seq c4 c27
@[reducible] def c29 : IC := .seq (.reg r3) c28
@[reducible] def c30 : IC := .seq c2 c29
@[reducible] def c31 : IC := .seq (.reg r0) c30
@[reducible] def code : IC := c31
def res : List RV := [.tmp 2, .cell 3 2 true]
theorem rs : type_of% (And.intro r0.eq_1 <| And.intro r1.eq_1 <| And.intro r2.eq_1 <| And.intro r3.eq_1 <| And.intro r4.eq_1 <| And.intro r5.eq_1 <| And.intro r6.eq_1 <| And.intro r7.eq_1 <| And.intro r8.eq_1 <| And.intro r9.eq_1 <| And.intro r10.eq_1 <| And.intro r11.eq_1 <| And.intro r12.eq_1 <| And.intro r13.eq_1 <| And.intro r14.eq_1 <| And.intro r15.eq_1 <| And.intro r16.eq_1 <| And.intro r17.eq_1 <| r18.eq_1) := And.intro r0.eq_1 <| And.intro r1.eq_1 <| And.intro r2.eq_1 <| And.intro r3.eq_1 <| And.intro r4.eq_1 <| And.intro r5.eq_1 <| And.intro r6.eq_1 <| And.intro r7.eq_1 <| And.intro r8.eq_1 <| And.intro r9.eq_1 <| And.intro r10.eq_1 <| And.intro r11.eq_1 <| And.intro r12.eq_1 <| And.intro r13.eq_1 <| And.intro r14.eq_1 <| And.intro r15.eq_1 <| And.intro r16.eq_1 <| And.intro r17.eq_1 <| r18.eq_1
theorem fn : Body Tryd.prog 16 59 code res := ⟨by decide, Tryd.f16, _, Tryd.func16, rfl, rfl, by kernel_rfl, by kernel_rfl⟩
theorem enters : X0 Tryd.prog 16 = true := by kernel_rfl
end X1
namespace Xb
def r0 : List In := [⟨none, (some 2), .mv (.k (.a (.str [])))⟩]
def r1 : List In := [⟨none, (some 3), .mv (.t 0)⟩,
  ⟨none, (some 4), .slen (.t 3)⟩,
  ⟨none, (some 5), .bin .gtr (.t 4) (.k (.a (.int .i64 0)))⟩,
  ⟨none, (some 6), .mv (.t 5)⟩,
  ⟨(some (6, true)), (some 7), .mv (.t 0)⟩,
  ⟨(some (6, true)), (some 8), .sidx (.t 7) (.k (.a (.int .i64 0)))⟩,
  ⟨(some (6, true)), (some 9), .bin .eql (.t 8) (.k (.a (.int .u8 32)))⟩,
  ⟨(some (6, true)), (some 10), .mv (.t 9)⟩,
  ⟨(some (10, false)), (some 11), .mv (.t 0)⟩,
  ⟨(some (10, false)), (some 12), .sidx (.t 11) (.k (.a (.int .i64 0)))⟩,
  ⟨(some (10, false)), (some 13), .bin .eql (.t 12) (.k (.a (.int .u8 9)))⟩,
  ⟨(some (6, true)), (some 14), .pick (.t 10) (.k (.a (.bool true))) (.t 13)⟩,
  ⟨none, (some 15), .pick (.t 6) (.t 14) (.k (.a (.bool false)))⟩]
@[reducible] def c0 : IC := .cond (.t 15) .skip (.exit 0)
@[reducible] def c1 : IC := .seq (.reg r1) c0
def r2 : List In := [⟨none, (some 16), .mv (.t 0)⟩,
  ⟨none, (some 17), .ssl (.t 16) (some (.k (.a (.int .i64 1)))) none⟩,
  ⟨none, (some 0), .mv (.t 17)⟩]
@[reducible] def c2 : IC := .block 1 (.reg r2)
@[reducible] def c3 : IC := .seq c1 c2
@[reducible] def c4 : IC := .loop c3
@[reducible] def c5 : IC := .block 0 c4
def r3 : List In := [⟨none, (some 18), .mv (.t 0)⟩,
  ⟨none, (some 19), .slen (.t 18)⟩,
  ⟨none, (some 20), .bin .gtr (.t 19) (.k (.a (.int .i64 0)))⟩,
  ⟨none, (some 21), .mv (.t 20)⟩,
  ⟨(some (21, true)), (some 22), .mv (.t 0)⟩,
  ⟨(some (21, true)), (some 23), .mv (.t 0)⟩,
  ⟨(some (21, true)), (some 24), .slen (.t 23)⟩,
  ⟨(some (21, true)), (some 25), .bin .sub (.t 24) (.k (.a (.int .i64 1)))⟩,
  ⟨(some (21, true)), (some 26), .sidx (.t 22) (.t 25)⟩,
  ⟨(some (21, true)), (some 27), .bin .eql (.t 26) (.k (.a (.int .u8 32)))⟩,
  ⟨(some (21, true)), (some 28), .mv (.t 27)⟩,
  ⟨(some (28, false)), (some 29), .mv (.t 0)⟩,
  ⟨(some (28, false)), (some 30), .mv (.t 0)⟩,
  ⟨(some (28, false)), (some 31), .slen (.t 30)⟩,
  ⟨(some (28, false)), (some 32), .bin .sub (.t 31) (.k (.a (.int .i64 1)))⟩,
  ⟨(some (28, false)), (some 33), .sidx (.t 29) (.t 32)⟩,
  ⟨(some (28, false)), (some 34), .bin .eql (.t 33) (.k (.a (.int .u8 9)))⟩,
  ⟨(some (21, true)), (some 35), .pick (.t 28) (.k (.a (.bool true))) (.t 34)⟩,
  ⟨none, (some 36), .pick (.t 21) (.t 35) (.k (.a (.bool false)))⟩]
@[reducible] def c6 : IC := .cond (.t 36) .skip (.exit 2)
@[reducible] def c7 : IC := .seq (.reg r3) c6
def r4 : List In := [⟨none, (some 37), .mv (.t 0)⟩,
  ⟨none, (some 38), .mv (.t 0)⟩,
  ⟨none, (some 39), .slen (.t 38)⟩,
  ⟨none, (some 40), .bin .sub (.t 39) (.k (.a (.int .i64 1)))⟩,
  ⟨none, (some 41), .ssl (.t 37) none (some (.t 40))⟩,
  ⟨none, (some 0), .mv (.t 41)⟩]
@[reducible] def c8 : IC := .block 3 (.reg r4)
@[reducible] def c9 : IC := .seq c7 c8
@[reducible] def c10 : IC := .loop c9
@[reducible] def c11 : IC := .block 2 c10
def r5 : List In := [⟨none, (some 42), .mv (.t 0)⟩,
  ⟨none, (some 2), .mv (.t 42)⟩]
@[reducible] def c12 : IC := .seq (.reg r5) .ret
@[reducible] def c13 : IC := .seq c11 c12
@[reducible] def c14 : IC := .seq c5 c13
@[reducible] def c15 : IC := .seq (.reg r0) c14
@[reducible] def code : IC := c15
def res : List RV := [.tmp 2]
theorem rs : type_of% (And.intro r0.eq_1 <| And.intro r1.eq_1 <| And.intro r2.eq_1 <| And.intro r3.eq_1 <| And.intro r4.eq_1 <| r5.eq_1) := And.intro r0.eq_1 <| And.intro r1.eq_1 <| And.intro r2.eq_1 <| And.intro r3.eq_1 <| And.intro r4.eq_1 <| r5.eq_1
theorem fn : Body Tryd.prog 66 43 code res := ⟨by decide, Tryd.f66, _, Tryd.func66, rfl, rfl, by kernel_rfl, by kernel_rfl⟩
theorem enters : X0 Tryd.prog 66 = true := by kernel_rfl
end Xb
namespace Wa
def r0 : List In := [⟨none, (some 4), .mv (.k (.a (.str [])))⟩,
  ⟨none, (some 5), .mv (.k (.a (.str [])))⟩,
  ⟨none, (some 6), .mv (.k (.a (.bool false)))⟩]
def r1 : List In := [⟨none, (some 7), .mv (.k (.a (.int .i64 0)))⟩]
def r2 : List In := [⟨none, (some 8), .mv (.t 7)⟩,
  ⟨none, (some 9), .mv (.t 0)⟩,
  ⟨none, (some 10), .slen (.t 9)⟩,
  ⟨none, (some 11), .bin .lss (.t 8) (.t 10)⟩]
@[reducible] def c0 : IC := .cond (.t 11) .skip (.exit 0)
@[reducible] def c1 : IC := .seq (.reg r2) c0
def r3 : List In := [⟨none, (some 14), .mv (.t 0)⟩,
  ⟨none, (some 15), .mv (.t 7)⟩,
  ⟨none, (some 16), .sidx (.t 14) (.t 15)⟩,
  ⟨none, (some 17), .mv (.t 1)⟩,
  ⟨none, (some 18), .bin .eql (.t 16) (.t 17)⟩]
def r4 : List In := [⟨none, (some 19), .mv (.t 0)⟩,
  ⟨none, (some 20), .mv (.t 7)⟩,
  ⟨none, (some 21), .ssl (.t 19) none (some (.t 20))⟩,
  ⟨none, (some 22), .mv (.t 0)⟩,
  ⟨none, (some 23), .mv (.t 7)⟩,
  ⟨none, (some 24), .bin .add (.t 23) (.k (.a (.int .i64 1)))⟩,
  ⟨none, (some 25), .ssl (.t 22) (some (.t 24)) none⟩,
  ⟨none, (some 4), .mv (.t 21)⟩,
  ⟨none, (some 5), .mv (.t 25)⟩,
  ⟨none, (some 6), .mv (.k (.a (.bool true)))⟩]
@[reducible] def c2 : IC := .seq (.dreg r4) .ret
@[reducible] def c3 : IC := .cond (.t 18) c2 .skip
@[reducible] def c4 : IC := .seq (.reg r3) c3
@[reducible] def c5 : IC := .block 1 c4
def r5 : List In := [⟨none, (some 12), .mv (.t 7)⟩,
  ⟨none, (some 13), .bin .add (.t 12) (.k (.a (.int .i64 1)))⟩,
  ⟨none, (some 7), .mv (.t 13)⟩]
@[reducible] def c6 : IC := .seq c5 (.reg r5)
@[reducible] def c7 : IC := .seq c1 c6
@[reducible] def c8 : IC := .loop c7
@[reducible] def c9 : IC := .block 0 c8
@[reducible] def c10 : IC := .seq (.reg r1) c9
def r6 : List In := [⟨none, (some 26), .mv (.t 0)⟩,
  ⟨none, (some 4), .mv (.t 26)⟩,
  ⟨none, (some 5), .mv (.k (.a (.str [])))⟩,
  ⟨none, (some 6), .mv (.k (.a (.bool false)))⟩]
@[reducible] def c11 : IC := .seq (.reg r6) .ret
@[reducible] def c12 : IC := .seq c10 c11
@[reducible] def c13 : IC := .seq (.reg r0) c12
@[reducible] def code : IC := c13
def res : List RV := [.tmp 4, .tmp 5, .tmp 6]
theorem rs : type_of% (And.intro r0.eq_1 <| And.intro r1.eq_1 <| And.intro r2.eq_1 <| And.intro r3.eq_1 <| And.intro r4.eq_1 <| And.intro r5.eq_1 <| r6.eq_1) := And.intro r0.eq_1 <| And.intro r1.eq_1 <| And.intro r2.eq_1 <| And.intro r3.eq_1 <| And.intro r4.eq_1 <| And.intro r5.eq_1 <| r6.eq_1
theorem fn : Body Tryd.prog 65 27 code res := ⟨by decide, Tryd.f65, _, Tryd.func65, rfl, rfl, by kernel_rfl, by kernel_rfl⟩
theorem enters : X0 Tryd.prog 65 = true := by kernel_rfl
end Wa
namespace Yy
def r0 : List In := [⟨none, (some 4), .mv (.k (.a (.int .i64 0)))⟩]
def r1 : List In := [⟨none, (some 8), .mv (.t 0)⟩,
  ⟨none, (some 9), .slen (.t 8)⟩,
  ⟨none, (some 10), .bin .eql (.t 9) (.k (.a (.int .i64 0)))⟩,
  ⟨none, (some 11), .mv (.t 10)⟩,
  ⟨(some (11, false)), (some 12), .mv (.t 0)⟩,
  ⟨(some (11, false)), (some 13), .slen (.t 12)⟩,
  ⟨(some (11, false)), (some 14), .bin .gtr (.t 13) (.k (.a (.int .i64 5)))⟩,
  ⟨none, (some 15), .pick (.t 11) (.k (.a (.bool true))) (.t 14)⟩,
  ⟨none, (some 16), .mv (.t 15)⟩,
  ⟨(some (16, false)), (some 17), .mv (.t 0)⟩,
  ⟨(some (16, false)), (some 18), .slen (.t 17)⟩,
  ⟨(some (16, false)), (some 19), .bin .gtr (.t 18) (.k (.a (.int .i64 1)))⟩,
  ⟨(some (16, false)), (some 20), .mv (.t 19)⟩,
  ⟨(some (20, true)), (some 21), .mv (.t 0)⟩,
  ⟨(some (20, true)), (some 22), .sidx (.t 21) (.k (.a (.int .i64 0)))⟩,
  ⟨(some (20, true)), (some 23), .bin .eql (.t 22) (.k (.a (.int .u8 48)))⟩,
  ⟨(some (16, false)), (some 24), .pick (.t 20) (.t 23) (.k (.a (.bool false)))⟩,
  ⟨none, (some 25), .pick (.t 16) (.k (.a (.bool true))) (.t 24)⟩]
def r2 : List In := [⟨none, (some 4), .mv (.k (.a (.int .i64 (-1))))⟩]
@[reducible] def c0 : IC := .seq (.reg r2) .ret
@[reducible] def c1 : IC := .cond (.t 25) c0 .skip
@[reducible] def c2 : IC := .seq (.reg r1) c1
def r3 : List In := [⟨none, (some 5), .mv (.k (.a (.int .i64 0)))⟩]
def r4 : List In := [⟨none, (some 26), .mv (.t 0)⟩,
  ⟨none, (some 27), .s2b (.t 26)⟩,
  ⟨none, (some 28), .len (.t 27)⟩,
  ⟨none, (some 29), .mv (.k (.a (.int .i64 0)))⟩]
def r5 : List In := [⟨none, (some 30), .bin .lss (.t 29) (.t 28)⟩]
@[reducible] def c3 : IC := .cond (.t 30) .skip (.exit 0)
def r6 : List In := [⟨none, (some 31), .iaddr 1 (.t 27) (.t 29)⟩,
  ⟨none, (some 32), .load 1 false (.t 31)⟩,
  ⟨none, (some 7), .mv (.t 32)⟩]
def r7 : List In := [⟨none, (some 33), .mv (.t 7)⟩,
  ⟨none, (some 34), .bin .lss (.t 33) (.k (.a (.int .u8 48)))⟩,
  ⟨none, (some 35), .mv (.t 34)⟩,
  ⟨(some (35, false)), (some 36), .mv (.t 7)⟩,
  ⟨(some (35, false)), (some 37), .bin .gtr (.t 36) (.k (.a (.int .u8 57)))⟩,
  ⟨none, (some 38), .pick (.t 35) (.k (.a (.bool true))) (.t 37)⟩]
def r8 : List In := [⟨none, (some 4), .mv (.k (.a (.int .i64 (-1))))⟩]
@[reducible] def c4 : IC := .seq (.reg r8) .ret
@[reducible] def c5 : IC := .cond (.t 38) c4 .skip
@[reducible] def c6 : IC := .seq (.reg r7) c5
def r9 : List In := [⟨none, (some 39), .mv (.t 5)⟩,
  ⟨none, (some 40), .bin .mul (.k (.a (.int .i64 10))) (.t 39)⟩,
  ⟨none, (some 41), .mv (.t 7)⟩,
  ⟨none, (some 42), .bin .sub (.t 41) (.k (.a (.int .u8 48)))⟩,
  ⟨none, (some 43), .conv .i64 (.t 42)⟩,
  ⟨none, (some 44), .bin .add (.t 40) (.t 43)⟩,
  ⟨none, (some 5), .mv (.t 44)⟩]
@[reducible] def c7 : IC := .seq c6 (.reg r9)
@[reducible] def c8 : IC := .seq (.reg r6) c7
@[reducible] def c9 : IC := .block 1 c8
def r10 : List In := [⟨none, (some 45), .bin .add (.t 29) (.k (.a (.int .i64 1)))⟩,
  ⟨none, (some 29), .mv (.t 45)⟩]
@[reducible] def c10 : IC := .seq c9 (.reg r10)
@[reducible] def c11 : IC := .seq c3 c10
@[reducible] def c12 : IC := .seq (.reg r5) c11
@[reducible] def c13 : IC := .loop c12
@[reducible] def c14 : IC := .block 0 c13
@[reducible] def c15 : IC := .seq (.reg r4) c14
def r11 : List In := [⟨none, (some 46), .mv (.t 5)⟩,
  ⟨none, (some 47), .mv (.t 1)⟩,
  ⟨none, (some 48), .bin .gtr (.t 46) (.t 47)⟩]
def r12 : List In := [⟨none, (some 4), .mv (.k (.a (.int .i64 (-1))))⟩]
@[reducible] def c16 : IC := .seq (.reg r12) .ret
@[reducible] def c17 : IC := .cond (.t 48) c16 .skip
@[reducible] def c18 : IC := .seq (.reg r11) c17
def r13 : List In := [⟨none, (some 49), .mv (.t 5)⟩,
  ⟨none, (some 4), .mv (.t 49)⟩]
@[reducible] def c19 : IC := .seq (.reg r13) .ret
@[reducible] def c20 : IC := .seq c18 c19
@[reducible] def c21 : IC := .seq c15 c20
@[reducible] def c22 : IC := .seq (.reg r3) c21
@[reducible] def c23 : IC := .seq c2 c22
@[reducible] def c24 : IC := .seq (.reg r0) c23
@[reducible] def code : IC := c24
def res : List RV := [.tmp 4]
theorem rs : type_of% (And.intro r0.eq_1 <| And.intro r1.eq_1 <| And.intro r2.eq_1 <| And.intro r3.eq_1 <| And.intro r4.eq_1 <| And.intro r5.eq_1 <| And.intro r6.eq_1 <| And.intro r7.eq_1 <| And.intro r8.eq_1 <| And.intro r9.eq_1 <| And.intro r10.eq_1 <| And.intro r11.eq_1 <| And.intro r12.eq_1 <| r13.eq_1) := And.intro r0.eq_1 <| And.intro r1.eq_1 <| And.intro r2.eq_1 <| And.intro r3.eq_1 <| And.intro r4.eq_1 <| And.intro r5.eq_1 <| And.intro r6.eq_1 <| And.intro r7.eq_1 <| And.intro r8.eq_1 <| And.intro r9.eq_1 <| And.intro r10.eq_1 <| And.intro r11.eq_1 <| And.intro r12.eq_1 <| r13.eq_1
theorem fn : Body Tryd.prog 67 50 code res := ⟨by decide, Tryd.f67, _, Tryd.func67, rfl, rfl, by kernel_rfl, by kernel_rfl⟩
theorem enters : X0 Tryd.prog 67 = true := by kernel_rfl
end Yy
namespace Zo
def r0 : List In := [⟨none, (some 2), .alloc 27 [.str [], .int .i64 0, .int .i64 0, .int .i64 0, .int .i64 0, .str []]⟩,
  ⟨none, (some 3), .mv (.k (.a (.bool false)))⟩,
  ⟨none, (some 4), .mv (.k (.a (.int .i64 0)))⟩]
def r1 : List In := [⟨none, (some 22), .mv (.t 0)⟩,
  ⟨none, (some 23), .call 65 [(.t 22), (.k (.a (.int .u8 59)))]⟩,
  ⟨none, (some 21), .mv (.t 23)⟩,
  ⟨none, (some 24), .ext 0 (.t 21)⟩,
  ⟨none, (some 25), .ext 1 (.t 21)⟩,
  ⟨none, (some 26), .ext 2 (.t 21)⟩,
  ⟨none, (some 0), .mv (.t 24)⟩]
def r2 : List In := [⟨none, (some 27), .mv (.t 0)⟩,
  ⟨none, (some 28), .call 66 [(.t 27)]⟩,
  ⟨none, (some 0), .mv (.t 28)⟩]
def r3 : List In := [⟨none, (some 29), .mv (.t 0)⟩,
  ⟨none, (some 30), .bin .eql (.t 29) (.k (.a (.str [])))⟩]
def r4 : List In := [⟨none, (some 31), .build [.str [], .int .i64 0, .int .i64 0, .int .i64 0, .int .i64 0, .str []] []⟩,
  ⟨none, none, .store 6 (.t 2) (.t 31)⟩,
  ⟨none, (some 3), .mv (.k (.a (.bool false)))⟩,
  ⟨none, (some 4), .mv (.k (.a (.int .i64 0)))⟩]
@[reducible] def c0 : IC := .seq (.reg r4) .ret
@[reducible] def c1 : IC := .cond (.t 30) c0 .skip
@[reducible] def c2 : IC := .seq (.reg r3) c1
def r5 : List In := [⟨none, (some 32), .mv (.t 0)⟩,
  ⟨none, (some 33), .mv (.t 0)⟩,
  ⟨none, (some 34), .slen (.t 33)⟩,
  ⟨none, (some 35), .bin .sub (.t 34) (.k (.a (.int .i64 1)))⟩,
  ⟨none, (some 36), .sidx (.t 32) (.t 35)⟩,
  ⟨none, (some 37), .bin .eql (.t 36) (.k (.a (.int .u8 58)))⟩]
def r6 : List In := [⟨none, (some 38), .mv (.t 0)⟩,
  ⟨none, (some 39), .mv (.t 0)⟩,
  ⟨none, (some 40), .slen (.t 39)⟩,
  ⟨none, (some 41), .bin .sub (.t 40) (.k (.a (.int .i64 1)))⟩,
  ⟨none, (some 42), .ssl (.t 38) none (some (.t 41))⟩,
  ⟨none, (some 5), .mv (.t 42)⟩]
def r7 : List In := [⟨none, (some 43), .mv (.t 5)⟩,
  ⟨none, (some 44), .call 8 [(.t 43)]⟩,
  ⟨none, (some 45), .un .not (.t 44)⟩]
def r8 : List In := [⟨none, (some 46), .build [.str [], .int .i64 0, .int .i64 0, .int .i64 0, .int .i64 0, .str []] []⟩,
  ⟨none, none, .store 6 (.t 2) (.t 46)⟩,
  ⟨none, (some 3), .mv (.k (.a (.bool false)))⟩,
  ⟨none, (some 4), .mv (.k (.a (.int .i64 7)))⟩]
@[reducible] def c3 : IC := .seq (.reg r8) .ret
@[reducible] def c4 : IC := .cond (.t 45) c3 .skip
@[reducible] def c5 : IC := .seq (.reg r7) c4
def r9 : List In := [⟨none, (some 47), .mv (.t 5)⟩,
  ⟨none, (some 48), .build [.str [], .int .i64 0, .int .i64 0, .int .i64 0, .int .i64 0, .str []] [(0, 1, (.t 47))]⟩,
  ⟨none, none, .store 6 (.t 2) (.t 48)⟩,
  ⟨none, (some 3), .mv (.k (.a (.bool true)))⟩,
  ⟨none, (some 4), .mv (.k (.a (.int .i64 0)))⟩]
@[reducible] def c6 : IC := .seq (.reg r9) .ret
@[reducible] def c7 : IC := .seq c5 c6
@[reducible] def c8 : IC := .seq (.reg r6) c7
@[reducible] def c9 : IC := .cond (.t 37) c8 .skip
@[reducible] def c10 : IC := .seq (.reg r5) c9
def r10 : List In := [⟨none, (some 50), .mv (.t 0)⟩,
  ⟨none, (some 51), .call 65 [(.t 50), (.k (.a (.int .u8 32)))]⟩,
  ⟨none, (some 49), .mv (.t 51)⟩,
  ⟨none, (some 52), .ext 0 (.t 49)⟩,
  ⟨none, (some 53), .ext 1 (.t 49)⟩,
  ⟨none, (some 54), .ext 2 (.t 49)⟩,
  ⟨none, (some 6), .mv (.t 52)⟩,
  ⟨none, (some 7), .mv (.t 53)⟩,
  ⟨none, (some 8), .mv (.t 54)⟩]
def r11 : List In := [⟨none, (some 9), .mv (.k (.a (.int .i64 (-1))))⟩]
def r12 : List In := [⟨none, (some 10), .mv (.k (.a (.int .i64 0)))⟩]
def r13 : List In := [⟨none, (some 55), .mv (.t 10)⟩,
  ⟨none, (some 56), .bin .leq (.t 55) (.k (.a (.int .i64 32)))⟩]
@[reducible] def c11 : IC := .cond (.t 56) .skip (.exit 0)
@[reducible] def c12 : IC := .seq (.reg r13) c11
def r14 : List In := [⟨none, (some 59), .mv (.t 10)⟩,
  ⟨none, (some 60), .call 35 [(.t 59)]⟩,
  ⟨none, (some 61), .mv (.t 6)⟩,
  ⟨none, (some 62), .bin .eql (.t 60) (.t 61)⟩]
def r15 : List In := [⟨none, (some 63), .mv (.t 10)⟩,
  ⟨none, (some 9), .mv (.t 63)⟩]
@[reducible] def c13 : IC := .cond (.t 62) (.reg r15) .skip
@[reducible] def c14 : IC := .seq (.reg r14) c13
@[reducible] def c15 : IC := .block 1 c14
def r16 : List In := [⟨none, (some 57), .mv (.t 10)⟩,
  ⟨none, (some 58), .bin .add (.t 57) (.k (.a (.int .i64 1)))⟩,
  ⟨none, (some 10), .mv (.t 58)⟩]
@[reducible] def c16 : IC := .seq c15 (.reg r16)
@[reducible] def c17 : IC := .seq c12 c16
@[reducible] def c18 : IC := .loop c17
@[reducible] def c19 : IC := .block 0 c18
@[reducible] def c20 : IC := .seq (.reg r12) c19
def r17 : List In := [⟨none, (some 64), .mv (.t 9)⟩,
  ⟨none, (some 65), .bin .lss (.t 64) (.k (.a (.int .i64 0)))⟩]
def r18 : List In := [⟨none, (some 66), .build [.str [], .int .i64 0, .int .i64 0, .int .i64 0, .int .i64 0, .str []] []⟩,
  ⟨none, none, .store 6 (.t 2) (.t 66)⟩,
  ⟨none, (some 3), .mv (.k (.a (.bool false)))⟩,
  ⟨none, (some 4), .mv (.k (.a (.int .i64 1)))⟩]
@[reducible] def c21 : IC := .seq (.reg r18) .ret
@[reducible] def c22 : IC := .cond (.t 65) c21 .skip
@[reducible] def c23 : IC := .seq (.reg r17) c22
def r19 : List In := [⟨none, (some 11), .mv (.k (.a (.raw (.slice none 0 0))))⟩]
def r20 : List In := [⟨none, (some 67), .mv (.t 7)⟩,
  ⟨none, (some 68), .call 66 [(.t 67)]⟩,
  ⟨none, (some 7), .mv (.t 68)⟩]
def r21 : List In := [⟨none, (some 69), .mv (.t 7)⟩,
  ⟨none, (some 70), .bin .neq (.t 69) (.k (.a (.str [])))⟩,
  ⟨none, (some 12), .mv (.t 70)⟩]
def r22 : List In := [⟨none, (some 71), .mv (.t 12)⟩]
@[reducible] def c24 : IC := .cond (.t 71) .skip (.exit 2)
@[reducible] def c25 : IC := .seq (.reg r22) c24
def r23 : List In := [⟨none, (some 13), .mv (.k (.a (.str [])))⟩]
def r24 : List In := [⟨none, (some 73), .mv (.t 7)⟩,
  ⟨none, (some 74), .call 65 [(.t 73), (.k (.a (.int .u8 44)))]⟩,
  ⟨none, (some 72), .mv (.t 74)⟩,
  ⟨none, (some 75), .ext 0 (.t 72)⟩,
  ⟨none, (some 76), .ext 1 (.t 72)⟩,
  ⟨none, (some 77), .ext 2 (.t 72)⟩,
  ⟨none, (some 13), .mv (.t 75)⟩,
  ⟨none, (some 7), .mv (.t 76)⟩,
  ⟨none, (some 12), .mv (.t 77)⟩]
def r25 : List In := [⟨none, (some 78), .mv (.t 11)⟩,
  ⟨none, (some 79), .mv (.t 13)⟩,
  ⟨none, (some 80), .call 66 [(.t 79)]⟩,
  ⟨none, (some 81), .bsl 9 1 1 [.str []] [(0, 1, (.t 80))]⟩,
  ⟨none, (some 82), .app 63 9 1 16 (.t 78) (.t 81)⟩,
  ⟨none, (some 11), .mv (.t 82)⟩]
@[reducible] def c26 : IC := .seq (.reg r24) (.reg r25)
@[reducible] def c27 : IC := .seq (.reg r23) c26
@[reducible] def c28 : IC := .block 3 c27
@[reducible] def c29 : IC := .seq c25 c28
@[reducible] def c30 : IC := .loop c29
@[reducible] def c31 : IC := .block 2 c30
@[reducible] def c32 : IC := .seq (.reg r21) c31
def r26 : List In := [⟨none, (some 83), .mv (.t 9)⟩,
  ⟨none, (some 84), .build [.int .i64 0, .int .i64 0, .int .i64 0, .int .i64 0] [(0, 1, (.t 83))]⟩,
  ⟨none, (some 85), .build [.str [], .int .i64 0, .int .i64 0, .int .i64 0, .int .i64 0, .str []] [(1, 4, (.t 84))]⟩,
  ⟨none, (some 14), .alloc 27 [.str [], .int .i64 0, .int .i64 0, .int .i64 0, .int .i64 0, .str []]⟩,
  ⟨none, none, .store 6 (.t 14) (.t 85)⟩]
def r27 : List In := [⟨none, (some 15), .mv (.k (.a (.int .i64 0)))⟩]
def r28 : List In := [⟨none, (some 86), .bsl 5 1 3 [.int .u8 0, .int .u8 0, .int .u8 0] [(0, 1, (.k (.a (.int .u8 100)))), (1, 1, (.k (.a (.int .u8 115)))), (2, 1, (.k (.a (.int .u8 105))))]⟩,
  ⟨none, (some 87), .frz (.t 86)⟩,
  ⟨none, (some 88), .len (.t 87)⟩,
  ⟨none, (some 89), .mv (.k (.a (.int .i64 0)))⟩]
def r29 : List In := [⟨none, (some 90), .bin .lss (.t 89) (.t 88)⟩]
@[reducible] def c33 : IC := .cond (.t 90) .skip (.exit 4)
def r30 : List In := [⟨none, (some 91), .iaddr 1 (.t 87) (.t 89)⟩,
  ⟨none, (some 92), .load 1 false (.t 91)⟩,
  ⟨none, (some 17), .mv (.t 92)⟩]
def r31 : List In := [⟨none, (some 93), .mv (.t 9)⟩,
  ⟨none, (some 94), .mv (.t 17)⟩,
  ⟨none, (some 95), .call 36 [(.t 93), (.t 94)]⟩,
  ⟨none, (some 96), .un .not (.t 95)⟩]
@[reducible] def c34 : IC := .cond (.t 96) (.exit 5) .skip
@[reducible] def c35 : IC := .seq (.reg r31) c34
def r32 : List In := [⟨none, (some 97), .mv (.t 15)⟩,
  ⟨none, (some 98), .mv (.t 11)⟩,
  ⟨none, (some 99), .len (.t 98)⟩,
  ⟨none, (some 100), .bin .eql (.t 97) (.t 99)⟩]
def r33 : List In := [⟨none, (some 101), .build [.str [], .int .i64 0, .int .i64 0, .int .i64 0, .int .i64 0, .str []] []⟩,
  ⟨none, none, .store 6 (.t 2) (.t 101)⟩,
  ⟨none, (some 3), .mv (.k (.a (.bool false)))⟩,
  ⟨none, (some 4), .mv (.k (.a (.int .i64 5)))⟩]
@[reducible] def c36 : IC := .seq (.reg r33) .ret
@[reducible] def c37 : IC := .cond (.t 100) c36 .skip
@[reducible] def c38 : IC := .seq (.reg r32) c37
def r34 : List In := [⟨none, (some 102), .mv (.t 11)⟩,
  ⟨none, (some 103), .mv (.t 15)⟩,
  ⟨none, (some 104), .iaddr 1 (.t 102) (.t 103)⟩,
  ⟨none, (some 105), .load 1 false (.t 104)⟩,
  ⟨none, (some 18), .mv (.t 105)⟩]
def r35 : List In := [⟨none, (some 106), .mv (.t 15)⟩,
  ⟨none, (some 107), .bin .add (.t 106) (.k (.a (.int .i64 1)))⟩,
  ⟨none, (some 15), .mv (.t 107)⟩]
def r36 : List In := [⟨none, (some 108), .mv (.t 17)⟩,
  ⟨none, (some 109), .bin .eql (.t 108) (.k (.a (.int .u8 105)))⟩]
def r37 : List In := [⟨none, (some 110), .mv (.t 18)⟩,
  ⟨none, (some 111), .call 67 [(.t 110), (.k (.a (.int .i64 65535)))]⟩,
  ⟨none, (some 19), .mv (.t 111)⟩]
def r38 : List In := [⟨none, (some 114), .mv (.t 19)⟩,
  ⟨none, (some 115), .bin .geq (.t 114) (.k (.a (.int .i64 0)))⟩,
  ⟨none, (some 113), .mv (.t 115)⟩]
def r39 : List In := [⟨none, (some 116), .mv (.t 19)⟩,
  ⟨none, (some 117), .faddr 1 (.t 14)⟩,
  ⟨none, (some 118), .faddr 3 (.t 117)⟩,
  ⟨none, none, .store 1 (.t 118) (.t 116)⟩]
def r40 : List In := [⟨none, (some 120), .mv (.t 18)⟩,
  ⟨none, (some 121), .call 8 [(.t 120)]⟩,
  ⟨none, (some 122), .mv (.t 121)⟩,
  ⟨(some (122, true)), (some 123), .mv (.t 9)⟩,
  ⟨(some (122, true)), (some 124), .call 26 [(.t 123)]⟩,
  ⟨none, (some 125), .pick (.t 122) (.t 124) (.k (.a (.bool false)))⟩,
  ⟨none, (some 119), .mv (.t 125)⟩]
def r41 : List In := [⟨none, (some 126), .mv (.t 18)⟩,
  ⟨none, (some 127), .faddr 5 (.t 14)⟩,
  ⟨none, none, .store 1 (.t 127) (.t 126)⟩]
def r42 : List In := [⟨none, (some 112), .build [.str [], .int .i64 0, .int .i64 0, .int .i64 0, .int .i64 0, .str []] []⟩,
  ⟨none, none, .store 6 (.t 2) (.t 112)⟩,
  ⟨none, (some 3), .mv (.k (.a (.bool false)))⟩,
  ⟨none, (some 4), .mv (.k (.a (.int .i64 2)))⟩]
@[reducible] def c39 : IC := .seq (.reg r42) .ret
@[reducible] def c40 : IC := .cond (.t 119) (.reg r41) c39
@[reducible] def c41 : IC := .seq (.reg r40) c40
@[reducible] def c42 : IC := .cond (.t 113) (.reg r39) c41
@[reducible] def c43 : IC := .seq (.reg r38) c42
@[reducible] def c44 : IC := .block 6 c43
@[reducible] def c45 : IC := .seq c44 (.exit 5)
@[reducible] def c46 : IC := .seq (.reg r37) c45
@[reducible] def c47 : IC := .cond (.t 109) c46 .skip
@[reducible] def c48 : IC := .seq (.reg r36) c47
def r43 : List In := [⟨none, (some 20), .mv (.k (.a (.int .i64 (-1))))⟩]
def r44 : List In := [⟨none, (some 128), .mv (.t 18)⟩,
  ⟨none, (some 129), .slen (.t 128)⟩,
  ⟨none, (some 130), .bin .gtr (.t 129) (.k (.a (.int .i64 1)))⟩,
  ⟨none, (some 131), .mv (.t 130)⟩,
  ⟨(some (131, true)), (some 132), .mv (.t 18)⟩,
  ⟨(some (131, true)), (some 133), .sidx (.t 132) (.k (.a (.int .i64 0)))⟩,
  ⟨(some (131, true)), (some 134), .bin .eql (.t 133) (.k (.a (.int .u8 114)))⟩,
  ⟨none, (some 135), .pick (.t 131) (.t 134) (.k (.a (.bool false)))⟩]
def r45 : List In := [⟨none, (some 136), .mv (.t 18)⟩,
  ⟨none, (some 137), .ssl (.t 136) (some (.k (.a (.int .i64 1)))) none⟩,
  ⟨none, (some 138), .call 67 [(.t 137), (.k (.a (.int .i64 7)))]⟩,
  ⟨none, (some 20), .mv (.t 138)⟩]
@[reducible] def c49 : IC := .cond (.t 135) (.reg r45) .skip
@[reducible] def c50 : IC := .seq (.reg r44) c49
def r46 : List In := [⟨none, (some 139), .mv (.t 20)⟩,
  ⟨none, (some 140), .bin .lss (.t 139) (.k (.a (.int .i64 0)))⟩]
def r47 : List In := [⟨none, (some 141), .build [.str [], .int .i64 0, .int .i64 0, .int .i64 0, .int .i64 0, .str []] []⟩,
  ⟨none, none, .store 6 (.t 2) (.t 141)⟩,
  ⟨none, (some 3), .mv (.k (.a (.bool false)))⟩,
  ⟨none, (some 4), .mv (.k (.a (.int .i64 2)))⟩]
@[reducible] def c51 : IC := .seq (.reg r47) .ret
@[reducible] def c52 : IC := .cond (.t 140) c51 .skip
@[reducible] def c53 : IC := .seq (.reg r46) c52
def r48 : List In := [⟨none, (some 142), .mv (.t 17)⟩,
  ⟨none, (some 143), .bin .eql (.t 142) (.k (.a (.int .u8 100)))⟩]
def r49 : List In := [⟨none, (some 144), .mv (.t 20)⟩,
  ⟨none, (some 145), .faddr 1 (.t 14)⟩,
  ⟨none, (some 146), .faddr 1 (.t 145)⟩,
  ⟨none, none, .store 1 (.t 146) (.t 144)⟩]
def r50 : List In := [⟨none, (some 147), .mv (.t 20)⟩,
  ⟨none, (some 148), .faddr 1 (.t 14)⟩,
  ⟨none, (some 149), .faddr 2 (.t 148)⟩,
  ⟨none, none, .store 1 (.t 149) (.t 147)⟩]
@[reducible] def c54 : IC := .cond (.t 143) (.reg r49) (.reg r50)
@[reducible] def c55 : IC := .seq (.reg r48) c54
@[reducible] def c56 : IC := .seq c53 c55
@[reducible] def c57 : IC := .seq c50 c56
@[reducible] def c58 : IC := .seq (.reg r43) c57
@[reducible] def c59 : IC := .seq c48 c58
@[reducible] def c60 : IC := .seq (.reg r35) c59
@[reducible] def c61 : IC := .seq (.reg r34) c60
@[reducible] def c62 : IC := .seq c38 c61
@[reducible] def c63 : IC := .seq c35 c62
@[reducible] def c64 : IC := .seq (.reg r30) c63
@[reducible] def c65 : IC := .block 5 c64
def r51 : List In := [⟨none, (some 150), .bin .add (.t 89) (.k (.a (.int .i64 1)))⟩,
  ⟨none, (some 89), .mv (.t 150)⟩]
@[reducible] def c66 : IC := .seq c65 (.reg r51)
@[reducible] def c67 : IC := .seq c33 c66
@[reducible] def c68 : IC := .seq (.reg r29) c67
@[reducible] def c69 : IC := .loop c68
@[reducible] def c70 : IC := .block 4 c69
@[reducible] def c71 : IC := .seq (.reg r28) c70
def r52 : List In := [⟨none, (some 151), .mv (.t 15)⟩,
  ⟨none, (some 152), .mv (.t 11)⟩,
  ⟨none, (some 153), .len (.t 152)⟩,
  ⟨none, (some 154), .bin .lss (.t 151) (.t 153)⟩]
def r53 : List In := [⟨none, (some 155), .build [.str [], .int .i64 0, .int .i64 0, .int .i64 0, .int .i64 0, .str []] []⟩,
  ⟨none, none, .store 6 (.t 2) (.t 155)⟩,
  ⟨none, (some 3), .mv (.k (.a (.bool false)))⟩,
  ⟨none, (some 4), .mv (.k (.a (.int .i64 5)))⟩]
@[reducible] def c72 : IC := .seq (.reg r53) .ret
@[reducible] def c73 : IC := .cond (.t 154) c72 .skip
@[reducible] def c74 : IC := .seq (.reg r52) c73
def r54 : List In := [⟨none, (some 156), .load 6 true (.t 14)⟩,
  ⟨none, none, .store 6 (.t 2) (.t 156)⟩,
  ⟨none, (some 3), .mv (.k (.a (.bool true)))⟩,
  ⟨none, (some 4), .mv (.k (.a (.int .i64 0)))⟩]
@[reducible] def c75 : IC := .seq (.reg r54) .ret
@[reducible] def c76 : IC := .seq c74 c75
@[reducible] def c77 : IC := .seq c71 c76
@[reducible] def c78 : IC := .seq (.reg r27) c77
@[reducible] def c79 : IC := .seq (.reg r26) c78
@[reducible] def c80 : IC := .seq c32 c79
@[reducible] def c81 : IC := .seq (.reg r20) c80
@[reducible] def c82 : IC := .seq (.reg r19) c81
@[reducible] def c83 : IC := .seq c23 c82
@[reducible] def c84 : IC := .seq c20 c83
@[reducible] def c85 : IC := .seq (.reg r11) c84
@[reducible] def c86 : IC := .seq (.reg r10) c85
@[reducible] def c87 : IC := .seq c10 c86
@[reducible] def c88 : IC := .seq c2 c87
@[reducible] def c89 : IC := .seq (.reg r2) c88
@[reducible] def c90 : IC := .seq (.reg r1) c89
@[reducible] def c91 : IC := .seq (.reg r0) c90
@[reducible] def code : IC := c91
def res : List RV := [.cell 2 6 true, .tmp 3, .tmp 4]
theorem rs : type_of% (And.intro r0.eq_1 <| And.intro r1.eq_1 <| And.intro r2.eq_1 <| And.intro r3.eq_1 <| And.intro r4.eq_1 <| And.intro r5.eq_1 <| And.intro r6.eq_1 <| And.intro r7.eq_1 <| And.intro r8.eq_1 <| And.intro r9.eq_1 <| And.intro r10.eq_1 <| And.intro r11.eq_1 <| And.intro r12.eq_1 <| And.intro r13.eq_1 <| And.intro r14.eq_1 <| And.intro r15.eq_1 <| And.intro r16.eq_1 <| And.intro r17.eq_1 <| And.intro r18.eq_1 <| And.intro r19.eq_1 <| And.intro r20.eq_1 <| And.intro r21.eq_1 <| And.intro r22.eq_1 <| And.intro r23.eq_1 <| And.intro r24.eq_1 <| And.intro r25.eq_1 <| And.intro r26.eq_1 <| And.intro r27.eq_1 <| And.intro r28.eq_1 <| And.intro r29.eq_1 <| And.intro r30.eq_1 <| And.intro r31.eq_1 <| And.intro r32.eq_1 <| And.intro r33.eq_1 <| And.intro r34.eq_1 <| And.intro r35.eq_1 <| And.intro r36.eq_1 <| And.intro r37.eq_1 <| And.intro r38.eq_1 <| And.intro r39.eq_1 <| And.intro r40.eq_1 <| And.intro r41.eq_1 <| And.intro r42.eq_1 <| And.intro r43.eq_1 <| And.intro r44.eq_1 <| And.intro r45.eq_1 <| And.intro r46.eq_1 <| And.intro r47.eq_1 <| And.intro r48.eq_1 <| And.intro r49.eq_1 <| And.intro r50.eq_1 <| And.intro r51.eq_1 <| And.intro r52.eq_1 <| And.intro r53.eq_1 <| r54.eq_1) := And.intro r0.eq_1 <| And.intro r1.eq_1 <| And.intro r2.eq_1 <| And.intro r3.eq_1 <| And.intro r4.eq_1 <| And.intro r5.eq_1 <| And.intro r6.eq_1 <| And.intro r7.eq_1 <| And.intro r8.eq_1 <| And.intro r9.eq_1 <| And.intro r10.eq_1 <| And.intro r11.eq_1 <| And.intro r12.eq_1 <| And.intro r13.eq_1 <| And.intro r14.eq_1 <| And.intro r15.eq_1 <| And.intro r16.eq_1 <| And.intro r17.eq_1 <| And.intro r18.eq_1 <| And.intro r19.eq_1 <| And.intro r20.eq_1 <| And.intro r21.eq_1 <| And.intro r22.eq_1 <| And.intro r23.eq_1 <| And.intro r24.eq_1 <| And.intro r25.eq_1 <| And.intro r26.eq_1 <| And.intro r27.eq_1 <| And.intro r28.eq_1 <| And.intro r29.eq_1 <| And.intro r30.eq_1 <| And.intro r31.eq_1 <| And.intro r32.eq_1 <| And.intro r33.eq_1 <| And.intro r34.eq_1 <| And.intro r35.eq_1 <| And.intro r36.eq_1 <| And.intro r37.eq_1 <| And.intro r38.eq_1 <| And.intro r39.eq_1 <| And.intro r40.eq_1 <| And.intro r41.eq_1 <| And.intro r42.eq_1 <| And.intro r43.eq_1 <| And.intro r44.eq_1 <| And.intro r45.eq_1 <| And.intro r46.eq_1 <| And.intro r47.eq_1 <| And.intro r48.eq_1 <| And.intro r49.eq_1 <| And.intro r50.eq_1 <| And.intro r51.eq_1 <| And.intro r52.eq_1 <| And.intro r53.eq_1 <| r54.eq_1
theorem fn : Body Tryd.prog 48 157 code res := ⟨by decide, Tryd.f48, _, Tryd.func48, rfl, rfl, by kernel_rfl, by kernel_rfl⟩
theorem enters : X0 Tryd.prog 48 = true := by kernel_rfl
end Zo
namespace X4
def r0 : List In := [⟨none, (some 2), .mv (.k (.a (.raw (.slice none 0 0))))⟩]
def r1 : List In := [⟨none, (some 3), .mv (.k (.a (.raw (.slice none 0 0))))⟩]
def r2 : List In := [⟨none, (some 4), .mv (.k (.a (.int .i64 0)))⟩]
def r3 : List In := [⟨none, (some 5), .mv (.k (.a (.int .i64 0)))⟩]
def r4 : List In := [⟨none, (some 6), .mv (.t 5)⟩,
  ⟨none, (some 7), .mv (.t 0)⟩,
  ⟨none, (some 8), .slen (.t 7)⟩,
  ⟨none, (some 9), .bin .lss (.t 6) (.t 8)⟩]
@[reducible] def c0 : IC := .cond (.t 9) .skip (.exit 0)
@[reducible] def c1 : IC := .seq (.reg r4) c0
def r5 : List In := [⟨none, (some 12), .mv (.t 0)⟩,
  ⟨none, (some 13), .mv (.t 5)⟩,
  ⟨none, (some 14), .sidx (.t 12) (.t 13)⟩,
  ⟨none, (some 15), .bin .eql (.t 14) (.k (.a (.int .u8 10)))⟩]
def r6 : List In := [⟨none, (some 16), .mv (.t 3)⟩,
  ⟨none, (some 17), .mv (.t 0)⟩,
  ⟨none, (some 18), .mv (.t 4)⟩,
  ⟨none, (some 19), .mv (.t 5)⟩,
  ⟨none, (some 20), .ssl (.t 17) (some (.t 18)) (some (.t 19))⟩,
  ⟨none, (some 21), .bsl 9 1 1 [.str []] [(0, 1, (.t 20))]⟩,
  ⟨none, (some 22), .app 63 9 1 16 (.t 16) (.t 21)⟩,
  ⟨none, (some 3), .mv (.t 22)⟩]
def r7 : List In := [⟨none, (some 23), .mv (.t 5)⟩,
  ⟨none, (some 24), .bin .add (.t 23) (.k (.a (.int .i64 1)))⟩,
  ⟨none, (some 4), .mv (.t 24)⟩]
@[reducible] def c2 : IC := .seq (.reg r6) (.reg r7)
@[reducible] def c3 : IC := .cond (.t 15) c2 .skip
@[reducible] def c4 : IC := .seq (.reg r5) c3
@[reducible] def c5 : IC := .block 1 c4
def r8 : List In := [⟨none, (some 10), .mv (.t 5)⟩,
  ⟨none, (some 11), .bin .add (.t 10) (.k (.a (.int .i64 1)))⟩,
  ⟨none, (some 5), .mv (.t 11)⟩]
@[reducible] def c6 : IC := .seq c5 (.reg r8)
@[reducible] def c7 : IC := .seq c1 c6
@[reducible] def c8 : IC := .loop c7
@[reducible] def c9 : IC := .block 0 c8
@[reducible] def c10 : IC := .seq (.reg r3) c9
def r9 : List In := [⟨none, (some 25), .mv (.t 4)⟩,
  ⟨none, (some 26), .mv (.t 0)⟩,
  ⟨none, (some 27), .slen (.t 26)⟩,
  ⟨none, (some 28), .bin .lss (.t 25) (.t 27)⟩]
def r10 : List In := [⟨none, (some 29), .mv (.t 3)⟩,
  ⟨none, (some 30), .mv (.t 0)⟩,
  ⟨none, (some 31), .mv (.t 4)⟩,
  ⟨none, (some 32), .ssl (.t 30) (some (.t 31)) none⟩,
  ⟨none, (some 33), .bsl 9 1 1 [.str []] [(0, 1, (.t 32))]⟩,
  ⟨none, (some 34), .app 63 9 1 16 (.t 29) (.t 33)⟩,
  ⟨none, (some 3), .mv (.t 34)⟩]
@[reducible] def c11 : IC := .cond (.t 28) (.reg r10) .skip
@[reducible] def c12 : IC := .seq (.reg r9) c11
def r11 : List In := [⟨none, (some 35), .mv (.t 3)⟩,
  ⟨none, (some 2), .mv (.t 35)⟩]
@[reducible] def c13 : IC := .seq (.reg r11) .ret
@[reducible] def c14 : IC := .seq c12 c13
@[reducible] def c15 : IC := .seq c10 c14
@[reducible] def c16 : IC := .seq (.reg r2) c15
@[reducible] def c17 : IC := .seq (.reg r1) c16
@[reducible] def c18 : IC := .seq (.reg r0) c17
@[reducible] def code : IC := c18
def res : List RV := [.tmp 2]
theorem rs : type_of% (And.intro r0.eq_1 <| And.intro r1.eq_1 <| And.intro r2.eq_1 <| And.intro r3.eq_1 <| And.intro r4.eq_1 <| And.intro r5.eq_1 <| And.intro r6.eq_1 <| And.intro r7.eq_1 <| And.intro r8.eq_1 <| And.intro r9.eq_1 <| And.intro r10.eq_1 <| r11.eq_1) := And.intro r0.eq_1 <| And.intro r1.eq_1 <| And.intro r2.eq_1 <| And.intro r3.eq_1 <| And.intro r4.eq_1 <| And.intro r5.eq_1 <| And.intro r6.eq_1 <| And.intro r7.eq_1 <| And.intro r8.eq_1 <| And.intro r9.eq_1 <| And.intro r10.eq_1 <| r11.eq_1
theorem fn : Body Tryd.prog 47 36 code res := ⟨by decide, Tryd.f47, _, Tryd.func47, rfl, rfl, by kernel_rfl, by kernel_rfl⟩
theorem enters : X0 Tryd.prog 47 = true := by kernel_rfl
end X4
namespace Xx
def r0 : List In := [⟨none, (some 2), .mv (.k (.a (.raw (.slice none 0 0))))⟩,
  ⟨none, (some 3), .alloc 31 [.int .i64 0, .int .i64 0]⟩]
def r1 : List In := [⟨none, (some 11), .mv (.t 0)⟩,
  ⟨none, (some 12), .slen (.t 11)⟩,
  ⟨none, (some 13), .bin .gtr (.t 12) (.k (.a (.int .i64 1048576)))⟩]
def r2 : List In := [⟨none, (some 14), .build [.int .i64 0, .int .i64 0] [(0, 1, (.k (.a (.int .i64 4))))]⟩,
  ⟨none, (some 2), .mv (.k (.a (.raw (.slice none 0 0))))⟩,
  ⟨none, none, .store 2 (.t 3) (.t 14)⟩]
@[reducible] def c0 : IC := .seq (.reg r2) .ret
@[reducible] def c1 : IC := .cond (.t 13) c0 .skip
@[reducible] def c2 : IC := .seq (.reg r1) c1
def r3 : List In := [⟨none, (some 15), .mv (.t 0)⟩,
  ⟨none, (some 16), .call 47 [(.t 15)]⟩,
  ⟨none, (some 4), .mv (.t 16)⟩]
def r4 : List In := [⟨none, (some 17), .mv (.t 4)⟩,
  ⟨none, (some 18), .len (.t 17)⟩,
  ⟨none, (some 19), .bin .gtr (.t 18) (.k (.a (.int .i64 40000)))⟩]
def r5 : List In := [⟨none, (some 20), .build [.int .i64 0, .int .i64 0] [(0, 1, (.k (.a (.int .i64 5))))]⟩,
  ⟨none, (some 2), .mv (.k (.a (.raw (.slice none 0 0))))⟩,
  ⟨none, none, .store 2 (.t 3) (.t 20)⟩]
@[reducible] def c3 : IC := .seq (.reg r5) .ret
@[reducible] def c4 : IC := .cond (.t 19) c3 .skip
@[reducible] def c5 : IC := .seq (.reg r4) c4
def r6 : List In := [⟨none, (some 5), .mv (.k (.a (.raw (.slice none 0 0))))⟩]
def r7 : List In := [⟨none, (some 21), .mv (.t 4)⟩,
  ⟨none, (some 22), .len (.t 21)⟩,
  ⟨none, (some 23), .mv (.k (.a (.int .i64 0)))⟩]
def r8 : List In := [⟨none, (some 24), .bin .lss (.t 23) (.t 22)⟩]
@[reducible] def c6 : IC := .cond (.t 24) .skip (.exit 0)
def r9 : List In := [⟨none, (some 25), .mv (.t 23)⟩,
  ⟨none, (some 26), .iaddr 1 (.t 21) (.t 23)⟩,
  ⟨none, (some 27), .load 1 false (.t 26)⟩,
  ⟨none, (some 6), .mv (.t 25)⟩,
  ⟨none, (some 7), .mv (.t 27)⟩]
def r10 : List In := [⟨none, (some 29), .mv (.t 7)⟩,
  ⟨none, (some 30), .call 48 [(.t 29)]⟩,
  ⟨none, (some 28), .mv (.t 30)⟩,
  ⟨none, (some 31), .ext 0 (.t 28)⟩,
  ⟨none, (some 32), .ext 1 (.t 28)⟩,
  ⟨none, (some 33), .ext 2 (.t 28)⟩,
  ⟨none, (some 8), .alloc 27 [.str [], .int .i64 0, .int .i64 0, .int .i64 0, .int .i64 0, .str []]⟩,
  ⟨none, none, .store 6 (.t 8) (.t 31)⟩,
  ⟨none, (some 9), .mv (.t 32)⟩,
  ⟨none, (some 10), .mv (.t 33)⟩]
def r11 : List In := [⟨none, (some 34), .mv (.t 10)⟩,
  ⟨none, (some 35), .bin .neq (.t 34) (.k (.a (.int .i64 0)))⟩]
def r12 : List In := [⟨none, (some 36), .mv (.t 10)⟩,
  ⟨none, (some 37), .mv (.t 6)⟩,
  ⟨none, (some 38), .build [.int .i64 0, .int .i64 0] [(0, 1, (.t 36)), (1, 1, (.t 37))]⟩,
  ⟨none, (some 2), .mv (.k (.a (.raw (.slice none 0 0))))⟩,
  ⟨none, none, .store 2 (.t 3) (.t 38)⟩]
@[reducible] def c7 : IC := .seq (.reg r12) .ret
@[reducible] def c8 : IC := .cond (.t 35) c7 .skip
@[reducible] def c9 : IC := .seq (.reg r11) c8
def r13 : List In := [⟨none, (some 39), .mv (.t 9)⟩]
def r14 : List In := [⟨none, (some 40), .mv (.t 5)⟩,
  ⟨none, (some 41), .load 6 true (.t 8)⟩,
  ⟨none, (some 42), .bsl 27 6 1 [.str [], .int .i64 0, .int .i64 0, .int .i64 0, .int .i64 0, .str []] [(0, 6, (.t 41))]⟩,
  ⟨none, (some 43), .app 22 27 6 64 (.t 40) (.t 42)⟩,
  ⟨none, (some 5), .mv (.t 43)⟩]
@[reducible] def c10 : IC := .cond (.t 39) (.reg r14) .skip
@[reducible] def c11 : IC := .seq (.reg r13) c10
@[reducible] def c12 : IC := .seq c9 c11
@[reducible] def c13 : IC := .seq (.reg r10) c12
@[reducible] def c14 : IC := .seq (.reg r9) c13
@[reducible] def c15 : IC := .block 1 c14
def r15 : List In := [⟨none, (some 44), .bin .add (.t 23) (.k (.a (.int .i64 1)))⟩,
  ⟨none, (some 23), .mv (.t 44)⟩]
@[reducible] def c16 : IC := .seq c15 (.reg r15)
@[reducible] def c17 : IC := .seq c6 c16
@[reducible] def c18 : IC := .seq (.reg r8) c17
@[reducible] def c19 : IC := .loop c18
@[reducible] def c20 : IC := .block 0 c19
@[reducible] def c21 : IC := .seq (.reg r7) c20
def r16 : List In := [⟨none, (some 45), .mv (.t 5)⟩,
  ⟨none, (some 46), .build [.int .i64 0, .int .i64 0] []⟩,
  ⟨none, (some 2), .mv (.t 45)⟩,
  ⟨none, none, .store 2 (.t 3) (.t 46)⟩]
@[reducible] def c22 : IC := .seq (.reg r16) .ret
@[reducible] def c23 : IC := .seq c21 c22
@[reducible] def c24 : IC := .seq (.reg r6) c23
@[reducible] def c25 : IC := .seq c5 c24
@[reducible] def c26 : IC := .seq (.reg r3) c25
@[reducible] def c27 : IC := .seq c2 c26
@[reducible] def c28 : IC := .seq (.reg r0) c27
@[reducible] def code : IC := c28
def res : List RV := [.tmp 2, .cell 3 2 true]
theorem rs : type_of% (And.intro r0.eq_1 <| And.intro r1.eq_1 <| And.intro r2.eq_1 <| And.intro r3.eq_1 <| And.intro r4.eq_1 <| And.intro r5.eq_1 <| And.intro r6.eq_1 <| And.intro r7.eq_1 <| And.intro r8.eq_1 <| And.intro r9.eq_1 <| And.intro r10.eq_1 <| And.intro r11.eq_1 <| And.intro r12.eq_1 <| And.intro r13.eq_1 <| And.intro r14.eq_1 <| And.intro r15.eq_1 <| r16.eq_1) := And.intro r0.eq_1 <| And.intro r1.eq_1 <| And.intro r2.eq_1 <| And.intro r3.eq_1 <| And.intro r4.eq_1 <| And.intro r5.eq_1 <| And.intro r6.eq_1 <| And.intro r7.eq_1 <| And.intro r8.eq_1 <| And.intro r9.eq_1 <| And.intro r10.eq_1 <| And.intro r11.eq_1 <| And.intro r12.eq_1 <| And.intro r13.eq_1 <| And.intro r14.eq_1 <| And.intro r15.eq_1 <| r16.eq_1
theorem fn : Body Tryd.prog 17 47 code res := ⟨by decide, Tryd.f17, _, Tryd.func17, rfl, rfl, by kernel_rfl, by kernel_rfl⟩
theorem enters : X0 Tryd.prog 17 = true := by kernel_rfl
end Xx
namespace Wp
def r0 : List In := [⟨none, (some 4), .mv (.k (.a (.bool false)))⟩]
def r1 : List In := [⟨none, (some 6), .mv (.t 0)⟩,
  ⟨none, (some 7), .len (.t 6)⟩,
  ⟨none, (some 8), .mv (.t 1)⟩,
  ⟨none, (some 9), .len (.t 8)⟩,
  ⟨none, (some 10), .bin .neq (.t 7) (.t 9)⟩]
def r2 : List In := [⟨none, (some 4), .mv (.k (.a (.bool false)))⟩]
@[reducible] def c0 : IC := .seq (.reg r2) .ret
@[reducible] def c1 : IC := .cond (.t 10) c0 .skip
@[reducible] def c2 : IC := .seq (.reg r1) c1
def r3 : List In := [⟨none, (some 11), .mv (.t 0)⟩,
  ⟨none, (some 12), .len (.t 11)⟩,
  ⟨none, (some 13), .mv (.k (.a (.int .i64 0)))⟩]
def r4 : List In := [⟨none, (some 14), .bin .lss (.t 13) (.t 12)⟩]
@[reducible] def c3 : IC := .cond (.t 14) .skip (.exit 0)
def r5 : List In := [⟨none, (some 15), .mv (.t 13)⟩,
  ⟨none, (some 5), .mv (.t 15)⟩]
def r6 : List In := [⟨none, (some 16), .mv (.t 0)⟩,
  ⟨none, (some 17), .mv (.t 5)⟩,
  ⟨none, (some 18), .iaddr 6 (.t 16) (.t 17)⟩,
  ⟨none, (some 19), .load 6 true (.t 18)⟩,
  ⟨none, (some 20), .mv (.t 1)⟩,
  ⟨none, (some 21), .mv (.t 5)⟩,
  ⟨none, (some 22), .iaddr 6 (.t 20) (.t 21)⟩,
  ⟨none, (some 23), .load 6 true (.t 22)⟩,
  ⟨none, (some 24), .aeq true [.str, .int, .int, .int, .int, .str] (.t 19) (.t 23)⟩]
def r7 : List In := [⟨none, (some 4), .mv (.k (.a (.bool false)))⟩]
@[reducible] def c4 : IC := .seq (.reg r7) .ret
@[reducible] def c5 : IC := .cond (.t 24) c4 .skip
@[reducible] def c6 : IC := .seq (.dreg r6) c5
@[reducible] def c7 : IC := .seq (.reg r5) c6
@[reducible] def c8 : IC := .block 1 c7
def r8 : List In := [⟨none, (some 25), .bin .add (.t 13) (.k (.a (.int .i64 1)))⟩,
  ⟨none, (some 13), .mv (.t 25)⟩]
@[reducible] def c9 : IC := .seq c8 (.reg r8)
@[reducible] def c10 : IC := .seq c3 c9
@[reducible] def c11 : IC := .seq (.reg r4) c10
@[reducible] def c12 : IC := .loop c11
@[reducible] def c13 : IC := .block 0 c12
@[reducible] def c14 : IC := .seq (.reg r3) c13
def r9 : List In := [⟨none, (some 4), .mv (.k (.a (.bool true)))⟩]
@[reducible] def c15 : IC := .seq (.reg r9) .ret
@[reducible] def c16 : IC := .seq c14 c15
@[reducible] def c17 : IC := .seq c2 c16
@[reducible] def c18 : IC := .seq (.reg r0) c17
@[reducible] def code : IC := c18
def res : List RV := [.tmp 4]
theorem rs : type_of% (And.intro r0.eq_1 <| And.intro r1.eq_1 <| And.intro r2.eq_1 <| And.intro r3.eq_1 <| And.intro r4.eq_1 <| And.intro r5.eq_1 <| And.intro r6.eq_1 <| And.intro r7.eq_1 <| And.intro r8.eq_1 <| r9.eq_1) := And.intro r0.eq_1 <| And.intro r1.eq_1 <| And.intro r2.eq_1 <| And.intro r3.eq_1 <| And.intro r4.eq_1 <| And.intro r5.eq_1 <| And.intro r6.eq_1 <| And.intro r7.eq_1 <| And.intro r8.eq_1 <| r9.eq_1
theorem fn : Body Tryd.prog 18 26 code res := ⟨by decide, Tryd.f18, _, Tryd.func18, rfl, rfl, by kernel_rfl, by kernel_rfl⟩
theorem enters : X0 Tryd.prog 18 = true := by kernel_rfl
end Wp
namespace Xy
def r0 : List In := [⟨none, (some 4), .mv (.k (.a (.int .i64 0)))⟩]
def r1 : List In := [⟨none, (some 6), .mv (.t 0)⟩,
  ⟨none, (some 7), .len (.t 6)⟩,
  ⟨none, (some 8), .mv (.k (.a (.int .i64 0)))⟩]
def r2 : List In := [⟨none, (some 9), .bin .lss (.t 8) (.t 7)⟩]
@[reducible] def c0 : IC := .cond (.t 9) .skip (.exit 0)
def r3 : List In := [⟨none, (some 10), .mv (.t 8)⟩,
  ⟨none, (some 5), .mv (.t 10)⟩]
def r4 : List In := [⟨none, (some 11), .mv (.t 1)⟩,
  ⟨none, (some 12), .mv (.t 0)⟩,
  ⟨none, (some 13), .mv (.t 5)⟩,
  ⟨none, (some 14), .iaddr 1 (.t 12) (.t 13)⟩,
  ⟨none, (some 15), .load 1 false (.t 14)⟩,
  ⟨none, (some 16), .bin .eql (.t 11) (.t 15)⟩]
def r5 : List In := [⟨none, (some 17), .mv (.t 5)⟩,
  ⟨none, (some 4), .mv (.t 17)⟩]
@[reducible] def c1 : IC := .seq (.reg r5) .ret
@[reducible] def c2 : IC := .cond (.t 16) c1 .skip
@[reducible] def c3 : IC := .seq (.reg r4) c2
@[reducible] def c4 : IC := .seq (.reg r3) c3
@[reducible] def c5 : IC := .block 1 c4
def r6 : List In := [⟨none, (some 18), .bin .add (.t 8) (.k (.a (.int .i64 1)))⟩,
  ⟨none, (some 8), .mv (.t 18)⟩]
@[reducible] def c6 : IC := .seq c5 (.reg r6)
@[reducible] def c7 : IC := .seq c0 c6
@[reducible] def c8 : IC := .seq (.reg r2) c7
@[reducible] def c9 : IC := .loop c8
@[reducible] def c10 : IC := .block 0 c9
@[reducible] def c11 : IC := .seq (.reg r1) c10
def r7 : List In := [⟨none, (some 4), .mv (.k (.a (.int .i64 (-1))))⟩]
@[reducible] def c12 : IC := .seq (.reg r7) .ret
@[reducible] def c13 : IC := .seq c11 c12
@[reducible] def c14 : IC := .seq (.reg r0) c13
@[reducible] def code : IC := c14
def res : List RV := [.tmp 4]
theorem rs : type_of% (And.intro r0.eq_1 <| And.intro r1.eq_1 <| And.intro r2.eq_1 <| And.intro r3.eq_1 <| And.intro r4.eq_1 <| And.intro r5.eq_1 <| And.intro r6.eq_1 <| r7.eq_1) := And.intro r0.eq_1 <| And.intro r1.eq_1 <| And.intro r2.eq_1 <| And.intro r3.eq_1 <| And.intro r4.eq_1 <| And.intro r5.eq_1 <| And.intro r6.eq_1 <| r7.eq_1
theorem fn : Body Tryd.prog 62 19 code res := ⟨by decide, Tryd.f62, _, Tryd.func62, rfl, rfl, by kernel_rfl, by kernel_rfl⟩
theorem enters : X0 Tryd.prog 62 = true := by kernel_rfl
end Xy
namespace W8
def r0 : List In := [⟨none, (some 2), .mv (.k (.a (.bool false)))⟩]
def r1 : List In := [⟨none, (some 8), .mv (.t 0)⟩,
  ⟨none, (some 9), .call 16 [(.t 8)]⟩,
  ⟨none, (some 7), .mv (.t 9)⟩,
  ⟨none, (some 10), .ext 0 (.t 7)⟩,
  ⟨none, (some 11), .ext 1 (.t 7)⟩,
  ⟨none, (some 4), .alloc 31 [.int .i64 0, .int .i64 0]⟩,
  ⟨none, (some 3), .mv (.t 10)⟩,
  ⟨none, none, .store 2 (.t 4) (.t 11)⟩]
def r2 : List In := [⟨none, (some 13), .mv (.t 0)⟩,
  ⟨none, (some 14), .call 17 [(.t 13)]⟩,
  ⟨none, (some 12), .mv (.t 14)⟩,
  ⟨none, (some 15), .ext 0 (.t 12)⟩,
  ⟨none, (some 16), .ext 1 (.t 12)⟩,
  ⟨none, (some 6), .alloc 31 [.int .i64 0, .int .i64 0]⟩,
  ⟨none, (some 5), .mv (.t 15)⟩,
  ⟨none, none, .store 2 (.t 6) (.t 16)⟩]
def r3 : List In := [⟨none, (some 17), .load 2 true (.t 4)⟩,
  ⟨none, (some 18), .load 2 true (.t 6)⟩,
  ⟨none, (some 19), .aeq false [.int, .int] (.t 17) (.t 18)⟩,
  ⟨none, (some 20), .mv (.t 19)⟩,
  ⟨(some (20, true)), (some 21), .mv (.t 3)⟩,
  ⟨(some (20, true)), (some 22), .mv (.t 5)⟩,
  ⟨(some (20, true)), (some 23), .call 18 [(.t 21), (.t 22)]⟩,
  ⟨none, (some 24), .pick (.t 20) (.t 23) (.k (.a (.bool false)))⟩,
  ⟨none, (some 2), .mv (.t 24)⟩]
@[reducible] def c0 : IC := .seq (.reg r3) .ret
@[reducible] def c1 : IC := .seq (.reg r2) c0
@[reducible] def c2 : IC := .seq (.reg r1) c1
@[reducible] def c3 : IC := .seq (.reg r0) c2
@[reducible] def code : IC := c3
def res : List RV := [.tmp 2]
theorem rs : type_of% (And.intro r0.eq_1 <| And.intro r1.eq_1 <| And.intro r2.eq_1 <| r3.eq_1) := And.intro r0.eq_1 <| And.intro r1.eq_1 <| And.intro r2.eq_1 <| r3.eq_1
theorem fn : Body Tryd.prog 4 25 code res := ⟨by decide, Tryd.f4, _, Tryd.func4, rfl, rfl, by kernel_rfl, by kernel_rfl⟩
theorem enters : X0 Tryd.prog 4 = true := by kernel_rfl
end W8
end Go.Proofs.YtccjjcdjgibilaaDoor
