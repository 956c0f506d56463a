/- The small code of functions, and that it is theirs: printed by a program over the seat's translation. -/
import Derived.Test.YtjochhncheheaaaGreatDoorVcGc
import Derived.Test.YtjochhncheheaaaGreatDoorChecked
import Derived.KernelRfl
namespace Go.Proofs.YtjochhncheheaaaGreatDoor
open Vc
namespace T8
def r0 : List In := [⟨none, (some 0), .mv (.k (.a (.raw (.map none))))⟩]
def r1 : List In := [⟨none, (some 1), .fmk⟩,
  ⟨none, none, .fupd (.t 1) (.k (.a (.str [109, 117, 108]))) (.k (.a (.raw (.func (.func 46) #[] #[]))))⟩,
  ⟨none, none, .fupd (.t 1) (.k (.a (.str [117, 100, 105, 118]))) (.k (.a (.raw (.func (.func 47) #[] #[]))))⟩,
  ⟨none, none, .fupd (.t 1) (.k (.a (.str [117, 114, 101, 109]))) (.k (.a (.raw (.func (.func 49) #[] #[]))))⟩,
  ⟨none, none, .fupd (.t 1) (.k (.a (.str [115, 100, 105, 118]))) (.k (.a (.raw (.func (.func 50) #[] #[]))))⟩,
  ⟨none, none, .fupd (.t 1) (.k (.a (.str [115, 114, 101, 109]))) (.k (.a (.raw (.func (.func 52) #[] #[]))))⟩,
  ⟨none, none, .fupd (.t 1) (.k (.a (.str [115, 104, 108]))) (.k (.a (.raw (.func (.func 53) #[] #[]))))⟩,
  ⟨none, none, .fupd (.t 1) (.k (.a (.str [115, 104, 114]))) (.k (.a (.raw (.func (.func 55) #[] #[]))))⟩,
  ⟨none, none, .fupd (.t 1) (.k (.a (.str [115, 97, 114]))) (.k (.a (.raw (.func (.func 56) #[] #[]))))⟩,
  ⟨none, (some 2), .mv (.t 1)⟩,
  ⟨none, (some 0), .mv (.t 2)⟩]
@[reducible] def c0 : IC := .seq (.reg r1) .ret
@[reducible] def c1 : IC := .seq (.reg r0) c0
@[reducible] def code : IC := c1
def res : List RV := [.tmp 0]
theorem rs : type_of% (And.intro r0.eq_1 <| r1.eq_1) := And.intro r0.eq_1 <| r1.eq_1
theorem fn : Body Tryz.prog 15 3 code res := ⟨by decide, Tryz.f15, _, Tryz.func15, rfl, rfl, by kernel_rfl, by kernel_rfl⟩
theorem enters : Zu Tryz.prog 15 = true := by kernel_rfl
end T8
namespace Xg
def r0 : List In := [⟨none, (some 0), .mv (.k (.a (.raw (.slice none 0 0))))⟩]
def r1 : List In := [⟨none, (some 1), .mv (.k (.a (.raw (.slice none 0 0))))⟩]
def r2 : List In := [⟨none, (some 5), .call 15 []⟩,
  ⟨none, (some 6), .frng (.t 5)⟩]
def r3 : List In := [⟨none, (some 7), .fnxt (.t 6)⟩,
  ⟨none, (some 8), .ext 0 (.t 7)⟩]
@[reducible] def c0 : IC := .cond (.t 8) .skip (.exit 0)
def r4 : List In := [⟨none, (some 9), .fent (.t 6)⟩,
  ⟨none, (some 10), .ext 0 (.t 9)⟩,
  ⟨none, (some 2), .mv (.t 10)⟩]
def r5 : List In := [⟨none, (some 11), .bsl 9 1 3 [.str [], .str [], .str []] [(0, 1, (.k (.a (.str [49])))), (1, 1, (.k (.a (.str [50])))), (2, 1, (.k (.a (.str [52]))))]⟩,
  ⟨none, (some 12), .len (.t 11)⟩,
  ⟨none, (some 13), .mv (.k (.a (.int .i64 0)))⟩]
def r6 : List In := [⟨none, (some 14), .bin .lss (.t 13) (.t 12)⟩]
@[reducible] def c1 : IC := .cond (.t 14) .skip (.exit 2)
def r7 : List In := [⟨none, (some 15), .iaddr 1 (.t 11) (.t 13)⟩,
  ⟨none, (some 16), .load 1 false (.t 15)⟩,
  ⟨none, (some 4), .mv (.t 16)⟩]
def r8 : List In := [⟨none, (some 17), .mv (.t 1)⟩,
  ⟨none, (some 18), .mv (.t 2)⟩,
  ⟨none, (some 19), .mv (.t 4)⟩,
  ⟨none, (some 20), .bin .add (.t 18) (.t 19)⟩,
  ⟨none, (some 21), .bsl 9 1 1 [.str []] [(0, 1, (.t 20))]⟩,
  ⟨none, (some 22), .app 22 9 1 16 (.t 17) (.t 21)⟩,
  ⟨none, (some 1), .mv (.t 22)⟩]
@[reducible] def c2 : IC := .seq (.reg r7) (.reg r8)
@[reducible] def c3 : IC := .block 3 c2
def r9 : List In := [⟨none, (some 23), .bin .add (.t 13) (.k (.a (.int .i64 1)))⟩,
  ⟨none, (some 13), .mv (.t 23)⟩]
@[reducible] def c4 : IC := .seq c3 (.reg r9)
@[reducible] def c5 : IC := .seq c1 c4
@[reducible] def c6 : IC := .seq (.reg r6) c5
@[reducible] def c7 : IC := .loop c6
@[reducible] def c8 : IC := .block 2 c7
@[reducible] def c9 : IC := .seq (.reg r5) c8
@[reducible] def c10 : IC := .seq (.reg r4) c9
@[reducible] def c11 : IC := .block 1 c10
@[reducible] def c12 : IC := .seq c0 c11
@[reducible] def c13 : IC := .seq (.reg r3) c12
@[reducible] def c14 : IC := .loop c13
@[reducible] def c15 : IC := .block 0 c14
@[reducible] def c16 : IC := .seq (.reg r2) c15
def r10 : List In := [⟨none, (some 24), .mv (.t 1)⟩,
  ⟨none, (some 25), .call 16 [(.t 24)]⟩]
def r11 : List In := [⟨none, (some 26), .mv (.t 1)⟩,
  ⟨none, (some 0), .mv (.t 26)⟩]
@[reducible] def c17 : IC := .seq (.reg r11) .ret
@[reducible] def c18 : IC := .seq (.reg r10) c17
@[reducible] def c19 : IC := .seq c16 c18
@[reducible] def c20 : IC := .seq (.reg r1) c19
@[reducible] def c21 : IC := .seq (.reg r0) c20
@[reducible] def code : IC := c21
def res : List RV := [.tmp 0]
theorem rs : type_of% (And.intro r0.eq_1 <| And.intro r1.eq_1 <| And.intro r2.eq_1 <| And.intro r3.eq_1 <| And.intro r4.eq_1 <| And.intro r5.eq_1 <| And.intro r6.eq_1 <| And.intro r7.eq_1 <| And.intro r8.eq_1 <| And.intro r9.eq_1 <| And.intro r10.eq_1 <| r11.eq_1) := And.intro r0.eq_1 <| And.intro r1.eq_1 <| And.intro r2.eq_1 <| And.intro r3.eq_1 <| And.intro r4.eq_1 <| And.intro r5.eq_1 <| And.intro r6.eq_1 <| And.intro r7.eq_1 <| And.intro r8.eq_1 <| And.intro r9.eq_1 <| And.intro r10.eq_1 <| r11.eq_1
theorem fn : Body Tryz.prog 6 27 code res := ⟨by decide, Tryz.f6, _, Tryz.func6, rfl, rfl, by kernel_rfl, by kernel_rfl⟩
theorem enters : Zu Tryz.prog 6 = true := by kernel_rfl
end Xg
namespace V5
def r0 : List In := [⟨none, (some 2), .mv (.k (.a (.str [])))⟩,
  ⟨none, (some 3), .mv (.k (.a (.int .i64 0)))⟩]
def r1 : List In := [⟨none, (some 6), .call 6 []⟩,
  ⟨none, (some 7), .mv (.t 0)⟩,
  ⟨none, (some 8), .call 17 [(.t 6), (.t 7)]⟩,
  ⟨none, (some 9), .un .not (.t 8)⟩]
def r2 : List In := [⟨none, (some 2), .mv (.k (.a (.str [])))⟩,
  ⟨none, (some 3), .mv (.k (.a (.int .i64 7)))⟩]
@[reducible] def c0 : IC := .seq (.reg r2) .ret
@[reducible] def c1 : IC := .cond (.t 9) c0 .skip
@[reducible] def c2 : IC := .seq (.reg r1) c1
def r3 : List In := [⟨none, (some 10), .mv (.t 0)⟩,
  ⟨none, (some 11), .slen (.t 10)⟩,
  ⟨none, (some 12), .bin .sub (.t 11) (.k (.a (.int .i64 1)))⟩,
  ⟨none, (some 4), .mv (.t 12)⟩]
def r4 : List In := [⟨none, (some 13), .mv (.t 0)⟩,
  ⟨none, (some 14), .mv (.t 4)⟩,
  ⟨none, (some 15), .sidx (.t 13) (.t 14)⟩,
  ⟨none, (some 16), .bin .sub (.t 15) (.k (.a (.int .u8 48)))⟩,
  ⟨none, (some 17), .conv .i64 (.t 16)⟩,
  ⟨none, (some 18), .build [.raw (.pointer none), .raw (.slice none 0 0), .int .i64 0] [(2, 1, (.t 17))]⟩,
  ⟨none, (some 19), .box 64 (.t 18)⟩,
  ⟨none, (some 5), .mv (.t 19)⟩]
def r5 : List In := [⟨none, (some 20), .mv (.t 5)⟩,
  ⟨none, (some 21), .mv (.t 0)⟩,
  ⟨none, (some 22), .bin .add (.t 21) (.k (.a (.str [58])))⟩,
  ⟨none, (some 23), .bsl 9 1 1 [.str []] [(0, 1, (.t 22))]⟩,
  ⟨none, (some 24), .call 18 [(.t 20), (.t 23)]⟩]
def r6 : DT := (.take ⟨none, (some 26), .mv (.t 0)⟩ false
  (.take ⟨none, (some 27), .mv (.t 4)⟩ false
  (.take ⟨none, (some 28), .ssl (.t 26) none (some (.t 27))⟩ false
  (.take ⟨none, (some 30), .mv (.t 5)⟩ false
  (.alt ⟨none, (some 25), .call 15 []⟩ false
  (.alt ⟨none, (some 29), .flook false (.t 25) (.t 28)⟩ false
  (.alt ⟨none, (some 31), .callv (.t 29) [(.t 30)]⟩ false
  .done
  .stop)
  .stop)
  .stop)))))
def r7 : List In := [⟨none, (some 32), .mv (.t 5)⟩,
  ⟨none, (some 33), .nchk (.t 32)⟩,
  ⟨none, (some 34), .faddr 0 (.t 33)⟩,
  ⟨none, (some 35), .call 19 [(.t 34)]⟩,
  ⟨none, (some 2), .mv (.t 35)⟩,
  ⟨none, (some 3), .mv (.k (.a (.int .i64 0)))⟩]
@[reducible] def c3 : IC := .seq (.reg r7) .ret
@[reducible] def c4 : IC := .seq (.dany r6) c3
@[reducible] def c5 : IC := .seq (.reg r5) c4
@[reducible] def c6 : IC := .seq (.reg r4) c5
@[reducible] def c7 : IC := .seq (.reg r3) c6
@[reducible] def c8 : IC := .seq c2 c7
@[reducible] def c9 : IC := .seq (.reg r0) c8
@[reducible] def code : IC := c9
def res : List RV := [.tmp 2, .tmp 3]
theorem rs : type_of% (And.intro r0.eq_1 <| And.intro r1.eq_1 <| And.intro r2.eq_1 <| And.intro r3.eq_1 <| And.intro r4.eq_1 <| And.intro r5.eq_1 <| And.intro r6.eq_1 <| r7.eq_1) := And.intro r0.eq_1 <| And.intro r1.eq_1 <| And.intro r2.eq_1 <| And.intro r3.eq_1 <| And.intro r4.eq_1 <| And.intro r5.eq_1 <| And.intro r6.eq_1 <| r7.eq_1
theorem fn : Body Tryz.prog 9 36 code res := ⟨by decide, Tryz.f9, _, Tryz.func9, rfl, rfl, by kernel_rfl, by kernel_rfl⟩
theorem enters : Zu Tryz.prog 9 = true := by kernel_rfl
end V5
namespace Wl
def r0 : List In := [⟨none, (some 0), .mv (.k (.a (.raw (.slice none 0 0))))⟩]
def r1 : List In := [⟨none, (some 1), .mv (.k (.a (.raw (.slice none 0 0))))⟩]
def r2 : List In := [⟨none, (some 8), .call 6 []⟩,
  ⟨none, (some 9), .len (.t 8)⟩,
  ⟨none, (some 10), .mv (.k (.a (.int .i64 0)))⟩]
def r3 : List In := [⟨none, (some 11), .bin .lss (.t 10) (.t 9)⟩]
@[reducible] def c0 : IC := .cond (.t 11) .skip (.exit 0)
def r4 : List In := [⟨none, (some 12), .iaddr 1 (.t 8) (.t 10)⟩,
  ⟨none, (some 13), .load 1 false (.t 12)⟩,
  ⟨none, (some 3), .mv (.t 13)⟩]
def r5 : List In := [⟨none, (some 15), .mv (.t 3)⟩,
  ⟨none, (some 16), .call 9 [(.t 15)]⟩,
  ⟨none, (some 14), .mv (.t 16)⟩,
  ⟨none, (some 17), .ext 0 (.t 14)⟩,
  ⟨none, (some 18), .ext 1 (.t 14)⟩,
  ⟨none, (some 4), .mv (.t 17)⟩,
  ⟨none, (some 5), .mv (.t 18)⟩]
def r6 : List In := [⟨none, (some 20), .mv (.t 4)⟩,
  ⟨none, (some 21), .call 11 [(.t 20)]⟩,
  ⟨none, (some 19), .mv (.t 21)⟩,
  ⟨none, (some 22), .ext 0 (.t 19)⟩,
  ⟨none, (some 23), .ext 1 (.t 19)⟩,
  ⟨none, (some 7), .alloc 32 [.int .i64 0, .int .i64 0]⟩,
  ⟨none, (some 6), .mv (.t 22)⟩,
  ⟨none, none, .store 2 (.t 7) (.t 23)⟩]
def r7 : List In := [⟨none, (some 24), .mv (.t 1)⟩,
  ⟨none, (some 25), .mv (.t 3)⟩,
  ⟨none, (some 26), .mv (.t 6)⟩,
  ⟨none, (some 27), .build [.str [], .raw (.slice none 0 0)] [(0, 1, (.t 25)), (1, 1, (.t 26))]⟩,
  ⟨none, (some 28), .bsl 36 2 1 [.str [], .raw (.slice none 0 0)] [(0, 2, (.t 27))]⟩,
  ⟨none, (some 29), .app 28 36 2 40 (.t 24) (.t 28)⟩,
  ⟨none, (some 1), .mv (.t 29)⟩]
@[reducible] def c1 : IC := .seq (.reg r6) (.reg r7)
@[reducible] def c2 : IC := .seq (.reg r5) c1
@[reducible] def c3 : IC := .seq (.reg r4) c2
@[reducible] def c4 : IC := .block 1 c3
def r8 : List In := [⟨none, (some 30), .bin .add (.t 10) (.k (.a (.int .i64 1)))⟩,
  ⟨none, (some 10), .mv (.t 30)⟩]
@[reducible] def c5 : IC := .seq c4 (.reg r8)
@[reducible] def c6 : IC := .seq c0 c5
@[reducible] def c7 : IC := .seq (.reg r3) c6
@[reducible] def c8 : IC := .loop c7
@[reducible] def c9 : IC := .block 0 c8
@[reducible] def c10 : IC := .seq (.reg r2) c9
def r9 : List In := [⟨none, (some 31), .mv (.t 1)⟩,
  ⟨none, (some 0), .mv (.t 31)⟩]
@[reducible] def c11 : IC := .seq (.reg r9) .ret
@[reducible] def c12 : IC := .seq c10 c11
@[reducible] def c13 : IC := .seq (.reg r1) c12
@[reducible] def c14 : IC := .seq (.reg r0) c13
@[reducible] def code : IC := c14
def res : List RV := [.tmp 0]
theorem rs : type_of% (And.intro r0.eq_1 <| And.intro r1.eq_1 <| And.intro r2.eq_1 <| And.intro r3.eq_1 <| And.intro r4.eq_1 <| And.intro r5.eq_1 <| And.intro r6.eq_1 <| And.intro r7.eq_1 <| And.intro r8.eq_1 <| r9.eq_1) := And.intro r0.eq_1 <| And.intro r1.eq_1 <| And.intro r2.eq_1 <| And.intro r3.eq_1 <| And.intro r4.eq_1 <| And.intro r5.eq_1 <| And.intro r6.eq_1 <| And.intro r7.eq_1 <| And.intro r8.eq_1 <| r9.eq_1
theorem fn : Body Tryz.prog 10 32 code res := ⟨by decide, Tryz.f10, _, Tryz.func10, rfl, rfl, by kernel_rfl, by kernel_rfl⟩
theorem enters : Zu Tryz.prog 10 = true := by kernel_rfl
end Wl
namespace Z8
def r0 : List In := [⟨none, (some 6), .mv (.t 1)⟩,
  ⟨none, (some 7), .len (.t 6)⟩,
  ⟨none, (some 8), .mv (.k (.a (.int .i64 0)))⟩]
def r1 : List In := [⟨none, (some 9), .bin .lss (.t 8) (.t 7)⟩]
@[reducible] def c0 : IC := .cond (.t 9) .skip (.exit 0)
def r2 : List In := [⟨none, (some 10), .iaddr 1 (.t 6) (.t 8)⟩,
  ⟨none, (some 11), .load 1 false (.t 10)⟩,
  ⟨none, (some 5), .mv (.t 11)⟩]
def r3 : List In := [⟨none, (some 12), .mv (.t 5)⟩,
  ⟨none, (some 13), .call 60 [(.t 12), (.k (.a (.str [58])))]⟩,
  ⟨none, (some 14), .un .not (.t 13)⟩]
def r4 : List In := [⟨none, (some 15), .mv (.t 0)⟩,
  ⟨none, (some 16), .nchk (.t 15)⟩,
  ⟨none, (some 17), .faddr 0 (.t 16)⟩,
  ⟨none, (some 18), .call 61 [(.t 17), (.k (.a (.int .u8 9)))]⟩]
@[reducible] def c1 : IC := .cond (.t 14) (.reg r4) .skip
@[reducible] def c2 : IC := .seq (.reg r3) c1
def r5 : List In := [⟨none, (some 19), .mv (.t 0)⟩,
  ⟨none, (some 20), .nchk (.t 19)⟩,
  ⟨none, (some 21), .faddr 0 (.t 20)⟩,
  ⟨none, (some 22), .mv (.t 5)⟩,
  ⟨none, (some 23), .bin .add (.t 22) (.k (.a (.str [10])))⟩,
  ⟨none, (some 24), .call 62 [(.t 21), (.t 23)]⟩]
@[reducible] def c3 : IC := .seq c2 (.reg r5)
@[reducible] def c4 : IC := .seq (.reg r2) c3
@[reducible] def c5 : IC := .block 1 c4
def r6 : List In := [⟨none, (some 25), .bin .add (.t 8) (.k (.a (.int .i64 1)))⟩,
  ⟨none, (some 8), .mv (.t 25)⟩]
@[reducible] def c6 : IC := .seq c5 (.reg r6)
@[reducible] def c7 : IC := .seq c0 c6
@[reducible] def c8 : IC := .seq (.reg r1) c7
@[reducible] def c9 : IC := .loop c8
@[reducible] def c10 : IC := .block 0 c9
@[reducible] def c11 : IC := .seq (.reg r0) c10
@[reducible] def code : IC := c11
def res : List RV := []
theorem rs : type_of% (And.intro r0.eq_1 <| And.intro r1.eq_1 <| And.intro r2.eq_1 <| And.intro r3.eq_1 <| And.intro r4.eq_1 <| And.intro r5.eq_1 <| r6.eq_1) := And.intro r0.eq_1 <| And.intro r1.eq_1 <| And.intro r2.eq_1 <| And.intro r3.eq_1 <| And.intro r4.eq_1 <| And.intro r5.eq_1 <| r6.eq_1
theorem fn : Body Tryz.prog 18 26 code res := ⟨by decide, Tryz.f18, _, Tryz.func18, rfl, rfl, by kernel_rfl, by kernel_rfl⟩
theorem enters : Zu Tryz.prog 18 = true := by kernel_rfl
end Z8
namespace Uh
def r0 : List In := [⟨none, (some 4), .mv (.k (.a (.str [])))⟩]
def r1 : List In := [⟨none, (some 7), .mv (.t 1)⟩,
  ⟨none, (some 8), .len (.t 7)⟩,
  ⟨none, (some 9), .mv (.k (.a (.int .i64 0)))⟩]
def r2 : List In := [⟨none, (some 10), .bin .lss (.t 9) (.t 8)⟩]
@[reducible] def c0 : IC := .cond (.t 10) .skip (.exit 0)
def r3 : List In := [⟨none, (some 11), .iaddr 1 (.t 7) (.t 9)⟩,
  ⟨none, (some 12), .load 1 false (.t 11)⟩,
  ⟨none, (some 6), .mv (.t 12)⟩]
def r4 : List In := [⟨none, (some 13), .mv (.t 0)⟩,
  ⟨none, (some 14), .mv (.t 6)⟩,
  ⟨none, (some 15), .call 144 [(.t 14)]⟩,
  ⟨none, (some 16), .call 143 [(.t 13), (.k (.a (.str [37, 100]))), (.t 15), (.k (.a (.int .i64 1)))]⟩,
  ⟨none, (some 0), .mv (.t 16)⟩]
@[reducible] def c1 : IC := .seq (.reg r3) (.reg r4)
@[reducible] def c2 : IC := .block 1 c1
def r5 : List In := [⟨none, (some 17), .bin .add (.t 9) (.k (.a (.int .i64 1)))⟩,
  ⟨none, (some 9), .mv (.t 17)⟩]
@[reducible] def c3 : IC := .seq c2 (.reg r5)
@[reducible] def c4 : IC := .seq c0 c3
@[reducible] def c5 : IC := .seq (.reg r2) c4
@[reducible] def c6 : IC := .loop c5
@[reducible] def c7 : IC := .block 0 c6
@[reducible] def c8 : IC := .seq (.reg r1) c7
def r6 : List In := [⟨none, (some 18), .mv (.t 0)⟩,
  ⟨none, (some 4), .mv (.t 18)⟩]
@[reducible] def c9 : IC := .seq (.reg r6) .ret
@[reducible] def c10 : IC := .seq c8 c9
@[reducible] def c11 : IC := .seq (.reg r0) c10
@[reducible] def code : IC := c11
def res : List RV := [.tmp 4]
theorem rs : type_of% (And.intro r0.eq_1 <| And.intro r1.eq_1 <| And.intro r2.eq_1 <| And.intro r3.eq_1 <| And.intro r4.eq_1 <| And.intro r5.eq_1 <| r6.eq_1) := And.intro r0.eq_1 <| And.intro r1.eq_1 <| And.intro r2.eq_1 <| And.intro r3.eq_1 <| And.intro r4.eq_1 <| And.intro r5.eq_1 <| r6.eq_1
theorem fn : Body Tryz.prog 92 19 code res := ⟨by decide, Tryz.f92, _, Tryz.func92, rfl, rfl, by kernel_rfl, by kernel_rfl⟩
theorem enters : Zu Tryz.prog 92 = true := by kernel_rfl
end Uh
namespace V9
def r0 : List In := [⟨none, (some 6), .mv (.k (.a (.str [])))⟩]
def r1 : List In := [⟨none, (some 7), .mv (.t 2)⟩,
  ⟨none, (some 8), .bin .eql (.t 7) (.k (.a (.int .i64 0)))⟩]
def r2 : List In := [⟨none, (some 9), .mv (.t 0)⟩,
  ⟨none, (some 6), .mv (.t 9)⟩]
@[reducible] def c0 : IC := .seq (.reg r2) .ret
@[reducible] def c1 : IC := .cond (.t 8) c0 .skip
@[reducible] def c2 : IC := .seq (.reg r1) c1
def r3 : List In := [⟨none, (some 10), .mv (.t 1)⟩,
  ⟨none, (some 6), .mv (.t 10)⟩]
@[reducible] def c3 : IC := .seq (.reg r3) .ret
@[reducible] def c4 : IC := .seq c2 c3
@[reducible] def c5 : IC := .seq (.reg r0) c4
@[reducible] def code : IC := c5
def res : List RV := [.tmp 6]
theorem rs : type_of% (And.intro r0.eq_1 <| And.intro r1.eq_1 <| And.intro r2.eq_1 <| r3.eq_1) := And.intro r0.eq_1 <| And.intro r1.eq_1 <| And.intro r2.eq_1 <| r3.eq_1
theorem fn : Body Tryz.prog 145 11 code res := ⟨by decide, Tryz.f145, _, Tryz.func145, rfl, rfl, by kernel_rfl, by kernel_rfl⟩
theorem enters : Zu Tryz.prog 145 = true := by kernel_rfl
end V9
namespace Yz
def r0 : List In := [⟨none, (some 13), .mv (.t 0)⟩,
  ⟨none, (some 14), .nchk (.t 13)⟩,
  ⟨none, (some 15), .faddr 2 (.t 14)⟩,
  ⟨none, (some 16), .load 1 false (.t 15)⟩,
  ⟨none, (some 17), .mv (.k (.a (.int .i64 0)))⟩]
def r1 : List In := [⟨none, (some 18), .bin .lss (.t 17) (.t 16)⟩]
@[reducible] def c0 : IC := .cond (.t 18) .skip (.exit 0)
def r2 : List In := [⟨none, (some 19), .mv (.t 17)⟩,
  ⟨none, (some 12), .mv (.t 19)⟩]
def r3 : List In := [⟨none, (some 20), .mv (.t 0)⟩,
  ⟨none, (some 21), .mv (.t 1)⟩,
  ⟨none, (some 22), .mv (.t 2)⟩,
  ⟨none, (some 23), .mv (.t 12)⟩,
  ⟨none, (some 24), .bin .add (.t 22) (.t 23)⟩,
  ⟨none, (some 25), .bsl 3 1 2 [.int .i64 0, .int .i64 0] [(0, 1, (.t 21)), (1, 1, (.t 24))]⟩,
  ⟨none, (some 26), .call 92 [(.k (.a (.str [108, 100, 32, 114, 50, 44, 32, 114, 37, 100, 44, 32, 37, 100]))), (.t 25)]⟩,
  ⟨none, (some 27), .bsl 9 1 1 [.str []] [(0, 1, (.t 26))]⟩,
  ⟨none, (some 28), .call 18 [(.t 20), (.t 27)]⟩]
def r4 : List In := [⟨none, (some 29), .mv (.t 0)⟩,
  ⟨none, (some 30), .mv (.t 3)⟩,
  ⟨none, (some 31), .mv (.t 4)⟩,
  ⟨none, (some 32), .mv (.t 12)⟩,
  ⟨none, (some 33), .call 145 [(.t 30), (.t 31), (.t 32)]⟩,
  ⟨none, (some 34), .bin .add (.t 33) (.k (.a (.str [32, 114, 50])))⟩,
  ⟨none, (some 35), .mv (.t 5)⟩,
  ⟨none, (some 36), .bin .add (.t 34) (.t 35)⟩,
  ⟨none, (some 37), .bsl 9 1 1 [.str []] [(0, 1, (.t 36))]⟩,
  ⟨none, (some 38), .call 18 [(.t 29), (.t 37)]⟩]
def r5 : List In := [⟨none, (some 39), .mv (.t 0)⟩,
  ⟨none, (some 40), .mv (.t 1)⟩,
  ⟨none, (some 41), .mv (.t 2)⟩,
  ⟨none, (some 42), .mv (.t 12)⟩,
  ⟨none, (some 43), .bin .add (.t 41) (.t 42)⟩,
  ⟨none, (some 44), .bsl 3 1 2 [.int .i64 0, .int .i64 0] [(0, 1, (.t 40)), (1, 1, (.t 43))]⟩,
  ⟨none, (some 45), .call 92 [(.k (.a (.str [115, 116, 32, 114, 37, 100, 44, 32, 114, 50, 44, 32, 37, 100]))), (.t 44)]⟩,
  ⟨none, (some 46), .bsl 9 1 1 [.str []] [(0, 1, (.t 45))]⟩,
  ⟨none, (some 47), .call 18 [(.t 39), (.t 46)]⟩]
@[reducible] def c1 : IC := .seq (.reg r4) (.reg r5)
@[reducible] def c2 : IC := .seq (.reg r3) c1
@[reducible] def c3 : IC := .seq (.reg r2) c2
@[reducible] def c4 : IC := .block 1 c3
def r6 : List In := [⟨none, (some 48), .bin .add (.t 17) (.k (.a (.int .i64 1)))⟩,
  ⟨none, (some 17), .mv (.t 48)⟩]
@[reducible] def c5 : IC := .seq c4 (.reg r6)
@[reducible] def c6 : IC := .seq c0 c5
@[reducible] def c7 : IC := .seq (.reg r1) c6
@[reducible] def c8 : IC := .loop c7
@[reducible] def c9 : IC := .block 0 c8
@[reducible] def c10 : IC := .seq (.reg r0) c9
@[reducible] def code : IC := c10
def res : List RV := []
theorem rs : type_of% (And.intro r0.eq_1 <| And.intro r1.eq_1 <| And.intro r2.eq_1 <| And.intro r3.eq_1 <| And.intro r4.eq_1 <| And.intro r5.eq_1 <| r6.eq_1) := And.intro r0.eq_1 <| And.intro r1.eq_1 <| And.intro r2.eq_1 <| And.intro r3.eq_1 <| And.intro r4.eq_1 <| And.intro r5.eq_1 <| r6.eq_1
theorem fn : Body Tryz.prog 95 49 code res := ⟨by decide, Tryz.f95, _, Tryz.func95, rfl, rfl, by kernel_rfl, by kernel_rfl⟩
theorem enters : Zu Tryz.prog 95 = true := by kernel_rfl
end Yz
namespace Xa
def r0 : List In := [⟨none, (some 8), .mv (.t 0)⟩,
  ⟨none, (some 9), .nchk (.t 8)⟩,
  ⟨none, (some 10), .faddr 2 (.t 9)⟩,
  ⟨none, (some 11), .load 1 false (.t 10)⟩,
  ⟨none, (some 12), .mv (.k (.a (.int .i64 0)))⟩]
def r1 : List In := [⟨none, (some 13), .bin .lss (.t 12) (.t 11)⟩]
@[reducible] def c0 : IC := .cond (.t 13) .skip (.exit 0)
def r2 : List In := [⟨none, (some 14), .mv (.t 12)⟩,
  ⟨none, (some 6), .mv (.t 14)⟩]
def r3 : List In := [⟨none, (some 15), .mv (.t 0)⟩,
  ⟨none, (some 16), .nchk (.t 15)⟩,
  ⟨none, (some 17), .faddr 2 (.t 16)⟩,
  ⟨none, (some 18), .load 1 false (.t 17)⟩,
  ⟨none, (some 19), .bin .sub (.t 18) (.k (.a (.int .i64 1)))⟩,
  ⟨none, (some 20), .mv (.t 6)⟩,
  ⟨none, (some 21), .bin .sub (.t 19) (.t 20)⟩,
  ⟨none, (some 7), .mv (.t 21)⟩]
def r4 : List In := [⟨none, (some 22), .mv (.t 0)⟩,
  ⟨none, (some 23), .mv (.t 1)⟩,
  ⟨none, (some 24), .mv (.t 7)⟩,
  ⟨none, (some 25), .bsl 3 1 2 [.int .i64 0, .int .i64 0] [(0, 1, (.t 23)), (1, 1, (.t 24))]⟩,
  ⟨none, (some 26), .call 92 [(.k (.a (.str [108, 100, 32, 114, 50, 44, 32, 114, 37, 100, 44, 32, 37, 100]))), (.t 25)]⟩,
  ⟨none, (some 27), .mv (.t 2)⟩,
  ⟨none, (some 28), .mv (.t 6)⟩,
  ⟨none, (some 29), .call 145 [(.t 27), (.k (.a (.str [114, 111, 114]))), (.t 28)]⟩,
  ⟨none, (some 30), .bin .add (.t 29) (.k (.a (.str [32, 114, 50])))⟩,
  ⟨none, (some 31), .mv (.t 1)⟩,
  ⟨none, (some 32), .mv (.t 7)⟩,
  ⟨none, (some 33), .bsl 3 1 2 [.int .i64 0, .int .i64 0] [(0, 1, (.t 31)), (1, 1, (.t 32))]⟩,
  ⟨none, (some 34), .call 92 [(.k (.a (.str [115, 116, 32, 114, 37, 100, 44, 32, 114, 50, 44, 32, 37, 100]))), (.t 33)]⟩,
  ⟨none, (some 35), .bsl 9 1 3 [.str [], .str [], .str []] [(0, 1, (.t 26)), (1, 1, (.t 30)), (2, 1, (.t 34))]⟩,
  ⟨none, (some 36), .call 18 [(.t 22), (.t 35)]⟩]
@[reducible] def c1 : IC := .seq (.reg r3) (.reg r4)
@[reducible] def c2 : IC := .seq (.reg r2) c1
@[reducible] def c3 : IC := .block 1 c2
def r5 : List In := [⟨none, (some 37), .bin .add (.t 12) (.k (.a (.int .i64 1)))⟩,
  ⟨none, (some 12), .mv (.t 37)⟩]
@[reducible] def c4 : IC := .seq c3 (.reg r5)
@[reducible] def c5 : IC := .seq c0 c4
@[reducible] def c6 : IC := .seq (.reg r1) c5
@[reducible] def c7 : IC := .loop c6
@[reducible] def c8 : IC := .block 0 c7
@[reducible] def c9 : IC := .seq (.reg r0) c8
@[reducible] def code : IC := c9
def res : List RV := []
theorem rs : type_of% (And.intro r0.eq_1 <| And.intro r1.eq_1 <| And.intro r2.eq_1 <| And.intro r3.eq_1 <| And.intro r4.eq_1 <| r5.eq_1) := And.intro r0.eq_1 <| And.intro r1.eq_1 <| And.intro r2.eq_1 <| And.intro r3.eq_1 <| And.intro r4.eq_1 <| r5.eq_1
theorem fn : Body Tryz.prog 93 38 code res := ⟨by decide, Tryz.f93, _, Tryz.func93, rfl, rfl, by kernel_rfl, by kernel_rfl⟩
theorem enters : Zu Tryz.prog 93 = true := by kernel_rfl
end Xa
namespace Yt
def r0 : List In := [⟨none, (some 15), .mv (.t 0)⟩,
  ⟨none, (some 16), .nchk (.t 15)⟩,
  ⟨none, (some 17), .faddr 2 (.t 16)⟩,
  ⟨none, (some 18), .load 1 false (.t 17)⟩,
  ⟨none, (some 19), .mv (.k (.a (.int .i64 0)))⟩]
def r1 : List In := [⟨none, (some 20), .bin .lss (.t 19) (.t 18)⟩]
@[reducible] def c0 : IC := .cond (.t 20) .skip (.exit 0)
def r2 : List In := [⟨none, (some 21), .mv (.t 19)⟩,
  ⟨none, (some 14), .mv (.t 21)⟩]
def r3 : List In := [⟨none, (some 22), .mv (.t 0)⟩,
  ⟨none, (some 23), .mv (.t 1)⟩,
  ⟨none, (some 24), .mv (.t 14)⟩,
  ⟨none, (some 25), .bsl 3 1 2 [.int .i64 0, .int .i64 0] [(0, 1, (.t 23)), (1, 1, (.t 24))]⟩,
  ⟨none, (some 26), .call 92 [(.k (.a (.str [108, 100, 32, 114, 50, 44, 32, 114, 37, 100, 44, 32, 37, 100]))), (.t 25)]⟩,
  ⟨none, (some 27), .mv (.t 2)⟩,
  ⟨none, (some 28), .mv (.t 3)⟩,
  ⟨none, (some 29), .mv (.t 14)⟩,
  ⟨none, (some 30), .bin .add (.t 28) (.t 29)⟩,
  ⟨none, (some 31), .bsl 3 1 2 [.int .i64 0, .int .i64 0] [(0, 1, (.t 27)), (1, 1, (.t 30))]⟩,
  ⟨none, (some 32), .call 92 [(.k (.a (.str [108, 100, 32, 114, 52, 44, 32, 114, 37, 100, 44, 32, 37, 100]))), (.t 31)]⟩,
  ⟨none, (some 33), .mv (.t 4)⟩,
  ⟨none, (some 34), .mv (.t 5)⟩,
  ⟨none, (some 35), .mv (.t 14)⟩,
  ⟨none, (some 36), .call 145 [(.t 33), (.t 34), (.t 35)]⟩,
  ⟨none, (some 37), .bin .add (.t 36) (.k (.a (.str [32, 114, 50, 44, 32, 114, 52])))⟩,
  ⟨none, (some 38), .bsl 9 1 3 [.str [], .str [], .str []] [(0, 1, (.t 26)), (1, 1, (.t 32)), (2, 1, (.t 37))]⟩,
  ⟨none, (some 39), .call 18 [(.t 22), (.t 38)]⟩]
def r4 : List In := [⟨none, (some 40), .mv (.t 6)⟩]
def r5 : List In := [⟨none, (some 41), .mv (.t 0)⟩,
  ⟨none, (some 42), .mv (.t 1)⟩,
  ⟨none, (some 43), .mv (.t 14)⟩,
  ⟨none, (some 44), .bsl 3 1 2 [.int .i64 0, .int .i64 0] [(0, 1, (.t 42)), (1, 1, (.t 43))]⟩,
  ⟨none, (some 45), .call 92 [(.k (.a (.str [115, 116, 32, 114, 37, 100, 44, 32, 114, 50, 44, 32, 37, 100]))), (.t 44)]⟩,
  ⟨none, (some 46), .bsl 9 1 1 [.str []] [(0, 1, (.t 45))]⟩,
  ⟨none, (some 47), .call 18 [(.t 41), (.t 46)]⟩]
@[reducible] def c1 : IC := .cond (.t 40) (.reg r5) .skip
@[reducible] def c2 : IC := .seq (.reg r4) c1
@[reducible] def c3 : IC := .seq (.reg r3) c2
@[reducible] def c4 : IC := .seq (.reg r2) c3
@[reducible] def c5 : IC := .block 1 c4
def r6 : List In := [⟨none, (some 48), .bin .add (.t 19) (.k (.a (.int .i64 1)))⟩,
  ⟨none, (some 19), .mv (.t 48)⟩]
@[reducible] def c6 : IC := .seq c5 (.reg r6)
@[reducible] def c7 : IC := .seq c0 c6
@[reducible] def c8 : IC := .seq (.reg r1) c7
@[reducible] def c9 : IC := .loop c8
@[reducible] def c10 : IC := .block 0 c9
@[reducible] def c11 : IC := .seq (.reg r0) c10
@[reducible] def code : IC := c11
def res : List RV := []
theorem rs : type_of% (And.intro r0.eq_1 <| And.intro r1.eq_1 <| And.intro r2.eq_1 <| And.intro r3.eq_1 <| And.intro r4.eq_1 <| And.intro r5.eq_1 <| r6.eq_1) := And.intro r0.eq_1 <| And.intro r1.eq_1 <| And.intro r2.eq_1 <| And.intro r3.eq_1 <| And.intro r4.eq_1 <| And.intro r5.eq_1 <| r6.eq_1
theorem fn : Body Tryz.prog 94 49 code res := ⟨by decide, Tryz.f94, _, Tryz.func94, rfl, rfl, by kernel_rfl, by kernel_rfl⟩
theorem enters : Zu Tryz.prog 94 = true := by kernel_rfl
end Yt
namespace Yw
def r0 : List In := [⟨none, (some 5), .mv (.t 0)⟩,
  ⟨none, (some 6), .nchk (.t 5)⟩,
  ⟨none, (some 7), .faddr 2 (.t 6)⟩,
  ⟨none, (some 8), .load 1 false (.t 7)⟩,
  ⟨none, (some 9), .mv (.k (.a (.int .i64 0)))⟩]
def r1 : List In := [⟨none, (some 10), .bin .lss (.t 9) (.t 8)⟩]
@[reducible] def c0 : IC := .cond (.t 10) .skip (.exit 0)
def r2 : List In := [⟨none, (some 11), .mv (.t 9)⟩,
  ⟨none, (some 4), .mv (.t 11)⟩]
def r3 : List In := [⟨none, (some 12), .mv (.t 0)⟩,
  ⟨none, (some 13), .mv (.t 1)⟩,
  ⟨none, (some 14), .mv (.t 0)⟩,
  ⟨none, (some 15), .nchk (.t 14)⟩,
  ⟨none, (some 16), .faddr 2 (.t 15)⟩,
  ⟨none, (some 17), .load 1 false (.t 16)⟩,
  ⟨none, (some 18), .bin .sub (.t 17) (.k (.a (.int .i64 1)))⟩,
  ⟨none, (some 19), .mv (.t 4)⟩,
  ⟨none, (some 20), .bin .sub (.t 18) (.t 19)⟩,
  ⟨none, (some 21), .bsl 3 1 2 [.int .i64 0, .int .i64 0] [(0, 1, (.t 13)), (1, 1, (.t 20))]⟩,
  ⟨none, (some 22), .call 92 [(.k (.a (.str [108, 100, 32, 114, 50, 44, 32, 114, 37, 100, 44, 32, 37, 100]))), (.t 21)]⟩,
  ⟨none, (some 23), .bsl 9 1 2 [.str [], .str []] [(0, 1, (.t 22)), (1, 1, (.k (.a (.str [112, 117, 115, 104, 32, 114, 50]))))]⟩,
  ⟨none, (some 24), .call 18 [(.t 12), (.t 23)]⟩]
@[reducible] def c1 : IC := .seq (.reg r2) (.reg r3)
@[reducible] def c2 : IC := .block 1 c1
def r4 : List In := [⟨none, (some 25), .bin .add (.t 9) (.k (.a (.int .i64 1)))⟩,
  ⟨none, (some 9), .mv (.t 25)⟩]
@[reducible] def c3 : IC := .seq c2 (.reg r4)
@[reducible] def c4 : IC := .seq c0 c3
@[reducible] def c5 : IC := .seq (.reg r1) c4
@[reducible] def c6 : IC := .loop c5
@[reducible] def c7 : IC := .block 0 c6
@[reducible] def c8 : IC := .seq (.reg r0) c7
@[reducible] def code : IC := c8
def res : List RV := []
theorem rs : type_of% (And.intro r0.eq_1 <| And.intro r1.eq_1 <| And.intro r2.eq_1 <| And.intro r3.eq_1 <| r4.eq_1) := And.intro r0.eq_1 <| And.intro r1.eq_1 <| And.intro r2.eq_1 <| And.intro r3.eq_1 <| r4.eq_1
theorem fn : Body Tryz.prog 91 26 code res := ⟨by decide, Tryz.f91, _, Tryz.func91, rfl, rfl, by kernel_rfl, by kernel_rfl⟩
theorem enters : Zu Tryz.prog 91 = true := by kernel_rfl
end Yw
namespace Yx
def r0 : List In := [⟨none, (some 5), .mv (.t 0)⟩,
  ⟨none, (some 6), .nchk (.t 5)⟩,
  ⟨none, (some 7), .faddr 2 (.t 6)⟩,
  ⟨none, (some 8), .load 1 false (.t 7)⟩,
  ⟨none, (some 9), .mv (.k (.a (.int .i64 0)))⟩]
def r1 : List In := [⟨none, (some 10), .bin .lss (.t 9) (.t 8)⟩]
@[reducible] def c0 : IC := .cond (.t 10) .skip (.exit 0)
def r2 : List In := [⟨none, (some 11), .mv (.t 9)⟩,
  ⟨none, (some 4), .mv (.t 11)⟩]
def r3 : List In := [⟨none, (some 12), .mv (.t 0)⟩,
  ⟨none, (some 13), .mv (.t 1)⟩,
  ⟨none, (some 14), .mv (.t 4)⟩,
  ⟨none, (some 15), .bsl 3 1 2 [.int .i64 0, .int .i64 0] [(0, 1, (.t 13)), (1, 1, (.t 14))]⟩,
  ⟨none, (some 16), .call 92 [(.k (.a (.str [108, 100, 32, 114, 50, 44, 32, 114, 37, 100, 44, 32, 37, 100]))), (.t 15)]⟩,
  ⟨none, (some 17), .mv (.t 4)⟩,
  ⟨none, (some 18), .call 145 [(.k (.a (.str [115, 117, 98]))), (.k (.a (.str [115, 98, 99]))), (.t 17)]⟩,
  ⟨none, (some 19), .bin .add (.t 18) (.k (.a (.str [32, 114, 52, 44, 32, 114, 50])))⟩,
  ⟨none, (some 20), .mv (.t 1)⟩,
  ⟨none, (some 21), .mv (.t 4)⟩,
  ⟨none, (some 22), .bsl 3 1 2 [.int .i64 0, .int .i64 0] [(0, 1, (.t 20)), (1, 1, (.t 21))]⟩,
  ⟨none, (some 23), .call 92 [(.k (.a (.str [115, 116, 32, 114, 37, 100, 44, 32, 114, 52, 44, 32, 37, 100]))), (.t 22)]⟩,
  ⟨none, (some 24), .bsl 9 1 4 [.str [], .str [], .str [], .str []] [(0, 1, (.k (.a (.str [108, 100, 105, 32, 114, 52, 44, 32, 48])))), (1, 1, (.t 16)), (2, 1, (.t 19)), (3, 1, (.t 23))]⟩,
  ⟨none, (some 25), .call 18 [(.t 12), (.t 24)]⟩]
@[reducible] def c1 : IC := .seq (.reg r2) (.reg r3)
@[reducible] def c2 : IC := .block 1 c1
def r4 : List In := [⟨none, (some 26), .bin .add (.t 9) (.k (.a (.int .i64 1)))⟩,
  ⟨none, (some 9), .mv (.t 26)⟩]
@[reducible] def c3 : IC := .seq c2 (.reg r4)
@[reducible] def c4 : IC := .seq c0 c3
@[reducible] def c5 : IC := .seq (.reg r1) c4
@[reducible] def c6 : IC := .loop c5
@[reducible] def c7 : IC := .block 0 c6
@[reducible] def c8 : IC := .seq (.reg r0) c7
@[reducible] def code : IC := c8
def res : List RV := []
theorem rs : type_of% (And.intro r0.eq_1 <| And.intro r1.eq_1 <| And.intro r2.eq_1 <| And.intro r3.eq_1 <| r4.eq_1) := And.intro r0.eq_1 <| And.intro r1.eq_1 <| And.intro r2.eq_1 <| And.intro r3.eq_1 <| r4.eq_1
theorem fn : Body Tryz.prog 99 27 code res := ⟨by decide, Tryz.f99, _, Tryz.func99, rfl, rfl, by kernel_rfl, by kernel_rfl⟩
theorem enters : Zu Tryz.prog 99 = true := by kernel_rfl
end Yx
namespace Wq
def r0 : List In := [⟨none, (some 4), .mv (.t 0)⟩,
  ⟨none, (some 5), .mv (.t 1)⟩,
  ⟨none, (some 6), .bsl 3 1 1 [.int .i64 0] [(0, 1, (.t 5))]⟩,
  ⟨none, (some 7), .call 92 [(.k (.a (.str [108, 100, 105, 32, 114, 50, 44, 32, 37, 100]))), (.t 6)]⟩,
  ⟨none, (some 8), .bsl 9 1 3 [.str [], .str [], .str []] [(0, 1, (.t 7)), (1, 1, (.k (.a (.str [97, 100, 100, 32, 114, 55, 44, 32, 114, 50])))), (2, 1, (.k (.a (.str [114, 101, 116]))))]⟩,
  ⟨none, (some 9), .call 18 [(.t 4), (.t 8)]⟩]
@[reducible] def code : IC := (.reg r0)
def res : List RV := []
theorem rs : type_of% (r0.eq_1) := r0.eq_1
theorem fn : Body Tryz.prog 97 10 code res := ⟨by decide, Tryz.f97, _, Tryz.func97, rfl, rfl, by kernel_rfl, by kernel_rfl⟩
theorem enters : Zu Tryz.prog 97 = true := by kernel_rfl
end Wq
namespace Wk
def r0 : List In := [⟨none, (some 2), .mv (.t 0)⟩,
  ⟨none, (some 3), .bsl 9 1 3 [.str [], .str [], .str []] [(0, 1, (.k (.a (.str [108, 100, 105, 32, 114, 52, 44, 32, 49])))), (1, 1, (.k (.a (.str [115, 117, 98, 32, 114, 51, 44, 32, 114, 52])))), (2, 1, (.k (.a (.str [106, 110, 122, 32, 46, 108, 111, 111, 112]))))]⟩,
  ⟨none, (some 4), .call 18 [(.t 2), (.t 3)]⟩]
@[reducible] def code : IC := (.reg r0)
def res : List RV := []
theorem rs : type_of% (r0.eq_1) := r0.eq_1
theorem fn : Body Tryz.prog 96 5 code res := ⟨by decide, Tryz.f96, _, Tryz.func96, rfl, rfl, by kernel_rfl, by kernel_rfl⟩
theorem enters : Zu Tryz.prog 96 = true := by kernel_rfl
end Wk
namespace Xz
def r0 : List In := [⟨none, (some 8), .mv (.t 0)⟩,
  ⟨none, (some 9), .mv (.t 1)⟩,
  ⟨none, (some 10), .mv (.t 2)⟩,
  ⟨none, (some 11), .bsl 3 1 2 [.int .i64 0, .int .i64 0] [(0, 1, (.t 9)), (1, 1, (.t 10))]⟩,
  ⟨none, (some 12), .call 92 [(.k (.a (.str [108, 100, 32, 114, 50, 44, 32, 114, 37, 100, 44, 32, 37, 100]))), (.t 11)]⟩,
  ⟨none, (some 13), .mv (.t 3)⟩,
  ⟨none, (some 14), .bin .add (.k (.a (.str [106, 110, 99, 32]))) (.t 13)⟩,
  ⟨none, (some 15), .bsl 9 1 3 [.str [], .str [], .str []] [(0, 1, (.t 12)), (1, 1, (.k (.a (.str [115, 104, 108, 32, 114, 50])))), (2, 1, (.t 14))]⟩,
  ⟨none, (some 16), .call 18 [(.t 8), (.t 15)]⟩]
@[reducible] def code : IC := (.reg r0)
def res : List RV := []
theorem rs : type_of% (r0.eq_1) := r0.eq_1
theorem fn : Body Tryz.prog 98 17 code res := ⟨by decide, Tryz.f98, _, Tryz.func98, rfl, rfl, by kernel_rfl, by kernel_rfl⟩
theorem enters : Zu Tryz.prog 98 = true := by kernel_rfl
end Xz
namespace Y6
def r0 : List In := [⟨none, (some 3), .mv (.t 0)⟩,
  ⟨none, (some 4), .call 91 [(.t 3), (.k (.a (.int .i64 0)))]⟩]
def r1 : List In := [⟨none, (some 5), .mv (.t 0)⟩,
  ⟨none, (some 6), .call 91 [(.t 5), (.k (.a (.int .i64 1)))]⟩]
def r2 : List In := [⟨none, (some 7), .mv (.t 0)⟩,
  ⟨none, (some 8), .bsl 9 1 1 [.str []] [(0, 1, (.k (.a (.str [108, 100, 105, 32, 114, 50, 44, 32, 48]))))]⟩,
  ⟨none, (some 9), .call 18 [(.t 7), (.t 8)]⟩]
def r3 : List In := [⟨none, (some 10), .mv (.t 0)⟩,
  ⟨none, (some 11), .nchk (.t 10)⟩,
  ⟨none, (some 12), .faddr 2 (.t 11)⟩,
  ⟨none, (some 13), .load 1 false (.t 12)⟩,
  ⟨none, (some 14), .mv (.k (.a (.int .i64 0)))⟩]
def r4 : List In := [⟨none, (some 15), .bin .lss (.t 14) (.t 13)⟩]
@[reducible] def c0 : IC := .cond (.t 15) .skip (.exit 0)
def r5 : List In := [⟨none, (some 16), .mv (.t 14)⟩,
  ⟨none, (some 2), .mv (.t 16)⟩]
def r6 : List In := [⟨none, (some 17), .mv (.t 0)⟩,
  ⟨none, (some 18), .mv (.t 2)⟩,
  ⟨none, (some 19), .bsl 3 1 1 [.int .i64 0] [(0, 1, (.t 18))]⟩,
  ⟨none, (some 20), .call 92 [(.k (.a (.str [115, 116, 32, 114, 48, 44, 32, 114, 50, 44, 32, 37, 100]))), (.t 19)]⟩,
  ⟨none, (some 21), .bsl 9 1 1 [.str []] [(0, 1, (.t 20))]⟩,
  ⟨none, (some 22), .call 18 [(.t 17), (.t 21)]⟩]
@[reducible] def c1 : IC := .seq (.reg r5) (.reg r6)
@[reducible] def c2 : IC := .block 1 c1
def r7 : List In := [⟨none, (some 23), .bin .add (.t 14) (.k (.a (.int .i64 1)))⟩,
  ⟨none, (some 14), .mv (.t 23)⟩]
@[reducible] def c3 : IC := .seq c2 (.reg r7)
@[reducible] def c4 : IC := .seq c0 c3
@[reducible] def c5 : IC := .seq (.reg r4) c4
@[reducible] def c6 : IC := .loop c5
@[reducible] def c7 : IC := .block 0 c6
@[reducible] def c8 : IC := .seq (.reg r3) c7
def r8 : List In := [⟨none, (some 24), .mv (.t 0)⟩,
  ⟨none, (some 25), .mv (.t 0)⟩,
  ⟨none, (some 26), .nchk (.t 25)⟩,
  ⟨none, (some 27), .faddr 2 (.t 26)⟩,
  ⟨none, (some 28), .load 1 false (.t 27)⟩,
  ⟨none, (some 29), .bin .mul (.k (.a (.int .i64 16))) (.t 28)⟩,
  ⟨none, (some 30), .bsl 3 1 1 [.int .i64 0] [(0, 1, (.t 29))]⟩,
  ⟨none, (some 31), .call 92 [(.k (.a (.str [108, 100, 105, 32, 114, 51, 44, 32, 37, 100]))), (.t 30)]⟩,
  ⟨none, (some 32), .bsl 9 1 2 [.str [], .str []] [(0, 1, (.t 31)), (1, 1, (.k (.a (.str [46, 108, 111, 111, 112, 58]))))]⟩,
  ⟨none, (some 33), .call 18 [(.t 24), (.t 32)]⟩]
def r9 : List In := [⟨none, (some 34), .mv (.t 0)⟩,
  ⟨none, (some 35), .call 93 [(.t 34), (.k (.a (.int .i64 7))), (.k (.a (.str [115, 104, 114])))]⟩]
def r10 : List In := [⟨none, (some 36), .mv (.t 0)⟩,
  ⟨none, (some 37), .bsl 9 1 1 [.str []] [(0, 1, (.k (.a (.str [106, 110, 99, 32, 46, 115, 107, 105, 112]))))]⟩,
  ⟨none, (some 38), .call 18 [(.t 36), (.t 37)]⟩]
def r11 : List In := [⟨none, (some 39), .mv (.t 0)⟩,
  ⟨none, (some 40), .mv (.t 0)⟩,
  ⟨none, (some 41), .nchk (.t 40)⟩,
  ⟨none, (some 42), .faddr 2 (.t 41)⟩,
  ⟨none, (some 43), .load 1 false (.t 42)⟩,
  ⟨none, (some 44), .call 94 [(.t 39), (.k (.a (.int .i64 0))), (.k (.a (.int .i64 7))), (.t 43), (.k (.a (.str [97, 100, 100]))), (.k (.a (.str [97, 100, 99]))), (.k (.a (.bool true)))]⟩]
def r12 : List In := [⟨none, (some 45), .mv (.t 0)⟩,
  ⟨none, (some 46), .bsl 9 1 1 [.str []] [(0, 1, (.k (.a (.str [46, 115, 107, 105, 112, 58]))))]⟩,
  ⟨none, (some 47), .call 18 [(.t 45), (.t 46)]⟩]
def r13 : List In := [⟨none, (some 48), .mv (.t 0)⟩,
  ⟨none, (some 49), .mv (.t 0)⟩,
  ⟨none, (some 50), .nchk (.t 49)⟩,
  ⟨none, (some 51), .faddr 2 (.t 50)⟩,
  ⟨none, (some 52), .load 1 false (.t 51)⟩,
  ⟨none, (some 53), .call 95 [(.t 48), (.k (.a (.int .i64 7))), (.t 52), (.k (.a (.str [115, 104, 108]))), (.k (.a (.str [114, 111, 108]))), (.k (.a (.str [])))]⟩]
def r14 : List In := [⟨none, (some 54), .mv (.t 0)⟩,
  ⟨none, (some 55), .call 96 [(.t 54)]⟩]
def r15 : List In := [⟨none, (some 56), .mv (.t 0)⟩,
  ⟨none, (some 57), .mv (.t 0)⟩,
  ⟨none, (some 58), .nchk (.t 57)⟩,
  ⟨none, (some 59), .faddr 2 (.t 58)⟩,
  ⟨none, (some 60), .load 1 false (.t 59)⟩,
  ⟨none, (some 61), .bin .mul (.k (.a (.int .i64 2))) (.t 60)⟩,
  ⟨none, (some 62), .call 97 [(.t 56), (.t 61)]⟩]
@[reducible] def c9 : IC := .seq (.reg r14) (.reg r15)
@[reducible] def c10 : IC := .seq (.reg r13) c9
@[reducible] def c11 : IC := .seq (.reg r12) c10
@[reducible] def c12 : IC := .seq (.reg r11) c11
@[reducible] def c13 : IC := .seq (.reg r10) c12
@[reducible] def c14 : IC := .seq (.reg r9) c13
@[reducible] def c15 : IC := .seq (.reg r8) c14
@[reducible] def c16 : IC := .seq c8 c15
@[reducible] def c17 : IC := .seq (.reg r2) c16
@[reducible] def c18 : IC := .seq (.reg r1) c17
@[reducible] def c19 : IC := .seq (.reg r0) c18
@[reducible] def code : IC := c19
def res : List RV := []
theorem rs : type_of% (And.intro r0.eq_1 <| And.intro r1.eq_1 <| And.intro r2.eq_1 <| And.intro r3.eq_1 <| And.intro r4.eq_1 <| And.intro r5.eq_1 <| And.intro r6.eq_1 <| And.intro r7.eq_1 <| And.intro r8.eq_1 <| And.intro r9.eq_1 <| And.intro r10.eq_1 <| And.intro r11.eq_1 <| And.intro r12.eq_1 <| And.intro r13.eq_1 <| And.intro r14.eq_1 <| r15.eq_1) := And.intro r0.eq_1 <| And.intro r1.eq_1 <| And.intro r2.eq_1 <| And.intro r3.eq_1 <| And.intro r4.eq_1 <| And.intro r5.eq_1 <| And.intro r6.eq_1 <| And.intro r7.eq_1 <| And.intro r8.eq_1 <| And.intro r9.eq_1 <| And.intro r10.eq_1 <| And.intro r11.eq_1 <| And.intro r12.eq_1 <| And.intro r13.eq_1 <| And.intro r14.eq_1 <| r15.eq_1
theorem fn : Body Tryz.prog 46 63 code res := ⟨by decide, Tryz.f46, _, Tryz.func46, rfl, rfl, by kernel_rfl, by kernel_rfl⟩
theorem enters : Zu Tryz.prog 46 = true := by kernel_rfl
end Y6
namespace Zo
def r0 : List In := [⟨none, (some 6), .mv (.t 0)⟩,
  ⟨none, (some 7), .bsl 9 1 1 [.str []] [(0, 1, (.k (.a (.str [108, 100, 32, 114, 50, 44, 32, 114, 49, 44, 32, 48]))))]⟩,
  ⟨none, (some 8), .call 18 [(.t 6), (.t 7)]⟩]
def r1 : List In := [⟨none, (some 4), .mv (.k (.a (.int .i64 1)))⟩]
def r2 : List In := [⟨none, (some 9), .mv (.t 4)⟩,
  ⟨none, (some 10), .mv (.t 0)⟩,
  ⟨none, (some 11), .nchk (.t 10)⟩,
  ⟨none, (some 12), .faddr 2 (.t 11)⟩,
  ⟨none, (some 13), .load 1 false (.t 12)⟩,
  ⟨none, (some 14), .bin .lss (.t 9) (.t 13)⟩]
@[reducible] def c0 : IC := .cond (.t 14) .skip (.exit 0)
@[reducible] def c1 : IC := .seq (.reg r2) c0
def r3 : List In := [⟨none, (some 17), .mv (.t 0)⟩,
  ⟨none, (some 18), .mv (.t 4)⟩,
  ⟨none, (some 19), .bsl 3 1 1 [.int .i64 0] [(0, 1, (.t 18))]⟩,
  ⟨none, (some 20), .call 92 [(.k (.a (.str [108, 100, 32, 114, 52, 44, 32, 114, 49, 44, 32, 37, 100]))), (.t 19)]⟩,
  ⟨none, (some 21), .bsl 9 1 2 [.str [], .str []] [(0, 1, (.t 20)), (1, 1, (.k (.a (.str [111, 114, 32, 114, 50, 44, 32, 114, 52]))))]⟩,
  ⟨none, (some 22), .call 18 [(.t 17), (.t 21)]⟩]
@[reducible] def c2 : IC := .block 1 (.reg r3)
def r4 : List In := [⟨none, (some 15), .mv (.t 4)⟩,
  ⟨none, (some 16), .bin .add (.t 15) (.k (.a (.int .i64 1)))⟩,
  ⟨none, (some 4), .mv (.t 16)⟩]
@[reducible] def c3 : IC := .seq c2 (.reg r4)
@[reducible] def c4 : IC := .seq c1 c3
@[reducible] def c5 : IC := .loop c4
@[reducible] def c6 : IC := .block 0 c5
@[reducible] def c7 : IC := .seq (.reg r1) c6
def r5 : List In := [⟨none, (some 23), .mv (.t 0)⟩,
  ⟨none, (some 24), .bsl 9 1 6 [.str [], .str [], .str [], .str [], .str [], .str []] [(0, 1, (.k (.a (.str [108, 100, 105, 32, 114, 52, 44, 32, 48])))), (1, 1, (.k (.a (.str [99, 109, 112, 32, 114, 50, 44, 32, 114, 52])))), (2, 1, (.k (.a (.str [106, 110, 122, 32, 46, 111, 107])))), (3, 1, (.k (.a (.str [116, 114, 97, 112, 32, 49])))), (4, 1, (.k (.a (.str [46, 111, 107, 58])))), (5, 1, (.k (.a (.str [108, 100, 105, 32, 114, 50, 44, 32, 48]))))]⟩,
  ⟨none, (some 25), .call 18 [(.t 23), (.t 24)]⟩]
def r6 : List In := [⟨none, (some 26), .mv (.t 0)⟩,
  ⟨none, (some 27), .nchk (.t 26)⟩,
  ⟨none, (some 28), .faddr 2 (.t 27)⟩,
  ⟨none, (some 29), .load 1 false (.t 28)⟩,
  ⟨none, (some 30), .mv (.k (.a (.int .i64 0)))⟩]
def r7 : List In := [⟨none, (some 31), .bin .lss (.t 30) (.t 29)⟩]
@[reducible] def c8 : IC := .cond (.t 31) .skip (.exit 2)
def r8 : List In := [⟨none, (some 32), .mv (.t 0)⟩,
  ⟨none, (some 33), .bsl 9 1 1 [.str []] [(0, 1, (.k (.a (.str [112, 117, 115, 104, 32, 114, 50]))))]⟩,
  ⟨none, (some 34), .call 18 [(.t 32), (.t 33)]⟩]
@[reducible] def c9 : IC := .block 3 (.reg r8)
def r9 : List In := [⟨none, (some 35), .bin .add (.t 30) (.k (.a (.int .i64 1)))⟩,
  ⟨none, (some 30), .mv (.t 35)⟩]
@[reducible] def c10 : IC := .seq c9 (.reg r9)
@[reducible] def c11 : IC := .seq c8 c10
@[reducible] def c12 : IC := .seq (.reg r7) c11
@[reducible] def c13 : IC := .loop c12
@[reducible] def c14 : IC := .block 2 c13
@[reducible] def c15 : IC := .seq (.reg r6) c14
def r10 : List In := [⟨none, (some 36), .mv (.t 0)⟩,
  ⟨none, (some 37), .mv (.t 0)⟩,
  ⟨none, (some 38), .nchk (.t 37)⟩,
  ⟨none, (some 39), .faddr 2 (.t 38)⟩,
  ⟨none, (some 40), .load 1 false (.t 39)⟩,
  ⟨none, (some 41), .bin .mul (.k (.a (.int .i64 16))) (.t 40)⟩,
  ⟨none, (some 42), .bsl 3 1 1 [.int .i64 0] [(0, 1, (.t 41))]⟩,
  ⟨none, (some 43), .call 92 [(.k (.a (.str [108, 100, 105, 32, 114, 51, 44, 32, 37, 100]))), (.t 42)]⟩,
  ⟨none, (some 44), .bsl 9 1 2 [.str [], .str []] [(0, 1, (.t 43)), (1, 1, (.k (.a (.str [46, 108, 111, 111, 112, 58]))))]⟩,
  ⟨none, (some 45), .call 18 [(.t 36), (.t 44)]⟩]
def r11 : List In := [⟨none, (some 46), .mv (.t 0)⟩,
  ⟨none, (some 47), .call 95 [(.t 46), (.k (.a (.int .i64 0))), (.k (.a (.int .i64 0))), (.k (.a (.str [115, 104, 108]))), (.k (.a (.str [114, 111, 108]))), (.k (.a (.str [])))]⟩]
def r12 : List In := [⟨none, (some 48), .mv (.t 0)⟩,
  ⟨none, (some 49), .call 95 [(.t 48), (.k (.a (.int .i64 7))), (.k (.a (.int .i64 0))), (.k (.a (.str [114, 111, 108]))), (.k (.a (.str [114, 111, 108]))), (.k (.a (.str [])))]⟩]
def r13 : List In := [⟨none, (some 50), .mv (.t 0)⟩,
  ⟨none, (some 51), .bsl 9 1 1 [.str []] [(0, 1, (.k (.a (.str [106, 99, 32, 46, 116, 97, 107, 101]))))]⟩,
  ⟨none, (some 52), .call 18 [(.t 50), (.t 51)]⟩]
def r14 : List In := [⟨none, (some 53), .mv (.t 0)⟩,
  ⟨none, (some 54), .call 94 [(.t 53), (.k (.a (.int .i64 7))), (.k (.a (.int .i64 1))), (.k (.a (.int .i64 0))), (.k (.a (.str [99, 109, 112]))), (.k (.a (.str [99, 112, 99]))), (.k (.a (.bool false)))]⟩]
def r15 : List In := [⟨none, (some 55), .mv (.t 0)⟩,
  ⟨none, (some 56), .bsl 9 1 2 [.str [], .str []] [(0, 1, (.k (.a (.str [106, 99, 32, 46, 110, 101, 120, 116])))), (1, 1, (.k (.a (.str [46, 116, 97, 107, 101, 58]))))]⟩,
  ⟨none, (some 57), .call 18 [(.t 55), (.t 56)]⟩]
def r16 : List In := [⟨none, (some 58), .mv (.t 0)⟩,
  ⟨none, (some 59), .call 94 [(.t 58), (.k (.a (.int .i64 7))), (.k (.a (.int .i64 1))), (.k (.a (.int .i64 0))), (.k (.a (.str [115, 117, 98]))), (.k (.a (.str [115, 98, 99]))), (.k (.a (.bool true)))]⟩]
def r17 : List In := [⟨none, (some 60), .mv (.t 0)⟩,
  ⟨none, (some 61), .bsl 9 1 5 [.str [], .str [], .str [], .str [], .str []] [(0, 1, (.k (.a (.str [108, 100, 32, 114, 50, 44, 32, 114, 48, 44, 32, 48])))), (1, 1, (.k (.a (.str [108, 100, 105, 32, 114, 52, 44, 32, 49])))), (2, 1, (.k (.a (.str [111, 114, 32, 114, 50, 44, 32, 114, 52])))), (3, 1, (.k (.a (.str [115, 116, 32, 114, 48, 44, 32, 114, 50, 44, 32, 48])))), (4, 1, (.k (.a (.str [46, 110, 101, 120, 116, 58]))))]⟩,
  ⟨none, (some 62), .call 18 [(.t 60), (.t 61)]⟩]
def r18 : List In := [⟨none, (some 63), .mv (.t 0)⟩,
  ⟨none, (some 64), .call 96 [(.t 63)]⟩]
def r19 : List In := [⟨none, (some 5), .mv (.k (.a (.int .i64 0)))⟩]
def r20 : List In := [⟨none, (some 65), .mv (.t 5)⟩,
  ⟨none, (some 66), .mv (.t 0)⟩,
  ⟨none, (some 67), .nchk (.t 66)⟩,
  ⟨none, (some 68), .faddr 2 (.t 67)⟩,
  ⟨none, (some 69), .load 1 false (.t 68)⟩,
  ⟨none, (some 70), .bin .lss (.t 65) (.t 69)⟩,
  ⟨none, (some 71), .mv (.t 70)⟩,
  ⟨(some (71, true)), (some 72), .mv (.t 1)⟩,
  ⟨none, (some 73), .pick (.t 71) (.t 72) (.k (.a (.bool false)))⟩]
@[reducible] def c16 : IC := .cond (.t 73) .skip (.exit 4)
@[reducible] def c17 : IC := .seq (.reg r20) c16
def r21 : List In := [⟨none, (some 76), .mv (.t 0)⟩,
  ⟨none, (some 77), .mv (.t 5)⟩,
  ⟨none, (some 78), .bsl 3 1 1 [.int .i64 0] [(0, 1, (.t 77))]⟩,
  ⟨none, (some 79), .call 92 [(.k (.a (.str [108, 100, 32, 114, 50, 44, 32, 114, 55, 44, 32, 37, 100]))), (.t 78)]⟩,
  ⟨none, (some 80), .mv (.t 5)⟩,
  ⟨none, (some 81), .bsl 3 1 1 [.int .i64 0] [(0, 1, (.t 80))]⟩,
  ⟨none, (some 82), .call 92 [(.k (.a (.str [115, 116, 32, 114, 48, 44, 32, 114, 50, 44, 32, 37, 100]))), (.t 81)]⟩,
  ⟨none, (some 83), .bsl 9 1 2 [.str [], .str []] [(0, 1, (.t 79)), (1, 1, (.t 82))]⟩,
  ⟨none, (some 84), .call 18 [(.t 76), (.t 83)]⟩]
@[reducible] def c18 : IC := .block 5 (.reg r21)
def r22 : List In := [⟨none, (some 74), .mv (.t 5)⟩,
  ⟨none, (some 75), .bin .add (.t 74) (.k (.a (.int .i64 1)))⟩,
  ⟨none, (some 5), .mv (.t 75)⟩]
@[reducible] def c19 : IC := .seq c18 (.reg r22)
@[reducible] def c20 : IC := .seq c17 c19
@[reducible] def c21 : IC := .loop c20
@[reducible] def c22 : IC := .block 4 c21
@[reducible] def c23 : IC := .seq (.reg r19) c22
def r23 : List In := [⟨none, (some 85), .mv (.t 0)⟩,
  ⟨none, (some 86), .mv (.t 0)⟩,
  ⟨none, (some 87), .nchk (.t 86)⟩,
  ⟨none, (some 88), .faddr 2 (.t 87)⟩,
  ⟨none, (some 89), .load 1 false (.t 88)⟩,
  ⟨none, (some 90), .call 97 [(.t 85), (.t 89)]⟩]
@[reducible] def c24 : IC := .seq c23 (.reg r23)
@[reducible] def c25 : IC := .seq (.reg r18) c24
@[reducible] def c26 : IC := .seq (.reg r17) c25
@[reducible] def c27 : IC := .seq (.reg r16) c26
@[reducible] def c28 : IC := .seq (.reg r15) c27
@[reducible] def c29 : IC := .seq (.reg r14) c28
@[reducible] def c30 : IC := .seq (.reg r13) c29
@[reducible] def c31 : IC := .seq (.reg r12) c30
@[reducible] def c32 : IC := .seq (.reg r11) c31
@[reducible] def c33 : IC := .seq (.reg r10) c32
@[reducible] def c34 : IC := .seq c15 c33
@[reducible] def c35 : IC := .seq (.reg r5) c34
@[reducible] def c36 : IC := .seq c7 c35
@[reducible] def c37 : IC := .seq (.reg r0) c36
@[reducible] def code : IC := c37
def res : List RV := []
theorem rs : type_of% (And.intro r0.eq_1 <| And.intro r1.eq_1 <| And.intro r2.eq_1 <| And.intro r3.eq_1 <| And.intro r4.eq_1 <| And.intro r5.eq_1 <| And.intro r6.eq_1 <| And.intro r7.eq_1 <| And.intro r8.eq_1 <| And.intro r9.eq_1 <| And.intro r10.eq_1 <| And.intro r11.eq_1 <| And.intro r12.eq_1 <| And.intro r13.eq_1 <| And.intro r14.eq_1 <| And.intro r15.eq_1 <| And.intro r16.eq_1 <| And.intro r17.eq_1 <| And.intro r18.eq_1 <| And.intro r19.eq_1 <| And.intro r20.eq_1 <| And.intro r21.eq_1 <| And.intro r22.eq_1 <| r23.eq_1) := And.intro r0.eq_1 <| And.intro r1.eq_1 <| And.intro r2.eq_1 <| And.intro r3.eq_1 <| And.intro r4.eq_1 <| And.intro r5.eq_1 <| And.intro r6.eq_1 <| And.intro r7.eq_1 <| And.intro r8.eq_1 <| And.intro r9.eq_1 <| And.intro r10.eq_1 <| And.intro r11.eq_1 <| And.intro r12.eq_1 <| And.intro r13.eq_1 <| And.intro r14.eq_1 <| And.intro r15.eq_1 <| And.intro r16.eq_1 <| And.intro r17.eq_1 <| And.intro r18.eq_1 <| And.intro r19.eq_1 <| And.intro r20.eq_1 <| And.intro r21.eq_1 <| And.intro r22.eq_1 <| r23.eq_1
theorem fn : Body Tryz.prog 48 91 code res := ⟨by decide, Tryz.f48, _, Tryz.func48, rfl, rfl, by kernel_rfl, by kernel_rfl⟩
theorem enters : Zu Tryz.prog 48 = true := by kernel_rfl
end Zo
namespace Y9
def r0 : List In := [⟨none, (some 4), .mv (.t 0)⟩,
  ⟨none, (some 5), .mv (.t 0)⟩,
  ⟨none, (some 6), .nchk (.t 5)⟩,
  ⟨none, (some 7), .faddr 2 (.t 6)⟩,
  ⟨none, (some 8), .load 1 false (.t 7)⟩,
  ⟨none, (some 9), .bin .sub (.t 8) (.k (.a (.int .i64 1)))⟩,
  ⟨none, (some 10), .bsl 3 1 1 [.int .i64 0] [(0, 1, (.t 9))]⟩,
  ⟨none, (some 11), .call 92 [(.k (.a (.str [108, 100, 32, 114, 53, 44, 32, 114, 48, 44, 32, 37, 100]))), (.t 10)]⟩,
  ⟨none, (some 12), .bsl 9 1 1 [.str []] [(0, 1, (.t 11))]⟩,
  ⟨none, (some 13), .call 18 [(.t 4), (.t 12)]⟩]
def r1 : List In := [⟨none, (some 14), .mv (.t 1)⟩,
  ⟨none, (some 15), .un .not (.t 14)⟩]
def r2 : List In := [⟨none, (some 16), .mv (.t 0)⟩,
  ⟨none, (some 17), .mv (.t 0)⟩,
  ⟨none, (some 18), .nchk (.t 17)⟩,
  ⟨none, (some 19), .faddr 2 (.t 18)⟩,
  ⟨none, (some 20), .load 1 false (.t 19)⟩,
  ⟨none, (some 21), .bin .sub (.t 20) (.k (.a (.int .i64 1)))⟩,
  ⟨none, (some 22), .bsl 3 1 1 [.int .i64 0] [(0, 1, (.t 21))]⟩,
  ⟨none, (some 23), .call 92 [(.k (.a (.str [108, 100, 32, 114, 50, 44, 32, 114, 49, 44, 32, 37, 100]))), (.t 22)]⟩,
  ⟨none, (some 24), .bsl 9 1 2 [.str [], .str []] [(0, 1, (.t 23)), (1, 1, (.k (.a (.str [120, 111, 114, 32, 114, 53, 44, 32, 114, 50]))))]⟩,
  ⟨none, (some 25), .call 18 [(.t 16), (.t 24)]⟩]
@[reducible] def c0 : IC := .cond (.t 15) (.reg r2) .skip
@[reducible] def c1 : IC := .seq (.reg r1) c0
def r3 : List In := [⟨none, (some 26), .mv (.t 0)⟩,
  ⟨none, (some 27), .bsl 9 1 1 [.str []] [(0, 1, (.k (.a (.str [112, 117, 115, 104, 32, 114, 53]))))]⟩,
  ⟨none, (some 28), .call 18 [(.t 26), (.t 27)]⟩]
def r4 : List In := [⟨none, (some 29), .mv (.t 0)⟩,
  ⟨none, (some 30), .call 91 [(.t 29), (.k (.a (.int .i64 1)))]⟩]
def r5 : List In := [⟨none, (some 31), .mv (.t 0)⟩,
  ⟨none, (some 32), .bsl 9 1 1 [.str []] [(0, 1, (.k (.a (.str [109, 111, 118, 32, 114, 49, 44, 32, 114, 55]))))]⟩,
  ⟨none, (some 33), .call 18 [(.t 31), (.t 32)]⟩]
def r6 : List In := [⟨none, (some 34), .mv (.t 0)⟩,
  ⟨none, (some 35), .mv (.t 0)⟩,
  ⟨none, (some 36), .nchk (.t 35)⟩,
  ⟨none, (some 37), .faddr 2 (.t 36)⟩,
  ⟨none, (some 38), .load 1 false (.t 37)⟩,
  ⟨none, (some 39), .bin .sub (.t 38) (.k (.a (.int .i64 1)))⟩,
  ⟨none, (some 40), .call 98 [(.t 34), (.k (.a (.int .i64 1))), (.t 39), (.k (.a (.str [46, 111, 118, 101, 114])))]⟩]
def r7 : List In := [⟨none, (some 41), .mv (.t 0)⟩,
  ⟨none, (some 42), .call 99 [(.t 41), (.k (.a (.int .i64 1)))]⟩]
def r8 : List In := [⟨none, (some 43), .mv (.t 0)⟩,
  ⟨none, (some 44), .bsl 9 1 1 [.str []] [(0, 1, (.k (.a (.str [46, 111, 118, 101, 114, 58]))))]⟩,
  ⟨none, (some 45), .call 18 [(.t 43), (.t 44)]⟩]
def r9 : List In := [⟨none, (some 46), .mv (.t 0)⟩,
  ⟨none, (some 47), .mv (.t 0)⟩,
  ⟨none, (some 48), .nchk (.t 47)⟩,
  ⟨none, (some 49), .faddr 2 (.t 48)⟩,
  ⟨none, (some 50), .load 1 false (.t 49)⟩,
  ⟨none, (some 51), .bin .sub (.t 50) (.k (.a (.int .i64 1)))⟩,
  ⟨none, (some 52), .call 98 [(.t 46), (.k (.a (.int .i64 0))), (.t 51), (.k (.a (.str [46, 98, 111, 116, 104])))]⟩]
def r10 : List In := [⟨none, (some 53), .mv (.t 0)⟩,
  ⟨none, (some 54), .call 99 [(.t 53), (.k (.a (.int .i64 0)))]⟩]
def r11 : List In := [⟨none, (some 55), .mv (.t 0)⟩,
  ⟨none, (some 56), .bsl 9 1 1 [.str []] [(0, 1, (.k (.a (.str [46, 98, 111, 116, 104, 58]))))]⟩,
  ⟨none, (some 57), .call 18 [(.t 55), (.t 56)]⟩]
def r12 : List In := [⟨none, (some 58), .mv (.t 1)⟩]
def r13 : List In := [⟨none, (some 59), .mv (.t 0)⟩,
  ⟨none, (some 60), .mv (.t 0)⟩,
  ⟨none, (some 61), .nchk (.t 60)⟩,
  ⟨none, (some 62), .faddr 2 (.t 61)⟩,
  ⟨none, (some 63), .load 1 false (.t 62)⟩,
  ⟨none, (some 64), .bsl 3 1 1 [.int .i64 0] [(0, 1, (.t 63))]⟩,
  ⟨none, (some 65), .call 92 [(.k (.a (.str [99, 97, 108, 108, 32, 117, 114, 101, 109, 37, 100]))), (.t 64)]⟩,
  ⟨none, (some 66), .bsl 9 1 1 [.str []] [(0, 1, (.t 65))]⟩,
  ⟨none, (some 67), .call 18 [(.t 59), (.t 66)]⟩]
def r14 : List In := [⟨none, (some 68), .mv (.t 0)⟩,
  ⟨none, (some 69), .mv (.t 0)⟩,
  ⟨none, (some 70), .nchk (.t 69)⟩,
  ⟨none, (some 71), .faddr 2 (.t 70)⟩,
  ⟨none, (some 72), .load 1 false (.t 71)⟩,
  ⟨none, (some 73), .bsl 3 1 1 [.int .i64 0] [(0, 1, (.t 72))]⟩,
  ⟨none, (some 74), .call 92 [(.k (.a (.str [99, 97, 108, 108, 32, 117, 100, 105, 118, 37, 100]))), (.t 73)]⟩,
  ⟨none, (some 75), .bsl 9 1 1 [.str []] [(0, 1, (.t 74))]⟩,
  ⟨none, (some 76), .call 18 [(.t 68), (.t 75)]⟩]
@[reducible] def c2 : IC := .cond (.t 58) (.reg r13) (.reg r14)
@[reducible] def c3 : IC := .seq (.reg r12) c2
def r15 : List In := [⟨none, (some 77), .mv (.t 0)⟩,
  ⟨none, (some 78), .mv (.t 0)⟩,
  ⟨none, (some 79), .nchk (.t 78)⟩,
  ⟨none, (some 80), .faddr 2 (.t 79)⟩,
  ⟨none, (some 81), .load 1 false (.t 80)⟩,
  ⟨none, (some 82), .call 98 [(.t 77), (.k (.a (.int .i64 7))), (.t 81), (.k (.a (.str [46, 100, 111, 110, 101])))]⟩]
def r16 : List In := [⟨none, (some 83), .mv (.t 0)⟩,
  ⟨none, (some 84), .call 99 [(.t 83), (.k (.a (.int .i64 0)))]⟩]
def r17 : List In := [⟨none, (some 85), .mv (.t 0)⟩,
  ⟨none, (some 86), .bsl 9 1 1 [.str []] [(0, 1, (.k (.a (.str [46, 100, 111, 110, 101, 58]))))]⟩,
  ⟨none, (some 87), .call 18 [(.t 85), (.t 86)]⟩]
def r18 : List In := [⟨none, (some 88), .mv (.t 0)⟩,
  ⟨none, (some 89), .mv (.t 0)⟩,
  ⟨none, (some 90), .nchk (.t 89)⟩,
  ⟨none, (some 91), .faddr 2 (.t 90)⟩,
  ⟨none, (some 92), .load 1 false (.t 91)⟩,
  ⟨none, (some 93), .bin .add (.t 92) (.k (.a (.int .i64 1)))⟩,
  ⟨none, (some 94), .call 97 [(.t 88), (.t 93)]⟩]
@[reducible] def c4 : IC := .seq (.reg r17) (.reg r18)
@[reducible] def c5 : IC := .seq (.reg r16) c4
@[reducible] def c6 : IC := .seq (.reg r15) c5
@[reducible] def c7 : IC := .seq c3 c6
@[reducible] def c8 : IC := .seq (.reg r11) c7
@[reducible] def c9 : IC := .seq (.reg r10) c8
@[reducible] def c10 : IC := .seq (.reg r9) c9
@[reducible] def c11 : IC := .seq (.reg r8) c10
@[reducible] def c12 : IC := .seq (.reg r7) c11
@[reducible] def c13 : IC := .seq (.reg r6) c12
@[reducible] def c14 : IC := .seq (.reg r5) c13
@[reducible] def c15 : IC := .seq (.reg r4) c14
@[reducible] def c16 : IC := .seq (.reg r3) c15
@[reducible] def c17 : IC := .seq c1 c16
@[reducible] def c18 : IC := .seq (.reg r0) c17
@[reducible] def code : IC := c18
def res : List RV := []
theorem rs : type_of% (And.intro r0.eq_1 <| And.intro r1.eq_1 <| And.intro r2.eq_1 <| And.intro r3.eq_1 <| And.intro r4.eq_1 <| And.intro r5.eq_1 <| And.intro r6.eq_1 <| And.intro r7.eq_1 <| And.intro r8.eq_1 <| And.intro r9.eq_1 <| And.intro r10.eq_1 <| And.intro r11.eq_1 <| And.intro r12.eq_1 <| And.intro r13.eq_1 <| And.intro r14.eq_1 <| And.intro r15.eq_1 <| And.intro r16.eq_1 <| And.intro r17.eq_1 <| r18.eq_1) := And.intro r0.eq_1 <| And.intro r1.eq_1 <| And.intro r2.eq_1 <| And.intro r3.eq_1 <| And.intro r4.eq_1 <| And.intro r5.eq_1 <| And.intro r6.eq_1 <| And.intro r7.eq_1 <| And.intro r8.eq_1 <| And.intro r9.eq_1 <| And.intro r10.eq_1 <| And.intro r11.eq_1 <| And.intro r12.eq_1 <| And.intro r13.eq_1 <| And.intro r14.eq_1 <| And.intro r15.eq_1 <| And.intro r16.eq_1 <| And.intro r17.eq_1 <| r18.eq_1
theorem fn : Body Tryz.prog 51 95 code res := ⟨by decide, Tryz.f51, _, Tryz.func51, rfl, rfl, by kernel_rfl, by kernel_rfl⟩
theorem enters : Zu Tryz.prog 51 = true := by kernel_rfl
end Y9
namespace Yk
def r0 : List In := [⟨none, (some 4), .mv (.t 0)⟩,
  ⟨none, (some 5), .mv (.t 0)⟩,
  ⟨none, (some 6), .nchk (.t 5)⟩,
  ⟨none, (some 7), .faddr 2 (.t 6)⟩,
  ⟨none, (some 8), .load 1 false (.t 7)⟩,
  ⟨none, (some 9), .bin .mul (.k (.a (.int .i64 16))) (.t 8)⟩,
  ⟨none, (some 10), .bsl 3 1 1 [.int .i64 0] [(0, 1, (.t 9))]⟩,
  ⟨none, (some 11), .call 92 [(.k (.a (.str [108, 100, 105, 32, 114, 52, 44, 32, 37, 100]))), (.t 10)]⟩,
  ⟨none, (some 12), .bsl 9 1 9 [.str [], .str [], .str [], .str [], .str [], .str [], .str [], .str [], .str []] [(0, 1, (.k (.a (.str [108, 100, 32, 114, 51, 44, 32, 114, 49, 44, 32, 48])))), (1, 1, (.t 11)), (2, 1, (.k (.a (.str [99, 109, 112, 32, 114, 51, 44, 32, 114, 52])))), (3, 1, (.k (.a (.str [106, 99, 32, 46, 108, 111, 111, 112])))), (4, 1, (.k (.a (.str [109, 111, 118, 32, 114, 51, 44, 32, 114, 52])))), (5, 1, (.k (.a (.str [46, 108, 111, 111, 112, 58])))), (6, 1, (.k (.a (.str [108, 100, 105, 32, 114, 52, 44, 32, 48])))), (7, 1, (.k (.a (.str [99, 109, 112, 32, 114, 51, 44, 32, 114, 52])))), (8, 1, (.k (.a (.str [106, 122, 32, 46, 100, 111, 110, 101]))))]⟩,
  ⟨none, (some 13), .call 18 [(.t 4), (.t 12)]⟩]
def r1 : List In := [⟨none, (some 14), .mv (.t 1)⟩,
  ⟨none, (some 15), .bin .eql (.t 14) (.k (.a (.str [115, 104, 108])))⟩]
def r2 : List In := [⟨none, (some 16), .mv (.t 0)⟩,
  ⟨none, (some 17), .call 95 [(.t 16), (.k (.a (.int .i64 0))), (.k (.a (.int .i64 0))), (.k (.a (.str [115, 104, 108]))), (.k (.a (.str [114, 111, 108]))), (.k (.a (.str [])))]⟩]
def r3 : List In := [⟨none, (some 18), .mv (.t 0)⟩,
  ⟨none, (some 19), .mv (.t 1)⟩,
  ⟨none, (some 20), .call 93 [(.t 18), (.k (.a (.int .i64 0))), (.t 19)]⟩]
@[reducible] def c0 : IC := .cond (.t 15) (.reg r2) (.reg r3)
@[reducible] def c1 : IC := .seq (.reg r1) c0
def r4 : List In := [⟨none, (some 21), .mv (.t 0)⟩,
  ⟨none, (some 22), .bsl 9 1 5 [.str [], .str [], .str [], .str [], .str []] [(0, 1, (.k (.a (.str [108, 100, 105, 32, 114, 52, 44, 32, 49])))), (1, 1, (.k (.a (.str [115, 117, 98, 32, 114, 51, 44, 32, 114, 52])))), (2, 1, (.k (.a (.str [106, 109, 112, 32, 46, 108, 111, 111, 112])))), (3, 1, (.k (.a (.str [46, 100, 111, 110, 101, 58])))), (4, 1, (.k (.a (.str [114, 101, 116]))))]⟩,
  ⟨none, (some 23), .call 18 [(.t 21), (.t 22)]⟩]
@[reducible] def c2 : IC := .seq c1 (.reg r4)
@[reducible] def c3 : IC := .seq (.reg r0) c2
@[reducible] def code : IC := c3
def res : List RV := []
theorem rs : type_of% (And.intro r0.eq_1 <| And.intro r1.eq_1 <| And.intro r2.eq_1 <| And.intro r3.eq_1 <| r4.eq_1) := And.intro r0.eq_1 <| And.intro r1.eq_1 <| And.intro r2.eq_1 <| And.intro r3.eq_1 <| r4.eq_1
theorem fn : Body Tryz.prog 54 24 code res := ⟨by decide, Tryz.f54, _, Tryz.func54, rfl, rfl, by kernel_rfl, by kernel_rfl⟩
theorem enters : Zu Tryz.prog 54 = true := by kernel_rfl
end Yk
namespace Vm
def r0 : List In := [⟨none, (some 2), .mv (.t 0)⟩,
  ⟨none, (some 3), .call 48 [(.t 2), (.k (.a (.bool false)))]⟩]
@[reducible] def code : IC := (.reg r0)
def res : List RV := []
theorem rs : type_of% (r0.eq_1) := r0.eq_1
theorem fn : Body Tryz.prog 47 4 code res := ⟨by decide, Tryz.f47, _, Tryz.func47, rfl, rfl, by kernel_rfl, by kernel_rfl⟩
theorem enters : Zu Tryz.prog 47 = true := by kernel_rfl
end Vm
namespace Vl
def r0 : List In := [⟨none, (some 2), .mv (.t 0)⟩,
  ⟨none, (some 3), .call 48 [(.t 2), (.k (.a (.bool true)))]⟩]
@[reducible] def code : IC := (.reg r0)
def res : List RV := []
theorem rs : type_of% (r0.eq_1) := r0.eq_1
theorem fn : Body Tryz.prog 49 4 code res := ⟨by decide, Tryz.f49, _, Tryz.func49, rfl, rfl, by kernel_rfl, by kernel_rfl⟩
theorem enters : Zu Tryz.prog 49 = true := by kernel_rfl
end Vl
namespace Vn
def r0 : List In := [⟨none, (some 2), .mv (.t 0)⟩,
  ⟨none, (some 3), .call 51 [(.t 2), (.k (.a (.bool false)))]⟩]
@[reducible] def code : IC := (.reg r0)
def res : List RV := []
theorem rs : type_of% (r0.eq_1) := r0.eq_1
theorem fn : Body Tryz.prog 50 4 code res := ⟨by decide, Tryz.f50, _, Tryz.func50, rfl, rfl, by kernel_rfl, by kernel_rfl⟩
theorem enters : Zu Tryz.prog 50 = true := by kernel_rfl
end Vn
namespace Vi
def r0 : List In := [⟨none, (some 2), .mv (.t 0)⟩,
  ⟨none, (some 3), .call 51 [(.t 2), (.k (.a (.bool true)))]⟩]
@[reducible] def code : IC := (.reg r0)
def res : List RV := []
theorem rs : type_of% (r0.eq_1) := r0.eq_1
theorem fn : Body Tryz.prog 52 4 code res := ⟨by decide, Tryz.f52, _, Tryz.func52, rfl, rfl, by kernel_rfl, by kernel_rfl⟩
theorem enters : Zu Tryz.prog 52 = true := by kernel_rfl
end Vi
namespace Vr
def r0 : List In := [⟨none, (some 2), .mv (.t 0)⟩,
  ⟨none, (some 3), .call 54 [(.t 2), (.k (.a (.str [115, 104, 108])))]⟩]
@[reducible] def code : IC := (.reg r0)
def res : List RV := []
theorem rs : type_of% (r0.eq_1) := r0.eq_1
theorem fn : Body Tryz.prog 53 4 code res := ⟨by decide, Tryz.f53, _, Tryz.func53, rfl, rfl, by kernel_rfl, by kernel_rfl⟩
theorem enters : Zu Tryz.prog 53 = true := by kernel_rfl
end Vr
namespace Vf
def r0 : List In := [⟨none, (some 2), .mv (.t 0)⟩,
  ⟨none, (some 3), .call 54 [(.t 2), (.k (.a (.str [115, 104, 114])))]⟩]
@[reducible] def code : IC := (.reg r0)
def res : List RV := []
theorem rs : type_of% (r0.eq_1) := r0.eq_1
theorem fn : Body Tryz.prog 55 4 code res := ⟨by decide, Tryz.f55, _, Tryz.func55, rfl, rfl, by kernel_rfl, by kernel_rfl⟩
theorem enters : Zu Tryz.prog 55 = true := by kernel_rfl
end Vf
namespace Vo
def r0 : List In := [⟨none, (some 2), .mv (.t 0)⟩,
  ⟨none, (some 3), .call 54 [(.t 2), (.k (.a (.str [115, 97, 114])))]⟩]
@[reducible] def code : IC := (.reg r0)
def res : List RV := []
theorem rs : type_of% (r0.eq_1) := r0.eq_1
theorem fn : Body Tryz.prog 56 4 code res := ⟨by decide, Tryz.f56, _, Tryz.func56, rfl, rfl, by kernel_rfl, by kernel_rfl⟩
theorem enters : Zu Tryz.prog 56 = true := by kernel_rfl
end Vo
end Go.Proofs.YtjochhncheheaaaGreatDoor
namespace Go.Proofs.YtjochhncheheaaaGreatDoor
open Vc
namespace Yv
def r0 : List In := [⟨none, (some 4), .mv (.k (.a (.bool false)))⟩]
def r1 : List In := [⟨none, (some 5), .mv (.t 0)⟩,
  ⟨none, (some 6), .mv (.t 1)⟩,
  ⟨none, (some 7), .call 59 [(.t 5), (.t 6)]⟩,
  ⟨none, (some 8), .bin .geq (.t 7) (.k (.a (.int .i64 0)))⟩,
  ⟨none, (some 4), .mv (.t 8)⟩]
@[reducible] def c0 : IC := .seq (.reg r1) .ret
@[reducible] def c1 : IC := .seq (.reg r0) c0
@[reducible] def code : IC := c1
def res : List RV := [.tmp 4]
theorem rs : type_of% (And.intro r0.eq_1 <| r1.eq_1) := And.intro r0.eq_1 <| r1.eq_1
theorem fn : Body Tryz.prog 17 9 code res := ⟨by decide, Tryz.f17, _, Tryz.func17, rfl, rfl, by kernel_rfl, by kernel_rfl⟩
theorem enters : Zu Tryz.prog 17 = true := by kernel_rfl
end Yv
end Go.Proofs.YtjochhncheheaaaGreatDoor
namespace Go.Proofs.YtjochhncheheaaaGreatDoor
open Vc
namespace Zg
def r0 : List In := [⟨none, (some 4), .mv (.k (.a (.bool false)))⟩]
def r1 : List In := [⟨none, (some 16), .call 6 []⟩,
  ⟨none, (some 5), .mv (.t 16)⟩]
def r2 : List In := [⟨none, (some 17), .mv (.t 5)⟩,
  ⟨none, (some 18), .call 8 []⟩,
  ⟨none, (some 19), .call 7 [(.t 17), (.t 18)]⟩,
  ⟨none, (some 20), .un .not (.t 19)⟩]
def r3 : List In := [⟨none, (some 4), .mv (.k (.a (.bool false)))⟩]
@[reducible] def c0 : IC := .seq (.reg r3) .ret
@[reducible] def c1 : IC := .cond (.t 20) c0 .skip
@[reducible] def c2 : IC := .seq (.reg r2) c1
def r4 : List In := [⟨none, (some 6), .mv (.k (.a (.bool false)))⟩]
def r5 : List In := [⟨none, (some 21), .mv (.t 5)⟩,
  ⟨none, (some 22), .len (.t 21)⟩,
  ⟨none, (some 23), .mv (.k (.a (.int .i64 0)))⟩]
def r6 : List In := [⟨none, (some 24), .bin .lss (.t 23) (.t 22)⟩]
@[reducible] def c3 : IC := .cond (.t 24) .skip (.exit 0)
def r7 : List In := [⟨none, (some 25), .iaddr 1 (.t 21) (.t 23)⟩,
  ⟨none, (some 26), .load 1 false (.t 25)⟩,
  ⟨none, (some 8), .mv (.t 26)⟩]
def r8 : List In := [⟨none, (some 27), .mv (.t 6)⟩,
  ⟨none, (some 28), .mv (.t 27)⟩,
  ⟨(some (28, false)), (some 29), .mv (.t 8)⟩,
  ⟨(some (28, false)), (some 30), .mv (.t 0)⟩,
  ⟨(some (28, false)), (some 31), .bin .eql (.t 29) (.t 30)⟩,
  ⟨none, (some 32), .pick (.t 28) (.k (.a (.bool true))) (.t 31)⟩,
  ⟨none, (some 6), .mv (.t 32)⟩]
@[reducible] def c4 : IC := .seq (.reg r7) (.reg r8)
@[reducible] def c5 : IC := .block 1 c4
def r9 : List In := [⟨none, (some 33), .bin .add (.t 23) (.k (.a (.int .i64 1)))⟩,
  ⟨none, (some 23), .mv (.t 33)⟩]
@[reducible] def c6 : IC := .seq c5 (.reg r9)
@[reducible] def c7 : IC := .seq c3 c6
@[reducible] def c8 : IC := .seq (.reg r6) c7
@[reducible] def c9 : IC := .loop c8
@[reducible] def c10 : IC := .block 0 c9
@[reducible] def c11 : IC := .seq (.reg r5) c10
def r10 : List In := [⟨none, (some 35), .mv (.t 0)⟩,
  ⟨none, (some 36), .call 9 [(.t 35)]⟩,
  ⟨none, (some 34), .mv (.t 36)⟩,
  ⟨none, (some 37), .ext 0 (.t 34)⟩,
  ⟨none, (some 38), .ext 1 (.t 34)⟩,
  ⟨none, (some 9), .mv (.t 37)⟩,
  ⟨none, (some 10), .mv (.t 38)⟩]
def r11 : List In := [⟨none, (some 39), .mv (.t 6)⟩,
  ⟨none, (some 40), .mv (.t 10)⟩,
  ⟨none, (some 41), .bin .eql (.t 40) (.k (.a (.int .i64 0)))⟩,
  ⟨none, (some 42), .beq true (.t 39) (.t 41)⟩,
  ⟨none, (some 43), .mv (.t 42)⟩,
  ⟨(some (43, false)), (some 44), .mv (.t 6)⟩,
  ⟨(some (43, false)), (some 45), .un .not (.t 44)⟩,
  ⟨(some (43, false)), (some 46), .mv (.t 45)⟩,
  ⟨(some (46, true)), (some 47), .mv (.t 10)⟩,
  ⟨(some (46, true)), (some 48), .bin .neq (.t 47) (.k (.a (.int .i64 7)))⟩,
  ⟨(some (46, true)), (some 49), .mv (.t 48)⟩,
  ⟨(some (49, false)), (some 50), .mv (.t 9)⟩,
  ⟨(some (49, false)), (some 51), .bin .neq (.t 50) (.k (.a (.str [])))⟩,
  ⟨(some (46, true)), (some 52), .pick (.t 49) (.k (.a (.bool true))) (.t 51)⟩,
  ⟨(some (43, false)), (some 53), .pick (.t 46) (.t 52) (.k (.a (.bool false)))⟩,
  ⟨none, (some 54), .pick (.t 43) (.k (.a (.bool true))) (.t 53)⟩]
def r12 : List In := [⟨none, (some 4), .mv (.k (.a (.bool false)))⟩]
@[reducible] def c12 : IC := .seq (.reg r12) .ret
@[reducible] def c13 : IC := .cond (.t 54) c12 .skip
@[reducible] def c14 : IC := .seq (.reg r11) c13
def r13 : List In := [⟨none, (some 55), .call 10 []⟩,
  ⟨none, (some 11), .mv (.t 55)⟩]
def r14 : List In := [⟨none, (some 56), .mv (.t 11)⟩,
  ⟨none, (some 57), .len (.t 56)⟩,
  ⟨none, (some 58), .mv (.t 5)⟩,
  ⟨none, (some 59), .len (.t 58)⟩,
  ⟨none, (some 60), .bin .neq (.t 57) (.t 59)⟩]
def r15 : List In := [⟨none, (some 4), .mv (.k (.a (.bool false)))⟩]
@[reducible] def c15 : IC := .seq (.reg r15) .ret
@[reducible] def c16 : IC := .cond (.t 60) c15 .skip
@[reducible] def c17 : IC := .seq (.reg r14) c16
def r16 : List In := [⟨none, (some 61), .mv (.t 1)⟩,
  ⟨none, (some 62), .bin .lss (.t 61) (.k (.a (.int .i64 0)))⟩,
  ⟨none, (some 63), .mv (.t 62)⟩,
  ⟨(some (63, false)), (some 64), .mv (.t 1)⟩,
  ⟨(some (63, false)), (some 65), .mv (.t 5)⟩,
  ⟨(some (63, false)), (some 66), .len (.t 65)⟩,
  ⟨(some (63, false)), (some 67), .bin .geq (.t 64) (.t 66)⟩,
  ⟨none, (some 68), .pick (.t 63) (.k (.a (.bool true))) (.t 67)⟩]
def r17 : List In := [⟨none, (some 4), .mv (.k (.a (.bool true)))⟩]
@[reducible] def c18 : IC := .seq (.reg r17) .ret
@[reducible] def c19 : IC := .cond (.t 68) c18 .skip
@[reducible] def c20 : IC := .seq (.reg r16) c19
def r18 : List In := [⟨none, (some 70), .mv (.t 5)⟩,
  ⟨none, (some 71), .mv (.t 1)⟩,
  ⟨none, (some 72), .iaddr 1 (.t 70) (.t 71)⟩,
  ⟨none, (some 73), .load 1 false (.t 72)⟩,
  ⟨none, (some 74), .call 9 [(.t 73)]⟩,
  ⟨none, (some 69), .mv (.t 74)⟩,
  ⟨none, (some 75), .ext 0 (.t 69)⟩,
  ⟨none, (some 76), .ext 1 (.t 69)⟩,
  ⟨none, (some 9), .mv (.t 75)⟩,
  ⟨none, (some 10), .mv (.t 76)⟩]
def r19 : List In := [⟨none, (some 78), .mv (.t 9)⟩,
  ⟨none, (some 79), .call 11 [(.t 78)]⟩,
  ⟨none, (some 77), .mv (.t 79)⟩,
  ⟨none, (some 80), .ext 0 (.t 77)⟩,
  ⟨none, (some 81), .ext 1 (.t 77)⟩,
  ⟨none, (some 13), .alloc 32 [.int .i64 0, .int .i64 0]⟩,
  ⟨none, (some 12), .mv (.t 80)⟩,
  ⟨none, none, .store 2 (.t 13) (.t 81)⟩]
def r20 : List In := [⟨none, (some 82), .mv (.t 10)⟩,
  ⟨none, (some 83), .bin .neq (.t 82) (.k (.a (.int .i64 0)))⟩,
  ⟨none, (some 84), .mv (.t 83)⟩,
  ⟨(some (84, false)), (some 85), .faddr 0 (.t 13)⟩,
  ⟨(some (84, false)), (some 86), .load 1 false (.t 85)⟩,
  ⟨(some (84, false)), (some 87), .bin .neq (.t 86) (.k (.a (.int .i64 0)))⟩,
  ⟨none, (some 88), .pick (.t 84) (.k (.a (.bool true))) (.t 87)⟩,
  ⟨none, (some 89), .mv (.t 88)⟩,
  ⟨(some (89, false)), (some 90), .mv (.t 11)⟩,
  ⟨(some (89, false)), (some 91), .mv (.t 1)⟩,
  ⟨(some (89, false)), (some 92), .iaddr 2 (.t 90) (.t 91)⟩,
  ⟨(some (89, false)), (some 93), .faddr 0 (.t 92)⟩,
  ⟨(some (89, false)), (some 94), .load 1 false (.t 93)⟩,
  ⟨(some (89, false)), (some 95), .mv (.t 5)⟩,
  ⟨(some (89, false)), (some 96), .mv (.t 1)⟩,
  ⟨(some (89, false)), (some 97), .iaddr 1 (.t 95) (.t 96)⟩,
  ⟨(some (89, false)), (some 98), .load 1 false (.t 97)⟩,
  ⟨(some (89, false)), (some 99), .bin .neq (.t 94) (.t 98)⟩,
  ⟨none, (some 100), .pick (.t 89) (.k (.a (.bool true))) (.t 99)⟩,
  ⟨none, (some 101), .mv (.t 100)⟩,
  ⟨(some (101, false)), (some 102), .mv (.t 12)⟩,
  ⟨(some (101, false)), (some 103), .len (.t 102)⟩,
  ⟨(some (101, false)), (some 104), .mv (.t 11)⟩,
  ⟨(some (101, false)), (some 105), .mv (.t 1)⟩,
  ⟨(some (101, false)), (some 106), .iaddr 2 (.t 104) (.t 105)⟩,
  ⟨(some (101, false)), (some 107), .faddr 1 (.t 106)⟩,
  ⟨(some (101, false)), (some 108), .load 1 false (.t 107)⟩,
  ⟨(some (101, false)), (some 109), .len (.t 108)⟩,
  ⟨(some (101, false)), (some 110), .bin .neq (.t 103) (.t 109)⟩,
  ⟨none, (some 111), .pick (.t 101) (.k (.a (.bool true))) (.t 110)⟩]
def r21 : List In := [⟨none, (some 4), .mv (.k (.a (.bool false)))⟩]
@[reducible] def c21 : IC := .seq (.reg r21) .ret
@[reducible] def c22 : IC := .cond (.t 111) c21 .skip
@[reducible] def c23 : IC := .seq (.dreg r20) c22
def r22 : List In := [⟨none, (some 112), .mv (.t 12)⟩,
  ⟨none, (some 113), .len (.t 112)⟩,
  ⟨none, (some 114), .mv (.k (.a (.int .i64 0)))⟩]
def r23 : List In := [⟨none, (some 115), .bin .lss (.t 114) (.t 113)⟩]
@[reducible] def c24 : IC := .cond (.t 115) .skip (.exit 2)
def r24 : List In := [⟨none, (some 116), .mv (.t 114)⟩,
  ⟨none, (some 14), .mv (.t 116)⟩]
def r25 : List In := [⟨none, (some 117), .mv (.t 12)⟩,
  ⟨none, (some 118), .mv (.t 14)⟩,
  ⟨none, (some 119), .iaddr 6 (.t 117) (.t 118)⟩,
  ⟨none, (some 120), .load 6 true (.t 119)⟩,
  ⟨none, (some 121), .mv (.t 11)⟩,
  ⟨none, (some 122), .mv (.t 1)⟩,
  ⟨none, (some 123), .iaddr 2 (.t 121) (.t 122)⟩,
  ⟨none, (some 124), .faddr 1 (.t 123)⟩,
  ⟨none, (some 125), .load 1 false (.t 124)⟩,
  ⟨none, (some 126), .mv (.t 14)⟩,
  ⟨none, (some 127), .iaddr 6 (.t 125) (.t 126)⟩,
  ⟨none, (some 128), .load 6 true (.t 127)⟩,
  ⟨none, (some 129), .aeq true [.str, .int, .int, .int, .int, .str] (.t 120) (.t 128)⟩]
def r26 : List In := [⟨none, (some 4), .mv (.k (.a (.bool false)))⟩]
@[reducible] def c25 : IC := .seq (.reg r26) .ret
@[reducible] def c26 : IC := .cond (.t 129) c25 .skip
@[reducible] def c27 : IC := .seq (.dreg r25) c26
@[reducible] def c28 : IC := .seq (.reg r24) c27
@[reducible] def c29 : IC := .block 3 c28
def r27 : List In := [⟨none, (some 130), .bin .add (.t 114) (.k (.a (.int .i64 1)))⟩,
  ⟨none, (some 114), .mv (.t 130)⟩]
@[reducible] def c30 : IC := .seq c29 (.reg r27)
@[reducible] def c31 : IC := .seq c24 c30
@[reducible] def c32 : IC := .seq (.reg r23) c31
@[reducible] def c33 : IC := .loop c32
@[reducible] def c34 : IC := .block 2 c33
@[reducible] def c35 : IC := .seq (.reg r22) c34
def r28 : List In := [⟨none, (some 132), .mv (.t 11)⟩,
  ⟨none, (some 133), .mv (.t 5)⟩,
  ⟨none, (some 134), .mv (.t 1)⟩,
  ⟨none, (some 135), .iaddr 1 (.t 133) (.t 134)⟩,
  ⟨none, (some 136), .load 1 false (.t 135)⟩,
  ⟨none, (some 137), .call 12 [(.t 132), (.t 136)]⟩,
  ⟨none, (some 131), .mv (.t 137)⟩,
  ⟨none, (some 138), .ext 0 (.t 131)⟩,
  ⟨none, (some 139), .ext 1 (.t 131)⟩,
  ⟨none, (some 15), .alloc 44 [.raw (.slice none 0 0), .raw (.slice none 0 0), .raw (.slice none 0 0)]⟩,
  ⟨none, none, .store 3 (.t 15) (.t 138)⟩,
  ⟨none, none, .store 2 (.t 13) (.t 139)⟩]
def r29 : List In := [⟨none, (some 140), .faddr 0 (.t 13)⟩,
  ⟨none, (some 141), .load 1 false (.t 140)⟩,
  ⟨none, (some 142), .bin .eql (.t 141) (.k (.a (.int .i64 0)))⟩,
  ⟨none, (some 143), .mv (.t 142)⟩,
  ⟨(some (143, true)), (some 144), .faddr 0 (.t 15)⟩,
  ⟨(some (143, true)), (some 145), .load 1 false (.t 144)⟩,
  ⟨(some (143, true)), (some 146), .len (.t 145)⟩,
  ⟨(some (143, true)), (some 147), .bin .gtr (.t 146) (.k (.a (.int .i64 0)))⟩,
  ⟨none, (some 148), .pick (.t 143) (.t 147) (.k (.a (.bool false)))⟩,
  ⟨none, (some 4), .mv (.t 148)⟩]
@[reducible] def c36 : IC := .seq (.reg r29) .ret
@[reducible] def c37 : IC := .seq (.reg r28) c36
@[reducible] def c38 : IC := .seq c35 c37
@[reducible] def c39 : IC := .seq c23 c38
@[reducible] def c40 : IC := .seq (.reg r19) c39
@[reducible] def c41 : IC := .seq (.reg r18) c40
@[reducible] def c42 : IC := .seq c20 c41
@[reducible] def c43 : IC := .seq c17 c42
def c44 : IC := .seq (.reg r13) c43
@[reducible] def c45 : IC := .seq c14 c44
@[reducible] def c46 : IC := .seq (.reg r10) c45
@[reducible] def c47 : IC := .seq c11 c46
@[reducible] def c48 : IC := .seq (.reg r4) c47
@[reducible] def c49 : IC := .seq c2 c48
@[reducible] def c50 : IC := .seq (.reg r1) c49
@[reducible] def c51 : IC := .seq (.reg r0) c50
@[reducible] def code : IC := c51
def res : List RV := [.tmp 4]
theorem rs : type_of% (And.intro r0.eq_1 <| And.intro r1.eq_1 <| And.intro r2.eq_1 <| And.intro r3.eq_1 <| And.intro r4.eq_1 <| And.intro r5.eq_1 <| And.intro r6.eq_1 <| And.intro r7.eq_1 <| And.intro r8.eq_1 <| And.intro r9.eq_1 <| And.intro r10.eq_1 <| And.intro r11.eq_1 <| And.intro r12.eq_1 <| And.intro r13.eq_1 <| And.intro r14.eq_1 <| And.intro r15.eq_1 <| And.intro r16.eq_1 <| And.intro r17.eq_1 <| And.intro r18.eq_1 <| And.intro r19.eq_1 <| And.intro r20.eq_1 <| And.intro r21.eq_1 <| And.intro r22.eq_1 <| And.intro r23.eq_1 <| And.intro r24.eq_1 <| And.intro r25.eq_1 <| And.intro r26.eq_1 <| And.intro r27.eq_1 <| And.intro r28.eq_1 <| r29.eq_1) := And.intro r0.eq_1 <| And.intro r1.eq_1 <| And.intro r2.eq_1 <| And.intro r3.eq_1 <| And.intro r4.eq_1 <| And.intro r5.eq_1 <| And.intro r6.eq_1 <| And.intro r7.eq_1 <| And.intro r8.eq_1 <| And.intro r9.eq_1 <| And.intro r10.eq_1 <| And.intro r11.eq_1 <| And.intro r12.eq_1 <| And.intro r13.eq_1 <| And.intro r14.eq_1 <| And.intro r15.eq_1 <| And.intro r16.eq_1 <| And.intro r17.eq_1 <| And.intro r18.eq_1 <| And.intro r19.eq_1 <| And.intro r20.eq_1 <| And.intro r21.eq_1 <| And.intro r22.eq_1 <| And.intro r23.eq_1 <| And.intro r24.eq_1 <| And.intro r25.eq_1 <| And.intro r26.eq_1 <| And.intro r27.eq_1 <| And.intro r28.eq_1 <| r29.eq_1
theorem fn : Body Tryz.prog 3 149 code res := ⟨by decide, Tryz.f3, _, Tryz.func3, rfl, rfl, by kernel_rfl, by kernel_rfl⟩
theorem enters : Zu Tryz.prog 3 = true := by kernel_rfl
end Zg
namespace Yh
def r0 : List In := [⟨none, (some 0), .mv (.k (.a (.bool false)))⟩]
def r1 : List In := [⟨none, (some 6), .build [.str [], .int .i64 0, .int .i64 0, .int .i64 0, .int .i64 0, .str []] [(0, 1, (.k (.a (.str [109, 97, 105, 110]))))]⟩,
  ⟨none, (some 7), .bsl 40 6 1 [.str [], .int .i64 0, .int .i64 0, .int .i64 0, .int .i64 0, .str []] [(0, 6, (.t 6))]⟩,
  ⟨none, (some 1), .mv (.t 7)⟩]
def r2 : List In := [⟨none, (some 8), .call 6 []⟩,
  ⟨none, (some 9), .len (.t 8)⟩,
  ⟨none, (some 10), .mv (.k (.a (.int .i64 0)))⟩]
def r3 : List In := [⟨none, (some 11), .bin .lss (.t 10) (.t 9)⟩]
@[reducible] def c0 : IC := .cond (.t 11) .skip (.exit 0)
def r4 : List In := [⟨none, (some 12), .iaddr 1 (.t 8) (.t 10)⟩,
  ⟨none, (some 13), .load 1 false (.t 12)⟩,
  ⟨none, (some 3), .mv (.t 13)⟩]
def r5 : List In := [⟨none, (some 14), .mv (.t 1)⟩,
  ⟨none, (some 15), .build [.int .i64 0, .int .i64 0, .int .i64 0, .int .i64 0] [(0, 1, (.k (.a (.int .i64 26))))]⟩,
  ⟨none, (some 16), .mv (.t 3)⟩,
  ⟨none, (some 17), .build [.str [], .int .i64 0, .int .i64 0, .int .i64 0, .int .i64 0, .str []] [(1, 4, (.t 15)), (5, 1, (.t 16))]⟩,
  ⟨none, (some 18), .bsl 40 6 1 [.str [], .int .i64 0, .int .i64 0, .int .i64 0, .int .i64 0, .str []] [(0, 6, (.t 17))]⟩,
  ⟨none, (some 19), .app 30 40 6 64 (.t 14) (.t 18)⟩,
  ⟨none, (some 1), .mv (.t 19)⟩]
@[reducible] def c1 : IC := .seq (.reg r4) (.reg r5)
@[reducible] def c2 : IC := .block 1 c1
def r6 : List In := [⟨none, (some 20), .bin .add (.t 10) (.k (.a (.int .i64 1)))⟩,
  ⟨none, (some 10), .mv (.t 20)⟩]
@[reducible] def c3 : IC := .seq c2 (.reg r6)
@[reducible] def c4 : IC := .seq c0 c3
@[reducible] def c5 : IC := .seq (.reg r3) c4
@[reducible] def c6 : IC := .loop c5
@[reducible] def c7 : IC := .block 0 c6
@[reducible] def c8 : IC := .seq (.reg r2) c7
def r7 : List In := [⟨none, (some 22), .call 10 []⟩,
  ⟨none, (some 23), .mv (.t 1)⟩,
  ⟨none, (some 24), .build [.str [], .raw (.slice none 0 0)] [(1, 1, (.t 23))]⟩,
  ⟨none, (some 25), .bsl 36 2 1 [.str [], .raw (.slice none 0 0)] [(0, 2, (.t 24))]⟩,
  ⟨none, (some 26), .app 28 36 2 40 (.t 22) (.t 25)⟩,
  ⟨none, (some 27), .call 12 [(.t 26), (.k (.a (.str [109, 97, 105, 110])))]⟩,
  ⟨none, (some 21), .mv (.t 27)⟩,
  ⟨none, (some 28), .ext 0 (.t 21)⟩,
  ⟨none, (some 29), .ext 1 (.t 21)⟩,
  ⟨none, (some 4), .alloc 44 [.raw (.slice none 0 0), .raw (.slice none 0 0), .raw (.slice none 0 0)]⟩,
  ⟨none, (some 5), .alloc 32 [.int .i64 0, .int .i64 0]⟩,
  ⟨none, none, .store 3 (.t 4) (.t 28)⟩,
  ⟨none, none, .store 2 (.t 5) (.t 29)⟩]
def r8 : List In := [⟨none, (some 30), .faddr 0 (.t 5)⟩,
  ⟨none, (some 31), .load 1 false (.t 30)⟩,
  ⟨none, (some 32), .bin .eql (.t 31) (.k (.a (.int .i64 0)))⟩,
  ⟨none, (some 33), .mv (.t 32)⟩,
  ⟨(some (33, true)), (some 34), .faddr 0 (.t 4)⟩,
  ⟨(some (33, true)), (some 35), .load 1 false (.t 34)⟩,
  ⟨(some (33, true)), (some 36), .len (.t 35)⟩,
  ⟨(some (33, true)), (some 37), .bin .lss (.t 36) (.k (.a (.int .i64 32768)))⟩,
  ⟨none, (some 38), .pick (.t 33) (.t 37) (.k (.a (.bool false)))⟩,
  ⟨none, (some 39), .mv (.t 38)⟩,
  ⟨(some (39, true)), (some 40), .faddr 1 (.t 4)⟩,
  ⟨(some (39, true)), (some 41), .load 1 false (.t 40)⟩,
  ⟨(some (39, true)), (some 42), .len (.t 41)⟩,
  ⟨(some (39, true)), (some 43), .bin .eql (.t 42) (.k (.a (.int .i64 25)))⟩,
  ⟨none, (some 44), .pick (.t 39) (.t 43) (.k (.a (.bool false)))⟩,
  ⟨none, (some 0), .mv (.t 44)⟩]
@[reducible] def c9 : IC := .seq (.reg r8) .ret
@[reducible] def c10 : IC := .seq (.reg r7) c9
@[reducible] def c11 : IC := .seq c8 c10
@[reducible] def c12 : IC := .seq (.reg r1) c11
@[reducible] def c13 : IC := .seq (.reg r0) c12
@[reducible] def code : IC := c13
def res : List RV := [.tmp 0]
theorem rs : type_of% (And.intro r0.eq_1 <| And.intro r1.eq_1 <| And.intro r2.eq_1 <| And.intro r3.eq_1 <| And.intro r4.eq_1 <| And.intro r5.eq_1 <| And.intro r6.eq_1 <| And.intro r7.eq_1 <| r8.eq_1) := And.intro r0.eq_1 <| And.intro r1.eq_1 <| And.intro r2.eq_1 <| And.intro r3.eq_1 <| And.intro r4.eq_1 <| And.intro r5.eq_1 <| And.intro r6.eq_1 <| And.intro r7.eq_1 <| r8.eq_1
theorem fn : Body Tryz.prog 4 45 code res := ⟨by decide, Tryz.f4, _, Tryz.func4, rfl, rfl, by kernel_rfl, by kernel_rfl⟩
theorem enters : Zu Tryz.prog 4 = true := by kernel_rfl
end Yh
namespace Ym
def r0 : List In := [⟨none, (some 4), .mv (.k (.a (.bool false)))⟩]
def r1 : List In := [⟨none, (some 6), .mv (.t 0)⟩,
  ⟨none, (some 7), .len (.t 6)⟩,
  ⟨none, (some 8), .mv (.t 1)⟩,
  ⟨none, (some 9), .len (.t 8)⟩,
  ⟨none, (some 10), .bin .neq (.t 7) (.t 9)⟩]
def r2 : List In := [⟨none, (some 4), .mv (.k (.a (.bool false)))⟩]
@[reducible] def c0 : IC := .seq (.reg r2) .ret
@[reducible] def c1 : IC := .cond (.t 10) c0 .skip
@[reducible] def c2 : IC := .seq (.reg r1) c1
def r3 : List In := [⟨none, (some 11), .mv (.t 0)⟩,
  ⟨none, (some 12), .len (.t 11)⟩,
  ⟨none, (some 13), .mv (.k (.a (.int .i64 0)))⟩]
def r4 : List In := [⟨none, (some 14), .bin .lss (.t 13) (.t 12)⟩]
@[reducible] def c3 : IC := .cond (.t 14) .skip (.exit 0)
def r5 : List In := [⟨none, (some 15), .mv (.t 13)⟩,
  ⟨none, (some 5), .mv (.t 15)⟩]
def r6 : List In := [⟨none, (some 16), .mv (.t 0)⟩,
  ⟨none, (some 17), .mv (.t 5)⟩,
  ⟨none, (some 18), .iaddr 1 (.t 16) (.t 17)⟩,
  ⟨none, (some 19), .load 1 false (.t 18)⟩,
  ⟨none, (some 20), .mv (.t 1)⟩,
  ⟨none, (some 21), .mv (.t 5)⟩,
  ⟨none, (some 22), .iaddr 1 (.t 20) (.t 21)⟩,
  ⟨none, (some 23), .load 1 false (.t 22)⟩,
  ⟨none, (some 24), .bin .neq (.t 19) (.t 23)⟩]
def r7 : List In := [⟨none, (some 4), .mv (.k (.a (.bool false)))⟩]
@[reducible] def c4 : IC := .seq (.reg r7) .ret
@[reducible] def c5 : IC := .cond (.t 24) c4 .skip
@[reducible] def c6 : IC := .seq (.dreg r6) c5
@[reducible] def c7 : IC := .seq (.reg r5) c6
@[reducible] def c8 : IC := .block 1 c7
def r8 : List In := [⟨none, (some 25), .bin .add (.t 13) (.k (.a (.int .i64 1)))⟩,
  ⟨none, (some 13), .mv (.t 25)⟩]
@[reducible] def c9 : IC := .seq c8 (.reg r8)
@[reducible] def c10 : IC := .seq c3 c9
@[reducible] def c11 : IC := .seq (.reg r4) c10
@[reducible] def c12 : IC := .loop c11
@[reducible] def c13 : IC := .block 0 c12
@[reducible] def c14 : IC := .seq (.reg r3) c13
def r9 : List In := [⟨none, (some 4), .mv (.k (.a (.bool true)))⟩]
@[reducible] def c15 : IC := .seq (.reg r9) .ret
@[reducible] def c16 : IC := .seq c14 c15
@[reducible] def c17 : IC := .seq c2 c16
@[reducible] def c18 : IC := .seq (.reg r0) c17
@[reducible] def code : IC := c18
def res : List RV := [.tmp 4]
theorem rs : type_of% (And.intro r0.eq_1 <| And.intro r1.eq_1 <| And.intro r2.eq_1 <| And.intro r3.eq_1 <| And.intro r4.eq_1 <| And.intro r5.eq_1 <| And.intro r6.eq_1 <| And.intro r7.eq_1 <| And.intro r8.eq_1 <| r9.eq_1) := And.intro r0.eq_1 <| And.intro r1.eq_1 <| And.intro r2.eq_1 <| And.intro r3.eq_1 <| And.intro r4.eq_1 <| And.intro r5.eq_1 <| And.intro r6.eq_1 <| And.intro r7.eq_1 <| And.intro r8.eq_1 <| r9.eq_1
theorem fn : Body Tryz.prog 7 26 code res := ⟨by decide, Tryz.f7, _, Tryz.func7, rfl, rfl, by kernel_rfl, by kernel_rfl⟩
theorem enters : Zu Tryz.prog 7 = true := by kernel_rfl
end Ym
namespace Z6
def r0 : List In := [⟨none, (some 0), .mv (.k (.a (.raw (.slice none 0 0))))⟩]
def r1 : List In := [⟨none, (some 1), .mv (.k (.a (.raw (.slice none 0 0))))⟩]
def r2 : List In := [⟨none, (some 6), .bsl 9 1 8 [.str [], .str [], .str [], .str [], .str [], .str [], .str [], .str []] [(0, 1, (.k (.a (.str [109, 117, 108])))), (1, 1, (.k (.a (.str [115, 97, 114])))), (2, 1, (.k (.a (.str [115, 100, 105, 118])))), (3, 1, (.k (.a (.str [115, 104, 108])))), (4, 1, (.k (.a (.str [115, 104, 114])))), (5, 1, (.k (.a (.str [115, 114, 101, 109])))), (6, 1, (.k (.a (.str [117, 100, 105, 118])))), (7, 1, (.k (.a (.str [117, 114, 101, 109]))))]⟩,
  ⟨none, (some 7), .len (.t 6)⟩,
  ⟨none, (some 8), .mv (.k (.a (.int .i64 0)))⟩]
def r3 : List In := [⟨none, (some 9), .bin .lss (.t 8) (.t 7)⟩]
@[reducible] def c0 : IC := .cond (.t 9) .skip (.exit 0)
def r4 : List In := [⟨none, (some 10), .iaddr 1 (.t 6) (.t 8)⟩,
  ⟨none, (some 11), .load 1 false (.t 10)⟩,
  ⟨none, (some 3), .mv (.t 11)⟩]
def r5 : List In := [⟨none, (some 12), .bsl 9 1 3 [.str [], .str [], .str []] [(0, 1, (.k (.a (.str [49])))), (1, 1, (.k (.a (.str [50])))), (2, 1, (.k (.a (.str [52]))))]⟩,
  ⟨none, (some 13), .len (.t 12)⟩,
  ⟨none, (some 14), .mv (.k (.a (.int .i64 0)))⟩]
def r6 : List In := [⟨none, (some 15), .bin .lss (.t 14) (.t 13)⟩]
@[reducible] def c1 : IC := .cond (.t 15) .skip (.exit 2)
def r7 : List In := [⟨none, (some 16), .iaddr 1 (.t 12) (.t 14)⟩,
  ⟨none, (some 17), .load 1 false (.t 16)⟩,
  ⟨none, (some 5), .mv (.t 17)⟩]
def r8 : List In := [⟨none, (some 18), .mv (.t 1)⟩,
  ⟨none, (some 19), .mv (.t 3)⟩,
  ⟨none, (some 20), .mv (.t 5)⟩,
  ⟨none, (some 21), .bin .add (.t 19) (.t 20)⟩,
  ⟨none, (some 22), .bsl 9 1 1 [.str []] [(0, 1, (.t 21))]⟩,
  ⟨none, (some 23), .app 22 9 1 16 (.t 18) (.t 22)⟩,
  ⟨none, (some 1), .mv (.t 23)⟩]
@[reducible] def c2 : IC := .seq (.reg r7) (.reg r8)
@[reducible] def c3 : IC := .block 3 c2
def r9 : List In := [⟨none, (some 24), .bin .add (.t 14) (.k (.a (.int .i64 1)))⟩,
  ⟨none, (some 14), .mv (.t 24)⟩]
@[reducible] def c4 : IC := .seq c3 (.reg r9)
@[reducible] def c5 : IC := .seq c1 c4
@[reducible] def c6 : IC := .seq (.reg r6) c5
@[reducible] def c7 : IC := .loop c6
@[reducible] def c8 : IC := .block 2 c7
@[reducible] def c9 : IC := .seq (.reg r5) c8
@[reducible] def c10 : IC := .seq (.reg r4) c9
@[reducible] def c11 : IC := .block 1 c10
def r10 : List In := [⟨none, (some 25), .bin .add (.t 8) (.k (.a (.int .i64 1)))⟩,
  ⟨none, (some 8), .mv (.t 25)⟩]
@[reducible] def c12 : IC := .seq c11 (.reg r10)
@[reducible] def c13 : IC := .seq c0 c12
@[reducible] def c14 : IC := .seq (.reg r3) c13
@[reducible] def c15 : IC := .loop c14
@[reducible] def c16 : IC := .block 0 c15
@[reducible] def c17 : IC := .seq (.reg r2) c16
def r11 : List In := [⟨none, (some 26), .mv (.t 1)⟩,
  ⟨none, (some 0), .mv (.t 26)⟩]
@[reducible] def c18 : IC := .seq (.reg r11) .ret
@[reducible] def c19 : IC := .seq c17 c18
@[reducible] def c20 : IC := .seq (.reg r1) c19
@[reducible] def c21 : IC := .seq (.reg r0) c20
@[reducible] def code : IC := c21
def res : List RV := [.tmp 0]
theorem rs : type_of% (And.intro r0.eq_1 <| And.intro r1.eq_1 <| And.intro r2.eq_1 <| And.intro r3.eq_1 <| And.intro r4.eq_1 <| And.intro r5.eq_1 <| And.intro r6.eq_1 <| And.intro r7.eq_1 <| And.intro r8.eq_1 <| And.intro r9.eq_1 <| And.intro r10.eq_1 <| r11.eq_1) := And.intro r0.eq_1 <| And.intro r1.eq_1 <| And.intro r2.eq_1 <| And.intro r3.eq_1 <| And.intro r4.eq_1 <| And.intro r5.eq_1 <| And.intro r6.eq_1 <| And.intro r7.eq_1 <| And.intro r8.eq_1 <| And.intro r9.eq_1 <| And.intro r10.eq_1 <| r11.eq_1
theorem fn : Body Tryz.prog 8 27 code res := ⟨by decide, Tryz.f8, _, Tryz.func8, rfl, rfl, by kernel_rfl, by kernel_rfl⟩
theorem enters : Zu Tryz.prog 8 = true := by kernel_rfl
end Z6
end Go.Proofs.YtjochhncheheaaaGreatDoor
