/- The small code of functions, and that it is theirs: printed by a program over the seat's translation. -/
import Derived.Test.YtccjjcdjgibilaaDoorVcGf
import Derived.Test.YtccjjcdjgibilaaDoorChecked
import Derived.KernelRfl
namespace Go.Proofs.YtccjjcdjgibilaaDoor
open Vc
namespace Vn
def r0 : List In := [⟨none, (some 0), .mv (.k (.a (.raw (.slice none 0 0))))⟩]
def r1 : List In := [⟨none, (some 1), .bsl 9 1 33 [.str [], .str [], .str [], .str [], .str [], .str [], .str [], .str [], .str [], .str [], .str [], .str [], .str [], .str [], .str [], .str [], .str [], .str [], .str [], .str [], .str [], .str [], .str [], .str [], .str [], .str [], .str [], .str [], .str [], .str [], .str [], .str [], .str []] [(0, 1, (.k (.a (.str [104, 97, 108, 116])))), (1, 1, (.k (.a (.str [109, 111, 118])))), (2, 1, (.k (.a (.str [108, 100, 105])))), (3, 1, (.k (.a (.str [108, 100])))), (4, 1, (.k (.a (.str [115, 116])))), (5, 1, (.k (.a (.str [97, 100, 100])))), (6, 1, (.k (.a (.str [97, 100, 99])))), (7, 1, (.k (.a (.str [115, 117, 98])))), (8, 1, (.k (.a (.str [115, 98, 99])))), (9, 1, (.k (.a (.str [97, 110, 100])))), (10, 1, (.k (.a (.str [111, 114])))), (11, 1, (.k (.a (.str [120, 111, 114])))), (12, 1, (.k (.a (.str [99, 109, 112])))), (13, 1, (.k (.a (.str [99, 112, 99])))), (14, 1, (.k (.a (.str [115, 104, 108])))), (15, 1, (.k (.a (.str [114, 111, 108])))), (16, 1, (.k (.a (.str [115, 104, 114])))), (17, 1, (.k (.a (.str [115, 97, 114])))), (18, 1, (.k (.a (.str [114, 111, 114])))), (19, 1, (.k (.a (.str [106, 109, 112])))), (20, 1, (.k (.a (.str [106, 122])))), (21, 1, (.k (.a (.str [106, 110, 122])))), (22, 1, (.k (.a (.str [106, 99])))), (23, 1, (.k (.a (.str [106, 110, 99])))), (24, 1, (.k (.a (.str [106, 108, 116])))), (25, 1, (.k (.a (.str [106, 103, 101])))), (26, 1, (.k (.a (.str [99, 97, 108, 108])))), (27, 1, (.k (.a (.str [114, 101, 116])))), (28, 1, (.k (.a (.str [112, 117, 115, 104])))), (29, 1, (.k (.a (.str [112, 111, 112])))), (30, 1, (.k (.a (.str [111, 117, 116])))), (31, 1, (.k (.a (.str [105, 110])))), (32, 1, (.k (.a (.str [116, 114, 97, 112]))))]⟩,
  ⟨none, (some 0), .mv (.t 1)⟩]
@[reducible] def c0 : IC := .seq (.reg r1) .ret
@[reducible] def c1 : IC := .seq (.reg r0) c0
@[reducible] def code : IC := c1
def res : List RV := [.tmp 0]
theorem rs : type_of% (And.intro r0.eq_1 <| r1.eq_1) := And.intro r0.eq_1 <| r1.eq_1
theorem fn : Body Tryd.prog 32 2 code res := ⟨by decide, Tryd.f32, _, Tryd.func32, rfl, rfl, by kernel_rfl, by kernel_rfl⟩
theorem enters : X0 Tryd.prog 32 = true := by kernel_rfl
end Vn
namespace W1
def r0 : List In := [⟨none, (some 2), .mv (.k (.a (.str [])))⟩]
def r1 : List In := [⟨none, (some 4), .bsl 9 1 33 [.str [], .str [], .str [], .str [], .str [], .str [], .str [], .str [], .str [], .str [], .str [], .str [], .str [], .str [], .str [], .str [], .str [], .str [], .str [], .str [], .str [], .str [], .str [], .str [], .str [], .str [], .str [], .str [], .str [], .str [], .str [], .str [], .str []] [(0, 1, (.k (.a (.str [104, 97, 108, 116])))), (1, 1, (.k (.a (.str [109, 111, 118])))), (2, 1, (.k (.a (.str [108, 100, 105])))), (3, 1, (.k (.a (.str [108, 100])))), (4, 1, (.k (.a (.str [115, 116])))), (5, 1, (.k (.a (.str [97, 100, 100])))), (6, 1, (.k (.a (.str [97, 100, 99])))), (7, 1, (.k (.a (.str [115, 117, 98])))), (8, 1, (.k (.a (.str [115, 98, 99])))), (9, 1, (.k (.a (.str [97, 110, 100])))), (10, 1, (.k (.a (.str [111, 114])))), (11, 1, (.k (.a (.str [120, 111, 114])))), (12, 1, (.k (.a (.str [99, 109, 112])))), (13, 1, (.k (.a (.str [99, 112, 99])))), (14, 1, (.k (.a (.str [115, 104, 108])))), (15, 1, (.k (.a (.str [114, 111, 108])))), (16, 1, (.k (.a (.str [115, 104, 114])))), (17, 1, (.k (.a (.str [115, 97, 114])))), (18, 1, (.k (.a (.str [114, 111, 114])))), (19, 1, (.k (.a (.str [106, 109, 112])))), (20, 1, (.k (.a (.str [106, 122])))), (21, 1, (.k (.a (.str [106, 110, 122])))), (22, 1, (.k (.a (.str [106, 99])))), (23, 1, (.k (.a (.str [106, 110, 99])))), (24, 1, (.k (.a (.str [106, 108, 116])))), (25, 1, (.k (.a (.str [106, 103, 101])))), (26, 1, (.k (.a (.str [99, 97, 108, 108])))), (27, 1, (.k (.a (.str [114, 101, 116])))), (28, 1, (.k (.a (.str [112, 117, 115, 104])))), (29, 1, (.k (.a (.str [112, 111, 112])))), (30, 1, (.k (.a (.str [111, 117, 116])))), (31, 1, (.k (.a (.str [105, 110])))), (32, 1, (.k (.a (.str [116, 114, 97, 112]))))]⟩,
  ⟨none, (some 3), .mv (.t 4)⟩]
def r2 : List In := [⟨none, (some 5), .mv (.t 3)⟩,
  ⟨none, (some 6), .mv (.t 0)⟩,
  ⟨none, (some 7), .iaddr 1 (.t 5) (.t 6)⟩,
  ⟨none, (some 8), .load 1 false (.t 7)⟩,
  ⟨none, (some 2), .mv (.t 8)⟩]
@[reducible] def c0 : IC := .seq (.reg r2) .ret
@[reducible] def c1 : IC := .seq (.reg r1) c0
@[reducible] def c2 : IC := .seq (.reg r0) c1
@[reducible] def code : IC := c2
def res : List RV := [.tmp 2]
theorem rs : type_of% (And.intro r0.eq_1 <| And.intro r1.eq_1 <| r2.eq_1) := And.intro r0.eq_1 <| And.intro r1.eq_1 <| r2.eq_1
theorem fn : Body Tryd.prog 35 9 code res := ⟨by decide, Tryd.f35, _, Tryd.func35, rfl, rfl, by kernel_rfl, by kernel_rfl⟩
theorem enters : X0 Tryd.prog 35 = true := by kernel_rfl
end W1
end Go.Proofs.YtccjjcdjgibilaaDoor
