/-
  Lower bits of long numbers. It has no conditions of its own.
-/
import Derived.Test.YtddmlennnmpnhaaGreatDoorRd
namespace Go.Proofs.YtddmlennnmpnhaaGreatDoor
open Go Go.RowKit Vc
set_option linter.unusedVariables false
set_option linter.unusedSimpArgs false
attribute [local irreducible] T Za Zn Ent RdC RwC Yd Ze Zh
theorem Fx(x w:Nat)(hw:w≤64)(hD:GC Tryz.prog 38 [.a (.ref 0),.a (.ref 1)] [(0,.ro (.int .u32) (wds x)),(1,.ro (.int .u32) (wds (2^w)))] 2 [] (.tup [.a (.ref 2),.a (.ref 3)])
 [(2,.row 90 (.int .u32) (wds (x/2^w))),(3,.row 90 (.int .u32) (wds (x%2^w)))] 4):GC Tryz.prog 27 [.a (.loc 0 0),.a (.int .i64 (w:Int))] [(0,.rocells [.bool false,.ref 1]),(1,.ro (.int .u32) (wds x))] 2 [] (.one (.a (.int .u64 ((x%2^w:Nat):Int)))) [] 2:=by
 have h64:2^w≤2^64:=Nat.pow_le_pow_right (by decide) hw
 have e64:(2:Nat)^64=18446744073709551616:=by decide
 have hl:(wds (2^w)).length≤3:=W3 3 _ (by
  have:(2:Nat)^64<4294967296^3:=by decide
  omega)
 have hT:=Oi w hw
 have hm:=Nat.mod_lt x (Nat.pow_pos (n:=w) (show 0<2 by decide))
 have hU:=Pk (x%2^w) (by omega) false
 have hG:=Uu false false (wds (x/2^w))
 have hG2:=Uu false false (wds (x%2^w))
 have hS:=F2 false false (wds (2^w)) (by omega) rfl
 simp only[Bool.false_and]at hG hG2
 generalize x/2^w=q at*
 generalize x%2^w=r at*
 clear hm h64
 generalize 2^w=y at*
 have hQ:GC Tryz.prog 24 [.a (.loc 0 0),.a (.loc 1 0),.a (.loc 3 0),.a (.loc 5 0)]
  [(0,.cells 34 [.bool false,.raw (.slice none 0 0)]),(1,.rocells [.bool false,.ref 2]),(2,.ro (.int .u32) (wds x)),(3,.rocells [.bool false,.ref 4]),(4,.ro (.int .u32) (wds y)),(5,.cells 34 [.bool false,.raw (.slice none 0 0)])] 6 [0,5] (.tup [.a (.loc 0 0),.a (.loc 5 0)])
  [(0,.cells 34 [.bool false,.ref 6]),(6,.row 90 (.int .u32) (wds q)),(5,.cells 34 [.bool false,.ref 7]),(7,.row 90 (.int .u32) (wds r))] 8:=by
  refine Yw.fn.gc (by simp) (by simp[Zu,Zw,Zv,Zj,Zf,Vc.S1.okN,At.okN,SV.okN,Res.okN,Res.outOk,Zo,Res.own,Value.oneCell']) fun w X fr=> ?_
  repeat'(first|(first|refine Stp.h ?_|(refine Za.gc hD ?_ ?_;focus simp[Zb];done)|(refine Za.gc hG ?_ ?_;focus simp[Zb];done)|(refine Za.gc hG2 ?_ ?_;focus simp[Zb];done))<;>try simp only[Zc,simprocAttr,↓reduceIte,reduceCtorEq,implies_true,bne_self_eq_false]|(with_reducible first|assumption|refine And.intro ?_ ?_)|(intro h;first|omega|exact tg h ‹_›|exact tg ‹_› h|skip))
 have hDM:GC Tryz.prog 32 [.a (.loc 0 0),.a (.loc 1 0),.a (.loc 3 0),.a (.loc 5 0)]
  [(0,.cells 34 [.bool false,.raw (.slice none 0 0)]),(1,.rocells [.bool false,.ref 2]),(2,.ro (.int .u32) (wds x)),(3,.rocells [.bool false,.ref 4]),(4,.ro (.int .u32) (wds y)),(5,.cells 34 [.bool false,.raw (.slice none 0 0)])] 6 [0,5] (.tup [.a (.loc 0 0),.a (.loc 5 0)])
  [(0,.cells 34 [.bool false,.ref 6]),(6,.row 90 (.int .u32) (wds q)),(5,.cells 34 [.bool false,.ref 7]),(7,.row 90 (.int .u32) (wds r))] 8:=by
  refine Yv.fn.gc (by simp) (by simp[Zu,Zw,Zv,Zj,Zf,Vc.S1.okN,At.okN,SV.okN,Res.okN,Res.outOk,Zo,Res.own,Value.oneCell']) fun w X fr=> ?_
  repeat'(first|(first|refine Stp.h ?_|(refine Za.gc hQ ?_ ?_;focus simp[Zb];done)|(refine Za.gc hS ?_ ?_;focus simp[Zb];done))<;>try simp only[Zc,simprocAttr,↓reduceIte,reduceCtorEq,implies_true]|(with_reducible first|assumption|refine And.intro ?_ ?_)|(intro h;first|omega|exact tg h ‹_›|exact tg ‹_› h|skip))
 have hM:GC Tryz.prog 41 [.a (.loc 0 0),.a (.loc 1 0),.a (.loc 3 0)]
  [(0,.cells 34 [.bool false,.raw (.slice none 0 0)]),(1,.rocells [.bool false,.ref 2]),(2,.ro (.int .u32) (wds x)),(3,.rocells [.bool false,.ref 4]),(4,.ro (.int .u32) (wds y))] 5 [0] (.one (.a (.loc 0 0)))
  [(0,.cells 34 [.bool false,.ref 5]),(5,.row 90 (.int .u32) (wds r))] 6:=by
  refine Xi.fn.gc (by simp) (by simp[Zu,Zw,Zv,Zj,Zf,Vc.S1.okN,At.okN,SV.okN,Res.okN,Res.outOk,Zo,Res.own,Value.oneCell']) fun w X fr=> ?_
  repeat'(first|(first|refine Stp.h ?_|(refine Za.gc hDM ?_ ?_;focus simp[Zb];done))<;>try simp only[Zc,simprocAttr,↓reduceIte,reduceCtorEq,implies_true]|(with_reducible first|assumption|refine And.intro ?_ ?_)|(intro h;first|omega|exact tg h ‹_›|exact tg ‹_› h|skip))
 refine X8.fn.gc (by simp) (by simp[Zu,Zw,Zv,Zj,Zf,Vc.S1.okN,At.okN,SV.okN,Res.okN,Res.outOk,Zo,Res.own,Value.oneCell']) fun w X fr=> ?_
 repeat'(first|(first|refine Stp.h ?_|(refine Za.gc hT ?_ ?_;focus simp[Zb];done)|(refine Za.gc hM ?_ ?_;focus simp[Zb];done)|(refine Za.gc hU ?_ ?_;focus simp[Zb];done))<;>try simp only[Zc,simprocAttr,↓reduceIte,reduceCtorEq,implies_true]|(with_reducible first|assumption|refine And.intro ?_ ?_)|(intro h;first|omega|exact tg h ‹_›|exact tg ‹_› h|skip))
theorem Zdq(x w:Nat)(hw:w=32∨w=64)(hx:(wds x).length≤10):GC Tryz.prog 27 [.a (.loc 0 0),.a (.int .i64 (w:Int))] [(0,.rocells [.bool false,.ref 1]),(1,.ro (.int .u32) (wds x))] 2 [] (.one (.a (.int .u64 ((x%2^w:Nat):Int)))) [] 2:=by
 rcases Nat.lt_or_ge x 18446744073709551616 with h|h
 ·exact N5 x w h (by omega)
 ·rcases hw with rfl|rfl
  ·exact Fx x 32 (by decide) (Zd2 x 1 ⟨by decide,by decide⟩ h hx)
  ·exact Fx x 64 (by decide) (Zd2 x 2 ⟨by decide,by decide⟩ h hx)
end Go.Proofs.YtddmlennnmpnhaaGreatDoor
