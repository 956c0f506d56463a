/-
  Numbers moved down, without signs. It has no conditions of its own.
-/
import Derived.Test.YtddmlennnmpnhaaGreatDoorQn
import Derived.Test.YtddmlennnmpnhaaGreatDoorQy
namespace Go.Proofs.YtddmlennnmpnhaaGreatDoor
open Go Go.RowKit Vc
set_option linter.unusedVariables false
set_option linter.unusedSimpArgs false
attribute [local irreducible] T Za Zn Ent RdC RwC Yd Ze Zh
theorem Jb(k:Nat)(hk:k≤64):(wds (2^k)).length≤3:=W3 3 _ (by
 have:2^k≤2^64:=Nat.pow_le_pow_right (by decide) hk
 have:(2:Nat)^64<4294967296^3:=by decide
 omega)
theorem Zap(x c w:Nat)(hx:x<18446744073709551616)(hc:c<65536)(hw:w=16∨w=32∨w=64):GC Tryz.prog 17 [.a (.int .u64 (x:Int)),.a (.int .u64 (c:Int)),.a (.int .i64 (w:Int)),.a (.bool false),.a (.bool false)] [] 0 []
 (.tup [.a (.int .u64 ((x%2^w/2^min c 64%2^w:Nat):Int)),.a (.int .i64 0)]) [] 0:=by
 have hW:=Sv w (by omega)
 have hX:=Ds x w hx (by omega)
 have hT:=Oi (min c 64) (by omega)
 have hl:=Jb (min c 64) (by omega)
 have hp:2^min c 64≠0:=Nat.ne_of_gt (Nat.pow_pos (by decide))
 have hle:x%2^w≤x:=Nat.mod_le _ _
 have hD:=Lt (x%2^w) (2^min c 64) (by omega) hp (by omega) false false
 have hq:x%2^w/2^min c 64≤x%2^w:=Nat.div_le_self _ _
 have hF:=N5 (x%2^w/2^min c 64) w (by omega) (by omega)
 have w1:IntKind.i64.wrap ((min c 64:Nat):Int)=((min c 64:Nat):Int):=Zk (by omega) (by omega)
 refine Xt.fn.gc (by simp) (by simp[Zu,Zw,Zv,Zj,Zf,Vc.S1.okN,At.okN,SV.okN,Res.okN,Res.outOk,Zo,Res.own,Value.oneCell']) fun w' X' fr=> ?_
 generalize hk:min c 64=k at*
 by_cases h:c≤64
 ·obtain rfl:c=k:=by omega
  have c1:¬(64:Int)<(c:Int):=by omega
  generalize x%2^w=X at*
  generalize 2^c=Y at*
  repeat'(first|(first|refine Stp.h ?_|(refine Za.gc hW ?_ ?_;focus simp[Zb];done)|(refine Za.gc hX ?_ ?_;focus simp[Zb];done)|(refine Za.gc hT ?_ ?_;focus simp[Zb];done)|(refine Za.gc hD ?_ ?_;focus simp[Zb];done)|(refine Za.gc hF ?_ ?_;focus simp[Zb];done))<;>try simp only[Zc,simprocAttr,↓reduceIte,reduceCtorEq,implies_true,c1,w1,decide_true,decide_false]|(with_reducible first|assumption|refine And.intro ?_ ?_)|(intro h;first|omega|exact tg h ‹_›|exact tg ‹_› h|skip))
 ·obtain rfl:k=64:=by omega
  have c1:(64:Int)<(c:Int):=by omega
  have c64:((64:Nat):Int)=64:=rfl
  rw[c64]at hT w1
  generalize x%2^w=X at*
  generalize (2:Nat)^64=Y at*
  repeat'(first|(first|refine Stp.h ?_|(refine Za.gc hW ?_ ?_;focus simp[Zb];done)|(refine Za.gc hX ?_ ?_;focus simp[Zb];done)|(refine Za.gc hT ?_ ?_;focus simp[Zb];done)|(refine Za.gc hD ?_ ?_;focus simp[Zb];done)|(refine Za.gc hF ?_ ?_;focus simp[Zb];done))<;>try simp only[Zc,simprocAttr,↓reduceIte,reduceCtorEq,implies_true,c1,w1,decide_true,decide_false]|(with_reducible first|assumption|refine And.intro ?_ ?_)|(intro h;first|omega|exact tg h ‹_›|exact tg ‹_› h|skip))
end Go.Proofs.YtddmlennnmpnhaaGreatDoor
