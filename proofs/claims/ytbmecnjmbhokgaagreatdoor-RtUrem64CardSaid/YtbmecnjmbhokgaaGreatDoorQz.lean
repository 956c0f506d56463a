/- A part of the proofs of this seat's laws: steps on the way, joined. It has no conditions of its own. -/
import Derived.Test.YtbmecnjmbhokgaaGreatDoorQx
import Derived.Test.YtbmecnjmbhokgaaGreatDoorQy
import Derived.Test.YtbmecnjmbhokgaaGreatDoorQn
namespace Go.Proofs.YtbmecnjmbhokgaaGreatDoor
open Go Vc
set_option linter.unusedVariables false
set_option linter.unusedSimpArgs false
theorem Su{code:List Int}(r:Bool)(n:Nat)(hn:n=1∨n=2∨n=4)(hat:atB code 3 (N8 r n 3)=true)(a b:Nat)(hb:b%2^(16*n)≠0):
 Zdi code n n a b ((if r=true then a%2^(16*n)%(b%2^(16*n))else a%2^(16*n)/(b%2^(16*n)))%2^(16*n)):=fun s p q T h=>by
 have ht:=h.t
 have h2:=h.d2
 have h3:=h.d3
 rw[Wj]at hb
 obtain⟨k,s',hR,hk,-,hv⟩:=Ck code r n hn 3 0 ⟨by decide,by decide⟩ (.of hat) s h.ok p q T h.r0 h.r1 h.r7 h.pn h.qm (by omega) (by omega) (by omega) h.d1 (by rw[h.v2];omega)
 refine⟨k,s',n,hR,by omega,by omega,?_⟩
 rw[hv,h.v1,h.v2,Wj,Nat.mod_mod]
 have hX:=Nat.mod_lt a (Nat.pow_pos (n:=n) (show 0<65536 by decide))
 generalize a%65536^n=X at*
 generalize b%65536^n=Y at*
 cases r
 ·simp only[Bool.false_eq_true,if_false]
  rw[Nat.mod_eq_of_lt (Nat.lt_of_le_of_lt (Nat.div_le_self _ _) hX),Int.natCast_ediv]
 ·simp only[if_true]
  rw[Nat.mod_eq_of_lt (Nat.lt_of_le_of_lt (Nat.mod_le _ _) hX),Int.natCast_emod]
theorem Sv{code:List Int}(r:Bool)(n:Nat)(hn:n=1∨n=2∨n=4)(hat:atB code 3 (N8 r n 3)=true)(a b:Nat)(hb:b%2^(16*n)=0):Zdl code n n a b:=fun s p q T h=>by
 have ht:=h.t
 rw[Wj]at hb
 obtain⟨k,s',hR,hk,ho,hg⟩:=Cm code r n hn 3 0 ⟨by decide,by decide⟩ (.of hat) s h.ok q h.r1 h.qm (by rw[h.v2,hb];rfl)
 have z:=(M5 n hn).2.1
 have y:=Z9 (dS1 n)
 have e:dA n 3=3+Z1 (dS1 n):=rfl
 exact⟨k,s',_,hR,by omega,ho,(DivAt.of hat).tr,by omega,hg T⟩
end Go.Proofs.YtbmecnjmbhokgaaGreatDoor
namespace Go.Proofs.YtbmecnjmbhokgaaGreatDoor
open Go Go.RowKit Vc
set_option linter.unusedVariables false
set_option linter.unusedSimpArgs false
attribute [local irreducible] T Za Zn Ent RdC RwC Ye Zf Zh
theorem Qn(r:Bool)(x y w:Nat)(hx:x<18446744073709551616)(hy:y<18446744073709551616)(hw:w=16∨w=32∨w=64)(h0:y%2^w≠0):GC Tryz.prog 15 [.a (.int .u8 (if r=true then 37 else 47)),.a (.int .u64 (x:Int)),.a (.int .u64 (y:Int)),.a (.int .i64 (w:Int)),.a (.bool false)] [] 0 []
 (.tup [.a (.int .u64 (((if r=true then x%2^w%(y%2^w)else x%2^w/(y%2^w))%2^w:Nat):Int)),.a (.int .i64 0)]) [] 0:=by
 have hW:=Te w (by omega)
 have hX:=Tq x w hx (by omega)
 have hY:=Tq y w hy (by omega)
 have hxl:x%2^w≤x:=Nat.mod_le _ _
 have hyl:y%2^w≤y:=Nat.mod_le _ _
 have l2:=We 2 (y%2^w) (by omega)
 have hS:=Zhb (wds (y%2^w)) (fun h=>h0 (Vg.1 h))
 have hQ:=Gk (x%2^w) (y%2^w) (by omega) h0 (by omega) false false
 have hq:x%2^w/(y%2^w)≤x%2^w:=Nat.div_le_self _ _
 have hr:x%2^w%(y%2^w)≤x%2^w:=Nat.mod_le _ _
 have hF1:=Og (x%2^w/(y%2^w)) w (by omega) (by omega)
 have hF2:=Og (x%2^w%(y%2^w)) w (by omega) (by omega)
 generalize x%2^w=X at*
 generalize y%2^w=Y at*
 refine Y1.fn.gc (by simp) (by simp[Zu,Zw,Zv,Zj,Ze,Vc.S1.okN,At.okN,SV.okN,Res.okN,Res.outOk,Zo,Res.own,Value.oneCell']) fun w X fr=> ?_
 cases r
 ·repeat'(first|(first|refine Stp.h ?_|(refine Za.gc hW ?_ ?_;focus simp[Zb];done)|(refine Za.gc hX ?_ ?_;focus simp[Zb];done)|(refine Za.gc hY ?_ ?_;focus simp[Zb];done)|(refine Za.gc hS ?_ ?_;focus simp[Zb];done)|(refine Za.gc hQ ?_ ?_;focus simp[Zb];done)|(refine Za.gc hF1 ?_ ?_;focus simp[Zb];done))<;>try simp only[Zc,simprocAttr,↓reduceIte,reduceCtorEq,implies_true,decide_true,decide_false,Bool.false_eq_true]|(with_reducible first|assumption|refine And.intro ?_ ?_)|(intro h;first|omega|exact tg h ‹_›|exact tg ‹_› h|skip))
 ·repeat'(first|(first|refine Stp.h ?_|(refine Za.gc hW ?_ ?_;focus simp[Zb];done)|(refine Za.gc hX ?_ ?_;focus simp[Zb];done)|(refine Za.gc hY ?_ ?_;focus simp[Zb];done)|(refine Za.gc hS ?_ ?_;focus simp[Zb];done)|(refine Za.gc hQ ?_ ?_;focus simp[Zb];done)|(refine Za.gc hF2 ?_ ?_;focus simp[Zb];done))<;>try simp only[Zc,simprocAttr,↓reduceIte,reduceCtorEq,implies_true,decide_true,decide_false,Bool.false_eq_true]|(with_reducible first|assumption|refine And.intro ?_ ?_)|(intro h;first|omega|exact tg h ‹_›|exact tg ‹_› h|skip))
theorem Sp(r:Bool)(x y w:Nat)(hx:x<18446744073709551616)(hy:y<18446744073709551616)(hw:w=16∨w=32∨w=64)(h0:y%2^w=0):GC Tryz.prog 15 [.a (.int .u8 (if r=true then 37 else 47)),.a (.int .u64 (x:Int)),.a (.int .u64 (y:Int)),.a (.int .i64 (w:Int)),.a (.bool false)] [] 0 []
 (.tup [.a (.int .u64 0),.a (.int .i64 10)]) [] 0:=by
 have hW:=Te w (by omega)
 have hX:=Tq x w hx (by omega)
 have hY:=Tq y w hy (by omega)
 rw[h0,Yd]at hY
 have hS:=Gl
 generalize x%2^w=X at*
 refine Y1.fn.gc (by simp) (by simp[Zu,Zw,Zv,Zj,Ze,Vc.S1.okN,At.okN,SV.okN,Res.okN,Res.outOk,Zo,Res.own,Value.oneCell']) fun w X fr=> ?_
 cases r
 ·repeat'(first|(first|refine Stp.h ?_|(refine Za.gc hW ?_ ?_;focus simp[Zb];done)|(refine Za.gc hX ?_ ?_;focus simp[Zb];done)|(refine Za.gc hY ?_ ?_;focus simp[Zb];done)|(refine Za.gc hS ?_ ?_;focus simp[Zb];done))<;>try simp only[Zc,simprocAttr,↓reduceIte,reduceCtorEq,implies_true,decide_true,decide_false,Bool.false_eq_true]|(with_reducible first|assumption|refine And.intro ?_ ?_)|(intro h;first|omega|exact tg h ‹_›|exact tg ‹_› h|skip))
 ·repeat'(first|(first|refine Stp.h ?_|(refine Za.gc hW ?_ ?_;focus simp[Zb];done)|(refine Za.gc hX ?_ ?_;focus simp[Zb];done)|(refine Za.gc hY ?_ ?_;focus simp[Zb];done)|(refine Za.gc hS ?_ ?_;focus simp[Zb];done))<;>try simp only[Zc,simprocAttr,↓reduceIte,reduceCtorEq,implies_true,decide_true,decide_false,Bool.false_eq_true]|(with_reducible first|assumption|refine And.intro ?_ ?_)|(intro h;first|omega|exact tg h ‹_›|exact tg ‹_› h|skip))
end Go.Proofs.YtbmecnjmbhokgaaGreatDoor
