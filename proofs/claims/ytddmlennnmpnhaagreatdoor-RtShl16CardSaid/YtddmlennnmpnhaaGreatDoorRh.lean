/- A part of the proofs of this seat's laws: steps on the way, joined. It has no conditions of its own. -/
import Derived.Test.YtddmlennnmpnhaaGreatDoorRe
import Derived.Test.YtddmlennnmpnhaaGreatDoorRd
namespace Go.Proofs.YtddmlennnmpnhaaGreatDoor
open Go Go.RowKit Vc
set_option linter.unusedVariables false
set_option linter.unusedSimpArgs false
attribute [local irreducible] T Za Zn Ent RdC RwC Yd Ze Zh
theorem dg_top(x t:Nat):x/4294967296^t=4294967296*(x/4294967296^(t+1))+dg x t:=by
 unfold dg;rw[Nat.pow_succ,←Nat.div_div_eq_div_mul];omega
theorem sm_step(x d t:Nat)(hd:0<d∧d<4294967296):
 (x/4294967296^(t+1)%d*4294967296+dg x t)/d=dg (x/d) t∧(x/4294967296^(t+1)%d*4294967296+dg x t)%d=x/4294967296^t%d:=by
 have h:=dg_top x t
 have hl:=M4 x t
 have e:dg (x/d) t=x/4294967296^t/d%4294967296:=by unfold dg;rw[Nat.div_div_eq_div_mul,Nat.div_div_eq_div_mul,Nat.mul_comm]
 rw[e,h]
 generalize x/4294967296^(t+1)=X
 generalize dg x t=a at*
 have hX:=Nat.div_add_mod X d
 have hr:=Nat.mod_lt X hd.1
 generalize X/d=Xq at*
 generalize X%d=r at*
 have e2:4294967296*X+a=(r*4294967296+a)+d*(4294967296*Xq):=by
  have e3:d*(4294967296*Xq)=4294967296*(d*Xq):=Nat.mul_left_comm _ _ _
  rw[e3,←hX]
  generalize d*Xq=p
  omega
 clear hX
 rw[e2,Nat.add_mul_div_left _ _ hd.1]
 refine And.intro ?_ (Nat.add_mul_mod_self_left _ _ _).symm
 have h3:(r*4294967296+a)/d<4294967296:=Nat.div_lt_of_lt_mul (by
  have:(r+1)*4294967296≤d*4294967296:=Nat.mul_le_mul_right _ hr
  omega)
 generalize (r*4294967296+a)/d=q at*
 rw[Nat.add_mul_mod_self_left,Nat.mod_eq_of_lt h3]
set_option maxHeartbeats 8000000 in
theorem Zi5(x d:Nat)(hd:0<d∧d<4294967296)(hx:x≠0)(hlx:(wds x).length≤100):GC Tryz.prog 56 [.a (.ref 0),.a (.int .u32 (d:Int))] [(0,.ro (.int .u32) (wds x))] 1 [] (.tup [.a (.ref 1),.a (.int .u32 ((x%d:Nat):Int))])
 [(1,.row 90 (.int .u32) (wds (x/d)))] 2:=by
 have hdg:=fun i=>Dm i x
 have hxl:=Zdn x
 have h0:(wds x).length≠0:=fun h=>hx (Vu.1 h)
 generalize wds x=a at*
 have d0:(Kd.int .u32).dflt=(0:Int):=rfl
 have m1:(0:Int)≤a.length:=by omega
 have m2:(4:Nat)*(a.length:Int)≤281474976710656:=by omega
 have m3:(a.length:Int)≤4611686018427387904:=by omega
 have m4:((a.length:Nat):Int).toNat=a.length:=by omega
 have m5:IntKind.i64.wrap ((a.length:Int)-1)=(a.length:Int)-1:=Zk (by omega) (by omega)
 have hxd:x/d<4294967296^a.length:=Nat.lt_of_le_of_lt (Nat.div_le_self _ _) hxl
 have hq0:QI (List.replicate a.length (0:Int)) a.length a.length (x/d):=⟨by simp,fun i=>by
  rw[Nj]
  split
  ·rw[Za0 hxd (by assumption)];rfl
  ·rfl⟩
 have hr0:x/4294967296^a.length%d=0:=by rw[Nat.div_eq_of_lt hxl,Nat.zero_mod]
 refine Tp.fn.gc (by simp) (by simp[Zu,Zw,Zv,Zj,Zf,Vc.S1.okN,At.okN,SV.okN,Res.okN,Res.outOk,Zo,Res.own,Value.oneCell']) fun w X fr=> ?_
 repeat'(first|(first|refine Stp.h ?_)<;>try simp only[Zc,simprocAttr,↓reduceIte,reduceCtorEq,implies_true,m1,m2,m3,m4,m5,d0,-List.reduceReplicate]|(with_reducible first|assumption|refine And.intro ?_ ?_)|(intro h;first|omega|exact tg h ‹_›|exact tg ‹_› h|skip))
 all_goals first|omega|skip
 generalize List.replicate a.length (0:Int)=Z at*
 refine T.loop (ι:= {p:Nat×List Int//p.1≤a.length∧QI p.2 a.length p.1 (x/d)}) (fun p=>⟨[(8,.one (.a (.int .i64 ((p.1.1:Int)-1)))),(7,.one (.a (.int .u64 ((x/4294967296^p.1.1%d:Nat):Int)))),(6,.one (.a (.ref 1))),(0,.one (.a (.ref 0))),(1,.one (.a (.int .u32 (d:Int))))],
  [(1,.row 90 (.int .u32) p.1.2),(0,.ro (.int .u32) a)],2⟩) (fun p=>p.1.1) ⟨(a.length,Z),Nat.le_refl _,hq0⟩ (Ent.mk1 (id) (by simp[Zt,hr0])) ?_
 rintro⟨⟨t,q⟩,ht,hq⟩
 simp only at ht hq ⊢
 have hqlen:=hq.len
 have hmd:x/4294967296^t%d<d:=Nat.mod_lt _ hd.1
 rcases t with _|t
 ·have hp:¬(0:Int)≤((0:Nat):Int)-1:=by omega
  have hqD:IsD q a.length (x/d):=⟨hqlen,fun i=>by rw[hq.d,if_pos (Nat.zero_le _)]⟩
  have hT:=Qa q hqD.ok (by omega)
  rw[hqD.trim hxd]at hT
  rw[Nat.pow_zero,Nat.div_one]at hmd ⊢
  have u1:IntKind.u32.wrap ((x%d:Nat):Int)=((x%d:Nat):Int):=by
   generalize x%d=r at*
   exact IntWalk.u32_in _ (by omega)
  generalize x%d=r at*
  repeat'(first|(first|refine Stp.h ?_|(refine Za.gc hT ?_ ?_;focus simp[Zb];done))<;>try simp only[Zc,simprocAttr,↓reduceIte,reduceCtorEq,implies_true,hp,u1]|(with_reducible first|assumption|refine And.intro ?_ ?_)|(intro h;first|omega|exact tg h ‹_›|exact tg ‹_› h|skip))
  all_goals first|omega|skip
 ·obtain⟨s1,s2⟩:=sm_step x d t hd
  have hst:=hq.step (show t<a.length by omega)
  have hal:=M4 x t
  have hgl:=M4 (x/d) t
  have hda:=hdg t
  generalize x/4294967296^(t+1)%d=r at*
  generalize dg x t=A at*
  generalize dg (x/d) t=g at*
  have p0:(0:Int)≤((t+1:Nat):Int)-1∧(((t+1:Nat):Int)-1).toNat=t∧((t+1:Nat):Int)-1<(a.length:Int)∧t<a.length∧((t+1:Nat):Int)-1<(q.length:Int)∧t<q.length:=by omega
  have tw:IntKind.i64.wrap (((t+1:Nat):Int)-1-1)=(t:Int)-1:=by rw[Zk (by omega) (by omega)];omega
  have u1:IntKind.u64.wrap (A:Int)=A:=IntWalk.u64_in _ (by omega)
  have u2:IntKind.u64.wrap (d:Int)=d:=IntWalk.u64_in _ (by omega)
  have u3:Sn .u64 (r:Int) 32=(r:Int)*4294967296:=by
   show IntKind.u64.wrap ((r:Int)*2^32)=_
   rw[IntWalk.u64_in _ (by omega)];rfl
  have u4:orI .u64 ((r:Int)*4294967296) (A:Int)=((r*4294967296+A:Nat):Int):=by rw[Zbt _ _ ⟨by omega,by omega⟩ ⟨by omega,by omega⟩];omega
  have u5:IntKind.u64.wrap (((r*4294967296+A:Nat):Int).tdiv (d:Int))=(g:Int):=by
   have e:((r*4294967296+A:Nat):Int).tdiv (d:Int)=(((r*4294967296+A)/d:Nat):Int):=rfl
   rw[e,s1];exact IntWalk.u64_in _ (by omega)
  have u6:IntKind.u32.wrap (g:Int)=g:=IntWalk.u32_in _ (by omega)
  have u7:((r*4294967296+A:Nat):Int).tmod (d:Int)=((x/4294967296^t%d:Nat):Int):=by rw[←s2];rfl
  have dn:¬(d:Int)=0:=by omega
  repeat'(first|(first|refine Stp.h ?_)<;>try simp only[Zc,simprocAttr,↓reduceIte,reduceCtorEq,implies_true,p0,tw,hda,u1,u2,u3,u4,u5,u6,u7,dn,d0,ne_eq,not_false_eq_true,Int.ofNat_lt]|(with_reducible first|assumption|refine And.intro ?_ ?_)|(intro h;first|omega|exact tg h ‹_›|exact tg ‹_› h|skip))
  all_goals first|omega|exact⟨⟨(t,_),by omega,hst⟩,(Ent.mk1 (id) (by simp[Zt])),by simp only;omega⟩|skip
theorem Zjj(a:Nat)(ha:a<4294967296):GC Tryz.prog 53 [.a (.ref 0)] [(0,.lit 90 1 1 [.int .u32 (a:Int)])] 1 [] (.one (.a (.ref 1))) [(1,.row 90 (.int .u32) (wds a))] 2:=by
 have h:nv [(a:Int)]=a:=by simp[nv]
 have ho:wOk [(a:Int)]:=Ru.2 ⟨⟨by omega,by omega⟩,Jv⟩
 have key:=Zdj [(a:Int)] ho ⟨by simp,by simp⟩
 rw[h,Int.toNat_natCast]at key
 refine Yy.fn.gc (by simp) (by simp[Zu,Zw,Zv,Zj,Zf,Vc.S1.okN,At.okN,SV.okN,Res.okN,Res.outOk,Zo,Res.own,Value.oneCell']) fun w X fr=> ?_
 refine T.weak (Ent.litRow (m:=0) (E:=90) (z:=1) (e:=1) (l:=[.int .u32 (a:Int)]) (.int .u32) [(a:Int)] rfl rfl rfl rfl (by decide)) ?_
 exact T.weak (Ent.mk1 id (by simp[Zt,Y2,Vc.frS])) (key w X fr)
theorem divS_gc(x:Nat)(hx:18446744073709551616≤x)(hla:(wds x).length≤10):GC Tryz.prog 38 [.a (.ref 0),.a (.ref 1)] [(0,.ro (.int .u32) (wds x)),(1,.ro (.int .u32) (wds (2^16)))] 2 [] (.tup [.a (.ref 2),.a (.ref 3)])
 [(2,.row 90 (.int .u32) (wds (x/2^16))),(3,.row 90 (.int .u32) (wds (x%2^16)))] 4:=by
 have hC:=M1 x (2^16) (by omega) (by rw[show(2:Nat)^16=65536 by decide,Wl (by decide),show(65536:Nat)/4294967296=0 by decide,Yc];decide)
 have c1:¬cmpI x (2^16)<0:=by unfold cmpI;rw[if_neg (by omega)];split<;>decide
 generalize cmpI x (2^16)=cv at*
 have e16:(2:Nat)^16=65536:=by decide
 rw[e16]at hC ⊢
 have hb:wds 65536=[65536]:=by rw[Wl (by decide)];rw[show(65536:Nat)/4294967296=0 by decide,Yc];rfl
 rw[hb]at hC ⊢
 have hS:=Zi5 x 65536 ⟨by decide,by decide⟩ (by omega) (by omega)
 have hm:x%65536<65536:=Nat.mod_lt _ (by decide)
 have hT:=Zjj (x%65536) (by omega)
 have cd:((65536:Nat):Int)=65536:=rfl
 rw[cd]at hS
 have hxl:=Zdn x
 have a2:¬((wds x).length:Int)≤2:=by
  intro h
  have:4294967296^(wds x).length≤4294967296^2:=Nat.pow_le_pow_right (by decide) (by omega)
  have:(4294967296:Nat)^2=18446744073709551616:=by decide
  omega
 clear hxl
 generalize wds x=a at*
 generalize x/65536=Q at*
 generalize x%65536=R at*
 have d0:(Kd.int .u32).dflt=(0:Int):=rfl
 refine Wh.fn.gc (by simp) (by simp[Zu,Zw,Zv,Zj,Zf,Vc.S1.okN,At.okN,SV.okN,Res.okN,Res.outOk,Zo,Res.own,Value.oneCell']) fun w' X fr=> ?_
 repeat'(first|(first|refine Stp.h ?_|(refine rq hC ?_ ?_;focus simp[Zz];done)|(refine Za.gc hS ?_ ?_;focus simp[Zb];done)|(refine Za.gc hT ?_ ?_;focus simp[Zb];done))<;>try simp only[Zc,simprocAttr,↓reduceIte,reduceCtorEq,implies_true,c1,a2,d0,List.length_cons,List.length_nil,List.getD_cons_zero,decide_true,decide_false]|(with_reducible first|assumption|refine And.intro ?_ ?_)|(intro h;first|omega|exact tg h ‹_›|exact tg ‹_› h|skip))
 all_goals first|omega|skip
theorem FitT_gc(x:Nat)(hx:(wds x).length≤10):GC Tryz.prog 27 [.a (.loc 0 0),.a (.int .i64 ((16:Nat):Int))] [(0,.rocells [.bool false,.ref 1]),(1,.ro (.int .u32) (wds x))] 2 [] (.one (.a (.int .u64 ((x%2^16:Nat):Int)))) [] 2:=by
 rcases Nat.lt_or_ge x 18446744073709551616 with h|h
 ·exact N5 x 16 h (by omega)
 ·exact Fx x 16 (by decide) (divS_gc x h hx)
end Go.Proofs.YtddmlennnmpnhaaGreatDoor
namespace Go.Proofs.YtddmlennnmpnhaaGreatDoor
open Go Go.RowKit Vc
set_option linter.unusedVariables false
set_option linter.unusedSimpArgs false
theorem D5(x c:Nat)(hx:x<18446744073709551616)(hc:c<65536):GC Tryz.prog 17 [.a (.int .u64 (x:Int)),.a (.int .u64 (c:Int)),.a (.int .i64 ((16:Nat):Int)),.a (.bool true),.a (.bool false)] [] 0 []
 (.tup [.a (.int .u64 ((x%2^16*2^min c 64%2^16:Nat):Int)),.a (.int .i64 0)]) [] 0:=Zao x c 16 hx hc (.inl rfl) fun z h=>FitT_gc z h
end Go.Proofs.YtddmlennnmpnhaaGreatDoor
