/- A part of the proofs of this seat's laws: steps on the way, joined. It has no conditions of its own. -/
import Derived.Test.YtddmlennnmpnhaaGreatDoorQh
import Derived.Test.YtddmlennnmpnhaaGreatDoorChecked
import Derived.KernelRfl
import Derived.Test.YtddmlennnmpnhaaGreatDoorRa
import Derived.Test.YtddmlennnmpnhaaGreatDoorRb
import Derived.Test.YtddmlennnmpnhaaGreatDoorQy
namespace Go.Proofs.YtddmlennnmpnhaaGreatDoor
open Vc
namespace V2
abbrev r0:List In:=[i1 12 (.mv (kB false))]
abbrev r1:List In:=[mv 16 0,mv 17 1,i1 18 (.bin .rem (.t 17) (.k (.a (.int .u64 65536)))),i1 19 (.call 17 [.t 16,.t 18,kI 16,kB false,kB true]),mv 15 19,i1 20 (.ext 0 (.t 15)),i1 21 (.ext 1 (.t 15)),mv 13 20,mv 14 21]
abbrev r2:List In:=[mv 22 0,mv 23 1,mv 24 2,mv 25 3,mv 26 4,mv 27 5,mv 28 13,mv 29 14,i1 30 (.bin .eql (.t 29) (kI 10)),i1 31 (.call 16 [(.k (.a (.str [115,97,114,49]))),kI 1,kI 1,.t 22,.t 23,.t 24,.t 25,.t 26,.t 27,.t 28,.t 30]),mv 12 31]
abbrev code:IC:=.seq (.reg r0) (.seq (.reg r1) (.seq (.reg r2) .ret))
abbrev res:List RV:=[.tmp 12]
theorem fn:Body Tryz.prog 12 32 code res:=⟨by decide,Tryz.f12,_,Tryz.func12,rfl,rfl,by kernel_rfl,by kernel_rfl⟩
end V2
namespace V3
abbrev r0:List In:=[i1 12 (.mv (kB false))]
abbrev r1:List In:=[mv 16 0,mv 17 1,i1 18 (.bin .rem (.t 17) (.k (.a (.int .u64 65536)))),i1 19 (.call 17 [.t 16,.t 18,kI 32,kB false,kB true]),mv 15 19,i1 20 (.ext 0 (.t 15)),i1 21 (.ext 1 (.t 15)),mv 13 20,mv 14 21]
abbrev r2:List In:=[mv 22 0,mv 23 1,mv 24 2,mv 25 3,mv 26 4,mv 27 5,mv 28 13,mv 29 14,i1 30 (.bin .eql (.t 29) (kI 10)),i1 31 (.call 16 [(.k (.a (.str [115,97,114,50]))),kI 2,kI 1,.t 22,.t 23,.t 24,.t 25,.t 26,.t 27,.t 28,.t 30]),mv 12 31]
abbrev code:IC:=.seq (.reg r0) (.seq (.reg r1) (.seq (.reg r2) .ret))
abbrev res:List RV:=[.tmp 12]
theorem fn:Body Tryz.prog 13 32 code res:=⟨by decide,Tryz.f13,_,Tryz.func13,rfl,rfl,by kernel_rfl,by kernel_rfl⟩
end V3
namespace V4
abbrev r0:List In:=[i1 12 (.mv (kB false))]
abbrev r1:List In:=[mv 16 0,mv 17 1,i1 18 (.bin .rem (.t 17) (.k (.a (.int .u64 65536)))),i1 19 (.call 17 [.t 16,.t 18,kI 64,kB false,kB true]),mv 15 19,i1 20 (.ext 0 (.t 15)),i1 21 (.ext 1 (.t 15)),mv 13 20,mv 14 21]
abbrev r2:List In:=[mv 22 0,mv 23 1,mv 24 2,mv 25 3,mv 26 4,mv 27 5,mv 28 13,mv 29 14,i1 30 (.bin .eql (.t 29) (kI 10)),i1 31 (.call 16 [(.k (.a (.str [115,97,114,52]))),kI 4,kI 1,.t 22,.t 23,.t 24,.t 25,.t 26,.t 27,.t 28,.t 30]),mv 12 31]
abbrev code:IC:=.seq (.reg r0) (.seq (.reg r1) (.seq (.reg r2) .ret))
abbrev res:List RV:=[.tmp 12]
theorem fn:Body Tryz.prog 14 32 code res:=⟨by decide,Tryz.f14,_,Tryz.func14,rfl,rfl,by kernel_rfl,by kernel_rfl⟩
end V4
end Go.Proofs.YtddmlennnmpnhaaGreatDoor
namespace Go.Proofs.YtddmlennnmpnhaaGreatDoor
open Go Go.RowKit Vc
set_option linter.unusedVariables false
set_option linter.unusedSimpArgs false
attribute [local irreducible] T Za Zn Ent RdC RwC Yd Ze Zh
structure AddI (a b:List Int) (i:Nat) (r:List Int) (c:Int):Prop where
 ok:wOk r
 len:r.length=a.length+1
 top:∀k,i≤k→r.getD k 0=0
 cy:c=0∨c=1
 v:nv r+p32 i*c=lowV (fun k=>a.getD k 0) i+lowV (fun k=>b.getD k 0) i
theorem AddI.zero(a b:List Int):AddI a b 0 (List.replicate (a.length+1) 0) 0:=⟨Lp _,by simp,fun k _=>by rw[List.getD_eq_getElem?_getD,List.getElem?_replicate];split<;>rfl,.inl rfl,by rw[L9];simp[lowV]⟩
theorem AddI.step{a b r:List Int}{i:Nat}{c:Int}(ha:wOk a)(hb:wOk b)(hi:i<a.length)(h:AddI a b i r c){d:Int}(hd:d=c+a.getD i 0+b.getD i 0):
 AddI a b (i+1) (r.set i (d%4294967296)) (d/4294967296):=by
 have h1:=ha i
 have h2:=hb i
 unfold w32 at h1 h2
 have hl:i<r.length:=by rw[h.len];omega
 have e:d%4294967296+4294967296*(d/4294967296)=c+a.getD i 0+b.getD i 0∧(d/4294967296=0∨d/4294967296=1):=by
  rcases h.cy with h3|h3<;>omega
 refine⟨Sr h.ok (by unfold w32;omega),by rw[List.length_set];exact h.len,fun k hk=> ?_,e.2,?_⟩
 ·rw[M9 (by omega)];exact h.top k (by omega)
 ·have hv:=h.v
  rw[Qk _ _ _ hl,h.top _ (Nat.le_refl _),Int.sub_zero,lowV,lowV,p32]
  have e1:p32 i*(d%4294967296)+4294967296*p32 i*(d/4294967296)=p32 i*c+p32 i*a.getD i 0+p32 i*b.getD i 0:=by
   rw[←Int.mul_add,←Int.mul_add,←e.1,Int.mul_add,Int.mul_comm 4294967296 (p32 i),Int.mul_assoc]
  omega
theorem AddI.fin{a b r:List Int}{c:Int}(h:AddI a b a.length r c):wOk (r.set a.length c)∧nv (r.set a.length c)=lowV (fun k=>a.getD k 0) a.length+lowV (fun k=>b.getD k 0) a.length:=by
 have h1:=h.cy
 refine⟨Sr h.ok (by unfold w32;omega),?_⟩
 rw[Qk _ _ _ (by rw[h.len];omega),h.top _ (Nat.le_refl _),Int.sub_zero];exact h.v
set_option maxHeartbeats 8000000 in
theorem add_gc(x y:Nat)(hlx:(wds x).length≤100)(hle:(wds y).length≤(wds x).length):GC Tryz.prog 51 [.a (.ref 0),.a (.ref 1)] [(0,.ro (.int .u32) (wds x)),(1,.ro (.int .u32) (wds y))] 2 [] (.one (.a (.ref 2))) [(2,.row 90 (.int .u32) (wds (x+y)))] 3:=by
 have kx:=Rv x x (Nat.le_refl _)
 have ky:=Rv y y (Nat.le_refl _)
 have vx:=Ri x x (Nat.le_refl _)
 have vy:=Ri y y (Nat.le_refl _)
 rw[Ps]at vx vy
 generalize wds x=a at*
 generalize wds y=b at*
 have d0:(Kd.int .u32).dflt=(0:Int):=rfl
 have m0:¬(a.length:Int)<b.length:=by omega
 have m5:IntKind.i64.wrap ((a.length:Int)+1)=((a.length+1:Nat):Int):=Zx (by omega)
 have m1:(0:Int)≤((a.length+1:Nat):Int):=by omega
 have m2:(4:Nat)*((a.length+1:Nat):Int)≤281474976710656:=by omega
 have m3:((a.length+1:Nat):Int)≤4611686018427387904:=by omega
 have m4:((a.length+1:Nat):Int).toNat=a.length+1:=by omega
 refine S6.fn.gc (by simp) (by simp[Zu,Zw,Zv,Zj,Zf,Vc.S1.okN,At.okN,SV.okN,Res.okN,Res.outOk,Zo,Res.own,Value.oneCell']) fun w X fr=> ?_
 repeat'(first|(first|refine Stp.h ?_)<;>try simp only[Zc,simprocAttr,↓reduceIte,reduceCtorEq,implies_true,m0,m1,m2,m3,m4,m5,d0]|(with_reducible first|assumption|refine And.intro ?_ ?_)|(intro h;first|omega|exact tg h ‹_›|exact tg ‹_› h|skip))
 all_goals first|omega|skip
 have hZ:=AddI.zero a b
 generalize List.replicate (a.length+1) (0:Int)=Z at*
 refine T.loop (ι:= {q:Nat×(List Int×Int)//q.1≤a.length∧AddI a b q.1 q.2.1 q.2.2}) (fun q=>⟨[(7,.one (.a (.int .i64 (q.1.1:Int)))),(6,.one (.a (.int .u64 q.1.2.2))),(5,.one (.a (.ref 2))),(0,.one (.a (.ref 0))),(1,.one (.a (.ref 1)))],
  [(2,.row 90 (.int .u32) q.1.2.1),(0,.ro (.int .u32) a),(1,.ro (.int .u32) b)],3⟩) (fun q=>a.length-q.1.1) ⟨(0,Z,0),Nat.zero_le _,hZ⟩ (Ent.mk1 (id) (by simp[Zt])) ?_
 rintro⟨⟨i,r,c⟩,hi,hI⟩
 simp only at hi hI ⊢
 have hrl:=hI.len
 have hcy:=hI.cy
 by_cases hlt:i<a.length
 ·have i1:(i:Int)<a.length:=by omega
  have i0:(0:Int)≤i:=by omega
  have it:((i:Nat):Int).toNat=i:=by omega
  have iw:IntKind.i64.wrap ((i:Int)+1)=((i+1:Nat):Int):=Zx (by omega)
  have ir:(i:Int)<r.length:=by omega
  have ir2:i<r.length:=by omega
  have hst:=hI.step kx ky hlt rfl
  have wa:=kx i
  have wb:=ky i
  unfold w32 at wa wb
  have u1:IntKind.u64.wrap (a.getD i 0)=a.getD i 0:=IntWalk.u64_in _ (by omega)
  have u2:IntKind.u64.wrap (b.getD i 0)=b.getD i 0:=IntWalk.u64_in _ (by omega)
  have u3:IntKind.u64.wrap (c+a.getD i 0)=c+a.getD i 0:=IntWalk.u64_in _ (by omega)
  have sh:∀z:Int,P0 .u64 z 32=z/4294967296:=fun z=>by
   show z/2^32=_
   have:(2:Int)^32=4294967296:=by decide
   rw[this]
  by_cases hjl:i<b.length
  ·have j1:(i:Int)<b.length:=by omega
   have u4:IntKind.u64.wrap (c+a.getD i 0+b.getD i 0)=c+a.getD i 0+b.getD i 0:=IntWalk.u64_in _ (by omega)
   obtain⟨t,ht⟩:∃t,c+a.getD i 0+b.getD i 0=t:=⟨_,rfl⟩
   rw[ht]at hst u4
   have u7:IntKind.u32.wrap t=t%4294967296:=by rw[IntKind.wrap_u32]
   have u8:=sh t
   repeat'(first|(first|refine Stp.h ?_)<;>try simp only[Zc,simprocAttr,↓reduceIte,reduceCtorEq,implies_true,i0,i1,it,hlt,j1,hjl,iw,ir,ir2,u1,u2,u3,ht,u4,u7,u8,d0,Int.ofNat_lt]|(with_reducible first|assumption|refine And.intro ?_ ?_)|(intro h;first|omega|exact tg h ‹_›|exact tg ‹_› h|skip))
   all_goals first|omega|exact⟨⟨(i+1,r.set i (t%4294967296),t/4294967296),hlt,hst⟩,(Ent.mk1 (id) (by simp[Zt])),by simp only;omega⟩|skip
  ·have j1:¬(i:Int)<b.length:=by omega
   have e0:b.getD i 0=0:=by rw[List.getD_eq_getElem?_getD,List.getElem?_eq_none (by omega)];rfl
   rw[e0,Int.add_zero]at hst
   obtain⟨t,ht⟩:∃t,c+a.getD i 0=t:=⟨_,rfl⟩
   rw[ht]at hst u3
   have u7:IntKind.u32.wrap t=t%4294967296:=by rw[IntKind.wrap_u32]
   have u8:=sh t
   repeat'(first|(first|refine Stp.h ?_)<;>try simp only[Zc,simprocAttr,↓reduceIte,reduceCtorEq,implies_true,i0,i1,it,hlt,j1,hjl,iw,ir,ir2,u1,ht,u3,u7,u8,d0,Int.ofNat_lt]|(with_reducible first|assumption|refine And.intro ?_ ?_)|(intro h;first|omega|exact tg h ‹_›|exact tg ‹_› h|skip))
   all_goals first|omega|exact⟨⟨(i+1,r.set i (t%4294967296),t/4294967296),hlt,hst⟩,(Ent.mk1 (id) (by simp[Zt])),by simp only;omega⟩|skip
 ·obtain rfl:i=a.length:=by omega
  have i1:¬(a.length:Int)<a.length:=by omega
  obtain⟨f1,f2⟩:=hI.fin
  rw[vx,Es b _ hle,vy]at f2
  have hT:=Qa (r.set a.length c) f1 (by rw[List.length_set];omega)
  rw[show(nv (r.set a.length c)).toNat=x+y by omega]at hT
  have i0:(0:Int)≤a.length:=by omega
  have it:((a.length:Nat):Int).toNat=a.length:=by omega
  have ir:(a.length:Int)<r.length:=by omega
  have ir2:a.length<r.length:=by omega
  have u7:IntKind.u32.wrap c=c:=by rw[IntWalk.u32_in _ (by omega)]
  repeat'(first|(first|refine Stp.h ?_|(refine Za.gc hT ?_ ?_;focus simp[Zb];done))<;>try simp only[Zc,simprocAttr,↓reduceIte,reduceCtorEq,implies_true,i0,i1,it,ir,ir2,u7,d0,Int.ofNat_lt]|(with_reducible first|assumption|refine And.intro ?_ ?_)|(intro h;first|omega|exact tg h ‹_›|exact tg ‹_› h|skip))
  all_goals first|omega|skip
theorem Zdh(n:Bool)(x y:Nat)(hlx:(wds x).length≤100)(hle:(wds y).length≤(wds x).length):GC Tryz.prog 36 [.a (.bool n),.a (.ref 0),.a (.bool n),.a (.ref 1)] [(0,.ro (.int .u32) (wds x)),(1,.ro (.int .u32) (wds y))] 2 [] (.tup [.a (.bool n),.a (.ref 2)]) [(2,.row 90 (.int .u32) (wds (x+y)))] 3:=by
 have hS:=add_gc x y hlx hle
 have b1:(n==n)=true:=by cases n<;>rfl
 refine Vx.fn.gc (by simp) (by simp[Zu,Zw,Zv,Zj,Zf,Vc.S1.okN,At.okN,SV.okN,Res.okN,Res.outOk,Zo,Res.own,Value.oneCell']) fun w X fr=> ?_
 repeat'(first|(first|refine Stp.h ?_|(refine Za.gc hS ?_ ?_;focus simp[Zb];done))<;>try simp only[Zc,simprocAttr,↓reduceIte,reduceCtorEq,implies_true,b1,beq_self_eq_true,decide_true,decide_false]|(with_reducible first|assumption|refine And.intro ?_ ?_)|(intro h;first|omega|exact tg h ‹_›|exact tg ‹_› h|skip))
theorem Zdf(q:Nat)(hq:(wds q).length≤100):Oh q:=by
 by_cases h0:q=0
 ·subst h0;exact K8
 ·have hle:(wds 1).length≤(wds q).length:=by
   rw[Zad];exact Nat.pos_of_ne_zero fun e=>h0 (Vu.1 e)
  have hS:=Zdh true q 1 hq hle
  have hG:=Ov true true (wds (q+1)) (wds q)
  rw[Uh (Nat.succ_ne_zero q)]at hG
  simp only[Bool.and_self]at hG
  unfold Oh
  rw[Uh h0]
  refine Wg.fn.gc (by simp) (by simp[Zu,Zw,Zv,Zj,Zf,Vc.S1.okN,At.okN,SV.okN,Res.okN,Res.outOk,Zo,Res.own,Value.oneCell']) fun w X fr=> ?_
  repeat'(first|(first|refine Stp.h ?_|(refine Za.gc hS ?_ ?_;focus simp[Zb];done)|(refine Za.gc hG ?_ ?_;focus simp[Zb];done))<;>try simp only[Zc,simprocAttr,↓reduceIte,reduceCtorEq,implies_true,Bool.not_true,Bool.not_false]|(with_reducible first|assumption|refine And.intro ?_ ?_)|(intro h;first|omega|exact tg h ‹_›|exact tg ‹_› h|skip))
theorem Zip(A Y:Nat)(hY:0<Y):(-(A:Int))/(Y:Int)= -((if A%Y=0 then A/Y else A/Y+1:Nat):Int):=by
 have e:=Nat.div_add_mod A Y
 have hr:=Nat.mod_lt A hY
 have e2:(A:Int)=(Y:Int)*((A/Y:Nat):Int)+((A%Y:Nat):Int):=by
  rw[←Int.natCast_mul,←Int.natCast_add,e]
 generalize A/Y=q at*
 generalize A%Y=t at*
 by_cases h:t=0
 ·rw[if_pos h,e2,h]
  rw[show-((Y:Int)*(q:Int)+((0:Nat):Int))=(Y:Int)*(-(q:Int)) by rw[Int.mul_neg];simp]
  exact Int.mul_ediv_cancel_left _ (by omega)
 ·rw[if_neg h,e2]
  rw[show-((Y:Int)*(q:Int)+(t:Int))=(Y-t:Int)+(Y:Int)*(-((q+1:Nat):Int)) by rw[Int.mul_neg,Int.natCast_add,Int.mul_add];omega]
  rw[Int.add_mul_ediv_left _ _ (by omega),Int.ediv_eq_zero_of_lt (by omega) (by omega)];omega
theorem Zc3(W a c:Nat)(h:0<W)(h2:W≤18446744073709551616):saN W a c<18446744073709551616:=by
 unfold saN
 generalize sgP (W:Int) ((a%W:Nat):Int)/2^min c 64=z
 have k2:=Int.emod_lt_of_pos z (show(0:Int)<(W:Int) by omega)
 omega
theorem sar_div(x c w:Nat)(hx:x<18446744073709551616)(hw:w=16∨w=32∨w=64):∃(f:Bool) (q:Nat),GC Tryz.prog 32 [.a (.loc 0 0),.a (.loc 1 0),.a (.loc 3 0),.a (.loc 5 0)]
 [(0,.cells 34 [.bool false,.raw (.slice none 0 0)]),(1,.rocells [.bool (ng (2^w) (x%2^w)),.ref 2]),(2,.ro (.int .u32) (wds (mg (2^w) (x%2^w)))),(3,.rocells [.bool false,.ref 4]),(4,.ro (.int .u32) (wds (2^min c 64))),(5,.cells 34 [.bool false,.raw (.slice none 0 0)])] 6 [0,5] (.tup [.a (.loc 0 0),.a (.loc 5 0)])
 [(0,.cells 34 [.bool f,.ref 6]),(6,.row 90 (.int .u32) (wds q)),(5,.cells 34 [.bool false,.ref 7]),(7,.row 90 (.int .u32) (wds (if ng (2^w) (x%2^w)=true then(if mg (2^w) (x%2^w)%2^min c 64=0 then 0 else 2^min c 64-mg (2^w) (x%2^w)%2^min c 64)else mg (2^w) (x%2^w)%2^min c 64)))] 8∧
 q<2^w∧(f=true→q≠0)∧(if f=true then 2^w-q else q)=saN (2^w) x c:=by
 have hl:=Jb (min c 64) (by omega)
 have hp:0<2^min c 64:=Nat.pow_pos (by decide)
 have h64:2^w≤2^64:=Nat.pow_le_pow_right (by decide) (by omega)
 have e64:(2:Nat)^64=18446744073709551616:=by decide
 have h2:2≤2^w:=by rcases hw with rfl|rfl|rfl<;>decide
 have ha:=Nat.mod_lt x (show 0<2^w by omega)
 have mA:=Bs ha
 have hq:mg (2^w) (x%2^w)/2^min c 64≤mg (2^w) (x%2^w):=Nat.div_le_self _ _
 have hlA:=W3 2 (mg (2^w) (x%2^w)/2^min c 64) (by omega)
 have hpi:(2:Int)^min c 64=((2^min c 64:Nat):Int):=by simp
 cases hng:ng (2^w) (x%2^w)
 ·have hD:=Lt (mg (2^w) (x%2^w)) (2^min c 64) (by omega) (by omega) (by omega) false false
  refine⟨false,_,hD,by omega,fun h=>(by cases h),?_⟩
  have hn:¬2^w≤2*(x%2^w):=of_decide_eq_false hng
  have e1:mg (2^w) (x%2^w)=x%2^w:=if_neg hn
  have e2:sgP ((2^w:Nat):Int) ((x%2^w:Nat):Int)=((x%2^w:Nat):Int):=if_neg (by omega)
  simp only[Bool.false_eq_true,if_false]
  rw[e1]at hq ⊢
  unfold saN
  rw[e2,hpi,←Int.natCast_ediv,←Int.natCast_emod,Int.toNat_natCast,Nat.mod_eq_of_lt (Nat.lt_of_le_of_lt hq ha)]
 ·have hn:2^w≤2*(x%2^w):=of_decide_eq_true hng
  have e1:mg (2^w) (x%2^w)=2^w-x%2^w:=if_pos hn
  have hD:=Jz (mg (2^w) (x%2^w)) (2^min c 64) (by omega) (by omega) (by omega) false false (fun _=>Zdf _ (by omega))
  have hd:=Zip (mg (2^w) (x%2^w)) (2^min c 64) hp
  have hA0:mg (2^w) (x%2^w)≠0:=by omega
  have hq0:(if mg (2^w) (x%2^w)%2^min c 64=0 then mg (2^w) (x%2^w)/2^min c 64 else mg (2^w) (x%2^w)/2^min c 64+1)≠0:=by
   split
   ·rename_i h
    intro e
    have:=Nat.div_add_mod (mg (2^w) (x%2^w)) (2^min c 64)
    rw[h,e,Nat.mul_zero]at this
    omega
   ·exact Nat.succ_ne_zero _
  have hqw:(if mg (2^w) (x%2^w)%2^min c 64=0 then mg (2^w) (x%2^w)/2^min c 64 else mg (2^w) (x%2^w)/2^min c 64+1)<2^w:=by
   split
   ·omega
   ·have:2^w≠2∨mg (2^w) (x%2^w)/2^min c 64=0:=by left;rcases hw with rfl|rfl|rfl<;>decide
    omega
  have e2:sgP ((2^w:Nat):Int) ((x%2^w:Nat):Int)= -((mg (2^w) (x%2^w):Nat):Int):=by
   unfold sgP;rw[if_pos (by omega),e1];omega
  refine⟨true,_,?_,hqw,fun _=>hq0,?_⟩
  rotate_left
  ·simp only[if_true]
   unfold saN
   rw[e2,hpi,hd,E5 _ _ hqw,if_neg hq0]
  ·rw[Uh hq0]at hD
   simp only[if_true]
   exact hD
theorem Zan(x c w:Nat)(hx:x<18446744073709551616)(hc:c<65536)(hw:w=16∨w=32∨w=64):GC Tryz.prog 17 [.a (.int .u64 (x:Int)),.a (.int .u64 (c:Int)),.a (.int .i64 (w:Int)),.a (.bool false),.a (.bool true)] [] 0 []
 (.tup [.a (.int .u64 ((saN (2^w) x c:Nat):Int)),.a (.int .i64 0)]) [] 0:=by
 have hW:=Sv w (by omega)
 have hX:=Qu x w hx hw
 have hT:=Oi (min c 64) (by omega)
 have w1:IntKind.i64.wrap ((min c 64:Nat):Int)=((min c 64:Nat):Int):=Zk (by omega) (by omega)
 obtain⟨f,q,hD,hq1,hq2,hq3⟩:=sar_div x c w hx hw
 have hF:=Fw f q w hq1 (by omega) hq2
 rw[hq3]at hF
 refine Xt.fn.gc (by simp) (by simp[Zu,Zw,Zv,Zj,Zf,Vc.S1.okN,At.okN,SV.okN,Res.okN,Res.outOk,Zo,Res.own,Value.oneCell']) fun w' X fr=> ?_
 generalize (if ng (2^w) (x%2^w)=true then(if mg (2^w) (x%2^w)%2^min c 64=0 then 0 else 2^min c 64-mg (2^w) (x%2^w)%2^min c 64)else mg (2^w) (x%2^w)%2^min c 64)=rr at*
 generalize saN (2^w) x c=V at*
 generalize mg (2^w) (x%2^w)=A at*
 generalize ng (2^w) (x%2^w)=B at*
 generalize hk:min c 64=k at*
 by_cases h:c≤64
 ·obtain rfl:c=k:=by omega
  have c1:¬(64:Int)<(c:Int):=by omega
  generalize 2^c=Y at*
  repeat'(first|(first|refine Stp.h ?_|(refine Za.gc hW ?_ ?_;focus simp[Zb];done)|(refine Za.gc hX ?_ ?_;focus simp[Zb];done)|(refine Za.gc hT ?_ ?_;focus simp[Zb];done)|(refine Za.gc hD ?_ ?_;focus simp[Zb];done)|(refine Za.gc hF ?_ ?_;focus simp[Zb];done))<;>try simp only[Zc,simprocAttr,↓reduceIte,reduceCtorEq,implies_true,c1,w1,decide_true,decide_false]|(with_reducible first|assumption|refine And.intro ?_ ?_)|(intro h;first|omega|exact tg h ‹_›|exact tg ‹_› h|skip))
 ·obtain rfl:k=64:=by omega
  have c1:(64:Int)<(c:Int):=by omega
  have c64:((64:Nat):Int)=64:=rfl
  rw[c64]at hT w1
  generalize (2:Nat)^64=Y at*
  repeat'(first|(first|refine Stp.h ?_|(refine Za.gc hW ?_ ?_;focus simp[Zb];done)|(refine Za.gc hX ?_ ?_;focus simp[Zb];done)|(refine Za.gc hT ?_ ?_;focus simp[Zb];done)|(refine Za.gc hD ?_ ?_;focus simp[Zb];done)|(refine Za.gc hF ?_ ?_;focus simp[Zb];done))<;>try simp only[Zc,simprocAttr,↓reduceIte,reduceCtorEq,implies_true,c1,w1,decide_true,decide_false]|(with_reducible first|assumption|refine And.intro ?_ ?_)|(intro h;first|omega|exact tg h ‹_›|exact tg ‹_› h|skip))
end Go.Proofs.YtddmlennnmpnhaaGreatDoor
