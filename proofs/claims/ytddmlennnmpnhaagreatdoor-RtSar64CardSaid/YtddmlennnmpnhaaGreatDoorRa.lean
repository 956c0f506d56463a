/- A part of the proofs of this seat's laws: steps on the way, joined. It has no conditions of its own. -/
import Derived.Test.YtddmlennnmpnhaaGreatDoorQx
import Derived.Test.YtddmlennnmpnhaaGreatDoorSk
import Derived.Test.YtddmlennnmpnhaaGreatDoorQn
namespace Go.Proofs.YtddmlennnmpnhaaGreatDoor
open Go Vc
set_option linter.unusedVariables false
set_option linter.unusedSimpArgs false
def sgN(r:Bool)(W a b:Nat):Nat:=((if r=true then(sgP W (a%W:Nat)).tmod (sgP W (b%W:Nat))else(sgP W (a%W:Nat)).tdiv (sgP W (b%W:Nat)))%(W:Int)).toNat
theorem Ki{code:List Int}(r:Bool)(n:Nat)(hn:n=1∨n=2∨n=4)(tgt:Int)(htg:0≤tgt∧tgt≤60000)(hat:atB code 3 (Zc7 r n 3 tgt)=true)(hdv:atB code tgt (Za1 r n tgt)=true)(a b:Nat)(hb:b%2^(16*n)≠0):
 Gr code n n a b (sgN r (2^(16*n)) a b):=fun s p q T h=>by
 have ht:=h.t
 have h2:=h.d2
 have h3:=h.d3
 rw[Xh]at hb ⊢
 obtain⟨k,s',hR,hk,hv⟩:=(Zew code r n hn 3 tgt 0 ⟨by decide,by decide⟩ htg (.of hat) (.of hdv) s h.ok p q T h.r0 h.r1 h.r7 h.pn h.qm (by omega) (by omega) (by omega)).2 (by rw[h.v2];omega)
 refine⟨k,s',2*n+2,hR,by omega,by omega,?_⟩
 rw[hv,h.v1,h.v2,Ql]
 have hW:0<65536^n:=Nat.pow_pos (by decide)
 unfold sgN
 generalize 65536^n=W at*
 have hW':(0:Int)<(W:Int):=by omega
 generalize (if r=true then(sgP (W:Int) ((a%W:Nat):Int)).tmod (sgP (W:Int) ((b%W:Nat):Int))else(sgP (W:Int) ((a%W:Nat):Int)).tdiv (sgP (W:Int) ((b%W:Nat):Int)))=z
 have k1:=Int.emod_nonneg z (show(W:Int)≠0 by omega)
 have k2:=Int.emod_lt_of_pos z hW'
 rw[Nat.mod_eq_of_lt (by omega),Int.toNat_of_nonneg k1]
theorem Kj{code:List Int}(r:Bool)(n:Nat)(hn:n=1∨n=2∨n=4)(tgt:Int)(htg:0≤tgt∧tgt≤60000)(hat:atB code 3 (Zc7 r n 3 tgt)=true)(hdv:atB code tgt (Za1 r n tgt)=true)(a b:Nat)(hb:b%2^(16*n)=0):Zhi code n n a b:=fun s p q T h=>by
 have ht:=h.t
 have h2:=h.d2
 have h3:=h.d3
 rw[Xh]at hb
 obtain⟨k,s',hR,hk,ho,hg⟩:=(Zew code r n hn 3 tgt 0 ⟨by decide,by decide⟩ htg (.of hat) (.of hdv) s h.ok p q T h.r0 h.r1 h.r7 h.pn h.qm (by omega) (by omega) (by omega)).1 (by rw[h.v2,hb];rfl)
 have z:=(Jo n hn).2.1
 have y:=Ym (dS1 n)
 have e:dA n tgt=tgt+Z1 (dS1 n):=rfl
 exact⟨k,s',_,hR,by omega,ho,(DivAt.of hdv).tr,by omega,hg⟩
end Go.Proofs.YtddmlennnmpnhaaGreatDoor
namespace Go.Proofs.YtddmlennnmpnhaaGreatDoor
open Go Go.RowKit Vc
set_option linter.unusedVariables false
set_option linter.unusedSimpArgs false
attribute [local irreducible] T Za Zn Ent RdC RwC Yd Ze Zh
theorem M9{l:List Int}{k m:Nat}{v:Int}(h:k≠m):(l.set k v).getD m 0=l.getD m 0:=by
 rw[List.getD_eq_getElem?_getD,List.getElem?_set_ne h,←List.getD_eq_getElem?_getD]
structure SubI (a b:List Int) (i:Nat) (r:List Int) (c:Int):Prop where
 ok:wOk r
 len:r.length=a.length
 top:∀k,i≤k→r.getD k 0=0
 cy:c=0∨c=1
 v:nv r=lowV (fun k=>a.getD k 0) i-lowV (fun k=>b.getD k 0) i+p32 i*c
theorem SubI.zero(a b:List Int):SubI a b 0 (List.replicate a.length 0) 0:=⟨Lp _,by simp,fun k _=>by rw[List.getD_eq_getElem?_getD,List.getElem?_replicate];split<;>rfl,.inl rfl,by rw[L9];simp[lowV]⟩
theorem SubI.step{a b r:List Int}{i:Nat}{c:Int}(ha:wOk a)(hb:wOk b)(hi:i<a.length)(h:SubI a b i r c){d:Int}(hd:d=(a.getD i 0-c-b.getD i 0)%18446744073709551616):
 SubI a b (i+1) (r.set i (d%4294967296)) (d/9223372036854775808):=by
 have h1:=ha i
 have h2:=hb i
 unfold w32 at h1 h2
 have hl:i<r.length:=by rw[h.len];exact hi
 have e:d%4294967296=a.getD i 0-b.getD i 0-c+4294967296*(d/9223372036854775808)∧(d/9223372036854775808=0∨d/9223372036854775808=1):=by
  rcases h.cy with h3|h3<;>omega
 refine⟨Sr h.ok (by unfold w32;omega),by rw[List.length_set];exact h.len,fun k hk=> ?_,e.2,?_⟩
 ·rw[M9 (by omega)];exact h.top k (by omega)
 ·rw[Qk _ _ _ hl,h.top _ (Nat.le_refl _),Int.sub_zero,h.v,lowV,lowV,p32,e.1]
  generalize p32 i=P
  generalize d/9223372036854775808=c'
  simp only[Int.mul_add,Int.mul_sub]
  rw[show 4294967296*P*c'=P*(4294967296*c') by rw[Int.mul_comm 4294967296 P,Int.mul_assoc]]
  omega
theorem Es(l:List Int):∀t,l.length≤t→lowV (fun k=>l.getD k 0) t=lowV (fun k=>l.getD k 0) l.length
 |0,h=>by rw[Nat.le_zero.1 h]
 |t+1,h=>by
  by_cases e:l.length=t+1
  ·rw[e]
  ·rw[lowV,Es l t (by omega),List.getD_eq_getElem?_getD,List.getElem?_eq_none (by omega)]
   simp
set_option maxHeartbeats 8000000 in
theorem sub_gc(x y:Nat)(hx0:x≠0)(hxy:y≤x)(hlx:(wds x).length≤100):GC Tryz.prog 52 [.a (.ref 0),.a (.ref 1)] [(0,.ro (.int .u32) (wds x)),(1,.ro (.int .u32) (wds y))] 2 [] (.one (.a (.ref 2))) [(2,.row 90 (.int .u32) (wds (x-y)))] 3:=by
 have kx:=Rv x x (Nat.le_refl _)
 have ky:=Rv y y (Nat.le_refl _)
 have vx:=Ri x x (Nat.le_refl _)
 have vy:=Ri y y (Nat.le_refl _)
 have hly:(wds y).length≤(wds x).length:=by
  rcases Nat.lt_or_ge (wds x).length (wds y).length with h|h
  ·have:=Lq h;omega
  ·exact h
 have h0:(wds x).length≠0:=fun h=>hx0 (Vu.1 h)
 rw[Ps]at vx vy
 generalize wds x=a at*
 generalize wds y=b at*
 have d0:(Kd.int .u32).dflt=(0:Int):=rfl
 have m1:(0:Int)≤a.length:=by omega
 have m2:(4:Nat)*(a.length:Int)≤281474976710656:=by omega
 have m3:(a.length:Int)≤4611686018427387904:=by omega
 have m4:((a.length:Nat):Int).toNat=a.length:=by omega
 refine S8.fn.gc (by simp) (by simp[Zu,Zw,Zv,Zj,Zf,Vc.S1.okN,At.okN,SV.okN,Res.okN,Res.outOk,Zo,Res.own,Value.oneCell']) fun w X fr=> ?_
 repeat'(first|(first|refine Stp.h ?_)<;>try simp only[Zc,simprocAttr,↓reduceIte,reduceCtorEq,implies_true,m1,m2,m3,m4,d0]|(with_reducible first|assumption|refine And.intro ?_ ?_)|(intro h;first|omega|exact tg h ‹_›|exact tg ‹_› h|skip))
 all_goals first|omega|skip
 refine T.loop (ι:= {q:Nat×(List Int×Int)//q.1≤a.length∧SubI a b q.1 q.2.1 q.2.2}) (fun q=>⟨[(7,.one (.a (.int .i64 (q.1.1:Int)))),(6,.one (.a (.int .u64 q.1.2.2))),(5,.one (.a (.ref 2))),(0,.one (.a (.ref 0))),(1,.one (.a (.ref 1)))],
  [(2,.row 90 (.int .u32) q.1.2.1),(0,.ro (.int .u32) a),(1,.ro (.int .u32) b)],3⟩) (fun q=>a.length-q.1.1) ⟨(0,_,0),Nat.zero_le _,SubI.zero a b⟩ (Ent.mk1 (id) (by simp[Zt])) ?_
 rintro⟨⟨i,r,c⟩,hi,hI⟩
 simp only at hi hI ⊢
 have hrl:=hI.len
 by_cases hlt:i<a.length
 ·have i1:(i:Int)<a.length:=by omega
  have i0:(0:Int)≤i:=by omega
  have it:((i:Nat):Int).toNat=i:=by omega
  have iw:IntKind.i64.wrap ((i:Int)+1)=((i+1:Nat):Int):=Zx (by omega)
  have ir:(i:Int)<r.length:=by omega
  have ir2:i<r.length:=by omega
  have hst:=hI.step kx ky hlt rfl
  have hcy:=hI.cy
  have wa:=kx i
  have wb:=ky i
  unfold w32 at wa wb
  have u1:IntKind.u64.wrap (a.getD i 0)=a.getD i 0:=IntWalk.u64_in _ (by omega)
  have u2:IntKind.u64.wrap (b.getD i 0)=b.getD i 0:=IntWalk.u64_in _ (by omega)
  have u3:IntKind.u64.wrap (IntKind.u64.wrap (a.getD i 0-c)-b.getD i 0)=(a.getD i 0-c-b.getD i 0)%18446744073709551616:=by
   rw[IntKind.wrap_u64,IntKind.wrap_u64];omega
  have sh:∀z:Int,P0 .u64 z 63=z/9223372036854775808:=fun z=>by
   show z/2^63=_
   have:(2:Int)^63=9223372036854775808:=by decide
   rw[this]
  by_cases hjl:i<b.length
  ·have j1:(i:Int)<b.length:=by omega
   obtain⟨t,ht⟩:∃t,(a.getD i 0-c-b.getD i 0)%18446744073709551616=t:=⟨_,rfl⟩
   rw[ht]at hst u3
   have u7:IntKind.u32.wrap t=t%4294967296:=by rw[IntKind.wrap_u32]
   have u8:=sh t
   repeat'(first|(first|refine Stp.h ?_)<;>try simp only[Zc,simprocAttr,↓reduceIte,reduceCtorEq,implies_true,i0,i1,it,hlt,j1,hjl,iw,ir,ir2,u1,u2,u3,u7,u8,d0,Int.ofNat_lt]|(with_reducible first|assumption|refine And.intro ?_ ?_)|(intro h;first|omega|exact tg h ‹_›|exact tg ‹_› h|skip))
   all_goals first|omega|exact⟨⟨(i+1,r.set i (t%4294967296),t/9223372036854775808),hlt,hst⟩,(Ent.mk1 (id) (by simp[Zt])),by simp only;omega⟩|skip
  ·have j1:¬(i:Int)<b.length:=by omega
   have e0:b.getD i 0=0:=by rw[List.getD_eq_getElem?_getD,List.getElem?_eq_none (by omega)];rfl
   rw[e0,Int.sub_zero]at hst
   have u4:IntKind.u64.wrap (a.getD i 0-c)=(a.getD i 0-c)%18446744073709551616:=by rw[IntKind.wrap_u64]
   obtain⟨t,ht⟩:∃t,(a.getD i 0-c)%18446744073709551616=t:=⟨_,rfl⟩
   rw[ht]at hst u4
   have u7:IntKind.u32.wrap t=t%4294967296:=by rw[IntKind.wrap_u32]
   have u8:=sh t
   repeat'(first|(first|refine Stp.h ?_)<;>try simp only[Zc,simprocAttr,↓reduceIte,reduceCtorEq,implies_true,i0,i1,it,hlt,j1,hjl,iw,ir,ir2,u1,u4,u7,u8,d0,Int.ofNat_lt]|(with_reducible first|assumption|refine And.intro ?_ ?_)|(intro h;first|omega|exact tg h ‹_›|exact tg ‹_› h|skip))
   all_goals first|omega|exact⟨⟨(i+1,r.set i (t%4294967296),t/9223372036854775808),hlt,hst⟩,(Ent.mk1 (id) (by simp[Zt])),by simp only;omega⟩|skip
 ·obtain rfl:i=a.length:=by omega
  have i1:¬(a.length:Int)<a.length:=by omega
  have hv:=hI.v
  rw[vx,Es b _ hly,vy]at hv
  have hnv:=Ps r
  have hrg:=Rh (g:=fun j=>r.getD j 0) hI.ok r.length
  rw[←hnv,hrl]at hrg
  have hcy:=hI.cy
  have hc0:c=0:=by
   rcases hcy with h|h
   ·exact h
   ·rw[h]at hv;omega
  rw[hc0]at hv
  have e:(nv r).toNat=x-y:=by omega
  have hT:=Qa r hI.ok (by omega)
  rw[e]at hT
  repeat'(first|(first|refine Stp.h ?_|(refine Za.gc hT ?_ ?_;focus simp[Zb];done))<;>try simp only[Zc,simprocAttr,↓reduceIte,reduceCtorEq,implies_true,i1]|(with_reducible first|assumption|refine And.intro ?_ ?_)|(intro h;first|omega|exact tg h ‹_›|exact tg ‹_› h|skip))
  all_goals first|omega|skip
theorem Mo{x y:Nat}(h:x≤y):(wds x).length≤(wds y).length:=by
 rcases Nat.lt_or_ge (wds y).length (wds x).length with h2|h2
 ·have:=Lq h2;omega
 ·exact h2
theorem Uh{x:Nat}(h:x≠0):decide (0<(wds x).length)=true:=decide_eq_true (Nat.pos_of_ne_zero fun e=>h (Vu.1 e))
theorem A7(n:Bool)(x y:Nat)(h:x<y)(hly:(wds y).length≤100):GC Tryz.prog 36 [.a (.bool n),.a (.ref 0),.a (.bool (!n)),.a (.ref 1)] [(0,.ro (.int .u32) (wds x)),(1,.ro (.int .u32) (wds y))] 2 [] (.tup [.a (.bool (!n)),.a (.ref 2)]) [(2,.row 90 (.int .u32) (wds (y-x)))] 3:=by
 have hlx:=Mo (Nat.le_of_lt h)
 have hC:=M1 x y (by omega) (by omega)
 rw[show cmpI x y= -1 from if_pos h]at hC
 have hS:=sub_gc y x (by omega) (Nat.le_of_lt h) hly
 have c1:¬(0:Int)≤ -1:=by decide
 have b1:(false==true)=false:=rfl
 have b2:(true==false)=false:=rfl
 refine Vx.fn.gc (by simp) (by simp[Zu,Zw,Zv,Zj,Zf,Vc.S1.okN,At.okN,SV.okN,Res.okN,Res.outOk,Zo,Res.own,Value.oneCell']) fun w X fr=> ?_
 cases n
 ·repeat'(first|(first|refine Stp.h ?_|(refine rq hC ?_ ?_;focus simp[Zz];done)|(refine Za.gc hS ?_ ?_;focus simp[Zb];done))<;>try simp only[Zc,simprocAttr,↓reduceIte,reduceCtorEq,implies_true,c1,b1,b2,Bool.not_true,Bool.not_false,decide_true,decide_false]|(with_reducible first|assumption|refine And.intro ?_ ?_)|(intro h;first|omega|exact tg h ‹_›|exact tg ‹_› h|skip))
 ·repeat'(first|(first|refine Stp.h ?_|(refine rq hC ?_ ?_;focus simp[Zz];done)|(refine Za.gc hS ?_ ?_;focus simp[Zb];done))<;>try simp only[Zc,simprocAttr,↓reduceIte,reduceCtorEq,implies_true,c1,b1,b2,Bool.not_true,Bool.not_false,decide_true,decide_false]|(with_reducible first|assumption|refine And.intro ?_ ?_)|(intro h;first|omega|exact tg h ‹_›|exact tg ‹_› h|skip))
theorem Zdr(x y:Nat)(h:x<y)(hly:(wds y).length≤100):GC Tryz.prog 21 [.a (.loc 0 0),.a (.loc 0 0),.a (.loc 2 0)]
 [(0,.cells 34 [.bool false,.ref 1]),(1,.row 90 (.int .u32) (wds x)),(2,.rocells [.bool false,.ref 3]),(3,.ro (.int .u32) (wds y))] 4 [0] (.one (.a (.loc 0 0)))
 [(0,.cells 34 [.bool true,.ref 4]),(4,.row 90 (.int .u32) (wds (y-x)))] 5:=by
 have hS:=A7 false x y h hly
 have hG:=Ov false true (wds (y-x)) (wds x)
 rw[Uh (by omega)]at hG
 simp only[Bool.not_false,Bool.and_self]at hS hG
 refine Wg.fn.gc (by simp) (by simp[Zu,Zw,Zv,Zj,Zf,Vc.S1.okN,At.okN,SV.okN,Res.okN,Res.outOk,Zo,Res.own,Value.oneCell']) fun w X fr=> ?_
 repeat'(first|(first|refine Stp.h ?_|(refine Za.gc hS ?_ ?_;focus simp[Zb];done)|(refine Za.gc hG ?_ ?_;focus simp[Zb];done))<;>try simp only[Zc,simprocAttr,↓reduceIte,reduceCtorEq,implies_true,Bool.not_true,Bool.not_false]|(with_reducible first|assumption|refine And.intro ?_ ?_)|(intro h;first|omega|exact tg h ‹_›|exact tg ‹_› h|skip))
theorem AddO_gc(x y:Nat)(h:x<y)(hly:(wds y).length≤100):GC Tryz.prog 20 [.a (.loc 0 0),.a (.loc 0 0),.a (.loc 2 0)]
 [(0,.cells 34 [.bool true,.ref 1]),(1,.row 90 (.int .u32) (wds x)),(2,.rocells [.bool false,.ref 3]),(3,.ro (.int .u32) (wds y))] 4 [0] (.one (.a (.loc 0 0)))
 [(0,.cells 34 [.bool false,.ref 4]),(4,.row 90 (.int .u32) (wds (y-x)))] 5:=by
 have hS:=A7 true x y h hly
 have hG:=Ov true false (wds (y-x)) (wds x)
 simp only[Bool.not_true,Bool.false_and]at hS hG
 refine Uj.fn.gc (by simp) (by simp[Zu,Zw,Zv,Zj,Zf,Vc.S1.okN,At.okN,SV.okN,Res.okN,Res.outOk,Zo,Res.own,Value.oneCell']) fun w X fr=> ?_
 repeat'(first|(first|refine Stp.h ?_|(refine Za.gc hS ?_ ?_;focus simp[Zb];done)|(refine Za.gc hG ?_ ?_;focus simp[Zb];done))<;>try simp only[Zc,simprocAttr,↓reduceIte,reduceCtorEq,implies_true,Bool.not_true,Bool.not_false]|(with_reducible first|assumption|refine And.intro ?_ ?_)|(intro h;first|omega|exact tg h ‹_›|exact tg ‹_› h|skip))
theorem Cmp_gc(x y:Nat)(hx:(wds x).length≤100)(hy:(wds y).length≤100):GC Tryz.prog 25 [.a (.loc 0 0),.a (.loc 2 0)]
 [(0,.rocells [.bool false,.ref 1]),(1,.ro (.int .u32) (wds x)),(2,.rocells [.bool false,.ref 3]),(3,.ro (.int .u32) (wds y))] 4 [] (.one (.a (.int .i64 (cmpI x y)))) [] 4:=by
 have hC:=M1 x y (by omega) (by omega)
 refine Uk.fn.gc (by simp) (by simp[Zu,Zw,Zv,Zj,Zf,Vc.S1.okN,At.okN,SV.okN,Res.okN,Res.outOk,Zo,Res.own,Value.oneCell']) fun w X fr=> ?_
 repeat'(first|(first|refine Stp.h ?_|(refine rq hC ?_ ?_;focus simp[Zz];done)|(refine rq hC ?_ ?_;focus simp[Zz];done))<;>try simp only[Zc,simprocAttr,↓reduceIte,reduceCtorEq,implies_true,bne_self_eq_false]|(with_reducible first|assumption|refine And.intro ?_ ?_)|(intro h;first|omega|exact tg h ‹_›|exact tg ‹_› h|skip))
def ng(W n:Nat):Bool:=decide (W≤2*n)
def mg(W n:Nat):Nat:=if W≤2*n then W-n else n
theorem Bs{W n:Nat}(h:n<W):2*mg W n≤W∧(mg W n=0→n=0):=by unfold mg;split<;>omega
theorem Qu(x w:Nat)(hx:x<18446744073709551616)(hw:w=16∨w=32∨w=64):GC Tryz.prog 19 [.a (.int .u64 (x:Int)),.a (.int .i64 (w:Int)),.a (.bool true)] [] 0 [] (.one (.a (.loc 0 0)))
 [(0,.cells 34 [.bool (ng (2^w) (x%2^w)),.ref 1]),(1,.row 90 (.int .u32) (wds (mg (2^w) (x%2^w))))] 2:=by
 have hW:=Qw x hx
 have hF:=N5 x w hx (by omega)
 have hle:x%2^w≤x:=Nat.mod_le _ _
 have hlt:x%2^w<2^w:=Nat.mod_lt _ (Nat.pow_pos (by decide))
 have hW2:=Qw (x%2^w) (by omega)
 have hT1:=Oi (w-1) (by omega)
 have hT2:=Oi w (by omega)
 have e2:2^w=2*2^(w-1):=by rw[←Nat.pow_succ'];congr 1;omega
 have l3:(wds (2^w)).length≤3:=W3 3 _ (by
  have:2^w≤2^64:=Nat.pow_le_pow_right (by decide) (by omega)
  have:(2:Nat)^64<4294967296^3:=by decide
  omega)
 have l1:=Mo (Nat.le_of_lt hlt)
 have l2:=Mo (show 2^(w-1)≤2^w by omega)
 have hC:=Cmp_gc (x%2^w) (2^(w-1)) (by omega) (by omega)
 have hS:=Zdr (x%2^w) (2^w) hlt (by omega)
 have w1:IntKind.i64.wrap ((w:Int)-1)=((w-1:Nat):Int):=by rw[Zk (by omega) (by omega)];omega
 refine Wu.fn.gc (by simp) (by simp[Zu,Zw,Zv,Zj,Zf,Vc.S1.okN,At.okN,SV.okN,Res.okN,Res.outOk,Zo,Res.own,Value.oneCell']) fun w' X fr=> ?_
 by_cases h:2^w≤2*(x%2^w)
 ·have c1:(0:Int)≤cmpI (x%2^w) (2^(w-1)):=by unfold cmpI;rw[if_neg (by omega)];split<;>decide
  rw[show ng (2^w) (x%2^w)=true from decide_eq_true h,show mg (2^w) (x%2^w)=2^w-x%2^w from if_pos h]
  generalize cmpI (x%2^w) (2^(w-1))=cv at*
  generalize x%2^w=n at*
  repeat'(first|(first|refine Stp.h ?_|(refine Za.gc hW ?_ ?_;focus simp[Zb];done)|(refine Za.gc hF ?_ ?_;focus simp[Zb];done)|(refine Za.gc hW2 ?_ ?_;focus simp[Zb];done)|(refine Za.gc hT1 ?_ ?_;focus simp[Zb];done)|(refine Za.gc hT2 ?_ ?_;focus simp[Zb];done)|(refine Za.gc hC ?_ ?_;focus simp[Zb];done)|(refine Za.gc hS ?_ ?_;focus simp[Zb];done)|refine Ze.split ?_ ?_|refine Zh.no ?_)<;>try simp only[Zc,simprocAttr,↓reduceIte,reduceCtorEq,implies_true,w1,c1,decide_true]|(with_reducible first|assumption|refine And.intro ?_ ?_)|(intro h;first|omega|exact tg h ‹_›|exact tg ‹_› h|skip))
 ·have c1:¬(0:Int)≤cmpI (x%2^w) (2^(w-1)):=by unfold cmpI;rw[if_pos (by omega)];decide
  rw[show ng (2^w) (x%2^w)=false from decide_eq_false h,show mg (2^w) (x%2^w)=x%2^w from if_neg h]
  generalize cmpI (x%2^w) (2^(w-1))=cv at*
  generalize x%2^w=n at*
  repeat'(first|(first|refine Stp.h ?_|(refine Za.gc hW ?_ ?_;focus simp[Zb];done)|(refine Za.gc hF ?_ ?_;focus simp[Zb];done)|(refine Za.gc hW2 ?_ ?_;focus simp[Zb];done)|(refine Za.gc hT1 ?_ ?_;focus simp[Zb];done)|(refine Za.gc hT2 ?_ ?_;focus simp[Zb];done)|(refine Za.gc hC ?_ ?_;focus simp[Zb];done)|refine Ze.split ?_ ?_|refine Zh.no ?_)<;>try simp only[Zc,simprocAttr,↓reduceIte,reduceCtorEq,implies_true,w1,c1,decide_false]|(with_reducible first|assumption|refine And.intro ?_ ?_)|(intro h;first|omega|exact tg h ‹_›|exact tg ‹_› h|skip))
theorem J9(x y:Nat)(m k:Bool)(hx:x<18446744073709551616)(hy:y≠0)(hly:(wds y).length≤1000)(b c:Bool):GC Tryz.prog 24 [.a (.loc 0 0),.a (.loc 1 0),.a (.loc 3 0),.a (.loc 5 0)]
 [(0,.cells 34 [.bool b,.raw (.slice none 0 0)]),(1,.rocells [.bool m,.ref 2]),(2,.ro (.int .u32) (wds x)),(3,.rocells [.bool k,.ref 4]),(4,.ro (.int .u32) (wds y)),(5,.cells 34 [.bool c,.raw (.slice none 0 0)])] 6 [0,5] (.tup [.a (.loc 0 0),.a (.loc 5 0)])
 [(0,.cells 34 [.bool ((m !=k)&&decide (0<(wds (x/y)).length)),.ref 6]),(6,.row 90 (.int .u32) (wds (x/y))),(5,.cells 34 [.bool (m&&decide (0<(wds (x%y)).length)),.ref 7]),(7,.row 90 (.int .u32) (wds (x%y)))] 8:=by
 have hD:=Za2 x y hx hy hly
 have hG:=Uu b (m !=k) (wds (x/y))
 have hG2:=Uu c m (wds (x%y))
 refine Yw.fn.gc (by simp) (by simp[Zu,Zw,Zv,Zj,Zf,Vc.S1.okN,At.okN,SV.okN,Res.okN,Res.outOk,Zo,Res.own,Value.oneCell']) fun w X fr=> ?_
 repeat'(first|(first|refine Stp.h ?_|(refine Za.gc hD ?_ ?_;focus simp[Zb];done)|(refine Za.gc hG ?_ ?_;focus simp[Zb];done)|(refine Za.gc hG2 ?_ ?_;focus simp[Zb];done))<;>try simp only[Zc,simprocAttr,↓reduceIte,reduceCtorEq,implies_true]|(with_reducible first|assumption|refine And.intro ?_ ?_)|(intro h;first|omega|exact tg h ‹_›|exact tg ‹_› h|skip))
def Oh(q:Nat):Prop:=GC Tryz.prog 21 [.a (.loc 0 0),.a (.loc 0 0),.a (.loc 2 0)]
    [(0,.cells 34 [.bool (decide (0<(wds q).length)),.ref 1]),(1,.row 90 (.int .u32) (wds q)),(2,.rocells [.bool false,.ref 3]),(3,.ro (.int .u32) (wds 1))] 4 [0] (.one (.a (.loc 0 0)))
    [(0,.cells 34 [.bool true,.ref 4]),(4,.row 90 (.int .u32) (wds (q+1)))] 5
theorem Zad:(wds 1).length=1:=by rw[Jw];rfl
theorem K8:Oh 0:=by
 have h:=Zdr 0 1 (by decide) (by rw[Zad];decide)
 unfold Oh
 rw[show decide (0<(wds 0).length)=false by rw[Yc];rfl]
 exact h
theorem Jz(x y:Nat)(hx:x<18446744073709551616)(hy:y≠0)(hly:(wds y).length≤100)(b c:Bool)(hs:x%y≠0→Oh (x/y)):GC Tryz.prog 32 [.a (.loc 0 0),.a (.loc 1 0),.a (.loc 3 0),.a (.loc 5 0)]
 [(0,.cells 34 [.bool b,.raw (.slice none 0 0)]),(1,.rocells [.bool true,.ref 2]),(2,.ro (.int .u32) (wds x)),(3,.rocells [.bool false,.ref 4]),(4,.ro (.int .u32) (wds y)),(5,.cells 34 [.bool c,.raw (.slice none 0 0)])] 6 [0,5] (.tup [.a (.loc 0 0),.a (.loc 5 0)])
 [(0,.cells 34 [.bool (decide (0<(wds (if x%y=0 then x/y else x/y+1)).length)),.ref 6]),(6,.row 90 (.int .u32) (wds (if x%y=0 then x/y else x/y+1))),(5,.cells 34 [.bool false,.ref 7]),(7,.row 90 (.int .u32) (wds (if x%y=0 then 0 else y-x%y)))] 8:=by
 have hQ:=J9 x y true false hx hy (by omega) b c
 have hS:=F2 false false (wds y) (by omega) rfl
 have hN:=Gs 1 (by decide)
 have c1:((1:Nat):Int)=1:=rfl
 rw[c1]at hN
 have b3:(true !=false)=true:=rfl
 have hr:x%y<y:=Nat.mod_lt _ (by omega)
 have hA:=AddO_gc (x%y) y hr hly
 refine Yv.fn.gc (by simp) (by simp[Zu,Zw,Zv,Zj,Zf,Vc.S1.okN,At.okN,SV.okN,Res.okN,Res.outOk,Zo,Res.own,Value.oneCell']) fun w X fr=> ?_
 by_cases h:x%y=0
 ·rw[if_pos h,if_pos h]
  rw[h,Yc]at hQ
  rw[Yc]
  simp only[List.length_nil,Nat.lt_irrefl,decide_false,Bool.and_false,b3,Bool.true_and]at hQ
  repeat'(first|(first|refine Stp.h ?_|(refine Za.gc hQ ?_ ?_;focus simp[Zb];done)|(refine Za.gc hS ?_ ?_;focus simp[Zb];done))<;>try simp only[Zc,simprocAttr,↓reduceIte,reduceCtorEq,implies_true]|(with_reducible first|assumption|refine And.intro ?_ ?_)|(intro h;first|omega|exact tg h ‹_›|exact tg ‹_› h|skip))
 ·rw[if_neg h,if_neg h,Uh (Nat.succ_ne_zero _)]
  have hB:=hs h
  unfold Oh at hB
  rw[Uh h]at hQ
  simp only[Bool.and_self,b3,Bool.true_and]at hQ
  repeat'(first|(first|refine Stp.h ?_|(refine Za.gc hQ ?_ ?_;focus simp[Zb];done)|(refine Za.gc hS ?_ ?_;focus simp[Zb];done)|(refine Za.gc hN ?_ ?_;focus simp[Zb];done)|(refine Za.gc hB ?_ ?_;focus simp[Zb];done)|(refine Za.gc hA ?_ ?_;focus simp[Zb];done))<;>try simp only[Zc,simprocAttr,↓reduceIte,reduceCtorEq,implies_true]|(with_reducible first|assumption|refine And.intro ?_ ?_)|(intro h;first|omega|exact tg h ‹_›|exact tg ‹_› h|skip))
theorem Zfk(b:Bool)(l:List Int)(h:l.length≠0):GC Tryz.prog 23 [.a (.loc 0 0)] [(0,.rocells [.bool b,.ref 1]),(1,.ro (.int .u32) l)] 2 [] (.one (.a (.int .i64 (if b=true then-1 else 1)))) [] 2:=by
 have e:¬(l.length:Int)=0:=by omega
 refine X9.fn.gc (by simp) (by simp[Zu,Zw,Zv,Zj,Zf,Vc.S1.okN,At.okN,SV.okN,Res.okN,Res.outOk,Zo,Res.own,Value.oneCell']) fun w X fr=> ?_
 cases b
 ·repeat'(first|(first|refine Stp.h ?_)<;>try simp only[Zc,simprocAttr,↓reduceIte,reduceCtorEq,implies_true,e,decide_false,Bool.false_eq_true]|(with_reducible first|assumption|refine And.intro ?_ ?_)|(intro h;first|omega|exact tg h ‹_›|exact tg ‹_› h|skip))
 ·repeat'(first|(first|refine Stp.h ?_)<;>try simp only[Zc,simprocAttr,↓reduceIte,reduceCtorEq,implies_true,e,decide_false,Bool.false_eq_true]|(with_reducible first|assumption|refine And.intro ?_ ?_)|(intro h;first|omega|exact tg h ‹_›|exact tg ‹_› h|skip))
theorem F4(W n:Nat)(h:n<W):abP (W:Int) (n:Int)=((mg W n:Nat):Int):=by
 unfold abP mg
 by_cases c:W≤2*n
 ·rw[if_pos (by omega),if_pos c];omega
 ·rw[if_neg (by omega),if_neg c]
theorem E5(W q:Nat)(h:q<W):((-(q:Int))%(W:Int)).toNat=if q=0 then 0 else W-q:=by
 by_cases c:q=0
 ·subst c;simp
 ·rw[if_neg c,←Int.add_emod_right,Int.emod_eq_of_lt (by omega) (by omega)];omega
theorem Zc6(r:Bool)(W a b:Nat)(h:0<W)(h2:W≤18446744073709551616):sgN r W a b<18446744073709551616:=by
 unfold sgN
 generalize (if r=true then(sgP (W:Int) ((a%W:Nat):Int)).tmod (sgP (W:Int) ((b%W:Nat):Int))else(sgP (W:Int) ((a%W:Nat):Int)).tdiv (sgP (W:Int) ((b%W:Nat):Int)))=z
 have k2:=Int.emod_lt_of_pos z (show(0:Int)<(W:Int) by omega)
 omega
theorem sgN_div(W a b:Nat)(h:2≤W)(h0:b%W≠0):sgN false W a b=if(ng W (a%W) !=ng W (b%W))=true∧mg W (a%W)/mg W (b%W)≠0 then W-mg W (a%W)/mg W (b%W)else mg W (a%W)/mg W (b%W):=by
 have ha:a%W<W:=Nat.mod_lt _ (by omega)
 have hb:b%W<W:=Nat.mod_lt _ (by omega)
 have key:=Zi1 (W:Int) ((a%W:Nat):Int) ((b%W:Nat):Int) (by omega) (by omega) (by omega)
 have hA:=(Bs ha).1
 unfold sgN
 simp only[Bool.false_eq_true,if_false]
 rw[←key,F4 _ _ ha,F4 _ _ hb,←Int.natCast_ediv]
 generalize a%W=A at*
 generalize b%W=B at*
 have hq:mg W A/mg W B<W:=Nat.lt_of_le_of_lt (Nat.div_le_self _ _) (by omega)
 generalize mg W A/mg W B=q at*
 have e:((W:Int)≤2*(A:Int))≠((W:Int)≤2*(B:Int))↔(ng W A !=ng W B)=true:=by
  unfold ng
  by_cases c1:W≤2*A<;>by_cases c2:W≤2*B
  ·simp[c1,c2,show(W:Int)≤2*(A:Int) by omega,show(W:Int)≤2*(B:Int) by omega]
  ·simp[c1,c2,show(W:Int)≤2*(A:Int) by omega,show¬(W:Int)≤2*(B:Int) by omega]
  ·simp[c1,c2,show¬(W:Int)≤2*(A:Int) by omega,show(W:Int)≤2*(B:Int) by omega]
  ·simp[c1,c2,show¬(W:Int)≤2*(A:Int) by omega,show¬(W:Int)≤2*(B:Int) by omega]
 by_cases c:(ng W A !=ng W B)=true
 ·rw[if_pos (e.2 c),E5 W q hq]
  by_cases hq0:q=0
  ·rw[if_pos hq0,if_neg (fun h=>h.2 hq0)];exact hq0.symm
  ·rw[if_neg hq0,if_pos ⟨c,hq0⟩]
 ·rw[if_neg (fun h=>c (e.1 h)),if_neg (fun h=>c h.1),Int.toNat_natCast]
theorem sgN_rem(W a b:Nat)(h:2≤W)(h0:b%W≠0):sgN true W a b=if ng W (a%W)=true∧mg W (a%W)%mg W (b%W)≠0 then W-mg W (a%W)%mg W (b%W)else mg W (a%W)%mg W (b%W):=by
 have ha:a%W<W:=Nat.mod_lt _ (by omega)
 have hb:b%W<W:=Nat.mod_lt _ (by omega)
 have key:=Zi3 (W:Int) ((a%W:Nat):Int) ((b%W:Nat):Int) (by omega) (by omega) (by omega)
 have hA:=(Bs ha).1
 unfold sgN
 simp only[if_true]
 rw[←key,F4 _ _ ha,F4 _ _ hb,←Int.natCast_emod]
 generalize a%W=A at*
 generalize b%W=B at*
 have hq:mg W A%mg W B<W:=Nat.lt_of_le_of_lt (Nat.mod_le _ _) (by omega)
 generalize mg W A%mg W B=q at*
 by_cases c:W≤2*A
 ·have c1:ng W A=true:=decide_eq_true c
  rw[if_pos (by omega),E5 W q hq]
  by_cases hq0:q=0
  ·rw[if_pos hq0,if_neg (fun h=>h.2 hq0)];exact hq0.symm
  ·rw[if_neg hq0,if_pos ⟨c1,hq0⟩]
 ·have c1:ng W A=false:=decide_eq_false c
  rw[if_neg (by omega),if_neg (fun h=>by rw[c1]at h;exact absurd h.1 (by decide)),Int.toNat_natCast]
theorem ModS_gc(x y:Nat)(hx:x<18446744073709551616)(hy:y≠0)(hly:(wds y).length≤100)(c:Bool)(hs:x%y≠0→Oh (x/y)):GC Tryz.prog 41 [.a (.loc 0 0),.a (.loc 1 0),.a (.loc 3 0)]
 [(0,.cells 34 [.bool c,.raw (.slice none 0 0)]),(1,.rocells [.bool true,.ref 2]),(2,.ro (.int .u32) (wds x)),(3,.rocells [.bool false,.ref 4]),(4,.ro (.int .u32) (wds y))] 5 [0] (.one (.a (.loc 0 0)))
 [(0,.cells 34 [.bool false,.ref 5]),(5,.row 90 (.int .u32) (wds (if x%y=0 then 0 else y-x%y)))] 6:=by
 have hD:=Jz x y hx hy hly false c hs
 generalize (if x%y=0 then 0 else y-x%y)=m at*
 generalize (if x%y=0 then x/y else x/y+1)=q at*
 refine Xi.fn.gc (by simp) (by simp[Zu,Zw,Zv,Zj,Zf,Vc.S1.okN,At.okN,SV.okN,Res.okN,Res.outOk,Zo,Res.own,Value.oneCell']) fun w X fr=> ?_
 repeat'(first|(first|refine Stp.h ?_|(refine Za.gc hD ?_ ?_;focus simp[Zb];done))<;>try simp only[Zc,simprocAttr,↓reduceIte,reduceCtorEq,implies_true]|(with_reducible first|assumption|refine And.intro ?_ ?_)|(intro h;first|omega|exact tg h ‹_›|exact tg ‹_› h|skip))
theorem FitS_gc(x w:Nat)(hx:x<18446744073709551616)(hw:w≤64)(hs:x%2^w≠0→Oh (x/2^w)):GC Tryz.prog 27 [.a (.loc 0 0),.a (.int .i64 (w:Int))] [(0,.rocells [.bool true,.ref 1]),(1,.ro (.int .u32) (wds x))] 2 []
 (.one (.a (.int .u64 ((if x%2^w=0 then 0 else 2^w-x%2^w:Nat):Int)))) [] 2:=by
 have hp:2^w≠0:=Nat.ne_of_gt (Nat.pow_pos (by decide))
 have h64:2^w≤2^64:=Nat.pow_le_pow_right (by decide) hw
 have hl:(wds (2^w)).length≤3:=W3 3 _ (by
  have:(2:Nat)^64<4294967296^3:=by decide
  omega)
 have hT:=Oi w hw
 have hM:=ModS_gc x (2^w) hx hp (by omega) false hs
 have hlt:(if x%2^w=0 then 0 else 2^w-x%2^w:Nat)<18446744073709551616:=by
  have:(2:Nat)^64=18446744073709551616:=by decide
  split<;>omega
 have hU:=Pk _ hlt false
 generalize (if x%2^w=0 then 0 else 2^w-x%2^w:Nat)=m at*
 refine X8.fn.gc (by simp) (by simp[Zu,Zw,Zv,Zj,Zf,Vc.S1.okN,At.okN,SV.okN,Res.okN,Res.outOk,Zo,Res.own,Value.oneCell']) fun w X fr=> ?_
 repeat'(first|(first|refine Stp.h ?_|(refine Za.gc hT ?_ ?_;focus simp[Zb];done)|(refine Za.gc hM ?_ ?_;focus simp[Zb];done)|(refine Za.gc hU ?_ ?_;focus simp[Zb];done))<;>try simp only[Zc,simprocAttr,↓reduceIte,reduceCtorEq,implies_true]|(with_reducible first|assumption|refine And.intro ?_ ?_)|(intro h;first|omega|exact tg h ‹_›|exact tg ‹_› h|skip))
theorem Fw(f:Bool)(q w:Nat)(hq:q<2^w)(hw:w≤64)(hf:f=true→q≠0):GC Tryz.prog 27 [.a (.loc 0 0),.a (.int .i64 (w:Int))] [(0,.rocells [.bool f,.ref 1]),(1,.ro (.int .u32) (wds q))] 2 []
 (.one (.a (.int .u64 ((if f=true then 2^w-q else q:Nat):Int)))) [] 2:=by
 have h64:2^w≤2^64:=Nat.pow_le_pow_right (by decide) hw
 have e64:(2:Nat)^64=18446744073709551616:=by decide
 cases f
 ·have h:=N5 q w (by omega) hw
  rw[Nat.mod_eq_of_lt hq]at h
  exact h
 ·have h:=FitS_gc q w (by omega) hw (fun _=>by rw[Nat.div_eq_of_lt hq];exact K8)
  rw[Nat.mod_eq_of_lt hq,if_neg (hf rfl)]at h
  exact h
theorem J0(r:Bool)(x y w:Nat)(hx:x<18446744073709551616)(hy:y<18446744073709551616)(hw:w=16∨w=32∨w=64)(h0:y%2^w≠0):GC Tryz.prog 15 [.a (.int .u8 (if r=true then 37 else 47)),.a (.int .u64 (x:Int)),.a (.int .u64 (y:Int)),.a (.int .i64 (w:Int)),.a (.bool true)] [] 0 []
 (.tup [.a (.int .u64 ((sgN r (2^w) x y:Nat):Int)),.a (.int .i64 0)]) [] 0:=by
 have hW:=Sv w (by omega)
 have hX:=Qu x w hx hw
 have hY:=Qu y w hy hw
 have h64:2^w≤2^64:=Nat.pow_le_pow_right (by decide) (by omega)
 have e64:(2:Nat)^64=18446744073709551616:=by decide
 have h2:2≤2^w:=by rcases hw with rfl|rfl|rfl<;>decide
 have ha:=Nat.mod_lt x (show 0<2^w by omega)
 have hb:=Nat.mod_lt y (show 0<2^w by omega)
 have mA:=Bs ha
 have mB:=Bs hb
 have B0:mg (2^w) (y%2^w)≠0:=fun h=>h0 (mB.2 h)
 have l2:=W3 2 (mg (2^w) (y%2^w)) (by omega)
 have hS:=Zfk (ng (2^w) (y%2^w)) (wds (mg (2^w) (y%2^w))) (fun h=>B0 (Vu.1 h))
 have hQ:=J9 (mg (2^w) (x%2^w)) (mg (2^w) (y%2^w)) (ng (2^w) (x%2^w)) (ng (2^w) (y%2^w)) (by omega) B0 (by omega) false false
 have hq:mg (2^w) (x%2^w)/mg (2^w) (y%2^w)≤mg (2^w) (x%2^w):=Nat.div_le_self _ _
 have hr:mg (2^w) (x%2^w)%mg (2^w) (y%2^w)≤mg (2^w) (x%2^w):=Nat.mod_le _ _
 have s0:¬(if ng (2^w) (y%2^w)=true then(-1:Int)else 1)=0:=by split<;>decide
 have bnd:∀(f:Bool) (q:Nat),((f&&decide (0<(wds q).length))=true↔f=true∧q≠0):=fun f q=>by
  cases f
  ·simp
  ·simp only[Bool.true_and,decide_eq_true_eq,true_and]
   exact⟨fun h e=>by rw[e,Yc]at h;exact absurd h (by decide),fun h=>Nat.pos_of_ne_zero fun e=>h (Vu.1 e)⟩
 have hF1:=Fw ((ng (2^w) (x%2^w) !=ng (2^w) (y%2^w))&&decide (0<(wds (mg (2^w) (x%2^w)/mg (2^w) (y%2^w))).length)) (mg (2^w) (x%2^w)/mg (2^w) (y%2^w)) w (by omega) (by omega) (fun h=>((bnd _ _).1 h).2)
 have hF2:=Fw (ng (2^w) (x%2^w)&&decide (0<(wds (mg (2^w) (x%2^w)%mg (2^w) (y%2^w))).length)) (mg (2^w) (x%2^w)%mg (2^w) (y%2^w)) w (by omega) (by omega) (fun h=>((bnd _ _).1 h).2)
 simp only[bnd]at hF1 hF2
 rw[←sgN_div (2^w) x y h2 h0]at hF1
 rw[←sgN_rem (2^w) x y h2 h0]at hF2
 generalize hv1:sgN false (2^w) x y=v1 at*
 generalize hv2:sgN true (2^w) x y=v2 at*
 generalize (if ng (2^w) (y%2^w)=true then(-1:Int)else 1)=sv at*
 generalize ((ng (2^w) (x%2^w) !=ng (2^w) (y%2^w))&&decide (0<(wds (mg (2^w) (x%2^w)/mg (2^w) (y%2^w))).length))=f1 at*
 generalize (ng (2^w) (x%2^w)&&decide (0<(wds (mg (2^w) (x%2^w)%mg (2^w) (y%2^w))).length))=f2 at*
 generalize mg (2^w) (x%2^w)=A at*
 generalize mg (2^w) (y%2^w)=B at*
 generalize ng (2^w) (x%2^w)=ba at*
 generalize ng (2^w) (y%2^w)=bb at*
 refine Vy.fn.gc (by simp) (by simp[Zu,Zw,Zv,Zj,Zf,Vc.S1.okN,At.okN,SV.okN,Res.okN,Res.outOk,Zo,Res.own,Value.oneCell']) fun w X fr=> ?_
 cases r
 ·rw[hv1]
  repeat'(first|(first|refine Stp.h ?_|(refine Za.gc hW ?_ ?_;focus simp[Zb];done)|(refine Za.gc hX ?_ ?_;focus simp[Zb];done)|(refine Za.gc hY ?_ ?_;focus simp[Zb];done)|(refine Za.gc hS ?_ ?_;focus simp[Zb];done)|(refine Za.gc hQ ?_ ?_;focus simp[Zb];done)|(refine Za.gc hF1 ?_ ?_;focus simp[Zb];done))<;>try simp only[Zc,simprocAttr,↓reduceIte,reduceCtorEq,implies_true,s0,decide_true,decide_false,Bool.false_eq_true]|(with_reducible first|assumption|refine And.intro ?_ ?_)|(intro h;first|omega|exact tg h ‹_›|exact tg ‹_› h|skip))
 ·rw[hv2]
  repeat'(first|(first|refine Stp.h ?_|(refine Za.gc hW ?_ ?_;focus simp[Zb];done)|(refine Za.gc hX ?_ ?_;focus simp[Zb];done)|(refine Za.gc hY ?_ ?_;focus simp[Zb];done)|(refine Za.gc hS ?_ ?_;focus simp[Zb];done)|(refine Za.gc hQ ?_ ?_;focus simp[Zb];done)|(refine Za.gc hF2 ?_ ?_;focus simp[Zb];done))<;>try simp only[Zc,simprocAttr,↓reduceIte,reduceCtorEq,implies_true,s0,decide_true,decide_false,Bool.false_eq_true]|(with_reducible first|assumption|refine And.intro ?_ ?_)|(intro h;first|omega|exact tg h ‹_›|exact tg ‹_› h|skip))
theorem N3(r:Bool)(x y w:Nat)(hx:x<18446744073709551616)(hy:y<18446744073709551616)(hw:w=16∨w=32∨w=64)(h0:y%2^w=0):GC Tryz.prog 15 [.a (.int .u8 (if r=true then 37 else 47)),.a (.int .u64 (x:Int)),.a (.int .u64 (y:Int)),.a (.int .i64 (w:Int)),.a (.bool true)] [] 0 []
 (.tup [.a (.int .u64 0),.a (.int .i64 10)]) [] 0:=by
 have hW:=Sv w (by omega)
 have hX:=Qu x w hx hw
 have hY:=Qu y w hy hw
 have hp:¬2^w≤2*0:=by have:=Nat.pow_pos (n:=w) (show 0<2 by decide);omega
 rw[h0,show ng (2^w) 0=false from decide_eq_false hp,show mg (2^w) 0=0 from if_neg hp,Yc]at hY
 have hS:=Zfj
 generalize mg (2^w) (x%2^w)=A at*
 generalize ng (2^w) (x%2^w)=ba at*
 refine Vy.fn.gc (by simp) (by simp[Zu,Zw,Zv,Zj,Zf,Vc.S1.okN,At.okN,SV.okN,Res.okN,Res.outOk,Zo,Res.own,Value.oneCell']) fun w X fr=> ?_
 cases r
 ·repeat'(first|(first|refine Stp.h ?_|(refine Za.gc hW ?_ ?_;focus simp[Zb];done)|(refine Za.gc hX ?_ ?_;focus simp[Zb];done)|(refine Za.gc hY ?_ ?_;focus simp[Zb];done)|(refine Za.gc hS ?_ ?_;focus simp[Zb];done))<;>try simp only[Zc,simprocAttr,↓reduceIte,reduceCtorEq,implies_true,decide_true,decide_false,Bool.false_eq_true]|(with_reducible first|assumption|refine And.intro ?_ ?_)|(intro h;first|omega|exact tg h ‹_›|exact tg ‹_› h|skip))
 ·repeat'(first|(first|refine Stp.h ?_|(refine Za.gc hW ?_ ?_;focus simp[Zb];done)|(refine Za.gc hX ?_ ?_;focus simp[Zb];done)|(refine Za.gc hY ?_ ?_;focus simp[Zb];done)|(refine Za.gc hS ?_ ?_;focus simp[Zb];done))<;>try simp only[Zc,simprocAttr,↓reduceIte,reduceCtorEq,implies_true,decide_true,decide_false,Bool.false_eq_true]|(with_reducible first|assumption|refine And.intro ?_ ?_)|(intro h;first|omega|exact tg h ‹_›|exact tg ‹_› h|skip))
end Go.Proofs.YtddmlennnmpnhaaGreatDoor
