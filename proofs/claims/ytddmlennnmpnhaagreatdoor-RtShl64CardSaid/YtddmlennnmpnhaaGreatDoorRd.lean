/- A part of the proofs of this seat's laws: steps on the way, joined. It has no conditions of its own. -/
import Derived.Test.YtddmlennnmpnhaaGreatDoorQh
import Derived.Test.YtddmlennnmpnhaaGreatDoorChecked
import Derived.KernelRfl
import Derived.Test.YtddmlennnmpnhaaGreatDoorQn
import Derived.Test.YtddmlennnmpnhaaGreatDoorQy
import Derived.Test.YtddmlennnmpnhaaGreatDoorQx
namespace Go.Proofs.YtddmlennnmpnhaaGreatDoor
open Vc
namespace V5
abbrev r0:List In:=[i1 12 (.mv (kB false))]
abbrev r1:List In:=[mv 16 0,mv 17 1,i1 18 (.bin .rem (.t 17) (.k (.a (.int .u64 65536)))),i1 19 (.call 17 [.t 16,.t 18,kI 16,kB true,kB false]),mv 15 19,i1 20 (.ext 0 (.t 15)),i1 21 (.ext 1 (.t 15)),mv 13 20,mv 14 21]
abbrev r2:List In:=[mv 22 0,mv 23 1,mv 24 2,mv 25 3,mv 26 4,mv 27 5,mv 28 13,mv 29 14,i1 30 (.bin .eql (.t 29) (kI 10)),i1 31 (.call 16 [(.k (.a (.str [115,104,108,49]))),kI 1,kI 1,.t 22,.t 23,.t 24,.t 25,.t 26,.t 27,.t 28,.t 30]),mv 12 31]
abbrev code:IC:=.seq (.reg r0) (.seq (.reg r1) (.seq (.reg r2) .ret))
abbrev res:List RV:=[.tmp 12]
theorem fn:Body Tryz.prog 6 32 code res:=⟨by decide,Tryz.f6,_,Tryz.func6,rfl,rfl,by kernel_rfl,by kernel_rfl⟩
end V5
namespace V6
abbrev r0:List In:=[i1 12 (.mv (kB false))]
abbrev r1:List In:=[mv 16 0,mv 17 1,i1 18 (.bin .rem (.t 17) (.k (.a (.int .u64 65536)))),i1 19 (.call 17 [.t 16,.t 18,kI 32,kB true,kB false]),mv 15 19,i1 20 (.ext 0 (.t 15)),i1 21 (.ext 1 (.t 15)),mv 13 20,mv 14 21]
abbrev r2:List In:=[mv 22 0,mv 23 1,mv 24 2,mv 25 3,mv 26 4,mv 27 5,mv 28 13,mv 29 14,i1 30 (.bin .eql (.t 29) (kI 10)),i1 31 (.call 16 [(.k (.a (.str [115,104,108,50]))),kI 2,kI 1,.t 22,.t 23,.t 24,.t 25,.t 26,.t 27,.t 28,.t 30]),mv 12 31]
abbrev code:IC:=.seq (.reg r0) (.seq (.reg r1) (.seq (.reg r2) .ret))
abbrev res:List RV:=[.tmp 12]
theorem fn:Body Tryz.prog 7 32 code res:=⟨by decide,Tryz.f7,_,Tryz.func7,rfl,rfl,by kernel_rfl,by kernel_rfl⟩
end V6
namespace V7
abbrev r0:List In:=[i1 12 (.mv (kB false))]
abbrev r1:List In:=[mv 16 0,mv 17 1,i1 18 (.bin .rem (.t 17) (.k (.a (.int .u64 65536)))),i1 19 (.call 17 [.t 16,.t 18,kI 64,kB true,kB false]),mv 15 19,i1 20 (.ext 0 (.t 15)),i1 21 (.ext 1 (.t 15)),mv 13 20,mv 14 21]
abbrev r2:List In:=[mv 22 0,mv 23 1,mv 24 2,mv 25 3,mv 26 4,mv 27 5,mv 28 13,mv 29 14,i1 30 (.bin .eql (.t 29) (kI 10)),i1 31 (.call 16 [(.k (.a (.str [115,104,108,52]))),kI 4,kI 1,.t 22,.t 23,.t 24,.t 25,.t 26,.t 27,.t 28,.t 30]),mv 12 31]
abbrev code:IC:=.seq (.reg r0) (.seq (.reg r1) (.seq (.reg r2) .ret))
abbrev res:List RV:=[.tmp 12]
theorem fn:Body Tryz.prog 8 32 code res:=⟨by decide,Tryz.f8,_,Tryz.func8,rfl,rfl,by kernel_rfl,by kernel_rfl⟩
end V7
end Go.Proofs.YtddmlennnmpnhaaGreatDoor
namespace Go.Proofs.YtddmlennnmpnhaaGreatDoor
open Go Go.RowKit Vc
set_option linter.unusedVariables false
set_option linter.unusedSimpArgs false
attribute [local irreducible] T Za Zn Ent RdC RwC Yd Ze Zh
theorem E7:∀m n,p32 (m+n)=p32 m*p32 n
 |m,0=>by simp[p32]
 |m,n+1=>by rw[←Nat.add_assoc,p32,E7 m n,p32,Int.mul_left_comm]
structure MulI (a b:List Int) (i j:Nat) (r:List Int) (c:Int):Prop where
 ok:wOk r
 len:r.length=a.length+b.length
 top:∀k,i+b.length≤k→r.getD k 0=0
 cy:w32 c
 v:nv r+p32 (i+j)*c=lowV (fun k=>a.getD k 0) i*lowV (fun k=>b.getD k 0) b.length+p32 i*(a.getD i 0*lowV (fun k=>b.getD k 0) j)
theorem Y7{l:List Int}{k m:Nat}{v:Int}(h:k≠m):(l.set k v).getD m 0=l.getD m 0:=by
 rw[List.getD_eq_getElem?_getD,List.getElem?_set_ne h,←List.getD_eq_getElem?_getD]
theorem MulI.t_rng{a b r:List Int}{i j:Nat}{c:Int}(ha:wOk a)(hb:wOk b)(h:MulI a b i j r c):0≤a.getD i 0*b.getD j 0∧a.getD i 0*b.getD j 0≤18446744065119617025∧0≤r.getD (i+j) 0∧r.getD (i+j) 0≤4294967295∧0≤c∧c≤4294967295:=by
 have h1:=ha i
 have h2:=hb j
 have h3:=h.ok (i+j)
 have h4:=h.cy
 unfold w32 at*
 have e1:0≤a.getD i 0*b.getD j 0:=Int.mul_nonneg h1.1 h2.1
 have e2:a.getD i 0*b.getD j 0≤4294967295*4294967295:=Int.mul_le_mul (by omega) (by omega) h2.1 (by decide)
 omega
theorem MulI.step{a b r:List Int}{i j:Nat}{c:Int}(ha:wOk a)(hb:wOk b)(hi:i<a.length)(hj:j<b.length)(h:MulI a b i j r c){t:Int}(ht:t=c+(a.getD i 0*b.getD j 0+r.getD (i+j) 0)):
 MulI a b i (j+1) (r.set (i+j) (t%4294967296)) (t/4294967296):=by
 obtain⟨g1,g2,g3,g4,g5,g6⟩:=h.t_rng ha hb
 have hl:i+j<r.length:=by rw[h.len];omega
 refine⟨Sr h.ok (by unfold w32;omega),by rw[List.length_set];exact h.len,fun k hk=> ?_,by unfold w32;omega,?_⟩
 ·rw[Y7 (by omega)];exact h.top k hk
 ·have hv:=h.v
  rw[Qk _ _ _ hl,←Nat.add_assoc,p32,lowV]
  have e1:p32 (i+j)*(t%4294967296-r.getD (i+j) 0)+4294967296*p32 (i+j)*(t/4294967296)=p32 (i+j)*c+p32 (i+j)*(a.getD i 0*b.getD j 0):=by
   have:t%4294967296-r.getD (i+j) 0+4294967296*(t/4294967296)=c+a.getD i 0*b.getD j 0:=by omega
   rw[Int.mul_comm 4294967296 (p32 (i+j)),Int.mul_assoc,←Int.mul_add,this,Int.mul_add]
  have e2:p32 i*(a.getD i 0*(lowV (fun k=>b.getD k 0) j+p32 j*b.getD j 0))=p32 i*(a.getD i 0*lowV (fun k=>b.getD k 0) j)+p32 (i+j)*(a.getD i 0*b.getD j 0):=by
   rw[Int.mul_add,Int.mul_add,E7,Int.mul_left_comm (a.getD i 0) (p32 j),Int.mul_assoc (p32 i) (p32 j)]
  rw[e2]
  omega
structure MulO (a b:List Int) (i:Nat) (r:List Int):Prop where
 ok:wOk r
 len:r.length=a.length+b.length
 top:∀k,i+b.length≤k→r.getD k 0=0
 v:nv r=lowV (fun k=>a.getD k 0) i*lowV (fun k=>b.getD k 0) b.length
theorem MulI.fin{a b r:List Int}{i:Nat}{c:Int}(hi:i<a.length)(hb0:0<b.length)(h:MulI a b i b.length r c):MulO a b (i+1) (r.set (i+b.length) c):=by
 have hl:i+b.length<r.length:=by rw[h.len];omega
 refine⟨Sr h.ok h.cy,by rw[List.length_set];exact h.len,fun k hk=> ?_,?_⟩
 ·rw[Y7 (by omega)];exact h.top k (by omega)
 ·rw[Qk _ _ _ hl,h.top _ (Nat.le_refl _),Int.sub_zero,h.v,lowV,Int.add_mul,Int.mul_assoc]
theorem MulO.zero(a b:List Int):MulO a b 0 (List.replicate (a.length+b.length) 0):=⟨Lp _,by simp,fun k _=>by rw[List.getD_eq_getElem?_getD,List.getElem?_replicate];split<;>rfl,by rw[L9];simp[lowV]⟩
theorem Zit(a b:Nat)(ha:a<4294967296)(hb:b<4294967296):orI .u32 (a:Int) (b:Int)=((a|||b:Nat):Int):=by
 have e:(BitVec.ofInt 32 (a:Int)|||BitVec.ofInt 32 (b:Int)).toNat=a|||b:=by
  rw[BitVec.toNat_or,BitVec.toNat_ofInt,BitVec.toNat_ofInt]
  have:((2^32:Nat):Int)=4294967296:=by decide
  rw[this,show((a:Int)%4294967296).toNat=a by omega,show((b:Int)%4294967296).toNat=b by omega]
 show IntKind.u32.wrap ((BitVec.ofInt 32 (a:Int)|||BitVec.ofInt 32 (b:Int)).toNat:Nat)=_
 have h:a|||b<2^32:=Nat.or_lt_two_pow (show a<2^32 by omega) (show b<2^32 by omega)
 rw[e,IntWalk.u32_in _ (by omega)]
theorem Zis(s:Nat)(c x V:Int)(hV:V=2^s)(hs:s<32)(hc:0≤c∧c<V)(hx:0≤x):orI .u32 c (x*V%4294967296)=c+x*V%4294967296∧c+x*V%4294967296<4294967296:=by
 obtain⟨m,rfl⟩:=Int.eq_ofNat_of_zero_le hx
 obtain⟨k,rfl⟩:=Int.eq_ofNat_of_zero_le hc.1
 have hVn:V=((2^s:Nat):Int):=by rw[hV];simp
 subst hVn
 have hB:4294967296=2^s*2^(32-s):=by rw[←Nat.pow_add,show s+(32-s)=32 by omega]
 have hp:0<2^s:=Nat.pow_pos (by decide)
 have hP:0<2^(32-s):=Nat.pow_pos (by decide)
 have e:m*2^s%4294967296=2^s*(m%2^(32-s)):=by rw[hB,Nat.mul_comm m,Nat.mul_mod_mul_left]
 have ei:((m:Nat):Int)*((2^s:Nat):Int)%4294967296=((2^s*(m%2^(32-s)):Nat):Int):=by
  rw[←e];simp
 have hk:k<2^s:=by have:=hc.2;omega
 have hr:=Nat.mod_lt m hP
 have hle:2^s*(m%2^(32-s))+2^s≤4294967296:=by
  have:2^s*(m%2^(32-s)+1)≤2^s*2^(32-s):=Nat.mul_le_mul_left _ hr
  rw[Nat.mul_add,Nat.mul_one]at this
  omega
 rw[ei]
 have h2:=Nat.two_pow_add_eq_or_of_lt hk (m%2^(32-s))
 generalize 2^s*(m%2^(32-s))=t at*
 refine⟨?_,by omega⟩
 rw[Zit k t (by omega) (by omega),Nat.or_comm,←h2];omega
structure LefI (a:List Int) (w i:Nat) (V:Int) (r:List Int):Prop where
 ok:wOk r
 len:r.length=a.length+w+1
 top:∀k,i+w<k→r.getD k 0=0
 cy:r.getD (i+w) 0<V
 v:nv r=p32 w*(V*lowV (fun k=>a.getD k 0) i)
theorem LefI.zero(a:List Int)(w:Nat)(V:Int)(hV:0<V):LefI a w 0 V (List.replicate (a.length+w+1) 0):=by
 have hz:∀k,(List.replicate (a.length+w+1) (0:Int)).getD k 0=0:=fun k=>by rw[List.getD_eq_getElem?_getD,List.getElem?_replicate];split<;>rfl
 exact⟨Lp _,by simp,fun k _=>hz k,by rw[hz];exact hV,by rw[L9];simp[lowV]⟩
theorem LefI.step{a:List Int}{w i s:Nat}{V:Int}{r:List Int}(ha:wOk a)(hi:i<a.length)(hV:V=2^s)(hs:s<32)(hVr:0<V∧V<4294967296)(h:LefI a w i V r):
 orI .u32 (r.getD (i+w) 0) (a.getD i 0*V%4294967296)=r.getD (i+w) 0+a.getD i 0*V%4294967296∧0≤a.getD i 0*V∧a.getD i 0*V<18446744073709551616∧
 LefI a w (i+1) V ((r.set (i+w) (r.getD (i+w) 0+a.getD i 0*V%4294967296)).set (i+1+w) (a.getD i 0*V/4294967296)):=by
 have h1:=ha i
 have h2:=h.ok (i+w)
 have h3:=h.cy
 unfold w32 at h1 h2
 obtain⟨g1,g2⟩:=Zis s _ (a.getD i 0) V hV hs ⟨h2.1,h3⟩ h1.1
 have e1:0≤a.getD i 0*V:=Int.mul_nonneg h1.1 (by omega)
 have e2:a.getD i 0*V≤4294967295*V:=Int.mul_le_mul_of_nonneg_right (by omega) (by omega)
 have hl:i+w<r.length:=by rw[h.len];omega
 have hl2:i+1+w<(r.set (i+w) (r.getD (i+w) 0+a.getD i 0*V%4294967296)).length:=by rw[List.length_set,h.len];omega
 refine⟨g1,e1,by omega,Sr (Sr h.ok (by unfold w32;omega)) (by unfold w32;omega),by rw[List.length_set,List.length_set];exact h.len,fun k hk=> ?_,?_,?_⟩
 ·rw[Y7 (by omega),Y7 (by omega)];exact h.top k (by omega)
 ·rw[List.getD_eq_getElem?_getD,List.getElem?_set_self hl2]
  show a.getD i 0*V/4294967296<V
  omega
 ·have hz0:(r.set (i+w) (r.getD (i+w) 0+a.getD i 0*V%4294967296)).getD (i+1+w) 0=0:=by rw[Y7 (by omega)];exact h.top _ (by omega)
  rw[Qk _ _ _ hl2,hz0,Int.sub_zero,Qk _ _ _ hl,h.v,lowV,show i+1+w=w+i+1 by omega,show i+w=w+i by omega,p32,E7]
  generalize r.getD (w+i) 0=c at*
  generalize lowV (fun k=>a.getD k 0) i=L
  have e3:a.getD i 0*V%4294967296+4294967296*(a.getD i 0*V/4294967296)=a.getD i 0*V:=by omega
  generalize a.getD i 0=x at*
  generalize x*V%4294967296=lo at*
  generalize x*V/4294967296=hh at*
  have:p32 w*(V*(L+p32 i*x))=p32 w*(V*L)+p32 w*p32 i*(lo+4294967296*hh):=by
   rw[e3,Int.mul_add,Int.mul_add,Int.mul_assoc (p32 w) (p32 i),Int.mul_comm x V,Int.mul_left_comm (p32 i) V]
  rw[this,Int.mul_add,show c+lo-c=lo by omega,show 4294967296*(p32 w*p32 i)*hh=p32 w*p32 i*(4294967296*hh) by rw[Int.mul_comm 4294967296,Int.mul_assoc]]
  omega
set_option maxHeartbeats 8000000 in
theorem Eo(x n:Nat)(hn:n≤64)(hlx:(wds x).length≤100):GC Tryz.prog 47 [.a (.ref 0),.a (.int .u64 (n:Int))] [(0,.ro (.int .u32) (wds x))] 1 [] (.one (.a (.ref 1))) [(1,.row 90 (.int .u32) (wds (x*2^n)))] 2:=by
 obtain⟨w,s,hw,hs⟩:∃w s,n=32*w+s∧s<32:=⟨n/32,n%32,by omega,by omega⟩
 have hps:(0:Int)<2^s∧(2:Int)^s<4294967296:=by
  have h1:(2:Nat)^s<2^32:=Nat.pow_lt_pow_right (by decide) hs
  have h2:0<(2:Nat)^s:=Nat.pow_pos (by decide)
  have h3:((2^s:Nat):Int)=(2:Int)^s:=by simp
  omega
 have kx:=Rv x x (Nat.le_refl _)
 have vx:=Ri x x (Nat.le_refl _)
 have hz:= @Vu x
 rw[Ps]at vx
 have hN:((x*2^n:Nat):Int)=p32 w*(2^s*(x:Int)):=by
  rw[Lc,hw,Nat.pow_add,Int.natCast_mul,Int.natCast_mul]
  have a1:((2^(32*w):Nat):Int)=(2:Int)^(32*w):=by simp
  have a2:((2^s:Nat):Int)=(2:Int)^s:=by simp
  rw[a1,a2,Int.mul_left_comm,Int.mul_comm (x:Int)]
 generalize wds x=a at*
 generalize hVs:(2:Int)^s=V at*
 have q1:IntKind.u64.wrap (((n:Nat):Int).tdiv 32)=(w:Int):=by
  rw[Int.tdiv_eq_ediv_of_nonneg (by omega),IntWalk.u64_in _ (by omega)];omega
 have q2:((n:Nat):Int).tmod 32=(s:Int):=by rw[Int.tmod_eq_emod_of_nonneg (by omega)];omega
 have q3:IntKind.i64.wrap (w:Int)=w:=Zk (by omega) (by omega)
 have q4:IntKind.i64.wrap ((a.length:Int)+(w:Int))=(a.length:Int)+(w:Int):=Zk (by omega) (by omega)
 have q5:IntKind.i64.wrap ((a.length:Int)+(w:Int)+1)=((a.length+w+1:Nat):Int):=by rw[Zk (by omega) (by omega)];omega
 have q6:(((a.length+w+1:Nat)):Int).toNat=a.length+w+1:=by omega
 have q7:(0:Int)≤((a.length+w+1:Nat):Int):=by omega
 have q8:(4:Nat)*((a.length+w+1:Nat):Int)≤281474976710656:=by omega
 have q9:((a.length+w+1:Nat):Int)≤4611686018427387904:=by omega
 have d0:(Kd.int .u32).dflt=(0:Int):=rfl
 refine Vn.fn.gc (by simp) (by simp[Zu,Zw,Zv,Zj,Zf,Vc.S1.okN,At.okN,SV.okN,Res.okN,Res.outOk,Zo,Res.own,Value.oneCell']) fun w' X fr=> ?_
 by_cases h0:a.length=0
 ·have c2:(a.length:Int)=0:=by omega
  have e:wds (x*2^n)=[]:=by rw[hz.1 h0,Nat.zero_mul,Yc]
  rw[e]
  repeat'(first|(first|refine Stp.h ?_)<;>try simp only[Zc,simprocAttr,↓reduceIte,reduceCtorEq,implies_true,c2,decide_true]|(with_reducible first|assumption|refine And.intro ?_ ?_)|(intro h;first|omega|exact tg h ‹_›|exact tg ‹_› h|skip))
 have c2:¬(a.length:Int)=0:=by omega
 repeat'(first|(first|refine Stp.h ?_)<;>try simp only[Zc,simprocAttr,↓reduceIte,reduceCtorEq,implies_true,q1,q2,q3,q4,q5,q6,q7,q8,q9,d0,c2,ne_eq,not_false_eq_true]|(with_reducible first|assumption|refine And.intro ?_ ?_)|(intro h;first|omega|exact tg h ‹_›|exact tg ‹_› h|skip))
 all_goals first|omega|skip
 have hI0:=LefI.zero a w V hps.1
 generalize List.replicate (a.length+w+1) (0:Int)=Z at*
 refine T.loop (ι:= {q:Nat×List Int//q.1≤a.length∧LefI a w q.1 V q.2}) (fun q=>⟨[(8,.one (.a (.int .i64 (q.1.1:Int)))),(7,.one (.a (.ref 1))),(6,.one (.a (.int .u64 (s:Int)))),(5,.one (.a (.int .i64 (w:Int)))),(0,.one (.a (.ref 0)))],
  [(1,.row 90 (.int .u32) q.1.2),(0,.ro (.int .u32) a)],2⟩) (fun q=>a.length-q.1.1) ⟨(0,Z),Nat.zero_le _,hI0⟩ (Ent.mk1 (id) (by simp[Zt])) ?_
 rintro⟨⟨i,r⟩,hi,hI⟩
 simp only at hi hI ⊢
 have hrl:=hI.len
 by_cases hlt:i<a.length
 ·obtain⟨o1,o2,o3,hst⟩:=hI.step kx hlt hVs.symm hs hps
  have hz1:(r.set (i+w) (r.getD (i+w) 0+a.getD i 0*V%4294967296)).getD (i+1+w) 0=0:=by rw[Y7 (by omega)];exact hI.top _ (by omega)
  have wa:=kx i
  unfold w32 at wa
  have i1:(i:Int)<a.length:=by omega
  have i0:(0:Int)≤i:=by omega
  have it:((i:Nat):Int).toNat=i:=by omega
  have iw:IntKind.i64.wrap ((i:Int)+1)=((i+1:Nat):Int):=Zx (by omega)
  have u0:IntKind.u64.wrap (a.getD i 0)=a.getD i 0:=IntWalk.u64_in _ (by omega)
  have s1:Sn .u64 (a.getD i 0) (s:Int)=a.getD i 0*V:=by
   show IntKind.u64.wrap (a.getD i 0*2^min ((s:Int)).toNat IntKind.u64.bits)=_
   have:min ((s:Int)).toNat IntKind.u64.bits=s:=by show min ((s:Int)).toNat 64=s;omega
   rw[this,hVs,IntWalk.u64_in _ (by omega)]
  generalize a.getD i 0*V=y at*
  have s2:IntKind.u32.wrap y=y%4294967296:=by rw[IntKind.wrap_u32]
  have s3:P0 .u64 y 32=y/4294967296:=by
   show y/2^32=_
   have:(2:Int)^32=4294967296:=by decide
   rw[this]
  have s4:IntKind.u32.wrap (y/4294967296)=y/4294967296:=IntWalk.u32_in _ (by omega)
  have o4:=Mj (y/4294967296) ⟨by omega,by omega⟩
  have j1:IntKind.i64.wrap ((i:Int)+(w:Int))=((i+w:Nat):Int):=by rw[Zk (by omega) (by omega)];omega
  have j2:(((i+w:Nat)):Int).toNat=i+w:=by omega
  have j3:(0:Int)≤((i+w:Nat):Int):=by omega
  have j4:((i+w:Nat):Int)<(r.length:Int):=by omega
  have j5:i+w<r.length:=by omega
  have j6:IntKind.i64.wrap (((i+w:Nat):Int)+1)=((i+1+w:Nat):Int):=by rw[Zk (by omega) (by omega)];omega
  have j7:(((i+1+w:Nat)):Int).toNat=i+1+w:=by omega
  have j8:(0:Int)≤((i+1+w:Nat):Int):=by omega
  have j9:((i+1+w:Nat):Int)<(r.length:Int):=by omega
  have j10:i+1+w<r.length:=by omega
  repeat'(first|(first|refine Stp.h ?_)<;>try simp only[Zc,simprocAttr,↓reduceIte,reduceCtorEq,implies_true,i0,i1,it,hlt,iw,u0,s1,s2,s3,s4,o1,o4,hz1,j1,j2,j3,j4,j5,j6,j7,j8,j9,j10,d0,List.length_set,Int.ofNat_lt]|(with_reducible first|assumption|refine And.intro ?_ ?_)|(intro h;first|omega|exact tg h ‹_›|exact tg ‹_› h|skip))
  all_goals first|omega|exact⟨⟨(i+1,_),hlt,hst⟩,(Ent.mk1 (id) (by simp[Zt])),by simp only;omega⟩|skip
 ·obtain rfl:i=a.length:=by omega
  have i1:¬(a.length:Int)<a.length:=by omega
  have hT:=Qa r hI.ok (by omega)
  have e:(nv r).toNat=x*2^n:=by rw[hI.v,vx,←hN,Int.toNat_natCast]
  rw[e]at hT
  repeat'(first|(first|refine Stp.h ?_|(refine Za.gc hT ?_ ?_;focus simp[Zb];done))<;>try simp only[Zc,simprocAttr,↓reduceIte,reduceCtorEq,implies_true,i1]|(with_reducible first|assumption|refine And.intro ?_ ?_)|(intro h;first|omega|exact tg h ‹_›|exact tg ‹_› h|skip))
  all_goals first|omega|skip
theorem LshO_gc(x n:Nat)(hn:n≤64)(hlx:(wds x).length≤100):GC Tryz.prog 31 [.a (.loc 0 0),.a (.loc 0 0),.a (.int .u64 (n:Int))] [(0,.cells 34 [.bool false,.ref 1]),(1,.row 90 (.int .u32) (wds x))] 2 [0] (.one (.a (.loc 0 0)))
 [(0,.cells 34 [.bool false,.ref 2]),(2,.row 90 (.int .u32) (wds (x*2^n)))] 3:=by
 have hL:=Eo x n hn hlx
 have hG:=Ov false false (wds (x*2^n)) (wds x)
 simp only[Bool.false_and]at hG
 refine Wf.fn.gc (by simp) (by simp[Zu,Zw,Zv,Zj,Zf,Vc.S1.okN,At.okN,SV.okN,Res.okN,Res.outOk,Zo,Res.own,Value.oneCell']) fun w X fr=> ?_
 repeat'(first|(first|refine Stp.h ?_|(refine Za.gc hL ?_ ?_;focus simp[Zb];done)|(refine Za.gc hG ?_ ?_;focus simp[Zb];done))<;>try simp only[Zc,simprocAttr,↓reduceIte,reduceCtorEq,implies_true]|(with_reducible first|assumption|refine And.intro ?_ ?_)|(intro h;first|omega|exact tg h ‹_›|exact tg ‹_› h|skip))
theorem Zao(x c w:Nat)(hx:x<18446744073709551616)(hc:c<65536)(hw:w=16∨w=32∨w=64)
 (hF:∀z,(wds z).length≤10→GC Tryz.prog 27 [.a (.loc 0 0),.a (.int .i64 (w:Int))] [(0,.rocells [.bool false,.ref 1]),(1,.ro (.int .u32) (wds z))] 2 [] (.one (.a (.int .u64 ((z%2^w:Nat):Int)))) [] 2):
 GC Tryz.prog 17 [.a (.int .u64 (x:Int)),.a (.int .u64 (c:Int)),.a (.int .i64 (w:Int)),.a (.bool true),.a (.bool false)] [] 0 []
 (.tup [.a (.int .u64 ((x%2^w*2^min c 64%2^w:Nat):Int)),.a (.int .i64 0)]) [] 0:=by
 have hW:=Sv w (by omega)
 have hX:=Ds x w hx (by omega)
 have hle:x%2^w≤x:=Nat.mod_le _ _
 have e64:(2:Nat)^64=18446744073709551616:=by decide
 have hlx:=W3 2 (x%2^w) (by omega)
 have hL:=LshO_gc (x%2^w) (min c 64) (by omega) (by omega)
 have hll:(wds (x%2^w*2^min c 64)).length≤10:=by
  have h:x%2^w*2^min c 64<4294967296^5:=by
   have h1:2^min c 64≤2^64:=Nat.pow_le_pow_right (by decide) (by omega)
   have h2:x%2^w*2^min c 64≤18446744073709551616*18446744073709551616:=Nat.mul_le_mul (by omega) (by omega)
   exact Nat.lt_of_le_of_lt h2 (by decide)
  exact Nat.le_trans (W3 5 _ h) (by decide)
 have hFz:=hF _ hll
 have w1:IntKind.u64.wrap ((min c 64:Nat):Int)=((min c 64:Nat):Int):=IntWalk.u64_in _ (by omega)
 refine Xt.fn.gc (by simp) (by simp[Zu,Zw,Zv,Zj,Zf,Vc.S1.okN,At.okN,SV.okN,Res.okN,Res.outOk,Zo,Res.own,Value.oneCell']) fun w' X fr=> ?_
 generalize hk:min c 64=k at*
 by_cases h:c≤64
 ·obtain rfl:c=k:=by omega
  have c1:¬(64:Int)<(c:Int):=by omega
  generalize x%2^w*2^c%2^w=V at*
  generalize x%2^w*2^c=Z at*
  generalize x%2^w=X at*
  repeat'(first|(first|refine Stp.h ?_|(refine Za.gc hW ?_ ?_;focus simp[Zb];done)|(refine Za.gc hX ?_ ?_;focus simp[Zb];done)|(refine Za.gc hL ?_ ?_;focus simp[Zb];done)|(refine Za.gc hFz ?_ ?_;focus simp[Zb];done))<;>try simp only[Zc,simprocAttr,↓reduceIte,reduceCtorEq,implies_true,c1,w1,decide_true,decide_false]|(with_reducible first|assumption|refine And.intro ?_ ?_)|(intro h;first|omega|exact tg h ‹_›|exact tg ‹_› h|skip))
 ·obtain rfl:k=64:=by omega
  have c1:(64:Int)<(c:Int):=by omega
  have c64:((64:Nat):Int)=64:=rfl
  rw[c64]at hL w1
  generalize x%2^w*2^64%2^w=V at*
  generalize x%2^w*2^64=Z at*
  generalize x%2^w=X at*
  repeat'(first|(first|refine Stp.h ?_|(refine Za.gc hW ?_ ?_;focus simp[Zb];done)|(refine Za.gc hX ?_ ?_;focus simp[Zb];done)|(refine Za.gc hL ?_ ?_;focus simp[Zb];done)|(refine Za.gc hFz ?_ ?_;focus simp[Zb];done))<;>try simp only[Zc,simprocAttr,↓reduceIte,reduceCtorEq,implies_true,c1,w1,decide_true,decide_false]|(with_reducible first|assumption|refine And.intro ?_ ?_)|(intro h;first|omega|exact tg h ‹_›|exact tg ‹_› h|skip))
def dg(z i:Nat):Nat:=z/4294967296^i%4294967296
theorem M4(z i:Nat):dg z i<4294967296:=Nat.mod_lt _ (by decide)
theorem Zd1(z i:Nat):dg z (i+1)=dg (z/4294967296) i:=by
 unfold dg;rw[Nat.pow_succ',Nat.div_div_eq_div_mul]
theorem Dm:∀(i x:Nat),(wds x).getD i 0=((dg x i:Nat):Int)
 |i,x=>by
  by_cases hx:x=0
  ·subst hx;rw[Yc];simp[dg]
  ·rw[Wl hx]
   cases i with
   |zero=>simp[dg]
   |succ i=>rw[List.getD_cons_succ,Dm i,Zd1]
structure IsD (l:List Int) (n z:Nat):Prop where
 len:l.length=n
 d:∀i,l.getD i 0=((dg z i:Nat):Int)
theorem IsD.ok{l:List Int}{n z:Nat}(h:IsD l n z):wOk l:=fun i=>by rw[h.d];have:=M4 z i;unfold w32;omega
theorem nv_dg:∀(n:Nat) (l:List Int) (z:Nat),IsD l n z→z<4294967296^n→nv l=z
 |0,l,z,h,hz=>by
  obtain rfl:l=[]:=List.eq_nil_of_length_eq_zero h.len
  have:z=0:=by simpa using hz
  subst this;rfl
 |n+1,[],z,h,hz=>by have:=h.len;simp at this
 |n+1,a::l,z,h,hz=>by
  have h0:=h.d 0
  have ih:=nv_dg n l (z/4294967296) ⟨by have:=h.len;simpa using this,fun i=>by have:=h.d (i+1);rw[Zd1]at this;exact this⟩ (Nat.div_lt_of_lt_mul (by rw[←Nat.pow_succ'];exact hz))
  have e:a=((z%4294967296:Nat):Int):=by simpa[dg]using h0
  rw[nv,ih,e];omega
theorem IsD.trim{l:List Int}{n z:Nat}(h:IsD l n z)(hz:z<4294967296^n):(nv l).toNat=z:=by rw[nv_dg n l z h hz,Int.toNat_natCast]
theorem Za0{z i n:Nat}(hz:z<4294967296^n)(h:n≤i):dg z i=0:=by
 unfold dg
 rw[Nat.div_eq_of_lt (Nat.lt_of_lt_of_le hz (Nat.pow_le_pow_right (by decide) h))]
theorem Zhu(z i:Nat):dg z i+4294967296*dg z (i+1)=z/4294967296^i%(4294967296*4294967296):=by
 unfold dg
 rw[Nat.pow_succ,←Nat.div_div_eq_div_mul,Nat.mod_mul]
theorem dg_down(x s i:Nat)(hs:s<32):(dg x i+4294967296*dg x (i+1))/2^s%4294967296=dg (x/2^s) i:=by
 have e:4294967296*4294967296=2^s*2^(64-s):=by rw[←Nat.pow_add,show s+(64-s)=64 by omega]
 rw[Zhu,e,Nat.mod_mul_right_div_self,Nat.mod_mod_of_dvd _ (by
  rw[show 4294967296=2^32 by decide,show 64-s=32+(32-s) by omega,Nat.pow_add];exact Nat.dvd_mul_right _ _)]
 unfold dg
 rw[Nat.div_div_eq_div_mul,Nat.div_div_eq_div_mul,Nat.mul_comm]
structure RigI (x s i:Nat) (n:Nat) (r:List Int):Prop where
 len:r.length=n
 d:∀k,r.getD k 0=if k<i then((dg (x/2^s) k:Nat):Int)else 0
theorem Nj(n k:Nat):(List.replicate n (0:Int)).getD k 0=0:=by rw[List.getD_eq_getElem?_getD,List.getElem?_replicate];split<;>rfl
theorem RigI.step{x s i n:Nat}{r:List Int}(h:RigI x s i n r)(hi:i<n):RigI x s (i+1) n (r.set i ((dg (x/2^s) i:Nat):Int)):=by
 refine⟨by rw[List.length_set];exact h.len,fun k=> ?_⟩
 by_cases e:k=i
 ·subst e
  rw[List.getD_eq_getElem?_getD,List.getElem?_set_self (by rw[h.len];exact hi),if_pos (by omega)];rfl
 ·rw[Y7 (by omega),h.d]
  by_cases hk:k<i
  ·rw[if_pos hk,if_pos (by omega)]
  ·rw[if_neg hk,if_neg (by omega)]
set_option maxHeartbeats 8000000 in
theorem Ziw(x s:Nat)(hs:s<32)(hlx:(wds x).length≤100):GC Tryz.prog 58 [.a (.ref 0),.a (.int .u64 (s:Int))] [(0,.ro (.int .u32) (wds x))] 1 [] (.one (.a (.ref 1))) [(1,.row 90 (.int .u32) (wds (x/2^s)))] 2:=by
 have hd:=fun i=>Dm i x
 have hz:= @Vu x
 have hxl:x<4294967296^(wds x).length:=by
  have h1:=Rh (g:=fun j=>(wds x).getD j 0) (Rv x x (Nat.le_refl _)) (wds x).length
  rw[←Ps,Ri x x (Nat.le_refl _),Lc,Int.pow_mul]at h1
  have e:((2:Int)^32)^(wds x).length=((4294967296^(wds x).length:Nat):Int):=by simp
  rw[e]at h1
  omega
 generalize wds x=a at*
 have q1:IntKind.u64.wrap (((s:Nat):Int).tdiv 32)=0:=by
  rw[Int.tdiv_eq_ediv_of_nonneg (by omega),IntWalk.u64_in _ (by omega)];omega
 have q2:((s:Nat):Int).tmod 32=(s:Int):=by rw[Int.tmod_eq_emod_of_nonneg (by omega)];omega
 have q4:IntKind.i64.wrap (a.length:Int)=(a.length:Int):=Zk (by omega) (by omega)
 have q7:(0:Int)≤(a.length:Int):=by omega
 have q8:(4:Nat)*(a.length:Int)≤281474976710656:=by omega
 have q9:(a.length:Int)≤4611686018427387904:=by omega
 have d0:(Kd.int .u32).dflt=(0:Int):=rfl
 refine To.fn.gc (by simp) (by simp[Zu,Zw,Zv,Zj,Zf,Vc.S1.okN,At.okN,SV.okN,Res.okN,Res.outOk,Zo,Res.own,Value.oneCell']) fun w' X fr=> ?_
 by_cases h0:a.length=0
 ·have c2:(a.length:Int)≤0:=by omega
  have e:wds (x/2^s)=[]:=by rw[hz.1 h0,Nat.zero_div,Yc]
  rw[e]
  repeat'(first|(first|refine Stp.h ?_)<;>try simp only[Zc,simprocAttr,↓reduceIte,reduceCtorEq,implies_true,q1,q2,c2,decide_true]|(with_reducible first|assumption|refine And.intro ?_ ?_)|(intro h;first|omega|exact tg h ‹_›|exact tg ‹_› h|skip))
 have c2:¬(a.length:Int)≤0:=by omega
 repeat'(first|(first|refine Stp.h ?_)<;>try simp only[Zc,simprocAttr,↓reduceIte,reduceCtorEq,implies_true,q1,q2,q4,q7,q8,q9,d0,c2,Int.sub_zero,Int.toNat_natCast]|(with_reducible first|assumption|refine And.intro ?_ ?_)|(intro h;first|omega|exact tg h ‹_›|exact tg ‹_› h|skip))
 all_goals first|omega|skip
 have hI0:RigI x s 0 a.length (List.replicate a.length 0):=⟨by simp,fun k=>by rw[Nj,if_neg (by omega)]⟩
 generalize List.replicate a.length (0:Int)=Z at*
 refine T.loop (ι:= {q:Nat×List Int//q.1≤a.length∧RigI x s q.1 a.length q.2}) (fun q=>⟨[(8,.one (.a (.int .i64 (q.1.1:Int)))),(7,.one (.a (.ref 1))),(6,.one (.a (.int .u64 (s:Int)))),(5,.one (.a (.int .i64 0))),(0,.one (.a (.ref 0)))],
  [(1,.row 90 (.int .u32) q.1.2),(0,.ro (.int .u32) a)],2⟩) (fun q=>a.length-q.1.1) ⟨(0,Z),Nat.zero_le _,hI0⟩ (Ent.mk1 (id) (by simp[Zt])) ?_
 rintro⟨⟨i,r⟩,hi,hI⟩
 simp only at hi hI ⊢
 have hrl:=hI.len
 by_cases hlt:i<a.length
 ·have hst:=hI.step hlt
  have e1:=hd i
  have e2:=hd (i+1)
  have l1:=M4 x i
  have l2:=M4 x (i+1)
  have e3:=dg_down x s i hs
  have i1:(i:Int)<a.length:=by omega
  have i0:(0:Int)≤i:=by omega
  have it:((i:Nat):Int).toNat=i:=by omega
  have iw0:IntKind.i64.wrap (i:Int)=i:=Zk (by omega) (by omega)
  have iw:IntKind.i64.wrap ((i:Int)+1)=((i+1:Nat):Int):=Zx (by omega)
  have ir:(i:Int)<r.length:=by omega
  have ir2:i<r.length:=by omega
  have k0:(0:Int)≤((i+1:Nat):Int):=by omega
  have kt:(((i+1:Nat)):Int).toNat=i+1:=by omega
  generalize dg x i=A at*
  generalize dg x (i+1)=B at*
  have u1:IntKind.u64.wrap (A:Int)=A:=IntWalk.u64_in _ (by omega)
  have u2:IntKind.u64.wrap (B:Int)=B:=IntWalk.u64_in _ (by omega)
  have s1:Sn .u64 (B:Int) 32=(B:Int)*4294967296:=by
   show IntKind.u64.wrap ((B:Int)*2^32)=_
   rw[IntWalk.u64_in _ (by omega)];rfl
  have s2:=Zeq (A:Int) (B:Int) ⟨by omega,by omega⟩ ⟨by omega,by omega⟩
  have s3:∀v:Nat,v<18446744073709551616→IntKind.u32.wrap (P0 .u64 (v:Int) (s:Int))=((v/2^s%4294967296:Nat):Int):=fun v hv=>by
   have:P0 .u64 (v:Int) (s:Int)=((v/2^s:Nat):Int):=by
    show(v:Int)/2^min ((s:Int)).toNat IntKind.u64.bits=_
    have:min ((s:Int)).toNat IntKind.u64.bits=s:=by show min ((s:Int)).toNat 64=s;omega
    rw[this,show(2:Int)^s=((2^s:Nat):Int) by simp,←Int.natCast_ediv]
   rw[this,IntKind.wrap_u32];omega
  have s4:(A:Int)+4294967296*(B:Int)=((A+4294967296*B:Nat):Int):=by omega
  by_cases hj:i+1<a.length
  ·have j1:((i+1:Nat):Int)<a.length:=by omega
   have s5:=s3 (A+4294967296*B) (by omega)
   rw[e3]at s5
   rw[s4]at s2
   repeat'(first|(first|refine Stp.h ?_)<;>try simp only[Zc,simprocAttr,↓reduceIte,reduceCtorEq,implies_true,i0,i1,it,iw0,iw,ir,ir2,k0,kt,j1,hj,hlt,e1,e2,u1,u2,s1,s2,s5,d0,Int.add_zero,Int.ofNat_lt]|(with_reducible first|assumption|refine And.intro ?_ ?_)|(intro h;first|omega|exact tg h ‹_›|exact tg ‹_› h|skip))
   all_goals first|omega|exact⟨⟨(i+1,_),hlt,hst⟩,(Ent.mk1 (id) (by simp[Zt])),by simp only;omega⟩|skip
  ·have j1:¬((i+1:Nat):Int)<a.length:=by omega
   have hB:B=0:=by
    have:a.getD (i+1) 0=0:=by rw[List.getD_eq_getElem?_getD,List.getElem?_eq_none (by omega)];rfl
    omega
   subst hB
   have s5:=s3 A (by omega)
   rw[Nat.mul_zero,Nat.add_zero]at e3
   rw[e3]at s5
   repeat'(first|(first|refine Stp.h ?_)<;>try simp only[Zc,simprocAttr,↓reduceIte,reduceCtorEq,implies_true,i0,i1,it,iw0,iw,ir,ir2,j1,hlt,e1,u1,s5,d0,Int.add_zero,Int.ofNat_lt]|(with_reducible first|assumption|refine And.intro ?_ ?_)|(intro h;first|omega|exact tg h ‹_›|exact tg ‹_› h|skip))
   all_goals first|omega|exact⟨⟨(i+1,_),hlt,hst⟩,(Ent.mk1 (id) (by simp[Zt])),by simp only;omega⟩|skip
 ·obtain rfl:i=a.length:=by omega
  have i1:¬(a.length:Int)<r.length:=by omega
  have hxs:x/2^s<4294967296^a.length:=Nat.lt_of_le_of_lt (Nat.div_le_self _ _) hxl
  have hD:IsD r a.length (x/2^s):=⟨hrl,fun k=>by
   rw[hI.d]
   split
   ·rfl
   ·rw[Za0 hxs (by omega)];rfl⟩
  have hT:=Qa r hD.ok (by omega)
  rw[hD.trim hxs]at hT
  repeat'(first|(first|refine Stp.h ?_|(refine Za.gc hT ?_ ?_;focus simp[Zb];done))<;>try simp only[Zc,simprocAttr,↓reduceIte,reduceCtorEq,implies_true,i1]|(with_reducible first|assumption|refine And.intro ?_ ?_)|(intro h;first|omega|exact tg h ‹_›|exact tg ‹_› h|skip))
  all_goals first|omega|skip
theorem Jx(c:Nat)(hc:c≠0):∀k,wds (4294967296^k*c)=List.replicate k 0++wds c
 |0=>by simp
 |k+1=>by
  have e:4294967296^(k+1)*c=4294967296*(4294967296^k*c):=by rw[Nat.pow_succ',Nat.mul_assoc]
  have h0:4294967296^k*c≠0:=Nat.mul_ne_zero (Nat.ne_of_gt (Nat.pow_pos (by decide))) hc
  rw[e,Wl (by omega),Nat.mul_mod_right,Nat.mul_div_cancel_left _ (by decide),Jx c hc k,List.replicate_succ];rfl
theorem wds_31:wds 2147483648=[2147483648]:=by rw[Wl (by decide)];rw[show(2147483648:Nat)/4294967296=0 by decide,Yc];rfl
theorem Zdn(x:Nat):x<4294967296^(wds x).length:=by
 have h1:=Rh (g:=fun j=>(wds x).getD j 0) (Rv x x (Nat.le_refl _)) (wds x).length
 rw[←Ps,Ri x x (Nat.le_refl _),Lc,Int.pow_mul]at h1
 have e:((2:Int)^32)^(wds x).length=((4294967296^(wds x).length:Nat):Int):=by simp
 rw[e]at h1
 omega
theorem Tk(k:Nat):2^(32*k)=4294967296^k:=by rw[Nat.pow_mul]
theorem Ad(k i:Nat)(c:Int):(List.replicate k (0:Int)++[c]).getD i 0=if i=k then c else 0:=by
 rw[List.getD_eq_getElem?_getD]
 rcases Nat.lt_trichotomy i k with h|h|h
 ·rw[List.getElem?_append_left (by simpa using h),List.getElem?_replicate,if_pos h,if_neg (by omega)];rfl
 ·subst h;rw[List.getElem?_append_right (by simp),if_pos rfl];simp
 ·rw[List.getElem?_eq_none (by simp;omega),if_neg (by omega)];rfl
theorem Zbh(k:Nat)(hk:k≤90):RdC Tryz.prog 57 [.ro (.int .u32) (wds (2^(32*k)))] (.one (.a (.int .i64 ((32*k+1:Nat):Int)))):=by
 have hl:wds (2^(32*k))=List.replicate k 0++[1]:=by
  rw[Tk,←Jw,←Jx 1 (by decide) k,Nat.mul_one]
 have hg:=Ad k k 1
 rw[if_pos rfl]at hg
 have hlen:(List.replicate k (0:Int)++[1]).length=k+1:=by simp
 rw[hl]
 generalize List.replicate k (0:Int)++[1]=b at*
 have d0:(Kd.int .u32).dflt=(0:Int):=rfl
 have l0:¬((k+1:Nat):Int)=0:=by omega
 have w1:IntKind.i64.wrap (((k+1:Nat):Int)-1)=(k:Int):=by rw[Zk (by omega) (by omega)];omega
 have i0:(0:Int)≤k:=by omega
 have i1:(k:Int)<((k+1:Nat):Int):=by omega
 have i2:k<k+1:=by omega
 have i3:((k:Nat):Int).toNat=k:=by omega
 refine U9.fn.rd (by simp) (by simp[Zz]) (by simp[Zz]) fun w=> ?_
 repeat'(first|(first|refine Stp.h ?_)<;>try simp only[Zc,simprocAttr,↓reduceIte,reduceCtorEq,implies_true,hlen,hg,d0,l0,w1,i0,i1,i2,i3,decide_false,Int.ofNat_lt]|(with_reducible first|assumption|refine And.intro ?_ ?_)|(intro h;first|omega|exact tg h ‹_›|exact tg ‹_› h|skip))
 all_goals first|omega|skip
 refine T.loop (ι:= {n:Nat//n≤1}) (fun n=>⟨[(4,.one (.a (.int .u32 (1-(n.1:Int))))),(3,.one (.a (.int .i64 (n.1:Int)))),(0,.one (.a (.ref 0)))],[(0,.ro (.int .u32) b)],1⟩) (fun n=>1-n.1) ⟨0,by omega⟩ (Ent.mk1 (id) (by simp[Zt])) ?_
 rintro⟨n,hn⟩
 simp only
 by_cases h:n=0
 ·subst h
  have s1:P0 .u32 1 1=0:=rfl
  repeat'(first|(first|refine Stp.h ?_)<;>try simp only[Zc,simprocAttr,↓reduceIte,reduceCtorEq,implies_true,s1,ne_eq,not_true_eq_false,not_false_eq_true,bne_iff_ne]|(with_reducible first|assumption|refine And.intro ?_ ?_)|(intro h;first|omega|exact tg h ‹_›|exact tg ‹_› h|skip))
  all_goals first|omega|exact⟨⟨1,by omega⟩,(Ent.mk1 (id) (by simp[Zt])),by simp only;omega⟩|skip
 ·obtain rfl:n=1:=by omega
  have m1:IntKind.i64.wrap ((k:Int)*32)=(k:Int)*32:=Zk (by omega) (by omega)
  have m2:IntKind.i64.wrap ((k:Int)*32+1)=((32*k+1:Nat):Int):=by rw[Zk (by omega) (by omega)];omega
  repeat'(first|(first|refine Stp.h ?_)<;>try simp only[Zc,simprocAttr,↓reduceIte,reduceCtorEq,implies_true,hlen,w1,m1,m2,ne_eq,not_true_eq_false,not_false_eq_true]|(with_reducible first|assumption|refine And.intro ?_ ?_)|(intro h;first|omega|exact tg h ‹_›|exact tg ‹_› h|skip))
  all_goals first|omega|skip
theorem Zbt(a b:Int)(ha:w32 a)(hb:w32 b):orI .u64 (b*4294967296) a=a+4294967296*b:=by
 rw[←Zeq a b ha hb]
 show IntKind.u64.wrap ((BitVec.ofInt 64 (b*4294967296)|||BitVec.ofInt 64 a).toNat:Nat)=IntKind.u64.wrap ((BitVec.ofInt 64 a|||BitVec.ofInt 64 (b*4294967296)).toNat:Nat)
 rw[BitVec.or_comm]
theorem Zi0(u:List Int)(i:Nat):u.set i (u.getD i 0)=u:=by
 apply List.ext_getElem?
 intro j
 rw[List.getElem?_set]
 split
 ·rename_i h
  subst h
  split
  ·rename_i h2
   rw[List.getD_eq_getElem?_getD,List.getElem?_eq_getElem h2];rfl
  ·rename_i h2
   rw[List.getElem?_eq_none (by omega)]
 ·rfl
theorem kn_step{u:List Int}{N z e:Nat}(h:IsD u N z)(hz:z<2147483648*4294967296^(e+1))(he:e+1<N):
 dg z e+4294967296*dg z (e+1)=z/4294967296^e∧dg z (e+1)<2147483648∧z/4294967296^e/2147483648=z/(2147483648*4294967296^e)∧
 IsD ((u.set e ((z/4294967296^e%2147483648:Nat):Int)).set (e+1) 0) N (z%(2147483648*4294967296^e)):=by
 have hp:0<4294967296^e:=Nat.pow_pos (by decide)
 have h1:z/4294967296^e<2147483648*4294967296:=Nat.div_lt_of_lt_mul (by rw[Nat.mul_comm,Nat.mul_assoc,←Nat.pow_succ'];exact hz)
 have h2:z/4294967296^(e+1)<2147483648:=Nat.div_lt_of_lt_mul (by rw[Nat.mul_comm];exact hz)
 refine⟨by rw[Zhu,Nat.mod_eq_of_lt (by omega)],by unfold dg;rw[Nat.mod_eq_of_lt (by omega)];exact h2,by rw[Nat.div_div_eq_div_mul,Nat.mul_comm],by rw[List.length_set,List.length_set];exact h.len,fun i=> ?_⟩
 have em:z%(2147483648*4294967296^e)/4294967296^e=z/4294967296^e%2147483648:=by rw[Nat.mul_comm,Nat.mod_mul_right_div_self]
 by_cases c1:i=e+1
 ·subst c1
  rw[List.getD_eq_getElem?_getD,List.getElem?_set_self (by rw[List.length_set,h.len];exact he)]
  unfold dg
  rw[Nat.pow_succ,←Nat.div_div_eq_div_mul,em,Nat.div_eq_of_lt (Nat.lt_of_lt_of_le (Nat.mod_lt _ (by decide)) (by decide))];rfl
 ·rw[Y7 (by omega)]
  by_cases c2:i=e
  ·subst c2
   rw[List.getD_eq_getElem?_getD,List.getElem?_set_self (by rw[h.len];omega)]
   unfold dg
   rw[em,Nat.mod_eq_of_lt (Nat.lt_of_lt_of_le (Nat.mod_lt _ (by decide)) (by decide:2147483648≤4294967296))];rfl
  ·rw[Y7 (by omega),h.d]
   congr 1
   unfold dg
   by_cases c3:i<e
   ·obtain⟨d,rfl⟩:∃d,e=i+1+d:=⟨e-i-1,by omega⟩
    have e1:2147483648*4294967296^(i+1+d)=4294967296^i*(4294967296*(4294967296^d*2147483648)):=by
     rw[Nat.pow_add,Nat.pow_succ,Nat.mul_comm 2147483648,Nat.mul_assoc,Nat.mul_assoc]
    rw[e1,Nat.mod_mul_right_div_self,Nat.mod_mul_right_mod]
   ·have c4:z<4294967296^i:=Nat.lt_of_lt_of_le hz (by
     obtain⟨d,rfl⟩:∃d,i=e+2+d:=⟨i-e-2,by omega⟩
     have h5:4294967296^(e+2+d)=4294967296^(d+1)*4294967296^(e+1):=by rw[←Nat.pow_add];congr 1;omega
     rw[h5]
     exact Nat.mul_le_mul_right _ (Nat.le_trans (show 2147483648≤4294967296 by decide) (Nat.le_self_pow (Nat.succ_ne_zero d) 4294967296)))
    rw[Nat.div_eq_of_lt c4,Nat.div_eq_of_lt (Nat.lt_of_le_of_lt (Nat.mod_le _ _) c4)]
structure QI (q:List Int) (n t z:Nat):Prop where
 len:q.length=n
 d:∀i,q.getD i 0=if t≤i then((dg z i:Nat):Int)else 0
theorem QI.step{q:List Int}{n t z:Nat}(h:QI q n (t+1) z)(ht:t<n):QI (q.set t ((dg z t:Nat):Int)) n t z:=by
 refine⟨by rw[List.length_set];exact h.len,fun i=> ?_⟩
 by_cases c:i=t
 ·subst c;rw[List.getD_eq_getElem?_getD,List.getElem?_set_self (by rw[h.len];exact ht),if_pos (Nat.le_refl _)];rfl
 ·rw[Y7 (by omega),h.d]
  by_cases c2:t+1≤i
  ·rw[if_pos c2,if_pos (by omega)]
  ·rw[if_neg c2,if_neg (by omega)]
set_option maxHeartbeats 16000000 in
theorem Zd2(x k:Nat)(hk:1≤k∧k≤2)(hx:18446744073709551616≤x)(hla:(wds x).length≤10):GC Tryz.prog 38 [.a (.ref 0),.a (.ref 1)] [(0,.ro (.int .u32) (wds x)),(1,.ro (.int .u32) (wds (2^(32*k))))] 2 [] (.tup [.a (.ref 2),.a (.ref 3)])
 [(2,.row 90 (.int .u32) (wds (x/2^(32*k)))),(3,.row 90 (.int .u32) (wds (x%2^(32*k))))] 4:=by
 have hlb:(wds (2^(32*k))).length=k+1:=by
  rw[Tk]
  have:=Jx 1 (by decide) k
  rw[Nat.mul_one,Jw]at this
  rw[this];simp
 have hyx:2^(32*k)≤x:=by
  have:2^(32*k)≤2^64:=Nat.pow_le_pow_right (by decide) (by omega)
  have:(2:Nat)^64=18446744073709551616:=by decide
  omega
 have hC:=M1 x (2^(32*k)) (by omega) (by omega)
 have c1:¬cmpI x (2^(32*k))<0:=by unfold cmpI;rw[if_neg (by omega)];split<;>decide
 generalize cmpI x (2^(32*k))=cv at*
 have hLn:=Zbh k (by omega)
 have c31:((31:Nat):Int)=31:=rfl
 have hL1:=Eo (2^(32*k)) 31 (by decide) (by omega)
 have hL2:=Eo x 31 (by decide) (by omega)
 rw[c31]at hL1 hL2
 have hv:wds (2^(32*k)*2^31)=List.replicate k 0++[2147483648]:=by
  rw[Tk,show 2^31=2147483648 by decide,Jx _ (by decide),wds_31]
 rw[hv]at hL1
 have hvg:=fun i=>Ad k i 2147483648
 have hvl:(List.replicate k (0:Int)++[2147483648]).length=k+1:=by simp
 generalize List.replicate k (0:Int)++[2147483648]=v at*
 have hxl:=Zdn x
 have la3:3≤(wds x).length:=by
  rcases Nat.lt_or_ge 2 (wds x).length with h|h
  ·exact h
  ·have:4294967296^(wds x).length≤4294967296^2:=Nat.pow_le_pow_right (by decide) h
   have:(4294967296:Nat)^2=18446744073709551616:=by decide
   omega
 have hyl:x*2^31<2147483648*4294967296^(wds x).length:=by
  rw[show 2^31=2147483648 by decide,Nat.mul_comm];exact(Nat.mul_lt_mul_left (by decide)).2 hxl
 have hLl:(wds (x*2^31)).length≤(wds x).length+1:=W3 _ _ (Nat.lt_of_lt_of_le hyl (by rw[Nat.pow_succ'];exact Nat.mul_le_mul_right _ (by decide)))
 have hLd:=fun i=>Dm i (x*2^31)
 have hQe:x*2^31/(2147483648*4294967296^k)=x/2^(32*k):=by
  rw[Tk,show 2^31=2147483648 by decide,Nat.mul_comm x,Nat.mul_div_mul_left _ _ (by decide)]
 have hRe:x*2^31%(2147483648*4294967296^k)=x%2^(32*k)*2^31:=by
  rw[Tk,show 2^31=2147483648 by decide,Nat.mul_comm x,Nat.mul_mod_mul_left,Nat.mul_comm]
 have hQl:x/2^(32*k)<4294967296^((wds x).length-k+1):=by
  refine Nat.lt_of_le_of_lt (Nat.div_le_div_right (Nat.le_of_lt hxl)) ?_
  rw[Tk,Nat.pow_div (by omega) (by decide)]
  exact Nat.pow_lt_pow_right (by decide) (by omega)
 have hR1:x%2^(32*k)<4294967296^k:=by rw[Tk];exact Nat.mod_lt _ (Nat.pow_pos (by decide))
 have hRl:x%2^(32*k)*2^31<4294967296^((wds x).length+2):=Nat.lt_of_lt_of_le (Nat.lt_of_le_of_lt (Nat.mul_le_mul_right _ (Nat.mod_le _ _)) hyl) (by
  rw[Nat.pow_succ',Nat.pow_succ',←Nat.mul_assoc];exact Nat.mul_le_mul_right _ (show 2147483648≤4294967296*4294967296 by decide))
 have hRw:(wds (x%2^(32*k)*2^31)).length≤100:=by
  exact Nat.le_trans (W3 _ _ hRl) (Nat.le_trans (Nat.add_le_add_right hla 2) (by decide))
 have hRg:=Ziw (x%2^(32*k)*2^31) 31 (by decide) hRw
 have hcan:x%2^(32*k)*2^31/2^31=x%2^(32*k):=Nat.mul_div_cancel _ (Nat.pow_pos (by decide))
 rw[hcan,c31]at hRg
 obtain⟨y,hy⟩:∃y,x*2^31=y:=⟨_,rfl⟩
 rw[hy]at hL2 hyl hLl hQe hRe
 simp only[hy]at hLd
 clear hy hcan hyx
 obtain⟨Q,hQ⟩:∃Q,x/2^(32*k)=Q:=⟨_,rfl⟩
 rw[hQ]at hQe hQl ⊢
 obtain⟨R,hR⟩:∃R,x%2^(32*k)=R:=⟨_,rfl⟩
 rw[hR]at hRe hR1 hRl hRw hRg ⊢
 obtain⟨Rs,hRs⟩:∃Rs,R*2^31=Rs:=⟨_,rfl⟩
 rw[hRs]at hRe hRl hRw hRg
 clear hR hQ hRs
 generalize wds x=a at*
 obtain⟨b,hb⟩:∃b,wds (2^(32*k))=b:=⟨_,rfl⟩
 rw[hb]at hlb hC hLn hL1 ⊢
 clear hb
 have d0:(Kd.int .u32).dflt=(0:Int):=rfl
 have b0:¬((k+1:Nat):Int)=0:=by omega
 have b1:¬((k+1:Nat):Int)=1:=by omega
 have a2:¬(a.length:Int)≤2:=by omega
 have e1:IntKind.i64.wrap (((32*k+1:Nat):Int)-1)=((32*k:Nat):Int):=by rw[Zk (by omega) (by omega)];omega
 have e2:(((32*k:Nat):Int)).tmod 32=0:=by rw[Int.tmod_eq_emod_of_nonneg (by omega)];omega
 have e3:IntKind.i64.wrap 32=32∧IntKind.i64.wrap 31=31∧IntKind.u64.wrap 31=31:=⟨rfl,rfl,rfl⟩
 have e4:IntKind.i64.wrap ((a.length:Int)+2)=((a.length+2:Nat):Int):=by rw[Zk (by omega) (by omega)];omega
 have e5:(((a.length+2:Nat)):Int).toNat=a.length+2:=by omega
 have e6:(0:Int)≤((a.length+2:Nat):Int):=by omega
 have e7:(4:Nat)*((a.length+2:Nat):Int)≤281474976710656:=by omega
 have e8:((a.length+2:Nat):Int)≤4611686018427387904:=by omega
 have hul:(cpyL (List.replicate (a.length+2) (0:Int)) 0 (a.length+2) (wds y)).length=a.length+2:=by
  unfold cpyL;rw[List.length_append,List.length_append,List.length_take,List.length_take,List.length_drop,List.length_replicate];omega
 have hud:IsD (cpyL (List.replicate (a.length+2) (0:Int)) 0 (a.length+2) (wds y)) (a.length+2) y:=⟨hul,fun i=>by
  rw[Ni _ _ _ _ _ (by omega) (by simp)]
  split
  ·exact hLd i
  ·rename_i h
   rw[Nj,←hLd i,List.getD_eq_getElem?_getD,List.getElem?_eq_none (by omega)];rfl⟩
 generalize wds y=Ly at*
 have f1:IntKind.i64.wrap (((a.length+2:Nat):Int)-((k+1:Nat):Int))=((a.length-k+1:Nat):Int):=by rw[Zk (by omega) (by omega)];omega
 have f2:IntKind.i64.wrap (((a.length-k+1:Nat):Int)-1)=((a.length-k:Nat):Int):=by rw[Zk (by omega) (by omega)];omega
 have f3:IntKind.i64.wrap (((a.length-k:Nat):Int)+1)=((a.length-k+1:Nat):Int):=by rw[Zk (by omega) (by omega)];omega
 have f4:(((a.length-k+1:Nat)):Int).toNat=a.length-k+1:=by omega
 have f5:(0:Int)≤((a.length-k+1:Nat):Int):=by omega
 have f6:(4:Nat)*((a.length-k+1:Nat):Int)≤281474976710656:=by omega
 have f7:((a.length-k+1:Nat):Int)≤4611686018427387904:=by omega
 have g1:IntKind.i64.wrap (((k+1:Nat):Int)-1)=(k:Int):=by rw[Zk (by omega) (by omega)];omega
 have g2:IntKind.i64.wrap (((k+1:Nat):Int)-2)=((k-1:Nat):Int):=by rw[Zk (by omega) (by omega)];omega
 have g3:(0:Int)≤k∧(k:Int)<((k+1:Nat):Int)∧((k:Nat):Int).toNat=k∧k<k+1:=by omega
 have g4:(0:Int)≤((k-1:Nat):Int)∧((k-1:Nat):Int)<((k+1:Nat):Int)∧((k-1:Nat):Int).toNat=k-1∧k-1<k+1:=by omega
 have g5:v.getD k 0=2147483648:=by rw[hvg,if_pos rfl]
 have g6:v.getD (k-1) 0=0:=by rw[hvg,if_neg (by omega)]
 have g7:IntKind.u64.wrap 2147483648=2147483648∧IntKind.u64.wrap 0=0:=⟨rfl,rfl⟩
 refine Wh.fn.gc (by simp) (by simp[Zu,Zw,Zv,Zj,Zf,Vc.S1.okN,At.okN,SV.okN,Res.okN,Res.outOk,Zo,Res.own,Value.oneCell']) fun w' X fr=> ?_
 repeat'(first|(first|refine Stp.h ?_|(refine rq hC ?_ ?_;focus simp[Zz];done)|(refine rq hLn ?_ ?_;focus simp[Zz];done)|(refine Za.gc hL1 ?_ ?_;focus simp[Zb];done)|(refine Za.gc hL2 ?_ ?_;focus simp[Zb];done))<;>try simp only[Zc,simprocAttr,↓reduceIte,reduceCtorEq,implies_true,hlb,hvl,b0,b1,c1,a2,e1,e2,e3,e4,e5,e6,e7,e8,d0,List.length_replicate,hul,f1,f2,f3,f4,f5,f6,f7,g1,g2,g3,g4,g5,g6,g7,decide_true,decide_false,-List.reduceReplicate]|(with_reducible first|assumption|refine And.intro ?_ ?_)|(intro h;first|omega|exact tg h ‹_›|exact tg ‹_› h|skip))
 all_goals first|omega|skip
 have hq0:QI (List.replicate (a.length-k+1) (0:Int)) (a.length-k+1) (a.length-k+1) Q:=⟨by simp,fun i=>by
  rw[Nj]
  split
  ·rw[Za0 hQl (by assumption)];rfl
  ·rfl⟩
 have hu0:y%(2147483648*4294967296^(k+(a.length-k+1)))=y:=Nat.mod_eq_of_lt (Nat.lt_of_lt_of_le hyl (Nat.mul_le_mul_left _ (Nat.pow_le_pow_right (by decide) (by omega))))
 generalize cpyL (List.replicate (a.length+2) (0:Int)) 0 (a.length+2) Ly=u0 at*
 generalize List.replicate (a.length-k+1) (0:Int)=q0 at*
 refine T.loop (ι:= {p:Nat×(List Int×List Int)//p.1≤a.length-k+1∧IsD p.2.1 (a.length+2) (y%(2147483648*4294967296^(k+p.1)))∧QI p.2.2 (a.length-k+1) p.1 Q})
  (fun p=>⟨[(18,.one (.a (.int .i64 ((p.1.1:Int)-1)))),(17,.one (.a (.int .u64 0))),(16,.one (.a (.int .u64 2147483648))),(15,.one (.a (.ref 5))),(13,.one (.a (.int .i64 ((k+1:Nat):Int)))),(12,.one (.a (.ref 3))),(11,.one (.a (.ref 2))),(10,.one (.a (.int .u64 31)))],
    [(2,.row 90 (.int .u32) v),(3,.row 90 (.int .u32) p.1.2.1),(5,.row 90 (.int .u32) p.1.2.2)],6⟩) (fun p=>p.1.1) ⟨(a.length-k+1,u0,q0),Nat.le_refl _,by rw[hu0];exact hud,hq0⟩ (Ent.mk1 (id) (by simp[Zt])) ?_
 rintro⟨⟨t,u,q⟩,ht,hu,hq⟩
 simp only at ht hu hq ⊢
 have hulen:=hu.len
 have hqlen:=hq.len
 rcases t with _|t
 ·have hp:¬(0:Int)≤((0:Nat):Int)-1:=by omega
  replace hu:IsD u (a.length+2) (y%(2147483648*4294967296^k)):=hu
  rw[hRe]at hu
  have hT1:=Qa u hu.ok (by omega)
  rw[hu.trim hRl]at hT1
  have hqD:IsD q (a.length-k+1) Q:=⟨hqlen,fun i=>by rw[hq.d,if_pos (Nat.zero_le _)]⟩
  have hT2:=Qa q hqD.ok (by omega)
  rw[hqD.trim hQl]at hT2
  repeat'(first|(first|refine Stp.h ?_|(refine Za.gc hT1 ?_ ?_;focus simp[Zb];done)|(refine Za.gc hT2 ?_ ?_;focus simp[Zb];done)|(refine Za.gc hRg ?_ ?_;focus simp[Zb];done))<;>try simp only[Zc,simprocAttr,↓reduceIte,reduceCtorEq,implies_true,hp]|(with_reducible first|assumption|refine And.intro ?_ ?_)|(intro h;first|omega|exact tg h ‹_›|exact tg ‹_› h|skip))
  all_goals first|omega|skip
 ·have hmm:2147483648*4294967296^(k+(t+1))=2147483648*4294967296^(k+t)*4294967296:=by rw[show k+(t+1)=(k+t)+1 by omega,Nat.pow_succ,Nat.mul_assoc]
  have hzl:y%(2147483648*4294967296^(k+(t+1)))<2147483648*4294967296^(k+t+1):=Nat.mod_lt _ (Nat.mul_pos (by decide) (Nat.pow_pos (by decide)))
  obtain⟨n1,n2,n3,n4⟩:=kn_step hu hzl (by omega)
  have n5:y%(2147483648*4294967296^(k+(t+1)))%(2147483648*4294967296^(k+t))=y%(2147483648*4294967296^(k+t)):=by rw[hmm];exact Nat.mod_mul_right_mod _ _ _
  have n6:y%(2147483648*4294967296^(k+(t+1)))/(2147483648*4294967296^(k+t))=dg Q t:=by
   rw[hmm,Nat.mod_mul_right_div_self]
   unfold dg
   rw[←hQe,Nat.pow_add,←Nat.mul_assoc,Nat.div_div_eq_div_mul]
  rw[n5]at n4
  rw[n6]at n3
  have hst:=hq.step (show t<a.length-k+1 by omega)
  have hgl:=M4 Q t
  have hd1:=hu.d (k+t+1)
  have hd2:=hu.d (k+t)
  have hd3:=hu.d (k+t-1)
  have hD2:=M4 (y%(2147483648*4294967296^(k+(t+1)))) (k+t)
  have hD3:=M4 (y%(2147483648*4294967296^(k+(t+1)))) (k+t-1)
  generalize dg Q t=g at*
  generalize dg (y%(2147483648*4294967296^(k+(t+1)))) (k+t+1)=Hh at*
  generalize dg (y%(2147483648*4294967296^(k+(t+1)))) (k+t)=Hl at*
  generalize dg (y%(2147483648*4294967296^(k+(t+1)))) (k+t-1)=Hk at*
  rw[←n1]at n3 n4
  have p1:IntKind.i64.wrap (((t+1:Nat):Int)-1+((k+1:Nat):Int))=((k+t+1:Nat):Int):=by rw[Zk (by omega) (by omega)];omega
  have p2:IntKind.i64.wrap (((k+t+1:Nat):Int)-1)=((k+t:Nat):Int):=by rw[Zk (by omega) (by omega)];omega
  have p3:IntKind.i64.wrap (((k+t+1:Nat):Int)-2)=((k+t-1:Nat):Int):=by rw[Zk (by omega) (by omega)];omega
  have p4:(0:Int)≤((k+t+1:Nat):Int)∧((k+t+1:Nat):Int)<(u.length:Int)∧((k+t+1:Nat):Int).toNat=k+t+1∧k+t+1<u.length:=by omega
  have p5:(0:Int)≤((k+t:Nat):Int)∧((k+t:Nat):Int)<(u.length:Int)∧((k+t:Nat):Int).toNat=k+t∧k+t<u.length:=by omega
  have p6:(0:Int)≤((k+t-1:Nat):Int)∧((k+t-1:Nat):Int)<(u.length:Int)∧((k+t-1:Nat):Int).toNat=k+t-1∧k+t-1<u.length:=by omega
  have p0:(0:Int)≤((t+1:Nat):Int)-1:=by omega
  have r1:IntKind.u64.wrap (Hh:Int)=Hh:=IntWalk.u64_in _ (by omega)
  have r2:IntKind.u64.wrap (Hl:Int)=Hl:=IntWalk.u64_in _ (by omega)
  have r3:IntKind.u64.wrap (Hk:Int)=Hk:=IntWalk.u64_in _ (by omega)
  have r4:Sn .u64 (Hh:Int) 32=(Hh:Int)*4294967296:=by
   show IntKind.u64.wrap ((Hh:Int)*2^32)=_
   rw[IntWalk.u64_in _ (by omega)];rfl
  have r5:orI .u64 ((Hh:Int)*4294967296) (Hl:Int)=((Hl+4294967296*Hh:Nat):Int):=by rw[Zbt _ _ ⟨by omega,by omega⟩ ⟨by omega,by omega⟩];omega
  have r6:IntKind.u64.wrap (((Hl+4294967296*Hh:Nat):Int).tdiv 2147483648)=(g:Int):=by rw[Int.tdiv_eq_ediv_of_nonneg (by omega),IntWalk.u64_in _ (by omega)];omega
  have r7:((Hl+4294967296*Hh:Nat):Int).tmod 2147483648=((Hl%2147483648:Nat):Int):=by rw[Int.tmod_eq_emod_of_nonneg (by omega)];omega
  have r8:¬(4294967295:Int)<(g:Int):=by omega
  have r9:Sn .u64 ((Hl%2147483648:Nat):Int) 32=((Hl%2147483648:Nat):Int)*4294967296:=by
   show IntKind.u64.wrap (((Hl%2147483648:Nat):Int)*2^32)=_
   rw[IntWalk.u64_in _ (by omega)];rfl
  have r10:¬orI .u64 (((Hl%2147483648:Nat):Int)*4294967296) (Hk:Int)<0:=by rw[Zbt _ _ ⟨by omega,by omega⟩ ⟨by omega,by omega⟩];omega
  have nr:(Hl+4294967296*Hh)%2147483648=Hl%2147483648:=by omega
  rw[nr]at n4
  generalize hrr:Hl%2147483648=rr at*
  repeat'(first|(first|refine Stp.h ?_)<;>try simp only[Zc,simprocAttr,↓reduceIte,reduceCtorEq,implies_true,p0,p1,p2,p3,p4,p5,p6,d0,hd1,hd2,hd3,r1,r2,r3,r4,r5,r6,r7,g7,Int.ofNat_lt]|(with_reducible first|assumption|refine And.intro ?_ ?_)|(intro h;first|omega|exact tg h ‹_›|exact tg ‹_› h|skip))
  all_goals first|omega|skip
  refine T.loop (ι:=Unit) (fun _=>⟨[(21,.one (.a (.int .u64 (rr:Int)))),(20,.one (.a (.int .u64 (g:Int)))),(18,.one (.a (.int .i64 (((t+1:Nat):Int)-1)))),(17,.one (.a (.int .u64 0))),(16,.one (.a (.int .u64 2147483648))),(15,.one (.a (.ref 5))),(13,.one (.a (.int .i64 ((k+1:Nat):Int)))),(12,.one (.a (.ref 3))),(11,.one (.a (.ref 2))),(10,.one (.a (.int .u64 31)))],
   [(2,.row 90 (.int .u32) v),(3,.row 90 (.int .u32) u),(5,.row 90 (.int .u32) q)],6⟩) (fun _=>0) () (Ent.mk1 (id) (by simp[Zt])) ?_
  intro _
  repeat'(first|(first|refine Stp.h ?_|refine Ze.split ?_ ?_|refine Zh.no ?_)<;>try simp only[Zc,simprocAttr,↓reduceIte,reduceCtorEq,implies_true,p1,p3,p6,d0,hd3,r3,r8,r9,r10,g7,Int.mul_zero,Int.ofNat_lt,decide_true,decide_false]|(with_reducible first|assumption|refine And.intro ?_ ?_)|(intro h;first|omega|exact tg h ‹_›|exact tg ‹_› h|skip))
  all_goals first|omega|skip
  have hset:∀i,i<k→u.set (i+t) (u.getD (i+t) 0)=u:=fun i _=>Zi0 _ _
  refine T.loop (ι:= {i:Nat//i≤k+1}) (fun i=>⟨[(24,.one (.a (.int .i64 (i.1:Int)))),(23,.one (.a (.int .u64 0))),(22,.one (.a (.int .u64 (if i.1≤k then 0 else(Hh:Int))))),(20,.one (.a (.int .u64 (g:Int)))),(18,.one (.a (.int .i64 (((t+1:Nat):Int)-1)))),(17,.one (.a (.int .u64 0))),(16,.one (.a (.int .u64 2147483648))),(15,.one (.a (.ref 5))),(13,.one (.a (.int .i64 ((k+1:Nat):Int)))),(12,.one (.a (.ref 3))),(11,.one (.a (.ref 2))),(10,.one (.a (.int .u64 31)))],
   [(2,.row 90 (.int .u32) v),(3,.row 90 (.int .u32) (if i.1≤k then u else u.set (k+t) (rr:Int))),(5,.row 90 (.int .u32) q)],6⟩) (fun i=>k+1-i.1) ⟨0,Nat.zero_le _⟩ (Ent.mk1 (id) (by simp[Zt])) ?_
  rintro⟨i,hi⟩
  simp only
  have i0:(0:Int)≤i:=by omega
  have it:((i:Nat):Int).toNat=i:=by omega
  have iw:IntKind.i64.wrap ((i:Int)+1)=((i+1:Nat):Int):=Zx (by omega)
  have ij:IntKind.i64.wrap ((i:Int)+(((t+1:Nat):Int)-1))=((i+t:Nat):Int):=by rw[Zk (by omega) (by omega)];omega
  by_cases c:i≤k
  ·rw[if_pos c,if_pos c]
   have i1:(i:Int)<((k+1:Nat):Int):=by omega
   have i2:i<k+1:=by omega
   have j1:(0:Int)≤((i+t:Nat):Int)∧((i+t:Nat):Int)<(u.length:Int)∧((i+t:Nat):Int).toNat=i+t∧i+t<u.length:=by omega
   have hvi:=hvg i
   have hui:=hu.ok (i+t)
   unfold w32 at hui
   by_cases ck:i=k
   ·subst ck
    rw[if_pos rfl]at hvi
    have x1:IntKind.u64.wrap ((g:Int)*2147483648)=(g:Int)*2147483648:=IntWalk.u64_in _ (by omega)
    have x2:IntKind.u32.wrap ((g:Int)*2147483648)=(Hl:Int)-rr:=by rw[IntKind.wrap_u32];omega
    have x3:IntKind.u64.wrap ((Hl:Int)-rr)=(Hl:Int)-rr:=IntWalk.u64_in _ (by omega)
    have x4:IntKind.u64.wrap ((Hl:Int)-((Hl:Int)-rr))=(rr:Int):=by rw[show(Hl:Int)-((Hl:Int)-rr)=rr by omega];exact IntWalk.u64_in _ (by omega)
    have x5:IntKind.u64.wrap (rr:Int)=rr:=IntWalk.u64_in _ (by omega)
    have x6:IntKind.u32.wrap (rr:Int)=rr:=IntWalk.u32_in _ (by omega)
    have x7:P0 .u64 (rr:Int) 63=0:=by
     show(rr:Int)/2^63=0
     have:(2:Int)^63=9223372036854775808:=by decide
     rw[this];omega
    have x8:P0 .u64 ((g:Int)*2147483648) 32=(Hh:Int):=by
     show(g:Int)*2147483648/2^32=_
     have:(2:Int)^32=4294967296:=by decide
     rw[this];omega
    have ce:¬i+1≤i:=by omega
    repeat'(first|(first|refine Stp.h ?_)<;>try simp only[Zc,simprocAttr,↓reduceIte,reduceCtorEq,implies_true,i0,i1,i2,it,iw,ij,j1,hvl,hvi,hd2,g7,x1,x2,x3,x4,x5,x6,x7,x8,r2,d0,Int.zero_add,Int.sub_zero,Int.ofNat_lt]|(with_reducible first|assumption|refine And.intro ?_ ?_)|(intro h;first|omega|exact tg h ‹_›|exact tg ‹_› h|skip))
    all_goals first|omega|exact⟨⟨i+1,by omega⟩,(Ent.mk1 (id) (by simp[Zt,ce])),by simp only;omega⟩|skip
   ·rw[if_neg ck]at hvi
    have hs0:=hset i (by omega)
    have x1:IntKind.u64.wrap (u.getD (i+t) 0)=u.getD (i+t) 0:=IntWalk.u64_in _ (by omega)
    have x2:IntKind.u32.wrap (u.getD (i+t) 0)=u.getD (i+t) 0:=IntWalk.u32_in _ (by omega)
    have x3:P0 .u64 (u.getD (i+t) 0) 63=0:=by
     show u.getD (i+t) 0/2^63=0
     have:(2:Int)^63=9223372036854775808:=by decide
     rw[this];omega
    have x4:P0 .u64 0 32=0:=rfl
    have x5:IntKind.u32.wrap 0=0:=rfl
    have ce:i+1≤k:=by omega
    repeat'(first|(first|refine Stp.h ?_)<;>try simp only[Zc,simprocAttr,↓reduceIte,reduceCtorEq,implies_true,i0,i1,i2,it,iw,ij,j1,hvl,hvi,hs0,g7,x1,x2,x3,x4,x5,d0,Int.mul_zero,Int.add_zero,Int.sub_zero,Int.ofNat_lt]|(with_reducible first|assumption|refine And.intro ?_ ?_)|(intro h;first|omega|exact tg h ‹_›|exact tg ‹_› h|skip))
    all_goals first|omega|exact⟨⟨i+1,by omega⟩,(Ent.mk1 (id) (by simp[Zt,ce])),by simp only;omega⟩|skip
  ·obtain rfl:i=k+1:=by omega
   rw[if_neg c,if_neg c]
   have i1:¬((k+1:Nat):Int)<((k+1:Nat):Int):=by omega
   have hul2:(u.set (k+t) (rr:Int)).length=u.length:=List.length_set
   have hug:(u.set (k+t) (rr:Int)).getD (k+t+1) 0=(Hh:Int):=by rw[Y7 (by omega)];exact hd1
   have x1:IntKind.u64.wrap 0=0:=rfl
   have x2:P0 .u64 0 63=0:=rfl
   have x3:IntKind.u32.wrap 0=0:=rfl
   have x4:IntKind.u32.wrap (g:Int)=g:=IntWalk.u32_in _ (by omega)
   have t0:(0:Int)≤((t+1:Nat):Int)-1∧(((t+1:Nat):Int)-1).toNat=t∧((t+1:Nat):Int)-1<(q.length:Int)∧t<q.length:=by omega
   have tw:IntKind.i64.wrap (((t+1:Nat):Int)-1-1)=(t:Int)-1:=by rw[Zk (by omega) (by omega)];omega
   repeat'(first|(first|refine Stp.h ?_)<;>try simp only[Zc,simprocAttr,↓reduceIte,reduceCtorEq,implies_true,i1,p1,p4,hul2,hug,r1,x1,x2,x3,x4,t0,tw,d0,Int.sub_self,Int.sub_zero,ne_eq,not_true_eq_false,Int.ofNat_lt]|(with_reducible first|assumption|refine And.intro ?_ ?_)|(intro h;first|omega|exact tg h ‹_›|exact tg ‹_› h|skip))
   all_goals first|omega|exact⟨⟨(t,_,_),by omega,n4,hst⟩,(Ent.mk1 (id) (by simp[Zt])),by simp only;omega⟩|skip
end Go.Proofs.YtddmlennnmpnhaaGreatDoor
