/- A part of the proofs of this seat's laws: steps on the way, joined. It has no conditions of its own. -/
import Derived.Test.YtbmecnjmbhokgaaGreatDoorQx
import Derived.Test.YtbmecnjmbhokgaaGreatDoorQh
import Derived.Test.YtbmecnjmbhokgaaGreatDoorChecked
import Derived.KernelRfl
import Derived.Test.YtbmecnjmbhokgaaGreatDoorQn
namespace Go.Proofs.YtbmecnjmbhokgaaGreatDoor
open Go Vc
set_option linter.unusedVariables false
set_option linter.unusedSimpArgs false
theorem L7{code:List Int}(n:Nat)(hn:n=1∨n=2∨n=4)(hat:atB code 3 (Zf9 n 3)=true)(a b:Nat):Zdi code n n a b (a%2^(16*n)*(b%2^(16*n))%2^(16*n)):=fun s p q T h=>by
 have ht:=h.t
 have h2:=h.d2
 have h3:=h.d3
 obtain⟨k,s',hR,hk,hv⟩:=Zib code n hn 3 0 ⟨by decide,by decide⟩ (.of hat) s h.ok p q T h.r0 h.r1 h.r7 h.pn h.qm (by omega) (by omega) (by omega)
 refine⟨k,s',2*n,hR,by omega,by omega,?_⟩
 rw[hv,h.v1,h.v2,E5,←Int.natCast_mul,←Int.natCast_emod,Wj,Nat.mod_mod]
end Go.Proofs.YtbmecnjmbhokgaaGreatDoor
namespace Go.Proofs.YtbmecnjmbhokgaaGreatDoor
open Vc
namespace V5
abbrev r0:List In:=[i1 12 (.mv (kB false))]
abbrev r1:List In:=[mv 16 0, mv 17 1, i1 18 (.call 15 [(.k (.a (.int .u8 42))),.t 16,.t 17,kI 16,kB false]), mv 15 18, i1 19 (.ext 0 (.t 15)), i1 20 (.ext 1 (.t 15)), mv 13 19, mv 14 20]
abbrev r2:List In:=[mv 21 0, mv 22 1, mv 23 2, mv 24 3, mv 25 4, mv 26 5, mv 27 13, mv 28 14, i1 29 (.bin .eql (.t 28) (kI 10)), i1 30 (.call 16 [(.k (.a (.str [109,117,108,49]))),kI 1,kI 1,.t 21,.t 22,.t 23,.t 24,.t 25,.t 26,.t 27,.t 29]), mv 12 30]
abbrev code:IC:=.seq (.reg r0) (.seq (.reg r1) (.seq (.reg r2) .ret))
abbrev res:List RV:=[.tmp 12]
theorem fn:Body Tryz.prog 3 31 code res:=⟨by decide,Tryz.f3,_,Tryz.func3,rfl,rfl,by kernel_rfl,by kernel_rfl⟩
end V5
namespace V6
abbrev r0:List In:=[i1 12 (.mv (kB false))]
abbrev r1:List In:=[mv 16 0, mv 17 1, i1 18 (.call 15 [(.k (.a (.int .u8 42))),.t 16,.t 17,kI 32,kB false]), mv 15 18, i1 19 (.ext 0 (.t 15)), i1 20 (.ext 1 (.t 15)), mv 13 19, mv 14 20]
abbrev r2:List In:=[mv 21 0, mv 22 1, mv 23 2, mv 24 3, mv 25 4, mv 26 5, mv 27 13, mv 28 14, i1 29 (.bin .eql (.t 28) (kI 10)), i1 30 (.call 16 [(.k (.a (.str [109,117,108,50]))),kI 2,kI 2,.t 21,.t 22,.t 23,.t 24,.t 25,.t 26,.t 27,.t 29]), mv 12 30]
abbrev code:IC:=.seq (.reg r0) (.seq (.reg r1) (.seq (.reg r2) .ret))
abbrev res:List RV:=[.tmp 12]
theorem fn:Body Tryz.prog 4 31 code res:=⟨by decide,Tryz.f4,_,Tryz.func4,rfl,rfl,by kernel_rfl,by kernel_rfl⟩
end V6
namespace V7
abbrev r0:List In:=[i1 12 (.mv (kB false))]
abbrev r1:List In:=[mv 16 0, mv 17 1, i1 18 (.call 15 [(.k (.a (.int .u8 42))),.t 16,.t 17,kI 64,kB false]), mv 15 18, i1 19 (.ext 0 (.t 15)), i1 20 (.ext 1 (.t 15)), mv 13 19, mv 14 20]
abbrev r2:List In:=[mv 21 0, mv 22 1, mv 23 2, mv 24 3, mv 25 4, mv 26 5, mv 27 13, mv 28 14, i1 29 (.bin .eql (.t 28) (kI 10)), i1 30 (.call 16 [(.k (.a (.str [109,117,108,52]))),kI 4,kI 4,.t 21,.t 22,.t 23,.t 24,.t 25,.t 26,.t 27,.t 29]), mv 12 30]
abbrev code:IC:=.seq (.reg r0) (.seq (.reg r1) (.seq (.reg r2) .ret))
abbrev res:List RV:=[.tmp 12]
theorem fn:Body Tryz.prog 5 31 code res:=⟨by decide,Tryz.f5,_,Tryz.func5,rfl,rfl,by kernel_rfl,by kernel_rfl⟩
end V7
end Go.Proofs.YtbmecnjmbhokgaaGreatDoor
namespace Go.Proofs.YtbmecnjmbhokgaaGreatDoor
open Go Go.RowKit Vc
set_option linter.unusedVariables false
set_option linter.unusedSimpArgs false
attribute [local irreducible] T Za Zn Ent RdC RwC Ye Zf Zh
theorem Ey:∀m n,p32 (m+n)=p32 m*p32 n
 |m,0=>by simp[p32]
 |m,n+1=>by rw[←Nat.add_assoc,p32,Ey m n,p32,Int.mul_left_comm]
structure MulI (a b:List Int) (i j:Nat) (r:List Int) (c:Int):Prop where
 ok:wOk r
 len:r.length=a.length+b.length
 top:∀k,i+b.length≤k→r.getD k 0=0
 cy:w32 c
 v:nv r+p32 (i+j)*c=lowV (fun k=>a.getD k 0) i*lowV (fun k=>b.getD k 0) b.length+p32 i*(a.getD i 0*lowV (fun k=>b.getD k 0) j)
theorem Y7{l:List Int}{k m:Nat}{v:Int}(h:k≠m):(l.set k v).getD m 0=l.getD m 0:=by
 rw[List.getD_eq_getElem?_getD,List.getElem?_set_ne h,←List.getD_eq_getElem?_getD]
theorem MulI.t_rng{a b r:List Int}{i j:Nat}{c:Int}(ha:wOk a)(hb:wOk b)(h:MulI a b i j r c):0≤a.getD i 0*b.getD j 0∧a.getD i 0*b.getD j 0≤18446744065119617025∧0≤r.getD (i+j) 0∧r.getD (i+j) 0≤4294967295∧0≤c∧c≤4294967295:=by
 have h1:=ha i
 have h2:=hb j
 have h3:=h.ok (i+j)
 have h4:=h.cy
 unfold w32 at*
 have e1:0≤a.getD i 0*b.getD j 0:=Int.mul_nonneg h1.1 h2.1
 have e2:a.getD i 0*b.getD j 0≤4294967295*4294967295:=Int.mul_le_mul (by omega) (by omega) h2.1 (by decide)
 omega
theorem MulI.step{a b r:List Int}{i j:Nat}{c:Int}(ha:wOk a)(hb:wOk b)(hi:i<a.length)(hj:j<b.length)(h:MulI a b i j r c){t:Int}(ht:t=c+(a.getD i 0*b.getD j 0+r.getD (i+j) 0)):
 MulI a b i (j+1) (r.set (i+j) (t%4294967296)) (t/4294967296):=by
 obtain⟨g1,g2,g3,g4,g5,g6⟩:=h.t_rng ha hb
 have hl:i+j<r.length:=by rw[h.len];omega
 refine⟨P3 h.ok (by unfold w32;omega),by rw[List.length_set];exact h.len,fun k hk=> ?_,by unfold w32;omega,?_⟩
 ·rw[Y7 (by omega)];exact h.top k hk
 ·have hv:=h.v
  rw[O1 _ _ _ hl,←Nat.add_assoc,p32,lowV]
  have e1:p32 (i+j)*(t%4294967296-r.getD (i+j) 0)+4294967296*p32 (i+j)*(t/4294967296)=p32 (i+j)*c+p32 (i+j)*(a.getD i 0*b.getD j 0):=by
   have:t%4294967296-r.getD (i+j) 0+4294967296*(t/4294967296)=c+a.getD i 0*b.getD j 0:=by omega
   rw[Int.mul_comm 4294967296 (p32 (i+j)),Int.mul_assoc,←Int.mul_add,this,Int.mul_add]
  have e2:p32 i*(a.getD i 0*(lowV (fun k=>b.getD k 0) j+p32 j*b.getD j 0))=p32 i*(a.getD i 0*lowV (fun k=>b.getD k 0) j)+p32 (i+j)*(a.getD i 0*b.getD j 0):=by
   rw[Int.mul_add,Int.mul_add,Ey,Int.mul_left_comm (a.getD i 0) (p32 j),Int.mul_assoc (p32 i) (p32 j)]
  rw[e2]
  omega
structure MulO (a b:List Int) (i:Nat) (r:List Int):Prop where
 ok:wOk r
 len:r.length=a.length+b.length
 top:∀k,i+b.length≤k→r.getD k 0=0
 v:nv r=lowV (fun k=>a.getD k 0) i*lowV (fun k=>b.getD k 0) b.length
theorem MulO.start{a b r:List Int}{i:Nat}(h:MulO a b i r):MulI a b i 0 r 0:=⟨h.ok,h.len,h.top,⟨by decide,by decide⟩,by rw[h.v];simp[lowV]⟩
theorem MulI.fin{a b r:List Int}{i:Nat}{c:Int}(hi:i<a.length)(hb0:0<b.length)(h:MulI a b i b.length r c):MulO a b (i+1) (r.set (i+b.length) c):=by
 have hl:i+b.length<r.length:=by rw[h.len];omega
 refine⟨P3 h.ok h.cy,by rw[List.length_set];exact h.len,fun k hk=> ?_,?_⟩
 ·rw[Y7 (by omega)];exact h.top k (by omega)
 ·rw[O1 _ _ _ hl,h.top _ (Nat.le_refl _),Int.sub_zero,h.v,lowV,Int.add_mul,Int.mul_assoc]
theorem MulO.zero(a b:List Int):MulO a b 0 (List.replicate (a.length+b.length) 0):=⟨Jv _,by simp,fun k _=>by rw[List.getD_eq_getElem?_getD,List.getElem?_replicate];split<;>rfl,by rw[Hi];simp[lowV]⟩
set_option maxHeartbeats 8000000 in
theorem Zfi(x y:Nat)(hlx:(wds x).length≤100)(hly:(wds y).length≤100):GC Tryz.prog 34 [.a (.ref 0),.a (.ref 1)] [(0,.ro (.int .u32) (wds x)),(1,.ro (.int .u32) (wds y))] 2 [] (.one (.a (.ref 2))) [(2,.row 87 (.int .u32) (wds (x*y)))] 3:=by
 have kx:=Rv x x (Nat.le_refl _)
 have ky:=Rv y y (Nat.le_refl _)
 have vx:=Ri x x (Nat.le_refl _)
 have vy:=Ri y y (Nat.le_refl _)
 have zx:= @Vg x
 have zy:= @Vg y
 rw[Ps]at vx vy
 generalize wds x=a at*
 generalize wds y=b at*
 have d0:(Kd.int .u32).dflt=(0:Int):=rfl
 refine S5.fn.gc (by simp) (by simp[Zu,Zw,Zv,Zj,Ze,Vc.S1.okN,At.okN,SV.okN,Res.okN,Res.outOk,Zo,Res.own,Value.oneCell']) fun w X fr=> ?_
 by_cases h0:a.length=0∨b.length=0
 ·have hz:wds (x*y)=[]:=by
   have:x*y=0:=by
    rcases h0 with h|h
    ·rw[zx.1 h,Nat.zero_mul]
    ·rw[zy.1 h,Nat.mul_zero]
   rw[this,Yd]
  rw[hz]
  by_cases ha:a.length=0
  ·have e1:(a.length:Int)=0:=by omega
   repeat'(first|(first|refine Stp.h ?_)<;>try simp only[Zc,simprocAttr,↓reduceIte,reduceCtorEq,implies_true,e1,decide_true]|(with_reducible first|assumption|refine And.intro ?_ ?_)|(intro h;first|omega|exact tg h ‹_›|exact tg ‹_› h|skip))
  ·have e1:¬(a.length:Int)=0:=by omega
   have e2:(b.length:Int)=0:=by omega
   repeat'(first|(first|refine Stp.h ?_)<;>try simp only[Zc,simprocAttr,↓reduceIte,reduceCtorEq,implies_true,e1,e2,decide_true,decide_false]|(with_reducible first|assumption|refine And.intro ?_ ?_)|(intro h;first|omega|exact tg h ‹_›|exact tg ‹_› h|skip))
 ·have e1:¬(a.length:Int)=0:=by omega
  have e2:¬(b.length:Int)=0:=by omega
  have q1:IntKind.i64.wrap ((a.length:Int)+(b.length:Int))=((a.length+b.length:Nat):Int):=by rw[Zk (by omega) (by omega)];omega
  have q2:(((a.length+b.length:Nat)):Int).toNat=a.length+b.length:=by omega
  have q3:(0:Int)≤((a.length+b.length:Nat):Int):=by omega
  have q4:((4:Nat):Int)*((a.length+b.length:Nat):Int)≤281474976710656:=by omega
  have q5:((a.length+b.length:Nat):Int)≤4611686018427387904:=by omega
  repeat'(first|(first|refine Stp.h ?_)<;>try simp only[Zc,simprocAttr,↓reduceIte,reduceCtorEq,implies_true,e1,e2,q1,q2,q3,q4,q5,d0,decide_false]|(with_reducible first|assumption|refine And.intro ?_ ?_)|(intro h;first|omega|exact tg h ‹_›|exact tg ‹_› h|skip))
  all_goals first|omega|skip
  refine T.loop (ι:= {q:Nat×List Int//q.1≤a.length∧MulO a b q.1 q.2}) (fun q=>⟨[(6,.one (.a (.int .i64 (q.1.1:Int)))),(5,.one (.a (.ref 2))),(0,.one (.a (.ref 0))),(1,.one (.a (.ref 1)))],
   [(2,.row 87 (.int .u32) q.1.2),(0,.ro (.int .u32) a),(1,.ro (.int .u32) b)],3⟩) (fun q=>a.length-q.1.1) ⟨(0,_),Nat.zero_le _,MulO.zero a b⟩ (Ent.mk1 (id) (by simp[Zx])) ?_
  rintro⟨⟨i,r⟩,hi,hO⟩
  simp only at hi hO ⊢
  by_cases hlt:i<a.length
  ·have i1:(i:Int)<a.length:=by omega
   have i0:(0:Int)≤i:=by omega
   have it:((i:Nat):Int).toNat=i:=by omega
   repeat'(first|(first|refine Stp.h ?_)<;>try simp only[Zc,simprocAttr,↓reduceIte,reduceCtorEq,implies_true,i1]|(with_reducible first|assumption|refine And.intro ?_ ?_)|(intro h;first|omega|exact tg h ‹_›|exact tg ‹_› h|skip))
   all_goals first|omega|skip
   refine T.loop (ι:= {q:Nat×(List Int×Int)//q.1≤b.length∧MulI a b i q.1 q.2.1 q.2.2}) (fun q=>⟨[(8,.one (.a (.int .i64 (q.1.1:Int)))),(7,.one (.a (.int .u64 q.1.2.2))),(6,.one (.a (.int .i64 (i:Int)))),(5,.one (.a (.ref 2))),(0,.one (.a (.ref 0))),(1,.one (.a (.ref 1)))],
    [(2,.row 87 (.int .u32) q.1.2.1),(0,.ro (.int .u32) a),(1,.ro (.int .u32) b)],3⟩) (fun q=>b.length-q.1.1) ⟨(0,r,0),Nat.zero_le _,hO.start⟩ (Ent.mk1 (id) (by simp[Zx])) ?_
   rintro⟨⟨j,r,c⟩,hj,hI⟩
   simp only at hj hI ⊢
   have hrl:=hI.len
   by_cases hjl:j<b.length
   ·have j1:(j:Int)<b.length:=by omega
    have j0:(0:Int)≤j:=by omega
    have jt:((j:Nat):Int).toNat=j:=by omega
    have ij:IntKind.i64.wrap ((i:Int)+(j:Int))=((i+j:Nat):Int):=by rw[Zk (by omega) (by omega)];omega
    have ij0:(0:Int)≤((i+j:Nat):Int):=by omega
    have ijt:(((i+j:Nat)):Int).toNat=i+j:=by omega
    have ijl:((i+j:Nat):Int)<r.length:=by omega
    have ijl2:i+j<r.length:=by omega
    have jw:IntKind.i64.wrap ((j:Int)+1)=((j+1:Nat):Int):=Zy (by omega)
    obtain⟨g1,g2,g3,g4,g5,g6⟩:=hI.t_rng kx ky
    have hst:=hI.step kx ky hlt hjl rfl
    have wa:=kx i
    have wb:=ky j
    unfold w32 at wa wb
    have u1:IntKind.u64.wrap (a.getD i 0)=a.getD i 0:=IntWalk.u64_in _ (by omega)
    have u2:IntKind.u64.wrap (b.getD j 0)=b.getD j 0:=IntWalk.u64_in _ (by omega)
    have u3:IntKind.u64.wrap (r.getD (i+j) 0)=r.getD (i+j) 0:=IntWalk.u64_in _ (by omega)
    have u4:IntKind.u64.wrap (a.getD i 0*b.getD j 0)=a.getD i 0*b.getD j 0:=IntWalk.u64_in _ (by omega)
    have u5:IntKind.u64.wrap (a.getD i 0*b.getD j 0+r.getD (i+j) 0)=a.getD i 0*b.getD j 0+r.getD (i+j) 0:=IntWalk.u64_in _ (by omega)
    have u6:IntKind.u64.wrap (c+(a.getD i 0*b.getD j 0+r.getD (i+j) 0))=c+(a.getD i 0*b.getD j 0+r.getD (i+j) 0):=IntWalk.u64_in _ (by omega)
    obtain⟨t,ht⟩:∃t,c+(a.getD i 0*b.getD j 0+r.getD (i+j) 0)=t:=⟨_,rfl⟩
    rw[ht]at hst u6
    have u7:IntKind.u32.wrap t=t%4294967296:=by rw[IntKind.wrap_u32]
    have u8:Pz .u64 t 32=t/4294967296:=by
     show t/2^32=_
     have:(2:Int)^32=4294967296:=by decide
     rw[this]
    repeat'(first|(first|refine Stp.h ?_)<;>try simp only[Zc,simprocAttr,↓reduceIte,reduceCtorEq,implies_true,i0,i1,it,hlt,j0,j1,jt,hjl,ij,ij0,ijt,ijl,ijl2,jw,u1,u2,u3,u4,u5,ht,u6,u7,u8,d0,Int.ofNat_lt]|(with_reducible first|assumption|refine And.intro ?_ ?_)|(intro h;first|omega|exact tg h ‹_›|exact tg ‹_› h|skip))
    all_goals first|omega|exact⟨⟨(j+1,r.set (i+j) (t%4294967296),t/4294967296),hjl,hst⟩,(Ent.mk1 (id) (by simp[Zx])),by simp only;omega⟩|skip
   ·obtain rfl:j=b.length:=by omega
    have j1:¬(b.length:Int)<b.length:=by omega
    have ij:IntKind.i64.wrap ((i:Int)+(b.length:Int))=((i+b.length:Nat):Int):=by rw[Zk (by omega) (by omega)];omega
    have ij0:(0:Int)≤((i+b.length:Nat):Int):=by omega
    have ijt:(((i+b.length:Nat)):Int).toNat=i+b.length:=by omega
    have ijl:((i+b.length:Nat):Int)<r.length:=by omega
    have ijl2:i+b.length<r.length:=by omega
    have iw:IntKind.i64.wrap ((i:Int)+1)=((i+1:Nat):Int):=Zy (by omega)
    have hcy:=hI.cy
    unfold w32 at hcy
    have u7:IntKind.u32.wrap c=c:=by rw[IntWalk.u32_in _ (by omega)]
    have hf:=hI.fin hlt (by omega)
    repeat'(first|(first|refine Stp.h ?_)<;>try simp only[Zc,simprocAttr,↓reduceIte,reduceCtorEq,implies_true,j1,ij,ij0,ijt,ijl,ijl2,iw,u7,d0,Int.ofNat_lt]|(with_reducible first|assumption|refine And.intro ?_ ?_)|(intro h;first|omega|exact tg h ‹_›|exact tg ‹_› h|skip))
    all_goals first|omega|exact⟨⟨(i+1,r.set (i+b.length) c),hlt,hf⟩,(Ent.mk1 (id) (by simp[Zx])),by simp only;omega⟩|skip
  ·obtain rfl:i=a.length:=by omega
   have i1:¬(a.length:Int)<a.length:=by omega
   have hT:=P2 r hO.ok (by rw[hO.len];omega)
   have hv:=hO.v
   rw[vx,vy]at hv
   have e:(nv r).toNat=x*y:=by
    rw[hv]
    have:(x:Int)*(y:Int)=((x*y:Nat):Int):=by simp
    rw[this,Int.toNat_natCast]
   rw[e]at hT
   repeat'(first|(first|refine Stp.h ?_|(refine Za.gc hT ?_ ?_;focus simp[Zb];done))<;>try simp only[Zc,simprocAttr,↓reduceIte,reduceCtorEq,implies_true,i1]|(with_reducible first|assumption|refine And.intro ?_ ?_)|(intro h;first|omega|exact tg h ‹_›|exact tg ‹_› h|skip))
   all_goals first|omega|skip
theorem Zha(x y:Nat)(b:Bool)(hlx:(wds x).length≤100)(hly:(wds y).length≤100):GC Tryz.prog 21 [.a (.loc 0 0),.a (.loc 1 0),.a (.loc 3 0)]
 [(0,.cells 33 [.bool b,.raw (.slice none 0 0)]),(1,.rocells [.bool false,.ref 2]),(2,.ro (.int .u32) (wds x)),(3,.rocells [.bool false,.ref 4]),(4,.ro (.int .u32) (wds y))] 5 [0] (.one (.a (.loc 0 0)))
 [(0,.cells 33 [.bool false,.ref 5]),(5,.row 87 (.int .u32) (wds (x*y)))] 6:=by
 have hM:=Zfi x y hlx hly
 have hG:=Vz b false (wds (x*y))
 simp only[Bool.false_and]at hG
 refine Ui.fn.gc (by simp) (by simp[Zu,Zw,Zv,Zj,Ze,Vc.S1.okN,At.okN,SV.okN,Res.okN,Res.outOk,Zo,Res.own,Value.oneCell']) fun w X fr=> ?_
 repeat'(first|(first|refine Stp.h ?_|(refine Za.gc hM ?_ ?_;focus simp[Zb];done)|(refine Za.gc hG ?_ ?_;focus simp[Zb];done))<;>try simp only[Zc,simprocAttr,↓reduceIte,reduceCtorEq,implies_true,bne_self_eq_false]|(with_reducible first|assumption|refine And.intro ?_ ?_)|(intro h;first|omega|exact tg h ‹_›|exact tg ‹_› h|skip))
theorem Du(x y w:Nat)(hx:x<18446744073709551616)(hy:y<18446744073709551616)(hw:w=16∨w=32):GC Tryz.prog 15 [.a (.int .u8 42),.a (.int .u64 (x:Int)),.a (.int .u64 (y:Int)),.a (.int .i64 (w:Int)),.a (.bool false)] [] 0 []
 (.tup [.a (.int .u64 (((x%2^w)*(y%2^w)%2^w:Nat):Int)),.a (.int .i64 0)]) [] 0:=by
 have hW:=Te w (by omega)
 have hX:=Tq x w hx (by omega)
 have hY:=Tq y w hy (by omega)
 have hp:2^w≤4294967296:=by rcases hw with rfl|rfl<;>decide
 have hp0:0<2^w:=Nat.pow_pos (by decide)
 have hxl:=Nat.mod_lt x hp0
 have hyl:=Nat.mod_lt y hp0
 have hxy:(x%2^w)*(y%2^w)<4294967296*4294967296:=Nat.mul_lt_mul_of_lt_of_le (by omega) (by omega) (by decide)
 have l1:=We 1 (x%2^w) (by omega)
 have l2:=We 1 (y%2^w) (by omega)
 have hM:=Zha (x%2^w) (y%2^w) false (by omega) (by omega)
 have hF:=Og ((x%2^w)*(y%2^w)) w (by omega) (by omega)
 generalize x%2^w=X at*
 generalize y%2^w=Y at*
 refine Y1.fn.gc (by simp) (by simp[Zu,Zw,Zv,Zj,Ze,Vc.S1.okN,At.okN,SV.okN,Res.okN,Res.outOk,Zo,Res.own,Value.oneCell']) fun w X fr=> ?_
 repeat'(first|(first|refine Stp.h ?_|(refine Za.gc hW ?_ ?_;focus simp[Zb];done)|(refine Za.gc hX ?_ ?_;focus simp[Zb];done)|(refine Za.gc hY ?_ ?_;focus simp[Zb];done)|(refine Za.gc hM ?_ ?_;focus simp[Zb];done)|(refine Za.gc hF ?_ ?_;focus simp[Zb];done))<;>try simp only[Zc,simprocAttr,↓reduceIte,reduceCtorEq,implies_true]|(with_reducible first|assumption|refine And.intro ?_ ?_)|(intro h;first|omega|exact tg h ‹_›|exact tg ‹_› h|skip))
end Go.Proofs.YtbmecnjmbhokgaaGreatDoor
