/- A part of the proofs of this seat's laws: steps on the way, joined. It has no conditions of its own. -/
import Derived.Test.YtddmlennnmpnhaaGreatDoorQm
namespace Go.Proofs.YtddmlennnmpnhaaGreatDoor
open Go Go.RowKit Vc
set_option linter.unusedVariables false
set_option linter.unusedSimpArgs false
attribute [local irreducible] T Za Zn Ent RdC RwC Yd Ze Zh
structure Ma where
 f:Nat→Int
 x:Fl
 pc:Int
 mem:List Int
 trap:Int
def wd(n:Int):Prop:=0≤n∧n≤65535
def Xg(i:Ins)(nx:Int)(m:Ma):Ma:=
 if i.op=1 then {m with f:=Q9 m.f i.d.toNat (m.f i.s.toNat),pc:=nx}else
 if i.op=2 then {m with f:=Q9 m.f i.d.toNat i.imm,pc:=nx}else
 if i.op=3 then {m with f:=Q9 m.f i.d.toNat (m.mem.getD ((m.f i.s.toNat+i.imm)%65536).toNat 0),pc:=nx}else
 if i.op=4 then {m with mem:=m.mem.set ((m.f i.d.toNat+i.imm)%65536).toNat (m.f i.s.toNat%65536),pc:=nx}else
 if i.op=12∨i.op=13 then {m with x:=twoF i.op (m.f i.d.toNat) (m.f i.s.toNat) m.x,pc:=nx}else
 if 5≤i.op∧i.op≤11 then {m with f:=Q9 m.f i.d.toNat (twoR i.op (m.f i.d.toNat) (m.f i.s.toNat) m.x),x:=twoF i.op (m.f i.d.toNat) (m.f i.s.toNat) m.x,pc:=nx}else
 if 14≤i.op∧i.op≤18 then {m with f:=Q9 m.f i.d.toNat (shR i.op (m.f i.d.toNat) m.x.c),x:=shF i.op (m.f i.d.toNat) m.x.c,pc:=nx}else
 if 19≤i.op∧i.op≤25 then {m with pc:=if(if i.op=20 then m.x.z else if i.op=21 then !m.x.z else if i.op=22 then m.x.c else if i.op=23 then !m.x.c else true)=true then i.imm else nx}else
 if i.op=26 then {m with f:=Q9 m.f 7 ((m.f 7-1)%65536),mem:=m.mem.set ((m.f 7-1)%65536).toNat (nx%65536),pc:=i.imm}else
 if i.op=27 then {m with f:=Q9 m.f 7 ((m.f 7+1)%65536),pc:=m.mem.getD (m.f 7).toNat 0}else
 if i.op=28 then {m with f:=Q9 m.f 7 ((m.f 7-1)%65536),mem:=m.mem.set ((m.f 7-1)%65536).toNat (m.f i.s.toNat%65536),pc:=nx}else m
def opOk(op:Int):Bool:=[0,32,1,2,3,4,12,13,5,6,7,8,10,11,14,15,16,17,18,19,20,21,22,23,26,27,28].contains op
def stepS(i:Ins)(n:Int)(m:Ma):Int×Ma:=
 if i.op=0 then(1,m)else if i.op=32 then(2, {m with trap:=i.imm})else(0, {Xg i (m.pc+n) m with pc:=(Xg i (m.pc+n) m).pc%65536})
def Ty(f:Nat→Int)(x:Fl)(pc:Int)(mem code:List Int)(trap rd st:Int)(i:Ins)(n:Int):St:=
 ⟨[(4,.one (.a (.int .i64 n))),(3,.one (.a (.loc 3 0))),(0,.one (.a (.loc 0 0))),(1000000,.one (.a (.ref 0))),(1000001,.one (.a (.ref 1))),(1000002,.one (.a (.ref 2)))],
  [(3,.cells 73 [.int .i64 i.op,.int .i64 i.d,.int .i64 i.s,.int .i64 i.imm]),(0,.cells 152 (mcs f (TL x pc 0 trap rd st))),(1,.row 3 (.int .i64) mem),(2,.row 3 (.int .i64) code)],4⟩
def Xn(w:World)(X:List Nat)(fr:List Value)(code:List Int)(m:Ma)(rd st:Int)(i:Ins)(n:Int):Prop:=
 T ⟨Tryz.prog,w,X,268,fr⟩ Zl.c52 (Q6 ⟨Tryz.prog,w,X,268,fr⟩ [.tmp 2] (Ct [0,1,2] (.one (.a (.int .i64 (stepS i n m).1))) (MR (stepS i n m).2.f (stepS i n m).2.x (stepS i n m).2.pc 0 (stepS i n m).2.trap rd st (stepS i n m).2.mem code)))
   (Ty m.f m.x m.pc m.mem code m.trap rd st i n)
section
variable (w:World) (X:List Nat) (fr:List Value) (f:Nat→Int) (xc xz xn xv:Bool) (pc:Int) (mem code:List Int) (trap rd st d s imm n:Int)
variable (hm:mem.length=65536) (hR:∀i,i<8→wd (f i)) (hpc:wd pc) (hn:n=1∨n=2) (hd:0≤d∧d<8) (hs:0≤s∧s<8) (hi:wd imm)
include hm hR hpc hn hd hs hi
set_option maxHeartbeats 64000000 in
theorem Zg2(op:Int)(hop:op=0):Xn w X fr code ⟨f,⟨xc,xz,xn,xv⟩,pc,mem,trap⟩ rd st ⟨op,d,s,imm⟩ n:=by
 unfold Xn Ty
 have hm2:=hm
 have hd1:d.toNat<8:=by omega
 have hs1:s.toNat<8:=by omega
 have hd0:0≤d:=hd.1
 have hs0:0≤s:=hs.1
 have hd2:d<8:=hd.2
 have hs2:s<8:=hs.2
 have hfd:=hR d.toNat hd1
 have hfs:=hR s.toNat hs1
 have hf7:=hR 7 (by decide)
 unfold wd at hfd hfs hf7 hpc hi
 have hn1:¬n=0:=by omega
 have w1:IntKind.i64.wrap (pc+n)=pc+n:=Zk (by omega) (by omega)
 have w2:IntKind.i64.wrap (f s.toNat+imm)=f s.toNat+imm:=Zk (by omega) (by omega)
 have w3:IntKind.i64.wrap (f d.toNat+imm)=f d.toNat+imm:=Zk (by omega) (by omega)
 subst hop
 all_goals simp only[stepS,Xg,Int.reduceEq,Int.reduceLE,↓reduceIte,or_false,or_true,false_or,true_or,and_true,and_false,true_and,false_and,or_self,and_self,Bool.false_eq_true,Bool.not_true,Bool.not_false]
 all_goals show T _ (.seq Zl.c2 Zl.c51) _ _
 all_goals(repeat'(first|(first|refine T.danyps [3] Mix.m ?_|refine T.danyp [3] Mix.m ?_|refine Stp.h ?_)<;>try simp only[Zc,simprocAttr,↓reduceIte,reduceCtorEq,implies_true,Z5,hd0,hs0,hd1,hs1,hd2,hs2,w1,w2,w3,hn1,Wo,Int.reduceToNat,Int.toNat_natCast]|(with_reducible first|assumption|refine And.intro ?_ ?_)|(intro h;first|omega|exact tg h ‹_›|exact tg ‹_› h|skip)))
 all_goals first|omega|skip
set_option maxHeartbeats 64000000 in
theorem Zg4(op:Int)(hop:op=32):Xn w X fr code ⟨f,⟨xc,xz,xn,xv⟩,pc,mem,trap⟩ rd st ⟨op,d,s,imm⟩ n:=by
 unfold Xn Ty
 have hm2:=hm
 have hd1:d.toNat<8:=by omega
 have hs1:s.toNat<8:=by omega
 have hd0:0≤d:=hd.1
 have hs0:0≤s:=hs.1
 have hd2:d<8:=hd.2
 have hs2:s<8:=hs.2
 have hfd:=hR d.toNat hd1
 have hfs:=hR s.toNat hs1
 have hf7:=hR 7 (by decide)
 unfold wd at hfd hfs hf7 hpc hi
 have hn1:¬n=0:=by omega
 have w1:IntKind.i64.wrap (pc+n)=pc+n:=Zk (by omega) (by omega)
 have w2:IntKind.i64.wrap (f s.toNat+imm)=f s.toNat+imm:=Zk (by omega) (by omega)
 have w3:IntKind.i64.wrap (f d.toNat+imm)=f d.toNat+imm:=Zk (by omega) (by omega)
 subst hop
 all_goals simp only[stepS,Xg,Int.reduceEq,Int.reduceLE,↓reduceIte,or_false,or_true,false_or,true_or,and_true,and_false,true_and,false_and,or_self,and_self,Bool.false_eq_true,Bool.not_true,Bool.not_false]
 all_goals show T _ (.seq Zl.c2 Zl.c51) _ _
 all_goals(repeat'(first|(first|refine T.danyps [3] Mix.m ?_|refine T.danyp [3] Mix.m ?_|refine Stp.h ?_)<;>try simp only[Zc,simprocAttr,↓reduceIte,reduceCtorEq,implies_true,Z5,hd0,hs0,hd1,hs1,hd2,hs2,w1,w2,w3,hn1,Wo,Int.reduceToNat,Int.toNat_natCast]|(with_reducible first|assumption|refine And.intro ?_ ?_)|(intro h;first|omega|exact tg h ‹_›|exact tg ‹_› h|skip)))
 all_goals first|omega|skip
set_option maxHeartbeats 64000000 in
theorem Zi9(op:Int)(hop:op=1):Xn w X fr code ⟨f,⟨xc,xz,xn,xv⟩,pc,mem,trap⟩ rd st ⟨op,d,s,imm⟩ n:=by
 unfold Xn Ty
 have hm2:=hm
 have hd1:d.toNat<8:=by omega
 have hs1:s.toNat<8:=by omega
 have hd0:0≤d:=hd.1
 have hs0:0≤s:=hs.1
 have hd2:d<8:=hd.2
 have hs2:s<8:=hs.2
 have hfd:=hR d.toNat hd1
 have hfs:=hR s.toNat hs1
 have hf7:=hR 7 (by decide)
 unfold wd at hfd hfs hf7 hpc hi
 have hn1:¬n=0:=by omega
 have w1:IntKind.i64.wrap (pc+n)=pc+n:=Zk (by omega) (by omega)
 have w2:IntKind.i64.wrap (f s.toNat+imm)=f s.toNat+imm:=Zk (by omega) (by omega)
 have w3:IntKind.i64.wrap (f d.toNat+imm)=f d.toNat+imm:=Zk (by omega) (by omega)
 subst hop
 all_goals simp only[stepS,Xg,Int.reduceEq,Int.reduceLE,↓reduceIte,or_false,or_true,false_or,true_or,and_true,and_false,true_and,false_and,or_self,and_self,Bool.false_eq_true,Bool.not_true,Bool.not_false]
 all_goals show T _ (.seq Zl.c2 Zl.c51) _ _
 all_goals(repeat'(first|(first|refine T.danyps [3] Mix.m ?_|refine T.danyp [3] Mix.m ?_|refine Stp.h ?_)<;>try simp only[Zc,simprocAttr,↓reduceIte,reduceCtorEq,implies_true,Z5,hd0,hs0,hd1,hs1,hd2,hs2,w1,w2,w3,hn1,Wo,Int.reduceToNat,Int.toNat_natCast]|(with_reducible first|assumption|refine And.intro ?_ ?_)|(intro h;first|omega|exact tg h ‹_›|exact tg ‹_› h|skip)))
 all_goals first|omega|skip
set_option maxHeartbeats 64000000 in
theorem Zi8(op:Int)(hop:op=2):Xn w X fr code ⟨f,⟨xc,xz,xn,xv⟩,pc,mem,trap⟩ rd st ⟨op,d,s,imm⟩ n:=by
 unfold Xn Ty
 have hm2:=hm
 have hd1:d.toNat<8:=by omega
 have hs1:s.toNat<8:=by omega
 have hd0:0≤d:=hd.1
 have hs0:0≤s:=hs.1
 have hd2:d<8:=hd.2
 have hs2:s<8:=hs.2
 have hfd:=hR d.toNat hd1
 have hfs:=hR s.toNat hs1
 have hf7:=hR 7 (by decide)
 unfold wd at hfd hfs hf7 hpc hi
 have hn1:¬n=0:=by omega
 have w1:IntKind.i64.wrap (pc+n)=pc+n:=Zk (by omega) (by omega)
 have w2:IntKind.i64.wrap (f s.toNat+imm)=f s.toNat+imm:=Zk (by omega) (by omega)
 have w3:IntKind.i64.wrap (f d.toNat+imm)=f d.toNat+imm:=Zk (by omega) (by omega)
 subst hop
 all_goals simp only[stepS,Xg,Int.reduceEq,Int.reduceLE,↓reduceIte,or_false,or_true,false_or,true_or,and_true,and_false,true_and,false_and,or_self,and_self,Bool.false_eq_true,Bool.not_true,Bool.not_false]
 all_goals show T _ (.seq Zl.c2 Zl.c51) _ _
 all_goals(repeat'(first|(first|refine T.danyps [3] Mix.m ?_|refine T.danyp [3] Mix.m ?_|refine Stp.h ?_)<;>try simp only[Zc,simprocAttr,↓reduceIte,reduceCtorEq,implies_true,Z5,hd0,hs0,hd1,hs1,hd2,hs2,w1,w2,w3,hn1,Wo,Int.reduceToNat,Int.toNat_natCast]|(with_reducible first|assumption|refine And.intro ?_ ?_)|(intro h;first|omega|exact tg h ‹_›|exact tg ‹_› h|skip)))
 all_goals first|omega|skip
set_option maxHeartbeats 64000000 in
theorem step_ld(op:Int)(hop:op=3):Xn w X fr code ⟨f,⟨xc,xz,xn,xv⟩,pc,mem,trap⟩ rd st ⟨op,d,s,imm⟩ n:=by
 unfold Xn Ty
 have hm2:=hm
 have hd1:d.toNat<8:=by omega
 have hs1:s.toNat<8:=by omega
 have hd0:0≤d:=hd.1
 have hs0:0≤s:=hs.1
 have hd2:d<8:=hd.2
 have hs2:s<8:=hs.2
 have hfd:=hR d.toNat hd1
 have hfs:=hR s.toNat hs1
 have hf7:=hR 7 (by decide)
 unfold wd at hfd hfs hf7 hpc hi
 have hn1:¬n=0:=by omega
 have w1:IntKind.i64.wrap (pc+n)=pc+n:=Zk (by omega) (by omega)
 have w2:IntKind.i64.wrap (f s.toNat+imm)=f s.toNat+imm:=Zk (by omega) (by omega)
 have w3:IntKind.i64.wrap (f d.toNat+imm)=f d.toNat+imm:=Zk (by omega) (by omega)
 have hL:=Zek f ⟨xc,xz,xn,xv⟩ pc 0 trap rd st mem code hm (f s.toNat+imm)
 subst hop
 all_goals simp only[stepS,Xg,Int.reduceEq,Int.reduceLE,↓reduceIte,or_false,or_true,false_or,true_or,and_true,and_false,true_and,false_and,or_self,and_self,Bool.false_eq_true,Bool.not_true,Bool.not_false]
 all_goals show T _ (.seq Zl.c2 Zl.c51) _ _
 all_goals(repeat'(first|(first|refine T.danyps [3] Mix.m ?_|refine T.danyp [3] Mix.m ?_|refine Stp.h ?_|(refine Za.gc hL ?_ ?_;focus simp[Zb,Z5];done))<;>try simp only[Zc,simprocAttr,↓reduceIte,reduceCtorEq,implies_true,Z5,hd0,hs0,hd1,hs1,hd2,hs2,w1,w2,w3,hn1,Wo,Int.reduceToNat,Int.toNat_natCast]|(with_reducible first|assumption|refine And.intro ?_ ?_)|(intro h;first|omega|exact tg h ‹_›|exact tg ‹_› h|skip)))
 all_goals first|omega|skip
set_option maxHeartbeats 64000000 in
theorem step_st(op:Int)(hop:op=4):Xn w X fr code ⟨f,⟨xc,xz,xn,xv⟩,pc,mem,trap⟩ rd st ⟨op,d,s,imm⟩ n:=by
 unfold Xn Ty
 have hm2:=hm
 have hd1:d.toNat<8:=by omega
 have hs1:s.toNat<8:=by omega
 have hd0:0≤d:=hd.1
 have hs0:0≤s:=hs.1
 have hd2:d<8:=hd.2
 have hs2:s<8:=hs.2
 have hfd:=hR d.toNat hd1
 have hfs:=hR s.toNat hs1
 have hf7:=hR 7 (by decide)
 unfold wd at hfd hfs hf7 hpc hi
 have hn1:¬n=0:=by omega
 have w1:IntKind.i64.wrap (pc+n)=pc+n:=Zk (by omega) (by omega)
 have w2:IntKind.i64.wrap (f s.toNat+imm)=f s.toNat+imm:=Zk (by omega) (by omega)
 have w3:IntKind.i64.wrap (f d.toNat+imm)=f d.toNat+imm:=Zk (by omega) (by omega)
 have hL:=A5 f ⟨xc,xz,xn,xv⟩ pc 0 trap rd st mem code hm (f d.toNat+imm) (f s.toNat)
 subst hop
 all_goals simp only[stepS,Xg,Int.reduceEq,Int.reduceLE,↓reduceIte,or_false,or_true,false_or,true_or,and_true,and_false,true_and,false_and,or_self,and_self,Bool.false_eq_true,Bool.not_true,Bool.not_false]
 all_goals show T _ (.seq Zl.c2 Zl.c51) _ _
 all_goals(repeat'(first|(first|refine T.danyps [3] Mix.m ?_|refine T.danyp [3] Mix.m ?_|refine Stp.h ?_|(refine Za.gc hL ?_ ?_;focus simp[Zb,Z5];done))<;>try simp only[Zc,simprocAttr,↓reduceIte,reduceCtorEq,implies_true,Z5,hd0,hs0,hd1,hs1,hd2,hs2,w1,w2,w3,hn1,Wo,Int.reduceToNat,Int.toNat_natCast]|(with_reducible first|assumption|refine And.intro ?_ ?_)|(intro h;first|omega|exact tg h ‹_›|exact tg ‹_› h|skip)))
 all_goals first|omega|skip
set_option maxHeartbeats 64000000 in
theorem Zi6(op:Int)(hop:op=12∨op=13):Xn w X fr code ⟨f,⟨xc,xz,xn,xv⟩,pc,mem,trap⟩ rd st ⟨op,d,s,imm⟩ n:=by
 unfold Xn Ty
 have hm2:=hm
 have hd1:d.toNat<8:=by omega
 have hs1:s.toNat<8:=by omega
 have hd0:0≤d:=hd.1
 have hs0:0≤s:=hs.1
 have hd2:d<8:=hd.2
 have hs2:s<8:=hs.2
 have hfd:=hR d.toNat hd1
 have hfs:=hR s.toNat hs1
 have hf7:=hR 7 (by decide)
 unfold wd at hfd hfs hf7 hpc hi
 have hn1:¬n=0:=by omega
 have w1:IntKind.i64.wrap (pc+n)=pc+n:=Zk (by omega) (by omega)
 have w2:IntKind.i64.wrap (f s.toNat+imm)=f s.toNat+imm:=Zk (by omega) (by omega)
 have w3:IntKind.i64.wrap (f d.toNat+imm)=f d.toNat+imm:=Zk (by omega) (by omega)
 have hL:=Zjl f ⟨xc,xz,xn,xv⟩ pc 0 trap rd st mem code op (f d.toNat) (f s.toNat) (by omega) hfd hfs
 rcases hop with rfl|rfl
 all_goals simp only[stepS,Xg,Int.reduceEq,Int.reduceLE,↓reduceIte,or_false,or_true,false_or,true_or,and_true,and_false,true_and,false_and,or_self,and_self,Bool.false_eq_true,Bool.not_true,Bool.not_false]
 all_goals show T _ (.seq Zl.c2 Zl.c51) _ _
 all_goals(repeat'(first|(first|refine T.danyps [3] Mix.m ?_|refine T.danyp [3] Mix.m ?_|refine Stp.h ?_|(refine Za.gc hL ?_ ?_;focus simp[Zb,Z5];done))<;>try simp only[Zc,simprocAttr,↓reduceIte,reduceCtorEq,implies_true,Z5,hd0,hs0,hd1,hs1,hd2,hs2,w1,w2,w3,hn1,Wo,Int.reduceToNat,Int.toNat_natCast]|(with_reducible first|assumption|refine And.intro ?_ ?_)|(intro h;first|omega|exact tg h ‹_›|exact tg ‹_› h|skip)))
 all_goals first|omega|skip
set_option maxHeartbeats 64000000 in
theorem Zjb(op:Int)(hop:op=5∨op=6∨op=7∨op=8∨op=10∨op=11):Xn w X fr code ⟨f,⟨xc,xz,xn,xv⟩,pc,mem,trap⟩ rd st ⟨op,d,s,imm⟩ n:=by
 unfold Xn Ty
 have hm2:=hm
 have hd1:d.toNat<8:=by omega
 have hs1:s.toNat<8:=by omega
 have hd0:0≤d:=hd.1
 have hs0:0≤s:=hs.1
 have hd2:d<8:=hd.2
 have hs2:s<8:=hs.2
 have hfd:=hR d.toNat hd1
 have hfs:=hR s.toNat hs1
 have hf7:=hR 7 (by decide)
 unfold wd at hfd hfs hf7 hpc hi
 have hn1:¬n=0:=by omega
 have w1:IntKind.i64.wrap (pc+n)=pc+n:=Zk (by omega) (by omega)
 have w2:IntKind.i64.wrap (f s.toNat+imm)=f s.toNat+imm:=Zk (by omega) (by omega)
 have w3:IntKind.i64.wrap (f d.toNat+imm)=f d.toNat+imm:=Zk (by omega) (by omega)
 have hL:=Zjl f ⟨xc,xz,xn,xv⟩ pc 0 trap rd st mem code op (f d.toNat) (f s.toNat) (by omega) hfd hfs
 rcases hop with rfl|rfl|rfl|rfl|rfl|rfl
 all_goals simp only[stepS,Xg,Int.reduceEq,Int.reduceLE,↓reduceIte,or_false,or_true,false_or,true_or,and_true,and_false,true_and,false_and,or_self,and_self,Bool.false_eq_true,Bool.not_true,Bool.not_false]
 all_goals show T _ (.seq Zl.c2 Zl.c51) _ _
 all_goals(repeat'(first|(first|refine T.danyps [3] Mix.m ?_|refine T.danyp [3] Mix.m ?_|refine Stp.h ?_|(refine Za.gc hL ?_ ?_;focus simp[Zb,Z5];done))<;>try simp only[Zc,simprocAttr,↓reduceIte,reduceCtorEq,implies_true,Z5,hd0,hs0,hd1,hs1,hd2,hs2,w1,w2,w3,hn1,Wo,Int.reduceToNat,Int.toNat_natCast]|(with_reducible first|assumption|refine And.intro ?_ ?_)|(intro h;first|omega|exact tg h ‹_›|exact tg ‹_› h|skip)))
 all_goals first|omega|skip
set_option maxHeartbeats 64000000 in
theorem step_sh(op:Int)(hop:op=14∨op=15∨op=16∨op=17∨op=18):Xn w X fr code ⟨f,⟨xc,xz,xn,xv⟩,pc,mem,trap⟩ rd st ⟨op,d,s,imm⟩ n:=by
 unfold Xn Ty
 have hm2:=hm
 have hd1:d.toNat<8:=by omega
 have hs1:s.toNat<8:=by omega
 have hd0:0≤d:=hd.1
 have hs0:0≤s:=hs.1
 have hd2:d<8:=hd.2
 have hs2:s<8:=hs.2
 have hfd:=hR d.toNat hd1
 have hfs:=hR s.toNat hs1
 have hf7:=hR 7 (by decide)
 unfold wd at hfd hfs hf7 hpc hi
 have hn1:¬n=0:=by omega
 have w1:IntKind.i64.wrap (pc+n)=pc+n:=Zk (by omega) (by omega)
 have w2:IntKind.i64.wrap (f s.toNat+imm)=f s.toNat+imm:=Zk (by omega) (by omega)
 have w3:IntKind.i64.wrap (f d.toNat+imm)=f d.toNat+imm:=Zk (by omega) (by omega)
 have hL:=Zc8 f ⟨xc,xz,xn,xv⟩ pc 0 trap rd st mem code op (f d.toNat) (by omega) hfd
 rcases hop with rfl|rfl|rfl|rfl|rfl
 all_goals simp only[stepS,Xg,Int.reduceEq,Int.reduceLE,↓reduceIte,or_false,or_true,false_or,true_or,and_true,and_false,true_and,false_and,or_self,and_self,Bool.false_eq_true,Bool.not_true,Bool.not_false]
 all_goals show T _ (.seq Zl.c2 Zl.c51) _ _
 all_goals(repeat'(first|(first|refine T.danyps [3] Mix.m ?_|refine T.danyp [3] Mix.m ?_|refine Stp.h ?_|(refine Za.gc hL ?_ ?_;focus simp[Zb,Z5];done))<;>try simp only[Zc,simprocAttr,↓reduceIte,reduceCtorEq,implies_true,Z5,hd0,hs0,hd1,hs1,hd2,hs2,w1,w2,w3,hn1,Wo,Int.reduceToNat,Int.toNat_natCast]|(with_reducible first|assumption|refine And.intro ?_ ?_)|(intro h;first|omega|exact tg h ‹_›|exact tg ‹_› h|skip)))
 all_goals first|omega|skip
set_option maxHeartbeats 64000000 in
theorem Zi7(op:Int)(hop:op=19):Xn w X fr code ⟨f,⟨xc,xz,xn,xv⟩,pc,mem,trap⟩ rd st ⟨op,d,s,imm⟩ n:=by
 unfold Xn Ty
 have hm2:=hm
 have hd1:d.toNat<8:=by omega
 have hs1:s.toNat<8:=by omega
 have hd0:0≤d:=hd.1
 have hs0:0≤s:=hs.1
 have hd2:d<8:=hd.2
 have hs2:s<8:=hs.2
 have hfd:=hR d.toNat hd1
 have hfs:=hR s.toNat hs1
 have hf7:=hR 7 (by decide)
 unfold wd at hfd hfs hf7 hpc hi
 have hn1:¬n=0:=by omega
 have w1:IntKind.i64.wrap (pc+n)=pc+n:=Zk (by omega) (by omega)
 have w2:IntKind.i64.wrap (f s.toNat+imm)=f s.toNat+imm:=Zk (by omega) (by omega)
 have w3:IntKind.i64.wrap (f d.toNat+imm)=f d.toNat+imm:=Zk (by omega) (by omega)
 have hL:=El f ⟨xc,xz,xn,xv⟩ pc 0 trap rd st mem code op (by omega)
 subst hop
 simp only[Int.reduceEq,↓reduceIte]at hL
 all_goals simp only[stepS,Xg,Int.reduceEq,Int.reduceLE,↓reduceIte,or_false,or_true,false_or,true_or,and_true,and_false,true_and,false_and,or_self,and_self,Bool.false_eq_true,Bool.not_true,Bool.not_false]
 all_goals show T _ (.seq Zl.c2 Zl.c51) _ _
 all_goals(repeat'(first|(first|refine T.danyps [3] Mix.m ?_|refine T.danyp [3] Mix.m ?_|refine Stp.h ?_|(refine Za.gc hL ?_ ?_;focus simp[Zb,Z5];done))<;>try simp only[Zc,simprocAttr,↓reduceIte,reduceCtorEq,implies_true,Z5,hd0,hs0,hd1,hs1,hd2,hs2,w1,w2,w3,hn1,Wo,Int.reduceToNat,Int.toNat_natCast]|(with_reducible first|assumption|refine And.intro ?_ ?_)|(intro h;first|omega|exact tg h ‹_›|exact tg ‹_› h|skip)))
 all_goals first|omega|skip
set_option maxHeartbeats 64000000 in
theorem step_jz(op:Int)(hop:op=20∨op=21):Xn w X fr code ⟨f,⟨xc,xz,xn,xv⟩,pc,mem,trap⟩ rd st ⟨op,d,s,imm⟩ n:=by
 unfold Xn Ty
 have hm2:=hm
 have hd1:d.toNat<8:=by omega
 have hs1:s.toNat<8:=by omega
 have hd0:0≤d:=hd.1
 have hs0:0≤s:=hs.1
 have hd2:d<8:=hd.2
 have hs2:s<8:=hs.2
 have hfd:=hR d.toNat hd1
 have hfs:=hR s.toNat hs1
 have hf7:=hR 7 (by decide)
 unfold wd at hfd hfs hf7 hpc hi
 have hn1:¬n=0:=by omega
 have w1:IntKind.i64.wrap (pc+n)=pc+n:=Zk (by omega) (by omega)
 have w2:IntKind.i64.wrap (f s.toNat+imm)=f s.toNat+imm:=Zk (by omega) (by omega)
 have w3:IntKind.i64.wrap (f d.toNat+imm)=f d.toNat+imm:=Zk (by omega) (by omega)
 have hL:=El f ⟨xc,xz,xn,xv⟩ pc 0 trap rd st mem code op (by omega)
 rcases hop with rfl|rfl
 all_goals cases xz
 all_goals simp only[stepS,Xg,Int.reduceEq,Int.reduceLE,↓reduceIte,or_false,or_true,false_or,true_or,and_true,and_false,true_and,false_and,or_self,and_self,Bool.false_eq_true,Bool.not_true,Bool.not_false]
 all_goals show T _ (.seq Zl.c2 Zl.c51) _ _
 all_goals(repeat'(first|(first|refine T.danyps [3] Mix.m ?_|refine T.danyp [3] Mix.m ?_|refine Stp.h ?_|(refine Za.gc hL ?_ ?_;focus simp[Zb,Z5];done))<;>try simp only[Zc,simprocAttr,↓reduceIte,reduceCtorEq,implies_true,Z5,hd0,hs0,hd1,hs1,hd2,hs2,w1,w2,w3,hn1,Wo,Int.reduceToNat,Int.toNat_natCast]|(with_reducible first|assumption|refine And.intro ?_ ?_)|(intro h;first|omega|exact tg h ‹_›|exact tg ‹_› h|skip)))
 all_goals first|omega|skip
set_option maxHeartbeats 64000000 in
theorem step_jc(op:Int)(hop:op=22∨op=23):Xn w X fr code ⟨f,⟨xc,xz,xn,xv⟩,pc,mem,trap⟩ rd st ⟨op,d,s,imm⟩ n:=by
 unfold Xn Ty
 have hm2:=hm
 have hd1:d.toNat<8:=by omega
 have hs1:s.toNat<8:=by omega
 have hd0:0≤d:=hd.1
 have hs0:0≤s:=hs.1
 have hd2:d<8:=hd.2
 have hs2:s<8:=hs.2
 have hfd:=hR d.toNat hd1
 have hfs:=hR s.toNat hs1
 have hf7:=hR 7 (by decide)
 unfold wd at hfd hfs hf7 hpc hi
 have hn1:¬n=0:=by omega
 have w1:IntKind.i64.wrap (pc+n)=pc+n:=Zk (by omega) (by omega)
 have w2:IntKind.i64.wrap (f s.toNat+imm)=f s.toNat+imm:=Zk (by omega) (by omega)
 have w3:IntKind.i64.wrap (f d.toNat+imm)=f d.toNat+imm:=Zk (by omega) (by omega)
 have hL:=El f ⟨xc,xz,xn,xv⟩ pc 0 trap rd st mem code op (by omega)
 rcases hop with rfl|rfl
 all_goals cases xc
 all_goals simp only[stepS,Xg,Int.reduceEq,Int.reduceLE,↓reduceIte,or_false,or_true,false_or,true_or,and_true,and_false,true_and,false_and,or_self,and_self,Bool.false_eq_true,Bool.not_true,Bool.not_false]
 all_goals show T _ (.seq Zl.c2 Zl.c51) _ _
 all_goals(repeat'(first|(first|refine T.danyps [3] Mix.m ?_|refine T.danyp [3] Mix.m ?_|refine Stp.h ?_|(refine Za.gc hL ?_ ?_;focus simp[Zb,Z5];done))<;>try simp only[Zc,simprocAttr,↓reduceIte,reduceCtorEq,implies_true,Z5,hd0,hs0,hd1,hs1,hd2,hs2,w1,w2,w3,hn1,Wo,Int.reduceToNat,Int.toNat_natCast]|(with_reducible first|assumption|refine And.intro ?_ ?_)|(intro h;first|omega|exact tg h ‹_›|exact tg ‹_› h|skip)))
 all_goals first|omega|skip
set_option maxHeartbeats 64000000 in
theorem Zg1(op:Int)(hop:op=26):Xn w X fr code ⟨f,⟨xc,xz,xn,xv⟩,pc,mem,trap⟩ rd st ⟨op,d,s,imm⟩ n:=by
 unfold Xn Ty
 have hm2:=hm
 have hd1:d.toNat<8:=by omega
 have hs1:s.toNat<8:=by omega
 have hd0:0≤d:=hd.1
 have hs0:0≤s:=hs.1
 have hd2:d<8:=hd.2
 have hs2:s<8:=hs.2
 have hfd:=hR d.toNat hd1
 have hfs:=hR s.toNat hs1
 have hf7:=hR 7 (by decide)
 unfold wd at hfd hfs hf7 hpc hi
 have hn1:¬n=0:=by omega
 have w1:IntKind.i64.wrap (pc+n)=pc+n:=Zk (by omega) (by omega)
 have w2:IntKind.i64.wrap (f s.toNat+imm)=f s.toNat+imm:=Zk (by omega) (by omega)
 have w3:IntKind.i64.wrap (f d.toNat+imm)=f d.toNat+imm:=Zk (by omega) (by omega)
 have hL:=Zes f ⟨xc,xz,xn,xv⟩ pc 0 trap rd st mem code hm hf7 (pc+n)
 subst hop
 all_goals simp only[stepS,Xg,Int.reduceEq,Int.reduceLE,↓reduceIte,or_false,or_true,false_or,true_or,and_true,and_false,true_and,false_and,or_self,and_self,Bool.false_eq_true,Bool.not_true,Bool.not_false]
 all_goals show T _ (.seq Zl.c2 Zl.c51) _ _
 all_goals(repeat'(first|(first|refine T.danyps [3] Mix.m ?_|refine T.danyp [3] Mix.m ?_|refine Stp.h ?_|(refine Za.gc hL ?_ ?_;focus simp[Zb,Z5];done))<;>try simp only[Zc,simprocAttr,↓reduceIte,reduceCtorEq,implies_true,Z5,hd0,hs0,hd1,hs1,hd2,hs2,w1,w2,w3,hn1,Wo,Int.reduceToNat,Int.toNat_natCast]|(with_reducible first|assumption|refine And.intro ?_ ?_)|(intro h;first|omega|exact tg h ‹_›|exact tg ‹_› h|skip)))
 all_goals first|omega|skip
set_option maxHeartbeats 64000000 in
theorem Zja(op:Int)(hop:op=27):Xn w X fr code ⟨f,⟨xc,xz,xn,xv⟩,pc,mem,trap⟩ rd st ⟨op,d,s,imm⟩ n:=by
 unfold Xn Ty
 have hm2:=hm
 have hd1:d.toNat<8:=by omega
 have hs1:s.toNat<8:=by omega
 have hd0:0≤d:=hd.1
 have hs0:0≤s:=hs.1
 have hd2:d<8:=hd.2
 have hs2:s<8:=hs.2
 have hfd:=hR d.toNat hd1
 have hfs:=hR s.toNat hs1
 have hf7:=hR 7 (by decide)
 unfold wd at hfd hfs hf7 hpc hi
 have hn1:¬n=0:=by omega
 have w1:IntKind.i64.wrap (pc+n)=pc+n:=Zk (by omega) (by omega)
 have w2:IntKind.i64.wrap (f s.toNat+imm)=f s.toNat+imm:=Zk (by omega) (by omega)
 have w3:IntKind.i64.wrap (f d.toNat+imm)=f d.toNat+imm:=Zk (by omega) (by omega)
 have hL:=pop_gc f ⟨xc,xz,xn,xv⟩ pc 0 trap rd st mem code hm hf7
 subst hop
 all_goals simp only[stepS,Xg,Int.reduceEq,Int.reduceLE,↓reduceIte,or_false,or_true,false_or,true_or,and_true,and_false,true_and,false_and,or_self,and_self,Bool.false_eq_true,Bool.not_true,Bool.not_false]
 all_goals show T _ (.seq Zl.c2 Zl.c51) _ _
 all_goals(repeat'(first|(first|refine T.danyps [3] Mix.m ?_|refine T.danyp [3] Mix.m ?_|refine Stp.h ?_|(refine Za.gc hL ?_ ?_;focus simp[Zb,Z5];done))<;>try simp only[Zc,simprocAttr,↓reduceIte,reduceCtorEq,implies_true,Z5,hd0,hs0,hd1,hs1,hd2,hs2,w1,w2,w3,hn1,Wo,Int.reduceToNat,Int.toNat_natCast]|(with_reducible first|assumption|refine And.intro ?_ ?_)|(intro h;first|omega|exact tg h ‹_›|exact tg ‹_› h|skip)))
 all_goals first|omega|skip
set_option maxHeartbeats 64000000 in
theorem Zg3(op:Int)(hop:op=28):Xn w X fr code ⟨f,⟨xc,xz,xn,xv⟩,pc,mem,trap⟩ rd st ⟨op,d,s,imm⟩ n:=by
 unfold Xn Ty
 have hm2:=hm
 have hd1:d.toNat<8:=by omega
 have hs1:s.toNat<8:=by omega
 have hd0:0≤d:=hd.1
 have hs0:0≤s:=hs.1
 have hd2:d<8:=hd.2
 have hs2:s<8:=hs.2
 have hfd:=hR d.toNat hd1
 have hfs:=hR s.toNat hs1
 have hf7:=hR 7 (by decide)
 unfold wd at hfd hfs hf7 hpc hi
 have hn1:¬n=0:=by omega
 have w1:IntKind.i64.wrap (pc+n)=pc+n:=Zk (by omega) (by omega)
 have w2:IntKind.i64.wrap (f s.toNat+imm)=f s.toNat+imm:=Zk (by omega) (by omega)
 have w3:IntKind.i64.wrap (f d.toNat+imm)=f d.toNat+imm:=Zk (by omega) (by omega)
 have hL:=Zes f ⟨xc,xz,xn,xv⟩ pc 0 trap rd st mem code hm hf7 (f s.toNat)
 subst hop
 all_goals simp only[stepS,Xg,Int.reduceEq,Int.reduceLE,↓reduceIte,or_false,or_true,false_or,true_or,and_true,and_false,true_and,false_and,or_self,and_self,Bool.false_eq_true,Bool.not_true,Bool.not_false]
 all_goals show T _ (.seq Zl.c2 Zl.c51) _ _
 all_goals(repeat'(first|(first|refine T.danyps [3] Mix.m ?_|refine T.danyp [3] Mix.m ?_|refine Stp.h ?_|(refine Za.gc hL ?_ ?_;focus simp[Zb,Z5];done))<;>try simp only[Zc,simprocAttr,↓reduceIte,reduceCtorEq,implies_true,Z5,hd0,hs0,hd1,hs1,hd2,hs2,w1,w2,w3,hn1,Wo,Int.reduceToNat,Int.toNat_natCast]|(with_reducible first|assumption|refine And.intro ?_ ?_)|(intro h;first|omega|exact tg h ‹_›|exact tg ‹_› h|skip)))
 all_goals first|omega|skip
end
theorem One_ins(code:List Int)(p:Int)(i:Ins)(n:Int)(h:Xb code p=(i,n))(hl:code.length≤65536):RdC Tryz.prog 119 [.ro (.int .i64) code,.v (.a (.int .i64 p))] (.tup [.agg [.int .i64 i.op,.int .i64 i.d,.int .i64 i.s,.int .i64 i.imm],.a (.int .i64 n)]):=by
 have:=One_any code p (by omega)
 rw[h]at this
 exact this
def Tu(i:Ins)(n:Int):Bool:=opOk i.op&&(decide (n=1∨n=2)&&(decide (0≤i.d∧i.d<8)&&(decide (0≤i.s∧i.s<8)&&decide (0≤i.imm∧i.imm≤65535))))
theorem step_gc(code:List Int)(m:Ma)(rd st:Int)(i:Ins)(n:Int)(h:Xb code m.pc=(i,n))(hl:code.length≤65536)(hok:Tu i n=true)(hm:m.mem.length=65536)(hR:∀i,i<8→wd (m.f i))(hpc:wd m.pc):
 GC Tryz.prog 88 [.a (.loc 0 0)] (MR m.f m.x m.pc 0 m.trap rd st m.mem code) 3 [0,1,2] (.one (.a (.int .i64 (stepS i n m).1)))
  (MR (stepS i n m).2.f (stepS i n m).2.x (stepS i n m).2.pc 0 (stepS i n m).2.trap rd st (stepS i n m).2.mem code) 3:=by
 have hO:=One_ins code m.pc i n h hl
 simp only[Tu,Bool.and_eq_true,decide_eq_true_eq]at hok
 obtain⟨hop,hn,hd,hs,hi⟩:=hok
 obtain⟨f,⟨xc,xz,xn,xv⟩,pc,mem,trap⟩:=m
 obtain⟨op,d,s,imm⟩:=i
 refine Zl.fn.gc (by simp) (by simp[Zu,Zw,Zv,Zj,Zf,Vc.S1.okN,At.okN,SV.okN,Res.okN,Res.outOk,Zo,Res.own,Value.oneCell',MR,X0,TL,U6]) fun w X fr=> ?_
 have key:Xn w X fr code ⟨f,⟨xc,xz,xn,xv⟩,pc,mem,trap⟩ rd st ⟨op,d,s,imm⟩ n:=by
  simp only at hop hm hR hpc hd hs hi
  simp[opOk]at hop
  rcases hop with hop|hop|hop|hop|hop|hop|hop|hop|hop|hop|hop|hop|hop|hop|hop|hop|hop|hop|hop|hop|hop|hop|hop|hop|hop|hop|hop
  all_goals first|exact Zg2 w X fr f xc xz xn xv pc mem code trap rd st d s imm n hm hR hpc hn hd hs hi op (by omega)|exact Zg4 w X fr f xc xz xn xv pc mem code trap rd st d s imm n hm hR hpc hn hd hs hi op (by omega)|exact Zi9 w X fr f xc xz xn xv pc mem code trap rd st d s imm n hm hR hpc hn hd hs hi op (by omega)|exact Zi8 w X fr f xc xz xn xv pc mem code trap rd st d s imm n hm hR hpc hn hd hs hi op (by omega)|exact step_ld w X fr f xc xz xn xv pc mem code trap rd st d s imm n hm hR hpc hn hd hs hi op (by omega)|exact step_st w X fr f xc xz xn xv pc mem code trap rd st d s imm n hm hR hpc hn hd hs hi op (by omega)|exact Zi6 w X fr f xc xz xn xv pc mem code trap rd st d s imm n hm hR hpc hn hd hs hi op (by omega)|exact Zjb w X fr f xc xz xn xv pc mem code trap rd st d s imm n hm hR hpc hn hd hs hi op (by omega)|exact step_sh w X fr f xc xz xn xv pc mem code trap rd st d s imm n hm hR hpc hn hd hs hi op (by omega)|exact Zi7 w X fr f xc xz xn xv pc mem code trap rd st d s imm n hm hR hpc hn hd hs hi op (by omega)|exact step_jz w X fr f xc xz xn xv pc mem code trap rd st d s imm n hm hR hpc hn hd hs hi op (by omega)|exact step_jc w X fr f xc xz xn xv pc mem code trap rd st d s imm n hm hR hpc hn hd hs hi op (by omega)|exact Zg1 w X fr f xc xz xn xv pc mem code trap rd st d s imm n hm hR hpc hn hd hs hi op (by omega)|exact Zja w X fr f xc xz xn xv pc mem code trap rd st d s imm n hm hR hpc hn hd hs hi op (by omega)|exact Zg3 w X fr f xc xz xn xv pc mem code trap rd st d s imm n hm hR hpc hn hd hs hi op (by omega)
 unfold Xn Ty at key
 generalize stepS ⟨op,d,s,imm⟩ n ⟨f,⟨xc,xz,xn,xv⟩,pc,mem,trap⟩=R at*
 simp only at hO key
 repeat'(first|(first|refine Stp.h ?_|(refine rq hO ?_ ?_;focus simp[Zz];done))<;>try simp only[Zc,simprocAttr,↓reduceIte,reduceCtorEq,implies_true,Z5]|(with_reducible first|assumption|refine And.intro ?_ ?_)|(intro h;first|omega|exact tg h ‹_›|exact tg ‹_› h|skip))
 all_goals exact T.weak (Ent.mk1 id (by simp[Zt,Z5])) key
theorem Dp(l:List Int)(hl:0<l.length)(hb:l.length≤65536):GC Tryz.prog 87 [.a (.ref 0)] [(0,.ro (.int .i64) l)] 1 [] (.one (.a (.ref 1))) [(1,.row 3 (.int .i64) l)] 2:=by
 refine Um.fn.gc (by simp) (by simp[Zu,Zw,Zv,Zj,Zf,Vc.S1.okN,At.okN,SV.okN,Res.okN,Res.outOk,Zo,Res.own,Value.oneCell']) fun w X fr=> ?_
 have h1:l.length*8≤140737488355328:=by omega
 have h2:l.length≤4611686018427387904:=by omega
 repeat'(first|(first|refine Stp.h ?_)<;>try simp only[Zc,simprocAttr,↓reduceIte,reduceCtorEq,implies_true,hl,h1,h2]|(with_reducible first|assumption|refine And.intro ?_ ?_)|(intro h;first|omega|exact tg h ‹_›|exact tg ‹_› h|skip))
theorem mcs_i64(f:Nat→Int):Jf (mcs f [])=some ((List.range 8).map f):=rfl
theorem regs_wd{f:Nat→Int}{a:Int}(hf:∀i,i<8→wd (f i))(ha:wd a):∀j,j<9→wd (((List.range 8).map f++[a]).getD j 0):=by
 intro j hj
 rcases Nat.lt_or_ge j 8 with h|h
 ·have e:((List.range 8).map f++[a]).getD j 0=f j:=by
   rw[List.getD_eq_getElem?_getD,List.getElem?_append_left (by simpa using h)];simp[h]
  rw[e];exact hf j h
 ·obtain rfl:j=8:=by omega
  exact ha
set_option maxHeartbeats 4000000 in
theorem Zhm(f:Nat→Int)(x:Fl)(a:Int)(mem:List Int)(hf:∀i,i<8→wd (f i))(ha:wd a)(hl:mem.length≤65536)(hm:∀j,j<mem.length→wd (mem.getD j 0)):
 GC Tryz.prog 118 [.agg (mcs f [.bool x.c,.bool x.z,.bool x.n,.bool x.v,.int .i64 a,.ref 0])] [(0,.ro (.int .i64) mem)] 1 [] (.one (.a (.int .i64 0))) [] 1:=by
 have hr:=regs_wd hf ha
 have hrl:((List.range 8).map f++[a]).length=9:=by simp
 have hl2:¬(65536:Int)<mem.length:=by omega
 have d0:(Kd.int .i64).dflt=(0:Int):=rfl
 have z0:∀l:List At,l.drop 0=l:=fun l=>rfl
 have t0:∀l:List At,l.take 0=[]:=fun l=>rfl
 refine Ky.fn.gc (by simp) (by simp[Zu,Zw,Zv,Zj,Zf,Vc.S1.okN,At.okN,SV.okN,Res.okN,Res.outOk,Zo,Res.own,Value.oneCell',X0]) fun w X fr=> ?_
 repeat'(first|(first|refine T.danyps [1] Mix.m ?_|refine T.danyp [1] Mix.m ?_|refine Stp.h ?_)<;>try simp only[Zc,simprocAttr,↓reduceIte,reduceCtorEq,implies_true,Z5,mcs_i64,hl2,z0,t0]|(with_reducible first|assumption|refine And.intro ?_ ?_)|(intro h;first|omega|exact tg h ‹_›|exact tg ‹_› h|skip))
 all_goals
  rw[hrl]
  generalize (List.range 8).map f++[a]=L at*
  refine T.loop (ι:= {k:Nat//k≤9}) (fun y=>⟨[(17,.one (.a (.int .i64 (9:Nat)))),(16,.one (.a (.ref 1))),(18,.one (.a (.int .i64 (y.1:Int)))),(1,.one (.a (.loc 2 0)))],
   [(0,.ro (.int .i64) mem),(1,.row 3 (.int .i64) L),(2,.cells 51 (mcs f [.bool x.c,.bool x.z,.bool x.n,.bool x.v,.int .i64 a,.ref 0]))],3⟩)
   (fun y=>9-y.1) ⟨0,by omega⟩ (Ent.mk1 (fun n=>if n=0 then 0 else if n=1 then 4 else 1) (by simp[Zt,Z5])) ?_
  rintro⟨k,hk⟩
  simp only
  by_cases hlt:k<9
  ·have hw:IntKind.i64.wrap ((k:Int)+1)=((k+1:Nat):Int):=Zx (by omega)
   have hkt:((k:Int)).toNat=k:=by omega
   have hk9:(k:Int)<(9:Nat):=by omega
   have hkL:(k:Int)<L.length:=by omega
   have hkL2:k<L.length:=by omega
   have hx:=hr k hlt
   obtain⟨v,hv⟩:∃v,L.getD k 0=v:=⟨_,rfl⟩
   rw[hv]at hx
   have v0:¬v<0:=by unfold wd at hx;omega
   have v1:¬65535<v:=by unfold wd at hx;omega
   repeat'(first|(first|refine Stp.h ?_)<;>try simp only[Zc,simprocAttr,↓reduceIte,reduceCtorEq,implies_true,Z5,hw,hkt,hk9,hkL,hkL2,d0,hv,v0,v1,decide_false,Int.ofNat_lt]|(with_reducible first|assumption|refine And.intro ?_ ?_)|(intro h;first|omega|exact tg h ‹_›|exact tg ‹_› h|skip))
   all_goals first|omega|exact⟨⟨k+1,hlt⟩,(Ent.mk1 (id) (by simp[Zt,hw,Z5])),by simp only;omega⟩|skip
  ·have hk2:k=9:=by omega
   subst hk2
   repeat'(first|(first|refine Stp.h ?_)<;>try simp only[Zc,simprocAttr,↓reduceIte,reduceCtorEq,implies_true,Z5,hl2,d0]|(with_reducible first|assumption|refine And.intro ?_ ?_)|(intro h;first|omega|exact tg h ‹_›|exact tg ‹_› h|skip))
   all_goals first|omega|skip
   refine T.loop (ι:= {k:Nat//k≤mem.length}) (fun y=>⟨[(31,.one (.a (.int .i64 mem.length))),(30,.one (.a (.ref 0))),(32,.one (.a (.int .i64 (y.1:Int))))],[(0,.ro (.int .i64) mem)],3⟩)
    (fun y=>mem.length-y.1) ⟨0,by omega⟩ (Ent.mk1 (id) (by simp[Zt,Z5])) ?_
   rintro⟨k,hk⟩
   simp only
   by_cases hlt:k<mem.length
   ·have hw:IntKind.i64.wrap ((k:Int)+1)=((k+1:Nat):Int):=Zx (by omega)
    have hkt:((k:Int)).toNat=k:=by omega
    have hkL:(k:Int)<mem.length:=by omega
    have hx:=hm k hlt
    obtain⟨v,hv⟩:∃v,mem.getD k 0=v:=⟨_,rfl⟩
    rw[hv]at hx
    have v0:¬v<0:=by unfold wd at hx;omega
    have v1:¬65535<v:=by unfold wd at hx;omega
    repeat'(first|(first|refine Stp.h ?_)<;>try simp only[Zc,simprocAttr,↓reduceIte,reduceCtorEq,implies_true,Z5,hw,hkt,hkL,hlt,d0,hv,v0,v1,decide_false,Int.ofNat_lt]|(with_reducible first|assumption|refine And.intro ?_ ?_)|(intro h;first|omega|exact tg h ‹_›|exact tg ‹_› h|skip))
    all_goals first|omega|exact⟨⟨k+1,hlt⟩,(Ent.mk1 (id) (by simp[Zt,hw,Z5])),by simp only;omega⟩|skip
   ·have hk2:k=mem.length:=by omega
    subst hk2
    have hn:¬(mem.length:Int)<mem.length:=by omega
    repeat'(first|(first|refine Stp.h ?_)<;>try simp only[Zc,simprocAttr,↓reduceIte,reduceCtorEq,implies_true,Z5,hn]|(with_reducible first|assumption|refine And.intro ?_ ?_)|(intro h;first|omega|exact tg h ‹_›|exact tg ‹_› h|skip))
    all_goals first|omega|skip
theorem wary_gc(f:Nat→Int)(x:Fl)(a:Int)(mem code:List Int)(fuel:Int)(hf:∀i,i<8→wd (f i))(ha:wd a)(hl:mem.length≤65536)(hm:∀j,j<mem.length→wd (mem.getD j 0))(hc:code.length≤65536)(hfu:0≤fuel∧fuel≤1000000):
 GC Tryz.prog 86 [.a (.ref 1),.agg (mcs f [.bool x.c,.bool x.z,.bool x.n,.bool x.v,.int .i64 a,.ref 0]),.a (.raw (.slice none 0 0)),.a (.int .i64 fuel)] [(0,.ro (.int .i64) mem),(1,.ro (.int .i64) code)] 2 [] (.one (.a (.int .i64 0))) [] 2:=by
 have hW:=Zhm f x a mem hf ha hl hm
 have hc2:¬(65536:Int)<code.length:=by omega
 have f0:¬fuel<0:=by omega
 have f1:¬1000000<fuel:=by omega
 have z0:∀l:List At,l.drop 0=l:=fun l=>rfl
 refine J1.fn.gc (by simp) (by simp[Zu,Zw,Zv,Zj,Zf,Vc.S1.okN,At.okN,SV.okN,Res.okN,Res.outOk,Zo,Res.own,Value.oneCell',X0]) fun w X fr=> ?_
 repeat'(first|(first|refine Stp.h ?_|(refine Za.gc hW ?_ ?_;focus simp[Zb,Z5];done))<;>try simp only[Zc,simprocAttr,↓reduceIte,reduceCtorEq,implies_true,Z5,hc2,f0,f1,z0,decide_false]|(with_reducible first|assumption|refine And.intro ?_ ?_)|(intro h;first|omega|exact tg h ‹_›|exact tg ‹_› h|skip))
structure Trace (code:List Int) (M:Nat→Ma) (N:Nat) (hw:Int):Prop where
 pos:0<N
 how:hw=1∨hw=2
 cl:code.length≤65536
 len:∀k,k≤N→(M k).mem.length=65536
 reg:∀k,k≤N→∀i,i<8→wd ((M k).f i)
 pc:∀k,k≤N→wd (M k).pc
 st:∀k,k<N→∃i n,Xb code (M k).pc=(i,n)∧Tu i n=true∧stepS i n (M k)=(if k+1=N then hw else 0,M (k+1))
def trimN(l:List Int):Nat→Nat
 |0=>0
 |n+1=>if l.getD n 0=0 then trimN l n else n+1
theorem Gb(l:List Int):∀n,trimN l n≤n
 |0=>Nat.le_refl _
 |n+1=>by unfold trimN;split;exact Nat.le_succ_of_le (Gb l n);exact Nat.le_refl _
theorem Zjp:z14=[.int .i64 0,.int .i64 0,.int .i64 0,.int .i64 0,.int .i64 0,.int .i64 0,.int .i64 0,.int .i64 0,.bool false,.bool false,.bool false,.bool false,.int .i64 0,.raw (.slice none 0 0)]:=rfl
def Hq(hw tr st:Int)(f:Nat→Int)(x:Fl)(pc:Int):List At:=[.int .i64 hw,.int .i64 tr,.raw (.slice none 0 0),.int .i64 0,.int .i64 st]++mcs f [.bool x.c,.bool x.z,.bool x.n,.bool x.v,.int .i64 pc,.ref 2]
def Zdm(code:List Int)(M:Nat→Ma)(N:Nat)(hw fuel:Int)(k:Nat):St:=
 ⟨[(15,.one (.a (.loc 0 0))),(12,.one (.a (.loc 3 0))),(3,.one (.a (.int .i64 fuel))),(4,.one (.a (.raw .nilFunc))),(5,.one (.a (.raw .nilFunc)))],
  [(0,.cells 152 (mcs (M k).f (TL (M k).x (M k).pc (if k=N then hw else 0) (M k).trap 0 (k:Int)))),(1,.row 3 (.int .i64) (M k).mem),(2,.row 3 (.int .i64) code),
   (3,.cells 53 [.int .i64 0,.int .i64 0,.raw (.slice none 0 0),.int .i64 0,.int .i64 0,.int .i64 0,.int .i64 0,.int .i64 0,.int .i64 0,.int .i64 0,.int .i64 0,.int .i64 0,.int .i64 0,.bool false,.bool false,.bool false,.bool false,.int .i64 0,.raw (.slice none 0 0)])],4⟩
def trimS(code:List Int)(M:Nat→Ma)(N:Nat)(hw:Int)(t:Nat):St:=
 ⟨[(17,.one (.a (.int .i64 (t:Int)))),(15,.one (.a (.loc 0 0))),(12,.one (.a (.loc 3 0)))],
  [(0,.cells 152 (mcs (M N).f (TL (M N).x (M N).pc hw (M N).trap 0 (N:Int)))),(1,.row 3 (.int .i64) (M N).mem),(2,.row 3 (.int .i64) code),
   (3,.cells 53 [.int .i64 0,.int .i64 0,.raw (.slice none 0 0),.int .i64 0,.int .i64 0,.int .i64 0,.int .i64 0,.int .i64 0,.int .i64 0,.int .i64 0,.int .i64 0,.int .i64 0,.int .i64 0,.bool false,.bool false,.bool false,.bool false,.int .i64 0,.raw (.slice none 0 0)])],4⟩
set_option maxHeartbeats 16000000 in
set_option maxRecDepth 100000 in
theorem Zhl(code:List Int)(M:Nat→Ma)(N:Nat)(hw:Int)(h:Trace code M N hw)(ht:(M 0).trap=0)(hm:∀j,j<65536→wd ((M 0).mem.getD j 0))(fuel:Int)(hfu:(N:Int)≤fuel∧fuel≤1000000)(h0:0<trimN (M N).mem 65536):
 GC Tryz.prog 73 [.a (.ref 0),.agg (mcs (M 0).f [.bool (M 0).x.c,.bool (M 0).x.z,.bool (M 0).x.n,.bool (M 0).x.v,.int .i64 (M 0).pc,.ref 1]),.a (.raw (.slice none 0 0)),.a (.int .i64 fuel),.a (.raw .nilFunc),.a (.raw .nilFunc)]
  [(0,.row 3 (.int .i64) code),(1,.ro (.int .i64) (M 0).mem)] 2 [] (.tup [.agg (Hq hw (M N).trap N (M N).f (M N).x (M N).pc),.a (.int .i64 0)]) [(2,.row 3 (.int .i64) ((M N).mem.take (trimN (M N).mem 65536)))] 3:=by
 have hl0:=h.len 0 (Nat.zero_le _)
 have hW:=wary_gc (M 0).f (M 0).x (M 0).pc (M 0).mem code fuel (h.reg 0 (Nat.zero_le _)) (h.pc 0 (Nat.zero_le _)) (by omega) (fun j hj=>hm j (by omega)) h.cl (by omega)
 have hC:=Dp (M 0).mem (by omega) (by omega)
 have w0:IntKind.i64.wrap (65536-((M 0).mem.length:Int))=0:=by rw[hl0];exact Zk (by omega) (by omega)
 have z0:∀l:List At,l.drop 0=l:=fun l=>rfl
 have t0:∀l:List At,l.take 0=[]:=fun l=>rfl
 refine Kx.fn.gc (by simp) (by simp[Zu,Zw,Zv,Zj,Zf,Vc.S1.okN,At.okN,SV.okN,Res.okN,Res.outOk,Zo,Res.own,Value.oneCell',X0,Hq]) fun w X fr=> ?_
 repeat'(first|(first|refine T.danyps [2] Mix.m ?_|refine T.danyp [2] Mix.m ?_|refine Stp.h ?_|(refine Za.gc hW ?_ ?_;focus simp[Zb,Z5];done)|(refine Za.gc hC ?_ ?_;focus simp[Zb,Z5];done))<;>try simp only[Zc,simprocAttr,↓reduceIte,reduceCtorEq,implies_true,Z5,w0,z0,t0]|(with_reducible first|assumption|refine And.intro ?_ ?_)|(intro h;first|omega|exact tg h ‹_›|exact tg ‹_› h|skip))
 all_goals
  refine T.loop (ι:= {k:Nat//k≤N}) (fun y=>Zdm code M N hw fuel y.1) (fun y=>N-y.1) ⟨0,Nat.zero_le _⟩ (Ent.mk1 (fun n=>if n=0 then 4 else if n=1 then 5 else if n=2 then 0 else 3) (by simp[Zt,Z5,Zdm,Zjp,ht,show¬0=N by have:=h.pos;omega])) ?_
  rintro⟨k,hk⟩
  simp only[Zdm]
  by_cases hlt:k<N
  ·have hw:IntKind.i64.wrap ((k:Int)+1)=((k+1:Nat):Int):=Zx (by omega)
   have hkf:¬(k:Int)=fuel:=by omega
   have hkN:¬k=N:=by omega
   obtain⟨i,n,g1,g2,g3⟩:=h.st k hlt
   have hG:=step_gc code (M k) 0 ((k+1:Nat):Int) i n g1 h.cl g2 (h.len k hk) (h.reg k hk) (h.pc k hk)
   rw[g3]at hG
   repeat'(first|(first|refine Stp.h ?_|(refine Za.gc hG ?_ ?_;focus simp[Zb,Z5];done))<;>try simp only[Zc,simprocAttr,↓reduceIte,reduceCtorEq,implies_true,Z5,hw,hkf,hkN,z0,t0,decide_false]|(with_reducible first|assumption|refine And.intro ?_ ?_)|(intro h;first|omega|exact tg h ‹_›|exact tg ‹_› h|skip))
   all_goals first|omega|exact⟨⟨k+1,hlt⟩,(Ent.mk1 (id) (by simp[Zt,Z5])),by simp only;omega⟩|skip
  ·have hk2:k=N:=by omega
   subst hk2
   have hw0:¬hw=0:=by rcases h.how with e|e<;>omega
   have hlN:=h.len k hk
   repeat'(first|(first|refine Stp.h ?_)<;>try simp only[Zc,simprocAttr,↓reduceIte,reduceCtorEq,implies_true,Z5,hw0,z0,t0,decide_false]|(with_reducible first|assumption|refine And.intro ?_ ?_)|(intro h;first|omega|exact tg h ‹_›|exact tg ‹_› h|skip))
   all_goals first|omega|skip
   refine T.loop (ι:= {t:Nat//t≤65536∧trimN (M k).mem t=trimN (M k).mem 65536}) (fun y=>trimS code M k hw y.1) (fun y=>y.1) ⟨65536,Nat.le_refl _,rfl⟩ (Ent.mk1 id (by simp[Zt,Z5,trimS,hlN])) ?_
   rintro⟨t,ht1,ht2⟩
   simp only[trimS]
   obtain⟨t,rfl⟩:∃q,t=q+1:=⟨t-1,by
    rcases t with _|t
    ·have e:trimN (M k).mem 0=0:=rfl
     omega
    ·omega⟩
   have hw1:IntKind.i64.wrap (((t+1:Nat):Int)-1)=(t:Int):=by rw[Zk (by omega) (by omega)];omega
   have hp:(0:Int)<((t+1:Nat):Int):=by omega
   have htn:((t:Nat):Int).toNat=t:=by omega
   have htl:(t:Int)<(M k).mem.length:=by omega
   have htl2:t<(M k).mem.length:=by omega
   have d0:(Kd.int .i64).dflt=(0:Int):=rfl
   by_cases hz:(M k).mem.getD t 0=0
   ·have ht3:trimN (M k).mem t=trimN (M k).mem 65536:=by rw[←ht2,trimN,if_pos hz]
    repeat'(first|(first|refine Stp.h ?_)<;>try simp only[Zc,simprocAttr,↓reduceIte,reduceCtorEq,implies_true,Z5,hw1,hp,htn,htl,htl2,d0,hz,z0,t0,decide_true,Int.ofNat_lt]|(with_reducible first|assumption|refine And.intro ?_ ?_)|(intro h;first|omega|exact tg h ‹_›|exact tg ‹_› h|skip))
    all_goals first|omega|exact⟨⟨t,by omega,ht3⟩,(Ent.mk1 (id) (by simp[Zt,Z5])),by simp only;omega⟩|skip
   ·have ht3:t+1=trimN (M k).mem 65536:=by rw[←ht2,trimN,if_neg hz]
    have hC2:=Dp ((M k).mem.take (t+1)) (by rw[List.length_take];omega) (by rw[List.length_take];omega)
    rw[←ht3]
    have htn2:(((t+1:Nat)):Int).toNat=t+1:=by omega
    have hle:0≤((t+1:Nat):Int):=by omega
    have hle2:t+1≤(M k).mem.length:=by omega
    have tz:(0:Int).toNat=0:=rfl
    have zd:z14.drop 14=[]:=rfl
    repeat'(first|(first|refine Stp.h ?_|(refine Za.gc hC2 ?_ ?_;focus simp[Zb,Z5,hle2];done))<;>try simp only[Zc,simprocAttr,↓reduceIte,reduceCtorEq,implies_true,Z5,tz,zd,hw1,hp,htn,htn2,htl,htl2,hle,hle2,d0,hz,z0,t0,decide_true,decide_false,Int.ofNat_lt,Hq]|(with_reducible first|assumption|refine And.intro ?_ ?_)|(intro h;first|omega|exact tg h ‹_›|exact tg ‹_› h|skip))
    all_goals first|omega|skip
theorem Run_gc(code:List Int)(M:Nat→Ma)(N:Nat)(hw:Int)(h:Trace code M N hw)(ht:(M 0).trap=0)(hm:∀j,j<65536→wd ((M 0).mem.getD j 0))(fuel:Int)(hfu:(N:Int)≤fuel∧fuel≤1000000)(h0:0<trimN (M N).mem 65536):
 GC Tryz.prog 46 [.a (.ref 0),.agg (mcs (M 0).f [.bool (M 0).x.c,.bool (M 0).x.z,.bool (M 0).x.n,.bool (M 0).x.v,.int .i64 (M 0).pc,.ref 1]),.a (.raw (.slice none 0 0)),.a (.int .i64 fuel)]
  [(0,.row 3 (.int .i64) code),(1,.ro (.int .i64) (M 0).mem)] 2 [] (.tup [.agg (Hq hw (M N).trap N (M N).f (M N).x (M N).pc),.a (.int .i64 0)]) [(2,.row 3 (.int .i64) ((M N).mem.take (trimN (M N).mem 65536)))] 3:=by
 have hW:=Zhl code M N hw h ht hm fuel hfu h0
 have z0:∀l:List At,l.drop 0=l:=fun l=>rfl
 have t0:∀l:List At,l.take 0=[]:=fun l=>rfl
 refine Gp.fn.gc (by simp) (by simp[Zu,Zw,Zv,Zj,Zf,Vc.S1.okN,At.okN,SV.okN,Res.okN,Res.outOk,Zo,Res.own,Value.oneCell',X0,Hq]) fun w X fr=> ?_
 unfold Hq at*
 repeat'(first|(first|refine Stp.h ?_|(refine Za.gc hW ?_ ?_;focus simp[Zb,Z5];done))<;>try simp only[Zc,simprocAttr,↓reduceIte,reduceCtorEq,implies_true,Z5,z0,t0,List.cons_append,List.nil_append]|(with_reducible first|assumption|refine And.intro ?_ ?_)|(intro h;first|omega|exact tg h ‹_›|exact tg ‹_› h|skip))
end Go.Proofs.YtddmlennnmpnhaaGreatDoor
namespace Go.Proofs.YtddmlennnmpnhaaGreatDoor
open Go Vc
set_option linter.unusedVariables false
set_option linter.unusedSimpArgs false
structure Pu where
 f:Nat→Int
 x:Fl
 mem:List Int
def mk(s:Pu)(pc tr:Int):Ma:=⟨s.f,s.x,pc,s.mem,tr⟩
def szI(i:Ins):Int:=if Ui i.op=true then 2 else 1
def Z1:List Ins→Int
 | []=>0
 |i::r=>szI i+Z1 r
theorem Dg(i:Ins):szI i=1∨szI i=2:=by unfold szI;split<;>simp
theorem Ym(l:List Ins):0≤Z1 l:=by
 induction l with
 |nil=>simp[Z1]
 |cons i l ih=>have:=Dg i;simp only[Z1];omega
def atB(code:List Int):Int→List Ins→Bool
 |_,[]=>true
 |a,i::r=>decide (Xb code a=(i,szI i))&&(Tu i (szI i)&&atB code (a+szI i) r)
theorem Z6(code:List Int):∀(l r:List Ins) (a:Int),atB code a (l++r)=true→atB code a l=true∧atB code (a+Z1 l) r=true
 | [],r,a,h=>⟨rfl,by simpa[Z1]using h⟩
 |i::l,r,a,h=>by
  simp only[List.cons_append,atB,Bool.and_eq_true]at h ⊢
  obtain⟨h1,h2,h3⟩:=h
  obtain⟨g1,g2⟩:=Z6 code l r _ h3
  exact⟨⟨h1,h2,g1⟩,by simp only[Z1,←Int.add_assoc];exact g2⟩
theorem Qx{code:List Int}{a:Int}{i:Ins}{r:List Ins}(h:atB code a (i::r)=true):Xb code a=(i,szI i)∧Tu i (szI i)=true∧atB code (a+szI i) r=true:=by
 simp only[atB,Bool.and_eq_true,decide_eq_true_eq]at h
 exact h
structure PuOk (s:Pu):Prop where
 len:s.mem.length=65536
 reg:∀i,i<8→wd (s.f i)
 mem:∀j,wd (s.mem.getD j 0)
theorem P2(x:Int):wd (x%65536):=by
 have h1:=Int.emod_nonneg x (show(65536:Int)≠0 by decide)
 have h2:=Int.emod_lt_of_pos x (show(0:Int)<65536 by decide)
 unfold wd;omega
theorem P4{f:Nat→Int}(h:∀i,i<8→wd (f i)){o:Nat}{v:Int}(hv:wd v):∀i,i<8→wd (Q9 f o v i):=by
 intro i hi;unfold Q9;split
 ·exact hv
 ·exact h i hi
theorem Dk{l:List Int}(h:∀j,wd (l.getD j 0)){o:Nat}{v:Int}(hv:wd v):∀j,wd ((l.set o v).getD j 0):=by
 intro j
 rw[List.getD_eq_getElem?_getD,List.getElem?_set]
 split
 ·split
  ·exact hv
  ·exact⟨by decide,by decide⟩
 ·rw[←List.getD_eq_getElem?_getD];exact h j
theorem Dl(a b:Int)(c:Bool):wd (T9 a b c):=Zje a b c
theorem P3(op a b:Int)(x:Fl):wd (twoR op a b x):=by
 unfold twoR Sk
 repeat' split
 all_goals first|exact Dl _ _ _|exact P2 _
theorem Qn(op a:Int)(c:Bool)(ha:wd a):wd (shR op a c):=by
 unfold shR wd cI at*
 repeat' split
 all_goals omega
def exP(i:Ins)(s:Pu):Pu:=⟨(Xg i 0 (mk s 0 0)).f,(Xg i 0 (mk s 0 0)).x,(Xg i 0 (mk s 0 0)).mem⟩
def exL(l:List Ins)(s:Pu):Pu:=l.foldl (fun s i=>exP i s) s
def Ob(i:Ins):Bool:=[1,2,3,4,12,13,5,6,7,8,10,11,14,15,16,17,18,28].contains i.op
theorem Em{i:Ins}{n:Int}(h:Tu i n=true):i.d.toNat<8∧i.s.toNat<8∧wd i.imm∧(n=1∨n=2):=by
 simp only[Tu,Bool.and_eq_true,decide_eq_true_eq]at h
 obtain⟨_,h1,h2,h3,h4⟩:=h
 exact⟨by omega,by omega,h4,h1⟩
structure OkM (m:Ma):Prop where
 len:m.mem.length=65536
 reg:∀i,i<8→wd (m.f i)
 mem:∀j,wd (m.mem.getD j 0)
theorem Hg{c:Prop}[Decidable c]{a b:Ma}(ha:OkM a)(hb:OkM b):OkM (if c then a else b):=by split<;>assumption
theorem Zh8{i:Ins}{n nx:Int}(hi:Tu i n=true){m:Ma}(h:OkM m):OkM (Xg i nx m):=by
 obtain⟨hd,hs,him,_⟩:=Em hi
 have hp:∀v,(m.mem.set v (nx%65536)).length=65536:=fun v=>by rw[List.length_set];exact h.len
 unfold Xg
 refine Hg ⟨h.len,P4 h.reg (h.reg _ hs),h.mem⟩ ?_
 refine Hg ⟨h.len,P4 h.reg him,h.mem⟩ ?_
 refine Hg ⟨h.len,P4 h.reg (h.mem _),h.mem⟩ ?_
 refine Hg ⟨by rw[List.length_set];exact h.len,h.reg,Dk h.mem (P2 _)⟩ ?_
 refine Hg ⟨h.len,h.reg,h.mem⟩ ?_
 refine Hg ⟨h.len,P4 h.reg (P3 _ _ _ _),h.mem⟩ ?_
 refine Hg ⟨h.len,P4 h.reg (Qn _ _ _ (h.reg _ hd)),h.mem⟩ ?_
 refine Hg ⟨h.len,h.reg,h.mem⟩ ?_
 refine Hg ⟨by rw[List.length_set];exact h.len,P4 h.reg (P2 _),Dk h.mem (P2 _)⟩ ?_
 refine Hg ⟨h.len,P4 h.reg (P2 _),h.mem⟩ ?_
 exact Hg ⟨by rw[List.length_set];exact h.len,P4 h.reg (P2 _),Dk h.mem (P2 _)⟩ h
theorem exP_ok{i:Ins}{n:Int}(hi:Tu i n=true){s:Pu}(h:PuOk s):PuOk (exP i s):=by
 obtain⟨h1,h2,h3⟩:=Zh8 (nx:=0) (m:=mk s 0 0) hi ⟨h.len,h.reg,h.mem⟩
 exact⟨h1,h2,h3⟩
def nextS(code:List Int)(m:Ma):Ma:=(stepS (Xb code m.pc).1 (Xb code m.pc).2 m).2
structure Good (code:List Int) (m:Ma):Prop where
 ins:Tu (Xb code m.pc).1 (Xb code m.pc).2=true
 len:m.mem.length=65536
 reg:∀i,i<8→wd (m.f i)
 pc:wd m.pc
def Ts(code:List Int):Nat→Ma→Ma→Prop
 |0,m,m'=>m=m'
 |k+1,m,m'=>(Good code m∧(stepS (Xb code m.pc).1 (Xb code m.pc).2 m).1=0)∧Ts code k (nextS code m) m'
theorem Ts.trans{code:List Int}:∀ {j k:Nat} {a b c:Ma},Ts code j a b→Ts code k b c→Ts code (j+k) a c
 |0,k,a,b,c,h1,h2=>by
  have e:a=b:=h1
  subst e;rw[Nat.zero_add];exact h2
 |j+1,k,a,b,c,h1,h2=>by
  rw[show j+1+k=(j+k)+1 by omega]
  exact⟨h1.1,Ts.trans h1.2 h2⟩
def cns(a:Ma)(M:Nat→Ma):Nat→Ma
 |0=>a
 |j+1=>M j
theorem Ts.trace{code:List Int}{k:Nat}{m0 m1 m2:Ma}{hw:Int}(hc:code.length≤65536)(h:Ts code k m0 m1)(g:Good code m1)(hs:stepS (Xb code m1.pc).1 (Xb code m1.pc).2 m1=(hw,m2))(hhw:hw=1∨hw=2)
 (h2:m2.mem.length=65536∧(∀i,i<8→wd (m2.f i))∧wd m2.pc):∃M:Nat→Ma,Trace code M (k+1) hw∧M 0=m0∧M (k+1)=m2:=by
 induction k generalizing m0 with
 |zero=>
  have e:m0=m1:=h
  subst e
  refine⟨cns m0 fun _=>m2,⟨by omega,hhw,hc,?_,?_,?_,?_⟩,rfl,rfl⟩
  ·intro j hj;cases j;exact g.len;exact h2.1
  ·intro j hj;cases j;exact g.reg;exact h2.2.1
  ·intro j hj;cases j;exact g.pc;exact h2.2.2
  ·intro j hj
   obtain rfl:j=0:=by omega
   exact⟨(Xb code m0.pc).1,(Xb code m0.pc).2,rfl,g.ins,hs⟩
 |succ k ih=>
  obtain⟨⟨g0,hz⟩,hr⟩:=h
  obtain⟨M,hM,hM0,hMk⟩:=ih hr
  refine⟨cns m0 M,⟨by omega,hhw,hc,?_,?_,?_,?_⟩,rfl,hMk⟩
  ·intro j hj
   cases j with
   |zero=>exact g0.len
   |succ j=>exact hM.len j (by omega)
  ·intro j hj
   cases j with
   |zero=>exact g0.reg
   |succ j=>exact hM.reg j (by omega)
  ·intro j hj
   cases j with
   |zero=>exact g0.pc
   |succ j=>exact hM.pc j (by omega)
  ·intro j hj
   cases j with
   |zero=>
    refine⟨(Xb code m0.pc).1,(Xb code m0.pc).2,rfl,g0.ins,?_⟩
    have e:(if 0+1=k+1+1 then hw else 0)=(0:Int):=if_neg (by omega)
    rw[e]
    show _=(0,M 0)
    rw[hM0]
    exact Prod.ext hz rfl
   |succ j=>
    obtain⟨i,n,e1,e2,e3⟩:=hM.st j (by omega)
    refine⟨i,n,e1,e2,?_⟩
    show stepS i n (M j)=(_,M (j+1))
    rw[e3]
    by_cases hjk:j+1=k+1
    ·rw[if_pos hjk,if_pos (by omega)]
    ·rw[if_neg hjk,if_neg (by omega)]
theorem Zjc{code:List Int}{i:Ins}{pc tr:Int}{s:Pu}(h1:Xb code pc=(i,szI i))(h2:Tu i (szI i)=true)(hst:Ob i=true)(hs:PuOk s)(hp:0≤pc∧pc+szI i≤65535):Ts code 1 (mk s pc tr) (mk (exP i s) (pc+szI i) tr):=by
 have hsz:=Dg i
 have hop:i.op≠0∧i.op≠32:=by
  simp[Ob]at hst
  omega
 have key:stepS i (szI i) (mk s pc tr)=(0,mk (exP i s) (pc+szI i) tr):=by
  unfold stepS
  rw[if_neg hop.1,if_neg hop.2]
  have e:(pc+szI i)%65536=pc+szI i:=by omega
  have e2:∀x:Int,(x%65536)%65536=x%65536:=fun x=>by omega
  simp[Ob]at hst
  rcases hst with h|h|h|h|h|h|h|h|h|h|h|h|h|h|h|h|h|h<;>simp[Xg,exP,mk,h,e]
 refine⟨⟨⟨?_,hs.len,hs.reg,?_⟩,?_⟩,?_⟩
 ·show Tu (Xb code pc).1 (Xb code pc).2=true
  rw[h1];exact h2
 ·show wd pc;unfold wd;omega
 ·show(stepS (Xb code pc).1 (Xb code pc).2 _).1=0
  rw[h1];exact congrArg Prod.fst key
 ·show nextS code (mk s pc tr)=_
  show(stepS (Xb code pc).1 (Xb code pc).2 _).2=_
  rw[h1];exact congrArg Prod.snd key
theorem Xv{code:List Int}{tr:Int}:∀(l:List Ins) (pc:Int) (s:Pu),atB code pc l=true→l.all Ob=true→PuOk s→0≤pc→pc+Z1 l≤65535→
 Ts code l.length (mk s pc tr) (mk (exL l s) (pc+Z1 l) tr)∧PuOk (exL l s)
 | [],pc,s,_,_,hs,_,_=>⟨by simp[Ts,exL,Z1],hs⟩
 |i::l,pc,s,h,hst,hs,hp,hq=>by
  obtain⟨h1,h2,h3⟩:=Qx h
  simp only[List.all_cons,Bool.and_eq_true]at hst
  have hz:=Dg i
  have hnn:=Ym l
  simp only[Z1]at hq
  have r1:=Zjc (tr:=tr) h1 h2 hst.1 hs ⟨hp,by omega⟩
  obtain⟨r2,r3⟩:=Xv (tr:=tr) l (pc+szI i) (exP i s) h3 hst.2 (exP_ok h2 hs) (by omega) (by omega)
  refine⟨?_,r3⟩
  have:=r1.trans r2
  rw[Nat.add_comm]at this
  simp only[Z1,List.length_cons]
  rw[←Int.add_assoc]
  exact this
def W9(op:Int)(x:Fl):Bool:=if op=20 then x.z else if op=21 then !x.z else if op=22 then x.c else if op=23 then !x.c else true
theorem Uv{code:List Int}{op imm pc tr:Int}{s:Pu}(hop:op=19∨op=20∨op=21∨op=22∨op=23)(h:atB code pc [⟨op,0,0,imm⟩]=true)(hs:PuOk s)(hp:0≤pc∧pc+2≤65535):Ts code 1 (mk s pc tr) (mk s (if W9 op s.x=true then imm else pc+2) tr):=by
 obtain⟨h1,h2,_⟩:=Qx h
 have hsz:szI ⟨op,0,0,imm⟩=2:=by rcases hop with rfl|rfl|rfl|rfl|rfl<;>rfl
 rw[hsz]at h1 h2
 have him:=(Em h2).2.2.1
 have key:stepS ⟨op,0,0,imm⟩ 2 (mk s pc tr)=(0,mk s (if W9 op s.x=true then imm else pc+2) tr):=by
  have e:(pc+2)%65536=pc+2:=by omega
  have e2:imm%65536=imm:=by unfold wd at him;simp only at him;omega
  obtain⟨f,⟨xc,xz,xn,xv⟩,mem⟩:=s
  unfold stepS W9
  rcases hop with rfl|rfl|rfl|rfl|rfl<;>cases xc<;>cases xz<;>simp[Xg,mk,e,e2]
 refine⟨⟨⟨?_,hs.len,hs.reg,?_⟩,?_⟩,?_⟩
 ·show Tu (Xb code pc).1 (Xb code pc).2=true
  rw[h1];exact h2
 ·show wd pc;unfold wd;omega
 ·show(stepS (Xb code pc).1 (Xb code pc).2 _).1=0
  rw[h1];exact congrArg Prod.fst key
 ·show(stepS (Xb code pc).1 (Xb code pc).2 _).2=_
  rw[h1];exact congrArg Prod.snd key
end Go.Proofs.YtddmlennnmpnhaaGreatDoor
