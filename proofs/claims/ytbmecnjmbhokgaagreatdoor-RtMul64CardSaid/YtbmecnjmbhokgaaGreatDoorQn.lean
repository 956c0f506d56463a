/- A part of the proofs of this seat's laws: steps on the way, joined. It has no conditions of its own. -/
import Derived.Test.YtbmecnjmbhokgaaGreatDoorQm
import Derived.Test.YtbmecnjmbhokgaaGreatDoorQh
import Derived.Test.YtbmecnjmbhokgaaGreatDoorChecked
import Derived.KernelRfl
import Derived.Test.YtbmecnjmbhokgaaGreatDoorQi
import Derived.Lib.Builder
import Derived.Lib.UnsafeStr
import Derived.Lib.Walk
import Derived.WalkKit
import Derived.Laws.Externs
import Derived.Shelf.Strings.Builder1
import Derived.Shelf.Strings.Builder2
import Derived.Shelf.Strings.Trim
import Derived.Shelf.Small.Utf8
import Derived.Shelf.Small.Strs
import Derived.Shelf.Small.Wraps
import Derived.Shelf.Strconv.Atoi
import Derived.Shelf.Strconv.Itoa0
import Derived.Shelf.Strconv.Itoa1
import Derived.Shelf.LaysM
import Derived.Shelf.Strconv.Itoa2
import Derived.Shelf.Strconv.Itoa3
import Derived.Shelf.Strings.Search1
import Derived.Shelf.Strings.Search2
import Derived.Shelf.Strings.Search3
import Derived.Shelf.Strings.Cut
import Derived.Shelf.Strings.Count
import Derived.Shelf.Strings.Shaped
import Derived.Shelf.Sort.Plain
import Derived.Shelf.Strings.Prefix
import Derived.Shelf.Strings.Split
import Derived.Shelf.Strings.Replace
import Derived.Shelf.Strings.Runes
import Derived.Shelf.Strings.AsciiSet
import Derived.Shelf.Unicode.DecodeSlow
import Derived.Shelf.Slices.In.SortNone
import Derived.Test.YtbmecnjmbhokgaaGreatDoorProg
import Derived.Lib.AppendIntMem
namespace Go.Proofs.YtbmecnjmbhokgaaGreatDoor
open Go Go.RowKit Vc
set_option linter.unusedVariables false
set_option linter.unusedSimpArgs false
attribute [local irreducible] T Za Zn Ent RdC RwC Ye Zf Zh
theorem Vz(b neg:Bool)(l:List Int):GC Tryz.prog 32 [.a (.loc 0 0),.a (.bool neg),.a (.ref 1)] [(0,.cells 33 [.bool b,.raw (.slice none 0 0)]),(1,.row 87 (.int .u32) l)] 2 [0,1] (.one (.a (.loc 0 0)))
 [(0,.cells 33 [.bool (neg&&decide (0<l.length)),.ref 1]),(1,.row 87 (.int .u32) l)] 2:=by
 refine Wf.fn.gc (by simp) (by simp[Zu,Zw,Zv,Zj,Ze,Vc.S1.okN,At.okN,SV.okN,Res.okN,Res.outOk,Zo,Res.own,Value.oneCell']) fun w X fr=> ?_
 have e:decide ((0:Int)<(l.length:Int))=decide (0<l.length):=by simp
 cases neg
 ·repeat'(first|(first|refine Stp.h ?_)<;>try simp only[Zc,simprocAttr,↓reduceIte,reduceCtorEq,implies_true,Bool.false_and]|(with_reducible first|assumption|refine And.intro ?_ ?_)|(intro h;first|omega|exact tg h ‹_›|exact tg ‹_› h|skip))
 ·repeat'(first|(first|refine Stp.h ?_)<;>try simp only[Zc,simprocAttr,↓reduceIte,reduceCtorEq,implies_true,e,Bool.true_and]|(with_reducible first|assumption|refine And.intro ?_ ?_)|(intro h;first|omega|exact tg h ‹_›|exact tg ‹_› h|skip))
theorem I4(b neg:Bool)(l o:List Int):GC Tryz.prog 32 [.a (.loc 0 0),.a (.bool neg),.a (.ref 1)] [(0,.cells 33 [.bool b,.ref 2]),(1,.row 87 (.int .u32) l),(2,.row 87 (.int .u32) o)] 3 [0,1] (.one (.a (.loc 0 0)))
 [(0,.cells 33 [.bool (neg&&decide (0<l.length)),.ref 1]),(1,.row 87 (.int .u32) l)] 3:=by
 refine Wf.fn.gc (by simp) (by simp[Zu,Zw,Zv,Zj,Ze,Vc.S1.okN,At.okN,SV.okN,Res.okN,Res.outOk,Zo,Res.own,Value.oneCell']) fun w X fr=> ?_
 have e:decide ((0:Int)<(l.length:Int))=decide (0<l.length):=by simp
 cases neg
 ·repeat'(first|(first|refine Stp.h ?_)<;>try simp only[Zc,simprocAttr,↓reduceIte,reduceCtorEq,implies_true,Bool.false_and]|(with_reducible first|assumption|refine And.intro ?_ ?_)|(intro h;first|omega|exact tg h ‹_›|exact tg ‹_› h|skip))
 ·repeat'(first|(first|refine Stp.h ?_)<;>try simp only[Zc,simprocAttr,↓reduceIte,reduceCtorEq,implies_true,e,Bool.true_and]|(with_reducible first|assumption|refine And.intro ?_ ?_)|(intro h;first|omega|exact tg h ‹_›|exact tg ‹_› h|skip))
theorem Fy(b:Bool)(x:Nat)(hx:x<18446744073709551616):GC Tryz.prog 45 [.a (.loc 0 0),.a (.int .u64 (x:Int))] [(0,.cells 33 [.bool b,.raw (.slice none 0 0)])] 1 [0] (.one (.a (.loc 0 0)))
 [(0,.cells 33 [.bool false,.ref 1]),(1,.row 87 (.int .u32) (wds x))] 2:=by
 have hW:=Lp x hx
 have hG:=Vz b false (wds x)
 simp only[Bool.false_and]at hG
 refine Wp.fn.gc (by simp) (by simp[Zu,Zw,Zv,Zj,Ze,Vc.S1.okN,At.okN,SV.okN,Res.okN,Res.outOk,Zo,Res.own,Value.oneCell']) fun w X fr=> ?_
 repeat'(first|(first|refine Stp.h ?_|(refine Za.gc hW ?_ ?_;focus simp[Zb];done)|(refine Za.gc hG ?_ ?_;focus simp[Zb];done))<;>try simp only[Zc,simprocAttr,↓reduceIte,reduceCtorEq,implies_true]|(with_reducible first|assumption|refine And.intro ?_ ?_)|(intro h;first|omega|exact tg h ‹_›|exact tg ‹_› h|skip))
theorem Qu(x:Nat)(hx:x<18446744073709551616):GC Tryz.prog 30 [.a (.int .u64 (x:Int))] [] 0 [] (.one (.a (.loc 0 0)))
 [(0,.cells 33 [.bool false,.ref 1]),(1,.row 87 (.int .u32) (wds x))] 2:=by
 have hS:=Fy false x hx
 refine U9.fn.gc (by simp) (by simp[Zu,Zw,Zv,Zj,Ze,Vc.S1.okN,At.okN,SV.okN,Res.okN,Res.outOk,Zo,Res.own,Value.oneCell']) fun w X fr=> ?_
 repeat'(first|(first|refine Stp.h ?_|(refine Za.gc hS ?_ ?_;focus simp[Zb];done))<;>try simp only[Zc,simprocAttr,↓reduceIte,reduceCtorEq,implies_true]|(with_reducible first|assumption|refine And.intro ?_ ?_)|(intro h;first|omega|exact tg h ‹_›|exact tg ‹_› h|skip))
theorem Gj(x:Nat)(hx:x<9223372036854775808):GC Tryz.prog 47 [.a (.int .i64 (x:Int))] [] 0 [] (.one (.a (.loc 0 0)))
 [(0,.cells 33 [.bool false,.ref 1]),(1,.row 87 (.int .u32) (wds x))] 2:=by
 have hW:=Lp x (by omega)
 have hG:=Vz false false (wds x)
 simp only[Bool.false_and]at hG
 have w1:IntKind.u64.wrap (x:Int)=x:=by rw[IntWalk.u64_in _ (by omega)]
 have x0:¬(x:Int)<0:=by omega
 have hS:GC Tryz.prog 25 [.a (.loc 0 0),.a (.int .i64 (x:Int))] [(0,.cells 33 [.bool false,.raw (.slice none 0 0)])] 1 [0] (.one (.a (.loc 0 0)))
  [(0,.cells 33 [.bool false,.ref 1]),(1,.row 87 (.int .u32) (wds x))] 2:=by
  refine W1.fn.gc (by simp) (by simp[Zu,Zw,Zv,Zj,Ze,Vc.S1.okN,At.okN,SV.okN,Res.okN,Res.outOk,Zo,Res.own,Value.oneCell']) fun w X fr=> ?_
  repeat'(first|(first|refine Stp.h ?_|(refine Za.gc hW ?_ ?_;focus simp[Zb];done)|(refine Za.gc hG ?_ ?_;focus simp[Zb];done))<;>try simp only[Zc,simprocAttr,↓reduceIte,reduceCtorEq,implies_true,w1,x0,decide_false]|(with_reducible first|assumption|refine And.intro ?_ ?_)|(intro h;first|omega|exact tg h ‹_›|exact tg ‹_› h|skip))
 refine U5.fn.gc (by simp) (by simp[Zu,Zw,Zv,Zj,Ze,Vc.S1.okN,At.okN,SV.okN,Res.okN,Res.outOk,Zo,Res.own,Value.oneCell']) fun w X fr=> ?_
 repeat'(first|(first|refine Stp.h ?_|(refine Za.gc hS ?_ ?_;focus simp[Zb];done))<;>try simp only[Zc,simprocAttr,↓reduceIte,reduceCtorEq,implies_true]|(with_reducible first|assumption|refine And.intro ?_ ?_)|(intro h;first|omega|exact tg h ‹_›|exact tg ‹_› h|skip))
theorem Fz(b n:Bool)(l:List Int)(hl:l.length≤1000)(hn:n=(n&&decide (0<l.length))):GC Tryz.prog 57 [.a (.loc 0 0),.a (.loc 1 0)] [(0,.cells 33 [.bool b,.raw (.slice none 0 0)]),(1,.rocells [.bool n,.ref 2]),(2,.ro (.int .u32) l)] 3 [0] (.one (.a (.loc 0 0)))
 [(0,.cells 33 [.bool n,.ref 3]),(3,.row 87 (.int .u32) l)] 4:=by
 have hT:=Ze0 l hl
 have hG:=Vz b n l
 rw[←hn]at hG
 refine Uj.fn.gc (by simp) (by simp[Zu,Zw,Zv,Zj,Ze,Vc.S1.okN,At.okN,SV.okN,Res.okN,Res.outOk,Zo,Res.own,Value.oneCell']) fun w X fr=> ?_
 repeat'(first|(first|refine Stp.h ?_|(refine Za.gc hT ?_ ?_;focus simp[Zb];done)|(refine Za.gc hG ?_ ?_;focus simp[Zb];done))<;>try simp only[Zc,simprocAttr,↓reduceIte,reduceCtorEq,implies_true]|(with_reducible first|assumption|refine And.intro ?_ ?_)|(intro h;first|omega|exact tg h ‹_›|exact tg ‹_› h|skip))
theorem Pk(x:Nat)(hx:x<18446744073709551616)(n:Bool):GC Tryz.prog 39 [.a (.loc 0 0)] [(0,.rocells [.bool n,.ref 1]),(1,.ro (.int .u32) (wds x))] 2 [] (.one (.a (.int .u64 (x:Int)))) [] 2:=by
 refine Vq.fn.gc (by simp) (by simp[Zu,Zw,Zv,Zj,Ze,Vc.S1.okN,At.okN,SV.okN,Res.okN,Res.outOk,Zo,Res.own,Value.oneCell']) fun w X fr=> ?_
 have d0:(Kd.int .u32).dflt=(0:Int):=rfl
 have c1:((1:Nat):Int)=1:=rfl
 have c0:((0:Nat):Int)=0:=rfl
 have c2:((2:Nat):Int)=2:=rfl
 rcases wds_cases x hx with⟨rfl,e⟩|⟨h0,h1,e⟩|⟨h1,e⟩<;>rw[e]
 ·repeat'(first|(first|refine Stp.h ?_)<;>try simp only[Zc,simprocAttr,↓reduceIte,reduceCtorEq,implies_true,List.length_nil,c0]|(with_reducible first|assumption|refine And.intro ?_ ?_)|(intro h;first|omega|exact tg h ‹_›|exact tg ‹_› h|skip))
 ·have w1:IntKind.u64.wrap (x:Int)=x:=by rw[IntWalk.u64_in _ (by omega)]
  repeat'(first|(first|refine Stp.h ?_)<;>try simp only[Zc,simprocAttr,↓reduceIte,reduceCtorEq,implies_true,w1,Int.reduceToNat,List.length_cons,List.length_nil,List.getD_cons_zero,Nat.zero_add,c1,d0]|(with_reducible first|assumption|refine And.intro ?_ ?_)|(intro h;first|omega|exact tg h ‹_›|exact tg ‹_› h|skip))
 ·have hl:((x%4294967296:Nat):Int)<4294967296:=by omega
  have hh:((x/4294967296:Nat):Int)<4294967296:=by omega
  have w1:IntKind.u64.wrap ((x%4294967296:Nat):Int)=((x%4294967296:Nat):Int):=by rw[IntWalk.u64_in _ (by omega)]
  have w2:IntKind.u64.wrap ((x/4294967296:Nat):Int)=((x/4294967296:Nat):Int):=by rw[IntWalk.u64_in _ (by omega)]
  have w3:Rp .u64 ((x/4294967296:Nat):Int) 32=((x/4294967296:Nat):Int)*4294967296:=by
   show IntKind.u64.wrap (((x/4294967296:Nat):Int)*2^32)=_
   rw[IntWalk.u64_in _ (by omega)];rfl
  have w4:=Zen ((x%4294967296:Nat):Int) ((x/4294967296:Nat):Int) ⟨by omega,hl⟩ ⟨by omega,hh⟩
  have w5:((x%4294967296:Nat):Int)+4294967296*((x/4294967296:Nat):Int)=x:=by omega
  rw[w5]at w4
  generalize ((x%4294967296:Nat):Int)=a at*
  generalize ((x/4294967296:Nat):Int)=b at*
  repeat'(first|(first|refine Stp.h ?_)<;>try simp only[Zc,simprocAttr,↓reduceIte,reduceCtorEq,implies_true,w1,w2,w3,w4,Int.reduceToNat,List.length_cons,List.length_nil,List.getD_cons_zero,List.getD_cons_succ,Nat.zero_add,c1,c2,d0]|(with_reducible first|assumption|refine And.intro ?_ ?_)|(intro h;first|omega|exact tg h ‹_›|exact tg ‹_› h|skip))
theorem Zfe(x:Nat)(hx:x<9223372036854775808):GC Tryz.prog 41 [.a (.loc 0 0)] [(0,.rocells [.bool false,.ref 1]),(1,.ro (.int .u32) (wds x))] 2 [] (.one (.a (.int .i64 (x:Int)))) [] 2:=by
 have hU:=Pk x (by omega) false
 have w1:IntKind.i64.wrap (x:Int)=x:=Zk (by omega) (by omega)
 refine Vv.fn.gc (by simp) (by simp[Zu,Zw,Zv,Zj,Ze,Vc.S1.okN,At.okN,SV.okN,Res.okN,Res.outOk,Zo,Res.own,Value.oneCell']) fun w X fr=> ?_
 repeat'(first|(first|refine Stp.h ?_|(refine Za.gc hU ?_ ?_;focus simp[Zb];done))<;>try simp only[Zc,simprocAttr,↓reduceIte,reduceCtorEq,implies_true,w1]|(with_reducible first|assumption|refine And.intro ?_ ?_)|(intro h;first|omega|exact tg h ‹_›|exact tg ‹_› h|skip))
theorem Hi:∀n,nv (List.replicate n 0)=0
 |0=>rfl
 |n+1=>by rw[List.replicate_succ,nv,Hi n];rfl
theorem O1:∀(l:List Int) (k:Nat) (v:Int),k<l.length→nv (l.set k v)=nv l+p32 k*(v-l.getD k 0)
 | [],k,v,h=>by simp at h
 |a::l,0,v,h=>by simp[nv,p32];omega
 |a::l,k+1,v,h=>by
  have ih:=O1 l k v (by simpa using h)
  rw[List.set_cons_succ,nv,nv,ih,p32,Int.mul_add,Int.mul_assoc]
  have:(a::l).getD (k+1) 0=l.getD k 0:=rfl
  rw[this];omega
theorem Jv(n:Nat):wOk (List.replicate n 0):=fun j=>by
 rw[List.getD_eq_getElem?_getD,List.getElem?_replicate];split<;>simp[w32]
theorem P3{l:List Int}(h:wOk l){k:Nat}{v:Int}(hv:w32 v):wOk (l.set k v):=fun j=>by
 rw[List.getD_eq_getElem?_getD,List.getElem?_set]
 split
 ·split
  ·exact hv
  ·simp[w32]
 ·rw[←List.getD_eq_getElem?_getD];exact h j
theorem Lb:∀n,p32 n=2^(32*n)
 |0=>rfl
 |n+1=>by rw[p32,Lb n,show 32*(n+1)=32*n+32 by omega,Int.pow_add,Int.mul_comm];rfl
theorem Ml(v:Int)(h:w32 v):orI .u32 0 v=v:=by
 unfold w32 at h
 have e:(BitVec.ofInt 32 0|||BitVec.ofInt 32 v).toNat=v.toNat:=by
  have e0:BitVec.ofInt 32 0=0#32:=rfl
  rw[e0,BitVec.zero_or,BitVec.toNat_ofInt]
  have:((2^32:Nat):Int)=4294967296:=by decide
  rw[this];omega
 show IntKind.u32.wrap ((BitVec.ofInt 32 0|||BitVec.ofInt 32 v).toNat:Nat)=v
 rw[e,IntWalk.u32_in _ (by omega)];omega
set_option maxHeartbeats 4000000 in
theorem Zbu(n:Nat)(hn:n≤64):GC Tryz.prog 55 [.a (.ref 0),.a (.int .u64 (n:Int))] [(0,.ro (.int .u32) [1])] 1 [] (.one (.a (.ref 1))) [(1,.row 87 (.int .u32) (wds (2^n)))] 2:=by
 obtain⟨w,s,hw,hs⟩:∃w s,n=32*w+s∧s<32:=⟨n/32,n%32,by omega,by omega⟩
 have hps:(0:Int)<2^s∧(2:Int)^s<4294967296:=by
  have h1:(2:Nat)^s<2^32:=Nat.pow_lt_pow_right (by decide) hs
  have h2:0<(2:Nat)^s:=Nat.pow_pos (by decide)
  have h3:((2^s:Nat):Int)=(2:Int)^s:=by simp
  omega
 have q1:IntKind.u64.wrap (((n:Nat):Int).tdiv 32)=(w:Int):=by
  rw[Int.tdiv_eq_ediv_of_nonneg (by omega),IntWalk.u64_in _ (by omega)];omega
 have q2:((n:Nat):Int).tmod 32=(s:Int):=by rw[Int.tmod_eq_emod_of_nonneg (by omega)];omega
 have q3:IntKind.i64.wrap (w:Int)=w:=Zk (by omega) (by omega)
 have q4:IntKind.i64.wrap (1+(w:Int))=1+(w:Int):=Zk (by omega) (by omega)
 have q5:IntKind.i64.wrap (1+(w:Int)+1)=(w:Int)+2:=by rw[Zk (by omega) (by omega)];omega
 have q6:((w:Int)+2).toNat=w+2:=by omega
 have q7:(0:Int)≤(w:Int)+2:=by omega
 have q8:(4:Nat)*((w:Int)+2)≤281474976710656:=by omega
 have q9:(w:Int)+2≤4611686018427387904:=by omega
 have d0:(Kd.int .u32).dflt=(0:Int):=rfl
 have c1:((1:Nat):Int)=1:=rfl
 have c2:¬(1:Int)=0:=by decide
 refine Vs.fn.gc (by simp) (by simp[Zu,Zw,Zv,Zj,Ze,Vc.S1.okN,At.okN,SV.okN,Res.okN,Res.outOk,Zo,Res.own,Value.oneCell']) fun w' X fr=> ?_
 repeat'(first|(first|refine Stp.h ?_)<;>try simp only[Zc,simprocAttr,↓reduceIte,reduceCtorEq,implies_true,q1,q2,q3,q4,q5,q6,q7,q8,q9,d0,c1,c2,List.length_cons,List.length_nil,Nat.zero_add,ne_eq,not_false_eq_true]|(with_reducible first|assumption|refine And.intro ?_ ?_)|(intro h;first|omega|exact tg h ‹_›|exact tg ‹_› h|skip))
 all_goals first|omega|skip
 have hL0:(List.replicate (w+2) (0:Int)).length=w+2:=by simp
 have g0:(List.replicate (w+2) (0:Int)).getD w 0=0:=by simp[List.getD]
 have g1:(List.replicate (w+2) (0:Int)).getD (w+1) 0=0:=by simp[List.getD]
 have hvz:nv (List.replicate (w+2) (0:Int))=0:=Hi _
 have hoz:wOk (List.replicate (w+2) (0:Int)):=Jv _
 have hV:(2:Int)^n=p32 w*2^s:=by rw[Lb,hw,Int.pow_add]
 have s1:Rp .u64 1 (s:Int)=2^s:=by
  show IntKind.u64.wrap (1*2^min ((s:Int)).toNat IntKind.u64.bits)=_
  have:min ((s:Int)).toNat IntKind.u64.bits=s:=by show min ((s:Int)).toNat 64=s;omega
  rw[this,Int.one_mul,IntWalk.u64_in _ (by omega)]
 have hN:(2^n:Nat)=((2:Int)^n).toNat:=by
  have:((2^n:Nat):Int)=(2:Int)^n:=by simp
  rw[←this,Int.toNat_natCast]
 generalize (2:Int)^s=V at*
 have s2:IntKind.u32.wrap V=V:=by rw[IntWalk.u32_in _ (by omega)]
 have s3:Pz .u64 V 32=0:=by
  show V/2^32=0
  have:(2:Int)^32=4294967296:=by decide
  rw[this];omega
 have s4:IntKind.u32.wrap 0=0:=rfl
 have o1:=Ml V ⟨by omega,by omega⟩
 have o2:=Ml 0 ⟨by decide,by decide⟩
 have hL1:nv (((List.replicate (w+2) (0:Int)).set w V).set (w+1) 0)=(2:Int)^n∧wOk (((List.replicate (w+2) (0:Int)).set w V).set (w+1) 0)∧(((List.replicate (w+2) (0:Int)).set w V).set (w+1) 0).length=w+2:=by
  have e1:((List.replicate (w+2) (0:Int)).set w V).getD (w+1) 0=0:=by
   rw[List.getD_eq_getElem?_getD,List.getElem?_set_ne (by omega),←List.getD_eq_getElem?_getD,g1]
  refine⟨?_,P3 (P3 hoz ⟨by omega,by omega⟩) ⟨by decide,by decide⟩,by simp⟩
  rw[O1 _ _ _ (by simp),e1,O1 _ _ _ (by simp),g0,hvz,hV]
  simp
 have g2:((List.replicate (w+2) (0:Int)).set w V).getD (w+1) 0=0:=by
  rw[List.getD_eq_getElem?_getD,List.getElem?_set_ne (by omega),←List.getD_eq_getElem?_getD,g1]
 have hL2:((List.replicate (w+2) (0:Int)).set w V).length=w+2:=by simp
 generalize List.replicate (w+2) (0:Int)=L0 at*
 have hT:=P2 ((L0.set w V).set (w+1) 0) hL1.2.1 (by rw[hL1.2.2];omega)
 rw[hL1.1,←hN]at hT
 have i1:IntKind.i64.wrap (0+(w:Int))=w:=by rw[Zk (by omega) (by omega)];omega
 have i2:((w:Nat):Int).toNat=w:=by omega
 have i3:(0:Int)≤w:=by omega
 have i4:(w:Int)<((w+2:Nat):Int):=by omega
 have i5:w<w+2:=by omega
 have i6:IntKind.i64.wrap ((w:Int)+1)=((w+1:Nat):Int):=Zy (by omega)
 have i7:(((w+1:Nat)):Int).toNat=w+1:=by omega
 have i8:(0:Int)≤((w+1:Nat):Int):=by omega
 have i9:((w+1:Nat):Int)<((w+2:Nat):Int):=by omega
 have i10:w+1<w+2:=by omega
 have i11:IntKind.u64.wrap 1=1:=rfl
 have i12:IntKind.i64.wrap 1=1:=rfl
 have c3:¬(1:Int)<1:=by decide
 have c4:(0:Int)<1:=by decide
 have c5:(0:Int)≤0:=by decide
 refine T.loop (ι:= {y:Nat//y≤1}) (fun y=>⟨[(8,.one (.a (.int .i64 (if y.1=0 then 0 else 1)))),(7,.one (.a (.ref 1))),(6,.one (.a (.int .u64 (s:Int)))),(5,.one (.a (.int .i64 (w:Int)))),(0,.one (.a (.ref 0)))],
  [(1,.row 87 (.int .u32) (if y.1=0 then L0 else(L0.set w V).set (w+1) 0)),(0,.ro (.int .u32) [1])],2⟩) (fun y=>1-y.1) ⟨0,by omega⟩ (Ent.mk1 (id) (by simp[Zx])) ?_
 rintro⟨y,hy⟩
 simp only
 by_cases h0:y=0
 ·subst h0
  simp only[↓reduceIte]
  repeat'(first|(first|refine Stp.h ?_)<;>try simp only[Zc,simprocAttr,↓reduceIte,reduceCtorEq,implies_true,hL0,hL2,s1,s2,s3,s4,o1,o2,g0,g2,i1,i2,i3,i4,i5,i6,i7,i8,i9,i10,i11,i12,c1,c4,c5,d0,List.length_cons,List.length_nil,Nat.zero_add,Int.reduceToNat,List.getD_cons_zero,List.length_set]|(with_reducible first|assumption|refine And.intro ?_ ?_)|(intro h;first|omega|exact tg h ‹_›|exact tg ‹_› h|skip))
  all_goals first|omega|exact⟨⟨1,Nat.le_refl _⟩,(Ent.mk1 (id) (by simp[Zx])),by simp only;omega⟩|skip
 ·obtain rfl:y=1:=by omega
  simp only[Nat.reduceEqDiff,↓reduceIte]
  repeat'(first|(first|refine Stp.h ?_|(refine Za.gc hT ?_ ?_;focus simp[Zb];done))<;>try simp only[Zc,simprocAttr,↓reduceIte,reduceCtorEq,implies_true,c1,c3,List.length_cons,List.length_nil,Nat.zero_add]|(with_reducible first|assumption|refine And.intro ?_ ?_)|(intro h;first|omega|exact tg h ‹_›|exact tg ‹_› h|skip))
  all_goals first|omega|skip
theorem Jw:wds 1=[1]:=by rw[Vp (by decide)];rw[show(1:Nat)/4294967296=0 by decide,Yd];rfl
theorem Zfg(n:Nat)(hn:n≤64):GC Tryz.prog 46 [.a (.loc 0 0),.a (.loc 1 0),.a (.int .u64 (n:Int))] [(0,.cells 33 [.bool false,.raw (.slice none 0 0)]),(1,.rocells [.bool false,.ref 2]),(2,.ro (.int .u32) [1])] 3 [0] (.one (.a (.loc 0 0)))
 [(0,.cells 33 [.bool false,.ref 3]),(3,.row 87 (.int .u32) (wds (2^n)))] 4:=by
 have hL:=Zbu n hn
 have hG:=Vz false false (wds (2^n))
 simp only[Bool.false_and]at hG
 refine Uh.fn.gc (by simp) (by simp[Zu,Zw,Zv,Zj,Ze,Vc.S1.okN,At.okN,SV.okN,Res.okN,Res.outOk,Zo,Res.own,Value.oneCell']) fun w X fr=> ?_
 repeat'(first|(first|refine Stp.h ?_|(refine Za.gc hL ?_ ?_;focus simp[Zb];done)|(refine Za.gc hG ?_ ?_;focus simp[Zb];done))<;>try simp only[Zc,simprocAttr,↓reduceIte,reduceCtorEq,implies_true]|(with_reducible first|assumption|refine And.intro ?_ ?_)|(intro h;first|omega|exact tg h ‹_›|exact tg ‹_› h|skip))
theorem Ls(n:Nat)(hn:n≤64):GC Tryz.prog 31 [.a (.int .i64 (n:Int))] [] 0 [] (.one (.a (.loc 0 0)))
 [(0,.cells 33 [.bool false,.ref 1]),(1,.row 87 (.int .u32) (wds (2^n)))] 2:=by
 have hN:=Gj 1 (by decide)
 have hL:=Zfg n hn
 rw[Jw]at hN
 have w1:IntKind.u64.wrap (n:Int)=n:=by rw[IntWalk.u64_in _ (by omega)]
 have c1:((1:Nat):Int)=1:=rfl
 rw[c1]at hN
 refine Sc.fn.gc (by simp) (by simp[Zu,Zw,Zv,Zj,Ze,Vc.S1.okN,At.okN,SV.okN,Res.okN,Res.outOk,Zo,Res.own,Value.oneCell']) fun w X fr=> ?_
 repeat'(first|(first|refine Stp.h ?_|(refine Za.gc hN ?_ ?_;focus simp[Zb];done)|(refine Za.gc hL ?_ ?_;focus simp[Zb];done))<;>try simp only[Zc,simprocAttr,↓reduceIte,reduceCtorEq,implies_true,w1]|(with_reducible first|assumption|refine And.intro ?_ ?_)|(intro h;first|omega|exact tg h ‹_›|exact tg ‹_› h|skip))
theorem Zbe(x y:Nat)(hx:x<18446744073709551616)(hy:y≠0)(hly:(wds y).length≤1000):GC Tryz.prog 35 [.a (.ref 0),.a (.ref 1)] [(0,.ro (.int .u32) (wds x)),(1,.ro (.int .u32) (wds y))] 2 [] (.tup [.a (.ref 2),.a (.ref 3)])
 [(2,.row 87 (.int .u32) (wds (x/y))),(3,.row 87 (.int .u32) (wds (x%y)))] 4:=by
 have hlx:(wds x).length≤2:=We 2 x hx
 have hC:=Jn x y (by omega) hly
 have hT:=Ze0 (wds x) (by omega)
 have hl0:¬((wds y).length:Int)=0:=fun e=>hy (Vg.1 (by omega))
 refine V1.fn.gc (by simp) (by simp[Zu,Zw,Zv,Zj,Ze,Vc.S1.okN,At.okN,SV.okN,Res.okN,Res.outOk,Zo,Res.own,Value.oneCell']) fun w X fr=> ?_
 by_cases hlt:x<y
 ·have hc:cmpI x y= -1:=if_pos hlt
  rw[hc]at hC
  rw[Nat.div_eq_of_lt hlt,Nat.mod_eq_of_lt hlt,Yd]
  have c1:(-1:Int)<0:=by decide
  repeat'(first|(first|refine Stp.h ?_|(refine rq hC ?_ ?_;focus simp[Zz];done)|(refine Za.gc hT ?_ ?_;focus simp[Zb];done))<;>try simp only[Zc,simprocAttr,↓reduceIte,reduceCtorEq,implies_true,hl0,c1,decide_true,decide_false]|(with_reducible first|assumption|refine And.intro ?_ ?_)|(intro h;first|omega|exact tg h ‹_›|exact tg ‹_› h|skip))
  all_goals first|omega|skip
 ·have hc:¬cmpI x y<0:=by unfold cmpI;rw[if_neg hlt];split<;>decide
  generalize cmpI x y=cv at*
  have hPx:=Fd x hx
  have hPy:=Fd y (by omega)
  have hl2:((wds x).length:Int)≤2:=by omega
  have hq:x/y≤x:=Nat.div_le_self x y
  have hr:x%y<y:=Nat.mod_lt _ (by omega)
  have hW1:=Lp (x/y) (by omega)
  have hW2:=Lp (x%y) (by omega)
  have q1:IntKind.u64.wrap (((x:Nat):Int).tdiv (y:Int))=((x/y:Nat):Int):=by
   have e:(x:Int).tdiv (y:Int)=((x/y:Nat):Int):=rfl
   have key:∀q:Nat,q≤x→IntKind.u64.wrap (q:Int)=q:=fun q hq=>IntWalk.u64_in _ (by omega)
   rw[e];exact key _ hq
  have q2:((x:Nat):Int).tmod (y:Int)=((x%y:Nat):Int):=rfl
  have y0:¬(y:Int)=0:=by omega
  repeat'(first|(first|refine Stp.h ?_|(refine rq hC ?_ ?_;focus simp[Zz];done)|(refine rq hPx ?_ ?_;focus simp[Zz];done)|(refine rq hPy ?_ ?_;focus simp[Zz];done)|(refine Za.gc hW1 ?_ ?_;focus simp[Zb];done)|(refine Za.gc hW2 ?_ ?_;focus simp[Zb];done))<;>try simp only[Zc,simprocAttr,↓reduceIte,reduceCtorEq,implies_true,hl0,hc,hl2,q1,q2,y0,decide_true,decide_false,ne_eq,not_false_eq_true]|(with_reducible first|assumption|refine And.intro ?_ ?_)|(intro h;first|omega|exact tg h ‹_›|exact tg ‹_› h|skip))
  all_goals first|omega|skip
theorem Gk(x y:Nat)(hx:x<18446744073709551616)(hy:y≠0)(hly:(wds y).length≤1000)(b c:Bool):GC Tryz.prog 23 [.a (.loc 0 0),.a (.loc 1 0),.a (.loc 3 0),.a (.loc 5 0)]
 [(0,.cells 33 [.bool b,.raw (.slice none 0 0)]),(1,.rocells [.bool false,.ref 2]),(2,.ro (.int .u32) (wds x)),(3,.rocells [.bool false,.ref 4]),(4,.ro (.int .u32) (wds y)),(5,.cells 33 [.bool c,.raw (.slice none 0 0)])] 6 [0,5] (.tup [.a (.loc 0 0),.a (.loc 5 0)])
 [(0,.cells 33 [.bool false,.ref 6]),(6,.row 87 (.int .u32) (wds (x/y))),(5,.cells 33 [.bool false,.ref 7]),(7,.row 87 (.int .u32) (wds (x%y)))] 8:=by
 have hD:=Zbe x y hx hy hly
 have hG:=Vz b false (wds (x/y))
 have hG2:=Vz c false (wds (x%y))
 simp only[Bool.false_and]at hG hG2
 refine Yw.fn.gc (by simp) (by simp[Zu,Zw,Zv,Zj,Ze,Vc.S1.okN,At.okN,SV.okN,Res.okN,Res.outOk,Zo,Res.own,Value.oneCell']) fun w X fr=> ?_
 repeat'(first|(first|refine Stp.h ?_|(refine Za.gc hD ?_ ?_;focus simp[Zb];done)|(refine Za.gc hG ?_ ?_;focus simp[Zb];done)|(refine Za.gc hG2 ?_ ?_;focus simp[Zb];done))<;>try simp only[Zc,simprocAttr,↓reduceIte,reduceCtorEq,implies_true,bne_self_eq_false]|(with_reducible first|assumption|refine And.intro ?_ ?_)|(intro h;first|omega|exact tg h ‹_›|exact tg ‹_› h|skip))
theorem Za4(x y:Nat)(hx:x<18446744073709551616)(hy:y≠0)(hly:(wds y).length≤1000)(c:Bool):GC Tryz.prog 23 [.a (.loc 0 0),.a (.loc 0 0),.a (.loc 3 0),.a (.loc 5 0)]
 [(0,.cells 33 [.bool false,.ref 2]),(2,.row 87 (.int .u32) (wds x)),(3,.rocells [.bool false,.ref 4]),(4,.ro (.int .u32) (wds y)),(5,.cells 33 [.bool c,.raw (.slice none 0 0)])] 6 [0,5] (.tup [.a (.loc 0 0),.a (.loc 5 0)])
 [(0,.cells 33 [.bool false,.ref 6]),(6,.row 87 (.int .u32) (wds (x/y))),(5,.cells 33 [.bool false,.ref 7]),(7,.row 87 (.int .u32) (wds (x%y)))] 8:=by
 have hD:=Zbe x y hx hy hly
 have hG:=I4 false false (wds (x/y)) (wds x)
 have hG2:=Vz c false (wds (x%y))
 simp only[Bool.false_and]at hG hG2
 refine Yw.fn.gc (by simp) (by simp[Zu,Zw,Zv,Zj,Ze,Vc.S1.okN,At.okN,SV.okN,Res.okN,Res.outOk,Zo,Res.own,Value.oneCell']) fun w X fr=> ?_
 repeat'(first|(first|refine Stp.h ?_|(refine Za.gc hD ?_ ?_;focus simp[Zb];done)|(refine Za.gc hG ?_ ?_;focus simp[Zb];done)|(refine Za.gc hG2 ?_ ?_;focus simp[Zb];done))<;>try simp only[Zc,simprocAttr,↓reduceIte,reduceCtorEq,implies_true,bne_self_eq_false]|(with_reducible first|assumption|refine And.intro ?_ ?_)|(intro h;first|omega|exact tg h ‹_›|exact tg ‹_› h|skip))
theorem Zfc(x y:Nat)(hx:x<18446744073709551616)(hy:y≠0)(hly:(wds y).length≤1000)(b c:Bool):GC Tryz.prog 40 [.a (.loc 0 0),.a (.loc 1 0),.a (.loc 3 0),.a (.loc 5 0)]
 [(0,.cells 33 [.bool b,.raw (.slice none 0 0)]),(1,.rocells [.bool false,.ref 2]),(2,.ro (.int .u32) (wds x)),(3,.rocells [.bool false,.ref 4]),(4,.ro (.int .u32) (wds y)),(5,.cells 33 [.bool c,.raw (.slice none 0 0)])] 6 [0,5] (.tup [.a (.loc 0 0),.a (.loc 5 0)])
 [(0,.cells 33 [.bool false,.ref 6]),(6,.row 87 (.int .u32) (wds (x/y))),(5,.cells 33 [.bool false,.ref 7]),(7,.row 87 (.int .u32) (wds (x%y)))] 8:=by
 have hQ:=Gk x y hx hy hly b c
 have hS:=Fz false false (wds y) hly rfl
 refine Yv.fn.gc (by simp) (by simp[Zu,Zw,Zv,Zj,Ze,Vc.S1.okN,At.okN,SV.okN,Res.okN,Res.outOk,Zo,Res.own,Value.oneCell']) fun w X fr=> ?_
 repeat'(first|(first|refine Stp.h ?_|(refine Za.gc hQ ?_ ?_;focus simp[Zb];done)|(refine Za.gc hS ?_ ?_;focus simp[Zb];done))<;>try simp only[Zc,simprocAttr,↓reduceIte,reduceCtorEq,implies_true]|(with_reducible first|assumption|refine And.intro ?_ ?_)|(intro h;first|omega|exact tg h ‹_›|exact tg ‹_› h|skip))
theorem Zaz(x y:Nat)(hx:x<18446744073709551616)(hy:y≠0)(hly:(wds y).length≤1000)(c:Bool):GC Tryz.prog 40 [.a (.loc 0 0),.a (.loc 0 0),.a (.loc 3 0),.a (.loc 5 0)]
 [(0,.cells 33 [.bool false,.ref 2]),(2,.row 87 (.int .u32) (wds x)),(3,.rocells [.bool false,.ref 4]),(4,.ro (.int .u32) (wds y)),(5,.cells 33 [.bool c,.raw (.slice none 0 0)])] 6 [0,5] (.tup [.a (.loc 0 0),.a (.loc 5 0)])
 [(0,.cells 33 [.bool false,.ref 6]),(6,.row 87 (.int .u32) (wds (x/y))),(5,.cells 33 [.bool false,.ref 7]),(7,.row 87 (.int .u32) (wds (x%y)))] 8:=by
 have hQ:=Za4 x y hx hy hly c
 have hS:=Fz false false (wds y) hly rfl
 refine Yv.fn.gc (by simp) (by simp[Zu,Zw,Zv,Zj,Ze,Vc.S1.okN,At.okN,SV.okN,Res.okN,Res.outOk,Zo,Res.own,Value.oneCell']) fun w X fr=> ?_
 repeat'(first|(first|refine Stp.h ?_|(refine Za.gc hQ ?_ ?_;focus simp[Zb];done)|(refine Za.gc hS ?_ ?_;focus simp[Zb];done))<;>try simp only[Zc,simprocAttr,↓reduceIte,reduceCtorEq,implies_true]|(with_reducible first|assumption|refine And.intro ?_ ?_)|(intro h;first|omega|exact tg h ‹_›|exact tg ‹_› h|skip))
theorem Mod_gc(x y:Nat)(hx:x<18446744073709551616)(hy:y≠0)(hly:(wds y).length≤1000)(c:Bool):GC Tryz.prog 38 [.a (.loc 0 0),.a (.loc 1 0),.a (.loc 3 0)]
 [(0,.cells 33 [.bool c,.raw (.slice none 0 0)]),(1,.rocells [.bool false,.ref 2]),(2,.ro (.int .u32) (wds x)),(3,.rocells [.bool false,.ref 4]),(4,.ro (.int .u32) (wds y))] 5 [0] (.one (.a (.loc 0 0)))
 [(0,.cells 33 [.bool false,.ref 5]),(5,.row 87 (.int .u32) (wds (x%y)))] 6:=by
 have hD:=Zfc x y hx hy hly false c
 refine Xk.fn.gc (by simp) (by simp[Zu,Zw,Zv,Zj,Ze,Vc.S1.okN,At.okN,SV.okN,Res.okN,Res.outOk,Zo,Res.own,Value.oneCell']) fun w X fr=> ?_
 repeat'(first|(first|refine Stp.h ?_|(refine Za.gc hD ?_ ?_;focus simp[Zb];done))<;>try simp only[Zc,simprocAttr,↓reduceIte,reduceCtorEq,implies_true]|(with_reducible first|assumption|refine And.intro ?_ ?_)|(intro h;first|omega|exact tg h ‹_›|exact tg ‹_› h|skip))
theorem Og(x w:Nat)(hx:x<18446744073709551616)(hw:w≤64):GC Tryz.prog 26 [.a (.loc 0 0),.a (.int .i64 (w:Int))] [(0,.rocells [.bool false,.ref 1]),(1,.ro (.int .u32) (wds x))] 2 [] (.one (.a (.int .u64 ((x%2^w:Nat):Int)))) [] 2:=by
 have hp:2^w≠0:=Nat.ne_of_gt (Nat.pow_pos (by decide))
 have hl:(wds (2^w)).length≤3:=We 3 _ (by
  have:2^w≤2^64:=Nat.pow_le_pow_right (by decide) hw
  have:(2:Nat)^64<4294967296^3:=by decide
  omega)
 have hT:=Ls w hw
 have hM:=Mod_gc x (2^w) hx hp (by omega) false
 have hle:x%2^w≤x:=Nat.mod_le _ _
 have hU:=Pk (x%2^w) (by omega) false
 refine Wd.fn.gc (by simp) (by simp[Zu,Zw,Zv,Zj,Ze,Vc.S1.okN,At.okN,SV.okN,Res.okN,Res.outOk,Zo,Res.own,Value.oneCell']) fun w X fr=> ?_
 repeat'(first|(first|refine Stp.h ?_|(refine Za.gc hT ?_ ?_;focus simp[Zb];done)|(refine Za.gc hM ?_ ?_;focus simp[Zb];done)|(refine Za.gc hU ?_ ?_;focus simp[Zb];done))<;>try simp only[Zc,simprocAttr,↓reduceIte,reduceCtorEq,implies_true]|(with_reducible first|assumption|refine And.intro ?_ ?_)|(intro h;first|omega|exact tg h ‹_›|exact tg ‹_› h|skip))
theorem Te(w:Nat)(hw:w=16∨w=32∨w=64):GC Tryz.prog 17 [.a (.int .i64 (w:Int))] [] 0 [] (.one (.a (.bool true))) [] 0:=by
 obtain⟨n,hn3,hn,hlt⟩:∃n,n≤3∧[(8:Int),16,32,64].getD n 0=(w:Int)∧∀k,k<n→¬(w:Int)=[(8:Int),16,32,64].getD k 0:=by
  rcases hw with rfl|rfl|rfl
  ·exact⟨1,by decide,rfl,by decide⟩
  ·exact⟨2,by decide,rfl,by decide⟩
  ·exact⟨3,by decide,rfl,by decide⟩
 refine Ta.fn.gc (by simp) (by simp[Zu,Zw,Zv,Zj,Ze,Vc.S1.okN,At.okN,SV.okN,Res.okN,Res.outOk,Zo,Res.own,Value.oneCell']) fun w' X fr=> ?_
 repeat'(first|(first|refine Stp.h ?_)<;>try simp only[Zc,simprocAttr,↓reduceIte,reduceCtorEq,implies_true]|(with_reducible first|assumption|refine And.intro ?_ ?_)|(intro h;first|omega|exact tg h ‹_›|exact tg ‹_› h|skip))
 refine T.weak (Ent.litRow (m:=0) (.int .i64) [8,16,32,64] rfl rfl rfl rfl (by decide)) ?_
 simp only[Zc,simprocAttr,↓reduceIte,reduceCtorEq,implies_true]
 have hL:[(8:Int),16,32,64].length=4:=rfl
 generalize [(8:Int),16,32,64]=L at*
 refine T.loop (ι:= {j:Nat//j≤n})
  (fun x=>⟨[(7,.one (.a (.int .i64 (x.1:Int)))),(6,.one (.a (.int .i64 4))),(5,.one (.a (.ref 0))),(0,.one (.a (.int .i64 (w:Int))))],
    [(0,.row 3 (.int .i64) L)],1⟩) (fun x=>n-x.1) ⟨0,by omega⟩ (Ent.mk1 (id) (by simp[Zx])) ?_
 rintro⟨j,hj⟩
 simp only
 have jl:(j:Int)<4:=by omega
 have j0:(0:Int)≤j:=by omega
 have jt:((j:Nat):Int).toNat=j:=by omega
 have jL:j<4:=by omega
 have d0:(Kd.int .i64).dflt=(0:Int):=rfl
 by_cases hn':j=n
 ·subst hn'
  repeat'(first|(first|refine Stp.h ?_)<;>try simp only[Zc,simprocAttr,↓reduceIte,reduceCtorEq,implies_true,jl,j0,jt,jL,hL,hn,d0,decide_true]|(with_reducible first|assumption|refine And.intro ?_ ?_)|(intro h;first|omega|exact tg h ‹_›|exact tg ‹_› h|skip))
  all_goals first|omega|skip
 ·have hw:IntKind.i64.wrap ((j:Int)+1)=((j+1:Nat):Int):=Zy (by omega)
  have hne:=hlt j (by omega)
  repeat'(first|(first|refine Stp.h ?_)<;>try simp only[Zc,simprocAttr,↓reduceIte,reduceCtorEq,implies_true,jl,j0,jt,jL,hL,hw,hne,d0,decide_false]|(with_reducible first|assumption|refine And.intro ?_ ?_)|(intro h;first|omega|exact tg h ‹_›|exact tg ‹_› h|skip))
  all_goals first|omega|exact⟨⟨j+1,by omega⟩,(Ent.mk1 (id) (by simp[Zx])),by simp only;omega⟩|skip
theorem Zhb(l:List Int)(h:l.length≠0):GC Tryz.prog 22 [.a (.loc 0 0)] [(0,.rocells [.bool false,.ref 1]),(1,.ro (.int .u32) l)] 2 [] (.one (.a (.int .i64 1))) [] 2:=by
 have e:¬(l.length:Int)=0:=by omega
 refine Xi.fn.gc (by simp) (by simp[Zu,Zw,Zv,Zj,Ze,Vc.S1.okN,At.okN,SV.okN,Res.okN,Res.outOk,Zo,Res.own,Value.oneCell']) fun w X fr=> ?_
 repeat'(first|(first|refine Stp.h ?_)<;>try simp only[Zc,simprocAttr,↓reduceIte,reduceCtorEq,implies_true,e,decide_false]|(with_reducible first|assumption|refine And.intro ?_ ?_)|(intro h;first|omega|exact tg h ‹_›|exact tg ‹_› h|skip))
theorem Gl:GC Tryz.prog 22 [.a (.loc 0 0)] [(0,.rocells [.bool false,.ref 1]),(1,.ro (.int .u32) [])] 2 [] (.one (.a (.int .i64 0))) [] 2:=by
 refine Xi.fn.gc (by simp) (by simp[Zu,Zw,Zv,Zj,Ze,Vc.S1.okN,At.okN,SV.okN,Res.okN,Res.outOk,Zo,Res.own,Value.oneCell']) fun w X fr=> ?_
 have c0:((0:Nat):Int)=0:=rfl
 repeat'(first|(first|refine Stp.h ?_)<;>try simp only[Zc,simprocAttr,↓reduceIte,reduceCtorEq,implies_true,List.length_nil,c0,decide_true]|(with_reducible first|assumption|refine And.intro ?_ ?_)|(intro h;first|omega|exact tg h ‹_›|exact tg ‹_› h|skip))
theorem Tq(x w:Nat)(hx:x<18446744073709551616)(hw:w≤64):GC Tryz.prog 18 [.a (.int .u64 (x:Int)),.a (.int .i64 (w:Int)),.a (.bool false)] [] 0 [] (.one (.a (.loc 0 0)))
 [(0,.cells 33 [.bool false,.ref 1]),(1,.row 87 (.int .u32) (wds (x%2^w)))] 2:=by
 have hW:=Qu x hx
 have hF:=Og x w hx hw
 have hle:x%2^w≤x:=Nat.mod_le _ _
 have hW2:=Qu (x%2^w) (by omega)
 refine Wx.fn.gc (by simp) (by simp[Zu,Zw,Zv,Zj,Ze,Vc.S1.okN,At.okN,SV.okN,Res.okN,Res.outOk,Zo,Res.own,Value.oneCell']) fun w X fr=> ?_
 repeat'(first|(first|refine Stp.h ?_|(refine Za.gc hW ?_ ?_;focus simp[Zb];done)|(refine Za.gc hF ?_ ?_;focus simp[Zb];done)|(refine Za.gc hW2 ?_ ?_;focus simp[Zb];done)|refine Zf.split ?_ ?_|refine Zh.no ?_)<;>try simp only[Zc,simprocAttr,↓reduceIte,reduceCtorEq,implies_true]|(with_reducible first|assumption|refine And.intro ?_ ?_)|(intro h;first|omega|exact tg h ‹_›|exact tg ‹_› h|skip))
def wsp(x m:Nat):List Int:=(List.range m).map fun i=>((x/65536^i%65536:Nat):Int)
theorem So(x m:Nat):(wsp x m).length=m:=by simp[wsp]
theorem Zjc(x m:Nat):wsp x (m+1)=wsp x m++[((x/65536^m%65536:Nat):Int)]:=by simp[wsp,List.range_succ]
theorem Oi(x m:Nat)(hx:x<18446744073709551616)(hm:m=1∨m=2∨m=4):GC Tryz.prog 28 [.a (.int .u64 (x:Int)),.a (.int .i64 ((16*m:Nat):Int))] [] 0 []
 (.tup [.a (.ref 0),.a (.int .i64 0)]) [(0,.row 3 (.int .i64) (wsp (x%2^(16*m)) m))] 1:=by
 have hW:=Te (16*m) (by omega)
 have hX:=Qu x hx
 have hF:=Og x (16*m) hx (by omega)
 have hle:x%2^(16*m)≤x:=Nat.mod_le _ _
 have hY:=Qu (x%2^(16*m)) (by omega)
 have hT:=Ls 16 (by decide)
 have c16:((16:Nat):Int)=16:=rfl
 have e16:2^16=65536:=by decide
 rw[c16,e16]at hT
 have q1:((16*m:Nat):Int).tdiv 16=(m:Int):=by rw[Int.tdiv_eq_ediv_of_nonneg (by omega)];omega
 have q2:IntKind.i64.wrap (m:Int)=m:=Zk (by omega) (by omega)
 refine U8.fn.gc (by simp) (by simp[Zu,Zw,Zv,Zj,Ze,Vc.S1.okN,At.okN,SV.okN,Res.okN,Res.outOk,Zo,Res.own,Value.oneCell']) fun w X fr=> ?_
 generalize x%2^(16*m)=y at*
 repeat'(first|(first|refine Stp.h ?_|(refine Za.gc hW ?_ ?_;focus simp[Zb];done)|(refine Za.gc hX ?_ ?_;focus simp[Zb];done)|(refine Za.gc hF ?_ ?_;focus simp[Zb];done)|(refine Za.gc hY ?_ ?_;focus simp[Zb];done))<;>try simp only[Zc,simprocAttr,↓reduceIte,reduceCtorEq,implies_true,decide_true,decide_false]|(with_reducible first|assumption|refine And.intro ?_ ?_)|(intro h;first|omega|exact tg h ‹_›|exact tg ‹_› h|skip))
 all_goals first|omega|skip
 refine T.weak (Ent.nilRow (t:=7) 3 (.int .i64) rfl) ?_
 simp only[Zc,simprocAttr,↓reduceIte,reduceCtorEq,implies_true]
 have hy:y<18446744073709551616:=by omega
 refine T.loop (ι:= {j:Nat//j≤m})
  (fun j=>⟨[(7,.one (.a (.ref 2))),(8,.one (.a (.int .i64 (j.1:Int)))),(6,.one (.a (.loc 0 0))),(1,.one (.a (.int .i64 ((16*m:Nat):Int))))],
    [(2,.row 3 (.int .i64) (wsp y j.1)),(0,.cells 33 [.bool false,.ref 1]),(1,.row 87 (.int .u32) (wds (y/65536^j.1)))],3⟩) (fun j=>m-j.1) ⟨0,by omega⟩ (Ent.mk1 (fun n=>if n=0 then 2 else if n=1 then 3 else 4) (by simp[Zx,Nat.pow_zero,Nat.div_one,wsp,List.range_zero,List.map_nil])) ?_
 rintro⟨j,hj⟩
 simp only
 by_cases hjm:j<m
 ·have jl:(j:Int)<m:=by omega
  have hw:IntKind.i64.wrap ((j:Int)+1)=((j+1:Nat):Int):=Zy (by omega)
  have hq:y/65536^j≤y:=Nat.div_le_self _ _
  have hl5:=We 1 65536 (by decide)
  have hD:=Zaz (y/65536^j) 65536 (by omega) (by decide) (by omega) false
  have hr:y/65536^j%65536<65536:=Nat.mod_lt _ (by decide)
  have hI:=Zfe (y/65536^j%65536) (by omega)
  have hs:=Zjc y j
  have hsl:=So y j
  have e2:y/65536^(j+1)=y/65536^j/65536:=by rw[Nat.pow_succ,Nat.div_div_eq_div_mul]
  have w1:IntKind.i64.wrap ((y/65536^j%65536:Nat):Int)=((y/65536^j%65536:Nat):Int):=by
   generalize y/65536^j%65536=r at*
   exact Zk (by omega) (by omega)
  have hsp:(wsp y j).length≤1000:=by omega
  generalize y/65536^j=z at*
  generalize wsp y j=L at*
  by_cases hj0:j=0
  ·subst hj0
   have hw0:IntKind.i64.wrap (0+1)=((0+1:Nat):Int):=rfl
   have j00:((0:Nat):Int)=0:=rfl
   repeat'(first|(first|refine Stp.h ?_|(refine Za.gc hT ?_ ?_;focus simp[Zb];done)|(refine Za.gc hD ?_ ?_;focus simp[Zb];done)|(refine Za.gc hI ?_ ?_;focus simp[Zb];done)|refine Zf.split ?_ ?_|refine Zh.no ?_)<;>try simp only[Zc,simprocAttr,↓reduceIte,reduceCtorEq,implies_true,jl,j00,q1,q2,hw0,w1,decide_true,decide_false]|(with_reducible first|assumption|refine And.intro ?_ ?_)|(intro h;first|omega|exact tg h ‹_›|exact tg ‹_› h|skip))
   all_goals first|omega|exact⟨⟨0+1,hjm⟩,(Ent.mk1 (fun n=>if n=2 then 9 else if n=1 then 6 else n) (by simp[Zx,hs,e2])),by simp only;omega⟩|skip
  ·have j00:¬(j:Int)=0:=by omega
   repeat'(first|(first|refine Stp.h ?_|(refine Za.gc hT ?_ ?_;focus simp[Zb];done)|(refine Za.gc hD ?_ ?_;focus simp[Zb];done)|(refine Za.gc hI ?_ ?_;focus simp[Zb];done)|refine Zf.split ?_ ?_|refine Zh.no ?_)<;>try simp only[Zc,simprocAttr,↓reduceIte,reduceCtorEq,implies_true,jl,j00,q1,q2,hw,w1,decide_true,decide_false]|(with_reducible first|assumption|refine And.intro ?_ ?_)|(intro h;first|omega|exact tg h ‹_›|exact tg ‹_› h|skip))
   all_goals first|omega|exact⟨⟨j+1,hjm⟩,(Ent.mk1 (fun n=>if n=2 then 9 else if n=1 then 6 else n) (by simp[Zx,hs,e2])),by simp only;omega⟩|skip
 ·obtain rfl:j=m:=by omega
  have j00:¬(j:Int)=0:=by omega
  have jl:¬(j:Int)<j:=by omega
  repeat'(first|(first|refine Stp.h ?_|(refine Za.gc hT ?_ ?_;focus simp[Zb];done)|refine Zf.split ?_ ?_|refine Zh.no ?_)<;>try simp only[Zc,simprocAttr,↓reduceIte,reduceCtorEq,implies_true,jl,j00,q1,q2,decide_true,decide_false]|(with_reducible first|assumption|refine And.intro ?_ ?_)|(intro h;first|omega|exact tg h ‹_›|exact tg ‹_› h|skip))
  all_goals first|omega|skip
def apB(p n q m:Int):Bool:=decide (0≤p)&&decide (0≤q)&&decide (p≤IntKind.i64.wrap (65536-n))&&decide (q≤IntKind.i64.wrap (65536-m))&&(decide (IntKind.i64.wrap (p+n)≤q)||decide (IntKind.i64.wrap (q+m)≤p))
set_option maxHeartbeats 4000000 in
theorem Vi(p n q m:Int):GC Tryz.prog 27 [.a (.int .i64 p),.a (.int .i64 n),.a (.int .i64 q),.a (.int .i64 m)] [] 0 [] (.one (.a (.bool (apB p n q m)))) [] 0:=by
 unfold apB
 obtain⟨b1,h1⟩:∃b,decide (0≤p)=b:=⟨_,rfl⟩
 obtain⟨b2,h2⟩:∃b,decide (0≤q)=b:=⟨_,rfl⟩
 obtain⟨b3,h3⟩:∃b,decide (p≤IntKind.i64.wrap (65536-n))=b:=⟨_,rfl⟩
 obtain⟨b4,h4⟩:∃b,decide (q≤IntKind.i64.wrap (65536-m))=b:=⟨_,rfl⟩
 obtain⟨b5,h5⟩:∃b,decide (IntKind.i64.wrap (p+n)≤q)=b:=⟨_,rfl⟩
 obtain⟨b6,h6⟩:∃b,decide (IntKind.i64.wrap (q+m)≤p)=b:=⟨_,rfl⟩
 rw[h1,h2,h3,h4,h5,h6]
 refine U7.fn.gc (by simp) (by simp[Zu,Zw,Zv,Zj,Ze,Vc.S1.okN,At.okN,SV.okN,Res.okN,Res.outOk,Zo,Res.own,Value.oneCell']) fun w' X fr=> ?_
 rcases b1 with _|_
 rotate_left
 rcases b2 with _|_
 rotate_left
 rcases b3 with _|_
 rotate_left
 rcases b4 with _|_
 rotate_left
 rcases b5 with _|_
 rcases b6 with _|_
 all_goals
  repeat'(first|(first|refine Stp.h ?_)<;>try simp only[Zc,simprocAttr,↓reduceIte,reduceCtorEq,implies_true,h1,h2,h3,h4,h5,h6,Bool.and_true,Bool.and_false,Bool.true_and,Bool.false_and,Bool.or_true,Bool.or_false,Bool.true_or,Bool.false_or]|(with_reducible first|assumption|refine And.intro ?_ ?_)|(intro h;first|omega|exact tg h ‹_›|exact tg ‹_› h|skip))
theorem Mz{p n q m:Int}(hp: -9223372036854775808≤p∧p≤9223372036854775807)(hq: -9223372036854775808≤q∧q≤9223372036854775807)(hn:0≤n∧n≤65536)(hm:0≤m∧m≤65536):
 apB p n q m=true↔0≤p∧0≤q∧p+n≤65536∧q+m≤65536∧(p+n≤q∨q+m≤p):=by
 unfold apB
 rw[Zk (n:=65536-n) (by omega) (by omega),Zk (n:=65536-m) (by omega) (by omega)]
 simp only[Bool.and_eq_true,Bool.or_eq_true,decide_eq_true_eq]
 by_cases h:0≤p∧0≤q∧p≤65536-n∧q≤65536-m
 ·rw[Zk (n:=p+n) (by omega) (by omega),Zk (n:=q+m) (by omega) (by omega)]
  omega
 ·omega
end Go.Proofs.YtbmecnjmbhokgaaGreatDoor
namespace Go.Proofs.YtbmecnjmbhokgaaGreatDoor
open Vc
namespace Xg
abbrev r0:List In:=[i1 4 (.mv (kI 0)), i1 5 (.mv (.k (.a (.raw .nilIface))))]
abbrev r1:List In:=[mv 6 0, i1 7 (.call 148 [.t 6])]
abbrev r2:List In:=[mv 8 0, mv 9 0, i1 10 (.nchk (.t 9)), i1 11 (.faddr 1 (.t 10)), i1 12 (.load 1 false (.t 11)), mv 13 1, i1 14 (.apps 45 5 (.t 12) (.t 13)), i1 15 (.nchk (.t 8)), i1 16 (.faddr 1 (.t 15)), i0 (.store 1 (.t 16) (.t 14))]
abbrev r3:List In:=[mv 17 1, i1 18 (.slen (.t 17)), mv 4 18, i1 5 (.mv (.k (.a (.raw .nilIface))))]
abbrev code:IC:=.seq (.reg r0) (.seq (.reg r1) (.seq (.reg r2) (.seq (.reg r3) .ret)))
abbrev res:List RV:=[.tmp 4,.tmp 5]
theorem fn:Body Tryz.prog 104 19 code res:=⟨by decide,Tryz.f104,_,Tryz.func104,rfl,rfl,by kernel_rfl,by kernel_rfl⟩
end Xg
namespace W3
abbrev r0:List In:=[i1 4 (.mv (.k (.a (.raw .nilIface))))]
abbrev r1:List In:=[mv 5 0, i1 6 (.call 148 [.t 5])]
abbrev r2:List In:=[mv 7 0, mv 8 0, i1 9 (.nchk (.t 8)), i1 10 (.faddr 1 (.t 9)), i1 11 (.load 1 false (.t 10)), mv 12 1, i1 13 (.bsl 5 1 1 [.int .u8 0] [(0,1,(.t 12))]), i1 14 (.app 45 5 1 1 (.t 11) (.t 13)), i1 15 (.nchk (.t 7)), i1 16 (.faddr 1 (.t 15)), i0 (.store 1 (.t 16) (.t 14))]
abbrev r3:List In:=[i1 4 (.mv (.k (.a (.raw .nilIface))))]
abbrev code:IC:=.seq (.reg r0) (.seq (.reg r1) (.seq (.reg r2) (.seq (.reg r3) .ret)))
abbrev res:List RV:=[.tmp 4]
theorem fn:Body Tryz.prog 103 17 code res:=⟨by decide,Tryz.f103,_,Tryz.func103,rfl,rfl,by kernel_rfl,by kernel_rfl⟩
end W3
end Go.Proofs.YtbmecnjmbhokgaaGreatDoor
namespace Go.Proofs.YtbmecnjmbhokgaaGreatDoor
open Go Go.RowKit
set_option linter.unusedVariables false
set_option linter.unusedSimpArgs false
set_option maxHeartbeats 1000000 in
set_option maxRecDepth 100000 in
theorem Is(b:Nat)(w:World)(h0:w.cell? ⟨b,0,none⟩=some (.pointer (some ⟨b,0,none⟩))):
 Calls Tryz.prog 148 #[.pointer (some ⟨b,0,none⟩)] w fun e w'=>e= .returned (.tuple #[])∧w'=w:=by
 obtain⟨j,hj,hjs⟩:∃j,Tryz.prog.info? 129=some j∧j.size=2:=Option.map_eq_some_iff.1 (by kernel_rfl:(Tryz.prog.info? 129).map (·.size)=some 2)
 go_enter Tryz.func148,Tryz.ntmps148
 go_wp2
 rw[Lib.run_neq_ptr_same w _ Tryz.underlying127 hj]
 go_wp2
 go_end0
 exact⟨rfl,rfl⟩
end Go.Proofs.YtbmecnjmbhokgaaGreatDoor
namespace Go.Proofs
open Go.Shelf
def Tryz.laysM171_ren:Go.Shelf.Ren:=⟨fun|171=>167|243=>187|246=>203|283=>212|284=>213|285=>214|286=>215|129=>146|317=>218|318=>219|319=>220|320=>221|337=>222|338=>223|n=>n,fun|3=>3|9=>9|2=>2|4=>4|171=>254|0=>0|53=>22|37=>45|5=>5|173=>256|212=>263|51=>87|20=>20|213=>264|46=>86|232=>265|233=>266|n=>n,fun|17=>5|18=>6|19=>7|n=>n⟩
theorem Tryz.laysM171:Go.Proofs.LaysM.n171 Tryz.prog Tryz.laysM171_ren:= {
 mixed:=by kernel_rfl
 f129:=Tryz.func146.trans (congrArg some (by kernel_rfl))
 f171:=Tryz.func167.trans (congrArg some (by kernel_rfl))
 f243:=Tryz.func187.trans (congrArg some (by kernel_rfl))
 f246:=Tryz.func203.trans (congrArg some (by kernel_rfl))
 f283:=Tryz.func212.trans (congrArg some (by kernel_rfl))
 f284:=Tryz.func213.trans (congrArg some (by kernel_rfl))
 f285:=Tryz.func214.trans (congrArg some (by kernel_rfl))
 f286:=Tryz.func215.trans (congrArg some (by kernel_rfl))
 f317:=Tryz.func218.trans (congrArg some (by kernel_rfl))
 f318:=Tryz.func219.trans (congrArg some (by kernel_rfl))
 f319:=Tryz.func220.trans (congrArg some (by kernel_rfl))
 f320:=Tryz.func221.trans (congrArg some (by kernel_rfl))
 f337:=Tryz.func222.trans (congrArg some (by kernel_rfl))
 f338:=Tryz.func223.trans (congrArg some (by kernel_rfl))
 t0:=Tryz.underlying0
 a0:=Tryz.isAgg0
 z0:=Tryz.sizeOf0
 v0:=Tryz.zeroValue0
 t2:=Tryz.underlying2
 a2:=Tryz.isAgg2
 z2:=Tryz.sizeOf2
 v2:=Tryz.zeroValue2
 t3:=Tryz.underlying3
 a3:=Tryz.isAgg3
 z3:=Tryz.sizeOf3
 v3:=Tryz.zeroValue3
 t4:=Tryz.underlying4
 a4:=Tryz.isAgg4
 z4:=Tryz.sizeOf4
 v4:=Tryz.zeroValue4
 t5:=Tryz.underlying5
 a5:=Tryz.isAgg5
 z5:=Tryz.sizeOf5
 v5:=Tryz.zeroValue5
 t9:=Tryz.underlying9
 a9:=Tryz.isAgg9
 z9:=Tryz.sizeOf9
 v9:=Tryz.zeroValue9
 t20:=Tryz.underlying20
 a20:=Tryz.isAgg20
 z20:=Tryz.sizeOf20
 v20:=Tryz.zeroValue20
 t37:=Tryz.underlying45
 a37:=Tryz.isAgg45
 z37:=Tryz.sizeOf45
 v37:=Tryz.zeroValue45
 t46:=Tryz.underlying86
 a46:=Tryz.isAgg86
 z46:=Tryz.sizeOf86
 v46:=Tryz.zeroValue86
 t51:=Tryz.underlying87
 a51:=Tryz.isAgg87
 z51:=Tryz.sizeOf87
 v51:=Tryz.zeroValue87
 t53:=Tryz.underlying22
 a53:=Tryz.isAgg22
 z53:=Tryz.sizeOf22
 v53:=Tryz.zeroValue22
 t171:=Tryz.underlying254
 a171:=Tryz.isAgg254
 z171:=Tryz.sizeOf254
 v171:=Tryz.zeroValue254
 t173:=Tryz.underlying256
 a173:=Tryz.isAgg256
 z173:=Tryz.sizeOf256
 v173:=Tryz.zeroValue256
 t212:=Tryz.underlying263
 a212:=Tryz.isAgg263
 z212:=Tryz.sizeOf263
 v212:=Tryz.zeroValue263
 t213:=Tryz.underlying264
 a213:=Tryz.isAgg264
 z213:=Tryz.sizeOf264
 t232:=Tryz.underlying265
 a232:=Tryz.isAgg265
 z232:=Tryz.sizeOf265
 v232:=Tryz.zeroValue265
 t233:=Tryz.underlying266
 a233:=Tryz.isAgg266
 z233:=Tryz.sizeOf266
 v233:=Tryz.zeroValue266
 g17:=by kernel_rfl
 g18:=by kernel_rfl
 g19:=by kernel_rfl
 i0:=by kernel_rfl
 i2:=by kernel_rfl
 i3:=by kernel_rfl
 i4:=by kernel_rfl
 i5:=by kernel_rfl
 i9:=by kernel_rfl
 i20:=by kernel_rfl
 i37:=by kernel_rfl
 i46:=by kernel_rfl
 i51:=by kernel_rfl
 i53:=by kernel_rfl
 i171:=by kernel_rfl
 i173:=by kernel_rfl
 i212:=by kernel_rfl
 i232:=by kernel_rfl
 i233:=by kernel_rfl
 m17:=by kernel_rfl
 m18:=by kernel_rfl
 m19:=by kernel_rfl}
open Go.RowKit Go.Sort Go.Lib in
theorem Tryz.strconv_Itoa(n:Int)(h0: -9223372036854775808≤n)(h1:n≤9223372036854775807)(w:World)(htab:Lib.TabIs Tryz.prog w "internal/strconv.uint64pow10" .u64 Lib.pow10Tab):
 Calls Tryz.prog 167 #[.int .i64 n] w fun e w'=>e= .returned (.string ⟨(Lib.itoa n).toArray⟩)∧∃k os,w'=grow (w.drewN k) os:=Any.strconv_Itoa Tryz.laysM171 n h0 h1 w htab
def Tryz.lays100_ren:Go.Shelf.Ren:=⟨fun|100=>102|207=>147|n=>n,fun|9=>9|4=>4|3=>3|n=>n,fun|n=>n⟩
theorem Tryz.lays100:Go.Proofs.Lays.n100 Tryz.prog Tryz.lays100_ren:= {
 mixed:=by kernel_rfl
 f100:=Tryz.func102.trans (congrArg some (by kernel_rfl))
 f207:=Tryz.func147.trans (congrArg some (by kernel_rfl))
 t3:=Tryz.underlying3
 a3:=Tryz.isAgg3
 z3:=Tryz.sizeOf3
 v3:=Tryz.zeroValue3
 t4:=Tryz.underlying4
 a4:=Tryz.isAgg4
 z4:=Tryz.sizeOf4
 v4:=Tryz.zeroValue4
 t9:=Tryz.underlying9
 a9:=Tryz.isAgg9
 z9:=Tryz.sizeOf9
 v9:=Tryz.zeroValue9}
open Go.RowKit Go.Lib in
theorem Tryz.strings_HasSuffix(s p:ByteArray)(w:World)(hs:s.size≤9223372036854775807):
 Calls Tryz.prog 102 #[.string s,.string p] w fun e w'=>e= .returned (.bool (Lib.hasSuffix s.data.toList p.data.toList))∧w'=w:=Any.strings_HasSuffix Tryz.lays100 s p w hs
def Tryz.lays154_ren:Go.Shelf.Ren:=⟨fun|154=>166|138=>150|165=>186|143=>151|166=>104|197=>177|169=>77|195=>176|218=>178|240=>148|241=>202|219=>179|260=>189|276=>175|277=>211|217=>190|225=>191|224=>192|267=>193|266=>204|314=>205|n=>n,fun|9=>9|3=>3|4=>4|72=>129|0=>0|76=>163|105=>223|21=>21|5=>5|70=>127|20=>20|37=>45|75=>161|127=>165|164=>220|46=>86|119=>240|139=>243|138=>242|146=>244|51=>87|80=>134|n=>n,fun|1=>0|3=>1|4=>2|n=>n⟩
theorem Tryz.lays154:Go.Proofs.Lays.n154 Tryz.prog Tryz.lays154_ren:= {
 mixed:=by kernel_rfl
 f138:=Tryz.func150.trans (congrArg some (by kernel_rfl))
 f143:=Tryz.func151.trans (congrArg some (by kernel_rfl))
 f154:=Tryz.func166.trans (congrArg some (by kernel_rfl))
 f165:=Tryz.func186.trans (congrArg some (by kernel_rfl))
 f166:=Tryz.func104.trans (congrArg some (by kernel_rfl))
 f169:=Tryz.func77.trans (congrArg some (by kernel_rfl))
 f195:=Tryz.func176.trans (congrArg some (by kernel_rfl))
 f197:=Tryz.func177.trans (congrArg some (by kernel_rfl))
 f217:=Tryz.func190.trans (congrArg some (by kernel_rfl))
 f218:=Tryz.func178.trans (congrArg some (by kernel_rfl))
 f219:=Tryz.func179.trans (congrArg some (by kernel_rfl))
 f224:=Tryz.func192.trans (congrArg some (by kernel_rfl))
 f225:=Tryz.func191.trans (congrArg some (by kernel_rfl))
 f240:=Tryz.func148.trans (congrArg some (by kernel_rfl))
 f241:=Tryz.func202.trans (congrArg some (by kernel_rfl))
 f260:=Tryz.func189.trans (congrArg some (by kernel_rfl))
 f266:=Tryz.func204.trans (congrArg some (by kernel_rfl))
 f267:=Tryz.func193.trans (congrArg some (by kernel_rfl))
 f276:=Tryz.func175.trans (congrArg some (by kernel_rfl))
 f277:=Tryz.func211.trans (congrArg some (by kernel_rfl))
 f314:=Tryz.func205.trans (congrArg some (by kernel_rfl))
 t0:=Tryz.underlying0
 a0:=Tryz.isAgg0
 z0:=Tryz.sizeOf0
 v0:=Tryz.zeroValue0
 t3:=Tryz.underlying3
 a3:=Tryz.isAgg3
 z3:=Tryz.sizeOf3
 v3:=Tryz.zeroValue3
 t4:=Tryz.underlying4
 a4:=Tryz.isAgg4
 z4:=Tryz.sizeOf4
 v4:=Tryz.zeroValue4
 t5:=Tryz.underlying5
 a5:=Tryz.isAgg5
 z5:=Tryz.sizeOf5
 v5:=Tryz.zeroValue5
 t9:=Tryz.underlying9
 a9:=Tryz.isAgg9
 z9:=Tryz.sizeOf9
 v9:=Tryz.zeroValue9
 t20:=Tryz.underlying20
 a20:=Tryz.isAgg20
 z20:=Tryz.sizeOf20
 v20:=Tryz.zeroValue20
 t21:=Tryz.underlying21
 a21:=Tryz.isAgg21
 z21:=Tryz.sizeOf21
 v21:=Tryz.zeroValue21
 t37:=Tryz.underlying45
 a37:=Tryz.isAgg45
 z37:=Tryz.sizeOf45
 v37:=Tryz.zeroValue45
 t46:=Tryz.underlying86
 a46:=Tryz.isAgg86
 z46:=Tryz.sizeOf86
 v46:=Tryz.zeroValue86
 t51:=Tryz.underlying87
 a51:=Tryz.isAgg87
 z51:=Tryz.sizeOf87
 v51:=Tryz.zeroValue87
 t70:=Tryz.underlying127
 a70:=Tryz.isAgg127
 z70:=Tryz.sizeOf127
 v70:=Tryz.zeroValue127
 t72:=Tryz.underlying129
 a72:=Tryz.isAgg129
 z72:=Tryz.sizeOf129
 v72:=Tryz.zeroValue129
 t75:=Tryz.underlying161
 a75:=Tryz.isAgg161
 z75:=Tryz.sizeOf161
 v75:=Tryz.zeroValue161
 t76:=Tryz.underlying163
 a76:=Tryz.isAgg163
 z76:=Tryz.sizeOf163
 v76:=Tryz.zeroValue163
 t105:=Tryz.underlying223
 a105:=Tryz.isAgg223
 z105:=Tryz.sizeOf223
 v105:=Tryz.zeroValue223
 t119:=Tryz.underlying240
 a119:=Tryz.isAgg240
 z119:=Tryz.sizeOf240
 t127:=Tryz.underlying165
 a127:=Tryz.isAgg165
 z127:=Tryz.sizeOf165
 v127:=Tryz.zeroValue165
 t138:=Tryz.underlying242
 a138:=Tryz.isAgg242
 z138:=Tryz.sizeOf242
 v138:=Tryz.zeroValue242
 t139:=Tryz.underlying243
 a139:=Tryz.isAgg243
 z139:=Tryz.sizeOf243
 v139:=Tryz.zeroValue243
 t146:=Tryz.underlying244
 a146:=Tryz.isAgg244
 z146:=Tryz.sizeOf244
 v146:=Tryz.zeroValue244
 t164:=Tryz.underlying220
 a164:=Tryz.isAgg220
 z164:=Tryz.sizeOf220
 v164:=Tryz.zeroValue220
 g1:=by kernel_rfl
 g3:=by kernel_rfl
 g4:=by kernel_rfl}
theorem Tryz.Builder_Extra_154:Builder.Extra Tryz.prog Tryz.lays154_ren:= {
 sizeBuilder:=by kernel_rfl
 liesBuilder:=by kernel_rfl
 t5:=Tryz.underlying5
 a5:=Tryz.isAgg5
 z5:=Tryz.sizeOf5
 v5:=Tryz.zeroValue5
 infoByte:=by kernel_rfl
 cellsByte:=by kernel_rfl
 sizeByte:=by kernel_rfl
 neB5:=by decide}
open Go.RowKit Go.Lib in
theorem Tryz.strings_Replace(s old new:ByteArray)(n:Int)(m:Int)(w:World)(hs:s.size<4294967281)(hm:w.cell? ⟨0,0,none⟩=some (.int .i64 m))(h1:1≤old.size)(hlen:s.size+Lib.countB s old*new.size≤140737488355328):
 Calls Tryz.prog 166 #[.string s,.string old,.string new,.int .i64 n] w fun e w'=>
  e= .returned (.string ⟨(Lib.replace s.data.toList old.data.toList new.data.toList n).toArray⟩)∧Below w.heap.size w w':=Any.strings_Replace Tryz.lays154 Tryz.Builder_Extra_154 s old new n m w hs hm h1 hlen
end Go.Proofs
namespace Go.Proofs.YtbmecnjmbhokgaaGreatDoor
open Go Go.RowKit Vc
set_option linter.unusedVariables false
set_option linter.unusedSimpArgs false
attribute [local irreducible] T Za Zn Ent RdC RwC Ye Zf Zh
abbrev Bytes:Type:=List (Kd.ty (.int .u8))
theorem Zba(a b:List UInt8):bytesI a++bytesI b=bytesI (a++b):=by simp[bytesI]
theorem Il(a:List UInt8):(bytesI a).length=a.length:=by simp[bytesI]
theorem D9(a:List UInt8)(c:UInt8):bytesI a++[((c.toNat:Nat):Int)]=bytesI (a++[c]):=by simp[bytesI]
@[reducible] def Z4(G:Nat)(H:Nat→Option Obj):Prop:=∀w X,Wg G H w X→Lib.TabIs Tryz.prog w "internal/strconv.uint64pow10" .u64 Lib.pow10Tab
theorem Zg7(G:Nat)(H:Nat→Option Obj)(hH:Z4 G H)(n:Int)(h0:0≤n)(h1:n≤65535):
 GCp G H Tryz.prog 167 [.a (.int .i64 n)] [] 0 [] (.one (.a (.str (Lib.itoa n)))) [] 0:=
 GCp.plain (by simp[S1.bd,At.bd]) (by simp[SV.bd,S1.bd,At.bd]) (by simp[Zu,Zw,Zv,Zj,Ze,Vc.S1.okN,At.okN,SV.okN,Res.okN,Res.outOk,Zo,Res.own,Value.oneCell']) fun w hg=>(Tryz.strconv_Itoa n (by omega) (by omega) w (hH w _ hg)).mono fun e w' ⟨he,k,os,hw⟩=>⟨he,hw▸Lib.below_grow _ w (Nat.le_refl _) k os⟩
end Go.Proofs.YtbmecnjmbhokgaaGreatDoor
