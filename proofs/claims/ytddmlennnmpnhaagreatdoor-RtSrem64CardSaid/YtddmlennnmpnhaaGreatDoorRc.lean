/- A part of the proofs of this seat's laws: steps on the way, joined. It has no conditions of its own. -/
import Derived.Test.YtddmlennnmpnhaaGreatDoorQx
import Derived.Test.YtddmlennnmpnhaaGreatDoorQh
import Derived.Test.YtddmlennnmpnhaaGreatDoorChecked
import Derived.KernelRfl
namespace Go.Proofs.YtddmlennnmpnhaaGreatDoor
open Go Go.RowKit Vc
set_option linter.unusedVariables false
set_option linter.unusedSimpArgs false
attribute [local irreducible] T Za Zn Ent RdC RwC Yd Ze Zh
theorem trap_of{code:List Int}(hcl:code.length≤65536)(a0:atB code 0 [⟨26,0,0,3⟩]=true)(n m:Nat)(hn:1≤n∧n≤4)(hm:1≤m∧m≤4)(a b:Nat)(p q sp fill:Int)
 (hp64: -9223372036854775808≤p∧p≤9223372036854775807)(hq64: -9223372036854775808≤q∧q≤9223372036854775807)(hok:okD n m p q sp fill)(hr:Zhi code n m a b):
 ∃(M:Nat→Ma) (N:Nat),Trace code M N 2∧M 0=mk (s0 p q sp fill (memB p q fill (wsp (a%2^(16*n)) n) (wsp (b%2^(16*m)) m))) 0 0∧(∀j,j<65536→wd ((M 0).mem.getD j 0))∧N≤20000∧(M N).trap=1∧0<trimN (M N).mem 65536:=by
 obtain⟨P,Q,S,rfl,rfl,rfl,ht,hw0,hl0,hs0,hg1,hB⟩:=Zef n m hn hm a b p q sp fill hp64 hq64 hok
 generalize memB P Q fill (wsp (a%2^(16*n)) n) (wsp (b%2^(16*m)) m)=mem at*
 obtain⟨k,s',c,hR,hk,ho,hc,hc2,hg⟩:=hr _ _ _ _ hB
 have e7:aR (s0 P Q S fill mem) 7=S:=rfl
 have r1:=Lz (tr:=0) a0 hs0 (by omega) (by rw[e7];omega)
 have r12:=r1.trans hR
 obtain⟨h1,h2,_⟩:=Qx hc
 have g:Good code (mk s' c 0):=⟨by show Tu (Xb code c).1 (Xb code c).2=true;rw[h1];exact h2,ho.len,ho.reg,⟨by show(0:Int)≤c;omega,by show c≤65535;omega⟩⟩
 have hst:stepS (Xb code (mk s' c 0).pc).1 (Xb code (mk s' c 0).pc).2 (mk s' c 0)=(2,mk s' c 1):=by
  show stepS (Xb code c).1 (Xb code c).2 (mk s' c 0)=_
  rw[h1];rfl
 obtain⟨M,g1,g2,g3⟩:=r12.trace hcl g hst (.inr rfl) ⟨g.len,g.reg,g.pc⟩
 refine⟨M,1+k+1,g1,g2,fun j _=>by rw[g2];exact hw0 j,by omega,by rw[g3];rfl,?_⟩
 have h2:(M (1+k+1)).mem.getD (S-1) 0=2:=by
  rw[g3]
  show gM s' (S-1)=2
  rw[hg,hg1,if_pos rfl]
 exact Nat.lt_of_le_of_lt (Nat.zero_le _) (Kp _ (S-1) (by rw[h2];decide) 65536 (by omega))
set_option maxHeartbeats 16000000 in
set_option maxRecDepth 100000 in
theorem L4{G:Nat}{H:Nat→Option Obj}(hM:Yn G H)(hH:Z4 G H)(nm:List UInt8)(hnm:nm.length≤1000)(n m:Nat)(hn:n=1∨n=2∨n=4)(hmm:m=1∨m=2∨m=4)(a b want:Nat)(ha:a<18446744073709551616)(hb:b<18446744073709551616)
 (p q sp fill:Int)(hp64: -9223372036854775808≤p∧p≤9223372036854775807)(hq64: -9223372036854775808≤q∧q≤9223372036854775807)
 (hR:(linkS (unitsTo 24++[([],Z3 nm)]) Z2).2=(0,0))(code:List Int)(hC:(linkS (unitsTo 24++[([],Z3 nm)]) Z2).1.1=code)
 (hcl:code.length≤65536)(a0:atB code 0 [⟨26,0,0,3⟩]=true)(hr:Zhi code n m a b):
 GCp G H Tryz.prog 16 [.a (.str nm),.a (.int .i64 (n:Int)),.a (.int .i64 (m:Int)),.a (.int .u64 (a:Int)),.a (.int .u64 (b:Int)),.a (.int .i64 p),.a (.int .i64 q),.a (.int .i64 sp),.a (.int .i64 fill),.a (.int .u64 (want:Int)),.a (.bool true)] [] 0 [] (.one (.a (.bool true))) [] 0:=by
 by_cases hok:okD n m p q sp fill
 rotate_left
 ·exact Zd6 G H nm n m a b want true p q sp fill hok
 ·obtain⟨M,N,hT,hM0,hwd,hN,h7',htr⟩:=trap_of hcl a0 n m (by omega) (by omega) a b p q sp fill hp64 hq64 hok hr
  obtain⟨⟨f1,f2⟩,⟨s1,s2⟩,k5,k6,k7⟩:=hok
  obtain⟨p0,q0,p1,q1,-⟩:=(My hp64 hq64 ⟨by omega,by omega⟩ ⟨by omega,by omega⟩).1 k5
  have hP:=B5 hM hH nm hnm (wsp (a%2^(16*n)) n) (wsp (b%2^(16*m)) m) (by rw[Ss];omega) (by rw[Ss];omega) p q sp fill ⟨p0,by omega⟩ ⟨q0,by omega⟩ hR code hC M N 2 hT (by rw[hM0];rfl) hwd (by omega) htr (by rw[hM0];rfl) (by rw[hM0];rfl) (by rw[hM0];rfl) (by rw[hM0];rfl)
  have hSa:=Og a n ha hn
  have hSb:=Og b m hb hmm
  have wn:IntKind.i64.wrap (16*(n:Int))=((16*n:Nat):Int):=by rw[Zk (by omega) (by omega)];omega
  have wm:IntKind.i64.wrap (16*(m:Int))=((16*m:Nat):Int):=by rw[Zk (by omega) (by omega)];omega
  unfold Hq at hP
  have hA1:=Vf p n q m
  have hA2:=Vf p n (IntKind.i64.wrap (sp-64)) 64
  have hA3:=Vf q m (IntKind.i64.wrap (sp-64)) 64
  have h1:decide (fill<0)=false:=decide_eq_false (by omega)
  have h2:decide (65535<fill)=false:=decide_eq_false (by omega)
  have h3:decide (sp<64)=false:=decide_eq_false (by omega)
  have h4:decide (65535<sp)=false:=decide_eq_false (by omega)
  rw[k5]at hA1
  rw[k6]at hA2
  rw[k7]at hA3
  generalize (M N).mem.take (trimN (M N).mem 65536)=Tm at*
  generalize memB p q fill (wsp (a%2^(16*n)) n) (wsp (b%2^(16*m)) m)=L at*
  generalize wsp (a%2^(16*n)) n=xs at*
  generalize wsp (b%2^(16*m)) m=ys at*
  have z0:∀l:List At,l.drop 0=l:=fun l=>rfl
  have t0:∀l:List At,l.take 0=[]:=fun l=>rfl
  refine Xy.fn.gcp (by simp) (by simp[Zu,Zw,Zv,Zj,Zf,Vc.S1.okN,At.okN,SV.okN,Res.okN,Res.outOk,Zo,Res.own,Value.oneCell']) fun w' X fr hglob=> ?_
  repeat'(first|(first|refine Stp.h ?_|(refine Za.gc hA1 ?_ ?_;focus simp[Zb,Z5];done)|(refine Za.gc hA2 ?_ ?_;focus simp[Zb,Z5];done)|(refine Za.gc hA3 ?_ ?_;focus simp[Zb,Z5];done)|(refine Za.gc hSa ?_ ?_;focus simp[Zb,Z5];done)|(refine Za.gc hSb ?_ ?_;focus simp[Zb,Z5];done)|(refine Za.gcp hglob hP ?_ ?_;focus simp[Zb,Z5];done)|refine Ze.split ?_ ?_|refine Zh.no ?_)<;>try simp only[Zc,simprocAttr,↓reduceIte,reduceCtorEq,implies_true,Int.reduceToNat,List.getElem?_cons_succ,List.getElem?_cons_zero,h1,h2,h3,h4,wn,wm,h7',Z5,z0,t0,List.cons_append,List.nil_append,Bool.not_true,Bool.not_false,decide_true,decide_false,bne_self_eq_false,ne_eq,not_true_eq_false,not_false_eq_true]|(with_reducible first|assumption|refine And.intro ?_ ?_)|(intro h;first|omega|exact tg h ‹_›|exact tg ‹_› h|skip))
end Go.Proofs.YtddmlennnmpnhaaGreatDoor
namespace Go.Proofs.YtddmlennnmpnhaaGreatDoor
open Vc
namespace X2
abbrev r0:List In:=[i1 12 (.mv (kB false))]
abbrev r1:List In:=[mv 16 0,mv 17 1,i1 18 (.call 15 [(.k (.a (.int .u8 37))),.t 16,.t 17,kI 16,kB true]),mv 15 18,i1 19 (.ext 0 (.t 15)),i1 20 (.ext 1 (.t 15)),mv 13 19,mv 14 20]
abbrev r2:List In:=[mv 21 0,mv 22 1,mv 23 2,mv 24 3,mv 25 4,mv 26 5,mv 27 13,mv 28 14,i1 29 (.bin .eql (.t 28) (kI 10)),i1 30 (.call 16 [(.k (.a (.str [115,114,101,109,49]))),kI 1,kI 1,.t 21,.t 22,.t 23,.t 24,.t 25,.t 26,.t 27,.t 29]),mv 12 30]
abbrev code:IC:=.seq (.reg r0) (.seq (.reg r1) (.seq (.reg r2) .ret))
abbrev res:List RV:=[.tmp 12]
theorem fn:Body Tryz.prog 3 31 code res:=⟨by decide,Tryz.f3,_,Tryz.func3,rfl,rfl,by kernel_rfl,by kernel_rfl⟩
end X2
namespace X3
abbrev r0:List In:=[i1 12 (.mv (kB false))]
abbrev r1:List In:=[mv 16 0,mv 17 1,i1 18 (.call 15 [(.k (.a (.int .u8 37))),.t 16,.t 17,kI 32,kB true]),mv 15 18,i1 19 (.ext 0 (.t 15)),i1 20 (.ext 1 (.t 15)),mv 13 19,mv 14 20]
abbrev r2:List In:=[mv 21 0,mv 22 1,mv 23 2,mv 24 3,mv 25 4,mv 26 5,mv 27 13,mv 28 14,i1 29 (.bin .eql (.t 28) (kI 10)),i1 30 (.call 16 [(.k (.a (.str [115,114,101,109,50]))),kI 2,kI 2,.t 21,.t 22,.t 23,.t 24,.t 25,.t 26,.t 27,.t 29]),mv 12 30]
abbrev code:IC:=.seq (.reg r0) (.seq (.reg r1) (.seq (.reg r2) .ret))
abbrev res:List RV:=[.tmp 12]
theorem fn:Body Tryz.prog 4 31 code res:=⟨by decide,Tryz.f4,_,Tryz.func4,rfl,rfl,by kernel_rfl,by kernel_rfl⟩
end X3
namespace X4
abbrev r0:List In:=[i1 12 (.mv (kB false))]
abbrev r1:List In:=[mv 16 0,mv 17 1,i1 18 (.call 15 [(.k (.a (.int .u8 37))),.t 16,.t 17,kI 64,kB true]),mv 15 18,i1 19 (.ext 0 (.t 15)),i1 20 (.ext 1 (.t 15)),mv 13 19,mv 14 20]
abbrev r2:List In:=[mv 21 0,mv 22 1,mv 23 2,mv 24 3,mv 25 4,mv 26 5,mv 27 13,mv 28 14,i1 29 (.bin .eql (.t 28) (kI 10)),i1 30 (.call 16 [(.k (.a (.str [115,114,101,109,52]))),kI 4,kI 4,.t 21,.t 22,.t 23,.t 24,.t 25,.t 26,.t 27,.t 29]),mv 12 30]
abbrev code:IC:=.seq (.reg r0) (.seq (.reg r1) (.seq (.reg r2) .ret))
abbrev res:List RV:=[.tmp 12]
theorem fn:Body Tryz.prog 5 31 code res:=⟨by decide,Tryz.f5,_,Tryz.func5,rfl,rfl,by kernel_rfl,by kernel_rfl⟩
end X4
end Go.Proofs.YtddmlennnmpnhaaGreatDoor
