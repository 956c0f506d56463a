/- A part of the proofs of this seat's laws: steps on the way, joined. It has no conditions of its own. -/
import Derived.Test.YtddmlennnmpnhaaGreatDoorQp
import Derived.Test.YtddmlennnmpnhaaGreatDoorQo
import Derived.Test.YtddmlennnmpnhaaGreatDoorQi
namespace Go.Proofs.YtddmlennnmpnhaaGreatDoor
open Go Go.RowKit Vc
set_option linter.unusedVariables false
set_option linter.unusedSimpArgs false
attribute [local irreducible] T Za Zn Ent RdC RwC Yd Ze Zh
def Ix(n:Nat):List UInt8:=(((((((((((((((putS [[108,100,32,114,50,44,32,114,49,44,32,48]])++(rep (n-1) fun i=>[sayS [108,100,32,114,52,44,32,114,49,44,32,37,100] [(i:Int)+1],[111,114,32,114,50,44,32,114,52]]))++(putS [[108,100,105,32,114,52,44,32,48],[99,109,112,32,114,50,44,32,114,52],[106,110,122,32,46,111,107],[116,114,97,112,32,49],[46,111,107,58],[108,100,105,32,114,50,44,32,48]]))++(rep (n) fun i=>[[112,117,115,104,32,114,50]]))++(putS [sayS [108,100,105,32,114,51,44,32,37,100] [16*(n:Int)],[46,108,111,111,112,58]]))++(Wi n 0 0 [115,104,108] [114,111,108] []))++(Wi n 7 0 [114,111,108] [114,111,108] []))++(putS [[106,99,32,46,116,97,107,101]]))++(Q0 n 7 1 0 [99,109,112] [99,112,99] false))++(putS [[106,99,32,46,110,101,120,116],[46,116,97,107,101,58]]))++(Q0 n 7 1 0 [115,117,98] [115,98,99] true))++(putS [[108,100,32,114,50,44,32,114,48,44,32,48],[108,100,105,32,114,52,44,32,49],[111,114,32,114,50,44,32,114,52],[115,116,32,114,48,44,32,114,50,44,32,48],[46,110,101,120,116,58]]))++(Pl))++([]))++(Q3 ((n:Int))))
set_option maxHeartbeats 16000000 in
set_option maxRecDepth 100000 in
theorem Zhz{G:Nat}{H:Nat→Option Obj}(hM:Yn G H)(hH:Z4 G H)(n:Nat)(hn:1≤n∧n≤100)(acc:List UInt8)(hb:acc.length+(Ix n).length≤100000):
 GCp G H Tryz.prog 91 ([.a (.loc 0 0)]++[.a (.bool false)]) [(0,.cells 132 [.loc 0 0,.ref 1,.int .i64 (n:Int)]),(1,.row 5 (.int .u8) (bytesI (acc)))] 2 [0] (.tup []) [(0,.cells 132 [.loc 0 0,.ref 2,.int .i64 (n:Int)]),(2,.row 5 (.int .u8) (bytesI (acc++Ix n)))] 3:=by
 unfold Ix at*
 simp only[List.length_append]at hb
 have hm16:IntKind.i64.wrap (16*(n:Int))=16*(n:Int):=Zk (by omega) (by omega)
 have hm2:IntKind.i64.wrap (2*(n:Int))=2*(n:Int):=Zk (by omega) (by omega)
 have hm1:IntKind.i64.wrap ((n:Int)-1)=(n:Int)-1:=Zk (by omega) (by omega)
 have hp1:IntKind.i64.wrap ((n:Int)+1)=(n:Int)+1:=Zk (by omega) (by omega)
 have hP0:=Zs (n:Int) (acc) [[108,100,32,114,50,44,32,114,49,44,32,48]] (by omega) (by simp)
 generalize putS [[108,100,32,114,50,44,32,114,49,44,32,48]]=p0 at*
 refine T2.fn.gcp (by simp) (by simp[Zu,Zw,Zv,Zj,Zf,Vc.S1.okN,At.okN,SV.okN,Res.okN,Res.outOk,Zo,Res.own,Value.oneCell']) fun w X fr hglob=> ?_
 repeat'(first|(first|refine Stp.h ?_|(refine Za.gc hP0 ?_ ?_;focus simp[Zb];done))<;>try simp only[Zc,simprocAttr,↓reduceIte,reduceCtorEq,implies_true,hm16,hm2,hm1,hp1,Bool.not_true,Bool.not_false,Int.ofNat_lt]|(with_reducible first|assumption|refine And.intro ?_ ?_)|(intro h;first|omega|exact tg h ‹_›|exact tg ‹_› h|skip))
 all_goals first|omega|(simp only[List.length_append,List.length_cons,List.length_nil];omega)|skip
 have hAl1:((acc)++p0).length=((acc)++p0).length:=rfl
 conv at hAl1=>rhs;simp only[List.length_append]
 generalize hA1:(acc)++p0=a1 at*
 refine T.loop (ι:= {k:Nat//k≤n-1})
  (fun x=>⟨[(4,.one (.a (.int .i64 ((x.1:Int)+1)))),(0,.one (.a (.loc 0 0))),(1,.one (.a (.bool false))),(1000000,.one (.a (.ref 0)))],
    [(0,.cells 132 [.loc 0 0,.ref 1,.int .i64 (n:Int)]),(1,.row 5 (.int .u8) (bytesI (a1++rep x.1 fun i=>[sayS [108,100,32,114,52,44,32,114,49,44,32,37,100] [(i:Int)+1],[111,114,32,114,50,44,32,114,52]])))],2⟩) (fun x=>n-1-x.1) ⟨0,by simp⟩ (Ent.mk1 (fun n=>if n=1 then 3 else n) (by simp[Zt,rep,hA1])) ?_
 rintro⟨k,hk⟩
 simp only
 by_cases hlt:k<n-1
 ·have hmono:=Va (fun i=>[sayS [108,100,32,114,52,44,32,114,49,44,32,37,100] [(i:Int)+1],[111,114,32,114,50,44,32,114,52]]) (show k+1≤n-1 from hlt)
  rw[Ys]at hmono
  simp only[List.length_append]at hmono
  have ha2:a1++rep (k+1) (fun i=>[sayS [108,100,32,114,52,44,32,114,49,44,32,37,100] [(i:Int)+1],[111,114,32,114,50,44,32,114,52]])=(a1++rep k (fun i=>[sayS [108,100,32,114,52,44,32,114,49,44,32,37,100] [(i:Int)+1],[111,114,32,114,50,44,32,114,52]]))++putS [sayS [108,100,32,114,52,44,32,114,49,44,32,37,100] [(k:Int)+1],[111,114,32,114,50,44,32,114,52]]:=by rw[Ys,List.append_assoc]
  have hac:(a1++rep k (fun i=>[sayS [108,100,32,114,52,44,32,114,49,44,32,37,100] [(i:Int)+1],[111,114,32,114,50,44,32,114,52]])).length=a1.length+(rep k (fun i=>[sayS [108,100,32,114,52,44,32,114,49,44,32,37,100] [(i:Int)+1],[111,114,32,114,50,44,32,114,52]])).length:=by simp
  have hw:IntKind.i64.wrap ((k:Int)+1)=((k+1:Nat):Int):=Zx (by omega)
  have hw2:IntKind.i64.wrap ((k:Int)+1+1)=((k+1:Nat):Int)+1:=by have:=Zx (k:=k+1) (by omega);simpa using this
  have hlt2:((k:Nat):Int)+1<(n:Int):=by omega
  generalize hacc:a1++rep k (fun i=>[sayS [108,100,32,114,52,44,32,114,49,44,32,37,100] [(i:Int)+1],[111,114,32,114,50,44,32,114,52]])=a at*
  generalize rep k (fun i=>[sayS [108,100,32,114,52,44,32,114,49,44,32,37,100] [(i:Int)+1],[111,114,32,114,50,44,32,114,52]])=pre at*
  have hS0:=Yl hM hH [108,100,32,114,52,44,32,114,49,44,32,37,100] [(k:Int)+1] (by simp;omega) (by simp) (by simp)
  generalize sayS [108,100,32,114,52,44,32,114,49,44,32,37,100] [(k:Int)+1]=z0 at*
  have hP:=Zs (n:Int) a [z0,[111,114,32,114,50,44,32,114,52]] (by omega) (by simp)
  repeat'(first|(first|refine Stp.h ?_|(refine Za.gcp hglob hS0 ?_ ?_;focus simp[Zb];done)|(refine Za.gc hP ?_ ?_;focus simp[Zb];done))<;>try simp only[Zc,simprocAttr,↓reduceIte,reduceCtorEq,implies_true,hlt2,hw,hw2,hm16,hm2,hm1,hp1,Bool.not_true,Bool.not_false,Int.ofNat_lt]|(with_reducible first|assumption|refine And.intro ?_ ?_)|(intro h;first|omega|exact tg h ‹_›|exact tg ‹_› h|skip))
  all_goals first|omega|(simp only[List.length_append,List.length_cons,List.length_nil];omega)|skip
  exact⟨⟨k+1,hlt⟩,(Ent.mk1 (fun n=>if n=1 then 4 else n) (by simp[Zt,ha2,hw,hw2])),by simp only;omega⟩
 have hk2:n-1=k:=by omega
 subst hk2
 have hnl:¬(((n-1:Nat):Int)+1)<(n:Int):=by omega
 clear hlt hk
 generalize (rep (n-1) fun i=>[sayS [108,100,32,114,52,44,32,114,49,44,32,37,100] [(i:Int)+1],[111,114,32,114,50,44,32,114,52]])=p1 at*
 have hP2:=Zs (n:Int) (a1++p1) [[108,100,105,32,114,52,44,32,48],[99,109,112,32,114,50,44,32,114,52],[106,110,122,32,46,111,107],[116,114,97,112,32,49],[46,111,107,58],[108,100,105,32,114,50,44,32,48]] (by simp only[List.length_append];omega) (by simp)
 generalize putS [[108,100,105,32,114,52,44,32,48],[99,109,112,32,114,50,44,32,114,52],[106,110,122,32,46,111,107],[116,114,97,112,32,49],[46,111,107,58],[108,100,105,32,114,50,44,32,48]]=p2 at*
 repeat'(first|(first|refine Stp.h ?_|(refine Za.gc hP2 ?_ ?_;focus simp[Zb];done))<;>try simp only[Zc,simprocAttr,↓reduceIte,reduceCtorEq,implies_true,hnl,hm16,hm2,hm1,hp1,Bool.not_true,Bool.not_false,Int.ofNat_lt]|(with_reducible first|assumption|refine And.intro ?_ ?_)|(intro h;first|omega|exact tg h ‹_›|exact tg ‹_› h|skip))
 all_goals first|omega|(simp only[List.length_append,List.length_cons,List.length_nil];omega)|skip
 have hAl3:((a1++p1)++p2).length=((a1++p1)++p2).length:=rfl
 conv at hAl3=>rhs;simp only[List.length_append]
 generalize hA3:(a1++p1)++p2=a3 at*
 refine T.loop (ι:= {k:Nat//k≤n})
  (fun x=>⟨[(30,.one (.a (.int .i64 (x.1:Int)))),(29,.one (.a (.int .i64 (n:Int)))),(0,.one (.a (.loc 0 0))),(1,.one (.a (.bool false))),(1000000,.one (.a (.ref 0)))],
    [(0,.cells 132 [.loc 0 0,.ref 1,.int .i64 (n:Int)]),(1,.row 5 (.int .u8) (bytesI (a3++rep x.1 fun i=>[[112,117,115,104,32,114,50]])))],2⟩) (fun x=>n-x.1) ⟨0,by simp⟩ (Ent.mk1 (fun n=>if n=1 then 3 else n) (by simp[Zt,rep,hA3])) ?_
 rintro⟨k,hk⟩
 simp only
 by_cases hlt:k<n
 ·have hmono:=Va (fun i=>[[112,117,115,104,32,114,50]]) (show k+1≤n from hlt)
  rw[Ys]at hmono
  simp only[List.length_append]at hmono
  have ha2:a3++rep (k+1) (fun i=>[[112,117,115,104,32,114,50]])=(a3++rep k (fun i=>[[112,117,115,104,32,114,50]]))++putS [[112,117,115,104,32,114,50]]:=by rw[Ys,List.append_assoc]
  have hac:(a3++rep k (fun i=>[[112,117,115,104,32,114,50]])).length=a3.length+(rep k (fun i=>[[112,117,115,104,32,114,50]])).length:=by simp
  have hw:IntKind.i64.wrap ((k:Int)+1)=((k+1:Nat):Int):=Zx (by omega)
  have hw2:IntKind.i64.wrap ((k:Int)+1+1)=((k+1:Nat):Int)+1:=by have:=Zx (k:=k+1) (by omega);simpa using this
  have hlt2:((k:Nat):Int)<(n:Int):=by omega
  generalize hacc:a3++rep k (fun i=>[[112,117,115,104,32,114,50]])=a at*
  generalize rep k (fun i=>[[112,117,115,104,32,114,50]])=pre at*
  have hP:=Zs (n:Int) a [[112,117,115,104,32,114,50]] (by omega) (by simp)
  repeat'(first|(first|refine Stp.h ?_|(refine Za.gc hP ?_ ?_;focus simp[Zb];done))<;>try simp only[Zc,simprocAttr,↓reduceIte,reduceCtorEq,implies_true,hlt2,hw,hw2,hm16,hm2,hm1,hp1,Bool.not_true,Bool.not_false,Int.ofNat_lt]|(with_reducible first|assumption|refine And.intro ?_ ?_)|(intro h;first|omega|exact tg h ‹_›|exact tg ‹_› h|skip))
  all_goals first|omega|(simp only[List.length_append,List.length_cons,List.length_nil];omega)|skip
  exact⟨⟨k+1,hlt⟩,(Ent.mk1 (fun n=>if n=1 then 3 else n) (by simp[Zt,ha2,hw,hw2])),by simp only;omega⟩
 have hk2:n=k:=by omega
 subst hk2
 have hnl:¬(((n:Nat):Int))<(n:Int):=by omega
 clear hlt hk
 generalize (rep (n) fun i=>[[112,117,115,104,32,114,50]])=p3 at*
 have hSz4_0:=Yl hM hH [108,100,105,32,114,51,44,32,37,100] [16*(n:Int)] (by simp;omega) (by simp) (by simp)
 generalize sayS [108,100,105,32,114,51,44,32,37,100] [16*(n:Int)]=z4_0 at*
 have hP4:=Zs (n:Int) (a3++p3) [z4_0,[46,108,111,111,112,58]] (by simp only[List.length_append];omega) (by simp)
 generalize putS [z4_0,[46,108,111,111,112,58]]=p4 at*
 have hP5:=Tg hM hH n (by omega) 0 0 [115,104,108] [114,111,108] [] (by omega) (by omega) (by simp) (by simp) (by simp) ((a3++p3)++p4) (by first|omega|(simp only[List.length_append];omega))
 generalize hgp5:(Wi n 0 0 [115,104,108] [114,111,108] [])=p5 at*
 have hP6:=Tg hM hH n (by omega) 7 0 [114,111,108] [114,111,108] [] (by omega) (by omega) (by simp) (by simp) (by simp) (((a3++p3)++p4)++p5) (by first|omega|(simp only[List.length_append];omega))
 generalize hgp6:(Wi n 7 0 [114,111,108] [114,111,108] [])=p6 at*
 have hP7:=Zs (n:Int) ((((a3++p3)++p4)++p5)++p6) [[106,99,32,46,116,97,107,101]] (by simp only[List.length_append];omega) (by simp)
 generalize putS [[106,99,32,46,116,97,107,101]]=p7 at*
 have hP8:=Ol hM hH n (by omega) 7 1 0 [99,109,112] [99,112,99] false (by omega) (by omega) (by omega) (by simp) (by simp) (((((a3++p3)++p4)++p5)++p6)++p7) (by first|omega|(simp only[List.length_append];omega))
 generalize hgp8:(Q0 n 7 1 0 [99,109,112] [99,112,99] false)=p8 at*
 have hP9:=Zs (n:Int) ((((((a3++p3)++p4)++p5)++p6)++p7)++p8) [[106,99,32,46,110,101,120,116],[46,116,97,107,101,58]] (by simp only[List.length_append];omega) (by simp)
 generalize putS [[106,99,32,46,110,101,120,116],[46,116,97,107,101,58]]=p9 at*
 have hP10:=Ol hM hH n (by omega) 7 1 0 [115,117,98] [115,98,99] true (by omega) (by omega) (by omega) (by simp) (by simp) (((((((a3++p3)++p4)++p5)++p6)++p7)++p8)++p9) (by first|omega|(simp only[List.length_append];omega))
 generalize hgp10:(Q0 n 7 1 0 [115,117,98] [115,98,99] true)=p10 at*
 have hP11:=Zs (n:Int) ((((((((a3++p3)++p4)++p5)++p6)++p7)++p8)++p9)++p10) [[108,100,32,114,50,44,32,114,48,44,32,48],[108,100,105,32,114,52,44,32,49],[111,114,32,114,50,44,32,114,52],[115,116,32,114,48,44,32,114,50,44,32,48],[46,110,101,120,116,58]] (by simp only[List.length_append];omega) (by simp)
 generalize putS [[108,100,32,114,50,44,32,114,48,44,32,48],[108,100,105,32,114,52,44,32,49],[111,114,32,114,50,44,32,114,52],[115,116,32,114,48,44,32,114,50,44,32,48],[46,110,101,120,116,58]]=p11 at*
 have hP12:=Lu hM hH n (((((((((a3++p3)++p4)++p5)++p6)++p7)++p8)++p9)++p10)++p11) (by first|omega|(simp only[List.length_append];omega))
 generalize hgp12:(Pl)=p12 at*
 repeat'(first|(first|refine Stp.h ?_|(refine Za.gcp hglob hSz4_0 ?_ ?_;focus simp[Zb];done)|(refine Za.gc hP4 ?_ ?_;focus simp[Zb];done)|(refine Za.gcp hglob hP5 ?_ ?_;focus simp[Zb];done)|(refine Za.gcp hglob hP6 ?_ ?_;focus simp[Zb];done)|(refine Za.gc hP7 ?_ ?_;focus simp[Zb];done)|(refine Za.gcp hglob hP8 ?_ ?_;focus simp[Zb];done)|(refine Za.gc hP9 ?_ ?_;focus simp[Zb];done)|(refine Za.gcp hglob hP10 ?_ ?_;focus simp[Zb];done)|(refine Za.gc hP11 ?_ ?_;focus simp[Zb];done)|(refine Za.gcp hglob hP12 ?_ ?_;focus simp[Zb];done))<;>try simp only[Zc,simprocAttr,↓reduceIte,reduceCtorEq,implies_true,hnl,hm16,hm2,hm1,hp1,Bool.not_true,Bool.not_false,Int.ofNat_lt]|(with_reducible first|assumption|refine And.intro ?_ ?_)|(intro h;first|omega|exact tg h ‹_›|exact tg ‹_› h|skip))
 all_goals first|omega|(simp only[List.length_append,List.length_cons,List.length_nil];omega)|skip
 have hAl13:((((((((((a3++p3)++p4)++p5)++p6)++p7)++p8)++p9)++p10)++p11)++p12).length=((((((((((a3++p3)++p4)++p5)++p6)++p7)++p8)++p9)++p10)++p11)++p12).length:=rfl
 conv at hAl13=>rhs;simp only[List.length_append]
 generalize hA13:(((((((((a3++p3)++p4)++p5)++p6)++p7)++p8)++p9)++p10)++p11)++p12=a13 at*
 refine T.loop (ι:=Unit)
  (fun x=>⟨[(5,.one (.a (.int .i64 0))),(0,.one (.a (.loc 0 0))),(1,.one (.a (.bool false))),(1000000,.one (.a (.ref 0)))],
    [(0,.cells 132 [.loc 0 0,.ref 1,.int .i64 (n:Int)]),(1,.row 5 (.int .u8) (bytesI (a13)))],2⟩) (fun x=>0) () (Ent.mk1 (fun n=>if n=1 then 15 else n) (by simp[Zt,hA13])) ?_
 rintro⟨⟩
 try simp only
 have hnl:(0:Int)<(n:Int):=by omega
 have hP14:=Ot hM hH n ((n:Int)) (by omega) (a13) (by first|omega|(simp only[List.length_append];omega))
 generalize hgp14:(Q3 ((n:Int)))=p14 at*
 have hj:(a13)++p14=acc++((((((((((((((p0++p1)++p2)++p3)++p4)++p5)++p6)++p7)++p8)++p9)++p10)++p11)++p12)++[])++p14):=by simp only[←hA13,←hA3,←hA1,List.append_assoc,List.append_nil,List.nil_append]
 rw[hj]at hP14
 repeat'(first|(first|refine Stp.h ?_|(refine Za.gcp hglob hP14 ?_ ?_;focus simp[Zb];done))<;>try simp only[Zc,simprocAttr,↓reduceIte,reduceCtorEq,implies_true,hnl,hm16,hm2,hm1,hp1,Bool.not_true,Bool.not_false,Int.ofNat_lt]|(with_reducible first|assumption|refine And.intro ?_ ?_)|(intro h;first|omega|exact tg h ‹_›|exact tg ‹_› h|skip))
 all_goals first|omega|(simp only[List.length_append,List.length_cons,List.length_nil];omega)|skip
def Iy(n:Nat):List UInt8:=(((((((((((((((putS [[108,100,32,114,50,44,32,114,49,44,32,48]])++(rep (n-1) fun i=>[sayS [108,100,32,114,52,44,32,114,49,44,32,37,100] [(i:Int)+1],[111,114,32,114,50,44,32,114,52]]))++(putS [[108,100,105,32,114,52,44,32,48],[99,109,112,32,114,50,44,32,114,52],[106,110,122,32,46,111,107],[116,114,97,112,32,49],[46,111,107,58],[108,100,105,32,114,50,44,32,48]]))++(rep (n) fun i=>[[112,117,115,104,32,114,50]]))++(putS [sayS [108,100,105,32,114,51,44,32,37,100] [16*(n:Int)],[46,108,111,111,112,58]]))++(Wi n 0 0 [115,104,108] [114,111,108] []))++(Wi n 7 0 [114,111,108] [114,111,108] []))++(putS [[106,99,32,46,116,97,107,101]]))++(Q0 n 7 1 0 [99,109,112] [99,112,99] false))++(putS [[106,99,32,46,110,101,120,116],[46,116,97,107,101,58]]))++(Q0 n 7 1 0 [115,117,98] [115,98,99] true))++(putS [[108,100,32,114,50,44,32,114,48,44,32,48],[108,100,105,32,114,52,44,32,49],[111,114,32,114,50,44,32,114,52],[115,116,32,114,48,44,32,114,50,44,32,48],[46,110,101,120,116,58]]))++(Pl))++(rep (n) fun i=>[sayS [108,100,32,114,50,44,32,114,55,44,32,37,100] [(i:Int)],sayS [115,116,32,114,48,44,32,114,50,44,32,37,100] [(i:Int)]]))++(Q3 ((n:Int))))
set_option maxHeartbeats 16000000 in
set_option maxRecDepth 100000 in
theorem Zh0{G:Nat}{H:Nat→Option Obj}(hM:Yn G H)(hH:Z4 G H)(n:Nat)(hn:1≤n∧n≤100)(acc:List UInt8)(hb:acc.length+(Iy n).length≤100000):
 GCp G H Tryz.prog 91 ([.a (.loc 0 0)]++[.a (.bool true)]) [(0,.cells 132 [.loc 0 0,.ref 1,.int .i64 (n:Int)]),(1,.row 5 (.int .u8) (bytesI (acc)))] 2 [0] (.tup []) [(0,.cells 132 [.loc 0 0,.ref 2,.int .i64 (n:Int)]),(2,.row 5 (.int .u8) (bytesI (acc++Iy n)))] 3:=by
 unfold Iy at*
 simp only[List.length_append]at hb
 have hm16:IntKind.i64.wrap (16*(n:Int))=16*(n:Int):=Zk (by omega) (by omega)
 have hm2:IntKind.i64.wrap (2*(n:Int))=2*(n:Int):=Zk (by omega) (by omega)
 have hm1:IntKind.i64.wrap ((n:Int)-1)=(n:Int)-1:=Zk (by omega) (by omega)
 have hp1:IntKind.i64.wrap ((n:Int)+1)=(n:Int)+1:=Zk (by omega) (by omega)
 have hP0:=Zs (n:Int) (acc) [[108,100,32,114,50,44,32,114,49,44,32,48]] (by omega) (by simp)
 generalize putS [[108,100,32,114,50,44,32,114,49,44,32,48]]=p0 at*
 refine T2.fn.gcp (by simp) (by simp[Zu,Zw,Zv,Zj,Zf,Vc.S1.okN,At.okN,SV.okN,Res.okN,Res.outOk,Zo,Res.own,Value.oneCell']) fun w X fr hglob=> ?_
 repeat'(first|(first|refine Stp.h ?_|(refine Za.gc hP0 ?_ ?_;focus simp[Zb];done))<;>try simp only[Zc,simprocAttr,↓reduceIte,reduceCtorEq,implies_true,hm16,hm2,hm1,hp1,Bool.not_true,Bool.not_false,Int.ofNat_lt]|(with_reducible first|assumption|refine And.intro ?_ ?_)|(intro h;first|omega|exact tg h ‹_›|exact tg ‹_› h|skip))
 all_goals first|omega|(simp only[List.length_append,List.length_cons,List.length_nil];omega)|skip
 have hAl1:((acc)++p0).length=((acc)++p0).length:=rfl
 conv at hAl1=>rhs;simp only[List.length_append]
 generalize hA1:(acc)++p0=a1 at*
 refine T.loop (ι:= {k:Nat//k≤n-1})
  (fun x=>⟨[(4,.one (.a (.int .i64 ((x.1:Int)+1)))),(0,.one (.a (.loc 0 0))),(1,.one (.a (.bool true))),(1000000,.one (.a (.ref 0)))],
    [(0,.cells 132 [.loc 0 0,.ref 1,.int .i64 (n:Int)]),(1,.row 5 (.int .u8) (bytesI (a1++rep x.1 fun i=>[sayS [108,100,32,114,52,44,32,114,49,44,32,37,100] [(i:Int)+1],[111,114,32,114,50,44,32,114,52]])))],2⟩) (fun x=>n-1-x.1) ⟨0,by simp⟩ (Ent.mk1 (fun n=>if n=1 then 3 else n) (by simp[Zt,rep,hA1])) ?_
 rintro⟨k,hk⟩
 simp only
 by_cases hlt:k<n-1
 ·have hmono:=Va (fun i=>[sayS [108,100,32,114,52,44,32,114,49,44,32,37,100] [(i:Int)+1],[111,114,32,114,50,44,32,114,52]]) (show k+1≤n-1 from hlt)
  rw[Ys]at hmono
  simp only[List.length_append]at hmono
  have ha2:a1++rep (k+1) (fun i=>[sayS [108,100,32,114,52,44,32,114,49,44,32,37,100] [(i:Int)+1],[111,114,32,114,50,44,32,114,52]])=(a1++rep k (fun i=>[sayS [108,100,32,114,52,44,32,114,49,44,32,37,100] [(i:Int)+1],[111,114,32,114,50,44,32,114,52]]))++putS [sayS [108,100,32,114,52,44,32,114,49,44,32,37,100] [(k:Int)+1],[111,114,32,114,50,44,32,114,52]]:=by rw[Ys,List.append_assoc]
  have hac:(a1++rep k (fun i=>[sayS [108,100,32,114,52,44,32,114,49,44,32,37,100] [(i:Int)+1],[111,114,32,114,50,44,32,114,52]])).length=a1.length+(rep k (fun i=>[sayS [108,100,32,114,52,44,32,114,49,44,32,37,100] [(i:Int)+1],[111,114,32,114,50,44,32,114,52]])).length:=by simp
  have hw:IntKind.i64.wrap ((k:Int)+1)=((k+1:Nat):Int):=Zx (by omega)
  have hw2:IntKind.i64.wrap ((k:Int)+1+1)=((k+1:Nat):Int)+1:=by have:=Zx (k:=k+1) (by omega);simpa using this
  have hlt2:((k:Nat):Int)+1<(n:Int):=by omega
  generalize hacc:a1++rep k (fun i=>[sayS [108,100,32,114,52,44,32,114,49,44,32,37,100] [(i:Int)+1],[111,114,32,114,50,44,32,114,52]])=a at*
  generalize rep k (fun i=>[sayS [108,100,32,114,52,44,32,114,49,44,32,37,100] [(i:Int)+1],[111,114,32,114,50,44,32,114,52]])=pre at*
  have hS0:=Yl hM hH [108,100,32,114,52,44,32,114,49,44,32,37,100] [(k:Int)+1] (by simp;omega) (by simp) (by simp)
  generalize sayS [108,100,32,114,52,44,32,114,49,44,32,37,100] [(k:Int)+1]=z0 at*
  have hP:=Zs (n:Int) a [z0,[111,114,32,114,50,44,32,114,52]] (by omega) (by simp)
  repeat'(first|(first|refine Stp.h ?_|(refine Za.gcp hglob hS0 ?_ ?_;focus simp[Zb];done)|(refine Za.gc hP ?_ ?_;focus simp[Zb];done))<;>try simp only[Zc,simprocAttr,↓reduceIte,reduceCtorEq,implies_true,hlt2,hw,hw2,hm16,hm2,hm1,hp1,Bool.not_true,Bool.not_false,Int.ofNat_lt]|(with_reducible first|assumption|refine And.intro ?_ ?_)|(intro h;first|omega|exact tg h ‹_›|exact tg ‹_› h|skip))
  all_goals first|omega|(simp only[List.length_append,List.length_cons,List.length_nil];omega)|skip
  exact⟨⟨k+1,hlt⟩,(Ent.mk1 (fun n=>if n=1 then 4 else n) (by simp[Zt,ha2,hw,hw2])),by simp only;omega⟩
 have hk2:n-1=k:=by omega
 subst hk2
 have hnl:¬(((n-1:Nat):Int)+1)<(n:Int):=by omega
 clear hlt hk
 generalize (rep (n-1) fun i=>[sayS [108,100,32,114,52,44,32,114,49,44,32,37,100] [(i:Int)+1],[111,114,32,114,50,44,32,114,52]])=p1 at*
 have hP2:=Zs (n:Int) (a1++p1) [[108,100,105,32,114,52,44,32,48],[99,109,112,32,114,50,44,32,114,52],[106,110,122,32,46,111,107],[116,114,97,112,32,49],[46,111,107,58],[108,100,105,32,114,50,44,32,48]] (by simp only[List.length_append];omega) (by simp)
 generalize putS [[108,100,105,32,114,52,44,32,48],[99,109,112,32,114,50,44,32,114,52],[106,110,122,32,46,111,107],[116,114,97,112,32,49],[46,111,107,58],[108,100,105,32,114,50,44,32,48]]=p2 at*
 repeat'(first|(first|refine Stp.h ?_|(refine Za.gc hP2 ?_ ?_;focus simp[Zb];done))<;>try simp only[Zc,simprocAttr,↓reduceIte,reduceCtorEq,implies_true,hnl,hm16,hm2,hm1,hp1,Bool.not_true,Bool.not_false,Int.ofNat_lt]|(with_reducible first|assumption|refine And.intro ?_ ?_)|(intro h;first|omega|exact tg h ‹_›|exact tg ‹_› h|skip))
 all_goals first|omega|(simp only[List.length_append,List.length_cons,List.length_nil];omega)|skip
 have hAl3:((a1++p1)++p2).length=((a1++p1)++p2).length:=rfl
 conv at hAl3=>rhs;simp only[List.length_append]
 generalize hA3:(a1++p1)++p2=a3 at*
 refine T.loop (ι:= {k:Nat//k≤n})
  (fun x=>⟨[(30,.one (.a (.int .i64 (x.1:Int)))),(29,.one (.a (.int .i64 (n:Int)))),(0,.one (.a (.loc 0 0))),(1,.one (.a (.bool true))),(1000000,.one (.a (.ref 0)))],
    [(0,.cells 132 [.loc 0 0,.ref 1,.int .i64 (n:Int)]),(1,.row 5 (.int .u8) (bytesI (a3++rep x.1 fun i=>[[112,117,115,104,32,114,50]])))],2⟩) (fun x=>n-x.1) ⟨0,by simp⟩ (Ent.mk1 (fun n=>if n=1 then 3 else n) (by simp[Zt,rep,hA3])) ?_
 rintro⟨k,hk⟩
 simp only
 by_cases hlt:k<n
 ·have hmono:=Va (fun i=>[[112,117,115,104,32,114,50]]) (show k+1≤n from hlt)
  rw[Ys]at hmono
  simp only[List.length_append]at hmono
  have ha2:a3++rep (k+1) (fun i=>[[112,117,115,104,32,114,50]])=(a3++rep k (fun i=>[[112,117,115,104,32,114,50]]))++putS [[112,117,115,104,32,114,50]]:=by rw[Ys,List.append_assoc]
  have hac:(a3++rep k (fun i=>[[112,117,115,104,32,114,50]])).length=a3.length+(rep k (fun i=>[[112,117,115,104,32,114,50]])).length:=by simp
  have hw:IntKind.i64.wrap ((k:Int)+1)=((k+1:Nat):Int):=Zx (by omega)
  have hw2:IntKind.i64.wrap ((k:Int)+1+1)=((k+1:Nat):Int)+1:=by have:=Zx (k:=k+1) (by omega);simpa using this
  have hlt2:((k:Nat):Int)<(n:Int):=by omega
  generalize hacc:a3++rep k (fun i=>[[112,117,115,104,32,114,50]])=a at*
  generalize rep k (fun i=>[[112,117,115,104,32,114,50]])=pre at*
  have hP:=Zs (n:Int) a [[112,117,115,104,32,114,50]] (by omega) (by simp)
  repeat'(first|(first|refine Stp.h ?_|(refine Za.gc hP ?_ ?_;focus simp[Zb];done))<;>try simp only[Zc,simprocAttr,↓reduceIte,reduceCtorEq,implies_true,hlt2,hw,hw2,hm16,hm2,hm1,hp1,Bool.not_true,Bool.not_false,Int.ofNat_lt]|(with_reducible first|assumption|refine And.intro ?_ ?_)|(intro h;first|omega|exact tg h ‹_›|exact tg ‹_› h|skip))
  all_goals first|omega|(simp only[List.length_append,List.length_cons,List.length_nil];omega)|skip
  exact⟨⟨k+1,hlt⟩,(Ent.mk1 (fun n=>if n=1 then 3 else n) (by simp[Zt,ha2,hw,hw2])),by simp only;omega⟩
 have hk2:n=k:=by omega
 subst hk2
 have hnl:¬(((n:Nat):Int))<(n:Int):=by omega
 clear hlt hk
 generalize (rep (n) fun i=>[[112,117,115,104,32,114,50]])=p3 at*
 have hSz4_0:=Yl hM hH [108,100,105,32,114,51,44,32,37,100] [16*(n:Int)] (by simp;omega) (by simp) (by simp)
 generalize sayS [108,100,105,32,114,51,44,32,37,100] [16*(n:Int)]=z4_0 at*
 have hP4:=Zs (n:Int) (a3++p3) [z4_0,[46,108,111,111,112,58]] (by simp only[List.length_append];omega) (by simp)
 generalize putS [z4_0,[46,108,111,111,112,58]]=p4 at*
 have hP5:=Tg hM hH n (by omega) 0 0 [115,104,108] [114,111,108] [] (by omega) (by omega) (by simp) (by simp) (by simp) ((a3++p3)++p4) (by first|omega|(simp only[List.length_append];omega))
 generalize hgp5:(Wi n 0 0 [115,104,108] [114,111,108] [])=p5 at*
 have hP6:=Tg hM hH n (by omega) 7 0 [114,111,108] [114,111,108] [] (by omega) (by omega) (by simp) (by simp) (by simp) (((a3++p3)++p4)++p5) (by first|omega|(simp only[List.length_append];omega))
 generalize hgp6:(Wi n 7 0 [114,111,108] [114,111,108] [])=p6 at*
 have hP7:=Zs (n:Int) ((((a3++p3)++p4)++p5)++p6) [[106,99,32,46,116,97,107,101]] (by simp only[List.length_append];omega) (by simp)
 generalize putS [[106,99,32,46,116,97,107,101]]=p7 at*
 have hP8:=Ol hM hH n (by omega) 7 1 0 [99,109,112] [99,112,99] false (by omega) (by omega) (by omega) (by simp) (by simp) (((((a3++p3)++p4)++p5)++p6)++p7) (by first|omega|(simp only[List.length_append];omega))
 generalize hgp8:(Q0 n 7 1 0 [99,109,112] [99,112,99] false)=p8 at*
 have hP9:=Zs (n:Int) ((((((a3++p3)++p4)++p5)++p6)++p7)++p8) [[106,99,32,46,110,101,120,116],[46,116,97,107,101,58]] (by simp only[List.length_append];omega) (by simp)
 generalize putS [[106,99,32,46,110,101,120,116],[46,116,97,107,101,58]]=p9 at*
 have hP10:=Ol hM hH n (by omega) 7 1 0 [115,117,98] [115,98,99] true (by omega) (by omega) (by omega) (by simp) (by simp) (((((((a3++p3)++p4)++p5)++p6)++p7)++p8)++p9) (by first|omega|(simp only[List.length_append];omega))
 generalize hgp10:(Q0 n 7 1 0 [115,117,98] [115,98,99] true)=p10 at*
 have hP11:=Zs (n:Int) ((((((((a3++p3)++p4)++p5)++p6)++p7)++p8)++p9)++p10) [[108,100,32,114,50,44,32,114,48,44,32,48],[108,100,105,32,114,52,44,32,49],[111,114,32,114,50,44,32,114,52],[115,116,32,114,48,44,32,114,50,44,32,48],[46,110,101,120,116,58]] (by simp only[List.length_append];omega) (by simp)
 generalize putS [[108,100,32,114,50,44,32,114,48,44,32,48],[108,100,105,32,114,52,44,32,49],[111,114,32,114,50,44,32,114,52],[115,116,32,114,48,44,32,114,50,44,32,48],[46,110,101,120,116,58]]=p11 at*
 have hP12:=Lu hM hH n (((((((((a3++p3)++p4)++p5)++p6)++p7)++p8)++p9)++p10)++p11) (by first|omega|(simp only[List.length_append];omega))
 generalize hgp12:(Pl)=p12 at*
 repeat'(first|(first|refine Stp.h ?_|(refine Za.gcp hglob hSz4_0 ?_ ?_;focus simp[Zb];done)|(refine Za.gc hP4 ?_ ?_;focus simp[Zb];done)|(refine Za.gcp hglob hP5 ?_ ?_;focus simp[Zb];done)|(refine Za.gcp hglob hP6 ?_ ?_;focus simp[Zb];done)|(refine Za.gc hP7 ?_ ?_;focus simp[Zb];done)|(refine Za.gcp hglob hP8 ?_ ?_;focus simp[Zb];done)|(refine Za.gc hP9 ?_ ?_;focus simp[Zb];done)|(refine Za.gcp hglob hP10 ?_ ?_;focus simp[Zb];done)|(refine Za.gc hP11 ?_ ?_;focus simp[Zb];done)|(refine Za.gcp hglob hP12 ?_ ?_;focus simp[Zb];done))<;>try simp only[Zc,simprocAttr,↓reduceIte,reduceCtorEq,implies_true,hnl,hm16,hm2,hm1,hp1,Bool.not_true,Bool.not_false,Int.ofNat_lt]|(with_reducible first|assumption|refine And.intro ?_ ?_)|(intro h;first|omega|exact tg h ‹_›|exact tg ‹_› h|skip))
 all_goals first|omega|(simp only[List.length_append,List.length_cons,List.length_nil];omega)|skip
 have hAl13:((((((((((a3++p3)++p4)++p5)++p6)++p7)++p8)++p9)++p10)++p11)++p12).length=((((((((((a3++p3)++p4)++p5)++p6)++p7)++p8)++p9)++p10)++p11)++p12).length:=rfl
 conv at hAl13=>rhs;simp only[List.length_append]
 generalize hA13:(((((((((a3++p3)++p4)++p5)++p6)++p7)++p8)++p9)++p10)++p11)++p12=a13 at*
 refine T.loop (ι:= {k:Nat//k≤n})
  (fun x=>⟨[(5,.one (.a (.int .i64 (x.1:Int)))),(0,.one (.a (.loc 0 0))),(1,.one (.a (.bool true))),(1000000,.one (.a (.ref 0)))],
    [(0,.cells 132 [.loc 0 0,.ref 1,.int .i64 (n:Int)]),(1,.row 5 (.int .u8) (bytesI (a13++rep x.1 fun i=>[sayS [108,100,32,114,50,44,32,114,55,44,32,37,100] [(i:Int)],sayS [115,116,32,114,48,44,32,114,50,44,32,37,100] [(i:Int)]])))],2⟩) (fun x=>n-x.1) ⟨0,by simp⟩ (Ent.mk1 (fun n=>if n=1 then 15 else n) (by simp[Zt,rep,hA13])) ?_
 rintro⟨k,hk⟩
 simp only
 by_cases hlt:k<n
 ·have hmono:=Va (fun i=>[sayS [108,100,32,114,50,44,32,114,55,44,32,37,100] [(i:Int)],sayS [115,116,32,114,48,44,32,114,50,44,32,37,100] [(i:Int)]]) (show k+1≤n from hlt)
  rw[Ys]at hmono
  simp only[List.length_append]at hmono
  have ha2:a13++rep (k+1) (fun i=>[sayS [108,100,32,114,50,44,32,114,55,44,32,37,100] [(i:Int)],sayS [115,116,32,114,48,44,32,114,50,44,32,37,100] [(i:Int)]])=(a13++rep k (fun i=>[sayS [108,100,32,114,50,44,32,114,55,44,32,37,100] [(i:Int)],sayS [115,116,32,114,48,44,32,114,50,44,32,37,100] [(i:Int)]]))++putS [sayS [108,100,32,114,50,44,32,114,55,44,32,37,100] [(k:Int)],sayS [115,116,32,114,48,44,32,114,50,44,32,37,100] [(k:Int)]]:=by rw[Ys,List.append_assoc]
  have hac:(a13++rep k (fun i=>[sayS [108,100,32,114,50,44,32,114,55,44,32,37,100] [(i:Int)],sayS [115,116,32,114,48,44,32,114,50,44,32,37,100] [(i:Int)]])).length=a13.length+(rep k (fun i=>[sayS [108,100,32,114,50,44,32,114,55,44,32,37,100] [(i:Int)],sayS [115,116,32,114,48,44,32,114,50,44,32,37,100] [(i:Int)]])).length:=by simp
  have hw:IntKind.i64.wrap ((k:Int)+1)=((k+1:Nat):Int):=Zx (by omega)
  have hw2:IntKind.i64.wrap ((k:Int)+1+1)=((k+1:Nat):Int)+1:=by have:=Zx (k:=k+1) (by omega);simpa using this
  have hlt2:((k:Nat):Int)<(n:Int):=by omega
  generalize hacc:a13++rep k (fun i=>[sayS [108,100,32,114,50,44,32,114,55,44,32,37,100] [(i:Int)],sayS [115,116,32,114,48,44,32,114,50,44,32,37,100] [(i:Int)]])=a at*
  generalize rep k (fun i=>[sayS [108,100,32,114,50,44,32,114,55,44,32,37,100] [(i:Int)],sayS [115,116,32,114,48,44,32,114,50,44,32,37,100] [(i:Int)]])=pre at*
  have hS0:=Yl hM hH [108,100,32,114,50,44,32,114,55,44,32,37,100] [(k:Int)] (by simp;omega) (by simp) (by simp)
  have hS1:=Yl hM hH [115,116,32,114,48,44,32,114,50,44,32,37,100] [(k:Int)] (by simp;omega) (by simp) (by simp)
  generalize sayS [108,100,32,114,50,44,32,114,55,44,32,37,100] [(k:Int)]=z0 at*
  generalize sayS [115,116,32,114,48,44,32,114,50,44,32,37,100] [(k:Int)]=z1 at*
  have hP:=Zs (n:Int) a [z0,z1] (by omega) (by simp)
  repeat'(first|(first|refine Stp.h ?_|(refine Za.gcp hglob hS0 ?_ ?_;focus simp[Zb];done)|(refine Za.gcp hglob hS1 ?_ ?_;focus simp[Zb];done)|(refine Za.gc hP ?_ ?_;focus simp[Zb];done))<;>try simp only[Zc,simprocAttr,↓reduceIte,reduceCtorEq,implies_true,hlt2,hw,hw2,hm16,hm2,hm1,hp1,Bool.not_true,Bool.not_false,Int.ofNat_lt]|(with_reducible first|assumption|refine And.intro ?_ ?_)|(intro h;first|omega|exact tg h ‹_›|exact tg ‹_› h|skip))
  all_goals first|omega|(simp only[List.length_append,List.length_cons,List.length_nil];omega)|skip
  exact⟨⟨k+1,hlt⟩,(Ent.mk1 (fun n=>if n=1 then 5 else n) (by simp[Zt,ha2,hw,hw2])),by simp only;omega⟩
 have hk2:n=k:=by omega
 subst hk2
 have hnl:¬(((n:Nat):Int))<(n:Int):=by omega
 clear hlt hk
 generalize (rep (n) fun i=>[sayS [108,100,32,114,50,44,32,114,55,44,32,37,100] [(i:Int)],sayS [115,116,32,114,48,44,32,114,50,44,32,37,100] [(i:Int)]])=p13 at*
 have hP14:=Ot hM hH n ((n:Int)) (by omega) (a13++p13) (by first|omega|(simp only[List.length_append];omega))
 generalize hgp14:(Q3 ((n:Int)))=p14 at*
 have hj:(a13++p13)++p14=acc++((((((((((((((p0++p1)++p2)++p3)++p4)++p5)++p6)++p7)++p8)++p9)++p10)++p11)++p12)++p13)++p14):=by simp only[←hA13,←hA3,←hA1,List.append_assoc,List.append_nil,List.nil_append]
 rw[hj]at hP14
 repeat'(first|(first|refine Stp.h ?_|(refine Za.gcp hglob hP14 ?_ ?_;focus simp[Zb];done))<;>try simp only[Zc,simprocAttr,↓reduceIte,reduceCtorEq,implies_true,hnl,hm16,hm2,hm1,hp1,Bool.not_true,Bool.not_false,Int.ofNat_lt]|(with_reducible first|assumption|refine And.intro ?_ ?_)|(intro h;first|omega|exact tg h ‹_›|exact tg ‹_› h|skip))
 all_goals first|omega|(simp only[List.length_append,List.length_cons,List.length_nil];omega)|skip
def Rq(n:Nat):List UInt8:=((((((((((((((((putS [sayS [108,100,32,114,53,44,32,114,48,44,32,37,100] [(n:Int)-1]])++(putS [sayS [108,100,32,114,50,44,32,114,49,44,32,37,100] [(n:Int)-1],[120,111,114,32,114,53,44,32,114,50]]))++(putS [[112,117,115,104,32,114,53]]))++(Ut n 1))++(putS [[109,111,118,32,114,49,44,32,114,55]]))++(Xc 1 ((n:Int)-1) [46,111,118,101,114]))++(Vj n 1))++(putS [[46,111,118,101,114,58]]))++(Xc 0 ((n:Int)-1) [46,98,111,116,104]))++(Vj n 0))++(putS [[46,98,111,116,104,58]]))++(putS [sayS [99,97,108,108,32,117,100,105,118,37,100] [(n:Int)]]))++(Xc 7 ((n:Int)) [46,100,111,110,101]))++(Vj n 0))++(putS [[46,100,111,110,101,58]]))++(Q3 ((n:Int)+1)))
set_option maxHeartbeats 16000000 in
set_option maxRecDepth 100000 in
theorem A3{G:Nat}{H:Nat→Option Obj}(hM:Yn G H)(hH:Z4 G H)(n:Nat)(hn:1≤n∧n≤100)(acc:List UInt8)(hb:acc.length+(Rq n).length≤100000):
 GCp G H Tryz.prog 94 ([.a (.loc 0 0)]++[.a (.bool false)]) [(0,.cells 132 [.loc 0 0,.ref 1,.int .i64 (n:Int)]),(1,.row 5 (.int .u8) (bytesI (acc)))] 2 [0] (.tup []) [(0,.cells 132 [.loc 0 0,.ref 2,.int .i64 (n:Int)]),(2,.row 5 (.int .u8) (bytesI (acc++Rq n)))] 3:=by
 unfold Rq at*
 simp only[List.length_append]at hb
 have hm16:IntKind.i64.wrap (16*(n:Int))=16*(n:Int):=Zk (by omega) (by omega)
 have hm2:IntKind.i64.wrap (2*(n:Int))=2*(n:Int):=Zk (by omega) (by omega)
 have hm1:IntKind.i64.wrap ((n:Int)-1)=(n:Int)-1:=Zk (by omega) (by omega)
 have hp1:IntKind.i64.wrap ((n:Int)+1)=(n:Int)+1:=Zk (by omega) (by omega)
 have hSz0_0:=Yl hM hH [108,100,32,114,53,44,32,114,48,44,32,37,100] [(n:Int)-1] (by simp;omega) (by simp) (by simp)
 generalize sayS [108,100,32,114,53,44,32,114,48,44,32,37,100] [(n:Int)-1]=z0_0 at*
 have hP0:=Zs (n:Int) (acc) [z0_0] (by omega) (by simp)
 generalize putS [z0_0]=p0 at*
 have hSz1_1:=Yl hM hH [108,100,32,114,50,44,32,114,49,44,32,37,100] [(n:Int)-1] (by simp;omega) (by simp) (by simp)
 generalize sayS [108,100,32,114,50,44,32,114,49,44,32,37,100] [(n:Int)-1]=z1_1 at*
 have hP1:=Zs (n:Int) ((acc)++p0) [z1_1,[120,111,114,32,114,53,44,32,114,50]] (by simp only[List.length_append];omega) (by simp)
 generalize putS [z1_1,[120,111,114,32,114,53,44,32,114,50]]=p1 at*
 have hP2:=Zs (n:Int) (((acc)++p0)++p1) [[112,117,115,104,32,114,53]] (by simp only[List.length_append];omega) (by simp)
 generalize putS [[112,117,115,104,32,114,53]]=p2 at*
 have hP3:=Pp hM hH n (by omega) 1 (by omega) ((((acc)++p0)++p1)++p2) (by first|omega|(simp only[List.length_append];omega))
 generalize hgp3:(Ut n 1)=p3 at*
 have hP4:=Zs (n:Int) (((((acc)++p0)++p1)++p2)++p3) [[109,111,118,32,114,49,44,32,114,55]] (by simp only[List.length_append];omega) (by simp)
 generalize putS [[109,111,118,32,114,49,44,32,114,55]]=p4 at*
 have hP5:=Vk hM hH n 1 ((n:Int)-1) [46,111,118,101,114] (by omega) (by omega) (by simp) ((((((acc)++p0)++p1)++p2)++p3)++p4) (by first|omega|(simp only[List.length_append];omega))
 generalize hgp5:(Xc 1 ((n:Int)-1) [46,111,118,101,114])=p5 at*
 have hP6:=Tj hM hH n (by omega) 1 (by omega) (((((((acc)++p0)++p1)++p2)++p3)++p4)++p5) (by first|omega|(simp only[List.length_append];omega))
 generalize hgp6:(Vj n 1)=p6 at*
 have hP7:=Zs (n:Int) ((((((((acc)++p0)++p1)++p2)++p3)++p4)++p5)++p6) [[46,111,118,101,114,58]] (by simp only[List.length_append];omega) (by simp)
 generalize putS [[46,111,118,101,114,58]]=p7 at*
 have hP8:=Vk hM hH n 0 ((n:Int)-1) [46,98,111,116,104] (by omega) (by omega) (by simp) (((((((((acc)++p0)++p1)++p2)++p3)++p4)++p5)++p6)++p7) (by first|omega|(simp only[List.length_append];omega))
 generalize hgp8:(Xc 0 ((n:Int)-1) [46,98,111,116,104])=p8 at*
 have hP9:=Tj hM hH n (by omega) 0 (by omega) ((((((((((acc)++p0)++p1)++p2)++p3)++p4)++p5)++p6)++p7)++p8) (by first|omega|(simp only[List.length_append];omega))
 generalize hgp9:(Vj n 0)=p9 at*
 have hP10:=Zs (n:Int) (((((((((((acc)++p0)++p1)++p2)++p3)++p4)++p5)++p6)++p7)++p8)++p9) [[46,98,111,116,104,58]] (by simp only[List.length_append];omega) (by simp)
 generalize putS [[46,98,111,116,104,58]]=p10 at*
 have hSz11_2:=Yl hM hH [99,97,108,108,32,117,100,105,118,37,100] [(n:Int)] (by simp;omega) (by simp) (by simp)
 generalize sayS [99,97,108,108,32,117,100,105,118,37,100] [(n:Int)]=z11_2 at*
 have hP11:=Zs (n:Int) ((((((((((((acc)++p0)++p1)++p2)++p3)++p4)++p5)++p6)++p7)++p8)++p9)++p10) [z11_2] (by simp only[List.length_append];omega) (by simp)
 generalize putS [z11_2]=p11 at*
 have hP12:=Vk hM hH n 7 ((n:Int)) [46,100,111,110,101] (by omega) (by omega) (by simp) (((((((((((((acc)++p0)++p1)++p2)++p3)++p4)++p5)++p6)++p7)++p8)++p9)++p10)++p11) (by first|omega|(simp only[List.length_append];omega))
 generalize hgp12:(Xc 7 ((n:Int)) [46,100,111,110,101])=p12 at*
 have hP13:=Tj hM hH n (by omega) 0 (by omega) ((((((((((((((acc)++p0)++p1)++p2)++p3)++p4)++p5)++p6)++p7)++p8)++p9)++p10)++p11)++p12) (by rw[hgp9];simp only[List.length_append];omega)
 rw[hgp9]at hP13
 have hP14:=Zs (n:Int) (((((((((((((((acc)++p0)++p1)++p2)++p3)++p4)++p5)++p6)++p7)++p8)++p9)++p10)++p11)++p12)++p9) [[46,100,111,110,101,58]] (by simp only[List.length_append];omega) (by simp)
 generalize putS [[46,100,111,110,101,58]]=p14 at*
 have hP15:=Ot hM hH n ((n:Int)+1) (by omega) ((((((((((((((((acc)++p0)++p1)++p2)++p3)++p4)++p5)++p6)++p7)++p8)++p9)++p10)++p11)++p12)++p9)++p14) (by first|omega|(simp only[List.length_append];omega))
 generalize hgp15:(Q3 ((n:Int)+1))=p15 at*
 refine Vz.fn.gcp (by simp) (by simp[Zu,Zw,Zv,Zj,Zf,Vc.S1.okN,At.okN,SV.okN,Res.okN,Res.outOk,Zo,Res.own,Value.oneCell']) fun w X fr hglob=> ?_
 have hj:((((((((((((((((acc)++p0)++p1)++p2)++p3)++p4)++p5)++p6)++p7)++p8)++p9)++p10)++p11)++p12)++p9)++p14)++p15=acc++(((((((((((((((p0++p1)++p2)++p3)++p4)++p5)++p6)++p7)++p8)++p9)++p10)++p11)++p12)++p9)++p14)++p15):=by simp only[List.append_assoc]
 rw[hj]at hP15
 repeat'(first|(first|refine Stp.h ?_|(refine Za.gcp hglob hSz0_0 ?_ ?_;focus simp[Zb];done)|(refine Za.gc hP0 ?_ ?_;focus simp[Zb];done)|(refine Za.gcp hglob hSz1_1 ?_ ?_;focus simp[Zb];done)|(refine Za.gc hP1 ?_ ?_;focus simp[Zb];done)|(refine Za.gc hP2 ?_ ?_;focus simp[Zb];done)|(refine Za.gcp hglob hP3 ?_ ?_;focus simp[Zb];done)|(refine Za.gc hP4 ?_ ?_;focus simp[Zb];done)|(refine Za.gcp hglob hP5 ?_ ?_;focus simp[Zb];done)|(refine Za.gcp hglob hP6 ?_ ?_;focus simp[Zb];done)|(refine Za.gc hP7 ?_ ?_;focus simp[Zb];done)|(refine Za.gcp hglob hP8 ?_ ?_;focus simp[Zb];done)|(refine Za.gcp hglob hP9 ?_ ?_;focus simp[Zb];done)|(refine Za.gc hP10 ?_ ?_;focus simp[Zb];done)|(refine Za.gcp hglob hSz11_2 ?_ ?_;focus simp[Zb];done)|(refine Za.gc hP11 ?_ ?_;focus simp[Zb];done)|(refine Za.gcp hglob hP12 ?_ ?_;focus simp[Zb];done)|(refine Za.gcp hglob hP13 ?_ ?_;focus simp[Zb];done)|(refine Za.gc hP14 ?_ ?_;focus simp[Zb];done)|(refine Za.gcp hglob hP15 ?_ ?_;focus simp[Zb];done))<;>try simp only[Zc,simprocAttr,↓reduceIte,reduceCtorEq,implies_true,hm16,hm2,hm1,hp1,Bool.not_true,Bool.not_false,Int.ofNat_lt]|(with_reducible first|assumption|refine And.intro ?_ ?_)|(intro h;first|omega|exact tg h ‹_›|exact tg ‹_› h|skip))
 all_goals first|omega|(simp only[List.length_append,List.length_cons,List.length_nil];omega)|skip
def Rr(n:Nat):List UInt8:=(((((((((((((((putS [sayS [108,100,32,114,53,44,32,114,48,44,32,37,100] [(n:Int)-1]])++(putS [[112,117,115,104,32,114,53]]))++(Ut n 1))++(putS [[109,111,118,32,114,49,44,32,114,55]]))++(Xc 1 ((n:Int)-1) [46,111,118,101,114]))++(Vj n 1))++(putS [[46,111,118,101,114,58]]))++(Xc 0 ((n:Int)-1) [46,98,111,116,104]))++(Vj n 0))++(putS [[46,98,111,116,104,58]]))++(putS [sayS [99,97,108,108,32,117,114,101,109,37,100] [(n:Int)]]))++(Xc 7 ((n:Int)) [46,100,111,110,101]))++(Vj n 0))++(putS [[46,100,111,110,101,58]]))++(Q3 ((n:Int)+1)))
set_option maxHeartbeats 16000000 in
set_option maxRecDepth 100000 in
theorem A4{G:Nat}{H:Nat→Option Obj}(hM:Yn G H)(hH:Z4 G H)(n:Nat)(hn:1≤n∧n≤100)(acc:List UInt8)(hb:acc.length+(Rr n).length≤100000):
 GCp G H Tryz.prog 94 ([.a (.loc 0 0)]++[.a (.bool true)]) [(0,.cells 132 [.loc 0 0,.ref 1,.int .i64 (n:Int)]),(1,.row 5 (.int .u8) (bytesI (acc)))] 2 [0] (.tup []) [(0,.cells 132 [.loc 0 0,.ref 2,.int .i64 (n:Int)]),(2,.row 5 (.int .u8) (bytesI (acc++Rr n)))] 3:=by
 unfold Rr at*
 simp only[List.length_append]at hb
 have hm16:IntKind.i64.wrap (16*(n:Int))=16*(n:Int):=Zk (by omega) (by omega)
 have hm2:IntKind.i64.wrap (2*(n:Int))=2*(n:Int):=Zk (by omega) (by omega)
 have hm1:IntKind.i64.wrap ((n:Int)-1)=(n:Int)-1:=Zk (by omega) (by omega)
 have hp1:IntKind.i64.wrap ((n:Int)+1)=(n:Int)+1:=Zk (by omega) (by omega)
 have hSz0_0:=Yl hM hH [108,100,32,114,53,44,32,114,48,44,32,37,100] [(n:Int)-1] (by simp;omega) (by simp) (by simp)
 generalize sayS [108,100,32,114,53,44,32,114,48,44,32,37,100] [(n:Int)-1]=z0_0 at*
 have hP0:=Zs (n:Int) (acc) [z0_0] (by omega) (by simp)
 generalize putS [z0_0]=p0 at*
 have hP1:=Zs (n:Int) ((acc)++p0) [[112,117,115,104,32,114,53]] (by simp only[List.length_append];omega) (by simp)
 generalize putS [[112,117,115,104,32,114,53]]=p1 at*
 have hP2:=Pp hM hH n (by omega) 1 (by omega) (((acc)++p0)++p1) (by first|omega|(simp only[List.length_append];omega))
 generalize hgp2:(Ut n 1)=p2 at*
 have hP3:=Zs (n:Int) ((((acc)++p0)++p1)++p2) [[109,111,118,32,114,49,44,32,114,55]] (by simp only[List.length_append];omega) (by simp)
 generalize putS [[109,111,118,32,114,49,44,32,114,55]]=p3 at*
 have hP4:=Vk hM hH n 1 ((n:Int)-1) [46,111,118,101,114] (by omega) (by omega) (by simp) (((((acc)++p0)++p1)++p2)++p3) (by first|omega|(simp only[List.length_append];omega))
 generalize hgp4:(Xc 1 ((n:Int)-1) [46,111,118,101,114])=p4 at*
 have hP5:=Tj hM hH n (by omega) 1 (by omega) ((((((acc)++p0)++p1)++p2)++p3)++p4) (by first|omega|(simp only[List.length_append];omega))
 generalize hgp5:(Vj n 1)=p5 at*
 have hP6:=Zs (n:Int) (((((((acc)++p0)++p1)++p2)++p3)++p4)++p5) [[46,111,118,101,114,58]] (by simp only[List.length_append];omega) (by simp)
 generalize putS [[46,111,118,101,114,58]]=p6 at*
 have hP7:=Vk hM hH n 0 ((n:Int)-1) [46,98,111,116,104] (by omega) (by omega) (by simp) ((((((((acc)++p0)++p1)++p2)++p3)++p4)++p5)++p6) (by first|omega|(simp only[List.length_append];omega))
 generalize hgp7:(Xc 0 ((n:Int)-1) [46,98,111,116,104])=p7 at*
 have hP8:=Tj hM hH n (by omega) 0 (by omega) (((((((((acc)++p0)++p1)++p2)++p3)++p4)++p5)++p6)++p7) (by first|omega|(simp only[List.length_append];omega))
 generalize hgp8:(Vj n 0)=p8 at*
 have hP9:=Zs (n:Int) ((((((((((acc)++p0)++p1)++p2)++p3)++p4)++p5)++p6)++p7)++p8) [[46,98,111,116,104,58]] (by simp only[List.length_append];omega) (by simp)
 generalize putS [[46,98,111,116,104,58]]=p9 at*
 have hSz10_1:=Yl hM hH [99,97,108,108,32,117,114,101,109,37,100] [(n:Int)] (by simp;omega) (by simp) (by simp)
 generalize sayS [99,97,108,108,32,117,114,101,109,37,100] [(n:Int)]=z10_1 at*
 have hP10:=Zs (n:Int) (((((((((((acc)++p0)++p1)++p2)++p3)++p4)++p5)++p6)++p7)++p8)++p9) [z10_1] (by simp only[List.length_append];omega) (by simp)
 generalize putS [z10_1]=p10 at*
 have hP11:=Vk hM hH n 7 ((n:Int)) [46,100,111,110,101] (by omega) (by omega) (by simp) ((((((((((((acc)++p0)++p1)++p2)++p3)++p4)++p5)++p6)++p7)++p8)++p9)++p10) (by first|omega|(simp only[List.length_append];omega))
 generalize hgp11:(Xc 7 ((n:Int)) [46,100,111,110,101])=p11 at*
 have hP12:=Tj hM hH n (by omega) 0 (by omega) (((((((((((((acc)++p0)++p1)++p2)++p3)++p4)++p5)++p6)++p7)++p8)++p9)++p10)++p11) (by rw[hgp8];simp only[List.length_append];omega)
 rw[hgp8]at hP12
 have hP13:=Zs (n:Int) ((((((((((((((acc)++p0)++p1)++p2)++p3)++p4)++p5)++p6)++p7)++p8)++p9)++p10)++p11)++p8) [[46,100,111,110,101,58]] (by simp only[List.length_append];omega) (by simp)
 generalize putS [[46,100,111,110,101,58]]=p13 at*
 have hP14:=Ot hM hH n ((n:Int)+1) (by omega) (((((((((((((((acc)++p0)++p1)++p2)++p3)++p4)++p5)++p6)++p7)++p8)++p9)++p10)++p11)++p8)++p13) (by first|omega|(simp only[List.length_append];omega))
 generalize hgp14:(Q3 ((n:Int)+1))=p14 at*
 refine Vz.fn.gcp (by simp) (by simp[Zu,Zw,Zv,Zj,Zf,Vc.S1.okN,At.okN,SV.okN,Res.okN,Res.outOk,Zo,Res.own,Value.oneCell']) fun w X fr hglob=> ?_
 have hj:(((((((((((((((acc)++p0)++p1)++p2)++p3)++p4)++p5)++p6)++p7)++p8)++p9)++p10)++p11)++p8)++p13)++p14=acc++((((((((((((((p0++p1)++p2)++p3)++p4)++p5)++p6)++p7)++p8)++p9)++p10)++p11)++p8)++p13)++p14):=by simp only[List.append_assoc]
 rw[hj]at hP14
 repeat'(first|(first|refine Stp.h ?_|(refine Za.gcp hglob hSz0_0 ?_ ?_;focus simp[Zb];done)|(refine Za.gc hP0 ?_ ?_;focus simp[Zb];done)|(refine Za.gc hP1 ?_ ?_;focus simp[Zb];done)|(refine Za.gcp hglob hP2 ?_ ?_;focus simp[Zb];done)|(refine Za.gc hP3 ?_ ?_;focus simp[Zb];done)|(refine Za.gcp hglob hP4 ?_ ?_;focus simp[Zb];done)|(refine Za.gcp hglob hP5 ?_ ?_;focus simp[Zb];done)|(refine Za.gc hP6 ?_ ?_;focus simp[Zb];done)|(refine Za.gcp hglob hP7 ?_ ?_;focus simp[Zb];done)|(refine Za.gcp hglob hP8 ?_ ?_;focus simp[Zb];done)|(refine Za.gc hP9 ?_ ?_;focus simp[Zb];done)|(refine Za.gcp hglob hSz10_1 ?_ ?_;focus simp[Zb];done)|(refine Za.gc hP10 ?_ ?_;focus simp[Zb];done)|(refine Za.gcp hglob hP11 ?_ ?_;focus simp[Zb];done)|(refine Za.gcp hglob hP12 ?_ ?_;focus simp[Zb];done)|(refine Za.gc hP13 ?_ ?_;focus simp[Zb];done)|(refine Za.gcp hglob hP14 ?_ ?_;focus simp[Zb];done))<;>try simp only[Zc,simprocAttr,↓reduceIte,reduceCtorEq,implies_true,hm16,hm2,hm1,hp1,Bool.not_true,Bool.not_false,Int.ofNat_lt]|(with_reducible first|assumption|refine And.intro ?_ ?_)|(intro h;first|omega|exact tg h ‹_›|exact tg ‹_› h|skip))
 all_goals first|omega|(simp only[List.length_append,List.length_cons,List.length_nil];omega)|skip
def Zc9(n:Nat):List UInt8:=(((putS [[108,100,32,114,51,44,32,114,49,44,32,48],sayS [108,100,105,32,114,52,44,32,37,100] [16*(n:Int)],[99,109,112,32,114,51,44,32,114,52],[106,99,32,46,108,111,111,112],[109,111,118,32,114,51,44,32,114,52],[46,108,111,111,112,58],[108,100,105,32,114,52,44,32,48],[99,109,112,32,114,51,44,32,114,52],[106,122,32,46,100,111,110,101]])++(Wi n 0 0 [115,104,108] [114,111,108] []))++(putS [[108,100,105,32,114,52,44,32,49],[115,117,98,32,114,51,44,32,114,52],[106,109,112,32,46,108,111,111,112],[46,100,111,110,101,58],[114,101,116]]))
set_option maxHeartbeats 16000000 in
set_option maxRecDepth 100000 in
theorem shl_gcp{G:Nat}{H:Nat→Option Obj}(hM:Yn G H)(hH:Z4 G H)(n:Nat)(hn:1≤n∧n≤100)(acc:List UInt8)(hb:acc.length+(Zc9 n).length≤100000):
 GCp G H Tryz.prog 97 ([.a (.loc 0 0)]++[.a (.str [115,104,108])]) [(0,.cells 132 [.loc 0 0,.ref 1,.int .i64 (n:Int)]),(1,.row 5 (.int .u8) (bytesI (acc)))] 2 [0] (.tup []) [(0,.cells 132 [.loc 0 0,.ref 2,.int .i64 (n:Int)]),(2,.row 5 (.int .u8) (bytesI (acc++Zc9 n)))] 3:=by
 unfold Zc9 at*
 simp only[List.length_append]at hb
 have hne:(([115,104,108]:List UInt8)=[115,104,108])=True:=by simp
 have hm16:IntKind.i64.wrap (16*(n:Int))=16*(n:Int):=Zk (by omega) (by omega)
 have hm2:IntKind.i64.wrap (2*(n:Int))=2*(n:Int):=Zk (by omega) (by omega)
 have hm1:IntKind.i64.wrap ((n:Int)-1)=(n:Int)-1:=Zk (by omega) (by omega)
 have hp1:IntKind.i64.wrap ((n:Int)+1)=(n:Int)+1:=Zk (by omega) (by omega)
 have hSz0_0:=Yl hM hH [108,100,105,32,114,52,44,32,37,100] [16*(n:Int)] (by simp;omega) (by simp) (by simp)
 generalize sayS [108,100,105,32,114,52,44,32,37,100] [16*(n:Int)]=z0_0 at*
 have hP0:=Zs (n:Int) (acc) [[108,100,32,114,51,44,32,114,49,44,32,48],z0_0,[99,109,112,32,114,51,44,32,114,52],[106,99,32,46,108,111,111,112],[109,111,118,32,114,51,44,32,114,52],[46,108,111,111,112,58],[108,100,105,32,114,52,44,32,48],[99,109,112,32,114,51,44,32,114,52],[106,122,32,46,100,111,110,101]] (by omega) (by simp)
 generalize putS [[108,100,32,114,51,44,32,114,49,44,32,48],z0_0,[99,109,112,32,114,51,44,32,114,52],[106,99,32,46,108,111,111,112],[109,111,118,32,114,51,44,32,114,52],[46,108,111,111,112,58],[108,100,105,32,114,52,44,32,48],[99,109,112,32,114,51,44,32,114,52],[106,122,32,46,100,111,110,101]]=p0 at*
 have hP1:=Tg hM hH n (by omega) 0 0 [115,104,108] [114,111,108] [] (by omega) (by omega) (by simp) (by simp) (by simp) ((acc)++p0) (by first|omega|(simp only[List.length_append];omega))
 generalize hgp1:(Wi n 0 0 [115,104,108] [114,111,108] [])=p1 at*
 have hP2:=Zs (n:Int) (((acc)++p0)++p1) [[108,100,105,32,114,52,44,32,49],[115,117,98,32,114,51,44,32,114,52],[106,109,112,32,46,108,111,111,112],[46,100,111,110,101,58],[114,101,116]] (by simp only[List.length_append];omega) (by simp)
 generalize putS [[108,100,105,32,114,52,44,32,49],[115,117,98,32,114,51,44,32,114,52],[106,109,112,32,46,108,111,111,112],[46,100,111,110,101,58],[114,101,116]]=p2 at*
 refine Wz.fn.gcp (by simp) (by simp[Zu,Zw,Zv,Zj,Zf,Vc.S1.okN,At.okN,SV.okN,Res.okN,Res.outOk,Zo,Res.own,Value.oneCell']) fun w X fr hglob=> ?_
 have hj:(((acc)++p0)++p1)++p2=acc++((p0++p1)++p2):=by simp only[List.append_assoc]
 rw[hj]at hP2
 repeat'(first|(first|refine Stp.h ?_|(refine Za.gcp hglob hSz0_0 ?_ ?_;focus simp[Zb];done)|(refine Za.gc hP0 ?_ ?_;focus simp[Zb];done)|(refine Za.gcp hglob hP1 ?_ ?_;focus simp[Zb];done)|(refine Za.gc hP2 ?_ ?_;focus simp[Zb];done))<;>try simp only[Zc,simprocAttr,↓reduceIte,reduceCtorEq,implies_true,hm16,hm2,hm1,hp1,Bool.not_true,Bool.not_false,Int.ofNat_lt,hne,decide_true]|(with_reducible first|assumption|refine And.intro ?_ ?_)|(intro h;first|omega|exact tg h ‹_›|exact tg ‹_› h|skip))
 all_goals first|omega|(simp only[List.length_append,List.length_cons,List.length_nil];omega)|skip
def Zda(n:Nat):List UInt8:=(((putS [[108,100,32,114,51,44,32,114,49,44,32,48],sayS [108,100,105,32,114,52,44,32,37,100] [16*(n:Int)],[99,109,112,32,114,51,44,32,114,52],[106,99,32,46,108,111,111,112],[109,111,118,32,114,51,44,32,114,52],[46,108,111,111,112,58],[108,100,105,32,114,52,44,32,48],[99,109,112,32,114,51,44,32,114,52],[106,122,32,46,100,111,110,101]])++(M6 n 0 [115,104,114]))++(putS [[108,100,105,32,114,52,44,32,49],[115,117,98,32,114,51,44,32,114,52],[106,109,112,32,46,108,111,111,112],[46,100,111,110,101,58],[114,101,116]]))
set_option maxHeartbeats 16000000 in
set_option maxRecDepth 100000 in
theorem shr_gcp{G:Nat}{H:Nat→Option Obj}(hM:Yn G H)(hH:Z4 G H)(n:Nat)(hn:1≤n∧n≤100)(acc:List UInt8)(hb:acc.length+(Zda n).length≤100000):
 GCp G H Tryz.prog 97 ([.a (.loc 0 0)]++[.a (.str [115,104,114])]) [(0,.cells 132 [.loc 0 0,.ref 1,.int .i64 (n:Int)]),(1,.row 5 (.int .u8) (bytesI (acc)))] 2 [0] (.tup []) [(0,.cells 132 [.loc 0 0,.ref 2,.int .i64 (n:Int)]),(2,.row 5 (.int .u8) (bytesI (acc++Zda n)))] 3:=by
 unfold Zda at*
 simp only[List.length_append]at hb
 have hne:(([115,104,114]:List UInt8)=[115,104,108])=False:=by simp
 have hm16:IntKind.i64.wrap (16*(n:Int))=16*(n:Int):=Zk (by omega) (by omega)
 have hm2:IntKind.i64.wrap (2*(n:Int))=2*(n:Int):=Zk (by omega) (by omega)
 have hm1:IntKind.i64.wrap ((n:Int)-1)=(n:Int)-1:=Zk (by omega) (by omega)
 have hp1:IntKind.i64.wrap ((n:Int)+1)=(n:Int)+1:=Zk (by omega) (by omega)
 have hSz0_0:=Yl hM hH [108,100,105,32,114,52,44,32,37,100] [16*(n:Int)] (by simp;omega) (by simp) (by simp)
 generalize sayS [108,100,105,32,114,52,44,32,37,100] [16*(n:Int)]=z0_0 at*
 have hP0:=Zs (n:Int) (acc) [[108,100,32,114,51,44,32,114,49,44,32,48],z0_0,[99,109,112,32,114,51,44,32,114,52],[106,99,32,46,108,111,111,112],[109,111,118,32,114,51,44,32,114,52],[46,108,111,111,112,58],[108,100,105,32,114,52,44,32,48],[99,109,112,32,114,51,44,32,114,52],[106,122,32,46,100,111,110,101]] (by omega) (by simp)
 generalize putS [[108,100,32,114,51,44,32,114,49,44,32,48],z0_0,[99,109,112,32,114,51,44,32,114,52],[106,99,32,46,108,111,111,112],[109,111,118,32,114,51,44,32,114,52],[46,108,111,111,112,58],[108,100,105,32,114,52,44,32,48],[99,109,112,32,114,51,44,32,114,52],[106,122,32,46,100,111,110,101]]=p0 at*
 have hP1:=Iz hM hH n (by omega) 0 [115,104,114] (by omega) (by simp) ((acc)++p0) (by first|omega|(simp only[List.length_append];omega))
 generalize hgp1:(M6 n 0 [115,104,114])=p1 at*
 have hP2:=Zs (n:Int) (((acc)++p0)++p1) [[108,100,105,32,114,52,44,32,49],[115,117,98,32,114,51,44,32,114,52],[106,109,112,32,46,108,111,111,112],[46,100,111,110,101,58],[114,101,116]] (by simp only[List.length_append];omega) (by simp)
 generalize putS [[108,100,105,32,114,52,44,32,49],[115,117,98,32,114,51,44,32,114,52],[106,109,112,32,46,108,111,111,112],[46,100,111,110,101,58],[114,101,116]]=p2 at*
 refine Wz.fn.gcp (by simp) (by simp[Zu,Zw,Zv,Zj,Zf,Vc.S1.okN,At.okN,SV.okN,Res.okN,Res.outOk,Zo,Res.own,Value.oneCell']) fun w X fr hglob=> ?_
 have hj:(((acc)++p0)++p1)++p2=acc++((p0++p1)++p2):=by simp only[List.append_assoc]
 rw[hj]at hP2
 repeat'(first|(first|refine Stp.h ?_|(refine Za.gcp hglob hSz0_0 ?_ ?_;focus simp[Zb];done)|(refine Za.gc hP0 ?_ ?_;focus simp[Zb];done)|(refine Za.gcp hglob hP1 ?_ ?_;focus simp[Zb];done)|(refine Za.gc hP2 ?_ ?_;focus simp[Zb];done))<;>try simp only[Zc,simprocAttr,↓reduceIte,reduceCtorEq,implies_true,hm16,hm2,hm1,hp1,Bool.not_true,Bool.not_false,Int.ofNat_lt,hne,decide_false]|(with_reducible first|assumption|refine And.intro ?_ ?_)|(intro h;first|omega|exact tg h ‹_›|exact tg ‹_› h|skip))
 all_goals first|omega|(simp only[List.length_append,List.length_cons,List.length_nil];omega)|skip
def Zc4(n:Nat):List UInt8:=(((putS [[108,100,32,114,51,44,32,114,49,44,32,48],sayS [108,100,105,32,114,52,44,32,37,100] [16*(n:Int)],[99,109,112,32,114,51,44,32,114,52],[106,99,32,46,108,111,111,112],[109,111,118,32,114,51,44,32,114,52],[46,108,111,111,112,58],[108,100,105,32,114,52,44,32,48],[99,109,112,32,114,51,44,32,114,52],[106,122,32,46,100,111,110,101]])++(M6 n 0 [115,97,114]))++(putS [[108,100,105,32,114,52,44,32,49],[115,117,98,32,114,51,44,32,114,52],[106,109,112,32,46,108,111,111,112],[46,100,111,110,101,58],[114,101,116]]))
set_option maxHeartbeats 16000000 in
set_option maxRecDepth 100000 in
theorem sar_gcp{G:Nat}{H:Nat→Option Obj}(hM:Yn G H)(hH:Z4 G H)(n:Nat)(hn:1≤n∧n≤100)(acc:List UInt8)(hb:acc.length+(Zc4 n).length≤100000):
 GCp G H Tryz.prog 97 ([.a (.loc 0 0)]++[.a (.str [115,97,114])]) [(0,.cells 132 [.loc 0 0,.ref 1,.int .i64 (n:Int)]),(1,.row 5 (.int .u8) (bytesI (acc)))] 2 [0] (.tup []) [(0,.cells 132 [.loc 0 0,.ref 2,.int .i64 (n:Int)]),(2,.row 5 (.int .u8) (bytesI (acc++Zc4 n)))] 3:=by
 unfold Zc4 at*
 simp only[List.length_append]at hb
 have hne:(([115,97,114]:List UInt8)=[115,104,108])=False:=by simp
 have hm16:IntKind.i64.wrap (16*(n:Int))=16*(n:Int):=Zk (by omega) (by omega)
 have hm2:IntKind.i64.wrap (2*(n:Int))=2*(n:Int):=Zk (by omega) (by omega)
 have hm1:IntKind.i64.wrap ((n:Int)-1)=(n:Int)-1:=Zk (by omega) (by omega)
 have hp1:IntKind.i64.wrap ((n:Int)+1)=(n:Int)+1:=Zk (by omega) (by omega)
 have hSz0_0:=Yl hM hH [108,100,105,32,114,52,44,32,37,100] [16*(n:Int)] (by simp;omega) (by simp) (by simp)
 generalize sayS [108,100,105,32,114,52,44,32,37,100] [16*(n:Int)]=z0_0 at*
 have hP0:=Zs (n:Int) (acc) [[108,100,32,114,51,44,32,114,49,44,32,48],z0_0,[99,109,112,32,114,51,44,32,114,52],[106,99,32,46,108,111,111,112],[109,111,118,32,114,51,44,32,114,52],[46,108,111,111,112,58],[108,100,105,32,114,52,44,32,48],[99,109,112,32,114,51,44,32,114,52],[106,122,32,46,100,111,110,101]] (by omega) (by simp)
 generalize putS [[108,100,32,114,51,44,32,114,49,44,32,48],z0_0,[99,109,112,32,114,51,44,32,114,52],[106,99,32,46,108,111,111,112],[109,111,118,32,114,51,44,32,114,52],[46,108,111,111,112,58],[108,100,105,32,114,52,44,32,48],[99,109,112,32,114,51,44,32,114,52],[106,122,32,46,100,111,110,101]]=p0 at*
 have hP1:=Iz hM hH n (by omega) 0 [115,97,114] (by omega) (by simp) ((acc)++p0) (by first|omega|(simp only[List.length_append];omega))
 generalize hgp1:(M6 n 0 [115,97,114])=p1 at*
 have hP2:=Zs (n:Int) (((acc)++p0)++p1) [[108,100,105,32,114,52,44,32,49],[115,117,98,32,114,51,44,32,114,52],[106,109,112,32,46,108,111,111,112],[46,100,111,110,101,58],[114,101,116]] (by simp only[List.length_append];omega) (by simp)
 generalize putS [[108,100,105,32,114,52,44,32,49],[115,117,98,32,114,51,44,32,114,52],[106,109,112,32,46,108,111,111,112],[46,100,111,110,101,58],[114,101,116]]=p2 at*
 refine Wz.fn.gcp (by simp) (by simp[Zu,Zw,Zv,Zj,Zf,Vc.S1.okN,At.okN,SV.okN,Res.okN,Res.outOk,Zo,Res.own,Value.oneCell']) fun w X fr hglob=> ?_
 have hj:(((acc)++p0)++p1)++p2=acc++((p0++p1)++p2):=by simp only[List.append_assoc]
 rw[hj]at hP2
 repeat'(first|(first|refine Stp.h ?_|(refine Za.gcp hglob hSz0_0 ?_ ?_;focus simp[Zb];done)|(refine Za.gc hP0 ?_ ?_;focus simp[Zb];done)|(refine Za.gcp hglob hP1 ?_ ?_;focus simp[Zb];done)|(refine Za.gc hP2 ?_ ?_;focus simp[Zb];done))<;>try simp only[Zc,simprocAttr,↓reduceIte,reduceCtorEq,implies_true,hm16,hm2,hm1,hp1,Bool.not_true,Bool.not_false,Int.ofNat_lt,hne,decide_false]|(with_reducible first|assumption|refine And.intro ?_ ?_)|(intro h;first|omega|exact tg h ‹_›|exact tg ‹_› h|skip))
 all_goals first|omega|(simp only[List.length_append,List.length_cons,List.length_nil];omega)|skip
def Ow:List (List UInt8×Nat):=[([109,117,108],89),([117,100,105,118],90),([117,114,101,109],92),([115,100,105,118],93),([115,114,101,109],95),([115,104,108],96),([115,104,114],98),([115,97,114],99)]
set_option maxHeartbeats 4000000 in
theorem Bd:GC Tryz.prog 74 [] [] 0 [] (.one (.a (.ref 0))) [(0,.fmap Ow)] 1:=by
 refine J5.fn.gc (by simp) (by simp[Zu,Zw,Zv,Zj,Zf,Vc.S1.okN,At.okN,SV.okN,Res.okN,Res.outOk,Zo,Res.own,Value.oneCell']) fun w X fr=> ?_
 repeat'(first|(first|refine Stp.h ?_)<;>try simp only[Zc,simprocAttr,↓reduceIte,reduceCtorEq,implies_true,Ow]|(with_reducible first|assumption|refine And.intro ?_ ?_)|(intro h;first|omega|exact tg h ‹_›|exact tg ‹_› h|skip))
 all_goals first|omega|rfl|skip
end Go.Proofs.YtddmlennnmpnhaaGreatDoor
