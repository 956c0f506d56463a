/- A part of the proofs of this seat's laws: steps on the way, joined. It has no conditions of its own. -/
import Derived.Test.YtbmecnjmbhokgaaGreatDoorQp
import Derived.Test.YtbmecnjmbhokgaaGreatDoorQo
import Derived.Test.YtbmecnjmbhokgaaGreatDoorQi
import Derived.Shelf.Strings.Builder1
import Derived.Shelf.Strings.Builder2
import Derived.Shelf.Strings.Trim
import Derived.Shelf.Small.Utf8
import Derived.Shelf.Small.Strs
import Derived.Shelf.Small.Wraps
import Derived.Shelf.Strconv.Atoi
import Derived.Shelf.Strconv.Itoa0
import Derived.Shelf.Strconv.Itoa1
import Derived.Shelf.LaysM
import Derived.Shelf.Strconv.Itoa2
import Derived.Shelf.Strconv.Itoa3
import Derived.Shelf.Strings.Search1
import Derived.Shelf.Strings.Search2
import Derived.Shelf.Strings.Search3
import Derived.Shelf.Strings.Cut
import Derived.Shelf.Strings.Count
import Derived.Shelf.Strings.Shaped
import Derived.Shelf.Sort.Plain
import Derived.Shelf.Strings.Prefix
import Derived.Shelf.Strings.Split
import Derived.Shelf.Strings.Replace
import Derived.Shelf.Strings.Runes
import Derived.Shelf.Strings.AsciiSet
import Derived.Shelf.Unicode.DecodeSlow
import Derived.Shelf.Slices.In.SortNone
import Derived.Test.YtbmecnjmbhokgaaGreatDoorProg
namespace Go.Proofs.YtbmecnjmbhokgaaGreatDoor
open Go Go.RowKit Vc
set_option linter.unusedVariables false
set_option linter.unusedSimpArgs false
attribute [local irreducible] T Za Zn Ent RdC RwC Ye Zf Zh
def Iw(n:Nat):List UInt8:=(((((((((((((((putS [[108,100,32,114,50,44,32,114,49,44,32,48]])++(rep (n-1) fun i=>[sayS [108,100,32,114,52,44,32,114,49,44,32,37,100] [(i:Int)+1],[111,114,32,114,50,44,32,114,52]]))++(putS [[108,100,105,32,114,52,44,32,48],[99,109,112,32,114,50,44,32,114,52],[106,110,122,32,46,111,107],[116,114,97,112,32,49],[46,111,107,58],[108,100,105,32,114,50,44,32,48]]))++(rep (n) fun i=>[[112,117,115,104,32,114,50]]))++(putS [sayS [108,100,105,32,114,51,44,32,37,100] [16*(n:Int)],[46,108,111,111,112,58]]))++(Wl n 0 0 [115,104,108] [114,111,108] []))++(Wl n 7 0 [114,111,108] [114,111,108] []))++(putS [[106,99,32,46,116,97,107,101]]))++(Qy n 7 1 0 [99,109,112] [99,112,99] false))++(putS [[106,99,32,46,110,101,120,116],[46,116,97,107,101,58]]))++(Qy n 7 1 0 [115,117,98] [115,98,99] true))++(putS [[108,100,32,114,50,44,32,114,48,44,32,48],[108,100,105,32,114,52,44,32,49],[111,114,32,114,50,44,32,114,52],[115,116,32,114,48,44,32,114,50,44,32,48],[46,110,101,120,116,58]]))++(Pl))++([]))++(Qz ((n:Int))))
set_option maxHeartbeats 16000000 in
set_option maxRecDepth 100000 in
theorem Zht{G:Nat}{H:Nat→Option Obj}(hM:Yn G H)(hH:Z4 G H)(n:Nat)(hn:1≤n∧n≤100)(acc:List UInt8)(hb:acc.length+(Iw n).length≤100000):
 GCp G H Tryz.prog 90 ([.a (.loc 0 0)]++[.a (.bool false)]) [(0,.cells 131 [.loc 0 0,.ref 1,.int .i64 (n:Int)]),(1,.row 5 (.int .u8) (bytesI (acc)))] 2 [0] (.tup []) [(0,.cells 131 [.loc 0 0,.ref 2,.int .i64 (n:Int)]),(2,.row 5 (.int .u8) (bytesI (acc++Iw n)))] 3:=by
 unfold Iw at*
 simp only[List.length_append]at hb
 have hm16:IntKind.i64.wrap (16*(n:Int))=16*(n:Int):=Zk (by omega) (by omega)
 have hm2:IntKind.i64.wrap (2*(n:Int))=2*(n:Int):=Zk (by omega) (by omega)
 have hm1:IntKind.i64.wrap ((n:Int)-1)=(n:Int)-1:=Zk (by omega) (by omega)
 have hp1:IntKind.i64.wrap ((n:Int)+1)=(n:Int)+1:=Zk (by omega) (by omega)
 have hP0:=Zs (n:Int) (acc) [[108,100,32,114,50,44,32,114,49,44,32,48]] (by omega) (by simp)
 generalize putS [[108,100,32,114,50,44,32,114,49,44,32,48]]=p0 at*
 refine T1.fn.gcp (by simp) (by simp[Zu,Zw,Zv,Zj,Ze,Vc.S1.okN,At.okN,SV.okN,Res.okN,Res.outOk,Zo,Res.own,Value.oneCell']) fun w X fr hglob=> ?_
 repeat'(first|(first|refine Stp.h ?_|(refine Za.gc hP0 ?_ ?_;focus simp[Zb];done))<;>try simp only[Zc,simprocAttr,↓reduceIte,reduceCtorEq,implies_true,hm16,hm2,hm1,hp1,Bool.not_true,Bool.not_false,Int.ofNat_lt]|(with_reducible first|assumption|refine And.intro ?_ ?_)|(intro h;first|omega|exact tg h ‹_›|exact tg ‹_› h|skip))
 all_goals first|omega|(simp only[List.length_append,List.length_cons,List.length_nil];omega)|skip
 have hAl1:((acc)++p0).length=((acc)++p0).length:=rfl
 conv at hAl1=>rhs;simp only[List.length_append]
 generalize hA1:(acc)++p0=a1 at*
 refine T.loop (ι:= {k:Nat//k≤n-1})
  (fun x=>⟨[(4,.one (.a (.int .i64 ((x.1:Int)+1)))),(0,.one (.a (.loc 0 0))),(1,.one (.a (.bool false))),(1000000,.one (.a (.ref 0)))],
    [(0,.cells 131 [.loc 0 0,.ref 1,.int .i64 (n:Int)]),(1,.row 5 (.int .u8) (bytesI (a1++rep x.1 fun i=>[sayS [108,100,32,114,52,44,32,114,49,44,32,37,100] [(i:Int)+1],[111,114,32,114,50,44,32,114,52]])))],2⟩) (fun x=>n-1-x.1) ⟨0,by simp⟩ (Ent.mk1 (fun n=>if n=1 then 3 else n) (by simp[Zx,rep,hA1])) ?_
 rintro⟨k,hk⟩
 simp only
 by_cases hlt:k<n-1
 ·have hmono:=Vd (fun i=>[sayS [108,100,32,114,52,44,32,114,49,44,32,37,100] [(i:Int)+1],[111,114,32,114,50,44,32,114,52]]) (show k+1≤n-1 from hlt)
  rw[Ys]at hmono
  simp only[List.length_append]at hmono
  have ha2:a1++rep (k+1) (fun i=>[sayS [108,100,32,114,52,44,32,114,49,44,32,37,100] [(i:Int)+1],[111,114,32,114,50,44,32,114,52]])=(a1++rep k (fun i=>[sayS [108,100,32,114,52,44,32,114,49,44,32,37,100] [(i:Int)+1],[111,114,32,114,50,44,32,114,52]]))++putS [sayS [108,100,32,114,52,44,32,114,49,44,32,37,100] [(k:Int)+1],[111,114,32,114,50,44,32,114,52]]:=by rw[Ys,List.append_assoc]
  have hac:(a1++rep k (fun i=>[sayS [108,100,32,114,52,44,32,114,49,44,32,37,100] [(i:Int)+1],[111,114,32,114,50,44,32,114,52]])).length=a1.length+(rep k (fun i=>[sayS [108,100,32,114,52,44,32,114,49,44,32,37,100] [(i:Int)+1],[111,114,32,114,50,44,32,114,52]])).length:=by simp
  have hw:IntKind.i64.wrap ((k:Int)+1)=((k+1:Nat):Int):=Zy (by omega)
  have hw2:IntKind.i64.wrap ((k:Int)+1+1)=((k+1:Nat):Int)+1:=by have:=Zy (k:=k+1) (by omega);simpa using this
  have hlt2:((k:Nat):Int)+1<(n:Int):=by omega
  generalize hacc:a1++rep k (fun i=>[sayS [108,100,32,114,52,44,32,114,49,44,32,37,100] [(i:Int)+1],[111,114,32,114,50,44,32,114,52]])=a at*
  generalize rep k (fun i=>[sayS [108,100,32,114,52,44,32,114,49,44,32,37,100] [(i:Int)+1],[111,114,32,114,50,44,32,114,52]])=pre at*
  have hS0:=Ym hM hH [108,100,32,114,52,44,32,114,49,44,32,37,100] [(k:Int)+1] (by simp;omega) (by simp) (by simp)
  generalize sayS [108,100,32,114,52,44,32,114,49,44,32,37,100] [(k:Int)+1]=z0 at*
  have hP:=Zs (n:Int) a [z0,[111,114,32,114,50,44,32,114,52]] (by omega) (by simp)
  repeat'(first|(first|refine Stp.h ?_|(refine Za.gcp hglob hS0 ?_ ?_;focus simp[Zb];done)|(refine Za.gc hP ?_ ?_;focus simp[Zb];done))<;>try simp only[Zc,simprocAttr,↓reduceIte,reduceCtorEq,implies_true,hlt2,hw,hw2,hm16,hm2,hm1,hp1,Bool.not_true,Bool.not_false,Int.ofNat_lt]|(with_reducible first|assumption|refine And.intro ?_ ?_)|(intro h;first|omega|exact tg h ‹_›|exact tg ‹_› h|skip))
  all_goals first|omega|(simp only[List.length_append,List.length_cons,List.length_nil];omega)|skip
  exact⟨⟨k+1,hlt⟩,(Ent.mk1 (fun n=>if n=1 then 4 else n) (by simp[Zx,ha2,hw,hw2])),by simp only;omega⟩
 have hk2:n-1=k:=by omega
 subst hk2
 have hnl:¬(((n-1:Nat):Int)+1)<(n:Int):=by omega
 clear hlt hk
 generalize (rep (n-1) fun i=>[sayS [108,100,32,114,52,44,32,114,49,44,32,37,100] [(i:Int)+1],[111,114,32,114,50,44,32,114,52]])=p1 at*
 have hP2:=Zs (n:Int) (a1++p1) [[108,100,105,32,114,52,44,32,48],[99,109,112,32,114,50,44,32,114,52],[106,110,122,32,46,111,107],[116,114,97,112,32,49],[46,111,107,58],[108,100,105,32,114,50,44,32,48]] (by simp only[List.length_append];omega) (by simp)
 generalize putS [[108,100,105,32,114,52,44,32,48],[99,109,112,32,114,50,44,32,114,52],[106,110,122,32,46,111,107],[116,114,97,112,32,49],[46,111,107,58],[108,100,105,32,114,50,44,32,48]]=p2 at*
 repeat'(first|(first|refine Stp.h ?_|(refine Za.gc hP2 ?_ ?_;focus simp[Zb];done))<;>try simp only[Zc,simprocAttr,↓reduceIte,reduceCtorEq,implies_true,hnl,hm16,hm2,hm1,hp1,Bool.not_true,Bool.not_false,Int.ofNat_lt]|(with_reducible first|assumption|refine And.intro ?_ ?_)|(intro h;first|omega|exact tg h ‹_›|exact tg ‹_› h|skip))
 all_goals first|omega|(simp only[List.length_append,List.length_cons,List.length_nil];omega)|skip
 have hAl3:((a1++p1)++p2).length=((a1++p1)++p2).length:=rfl
 conv at hAl3=>rhs;simp only[List.length_append]
 generalize hA3:(a1++p1)++p2=a3 at*
 refine T.loop (ι:= {k:Nat//k≤n})
  (fun x=>⟨[(30,.one (.a (.int .i64 (x.1:Int)))),(29,.one (.a (.int .i64 (n:Int)))),(0,.one (.a (.loc 0 0))),(1,.one (.a (.bool false))),(1000000,.one (.a (.ref 0)))],
    [(0,.cells 131 [.loc 0 0,.ref 1,.int .i64 (n:Int)]),(1,.row 5 (.int .u8) (bytesI (a3++rep x.1 fun i=>[[112,117,115,104,32,114,50]])))],2⟩) (fun x=>n-x.1) ⟨0,by simp⟩ (Ent.mk1 (fun n=>if n=1 then 3 else n) (by simp[Zx,rep,hA3])) ?_
 rintro⟨k,hk⟩
 simp only
 by_cases hlt:k<n
 ·have hmono:=Vd (fun i=>[[112,117,115,104,32,114,50]]) (show k+1≤n from hlt)
  rw[Ys]at hmono
  simp only[List.length_append]at hmono
  have ha2:a3++rep (k+1) (fun i=>[[112,117,115,104,32,114,50]])=(a3++rep k (fun i=>[[112,117,115,104,32,114,50]]))++putS [[112,117,115,104,32,114,50]]:=by rw[Ys,List.append_assoc]
  have hac:(a3++rep k (fun i=>[[112,117,115,104,32,114,50]])).length=a3.length+(rep k (fun i=>[[112,117,115,104,32,114,50]])).length:=by simp
  have hw:IntKind.i64.wrap ((k:Int)+1)=((k+1:Nat):Int):=Zy (by omega)
  have hw2:IntKind.i64.wrap ((k:Int)+1+1)=((k+1:Nat):Int)+1:=by have:=Zy (k:=k+1) (by omega);simpa using this
  have hlt2:((k:Nat):Int)<(n:Int):=by omega
  generalize hacc:a3++rep k (fun i=>[[112,117,115,104,32,114,50]])=a at*
  generalize rep k (fun i=>[[112,117,115,104,32,114,50]])=pre at*
  have hP:=Zs (n:Int) a [[112,117,115,104,32,114,50]] (by omega) (by simp)
  repeat'(first|(first|refine Stp.h ?_|(refine Za.gc hP ?_ ?_;focus simp[Zb];done))<;>try simp only[Zc,simprocAttr,↓reduceIte,reduceCtorEq,implies_true,hlt2,hw,hw2,hm16,hm2,hm1,hp1,Bool.not_true,Bool.not_false,Int.ofNat_lt]|(with_reducible first|assumption|refine And.intro ?_ ?_)|(intro h;first|omega|exact tg h ‹_›|exact tg ‹_› h|skip))
  all_goals first|omega|(simp only[List.length_append,List.length_cons,List.length_nil];omega)|skip
  exact⟨⟨k+1,hlt⟩,(Ent.mk1 (fun n=>if n=1 then 3 else n) (by simp[Zx,ha2,hw,hw2])),by simp only;omega⟩
 have hk2:n=k:=by omega
 subst hk2
 have hnl:¬(((n:Nat):Int))<(n:Int):=by omega
 clear hlt hk
 generalize (rep (n) fun i=>[[112,117,115,104,32,114,50]])=p3 at*
 have hSz4_0:=Ym hM hH [108,100,105,32,114,51,44,32,37,100] [16*(n:Int)] (by simp;omega) (by simp) (by simp)
 generalize sayS [108,100,105,32,114,51,44,32,37,100] [16*(n:Int)]=z4_0 at*
 have hP4:=Zs (n:Int) (a3++p3) [z4_0,[46,108,111,111,112,58]] (by simp only[List.length_append];omega) (by simp)
 generalize putS [z4_0,[46,108,111,111,112,58]]=p4 at*
 have hP5:=Tf hM hH n (by omega) 0 0 [115,104,108] [114,111,108] [] (by omega) (by omega) (by simp) (by simp) (by simp) ((a3++p3)++p4) (by first|omega|(simp only[List.length_append];omega))
 generalize hgp5:(Wl n 0 0 [115,104,108] [114,111,108] [])=p5 at*
 have hP6:=Tf hM hH n (by omega) 7 0 [114,111,108] [114,111,108] [] (by omega) (by omega) (by simp) (by simp) (by simp) (((a3++p3)++p4)++p5) (by first|omega|(simp only[List.length_append];omega))
 generalize hgp6:(Wl n 7 0 [114,111,108] [114,111,108] [])=p6 at*
 have hP7:=Zs (n:Int) ((((a3++p3)++p4)++p5)++p6) [[106,99,32,46,116,97,107,101]] (by simp only[List.length_append];omega) (by simp)
 generalize putS [[106,99,32,46,116,97,107,101]]=p7 at*
 have hP8:=Ol hM hH n (by omega) 7 1 0 [99,109,112] [99,112,99] false (by omega) (by omega) (by omega) (by simp) (by simp) (((((a3++p3)++p4)++p5)++p6)++p7) (by first|omega|(simp only[List.length_append];omega))
 generalize hgp8:(Qy n 7 1 0 [99,109,112] [99,112,99] false)=p8 at*
 have hP9:=Zs (n:Int) ((((((a3++p3)++p4)++p5)++p6)++p7)++p8) [[106,99,32,46,110,101,120,116],[46,116,97,107,101,58]] (by simp only[List.length_append];omega) (by simp)
 generalize putS [[106,99,32,46,110,101,120,116],[46,116,97,107,101,58]]=p9 at*
 have hP10:=Ol hM hH n (by omega) 7 1 0 [115,117,98] [115,98,99] true (by omega) (by omega) (by omega) (by simp) (by simp) (((((((a3++p3)++p4)++p5)++p6)++p7)++p8)++p9) (by first|omega|(simp only[List.length_append];omega))
 generalize hgp10:(Qy n 7 1 0 [115,117,98] [115,98,99] true)=p10 at*
 have hP11:=Zs (n:Int) ((((((((a3++p3)++p4)++p5)++p6)++p7)++p8)++p9)++p10) [[108,100,32,114,50,44,32,114,48,44,32,48],[108,100,105,32,114,52,44,32,49],[111,114,32,114,50,44,32,114,52],[115,116,32,114,48,44,32,114,50,44,32,48],[46,110,101,120,116,58]] (by simp only[List.length_append];omega) (by simp)
 generalize putS [[108,100,32,114,50,44,32,114,48,44,32,48],[108,100,105,32,114,52,44,32,49],[111,114,32,114,50,44,32,114,52],[115,116,32,114,48,44,32,114,50,44,32,48],[46,110,101,120,116,58]]=p11 at*
 have hP12:=Lt hM hH n (((((((((a3++p3)++p4)++p5)++p6)++p7)++p8)++p9)++p10)++p11) (by first|omega|(simp only[List.length_append];omega))
 generalize hgp12:(Pl)=p12 at*
 repeat'(first|(first|refine Stp.h ?_|(refine Za.gcp hglob hSz4_0 ?_ ?_;focus simp[Zb];done)|(refine Za.gc hP4 ?_ ?_;focus simp[Zb];done)|(refine Za.gcp hglob hP5 ?_ ?_;focus simp[Zb];done)|(refine Za.gcp hglob hP6 ?_ ?_;focus simp[Zb];done)|(refine Za.gc hP7 ?_ ?_;focus simp[Zb];done)|(refine Za.gcp hglob hP8 ?_ ?_;focus simp[Zb];done)|(refine Za.gc hP9 ?_ ?_;focus simp[Zb];done)|(refine Za.gcp hglob hP10 ?_ ?_;focus simp[Zb];done)|(refine Za.gc hP11 ?_ ?_;focus simp[Zb];done)|(refine Za.gcp hglob hP12 ?_ ?_;focus simp[Zb];done))<;>try simp only[Zc,simprocAttr,↓reduceIte,reduceCtorEq,implies_true,hnl,hm16,hm2,hm1,hp1,Bool.not_true,Bool.not_false,Int.ofNat_lt]|(with_reducible first|assumption|refine And.intro ?_ ?_)|(intro h;first|omega|exact tg h ‹_›|exact tg ‹_› h|skip))
 all_goals first|omega|(simp only[List.length_append,List.length_cons,List.length_nil];omega)|skip
 have hAl13:((((((((((a3++p3)++p4)++p5)++p6)++p7)++p8)++p9)++p10)++p11)++p12).length=((((((((((a3++p3)++p4)++p5)++p6)++p7)++p8)++p9)++p10)++p11)++p12).length:=rfl
 conv at hAl13=>rhs;simp only[List.length_append]
 generalize hA13:(((((((((a3++p3)++p4)++p5)++p6)++p7)++p8)++p9)++p10)++p11)++p12=a13 at*
 refine T.loop (ι:=Unit)
  (fun x=>⟨[(5,.one (.a (.int .i64 0))),(0,.one (.a (.loc 0 0))),(1,.one (.a (.bool false))),(1000000,.one (.a (.ref 0)))],
    [(0,.cells 131 [.loc 0 0,.ref 1,.int .i64 (n:Int)]),(1,.row 5 (.int .u8) (bytesI (a13)))],2⟩) (fun x=>0) () (Ent.mk1 (fun n=>if n=1 then 15 else n) (by simp[Zx,hA13])) ?_
 rintro⟨⟩
 try simp only
 have hnl:(0:Int)<(n:Int):=by omega
 have hP14:=Oq hM hH n ((n:Int)) (by omega) (a13) (by first|omega|(simp only[List.length_append];omega))
 generalize hgp14:(Qz ((n:Int)))=p14 at*
 have hj:(a13)++p14=acc++((((((((((((((p0++p1)++p2)++p3)++p4)++p5)++p6)++p7)++p8)++p9)++p10)++p11)++p12)++[])++p14):=by simp only[←hA13,←hA3,←hA1,List.append_assoc,List.append_nil,List.nil_append]
 rw[hj]at hP14
 repeat'(first|(first|refine Stp.h ?_|(refine Za.gcp hglob hP14 ?_ ?_;focus simp[Zb];done))<;>try simp only[Zc,simprocAttr,↓reduceIte,reduceCtorEq,implies_true,hnl,hm16,hm2,hm1,hp1,Bool.not_true,Bool.not_false,Int.ofNat_lt]|(with_reducible first|assumption|refine And.intro ?_ ?_)|(intro h;first|omega|exact tg h ‹_›|exact tg ‹_› h|skip))
 all_goals first|omega|(simp only[List.length_append,List.length_cons,List.length_nil];omega)|skip
def Ix(n:Nat):List UInt8:=(((((((((((((((putS [[108,100,32,114,50,44,32,114,49,44,32,48]])++(rep (n-1) fun i=>[sayS [108,100,32,114,52,44,32,114,49,44,32,37,100] [(i:Int)+1],[111,114,32,114,50,44,32,114,52]]))++(putS [[108,100,105,32,114,52,44,32,48],[99,109,112,32,114,50,44,32,114,52],[106,110,122,32,46,111,107],[116,114,97,112,32,49],[46,111,107,58],[108,100,105,32,114,50,44,32,48]]))++(rep (n) fun i=>[[112,117,115,104,32,114,50]]))++(putS [sayS [108,100,105,32,114,51,44,32,37,100] [16*(n:Int)],[46,108,111,111,112,58]]))++(Wl n 0 0 [115,104,108] [114,111,108] []))++(Wl n 7 0 [114,111,108] [114,111,108] []))++(putS [[106,99,32,46,116,97,107,101]]))++(Qy n 7 1 0 [99,109,112] [99,112,99] false))++(putS [[106,99,32,46,110,101,120,116],[46,116,97,107,101,58]]))++(Qy n 7 1 0 [115,117,98] [115,98,99] true))++(putS [[108,100,32,114,50,44,32,114,48,44,32,48],[108,100,105,32,114,52,44,32,49],[111,114,32,114,50,44,32,114,52],[115,116,32,114,48,44,32,114,50,44,32,48],[46,110,101,120,116,58]]))++(Pl))++(rep (n) fun i=>[sayS [108,100,32,114,50,44,32,114,55,44,32,37,100] [(i:Int)],sayS [115,116,32,114,48,44,32,114,50,44,32,37,100] [(i:Int)]]))++(Qz ((n:Int))))
set_option maxHeartbeats 16000000 in
set_option maxRecDepth 100000 in
theorem Zhu{G:Nat}{H:Nat→Option Obj}(hM:Yn G H)(hH:Z4 G H)(n:Nat)(hn:1≤n∧n≤100)(acc:List UInt8)(hb:acc.length+(Ix n).length≤100000):
 GCp G H Tryz.prog 90 ([.a (.loc 0 0)]++[.a (.bool true)]) [(0,.cells 131 [.loc 0 0,.ref 1,.int .i64 (n:Int)]),(1,.row 5 (.int .u8) (bytesI (acc)))] 2 [0] (.tup []) [(0,.cells 131 [.loc 0 0,.ref 2,.int .i64 (n:Int)]),(2,.row 5 (.int .u8) (bytesI (acc++Ix n)))] 3:=by
 unfold Ix at*
 simp only[List.length_append]at hb
 have hm16:IntKind.i64.wrap (16*(n:Int))=16*(n:Int):=Zk (by omega) (by omega)
 have hm2:IntKind.i64.wrap (2*(n:Int))=2*(n:Int):=Zk (by omega) (by omega)
 have hm1:IntKind.i64.wrap ((n:Int)-1)=(n:Int)-1:=Zk (by omega) (by omega)
 have hp1:IntKind.i64.wrap ((n:Int)+1)=(n:Int)+1:=Zk (by omega) (by omega)
 have hP0:=Zs (n:Int) (acc) [[108,100,32,114,50,44,32,114,49,44,32,48]] (by omega) (by simp)
 generalize putS [[108,100,32,114,50,44,32,114,49,44,32,48]]=p0 at*
 refine T1.fn.gcp (by simp) (by simp[Zu,Zw,Zv,Zj,Ze,Vc.S1.okN,At.okN,SV.okN,Res.okN,Res.outOk,Zo,Res.own,Value.oneCell']) fun w X fr hglob=> ?_
 repeat'(first|(first|refine Stp.h ?_|(refine Za.gc hP0 ?_ ?_;focus simp[Zb];done))<;>try simp only[Zc,simprocAttr,↓reduceIte,reduceCtorEq,implies_true,hm16,hm2,hm1,hp1,Bool.not_true,Bool.not_false,Int.ofNat_lt]|(with_reducible first|assumption|refine And.intro ?_ ?_)|(intro h;first|omega|exact tg h ‹_›|exact tg ‹_› h|skip))
 all_goals first|omega|(simp only[List.length_append,List.length_cons,List.length_nil];omega)|skip
 have hAl1:((acc)++p0).length=((acc)++p0).length:=rfl
 conv at hAl1=>rhs;simp only[List.length_append]
 generalize hA1:(acc)++p0=a1 at*
 refine T.loop (ι:= {k:Nat//k≤n-1})
  (fun x=>⟨[(4,.one (.a (.int .i64 ((x.1:Int)+1)))),(0,.one (.a (.loc 0 0))),(1,.one (.a (.bool true))),(1000000,.one (.a (.ref 0)))],
    [(0,.cells 131 [.loc 0 0,.ref 1,.int .i64 (n:Int)]),(1,.row 5 (.int .u8) (bytesI (a1++rep x.1 fun i=>[sayS [108,100,32,114,52,44,32,114,49,44,32,37,100] [(i:Int)+1],[111,114,32,114,50,44,32,114,52]])))],2⟩) (fun x=>n-1-x.1) ⟨0,by simp⟩ (Ent.mk1 (fun n=>if n=1 then 3 else n) (by simp[Zx,rep,hA1])) ?_
 rintro⟨k,hk⟩
 simp only
 by_cases hlt:k<n-1
 ·have hmono:=Vd (fun i=>[sayS [108,100,32,114,52,44,32,114,49,44,32,37,100] [(i:Int)+1],[111,114,32,114,50,44,32,114,52]]) (show k+1≤n-1 from hlt)
  rw[Ys]at hmono
  simp only[List.length_append]at hmono
  have ha2:a1++rep (k+1) (fun i=>[sayS [108,100,32,114,52,44,32,114,49,44,32,37,100] [(i:Int)+1],[111,114,32,114,50,44,32,114,52]])=(a1++rep k (fun i=>[sayS [108,100,32,114,52,44,32,114,49,44,32,37,100] [(i:Int)+1],[111,114,32,114,50,44,32,114,52]]))++putS [sayS [108,100,32,114,52,44,32,114,49,44,32,37,100] [(k:Int)+1],[111,114,32,114,50,44,32,114,52]]:=by rw[Ys,List.append_assoc]
  have hac:(a1++rep k (fun i=>[sayS [108,100,32,114,52,44,32,114,49,44,32,37,100] [(i:Int)+1],[111,114,32,114,50,44,32,114,52]])).length=a1.length+(rep k (fun i=>[sayS [108,100,32,114,52,44,32,114,49,44,32,37,100] [(i:Int)+1],[111,114,32,114,50,44,32,114,52]])).length:=by simp
  have hw:IntKind.i64.wrap ((k:Int)+1)=((k+1:Nat):Int):=Zy (by omega)
  have hw2:IntKind.i64.wrap ((k:Int)+1+1)=((k+1:Nat):Int)+1:=by have:=Zy (k:=k+1) (by omega);simpa using this
  have hlt2:((k:Nat):Int)+1<(n:Int):=by omega
  generalize hacc:a1++rep k (fun i=>[sayS [108,100,32,114,52,44,32,114,49,44,32,37,100] [(i:Int)+1],[111,114,32,114,50,44,32,114,52]])=a at*
  generalize rep k (fun i=>[sayS [108,100,32,114,52,44,32,114,49,44,32,37,100] [(i:Int)+1],[111,114,32,114,50,44,32,114,52]])=pre at*
  have hS0:=Ym hM hH [108,100,32,114,52,44,32,114,49,44,32,37,100] [(k:Int)+1] (by simp;omega) (by simp) (by simp)
  generalize sayS [108,100,32,114,52,44,32,114,49,44,32,37,100] [(k:Int)+1]=z0 at*
  have hP:=Zs (n:Int) a [z0,[111,114,32,114,50,44,32,114,52]] (by omega) (by simp)
  repeat'(first|(first|refine Stp.h ?_|(refine Za.gcp hglob hS0 ?_ ?_;focus simp[Zb];done)|(refine Za.gc hP ?_ ?_;focus simp[Zb];done))<;>try simp only[Zc,simprocAttr,↓reduceIte,reduceCtorEq,implies_true,hlt2,hw,hw2,hm16,hm2,hm1,hp1,Bool.not_true,Bool.not_false,Int.ofNat_lt]|(with_reducible first|assumption|refine And.intro ?_ ?_)|(intro h;first|omega|exact tg h ‹_›|exact tg ‹_› h|skip))
  all_goals first|omega|(simp only[List.length_append,List.length_cons,List.length_nil];omega)|skip
  exact⟨⟨k+1,hlt⟩,(Ent.mk1 (fun n=>if n=1 then 4 else n) (by simp[Zx,ha2,hw,hw2])),by simp only;omega⟩
 have hk2:n-1=k:=by omega
 subst hk2
 have hnl:¬(((n-1:Nat):Int)+1)<(n:Int):=by omega
 clear hlt hk
 generalize (rep (n-1) fun i=>[sayS [108,100,32,114,52,44,32,114,49,44,32,37,100] [(i:Int)+1],[111,114,32,114,50,44,32,114,52]])=p1 at*
 have hP2:=Zs (n:Int) (a1++p1) [[108,100,105,32,114,52,44,32,48],[99,109,112,32,114,50,44,32,114,52],[106,110,122,32,46,111,107],[116,114,97,112,32,49],[46,111,107,58],[108,100,105,32,114,50,44,32,48]] (by simp only[List.length_append];omega) (by simp)
 generalize putS [[108,100,105,32,114,52,44,32,48],[99,109,112,32,114,50,44,32,114,52],[106,110,122,32,46,111,107],[116,114,97,112,32,49],[46,111,107,58],[108,100,105,32,114,50,44,32,48]]=p2 at*
 repeat'(first|(first|refine Stp.h ?_|(refine Za.gc hP2 ?_ ?_;focus simp[Zb];done))<;>try simp only[Zc,simprocAttr,↓reduceIte,reduceCtorEq,implies_true,hnl,hm16,hm2,hm1,hp1,Bool.not_true,Bool.not_false,Int.ofNat_lt]|(with_reducible first|assumption|refine And.intro ?_ ?_)|(intro h;first|omega|exact tg h ‹_›|exact tg ‹_› h|skip))
 all_goals first|omega|(simp only[List.length_append,List.length_cons,List.length_nil];omega)|skip
 have hAl3:((a1++p1)++p2).length=((a1++p1)++p2).length:=rfl
 conv at hAl3=>rhs;simp only[List.length_append]
 generalize hA3:(a1++p1)++p2=a3 at*
 refine T.loop (ι:= {k:Nat//k≤n})
  (fun x=>⟨[(30,.one (.a (.int .i64 (x.1:Int)))),(29,.one (.a (.int .i64 (n:Int)))),(0,.one (.a (.loc 0 0))),(1,.one (.a (.bool true))),(1000000,.one (.a (.ref 0)))],
    [(0,.cells 131 [.loc 0 0,.ref 1,.int .i64 (n:Int)]),(1,.row 5 (.int .u8) (bytesI (a3++rep x.1 fun i=>[[112,117,115,104,32,114,50]])))],2⟩) (fun x=>n-x.1) ⟨0,by simp⟩ (Ent.mk1 (fun n=>if n=1 then 3 else n) (by simp[Zx,rep,hA3])) ?_
 rintro⟨k,hk⟩
 simp only
 by_cases hlt:k<n
 ·have hmono:=Vd (fun i=>[[112,117,115,104,32,114,50]]) (show k+1≤n from hlt)
  rw[Ys]at hmono
  simp only[List.length_append]at hmono
  have ha2:a3++rep (k+1) (fun i=>[[112,117,115,104,32,114,50]])=(a3++rep k (fun i=>[[112,117,115,104,32,114,50]]))++putS [[112,117,115,104,32,114,50]]:=by rw[Ys,List.append_assoc]
  have hac:(a3++rep k (fun i=>[[112,117,115,104,32,114,50]])).length=a3.length+(rep k (fun i=>[[112,117,115,104,32,114,50]])).length:=by simp
  have hw:IntKind.i64.wrap ((k:Int)+1)=((k+1:Nat):Int):=Zy (by omega)
  have hw2:IntKind.i64.wrap ((k:Int)+1+1)=((k+1:Nat):Int)+1:=by have:=Zy (k:=k+1) (by omega);simpa using this
  have hlt2:((k:Nat):Int)<(n:Int):=by omega
  generalize hacc:a3++rep k (fun i=>[[112,117,115,104,32,114,50]])=a at*
  generalize rep k (fun i=>[[112,117,115,104,32,114,50]])=pre at*
  have hP:=Zs (n:Int) a [[112,117,115,104,32,114,50]] (by omega) (by simp)
  repeat'(first|(first|refine Stp.h ?_|(refine Za.gc hP ?_ ?_;focus simp[Zb];done))<;>try simp only[Zc,simprocAttr,↓reduceIte,reduceCtorEq,implies_true,hlt2,hw,hw2,hm16,hm2,hm1,hp1,Bool.not_true,Bool.not_false,Int.ofNat_lt]|(with_reducible first|assumption|refine And.intro ?_ ?_)|(intro h;first|omega|exact tg h ‹_›|exact tg ‹_› h|skip))
  all_goals first|omega|(simp only[List.length_append,List.length_cons,List.length_nil];omega)|skip
  exact⟨⟨k+1,hlt⟩,(Ent.mk1 (fun n=>if n=1 then 3 else n) (by simp[Zx,ha2,hw,hw2])),by simp only;omega⟩
 have hk2:n=k:=by omega
 subst hk2
 have hnl:¬(((n:Nat):Int))<(n:Int):=by omega
 clear hlt hk
 generalize (rep (n) fun i=>[[112,117,115,104,32,114,50]])=p3 at*
 have hSz4_0:=Ym hM hH [108,100,105,32,114,51,44,32,37,100] [16*(n:Int)] (by simp;omega) (by simp) (by simp)
 generalize sayS [108,100,105,32,114,51,44,32,37,100] [16*(n:Int)]=z4_0 at*
 have hP4:=Zs (n:Int) (a3++p3) [z4_0,[46,108,111,111,112,58]] (by simp only[List.length_append];omega) (by simp)
 generalize putS [z4_0,[46,108,111,111,112,58]]=p4 at*
 have hP5:=Tf hM hH n (by omega) 0 0 [115,104,108] [114,111,108] [] (by omega) (by omega) (by simp) (by simp) (by simp) ((a3++p3)++p4) (by first|omega|(simp only[List.length_append];omega))
 generalize hgp5:(Wl n 0 0 [115,104,108] [114,111,108] [])=p5 at*
 have hP6:=Tf hM hH n (by omega) 7 0 [114,111,108] [114,111,108] [] (by omega) (by omega) (by simp) (by simp) (by simp) (((a3++p3)++p4)++p5) (by first|omega|(simp only[List.length_append];omega))
 generalize hgp6:(Wl n 7 0 [114,111,108] [114,111,108] [])=p6 at*
 have hP7:=Zs (n:Int) ((((a3++p3)++p4)++p5)++p6) [[106,99,32,46,116,97,107,101]] (by simp only[List.length_append];omega) (by simp)
 generalize putS [[106,99,32,46,116,97,107,101]]=p7 at*
 have hP8:=Ol hM hH n (by omega) 7 1 0 [99,109,112] [99,112,99] false (by omega) (by omega) (by omega) (by simp) (by simp) (((((a3++p3)++p4)++p5)++p6)++p7) (by first|omega|(simp only[List.length_append];omega))
 generalize hgp8:(Qy n 7 1 0 [99,109,112] [99,112,99] false)=p8 at*
 have hP9:=Zs (n:Int) ((((((a3++p3)++p4)++p5)++p6)++p7)++p8) [[106,99,32,46,110,101,120,116],[46,116,97,107,101,58]] (by simp only[List.length_append];omega) (by simp)
 generalize putS [[106,99,32,46,110,101,120,116],[46,116,97,107,101,58]]=p9 at*
 have hP10:=Ol hM hH n (by omega) 7 1 0 [115,117,98] [115,98,99] true (by omega) (by omega) (by omega) (by simp) (by simp) (((((((a3++p3)++p4)++p5)++p6)++p7)++p8)++p9) (by first|omega|(simp only[List.length_append];omega))
 generalize hgp10:(Qy n 7 1 0 [115,117,98] [115,98,99] true)=p10 at*
 have hP11:=Zs (n:Int) ((((((((a3++p3)++p4)++p5)++p6)++p7)++p8)++p9)++p10) [[108,100,32,114,50,44,32,114,48,44,32,48],[108,100,105,32,114,52,44,32,49],[111,114,32,114,50,44,32,114,52],[115,116,32,114,48,44,32,114,50,44,32,48],[46,110,101,120,116,58]] (by simp only[List.length_append];omega) (by simp)
 generalize putS [[108,100,32,114,50,44,32,114,48,44,32,48],[108,100,105,32,114,52,44,32,49],[111,114,32,114,50,44,32,114,52],[115,116,32,114,48,44,32,114,50,44,32,48],[46,110,101,120,116,58]]=p11 at*
 have hP12:=Lt hM hH n (((((((((a3++p3)++p4)++p5)++p6)++p7)++p8)++p9)++p10)++p11) (by first|omega|(simp only[List.length_append];omega))
 generalize hgp12:(Pl)=p12 at*
 repeat'(first|(first|refine Stp.h ?_|(refine Za.gcp hglob hSz4_0 ?_ ?_;focus simp[Zb];done)|(refine Za.gc hP4 ?_ ?_;focus simp[Zb];done)|(refine Za.gcp hglob hP5 ?_ ?_;focus simp[Zb];done)|(refine Za.gcp hglob hP6 ?_ ?_;focus simp[Zb];done)|(refine Za.gc hP7 ?_ ?_;focus simp[Zb];done)|(refine Za.gcp hglob hP8 ?_ ?_;focus simp[Zb];done)|(refine Za.gc hP9 ?_ ?_;focus simp[Zb];done)|(refine Za.gcp hglob hP10 ?_ ?_;focus simp[Zb];done)|(refine Za.gc hP11 ?_ ?_;focus simp[Zb];done)|(refine Za.gcp hglob hP12 ?_ ?_;focus simp[Zb];done))<;>try simp only[Zc,simprocAttr,↓reduceIte,reduceCtorEq,implies_true,hnl,hm16,hm2,hm1,hp1,Bool.not_true,Bool.not_false,Int.ofNat_lt]|(with_reducible first|assumption|refine And.intro ?_ ?_)|(intro h;first|omega|exact tg h ‹_›|exact tg ‹_› h|skip))
 all_goals first|omega|(simp only[List.length_append,List.length_cons,List.length_nil];omega)|skip
 have hAl13:((((((((((a3++p3)++p4)++p5)++p6)++p7)++p8)++p9)++p10)++p11)++p12).length=((((((((((a3++p3)++p4)++p5)++p6)++p7)++p8)++p9)++p10)++p11)++p12).length:=rfl
 conv at hAl13=>rhs;simp only[List.length_append]
 generalize hA13:(((((((((a3++p3)++p4)++p5)++p6)++p7)++p8)++p9)++p10)++p11)++p12=a13 at*
 refine T.loop (ι:= {k:Nat//k≤n})
  (fun x=>⟨[(5,.one (.a (.int .i64 (x.1:Int)))),(0,.one (.a (.loc 0 0))),(1,.one (.a (.bool true))),(1000000,.one (.a (.ref 0)))],
    [(0,.cells 131 [.loc 0 0,.ref 1,.int .i64 (n:Int)]),(1,.row 5 (.int .u8) (bytesI (a13++rep x.1 fun i=>[sayS [108,100,32,114,50,44,32,114,55,44,32,37,100] [(i:Int)],sayS [115,116,32,114,48,44,32,114,50,44,32,37,100] [(i:Int)]])))],2⟩) (fun x=>n-x.1) ⟨0,by simp⟩ (Ent.mk1 (fun n=>if n=1 then 15 else n) (by simp[Zx,rep,hA13])) ?_
 rintro⟨k,hk⟩
 simp only
 by_cases hlt:k<n
 ·have hmono:=Vd (fun i=>[sayS [108,100,32,114,50,44,32,114,55,44,32,37,100] [(i:Int)],sayS [115,116,32,114,48,44,32,114,50,44,32,37,100] [(i:Int)]]) (show k+1≤n from hlt)
  rw[Ys]at hmono
  simp only[List.length_append]at hmono
  have ha2:a13++rep (k+1) (fun i=>[sayS [108,100,32,114,50,44,32,114,55,44,32,37,100] [(i:Int)],sayS [115,116,32,114,48,44,32,114,50,44,32,37,100] [(i:Int)]])=(a13++rep k (fun i=>[sayS [108,100,32,114,50,44,32,114,55,44,32,37,100] [(i:Int)],sayS [115,116,32,114,48,44,32,114,50,44,32,37,100] [(i:Int)]]))++putS [sayS [108,100,32,114,50,44,32,114,55,44,32,37,100] [(k:Int)],sayS [115,116,32,114,48,44,32,114,50,44,32,37,100] [(k:Int)]]:=by rw[Ys,List.append_assoc]
  have hac:(a13++rep k (fun i=>[sayS [108,100,32,114,50,44,32,114,55,44,32,37,100] [(i:Int)],sayS [115,116,32,114,48,44,32,114,50,44,32,37,100] [(i:Int)]])).length=a13.length+(rep k (fun i=>[sayS [108,100,32,114,50,44,32,114,55,44,32,37,100] [(i:Int)],sayS [115,116,32,114,48,44,32,114,50,44,32,37,100] [(i:Int)]])).length:=by simp
  have hw:IntKind.i64.wrap ((k:Int)+1)=((k+1:Nat):Int):=Zy (by omega)
  have hw2:IntKind.i64.wrap ((k:Int)+1+1)=((k+1:Nat):Int)+1:=by have:=Zy (k:=k+1) (by omega);simpa using this
  have hlt2:((k:Nat):Int)<(n:Int):=by omega
  generalize hacc:a13++rep k (fun i=>[sayS [108,100,32,114,50,44,32,114,55,44,32,37,100] [(i:Int)],sayS [115,116,32,114,48,44,32,114,50,44,32,37,100] [(i:Int)]])=a at*
  generalize rep k (fun i=>[sayS [108,100,32,114,50,44,32,114,55,44,32,37,100] [(i:Int)],sayS [115,116,32,114,48,44,32,114,50,44,32,37,100] [(i:Int)]])=pre at*
  have hS0:=Ym hM hH [108,100,32,114,50,44,32,114,55,44,32,37,100] [(k:Int)] (by simp;omega) (by simp) (by simp)
  have hS1:=Ym hM hH [115,116,32,114,48,44,32,114,50,44,32,37,100] [(k:Int)] (by simp;omega) (by simp) (by simp)
  generalize sayS [108,100,32,114,50,44,32,114,55,44,32,37,100] [(k:Int)]=z0 at*
  generalize sayS [115,116,32,114,48,44,32,114,50,44,32,37,100] [(k:Int)]=z1 at*
  have hP:=Zs (n:Int) a [z0,z1] (by omega) (by simp)
  repeat'(first|(first|refine Stp.h ?_|(refine Za.gcp hglob hS0 ?_ ?_;focus simp[Zb];done)|(refine Za.gcp hglob hS1 ?_ ?_;focus simp[Zb];done)|(refine Za.gc hP ?_ ?_;focus simp[Zb];done))<;>try simp only[Zc,simprocAttr,↓reduceIte,reduceCtorEq,implies_true,hlt2,hw,hw2,hm16,hm2,hm1,hp1,Bool.not_true,Bool.not_false,Int.ofNat_lt]|(with_reducible first|assumption|refine And.intro ?_ ?_)|(intro h;first|omega|exact tg h ‹_›|exact tg ‹_› h|skip))
  all_goals first|omega|(simp only[List.length_append,List.length_cons,List.length_nil];omega)|skip
  exact⟨⟨k+1,hlt⟩,(Ent.mk1 (fun n=>if n=1 then 5 else n) (by simp[Zx,ha2,hw,hw2])),by simp only;omega⟩
 have hk2:n=k:=by omega
 subst hk2
 have hnl:¬(((n:Nat):Int))<(n:Int):=by omega
 clear hlt hk
 generalize (rep (n) fun i=>[sayS [108,100,32,114,50,44,32,114,55,44,32,37,100] [(i:Int)],sayS [115,116,32,114,48,44,32,114,50,44,32,37,100] [(i:Int)]])=p13 at*
 have hP14:=Oq hM hH n ((n:Int)) (by omega) (a13++p13) (by first|omega|(simp only[List.length_append];omega))
 generalize hgp14:(Qz ((n:Int)))=p14 at*
 have hj:(a13++p13)++p14=acc++((((((((((((((p0++p1)++p2)++p3)++p4)++p5)++p6)++p7)++p8)++p9)++p10)++p11)++p12)++p13)++p14):=by simp only[←hA13,←hA3,←hA1,List.append_assoc,List.append_nil,List.nil_append]
 rw[hj]at hP14
 repeat'(first|(first|refine Stp.h ?_|(refine Za.gcp hglob hP14 ?_ ?_;focus simp[Zb];done))<;>try simp only[Zc,simprocAttr,↓reduceIte,reduceCtorEq,implies_true,hnl,hm16,hm2,hm1,hp1,Bool.not_true,Bool.not_false,Int.ofNat_lt]|(with_reducible first|assumption|refine And.intro ?_ ?_)|(intro h;first|omega|exact tg h ‹_›|exact tg ‹_› h|skip))
 all_goals first|omega|(simp only[List.length_append,List.length_cons,List.length_nil];omega)|skip
def Rr(n:Nat):List UInt8:=((((((((((((((((putS [sayS [108,100,32,114,53,44,32,114,48,44,32,37,100] [(n:Int)-1]])++(putS [sayS [108,100,32,114,50,44,32,114,49,44,32,37,100] [(n:Int)-1],[120,111,114,32,114,53,44,32,114,50]]))++(putS [[112,117,115,104,32,114,53]]))++(Us n 1))++(putS [[109,111,118,32,114,49,44,32,114,55]]))++(Xd 1 ((n:Int)-1) [46,111,118,101,114]))++(Vn n 1))++(putS [[46,111,118,101,114,58]]))++(Xd 0 ((n:Int)-1) [46,98,111,116,104]))++(Vn n 0))++(putS [[46,98,111,116,104,58]]))++(putS [sayS [99,97,108,108,32,117,100,105,118,37,100] [(n:Int)]]))++(Xd 7 ((n:Int)) [46,100,111,110,101]))++(Vn n 0))++(putS [[46,100,111,110,101,58]]))++(Qz ((n:Int)+1)))
set_option maxHeartbeats 16000000 in
set_option maxRecDepth 100000 in
theorem Zaj{G:Nat}{H:Nat→Option Obj}(hM:Yn G H)(hH:Z4 G H)(n:Nat)(hn:1≤n∧n≤100)(acc:List UInt8)(hb:acc.length+(Rr n).length≤100000):
 GCp G H Tryz.prog 93 ([.a (.loc 0 0)]++[.a (.bool false)]) [(0,.cells 131 [.loc 0 0,.ref 1,.int .i64 (n:Int)]),(1,.row 5 (.int .u8) (bytesI (acc)))] 2 [0] (.tup []) [(0,.cells 131 [.loc 0 0,.ref 2,.int .i64 (n:Int)]),(2,.row 5 (.int .u8) (bytesI (acc++Rr n)))] 3:=by
 unfold Rr at*
 simp only[List.length_append]at hb
 have hm16:IntKind.i64.wrap (16*(n:Int))=16*(n:Int):=Zk (by omega) (by omega)
 have hm2:IntKind.i64.wrap (2*(n:Int))=2*(n:Int):=Zk (by omega) (by omega)
 have hm1:IntKind.i64.wrap ((n:Int)-1)=(n:Int)-1:=Zk (by omega) (by omega)
 have hp1:IntKind.i64.wrap ((n:Int)+1)=(n:Int)+1:=Zk (by omega) (by omega)
 have hSz0_0:=Ym hM hH [108,100,32,114,53,44,32,114,48,44,32,37,100] [(n:Int)-1] (by simp;omega) (by simp) (by simp)
 generalize sayS [108,100,32,114,53,44,32,114,48,44,32,37,100] [(n:Int)-1]=z0_0 at*
 have hP0:=Zs (n:Int) (acc) [z0_0] (by omega) (by simp)
 generalize putS [z0_0]=p0 at*
 have hSz1_1:=Ym hM hH [108,100,32,114,50,44,32,114,49,44,32,37,100] [(n:Int)-1] (by simp;omega) (by simp) (by simp)
 generalize sayS [108,100,32,114,50,44,32,114,49,44,32,37,100] [(n:Int)-1]=z1_1 at*
 have hP1:=Zs (n:Int) ((acc)++p0) [z1_1,[120,111,114,32,114,53,44,32,114,50]] (by simp only[List.length_append];omega) (by simp)
 generalize putS [z1_1,[120,111,114,32,114,53,44,32,114,50]]=p1 at*
 have hP2:=Zs (n:Int) (((acc)++p0)++p1) [[112,117,115,104,32,114,53]] (by simp only[List.length_append];omega) (by simp)
 generalize putS [[112,117,115,104,32,114,53]]=p2 at*
 have hP3:=Pp hM hH n (by omega) 1 (by omega) ((((acc)++p0)++p1)++p2) (by first|omega|(simp only[List.length_append];omega))
 generalize hgp3:(Us n 1)=p3 at*
 have hP4:=Zs (n:Int) (((((acc)++p0)++p1)++p2)++p3) [[109,111,118,32,114,49,44,32,114,55]] (by simp only[List.length_append];omega) (by simp)
 generalize putS [[109,111,118,32,114,49,44,32,114,55]]=p4 at*
 have hP5:=Vo hM hH n 1 ((n:Int)-1) [46,111,118,101,114] (by omega) (by omega) (by simp) ((((((acc)++p0)++p1)++p2)++p3)++p4) (by first|omega|(simp only[List.length_append];omega))
 generalize hgp5:(Xd 1 ((n:Int)-1) [46,111,118,101,114])=p5 at*
 have hP6:=Ti hM hH n (by omega) 1 (by omega) (((((((acc)++p0)++p1)++p2)++p3)++p4)++p5) (by first|omega|(simp only[List.length_append];omega))
 generalize hgp6:(Vn n 1)=p6 at*
 have hP7:=Zs (n:Int) ((((((((acc)++p0)++p1)++p2)++p3)++p4)++p5)++p6) [[46,111,118,101,114,58]] (by simp only[List.length_append];omega) (by simp)
 generalize putS [[46,111,118,101,114,58]]=p7 at*
 have hP8:=Vo hM hH n 0 ((n:Int)-1) [46,98,111,116,104] (by omega) (by omega) (by simp) (((((((((acc)++p0)++p1)++p2)++p3)++p4)++p5)++p6)++p7) (by first|omega|(simp only[List.length_append];omega))
 generalize hgp8:(Xd 0 ((n:Int)-1) [46,98,111,116,104])=p8 at*
 have hP9:=Ti hM hH n (by omega) 0 (by omega) ((((((((((acc)++p0)++p1)++p2)++p3)++p4)++p5)++p6)++p7)++p8) (by first|omega|(simp only[List.length_append];omega))
 generalize hgp9:(Vn n 0)=p9 at*
 have hP10:=Zs (n:Int) (((((((((((acc)++p0)++p1)++p2)++p3)++p4)++p5)++p6)++p7)++p8)++p9) [[46,98,111,116,104,58]] (by simp only[List.length_append];omega) (by simp)
 generalize putS [[46,98,111,116,104,58]]=p10 at*
 have hSz11_2:=Ym hM hH [99,97,108,108,32,117,100,105,118,37,100] [(n:Int)] (by simp;omega) (by simp) (by simp)
 generalize sayS [99,97,108,108,32,117,100,105,118,37,100] [(n:Int)]=z11_2 at*
 have hP11:=Zs (n:Int) ((((((((((((acc)++p0)++p1)++p2)++p3)++p4)++p5)++p6)++p7)++p8)++p9)++p10) [z11_2] (by simp only[List.length_append];omega) (by simp)
 generalize putS [z11_2]=p11 at*
 have hP12:=Vo hM hH n 7 ((n:Int)) [46,100,111,110,101] (by omega) (by omega) (by simp) (((((((((((((acc)++p0)++p1)++p2)++p3)++p4)++p5)++p6)++p7)++p8)++p9)++p10)++p11) (by first|omega|(simp only[List.length_append];omega))
 generalize hgp12:(Xd 7 ((n:Int)) [46,100,111,110,101])=p12 at*
 have hP13:=Ti hM hH n (by omega) 0 (by omega) ((((((((((((((acc)++p0)++p1)++p2)++p3)++p4)++p5)++p6)++p7)++p8)++p9)++p10)++p11)++p12) (by rw[hgp9];simp only[List.length_append];omega)
 rw[hgp9]at hP13
 have hP14:=Zs (n:Int) (((((((((((((((acc)++p0)++p1)++p2)++p3)++p4)++p5)++p6)++p7)++p8)++p9)++p10)++p11)++p12)++p9) [[46,100,111,110,101,58]] (by simp only[List.length_append];omega) (by simp)
 generalize putS [[46,100,111,110,101,58]]=p14 at*
 have hP15:=Oq hM hH n ((n:Int)+1) (by omega) ((((((((((((((((acc)++p0)++p1)++p2)++p3)++p4)++p5)++p6)++p7)++p8)++p9)++p10)++p11)++p12)++p9)++p14) (by first|omega|(simp only[List.length_append];omega))
 generalize hgp15:(Qz ((n:Int)+1))=p15 at*
 refine V2.fn.gcp (by simp) (by simp[Zu,Zw,Zv,Zj,Ze,Vc.S1.okN,At.okN,SV.okN,Res.okN,Res.outOk,Zo,Res.own,Value.oneCell']) fun w X fr hglob=> ?_
 have hj:((((((((((((((((acc)++p0)++p1)++p2)++p3)++p4)++p5)++p6)++p7)++p8)++p9)++p10)++p11)++p12)++p9)++p14)++p15=acc++(((((((((((((((p0++p1)++p2)++p3)++p4)++p5)++p6)++p7)++p8)++p9)++p10)++p11)++p12)++p9)++p14)++p15):=by simp only[List.append_assoc]
 rw[hj]at hP15
 repeat'(first|(first|refine Stp.h ?_|(refine Za.gcp hglob hSz0_0 ?_ ?_;focus simp[Zb];done)|(refine Za.gc hP0 ?_ ?_;focus simp[Zb];done)|(refine Za.gcp hglob hSz1_1 ?_ ?_;focus simp[Zb];done)|(refine Za.gc hP1 ?_ ?_;focus simp[Zb];done)|(refine Za.gc hP2 ?_ ?_;focus simp[Zb];done)|(refine Za.gcp hglob hP3 ?_ ?_;focus simp[Zb];done)|(refine Za.gc hP4 ?_ ?_;focus simp[Zb];done)|(refine Za.gcp hglob hP5 ?_ ?_;focus simp[Zb];done)|(refine Za.gcp hglob hP6 ?_ ?_;focus simp[Zb];done)|(refine Za.gc hP7 ?_ ?_;focus simp[Zb];done)|(refine Za.gcp hglob hP8 ?_ ?_;focus simp[Zb];done)|(refine Za.gcp hglob hP9 ?_ ?_;focus simp[Zb];done)|(refine Za.gc hP10 ?_ ?_;focus simp[Zb];done)|(refine Za.gcp hglob hSz11_2 ?_ ?_;focus simp[Zb];done)|(refine Za.gc hP11 ?_ ?_;focus simp[Zb];done)|(refine Za.gcp hglob hP12 ?_ ?_;focus simp[Zb];done)|(refine Za.gcp hglob hP13 ?_ ?_;focus simp[Zb];done)|(refine Za.gc hP14 ?_ ?_;focus simp[Zb];done)|(refine Za.gcp hglob hP15 ?_ ?_;focus simp[Zb];done))<;>try simp only[Zc,simprocAttr,↓reduceIte,reduceCtorEq,implies_true,hm16,hm2,hm1,hp1,Bool.not_true,Bool.not_false,Int.ofNat_lt]|(with_reducible first|assumption|refine And.intro ?_ ?_)|(intro h;first|omega|exact tg h ‹_›|exact tg ‹_› h|skip))
 all_goals first|omega|(simp only[List.length_append,List.length_cons,List.length_nil];omega)|skip
def Rt(n:Nat):List UInt8:=(((((((((((((((putS [sayS [108,100,32,114,53,44,32,114,48,44,32,37,100] [(n:Int)-1]])++(putS [[112,117,115,104,32,114,53]]))++(Us n 1))++(putS [[109,111,118,32,114,49,44,32,114,55]]))++(Xd 1 ((n:Int)-1) [46,111,118,101,114]))++(Vn n 1))++(putS [[46,111,118,101,114,58]]))++(Xd 0 ((n:Int)-1) [46,98,111,116,104]))++(Vn n 0))++(putS [[46,98,111,116,104,58]]))++(putS [sayS [99,97,108,108,32,117,114,101,109,37,100] [(n:Int)]]))++(Xd 7 ((n:Int)) [46,100,111,110,101]))++(Vn n 0))++(putS [[46,100,111,110,101,58]]))++(Qz ((n:Int)+1)))
set_option maxHeartbeats 16000000 in
set_option maxRecDepth 100000 in
theorem Zak{G:Nat}{H:Nat→Option Obj}(hM:Yn G H)(hH:Z4 G H)(n:Nat)(hn:1≤n∧n≤100)(acc:List UInt8)(hb:acc.length+(Rt n).length≤100000):
 GCp G H Tryz.prog 93 ([.a (.loc 0 0)]++[.a (.bool true)]) [(0,.cells 131 [.loc 0 0,.ref 1,.int .i64 (n:Int)]),(1,.row 5 (.int .u8) (bytesI (acc)))] 2 [0] (.tup []) [(0,.cells 131 [.loc 0 0,.ref 2,.int .i64 (n:Int)]),(2,.row 5 (.int .u8) (bytesI (acc++Rt n)))] 3:=by
 unfold Rt at*
 simp only[List.length_append]at hb
 have hm16:IntKind.i64.wrap (16*(n:Int))=16*(n:Int):=Zk (by omega) (by omega)
 have hm2:IntKind.i64.wrap (2*(n:Int))=2*(n:Int):=Zk (by omega) (by omega)
 have hm1:IntKind.i64.wrap ((n:Int)-1)=(n:Int)-1:=Zk (by omega) (by omega)
 have hp1:IntKind.i64.wrap ((n:Int)+1)=(n:Int)+1:=Zk (by omega) (by omega)
 have hSz0_0:=Ym hM hH [108,100,32,114,53,44,32,114,48,44,32,37,100] [(n:Int)-1] (by simp;omega) (by simp) (by simp)
 generalize sayS [108,100,32,114,53,44,32,114,48,44,32,37,100] [(n:Int)-1]=z0_0 at*
 have hP0:=Zs (n:Int) (acc) [z0_0] (by omega) (by simp)
 generalize putS [z0_0]=p0 at*
 have hP1:=Zs (n:Int) ((acc)++p0) [[112,117,115,104,32,114,53]] (by simp only[List.length_append];omega) (by simp)
 generalize putS [[112,117,115,104,32,114,53]]=p1 at*
 have hP2:=Pp hM hH n (by omega) 1 (by omega) (((acc)++p0)++p1) (by first|omega|(simp only[List.length_append];omega))
 generalize hgp2:(Us n 1)=p2 at*
 have hP3:=Zs (n:Int) ((((acc)++p0)++p1)++p2) [[109,111,118,32,114,49,44,32,114,55]] (by simp only[List.length_append];omega) (by simp)
 generalize putS [[109,111,118,32,114,49,44,32,114,55]]=p3 at*
 have hP4:=Vo hM hH n 1 ((n:Int)-1) [46,111,118,101,114] (by omega) (by omega) (by simp) (((((acc)++p0)++p1)++p2)++p3) (by first|omega|(simp only[List.length_append];omega))
 generalize hgp4:(Xd 1 ((n:Int)-1) [46,111,118,101,114])=p4 at*
 have hP5:=Ti hM hH n (by omega) 1 (by omega) ((((((acc)++p0)++p1)++p2)++p3)++p4) (by first|omega|(simp only[List.length_append];omega))
 generalize hgp5:(Vn n 1)=p5 at*
 have hP6:=Zs (n:Int) (((((((acc)++p0)++p1)++p2)++p3)++p4)++p5) [[46,111,118,101,114,58]] (by simp only[List.length_append];omega) (by simp)
 generalize putS [[46,111,118,101,114,58]]=p6 at*
 have hP7:=Vo hM hH n 0 ((n:Int)-1) [46,98,111,116,104] (by omega) (by omega) (by simp) ((((((((acc)++p0)++p1)++p2)++p3)++p4)++p5)++p6) (by first|omega|(simp only[List.length_append];omega))
 generalize hgp7:(Xd 0 ((n:Int)-1) [46,98,111,116,104])=p7 at*
 have hP8:=Ti hM hH n (by omega) 0 (by omega) (((((((((acc)++p0)++p1)++p2)++p3)++p4)++p5)++p6)++p7) (by first|omega|(simp only[List.length_append];omega))
 generalize hgp8:(Vn n 0)=p8 at*
 have hP9:=Zs (n:Int) ((((((((((acc)++p0)++p1)++p2)++p3)++p4)++p5)++p6)++p7)++p8) [[46,98,111,116,104,58]] (by simp only[List.length_append];omega) (by simp)
 generalize putS [[46,98,111,116,104,58]]=p9 at*
 have hSz10_1:=Ym hM hH [99,97,108,108,32,117,114,101,109,37,100] [(n:Int)] (by simp;omega) (by simp) (by simp)
 generalize sayS [99,97,108,108,32,117,114,101,109,37,100] [(n:Int)]=z10_1 at*
 have hP10:=Zs (n:Int) (((((((((((acc)++p0)++p1)++p2)++p3)++p4)++p5)++p6)++p7)++p8)++p9) [z10_1] (by simp only[List.length_append];omega) (by simp)
 generalize putS [z10_1]=p10 at*
 have hP11:=Vo hM hH n 7 ((n:Int)) [46,100,111,110,101] (by omega) (by omega) (by simp) ((((((((((((acc)++p0)++p1)++p2)++p3)++p4)++p5)++p6)++p7)++p8)++p9)++p10) (by first|omega|(simp only[List.length_append];omega))
 generalize hgp11:(Xd 7 ((n:Int)) [46,100,111,110,101])=p11 at*
 have hP12:=Ti hM hH n (by omega) 0 (by omega) (((((((((((((acc)++p0)++p1)++p2)++p3)++p4)++p5)++p6)++p7)++p8)++p9)++p10)++p11) (by rw[hgp8];simp only[List.length_append];omega)
 rw[hgp8]at hP12
 have hP13:=Zs (n:Int) ((((((((((((((acc)++p0)++p1)++p2)++p3)++p4)++p5)++p6)++p7)++p8)++p9)++p10)++p11)++p8) [[46,100,111,110,101,58]] (by simp only[List.length_append];omega) (by simp)
 generalize putS [[46,100,111,110,101,58]]=p13 at*
 have hP14:=Oq hM hH n ((n:Int)+1) (by omega) (((((((((((((((acc)++p0)++p1)++p2)++p3)++p4)++p5)++p6)++p7)++p8)++p9)++p10)++p11)++p8)++p13) (by first|omega|(simp only[List.length_append];omega))
 generalize hgp14:(Qz ((n:Int)+1))=p14 at*
 refine V2.fn.gcp (by simp) (by simp[Zu,Zw,Zv,Zj,Ze,Vc.S1.okN,At.okN,SV.okN,Res.okN,Res.outOk,Zo,Res.own,Value.oneCell']) fun w X fr hglob=> ?_
 have hj:(((((((((((((((acc)++p0)++p1)++p2)++p3)++p4)++p5)++p6)++p7)++p8)++p9)++p10)++p11)++p8)++p13)++p14=acc++((((((((((((((p0++p1)++p2)++p3)++p4)++p5)++p6)++p7)++p8)++p9)++p10)++p11)++p8)++p13)++p14):=by simp only[List.append_assoc]
 rw[hj]at hP14
 repeat'(first|(first|refine Stp.h ?_|(refine Za.gcp hglob hSz0_0 ?_ ?_;focus simp[Zb];done)|(refine Za.gc hP0 ?_ ?_;focus simp[Zb];done)|(refine Za.gc hP1 ?_ ?_;focus simp[Zb];done)|(refine Za.gcp hglob hP2 ?_ ?_;focus simp[Zb];done)|(refine Za.gc hP3 ?_ ?_;focus simp[Zb];done)|(refine Za.gcp hglob hP4 ?_ ?_;focus simp[Zb];done)|(refine Za.gcp hglob hP5 ?_ ?_;focus simp[Zb];done)|(refine Za.gc hP6 ?_ ?_;focus simp[Zb];done)|(refine Za.gcp hglob hP7 ?_ ?_;focus simp[Zb];done)|(refine Za.gcp hglob hP8 ?_ ?_;focus simp[Zb];done)|(refine Za.gc hP9 ?_ ?_;focus simp[Zb];done)|(refine Za.gcp hglob hSz10_1 ?_ ?_;focus simp[Zb];done)|(refine Za.gc hP10 ?_ ?_;focus simp[Zb];done)|(refine Za.gcp hglob hP11 ?_ ?_;focus simp[Zb];done)|(refine Za.gcp hglob hP12 ?_ ?_;focus simp[Zb];done)|(refine Za.gc hP13 ?_ ?_;focus simp[Zb];done)|(refine Za.gcp hglob hP14 ?_ ?_;focus simp[Zb];done))<;>try simp only[Zc,simprocAttr,↓reduceIte,reduceCtorEq,implies_true,hm16,hm2,hm1,hp1,Bool.not_true,Bool.not_false,Int.ofNat_lt]|(with_reducible first|assumption|refine And.intro ?_ ?_)|(intro h;first|omega|exact tg h ‹_›|exact tg ‹_› h|skip))
 all_goals first|omega|(simp only[List.length_append,List.length_cons,List.length_nil];omega)|skip
def Zc2(n:Nat):List UInt8:=(((putS [[108,100,32,114,51,44,32,114,49,44,32,48],sayS [108,100,105,32,114,52,44,32,37,100] [16*(n:Int)],[99,109,112,32,114,51,44,32,114,52],[106,99,32,46,108,111,111,112],[109,111,118,32,114,51,44,32,114,52],[46,108,111,111,112,58],[108,100,105,32,114,52,44,32,48],[99,109,112,32,114,51,44,32,114,52],[106,122,32,46,100,111,110,101]])++(Wl n 0 0 [115,104,108] [114,111,108] []))++(putS [[108,100,105,32,114,52,44,32,49],[115,117,98,32,114,51,44,32,114,52],[106,109,112,32,46,108,111,111,112],[46,100,111,110,101,58],[114,101,116]]))
set_option maxHeartbeats 16000000 in
set_option maxRecDepth 100000 in
theorem shl_gcp{G:Nat}{H:Nat→Option Obj}(hM:Yn G H)(hH:Z4 G H)(n:Nat)(hn:1≤n∧n≤100)(acc:List UInt8)(hb:acc.length+(Zc2 n).length≤100000):
 GCp G H Tryz.prog 96 ([.a (.loc 0 0)]++[.a (.str [115,104,108])]) [(0,.cells 131 [.loc 0 0,.ref 1,.int .i64 (n:Int)]),(1,.row 5 (.int .u8) (bytesI (acc)))] 2 [0] (.tup []) [(0,.cells 131 [.loc 0 0,.ref 2,.int .i64 (n:Int)]),(2,.row 5 (.int .u8) (bytesI (acc++Zc2 n)))] 3:=by
 unfold Zc2 at*
 simp only[List.length_append]at hb
 have hne:(([115,104,108]:List UInt8)=[115,104,108])=True:=by simp
 have hm16:IntKind.i64.wrap (16*(n:Int))=16*(n:Int):=Zk (by omega) (by omega)
 have hm2:IntKind.i64.wrap (2*(n:Int))=2*(n:Int):=Zk (by omega) (by omega)
 have hm1:IntKind.i64.wrap ((n:Int)-1)=(n:Int)-1:=Zk (by omega) (by omega)
 have hp1:IntKind.i64.wrap ((n:Int)+1)=(n:Int)+1:=Zk (by omega) (by omega)
 have hSz0_0:=Ym hM hH [108,100,105,32,114,52,44,32,37,100] [16*(n:Int)] (by simp;omega) (by simp) (by simp)
 generalize sayS [108,100,105,32,114,52,44,32,37,100] [16*(n:Int)]=z0_0 at*
 have hP0:=Zs (n:Int) (acc) [[108,100,32,114,51,44,32,114,49,44,32,48],z0_0,[99,109,112,32,114,51,44,32,114,52],[106,99,32,46,108,111,111,112],[109,111,118,32,114,51,44,32,114,52],[46,108,111,111,112,58],[108,100,105,32,114,52,44,32,48],[99,109,112,32,114,51,44,32,114,52],[106,122,32,46,100,111,110,101]] (by omega) (by simp)
 generalize putS [[108,100,32,114,51,44,32,114,49,44,32,48],z0_0,[99,109,112,32,114,51,44,32,114,52],[106,99,32,46,108,111,111,112],[109,111,118,32,114,51,44,32,114,52],[46,108,111,111,112,58],[108,100,105,32,114,52,44,32,48],[99,109,112,32,114,51,44,32,114,52],[106,122,32,46,100,111,110,101]]=p0 at*
 have hP1:=Tf hM hH n (by omega) 0 0 [115,104,108] [114,111,108] [] (by omega) (by omega) (by simp) (by simp) (by simp) ((acc)++p0) (by first|omega|(simp only[List.length_append];omega))
 generalize hgp1:(Wl n 0 0 [115,104,108] [114,111,108] [])=p1 at*
 have hP2:=Zs (n:Int) (((acc)++p0)++p1) [[108,100,105,32,114,52,44,32,49],[115,117,98,32,114,51,44,32,114,52],[106,109,112,32,46,108,111,111,112],[46,100,111,110,101,58],[114,101,116]] (by simp only[List.length_append];omega) (by simp)
 generalize putS [[108,100,105,32,114,52,44,32,49],[115,117,98,32,114,51,44,32,114,52],[106,109,112,32,46,108,111,111,112],[46,100,111,110,101,58],[114,101,116]]=p2 at*
 refine W2.fn.gcp (by simp) (by simp[Zu,Zw,Zv,Zj,Ze,Vc.S1.okN,At.okN,SV.okN,Res.okN,Res.outOk,Zo,Res.own,Value.oneCell']) fun w X fr hglob=> ?_
 have hj:(((acc)++p0)++p1)++p2=acc++((p0++p1)++p2):=by simp only[List.append_assoc]
 rw[hj]at hP2
 repeat'(first|(first|refine Stp.h ?_|(refine Za.gcp hglob hSz0_0 ?_ ?_;focus simp[Zb];done)|(refine Za.gc hP0 ?_ ?_;focus simp[Zb];done)|(refine Za.gcp hglob hP1 ?_ ?_;focus simp[Zb];done)|(refine Za.gc hP2 ?_ ?_;focus simp[Zb];done))<;>try simp only[Zc,simprocAttr,↓reduceIte,reduceCtorEq,implies_true,hm16,hm2,hm1,hp1,Bool.not_true,Bool.not_false,Int.ofNat_lt,hne,decide_true]|(with_reducible first|assumption|refine And.intro ?_ ?_)|(intro h;first|omega|exact tg h ‹_›|exact tg ‹_› h|skip))
 all_goals first|omega|(simp only[List.length_append,List.length_cons,List.length_nil];omega)|skip
def Zc3(n:Nat):List UInt8:=(((putS [[108,100,32,114,51,44,32,114,49,44,32,48],sayS [108,100,105,32,114,52,44,32,37,100] [16*(n:Int)],[99,109,112,32,114,51,44,32,114,52],[106,99,32,46,108,111,111,112],[109,111,118,32,114,51,44,32,114,52],[46,108,111,111,112,58],[108,100,105,32,114,52,44,32,48],[99,109,112,32,114,51,44,32,114,52],[106,122,32,46,100,111,110,101]])++(M6 n 0 [115,104,114]))++(putS [[108,100,105,32,114,52,44,32,49],[115,117,98,32,114,51,44,32,114,52],[106,109,112,32,46,108,111,111,112],[46,100,111,110,101,58],[114,101,116]]))
set_option maxHeartbeats 16000000 in
set_option maxRecDepth 100000 in
theorem shr_gcp{G:Nat}{H:Nat→Option Obj}(hM:Yn G H)(hH:Z4 G H)(n:Nat)(hn:1≤n∧n≤100)(acc:List UInt8)(hb:acc.length+(Zc3 n).length≤100000):
 GCp G H Tryz.prog 96 ([.a (.loc 0 0)]++[.a (.str [115,104,114])]) [(0,.cells 131 [.loc 0 0,.ref 1,.int .i64 (n:Int)]),(1,.row 5 (.int .u8) (bytesI (acc)))] 2 [0] (.tup []) [(0,.cells 131 [.loc 0 0,.ref 2,.int .i64 (n:Int)]),(2,.row 5 (.int .u8) (bytesI (acc++Zc3 n)))] 3:=by
 unfold Zc3 at*
 simp only[List.length_append]at hb
 have hne:(([115,104,114]:List UInt8)=[115,104,108])=False:=by simp
 have hm16:IntKind.i64.wrap (16*(n:Int))=16*(n:Int):=Zk (by omega) (by omega)
 have hm2:IntKind.i64.wrap (2*(n:Int))=2*(n:Int):=Zk (by omega) (by omega)
 have hm1:IntKind.i64.wrap ((n:Int)-1)=(n:Int)-1:=Zk (by omega) (by omega)
 have hp1:IntKind.i64.wrap ((n:Int)+1)=(n:Int)+1:=Zk (by omega) (by omega)
 have hSz0_0:=Ym hM hH [108,100,105,32,114,52,44,32,37,100] [16*(n:Int)] (by simp;omega) (by simp) (by simp)
 generalize sayS [108,100,105,32,114,52,44,32,37,100] [16*(n:Int)]=z0_0 at*
 have hP0:=Zs (n:Int) (acc) [[108,100,32,114,51,44,32,114,49,44,32,48],z0_0,[99,109,112,32,114,51,44,32,114,52],[106,99,32,46,108,111,111,112],[109,111,118,32,114,51,44,32,114,52],[46,108,111,111,112,58],[108,100,105,32,114,52,44,32,48],[99,109,112,32,114,51,44,32,114,52],[106,122,32,46,100,111,110,101]] (by omega) (by simp)
 generalize putS [[108,100,32,114,51,44,32,114,49,44,32,48],z0_0,[99,109,112,32,114,51,44,32,114,52],[106,99,32,46,108,111,111,112],[109,111,118,32,114,51,44,32,114,52],[46,108,111,111,112,58],[108,100,105,32,114,52,44,32,48],[99,109,112,32,114,51,44,32,114,52],[106,122,32,46,100,111,110,101]]=p0 at*
 have hP1:=Iy hM hH n (by omega) 0 [115,104,114] (by omega) (by simp) ((acc)++p0) (by first|omega|(simp only[List.length_append];omega))
 generalize hgp1:(M6 n 0 [115,104,114])=p1 at*
 have hP2:=Zs (n:Int) (((acc)++p0)++p1) [[108,100,105,32,114,52,44,32,49],[115,117,98,32,114,51,44,32,114,52],[106,109,112,32,46,108,111,111,112],[46,100,111,110,101,58],[114,101,116]] (by simp only[List.length_append];omega) (by simp)
 generalize putS [[108,100,105,32,114,52,44,32,49],[115,117,98,32,114,51,44,32,114,52],[106,109,112,32,46,108,111,111,112],[46,100,111,110,101,58],[114,101,116]]=p2 at*
 refine W2.fn.gcp (by simp) (by simp[Zu,Zw,Zv,Zj,Ze,Vc.S1.okN,At.okN,SV.okN,Res.okN,Res.outOk,Zo,Res.own,Value.oneCell']) fun w X fr hglob=> ?_
 have hj:(((acc)++p0)++p1)++p2=acc++((p0++p1)++p2):=by simp only[List.append_assoc]
 rw[hj]at hP2
 repeat'(first|(first|refine Stp.h ?_|(refine Za.gcp hglob hSz0_0 ?_ ?_;focus simp[Zb];done)|(refine Za.gc hP0 ?_ ?_;focus simp[Zb];done)|(refine Za.gcp hglob hP1 ?_ ?_;focus simp[Zb];done)|(refine Za.gc hP2 ?_ ?_;focus simp[Zb];done))<;>try simp only[Zc,simprocAttr,↓reduceIte,reduceCtorEq,implies_true,hm16,hm2,hm1,hp1,Bool.not_true,Bool.not_false,Int.ofNat_lt,hne,decide_false]|(with_reducible first|assumption|refine And.intro ?_ ?_)|(intro h;first|omega|exact tg h ‹_›|exact tg ‹_› h|skip))
 all_goals first|omega|(simp only[List.length_append,List.length_cons,List.length_nil];omega)|skip
def Zcx(n:Nat):List UInt8:=(((putS [[108,100,32,114,51,44,32,114,49,44,32,48],sayS [108,100,105,32,114,52,44,32,37,100] [16*(n:Int)],[99,109,112,32,114,51,44,32,114,52],[106,99,32,46,108,111,111,112],[109,111,118,32,114,51,44,32,114,52],[46,108,111,111,112,58],[108,100,105,32,114,52,44,32,48],[99,109,112,32,114,51,44,32,114,52],[106,122,32,46,100,111,110,101]])++(M6 n 0 [115,97,114]))++(putS [[108,100,105,32,114,52,44,32,49],[115,117,98,32,114,51,44,32,114,52],[106,109,112,32,46,108,111,111,112],[46,100,111,110,101,58],[114,101,116]]))
set_option maxHeartbeats 16000000 in
set_option maxRecDepth 100000 in
theorem sar_gcp{G:Nat}{H:Nat→Option Obj}(hM:Yn G H)(hH:Z4 G H)(n:Nat)(hn:1≤n∧n≤100)(acc:List UInt8)(hb:acc.length+(Zcx n).length≤100000):
 GCp G H Tryz.prog 96 ([.a (.loc 0 0)]++[.a (.str [115,97,114])]) [(0,.cells 131 [.loc 0 0,.ref 1,.int .i64 (n:Int)]),(1,.row 5 (.int .u8) (bytesI (acc)))] 2 [0] (.tup []) [(0,.cells 131 [.loc 0 0,.ref 2,.int .i64 (n:Int)]),(2,.row 5 (.int .u8) (bytesI (acc++Zcx n)))] 3:=by
 unfold Zcx at*
 simp only[List.length_append]at hb
 have hne:(([115,97,114]:List UInt8)=[115,104,108])=False:=by simp
 have hm16:IntKind.i64.wrap (16*(n:Int))=16*(n:Int):=Zk (by omega) (by omega)
 have hm2:IntKind.i64.wrap (2*(n:Int))=2*(n:Int):=Zk (by omega) (by omega)
 have hm1:IntKind.i64.wrap ((n:Int)-1)=(n:Int)-1:=Zk (by omega) (by omega)
 have hp1:IntKind.i64.wrap ((n:Int)+1)=(n:Int)+1:=Zk (by omega) (by omega)
 have hSz0_0:=Ym hM hH [108,100,105,32,114,52,44,32,37,100] [16*(n:Int)] (by simp;omega) (by simp) (by simp)
 generalize sayS [108,100,105,32,114,52,44,32,37,100] [16*(n:Int)]=z0_0 at*
 have hP0:=Zs (n:Int) (acc) [[108,100,32,114,51,44,32,114,49,44,32,48],z0_0,[99,109,112,32,114,51,44,32,114,52],[106,99,32,46,108,111,111,112],[109,111,118,32,114,51,44,32,114,52],[46,108,111,111,112,58],[108,100,105,32,114,52,44,32,48],[99,109,112,32,114,51,44,32,114,52],[106,122,32,46,100,111,110,101]] (by omega) (by simp)
 generalize putS [[108,100,32,114,51,44,32,114,49,44,32,48],z0_0,[99,109,112,32,114,51,44,32,114,52],[106,99,32,46,108,111,111,112],[109,111,118,32,114,51,44,32,114,52],[46,108,111,111,112,58],[108,100,105,32,114,52,44,32,48],[99,109,112,32,114,51,44,32,114,52],[106,122,32,46,100,111,110,101]]=p0 at*
 have hP1:=Iy hM hH n (by omega) 0 [115,97,114] (by omega) (by simp) ((acc)++p0) (by first|omega|(simp only[List.length_append];omega))
 generalize hgp1:(M6 n 0 [115,97,114])=p1 at*
 have hP2:=Zs (n:Int) (((acc)++p0)++p1) [[108,100,105,32,114,52,44,32,49],[115,117,98,32,114,51,44,32,114,52],[106,109,112,32,46,108,111,111,112],[46,100,111,110,101,58],[114,101,116]] (by simp only[List.length_append];omega) (by simp)
 generalize putS [[108,100,105,32,114,52,44,32,49],[115,117,98,32,114,51,44,32,114,52],[106,109,112,32,46,108,111,111,112],[46,100,111,110,101,58],[114,101,116]]=p2 at*
 refine W2.fn.gcp (by simp) (by simp[Zu,Zw,Zv,Zj,Ze,Vc.S1.okN,At.okN,SV.okN,Res.okN,Res.outOk,Zo,Res.own,Value.oneCell']) fun w X fr hglob=> ?_
 have hj:(((acc)++p0)++p1)++p2=acc++((p0++p1)++p2):=by simp only[List.append_assoc]
 rw[hj]at hP2
 repeat'(first|(first|refine Stp.h ?_|(refine Za.gcp hglob hSz0_0 ?_ ?_;focus simp[Zb];done)|(refine Za.gc hP0 ?_ ?_;focus simp[Zb];done)|(refine Za.gcp hglob hP1 ?_ ?_;focus simp[Zb];done)|(refine Za.gc hP2 ?_ ?_;focus simp[Zb];done))<;>try simp only[Zc,simprocAttr,↓reduceIte,reduceCtorEq,implies_true,hm16,hm2,hm1,hp1,Bool.not_true,Bool.not_false,Int.ofNat_lt,hne,decide_false]|(with_reducible first|assumption|refine And.intro ?_ ?_)|(intro h;first|omega|exact tg h ‹_›|exact tg ‹_› h|skip))
 all_goals first|omega|(simp only[List.length_append,List.length_cons,List.length_nil];omega)|skip
def Ou:List (List UInt8×Nat):=[([109,117,108],88),([117,100,105,118],89),([117,114,101,109],91),([115,100,105,118],92),([115,114,101,109],94),([115,104,108],95),([115,104,114],97),([115,97,114],98)]
set_option maxHeartbeats 4000000 in
theorem Ba:GC Tryz.prog 73 [] [] 0 [] (.one (.a (.ref 0))) [(0,.fmap Ou)] 1:=by
 refine J4.fn.gc (by simp) (by simp[Zu,Zw,Zv,Zj,Ze,Vc.S1.okN,At.okN,SV.okN,Res.okN,Res.outOk,Zo,Res.own,Value.oneCell']) fun w X fr=> ?_
 repeat'(first|(first|refine Stp.h ?_)<;>try simp only[Zc,simprocAttr,↓reduceIte,reduceCtorEq,implies_true,Ou]|(with_reducible first|assumption|refine And.intro ?_ ?_)|(intro h;first|omega|exact tg h ‹_›|exact tg ‹_› h|skip))
 all_goals first|omega|rfl|skip
end Go.Proofs.YtbmecnjmbhokgaaGreatDoor
namespace Go.Proofs
open Go.Shelf
def Tryz.lays190_ren:Go.Shelf.Ren:=⟨fun|190=>74|125=>100|258=>99|128=>145|129=>146|302=>136|303=>137|304=>138|305=>139|306=>140|307=>141|308=>142|309=>143|310=>144|333=>169|329=>170|330=>171|334=>172|335=>173|336=>174|344=>188|n=>n,fun|31=>95|9=>9|3=>3|46=>86|0=>0|51=>87|53=>22|4=>4|183=>194|182=>193|131=>105|5=>5|218=>216|222=>174|228=>229|229=>230|n=>n,fun|n=>n⟩
theorem Tryz.lays190:Go.Proofs.Lays.n190 Tryz.prog Tryz.lays190_ren:= {
 mixed:=by kernel_rfl
 f125:=Tryz.func100.trans (congrArg some (by kernel_rfl))
 f128:=Tryz.func145.trans (congrArg some (by kernel_rfl))
 f129:=Tryz.func146.trans (congrArg some (by kernel_rfl))
 f190:=Tryz.func74.trans (congrArg some (by kernel_rfl))
 f258:=Tryz.func99.trans (congrArg some (by kernel_rfl))
 f302:=Tryz.func136.trans (congrArg some (by kernel_rfl))
 f303:=Tryz.func137.trans (congrArg some (by kernel_rfl))
 f304:=Tryz.func138.trans (congrArg some (by kernel_rfl))
 f305:=Tryz.func139.trans (congrArg some (by kernel_rfl))
 f306:=Tryz.func140.trans (congrArg some (by kernel_rfl))
 f307:=Tryz.func141.trans (congrArg some (by kernel_rfl))
 f308:=Tryz.func142.trans (congrArg some (by kernel_rfl))
 f309:=Tryz.func143.trans (congrArg some (by kernel_rfl))
 f310:=Tryz.func144.trans (congrArg some (by kernel_rfl))
 f329:=Tryz.func170.trans (congrArg some (by kernel_rfl))
 f330:=Tryz.func171.trans (congrArg some (by kernel_rfl))
 f333:=Tryz.func169.trans (congrArg some (by kernel_rfl))
 f334:=Tryz.func172.trans (congrArg some (by kernel_rfl))
 f335:=Tryz.func173.trans (congrArg some (by kernel_rfl))
 f336:=Tryz.func174.trans (congrArg some (by kernel_rfl))
 f344:=Tryz.func188.trans (congrArg some (by kernel_rfl))
 t0:=Tryz.underlying0
 a0:=Tryz.isAgg0
 z0:=Tryz.sizeOf0
 v0:=Tryz.zeroValue0
 t3:=Tryz.underlying3
 a3:=Tryz.isAgg3
 z3:=Tryz.sizeOf3
 v3:=Tryz.zeroValue3
 t4:=Tryz.underlying4
 a4:=Tryz.isAgg4
 z4:=Tryz.sizeOf4
 v4:=Tryz.zeroValue4
 t5:=Tryz.underlying5
 a5:=Tryz.isAgg5
 z5:=Tryz.sizeOf5
 v5:=Tryz.zeroValue5
 t9:=Tryz.underlying9
 a9:=Tryz.isAgg9
 z9:=Tryz.sizeOf9
 v9:=Tryz.zeroValue9
 t31:=Tryz.underlying95
 a31:=Tryz.isAgg95
 z31:=Tryz.sizeOf95
 v31:=Tryz.zeroValue95
 t46:=Tryz.underlying86
 a46:=Tryz.isAgg86
 z46:=Tryz.sizeOf86
 v46:=Tryz.zeroValue86
 t51:=Tryz.underlying87
 a51:=Tryz.isAgg87
 z51:=Tryz.sizeOf87
 v51:=Tryz.zeroValue87
 t53:=Tryz.underlying22
 a53:=Tryz.isAgg22
 z53:=Tryz.sizeOf22
 v53:=Tryz.zeroValue22
 t131:=Tryz.underlying105
 a131:=Tryz.isAgg105
 z131:=Tryz.sizeOf105
 v131:=Tryz.zeroValue105
 t182:=Tryz.underlying193
 a182:=Tryz.isAgg193
 z182:=Tryz.sizeOf193
 v182:=Tryz.zeroValue193
 t183:=Tryz.underlying194
 a183:=Tryz.isAgg194
 z183:=Tryz.sizeOf194
 v183:=Tryz.zeroValue194
 t218:=Tryz.underlying216
 a218:=Tryz.isAgg216
 z218:=Tryz.sizeOf216
 v218:=Tryz.zeroValue216
 t222:=Tryz.underlying174
 a222:=Tryz.isAgg174
 z222:=Tryz.sizeOf174
 v222:=Tryz.zeroValue174
 t228:=Tryz.underlying229
 a228:=Tryz.isAgg229
 z228:=Tryz.sizeOf229
 v228:=Tryz.zeroValue229
 t229:=Tryz.underlying230
 a229:=Tryz.isAgg230
 z229:=Tryz.sizeOf230
 v229:=Tryz.zeroValue230}
open Go.Sort Go.RowKit in
theorem Tryz.slices_Sort_string(blk off cap:Nat)(ss:List (List UInt8))(w:World)(hH:Holds encStr w blk off ss.toArray)(hblk:blk<w.heap.size)(hsz:ss.length<4611686018427387904):
 Calls Tryz.prog 74 #[.slice (some ⟨blk,off,none⟩) ss.length cap] w fun e w'=>
  e= .returned (.tuple #[])∧∃n os,w'=grow (putRow encStr (Sort.ahead w n) blk off (ss.mergeSort fun x y=>decide (x≤y)).toArray) os:=Any.slices_Sort_string Tryz.lays190 blk off cap ss w hH hblk hsz
end Go.Proofs
