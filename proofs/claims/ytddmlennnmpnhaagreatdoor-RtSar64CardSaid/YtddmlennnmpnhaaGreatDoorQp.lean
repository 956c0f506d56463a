/- A part of the proofs of this seat's laws: steps on the way, joined. It has no conditions of its own. -/
import Derived.Test.YtddmlennnmpnhaaGreatDoorQo
import Derived.Test.YtddmlennnmpnhaaGreatDoorQj
namespace Go.Proofs.YtddmlennnmpnhaaGreatDoor
open Go Go.RowKit Vc
set_option linter.unusedVariables false
set_option linter.unusedSimpArgs false
attribute [local irreducible] T Za Zn Ent RdC RwC Yd Ze Zh
theorem Lh(old new:List UInt8):∀(k:Nat) (s:List UInt8),(Lib.replaceK old new k s).length≤s.length+k*new.length
 |0,s=>by unfold Lib.replaceK;simp
 |k+1,s=>by
  unfold Lib.replaceK
  split
  ·omega
  ·have ih:=Lh old new k (s.drop ((Lib.index s old).toNat+old.length))
   simp only[List.length_append,List.length_take,List.length_drop,Nat.succ_mul]at ih ⊢
   omega
theorem Ae(s new:List UInt8):(Lib.replace s [37,100] new 1).length≤s.length+new.length:=by
 unfold Lib.replace
 split
 ·omega
 ·have h1:Lib.replaceNum s [37,100] 1≤1:=by unfold Lib.replaceNum;split<;>omega
  have:=Lh [37,100] new (Lib.replaceNum s [37,100] 1) s
  have h2:Lib.replaceNum s [37,100] 1*new.length≤1*new.length:=Nat.mul_le_mul_right _ h1
  omega
theorem Du{G:Nat}{H:Nat→Option Obj}(hM:Yn G H)(s new:List UInt8)(hs:s.length≤1000)(hn:new.length≤1000):
 GCp G H Tryz.prog 167 [.a (.str s),.a (.str [37,100]),.a (.str new),.a (.int .i64 1)] [] 0 [] (.one (.a (.str (Lib.replace s [37,100] new 1)))) [] 0:=
 GCp.plain (by simp[S1.bd,At.bd]) (by simp[SV.bd,S1.bd,At.bd]) (by simp[Zu,Zw,Zv,Zj,Zf,Vc.S1.okN,At.okN,SV.okN,Res.okN,Res.outOk,Zo,Res.own,Value.oneCell']) fun w hg=>by
  obtain⟨m,hm⟩:=hM w _ hg
  have hc:Lib.countB ⟨s.toArray⟩ ⟨[37,100].toArray⟩≤1001:=by
   have:=Lib.count_le s [37,100]
   have e:Lib.countB ⟨s.toArray⟩ ⟨[37,100].toArray⟩=Lib.count s [37,100]:=rfl
   rw[e];omega
  have hp:Lib.countB ⟨s.toArray⟩ ⟨[37,100].toArray⟩*new.length≤1001*1000:=Nat.mul_le_mul hc hn
  exact Tryz.strings_Replace ⟨s.toArray⟩ ⟨[37,100].toArray⟩ ⟨new.toArray⟩ 1 m w (by simp[ByteArray.size];omega) hm (by simp[ByteArray.size]) (by
   have e1:ByteArray.size ⟨s.toArray⟩=s.length:=by simp[ByteArray.size]
   have e2:ByteArray.size ⟨new.toArray⟩=new.length:=by simp[ByteArray.size]
   rw[e1,e2];omega)
def sayS(t:List UInt8)(ls:List Int):List UInt8:=ls.foldl (fun t n=>Lib.replace t [37,100] (Lib.itoa n) 1) t
set_option maxHeartbeats 4000000 in
theorem Yl{G:Nat}{H:Nat→Option Obj}(hM:Yn G H)(hH:Z4 G H)(t:List UInt8)(ls:List Int)(hr:∀n∈ls,0≤n∧n≤65535)(hl:ls.length≤10)(ht:t.length≤100):
 GCp G H Tryz.prog 129 [.a (.str t),.a (.ref 0)] [(0,.ro (.int .i64) ls)] 1 [] (.one (.a (.str (sayS t ls)))) [] 1:=by
 refine Dq.fn.gcp (by simp) (by simp[Zu,Zw,Zv,Zj,Zf,Vc.S1.okN,At.okN,SV.okN,Res.okN,Res.outOk,Zo,Res.own,Value.oneCell']) fun w X fr hglob=> ?_
 repeat'(first|(first|refine Stp.h ?_)<;>try simp only[Zc,simprocAttr,↓reduceIte,reduceCtorEq,implies_true]|(with_reducible first|assumption|refine And.intro ?_ ?_)|(intro h;first|omega|exact tg h ‹_›|exact tg ‹_› h|skip))
 all_goals first|omega|skip
 refine T.loop (ι:= {k:Nat//k≤ls.length∧(sayS t (ls.take k)).length≤100+21*k})
  (fun x=>⟨[(9,.one (.a (.int .i64 (x.1:Int)))),(8,.one (.a (.int .i64 ls.length))),(7,.one (.a (.ref 0))),(0,.one (.a (.str (sayS t (ls.take x.1)))))],[(0,.ro (.int .i64) ls)],1⟩) (fun x=>ls.length-x.1) ⟨0,by simp,by simpa[sayS]using ht⟩ (Ent.mk1 (id) (by simp[Zt,sayS])) ?_
 rintro⟨k,hk,hsl⟩
 simp only
 by_cases hlt:k<ls.length
 ·generalize hx:ls[k]=x
  have hx':ls.getD k (Kd.dflt (.int .i64))=x:=by show ls.getD k 0=x;simp[List.getD,hlt,hx]
  have hxr:=hr x (by rw[←hx];exact List.getElem_mem hlt)
  have htk:sayS t (ls.take (k+1))=Lib.replace (sayS t (ls.take k)) [37,100] (Lib.itoa x) 1:=by
   unfold sayS
   rw[List.take_add_one,List.getElem?_eq_getElem hlt,hx]
   simp
  generalize sayS t (ls.take k)=u at hsl htk
  have hI:=Zhd G H hH x hxr.1 hxr.2
  have hil:=Lib.itoa_length_le x (by omega) (by omega)
  have hR:=Du hM u (Lib.itoa x) (by omega) (by omega)
  have hrl:=Ae u (Lib.itoa x)
  have hw:IntKind.i64.wrap ((k:Int)+1)=((k+1:Nat):Int):=Zx (by omega)
  have htt:((k:Int)).toNat=k:=by omega
  generalize Lib.itoa x=v at*
  generalize Lib.replace u [37,100] v 1=z at*
  repeat'(first|(first|refine Stp.h ?_|(refine Za.gcp hglob hI ?_ ?_;focus simp[Zb];done)|(refine Za.gcp hglob hR ?_ ?_;focus simp[Zb];done))<;>try simp only[Zc,simprocAttr,↓reduceIte,reduceCtorEq,implies_true,hx',hw,htt,Int.ofNat_lt]|(with_reducible first|assumption|refine And.intro ?_ ?_)|(intro h;first|omega|exact tg h ‹_›|exact tg ‹_› h|skip))
  all_goals first|omega|skip
  exact⟨⟨k+1,hlt,by rw[htk];omega⟩,(Ent.mk1 (id) (by simp[Zt,htk,hw])),by simp only;omega⟩
 ·have hk2:k=ls.length:=by omega
  subst hk2
  rw[List.take_length]
  repeat'(first|(first|refine Stp.h ?_)<;>try simp only[Zc,simprocAttr,↓reduceIte,reduceCtorEq,implies_true,Int.ofNat_lt]|(with_reducible first|assumption|refine And.intro ?_ ?_)|(intro h;first|omega|exact tg h ‹_›|exact tg ‹_› h|skip))
  all_goals first|omega|skip
def Xr(a b:List UInt8)(i:Int):List UInt8:=if i=0 then a else b
theorem Xw(a b:List UInt8)(i:Int):RdC Tryz.prog 169 [.v (.a (.str a)),.v (.a (.str b)),.v (.a (.int .i64 i))] (.one (.a (.str (Xr a b i)))):=by
 refine J4.fn.rd (by simp) (by simp[Zz]) (by simp[Zz]) fun w=> ?_
 unfold Xr
 by_cases h:i=0
 ·rw[if_pos h]
  repeat'(first|(first|refine Stp.h ?_)<;>try simp only[Zc,simprocAttr,↓reduceIte,reduceCtorEq,implies_true,h]|(with_reducible first|assumption|refine And.intro ?_ ?_)|(intro h;first|omega|exact tg h ‹_›|exact tg ‹_› h|skip))
 ·rw[if_neg h]
  repeat'(first|(first|refine Stp.h ?_)<;>try simp only[Zc,simprocAttr,↓reduceIte,reduceCtorEq,implies_true,h]|(with_reducible first|assumption|refine And.intro ?_ ?_)|(intro h;first|omega|exact tg h ‹_›|exact tg ‹_› h|skip))
def rep(n:Nat)(f:Nat→List (List UInt8)):List UInt8:=(List.range n).flatMap fun i=>putS (f i)
theorem Ys(k:Nat)(f:Nat→List (List UInt8)):rep (k+1) f=rep k f++putS (f k):=by simp[rep,List.range_succ]
theorem Va(f:Nat→List (List UInt8)){k n:Nat}(h:k≤n):(rep k f).length≤(rep n f).length:=by
 induction n with
 |zero=>have:k=0:=by omega
        rw[this];exact Nat.le_refl _
 |succ n ih=>
  rcases Nat.lt_or_ge n k with h1|h1
  ·have:k=n+1:=by omega
   rw[this];exact Nat.le_refl _
  ·have:=ih h1
   rw[Ys];simp only[List.length_append];omega
theorem Nh{a b:List UInt8}(ha:a.length≤100)(hb:b.length≤100)(i:Int):(Xr a b i).length≤100:=by unfold Xr;split<;>assumption
def Q3(k:Int):List UInt8:=putS [sayS [108,100,105,32,114,50,44,32,37,100] [k],[97,100,100,32,114,55,44,32,114,50],[114,101,116]]
set_option maxHeartbeats 4000000 in
theorem Ot{G:Nat}{H:Nat→Option Obj}(hM:Yn G H)(hH:Z4 G H)(n:Int)(k:Int)(hk:0≤k∧k≤65535)(acc:List UInt8)(hb:acc.length+(Q3 k).length≤100000):
 GCp G H Tryz.prog 134 ([.a (.loc 0 0)]++[.a (.int .i64 k)]) [(0,.cells 132 [.loc 0 0,.ref 1,.int .i64 n]),(1,.row 5 (.int .u8) (bytesI (acc)))] 2 [0] (.tup []) [(0,.cells 132 [.loc 0 0,.ref 2,.int .i64 n]),(2,.row 5 (.int .u8) (bytesI (acc++Q3 k)))] 3:=by
 unfold Q3 at*
 have hP:=Zs n acc [sayS [108,100,105,32,114,50,44,32,37,100] [k],[97,100,100,32,114,55,44,32,114,50],[114,101,116]] (by omega) (by simp)
 have hS0:=Yl hM hH [108,100,105,32,114,50,44,32,37,100] [k] (by simp;omega) (by simp) (by simp)
 generalize sayS [108,100,105,32,114,50,44,32,37,100] [k]=z0 at*
 refine Qs.fn.gcp (by simp) (by simp[Zu,Zw,Zv,Zj,Zf,Vc.S1.okN,At.okN,SV.okN,Res.okN,Res.outOk,Zo,Res.own,Value.oneCell']) fun w X fr hglob=> ?_
 repeat'(first|(first|refine Stp.h ?_|(refine Za.gcp hglob hS0 ?_ ?_;focus simp[Zb];done)|(refine Za.gc hP ?_ ?_;focus simp[Zb];done))<;>try simp only[Zc,simprocAttr,↓reduceIte,reduceCtorEq,implies_true]|(with_reducible first|assumption|refine And.intro ?_ ?_)|(intro h;first|omega|exact tg h ‹_›|exact tg ‹_› h|skip))
 all_goals first|omega|(simp only[List.length_cons,List.length_nil];omega)|skip
def Pl:List UInt8:=putS [[108,100,105,32,114,52,44,32,49],[115,117,98,32,114,51,44,32,114,52],[106,110,122,32,46,108,111,111,112]]
set_option maxHeartbeats 4000000 in
theorem Lu{G:Nat}{H:Nat→Option Obj}(hM:Yn G H)(hH:Z4 G H)(n:Int)(acc:List UInt8)(hb:acc.length+(Pl).length≤100000):
 GCp G H Tryz.prog 133 ([.a (.loc 0 0)]++[]) [(0,.cells 132 [.loc 0 0,.ref 1,.int .i64 n]),(1,.row 5 (.int .u8) (bytesI (acc)))] 2 [0] (.tup []) [(0,.cells 132 [.loc 0 0,.ref 2,.int .i64 n]),(2,.row 5 (.int .u8) (bytesI (acc++Pl)))] 3:=by
 unfold Pl at*
 have hP:=Zs n acc [[108,100,105,32,114,52,44,32,49],[115,117,98,32,114,51,44,32,114,52],[106,110,122,32,46,108,111,111,112]] (by omega) (by simp)
 refine R3.fn.gcp (by simp) (by simp[Zu,Zw,Zv,Zj,Zf,Vc.S1.okN,At.okN,SV.okN,Res.okN,Res.outOk,Zo,Res.own,Value.oneCell']) fun w X fr hglob=> ?_
 repeat'(first|(first|refine Stp.h ?_|(refine Za.gc hP ?_ ?_;focus simp[Zb];done))<;>try simp only[Zc,simprocAttr,↓reduceIte,reduceCtorEq,implies_true]|(with_reducible first|assumption|refine And.intro ?_ ?_)|(intro h;first|omega|exact tg h ‹_›|exact tg ‹_› h|skip))
 all_goals first|omega|(simp only[List.length_cons,List.length_nil];omega)|skip
def Xc(reg:Int)(word:Int)(lb:List UInt8):List UInt8:=putS [sayS [108,100,32,114,50,44,32,114,37,100,44,32,37,100] [reg,word],[115,104,108,32,114,50],[106,110,99,32]++lb]
set_option maxHeartbeats 4000000 in
theorem Vk{G:Nat}{H:Nat→Option Obj}(hM:Yn G H)(hH:Z4 G H)(n:Int)(reg:Int)(word:Int)(lb:List UInt8)(h1:0≤reg∧reg≤65535)(h2:0≤word∧word≤65535)(h3:lb.length≤100)(acc:List UInt8)(hb:acc.length+(Xc reg word lb).length≤100000):
 GCp G H Tryz.prog 135 ([.a (.loc 0 0)]++[.a (.int .i64 reg),.a (.int .i64 word),.a (.str lb)]) [(0,.cells 132 [.loc 0 0,.ref 1,.int .i64 n]),(1,.row 5 (.int .u8) (bytesI (acc)))] 2 [0] (.tup []) [(0,.cells 132 [.loc 0 0,.ref 2,.int .i64 n]),(2,.row 5 (.int .u8) (bytesI (acc++Xc reg word lb)))] 3:=by
 unfold Xc at*
 have hP:=Zs n acc [sayS [108,100,32,114,50,44,32,114,37,100,44,32,37,100] [reg,word],[115,104,108,32,114,50],[106,110,99,32]++lb] (by omega) (by simp)
 have hS0:=Yl hM hH [108,100,32,114,50,44,32,114,37,100,44,32,37,100] [reg,word] (by simp;omega) (by simp) (by simp)
 generalize sayS [108,100,32,114,50,44,32,114,37,100,44,32,37,100] [reg,word]=z0 at*
 refine Tr.fn.gcp (by simp) (by simp[Zu,Zw,Zv,Zj,Zf,Vc.S1.okN,At.okN,SV.okN,Res.okN,Res.outOk,Zo,Res.own,Value.oneCell']) fun w X fr hglob=> ?_
 repeat'(first|(first|refine Stp.h ?_|(refine Za.gcp hglob hS0 ?_ ?_;focus simp[Zb];done)|(refine Za.gc hP ?_ ?_;focus simp[Zb];done))<;>try simp only[Zc,simprocAttr,↓reduceIte,reduceCtorEq,implies_true]|(with_reducible first|assumption|refine And.intro ?_ ?_)|(intro h;first|omega|exact tg h ‹_›|exact tg ‹_› h|skip))
 all_goals first|omega|(simp only[List.length_cons,List.length_nil];omega)|skip
def Us(n:Nat)(reg:Int)(i:Nat):List (List UInt8):=[sayS [108,100,32,114,50,44,32,114,37,100,44,32,37,100] [reg,(n:Int)-1-(i:Int)],[112,117,115,104,32,114,50]]
def Ut(n:Nat)(reg:Int):List UInt8:=rep n (Us n reg)
set_option maxHeartbeats 8000000 in
set_option maxRecDepth 100000 in
theorem Pp{G:Nat}{H:Nat→Option Obj}(hM:Yn G H)(hH:Z4 G H)(n:Nat)(hn:n≤100)(reg:Int)(h1:0≤reg∧reg≤1000)(acc:List UInt8)(hb:acc.length+(Ut n reg).length≤100000):
 GCp G H Tryz.prog 128 ([.a (.loc 0 0)]++[.a (.int .i64 reg)]) [(0,.cells 132 [.loc 0 0,.ref 1,.int .i64 (n:Int)]),(1,.row 5 (.int .u8) (bytesI (acc)))] 2 [0] (.tup []) [(0,.cells 132 [.loc 0 0,.ref 2,.int .i64 (n:Int)]),(2,.row 5 (.int .u8) (bytesI (acc++Ut n reg)))] 3:=by
 unfold Ut at*
 refine Ra.fn.gcp (by simp) (by simp[Zu,Zw,Zv,Zj,Zf,Vc.S1.okN,At.okN,SV.okN,Res.okN,Res.outOk,Zo,Res.own,Value.oneCell']) fun w X fr hglob=> ?_
 repeat'(first|(first|refine Stp.h ?_)<;>try simp only[Zc,simprocAttr,↓reduceIte,reduceCtorEq,implies_true]|(with_reducible first|assumption|refine And.intro ?_ ?_)|(intro h;first|omega|exact tg h ‹_›|exact tg ‹_› h|skip))
 all_goals first|omega|skip
 refine T.loop (ι:= {k:Nat//k≤n})
  (fun x=>⟨[(9,.one (.a (.int .i64 (x.1:Int)))),(8,.one (.a (.int .i64 (n:Int)))),(0,.one (.a (.loc 0 0))),(1,.one (.a (.int .i64 reg))),(1000000,.one (.a (.ref 0)))],
    [(0,.cells 132 [.loc 0 0,.ref 1,.int .i64 (n:Int)]),(1,.row 5 (.int .u8) (bytesI (acc++rep x.1 (Us n reg))))],2⟩) (fun x=>n-x.1) ⟨0,by simp⟩ (Ent.mk1 (id) (by simp[Zt,rep])) ?_
 rintro⟨k,hk⟩
 simp only
 by_cases hlt:k<n
 ·have hmono:=Va (Us n reg) (show k+1≤n from hlt)
  rw[Ys]at hmono
  simp only[List.length_append]at hmono
  have hac:(acc++rep k (Us n reg)).length=acc.length+(rep k (Us n reg)).length:=by simp
  have ha2:acc++rep (k+1) (Us n reg)=(acc++rep k (Us n reg))++putS (Us n reg k):=by rw[Ys,List.append_assoc]
  have hw:IntKind.i64.wrap ((k:Int)+1)=((k+1:Nat):Int):=Zx (by omega)
  generalize hacc:acc++rep k (Us n reg)=a at*
  generalize rep k (Us n reg)=pre at*
  have hBk:Us n reg k=[sayS [108,100,32,114,50,44,32,114,37,100,44,32,37,100] [reg,(n:Int)-1-(k:Int)],[112,117,115,104,32,114,50]]:=rfl
  rw[hBk]at hmono ha2
  have hw1:IntKind.i64.wrap ((n:Int)-1)=(n:Int)-1:=Zk (by omega) (by omega)
  have hw2:IntKind.i64.wrap ((n:Int)-1-(k:Int))=(n:Int)-1-(k:Int):=Zk (by omega) (by omega)
  have hS0:=Yl hM hH [108,100,32,114,50,44,32,114,37,100,44,32,37,100] [reg,(n:Int)-1-(k:Int)] (by simp;omega) (by simp) (by simp)
  generalize sayS [108,100,32,114,50,44,32,114,37,100,44,32,37,100] [reg,(n:Int)-1-(k:Int)]=z0 at*
  have hP0:=Zs (n:Int) (a) [z0,[112,117,115,104,32,114,50]] (by omega) (by simp)
  repeat'(first|(first|refine Stp.h ?_|(refine Za.gcp hglob hS0 ?_ ?_;focus simp[Zb];done)|(refine Za.gc hP0 ?_ ?_;focus simp[Zb];done)|((with_reducible first|apply Za.rd (Xw _ _ _)|apply Ze.rd (Xw _ _ _));focus((repeat'(first|exact rfl|exact trivial|refine And.intro ?_ ?_|(simp[Zz];done)));done)))<;>try simp only[Zc,simprocAttr,↓reduceIte,reduceCtorEq,implies_true,hw1,hw2,hw,Int.ofNat_lt]|(with_reducible first|assumption|refine And.intro ?_ ?_)|(intro h;first|omega|exact tg h ‹_›|exact tg ‹_› h|skip))
  all_goals first|omega|(simp only[List.length_append,List.length_cons,List.length_nil];omega)|skip
  exact⟨⟨k+1,hlt⟩,(Ent.mk1 (fun n=>if n=1 then 4 else n) (by simp[Zt,ha2,hw])),by simp only;omega⟩
 ·have hk2:k=n:=by omega
  subst hk2
  repeat'(first|(first|refine Stp.h ?_)<;>try simp only[Zc,simprocAttr,↓reduceIte,reduceCtorEq,implies_true,Int.ofNat_lt]|(with_reducible first|assumption|refine And.intro ?_ ?_)|(intro h;first|omega|exact tg h ‹_›|exact tg ‹_› h|skip))
  all_goals first|omega|skip
def Ux(n:Nat)(reg:Int)(i:Nat):List (List UInt8):=[[108,100,105,32,114,52,44,32,48],sayS [108,100,32,114,50,44,32,114,37,100,44,32,37,100] [reg,(i:Int)],Xr [115,117,98] [115,98,99] (i:Int)++[32,114,52,44,32,114,50],sayS [115,116,32,114,37,100,44,32,114,52,44,32,37,100] [reg,(i:Int)]]
def Vj(n:Nat)(reg:Int):List UInt8:=rep n (Ux n reg)
set_option maxHeartbeats 8000000 in
set_option maxRecDepth 100000 in
theorem Tj{G:Nat}{H:Nat→Option Obj}(hM:Yn G H)(hH:Z4 G H)(n:Nat)(hn:n≤100)(reg:Int)(h1:0≤reg∧reg≤1000)(acc:List UInt8)(hb:acc.length+(Vj n reg).length≤100000):
 GCp G H Tryz.prog 136 ([.a (.loc 0 0)]++[.a (.int .i64 reg)]) [(0,.cells 132 [.loc 0 0,.ref 1,.int .i64 (n:Int)]),(1,.row 5 (.int .u8) (bytesI (acc)))] 2 [0] (.tup []) [(0,.cells 132 [.loc 0 0,.ref 2,.int .i64 (n:Int)]),(2,.row 5 (.int .u8) (bytesI (acc++Vj n reg)))] 3:=by
 unfold Vj at*
 refine Rb.fn.gcp (by simp) (by simp[Zu,Zw,Zv,Zj,Zf,Vc.S1.okN,At.okN,SV.okN,Res.okN,Res.outOk,Zo,Res.own,Value.oneCell']) fun w X fr hglob=> ?_
 repeat'(first|(first|refine Stp.h ?_)<;>try simp only[Zc,simprocAttr,↓reduceIte,reduceCtorEq,implies_true]|(with_reducible first|assumption|refine And.intro ?_ ?_)|(intro h;first|omega|exact tg h ‹_›|exact tg ‹_› h|skip))
 all_goals first|omega|skip
 refine T.loop (ι:= {k:Nat//k≤n})
  (fun x=>⟨[(9,.one (.a (.int .i64 (x.1:Int)))),(8,.one (.a (.int .i64 (n:Int)))),(0,.one (.a (.loc 0 0))),(1,.one (.a (.int .i64 reg))),(1000000,.one (.a (.ref 0)))],
    [(0,.cells 132 [.loc 0 0,.ref 1,.int .i64 (n:Int)]),(1,.row 5 (.int .u8) (bytesI (acc++rep x.1 (Ux n reg))))],2⟩) (fun x=>n-x.1) ⟨0,by simp⟩ (Ent.mk1 (id) (by simp[Zt,rep])) ?_
 rintro⟨k,hk⟩
 simp only
 by_cases hlt:k<n
 ·have hmono:=Va (Ux n reg) (show k+1≤n from hlt)
  rw[Ys]at hmono
  simp only[List.length_append]at hmono
  have hac:(acc++rep k (Ux n reg)).length=acc.length+(rep k (Ux n reg)).length:=by simp
  have ha2:acc++rep (k+1) (Ux n reg)=(acc++rep k (Ux n reg))++putS (Ux n reg k):=by rw[Ys,List.append_assoc]
  have hw:IntKind.i64.wrap ((k:Int)+1)=((k+1:Nat):Int):=Zx (by omega)
  generalize hacc:acc++rep k (Ux n reg)=a at*
  generalize rep k (Ux n reg)=pre at*
  have hBk:Ux n reg k=[[108,100,105,32,114,52,44,32,48],sayS [108,100,32,114,50,44,32,114,37,100,44,32,37,100] [reg,(k:Int)],Xr [115,117,98] [115,98,99] (k:Int)++[32,114,52,44,32,114,50],sayS [115,116,32,114,37,100,44,32,114,52,44,32,37,100] [reg,(k:Int)]]:=rfl
  rw[hBk]at hmono ha2
  have hcl:=Nh (a:=[115,117,98]) (b:=[115,98,99]) (by simp) (by simp) (k:Int)
  have hS0:=Yl hM hH [108,100,32,114,50,44,32,114,37,100,44,32,37,100] [reg,(k:Int)] (by simp;omega) (by simp) (by simp)
  have hS1:=Yl hM hH [115,116,32,114,37,100,44,32,114,52,44,32,37,100] [reg,(k:Int)] (by simp;omega) (by simp) (by simp)
  generalize sayS [108,100,32,114,50,44,32,114,37,100,44,32,37,100] [reg,(k:Int)]=z0 at*
  generalize sayS [115,116,32,114,37,100,44,32,114,52,44,32,37,100] [reg,(k:Int)]=z1 at*
  have hP0:=Zs (n:Int) (a) [[108,100,105,32,114,52,44,32,48],z0,Xr [115,117,98] [115,98,99] (k:Int)++[32,114,52,44,32,114,50],z1] (by omega) (by simp)
  repeat'(first|(first|refine Stp.h ?_|(refine Za.gcp hglob hS0 ?_ ?_;focus simp[Zb];done)|(refine Za.gcp hglob hS1 ?_ ?_;focus simp[Zb];done)|(refine Za.gc hP0 ?_ ?_;focus simp[Zb];done)|((with_reducible first|apply Za.rd (Xw _ _ _)|apply Ze.rd (Xw _ _ _));focus((repeat'(first|exact rfl|exact trivial|refine And.intro ?_ ?_|(simp[Zz];done)));done)))<;>try simp only[Zc,simprocAttr,↓reduceIte,reduceCtorEq,implies_true,hw,Int.ofNat_lt]|(with_reducible first|assumption|refine And.intro ?_ ?_)|(intro h;first|omega|exact tg h ‹_›|exact tg ‹_› h|skip))
  all_goals first|omega|(simp only[List.length_append,List.length_cons,List.length_nil];omega)|skip
  exact⟨⟨k+1,hlt⟩,(Ent.mk1 (fun n=>if n=1 then 5 else n) (by simp[Zt,ha2,hw])),by simp only;omega⟩
 ·have hk2:k=n:=by omega
  subst hk2
  repeat'(first|(first|refine Stp.h ?_)<;>try simp only[Zc,simprocAttr,↓reduceIte,reduceCtorEq,implies_true,Int.ofNat_lt]|(with_reducible first|assumption|refine And.intro ?_ ?_)|(intro h;first|omega|exact tg h ‹_›|exact tg ‹_› h|skip))
  all_goals first|omega|skip
def Oq(n:Nat)(reg:Int)(fst:List UInt8)(i:Nat):List (List UInt8):=[sayS [108,100,32,114,50,44,32,114,37,100,44,32,37,100] [reg,(n:Int)-1-(i:Int)],Xr fst [114,111,114] (i:Int)++[32,114,50],sayS [115,116,32,114,37,100,44,32,114,50,44,32,37,100] [reg,(n:Int)-1-(i:Int)]]
def M6(n:Nat)(reg:Int)(fst:List UInt8):List UInt8:=rep n (Oq n reg fst)
set_option maxHeartbeats 8000000 in
set_option maxRecDepth 100000 in
theorem Iz{G:Nat}{H:Nat→Option Obj}(hM:Yn G H)(hH:Z4 G H)(n:Nat)(hn:n≤100)(reg:Int)(fst:List UInt8)(h1:0≤reg∧reg≤1000)(h2:fst.length≤100)(acc:List UInt8)(hb:acc.length+(M6 n reg fst).length≤100000):
 GCp G H Tryz.prog 130 ([.a (.loc 0 0)]++[.a (.int .i64 reg),.a (.str fst)]) [(0,.cells 132 [.loc 0 0,.ref 1,.int .i64 (n:Int)]),(1,.row 5 (.int .u8) (bytesI (acc)))] 2 [0] (.tup []) [(0,.cells 132 [.loc 0 0,.ref 2,.int .i64 (n:Int)]),(2,.row 5 (.int .u8) (bytesI (acc++M6 n reg fst)))] 3:=by
 unfold M6 at*
 refine Qr.fn.gcp (by simp) (by simp[Zu,Zw,Zv,Zj,Zf,Vc.S1.okN,At.okN,SV.okN,Res.okN,Res.outOk,Zo,Res.own,Value.oneCell']) fun w X fr hglob=> ?_
 repeat'(first|(first|refine Stp.h ?_)<;>try simp only[Zc,simprocAttr,↓reduceIte,reduceCtorEq,implies_true]|(with_reducible first|assumption|refine And.intro ?_ ?_)|(intro h;first|omega|exact tg h ‹_›|exact tg ‹_› h|skip))
 all_goals first|omega|skip
 refine T.loop (ι:= {k:Nat//k≤n})
  (fun x=>⟨[(12,.one (.a (.int .i64 (x.1:Int)))),(11,.one (.a (.int .i64 (n:Int)))),(0,.one (.a (.loc 0 0))),(1,.one (.a (.int .i64 reg))),(2,.one (.a (.str fst))),(1000000,.one (.a (.ref 0)))],
    [(0,.cells 132 [.loc 0 0,.ref 1,.int .i64 (n:Int)]),(1,.row 5 (.int .u8) (bytesI (acc++rep x.1 (Oq n reg fst))))],2⟩) (fun x=>n-x.1) ⟨0,by simp⟩ (Ent.mk1 (id) (by simp[Zt,rep])) ?_
 rintro⟨k,hk⟩
 simp only
 by_cases hlt:k<n
 ·have hmono:=Va (Oq n reg fst) (show k+1≤n from hlt)
  rw[Ys]at hmono
  simp only[List.length_append]at hmono
  have hac:(acc++rep k (Oq n reg fst)).length=acc.length+(rep k (Oq n reg fst)).length:=by simp
  have ha2:acc++rep (k+1) (Oq n reg fst)=(acc++rep k (Oq n reg fst))++putS (Oq n reg fst k):=by rw[Ys,List.append_assoc]
  have hw:IntKind.i64.wrap ((k:Int)+1)=((k+1:Nat):Int):=Zx (by omega)
  generalize hacc:acc++rep k (Oq n reg fst)=a at*
  generalize rep k (Oq n reg fst)=pre at*
  have hBk:Oq n reg fst k=[sayS [108,100,32,114,50,44,32,114,37,100,44,32,37,100] [reg,(n:Int)-1-(k:Int)],Xr fst [114,111,114] (k:Int)++[32,114,50],sayS [115,116,32,114,37,100,44,32,114,50,44,32,37,100] [reg,(n:Int)-1-(k:Int)]]:=rfl
  rw[hBk]at hmono ha2
  have hw1:IntKind.i64.wrap ((n:Int)-1)=(n:Int)-1:=Zk (by omega) (by omega)
  have hw2:IntKind.i64.wrap ((n:Int)-1-(k:Int))=(n:Int)-1-(k:Int):=Zk (by omega) (by omega)
  have hcl:=Nh (b:=[114,111,114]) h2 (by simp) (k:Int)
  have hS0:=Yl hM hH [108,100,32,114,50,44,32,114,37,100,44,32,37,100] [reg,(n:Int)-1-(k:Int)] (by simp;omega) (by simp) (by simp)
  have hS1:=Yl hM hH [115,116,32,114,37,100,44,32,114,50,44,32,37,100] [reg,(n:Int)-1-(k:Int)] (by simp;omega) (by simp) (by simp)
  generalize sayS [108,100,32,114,50,44,32,114,37,100,44,32,37,100] [reg,(n:Int)-1-(k:Int)]=z0 at*
  generalize sayS [115,116,32,114,37,100,44,32,114,50,44,32,37,100] [reg,(n:Int)-1-(k:Int)]=z1 at*
  have hP0:=Zs (n:Int) (a) [z0,Xr fst [114,111,114] (k:Int)++[32,114,50],z1] (by omega) (by simp)
  repeat'(first|(first|refine Stp.h ?_|(refine Za.gcp hglob hS0 ?_ ?_;focus simp[Zb];done)|(refine Za.gcp hglob hS1 ?_ ?_;focus simp[Zb];done)|(refine Za.gc hP0 ?_ ?_;focus simp[Zb];done)|((with_reducible first|apply Za.rd (Xw _ _ _)|apply Ze.rd (Xw _ _ _));focus((repeat'(first|exact rfl|exact trivial|refine And.intro ?_ ?_|(simp[Zz];done)));done)))<;>try simp only[Zc,simprocAttr,↓reduceIte,reduceCtorEq,implies_true,hw1,hw2,hw,Int.ofNat_lt]|(with_reducible first|assumption|refine And.intro ?_ ?_)|(intro h;first|omega|exact tg h ‹_›|exact tg ‹_› h|skip))
  all_goals first|omega|(simp only[List.length_append,List.length_cons,List.length_nil];omega)|skip
  exact⟨⟨k+1,hlt⟩,(Ent.mk1 (fun n=>if n=1 then 5 else n) (by simp[Zt,ha2,hw])),by simp only;omega⟩
 ·have hk2:k=n:=by omega
  subst hk2
  repeat'(first|(first|refine Stp.h ?_)<;>try simp only[Zc,simprocAttr,↓reduceIte,reduceCtorEq,implies_true,Int.ofNat_lt]|(with_reducible first|assumption|refine And.intro ?_ ?_)|(intro h;first|omega|exact tg h ‹_›|exact tg ‹_› h|skip))
  all_goals first|omega|skip
def Uq(n:Nat)(reg:Int)(off:Int)(fst:List UInt8)(oth:List UInt8)(wt:List UInt8)(i:Nat):List (List UInt8):=[sayS [108,100,32,114,50,44,32,114,37,100,44,32,37,100] [reg,off+(i:Int)]]++([(Xr fst oth (i:Int)++[32,114,50])++wt]++[sayS [115,116,32,114,37,100,44,32,114,50,44,32,37,100] [reg,off+(i:Int)]])
def Wi(n:Nat)(reg:Int)(off:Int)(fst:List UInt8)(oth:List UInt8)(wt:List UInt8):List UInt8:=rep n (Uq n reg off fst oth wt)
set_option maxHeartbeats 8000000 in
set_option maxRecDepth 100000 in
theorem Tg{G:Nat}{H:Nat→Option Obj}(hM:Yn G H)(hH:Z4 G H)(n:Nat)(hn:n≤100)(reg:Int)(off:Int)(fst:List UInt8)(oth:List UInt8)(wt:List UInt8)(h1:0≤reg∧reg≤1000)(h2:0≤off∧off≤1000)(h3:fst.length≤100)(h4:oth.length≤100)(h5:wt.length≤100)(acc:List UInt8)(hb:acc.length+(Wi n reg off fst oth wt).length≤100000):
 GCp G H Tryz.prog 132 ([.a (.loc 0 0)]++[.a (.int .i64 reg),.a (.int .i64 off),.a (.str fst),.a (.str oth),.a (.str wt)]) [(0,.cells 132 [.loc 0 0,.ref 1,.int .i64 (n:Int)]),(1,.row 5 (.int .u8) (bytesI (acc)))] 2 [0] (.tup []) [(0,.cells 132 [.loc 0 0,.ref 2,.int .i64 (n:Int)]),(2,.row 5 (.int .u8) (bytesI (acc++Wi n reg off fst oth wt)))] 3:=by
 unfold Wi at*
 refine S9.fn.gcp (by simp) (by simp[Zu,Zw,Zv,Zj,Zf,Vc.S1.okN,At.okN,SV.okN,Res.okN,Res.outOk,Zo,Res.own,Value.oneCell']) fun w X fr hglob=> ?_
 repeat'(first|(first|refine Stp.h ?_)<;>try simp only[Zc,simprocAttr,↓reduceIte,reduceCtorEq,implies_true]|(with_reducible first|assumption|refine And.intro ?_ ?_)|(intro h;first|omega|exact tg h ‹_›|exact tg ‹_› h|skip))
 all_goals first|omega|skip
 refine T.loop (ι:= {k:Nat//k≤n})
  (fun x=>⟨[(17,.one (.a (.int .i64 (x.1:Int)))),(16,.one (.a (.int .i64 (n:Int)))),(0,.one (.a (.loc 0 0))),(1,.one (.a (.int .i64 reg))),(2,.one (.a (.int .i64 off))),(3,.one (.a (.str fst))),(4,.one (.a (.str oth))),(5,.one (.a (.str wt))),(1000000,.one (.a (.ref 0)))],
    [(0,.cells 132 [.loc 0 0,.ref 1,.int .i64 (n:Int)]),(1,.row 5 (.int .u8) (bytesI (acc++rep x.1 (Uq n reg off fst oth wt))))],2⟩) (fun x=>n-x.1) ⟨0,by simp⟩ (Ent.mk1 (id) (by simp[Zt,rep])) ?_
 rintro⟨k,hk⟩
 simp only
 by_cases hlt:k<n
 ·have hmono:=Va (Uq n reg off fst oth wt) (show k+1≤n from hlt)
  rw[Ys]at hmono
  simp only[List.length_append]at hmono
  have hac:(acc++rep k (Uq n reg off fst oth wt)).length=acc.length+(rep k (Uq n reg off fst oth wt)).length:=by simp
  have ha2:acc++rep (k+1) (Uq n reg off fst oth wt)=(acc++rep k (Uq n reg off fst oth wt))++putS (Uq n reg off fst oth wt k):=by rw[Ys,List.append_assoc]
  have hw:IntKind.i64.wrap ((k:Int)+1)=((k+1:Nat):Int):=Zx (by omega)
  generalize hacc:acc++rep k (Uq n reg off fst oth wt)=a at*
  generalize rep k (Uq n reg off fst oth wt)=pre at*
  have hBk:Uq n reg off fst oth wt k=[sayS [108,100,32,114,50,44,32,114,37,100,44,32,37,100] [reg,off+(k:Int)]]++([(Xr fst oth (k:Int)++[32,114,50])++wt]++[sayS [115,116,32,114,37,100,44,32,114,50,44,32,37,100] [reg,off+(k:Int)]]):=rfl
  rw[hBk]at hmono ha2
  have hw1:IntKind.i64.wrap (off+(k:Int))=off+(k:Int):=Zk (by omega) (by omega)
  have hcl:=Nh h3 h4 (k:Int)
  have hS0:=Yl hM hH [108,100,32,114,50,44,32,114,37,100,44,32,37,100] [reg,off+(k:Int)] (by simp;omega) (by simp) (by simp)
  have hS1:=Yl hM hH [115,116,32,114,37,100,44,32,114,50,44,32,37,100] [reg,off+(k:Int)] (by simp;omega) (by simp) (by simp)
  generalize sayS [108,100,32,114,50,44,32,114,37,100,44,32,37,100] [reg,off+(k:Int)]=z0 at*
  generalize sayS [115,116,32,114,37,100,44,32,114,50,44,32,37,100] [reg,off+(k:Int)]=z1 at*
  simp only[Q5,List.length_append]at hmono
  have hP0:=Zs (n:Int) (a) [z0] (by omega) (by simp)
  have hP1:=Zs (n:Int) ((a)++putS [z0]) [(Xr fst oth (k:Int)++[32,114,50])++wt] (by simp only[List.length_append];omega) (by simp)
  have hP2:=Zs (n:Int) (((a)++putS [z0])++putS [(Xr fst oth (k:Int)++[32,114,50])++wt]) [z1] (by simp only[List.length_append];omega) (by simp)
  have hj:(((a)++putS [z0])++putS [(Xr fst oth (k:Int)++[32,114,50])++wt])++putS [z1]=a++putS ([z0]++[(Xr fst oth (k:Int)++[32,114,50])++wt]++[z1]):=by simp only[Q5,List.append_assoc]
  have hlast:=hP2
  rw[hj]at hlast
  repeat'(first|(first|refine Stp.h ?_|(refine Za.gcp hglob hS0 ?_ ?_;focus simp[Zb];done)|(refine Za.gcp hglob hS1 ?_ ?_;focus simp[Zb];done)|(refine Za.gc hP0 ?_ ?_;focus simp[Zb];done)|(refine Za.gc hP1 ?_ ?_;focus simp[Zb];done)|(refine Za.gc hlast ?_ ?_;focus simp[Zb];done)|((with_reducible first|apply Za.rd (Xw _ _ _)|apply Ze.rd (Xw _ _ _));focus((repeat'(first|exact rfl|exact trivial|refine And.intro ?_ ?_|(simp[Zz];done)));done)))<;>try simp only[Zc,simprocAttr,↓reduceIte,reduceCtorEq,implies_true,hw1,hw,Int.ofNat_lt]|(with_reducible first|assumption|refine And.intro ?_ ?_)|(intro h;first|omega|exact tg h ‹_›|exact tg ‹_› h|skip))
  all_goals first|omega|(simp only[List.length_append,List.length_cons,List.length_nil];omega)|skip
  exact⟨⟨k+1,hlt⟩,(Ent.mk1 (fun n=>if n=1 then 9 else n) (by simp[Zt,ha2,hw])),by simp only;omega⟩
 ·have hk2:k=n:=by omega
  subst hk2
  repeat'(first|(first|refine Stp.h ?_)<;>try simp only[Zc,simprocAttr,↓reduceIte,reduceCtorEq,implies_true,Int.ofNat_lt]|(with_reducible first|assumption|refine And.intro ?_ ?_)|(intro h;first|omega|exact tg h ‹_›|exact tg ‹_› h|skip))
  all_goals first|omega|skip
def Ok(n:Nat)(ra:Int)(rb:Int)(off:Int)(fst:List UInt8)(oth:List UInt8)(keep:Bool)(i:Nat):List (List UInt8):=[sayS [108,100,32,114,50,44,32,114,37,100,44,32,37,100] [ra,(i:Int)],sayS [108,100,32,114,52,44,32,114,37,100,44,32,37,100] [rb,off+(i:Int)],Xr fst oth (i:Int)++[32,114,50,44,32,114,52]]++(if keep=true then[sayS [115,116,32,114,37,100,44,32,114,50,44,32,37,100] [ra,(i:Int)]]else[])
def Q0(n:Nat)(ra:Int)(rb:Int)(off:Int)(fst:List UInt8)(oth:List UInt8)(keep:Bool):List UInt8:=rep n (Ok n ra rb off fst oth keep)
set_option maxHeartbeats 8000000 in
set_option maxRecDepth 100000 in
theorem Ol{G:Nat}{H:Nat→Option Obj}(hM:Yn G H)(hH:Z4 G H)(n:Nat)(hn:n≤100)(ra:Int)(rb:Int)(off:Int)(fst:List UInt8)(oth:List UInt8)(keep:Bool)(h1:0≤ra∧ra≤1000)(h1':0≤rb∧rb≤1000)(h2:0≤off∧off≤1000)(h3:fst.length≤100)(h4:oth.length≤100)(acc:List UInt8)(hb:acc.length+(Q0 n ra rb off fst oth keep).length≤100000):
 GCp G H Tryz.prog 131 ([.a (.loc 0 0)]++[.a (.int .i64 ra),.a (.int .i64 rb),.a (.int .i64 off),.a (.str fst),.a (.str oth),.a (.bool keep)]) [(0,.cells 132 [.loc 0 0,.ref 1,.int .i64 (n:Int)]),(1,.row 5 (.int .u8) (bytesI (acc)))] 2 [0] (.tup []) [(0,.cells 132 [.loc 0 0,.ref 2,.int .i64 (n:Int)]),(2,.row 5 (.int .u8) (bytesI (acc++Q0 n ra rb off fst oth keep)))] 3:=by
 unfold Q0 at*
 refine Qq.fn.gcp (by simp) (by simp[Zu,Zw,Zv,Zj,Zf,Vc.S1.okN,At.okN,SV.okN,Res.okN,Res.outOk,Zo,Res.own,Value.oneCell']) fun w X fr hglob=> ?_
 repeat'(first|(first|refine Stp.h ?_)<;>try simp only[Zc,simprocAttr,↓reduceIte,reduceCtorEq,implies_true]|(with_reducible first|assumption|refine And.intro ?_ ?_)|(intro h;first|omega|exact tg h ‹_›|exact tg ‹_› h|skip))
 all_goals first|omega|skip
 refine T.loop (ι:= {k:Nat//k≤n})
  (fun x=>⟨[(19,.one (.a (.int .i64 (x.1:Int)))),(18,.one (.a (.int .i64 (n:Int)))),(0,.one (.a (.loc 0 0))),(1,.one (.a (.int .i64 ra))),(2,.one (.a (.int .i64 rb))),(3,.one (.a (.int .i64 off))),(4,.one (.a (.str fst))),(5,.one (.a (.str oth))),(6,.one (.a (.bool keep))),(1000000,.one (.a (.ref 0)))],
    [(0,.cells 132 [.loc 0 0,.ref 1,.int .i64 (n:Int)]),(1,.row 5 (.int .u8) (bytesI (acc++rep x.1 (Ok n ra rb off fst oth keep))))],2⟩) (fun x=>n-x.1) ⟨0,by simp⟩ (Ent.mk1 (id) (by simp[Zt,rep])) ?_
 rintro⟨k,hk⟩
 simp only
 by_cases hlt:k<n
 ·have hmono:=Va (Ok n ra rb off fst oth keep) (show k+1≤n from hlt)
  rw[Ys]at hmono
  simp only[List.length_append]at hmono
  have hac:(acc++rep k (Ok n ra rb off fst oth keep)).length=acc.length+(rep k (Ok n ra rb off fst oth keep)).length:=by simp
  have ha2:acc++rep (k+1) (Ok n ra rb off fst oth keep)=(acc++rep k (Ok n ra rb off fst oth keep))++putS (Ok n ra rb off fst oth keep k):=by rw[Ys,List.append_assoc]
  have hw:IntKind.i64.wrap ((k:Int)+1)=((k+1:Nat):Int):=Zx (by omega)
  generalize hacc:acc++rep k (Ok n ra rb off fst oth keep)=a at*
  generalize rep k (Ok n ra rb off fst oth keep)=pre at*
  have hBk:Ok n ra rb off fst oth keep k=[sayS [108,100,32,114,50,44,32,114,37,100,44,32,37,100] [ra,(k:Int)],sayS [108,100,32,114,52,44,32,114,37,100,44,32,37,100] [rb,off+(k:Int)],Xr fst oth (k:Int)++[32,114,50,44,32,114,52]]++(if keep=true then[sayS [115,116,32,114,37,100,44,32,114,50,44,32,37,100] [ra,(k:Int)]]else[]):=rfl
  rw[hBk]at hmono ha2
  have hw1:IntKind.i64.wrap (off+(k:Int))=off+(k:Int):=Zk (by omega) (by omega)
  have hcl:=Nh h3 h4 (k:Int)
  cases keep
  ·simp only[if_true,if_false,Bool.false_eq_true,List.append_nil]at hmono ha2
   have hS0:=Yl hM hH [108,100,32,114,50,44,32,114,37,100,44,32,37,100] [ra,(k:Int)] (by simp;omega) (by simp) (by simp)
   have hS1:=Yl hM hH [108,100,32,114,52,44,32,114,37,100,44,32,37,100] [rb,off+(k:Int)] (by simp;omega) (by simp) (by simp)
   generalize sayS [108,100,32,114,50,44,32,114,37,100,44,32,37,100] [ra,(k:Int)]=z0 at*
   generalize sayS [108,100,32,114,52,44,32,114,37,100,44,32,37,100] [rb,off+(k:Int)]=z1 at*
   have hP0:=Zs (n:Int) (a) [z0,z1,Xr fst oth (k:Int)++[32,114,50,44,32,114,52]] (by omega) (by simp)
   repeat'(first|(first|refine Stp.h ?_|(refine Za.gcp hglob hS0 ?_ ?_;focus simp[Zb];done)|(refine Za.gcp hglob hS1 ?_ ?_;focus simp[Zb];done)|(refine Za.gc hP0 ?_ ?_;focus simp[Zb];done)|((with_reducible first|apply Za.rd (Xw _ _ _)|apply Ze.rd (Xw _ _ _));focus((repeat'(first|exact rfl|exact trivial|refine And.intro ?_ ?_|(simp[Zz];done)));done)))<;>try simp only[Zc,simprocAttr,↓reduceIte,reduceCtorEq,implies_true,hw1,hw,Int.ofNat_lt]|(with_reducible first|assumption|refine And.intro ?_ ?_)|(intro h;first|omega|exact tg h ‹_›|exact tg ‹_› h|skip))
   all_goals first|omega|(simp only[List.length_append,List.length_cons,List.length_nil];omega)|skip
   exact⟨⟨k+1,hlt⟩,(Ent.mk1 (fun n=>if n=1 then 5 else n) (by simp[Zt,ha2,hw])),by simp only;omega⟩
  ·simp only[if_true,if_false,Bool.false_eq_true,List.append_nil]at hmono ha2
   have hS0:=Yl hM hH [108,100,32,114,50,44,32,114,37,100,44,32,37,100] [ra,(k:Int)] (by simp;omega) (by simp) (by simp)
   have hS1:=Yl hM hH [108,100,32,114,52,44,32,114,37,100,44,32,37,100] [rb,off+(k:Int)] (by simp;omega) (by simp) (by simp)
   have hS2:=Yl hM hH [115,116,32,114,37,100,44,32,114,50,44,32,37,100] [ra,(k:Int)] (by simp;omega) (by simp) (by simp)
   generalize sayS [108,100,32,114,50,44,32,114,37,100,44,32,37,100] [ra,(k:Int)]=z0 at*
   generalize sayS [108,100,32,114,52,44,32,114,37,100,44,32,37,100] [rb,off+(k:Int)]=z1 at*
   generalize sayS [115,116,32,114,37,100,44,32,114,50,44,32,37,100] [ra,(k:Int)]=z2 at*
   simp only[Q5,List.length_append]at hmono
   have hP0:=Zs (n:Int) (a) [z0,z1,Xr fst oth (k:Int)++[32,114,50,44,32,114,52]] (by omega) (by simp)
   have hP1:=Zs (n:Int) ((a)++putS [z0,z1,Xr fst oth (k:Int)++[32,114,50,44,32,114,52]]) [z2] (by simp only[List.length_append];omega) (by simp)
   have hj:((a)++putS [z0,z1,Xr fst oth (k:Int)++[32,114,50,44,32,114,52]])++putS [z2]=a++putS ([z0,z1,Xr fst oth (k:Int)++[32,114,50,44,32,114,52]]++[z2]):=by simp only[Q5,List.append_assoc]
   have hlast:=hP1
   rw[hj]at hlast
   repeat'(first|(first|refine Stp.h ?_|(refine Za.gcp hglob hS0 ?_ ?_;focus simp[Zb];done)|(refine Za.gcp hglob hS1 ?_ ?_;focus simp[Zb];done)|(refine Za.gcp hglob hS2 ?_ ?_;focus simp[Zb];done)|(refine Za.gc hP0 ?_ ?_;focus simp[Zb];done)|(refine Za.gc hlast ?_ ?_;focus simp[Zb];done)|((with_reducible first|apply Za.rd (Xw _ _ _)|apply Ze.rd (Xw _ _ _));focus((repeat'(first|exact rfl|exact trivial|refine And.intro ?_ ?_|(simp[Zz];done)));done)))<;>try simp only[Zc,simprocAttr,↓reduceIte,reduceCtorEq,implies_true,hw1,hw,Int.ofNat_lt]|(with_reducible first|assumption|refine And.intro ?_ ?_)|(intro h;first|omega|exact tg h ‹_›|exact tg ‹_› h|skip))
   all_goals first|omega|(simp only[List.length_append,List.length_cons,List.length_nil];omega)|skip
   exact⟨⟨k+1,hlt⟩,(Ent.mk1 (fun n=>if n=1 then 8 else n) (by simp[Zt,ha2,hw])),by simp only;omega⟩
 ·have hk2:k=n:=by omega
  subst hk2
  repeat'(first|(first|refine Stp.h ?_)<;>try simp only[Zc,simprocAttr,↓reduceIte,reduceCtorEq,implies_true,Int.ofNat_lt]|(with_reducible first|assumption|refine And.intro ?_ ?_)|(intro h;first|omega|exact tg h ‹_›|exact tg ‹_› h|skip))
  all_goals first|omega|skip
def mulS(n:Nat):List UInt8:=((((((((((((Ut n 0)++(Ut n 1))++(putS [[108,100,105,32,114,50,44,32,48]]))++(rep (n) fun i=>[sayS [115,116,32,114,48,44,32,114,50,44,32,37,100] [(i:Int)]]))++(putS [sayS [108,100,105,32,114,51,44,32,37,100] [16*(n:Int)],[46,108,111,111,112,58]]))++(M6 n 7 [115,104,114]))++(putS [[106,110,99,32,46,115,107,105,112]]))++(Q0 n 0 7 (n:Int) [97,100,100] [97,100,99] true))++(putS [[46,115,107,105,112,58]]))++(Wi n 7 (n:Int) [115,104,108] [114,111,108] []))++(Pl))++(Q3 (2*(n:Int))))
set_option maxHeartbeats 16000000 in
set_option maxRecDepth 100000 in
theorem mul_gcp{G:Nat}{H:Nat→Option Obj}(hM:Yn G H)(hH:Z4 G H)(n:Nat)(hn:1≤n∧n≤100)(acc:List UInt8)(hb:acc.length+(mulS n).length≤100000):
 GCp G H Tryz.prog 89 ([.a (.loc 0 0)]++[]) [(0,.cells 132 [.loc 0 0,.ref 1,.int .i64 (n:Int)]),(1,.row 5 (.int .u8) (bytesI (acc)))] 2 [0] (.tup []) [(0,.cells 132 [.loc 0 0,.ref 2,.int .i64 (n:Int)]),(2,.row 5 (.int .u8) (bytesI (acc++mulS n)))] 3:=by
 unfold mulS at*
 simp only[List.length_append]at hb
 have hm16:IntKind.i64.wrap (16*(n:Int))=16*(n:Int):=Zk (by omega) (by omega)
 have hm2:IntKind.i64.wrap (2*(n:Int))=2*(n:Int):=Zk (by omega) (by omega)
 have hm1:IntKind.i64.wrap ((n:Int)-1)=(n:Int)-1:=Zk (by omega) (by omega)
 have hp1:IntKind.i64.wrap ((n:Int)+1)=(n:Int)+1:=Zk (by omega) (by omega)
 have hP0:=Pp hM hH n (by omega) 0 (by omega) (acc) (by omega)
 generalize hgp0:(Ut n 0)=p0 at*
 have hP1:=Pp hM hH n (by omega) 1 (by omega) ((acc)++p0) (by first|omega|(simp only[List.length_append];omega))
 generalize hgp1:(Ut n 1)=p1 at*
 have hP2:=Zs (n:Int) (((acc)++p0)++p1) [[108,100,105,32,114,50,44,32,48]] (by simp only[List.length_append];omega) (by simp)
 generalize putS [[108,100,105,32,114,50,44,32,48]]=p2 at*
 refine T3.fn.gcp (by simp) (by simp[Zu,Zw,Zv,Zj,Zf,Vc.S1.okN,At.okN,SV.okN,Res.okN,Res.outOk,Zo,Res.own,Value.oneCell']) fun w X fr hglob=> ?_
 repeat'(first|(first|refine Stp.h ?_|(refine Za.gcp hglob hP0 ?_ ?_;focus simp[Zb];done)|(refine Za.gcp hglob hP1 ?_ ?_;focus simp[Zb];done)|(refine Za.gc hP2 ?_ ?_;focus simp[Zb];done))<;>try simp only[Zc,simprocAttr,↓reduceIte,reduceCtorEq,implies_true,hm16,hm2,hm1,hp1,Bool.not_true,Bool.not_false,Int.ofNat_lt]|(with_reducible first|assumption|refine And.intro ?_ ?_)|(intro h;first|omega|exact tg h ‹_›|exact tg ‹_› h|skip))
 all_goals first|omega|(simp only[List.length_append,List.length_cons,List.length_nil];omega)|skip
 have hAl3:((((acc)++p0)++p1)++p2).length=((((acc)++p0)++p1)++p2).length:=rfl
 conv at hAl3=>rhs;simp only[List.length_append]
 generalize hA3:(((acc)++p0)++p1)++p2=a3 at*
 refine T.loop (ι:= {k:Nat//k≤n})
  (fun x=>⟨[(14,.one (.a (.int .i64 (x.1:Int)))),(13,.one (.a (.int .i64 (n:Int)))),(0,.one (.a (.loc 0 0))),(1000000,.one (.a (.ref 0)))],
    [(0,.cells 132 [.loc 0 0,.ref 1,.int .i64 (n:Int)]),(1,.row 5 (.int .u8) (bytesI (a3++rep x.1 fun i=>[sayS [115,116,32,114,48,44,32,114,50,44,32,37,100] [(i:Int)]])))],2⟩) (fun x=>n-x.1) ⟨0,by simp⟩ (Ent.mk1 (fun n=>if n=1 then 5 else n) (by simp[Zt,rep,hA3])) ?_
 rintro⟨k,hk⟩
 simp only
 by_cases hlt:k<n
 ·have hmono:=Va (fun i=>[sayS [115,116,32,114,48,44,32,114,50,44,32,37,100] [(i:Int)]]) (show k+1≤n from hlt)
  rw[Ys]at hmono
  simp only[List.length_append]at hmono
  have ha2:a3++rep (k+1) (fun i=>[sayS [115,116,32,114,48,44,32,114,50,44,32,37,100] [(i:Int)]])=(a3++rep k (fun i=>[sayS [115,116,32,114,48,44,32,114,50,44,32,37,100] [(i:Int)]]))++putS [sayS [115,116,32,114,48,44,32,114,50,44,32,37,100] [(k:Int)]]:=by rw[Ys,List.append_assoc]
  have hac:(a3++rep k (fun i=>[sayS [115,116,32,114,48,44,32,114,50,44,32,37,100] [(i:Int)]])).length=a3.length+(rep k (fun i=>[sayS [115,116,32,114,48,44,32,114,50,44,32,37,100] [(i:Int)]])).length:=by simp
  have hw:IntKind.i64.wrap ((k:Int)+1)=((k+1:Nat):Int):=Zx (by omega)
  have hw2:IntKind.i64.wrap ((k:Int)+1+1)=((k+1:Nat):Int)+1:=by have:=Zx (k:=k+1) (by omega);simpa using this
  have hlt2:((k:Nat):Int)<(n:Int):=by omega
  generalize hacc:a3++rep k (fun i=>[sayS [115,116,32,114,48,44,32,114,50,44,32,37,100] [(i:Int)]])=a at*
  generalize rep k (fun i=>[sayS [115,116,32,114,48,44,32,114,50,44,32,37,100] [(i:Int)]])=pre at*
  have hS0:=Yl hM hH [115,116,32,114,48,44,32,114,50,44,32,37,100] [(k:Int)] (by simp;omega) (by simp) (by simp)
  generalize sayS [115,116,32,114,48,44,32,114,50,44,32,37,100] [(k:Int)]=z0 at*
  have hP:=Zs (n:Int) a [z0] (by omega) (by simp)
  repeat'(first|(first|refine Stp.h ?_|(refine Za.gcp hglob hS0 ?_ ?_;focus simp[Zb];done)|(refine Za.gc hP ?_ ?_;focus simp[Zb];done))<;>try simp only[Zc,simprocAttr,↓reduceIte,reduceCtorEq,implies_true,hlt2,hw,hw2,hm16,hm2,hm1,hp1,Bool.not_true,Bool.not_false,Int.ofNat_lt]|(with_reducible first|assumption|refine And.intro ?_ ?_)|(intro h;first|omega|exact tg h ‹_›|exact tg ‹_› h|skip))
  all_goals first|omega|(simp only[List.length_append,List.length_cons,List.length_nil];omega)|skip
  exact⟨⟨k+1,hlt⟩,(Ent.mk1 (fun n=>if n=1 then 4 else n) (by simp[Zt,ha2,hw,hw2])),by simp only;omega⟩
 have hk2:n=k:=by omega
 subst hk2
 have hnl:¬(((n:Nat):Int))<(n:Int):=by omega
 clear hlt hk
 generalize (rep (n) fun i=>[sayS [115,116,32,114,48,44,32,114,50,44,32,37,100] [(i:Int)]])=p3 at*
 have hSz4_0:=Yl hM hH [108,100,105,32,114,51,44,32,37,100] [16*(n:Int)] (by simp;omega) (by simp) (by simp)
 generalize sayS [108,100,105,32,114,51,44,32,37,100] [16*(n:Int)]=z4_0 at*
 have hP4:=Zs (n:Int) (a3++p3) [z4_0,[46,108,111,111,112,58]] (by simp only[List.length_append];omega) (by simp)
 generalize putS [z4_0,[46,108,111,111,112,58]]=p4 at*
 have hP5:=Iz hM hH n (by omega) 7 [115,104,114] (by omega) (by simp) ((a3++p3)++p4) (by first|omega|(simp only[List.length_append];omega))
 generalize hgp5:(M6 n 7 [115,104,114])=p5 at*
 have hP6:=Zs (n:Int) (((a3++p3)++p4)++p5) [[106,110,99,32,46,115,107,105,112]] (by simp only[List.length_append];omega) (by simp)
 generalize putS [[106,110,99,32,46,115,107,105,112]]=p6 at*
 have hP7:=Ol hM hH n (by omega) 0 7 (n:Int) [97,100,100] [97,100,99] true (by omega) (by omega) (by omega) (by simp) (by simp) ((((a3++p3)++p4)++p5)++p6) (by first|omega|(simp only[List.length_append];omega))
 generalize hgp7:(Q0 n 0 7 (n:Int) [97,100,100] [97,100,99] true)=p7 at*
 have hP8:=Zs (n:Int) (((((a3++p3)++p4)++p5)++p6)++p7) [[46,115,107,105,112,58]] (by simp only[List.length_append];omega) (by simp)
 generalize putS [[46,115,107,105,112,58]]=p8 at*
 have hP9:=Tg hM hH n (by omega) 7 (n:Int) [115,104,108] [114,111,108] [] (by omega) (by omega) (by simp) (by simp) (by simp) ((((((a3++p3)++p4)++p5)++p6)++p7)++p8) (by first|omega|(simp only[List.length_append];omega))
 generalize hgp9:(Wi n 7 (n:Int) [115,104,108] [114,111,108] [])=p9 at*
 have hP10:=Lu hM hH n (((((((a3++p3)++p4)++p5)++p6)++p7)++p8)++p9) (by first|omega|(simp only[List.length_append];omega))
 generalize hgp10:(Pl)=p10 at*
 have hP11:=Ot hM hH n (2*(n:Int)) (by omega) ((((((((a3++p3)++p4)++p5)++p6)++p7)++p8)++p9)++p10) (by first|omega|(simp only[List.length_append];omega))
 generalize hgp11:(Q3 (2*(n:Int)))=p11 at*
 have hj:((((((((a3++p3)++p4)++p5)++p6)++p7)++p8)++p9)++p10)++p11=acc++(((((((((((p0++p1)++p2)++p3)++p4)++p5)++p6)++p7)++p8)++p9)++p10)++p11):=by simp only[←hA3,List.append_assoc,List.append_nil,List.nil_append]
 rw[hj]at hP11
 repeat'(first|(first|refine Stp.h ?_|(refine Za.gcp hglob hSz4_0 ?_ ?_;focus simp[Zb];done)|(refine Za.gc hP4 ?_ ?_;focus simp[Zb];done)|(refine Za.gcp hglob hP5 ?_ ?_;focus simp[Zb];done)|(refine Za.gc hP6 ?_ ?_;focus simp[Zb];done)|(refine Za.gcp hglob hP7 ?_ ?_;focus simp[Zb];done)|(refine Za.gc hP8 ?_ ?_;focus simp[Zb];done)|(refine Za.gcp hglob hP9 ?_ ?_;focus simp[Zb];done)|(refine Za.gcp hglob hP10 ?_ ?_;focus simp[Zb];done)|(refine Za.gcp hglob hP11 ?_ ?_;focus simp[Zb];done))<;>try simp only[Zc,simprocAttr,↓reduceIte,reduceCtorEq,implies_true,hnl,hm16,hm2,hm1,hp1,Bool.not_true,Bool.not_false,Int.ofNat_lt]|(with_reducible first|assumption|refine And.intro ?_ ?_)|(intro h;first|omega|exact tg h ‹_›|exact tg ‹_› h|skip))
 all_goals first|omega|(simp only[List.length_append,List.length_cons,List.length_nil];omega)|skip
end Go.Proofs.YtddmlennnmpnhaaGreatDoor
