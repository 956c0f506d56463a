/- A part of the proofs of this seat's laws: steps on the way, joined. It has no conditions of its own. -/
import Derived.Test.YtbmecnjmbhokgaaGreatDoorQg
import Derived.Test.YtbmecnjmbhokgaaGreatDoorQe
import Derived.Shelf.Strings.Builder1
import Derived.Shelf.Strings.Builder2
import Derived.Shelf.Strings.Trim
import Derived.Shelf.Small.Utf8
import Derived.Shelf.Small.Strs
import Derived.Shelf.Small.Wraps
import Derived.Shelf.Strconv.Atoi
import Derived.Shelf.Strconv.Itoa0
import Derived.Shelf.Strconv.Itoa1
import Derived.Shelf.LaysM
import Derived.Shelf.Strconv.Itoa2
import Derived.Shelf.Strconv.Itoa3
import Derived.Shelf.Strings.Search1
import Derived.Shelf.Strings.Search2
import Derived.Shelf.Strings.Search3
import Derived.Shelf.Strings.Cut
import Derived.Shelf.Strings.Count
import Derived.Shelf.Strings.Shaped
import Derived.Shelf.Sort.Plain
import Derived.Shelf.Strings.Prefix
import Derived.Shelf.Strings.Split
import Derived.Shelf.Strings.Replace
import Derived.Shelf.Strings.Runes
import Derived.Shelf.Strings.AsciiSet
import Derived.Shelf.Unicode.DecodeSlow
import Derived.Shelf.Slices.In.SortNone
import Derived.Test.YtbmecnjmbhokgaaGreatDoorProg
import Derived.Sort.OwnSorted
import Derived.Sort.KeysCollected
import Derived.Test.YtbmecnjmbhokgaaGreatDoorChecked
import Derived.KernelRfl
namespace Go.Proofs.YtbmecnjmbhokgaaGreatDoor
open Go Go.RowKit Vc
set_option linter.unusedVariables false
set_option linter.unusedSimpArgs false
attribute [local irreducible] T Za Zn Ent RdC RwC Yj Zf Zi
def rep(n:Nat)(f:Nat→List (List UInt8)):List UInt8:=(List.range n).flatMap fun i=>putS (f i)
theorem Yr(k:Nat)(f:Nat→List (List UInt8)):rep (k+1) f=rep k f++putS (f k):=by simp[rep,List.range_succ]
theorem W9(f:Nat→List (List UInt8)){k n:Nat}(h:k≤n):(rep k f).length≤(rep n f).length:=by
 induction n with
 |zero=>have:k=0:=by omega
        rw[this];exact Nat.le_refl _
 |succ n ih=>
  rcases Nat.lt_or_ge n k with h1|h1
  ·have:k=n+1:=by omega
   rw[this];exact Nat.le_refl _
  ·have:=ih h1
   rw[Yr];simp only[List.length_append];omega
theorem O6{a b:List UInt8}(ha:a.length≤100)(hb:b.length≤100)(i:Int):(Xp a b i).length≤100:=by unfold Xp;split<;>assumption
def Qr(k:Int):List UInt8:=putS [sayS [108,100,105,32,114,50,44,32,37,100] [k],[97,100,100,32,114,55,44,32,114,50],[114,101,116]]
set_option maxHeartbeats 4000000 in
theorem Oc{G:Nat}{H:Nat→Option Obj}(hM:Yo G H)(hH:Z5 G H)(n:Int)(k:Int)(hk:0≤k∧k≤65535)(acc:List UInt8)(hb:acc.length+(Qr k).length≤100000):
 GCp G H Tryz.prog 133 ([.a (.loc 0 0)]++[.a (.int .i64 k)]) [(0,.cells 131 [.loc 0 0,.ref 1,.int .i64 n]),(1,.row 5 (.int .u8) (bytesI (acc)))] 2 [0] (.tup []) [(0,.cells 131 [.loc 0 0,.ref 2,.int .i64 n]),(2,.row 5 (.int .u8) (bytesI (acc++Qr k)))] 3:=by
 unfold Qr at*
 have hP:=Zr n acc [sayS [108,100,105,32,114,50,44,32,37,100] [k],[97,100,100,32,114,55,44,32,114,50],[114,101,116]] (by omega) (by simp)
 have hS0:=Ym hM hH [108,100,105,32,114,50,44,32,37,100] [k] (by simp;omega) (by simp) (by simp)
 generalize sayS [108,100,105,32,114,50,44,32,37,100] [k]=z0 at*
 refine Qi.fn.gcp (by simp) (by simp[Zu,Zw,Zv,Zj,Ze,Vc.S1.okN,At.okN,SV.okN,Res.okN,Res.outOk,Zo,Res.own,Value.oneCell']) fun w X fr hglob=> ?_
 repeat'(first|(first|refine Stp.h ?_|(refine Za.gcp hglob hS0 ?_ ?_;focus simp[Zb];done)|(refine Za.gc hP ?_ ?_;focus simp[Zb];done))<;>try simp only[Zd,simprocAttr,↓reduceIte,reduceCtorEq,implies_true]|(with_reducible first|assumption|refine And.intro ?_ ?_)|(intro h;first|omega|exact tg h ‹_›|exact tg ‹_› h|skip))
 all_goals first|omega|(simp only[List.length_cons,List.length_nil];omega)|skip
def Pb:List UInt8:=putS [[108,100,105,32,114,52,44,32,49],[115,117,98,32,114,51,44,32,114,52],[106,110,122,32,46,108,111,111,112]]
set_option maxHeartbeats 4000000 in
theorem Lh{G:Nat}{H:Nat→Option Obj}(hM:Yo G H)(hH:Z5 G H)(n:Int)(acc:List UInt8)(hb:acc.length+(Pb).length≤100000):
 GCp G H Tryz.prog 132 ([.a (.loc 0 0)]++[]) [(0,.cells 131 [.loc 0 0,.ref 1,.int .i64 n]),(1,.row 5 (.int .u8) (bytesI (acc)))] 2 [0] (.tup []) [(0,.cells 131 [.loc 0 0,.ref 2,.int .i64 n]),(2,.row 5 (.int .u8) (bytesI (acc++Pb)))] 3:=by
 unfold Pb at*
 have hP:=Zr n acc [[108,100,105,32,114,52,44,32,49],[115,117,98,32,114,51,44,32,114,52],[106,110,122,32,46,108,111,111,112]] (by omega) (by simp)
 refine Rr.fn.gcp (by simp) (by simp[Zu,Zw,Zv,Zj,Ze,Vc.S1.okN,At.okN,SV.okN,Res.okN,Res.outOk,Zo,Res.own,Value.oneCell']) fun w X fr hglob=> ?_
 repeat'(first|(first|refine Stp.h ?_|(refine Za.gc hP ?_ ?_;focus simp[Zb];done))<;>try simp only[Zd,simprocAttr,↓reduceIte,reduceCtorEq,implies_true]|(with_reducible first|assumption|refine And.intro ?_ ?_)|(intro h;first|omega|exact tg h ‹_›|exact tg ‹_› h|skip))
 all_goals first|omega|(simp only[List.length_cons,List.length_nil];omega)|skip
def Y8(reg:Int)(word:Int)(lb:List UInt8):List UInt8:=putS [sayS [108,100,32,114,50,44,32,114,37,100,44,32,37,100] [reg,word],[115,104,108,32,114,50],[106,110,99,32]++lb]
set_option maxHeartbeats 4000000 in
theorem Vk{G:Nat}{H:Nat→Option Obj}(hM:Yo G H)(hH:Z5 G H)(n:Int)(reg:Int)(word:Int)(lb:List UInt8)(h1:0≤reg∧reg≤65535)(h2:0≤word∧word≤65535)(h3:lb.length≤100)(acc:List UInt8)(hb:acc.length+(Y8 reg word lb).length≤100000):
 GCp G H Tryz.prog 134 ([.a (.loc 0 0)]++[.a (.int .i64 reg),.a (.int .i64 word),.a (.str lb)]) [(0,.cells 131 [.loc 0 0,.ref 1,.int .i64 n]),(1,.row 5 (.int .u8) (bytesI (acc)))] 2 [0] (.tup []) [(0,.cells 131 [.loc 0 0,.ref 2,.int .i64 n]),(2,.row 5 (.int .u8) (bytesI (acc++Y8 reg word lb)))] 3:=by
 unfold Y8 at*
 have hP:=Zr n acc [sayS [108,100,32,114,50,44,32,114,37,100,44,32,37,100] [reg,word],[115,104,108,32,114,50],[106,110,99,32]++lb] (by omega) (by simp)
 have hS0:=Ym hM hH [108,100,32,114,50,44,32,114,37,100,44,32,37,100] [reg,word] (by simp;omega) (by simp) (by simp)
 generalize sayS [108,100,32,114,50,44,32,114,37,100,44,32,37,100] [reg,word]=z0 at*
 refine Th.fn.gcp (by simp) (by simp[Zu,Zw,Zv,Zj,Ze,Vc.S1.okN,At.okN,SV.okN,Res.okN,Res.outOk,Zo,Res.own,Value.oneCell']) fun w X fr hglob=> ?_
 repeat'(first|(first|refine Stp.h ?_|(refine Za.gcp hglob hS0 ?_ ?_;focus simp[Zb];done)|(refine Za.gc hP ?_ ?_;focus simp[Zb];done))<;>try simp only[Zd,simprocAttr,↓reduceIte,reduceCtorEq,implies_true]|(with_reducible first|assumption|refine And.intro ?_ ?_)|(intro h;first|omega|exact tg h ‹_›|exact tg ‹_› h|skip))
 all_goals first|omega|(simp only[List.length_cons,List.length_nil];omega)|skip
def Uk(n:Nat)(reg:Int)(i:Nat):List (List UInt8):=[sayS [108,100,32,114,50,44,32,114,37,100,44,32,37,100] [reg,(n:Int)-1-(i:Int)],[112,117,115,104,32,114,50]]
def Ul(n:Nat)(reg:Int):List UInt8:=rep n (Uk n reg)
set_option maxHeartbeats 8000000 in
set_option maxRecDepth 100000 in
theorem Pg{G:Nat}{H:Nat→Option Obj}(hM:Yo G H)(hH:Z5 G H)(n:Nat)(hn:n≤100)(reg:Int)(h1:0≤reg∧reg≤1000)(acc:List UInt8)(hb:acc.length+(Ul n reg).length≤100000):
 GCp G H Tryz.prog 127 ([.a (.loc 0 0)]++[.a (.int .i64 reg)]) [(0,.cells 131 [.loc 0 0,.ref 1,.int .i64 (n:Int)]),(1,.row 5 (.int .u8) (bytesI (acc)))] 2 [0] (.tup []) [(0,.cells 131 [.loc 0 0,.ref 2,.int .i64 (n:Int)]),(2,.row 5 (.int .u8) (bytesI (acc++Ul n reg)))] 3:=by
 unfold Ul at*
 refine S0.fn.gcp (by simp) (by simp[Zu,Zw,Zv,Zj,Ze,Vc.S1.okN,At.okN,SV.okN,Res.okN,Res.outOk,Zo,Res.own,Value.oneCell']) fun w X fr hglob=> ?_
 repeat'(first|(first|refine Stp.h ?_)<;>try simp only[Zd,simprocAttr,↓reduceIte,reduceCtorEq,implies_true]|(with_reducible first|assumption|refine And.intro ?_ ?_)|(intro h;first|omega|exact tg h ‹_›|exact tg ‹_› h|skip))
 all_goals first|omega|skip
 refine T.loop (ι:= {k:Nat//k≤n})
  (fun x=>⟨[(9,.one (.a (.int .i64 (x.1:Int)))),(8,.one (.a (.int .i64 (n:Int)))),(0,.one (.a (.loc 0 0))),(1,.one (.a (.int .i64 reg))),(1000000,.one (.a (.ref 0)))],
    [(0,.cells 131 [.loc 0 0,.ref 1,.int .i64 (n:Int)]),(1,.row 5 (.int .u8) (bytesI (acc++rep x.1 (Uk n reg))))],2⟩) (fun x=>n-x.1) ⟨0,by simp⟩ (Ent.mk1 (id) (by simp[Zy,rep])) ?_
 rintro⟨k,hk⟩
 simp only
 by_cases hlt:k<n
 ·have hmono:=W9 (Uk n reg) (show k+1≤n from hlt)
  rw[Yr]at hmono
  simp only[List.length_append]at hmono
  have hac:(acc++rep k (Uk n reg)).length=acc.length+(rep k (Uk n reg)).length:=by simp
  have ha2:acc++rep (k+1) (Uk n reg)=(acc++rep k (Uk n reg))++putS (Uk n reg k):=by rw[Yr,List.append_assoc]
  have hw:IntKind.i64.wrap ((k:Int)+1)=((k+1:Nat):Int):=Zx (by omega)
  generalize hacc:acc++rep k (Uk n reg)=a at*
  generalize rep k (Uk n reg)=pre at*
  have hBk:Uk n reg k=[sayS [108,100,32,114,50,44,32,114,37,100,44,32,37,100] [reg,(n:Int)-1-(k:Int)],[112,117,115,104,32,114,50]]:=rfl
  rw[hBk]at hmono ha2
  have hw1:IntKind.i64.wrap ((n:Int)-1)=(n:Int)-1:=Zm (by omega) (by omega)
  have hw2:IntKind.i64.wrap ((n:Int)-1-(k:Int))=(n:Int)-1-(k:Int):=Zm (by omega) (by omega)
  have hS0:=Ym hM hH [108,100,32,114,50,44,32,114,37,100,44,32,37,100] [reg,(n:Int)-1-(k:Int)] (by simp;omega) (by simp) (by simp)
  generalize sayS [108,100,32,114,50,44,32,114,37,100,44,32,37,100] [reg,(n:Int)-1-(k:Int)]=z0 at*
  have hP0:=Zr (n:Int) (a) [z0,[112,117,115,104,32,114,50]] (by omega) (by simp)
  repeat'(first|(first|refine Stp.h ?_|(refine Za.gcp hglob hS0 ?_ ?_;focus simp[Zb];done)|(refine Za.gc hP0 ?_ ?_;focus simp[Zb];done)|((with_reducible first|apply Za.rd (Xt _ _ _)|apply Zf.rd (Xt _ _ _));focus((repeat'(first|exact rfl|exact trivial|refine And.intro ?_ ?_|(simp[Zz];done)));done)))<;>try simp only[Zd,simprocAttr,↓reduceIte,reduceCtorEq,implies_true,hw1,hw2,hw,Int.ofNat_lt]|(with_reducible first|assumption|refine And.intro ?_ ?_)|(intro h;first|omega|exact tg h ‹_›|exact tg ‹_› h|skip))
  all_goals first|omega|(simp only[List.length_append,List.length_cons,List.length_nil];omega)|skip
  exact⟨⟨k+1,hlt⟩,(Ent.mk1 (fun n=>if n=1 then 4 else n) (by simp[Zy,ha2,hw])),by simp only;omega⟩
 ·have hk2:k=n:=by omega
  subst hk2
  repeat'(first|(first|refine Stp.h ?_)<;>try simp only[Zd,simprocAttr,↓reduceIte,reduceCtorEq,implies_true,Int.ofNat_lt]|(with_reducible first|assumption|refine And.intro ?_ ?_)|(intro h;first|omega|exact tg h ‹_›|exact tg ‹_› h|skip))
  all_goals first|omega|skip
def Un(n:Nat)(reg:Int)(i:Nat):List (List UInt8):=[[108,100,105,32,114,52,44,32,48],sayS [108,100,32,114,50,44,32,114,37,100,44,32,37,100] [reg,(i:Int)],Xp [115,117,98] [115,98,99] (i:Int)++[32,114,52,44,32,114,50],sayS [115,116,32,114,37,100,44,32,114,52,44,32,37,100] [reg,(i:Int)]]
def Vj(n:Nat)(reg:Int):List UInt8:=rep n (Un n reg)
set_option maxHeartbeats 8000000 in
set_option maxRecDepth 100000 in
theorem Ta{G:Nat}{H:Nat→Option Obj}(hM:Yo G H)(hH:Z5 G H)(n:Nat)(hn:n≤100)(reg:Int)(h1:0≤reg∧reg≤1000)(acc:List UInt8)(hb:acc.length+(Vj n reg).length≤100000):
 GCp G H Tryz.prog 135 ([.a (.loc 0 0)]++[.a (.int .i64 reg)]) [(0,.cells 131 [.loc 0 0,.ref 1,.int .i64 (n:Int)]),(1,.row 5 (.int .u8) (bytesI (acc)))] 2 [0] (.tup []) [(0,.cells 131 [.loc 0 0,.ref 2,.int .i64 (n:Int)]),(2,.row 5 (.int .u8) (bytesI (acc++Vj n reg)))] 3:=by
 unfold Vj at*
 refine S4.fn.gcp (by simp) (by simp[Zu,Zw,Zv,Zj,Ze,Vc.S1.okN,At.okN,SV.okN,Res.okN,Res.outOk,Zo,Res.own,Value.oneCell']) fun w X fr hglob=> ?_
 repeat'(first|(first|refine Stp.h ?_)<;>try simp only[Zd,simprocAttr,↓reduceIte,reduceCtorEq,implies_true]|(with_reducible first|assumption|refine And.intro ?_ ?_)|(intro h;first|omega|exact tg h ‹_›|exact tg ‹_› h|skip))
 all_goals first|omega|skip
 refine T.loop (ι:= {k:Nat//k≤n})
  (fun x=>⟨[(9,.one (.a (.int .i64 (x.1:Int)))),(8,.one (.a (.int .i64 (n:Int)))),(0,.one (.a (.loc 0 0))),(1,.one (.a (.int .i64 reg))),(1000000,.one (.a (.ref 0)))],
    [(0,.cells 131 [.loc 0 0,.ref 1,.int .i64 (n:Int)]),(1,.row 5 (.int .u8) (bytesI (acc++rep x.1 (Un n reg))))],2⟩) (fun x=>n-x.1) ⟨0,by simp⟩ (Ent.mk1 (id) (by simp[Zy,rep])) ?_
 rintro⟨k,hk⟩
 simp only
 by_cases hlt:k<n
 ·have hmono:=W9 (Un n reg) (show k+1≤n from hlt)
  rw[Yr]at hmono
  simp only[List.length_append]at hmono
  have hac:(acc++rep k (Un n reg)).length=acc.length+(rep k (Un n reg)).length:=by simp
  have ha2:acc++rep (k+1) (Un n reg)=(acc++rep k (Un n reg))++putS (Un n reg k):=by rw[Yr,List.append_assoc]
  have hw:IntKind.i64.wrap ((k:Int)+1)=((k+1:Nat):Int):=Zx (by omega)
  generalize hacc:acc++rep k (Un n reg)=a at*
  generalize rep k (Un n reg)=pre at*
  have hBk:Un n reg k=[[108,100,105,32,114,52,44,32,48],sayS [108,100,32,114,50,44,32,114,37,100,44,32,37,100] [reg,(k:Int)],Xp [115,117,98] [115,98,99] (k:Int)++[32,114,52,44,32,114,50],sayS [115,116,32,114,37,100,44,32,114,52,44,32,37,100] [reg,(k:Int)]]:=rfl
  rw[hBk]at hmono ha2
  have hcl:=O6 (a:=[115,117,98]) (b:=[115,98,99]) (by simp) (by simp) (k:Int)
  have hS0:=Ym hM hH [108,100,32,114,50,44,32,114,37,100,44,32,37,100] [reg,(k:Int)] (by simp;omega) (by simp) (by simp)
  have hS1:=Ym hM hH [115,116,32,114,37,100,44,32,114,52,44,32,37,100] [reg,(k:Int)] (by simp;omega) (by simp) (by simp)
  generalize sayS [108,100,32,114,50,44,32,114,37,100,44,32,37,100] [reg,(k:Int)]=z0 at*
  generalize sayS [115,116,32,114,37,100,44,32,114,52,44,32,37,100] [reg,(k:Int)]=z1 at*
  have hP0:=Zr (n:Int) (a) [[108,100,105,32,114,52,44,32,48],z0,Xp [115,117,98] [115,98,99] (k:Int)++[32,114,52,44,32,114,50],z1] (by omega) (by simp)
  repeat'(first|(first|refine Stp.h ?_|(refine Za.gcp hglob hS0 ?_ ?_;focus simp[Zb];done)|(refine Za.gcp hglob hS1 ?_ ?_;focus simp[Zb];done)|(refine Za.gc hP0 ?_ ?_;focus simp[Zb];done)|((with_reducible first|apply Za.rd (Xt _ _ _)|apply Zf.rd (Xt _ _ _));focus((repeat'(first|exact rfl|exact trivial|refine And.intro ?_ ?_|(simp[Zz];done)));done)))<;>try simp only[Zd,simprocAttr,↓reduceIte,reduceCtorEq,implies_true,hw,Int.ofNat_lt]|(with_reducible first|assumption|refine And.intro ?_ ?_)|(intro h;first|omega|exact tg h ‹_›|exact tg ‹_› h|skip))
  all_goals first|omega|(simp only[List.length_append,List.length_cons,List.length_nil];omega)|skip
  exact⟨⟨k+1,hlt⟩,(Ent.mk1 (fun n=>if n=1 then 5 else n) (by simp[Zy,ha2,hw])),by simp only;omega⟩
 ·have hk2:k=n:=by omega
  subst hk2
  repeat'(first|(first|refine Stp.h ?_)<;>try simp only[Zd,simprocAttr,↓reduceIte,reduceCtorEq,implies_true,Int.ofNat_lt]|(with_reducible first|assumption|refine And.intro ?_ ?_)|(intro h;first|omega|exact tg h ‹_›|exact tg ‹_› h|skip))
  all_goals first|omega|skip
def Ob(n:Nat)(reg:Int)(fst:List UInt8)(i:Nat):List (List UInt8):=[sayS [108,100,32,114,50,44,32,114,37,100,44,32,37,100] [reg,(n:Int)-1-(i:Int)],Xp fst [114,111,114] (i:Int)++[32,114,50],sayS [115,116,32,114,37,100,44,32,114,50,44,32,37,100] [reg,(n:Int)-1-(i:Int)]]
def Mv(n:Nat)(reg:Int)(fst:List UInt8):List UInt8:=rep n (Ob n reg fst)
set_option maxHeartbeats 8000000 in
set_option maxRecDepth 100000 in
theorem Ii{G:Nat}{H:Nat→Option Obj}(hM:Yo G H)(hH:Z5 G H)(n:Nat)(hn:n≤100)(reg:Int)(fst:List UInt8)(h1:0≤reg∧reg≤1000)(h2:fst.length≤100)(acc:List UInt8)(hb:acc.length+(Mv n reg fst).length≤100000):
 GCp G H Tryz.prog 129 ([.a (.loc 0 0)]++[.a (.int .i64 reg),.a (.str fst)]) [(0,.cells 131 [.loc 0 0,.ref 1,.int .i64 (n:Int)]),(1,.row 5 (.int .u8) (bytesI (acc)))] 2 [0] (.tup []) [(0,.cells 131 [.loc 0 0,.ref 2,.int .i64 (n:Int)]),(2,.row 5 (.int .u8) (bytesI (acc++Mv n reg fst)))] 3:=by
 unfold Mv at*
 refine Qh.fn.gcp (by simp) (by simp[Zu,Zw,Zv,Zj,Ze,Vc.S1.okN,At.okN,SV.okN,Res.okN,Res.outOk,Zo,Res.own,Value.oneCell']) fun w X fr hglob=> ?_
 repeat'(first|(first|refine Stp.h ?_)<;>try simp only[Zd,simprocAttr,↓reduceIte,reduceCtorEq,implies_true]|(with_reducible first|assumption|refine And.intro ?_ ?_)|(intro h;first|omega|exact tg h ‹_›|exact tg ‹_› h|skip))
 all_goals first|omega|skip
 refine T.loop (ι:= {k:Nat//k≤n})
  (fun x=>⟨[(12,.one (.a (.int .i64 (x.1:Int)))),(11,.one (.a (.int .i64 (n:Int)))),(0,.one (.a (.loc 0 0))),(1,.one (.a (.int .i64 reg))),(2,.one (.a (.str fst))),(1000000,.one (.a (.ref 0)))],
    [(0,.cells 131 [.loc 0 0,.ref 1,.int .i64 (n:Int)]),(1,.row 5 (.int .u8) (bytesI (acc++rep x.1 (Ob n reg fst))))],2⟩) (fun x=>n-x.1) ⟨0,by simp⟩ (Ent.mk1 (id) (by simp[Zy,rep])) ?_
 rintro⟨k,hk⟩
 simp only
 by_cases hlt:k<n
 ·have hmono:=W9 (Ob n reg fst) (show k+1≤n from hlt)
  rw[Yr]at hmono
  simp only[List.length_append]at hmono
  have hac:(acc++rep k (Ob n reg fst)).length=acc.length+(rep k (Ob n reg fst)).length:=by simp
  have ha2:acc++rep (k+1) (Ob n reg fst)=(acc++rep k (Ob n reg fst))++putS (Ob n reg fst k):=by rw[Yr,List.append_assoc]
  have hw:IntKind.i64.wrap ((k:Int)+1)=((k+1:Nat):Int):=Zx (by omega)
  generalize hacc:acc++rep k (Ob n reg fst)=a at*
  generalize rep k (Ob n reg fst)=pre at*
  have hBk:Ob n reg fst k=[sayS [108,100,32,114,50,44,32,114,37,100,44,32,37,100] [reg,(n:Int)-1-(k:Int)],Xp fst [114,111,114] (k:Int)++[32,114,50],sayS [115,116,32,114,37,100,44,32,114,50,44,32,37,100] [reg,(n:Int)-1-(k:Int)]]:=rfl
  rw[hBk]at hmono ha2
  have hw1:IntKind.i64.wrap ((n:Int)-1)=(n:Int)-1:=Zm (by omega) (by omega)
  have hw2:IntKind.i64.wrap ((n:Int)-1-(k:Int))=(n:Int)-1-(k:Int):=Zm (by omega) (by omega)
  have hcl:=O6 (b:=[114,111,114]) h2 (by simp) (k:Int)
  have hS0:=Ym hM hH [108,100,32,114,50,44,32,114,37,100,44,32,37,100] [reg,(n:Int)-1-(k:Int)] (by simp;omega) (by simp) (by simp)
  have hS1:=Ym hM hH [115,116,32,114,37,100,44,32,114,50,44,32,37,100] [reg,(n:Int)-1-(k:Int)] (by simp;omega) (by simp) (by simp)
  generalize sayS [108,100,32,114,50,44,32,114,37,100,44,32,37,100] [reg,(n:Int)-1-(k:Int)]=z0 at*
  generalize sayS [115,116,32,114,37,100,44,32,114,50,44,32,37,100] [reg,(n:Int)-1-(k:Int)]=z1 at*
  have hP0:=Zr (n:Int) (a) [z0,Xp fst [114,111,114] (k:Int)++[32,114,50],z1] (by omega) (by simp)
  repeat'(first|(first|refine Stp.h ?_|(refine Za.gcp hglob hS0 ?_ ?_;focus simp[Zb];done)|(refine Za.gcp hglob hS1 ?_ ?_;focus simp[Zb];done)|(refine Za.gc hP0 ?_ ?_;focus simp[Zb];done)|((with_reducible first|apply Za.rd (Xt _ _ _)|apply Zf.rd (Xt _ _ _));focus((repeat'(first|exact rfl|exact trivial|refine And.intro ?_ ?_|(simp[Zz];done)));done)))<;>try simp only[Zd,simprocAttr,↓reduceIte,reduceCtorEq,implies_true,hw1,hw2,hw,Int.ofNat_lt]|(with_reducible first|assumption|refine And.intro ?_ ?_)|(intro h;first|omega|exact tg h ‹_›|exact tg ‹_› h|skip))
  all_goals first|omega|(simp only[List.length_append,List.length_cons,List.length_nil];omega)|skip
  exact⟨⟨k+1,hlt⟩,(Ent.mk1 (fun n=>if n=1 then 5 else n) (by simp[Zy,ha2,hw])),by simp only;omega⟩
 ·have hk2:k=n:=by omega
  subst hk2
  repeat'(first|(first|refine Stp.h ?_)<;>try simp only[Zd,simprocAttr,↓reduceIte,reduceCtorEq,implies_true,Int.ofNat_lt]|(with_reducible first|assumption|refine And.intro ?_ ?_)|(intro h;first|omega|exact tg h ‹_›|exact tg ‹_› h|skip))
  all_goals first|omega|skip
def Ui(n:Nat)(reg:Int)(off:Int)(fst:List UInt8)(oth:List UInt8)(wt:List UInt8)(i:Nat):List (List UInt8):=[sayS [108,100,32,114,50,44,32,114,37,100,44,32,37,100] [reg,off+(i:Int)]]++([(Xp fst oth (i:Int)++[32,114,50])++wt]++[sayS [115,116,32,114,37,100,44,32,114,50,44,32,37,100] [reg,off+(i:Int)]])
def Wi(n:Nat)(reg:Int)(off:Int)(fst:List UInt8)(oth:List UInt8)(wt:List UInt8):List UInt8:=rep n (Ui n reg off fst oth wt)
set_option maxHeartbeats 8000000 in
set_option maxRecDepth 100000 in
theorem U7{G:Nat}{H:Nat→Option Obj}(hM:Yo G H)(hH:Z5 G H)(n:Nat)(hn:n≤100)(reg:Int)(off:Int)(fst:List UInt8)(oth:List UInt8)(wt:List UInt8)(h1:0≤reg∧reg≤1000)(h2:0≤off∧off≤1000)(h3:fst.length≤100)(h4:oth.length≤100)(h5:wt.length≤100)(acc:List UInt8)(hb:acc.length+(Wi n reg off fst oth wt).length≤100000):
 GCp G H Tryz.prog 131 ([.a (.loc 0 0)]++[.a (.int .i64 reg),.a (.int .i64 off),.a (.str fst),.a (.str oth),.a (.str wt)]) [(0,.cells 131 [.loc 0 0,.ref 1,.int .i64 (n:Int)]),(1,.row 5 (.int .u8) (bytesI (acc)))] 2 [0] (.tup []) [(0,.cells 131 [.loc 0 0,.ref 2,.int .i64 (n:Int)]),(2,.row 5 (.int .u8) (bytesI (acc++Wi n reg off fst oth wt)))] 3:=by
 unfold Wi at*
 refine Sz.fn.gcp (by simp) (by simp[Zu,Zw,Zv,Zj,Ze,Vc.S1.okN,At.okN,SV.okN,Res.okN,Res.outOk,Zo,Res.own,Value.oneCell']) fun w X fr hglob=> ?_
 repeat'(first|(first|refine Stp.h ?_)<;>try simp only[Zd,simprocAttr,↓reduceIte,reduceCtorEq,implies_true]|(with_reducible first|assumption|refine And.intro ?_ ?_)|(intro h;first|omega|exact tg h ‹_›|exact tg ‹_› h|skip))
 all_goals first|omega|skip
 refine T.loop (ι:= {k:Nat//k≤n})
  (fun x=>⟨[(17,.one (.a (.int .i64 (x.1:Int)))),(16,.one (.a (.int .i64 (n:Int)))),(0,.one (.a (.loc 0 0))),(1,.one (.a (.int .i64 reg))),(2,.one (.a (.int .i64 off))),(3,.one (.a (.str fst))),(4,.one (.a (.str oth))),(5,.one (.a (.str wt))),(1000000,.one (.a (.ref 0)))],
    [(0,.cells 131 [.loc 0 0,.ref 1,.int .i64 (n:Int)]),(1,.row 5 (.int .u8) (bytesI (acc++rep x.1 (Ui n reg off fst oth wt))))],2⟩) (fun x=>n-x.1) ⟨0,by simp⟩ (Ent.mk1 (id) (by simp[Zy,rep])) ?_
 rintro⟨k,hk⟩
 simp only
 by_cases hlt:k<n
 ·have hmono:=W9 (Ui n reg off fst oth wt) (show k+1≤n from hlt)
  rw[Yr]at hmono
  simp only[List.length_append]at hmono
  have hac:(acc++rep k (Ui n reg off fst oth wt)).length=acc.length+(rep k (Ui n reg off fst oth wt)).length:=by simp
  have ha2:acc++rep (k+1) (Ui n reg off fst oth wt)=(acc++rep k (Ui n reg off fst oth wt))++putS (Ui n reg off fst oth wt k):=by rw[Yr,List.append_assoc]
  have hw:IntKind.i64.wrap ((k:Int)+1)=((k+1:Nat):Int):=Zx (by omega)
  generalize hacc:acc++rep k (Ui n reg off fst oth wt)=a at*
  generalize rep k (Ui n reg off fst oth wt)=pre at*
  have hBk:Ui n reg off fst oth wt k=[sayS [108,100,32,114,50,44,32,114,37,100,44,32,37,100] [reg,off+(k:Int)]]++([(Xp fst oth (k:Int)++[32,114,50])++wt]++[sayS [115,116,32,114,37,100,44,32,114,50,44,32,37,100] [reg,off+(k:Int)]]):=rfl
  rw[hBk]at hmono ha2
  have hw1:IntKind.i64.wrap (off+(k:Int))=off+(k:Int):=Zm (by omega) (by omega)
  have hcl:=O6 h3 h4 (k:Int)
  have hS0:=Ym hM hH [108,100,32,114,50,44,32,114,37,100,44,32,37,100] [reg,off+(k:Int)] (by simp;omega) (by simp) (by simp)
  have hS1:=Ym hM hH [115,116,32,114,37,100,44,32,114,50,44,32,37,100] [reg,off+(k:Int)] (by simp;omega) (by simp) (by simp)
  generalize sayS [108,100,32,114,50,44,32,114,37,100,44,32,37,100] [reg,off+(k:Int)]=z0 at*
  generalize sayS [115,116,32,114,37,100,44,32,114,50,44,32,37,100] [reg,off+(k:Int)]=z1 at*
  simp only[Qt,List.length_append]at hmono
  have hP0:=Zr (n:Int) (a) [z0] (by omega) (by simp)
  have hP1:=Zr (n:Int) ((a)++putS [z0]) [(Xp fst oth (k:Int)++[32,114,50])++wt] (by simp only[List.length_append];omega) (by simp)
  have hP2:=Zr (n:Int) (((a)++putS [z0])++putS [(Xp fst oth (k:Int)++[32,114,50])++wt]) [z1] (by simp only[List.length_append];omega) (by simp)
  have hj:(((a)++putS [z0])++putS [(Xp fst oth (k:Int)++[32,114,50])++wt])++putS [z1]=a++putS ([z0]++[(Xp fst oth (k:Int)++[32,114,50])++wt]++[z1]):=by simp only[Qt,List.append_assoc]
  have hlast:=hP2
  rw[hj]at hlast
  repeat'(first|(first|refine Stp.h ?_|(refine Za.gcp hglob hS0 ?_ ?_;focus simp[Zb];done)|(refine Za.gcp hglob hS1 ?_ ?_;focus simp[Zb];done)|(refine Za.gc hP0 ?_ ?_;focus simp[Zb];done)|(refine Za.gc hP1 ?_ ?_;focus simp[Zb];done)|(refine Za.gc hlast ?_ ?_;focus simp[Zb];done)|((with_reducible first|apply Za.rd (Xt _ _ _)|apply Zf.rd (Xt _ _ _));focus((repeat'(first|exact rfl|exact trivial|refine And.intro ?_ ?_|(simp[Zz];done)));done)))<;>try simp only[Zd,simprocAttr,↓reduceIte,reduceCtorEq,implies_true,hw1,hw,Int.ofNat_lt]|(with_reducible first|assumption|refine And.intro ?_ ?_)|(intro h;first|omega|exact tg h ‹_›|exact tg ‹_› h|skip))
  all_goals first|omega|(simp only[List.length_append,List.length_cons,List.length_nil];omega)|skip
  exact⟨⟨k+1,hlt⟩,(Ent.mk1 (fun n=>if n=1 then 9 else n) (by simp[Zy,ha2,hw])),by simp only;omega⟩
 ·have hk2:k=n:=by omega
  subst hk2
  repeat'(first|(first|refine Stp.h ?_)<;>try simp only[Zd,simprocAttr,↓reduceIte,reduceCtorEq,implies_true,Int.ofNat_lt]|(with_reducible first|assumption|refine And.intro ?_ ?_)|(intro h;first|omega|exact tg h ‹_›|exact tg ‹_› h|skip))
  all_goals first|omega|skip
def P7(n:Nat)(ra:Int)(rb:Int)(off:Int)(fst:List UInt8)(oth:List UInt8)(keep:Bool)(i:Nat):List (List UInt8):=[sayS [108,100,32,114,50,44,32,114,37,100,44,32,37,100] [ra,(i:Int)],sayS [108,100,32,114,52,44,32,114,37,100,44,32,37,100] [rb,off+(i:Int)],Xp fst oth (i:Int)++[32,114,50,44,32,114,52]]++(if keep=true then[sayS [115,116,32,114,37,100,44,32,114,50,44,32,37,100] [ra,(i:Int)]]else[])
def Qq(n:Nat)(ra:Int)(rb:Int)(off:Int)(fst:List UInt8)(oth:List UInt8)(keep:Bool):List UInt8:=rep n (P7 n ra rb off fst oth keep)
set_option maxHeartbeats 8000000 in
set_option maxRecDepth 100000 in
theorem P8{G:Nat}{H:Nat→Option Obj}(hM:Yo G H)(hH:Z5 G H)(n:Nat)(hn:n≤100)(ra:Int)(rb:Int)(off:Int)(fst:List UInt8)(oth:List UInt8)(keep:Bool)(h1:0≤ra∧ra≤1000)(h1':0≤rb∧rb≤1000)(h2:0≤off∧off≤1000)(h3:fst.length≤100)(h4:oth.length≤100)(acc:List UInt8)(hb:acc.length+(Qq n ra rb off fst oth keep).length≤100000):
 GCp G H Tryz.prog 130 ([.a (.loc 0 0)]++[.a (.int .i64 ra),.a (.int .i64 rb),.a (.int .i64 off),.a (.str fst),.a (.str oth),.a (.bool keep)]) [(0,.cells 131 [.loc 0 0,.ref 1,.int .i64 (n:Int)]),(1,.row 5 (.int .u8) (bytesI (acc)))] 2 [0] (.tup []) [(0,.cells 131 [.loc 0 0,.ref 2,.int .i64 (n:Int)]),(2,.row 5 (.int .u8) (bytesI (acc++Qq n ra rb off fst oth keep)))] 3:=by
 unfold Qq at*
 refine Qg.fn.gcp (by simp) (by simp[Zu,Zw,Zv,Zj,Ze,Vc.S1.okN,At.okN,SV.okN,Res.okN,Res.outOk,Zo,Res.own,Value.oneCell']) fun w X fr hglob=> ?_
 repeat'(first|(first|refine Stp.h ?_)<;>try simp only[Zd,simprocAttr,↓reduceIte,reduceCtorEq,implies_true]|(with_reducible first|assumption|refine And.intro ?_ ?_)|(intro h;first|omega|exact tg h ‹_›|exact tg ‹_› h|skip))
 all_goals first|omega|skip
 refine T.loop (ι:= {k:Nat//k≤n})
  (fun x=>⟨[(19,.one (.a (.int .i64 (x.1:Int)))),(18,.one (.a (.int .i64 (n:Int)))),(0,.one (.a (.loc 0 0))),(1,.one (.a (.int .i64 ra))),(2,.one (.a (.int .i64 rb))),(3,.one (.a (.int .i64 off))),(4,.one (.a (.str fst))),(5,.one (.a (.str oth))),(6,.one (.a (.bool keep))),(1000000,.one (.a (.ref 0)))],
    [(0,.cells 131 [.loc 0 0,.ref 1,.int .i64 (n:Int)]),(1,.row 5 (.int .u8) (bytesI (acc++rep x.1 (P7 n ra rb off fst oth keep))))],2⟩) (fun x=>n-x.1) ⟨0,by simp⟩ (Ent.mk1 (id) (by simp[Zy,rep])) ?_
 rintro⟨k,hk⟩
 simp only
 by_cases hlt:k<n
 ·have hmono:=W9 (P7 n ra rb off fst oth keep) (show k+1≤n from hlt)
  rw[Yr]at hmono
  simp only[List.length_append]at hmono
  have hac:(acc++rep k (P7 n ra rb off fst oth keep)).length=acc.length+(rep k (P7 n ra rb off fst oth keep)).length:=by simp
  have ha2:acc++rep (k+1) (P7 n ra rb off fst oth keep)=(acc++rep k (P7 n ra rb off fst oth keep))++putS (P7 n ra rb off fst oth keep k):=by rw[Yr,List.append_assoc]
  have hw:IntKind.i64.wrap ((k:Int)+1)=((k+1:Nat):Int):=Zx (by omega)
  generalize hacc:acc++rep k (P7 n ra rb off fst oth keep)=a at*
  generalize rep k (P7 n ra rb off fst oth keep)=pre at*
  have hBk:P7 n ra rb off fst oth keep k=[sayS [108,100,32,114,50,44,32,114,37,100,44,32,37,100] [ra,(k:Int)],sayS [108,100,32,114,52,44,32,114,37,100,44,32,37,100] [rb,off+(k:Int)],Xp fst oth (k:Int)++[32,114,50,44,32,114,52]]++(if keep=true then[sayS [115,116,32,114,37,100,44,32,114,50,44,32,37,100] [ra,(k:Int)]]else[]):=rfl
  rw[hBk]at hmono ha2
  have hw1:IntKind.i64.wrap (off+(k:Int))=off+(k:Int):=Zm (by omega) (by omega)
  have hcl:=O6 h3 h4 (k:Int)
  cases keep
  ·simp only[if_true,if_false,Bool.false_eq_true,List.append_nil]at hmono ha2
   have hS0:=Ym hM hH [108,100,32,114,50,44,32,114,37,100,44,32,37,100] [ra,(k:Int)] (by simp;omega) (by simp) (by simp)
   have hS1:=Ym hM hH [108,100,32,114,52,44,32,114,37,100,44,32,37,100] [rb,off+(k:Int)] (by simp;omega) (by simp) (by simp)
   generalize sayS [108,100,32,114,50,44,32,114,37,100,44,32,37,100] [ra,(k:Int)]=z0 at*
   generalize sayS [108,100,32,114,52,44,32,114,37,100,44,32,37,100] [rb,off+(k:Int)]=z1 at*
   have hP0:=Zr (n:Int) (a) [z0,z1,Xp fst oth (k:Int)++[32,114,50,44,32,114,52]] (by omega) (by simp)
   repeat'(first|(first|refine Stp.h ?_|(refine Za.gcp hglob hS0 ?_ ?_;focus simp[Zb];done)|(refine Za.gcp hglob hS1 ?_ ?_;focus simp[Zb];done)|(refine Za.gc hP0 ?_ ?_;focus simp[Zb];done)|((with_reducible first|apply Za.rd (Xt _ _ _)|apply Zf.rd (Xt _ _ _));focus((repeat'(first|exact rfl|exact trivial|refine And.intro ?_ ?_|(simp[Zz];done)));done)))<;>try simp only[Zd,simprocAttr,↓reduceIte,reduceCtorEq,implies_true,hw1,hw,Int.ofNat_lt]|(with_reducible first|assumption|refine And.intro ?_ ?_)|(intro h;first|omega|exact tg h ‹_›|exact tg ‹_› h|skip))
   all_goals first|omega|(simp only[List.length_append,List.length_cons,List.length_nil];omega)|skip
   exact⟨⟨k+1,hlt⟩,(Ent.mk1 (fun n=>if n=1 then 5 else n) (by simp[Zy,ha2,hw])),by simp only;omega⟩
  ·simp only[if_true,if_false,Bool.false_eq_true,List.append_nil]at hmono ha2
   have hS0:=Ym hM hH [108,100,32,114,50,44,32,114,37,100,44,32,37,100] [ra,(k:Int)] (by simp;omega) (by simp) (by simp)
   have hS1:=Ym hM hH [108,100,32,114,52,44,32,114,37,100,44,32,37,100] [rb,off+(k:Int)] (by simp;omega) (by simp) (by simp)
   have hS2:=Ym hM hH [115,116,32,114,37,100,44,32,114,50,44,32,37,100] [ra,(k:Int)] (by simp;omega) (by simp) (by simp)
   generalize sayS [108,100,32,114,50,44,32,114,37,100,44,32,37,100] [ra,(k:Int)]=z0 at*
   generalize sayS [108,100,32,114,52,44,32,114,37,100,44,32,37,100] [rb,off+(k:Int)]=z1 at*
   generalize sayS [115,116,32,114,37,100,44,32,114,50,44,32,37,100] [ra,(k:Int)]=z2 at*
   simp only[Qt,List.length_append]at hmono
   have hP0:=Zr (n:Int) (a) [z0,z1,Xp fst oth (k:Int)++[32,114,50,44,32,114,52]] (by omega) (by simp)
   have hP1:=Zr (n:Int) ((a)++putS [z0,z1,Xp fst oth (k:Int)++[32,114,50,44,32,114,52]]) [z2] (by simp only[List.length_append];omega) (by simp)
   have hj:((a)++putS [z0,z1,Xp fst oth (k:Int)++[32,114,50,44,32,114,52]])++putS [z2]=a++putS ([z0,z1,Xp fst oth (k:Int)++[32,114,50,44,32,114,52]]++[z2]):=by simp only[Qt,List.append_assoc]
   have hlast:=hP1
   rw[hj]at hlast
   repeat'(first|(first|refine Stp.h ?_|(refine Za.gcp hglob hS0 ?_ ?_;focus simp[Zb];done)|(refine Za.gcp hglob hS1 ?_ ?_;focus simp[Zb];done)|(refine Za.gcp hglob hS2 ?_ ?_;focus simp[Zb];done)|(refine Za.gc hP0 ?_ ?_;focus simp[Zb];done)|(refine Za.gc hlast ?_ ?_;focus simp[Zb];done)|((with_reducible first|apply Za.rd (Xt _ _ _)|apply Zf.rd (Xt _ _ _));focus((repeat'(first|exact rfl|exact trivial|refine And.intro ?_ ?_|(simp[Zz];done)));done)))<;>try simp only[Zd,simprocAttr,↓reduceIte,reduceCtorEq,implies_true,hw1,hw,Int.ofNat_lt]|(with_reducible first|assumption|refine And.intro ?_ ?_)|(intro h;first|omega|exact tg h ‹_›|exact tg ‹_› h|skip))
   all_goals first|omega|(simp only[List.length_append,List.length_cons,List.length_nil];omega)|skip
   exact⟨⟨k+1,hlt⟩,(Ent.mk1 (fun n=>if n=1 then 8 else n) (by simp[Zy,ha2,hw])),by simp only;omega⟩
 ·have hk2:k=n:=by omega
  subst hk2
  repeat'(first|(first|refine Stp.h ?_)<;>try simp only[Zd,simprocAttr,↓reduceIte,reduceCtorEq,implies_true,Int.ofNat_lt]|(with_reducible first|assumption|refine And.intro ?_ ?_)|(intro h;first|omega|exact tg h ‹_›|exact tg ‹_› h|skip))
  all_goals first|omega|skip
def mulS(n:Nat):List UInt8:=((((((((((((Ul n 0)++(Ul n 1))++(putS [[108,100,105,32,114,50,44,32,48]]))++(rep (n) fun i=>[sayS [115,116,32,114,48,44,32,114,50,44,32,37,100] [(i:Int)]]))++(putS [sayS [108,100,105,32,114,51,44,32,37,100] [16*(n:Int)],[46,108,111,111,112,58]]))++(Mv n 7 [115,104,114]))++(putS [[106,110,99,32,46,115,107,105,112]]))++(Qq n 0 7 (n:Int) [97,100,100] [97,100,99] true))++(putS [[46,115,107,105,112,58]]))++(Wi n 7 (n:Int) [115,104,108] [114,111,108] []))++(Pb))++(Qr (2*(n:Int))))
set_option maxHeartbeats 16000000 in
set_option maxRecDepth 100000 in
theorem mul_gcp{G:Nat}{H:Nat→Option Obj}(hM:Yo G H)(hH:Z5 G H)(n:Nat)(hn:1≤n∧n≤100)(acc:List UInt8)(hb:acc.length+(mulS n).length≤100000):
 GCp G H Tryz.prog 88 ([.a (.loc 0 0)]++[]) [(0,.cells 131 [.loc 0 0,.ref 1,.int .i64 (n:Int)]),(1,.row 5 (.int .u8) (bytesI (acc)))] 2 [0] (.tup []) [(0,.cells 131 [.loc 0 0,.ref 2,.int .i64 (n:Int)]),(2,.row 5 (.int .u8) (bytesI (acc++mulS n)))] 3:=by
 unfold mulS at*
 simp only[List.length_append]at hb
 have hm16:IntKind.i64.wrap (16*(n:Int))=16*(n:Int):=Zm (by omega) (by omega)
 have hm2:IntKind.i64.wrap (2*(n:Int))=2*(n:Int):=Zm (by omega) (by omega)
 have hm1:IntKind.i64.wrap ((n:Int)-1)=(n:Int)-1:=Zm (by omega) (by omega)
 have hp1:IntKind.i64.wrap ((n:Int)+1)=(n:Int)+1:=Zm (by omega) (by omega)
 have hP0:=Pg hM hH n (by omega) 0 (by omega) (acc) (by omega)
 generalize hgp0:(Ul n 0)=p0 at*
 have hP1:=Pg hM hH n (by omega) 1 (by omega) ((acc)++p0) (by first|omega|(simp only[List.length_append];omega))
 generalize hgp1:(Ul n 1)=p1 at*
 have hP2:=Zr (n:Int) (((acc)++p0)++p1) [[108,100,105,32,114,50,44,32,48]] (by simp only[List.length_append];omega) (by simp)
 generalize putS [[108,100,105,32,114,50,44,32,48]]=p2 at*
 refine Tu.fn.gcp (by simp) (by simp[Zu,Zw,Zv,Zj,Ze,Vc.S1.okN,At.okN,SV.okN,Res.okN,Res.outOk,Zo,Res.own,Value.oneCell']) fun w X fr hglob=> ?_
 repeat'(first|(first|refine Stp.h ?_|(refine Za.gcp hglob hP0 ?_ ?_;focus simp[Zb];done)|(refine Za.gcp hglob hP1 ?_ ?_;focus simp[Zb];done)|(refine Za.gc hP2 ?_ ?_;focus simp[Zb];done))<;>try simp only[Zd,simprocAttr,↓reduceIte,reduceCtorEq,implies_true,hm16,hm2,hm1,hp1,Bool.not_true,Bool.not_false,Int.ofNat_lt]|(with_reducible first|assumption|refine And.intro ?_ ?_)|(intro h;first|omega|exact tg h ‹_›|exact tg ‹_› h|skip))
 all_goals first|omega|(simp only[List.length_append,List.length_cons,List.length_nil];omega)|skip
 have hAl3:((((acc)++p0)++p1)++p2).length=((((acc)++p0)++p1)++p2).length:=rfl
 conv at hAl3=>rhs;simp only[List.length_append]
 generalize hA3:(((acc)++p0)++p1)++p2=a3 at*
 refine T.loop (ι:= {k:Nat//k≤n})
  (fun x=>⟨[(14,.one (.a (.int .i64 (x.1:Int)))),(13,.one (.a (.int .i64 (n:Int)))),(0,.one (.a (.loc 0 0))),(1000000,.one (.a (.ref 0)))],
    [(0,.cells 131 [.loc 0 0,.ref 1,.int .i64 (n:Int)]),(1,.row 5 (.int .u8) (bytesI (a3++rep x.1 fun i=>[sayS [115,116,32,114,48,44,32,114,50,44,32,37,100] [(i:Int)]])))],2⟩) (fun x=>n-x.1) ⟨0,by simp⟩ (Ent.mk1 (fun n=>if n=1 then 5 else n) (by simp[Zy,rep,hA3])) ?_
 rintro⟨k,hk⟩
 simp only
 by_cases hlt:k<n
 ·have hmono:=W9 (fun i=>[sayS [115,116,32,114,48,44,32,114,50,44,32,37,100] [(i:Int)]]) (show k+1≤n from hlt)
  rw[Yr]at hmono
  simp only[List.length_append]at hmono
  have ha2:a3++rep (k+1) (fun i=>[sayS [115,116,32,114,48,44,32,114,50,44,32,37,100] [(i:Int)]])=(a3++rep k (fun i=>[sayS [115,116,32,114,48,44,32,114,50,44,32,37,100] [(i:Int)]]))++putS [sayS [115,116,32,114,48,44,32,114,50,44,32,37,100] [(k:Int)]]:=by rw[Yr,List.append_assoc]
  have hac:(a3++rep k (fun i=>[sayS [115,116,32,114,48,44,32,114,50,44,32,37,100] [(i:Int)]])).length=a3.length+(rep k (fun i=>[sayS [115,116,32,114,48,44,32,114,50,44,32,37,100] [(i:Int)]])).length:=by simp
  have hw:IntKind.i64.wrap ((k:Int)+1)=((k+1:Nat):Int):=Zx (by omega)
  have hw2:IntKind.i64.wrap ((k:Int)+1+1)=((k+1:Nat):Int)+1:=by have:=Zx (k:=k+1) (by omega);simpa using this
  have hlt2:((k:Nat):Int)<(n:Int):=by omega
  generalize hacc:a3++rep k (fun i=>[sayS [115,116,32,114,48,44,32,114,50,44,32,37,100] [(i:Int)]])=a at*
  generalize rep k (fun i=>[sayS [115,116,32,114,48,44,32,114,50,44,32,37,100] [(i:Int)]])=pre at*
  have hS0:=Ym hM hH [115,116,32,114,48,44,32,114,50,44,32,37,100] [(k:Int)] (by simp;omega) (by simp) (by simp)
  generalize sayS [115,116,32,114,48,44,32,114,50,44,32,37,100] [(k:Int)]=z0 at*
  have hP:=Zr (n:Int) a [z0] (by omega) (by simp)
  repeat'(first|(first|refine Stp.h ?_|(refine Za.gcp hglob hS0 ?_ ?_;focus simp[Zb];done)|(refine Za.gc hP ?_ ?_;focus simp[Zb];done))<;>try simp only[Zd,simprocAttr,↓reduceIte,reduceCtorEq,implies_true,hlt2,hw,hw2,hm16,hm2,hm1,hp1,Bool.not_true,Bool.not_false,Int.ofNat_lt]|(with_reducible first|assumption|refine And.intro ?_ ?_)|(intro h;first|omega|exact tg h ‹_›|exact tg ‹_› h|skip))
  all_goals first|omega|(simp only[List.length_append,List.length_cons,List.length_nil];omega)|skip
  exact⟨⟨k+1,hlt⟩,(Ent.mk1 (fun n=>if n=1 then 4 else n) (by simp[Zy,ha2,hw,hw2])),by simp only;omega⟩
 have hk2:n=k:=by omega
 subst hk2
 have hnl:¬(((n:Nat):Int))<(n:Int):=by omega
 clear hlt hk
 generalize (rep (n) fun i=>[sayS [115,116,32,114,48,44,32,114,50,44,32,37,100] [(i:Int)]])=p3 at*
 have hSz4_0:=Ym hM hH [108,100,105,32,114,51,44,32,37,100] [16*(n:Int)] (by simp;omega) (by simp) (by simp)
 generalize sayS [108,100,105,32,114,51,44,32,37,100] [16*(n:Int)]=z4_0 at*
 have hP4:=Zr (n:Int) (a3++p3) [z4_0,[46,108,111,111,112,58]] (by simp only[List.length_append];omega) (by simp)
 generalize putS [z4_0,[46,108,111,111,112,58]]=p4 at*
 have hP5:=Ii hM hH n (by omega) 7 [115,104,114] (by omega) (by simp) ((a3++p3)++p4) (by first|omega|(simp only[List.length_append];omega))
 generalize hgp5:(Mv n 7 [115,104,114])=p5 at*
 have hP6:=Zr (n:Int) (((a3++p3)++p4)++p5) [[106,110,99,32,46,115,107,105,112]] (by simp only[List.length_append];omega) (by simp)
 generalize putS [[106,110,99,32,46,115,107,105,112]]=p6 at*
 have hP7:=P8 hM hH n (by omega) 0 7 (n:Int) [97,100,100] [97,100,99] true (by omega) (by omega) (by omega) (by simp) (by simp) ((((a3++p3)++p4)++p5)++p6) (by first|omega|(simp only[List.length_append];omega))
 generalize hgp7:(Qq n 0 7 (n:Int) [97,100,100] [97,100,99] true)=p7 at*
 have hP8:=Zr (n:Int) (((((a3++p3)++p4)++p5)++p6)++p7) [[46,115,107,105,112,58]] (by simp only[List.length_append];omega) (by simp)
 generalize putS [[46,115,107,105,112,58]]=p8 at*
 have hP9:=U7 hM hH n (by omega) 7 (n:Int) [115,104,108] [114,111,108] [] (by omega) (by omega) (by simp) (by simp) (by simp) ((((((a3++p3)++p4)++p5)++p6)++p7)++p8) (by first|omega|(simp only[List.length_append];omega))
 generalize hgp9:(Wi n 7 (n:Int) [115,104,108] [114,111,108] [])=p9 at*
 have hP10:=Lh hM hH n (((((((a3++p3)++p4)++p5)++p6)++p7)++p8)++p9) (by first|omega|(simp only[List.length_append];omega))
 generalize hgp10:(Pb)=p10 at*
 have hP11:=Oc hM hH n (2*(n:Int)) (by omega) ((((((((a3++p3)++p4)++p5)++p6)++p7)++p8)++p9)++p10) (by first|omega|(simp only[List.length_append];omega))
 generalize hgp11:(Qr (2*(n:Int)))=p11 at*
 have hj:((((((((a3++p3)++p4)++p5)++p6)++p7)++p8)++p9)++p10)++p11=acc++(((((((((((p0++p1)++p2)++p3)++p4)++p5)++p6)++p7)++p8)++p9)++p10)++p11):=by simp only[←hA3,List.append_assoc,List.append_nil,List.nil_append]
 rw[hj]at hP11
 repeat'(first|(first|refine Stp.h ?_|(refine Za.gcp hglob hSz4_0 ?_ ?_;focus simp[Zb];done)|(refine Za.gc hP4 ?_ ?_;focus simp[Zb];done)|(refine Za.gcp hglob hP5 ?_ ?_;focus simp[Zb];done)|(refine Za.gc hP6 ?_ ?_;focus simp[Zb];done)|(refine Za.gcp hglob hP7 ?_ ?_;focus simp[Zb];done)|(refine Za.gc hP8 ?_ ?_;focus simp[Zb];done)|(refine Za.gcp hglob hP9 ?_ ?_;focus simp[Zb];done)|(refine Za.gcp hglob hP10 ?_ ?_;focus simp[Zb];done)|(refine Za.gcp hglob hP11 ?_ ?_;focus simp[Zb];done))<;>try simp only[Zd,simprocAttr,↓reduceIte,reduceCtorEq,implies_true,hnl,hm16,hm2,hm1,hp1,Bool.not_true,Bool.not_false,Int.ofNat_lt]|(with_reducible first|assumption|refine And.intro ?_ ?_)|(intro h;first|omega|exact tg h ‹_›|exact tg ‹_› h|skip))
 all_goals first|omega|(simp only[List.length_append,List.length_cons,List.length_nil];omega)|skip
def Ig(n:Nat):List UInt8:=(((((((((((((((putS [[108,100,32,114,50,44,32,114,49,44,32,48]])++(rep (n-1) fun i=>[sayS [108,100,32,114,52,44,32,114,49,44,32,37,100] [(i:Int)+1],[111,114,32,114,50,44,32,114,52]]))++(putS [[108,100,105,32,114,52,44,32,48],[99,109,112,32,114,50,44,32,114,52],[106,110,122,32,46,111,107],[116,114,97,112,32,49],[46,111,107,58],[108,100,105,32,114,50,44,32,48]]))++(rep (n) fun i=>[[112,117,115,104,32,114,50]]))++(putS [sayS [108,100,105,32,114,51,44,32,37,100] [16*(n:Int)],[46,108,111,111,112,58]]))++(Wi n 0 0 [115,104,108] [114,111,108] []))++(Wi n 7 0 [114,111,108] [114,111,108] []))++(putS [[106,99,32,46,116,97,107,101]]))++(Qq n 7 1 0 [99,109,112] [99,112,99] false))++(putS [[106,99,32,46,110,101,120,116],[46,116,97,107,101,58]]))++(Qq n 7 1 0 [115,117,98] [115,98,99] true))++(putS [[108,100,32,114,50,44,32,114,48,44,32,48],[108,100,105,32,114,52,44,32,49],[111,114,32,114,50,44,32,114,52],[115,116,32,114,48,44,32,114,50,44,32,48],[46,110,101,120,116,58]]))++(Pb))++([]))++(Qr ((n:Int))))
set_option maxHeartbeats 16000000 in
set_option maxRecDepth 100000 in
theorem Zgy{G:Nat}{H:Nat→Option Obj}(hM:Yo G H)(hH:Z5 G H)(n:Nat)(hn:1≤n∧n≤100)(acc:List UInt8)(hb:acc.length+(Ig n).length≤100000):
 GCp G H Tryz.prog 90 ([.a (.loc 0 0)]++[.a (.bool false)]) [(0,.cells 131 [.loc 0 0,.ref 1,.int .i64 (n:Int)]),(1,.row 5 (.int .u8) (bytesI (acc)))] 2 [0] (.tup []) [(0,.cells 131 [.loc 0 0,.ref 2,.int .i64 (n:Int)]),(2,.row 5 (.int .u8) (bytesI (acc++Ig n)))] 3:=by
 unfold Ig at*
 simp only[List.length_append]at hb
 have hm16:IntKind.i64.wrap (16*(n:Int))=16*(n:Int):=Zm (by omega) (by omega)
 have hm2:IntKind.i64.wrap (2*(n:Int))=2*(n:Int):=Zm (by omega) (by omega)
 have hm1:IntKind.i64.wrap ((n:Int)-1)=(n:Int)-1:=Zm (by omega) (by omega)
 have hp1:IntKind.i64.wrap ((n:Int)+1)=(n:Int)+1:=Zm (by omega) (by omega)
 have hP0:=Zr (n:Int) (acc) [[108,100,32,114,50,44,32,114,49,44,32,48]] (by omega) (by simp)
 generalize putS [[108,100,32,114,50,44,32,114,49,44,32,48]]=p0 at*
 refine Tt.fn.gcp (by simp) (by simp[Zu,Zw,Zv,Zj,Ze,Vc.S1.okN,At.okN,SV.okN,Res.okN,Res.outOk,Zo,Res.own,Value.oneCell']) fun w X fr hglob=> ?_
 repeat'(first|(first|refine Stp.h ?_|(refine Za.gc hP0 ?_ ?_;focus simp[Zb];done))<;>try simp only[Zd,simprocAttr,↓reduceIte,reduceCtorEq,implies_true,hm16,hm2,hm1,hp1,Bool.not_true,Bool.not_false,Int.ofNat_lt]|(with_reducible first|assumption|refine And.intro ?_ ?_)|(intro h;first|omega|exact tg h ‹_›|exact tg ‹_› h|skip))
 all_goals first|omega|(simp only[List.length_append,List.length_cons,List.length_nil];omega)|skip
 have hAl1:((acc)++p0).length=((acc)++p0).length:=rfl
 conv at hAl1=>rhs;simp only[List.length_append]
 generalize hA1:(acc)++p0=a1 at*
 refine T.loop (ι:= {k:Nat//k≤n-1})
  (fun x=>⟨[(4,.one (.a (.int .i64 ((x.1:Int)+1)))),(0,.one (.a (.loc 0 0))),(1,.one (.a (.bool false))),(1000000,.one (.a (.ref 0)))],
    [(0,.cells 131 [.loc 0 0,.ref 1,.int .i64 (n:Int)]),(1,.row 5 (.int .u8) (bytesI (a1++rep x.1 fun i=>[sayS [108,100,32,114,52,44,32,114,49,44,32,37,100] [(i:Int)+1],[111,114,32,114,50,44,32,114,52]])))],2⟩) (fun x=>n-1-x.1) ⟨0,by simp⟩ (Ent.mk1 (fun n=>if n=1 then 3 else n) (by simp[Zy,rep,hA1])) ?_
 rintro⟨k,hk⟩
 simp only
 by_cases hlt:k<n-1
 ·have hmono:=W9 (fun i=>[sayS [108,100,32,114,52,44,32,114,49,44,32,37,100] [(i:Int)+1],[111,114,32,114,50,44,32,114,52]]) (show k+1≤n-1 from hlt)
  rw[Yr]at hmono
  simp only[List.length_append]at hmono
  have ha2:a1++rep (k+1) (fun i=>[sayS [108,100,32,114,52,44,32,114,49,44,32,37,100] [(i:Int)+1],[111,114,32,114,50,44,32,114,52]])=(a1++rep k (fun i=>[sayS [108,100,32,114,52,44,32,114,49,44,32,37,100] [(i:Int)+1],[111,114,32,114,50,44,32,114,52]]))++putS [sayS [108,100,32,114,52,44,32,114,49,44,32,37,100] [(k:Int)+1],[111,114,32,114,50,44,32,114,52]]:=by rw[Yr,List.append_assoc]
  have hac:(a1++rep k (fun i=>[sayS [108,100,32,114,52,44,32,114,49,44,32,37,100] [(i:Int)+1],[111,114,32,114,50,44,32,114,52]])).length=a1.length+(rep k (fun i=>[sayS [108,100,32,114,52,44,32,114,49,44,32,37,100] [(i:Int)+1],[111,114,32,114,50,44,32,114,52]])).length:=by simp
  have hw:IntKind.i64.wrap ((k:Int)+1)=((k+1:Nat):Int):=Zx (by omega)
  have hw2:IntKind.i64.wrap ((k:Int)+1+1)=((k+1:Nat):Int)+1:=by have:=Zx (k:=k+1) (by omega);simpa using this
  have hlt2:((k:Nat):Int)+1<(n:Int):=by omega
  generalize hacc:a1++rep k (fun i=>[sayS [108,100,32,114,52,44,32,114,49,44,32,37,100] [(i:Int)+1],[111,114,32,114,50,44,32,114,52]])=a at*
  generalize rep k (fun i=>[sayS [108,100,32,114,52,44,32,114,49,44,32,37,100] [(i:Int)+1],[111,114,32,114,50,44,32,114,52]])=pre at*
  have hS0:=Ym hM hH [108,100,32,114,52,44,32,114,49,44,32,37,100] [(k:Int)+1] (by simp;omega) (by simp) (by simp)
  generalize sayS [108,100,32,114,52,44,32,114,49,44,32,37,100] [(k:Int)+1]=z0 at*
  have hP:=Zr (n:Int) a [z0,[111,114,32,114,50,44,32,114,52]] (by omega) (by simp)
  repeat'(first|(first|refine Stp.h ?_|(refine Za.gcp hglob hS0 ?_ ?_;focus simp[Zb];done)|(refine Za.gc hP ?_ ?_;focus simp[Zb];done))<;>try simp only[Zd,simprocAttr,↓reduceIte,reduceCtorEq,implies_true,hlt2,hw,hw2,hm16,hm2,hm1,hp1,Bool.not_true,Bool.not_false,Int.ofNat_lt]|(with_reducible first|assumption|refine And.intro ?_ ?_)|(intro h;first|omega|exact tg h ‹_›|exact tg ‹_› h|skip))
  all_goals first|omega|(simp only[List.length_append,List.length_cons,List.length_nil];omega)|skip
  exact⟨⟨k+1,hlt⟩,(Ent.mk1 (fun n=>if n=1 then 4 else n) (by simp[Zy,ha2,hw,hw2])),by simp only;omega⟩
 have hk2:n-1=k:=by omega
 subst hk2
 have hnl:¬(((n-1:Nat):Int)+1)<(n:Int):=by omega
 clear hlt hk
 generalize (rep (n-1) fun i=>[sayS [108,100,32,114,52,44,32,114,49,44,32,37,100] [(i:Int)+1],[111,114,32,114,50,44,32,114,52]])=p1 at*
 have hP2:=Zr (n:Int) (a1++p1) [[108,100,105,32,114,52,44,32,48],[99,109,112,32,114,50,44,32,114,52],[106,110,122,32,46,111,107],[116,114,97,112,32,49],[46,111,107,58],[108,100,105,32,114,50,44,32,48]] (by simp only[List.length_append];omega) (by simp)
 generalize putS [[108,100,105,32,114,52,44,32,48],[99,109,112,32,114,50,44,32,114,52],[106,110,122,32,46,111,107],[116,114,97,112,32,49],[46,111,107,58],[108,100,105,32,114,50,44,32,48]]=p2 at*
 repeat'(first|(first|refine Stp.h ?_|(refine Za.gc hP2 ?_ ?_;focus simp[Zb];done))<;>try simp only[Zd,simprocAttr,↓reduceIte,reduceCtorEq,implies_true,hnl,hm16,hm2,hm1,hp1,Bool.not_true,Bool.not_false,Int.ofNat_lt]|(with_reducible first|assumption|refine And.intro ?_ ?_)|(intro h;first|omega|exact tg h ‹_›|exact tg ‹_› h|skip))
 all_goals first|omega|(simp only[List.length_append,List.length_cons,List.length_nil];omega)|skip
 have hAl3:((a1++p1)++p2).length=((a1++p1)++p2).length:=rfl
 conv at hAl3=>rhs;simp only[List.length_append]
 generalize hA3:(a1++p1)++p2=a3 at*
 refine T.loop (ι:= {k:Nat//k≤n})
  (fun x=>⟨[(30,.one (.a (.int .i64 (x.1:Int)))),(29,.one (.a (.int .i64 (n:Int)))),(0,.one (.a (.loc 0 0))),(1,.one (.a (.bool false))),(1000000,.one (.a (.ref 0)))],
    [(0,.cells 131 [.loc 0 0,.ref 1,.int .i64 (n:Int)]),(1,.row 5 (.int .u8) (bytesI (a3++rep x.1 fun i=>[[112,117,115,104,32,114,50]])))],2⟩) (fun x=>n-x.1) ⟨0,by simp⟩ (Ent.mk1 (fun n=>if n=1 then 3 else n) (by simp[Zy,rep,hA3])) ?_
 rintro⟨k,hk⟩
 simp only
 by_cases hlt:k<n
 ·have hmono:=W9 (fun i=>[[112,117,115,104,32,114,50]]) (show k+1≤n from hlt)
  rw[Yr]at hmono
  simp only[List.length_append]at hmono
  have ha2:a3++rep (k+1) (fun i=>[[112,117,115,104,32,114,50]])=(a3++rep k (fun i=>[[112,117,115,104,32,114,50]]))++putS [[112,117,115,104,32,114,50]]:=by rw[Yr,List.append_assoc]
  have hac:(a3++rep k (fun i=>[[112,117,115,104,32,114,50]])).length=a3.length+(rep k (fun i=>[[112,117,115,104,32,114,50]])).length:=by simp
  have hw:IntKind.i64.wrap ((k:Int)+1)=((k+1:Nat):Int):=Zx (by omega)
  have hw2:IntKind.i64.wrap ((k:Int)+1+1)=((k+1:Nat):Int)+1:=by have:=Zx (k:=k+1) (by omega);simpa using this
  have hlt2:((k:Nat):Int)<(n:Int):=by omega
  generalize hacc:a3++rep k (fun i=>[[112,117,115,104,32,114,50]])=a at*
  generalize rep k (fun i=>[[112,117,115,104,32,114,50]])=pre at*
  have hP:=Zr (n:Int) a [[112,117,115,104,32,114,50]] (by omega) (by simp)
  repeat'(first|(first|refine Stp.h ?_|(refine Za.gc hP ?_ ?_;focus simp[Zb];done))<;>try simp only[Zd,simprocAttr,↓reduceIte,reduceCtorEq,implies_true,hlt2,hw,hw2,hm16,hm2,hm1,hp1,Bool.not_true,Bool.not_false,Int.ofNat_lt]|(with_reducible first|assumption|refine And.intro ?_ ?_)|(intro h;first|omega|exact tg h ‹_›|exact tg ‹_› h|skip))
  all_goals first|omega|(simp only[List.length_append,List.length_cons,List.length_nil];omega)|skip
  exact⟨⟨k+1,hlt⟩,(Ent.mk1 (fun n=>if n=1 then 3 else n) (by simp[Zy,ha2,hw,hw2])),by simp only;omega⟩
 have hk2:n=k:=by omega
 subst hk2
 have hnl:¬(((n:Nat):Int))<(n:Int):=by omega
 clear hlt hk
 generalize (rep (n) fun i=>[[112,117,115,104,32,114,50]])=p3 at*
 have hSz4_0:=Ym hM hH [108,100,105,32,114,51,44,32,37,100] [16*(n:Int)] (by simp;omega) (by simp) (by simp)
 generalize sayS [108,100,105,32,114,51,44,32,37,100] [16*(n:Int)]=z4_0 at*
 have hP4:=Zr (n:Int) (a3++p3) [z4_0,[46,108,111,111,112,58]] (by simp only[List.length_append];omega) (by simp)
 generalize putS [z4_0,[46,108,111,111,112,58]]=p4 at*
 have hP5:=U7 hM hH n (by omega) 0 0 [115,104,108] [114,111,108] [] (by omega) (by omega) (by simp) (by simp) (by simp) ((a3++p3)++p4) (by first|omega|(simp only[List.length_append];omega))
 generalize hgp5:(Wi n 0 0 [115,104,108] [114,111,108] [])=p5 at*
 have hP6:=U7 hM hH n (by omega) 7 0 [114,111,108] [114,111,108] [] (by omega) (by omega) (by simp) (by simp) (by simp) (((a3++p3)++p4)++p5) (by first|omega|(simp only[List.length_append];omega))
 generalize hgp6:(Wi n 7 0 [114,111,108] [114,111,108] [])=p6 at*
 have hP7:=Zr (n:Int) ((((a3++p3)++p4)++p5)++p6) [[106,99,32,46,116,97,107,101]] (by simp only[List.length_append];omega) (by simp)
 generalize putS [[106,99,32,46,116,97,107,101]]=p7 at*
 have hP8:=P8 hM hH n (by omega) 7 1 0 [99,109,112] [99,112,99] false (by omega) (by omega) (by omega) (by simp) (by simp) (((((a3++p3)++p4)++p5)++p6)++p7) (by first|omega|(simp only[List.length_append];omega))
 generalize hgp8:(Qq n 7 1 0 [99,109,112] [99,112,99] false)=p8 at*
 have hP9:=Zr (n:Int) ((((((a3++p3)++p4)++p5)++p6)++p7)++p8) [[106,99,32,46,110,101,120,116],[46,116,97,107,101,58]] (by simp only[List.length_append];omega) (by simp)
 generalize putS [[106,99,32,46,110,101,120,116],[46,116,97,107,101,58]]=p9 at*
 have hP10:=P8 hM hH n (by omega) 7 1 0 [115,117,98] [115,98,99] true (by omega) (by omega) (by omega) (by simp) (by simp) (((((((a3++p3)++p4)++p5)++p6)++p7)++p8)++p9) (by first|omega|(simp only[List.length_append];omega))
 generalize hgp10:(Qq n 7 1 0 [115,117,98] [115,98,99] true)=p10 at*
 have hP11:=Zr (n:Int) ((((((((a3++p3)++p4)++p5)++p6)++p7)++p8)++p9)++p10) [[108,100,32,114,50,44,32,114,48,44,32,48],[108,100,105,32,114,52,44,32,49],[111,114,32,114,50,44,32,114,52],[115,116,32,114,48,44,32,114,50,44,32,48],[46,110,101,120,116,58]] (by simp only[List.length_append];omega) (by simp)
 generalize putS [[108,100,32,114,50,44,32,114,48,44,32,48],[108,100,105,32,114,52,44,32,49],[111,114,32,114,50,44,32,114,52],[115,116,32,114,48,44,32,114,50,44,32,48],[46,110,101,120,116,58]]=p11 at*
 have hP12:=Lh hM hH n (((((((((a3++p3)++p4)++p5)++p6)++p7)++p8)++p9)++p10)++p11) (by first|omega|(simp only[List.length_append];omega))
 generalize hgp12:(Pb)=p12 at*
 repeat'(first|(first|refine Stp.h ?_|(refine Za.gcp hglob hSz4_0 ?_ ?_;focus simp[Zb];done)|(refine Za.gc hP4 ?_ ?_;focus simp[Zb];done)|(refine Za.gcp hglob hP5 ?_ ?_;focus simp[Zb];done)|(refine Za.gcp hglob hP6 ?_ ?_;focus simp[Zb];done)|(refine Za.gc hP7 ?_ ?_;focus simp[Zb];done)|(refine Za.gcp hglob hP8 ?_ ?_;focus simp[Zb];done)|(refine Za.gc hP9 ?_ ?_;focus simp[Zb];done)|(refine Za.gcp hglob hP10 ?_ ?_;focus simp[Zb];done)|(refine Za.gc hP11 ?_ ?_;focus simp[Zb];done)|(refine Za.gcp hglob hP12 ?_ ?_;focus simp[Zb];done))<;>try simp only[Zd,simprocAttr,↓reduceIte,reduceCtorEq,implies_true,hnl,hm16,hm2,hm1,hp1,Bool.not_true,Bool.not_false,Int.ofNat_lt]|(with_reducible first|assumption|refine And.intro ?_ ?_)|(intro h;first|omega|exact tg h ‹_›|exact tg ‹_› h|skip))
 all_goals first|omega|(simp only[List.length_append,List.length_cons,List.length_nil];omega)|skip
 have hAl13:((((((((((a3++p3)++p4)++p5)++p6)++p7)++p8)++p9)++p10)++p11)++p12).length=((((((((((a3++p3)++p4)++p5)++p6)++p7)++p8)++p9)++p10)++p11)++p12).length:=rfl
 conv at hAl13=>rhs;simp only[List.length_append]
 generalize hA13:(((((((((a3++p3)++p4)++p5)++p6)++p7)++p8)++p9)++p10)++p11)++p12=a13 at*
 refine T.loop (ι:=Unit)
  (fun x=>⟨[(5,.one (.a (.int .i64 0))),(0,.one (.a (.loc 0 0))),(1,.one (.a (.bool false))),(1000000,.one (.a (.ref 0)))],
    [(0,.cells 131 [.loc 0 0,.ref 1,.int .i64 (n:Int)]),(1,.row 5 (.int .u8) (bytesI (a13)))],2⟩) (fun x=>0) () (Ent.mk1 (fun n=>if n=1 then 15 else n) (by simp[Zy,hA13])) ?_
 rintro⟨⟩
 try simp only
 have hnl:(0:Int)<(n:Int):=by omega
 have hP14:=Oc hM hH n ((n:Int)) (by omega) (a13) (by first|omega|(simp only[List.length_append];omega))
 generalize hgp14:(Qr ((n:Int)))=p14 at*
 have hj:(a13)++p14=acc++((((((((((((((p0++p1)++p2)++p3)++p4)++p5)++p6)++p7)++p8)++p9)++p10)++p11)++p12)++[])++p14):=by simp only[←hA13,←hA3,←hA1,List.append_assoc,List.append_nil,List.nil_append]
 rw[hj]at hP14
 repeat'(first|(first|refine Stp.h ?_|(refine Za.gcp hglob hP14 ?_ ?_;focus simp[Zb];done))<;>try simp only[Zd,simprocAttr,↓reduceIte,reduceCtorEq,implies_true,hnl,hm16,hm2,hm1,hp1,Bool.not_true,Bool.not_false,Int.ofNat_lt]|(with_reducible first|assumption|refine And.intro ?_ ?_)|(intro h;first|omega|exact tg h ‹_›|exact tg ‹_› h|skip))
 all_goals first|omega|(simp only[List.length_append,List.length_cons,List.length_nil];omega)|skip
def Ih(n:Nat):List UInt8:=(((((((((((((((putS [[108,100,32,114,50,44,32,114,49,44,32,48]])++(rep (n-1) fun i=>[sayS [108,100,32,114,52,44,32,114,49,44,32,37,100] [(i:Int)+1],[111,114,32,114,50,44,32,114,52]]))++(putS [[108,100,105,32,114,52,44,32,48],[99,109,112,32,114,50,44,32,114,52],[106,110,122,32,46,111,107],[116,114,97,112,32,49],[46,111,107,58],[108,100,105,32,114,50,44,32,48]]))++(rep (n) fun i=>[[112,117,115,104,32,114,50]]))++(putS [sayS [108,100,105,32,114,51,44,32,37,100] [16*(n:Int)],[46,108,111,111,112,58]]))++(Wi n 0 0 [115,104,108] [114,111,108] []))++(Wi n 7 0 [114,111,108] [114,111,108] []))++(putS [[106,99,32,46,116,97,107,101]]))++(Qq n 7 1 0 [99,109,112] [99,112,99] false))++(putS [[106,99,32,46,110,101,120,116],[46,116,97,107,101,58]]))++(Qq n 7 1 0 [115,117,98] [115,98,99] true))++(putS [[108,100,32,114,50,44,32,114,48,44,32,48],[108,100,105,32,114,52,44,32,49],[111,114,32,114,50,44,32,114,52],[115,116,32,114,48,44,32,114,50,44,32,48],[46,110,101,120,116,58]]))++(Pb))++(rep (n) fun i=>[sayS [108,100,32,114,50,44,32,114,55,44,32,37,100] [(i:Int)],sayS [115,116,32,114,48,44,32,114,50,44,32,37,100] [(i:Int)]]))++(Qr ((n:Int))))
set_option maxHeartbeats 16000000 in
set_option maxRecDepth 100000 in
theorem Zgz{G:Nat}{H:Nat→Option Obj}(hM:Yo G H)(hH:Z5 G H)(n:Nat)(hn:1≤n∧n≤100)(acc:List UInt8)(hb:acc.length+(Ih n).length≤100000):
 GCp G H Tryz.prog 90 ([.a (.loc 0 0)]++[.a (.bool true)]) [(0,.cells 131 [.loc 0 0,.ref 1,.int .i64 (n:Int)]),(1,.row 5 (.int .u8) (bytesI (acc)))] 2 [0] (.tup []) [(0,.cells 131 [.loc 0 0,.ref 2,.int .i64 (n:Int)]),(2,.row 5 (.int .u8) (bytesI (acc++Ih n)))] 3:=by
 unfold Ih at*
 simp only[List.length_append]at hb
 have hm16:IntKind.i64.wrap (16*(n:Int))=16*(n:Int):=Zm (by omega) (by omega)
 have hm2:IntKind.i64.wrap (2*(n:Int))=2*(n:Int):=Zm (by omega) (by omega)
 have hm1:IntKind.i64.wrap ((n:Int)-1)=(n:Int)-1:=Zm (by omega) (by omega)
 have hp1:IntKind.i64.wrap ((n:Int)+1)=(n:Int)+1:=Zm (by omega) (by omega)
 have hP0:=Zr (n:Int) (acc) [[108,100,32,114,50,44,32,114,49,44,32,48]] (by omega) (by simp)
 generalize putS [[108,100,32,114,50,44,32,114,49,44,32,48]]=p0 at*
 refine Tt.fn.gcp (by simp) (by simp[Zu,Zw,Zv,Zj,Ze,Vc.S1.okN,At.okN,SV.okN,Res.okN,Res.outOk,Zo,Res.own,Value.oneCell']) fun w X fr hglob=> ?_
 repeat'(first|(first|refine Stp.h ?_|(refine Za.gc hP0 ?_ ?_;focus simp[Zb];done))<;>try simp only[Zd,simprocAttr,↓reduceIte,reduceCtorEq,implies_true,hm16,hm2,hm1,hp1,Bool.not_true,Bool.not_false,Int.ofNat_lt]|(with_reducible first|assumption|refine And.intro ?_ ?_)|(intro h;first|omega|exact tg h ‹_›|exact tg ‹_› h|skip))
 all_goals first|omega|(simp only[List.length_append,List.length_cons,List.length_nil];omega)|skip
 have hAl1:((acc)++p0).length=((acc)++p0).length:=rfl
 conv at hAl1=>rhs;simp only[List.length_append]
 generalize hA1:(acc)++p0=a1 at*
 refine T.loop (ι:= {k:Nat//k≤n-1})
  (fun x=>⟨[(4,.one (.a (.int .i64 ((x.1:Int)+1)))),(0,.one (.a (.loc 0 0))),(1,.one (.a (.bool true))),(1000000,.one (.a (.ref 0)))],
    [(0,.cells 131 [.loc 0 0,.ref 1,.int .i64 (n:Int)]),(1,.row 5 (.int .u8) (bytesI (a1++rep x.1 fun i=>[sayS [108,100,32,114,52,44,32,114,49,44,32,37,100] [(i:Int)+1],[111,114,32,114,50,44,32,114,52]])))],2⟩) (fun x=>n-1-x.1) ⟨0,by simp⟩ (Ent.mk1 (fun n=>if n=1 then 3 else n) (by simp[Zy,rep,hA1])) ?_
 rintro⟨k,hk⟩
 simp only
 by_cases hlt:k<n-1
 ·have hmono:=W9 (fun i=>[sayS [108,100,32,114,52,44,32,114,49,44,32,37,100] [(i:Int)+1],[111,114,32,114,50,44,32,114,52]]) (show k+1≤n-1 from hlt)
  rw[Yr]at hmono
  simp only[List.length_append]at hmono
  have ha2:a1++rep (k+1) (fun i=>[sayS [108,100,32,114,52,44,32,114,49,44,32,37,100] [(i:Int)+1],[111,114,32,114,50,44,32,114,52]])=(a1++rep k (fun i=>[sayS [108,100,32,114,52,44,32,114,49,44,32,37,100] [(i:Int)+1],[111,114,32,114,50,44,32,114,52]]))++putS [sayS [108,100,32,114,52,44,32,114,49,44,32,37,100] [(k:Int)+1],[111,114,32,114,50,44,32,114,52]]:=by rw[Yr,List.append_assoc]
  have hac:(a1++rep k (fun i=>[sayS [108,100,32,114,52,44,32,114,49,44,32,37,100] [(i:Int)+1],[111,114,32,114,50,44,32,114,52]])).length=a1.length+(rep k (fun i=>[sayS [108,100,32,114,52,44,32,114,49,44,32,37,100] [(i:Int)+1],[111,114,32,114,50,44,32,114,52]])).length:=by simp
  have hw:IntKind.i64.wrap ((k:Int)+1)=((k+1:Nat):Int):=Zx (by omega)
  have hw2:IntKind.i64.wrap ((k:Int)+1+1)=((k+1:Nat):Int)+1:=by have:=Zx (k:=k+1) (by omega);simpa using this
  have hlt2:((k:Nat):Int)+1<(n:Int):=by omega
  generalize hacc:a1++rep k (fun i=>[sayS [108,100,32,114,52,44,32,114,49,44,32,37,100] [(i:Int)+1],[111,114,32,114,50,44,32,114,52]])=a at*
  generalize rep k (fun i=>[sayS [108,100,32,114,52,44,32,114,49,44,32,37,100] [(i:Int)+1],[111,114,32,114,50,44,32,114,52]])=pre at*
  have hS0:=Ym hM hH [108,100,32,114,52,44,32,114,49,44,32,37,100] [(k:Int)+1] (by simp;omega) (by simp) (by simp)
  generalize sayS [108,100,32,114,52,44,32,114,49,44,32,37,100] [(k:Int)+1]=z0 at*
  have hP:=Zr (n:Int) a [z0,[111,114,32,114,50,44,32,114,52]] (by omega) (by simp)
  repeat'(first|(first|refine Stp.h ?_|(refine Za.gcp hglob hS0 ?_ ?_;focus simp[Zb];done)|(refine Za.gc hP ?_ ?_;focus simp[Zb];done))<;>try simp only[Zd,simprocAttr,↓reduceIte,reduceCtorEq,implies_true,hlt2,hw,hw2,hm16,hm2,hm1,hp1,Bool.not_true,Bool.not_false,Int.ofNat_lt]|(with_reducible first|assumption|refine And.intro ?_ ?_)|(intro h;first|omega|exact tg h ‹_›|exact tg ‹_› h|skip))
  all_goals first|omega|(simp only[List.length_append,List.length_cons,List.length_nil];omega)|skip
  exact⟨⟨k+1,hlt⟩,(Ent.mk1 (fun n=>if n=1 then 4 else n) (by simp[Zy,ha2,hw,hw2])),by simp only;omega⟩
 have hk2:n-1=k:=by omega
 subst hk2
 have hnl:¬(((n-1:Nat):Int)+1)<(n:Int):=by omega
 clear hlt hk
 generalize (rep (n-1) fun i=>[sayS [108,100,32,114,52,44,32,114,49,44,32,37,100] [(i:Int)+1],[111,114,32,114,50,44,32,114,52]])=p1 at*
 have hP2:=Zr (n:Int) (a1++p1) [[108,100,105,32,114,52,44,32,48],[99,109,112,32,114,50,44,32,114,52],[106,110,122,32,46,111,107],[116,114,97,112,32,49],[46,111,107,58],[108,100,105,32,114,50,44,32,48]] (by simp only[List.length_append];omega) (by simp)
 generalize putS [[108,100,105,32,114,52,44,32,48],[99,109,112,32,114,50,44,32,114,52],[106,110,122,32,46,111,107],[116,114,97,112,32,49],[46,111,107,58],[108,100,105,32,114,50,44,32,48]]=p2 at*
 repeat'(first|(first|refine Stp.h ?_|(refine Za.gc hP2 ?_ ?_;focus simp[Zb];done))<;>try simp only[Zd,simprocAttr,↓reduceIte,reduceCtorEq,implies_true,hnl,hm16,hm2,hm1,hp1,Bool.not_true,Bool.not_false,Int.ofNat_lt]|(with_reducible first|assumption|refine And.intro ?_ ?_)|(intro h;first|omega|exact tg h ‹_›|exact tg ‹_› h|skip))
 all_goals first|omega|(simp only[List.length_append,List.length_cons,List.length_nil];omega)|skip
 have hAl3:((a1++p1)++p2).length=((a1++p1)++p2).length:=rfl
 conv at hAl3=>rhs;simp only[List.length_append]
 generalize hA3:(a1++p1)++p2=a3 at*
 refine T.loop (ι:= {k:Nat//k≤n})
  (fun x=>⟨[(30,.one (.a (.int .i64 (x.1:Int)))),(29,.one (.a (.int .i64 (n:Int)))),(0,.one (.a (.loc 0 0))),(1,.one (.a (.bool true))),(1000000,.one (.a (.ref 0)))],
    [(0,.cells 131 [.loc 0 0,.ref 1,.int .i64 (n:Int)]),(1,.row 5 (.int .u8) (bytesI (a3++rep x.1 fun i=>[[112,117,115,104,32,114,50]])))],2⟩) (fun x=>n-x.1) ⟨0,by simp⟩ (Ent.mk1 (fun n=>if n=1 then 3 else n) (by simp[Zy,rep,hA3])) ?_
 rintro⟨k,hk⟩
 simp only
 by_cases hlt:k<n
 ·have hmono:=W9 (fun i=>[[112,117,115,104,32,114,50]]) (show k+1≤n from hlt)
  rw[Yr]at hmono
  simp only[List.length_append]at hmono
  have ha2:a3++rep (k+1) (fun i=>[[112,117,115,104,32,114,50]])=(a3++rep k (fun i=>[[112,117,115,104,32,114,50]]))++putS [[112,117,115,104,32,114,50]]:=by rw[Yr,List.append_assoc]
  have hac:(a3++rep k (fun i=>[[112,117,115,104,32,114,50]])).length=a3.length+(rep k (fun i=>[[112,117,115,104,32,114,50]])).length:=by simp
  have hw:IntKind.i64.wrap ((k:Int)+1)=((k+1:Nat):Int):=Zx (by omega)
  have hw2:IntKind.i64.wrap ((k:Int)+1+1)=((k+1:Nat):Int)+1:=by have:=Zx (k:=k+1) (by omega);simpa using this
  have hlt2:((k:Nat):Int)<(n:Int):=by omega
  generalize hacc:a3++rep k (fun i=>[[112,117,115,104,32,114,50]])=a at*
  generalize rep k (fun i=>[[112,117,115,104,32,114,50]])=pre at*
  have hP:=Zr (n:Int) a [[112,117,115,104,32,114,50]] (by omega) (by simp)
  repeat'(first|(first|refine Stp.h ?_|(refine Za.gc hP ?_ ?_;focus simp[Zb];done))<;>try simp only[Zd,simprocAttr,↓reduceIte,reduceCtorEq,implies_true,hlt2,hw,hw2,hm16,hm2,hm1,hp1,Bool.not_true,Bool.not_false,Int.ofNat_lt]|(with_reducible first|assumption|refine And.intro ?_ ?_)|(intro h;first|omega|exact tg h ‹_›|exact tg ‹_› h|skip))
  all_goals first|omega|(simp only[List.length_append,List.length_cons,List.length_nil];omega)|skip
  exact⟨⟨k+1,hlt⟩,(Ent.mk1 (fun n=>if n=1 then 3 else n) (by simp[Zy,ha2,hw,hw2])),by simp only;omega⟩
 have hk2:n=k:=by omega
 subst hk2
 have hnl:¬(((n:Nat):Int))<(n:Int):=by omega
 clear hlt hk
 generalize (rep (n) fun i=>[[112,117,115,104,32,114,50]])=p3 at*
 have hSz4_0:=Ym hM hH [108,100,105,32,114,51,44,32,37,100] [16*(n:Int)] (by simp;omega) (by simp) (by simp)
 generalize sayS [108,100,105,32,114,51,44,32,37,100] [16*(n:Int)]=z4_0 at*
 have hP4:=Zr (n:Int) (a3++p3) [z4_0,[46,108,111,111,112,58]] (by simp only[List.length_append];omega) (by simp)
 generalize putS [z4_0,[46,108,111,111,112,58]]=p4 at*
 have hP5:=U7 hM hH n (by omega) 0 0 [115,104,108] [114,111,108] [] (by omega) (by omega) (by simp) (by simp) (by simp) ((a3++p3)++p4) (by first|omega|(simp only[List.length_append];omega))
 generalize hgp5:(Wi n 0 0 [115,104,108] [114,111,108] [])=p5 at*
 have hP6:=U7 hM hH n (by omega) 7 0 [114,111,108] [114,111,108] [] (by omega) (by omega) (by simp) (by simp) (by simp) (((a3++p3)++p4)++p5) (by first|omega|(simp only[List.length_append];omega))
 generalize hgp6:(Wi n 7 0 [114,111,108] [114,111,108] [])=p6 at*
 have hP7:=Zr (n:Int) ((((a3++p3)++p4)++p5)++p6) [[106,99,32,46,116,97,107,101]] (by simp only[List.length_append];omega) (by simp)
 generalize putS [[106,99,32,46,116,97,107,101]]=p7 at*
 have hP8:=P8 hM hH n (by omega) 7 1 0 [99,109,112] [99,112,99] false (by omega) (by omega) (by omega) (by simp) (by simp) (((((a3++p3)++p4)++p5)++p6)++p7) (by first|omega|(simp only[List.length_append];omega))
 generalize hgp8:(Qq n 7 1 0 [99,109,112] [99,112,99] false)=p8 at*
 have hP9:=Zr (n:Int) ((((((a3++p3)++p4)++p5)++p6)++p7)++p8) [[106,99,32,46,110,101,120,116],[46,116,97,107,101,58]] (by simp only[List.length_append];omega) (by simp)
 generalize putS [[106,99,32,46,110,101,120,116],[46,116,97,107,101,58]]=p9 at*
 have hP10:=P8 hM hH n (by omega) 7 1 0 [115,117,98] [115,98,99] true (by omega) (by omega) (by omega) (by simp) (by simp) (((((((a3++p3)++p4)++p5)++p6)++p7)++p8)++p9) (by first|omega|(simp only[List.length_append];omega))
 generalize hgp10:(Qq n 7 1 0 [115,117,98] [115,98,99] true)=p10 at*
 have hP11:=Zr (n:Int) ((((((((a3++p3)++p4)++p5)++p6)++p7)++p8)++p9)++p10) [[108,100,32,114,50,44,32,114,48,44,32,48],[108,100,105,32,114,52,44,32,49],[111,114,32,114,50,44,32,114,52],[115,116,32,114,48,44,32,114,50,44,32,48],[46,110,101,120,116,58]] (by simp only[List.length_append];omega) (by simp)
 generalize putS [[108,100,32,114,50,44,32,114,48,44,32,48],[108,100,105,32,114,52,44,32,49],[111,114,32,114,50,44,32,114,52],[115,116,32,114,48,44,32,114,50,44,32,48],[46,110,101,120,116,58]]=p11 at*
 have hP12:=Lh hM hH n (((((((((a3++p3)++p4)++p5)++p6)++p7)++p8)++p9)++p10)++p11) (by first|omega|(simp only[List.length_append];omega))
 generalize hgp12:(Pb)=p12 at*
 repeat'(first|(first|refine Stp.h ?_|(refine Za.gcp hglob hSz4_0 ?_ ?_;focus simp[Zb];done)|(refine Za.gc hP4 ?_ ?_;focus simp[Zb];done)|(refine Za.gcp hglob hP5 ?_ ?_;focus simp[Zb];done)|(refine Za.gcp hglob hP6 ?_ ?_;focus simp[Zb];done)|(refine Za.gc hP7 ?_ ?_;focus simp[Zb];done)|(refine Za.gcp hglob hP8 ?_ ?_;focus simp[Zb];done)|(refine Za.gc hP9 ?_ ?_;focus simp[Zb];done)|(refine Za.gcp hglob hP10 ?_ ?_;focus simp[Zb];done)|(refine Za.gc hP11 ?_ ?_;focus simp[Zb];done)|(refine Za.gcp hglob hP12 ?_ ?_;focus simp[Zb];done))<;>try simp only[Zd,simprocAttr,↓reduceIte,reduceCtorEq,implies_true,hnl,hm16,hm2,hm1,hp1,Bool.not_true,Bool.not_false,Int.ofNat_lt]|(with_reducible first|assumption|refine And.intro ?_ ?_)|(intro h;first|omega|exact tg h ‹_›|exact tg ‹_› h|skip))
 all_goals first|omega|(simp only[List.length_append,List.length_cons,List.length_nil];omega)|skip
 have hAl13:((((((((((a3++p3)++p4)++p5)++p6)++p7)++p8)++p9)++p10)++p11)++p12).length=((((((((((a3++p3)++p4)++p5)++p6)++p7)++p8)++p9)++p10)++p11)++p12).length:=rfl
 conv at hAl13=>rhs;simp only[List.length_append]
 generalize hA13:(((((((((a3++p3)++p4)++p5)++p6)++p7)++p8)++p9)++p10)++p11)++p12=a13 at*
 refine T.loop (ι:= {k:Nat//k≤n})
  (fun x=>⟨[(5,.one (.a (.int .i64 (x.1:Int)))),(0,.one (.a (.loc 0 0))),(1,.one (.a (.bool true))),(1000000,.one (.a (.ref 0)))],
    [(0,.cells 131 [.loc 0 0,.ref 1,.int .i64 (n:Int)]),(1,.row 5 (.int .u8) (bytesI (a13++rep x.1 fun i=>[sayS [108,100,32,114,50,44,32,114,55,44,32,37,100] [(i:Int)],sayS [115,116,32,114,48,44,32,114,50,44,32,37,100] [(i:Int)]])))],2⟩) (fun x=>n-x.1) ⟨0,by simp⟩ (Ent.mk1 (fun n=>if n=1 then 15 else n) (by simp[Zy,rep,hA13])) ?_
 rintro⟨k,hk⟩
 simp only
 by_cases hlt:k<n
 ·have hmono:=W9 (fun i=>[sayS [108,100,32,114,50,44,32,114,55,44,32,37,100] [(i:Int)],sayS [115,116,32,114,48,44,32,114,50,44,32,37,100] [(i:Int)]]) (show k+1≤n from hlt)
  rw[Yr]at hmono
  simp only[List.length_append]at hmono
  have ha2:a13++rep (k+1) (fun i=>[sayS [108,100,32,114,50,44,32,114,55,44,32,37,100] [(i:Int)],sayS [115,116,32,114,48,44,32,114,50,44,32,37,100] [(i:Int)]])=(a13++rep k (fun i=>[sayS [108,100,32,114,50,44,32,114,55,44,32,37,100] [(i:Int)],sayS [115,116,32,114,48,44,32,114,50,44,32,37,100] [(i:Int)]]))++putS [sayS [108,100,32,114,50,44,32,114,55,44,32,37,100] [(k:Int)],sayS [115,116,32,114,48,44,32,114,50,44,32,37,100] [(k:Int)]]:=by rw[Yr,List.append_assoc]
  have hac:(a13++rep k (fun i=>[sayS [108,100,32,114,50,44,32,114,55,44,32,37,100] [(i:Int)],sayS [115,116,32,114,48,44,32,114,50,44,32,37,100] [(i:Int)]])).length=a13.length+(rep k (fun i=>[sayS [108,100,32,114,50,44,32,114,55,44,32,37,100] [(i:Int)],sayS [115,116,32,114,48,44,32,114,50,44,32,37,100] [(i:Int)]])).length:=by simp
  have hw:IntKind.i64.wrap ((k:Int)+1)=((k+1:Nat):Int):=Zx (by omega)
  have hw2:IntKind.i64.wrap ((k:Int)+1+1)=((k+1:Nat):Int)+1:=by have:=Zx (k:=k+1) (by omega);simpa using this
  have hlt2:((k:Nat):Int)<(n:Int):=by omega
  generalize hacc:a13++rep k (fun i=>[sayS [108,100,32,114,50,44,32,114,55,44,32,37,100] [(i:Int)],sayS [115,116,32,114,48,44,32,114,50,44,32,37,100] [(i:Int)]])=a at*
  generalize rep k (fun i=>[sayS [108,100,32,114,50,44,32,114,55,44,32,37,100] [(i:Int)],sayS [115,116,32,114,48,44,32,114,50,44,32,37,100] [(i:Int)]])=pre at*
  have hS0:=Ym hM hH [108,100,32,114,50,44,32,114,55,44,32,37,100] [(k:Int)] (by simp;omega) (by simp) (by simp)
  have hS1:=Ym hM hH [115,116,32,114,48,44,32,114,50,44,32,37,100] [(k:Int)] (by simp;omega) (by simp) (by simp)
  generalize sayS [108,100,32,114,50,44,32,114,55,44,32,37,100] [(k:Int)]=z0 at*
  generalize sayS [115,116,32,114,48,44,32,114,50,44,32,37,100] [(k:Int)]=z1 at*
  have hP:=Zr (n:Int) a [z0,z1] (by omega) (by simp)
  repeat'(first|(first|refine Stp.h ?_|(refine Za.gcp hglob hS0 ?_ ?_;focus simp[Zb];done)|(refine Za.gcp hglob hS1 ?_ ?_;focus simp[Zb];done)|(refine Za.gc hP ?_ ?_;focus simp[Zb];done))<;>try simp only[Zd,simprocAttr,↓reduceIte,reduceCtorEq,implies_true,hlt2,hw,hw2,hm16,hm2,hm1,hp1,Bool.not_true,Bool.not_false,Int.ofNat_lt]|(with_reducible first|assumption|refine And.intro ?_ ?_)|(intro h;first|omega|exact tg h ‹_›|exact tg ‹_› h|skip))
  all_goals first|omega|(simp only[List.length_append,List.length_cons,List.length_nil];omega)|skip
  exact⟨⟨k+1,hlt⟩,(Ent.mk1 (fun n=>if n=1 then 5 else n) (by simp[Zy,ha2,hw,hw2])),by simp only;omega⟩
 have hk2:n=k:=by omega
 subst hk2
 have hnl:¬(((n:Nat):Int))<(n:Int):=by omega
 clear hlt hk
 generalize (rep (n) fun i=>[sayS [108,100,32,114,50,44,32,114,55,44,32,37,100] [(i:Int)],sayS [115,116,32,114,48,44,32,114,50,44,32,37,100] [(i:Int)]])=p13 at*
 have hP14:=Oc hM hH n ((n:Int)) (by omega) (a13++p13) (by first|omega|(simp only[List.length_append];omega))
 generalize hgp14:(Qr ((n:Int)))=p14 at*
 have hj:(a13++p13)++p14=acc++((((((((((((((p0++p1)++p2)++p3)++p4)++p5)++p6)++p7)++p8)++p9)++p10)++p11)++p12)++p13)++p14):=by simp only[←hA13,←hA3,←hA1,List.append_assoc,List.append_nil,List.nil_append]
 rw[hj]at hP14
 repeat'(first|(first|refine Stp.h ?_|(refine Za.gcp hglob hP14 ?_ ?_;focus simp[Zb];done))<;>try simp only[Zd,simprocAttr,↓reduceIte,reduceCtorEq,implies_true,hnl,hm16,hm2,hm1,hp1,Bool.not_true,Bool.not_false,Int.ofNat_lt]|(with_reducible first|assumption|refine And.intro ?_ ?_)|(intro h;first|omega|exact tg h ‹_›|exact tg ‹_› h|skip))
 all_goals first|omega|(simp only[List.length_append,List.length_cons,List.length_nil];omega)|skip
def Rk(n:Nat):List UInt8:=((((((((((((((((putS [sayS [108,100,32,114,53,44,32,114,48,44,32,37,100] [(n:Int)-1]])++(putS [sayS [108,100,32,114,50,44,32,114,49,44,32,37,100] [(n:Int)-1],[120,111,114,32,114,53,44,32,114,50]]))++(putS [[112,117,115,104,32,114,53]]))++(Ul n 1))++(putS [[109,111,118,32,114,49,44,32,114,55]]))++(Y8 1 ((n:Int)-1) [46,111,118,101,114]))++(Vj n 1))++(putS [[46,111,118,101,114,58]]))++(Y8 0 ((n:Int)-1) [46,98,111,116,104]))++(Vj n 0))++(putS [[46,98,111,116,104,58]]))++(putS [sayS [99,97,108,108,32,117,100,105,118,37,100] [(n:Int)]]))++(Y8 7 ((n:Int)) [46,100,111,110,101]))++(Vj n 0))++(putS [[46,100,111,110,101,58]]))++(Qr ((n:Int)+1)))
set_option maxHeartbeats 16000000 in
set_option maxRecDepth 100000 in
theorem A1{G:Nat}{H:Nat→Option Obj}(hM:Yo G H)(hH:Z5 G H)(n:Nat)(hn:1≤n∧n≤100)(acc:List UInt8)(hb:acc.length+(Rk n).length≤100000):
 GCp G H Tryz.prog 93 ([.a (.loc 0 0)]++[.a (.bool false)]) [(0,.cells 131 [.loc 0 0,.ref 1,.int .i64 (n:Int)]),(1,.row 5 (.int .u8) (bytesI (acc)))] 2 [0] (.tup []) [(0,.cells 131 [.loc 0 0,.ref 2,.int .i64 (n:Int)]),(2,.row 5 (.int .u8) (bytesI (acc++Rk n)))] 3:=by
 unfold Rk at*
 simp only[List.length_append]at hb
 have hm16:IntKind.i64.wrap (16*(n:Int))=16*(n:Int):=Zm (by omega) (by omega)
 have hm2:IntKind.i64.wrap (2*(n:Int))=2*(n:Int):=Zm (by omega) (by omega)
 have hm1:IntKind.i64.wrap ((n:Int)-1)=(n:Int)-1:=Zm (by omega) (by omega)
 have hp1:IntKind.i64.wrap ((n:Int)+1)=(n:Int)+1:=Zm (by omega) (by omega)
 have hSz0_0:=Ym hM hH [108,100,32,114,53,44,32,114,48,44,32,37,100] [(n:Int)-1] (by simp;omega) (by simp) (by simp)
 generalize sayS [108,100,32,114,53,44,32,114,48,44,32,37,100] [(n:Int)-1]=z0_0 at*
 have hP0:=Zr (n:Int) (acc) [z0_0] (by omega) (by simp)
 generalize putS [z0_0]=p0 at*
 have hSz1_1:=Ym hM hH [108,100,32,114,50,44,32,114,49,44,32,37,100] [(n:Int)-1] (by simp;omega) (by simp) (by simp)
 generalize sayS [108,100,32,114,50,44,32,114,49,44,32,37,100] [(n:Int)-1]=z1_1 at*
 have hP1:=Zr (n:Int) ((acc)++p0) [z1_1,[120,111,114,32,114,53,44,32,114,50]] (by simp only[List.length_append];omega) (by simp)
 generalize putS [z1_1,[120,111,114,32,114,53,44,32,114,50]]=p1 at*
 have hP2:=Zr (n:Int) (((acc)++p0)++p1) [[112,117,115,104,32,114,53]] (by simp only[List.length_append];omega) (by simp)
 generalize putS [[112,117,115,104,32,114,53]]=p2 at*
 have hP3:=Pg hM hH n (by omega) 1 (by omega) ((((acc)++p0)++p1)++p2) (by first|omega|(simp only[List.length_append];omega))
 generalize hgp3:(Ul n 1)=p3 at*
 have hP4:=Zr (n:Int) (((((acc)++p0)++p1)++p2)++p3) [[109,111,118,32,114,49,44,32,114,55]] (by simp only[List.length_append];omega) (by simp)
 generalize putS [[109,111,118,32,114,49,44,32,114,55]]=p4 at*
 have hP5:=Vk hM hH n 1 ((n:Int)-1) [46,111,118,101,114] (by omega) (by omega) (by simp) ((((((acc)++p0)++p1)++p2)++p3)++p4) (by first|omega|(simp only[List.length_append];omega))
 generalize hgp5:(Y8 1 ((n:Int)-1) [46,111,118,101,114])=p5 at*
 have hP6:=Ta hM hH n (by omega) 1 (by omega) (((((((acc)++p0)++p1)++p2)++p3)++p4)++p5) (by first|omega|(simp only[List.length_append];omega))
 generalize hgp6:(Vj n 1)=p6 at*
 have hP7:=Zr (n:Int) ((((((((acc)++p0)++p1)++p2)++p3)++p4)++p5)++p6) [[46,111,118,101,114,58]] (by simp only[List.length_append];omega) (by simp)
 generalize putS [[46,111,118,101,114,58]]=p7 at*
 have hP8:=Vk hM hH n 0 ((n:Int)-1) [46,98,111,116,104] (by omega) (by omega) (by simp) (((((((((acc)++p0)++p1)++p2)++p3)++p4)++p5)++p6)++p7) (by first|omega|(simp only[List.length_append];omega))
 generalize hgp8:(Y8 0 ((n:Int)-1) [46,98,111,116,104])=p8 at*
 have hP9:=Ta hM hH n (by omega) 0 (by omega) ((((((((((acc)++p0)++p1)++p2)++p3)++p4)++p5)++p6)++p7)++p8) (by first|omega|(simp only[List.length_append];omega))
 generalize hgp9:(Vj n 0)=p9 at*
 have hP10:=Zr (n:Int) (((((((((((acc)++p0)++p1)++p2)++p3)++p4)++p5)++p6)++p7)++p8)++p9) [[46,98,111,116,104,58]] (by simp only[List.length_append];omega) (by simp)
 generalize putS [[46,98,111,116,104,58]]=p10 at*
 have hSz11_2:=Ym hM hH [99,97,108,108,32,117,100,105,118,37,100] [(n:Int)] (by simp;omega) (by simp) (by simp)
 generalize sayS [99,97,108,108,32,117,100,105,118,37,100] [(n:Int)]=z11_2 at*
 have hP11:=Zr (n:Int) ((((((((((((acc)++p0)++p1)++p2)++p3)++p4)++p5)++p6)++p7)++p8)++p9)++p10) [z11_2] (by simp only[List.length_append];omega) (by simp)
 generalize putS [z11_2]=p11 at*
 have hP12:=Vk hM hH n 7 ((n:Int)) [46,100,111,110,101] (by omega) (by omega) (by simp) (((((((((((((acc)++p0)++p1)++p2)++p3)++p4)++p5)++p6)++p7)++p8)++p9)++p10)++p11) (by first|omega|(simp only[List.length_append];omega))
 generalize hgp12:(Y8 7 ((n:Int)) [46,100,111,110,101])=p12 at*
 have hP13:=Ta hM hH n (by omega) 0 (by omega) ((((((((((((((acc)++p0)++p1)++p2)++p3)++p4)++p5)++p6)++p7)++p8)++p9)++p10)++p11)++p12) (by rw[hgp9];simp only[List.length_append];omega)
 rw[hgp9]at hP13
 have hP14:=Zr (n:Int) (((((((((((((((acc)++p0)++p1)++p2)++p3)++p4)++p5)++p6)++p7)++p8)++p9)++p10)++p11)++p12)++p9) [[46,100,111,110,101,58]] (by simp only[List.length_append];omega) (by simp)
 generalize putS [[46,100,111,110,101,58]]=p14 at*
 have hP15:=Oc hM hH n ((n:Int)+1) (by omega) ((((((((((((((((acc)++p0)++p1)++p2)++p3)++p4)++p5)++p6)++p7)++p8)++p9)++p10)++p11)++p12)++p9)++p14) (by first|omega|(simp only[List.length_append];omega))
 generalize hgp15:(Qr ((n:Int)+1))=p15 at*
 refine Vw.fn.gcp (by simp) (by simp[Zu,Zw,Zv,Zj,Ze,Vc.S1.okN,At.okN,SV.okN,Res.okN,Res.outOk,Zo,Res.own,Value.oneCell']) fun w X fr hglob=> ?_
 have hj:((((((((((((((((acc)++p0)++p1)++p2)++p3)++p4)++p5)++p6)++p7)++p8)++p9)++p10)++p11)++p12)++p9)++p14)++p15=acc++(((((((((((((((p0++p1)++p2)++p3)++p4)++p5)++p6)++p7)++p8)++p9)++p10)++p11)++p12)++p9)++p14)++p15):=by simp only[List.append_assoc]
 rw[hj]at hP15
 repeat'(first|(first|refine Stp.h ?_|(refine Za.gcp hglob hSz0_0 ?_ ?_;focus simp[Zb];done)|(refine Za.gc hP0 ?_ ?_;focus simp[Zb];done)|(refine Za.gcp hglob hSz1_1 ?_ ?_;focus simp[Zb];done)|(refine Za.gc hP1 ?_ ?_;focus simp[Zb];done)|(refine Za.gc hP2 ?_ ?_;focus simp[Zb];done)|(refine Za.gcp hglob hP3 ?_ ?_;focus simp[Zb];done)|(refine Za.gc hP4 ?_ ?_;focus simp[Zb];done)|(refine Za.gcp hglob hP5 ?_ ?_;focus simp[Zb];done)|(refine Za.gcp hglob hP6 ?_ ?_;focus simp[Zb];done)|(refine Za.gc hP7 ?_ ?_;focus simp[Zb];done)|(refine Za.gcp hglob hP8 ?_ ?_;focus simp[Zb];done)|(refine Za.gcp hglob hP9 ?_ ?_;focus simp[Zb];done)|(refine Za.gc hP10 ?_ ?_;focus simp[Zb];done)|(refine Za.gcp hglob hSz11_2 ?_ ?_;focus simp[Zb];done)|(refine Za.gc hP11 ?_ ?_;focus simp[Zb];done)|(refine Za.gcp hglob hP12 ?_ ?_;focus simp[Zb];done)|(refine Za.gcp hglob hP13 ?_ ?_;focus simp[Zb];done)|(refine Za.gc hP14 ?_ ?_;focus simp[Zb];done)|(refine Za.gcp hglob hP15 ?_ ?_;focus simp[Zb];done))<;>try simp only[Zd,simprocAttr,↓reduceIte,reduceCtorEq,implies_true,hm16,hm2,hm1,hp1,Bool.not_true,Bool.not_false,Int.ofNat_lt]|(with_reducible first|assumption|refine And.intro ?_ ?_)|(intro h;first|omega|exact tg h ‹_›|exact tg ‹_› h|skip))
 all_goals first|omega|(simp only[List.length_append,List.length_cons,List.length_nil];omega)|skip
def Rl(n:Nat):List UInt8:=(((((((((((((((putS [sayS [108,100,32,114,53,44,32,114,48,44,32,37,100] [(n:Int)-1]])++(putS [[112,117,115,104,32,114,53]]))++(Ul n 1))++(putS [[109,111,118,32,114,49,44,32,114,55]]))++(Y8 1 ((n:Int)-1) [46,111,118,101,114]))++(Vj n 1))++(putS [[46,111,118,101,114,58]]))++(Y8 0 ((n:Int)-1) [46,98,111,116,104]))++(Vj n 0))++(putS [[46,98,111,116,104,58]]))++(putS [sayS [99,97,108,108,32,117,114,101,109,37,100] [(n:Int)]]))++(Y8 7 ((n:Int)) [46,100,111,110,101]))++(Vj n 0))++(putS [[46,100,111,110,101,58]]))++(Qr ((n:Int)+1)))
set_option maxHeartbeats 16000000 in
set_option maxRecDepth 100000 in
theorem A2{G:Nat}{H:Nat→Option Obj}(hM:Yo G H)(hH:Z5 G H)(n:Nat)(hn:1≤n∧n≤100)(acc:List UInt8)(hb:acc.length+(Rl n).length≤100000):
 GCp G H Tryz.prog 93 ([.a (.loc 0 0)]++[.a (.bool true)]) [(0,.cells 131 [.loc 0 0,.ref 1,.int .i64 (n:Int)]),(1,.row 5 (.int .u8) (bytesI (acc)))] 2 [0] (.tup []) [(0,.cells 131 [.loc 0 0,.ref 2,.int .i64 (n:Int)]),(2,.row 5 (.int .u8) (bytesI (acc++Rl n)))] 3:=by
 unfold Rl at*
 simp only[List.length_append]at hb
 have hm16:IntKind.i64.wrap (16*(n:Int))=16*(n:Int):=Zm (by omega) (by omega)
 have hm2:IntKind.i64.wrap (2*(n:Int))=2*(n:Int):=Zm (by omega) (by omega)
 have hm1:IntKind.i64.wrap ((n:Int)-1)=(n:Int)-1:=Zm (by omega) (by omega)
 have hp1:IntKind.i64.wrap ((n:Int)+1)=(n:Int)+1:=Zm (by omega) (by omega)
 have hSz0_0:=Ym hM hH [108,100,32,114,53,44,32,114,48,44,32,37,100] [(n:Int)-1] (by simp;omega) (by simp) (by simp)
 generalize sayS [108,100,32,114,53,44,32,114,48,44,32,37,100] [(n:Int)-1]=z0_0 at*
 have hP0:=Zr (n:Int) (acc) [z0_0] (by omega) (by simp)
 generalize putS [z0_0]=p0 at*
 have hP1:=Zr (n:Int) ((acc)++p0) [[112,117,115,104,32,114,53]] (by simp only[List.length_append];omega) (by simp)
 generalize putS [[112,117,115,104,32,114,53]]=p1 at*
 have hP2:=Pg hM hH n (by omega) 1 (by omega) (((acc)++p0)++p1) (by first|omega|(simp only[List.length_append];omega))
 generalize hgp2:(Ul n 1)=p2 at*
 have hP3:=Zr (n:Int) ((((acc)++p0)++p1)++p2) [[109,111,118,32,114,49,44,32,114,55]] (by simp only[List.length_append];omega) (by simp)
 generalize putS [[109,111,118,32,114,49,44,32,114,55]]=p3 at*
 have hP4:=Vk hM hH n 1 ((n:Int)-1) [46,111,118,101,114] (by omega) (by omega) (by simp) (((((acc)++p0)++p1)++p2)++p3) (by first|omega|(simp only[List.length_append];omega))
 generalize hgp4:(Y8 1 ((n:Int)-1) [46,111,118,101,114])=p4 at*
 have hP5:=Ta hM hH n (by omega) 1 (by omega) ((((((acc)++p0)++p1)++p2)++p3)++p4) (by first|omega|(simp only[List.length_append];omega))
 generalize hgp5:(Vj n 1)=p5 at*
 have hP6:=Zr (n:Int) (((((((acc)++p0)++p1)++p2)++p3)++p4)++p5) [[46,111,118,101,114,58]] (by simp only[List.length_append];omega) (by simp)
 generalize putS [[46,111,118,101,114,58]]=p6 at*
 have hP7:=Vk hM hH n 0 ((n:Int)-1) [46,98,111,116,104] (by omega) (by omega) (by simp) ((((((((acc)++p0)++p1)++p2)++p3)++p4)++p5)++p6) (by first|omega|(simp only[List.length_append];omega))
 generalize hgp7:(Y8 0 ((n:Int)-1) [46,98,111,116,104])=p7 at*
 have hP8:=Ta hM hH n (by omega) 0 (by omega) (((((((((acc)++p0)++p1)++p2)++p3)++p4)++p5)++p6)++p7) (by first|omega|(simp only[List.length_append];omega))
 generalize hgp8:(Vj n 0)=p8 at*
 have hP9:=Zr (n:Int) ((((((((((acc)++p0)++p1)++p2)++p3)++p4)++p5)++p6)++p7)++p8) [[46,98,111,116,104,58]] (by simp only[List.length_append];omega) (by simp)
 generalize putS [[46,98,111,116,104,58]]=p9 at*
 have hSz10_1:=Ym hM hH [99,97,108,108,32,117,114,101,109,37,100] [(n:Int)] (by simp;omega) (by simp) (by simp)
 generalize sayS [99,97,108,108,32,117,114,101,109,37,100] [(n:Int)]=z10_1 at*
 have hP10:=Zr (n:Int) (((((((((((acc)++p0)++p1)++p2)++p3)++p4)++p5)++p6)++p7)++p8)++p9) [z10_1] (by simp only[List.length_append];omega) (by simp)
 generalize putS [z10_1]=p10 at*
 have hP11:=Vk hM hH n 7 ((n:Int)) [46,100,111,110,101] (by omega) (by omega) (by simp) ((((((((((((acc)++p0)++p1)++p2)++p3)++p4)++p5)++p6)++p7)++p8)++p9)++p10) (by first|omega|(simp only[List.length_append];omega))
 generalize hgp11:(Y8 7 ((n:Int)) [46,100,111,110,101])=p11 at*
 have hP12:=Ta hM hH n (by omega) 0 (by omega) (((((((((((((acc)++p0)++p1)++p2)++p3)++p4)++p5)++p6)++p7)++p8)++p9)++p10)++p11) (by rw[hgp8];simp only[List.length_append];omega)
 rw[hgp8]at hP12
 have hP13:=Zr (n:Int) ((((((((((((((acc)++p0)++p1)++p2)++p3)++p4)++p5)++p6)++p7)++p8)++p9)++p10)++p11)++p8) [[46,100,111,110,101,58]] (by simp only[List.length_append];omega) (by simp)
 generalize putS [[46,100,111,110,101,58]]=p13 at*
 have hP14:=Oc hM hH n ((n:Int)+1) (by omega) (((((((((((((((acc)++p0)++p1)++p2)++p3)++p4)++p5)++p6)++p7)++p8)++p9)++p10)++p11)++p8)++p13) (by first|omega|(simp only[List.length_append];omega))
 generalize hgp14:(Qr ((n:Int)+1))=p14 at*
 refine Vw.fn.gcp (by simp) (by simp[Zu,Zw,Zv,Zj,Ze,Vc.S1.okN,At.okN,SV.okN,Res.okN,Res.outOk,Zo,Res.own,Value.oneCell']) fun w X fr hglob=> ?_
 have hj:(((((((((((((((acc)++p0)++p1)++p2)++p3)++p4)++p5)++p6)++p7)++p8)++p9)++p10)++p11)++p8)++p13)++p14=acc++((((((((((((((p0++p1)++p2)++p3)++p4)++p5)++p6)++p7)++p8)++p9)++p10)++p11)++p8)++p13)++p14):=by simp only[List.append_assoc]
 rw[hj]at hP14
 repeat'(first|(first|refine Stp.h ?_|(refine Za.gcp hglob hSz0_0 ?_ ?_;focus simp[Zb];done)|(refine Za.gc hP0 ?_ ?_;focus simp[Zb];done)|(refine Za.gc hP1 ?_ ?_;focus simp[Zb];done)|(refine Za.gcp hglob hP2 ?_ ?_;focus simp[Zb];done)|(refine Za.gc hP3 ?_ ?_;focus simp[Zb];done)|(refine Za.gcp hglob hP4 ?_ ?_;focus simp[Zb];done)|(refine Za.gcp hglob hP5 ?_ ?_;focus simp[Zb];done)|(refine Za.gc hP6 ?_ ?_;focus simp[Zb];done)|(refine Za.gcp hglob hP7 ?_ ?_;focus simp[Zb];done)|(refine Za.gcp hglob hP8 ?_ ?_;focus simp[Zb];done)|(refine Za.gc hP9 ?_ ?_;focus simp[Zb];done)|(refine Za.gcp hglob hSz10_1 ?_ ?_;focus simp[Zb];done)|(refine Za.gc hP10 ?_ ?_;focus simp[Zb];done)|(refine Za.gcp hglob hP11 ?_ ?_;focus simp[Zb];done)|(refine Za.gcp hglob hP12 ?_ ?_;focus simp[Zb];done)|(refine Za.gc hP13 ?_ ?_;focus simp[Zb];done)|(refine Za.gcp hglob hP14 ?_ ?_;focus simp[Zb];done))<;>try simp only[Zd,simprocAttr,↓reduceIte,reduceCtorEq,implies_true,hm16,hm2,hm1,hp1,Bool.not_true,Bool.not_false,Int.ofNat_lt]|(with_reducible first|assumption|refine And.intro ?_ ?_)|(intro h;first|omega|exact tg h ‹_›|exact tg ‹_› h|skip))
 all_goals first|omega|(simp only[List.length_append,List.length_cons,List.length_nil];omega)|skip
def Zcf(n:Nat):List UInt8:=(((putS [[108,100,32,114,51,44,32,114,49,44,32,48],sayS [108,100,105,32,114,52,44,32,37,100] [16*(n:Int)],[99,109,112,32,114,51,44,32,114,52],[106,99,32,46,108,111,111,112],[109,111,118,32,114,51,44,32,114,52],[46,108,111,111,112,58],[108,100,105,32,114,52,44,32,48],[99,109,112,32,114,51,44,32,114,52],[106,122,32,46,100,111,110,101]])++(Wi n 0 0 [115,104,108] [114,111,108] []))++(putS [[108,100,105,32,114,52,44,32,49],[115,117,98,32,114,51,44,32,114,52],[106,109,112,32,46,108,111,111,112],[46,100,111,110,101,58],[114,101,116]]))
set_option maxHeartbeats 16000000 in
set_option maxRecDepth 100000 in
theorem shl_gcp{G:Nat}{H:Nat→Option Obj}(hM:Yo G H)(hH:Z5 G H)(n:Nat)(hn:1≤n∧n≤100)(acc:List UInt8)(hb:acc.length+(Zcf n).length≤100000):
 GCp G H Tryz.prog 96 ([.a (.loc 0 0)]++[.a (.str [115,104,108])]) [(0,.cells 131 [.loc 0 0,.ref 1,.int .i64 (n:Int)]),(1,.row 5 (.int .u8) (bytesI (acc)))] 2 [0] (.tup []) [(0,.cells 131 [.loc 0 0,.ref 2,.int .i64 (n:Int)]),(2,.row 5 (.int .u8) (bytesI (acc++Zcf n)))] 3:=by
 unfold Zcf at*
 simp only[List.length_append]at hb
 have hne:(([115,104,108]:List UInt8)=[115,104,108])=True:=by simp
 have hm16:IntKind.i64.wrap (16*(n:Int))=16*(n:Int):=Zm (by omega) (by omega)
 have hm2:IntKind.i64.wrap (2*(n:Int))=2*(n:Int):=Zm (by omega) (by omega)
 have hm1:IntKind.i64.wrap ((n:Int)-1)=(n:Int)-1:=Zm (by omega) (by omega)
 have hp1:IntKind.i64.wrap ((n:Int)+1)=(n:Int)+1:=Zm (by omega) (by omega)
 have hSz0_0:=Ym hM hH [108,100,105,32,114,52,44,32,37,100] [16*(n:Int)] (by simp;omega) (by simp) (by simp)
 generalize sayS [108,100,105,32,114,52,44,32,37,100] [16*(n:Int)]=z0_0 at*
 have hP0:=Zr (n:Int) (acc) [[108,100,32,114,51,44,32,114,49,44,32,48],z0_0,[99,109,112,32,114,51,44,32,114,52],[106,99,32,46,108,111,111,112],[109,111,118,32,114,51,44,32,114,52],[46,108,111,111,112,58],[108,100,105,32,114,52,44,32,48],[99,109,112,32,114,51,44,32,114,52],[106,122,32,46,100,111,110,101]] (by omega) (by simp)
 generalize putS [[108,100,32,114,51,44,32,114,49,44,32,48],z0_0,[99,109,112,32,114,51,44,32,114,52],[106,99,32,46,108,111,111,112],[109,111,118,32,114,51,44,32,114,52],[46,108,111,111,112,58],[108,100,105,32,114,52,44,32,48],[99,109,112,32,114,51,44,32,114,52],[106,122,32,46,100,111,110,101]]=p0 at*
 have hP1:=U7 hM hH n (by omega) 0 0 [115,104,108] [114,111,108] [] (by omega) (by omega) (by simp) (by simp) (by simp) ((acc)++p0) (by first|omega|(simp only[List.length_append];omega))
 generalize hgp1:(Wi n 0 0 [115,104,108] [114,111,108] [])=p1 at*
 have hP2:=Zr (n:Int) (((acc)++p0)++p1) [[108,100,105,32,114,52,44,32,49],[115,117,98,32,114,51,44,32,114,52],[106,109,112,32,46,108,111,111,112],[46,100,111,110,101,58],[114,101,116]] (by simp only[List.length_append];omega) (by simp)
 generalize putS [[108,100,105,32,114,52,44,32,49],[115,117,98,32,114,51,44,32,114,52],[106,109,112,32,46,108,111,111,112],[46,100,111,110,101,58],[114,101,116]]=p2 at*
 refine Wx.fn.gcp (by simp) (by simp[Zu,Zw,Zv,Zj,Ze,Vc.S1.okN,At.okN,SV.okN,Res.okN,Res.outOk,Zo,Res.own,Value.oneCell']) fun w X fr hglob=> ?_
 have hj:(((acc)++p0)++p1)++p2=acc++((p0++p1)++p2):=by simp only[List.append_assoc]
 rw[hj]at hP2
 repeat'(first|(first|refine Stp.h ?_|(refine Za.gcp hglob hSz0_0 ?_ ?_;focus simp[Zb];done)|(refine Za.gc hP0 ?_ ?_;focus simp[Zb];done)|(refine Za.gcp hglob hP1 ?_ ?_;focus simp[Zb];done)|(refine Za.gc hP2 ?_ ?_;focus simp[Zb];done))<;>try simp only[Zd,simprocAttr,↓reduceIte,reduceCtorEq,implies_true,hm16,hm2,hm1,hp1,Bool.not_true,Bool.not_false,Int.ofNat_lt,hne,decide_true]|(with_reducible first|assumption|refine And.intro ?_ ?_)|(intro h;first|omega|exact tg h ‹_›|exact tg ‹_› h|skip))
 all_goals first|omega|(simp only[List.length_append,List.length_cons,List.length_nil];omega)|skip
def Zcg(n:Nat):List UInt8:=(((putS [[108,100,32,114,51,44,32,114,49,44,32,48],sayS [108,100,105,32,114,52,44,32,37,100] [16*(n:Int)],[99,109,112,32,114,51,44,32,114,52],[106,99,32,46,108,111,111,112],[109,111,118,32,114,51,44,32,114,52],[46,108,111,111,112,58],[108,100,105,32,114,52,44,32,48],[99,109,112,32,114,51,44,32,114,52],[106,122,32,46,100,111,110,101]])++(Mv n 0 [115,104,114]))++(putS [[108,100,105,32,114,52,44,32,49],[115,117,98,32,114,51,44,32,114,52],[106,109,112,32,46,108,111,111,112],[46,100,111,110,101,58],[114,101,116]]))
set_option maxHeartbeats 16000000 in
set_option maxRecDepth 100000 in
theorem shr_gcp{G:Nat}{H:Nat→Option Obj}(hM:Yo G H)(hH:Z5 G H)(n:Nat)(hn:1≤n∧n≤100)(acc:List UInt8)(hb:acc.length+(Zcg n).length≤100000):
 GCp G H Tryz.prog 96 ([.a (.loc 0 0)]++[.a (.str [115,104,114])]) [(0,.cells 131 [.loc 0 0,.ref 1,.int .i64 (n:Int)]),(1,.row 5 (.int .u8) (bytesI (acc)))] 2 [0] (.tup []) [(0,.cells 131 [.loc 0 0,.ref 2,.int .i64 (n:Int)]),(2,.row 5 (.int .u8) (bytesI (acc++Zcg n)))] 3:=by
 unfold Zcg at*
 simp only[List.length_append]at hb
 have hne:(([115,104,114]:List UInt8)=[115,104,108])=False:=by simp
 have hm16:IntKind.i64.wrap (16*(n:Int))=16*(n:Int):=Zm (by omega) (by omega)
 have hm2:IntKind.i64.wrap (2*(n:Int))=2*(n:Int):=Zm (by omega) (by omega)
 have hm1:IntKind.i64.wrap ((n:Int)-1)=(n:Int)-1:=Zm (by omega) (by omega)
 have hp1:IntKind.i64.wrap ((n:Int)+1)=(n:Int)+1:=Zm (by omega) (by omega)
 have hSz0_0:=Ym hM hH [108,100,105,32,114,52,44,32,37,100] [16*(n:Int)] (by simp;omega) (by simp) (by simp)
 generalize sayS [108,100,105,32,114,52,44,32,37,100] [16*(n:Int)]=z0_0 at*
 have hP0:=Zr (n:Int) (acc) [[108,100,32,114,51,44,32,114,49,44,32,48],z0_0,[99,109,112,32,114,51,44,32,114,52],[106,99,32,46,108,111,111,112],[109,111,118,32,114,51,44,32,114,52],[46,108,111,111,112,58],[108,100,105,32,114,52,44,32,48],[99,109,112,32,114,51,44,32,114,52],[106,122,32,46,100,111,110,101]] (by omega) (by simp)
 generalize putS [[108,100,32,114,51,44,32,114,49,44,32,48],z0_0,[99,109,112,32,114,51,44,32,114,52],[106,99,32,46,108,111,111,112],[109,111,118,32,114,51,44,32,114,52],[46,108,111,111,112,58],[108,100,105,32,114,52,44,32,48],[99,109,112,32,114,51,44,32,114,52],[106,122,32,46,100,111,110,101]]=p0 at*
 have hP1:=Ii hM hH n (by omega) 0 [115,104,114] (by omega) (by simp) ((acc)++p0) (by first|omega|(simp only[List.length_append];omega))
 generalize hgp1:(Mv n 0 [115,104,114])=p1 at*
 have hP2:=Zr (n:Int) (((acc)++p0)++p1) [[108,100,105,32,114,52,44,32,49],[115,117,98,32,114,51,44,32,114,52],[106,109,112,32,46,108,111,111,112],[46,100,111,110,101,58],[114,101,116]] (by simp only[List.length_append];omega) (by simp)
 generalize putS [[108,100,105,32,114,52,44,32,49],[115,117,98,32,114,51,44,32,114,52],[106,109,112,32,46,108,111,111,112],[46,100,111,110,101,58],[114,101,116]]=p2 at*
 refine Wx.fn.gcp (by simp) (by simp[Zu,Zw,Zv,Zj,Ze,Vc.S1.okN,At.okN,SV.okN,Res.okN,Res.outOk,Zo,Res.own,Value.oneCell']) fun w X fr hglob=> ?_
 have hj:(((acc)++p0)++p1)++p2=acc++((p0++p1)++p2):=by simp only[List.append_assoc]
 rw[hj]at hP2
 repeat'(first|(first|refine Stp.h ?_|(refine Za.gcp hglob hSz0_0 ?_ ?_;focus simp[Zb];done)|(refine Za.gc hP0 ?_ ?_;focus simp[Zb];done)|(refine Za.gcp hglob hP1 ?_ ?_;focus simp[Zb];done)|(refine Za.gc hP2 ?_ ?_;focus simp[Zb];done))<;>try simp only[Zd,simprocAttr,↓reduceIte,reduceCtorEq,implies_true,hm16,hm2,hm1,hp1,Bool.not_true,Bool.not_false,Int.ofNat_lt,hne,decide_false]|(with_reducible first|assumption|refine And.intro ?_ ?_)|(intro h;first|omega|exact tg h ‹_›|exact tg ‹_› h|skip))
 all_goals first|omega|(simp only[List.length_append,List.length_cons,List.length_nil];omega)|skip
def Zca(n:Nat):List UInt8:=(((putS [[108,100,32,114,51,44,32,114,49,44,32,48],sayS [108,100,105,32,114,52,44,32,37,100] [16*(n:Int)],[99,109,112,32,114,51,44,32,114,52],[106,99,32,46,108,111,111,112],[109,111,118,32,114,51,44,32,114,52],[46,108,111,111,112,58],[108,100,105,32,114,52,44,32,48],[99,109,112,32,114,51,44,32,114,52],[106,122,32,46,100,111,110,101]])++(Mv n 0 [115,97,114]))++(putS [[108,100,105,32,114,52,44,32,49],[115,117,98,32,114,51,44,32,114,52],[106,109,112,32,46,108,111,111,112],[46,100,111,110,101,58],[114,101,116]]))
set_option maxHeartbeats 16000000 in
set_option maxRecDepth 100000 in
theorem sar_gcp{G:Nat}{H:Nat→Option Obj}(hM:Yo G H)(hH:Z5 G H)(n:Nat)(hn:1≤n∧n≤100)(acc:List UInt8)(hb:acc.length+(Zca n).length≤100000):
 GCp G H Tryz.prog 96 ([.a (.loc 0 0)]++[.a (.str [115,97,114])]) [(0,.cells 131 [.loc 0 0,.ref 1,.int .i64 (n:Int)]),(1,.row 5 (.int .u8) (bytesI (acc)))] 2 [0] (.tup []) [(0,.cells 131 [.loc 0 0,.ref 2,.int .i64 (n:Int)]),(2,.row 5 (.int .u8) (bytesI (acc++Zca n)))] 3:=by
 unfold Zca at*
 simp only[List.length_append]at hb
 have hne:(([115,97,114]:List UInt8)=[115,104,108])=False:=by simp
 have hm16:IntKind.i64.wrap (16*(n:Int))=16*(n:Int):=Zm (by omega) (by omega)
 have hm2:IntKind.i64.wrap (2*(n:Int))=2*(n:Int):=Zm (by omega) (by omega)
 have hm1:IntKind.i64.wrap ((n:Int)-1)=(n:Int)-1:=Zm (by omega) (by omega)
 have hp1:IntKind.i64.wrap ((n:Int)+1)=(n:Int)+1:=Zm (by omega) (by omega)
 have hSz0_0:=Ym hM hH [108,100,105,32,114,52,44,32,37,100] [16*(n:Int)] (by simp;omega) (by simp) (by simp)
 generalize sayS [108,100,105,32,114,52,44,32,37,100] [16*(n:Int)]=z0_0 at*
 have hP0:=Zr (n:Int) (acc) [[108,100,32,114,51,44,32,114,49,44,32,48],z0_0,[99,109,112,32,114,51,44,32,114,52],[106,99,32,46,108,111,111,112],[109,111,118,32,114,51,44,32,114,52],[46,108,111,111,112,58],[108,100,105,32,114,52,44,32,48],[99,109,112,32,114,51,44,32,114,52],[106,122,32,46,100,111,110,101]] (by omega) (by simp)
 generalize putS [[108,100,32,114,51,44,32,114,49,44,32,48],z0_0,[99,109,112,32,114,51,44,32,114,52],[106,99,32,46,108,111,111,112],[109,111,118,32,114,51,44,32,114,52],[46,108,111,111,112,58],[108,100,105,32,114,52,44,32,48],[99,109,112,32,114,51,44,32,114,52],[106,122,32,46,100,111,110,101]]=p0 at*
 have hP1:=Ii hM hH n (by omega) 0 [115,97,114] (by omega) (by simp) ((acc)++p0) (by first|omega|(simp only[List.length_append];omega))
 generalize hgp1:(Mv n 0 [115,97,114])=p1 at*
 have hP2:=Zr (n:Int) (((acc)++p0)++p1) [[108,100,105,32,114,52,44,32,49],[115,117,98,32,114,51,44,32,114,52],[106,109,112,32,46,108,111,111,112],[46,100,111,110,101,58],[114,101,116]] (by simp only[List.length_append];omega) (by simp)
 generalize putS [[108,100,105,32,114,52,44,32,49],[115,117,98,32,114,51,44,32,114,52],[106,109,112,32,46,108,111,111,112],[46,100,111,110,101,58],[114,101,116]]=p2 at*
 refine Wx.fn.gcp (by simp) (by simp[Zu,Zw,Zv,Zj,Ze,Vc.S1.okN,At.okN,SV.okN,Res.okN,Res.outOk,Zo,Res.own,Value.oneCell']) fun w X fr hglob=> ?_
 have hj:(((acc)++p0)++p1)++p2=acc++((p0++p1)++p2):=by simp only[List.append_assoc]
 rw[hj]at hP2
 repeat'(first|(first|refine Stp.h ?_|(refine Za.gcp hglob hSz0_0 ?_ ?_;focus simp[Zb];done)|(refine Za.gc hP0 ?_ ?_;focus simp[Zb];done)|(refine Za.gcp hglob hP1 ?_ ?_;focus simp[Zb];done)|(refine Za.gc hP2 ?_ ?_;focus simp[Zb];done))<;>try simp only[Zd,simprocAttr,↓reduceIte,reduceCtorEq,implies_true,hm16,hm2,hm1,hp1,Bool.not_true,Bool.not_false,Int.ofNat_lt,hne,decide_false]|(with_reducible first|assumption|refine And.intro ?_ ?_)|(intro h;first|omega|exact tg h ‹_›|exact tg ‹_› h|skip))
 all_goals first|omega|(simp only[List.length_append,List.length_cons,List.length_nil];omega)|skip
def Oe:List (List UInt8×Nat):=[([109,117,108],88),([117,100,105,118],89),([117,114,101,109],91),([115,100,105,118],92),([115,114,101,109],94),([115,104,108],95),([115,104,114],97),([115,97,114],98)]
set_option maxHeartbeats 4000000 in
theorem Ct:GC Tryz.prog 73 [] [] 0 [] (.one (.a (.ref 0))) [(0,.fmap Oe)] 1:=by
 refine Jp.fn.gc (by simp) (by simp[Zu,Zw,Zv,Zj,Ze,Vc.S1.okN,At.okN,SV.okN,Res.okN,Res.outOk,Zo,Res.own,Value.oneCell']) fun w X fr=> ?_
 repeat'(first|(first|refine Stp.h ?_)<;>try simp only[Zd,simprocAttr,↓reduceIte,reduceCtorEq,implies_true,Oe]|(with_reducible first|assumption|refine And.intro ?_ ?_)|(intro h;first|omega|exact tg h ‹_›|exact tg ‹_› h|skip))
 all_goals first|omega|rfl|skip
end Go.Proofs.YtbmecnjmbhokgaaGreatDoor
namespace Go.Proofs
open Go.Shelf
def Tryz.lays190_ren:Go.Shelf.Ren:=⟨fun|190=>74|125=>100|258=>99|128=>145|129=>146|302=>136|303=>137|304=>138|305=>139|306=>140|307=>141|308=>142|309=>143|310=>144|333=>169|329=>170|330=>171|334=>172|335=>173|336=>174|344=>188|n=>n,fun|31=>95|9=>9|3=>3|46=>86|0=>0|51=>87|53=>22|4=>4|183=>194|182=>193|131=>105|5=>5|218=>216|222=>174|228=>229|229=>230|n=>n,fun|n=>n⟩
theorem Tryz.lays190:Go.Proofs.Lays.n190 Tryz.prog Tryz.lays190_ren:= {
 mixed:=by kernel_rfl
 f125:=Tryz.func100.trans (congrArg some (by kernel_rfl))
 f128:=Tryz.func145.trans (congrArg some (by kernel_rfl))
 f129:=Tryz.func146.trans (congrArg some (by kernel_rfl))
 f190:=Tryz.func74.trans (congrArg some (by kernel_rfl))
 f258:=Tryz.func99.trans (congrArg some (by kernel_rfl))
 f302:=Tryz.func136.trans (congrArg some (by kernel_rfl))
 f303:=Tryz.func137.trans (congrArg some (by kernel_rfl))
 f304:=Tryz.func138.trans (congrArg some (by kernel_rfl))
 f305:=Tryz.func139.trans (congrArg some (by kernel_rfl))
 f306:=Tryz.func140.trans (congrArg some (by kernel_rfl))
 f307:=Tryz.func141.trans (congrArg some (by kernel_rfl))
 f308:=Tryz.func142.trans (congrArg some (by kernel_rfl))
 f309:=Tryz.func143.trans (congrArg some (by kernel_rfl))
 f310:=Tryz.func144.trans (congrArg some (by kernel_rfl))
 f329:=Tryz.func170.trans (congrArg some (by kernel_rfl))
 f330:=Tryz.func171.trans (congrArg some (by kernel_rfl))
 f333:=Tryz.func169.trans (congrArg some (by kernel_rfl))
 f334:=Tryz.func172.trans (congrArg some (by kernel_rfl))
 f335:=Tryz.func173.trans (congrArg some (by kernel_rfl))
 f336:=Tryz.func174.trans (congrArg some (by kernel_rfl))
 f344:=Tryz.func188.trans (congrArg some (by kernel_rfl))
 t0:=Tryz.underlying0
 a0:=Tryz.isAgg0
 z0:=Tryz.sizeOf0
 v0:=Tryz.zeroValue0
 t3:=Tryz.underlying3
 a3:=Tryz.isAgg3
 z3:=Tryz.sizeOf3
 v3:=Tryz.zeroValue3
 t4:=Tryz.underlying4
 a4:=Tryz.isAgg4
 z4:=Tryz.sizeOf4
 v4:=Tryz.zeroValue4
 t5:=Tryz.underlying5
 a5:=Tryz.isAgg5
 z5:=Tryz.sizeOf5
 v5:=Tryz.zeroValue5
 t9:=Tryz.underlying9
 a9:=Tryz.isAgg9
 z9:=Tryz.sizeOf9
 v9:=Tryz.zeroValue9
 t31:=Tryz.underlying95
 a31:=Tryz.isAgg95
 z31:=Tryz.sizeOf95
 v31:=Tryz.zeroValue95
 t46:=Tryz.underlying86
 a46:=Tryz.isAgg86
 z46:=Tryz.sizeOf86
 v46:=Tryz.zeroValue86
 t51:=Tryz.underlying87
 a51:=Tryz.isAgg87
 z51:=Tryz.sizeOf87
 v51:=Tryz.zeroValue87
 t53:=Tryz.underlying22
 a53:=Tryz.isAgg22
 z53:=Tryz.sizeOf22
 v53:=Tryz.zeroValue22
 t131:=Tryz.underlying105
 a131:=Tryz.isAgg105
 z131:=Tryz.sizeOf105
 v131:=Tryz.zeroValue105
 t182:=Tryz.underlying193
 a182:=Tryz.isAgg193
 z182:=Tryz.sizeOf193
 v182:=Tryz.zeroValue193
 t183:=Tryz.underlying194
 a183:=Tryz.isAgg194
 z183:=Tryz.sizeOf194
 v183:=Tryz.zeroValue194
 t218:=Tryz.underlying216
 a218:=Tryz.isAgg216
 z218:=Tryz.sizeOf216
 v218:=Tryz.zeroValue216
 t222:=Tryz.underlying174
 a222:=Tryz.isAgg174
 z222:=Tryz.sizeOf174
 v222:=Tryz.zeroValue174
 t228:=Tryz.underlying229
 a228:=Tryz.isAgg229
 z228:=Tryz.sizeOf229
 v228:=Tryz.zeroValue229
 t229:=Tryz.underlying230
 a229:=Tryz.isAgg230
 z229:=Tryz.sizeOf230
 v229:=Tryz.zeroValue230}
open Go.Sort Go.RowKit in
theorem Tryz.slices_Sort_string(blk off cap:Nat)(ss:List (List UInt8))(w:World)(hH:Holds encStr w blk off ss.toArray)(hblk:blk<w.heap.size)(hsz:ss.length<4611686018427387904):
 Calls Tryz.prog 74 #[.slice (some ⟨blk,off,none⟩) ss.length cap] w fun e w'=>
  e= .returned (.tuple #[])∧∃n os,w'=grow (putRow encStr (Sort.ahead w n) blk off (ss.mergeSort fun x y=>decide (x≤y)).toArray) os:=Any.slices_Sort_string Tryz.lays190 blk off cap ss w hH hblk hsz
end Go.Proofs
namespace Go.Proofs.YtbmecnjmbhokgaaGreatDoor
open Go Go.RowKit Vc
set_option linter.unusedVariables false
set_option linter.unusedSimpArgs false
def M7(l:List (List UInt8)):List (List UInt8):=l.mergeSort fun x y=>decide (x≤y)
theorem Gz(ρ:Env)(l:List (List UInt8)):((l.flatMap (Kd.enc .str)).map (At.den ρ))=l.map encStr:=by
 induction l with
 |nil=>rfl
 |cons x l ih=>
  simp only[List.flatMap_cons,List.map_append,ih,List.map_cons]
  rfl
theorem Sort_gc(l:List (List UInt8))(h0:l≠[])(hl:l.length≤1000):
 GC Tryz.prog 74 [.a (.ref 0)] [(0,.row 9 .str l)] 1 [0] (.tup []) [(0,.row 9 .str (M7 l))] 1:=by
 refine⟨(by simp[Zu,Zw,Zv,Zj,Ze,Vc.S1.okN,At.okN,SV.okN,Res.okN,Res.outOk,Zo,Res.own,Value.oneCell']),fun ρ w hm=> ?_⟩
 have hr:=hm.res 0 _ (List.mem_cons_self ..)
 simp only[Res.holds]at hr
 rw[Gz]at hr
 have hlen:(M7 l).length=l.length:=by simp[M7]
 rcases hr.2 with⟨_,hz⟩|⟨g,cap,cur,hv,hbase,hb,h1,h2,h3,h4⟩
 ·exact absurd (List.length_eq_zero_iff.1 hz) h0
 have hsz:Kd.sz .str=1:=rfl
 have hH:=holds_of_block (ss:=l) hb (by simpa[hsz]using h4)
 have hg:=(Array.getElem?_eq_some_iff.1 hb).1
 have hc:=Tryz.slices_Sort_string g 0 cap l w hH hg (by omega)
 have e1:(At.den ρ (.ref 0))= .slice (some ⟨g,0,none⟩) l.length cap:=hv
 simp only[List.map_cons,List.map_nil,S1.den,e1]
 refine hc.mono fun e w' ⟨he,n,os,hw⟩=>⟨ρ,fun _ _=>rfl,he,?_⟩
 have hgr:=grownBy_sorted (w:=w) (g:=g) (n:=n) (os:=os) (M7 l).toArray
 have hw':w'=Go.Sort.grow (Go.Sort.putRow encStr (Sort.ahead w n) g 0 (M7 l).toArray) os:=hw
 rw[←hw']at hgr
 have hrow:w'.ownsRow 0 9 1 (ρ 0) (M7 l).length ((M7 l).map encStr):=by
  rw[hv,hw',hlen]
  exact ownsRow_sorted hlen hbase hb h1 h2 (by simpa[hsz]using h3)
 have:=Mem.step (ρ':=ρ) (nx':=1) (w':=w') (ds:=[0]) (m:=0) (r:=.row 9 .str (M7 l)) (D:=[g]) hm
  (fun _ _=>rfl) (Nat.le_refl _) hm.one hgr.os hgr.tape hgr.output hgr.size
  (fun b o hbo hbn=>by
    have hbl:=(Array.getElem?_eq_some_iff.1 hbo).1
    rw[hgr.block b hbl (fun e=>by cases e;exact hbn (List.mem_cons_self ..))];exact hbo)
  (fun b hb'=>by
    simp only[List.mem_singleton]at hb';subst hb'
    exact⟨0,_,List.mem_cons_self ..,by simp,by simp[Res.block,hv,Value.ownBlock]⟩)
  (by omega) (.inl (by simp)) trivial
  (fun b hb'=>by
    simp only[Res.block,hv,Value.ownBlock,Option.some.injEq]at hb'
    subst hb'
    exact⟨Nat.lt_of_lt_of_le hg hgr.size,.inr ⟨0,_,List.mem_cons_self ..,by simp,by simp[Res.block,hv,Value.ownBlock]⟩⟩)
  (fun O' _ _=>by simp only[Res.holds];rw[Gz];exact hrow)
 simpa[del]using this
end Go.Proofs.YtbmecnjmbhokgaaGreatDoor
namespace Go.Proofs.YtbmecnjmbhokgaaGreatDoor
open Go Go.RowKit Vc
set_option linter.unusedVariables false
set_option linter.unusedSimpArgs false
attribute [local irreducible] T Za Zn Ent RdC RwC Yj Zf Zi
def Qb:List (List UInt8):=[[49],[50],[52]]
def Tr(s:List UInt8):List (List UInt8):=Qb.map fun t=>s++t
def Iu(i:Nat):List UInt8:=(Oe.getD i ([],0)).1
def Up(seen:List Nat):List (List UInt8):=seen.flatMap fun i=>Tr (Iu i)
def Vy:List (List UInt8):=[[109,117,108],[115,97,114],[115,100,105,118],[115,104,108],[115,104,114],[115,114,101,109],[117,100,105,118],[117,114,101,109]].flatMap Tr
theorem Ed:Vy.Pairwise fun a b=>decide (a≤b)=true:=by decide+kernel
theorem Zbm:Vy.Perm (Up (List.range 8)):=List.isPerm_iff.1 (by decide+kernel)
theorem Zhj{seen:List Nat}(hnd:seen.Nodup)(hlt:∀i∈seen,i<8)(hall:∀i,i<8→i∈seen):M7 (Up seen)=Vy:=by
 have hp:seen.Perm (List.range 8):=(List.perm_ext_iff_of_nodup hnd List.nodup_range).2 fun i=>by
  rw[List.mem_range];exact⟨hlt i,hall i⟩
 have hp2:(Up seen).Perm Vy:=(hp.flatMap_right _).trans Zbm.symm
 have:=mergeSort_of_perm hp2
 show(Up seen).mergeSort (fun x y=>decide (x≤y))=Vy
 have e:Vy.mergeSort (fun x y=>decide (x≤y))=Vy:=List.mergeSort_of_pairwise Ed
 exact Eq.trans this e
theorem Az{seen:List Nat}(hnd:seen.Nodup)(hlt:∀i∈seen,i<8):seen.length≤8:=by
 have hp:seen.Perm ((List.range 8).filter fun i=>decide (i∈seen)):=(List.perm_ext_iff_of_nodup hnd (List.nodup_range.filter _)).2 fun i=>by
  simp only[List.mem_filter,List.mem_range,decide_eq_true_eq]
  exact⟨fun h=>⟨hlt i h,h⟩,fun h=>h.2⟩
 rw[hp.length_eq]
 exact Nat.le_trans (List.length_filter_le _ _) (by simp)
theorem Zhb:∀i,i<8→(Iu i).length≤4:=by decide
theorem Zh4:∀j,j<3→(Qb.getD j []).length≤1:=by decide
theorem Zfl(seen:List Nat):(Up seen).length=3*seen.length:=by
 induction seen with
 |nil=>rfl
 |cons i seen ih=>
  simp only[Up,List.flatMap_cons,List.length_append]at ih ⊢
  rw[ih]
  simp[Tr,Qb];omega
theorem Zbo(seen:List Nat)(i:Nat):Up (seen++[i])=Up seen++Tr (Iu i):=by simp[Up]
set_option maxHeartbeats 8000000 in
set_option maxRecDepth 100000 in
theorem Di:GC Tryz.prog 58 [] [] 0 [] (.one (.a (.ref 0))) [(0,.row 9 .str Vy)] 1:=by
 refine Ns.fn.gc (by simp) (by simp[Zu,Zw,Zv,Zj,Ze,Vc.S1.okN,At.okN,SV.okN,Res.okN,Res.outOk,Zo,Res.own,Value.oneCell']) fun w X fr=> ?_
 have hkl:Oe.length=8:=rfl
 repeat'(first|(first|refine Stp.h ?_|(refine Za.gc Ct ?_ ?_;focus simp[Zb];done))<;>try simp only[Zd,simprocAttr,↓reduceIte,reduceCtorEq,implies_true,hkl]|(with_reducible first|assumption|refine And.intro ?_ ?_)|(intro h;first|omega|exact tg h ‹_›|exact tg ‹_› h|skip))
 all_goals first|omega|skip
 refine T.weak (Ent.nilRow (t:=1) 9 .str rfl) ?_
 refine T.loop (ι:= {seen:List Nat//seen.Nodup∧∀i∈seen,i<8})
  (fun x=>⟨[(6,.one (.a (.ref 1))),(1,.one (.a (.ref 2)))],[(0,.fmap Oe),(1,.fiter 0 8 x.1),(2,.row 9 .str (Up x.1))],3⟩) (fun x=>8-x.1.length) ⟨[],by simp,by simp⟩ (Ent.mk1 (id) (by simp[Zy,Up])) ?_
 rintro⟨seen,hnd,hlt⟩
 simp only
 have hlen:=Az hnd hlt
 have hol:=Zfl seen
 refine T.regs ?_
 simp only[Zd,simprocAttr,↓reduceIte,reduceCtorEq,implies_true,Ns.r3,hkl]
 refine⟨fun hall=> ?_,fun i s f hg hn=> ?_⟩
 ·have hne:Up seen≠[]:=by
   intro e
   rw[e]at hol
   have:seen.length=0:=by simp at hol;omega
   have h0:=hall 0 (by omega)
   rw[List.length_eq_zero_iff.1 this]at h0;cases h0
  have hS:=Sort_gc (Up seen) hne (by omega)
  rw[Zhj hnd hlt hall]at hS
  repeat'(first|(first|refine Stp.h ?_|(refine Za.gc hS ?_ ?_;focus simp[Zb];done))<;>try simp only[Zd,simprocAttr,↓reduceIte,reduceCtorEq,implies_true]|(with_reducible first|assumption|refine And.intro ?_ ?_)|(intro h;first|omega|exact tg h ‹_›|exact tg ‹_› h|skip))
  all_goals first|omega|skip
 ·have hi8:i<8:=by have:=(List.getElem?_eq_some_iff.1 hg).1;omega
  have hk:Iu i=s:=by unfold Iu;simp[List.getD,hg]
  repeat'(first|(first|refine Stp.h ?_)<;>try simp only[Zd,simprocAttr,↓reduceIte,reduceCtorEq,implies_true,hg,hkl,List.getLast?_concat]|(with_reducible first|assumption|refine And.intro ?_ ?_)|(intro h;first|omega|exact tg h ‹_›|exact tg ‹_› h|skip))
  all_goals first|omega|skip
  refine T.weak (Ent.litRow (m:=3) .str Qb rfl rfl rfl rfl (by decide)) ?_
  simp only[Zd,simprocAttr,↓reduceIte,reduceCtorEq,implies_true]
  refine T.loop (ι:= {j:Nat//j≤3})
   (fun x=>⟨[(13,.one (.a (.int .i64 (x.1:Int)))),(12,.one (.a (.int .i64 3))),(11,.one (.a (.ref 3))),(2,.one (.a (.str s))),(6,.one (.a (.ref 1))),(1,.one (.a (.ref 2)))],
     [(0,.fmap Oe),(1,.fiter 0 8 (seen++[i])),(2,.row 9 .str (Up seen++(Tr s).take x.1)),(3,.row 9 .str Qb)],4⟩) (fun x=>3-x.1) ⟨0,by simp⟩ (Ent.mk1 (id) (by simp[Zy])) ?_
  rintro⟨j,hj⟩
  simp only
  have htl:Qb.length=3:=rfl
  by_cases hj3:j<3
  ·have hw:IntKind.i64.wrap ((j:Int)+1)=((j+1:Nat):Int):=Zx (by omega)
   have htj:((j:Int)).toNat=j:=by omega
   have htk:(Tr s).take (j+1)=(Tr s).take j++[s++Qb.getD j (Kd.dflt .str)]:=by
    have h3:j<(Tr s).length:=by simp[Tr,Qb];omega
    rw[List.take_add_one,List.getElem?_eq_getElem h3]
    simp[Tr,List.getD,show j<Qb.length by omega]
   have hll:(Up seen++(Tr s).take j).length≤100:=by
    simp only[List.length_append,List.length_take,hol,Tr,List.length_map,htl];omega
   generalize hx:Qb.getD j (Kd.dflt .str)=x at htk
   have hsx:s.length+x.length≤1000:=by
    have h1:=Zhb i hi8
    have h2:x.length≤1:=by rw[←hx];exact Zh4 j hj3
    rw[hk]at h1;omega
   generalize hacc:Up seen++(Tr s).take j=acc at hll
   have hacc2:Up seen++(Tr s).take (j+1)=acc++[s++x]:=by rw[htk,←hacc,List.append_assoc]
   have hlt3:(j:Int)<3:=by omega
   repeat'(first|(first|refine Stp.h ?_)<;>try simp only[Zd,simprocAttr,↓reduceIte,reduceCtorEq,implies_true,hx,hw,htj,htl,hlt3,Int.ofNat_lt]|(with_reducible first|assumption|refine And.intro ?_ ?_)|(intro h;first|omega|exact tg h ‹_›|exact tg ‹_› h|skip))
   all_goals first|omega|skip
   exact⟨⟨j+1,hj3⟩,(Ent.mk1 (fun n=>if n=2 then 5 else n) (by simp[Zy,hacc2,hw])),by simp only;omega⟩
  ·have hj2:j=3:=by omega
   subst hj2
   have h3:(Tr s).take 3=Tr s:=rfl
   have hnl:(seen++[i]).Nodup:=by
    rw[List.nodup_append]
    exact⟨hnd,by simp,fun a ha b hb e=>by simp at hb;subst hb;exact hn (e▸ha)⟩
   have hlt':∀q∈seen++[i],q<8:=by
    intro q hq
    rcases List.mem_append.1 hq with hq|hq
    ·exact hlt q hq
    ·simp only[List.mem_singleton]at hq;subst hq;exact hi8
   have hsl:=Az hnl hlt'
   have ho:Up (seen++[i])=Up seen++Tr s:=by rw[Zbo,hk]
   have hlt3:¬(((3:Nat):Int)<3):=by decide
   rw[h3]
   repeat'(first|(first|refine Stp.h ?_)<;>try simp only[Zd,simprocAttr,↓reduceIte,reduceCtorEq,implies_true,hlt3]|(with_reducible first|assumption|refine And.intro ?_ ?_)|(intro h;first|omega|exact tg h ‹_›|exact tg ‹_› h|skip))
   all_goals first|omega|skip
   exact⟨⟨seen++[i],hnl,hlt'⟩,(Ent.mk1 (id) (by simp[Zy,ho])),by simp only[List.length_append,List.length_cons,List.length_nil]at hsl ⊢;omega⟩
end Go.Proofs.YtbmecnjmbhokgaaGreatDoor
namespace Go.Proofs.YtbmecnjmbhokgaaGreatDoor
open Go Go.RowKit Vc
set_option linter.unusedVariables false
set_option linter.unusedSimpArgs false
theorem Cs:∀(l:List (List UInt8)) (w:List UInt8) (k:Nat),w∉l→T6 l w k= -1
 | [],_,_,_=>rfl
 |x::l,w,k,h=>by
  simp only[List.mem_cons,not_or]at h
  unfold T6
  rw[if_neg (fun e=>h.1 e.symm)]
  exact Cs l w (k+1) h.2
theorem kindL_rng:∀(l:List (List UInt8)) (w:List UInt8) (k:Nat),T6 l w k= -1∨((k:Int)≤T6 l w k∧T6 l w k<(k+l.length:Nat))
 | [],_,_=>.inl rfl
 |x::l,w,k=>by
  unfold T6
  split
  ·right;simp only[List.length_cons];omega
  ·rcases kindL_rng l w (k+1)with h|h
   ·exact .inl h
   ·right;simp only[List.length_cons];omega
theorem Ze8(w:List UInt8):kindS w= -1∨(0≤kindS w∧kindS w≤32):=by
 have:=kindL_rng Iz w 0
 have e:Iz.length=33:=rfl
 unfold kindS
 rw[e]at this
 omega
theorem L9(c:UInt8):∀s:List UInt8,(upToS c s).1.length≤s.length∧(upToS c s).2.1.length≤s.length∧((upToS c s).2.2=true→(upToS c s).2.1.length+1≤s.length)
 | []=>by simp[upToS]
 |b::r=>by
  have ih:=L9 c r
  rw[Hq]
  split
  ·simp
  ·simp only[List.length_cons]
   omega
theorem V6(s:List UInt8):(trimB s).length≤s.length:=by
 unfold trimB Lib.trimS Lib.trimLeftS Lib.trimRightS
 have h1:=(List.dropWhile_sublist (p:=fun b=>([32,9]:List UInt8).contains b) (l:=((s.reverse.dropWhile (fun b=>([32,9]:List UInt8).contains b)).reverse))).length_le
 have h2:=(List.dropWhile_sublist (p:=fun b=>([32,9]:List UInt8).contains b) (l:=s.reverse)).length_le
 simp only[List.length_reverse]at h1 h2
 exact Nat.le_trans h1 h2
def Hv(op:Int)(d s:Nat)(ps:List (List UInt8)):Except Int Ln:=match Qw op ps with
 |.error e=>.error e
 |.ok (i,r,ps)=>if ps=[]then .ok ⟨[],⟨op,d,s,i⟩,r⟩else .error 5
def insS(op:Int)(d:Nat)(ps:List (List UInt8)):Except Int Ln:=match P0 (R8 op) ps with
 |.error e=>.error e
 |.ok (s,ps)=>Hv op d s ps
theorem Zdh(op:Int)(ps:List (List UInt8)):insV op ps=match P0 (R7 op) ps with
 |.error e=>.error e
 |.ok (d,ps)=>insS op d ps:=rfl
theorem A7(ps:List (List UInt8)):P0 false ps= .ok (0,ps):=rfl
theorem G3:P0 true []= .error 5:=rfl
theorem G4{p:List UInt8}{n:Nat}(h:El p=some n)(ps:List (List UInt8)):P0 true (p::ps)= .ok (n,ps):=by
 simp[P0,h]
theorem G1{p:List UInt8}(h:El p=none)(ps:List (List UInt8)):P0 true (p::ps)= .error 2:=by
 simp[P0,h]
theorem Zh5{op:Int}(h:V7 op=false)(ps:List (List UInt8)):Qw op ps= .ok (0,[],ps):=by simp[Qw,h]
theorem Zf8{op:Int}(h:V7 op=true):Qw op []= .error 5:=by simp[Qw,h]
theorem Zf9{op:Int}(h:V7 op=true){p:List UInt8}{n:Nat}(hn:N9 p 65535=some n)(ps:List (List UInt8)):Qw op (p::ps)= .ok (n,[],ps):=by simp[Qw,h,hn]
theorem Zga{op:Int}(h:V7 op=true){p:List UInt8}(hn:N9 p 65535=none)(hr:Xk p=true∧Ur op=true)(ps:List (List UInt8)):Qw op (p::ps)= .ok (0,p,ps):=by simp[Qw,h,hn,hr.1,hr.2]
theorem Zf7{op:Int}(h:V7 op=true){p:List UInt8}(hn:N9 p 65535=none)(hr:¬(Xk p=true∧Ur op=true))(ps:List (List UInt8)):Qw op (p::ps)= .error 2:=by
 simp only[Qw,h,hn,hr,if_false];rfl
theorem Pp(c:UInt8):∀(s:List UInt8),∀p∈splitS c s,p.length≤s.length
 | [],p,h=>by
   simp only[splitS,List.mem_singleton]at h
   subst h;simp
 |b::r,p,h=>by
  have ih:=Pp c r
  rw[Ot]at h
  split at h
  ·rcases List.mem_cons.1 h with rfl|h
   ·simp
   ·have:=ih p h
    simp only[List.length_cons];omega
  ·split at h
   ·simp only[List.mem_singleton]at h
    subst h;simp
   ·rename_i q qs hq
    rcases List.mem_cons.1 h with rfl|h
    ·have:=ih q (by rw[hq];exact List.mem_cons_self ..)
     simp only[List.length_cons];omega
    ·have:=ih p (by rw[hq];exact List.mem_cons_of_mem _ h)
     simp only[List.length_cons];omega
theorem Zbq(rest:List UInt8):(∀p∈Rw rest,p.length≤rest.length)∧(Rw rest).length≤rest.length+1:=by
 have ht:=V6 rest
 unfold Rw
 split
 ·simp
 ·refine⟨fun p hp=> ?_,?_⟩
  ·obtain⟨q,hq,rfl⟩:=List.mem_map.1 hp
   have h1:=Pp 44 _ q hq
   have h2:=V6 q
   omega
  ·have h1:=Oa 44 (trimB rest)
   have h2:=List.count_le_length (a:=(44:UInt8)) (l:=trimB rest)
   rw[List.length_map,h1];omega
def lineT(s:List UInt8):Ln×Bool×Int:=match Nl s with
 |.error e=>(ln0,false,e)
 |.ok none=>(ln0,false,0)
 |.ok (some x)=>(x,true,0)
end Go.Proofs.YtbmecnjmbhokgaaGreatDoor
namespace Go.Proofs.YtbmecnjmbhokgaaGreatDoor
open Go Go.RowKit Vc
set_option linter.unusedVariables false
set_option linter.unusedSimpArgs false
attribute [local irreducible] T Za Zn Ent RdC RwC Yj Zf Zi
theorem Zgq{s:List UInt8}{v:Nat}(h:Lib.decNat s=some v):Lib.atoi s=some (v:Int):=by
 obtain⟨hne,hd⟩:=Lib.decNat_some h
 cases s with
 |nil=>exact absurd rfl hne
 |cons b r=>
  obtain⟨d,hd0⟩:=Lib.digit_of_decFrom (b::r) 0 v hd 0 b rfl
  have hb:=Lib.digitVal_eq hd0
  have h45:(b==45)=false:=by rw[beq_eq_false_iff_ne];intro e;rw[e]at hb;simp at hb
  have h43:(b==43)=false:=by rw[beq_eq_false_iff_ne];intro e;rw[e]at hb;simp at hb
  unfold Lib.atoi
  simp only[h45,h43,Bool.false_eq_true,if_false,h,Option.map_some]
set_option maxHeartbeats 4000000 in
set_option maxRecDepth 100000 in
theorem Pi(G:Nat)(H:Nat→Option Obj){s:List UInt8}{v:Nat}(h:I2 s=some v)(most:Int):
 GCp G H Tryz.prog 113 [.a (.str s),.a (.int .i64 most)] [] 0 [] (.tup [.a (.int .i64 (v:Int)),.a (.bool (decide ((v:Int)≤most)))]) [] 0:=by
 have hlt:=numV_lt h
 unfold I2 at h
 split at h
 ·cases h
 rename_i hn
 simp only[not_or]at hn
 obtain⟨h1,h2,h3⟩:=hn
 have hne:decide (s=[])=false:=decide_eq_false h1
 have hT:=Ju G H s Ie (by omega) (by decide) (by decide)
 have ht:Lib.trimS s Ie=[]:=(Zc3 h1).2 ⟨v,h⟩
 rw[ht]at hT
 unfold Ie at hT
 have hA:=Zgd G H s (v:Int) (by omega) (Zgq h)
 have h5:¬(5:Int)<s.length:=by omega
 refine Q0.fn.gcp (by simp) (by simp[Zu,Zw,Zv,Zj,Ze,Vc.S1.okN,At.okN,SV.okN,Res.okN,Res.outOk,Zo,Res.own,Value.oneCell']) fun w X fr hglob=> ?_
 by_cases h6:1<s.length
 ·have h7:(1:Int)<s.length:=by omega
  have h8:¬Wc s 0=48:=by
   intro e
   refine h3 ⟨h6,?_⟩
   unfold Wc at e
   have:(s.getD 0 0).toNat=48:=by omega
   exact UInt8.toNat_inj.1 this
  have h9:¬Wc s (0:Int).toNat=48:=h8
  repeat'(first|(first|refine Stp.h ?_|(refine Za.gcp hglob hT ?_ ?_;focus simp[Zb];done)|(refine Za.gcp hglob hA ?_ ?_;focus simp[Zb];done)|refine Zf.split ?_ ?_|refine Zi.no ?_)<;>try simp only[Zd,simprocAttr,↓reduceIte,reduceCtorEq,implies_true,hne,h5,h7,h8,h1,Int.ofNat_lt]|(with_reducible first|assumption|refine And.intro ?_ ?_)|(intro h;first|omega|exact tg h ‹_›|exact tg ‹_› h|skip))
  all_goals first|omega|(exfalso;exact h8 (by assumption))|(exfalso;simp_all;done)|skip
 ·have h7:¬(1:Int)<s.length:=by omega
  repeat'(first|(first|refine Stp.h ?_|(refine Za.gcp hglob hT ?_ ?_;focus simp[Zb];done)|(refine Za.gcp hglob hA ?_ ?_;focus simp[Zb];done)|refine Zf.split ?_ ?_|refine Zi.no ?_)<;>try simp only[Zd,simprocAttr,↓reduceIte,reduceCtorEq,implies_true,hne,h5,h7,h1,Int.ofNat_lt]|(with_reducible first|assumption|refine And.intro ?_ ?_)|(intro h;first|omega|exact tg h ‹_›|exact tg ‹_› h|skip))
  all_goals first|omega|skip
set_option maxHeartbeats 4000000 in
set_option maxRecDepth 100000 in
theorem Gv(G:Nat)(H:Nat→Option Obj){s:List UInt8}(h:I2 s=none)(most:Int)(hs:s.length≤9223372036854775807):
 GCp G H Tryz.prog 113 [.a (.str s),.a (.int .i64 most)] [] 0 [] (.tup [.a (.int .i64 0),.a (.bool false)]) [] 0:=by
 refine Q0.fn.gcp (by simp) (by simp[Zu,Zw,Zv,Zj,Ze,Vc.S1.okN,At.okN,SV.okN,Res.okN,Res.outOk,Zo,Res.own,Value.oneCell']) fun w X fr hglob=> ?_
 by_cases h1:s=[]
 ·have hne:decide (s=[])=true:=decide_eq_true h1
  repeat'(first|(first|refine Stp.h ?_|refine Zf.split ?_ ?_|refine Zi.no ?_)<;>try simp only[Zd,simprocAttr,↓reduceIte,reduceCtorEq,implies_true,hne,h1]|(with_reducible first|assumption|refine And.intro ?_ ?_)|(intro h;first|omega|exact tg h ‹_›|exact tg ‹_› h|skip))
  all_goals first|omega|(exfalso;simp_all;done)|skip
 have hne:decide (s=[])=false:=decide_eq_false h1
 by_cases h2:5<s.length
 ·have h5:(5:Int)<s.length:=by omega
  repeat'(first|(first|refine Stp.h ?_|refine Zf.split ?_ ?_|refine Zi.no ?_)<;>try simp only[Zd,simprocAttr,↓reduceIte,reduceCtorEq,implies_true,hne,h5,h1,Int.ofNat_lt]|(with_reducible first|assumption|refine And.intro ?_ ?_)|(intro h;first|omega|exact tg h ‹_›|exact tg ‹_› h|skip))
  all_goals first|omega|(exfalso;simp_all;done)|skip
 have h5:¬(5:Int)<s.length:=by omega
 have hT:=Ju G H s Ie hs (by decide) (by decide)
 have hda:=Zc3 h1
 generalize Lib.trimS s Ie=t at hT hda
 unfold Ie at hT
 by_cases ht:t=[]
 ·subst ht
  obtain⟨v,hv⟩:=hda.1 rfl
  have h3:1<s.length∧s.getD 0 0=48:=by
   unfold I2 at h
   split at h
   ·rename_i hn
    rcases hn with hn|hn|hn
    ·exact absurd hn h1
    ·exact absurd hn h2
    ·exact hn
   ·rw[hv]at h;cases h
  have h7:(1:Int)<s.length:=by omega
  have h8:Wc s 0=48:=by unfold Wc;rw[h3.2];rfl
  have h9:Wc s (0:Int).toNat=48:=h8
  repeat'(first|(first|refine Stp.h ?_|(refine Za.gcp hglob hT ?_ ?_;focus simp[Zb];done)|refine Zf.split ?_ ?_|refine Zi.no ?_)<;>try simp only[Zd,simprocAttr,↓reduceIte,reduceCtorEq,implies_true,hne,h5,h7,h9,h1,Int.ofNat_lt]|(with_reducible first|assumption|refine And.intro ?_ ?_)|(intro h;first|omega|exact tg h ‹_›|exact tg ‹_› h|skip))
  all_goals first|omega|(exfalso;simp_all;done)|skip
 ·have ht2:decide (t=[])=false:=decide_eq_false ht
  repeat'(first|(first|refine Stp.h ?_|(refine Za.gcp hglob hT ?_ ?_;focus simp[Zb];done)|refine Zf.split ?_ ?_|refine Zi.no ?_)<;>try simp only[Zd,simprocAttr,↓reduceIte,reduceCtorEq,implies_true,hne,h5,ht,ht2,h1,Int.ofNat_lt]|(with_reducible first|assumption|refine And.intro ?_ ?_)|(intro h;first|omega|exact tg h ‹_›|exact tg ‹_› h|skip))
  all_goals first|omega|(exfalso;simp_all;done)|skip
theorem Pk(t:List UInt8):Lib.hasPrefix (114::t) [114]=true∧Lib.trimPrefix (114::t) [114]=t:=by
 have h:Lib.hasPrefix (114::t) [114]=true:=by simp[Lib.hasPrefix]
 exact⟨h,by simp[Lib.trimPrefix,h]⟩
theorem Zfo{s:List UInt8}(h:∀t,s≠114::t):Lib.hasPrefix s [114]=false:=by
 cases s with
 |nil=>rfl
 |cons b t=>
  have:b≠114:=fun e=>h t (by rw[e])
  simp only[Lib.hasPrefix,List.isPrefixOf,Bool.and_eq_false_iff,beq_eq_false_iff_ne]
  exact .inl fun e=>this e.symm
set_option maxHeartbeats 4000000 in
set_option maxRecDepth 100000 in
theorem M4(G:Nat)(H:Nat→Option Obj){s:List UInt8}{n:Nat}(h:El s=some n):
 GCp G H Tryz.prog 112 [.a (.str s)] [] 0 [] (.tup [.a (.int .i64 (n:Int)),.a (.bool true)]) [] 0:=by
 obtain⟨t,rfl,hn⟩:∃t,s=114::t∧N9 t 7=some n:=by
  cases s with
  |nil=>cases h
  |cons b t=>
   have e:El (b::t)=if b=114 then N9 t 7 else none:=rfl
   rw[e]at h
   by_cases hb:b=114
   ·rw[if_pos hb]at h;exact⟨t,by rw[hb],h⟩
   ·rw[if_neg hb]at h;cases h
 obtain⟨hv,h7⟩:I2 t=some n∧n≤7:=by
  unfold N9 at hn
  split at hn
  ·rename_i v hv
   split at hn
   ·cases hn;exact⟨hv,by assumption⟩
   ·cases hn
  ·cases hn
 have hP:=Ry G H (114::t) [114]
 rw[(Pk t).1,(Pk t).2]at hP
 have hN:=Pi G H hv 7
 rw[decide_eq_true (by omega)]at hN
 refine W2.fn.gcp (by simp) (by simp[Zu,Zw,Zv,Zj,Ze,Vc.S1.okN,At.okN,SV.okN,Res.okN,Res.outOk,Zo,Res.own,Value.oneCell']) fun w X fr hglob=> ?_
 repeat'(first|(first|refine Stp.h ?_|(refine Za.gcp hglob hP ?_ ?_;focus simp[Zb];done)|(refine Za.gcp hglob hN ?_ ?_;focus simp[Zb];done))<;>try simp only[Zd,simprocAttr,↓reduceIte,reduceCtorEq,implies_true]|(with_reducible first|assumption|refine And.intro ?_ ?_)|(intro h;first|omega|exact tg h ‹_›|exact tg ‹_› h|skip))
 all_goals first|omega|skip
set_option maxHeartbeats 4000000 in
set_option maxRecDepth 100000 in
theorem Kr(G:Nat)(H:Nat→Option Obj){s:List UInt8}(h:El s=none)(hs:s.length≤9223372036854775807):
 ∃m:Int,GCp G H Tryz.prog 112 [.a (.str s)] [] 0 [] (.tup [.a (.int .i64 m),.a (.bool false)]) [] 0:=by
 by_cases hp:∃t,s=114::t
 ·obtain⟨t,rfl⟩:=hp
  have hP:=Ry G H (114::t) [114]
  rw[(Pk t).1,(Pk t).2]at hP
  simp only[El,if_true,N9]at h
  cases hv:I2 t with
  |none=>
   have hN:=Gv G H hv 7 (by simp only[List.length_cons]at hs;omega)
   refine⟨0,W2.fn.gcp (by simp) (by simp[Zu,Zw,Zv,Zj,Ze,Vc.S1.okN,At.okN,SV.okN,Res.okN,Res.outOk,Zo,Res.own,Value.oneCell']) fun w X fr hglob=> ?_⟩
   repeat'(first|(first|refine Stp.h ?_|(refine Za.gcp hglob hP ?_ ?_;focus simp[Zb];done)|(refine Za.gcp hglob hN ?_ ?_;focus simp[Zb];done))<;>try simp only[Zd,simprocAttr,↓reduceIte,reduceCtorEq,implies_true]|(with_reducible first|assumption|refine And.intro ?_ ?_)|(intro h;first|omega|exact tg h ‹_›|exact tg ‹_› h|skip))
   all_goals first|omega|skip
  |some v=>
   rw[hv]at h
   have h7:¬v≤7:=by
    intro e
    simp[e]at h
   have hN:=Pi G H hv 7
   rw[decide_eq_false (by omega)]at hN
   refine⟨v,W2.fn.gcp (by simp) (by simp[Zu,Zw,Zv,Zj,Ze,Vc.S1.okN,At.okN,SV.okN,Res.okN,Res.outOk,Zo,Res.own,Value.oneCell']) fun w X fr hglob=> ?_⟩
   repeat'(first|(first|refine Stp.h ?_|(refine Za.gcp hglob hP ?_ ?_;focus simp[Zb];done)|(refine Za.gcp hglob hN ?_ ?_;focus simp[Zb];done))<;>try simp only[Zd,simprocAttr,↓reduceIte,reduceCtorEq,implies_true]|(with_reducible first|assumption|refine And.intro ?_ ?_)|(intro h;first|omega|exact tg h ‹_›|exact tg ‹_› h|skip))
   all_goals first|omega|skip
 ·have hP:=Ry G H s [114]
  rw[Zfo (fun t e=>hp ⟨t,e⟩)]at hP
  generalize Lib.trimPrefix s [114]=t at hP
  refine⟨0,W2.fn.gcp (by simp) (by simp[Zu,Zw,Zv,Zj,Ze,Vc.S1.okN,At.okN,SV.okN,Res.okN,Res.outOk,Zo,Res.own,Value.oneCell']) fun w X fr hglob=> ?_⟩
  repeat'(first|(first|refine Stp.h ?_|(refine Za.gcp hglob hP ?_ ?_;focus simp[Zb];done))<;>try simp only[Zd,simprocAttr,↓reduceIte,reduceCtorEq,implies_true]|(with_reducible first|assumption|refine And.intro ?_ ?_)|(intro h;first|omega|exact tg h ‹_›|exact tg ‹_› h|skip))
  all_goals first|omega|skip
def blk(b:UInt8):Prop:=b=32∨b=9
end Go.Proofs.YtbmecnjmbhokgaaGreatDoor
namespace Go.Proofs.YtbmecnjmbhokgaaGreatDoor
open Go Go.RowKit Vc
set_option linter.unusedVariables false
set_option linter.unusedSimpArgs false
attribute [local irreducible] T Za Zn RdC RwC Yj Zf Zi
theorem Ent.view{c:Cx}{S:St}{t m:Nat}(sz m0 lo hi:Nat){g:Prop}(ht:S.get t=some (.one (.a (.ref m))))(h:Hi S sz m=some (g,m0,lo,hi))(hg:g):
 Ent c S ⟨(t,.one (.a (.ref S.nx)))::S.slots,(S.nx,.view m0 sz lo hi)::S.res,S.nx+1⟩:=fun ρ a w hh=>by
 obtain⟨ad,len,cap,ad',g1,g2,g3,g4,g5,g6,g8,g9⟩:=Hj hh h hg
 refine⟨Z9 ρ S.nx (ρ m),hh.nodef,hh.sz,hh.lown,fun u v hu=> ?_,fun u v hu=> ?_,?_⟩
 ·rcases look_cons hu with⟨rfl,rfl⟩|⟨hne,hu'⟩
  ·rw[hh.slot _ _ ht];simp only[SV.den,S1.den,At.den,Zl]
  ·rw[SV.den_same (Zh ρ S.nx _) (hh.bds u v hu')];exact hh.slot u v hu'
 ·rcases look_cons hu with⟨rfl,rfl⟩|⟨hne,hu'⟩
  ·exact Nat.lt_succ_self _
  ·exact SV.bd_mono (Nat.le_succ _) (hh.bds u v hu')
 ·refine hh.mem.named (hh.mem.one m) (show m0<S.nx+1 by omega) rfl fun O' _=> ?_
  exact⟨ad,len,cap,ad',by rw[Zh ρ S.nx _ m0 g5];exact g1,by rw[Zl];exact g2,by omega,g9,g6⟩
attribute [local irreducible] Ent
set_option maxHeartbeats 2000000 in
theorem Jr(l:List (List UInt8))(v:List UInt8)(hlen:l.length≤9223372036854775807):
 RdC Tryz.prog 101 [.ro .str l,.v (.a (.str v))] (.one (.a (.int .i64 (T6 l v 0)))):=by
 refine Wn.fn.rd (by simp) (by simp[Zz]) (by simp[Zz]) fun w=> ?_
 repeat'(first|(first|refine Stp.h ?_)<;>try simp only[Zd,simprocAttr,↓reduceIte,reduceCtorEq,implies_true]|(with_reducible first|assumption|refine And.intro ?_ ?_)|(intro h;first|omega|exact tg h ‹_›|exact tg ‹_› h|skip))
 refine T.loop (ι:= {k:Nat//k≤l.length∧T6 (l.drop k) v k=T6 l v 0})
  (fun x=>⟨[(8,.one (.a (.int .i64 (x.1:Int)))),(7,.one (.a (.int .i64 l.length))),(1,.one (.a (.str v))),(0,.one (.a (.ref 0)))],[(0,.ro .str l)],1⟩)
  (fun x=>l.length-x.1) ⟨0,by simp,by simp⟩ (Ent.mk1 (id) (by simp[Zy])) ?_
 rintro⟨k,hk,hrun⟩
 by_cases hlt:k<l.length
 ·have hdrop:l.drop k=l.getD k []::l.drop (k+1):=by
   rw[List.drop_eq_getElem_cons hlt];simp[List.getD,hlt]
  generalize hx:l.getD k []=x at hdrop
  have hx':l.getD k (Kd.dflt .str)=x:=hx
  rw[hdrop]at hrun
  simp only[T6]at hrun
  have hw:IntKind.i64.wrap ((k:Int)+1)=((k+1:Nat):Int):=Zx (by omega)
  have ht:((k:Int)).toNat=k:=by omega
  by_cases hp:x=v
  ·rw[if_pos hp]at hrun
   have hpd:decide (v=x)=true:=decide_eq_true hp.symm
   repeat'(first|(first|refine Stp.h ?_)<;>try simp only[Zd,simprocAttr,↓reduceIte,reduceCtorEq,implies_true,hx',hw,ht,hpd,Int.ofNat_lt]|(with_reducible first|assumption|refine And.intro ?_ ?_)|(intro h;first|omega|exact tg h ‹_›|exact tg ‹_› h|skip))
   all_goals first|omega|(rw[←hrun];done)|skip
  ·rw[if_neg hp]at hrun
   have hpd:decide (v=x)=false:=decide_eq_false fun e=>hp e.symm
   repeat'(first|(first|refine Stp.h ?_)<;>try simp only[Zd,simprocAttr,↓reduceIte,reduceCtorEq,implies_true,hx',hw,ht,hpd,Int.ofNat_lt]|(with_reducible first|assumption|refine And.intro ?_ ?_)|(intro h;first|omega|exact tg h ‹_›|exact tg ‹_› h|skip))
   all_goals first|omega|exact⟨⟨k+1,hlt,hrun⟩,(Ent.mk1 (id) (by simp[Zy,hw])),by simp only;omega⟩|skip
 ·have hk2:k=l.length:=by omega
  subst hk2
  rw[List.drop_length]at hrun
  simp only[T6]at hrun
  repeat'(first|(first|refine Stp.h ?_)<;>try simp only[Zd,simprocAttr,↓reduceIte,reduceCtorEq,implies_true,Int.ofNat_lt]|(with_reducible first|assumption|refine And.intro ?_ ?_)|(intro h;first|omega|exact tg h ‹_›|exact tg ‹_› h|skip))
  all_goals first|omega|(rw[←hrun];done)|skip
end Go.Proofs.YtbmecnjmbhokgaaGreatDoor
namespace Go.Proofs.YtbmecnjmbhokgaaGreatDoor
open Vc
namespace X9
abbrev r0:List In:=[i1 4 (.mv (kB false))]
abbrev r1:List In:=[mv 5 0,
mv 6 1,
i1 7 (.call 101 [.t 5,.t 6]),
i1 8 (.bin .geq (.t 7) (kI 0)),
mv 4 8]
abbrev code:IC:=.seq (.reg r0) (.seq (.reg r1) .ret)
abbrev res:List RV:=[.tmp 4]
theorem fn:Body Tryz.prog 75 9 code res:=⟨by decide,Tryz.f75,_,Tryz.func75,rfl,rfl,by kernel_rfl,by kernel_rfl⟩
end X9
end Go.Proofs.YtbmecnjmbhokgaaGreatDoor
namespace Go.Proofs.YtbmecnjmbhokgaaGreatDoor
open Go Go.RowKit Vc
set_option linter.unusedVariables false
set_option linter.unusedSimpArgs false
attribute [local irreducible] T Za Zn Ent RdC RwC Yj Zf Zi
set_option maxHeartbeats 1000000 in
set_option maxRecDepth 100000 in
theorem Kv(b g cap:Nat)(p q:Value)(l:List UInt8)(w:World)(hbk:w.heap[b]? =some (.cells #[p,.slice (some ⟨g,0,none⟩) l.length cap,q] 131 (0,0)))
 (hown:w.ownsRow 0 5 1 (.slice (some ⟨g,0,none⟩) l.length cap) l.length (Lib.byteCells l))(h0:l≠[]):
 Calls Tryz.prog 77 #[.pointer (some ⟨b,0,none⟩)] w fun e w'=>e= .returned (.string ⟨l.toArray⟩)∧w'=w.drew.freeze ⟨g,0,none⟩ l.length:=by
 have hl0:l.length≠0:=by simpa using h0
 obtain⟨cur,hg,hnc,hcm,hcs,htake⟩:∃cur,w.heap[g]? =some (.cells cur 5 (0,0))∧l.length≤cap∧cap≤maxLen∧cur.size=cap*1∧cur.toList.take (l.length*1)=Lib.byteCells l:=by
  rcases hown.2 with⟨hv,hz⟩|⟨g',cap',cur,hv,_,r⟩
  ·exact absurd hz hl0
  ·cases hv;exact⟨cur,r⟩
 have c1:w.drew.cell? ⟨b,1,none⟩=some (.slice (some ⟨g,0,none⟩) l.length cap):=by
  have:w.drew.heap[b]? =some (.cells #[p,.slice (some ⟨g,0,none⟩) l.length cap,q] 131 (0,0)):=hbk
  rw[Lib.cell_of_heap this];rfl
 have hSD:(Builtin.unsafeSliceData_ #[45] 165 #[.slice (some ⟨g,0,none⟩) l.length cap]).run Tryz.prog w.drew= .ok (.pointer (some ⟨g,0,none⟩)) w.drew:=
  Lib.run_unsafeSliceData_row _ _ _ _ _ _ (by omega)
 have hUS:(Builtin.unsafeString_ #[165,3] 9 #[.pointer (some ⟨g,0,none⟩),.int .i64 l.length]).run Tryz.prog w.drew= .ok (.string ⟨l.toArray⟩) (w.drew.freeze ⟨g,0,none⟩ l.length):=by
  refine Lib.run_unsafeString_row w.drew 165 3 9 5 Tryz.underlying165 (by kernel_rfl) g cur.size (by have hg':w.drew.heap[g]? =some (.cells cur 5 (0,0)):=hg;simp[World.shape?,hg']) l h0 (by omega) (by unfold maxLen at hcm;omega) ?_
  intro j x hx
  have:=hown.cells (g:=g) rfl j (.int .u8 x.toNat) (by simp[Lib.byteCells,hx])
  exact this
 go_enter Tryz.func77,Tryz.ntmps77
 go_wp2
 go_region
 all_goals(go_wp2;go_ret;exact⟨rfl,rfl⟩)
theorem Zge(n:Int)(l:List UInt8)(hne:l≠[]):
 GC Tryz.prog 77 [.a (.loc 0 0)] [(0,.cells 131 [.loc 0 0,.ref 1,.int .i64 n]),(1,.row 5 (.int .u8) (bytesI l))] 2 [] (.one (.a (.str l))) [] 2:=by
 refine⟨(by simp[Zu,Zw,Zv,Zj,Ze,Vc.S1.okN,At.okN,SV.okN,Res.okN,Res.outOk,Zo,Res.own,Value.oneCell']),fun ρ w hm=> ?_⟩
 obtain⟨b,hb,hcell⟩:=hm.res 0 _ (List.mem_cons_self ..)
 have hown:=hm.res 1 _ (List.mem_cons_of_mem _ (List.mem_cons_self ..))
 simp only[Res.holds]at hown
 have h1:S1.den ρ (.a (.loc 0 0))= .pointer (some ⟨b,0,none⟩):=by simp[S1.den,At.den,Wl,hb]
 simp only[List.map_cons,List.map_nil,h1]
 have hbl:(bytesI l).length=l.length:=by simp[bytesI]
 rw[hbl,Pd]at hown
 have hsz:Kd.sz (.int .u8)=1:=rfl
 rw[hsz]at hown
 have hcl:w.heap[b]? =some (.cells #[Wl (ρ 0) 0,ρ 1,.int .i64 n] 131 (0,0)):=hcell
 have hnone:∀w':World,w'.os=w.os→w'.tape=w.tape→w'.output=w.output→w.heap.size≤w'.heap.size→(∀k,k<w.heap.size→k∉Zp ρ [(0,Res.cells 131 [.loc 0 0,.ref 1,.int .i64 n]),(1,.row 5 (.int .u8) (bytesI l))]→w'.heap[k]? =w.heap[k]?)→Mem ⟨Tryz.prog,w,Zp ρ [(0,Res.cells 131 [.loc 0 0,.ref 1,.int .i64 n]),(1,.row 5 (.int .u8) (bytesI l))],0,[]⟩ ρ [] 2 w':=
  fun w' a1 a2 a3 a4 a5=>⟨a1,a2,a3,a4,a5,hm.one,by simp,by simp,by simp,by simp[Zp],by simp[Zp]⟩
 cases l with
 |nil=>exact absurd rfl hne
 |cons x l=>
  have hown2:=hown
  rcases hown.2 with⟨_,hz⟩|⟨g,cap,cur,hv,r⟩
  ·simp at hz
  rw[hv]at hcl hown2
  refine(Kv b g cap _ _ (x::l) w hcl hown2 (by simp)).mono fun e w' ⟨he,hw⟩=>⟨ρ,by simp,he,?_⟩
  subst hw
  obtain⟨f1,f2,f3⟩:=Cn w.drew g (x::l).length
  refine hnone _ f1 f2 f3 (by rw[Co];exact Nat.le_refl _) fun k hk hko=> ?_
  rw[Ck k (fun e=>hko ?_)]
  ·rfl
  ·subst e
   simp[Zp,Res.block,hb,hv,Value.ownBlock]
set_option maxHeartbeats 4000000 in
theorem Zfq(n:Int)(x:List UInt8)(hx:x.length≤1000)(hsf:Lib.hasSuffix x [58]=true):
 GC Tryz.prog 76 [.a (.loc 0 0),.a (.ref 1)] [(0,.cells 131 [.raw (.pointer none),.raw (.slice none 0 0),.int .i64 n]),(1,.ro .str [x])] 2 [0] (.tup []) [(0,.cells 131 [.loc 0 0,.ref 2,.int .i64 n]),(2,.row 5 (.int .u8) (bytesI (x++[10])))] 3:=by
 have hS:=Ml x [58] (by omega)
 rw[hsf]at hS
 have hW:=Nv n (x++[10]) (by simp only[List.length_append,List.length_cons,List.length_nil];omega)
 refine Tv.fn.gc (by simp) (by simp[Zu,Zw,Zv,Zj,Ze,Vc.S1.okN,At.okN,SV.okN,Res.okN,Res.outOk,Zo,Res.own,Value.oneCell']) fun w X fr=> ?_
 repeat'(first|(first|refine Stp.h ?_)<;>try simp only[Zd,simprocAttr,↓reduceIte,reduceCtorEq,implies_true]|(with_reducible first|assumption|refine And.intro ?_ ?_)|(intro h;first|omega|exact tg h ‹_›|exact tg ‹_› h|skip))
 all_goals first|omega|skip
 refine T.loop (ι:=Bool)
  (fun b=>match b with
    |false=>⟨[(8,.one (.a (.int .i64 0))),(7,.one (.a (.int .i64 1))),(6,.one (.a (.ref 1))),(0,.one (.a (.loc 0 0))),(1000000,.one (.a (.ref 0)))],
      [(0,.cells 131 [.raw (.pointer none),.raw (.slice none 0 0),.int .i64 n]),(1,.ro .str [x])],2⟩
    |true=>⟨[(8,.one (.a (.int .i64 1))),(7,.one (.a (.int .i64 1))),(6,.one (.a (.ref 1))),(0,.one (.a (.loc 0 0))),(1000000,.one (.a (.ref 0)))],
      [(0,.cells 131 [.loc 0 0,.ref 2,.int .i64 n]),(2,.row 5 (.int .u8) (bytesI (x++[10]))),(1,.ro .str [x])],3⟩) (fun b=>if b=true then 0 else 1) false (Ent.mk1 (id) (by simp[Zy])) ?_
 rintro(_|_)
 ·have hw:IntKind.i64.wrap (0+1)=1:=by decide
  have hx':[x].getD 0 (Kd.dflt .str)=x:=rfl
  repeat'(first|(first|refine Stp.h ?_|(refine Za.gc hS ?_ ?_;focus simp[Zb];done)|(refine Za.gc hW ?_ ?_;focus simp[Zb];done))<;>try simp only[Zd,simprocAttr,↓reduceIte,reduceCtorEq,implies_true,hx',hw,Int.toNat_zero,List.length_cons,List.length_nil]|(with_reducible first|assumption|refine And.intro ?_ ?_)|(intro h;first|omega|exact tg h ‹_›|exact tg ‹_› h|skip))
  all_goals first|omega|skip
  exact⟨true,(Ent.mk1 (id) (by simp[Zy,hw])),by decide⟩
 ·repeat'(first|(first|refine Stp.h ?_)<;>try simp only[Zd,simprocAttr,↓reduceIte,reduceCtorEq,implies_true,List.length_cons,List.length_nil]|(with_reducible first|assumption|refine And.intro ?_ ?_)|(intro h;first|omega|exact tg h ‹_›|exact tg ‹_› h|skip))
  all_goals first|omega|skip
theorem Zha(l:List (List UInt8))(v:List UInt8):decide (0≤T6 l v 0)=decide (v∈l):=by
 by_cases h:v∈l
 ·have:∀(l:List (List UInt8)) (k:Nat),v∈l→0≤T6 l v k:=by
   intro l
   induction l with
   |nil=>intro k h;cases h
   |cons x l ih=>
    intro k h
    unfold T6
    by_cases e:x=v
    ·rw[if_pos e];omega
    ·rw[if_neg e]
     rcases List.mem_cons.1 h with h|h
     ·exact absurd h.symm e
     ·exact ih _ h
  rw[decide_eq_true (this l 0 h),decide_eq_true h]
 ·rw[Cs l v 0 h,decide_eq_false h];rfl
theorem Zel(l:List (List UInt8))(v:List UInt8)(hlen:l.length≤9223372036854775807):
 RdC Tryz.prog 75 [.ro .str l,.v (.a (.str v))] (.one (.a (.bool (decide (v∈l))))):=by
 refine X9.fn.rd (by simp) (by simp[Zz]) (by simp[Zz]) fun w=> ?_
 have h1:=Zha l v
 repeat'(first|(first|refine Stp.h ?_|(refine rq (Jr l v hlen) ?_ ?_;focus simp[Zz];done))<;>try simp only[Zd,simprocAttr,↓reduceIte,reduceCtorEq,implies_true,h1]|(with_reducible first|assumption|refine And.intro ?_ ?_)|(intro h;first|omega|exact tg h ‹_›|exact tg ‹_› h|skip))
end Go.Proofs.YtbmecnjmbhokgaaGreatDoor
