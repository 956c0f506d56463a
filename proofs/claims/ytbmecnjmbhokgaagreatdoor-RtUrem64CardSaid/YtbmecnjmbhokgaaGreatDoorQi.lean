/- A part of the proofs of this seat's laws: steps on the way, joined. It has no conditions of its own. -/
import Derived.Test.YtbmecnjmbhokgaaGreatDoorQh
import Derived.Test.YtbmecnjmbhokgaaGreatDoorQe
import Derived.Test.YtbmecnjmbhokgaaGreatDoorChecked
import Derived.KernelRfl
import Derived.Test.YtbmecnjmbhokgaaGreatDoorQf
namespace Go.Proofs.YtbmecnjmbhokgaaGreatDoor
open Go Go.RowKit Vc
set_option linter.unusedVariables false
set_option linter.unusedSimpArgs false
attribute [local irreducible] T Za Zn Ent RdC RwC Yj Zf Zi
theorem Za5{G:Nat}{H:Nat→Option Obj}(hM:Yo G H)(hH:Z5 G H)(n:Nat)(hn:1≤n∧n≤100)(acc:List UInt8)(hb:acc.length+(Ig n).length≤100000):
 GCp G H Tryz.prog 89 [.a (.loc 0 0)] [(0,.cells 131 [.loc 0 0,.ref 1,.int .i64 (n:Int)]),(1,.row 5 (.int .u8) (bytesI (acc)))] 2 [0] (.tup []) [(0,.cells 131 [.loc 0 0,.ref 2,.int .i64 (n:Int)]),(2,.row 5 (.int .u8) (bytesI (acc++Ig n)))] 3:=by
 have hC:=Zgy hM hH n hn acc hb
 generalize acc++Ig n=z at*
 refine Q4.fn.gcp (by simp) (by simp[Zu,Zw,Zv,Zj,Ze,Vc.S1.okN,At.okN,SV.okN,Res.okN,Res.outOk,Zo,Res.own,Value.oneCell']) fun w X fr hglob=> ?_
 repeat'(first|(first|refine Stp.h ?_|(refine Za.gcp hglob hC ?_ ?_;focus simp[Zb];done))<;>try simp only[Zd,simprocAttr,↓reduceIte,reduceCtorEq,implies_true]|(with_reducible first|assumption|refine And.intro ?_ ?_)|(intro h;first|omega|exact tg h ‹_›|exact tg ‹_› h|skip))
 all_goals first|omega|skip
theorem Za6{G:Nat}{H:Nat→Option Obj}(hM:Yo G H)(hH:Z5 G H)(n:Nat)(hn:1≤n∧n≤100)(acc:List UInt8)(hb:acc.length+(Ih n).length≤100000):
 GCp G H Tryz.prog 91 [.a (.loc 0 0)] [(0,.cells 131 [.loc 0 0,.ref 1,.int .i64 (n:Int)]),(1,.row 5 (.int .u8) (bytesI (acc)))] 2 [0] (.tup []) [(0,.cells 131 [.loc 0 0,.ref 2,.int .i64 (n:Int)]),(2,.row 5 (.int .u8) (bytesI (acc++Ih n)))] 3:=by
 have hC:=Zgz hM hH n hn acc hb
 generalize acc++Ih n=z at*
 refine Q5.fn.gcp (by simp) (by simp[Zu,Zw,Zv,Zj,Ze,Vc.S1.okN,At.okN,SV.okN,Res.okN,Res.outOk,Zo,Res.own,Value.oneCell']) fun w X fr hglob=> ?_
 repeat'(first|(first|refine Stp.h ?_|(refine Za.gcp hglob hC ?_ ?_;focus simp[Zb];done))<;>try simp only[Zd,simprocAttr,↓reduceIte,reduceCtorEq,implies_true]|(with_reducible first|assumption|refine And.intro ?_ ?_)|(intro h;first|omega|exact tg h ‹_›|exact tg ‹_› h|skip))
 all_goals first|omega|skip
theorem Za7{G:Nat}{H:Nat→Option Obj}(hM:Yo G H)(hH:Z5 G H)(n:Nat)(hn:1≤n∧n≤100)(acc:List UInt8)(hb:acc.length+(Rk n).length≤100000):
 GCp G H Tryz.prog 92 [.a (.loc 0 0)] [(0,.cells 131 [.loc 0 0,.ref 1,.int .i64 (n:Int)]),(1,.row 5 (.int .u8) (bytesI (acc)))] 2 [0] (.tup []) [(0,.cells 131 [.loc 0 0,.ref 2,.int .i64 (n:Int)]),(2,.row 5 (.int .u8) (bytesI (acc++Rk n)))] 3:=by
 have hC:=A1 hM hH n hn acc hb
 generalize acc++Rk n=z at*
 refine Q6.fn.gcp (by simp) (by simp[Zu,Zw,Zv,Zj,Ze,Vc.S1.okN,At.okN,SV.okN,Res.okN,Res.outOk,Zo,Res.own,Value.oneCell']) fun w X fr hglob=> ?_
 repeat'(first|(first|refine Stp.h ?_|(refine Za.gcp hglob hC ?_ ?_;focus simp[Zb];done))<;>try simp only[Zd,simprocAttr,↓reduceIte,reduceCtorEq,implies_true]|(with_reducible first|assumption|refine And.intro ?_ ?_)|(intro h;first|omega|exact tg h ‹_›|exact tg ‹_› h|skip))
 all_goals first|omega|skip
theorem Za8{G:Nat}{H:Nat→Option Obj}(hM:Yo G H)(hH:Z5 G H)(n:Nat)(hn:1≤n∧n≤100)(acc:List UInt8)(hb:acc.length+(Rl n).length≤100000):
 GCp G H Tryz.prog 94 [.a (.loc 0 0)] [(0,.cells 131 [.loc 0 0,.ref 1,.int .i64 (n:Int)]),(1,.row 5 (.int .u8) (bytesI (acc)))] 2 [0] (.tup []) [(0,.cells 131 [.loc 0 0,.ref 2,.int .i64 (n:Int)]),(2,.row 5 (.int .u8) (bytesI (acc++Rl n)))] 3:=by
 have hC:=A2 hM hH n hn acc hb
 generalize acc++Rl n=z at*
 refine Q7.fn.gcp (by simp) (by simp[Zu,Zw,Zv,Zj,Ze,Vc.S1.okN,At.okN,SV.okN,Res.okN,Res.outOk,Zo,Res.own,Value.oneCell']) fun w X fr hglob=> ?_
 repeat'(first|(first|refine Stp.h ?_|(refine Za.gcp hglob hC ?_ ?_;focus simp[Zb];done))<;>try simp only[Zd,simprocAttr,↓reduceIte,reduceCtorEq,implies_true]|(with_reducible first|assumption|refine And.intro ?_ ?_)|(intro h;first|omega|exact tg h ‹_›|exact tg ‹_› h|skip))
 all_goals first|omega|skip
theorem Za9{G:Nat}{H:Nat→Option Obj}(hM:Yo G H)(hH:Z5 G H)(n:Nat)(hn:1≤n∧n≤100)(acc:List UInt8)(hb:acc.length+(Zcf n).length≤100000):
 GCp G H Tryz.prog 95 [.a (.loc 0 0)] [(0,.cells 131 [.loc 0 0,.ref 1,.int .i64 (n:Int)]),(1,.row 5 (.int .u8) (bytesI (acc)))] 2 [0] (.tup []) [(0,.cells 131 [.loc 0 0,.ref 2,.int .i64 (n:Int)]),(2,.row 5 (.int .u8) (bytesI (acc++Zcf n)))] 3:=by
 have hC:=shl_gcp hM hH n hn acc hb
 generalize acc++Zcf n=z at*
 refine Q8.fn.gcp (by simp) (by simp[Zu,Zw,Zv,Zj,Ze,Vc.S1.okN,At.okN,SV.okN,Res.okN,Res.outOk,Zo,Res.own,Value.oneCell']) fun w X fr hglob=> ?_
 repeat'(first|(first|refine Stp.h ?_|(refine Za.gcp hglob hC ?_ ?_;focus simp[Zb];done))<;>try simp only[Zd,simprocAttr,↓reduceIte,reduceCtorEq,implies_true]|(with_reducible first|assumption|refine And.intro ?_ ?_)|(intro h;first|omega|exact tg h ‹_›|exact tg ‹_› h|skip))
 all_goals first|omega|skip
theorem Zba{G:Nat}{H:Nat→Option Obj}(hM:Yo G H)(hH:Z5 G H)(n:Nat)(hn:1≤n∧n≤100)(acc:List UInt8)(hb:acc.length+(Zcg n).length≤100000):
 GCp G H Tryz.prog 97 [.a (.loc 0 0)] [(0,.cells 131 [.loc 0 0,.ref 1,.int .i64 (n:Int)]),(1,.row 5 (.int .u8) (bytesI (acc)))] 2 [0] (.tup []) [(0,.cells 131 [.loc 0 0,.ref 2,.int .i64 (n:Int)]),(2,.row 5 (.int .u8) (bytesI (acc++Zcg n)))] 3:=by
 have hC:=shr_gcp hM hH n hn acc hb
 generalize acc++Zcg n=z at*
 refine Q9.fn.gcp (by simp) (by simp[Zu,Zw,Zv,Zj,Ze,Vc.S1.okN,At.okN,SV.okN,Res.okN,Res.outOk,Zo,Res.own,Value.oneCell']) fun w X fr hglob=> ?_
 repeat'(first|(first|refine Stp.h ?_|(refine Za.gcp hglob hC ?_ ?_;focus simp[Zb];done))<;>try simp only[Zd,simprocAttr,↓reduceIte,reduceCtorEq,implies_true]|(with_reducible first|assumption|refine And.intro ?_ ?_)|(intro h;first|omega|exact tg h ‹_›|exact tg ‹_› h|skip))
 all_goals first|omega|skip
theorem Zbb{G:Nat}{H:Nat→Option Obj}(hM:Yo G H)(hH:Z5 G H)(n:Nat)(hn:1≤n∧n≤100)(acc:List UInt8)(hb:acc.length+(Zca n).length≤100000):
 GCp G H Tryz.prog 98 [.a (.loc 0 0)] [(0,.cells 131 [.loc 0 0,.ref 1,.int .i64 (n:Int)]),(1,.row 5 (.int .u8) (bytesI (acc)))] 2 [0] (.tup []) [(0,.cells 131 [.loc 0 0,.ref 2,.int .i64 (n:Int)]),(2,.row 5 (.int .u8) (bytesI (acc++Zca n)))] 3:=by
 have hC:=sar_gcp hM hH n hn acc hb
 generalize acc++Zca n=z at*
 refine Pa.fn.gcp (by simp) (by simp[Zu,Zw,Zv,Zj,Ze,Vc.S1.okN,At.okN,SV.okN,Res.okN,Res.outOk,Zo,Res.own,Value.oneCell']) fun w X fr hglob=> ?_
 repeat'(first|(first|refine Stp.h ?_|(refine Za.gcp hglob hC ?_ ?_;focus simp[Zb];done))<;>try simp only[Zd,simprocAttr,↓reduceIte,reduceCtorEq,implies_true]|(with_reducible first|assumption|refine And.intro ?_ ?_)|(intro h;first|omega|exact tg h ‹_›|exact tg ‹_› h|skip))
 all_goals first|omega|skip
set_option maxHeartbeats 4000000 in
set_option maxRecDepth 100000 in
theorem Zgk{G:Nat}{H:Nat→Option Obj}(s:List UInt8)(f:Nat)(d:UInt8)(n:Nat)(nm hd body:List UInt8)(hnm:nm=s++[d])(hhd:hd=nm++[58]++[10])(hf:flk Oe s=some f)(hd1:IntKind.u8.wrap (((d.toNat:Nat):Int)-48)=(n:Int))(hn:n≤100)(hs:s.length≤10)(hin:nm∈Vy)
 (hent:Xr Tryz.prog f=true)(hC:GCp G H Tryz.prog f [.a (.loc 0 0)] [(0,.cells 131 [.loc 0 0,.ref 1,.int .i64 (n:Int)]),(1,.row 5 (.int .u8) (bytesI (hd)))] 2 [0] (.tup []) [(0,.cells 131 [.loc 0 0,.ref 2,.int .i64 (n:Int)]),(2,.row 5 (.int .u8) (bytesI (hd++body)))] 3):
 GCp G H Tryz.prog 59 [.a (.str nm)] [] 0 [] (.tup [.a (.str (hd++body)),.a (.int .i64 0)]) [] 0:=by
 have hlen:nm.length=s.length+1:=by rw[hnm];simp
 have hCon:=Zel Vy nm (by decide)
 rw[decide_eq_true hin]at hCon
 have hput:=Zfq (n:Int) (nm++[58]) (by simp only[List.length_append,List.length_cons,List.length_nil];omega) (by rw[hnm];simp[Lib.hasSuffix,List.isSuffixOf,List.isPrefixOf])
 rw[←hhd]at hput
 have hstr:=Zge (n:Int) (hd++body) (by rw[hhd];simp)
 have hk:IntKind.i64.wrap ((nm.length:Int)-1)=(s.length:Int):=by rw[Zm (by omega) (by omega)];omega
 have hkt:((s.length:Int)).toNat=s.length:=by omega
 have htake:nm.take s.length=s:=by rw[hnm];simp
 have hget:Wc nm s.length=((d.toNat:Nat):Int):=by rw[hnm];simp[Wc]
 have hwn:IntKind.i64.wrap (n:Int)=(n:Int):=Zm (by omega) (by omega)
 generalize hd++body=tx at*
 refine H1.fn.gcp (by simp) (by simp[Zu,Zw,Zv,Zj,Ze,Vc.S1.okN,At.okN,SV.okN,Res.okN,Res.outOk,Zo,Res.own,Value.oneCell']) fun w X fr hglob=> ?_
 repeat'(first|(first|refine Stp.h ?_|(refine Za.gc Di ?_ ?_;focus simp[Zb];done)|(refine rq hCon ?_ ?_;focus simp[Zz];done)|(refine Za.gc hput ?_ ?_;focus simp[Zb];done)|(refine Za.gc Ct ?_ ?_;focus simp[Zb];done)|(refine Za.gcp hglob hC ?_ ?_;focus simp[Zb];done)|(refine Za.gc hstr ?_ ?_;focus simp[Zb];done))<;>try simp only[Zd,simprocAttr,↓reduceIte,reduceCtorEq,implies_true,hf,hk,hkt,htake,hget,hd1,hwn,hent,Int.toNat_zero,List.drop_zero,Bool.not_true,Bool.not_false]|(with_reducible first|assumption|refine And.intro ?_ ?_)|(intro h;first|omega|exact tg h ‹_›|exact tg ‹_› h|skip))
 all_goals first|omega|skip
def Zdj:List (List UInt8):=[[109,117,108],[115,97,114],[115,100,105,118],[115,104,108],[115,104,114],[115,114,101,109],[117,100,105,118],[117,114,101,109]]
def Zdi:List Nat:=[88,98,92,95,97,94,89,91]
def J3:Nat→Nat→List UInt8
 |0,n=>mulS n
 |1,n=>Zca n
 |2,n=>Rk n
 |3,n=>Zcf n
 |4,n=>Zcg n
 |5,n=>Rl n
 |6,n=>Ig n
 |_,n=>Ih n
def Oq:Nat→Nat
 |0=>1
 |1=>2
 |_=>4
def Ft:Nat→UInt8
 |0=>49
 |1=>50
 |_=>52
def nameAt(i:Nat):List UInt8:=Vy.getD i []
def textAt(i:Nat):List UInt8:=(nameAt i++[58]++[10])++J3 (i/3) (Oq (i%3))
theorem name_of:∀k,k<8→∀j,j<3→nameAt (3*k+j)=Zdj.getD k []++[Ft j]:=by decide+kernel
theorem flk_of:∀k,k<8→flk Oe (Zdj.getD k [])=some (Zdi.getD k 0):=by decide+kernel
theorem Zgr:∀k,k<8→∀j,j<3→(J3 k (Oq j)).length≤2000:=by decide+kernel
theorem name_in:∀k,k<8→∀j,j<3→nameAt (3*k+j)∈Vy:=by decide+kernel
theorem Ze7:∀k,k<8→(Zdj.getD k []).length≤10:=by decide+kernel
theorem Zh6:∀k,k<8→∀j,j<3→(3*k+j)/3=k∧(3*k+j)%3=j:=by omega
theorem Zgv:∀j,j<3→IntKind.u8.wrap (((Ft j).toNat:Int)-48)=(Oq j:Int)∧1≤Oq j∧Oq j≤100:=by decide+kernel
theorem Zhi:∀i,i<24→(nameAt i).length≤5:=by decide+kernel
theorem V1{G:Nat}{H:Nat→Option Obj}(k:Nat)(hk:k<8)(hent:Xr Tryz.prog (Zdi.getD k 0)=true)
 (hC:∀n:Nat,1≤n∧n≤100→∀acc:List UInt8,acc.length+(J3 k n).length≤100000→
   GCp G H Tryz.prog (Zdi.getD k 0) [.a (.loc 0 0)] [(0,.cells 131 [.loc 0 0,.ref 1,.int .i64 (n:Int)]),(1,.row 5 (.int .u8) (bytesI acc))] 2 [0] (.tup []) [(0,.cells 131 [.loc 0 0,.ref 2,.int .i64 (n:Int)]),(2,.row 5 (.int .u8) (bytesI (acc++J3 k n)))] 3)(j:Nat)(hj:j<3):
 GCp G H Tryz.prog 59 [.a (.str (nameAt (3*k+j)))] [] 0 [] (.tup [.a (.str (textAt (3*k+j))),.a (.int .i64 0)]) [] 0:=by
 have hnl:=Zhi (3*k+j) (by omega)
 obtain⟨h1,h2⟩:=Zh6 k hk j hj
 obtain⟨h3,h4,h5⟩:=Zgv j hj
 unfold textAt
 rw[h1,h2]
 exact Zgk (Zdj.getD k []) (Zdi.getD k 0) (Ft j) (Oq j) (nameAt (3*k+j)) (nameAt (3*k+j)++[58]++[10]) (J3 k (Oq j)) (name_of k hk j hj) rfl (flk_of k hk) h3 h5 (Ze7 k hk) (name_in k hk j hj) hent
  (hC (Oq j) ⟨h4,h5⟩ _ (by have:=Zgr k hk j hj;simp only[List.length_append,List.length_cons,List.length_nil];omega))
theorem Zgj{G:Nat}{H:Nat→Option Obj}(hM:Yo G H)(hH:Z5 G H)(i:Nat)(hi:i<24):
 GCp G H Tryz.prog 59 [.a (.str (nameAt i))] [] 0 [] (.tup [.a (.str (textAt i)),.a (.int .i64 0)]) [] 0:=by
 have e:i=3*(i/3)+i%3:=by omega
 have hj:i%3<3:=by omega
 have hk:i/3=0∨i/3=1∨i/3=2∨i/3=3∨i/3=4∨i/3=5∨i/3=6∨i/3=7:=by omega
 rw[e]
 generalize i%3=j at hj
 generalize i/3=k at hk
 clear e hi
 rcases hk with rfl|rfl|rfl|rfl|rfl|rfl|rfl|rfl
 ·exact V1 0 (by decide) Tu.enters (fun n hn acc hb=>mul_gcp hM hH n hn acc hb) j hj
 ·exact V1 1 (by decide) Pa.enters (fun n hn acc hb=>Zbb hM hH n hn acc hb) j hj
 ·exact V1 2 (by decide) Q6.enters (fun n hn acc hb=>Za7 hM hH n hn acc hb) j hj
 ·exact V1 3 (by decide) Q8.enters (fun n hn acc hb=>Za9 hM hH n hn acc hb) j hj
 ·exact V1 4 (by decide) Q9.enters (fun n hn acc hb=>Zba hM hH n hn acc hb) j hj
 ·exact V1 5 (by decide) Q7.enters (fun n hn acc hb=>Za8 hM hH n hn acc hb) j hj
 ·exact V1 6 (by decide) Q4.enters (fun n hn acc hb=>Za5 hM hH n hn acc hb) j hj
 ·exact V1 7 (by decide) Q5.enters (fun n hn acc hb=>Za6 hM hH n hn acc hb) j hj
def linesAt(i:Nat):List Ln:=(Kq (textAt i)).1
theorem Bq:∀i,i<24→(Kq (textAt i)).2=(0,0)∧(textAt i).length≤2000∧(linesAt i).length≤100:=by decide+kernel
def unitsTo(i:Nat):List (List UInt8×List Ln):=(List.range i).map fun k=>(nameAt k,linesAt k)
theorem E6(i:Nat):unitsTo (i+1)=unitsTo i++[(nameAt i,linesAt i)]:=by simp[unitsTo,List.range_succ]
theorem Oy(i:Nat):(unitsTo i).length=i:=by simp[unitsTo]
theorem Ox(G:Nat)(H:Nat→Option Obj)(s:List UInt8)(hs:s.length≤2000000):
 GCp G H Tryz.prog 107 [.a (.str s),.a (.str [32,9])] [] 0 [] (.one (.a (.str (trimB s)))) [] 0:=
 Ju G H s [32,9] (by omega) (by decide) (by decide)
set_option maxHeartbeats 16000000 in
set_option maxRecDepth 100000 in
theorem J0{G:Nat}{H:Nat→Option Obj}{w:World}{X:List Nat}{fr:List Value}{Q:Exit→St→Prop}(hglob:Wb G H w X)(op:Int)(raw:List (List UInt8))(hlen:raw.length≤3000000)(hps:∀p∈raw,p.length≤2000000)
 (hQ:∀(lo d s:Nat),lo≤raw.length→Hv op d s ((raw.drop lo).map trimB)=insV op (raw.map trimB)→∀S',Ent ⟨Tryz.prog,w,X,149,fr⟩ S' ⟨[(11,.one (.a (.ref 2))),(14,.one (.a (.bool (V7 op)))),(10,.one (.a (.int .i64 op))),(2,.one (.a (.loc 0 0)))],[(0,.cells 72 [.str [],.int .i64 op,.int .i64 (d:Int),.int .i64 (s:Int),.int .i64 (0:Int),.str []]),(1,.row 9 .str raw),(2,.view 1 1 lo raw.length)],3⟩→Q (.exit 0) S')
 (hE:∀e,insV op (raw.map trimB)= .error e→∀S':St,Zo S'.slots 2=some (.one (.a (.loc 0 0)))→Zo S'.slots 3=some (.one (.a (.bool false)))→Zo S'.slots 4=some (.one (.a (.int .i64 e)))→Zo S'.res 0=some (.cells 72 [.str [],.int .i64 0,.int .i64 0,.int .i64 0,.int .i64 0,.str []])→Q .ret S'):
 T ⟨Tryz.prog,w,X,149,fr⟩ (.loop W1.c34) Q ⟨[(84,.one (.a (.int .i64 0))),(83,.one (.a (.int .i64 2))),(82,.one (.a (.ref 3))),(11,.one (.a (.ref 2))),(14,.one (.a (.bool (V7 op)))),(10,.one (.a (.int .i64 op))),(2,.one (.a (.loc 0 0)))],[(0,.cells 72 [.str [],.int .i64 op,.int .i64 0,.int .i64 0,.int .i64 0,.str []]),(1,.row 9 .str raw),(2,.view 1 1 0 raw.length),(3,.lit 175 2 2 [.bool (R7 op),.loc 0 2,.bool (R8 op),.loc 0 3])],4⟩:=by
 generalize hR:insV op (raw.map trimB)=R at hQ hE
 refine T.loop (ι:= {p:Nat×Nat×Nat×Nat//p.2.1≤raw.length∧
  ((p.1=0∧p.2.2=(0,0)∧insV op ((raw.drop p.2.1).map trimB)=R)∨(p.1=1∧p.2.2.2=0∧insS op p.2.2.1 ((raw.drop p.2.1).map trimB)=R)∨(p.1=2∧Hv op p.2.2.1 p.2.2.2 ((raw.drop p.2.1).map trimB)=R))})
  (fun y=>⟨[(84,.one (.a (.int .i64 (y.1.1:Int)))),(83,.one (.a (.int .i64 2))),(82,.one (.a (.ref 3))),(11,.one (.a (.ref 2))),(14,.one (.a (.bool (V7 op)))),(10,.one (.a (.int .i64 op))),(2,.one (.a (.loc 0 0)))],[(0,.cells 72 [.str [],.int .i64 op,.int .i64 (y.1.2.2.1:Int),.int .i64 (y.1.2.2.2:Int),.int .i64 (0:Int),.str []]),(1,.row 9 .str raw),(2,.view 1 1 y.1.2.1 raw.length),(3,.lit 175 2 2 [.bool (R7 op),.loc 0 2,.bool (R8 op),.loc 0 3])],4⟩) (fun y=>2-y.1.1) ⟨(0,0,0,0),by simp,.inl ⟨rfl,rfl,by simpa using hR⟩⟩ (Ent.mk1 (id) (by simp[Zy])) ?_
 rintro⟨⟨j,lo,d,s⟩,ha,hst⟩
 simp only at ha hst
 have hpe:lo<raw.length→∃p,p.length≤2000000∧raw.getD lo (Kd.dflt .str)=p∧(raw.drop lo).map trimB=trimB p::(raw.drop (lo+1)).map trimB:=by
  intro hlt
  refine⟨raw.getD lo [],hps _ (by simp[List.getD,hlt]),rfl,?_⟩
  have hg:raw.getD lo []=raw[lo]:=by simp[List.getD,hlt]
  rw[hg,List.drop_eq_getElem_cons hlt,List.map_cons]
 have hz1:lo+(0:Int).toNat=lo:=rfl
 have hz2:lo+(1:Int).toNat=lo+1:=rfl
 have hvl:lo+(((raw.length-lo:Nat):Int)).toNat=raw.length:=by omega
 rcases hst with⟨rfl,hz,hrun⟩|⟨rfl,hz,hrun⟩|⟨rfl,hrun⟩
 ·obtain⟨rfl,rfl⟩:d=0∧s=0:=by simpa using hz
  have hj:((((0:Nat):Int)).toNat:Nat)=0:=rfl
  have hw:IntKind.i64.wrap (((0:Nat):Int)+1)=((1:Nat):Int):=Zx (by omega)
  rw[Zdh]at hrun
  cases hd:R7 op
  ·rw[hd]at hrun
   rw[A7]at hrun
   simp only at hrun
   repeat'(first|(first|refine Stp.h ?_)<;>try simp only[Zd,simprocAttr,↓reduceIte,reduceCtorEq,implies_true,hd,hj,hw,Int.ofNat_lt]|(with_reducible first|assumption|refine And.intro ?_ ?_)|(intro h;first|omega|exact tg h ‹_›|exact tg ‹_› h|skip))
   all_goals first|omega|skip
   exact⟨⟨(1,lo,0,0),ha,.inr (.inl ⟨rfl,rfl,hrun⟩)⟩,(Ent.mk1 (id) (by simp[Zy,hd])),by simp only;omega⟩
  ·rw[hd]at hrun
   by_cases hlt:lo<raw.length
   ·obtain⟨p,hpl,hpg,hdrop⟩:=hpe hlt
    rw[hdrop]at hrun
    have hne:¬((raw.length-lo:Nat):Int)=0:=by omega
    have hT:=Ox G H p hpl
    have htl:=V6 p
    generalize trimB p=q at hT hrun htl
    cases hv:El q with
    |none=>
     rw[G1 hv]at hrun
     simp only at hrun
     obtain⟨m,hN⟩:=Kr G H hv (by omega)
     repeat'(first|(first|refine Stp.h ?_|(refine Za.gcp hglob hT ?_ ?_;focus simp[Zb];done)|(refine Za.gcp hglob hN ?_ ?_;focus simp[Zb];done))<;>try simp only[Zd,simprocAttr,↓reduceIte,reduceCtorEq,implies_true,hd,hj,hw,hpg,hne,hz1,Int.ofNat_lt]|(with_reducible first|assumption|refine And.intro ?_ ?_)|(intro h;first|omega|exact tg h ‹_›|exact tg ‹_› h|skip))
     all_goals first|omega|skip
     all_goals exact hE _ hrun.symm _ rfl rfl rfl rfl
    |some n=>
     rw[G4 hv]at hrun
     simp only at hrun
     have hN:=M4 G H hv
     repeat'(first|(first|refine Stp.h ?_|(refine Za.gcp hglob hT ?_ ?_;focus simp[Zb];done)|(refine Za.gcp hglob hN ?_ ?_;focus simp[Zb];done))<;>try simp only[Zd,simprocAttr,↓reduceIte,reduceCtorEq,implies_true,hd,hj,hw,hpg,hne,hz1,hz2,hvl,Int.ofNat_lt]|(with_reducible first|assumption|refine And.intro ?_ ?_)|(intro h;first|omega|exact tg h ‹_›|exact tg ‹_› h|skip))
     all_goals first|omega|skip
     all_goals exact⟨⟨(1,lo+1,n,0),hlt,.inr (.inl ⟨rfl,rfl,hrun⟩)⟩,(Ent.mk1 (fun n=>if n=2 then 5 else n) (by simp[Zy,hd])),by simp only;omega⟩
   ·have hae:lo=raw.length:=by omega
    have hd0:raw.drop lo=[]:=by rw[hae];exact List.drop_length
    rw[hd0,List.map_nil,G3]at hrun
    simp only at hrun
    have heq:((raw.length-lo:Nat):Int)=0:=by omega
    repeat'(first|(first|refine Stp.h ?_)<;>try simp only[Zd,simprocAttr,↓reduceIte,reduceCtorEq,implies_true,hd,hj,hw,heq,Int.ofNat_lt]|(with_reducible first|assumption|refine And.intro ?_ ?_)|(intro h;first|omega|exact tg h ‹_›|exact tg ‹_› h|skip))
    all_goals first|omega|skip
    all_goals exact hE _ hrun.symm _ rfl rfl rfl rfl
 ·obtain rfl:s=0:=hz
  have hj:((((1:Nat):Int)).toNat:Nat)=1:=rfl
  have hw:IntKind.i64.wrap (((1:Nat):Int)+1)=((2:Nat):Int):=Zx (by omega)
  unfold insS at hrun
  cases hd:R8 op
  ·rw[hd]at hrun
   rw[A7]at hrun
   simp only at hrun
   repeat'(first|(first|refine Stp.h ?_)<;>try simp only[Zd,simprocAttr,↓reduceIte,reduceCtorEq,implies_true,hd,hj,hw,Int.ofNat_lt]|(with_reducible first|assumption|refine And.intro ?_ ?_)|(intro h;first|omega|exact tg h ‹_›|exact tg ‹_› h|skip))
   all_goals first|omega|skip
   exact⟨⟨(2,lo,d,0),ha,.inr (.inr ⟨rfl,hrun⟩)⟩,(Ent.mk1 (id) (by simp[Zy,hd])),by simp only;omega⟩
  ·rw[hd]at hrun
   by_cases hlt:lo<raw.length
   ·obtain⟨p,hpl,hpg,hdrop⟩:=hpe hlt
    rw[hdrop]at hrun
    have hne:¬((raw.length-lo:Nat):Int)=0:=by omega
    have hT:=Ox G H p hpl
    have htl:=V6 p
    generalize trimB p=q at hT hrun htl
    cases hv:El q with
    |none=>
     rw[G1 hv]at hrun
     simp only at hrun
     obtain⟨m,hN⟩:=Kr G H hv (by omega)
     repeat'(first|(first|refine Stp.h ?_|(refine Za.gcp hglob hT ?_ ?_;focus simp[Zb];done)|(refine Za.gcp hglob hN ?_ ?_;focus simp[Zb];done))<;>try simp only[Zd,simprocAttr,↓reduceIte,reduceCtorEq,implies_true,hd,hj,hw,hpg,hne,hz1,Int.ofNat_lt]|(with_reducible first|assumption|refine And.intro ?_ ?_)|(intro h;first|omega|exact tg h ‹_›|exact tg ‹_› h|skip))
     all_goals first|omega|skip
     all_goals exact hE _ hrun.symm _ rfl rfl rfl rfl
    |some n=>
     rw[G4 hv]at hrun
     simp only at hrun
     have hN:=M4 G H hv
     repeat'(first|(first|refine Stp.h ?_|(refine Za.gcp hglob hT ?_ ?_;focus simp[Zb];done)|(refine Za.gcp hglob hN ?_ ?_;focus simp[Zb];done))<;>try simp only[Zd,simprocAttr,↓reduceIte,reduceCtorEq,implies_true,hd,hj,hw,hpg,hne,hz1,hz2,hvl,Int.ofNat_lt]|(with_reducible first|assumption|refine And.intro ?_ ?_)|(intro h;first|omega|exact tg h ‹_›|exact tg ‹_› h|skip))
     all_goals first|omega|skip
     all_goals exact⟨⟨(2,lo+1,d,n),hlt,.inr (.inr ⟨rfl,hrun⟩)⟩,(Ent.mk1 (fun n=>if n=2 then 5 else n) (by simp[Zy,hd])),by simp only;omega⟩
   ·have hae:lo=raw.length:=by omega
    have hd0:raw.drop lo=[]:=by rw[hae];exact List.drop_length
    rw[hd0,List.map_nil,G3]at hrun
    simp only at hrun
    have heq:((raw.length-lo:Nat):Int)=0:=by omega
    repeat'(first|(first|refine Stp.h ?_)<;>try simp only[Zd,simprocAttr,↓reduceIte,reduceCtorEq,implies_true,hd,hj,hw,heq,Int.ofNat_lt]|(with_reducible first|assumption|refine And.intro ?_ ?_)|(intro h;first|omega|exact tg h ‹_›|exact tg ‹_› h|skip))
    all_goals first|omega|skip
    all_goals exact hE _ hrun.symm _ rfl rfl rfl rfl
 ·repeat'(first|(first|refine Stp.h ?_)<;>try simp only[Zd,simprocAttr,↓reduceIte,reduceCtorEq,implies_true,Int.ofNat_lt]|(with_reducible first|assumption|refine And.intro ?_ ?_)|(intro h;first|omega|exact tg h ‹_›|exact tg ‹_› h|skip))
  all_goals first|omega|skip
  exact hQ lo d s ha hrun _ (Ent.mk1 (id) (by simp[Zy]))
theorem Ks(s:List UInt8)(c:UInt8):Lib.hasSuffix s [c]=decide (s.getLast? =some c):=by
 unfold Lib.hasSuffix List.isSuffixOf
 rcases List.eq_nil_or_concat s with rfl|⟨r,x,rfl⟩
 ·rfl
 ·simp only[List.concat_eq_append,List.reverse_append,List.reverse_cons,List.reverse_nil,List.nil_append,List.cons_append,List.isPrefixOf,Bool.and_true,List.getLast?_concat,Option.some.injEq]
  rw[Bool.eq_iff_iff,beq_iff_eq,decide_eq_true_eq]
  first|exact Iff.rfl|exact⟨fun e=>e.symm,fun e=>e.symm⟩
theorem Zcl{s:List UInt8}{c:UInt8}(h:s.getLast? =some c):Lib.trimSuffix s [c]=s.dropLast:=by
 unfold Lib.trimSuffix
 rw[Ks,decide_eq_true h,if_pos rfl,List.dropLast_eq_take]
 rfl
def Zft:Except Int Ln→Ln×Bool×Int
 |.error e=>(ln0,false,e)
 |.ok l=>(l,true,0)
theorem Zbf{s:List UInt8}(h:trimB (upToS 59 s).1=[]):lineT s=(ln0,false,0):=by unfold lineT Nl;simp only[h,if_true]
theorem Cu{s:List UInt8}(h:trimB (upToS 59 s).1≠[])(hl:(trimB (upToS 59 s).1).getLast? =some 58)(hn:Xk (trimB (upToS 59 s).1).dropLast=true):lineT s=(⟨(trimB (upToS 59 s).1).dropLast,Vt,[]⟩,true,0):=by
 unfold lineT Nl;simp only[h,hl,hn,if_true,if_false]
theorem Zbe{s:List UInt8}(h:trimB (upToS 59 s).1≠[])(hl:(trimB (upToS 59 s).1).getLast? =some 58)(hn:Xk (trimB (upToS 59 s).1).dropLast=false):lineT s=(ln0,false,7):=by
 unfold lineT Nl;simp only[h,hl,hn,if_true,if_false,Bool.false_eq_true]
theorem Zbd{s:List UInt8}(h:trimB (upToS 59 s).1≠[])(hl:(trimB (upToS 59 s).1).getLast? ≠some 58)(hk:kindS (upToS 32 (trimB (upToS 59 s).1)).1<0):lineT s=(ln0,false,1):=by
 unfold lineT Nl;simp only[h,hl,hk,if_true,if_false]
theorem Zfc{s:List UInt8}(h:trimB (upToS 59 s).1≠[])(hl:(trimB (upToS 59 s).1).getLast? ≠some 58)(hk:¬kindS (upToS 32 (trimB (upToS 59 s).1)).1<0):
 lineT s=Zft (insV (kindS (upToS 32 (trimB (upToS 59 s).1)).1) (Rw (upToS 32 (trimB (upToS 59 s).1)).2.1)):=by
 unfold lineT Nl
 simp only[h,hl,hk,if_false]
 cases insV (kindS (upToS 32 (trimB (upToS 59 s).1)).1) (Rw (upToS 32 (trimB (upToS 59 s).1)).2.1)<;>rfl
theorem Zhk{q:List UInt8}{n m:Nat}(h:N9 q m=some n):I2 q=some n∧n≤m:=by
 unfold N9 at h
 split at h
 ·rename_i v hv
  split at h
  ·cases h;exact⟨hv,by assumption⟩
  ·cases h
 ·cases h
theorem Be(G:Nat)(H:Nat→Option Obj){q:List UInt8}(h:N9 q 65535=none)(hs:q.length≤2000000):
 ∃m:Int,GCp G H Tryz.prog 113 [.a (.str q),.a (.int .i64 65535)] [] 0 [] (.tup [.a (.int .i64 m),.a (.bool false)]) [] 0:=by
 cases hv:I2 q with
 |none=>exact⟨0,Gv G H hv 65535 (by omega)⟩
 |some v=>
  have hN:=Pi G H hv 65535
  have:¬v≤65535:=by
   intro e
   unfold N9 at h
   rw[hv]at h
   simp[e]at h
  rw[decide_eq_false (by omega)]at hN
  exact⟨v,hN⟩
theorem Bf(G:Nat)(H:Nat→Option Obj){q:List UInt8}{n:Nat}(h:N9 q 65535=some n):
 GCp G H Tryz.prog 113 [.a (.str q),.a (.int .i64 65535)] [] 0 [] (.tup [.a (.int .i64 (n:Int)),.a (.bool true)]) [] 0:=by
 obtain⟨hv,hn⟩:=Zhk h
 have hN:=Pi G H hv 65535
 rwa [decide_eq_true (by omega)]at hN
def rawS(rest:List UInt8):List (List UInt8):=if trimB rest=[]then[]else splitS 44 (trimB rest)
theorem Bo(rest:List UInt8):Rw rest=(rawS rest).map trimB:=by
 unfold Rw rawS
 split<;>rfl
theorem Zhn(rest:List UInt8):(∀p∈rawS rest,p.length≤rest.length)∧(rawS rest).length≤rest.length+1:=by
 have ht:=V6 rest
 refine⟨fun p hp=> ?_,?_⟩
 ·unfold rawS at hp
  split at hp
  ·cases hp
  ·have h1:=Pp 44 _ p hp
   omega
 ·have:=(Zbq rest).2
  rw[Bo,List.length_map]at this
  exact this
theorem IndexK(v:List UInt8):RdC Tryz.prog 101 [.ro .str Iz,.v (.a (.str v))] (.one (.a (.int .i64 (kindS v)))):=Jr Iz v (by decide)
theorem Za4{n:Int}(h0:0≤n)(h1:n≤32):U8 n=true:=by simp[U8,h0,h1]
set_option maxHeartbeats 16000000 in
set_option maxRecDepth 100000 in
theorem Gp{G:Nat}{H:Nat→Option Obj}{w:World}{X:List Nat}{fr:List Value}{Q:Exit→St→Prop}(hglob:Wb G H w X)(op:Int)(raw:List (List UInt8))(hlen:raw.length≤3000000)(hps:∀p∈raw,p.length≤2000000)(lo d s:Nat)(hlo:lo≤raw.length)
 (hE:∀S':St,Zo S'.slots 2=some (.one (.a (.loc 0 0)))→Zo S'.slots 3=some (.one (.a (.bool (Zft (Hv op d s ((raw.drop lo).map trimB))).2.1)))→Zo S'.slots 4=some (.one (.a (.int .i64 (Zft (Hv op d s ((raw.drop lo).map trimB))).2.2)))→Zo S'.res 0=some (.cells 72 (Zft (Hv op d s ((raw.drop lo).map trimB))).1.cells)→Q .ret S'):
 T ⟨Tryz.prog,w,X,149,fr⟩ W1.c58 Q ⟨[(11,.one (.a (.ref 2))),(14,.one (.a (.bool (V7 op)))),(10,.one (.a (.int .i64 op))),(2,.one (.a (.loc 0 0)))],[(0,.cells 72 [.str [],.int .i64 op,.int .i64 (d:Int),.int .i64 (s:Int),.int .i64 0,.str []]),(1,.row 9 .str raw),(2,.view 1 1 lo raw.length)],3⟩:=by
 generalize hR:Hv op d s ((raw.drop lo).map trimB)=R at hE
 unfold Hv at hR
 cases hi:V7 op
 ·rw[Zh5 hi]at hR
  simp only at hR
  by_cases hd:lo<raw.length
  ·have hne:(raw.drop lo).map trimB≠[]:=by simp;omega
   rw[if_neg hne]at hR
   subst hR
   have hgt:(0:Int)<((raw.length-lo:Nat):Int):=by omega
   repeat'(first|(first|refine Stp.h ?_)<;>try simp only[Zd,simprocAttr,↓reduceIte,reduceCtorEq,implies_true,hi,hgt,Int.ofNat_lt]|(with_reducible first|assumption|refine And.intro ?_ ?_)|(intro h;first|omega|exact tg h ‹_›|exact tg ‹_› h|skip))
   all_goals first|omega|skip
   all_goals first|exact hE _ rfl rfl rfl rfl|exact T.ret (hE _ rfl rfl rfl rfl)
  ·have hne:(raw.drop lo).map trimB=[]:=by simp;omega
   rw[if_pos hne]at hR
   subst hR
   have hgt:¬(0:Int)<((raw.length-lo:Nat):Int):=by omega
   repeat'(first|(first|refine Stp.h ?_)<;>try simp only[Zd,simprocAttr,↓reduceIte,reduceCtorEq,implies_true,hi,hgt,Int.ofNat_lt]|(with_reducible first|assumption|refine And.intro ?_ ?_)|(intro h;first|omega|exact tg h ‹_›|exact tg ‹_› h|skip))
   all_goals first|omega|skip
   all_goals first|exact hE _ rfl rfl rfl rfl|exact T.ret (hE _ rfl rfl rfl rfl)
 ·by_cases hlt:lo<raw.length
  ·obtain⟨p,hpl,hpg,hdrop⟩:∃p,p.length≤2000000∧raw.getD lo (Kd.dflt .str)=p∧(raw.drop lo).map trimB=trimB p::(raw.drop (lo+1)).map trimB:=by
    refine⟨raw.getD lo [],hps _ (by simp[List.getD,hlt]),rfl,?_⟩
    have hg:raw.getD lo []=raw[lo]:=by simp[List.getD,hlt]
    rw[hg,List.drop_eq_getElem_cons hlt,List.map_cons]
   rw[hdrop]at hR
   have hne:¬((raw.length-lo:Nat):Int)=0:=by omega
   have hz1:lo+(0:Int).toNat=lo:=rfl
   have hz2:lo+(1:Int).toNat=lo+1:=rfl
   have hvl:lo+(((raw.length-lo:Nat):Int)).toNat=raw.length:=by omega
   have hT:=Ox G H p hpl
   have htl:=V6 p
   generalize trimB p=q at hT hR htl
   have hmore:((raw.drop (lo+1)).map trimB≠[]∧(0:Int)<((raw.length-(lo+1):Nat):Int))∨((raw.drop (lo+1)).map trimB=[]∧¬(0:Int)<((raw.length-(lo+1):Nat):Int)):=by
    by_cases hd:lo+1<raw.length
    ·exact .inl ⟨by simp;omega,by omega⟩
    ·exact .inr ⟨by simp;omega,by omega⟩
   cases hv:N9 q 65535 with
   |some n=>
    rw[Zf9 hi hv]at hR
    simp only at hR
    have hN:=Bf G H hv
    rcases hmore with⟨hne2,hgt⟩|⟨hne2,hgt⟩
    ·rw[if_neg hne2]at hR
     subst hR
     repeat'(first|(first|refine Stp.h ?_|(refine Za.gcp hglob hT ?_ ?_;focus simp[Zb];done)|(refine Za.gcp hglob hN ?_ ?_;focus simp[Zb];done))<;>try simp only[Zd,simprocAttr,↓reduceIte,reduceCtorEq,implies_true,hi,hpg,hne,hz1,hz2,hvl,hgt,Int.ofNat_lt]|(with_reducible first|assumption|refine And.intro ?_ ?_)|(intro h;first|omega|exact tg h ‹_›|exact tg ‹_› h|skip))
     all_goals first|omega|skip
     all_goals first|exact hE _ rfl rfl rfl rfl|exact T.ret (hE _ rfl rfl rfl rfl)
    ·rw[if_pos hne2]at hR
     subst hR
     repeat'(first|(first|refine Stp.h ?_|(refine Za.gcp hglob hT ?_ ?_;focus simp[Zb];done)|(refine Za.gcp hglob hN ?_ ?_;focus simp[Zb];done))<;>try simp only[Zd,simprocAttr,↓reduceIte,reduceCtorEq,implies_true,hi,hpg,hne,hz1,hz2,hvl,hgt,Int.ofNat_lt]|(with_reducible first|assumption|refine And.intro ?_ ?_)|(intro h;first|omega|exact tg h ‹_›|exact tg ‹_› h|skip))
     all_goals first|omega|skip
     all_goals first|exact hE _ rfl rfl rfl rfl|exact T.ret (hE _ rfl rfl rfl rfl)
   |none=>
    obtain⟨m,hN⟩:=Be G H hv (by omega)
    have hNm:=Sh q
    have hRf:=Rg op
    by_cases hr:Xk q=true∧Ur op=true
    ·rw[Zga hi hv hr]at hR
     simp only at hR
     rw[hr.1]at hNm
     rw[hr.2]at hRf
     rcases hmore with⟨hne2,hgt⟩|⟨hne2,hgt⟩
     ·rw[if_neg hne2]at hR
      subst hR
      repeat'(first|(first|refine Stp.h ?_|(refine Za.gcp hglob hT ?_ ?_;focus simp[Zb];done)|(refine Za.gcp hglob hN ?_ ?_;focus simp[Zb];done)|(refine rq hNm ?_ ?_;focus simp[Zz];done)|(refine rq hRf ?_ ?_;focus simp[Zz];done)|refine Zf.split ?_ ?_|refine Zi.no ?_)<;>try simp only[Zd,simprocAttr,↓reduceIte,reduceCtorEq,implies_true,hi,hpg,hne,hz1,hz2,hvl,hgt,Int.ofNat_lt]|(with_reducible first|assumption|refine And.intro ?_ ?_)|(intro h;first|omega|exact tg h ‹_›|exact tg ‹_› h|skip))
      all_goals first|omega|skip
      all_goals first|exact hE _ rfl rfl rfl rfl|exact T.ret (hE _ rfl rfl rfl rfl)
     ·rw[if_pos hne2]at hR
      subst hR
      repeat'(first|(first|refine Stp.h ?_|(refine Za.gcp hglob hT ?_ ?_;focus simp[Zb];done)|(refine Za.gcp hglob hN ?_ ?_;focus simp[Zb];done)|(refine rq hNm ?_ ?_;focus simp[Zz];done)|(refine rq hRf ?_ ?_;focus simp[Zz];done)|refine Zf.split ?_ ?_|refine Zi.no ?_)<;>try simp only[Zd,simprocAttr,↓reduceIte,reduceCtorEq,implies_true,hi,hpg,hne,hz1,hz2,hvl,hgt,Int.ofNat_lt]|(with_reducible first|assumption|refine And.intro ?_ ?_)|(intro h;first|omega|exact tg h ‹_›|exact tg ‹_› h|skip))
      all_goals first|omega|skip
      all_goals first|exact hE _ rfl rfl rfl rfl|exact T.ret (hE _ rfl rfl rfl rfl)
    ·rw[Zf7 hi hv hr]at hR
     simp only at hR
     subst hR
     cases hn:Xk q
     ·rw[hn]at hNm
      repeat'(first|(first|refine Stp.h ?_|(refine Za.gcp hglob hT ?_ ?_;focus simp[Zb];done)|(refine Za.gcp hglob hN ?_ ?_;focus simp[Zb];done)|(refine rq hNm ?_ ?_;focus simp[Zz];done)|(refine rq hRf ?_ ?_;focus simp[Zz];done)|refine Zf.split ?_ ?_|refine Zi.no ?_)<;>try simp only[Zd,simprocAttr,↓reduceIte,reduceCtorEq,implies_true,hi,hpg,hne,hz1,Int.ofNat_lt]|(with_reducible first|assumption|refine And.intro ?_ ?_)|(intro h;first|omega|exact tg h ‹_›|exact tg ‹_› h|skip))
      all_goals first|omega|skip
      all_goals first|exact hE _ rfl rfl rfl rfl|exact T.ret (hE _ rfl rfl rfl rfl)
     ·have hrf:Ur op=false:=by
       cases hb:Ur op with
       |false=>rfl
       |true=>exact absurd ⟨hn,hb⟩ hr
      rw[hn]at hNm
      rw[hrf]at hRf
      repeat'(first|(first|refine Stp.h ?_|(refine Za.gcp hglob hT ?_ ?_;focus simp[Zb];done)|(refine Za.gcp hglob hN ?_ ?_;focus simp[Zb];done)|(refine rq hNm ?_ ?_;focus simp[Zz];done)|(refine rq hRf ?_ ?_;focus simp[Zz];done)|refine Zf.split ?_ ?_|refine Zi.no ?_)<;>try simp only[Zd,simprocAttr,↓reduceIte,reduceCtorEq,implies_true,hi,hpg,hne,hz1,Int.ofNat_lt]|(with_reducible first|assumption|refine And.intro ?_ ?_)|(intro h;first|omega|exact tg h ‹_›|exact tg ‹_› h|skip))
      all_goals first|omega|skip
      all_goals first|exact hE _ rfl rfl rfl rfl|exact T.ret (hE _ rfl rfl rfl rfl)
  ·have hd0:(raw.drop lo).map trimB=[]:=by simp;omega
   rw[hd0,Zf8 hi]at hR
   simp only at hR
   subst hR
   have heq:((raw.length-lo:Nat):Int)=0:=by omega
   repeat'(first|(first|refine Stp.h ?_)<;>try simp only[Zd,simprocAttr,↓reduceIte,reduceCtorEq,implies_true,hi,heq,Int.ofNat_lt]|(with_reducible first|assumption|refine And.intro ?_ ?_)|(intro h;first|omega|exact tg h ‹_›|exact tg ‹_› h|skip))
   all_goals first|omega|skip
   all_goals first|exact hE _ rfl rfl rfl rfl|exact T.ret (hE _ rfl rfl rfl rfl)
set_option maxHeartbeats 16000000 in
set_option maxRecDepth 100000 in
theorem Dp{G:Nat}{H:Nat→Option Obj}(hM:Yo G H)(s:List UInt8)(hs:s.length≤2000000):
 GCp G H Tryz.prog 79 [.a (.str s)] [] 0 [] (.tup [.agg (lineT s).1.cells,.a (.bool (lineT s).2.1),.a (.int .i64 (lineT s).2.2)]) [] 0:=by
 refine W1.fn.gcp (by simp) (by simp[Zu,Zw,Zv,Zj,Ze,Vc.S1.okN,At.okN,SV.okN,Res.okN,Res.outOk,Zo,Res.own,Value.oneCell',Ln.cells]) fun w X fr hglob=> ?_
 have l1:=Zbf (s:=s)
 have l2:=Cu (s:=s)
 have l3:=Zbe (s:=s)
 have l4:=Zbd (s:=s)
 have l5:=Zfc (s:=s)
 have hU:=Zcr hM s 59 (by omega)
 have hul:=L9 59 s
 generalize lineT s=L at l1 l2 l3 l4 l5 ⊢
 generalize upToS 59 s=U at*
 have hT:=Ox G H U.1 (by omega)
 have htl:=V6 U.1
 generalize trimB U.1=t at*
 by_cases ht:t=[]
 ·rw[l1 ht]
  repeat'(first|(first|refine Stp.h ?_|(refine Za.gcp hglob hU ?_ ?_;focus simp[Zb];done)|(refine Za.gcp hglob hT ?_ ?_;focus simp[Zb];done))<;>try simp only[Zd,simprocAttr,↓reduceIte,reduceCtorEq,implies_true,ht,ln0,Vt]|(with_reducible first|assumption|refine And.intro ?_ ?_)|(intro h;first|omega|exact tg h ‹_›|exact tg ‹_› h|skip))
  all_goals first|omega|skip
 have hS:=Hr G H t [58] (by omega)
 rw[Ks]at hS
 by_cases hlast:t.getLast? =some 58
 ·rw[Zcl hlast,decide_eq_true hlast]at hS
  have hN:=Sh t.dropLast
  cases hn:Xk t.dropLast
  ·rw[l3 ht hlast hn]
   rw[hn]at hN
   repeat'(first|(first|refine Stp.h ?_|(refine Za.gcp hglob hU ?_ ?_;focus simp[Zb];done)|(refine Za.gcp hglob hT ?_ ?_;focus simp[Zb];done)|(refine Za.gcp hglob hS ?_ ?_;focus simp[Zb];done)|(refine rq hN ?_ ?_;focus simp[Zz];done))<;>try simp only[Zd,simprocAttr,↓reduceIte,reduceCtorEq,implies_true,ht,ln0,Vt]|(with_reducible first|assumption|refine And.intro ?_ ?_)|(intro h;first|omega|exact tg h ‹_›|exact tg ‹_› h|skip))
   all_goals first|omega|skip
  ·rw[l2 ht hlast hn]
   rw[hn]at hN
   repeat'(first|(first|refine Stp.h ?_|(refine Za.gcp hglob hU ?_ ?_;focus simp[Zb];done)|(refine Za.gcp hglob hT ?_ ?_;focus simp[Zb];done)|(refine Za.gcp hglob hS ?_ ?_;focus simp[Zb];done)|(refine rq hN ?_ ?_;focus simp[Zz];done))<;>try simp only[Zd,simprocAttr,↓reduceIte,reduceCtorEq,implies_true,ht,ln0,Vt]|(with_reducible first|assumption|refine And.intro ?_ ?_)|(intro h;first|omega|exact tg h ‹_›|exact tg ‹_› h|skip))
   all_goals first|omega|skip
 rw[decide_eq_false hlast]at hS
 generalize Lib.trimSuffix t [58]=q at hS
 have hU2:=Zcr hM t 32 (by omega)
 have hul2:=L9 32 t
 generalize upToS 32 t=V at*
 have hI:=IndexK V.1
 have hkr:=Ze8 V.1
 by_cases hk:kindS V.1<0
 ·rw[l4 ht hlast hk]
  repeat'(first|(first|refine Stp.h ?_|(refine Za.gcp hglob hU ?_ ?_;focus simp[Zb];done)|(refine Za.gcp hglob hT ?_ ?_;focus simp[Zb];done)|(refine Za.gcp hglob hS ?_ ?_;focus simp[Zb];done)|(refine Za.gcp hglob hU2 ?_ ?_;focus simp[Zb];done)|(refine Za.gc Ec ?_ ?_;focus simp[Zb];done)|(refine rq hI ?_ ?_;focus simp[Zz];done))<;>try simp only[Zd,simprocAttr,↓reduceIte,reduceCtorEq,implies_true,ht,hk,ln0,Vt]|(with_reducible first|assumption|refine And.intro ?_ ?_)|(intro h;first|omega|exact tg h ‹_›|exact tg ‹_› h|skip))
  all_goals first|omega|skip
 rw[l5 ht hlast hk,Bo]
 generalize kindS V.1=op at*
 have hY:=Dn op (Za4 (by omega) (by omega))
 have hT2:=Ox G H V.2.1 (by omega)
 have htl2:=V6 V.2.1
 have hraw:=Zhn V.2.1
 have hrw:rawS V.2.1=if trimB V.2.1=[]then[]else splitS 44 (trimB V.2.1):=rfl
 generalize rawS V.2.1=raw at*
 generalize trimB V.2.1=rt at*
 by_cases hr:rt=[]
 ·rw[if_pos hr]at hrw
  repeat'(first|(first|refine Stp.h ?_|(refine Za.gcp hglob hU ?_ ?_;focus simp[Zb];done)|(refine Za.gcp hglob hT ?_ ?_;focus simp[Zb];done)|(refine Za.gcp hglob hS ?_ ?_;focus simp[Zb];done)|(refine Za.gcp hglob hU2 ?_ ?_;focus simp[Zb];done)|(refine Za.gc Ec ?_ ?_;focus simp[Zb];done)|(refine rq hI ?_ ?_;focus simp[Zz];done)|(refine Za.gcp hglob hT2 ?_ ?_;focus simp[Zb];done)|(refine rq hY ?_ ?_;focus simp[Zz];done))<;>try simp only[Zd,simprocAttr,↓reduceIte,reduceCtorEq,implies_true,ht,hk,hr]|(with_reducible first|assumption|refine And.intro ?_ ?_)|(intro h;first|omega|exact tg h ‹_›|exact tg ‹_› h|skip))
  all_goals first|omega|skip
  refine T.weak (Ent.nilRow (t:=11) 9 .str rfl) ?_
  refine T.weak (Ent.view (t:=11) 1 3 0 0 rfl rfl trivial) ?_
  have hl0:0=raw.length:=by rw[hrw];rfl
  refine T.weak (S2:=⟨[(84,.one (.a (.int .i64 0))),(83,.one (.a (.int .i64 2))),(82,.one (.a (.ref 3))),(11,.one (.a (.ref 2))),(14,.one (.a (.bool (V7 op)))),(10,.one (.a (.int .i64 op))),(2,.one (.a (.loc 0 0)))],[(0,.cells 72 [.str [],.int .i64 op,.int .i64 0,.int .i64 0,.int .i64 0,.str []]),(1,.row 9 .str raw),(2,.view 1 1 0 raw.length),(3,.lit 175 2 2 [.bool (R7 op),.loc 0 2,.bool (R8 op),.loc 0 3])],4⟩) (Ent.mk1 (fun n=>if n=1 then 3 else if n=2 then 4 else if n=3 then 2 else n) (by simp[Zy,hrw])) (J0 hglob op raw (by omega) (fun p hp=>Nat.le_trans (hraw.1 p hp) (by omega)) (fun lo d s' hlo hres S' hE=> ?_) (fun e he S' h2 h3 h4 h0=> ?_))
  ·simp only[Zd,simprocAttr,↓reduceIte,reduceCtorEq,implies_true]
   refine T.weak hE ?_
   refine Gp hglob op raw (by omega) (fun p hp=>Nat.le_trans (hraw.1 p hp) (by omega)) lo d s' hlo fun S' h2 h3 h4 h0=> ?_
   rw[hres]at h3 h4 h0
   simp only[Zd,simprocAttr,↓reduceIte,reduceCtorEq,implies_true,W1.res,h2,h3,h4,h0]
  ·rw[he]
   simp only[Zd,simprocAttr,↓reduceIte,reduceCtorEq,implies_true,W1.res,h2,h3,h4,h0,Zft,ln0,Vt]
 ·rw[if_neg hr]at hrw
  have hSp:=H5 hM rt 44 (by omega)
  rw[←hrw]at hSp
  repeat'(first|(first|refine Stp.h ?_|(refine Za.gcp hglob hU ?_ ?_;focus simp[Zb];done)|(refine Za.gcp hglob hT ?_ ?_;focus simp[Zb];done)|(refine Za.gcp hglob hS ?_ ?_;focus simp[Zb];done)|(refine Za.gcp hglob hU2 ?_ ?_;focus simp[Zb];done)|(refine Za.gc Ec ?_ ?_;focus simp[Zb];done)|(refine rq hI ?_ ?_;focus simp[Zz];done)|(refine Za.gcp hglob hT2 ?_ ?_;focus simp[Zb];done)|(refine Za.gcp hglob hSp ?_ ?_;focus simp[Zb];done)|(refine rq hY ?_ ?_;focus simp[Zz];done))<;>try simp only[Zd,simprocAttr,↓reduceIte,reduceCtorEq,implies_true,ht,hk,hr]|(with_reducible first|assumption|refine And.intro ?_ ?_)|(intro h;first|omega|exact tg h ‹_›|exact tg ‹_› h|skip))
  all_goals first|omega|skip
  refine T.weak (Ent.view (t:=11) 1 2 0 raw.length rfl rfl trivial) ?_
  refine T.weak (S2:=⟨[(84,.one (.a (.int .i64 0))),(83,.one (.a (.int .i64 2))),(82,.one (.a (.ref 3))),(11,.one (.a (.ref 2))),(14,.one (.a (.bool (V7 op)))),(10,.one (.a (.int .i64 op))),(2,.one (.a (.loc 0 0)))],[(0,.cells 72 [.str [],.int .i64 op,.int .i64 0,.int .i64 0,.int .i64 0,.str []]),(1,.row 9 .str raw),(2,.view 1 1 0 raw.length),(3,.lit 175 2 2 [.bool (R7 op),.loc 0 2,.bool (R8 op),.loc 0 3])],4⟩) (Ent.mk1 (fun n=>if n=1 then 2 else if n=2 then 4 else n) (by simp[Zy])) (J0 hglob op raw (by omega) (fun p hp=>Nat.le_trans (hraw.1 p hp) (by omega)) (fun lo d s' hlo hres S' hE=> ?_) (fun e he S' h2 h3 h4 h0=> ?_))
  ·simp only[Zd,simprocAttr,↓reduceIte,reduceCtorEq,implies_true]
   refine T.weak hE ?_
   refine Gp hglob op raw (by omega) (fun p hp=>Nat.le_trans (hraw.1 p hp) (by omega)) lo d s' hlo fun S' h2 h3 h4 h0=> ?_
   rw[hres]at h3 h4 h0
   simp only[Zd,simprocAttr,↓reduceIte,reduceCtorEq,implies_true,W1.res,h2,h3,h4,h0]
  ·rw[he]
   simp only[Zd,simprocAttr,↓reduceIte,reduceCtorEq,implies_true,W1.res,h2,h3,h4,h0,Zft,ln0,Vt]
theorem G2{b:Bool}{ps:List (List UInt8)}{e:Int}(h:P0 b ps= .error e):e≠0:=by
 unfold P0 at h
 split at h
 ·cases h
 ·split at h
  ·cases h;decide
  ·split at h
   ·cases h
   ·cases h;decide
theorem Zg7{op:Int}{d s:Nat}{ps:List (List UInt8)}{e:Int}(h:Hv op d s ps= .error e):e≠0:=by
 unfold Hv Qw at h
 split at h
 ·rename_i e' he
  cases h
  split at he
  ·cases he
  ·split at he
   ·cases he;decide
   ·split at he
    ·cases he
    ·split at he
     ·cases he
     ·cases he;decide
 ·split at h
  ·cases h
  ·cases h;decide
theorem Zg8{op:Int}{ps:List (List UInt8)}{e:Int}(h:insV op ps= .error e):e≠0:=by
 rw[Zdh]at h
 split at h
 ·rename_i e' he
  cases h;exact G2 he
 ·unfold insS at h
  split at h
  ·rename_i e' he
   cases h;exact G2 he
  ·exact Zg7 h
theorem Zfd{s:List UInt8}{e:Int}(h:Nl s= .error e):e≠0:=by
 unfold Nl at h
 simp only at h
 split at h
 ·cases h
 ·split at h
  ·split at h
   ·cases h
   ·cases h;decide
  ·split at h
   ·cases h;decide
   ·split at h
    ·rename_i e' he
     cases h;exact Zg8 he
    ·cases h
theorem Zbr(s:List UInt8)(l:List (List UInt8))(k:Nat)(acc:List Ln):
 Pz (s::l) k acc=if(lineT s).2.2≠0 then(([],(lineT s).2.2,(k:Int)):List Ln×Int×Int)else if(lineT s).2.1=true then Pz l (k+1) (acc++[(lineT s).1])else Pz l (k+1) acc:=by
 rw[Pz]
 unfold lineT
 cases hv:Nl s with
 |error e=>simp only;rw[if_pos (Zfd hv)]
 |ok o=>cases o<;>simp
set_option maxHeartbeats 16000000 in
set_option maxRecDepth 100000 in
theorem Mq{G:Nat}{H:Nat→Option Obj}{w:World}{X:List Nat}{fr:List Value}{Q:Exit→St→Prop}(hglob:Wb G H w X)(hM:Yo G H)(P:List (List UInt8))(n:Nat)(hn:n≤P.length)(h40:n≤40000)(hp:∀p∈P,p.length≤2000000)
 (hQ:∀acc,Pz (P.take n) 0 []=(acc,0,0)→∀S',Ent ⟨Tryz.prog,w,X,59,fr⟩ S' ⟨[(5,.one (.a (.ref 1))),(3,.one (.a (.loc 0 0)))],[(0,.cells 80 [.int .i64 0,.int .i64 0]),(1,.row 72 .line acc)],2⟩→Q (.exit 0) S')
 (hE:∀e k,Pz (P.take n) 0 []=([],e,k)→∀S':St,Zo S'.slots 2=some (.one (.a (.raw (.slice none 0 0))))→Zo S'.slots 3=some (.one (.a (.loc 0 0)))→Zo S'.res 0=some (.cells 80 [.int .i64 e,.int .i64 k])→Q .ret S'):
 T ⟨Tryz.prog,w,X,59,fr⟩ (.loop Sp.c20) Q ⟨[(35,.one (.a (.int .i64 0))),(34,.one (.a (.int .i64 n))),(33,.one (.a (.ref 2))),(5,.one (.a (.ref 3))),(3,.one (.a (.loc 0 0)))],
   [(0,.cells 80 [.int .i64 0,.int .i64 0]),(1,.row 9 .str P),(2,.view 1 1 0 n),(3,.row 72 .line [])],4⟩:=by
 generalize hR:Pz (P.take n) 0 []=R at hQ hE
 refine T.loop (ι:= {p:Nat×List Ln//p.1≤n∧Pz ((P.take n).drop p.1) p.1 p.2=R∧p.2.length≤p.1})
  (fun x=>⟨[(35,.one (.a (.int .i64 (x.1.1:Int)))),(34,.one (.a (.int .i64 n))),(33,.one (.a (.ref 2))),(5,.one (.a (.ref 3))),(3,.one (.a (.loc 0 0)))],
    [(0,.cells 80 [.int .i64 0,.int .i64 0]),(1,.row 9 .str P),(2,.view 1 1 0 n),(3,.row 72 .line x.1.2)],4⟩) (fun x=>n-x.1.1) ⟨(0,[]),by simp,by simpa using hR,by simp⟩ (Ent.mk1 (id) (by simp[Zy])) ?_
 rintro⟨⟨k,acc⟩,hk,hrun,hal⟩
 simp only at hk hrun hal
 have hln:(P.take n).length=n:=by rw[List.length_take];omega
 by_cases hlt:k<n
 ·have hdrop:(P.take n).drop k=P.getD k []::(P.take n).drop (k+1):=by
   have hlt2:k<(P.take n).length:=by omega
   rw[List.drop_eq_getElem_cons hlt2,List.getElem_take]
   have hg:P.getD k []=P[k]:=by simp[List.getD,show k<P.length by omega]
   rw[hg]
  have hmem:P.getD k []∈P:=by simp[List.getD,show k<P.length by omega]
  generalize hy:P.getD k []=x at hdrop hmem
  have hy':P.getD k (Kd.dflt .str)=x:=hy
  have hxl:=hp x hmem
  rw[hdrop,Zbr]at hrun
  have hA:=Dp hM x (by omega)
  have hw:IntKind.i64.wrap ((k:Int)+1)=((k+1:Nat):Int):=Zx (by omega)
  have ht:0+((k:Int)).toNat=k:=by omega
  generalize lineT x=V at hA hrun
  obtain⟨y,some_,e⟩:=V
  simp only[Ln.cells]at hA hrun
  by_cases he:e≠0
  ·rw[if_pos he]at hrun
   subst hrun
   repeat'(first|(first|refine Stp.h ?_|(refine Za.gcp hglob hA ?_ ?_;focus simp[Zb];done))<;>try simp only[Zd,simprocAttr,↓reduceIte,reduceCtorEq,implies_true,hy',ht,hw,he,Int.ofNat_lt]|(with_reducible first|assumption|refine And.intro ?_ ?_)|(intro h;first|omega|exact tg h ‹_›|exact tg ‹_› h|skip))
   all_goals first|omega|skip
   all_goals first|exact hE _ _ rfl _ rfl rfl rfl|exact T.ret (hE _ _ rfl _ rfl rfl rfl)
  ·rw[if_neg he]at hrun
   have he0:e=0:=by simpa using he
   subst he0
   cases some_
   ·rw[if_neg (by decide)]at hrun
    repeat'(first|(first|refine Stp.h ?_|(refine Za.gcp hglob hA ?_ ?_;focus simp[Zb];done))<;>try simp only[Zd,simprocAttr,↓reduceIte,reduceCtorEq,implies_true,hy',ht,hw,Int.ofNat_lt]|(with_reducible first|assumption|refine And.intro ?_ ?_)|(intro h;first|omega|exact tg h ‹_›|exact tg ‹_› h|skip))
    all_goals first|omega|skip
    exact⟨⟨(k+1,acc),hlt,hrun,by simp only;omega⟩,(Ent.mk1 (id) (by simp[Zy,hw])),by simp only;omega⟩
   ·rw[if_pos rfl]at hrun
    repeat'(first|(first|refine Stp.h ?_|(refine Za.gcp hglob hA ?_ ?_;focus simp[Zb];done))<;>try simp only[Zd,simprocAttr,↓reduceIte,reduceCtorEq,implies_true,hy',ht,hw,Int.ofNat_lt]|(with_reducible first|assumption|refine And.intro ?_ ?_)|(intro h;first|omega|exact tg h ‹_›|exact tg ‹_› h|skip))
    all_goals first|omega|skip
    exact⟨⟨(k+1,acc++[y]),hlt,hrun,by simp only[List.length_append,List.length_cons,List.length_nil];omega⟩,(Ent.mk1 (fun n=>if n=3 then 6 else n) (by simp[Zy,hw])),by simp only;omega⟩
 ·have hk2:k=n:=by omega
  have hd0:(P.take n).drop k=[]:=by rw[hk2,←hln];simp
  rw[hd0]at hrun
  simp only[Pz]at hrun
  repeat'(first|(first|refine Stp.h ?_)<;>try simp only[Zd,simprocAttr,↓reduceIte,reduceCtorEq,implies_true,hk2,Int.ofNat_lt]|(with_reducible first|assumption|refine And.intro ?_ ?_)|(intro h;first|omega|exact tg h ‹_›|exact tg ‹_› h|skip))
  all_goals first|omega|skip
  exact hQ acc hrun.symm _ (Ent.mk1 (fun n=>if n=1 then 3 else n) (by simp[Zy]))
theorem Cv(t:List UInt8):F5 t=(splitS 10 t).take (if(splitS 10 t).getLast? =some []then(splitS 10 t).length-1 else(splitS 10 t).length):=by
 unfold F5
 split
 ·rw[List.dropLast_eq_take]
 ·rw[List.take_length]
set_option maxHeartbeats 16000000 in
set_option maxRecDepth 100000 in
theorem Dq{G:Nat}{H:Nat→Option Obj}(hM:Yo G H)(t:List UInt8)(hs:t.length≤9223372036854775807):
 GCp G H Tryz.prog 60 [.a (.str t)] [] 0 [] (.tup [.a (.ref 0),.agg [.int .i64 (Kq t).2.1,.int .i64 (Kq t).2.2]]) [(0,.row 72 .line (Kq t).1)] 1:=by
 refine Sp.fn.gcp (by simp) (by simp[Zu,Zw,Zv,Zj,Ze,Vc.S1.okN,At.okN,SV.okN,Res.okN,Res.outOk,Zo,Res.own,Value.oneCell']) fun w X fr hglob=> ?_
 generalize hR:Kq t=R
 unfold Kq at hR
 by_cases hlen:1048576<t.length
 ·rw[if_pos hlen]at hR
  subst hR
  have hgt:(1048576:Int)<(t.length:Int):=by omega
  repeat'(first|(first|refine Stp.h ?_)<;>try simp only[Zd,simprocAttr,↓reduceIte,reduceCtorEq,implies_true,hgt]|(with_reducible first|assumption|refine And.intro ?_ ?_)|(intro h;first|omega|exact tg h ‹_›|exact tg ‹_› h|skip))
  all_goals first|omega|skip
 rw[if_neg hlen]at hR
 have hgt:¬(1048576:Int)<(t.length:Int):=by omega
 have hSp:=H5 hM t 10 (by omega)
 have hne:=Zf0 10 t
 have hp:=Pp 10 t
 have hcl:=Oa 10 t
 have hcc:=List.count_le_length (a:=(10:UInt8)) (l:=t)
 rw[Cv]at hR
 generalize splitS 10 t=P at*
 have hpos:=List.length_pos_iff.2 hne
 have hw1:IntKind.i64.wrap ((P.length:Int)-1)=((P.length-1:Nat):Int):=by rw[Zm (by omega) (by omega)];omega
 have htn:(((P.length-1:Nat):Int)).toNat=P.length-1:=by omega
 have hz:0+(0:Int).toNat=0:=rfl
 have htn2:0+(((P.length-1:Nat):Int)).toNat=P.length-1:=by omega
 have hlast:P.getD (P.length-1) (Kd.dflt .str)=[]↔P.getLast? =some []:=by
  have e:P.getD (P.length-1) (Kd.dflt .str)=P[P.length-1]:=by
   show P.getD (P.length-1) []=_
   simp[List.getD,show P.length-1<P.length by omega]
  rw[e,List.getLast?_eq_getElem?,List.getElem?_eq_getElem (by omega)]
  simp
 by_cases hl:P.getLast? =some []
 ·have hl':=hlast.2 hl
  rw[if_pos hl]at hR
  have hln:(P.take (P.length-1)).length=P.length-1:=by rw[List.length_take];omega
  rw[hln]at hR
  have hlv:((P.length-1-0:Nat):Int)=((P.length-1:Nat):Int):=rfl
  generalize hnn:P.length-1=n at*
  by_cases h40:40000<n
  ·rw[if_pos h40]at hR
   subst hR
   have hgt2:(40000:Int)<(n:Int):=by omega
   repeat'(first|(first|refine Stp.h ?_|(refine Za.gcp hglob hSp ?_ ?_;focus simp[Zb];done))<;>try simp only[Zd,simprocAttr,↓reduceIte,reduceCtorEq,implies_true,hgt,hw1,htn,htn2,hz,hl',hlv,hgt2]|(with_reducible first|assumption|refine And.intro ?_ ?_)|(intro h;first|omega|exact tg h ‹_›|exact tg ‹_› h|skip))
   all_goals first|omega|skip
  rw[if_neg h40]at hR
  have hgt2:¬(40000:Int)<(n:Int):=by omega
  repeat'(first|(first|refine Stp.h ?_|(refine Za.gcp hglob hSp ?_ ?_;focus simp[Zb];done))<;>try simp only[Zd,simprocAttr,↓reduceIte,reduceCtorEq,implies_true,hgt,hw1,htn,htn2,hz,hl',hlv,hgt2]|(with_reducible first|assumption|refine And.intro ?_ ?_)|(intro h;first|omega|exact tg h ‹_›|exact tg ‹_› h|skip))
  all_goals first|omega|skip
  refine T.weak (Ent.nilRow (t:=5) 72 .line rfl) ?_
  refine T.weak (S2:=⟨[(35,.one (.a (.int .i64 0))),(34,.one (.a (.int .i64 n))),(33,.one (.a (.ref 2))),(5,.one (.a (.ref 3))),(3,.one (.a (.loc 0 0)))],
   [(0,.cells 80 [.int .i64 0,.int .i64 0]),(1,.row 9 .str P),(2,.view 1 1 0 n),(3,.row 72 .line [])],4⟩) (Ent.mk1 (id) (by simp[Zy])) (Mq hglob hM P n (by omega) (by omega) (fun p h=>Nat.le_trans (hp p h) (by omega)) (fun acc ha S' hE=> ?_) (fun e k ha S' h2 h3 h0=> ?_))
  ·rw[ha]at hR
   subst hR
   simp only[Zd,simprocAttr,↓reduceIte,reduceCtorEq,implies_true]
   refine T.weak hE ?_
   repeat'(first|(first|refine Stp.h ?_)<;>try simp only[Zd,simprocAttr,↓reduceIte,reduceCtorEq,implies_true]|(with_reducible first|assumption|refine And.intro ?_ ?_)|(intro h;first|omega|exact tg h ‹_›|exact tg ‹_› h|skip))
  ·rw[ha]at hR
   subst hR
   simp only[Zd,simprocAttr,↓reduceIte,reduceCtorEq,implies_true,Sp.res,h2,h3,h0]
 ·have hl':¬P.getD (P.length-1) (Kd.dflt .str)=[]:=fun e=>hl (hlast.1 e)
  rw[if_neg hl,List.take_length]at hR
  by_cases h40:40000<P.length
  ·rw[if_pos h40]at hR
   subst hR
   have hgt2:(40000:Int)<(P.length:Int):=by omega
   repeat'(first|(first|refine Stp.h ?_|(refine Za.gcp hglob hSp ?_ ?_;focus simp[Zb];done))<;>try simp only[Zd,simprocAttr,↓reduceIte,reduceCtorEq,implies_true,hgt,hw1,htn,hl',hgt2]|(with_reducible first|assumption|refine And.intro ?_ ?_)|(intro h;first|omega|exact tg h ‹_›|exact tg ‹_› h|skip))
   all_goals first|omega|skip
  rw[if_neg h40]at hR
  have hgt2:¬(40000:Int)<(P.length:Int):=by omega
  repeat'(first|(first|refine Stp.h ?_|(refine Za.gcp hglob hSp ?_ ?_;focus simp[Zb];done))<;>try simp only[Zd,simprocAttr,↓reduceIte,reduceCtorEq,implies_true,hgt,hw1,htn,hl',hgt2]|(with_reducible first|assumption|refine And.intro ?_ ?_)|(intro h;first|omega|exact tg h ‹_›|exact tg ‹_› h|skip))
  all_goals first|omega|skip
  refine T.weak (Ent.nilRow (t:=5) 72 .line rfl) ?_
  refine T.weak (Ent.view (t:=33) 1 1 0 P.length rfl rfl trivial) ?_
  refine T.weak (S2:=⟨[(35,.one (.a (.int .i64 0))),(34,.one (.a (.int .i64 P.length))),(33,.one (.a (.ref 2))),(5,.one (.a (.ref 3))),(3,.one (.a (.loc 0 0)))],
   [(0,.cells 80 [.int .i64 0,.int .i64 0]),(1,.row 9 .str P),(2,.view 1 1 0 P.length),(3,.row 72 .line [])],4⟩) (Ent.mk1 (fun n=>if n=2 then 3 else if n=3 then 2 else n) (by simp[Zy])) (Mq hglob hM P P.length (by omega) (by omega) (fun p h=>Nat.le_trans (hp p h) (by omega)) (fun acc ha S' hE=> ?_) (fun e k ha S' h2 h3 h0=> ?_))
  ·rw[List.take_length]at ha
   rw[ha]at hR
   subst hR
   simp only[Zd,simprocAttr,↓reduceIte,reduceCtorEq,implies_true]
   refine T.weak hE ?_
   repeat'(first|(first|refine Stp.h ?_)<;>try simp only[Zd,simprocAttr,↓reduceIte,reduceCtorEq,implies_true]|(with_reducible first|assumption|refine And.intro ?_ ?_)|(intro h;first|omega|exact tg h ‹_›|exact tg ‹_› h|skip))
  ·rw[List.take_length]at ha
   rw[ha]at hR
   subst hR
   simp only[Zd,simprocAttr,↓reduceIte,reduceCtorEq,implies_true,Sp.res,h2,h3,h0]
end Go.Proofs.YtbmecnjmbhokgaaGreatDoor
namespace Go.Proofs.YtbmecnjmbhokgaaGreatDoor
open Go Go.RowKit Vc
set_option linter.unusedVariables false
set_option linter.unusedSimpArgs false
namespace Vc
theorem Ent.nilUrow{c:Cx}{S:St}{t:Nat}{base:Nat}(E:Nat)(ht:S.get t=some (.one (.a (.raw (.slice none 0 0))))):Ent c S ⟨(t,.one (.a (.ref S.nx)))::S.slots,(S.nx,(.urow base E []))::S.res,S.nx+1⟩:=fun ρ a w hh=>by
 have hmem:Mem c (Z9 ρ S.nx (.slice none 0 0)) ((S.nx,(.urow base E []))::S.res) (S.nx+1) w:=by
  have h:=hh.mem
  have:=Mem.step (ρ':=Z9 ρ S.nx (.slice none 0 0)) (nx':=S.nx+1) (w':=w) (ds:=[]) (m:=S.nx) (r:=.urow base E []) (D:=[]) h
   (Zh ρ S.nx _) (by omega) (Yx h.one rfl) rfl rfl rfl (Nat.le_refl _) (fun b o hb _=>hb) (by simp) (by omega) (.inr (Nat.le_refl _)) trivial
   (fun b hb=>by simp only[Res.block,Zl,Value.ownBlock]at hb;cases hb)
   (fun O' _ _=>by
     simp only[Res.holds,Zl]
     exact⟨[],rfl,World.ownsRow_nil w 0 E Kd.unt.sz,fun i u x hu=>by simp at hu⟩)
  rwa [Xj]at this
 refine⟨Z9 ρ S.nx (.slice none 0 0),hh.nodef,hh.sz,hh.lown,fun u v hu=> ?_,fun u v hu=> ?_,hmem⟩
 ·rcases look_cons hu with⟨rfl,rfl⟩|⟨hne,hu'⟩
  ·rw[hh.slot _ _ ht];simp only[SV.den,S1.den,At.den,Zl]
  ·rw[SV.den_same (Zh ρ S.nx _) (hh.bds u v hu')];exact hh.slot u v hu'
 ·rcases look_cons hu with⟨rfl,rfl⟩|⟨hne,hu'⟩
  ·exact Nat.lt_succ_self _
  ·exact SV.bd_mono (Nat.le_succ _) (hh.bds u v hu')
def UOwn(base:Nat)(w:World)(v:Value)(E:Nat)(l:List (List UInt8×List Ln)):Prop:=
 ∃us:List Unt,us.length=l.length∧w.ownsRow base E Kd.unt.sz v us.length ((us.flatMap Kd.unt.enc).map (At.den fun _=>Yv))∧
  ∀(i:Nat) (u:Unt) (x:List UInt8×List Ln),us[i]? =some u→l[i]? =some x→u.name=x.1∧(u.ln=x.2.length∧u.ln≤u.lc)∧U4 w v.ownBlock.toList base u.la x.2
def RuC(G:Nat)(H:Nat→Option Obj)(P:Program)(f:Nat)(E:Nat)(l:List (List UInt8×List Ln)):Prop:=
 ∀w,Wb G H w []→Calls P f #[] w fun e w'=>∃r,e= .returned r∧Below w.heap.size w w'∧UOwn w.heap.size w' r E l
theorem Body.ru{G:Nat}{H:Nat→Option Obj}{P:Program}{f nt:Nat}{x:IC}{rl:List RV}(hF:Body P f nt x rl){E:Nat}{l:List (List UInt8×List Ln)}
 (hT:∀w,Wb G H w []→T ⟨P,w,[],nt,[]⟩ x (Qu ⟨P,w,[],nt,[]⟩ rl fun v S=>∃m,v= .one (.a (.ref m))∧S.find m=some (.urow w.heap.size E l)) ⟨[],[],0⟩):RuC G H P f E l:=fun w hg=>by
 refine hF.plain (vs:=[]) (Nat.zero_le _) (by simp) (hT w hg) fun v S' ρ' w' hR _ hm=> ?_
 obtain⟨m,rfl,hf⟩:=hR
 obtain⟨us,h0,hown,hl⟩:=hm.res m _ (Zg hf)
 refine⟨ρ' m,rfl,hm.toBelow,us,h0,⟨hown.1,?_⟩,fun i u x hu hx=> ?_⟩
 ·rcases hown.2 with h|⟨g,cap,cur,h3,_,h4⟩
  ·exact .inl h
  ·refine .inr ⟨g,cap,cur,h3,?_,h4⟩
   have hb:g∈Zp ρ' S'.res:=List.mem_filterMap.2 ⟨(m,_),Zg hf,by simp[Res.block,h3,Value.ownBlock]⟩
   rcases(hm.lt g hb).2 with h|h
   ·exact h
   ·cases h
 ·obtain⟨g1,g2,g3⟩:=hl i u x hu hx
  refine⟨g1,g2,g3.sub fun b hb=>List.mem_filterMap.2 ⟨(m,_),Zg hf,?_⟩⟩
  show(ρ' m).ownBlock=some b
  simpa using hb
theorem Za.ru{G:Nat}{H:Nat→Option Obj}{c:Cx}(hglob:Wb G H c.w0 c.X){f:Nat}{S:St}{K:SV→St→Prop}{E:Nat}{l:List (List UInt8×List Ln)}(h:RuC G H c.P f E l)
 (hK:K (.one (.a (.ref S.nx))) ⟨S.slots,(S.nx,.urow 0 E l)::S.res,S.nx+1⟩):Za c f [] S K:=by
 intro ρ a w hh
 have hm:=hh.mem
 have hglob':Wb G H w []:=by
  obtain⟨k1,k2,k3⟩:=hglob
  refine⟨Nat.le_trans k1 hm.size,fun b hb=> ?_,fun b hb=>by cases hb⟩
  rw[hm.block b (by omega) (fun hX=>by have:=k3 b hX;omega)];exact k2 b hb
 refine(h w hglob').mono fun e w' ⟨v,he,hb,us,h0,hown,hl⟩=>⟨_,Z9 ρ S.nx v,_,⟨Zh _ _ _,Nat.le_succ _⟩,?_,Nat.lt_succ_self _,hh.res (Zh ρ S.nx v) (Nat.le_succ _) ?_,hK⟩
 ·rw[he];simp only[SV.den,S1.den,At.den,Zl]
 have hvone:v.oneCell'=true:=by rcases hown.2 with⟨hv,_⟩|⟨g,cp,cur,hv,_⟩<;>rw[hv]<;>rfl
 have:=Mem.step (ρ':=Z9 ρ S.nx v) (nx':=S.nx+1) (w':=w') (ds:=[]) (m:=S.nx) (r:=.urow 0 E l) (D:=[]) hm
  (Zh ρ S.nx _) (by omega) (Yx hm.one hvone) hb.os hb.tape hb.output hb.size (fun b o ho _=>by rw[hb.block b (Array.getElem?_eq_some_iff.1 ho).1];exact ho) (by simp) (by omega) (.inr (Nat.le_refl _)) trivial
  (fun b hbk=>by
    simp only[Res.block,Zl]at hbk
    have:=World.ownsRow.lt hown b hbk
    exact⟨this.2,.inl this.1⟩)
  (fun O' hO _=>by
    refine⟨us,h0,?_,fun i u x hu hx=> ?_⟩
    ·simp only[Zl]
     obtain⟨h1,h2⟩:=hown
     refine⟨h1,?_⟩
     rcases h2 with h2|⟨g,cap,cur,h3,_,h4⟩
     ·exact .inl h2
     ·exact .inr ⟨g,cap,cur,h3,Nat.zero_le _,h4⟩
    ·obtain⟨g1,g2,g3,g4⟩:=hl i u x hu hx
     refine⟨g1,g2,g3,fun ad1 had1=>⟨(g4 ad1 had1).1,fun j y hy q v' hv'=> ?_⟩⟩
     obtain⟨k1,k2,k3⟩:=(g4 ad1 had1).2 j y hy q v' hv'
     refine⟨k1,fun hbO=> ?_,Nat.zero_le _⟩
     rcases hO _ hbO with h5|h5
     ·rw[Xj]at h5
      have:=(hm.lt _ h5).1;omega
     ·simp only[Res.block,Zl]at h5
      exact k2 (by rw[h5];simp))
 rwa [Xj]at this
end Vc
attribute [local irreducible] T Za Zn Ent RdC RwC Yj Zf Zi
set_option maxHeartbeats 4000000 in
set_option maxRecDepth 100000 in
theorem Zgl{G:Nat}{H:Nat→Option Obj}(hM:Yo G H)(hH:Z5 G H):RuC G H Tryz.prog 42 75 (unitsTo 24):=by
 refine Body.ru Jn.fn fun w hglob=> ?_
 have hnl:Vy.length=24:=rfl
 repeat'(first|(first|refine Stp.h ?_|(refine Za.gc Di ?_ ?_;focus simp[Zb];done))<;>try simp only[Zd,simprocAttr,↓reduceIte,reduceCtorEq,implies_true,hnl]|(with_reducible first|assumption|refine And.intro ?_ ?_)|(intro h;first|omega|exact tg h ‹_›|exact tg ‹_› h|skip))
 all_goals first|omega|skip
 refine T.weak (Ent.nilUrow (t:=1) (base:=w.heap.size) 75 rfl) ?_
 refine T.loop (ι:= {k:Nat//k≤24})
  (fun x=>⟨[(10,.one (.a (.int .i64 (x.1:Int)))),(9,.one (.a (.int .i64 24))),(8,.one (.a (.ref 0))),(1,.one (.a (.ref 1)))],
    [(0,.row 9 .str Vy),(1,.urow w.heap.size 75 (unitsTo x.1))],2⟩) (fun x=>24-x.1) ⟨0,by simp⟩ (Ent.mk1 (id) (by simp[Zy,unitsTo])) ?_
 rintro⟨k,hk⟩
 simp only
 by_cases hlt:k<24
 ·obtain⟨hr1,hr2,hr3⟩:=Bq k hlt
  have hT:=Zgj hM hH k hlt
  have hR:=Dq hM (textAt k) (by omega)
  have hul:=Oy k
  have hus:=E6 k
  have hw:IntKind.i64.wrap ((k:Int)+1)=((k+1:Nat):Int):=Zx (by omega)
  have ht:((k:Int)).toNat=k:=by omega
  have hx:Vy.getD k (Kd.dflt .str)=nameAt k:=rfl
  have hlt3:(k:Int)<24:=by omega
  have hll:(Kq (textAt k)).1=linesAt k:=rfl
  rw[hr1,hll]at hR
  generalize textAt k=tx at hT hR
  generalize linesAt k=ls at hR hus hr3
  generalize nameAt k=nm at hT hx hus
  generalize unitsTo k=us at hus hul
  have hb1:(us.length+1)*40≤140737488355328:=by omega
  have hb2:us.length+1≤4611686018427387904:=by omega
  repeat'(first|(first|refine Stp.h ?_|(refine Za.gcp hglob hT ?_ ?_;focus simp[Zb];done)|(refine Za.gcp hglob hR ?_ ?_;focus simp[Zb];done))<;>try simp only[Zd,simprocAttr,↓reduceIte,reduceCtorEq,implies_true,hx,hlt3,ht,hnl,hw,Int.ofNat_lt]|(with_reducible first|assumption|refine And.intro ?_ ?_)|(intro h;first|omega|exact tg h ‹_›|exact tg ‹_› h|skip))
  all_goals first|omega|exact .inr ⟨rfl,rfl⟩|skip
  exact⟨⟨k+1,hlt⟩,(Ent.mk1 (fun n=>if n=1 then 5 else n) (by simp[Zy,hus,hw])),by simp only;omega⟩
 ·have hk2:k=24:=by omega
  subst hk2
  repeat'(first|(first|refine Stp.h ?_)<;>try simp only[Zd,simprocAttr,↓reduceIte,reduceCtorEq,implies_true]|(with_reducible first|assumption|refine And.intro ?_ ?_)|(intro h;first|omega|exact tg h ‹_›|exact tg ‹_› h|skip))
  all_goals first|omega|exact⟨1,rfl,rfl⟩
end Go.Proofs.YtbmecnjmbhokgaaGreatDoor
namespace Go.Proofs.YtbmecnjmbhokgaaGreatDoor
open Vc
namespace Kf
noncomputable abbrev r0:List In:=[i1 4 (.mv (.k (.a (.raw (.slice none 0 0))))),
i1 5 (.mv (kI 0)),
i1 6 (.alloc 80 [.int .i64 0,.int .i64 0])]
noncomputable abbrev r1:List In:=[i1 7 (.mv (.k (.a (.raw (.slice none 0 0)))))]
noncomputable abbrev r2:List In:=[i1 14 (.mkmap Tryz.prog 9 4 .bool),
mv 8 14]
noncomputable abbrev r3:List In:=[mv 15 0,
i1 16 (.len (.t 15)),
i1 17 (.mv (kI 0))]
noncomputable abbrev r4:List In:=[i1 18 (.bin .lss (.t 17) (.t 16))]
noncomputable abbrev r5:List In:=[mv 19 17,
i1 20 (.iaddr 6 (.t 15) (.t 17)),
i1 21 (.load 6 true (.t 20)),
i1 10 (.alloc 72 [.str [],.int .i64 0,.int .i64 0,.int .i64 0,.int .i64 0,.str []]),
mv 9 19,
i0 (.store 6 (.t 10) (.t 21))]
noncomputable abbrev r6:List In:=[i1 22 (.load 6 true (.t 10)),
i1 23 (.call 80 [.t 22]),
mv 11 23]
noncomputable abbrev r7:List In:=[mv 24 11,
i1 25 (.bin .neq (.t 24) (kI 0))]
noncomputable abbrev r8:List In:=[mv 26 11,
mv 27 9,
i1 28 (.build [.int .i64 0,.int .i64 0] [(0,1,(.t 26)),(1,1,(.t 27))]),
i1 4 (.mv (.k (.a (.raw (.slice none 0 0))))),
i1 5 (.mv (kI 0)),
i0 (.store 2 (.t 6) (.t 28))]
noncomputable abbrev r9:List In:=[i1 29 (.faddr 0 (.t 10)),
i1 30 (.load 1 false (.t 29)),
i1 31 (.bin .neq (.t 30) (.k (.a (.str []))))]
noncomputable abbrev r10:List In:=[mv 32 8,
i1 33 (.faddr 0 (.t 10)),
i1 34 (.load 1 false (.t 33)),
i1 35 (.mlook Tryz.prog 9 4 .bool false (.t 32) (.t 34))]
noncomputable abbrev r11:List In:=[mv 36 9,
i1 37 (.build [.int .i64 0,.int .i64 0] [(0,1,(kI 7)),(1,1,(.t 36))]),
i1 4 (.mv (.k (.a (.raw (.slice none 0 0))))),
i1 5 (.mv (kI 0)),
i0 (.store 2 (.t 6) (.t 37))]
noncomputable abbrev r12:List In:=[mv 38 8,
i1 39 (.faddr 0 (.t 10)),
i1 40 (.load 1 false (.t 39)),
i0 (.mupd Tryz.prog 9 4 .bool (.t 38) (.t 40) (kB true))]
noncomputable abbrev r13:List In:=[mv 41 7,
i1 42 (.faddr 0 (.t 10)),
i1 43 (.load 1 false (.t 42)),
mv 44 1,
i1 45 (.build [.str [],.int .i64 0] [(0,1,(.t 43)),(1,1,(.t 44))]),
i1 46 (.bsl 109 2 1 [.str [],.int .i64 0] [(0,2,(.t 45))]),
i1 47 (.app 76 109 2 24 (.t 41) (.t 46)),
mv 7 47]
noncomputable abbrev r14:List In:=[i1 49 (.faddr 1 (.t 10)),
i1 50 (.faddr 0 (.t 49)),
i1 51 (.load 1 false (.t 50)),
i1 52 (.call 81 [.t 51]),
mv 48 52,
i1 53 (.ext 0 (.t 48)),
i1 54 (.ext 1 (.t 48)),
mv 12 53,
mv 13 54]
noncomputable abbrev r15:List In:=[mv 55 1,
mv 56 12,
i1 57 (.bin .add (.t 55) (.t 56)),
mv 1 57]
noncomputable abbrev r16:List In:=[mv 58 1,
i1 59 (.bin .gtr (.t 58) (kI 65536))]
noncomputable abbrev r17:List In:=[mv 60 9,
i1 61 (.build [.int .i64 0,.int .i64 0] [(0,1,(kI 4)),(1,1,(.t 60))]),
i1 4 (.mv (.k (.a (.raw (.slice none 0 0))))),
i1 5 (.mv (kI 0)),
i0 (.store 2 (.t 6) (.t 61))]
noncomputable abbrev r18:List In:=[i1 62 (.bin .add (.t 17) (kI 1)),
mv 17 62]
noncomputable abbrev r19:List In:=[mv 63 7,
mv 64 1,
i1 65 (.build [.int .i64 0,.int .i64 0] []),
mv 4 63,
mv 5 64,
i0 (.store 2 (.t 6) (.t 65))]
noncomputable abbrev code:IC:=.seq (.reg r0) (.seq (.reg r1) (.seq (.reg r2) (.seq (.seq (.reg r3) (.block 0 (.loop (.seq (.reg r4) (.seq (.cond (.t 18) .skip (.exit 0)) (.seq (.block 1 (.seq (.reg r5) (.seq (.seq (.reg r6) (.seq (.reg r7) (.cond (.t 25) (.seq (.reg r8) .ret) .skip))) (.seq (.seq (.reg r9) (.cond (.t 31) (.seq (.seq (.reg r10) (.cond (.t 35) (.seq (.reg r11) .ret) .skip)) (.seq (.reg r12) (.seq (.reg r13) (.exit 1)))) .skip)) (.seq (.reg r14) (.seq (.reg r15) (.seq (.reg r16) (.cond (.t 59) (.seq (.reg r17) .ret) .skip)))))))) (.reg r18))))))) (.seq (.reg r19) .ret))))
abbrev res:List RV:=[.tmp 4,.tmp 5,.cell 6 2 true]
theorem fn:Body Tryz.prog 62 66 code res:=⟨by decide,Tryz.f62,_,Tryz.func62,rfl,rfl,by kernel_rfl,by kernel_rfl⟩
end Kf
namespace Nf
abbrev r0:List In:=[i1 4 (.mv (.k (.a (.raw (.slice none 0 0))))),
i1 5 (.alloc 80 [.int .i64 0,.int .i64 0])]
abbrev r1:List In:=[i1 6 (.mv (.k (.a (.raw (.slice none 0 0)))))]
abbrev r2:List In:=[mv 12 0,
i1 13 (.len (.t 12)),
i1 14 (.mv (kI 0))]
abbrev r3:List In:=[i1 15 (.bin .lss (.t 14) (.t 13))]
abbrev r4:List In:=[mv 16 14,
i1 17 (.iaddr 6 (.t 12) (.t 14)),
i1 18 (.load 6 true (.t 17)),
i1 8 (.alloc 72 [.str [],.int .i64 0,.int .i64 0,.int .i64 0,.int .i64 0,.str []]),
mv 7 16,
i0 (.store 6 (.t 8) (.t 18))]
abbrev r5:List In:=[i1 19 (.faddr 0 (.t 8)),
i1 20 (.load 1 false (.t 19)),
i1 21 (.bin .neq (.t 20) (.k (.a (.str []))))]
abbrev r6:List In:=[i1 22 (.faddr 1 (.t 8)),
i1 23 (.load 4 true (.t 22)),
i1 9 (.alloc 70 [.int .i64 0,.int .i64 0,.int .i64 0,.int .i64 0]),
i0 (.store 4 (.t 9) (.t 23))]
abbrev r7:List In:=[i1 24 (.faddr 5 (.t 8)),
i1 25 (.load 1 false (.t 24)),
i1 26 (.bin .neq (.t 25) (.k (.a (.str []))))]
abbrev r8:List In:=[mv 28 1,
i1 29 (.faddr 5 (.t 8)),
i1 30 (.load 1 false (.t 29)),
i1 31 (.callv (.t 28) [.t 30]),
mv 27 31,
i1 32 (.ext 0 (.t 27)),
i1 33 (.ext 1 (.t 27)),
mv 10 32,
mv 11 33]
abbrev r9:List In:=[mv 34 11,
i1 35 (.un .not (.t 34))]
abbrev r10:List In:=[mv 36 7,
i1 37 (.build [.int .i64 0,.int .i64 0] [(0,1,(kI 6)),(1,1,(.t 36))]),
i1 4 (.mv (.k (.a (.raw (.slice none 0 0))))),
i0 (.store 2 (.t 5) (.t 37))]
abbrev r11:List In:=[mv 38 10,
i1 39 (.bin .and (.t 38) (kI 65535)),
i1 40 (.faddr 3 (.t 9)),
i0 (.store 1 (.t 40) (.t 39))]
abbrev r12:List In:=[mv 41 6,
i1 42 (.load 4 true (.t 9)),
i1 43 (.bsl 70 4 1 [.int .i64 0,.int .i64 0,.int .i64 0,.int .i64 0] [(0,4,(.t 42))]),
i1 44 (.app 114 70 4 32 (.t 41) (.t 43)),
mv 6 44]
abbrev r13:List In:=[i1 45 (.bin .add (.t 14) (kI 1)),
mv 14 45]
abbrev r14:List In:=[mv 46 6,
i1 47 (.build [.int .i64 0,.int .i64 0] []),
mv 4 46,
i0 (.store 2 (.t 5) (.t 47))]
abbrev code:IC:=.seq (.reg r0) (.seq (.reg r1) (.seq (.seq (.reg r2) (.block 0 (.loop (.seq (.reg r3) (.seq (.cond (.t 15) .skip (.exit 0)) (.seq (.block 1 (.seq (.reg r4) (.seq (.seq (.reg r5) (.cond (.t 21) (.exit 1) .skip)) (.seq (.reg r6) (.seq (.seq (.reg r7) (.cond (.t 26) (.seq (.reg r8) (.seq (.seq (.reg r9) (.cond (.t 35) (.seq (.reg r10) .ret) .skip)) (.reg r11))) .skip)) (.reg r12)))))) (.reg r13))))))) (.seq (.reg r14) .ret)))
abbrev res:List RV:=[.tmp 4,.cell 5 2 true]
theorem fn:Body Tryz.prog 67 48 code res:=⟨by decide,Tryz.f67,_,Tryz.func67,rfl,rfl,by kernel_rfl,by kernel_rfl⟩
end Nf
end Go.Proofs.YtbmecnjmbhokgaaGreatDoor
namespace Go.Proofs.YtbmecnjmbhokgaaGreatDoor
open Go.RowKit Vc
set_option linter.unusedVariables false
set_option linter.unusedSimpArgs false
attribute [local irreducible] T Za Zn Ent RdC RwC Yj Zf Zi
def Wu:List Ln→Nat→Int→List (List UInt8)→List Spot→List Spot×Int×Int×Int
 | [],_,at_,_,acc=>(acc,at_,0,0)
 |x::l,k,at_,seen,acc=>if Uw x≠0 then([],0,Uw x,k)else
   if x.label≠[]then(if x.label∈seen then([],0,7,k)else Wu l (k+1) at_ (x.label::seen) (acc++[⟨x.label,at_⟩]))
   else if 65536<at_+Og x then([],0,4,k)else Wu l (k+1) (at_+Og x) seen acc
def Yc(l:List Ln)(at_:Int):List Spot×Int×Int×Int:=Wu l 0 at_ [] []
def Hf(seen:List (List UInt8)):List UInt8→Option (Kd.ty .bool):=fun s=>if s∈seen then some true else none
theorem Zfx:Hf []=fun _=>none:=by funext s;simp[Hf]
theorem Zcb(s:List UInt8)(seen:List (List UInt8)):(fun t=>if t=s then some true else Hf seen t)=Hf (s::seen):=by
 funext t;simp only[Hf,List.mem_cons]
 by_cases h:t=s<;>simp[h]
theorem Ol{s:List UInt8}(h:Xk s=true):s.length≤32:=by
 simp only[Xk,Bool.and_eq_true,decide_eq_true_eq]at h;omega
theorem Pv{x:Ln}(h:Uw x=0)(hl:x.label≠[]):Xk x.label=true∧x.ref=[]∧x.ins=Vt:=by
 unfold Uw at h
 rw[if_pos hl]at h
 split at h
 ·omega
 ·rename_i hn
  split at h
  ·omega
  ·rename_i h2
   simp only[not_or,ne_eq,Decidable.not_not]at h2
   exact⟨by simpa using hn,h2⟩
theorem Mg{x:Ln}(h:Uw x=0)(hl:x.label=[]):Wv x.ins=0∧(x.ref≠[]→Xk x.ref=true∧Ur x.ins.op=true∧x.ins.imm=0):=by
 unfold Uw at h
 rw[if_neg (by simpa using hl)]at h
 split at h
 ·rename_i h1;exact absurd h h1
 ·rename_i h1
  refine⟨by simpa using h1,fun hr=> ?_⟩
  rw[if_neg hr]at h
  split at h
  ·omega
  ·rename_i hn
   split at h
   ·omega
   ·rename_i h2
    simp only[not_or,ne_eq,Decidable.not_not,Bool.not_eq_false]at h2
    exact⟨by simpa using hn,h2⟩
theorem Dd{x:Ins}(h:Wv x=0):U8 x.op=true:=by
 unfold Wv at h
 split at h
 ·omega
 ·rename_i hk;simpa using hk
theorem Zfh{x:Ln}(h:x.label=[]):Og x=Iv x.ins.op:=by
 unfold Og Iv;rw[if_neg (by simpa using h)]
theorem C1(x:Ln):0≤Og x∧Og x≤2:=by
 unfold Og;repeat' split
 all_goals omega
theorem dfltB:Kd.dflt .bool=false:=rfl
set_option maxHeartbeats 2000000 in
theorem O3(l:List Ln)(at_:Int)(hlen:l.length≤40000)(h0:0≤at_)(h1:at_≤65536):
 RwC Tryz.prog 62 [.ro .line l,.v (.a (.int .i64 at_))] 109 .spot (Yc l at_).1 [.a (.int .i64 (Yc l at_).2.1),.agg [.int .i64 (Yc l at_).2.2.1,.int .i64 (Yc l at_).2.2.2]]:=by
 refine Kf.fn.rw (by simp) (by simp[Zz]) (by simp[S1.bd,At.bd]) fun w=> ?_
 repeat'(first|(first|refine Stp.h ?_)<;>try simp only[Zd,simprocAttr,↓reduceIte,reduceCtorEq,implies_true]|(with_reducible first|assumption|refine And.intro ?_ ?_)|(intro h;first|omega|exact tg h ‹_›|exact tg ‹_› h|skip))
 refine T.weak (Ent.nilRow (t:=7) 109 .spot rfl) ?_
 simp only[Zd,simprocAttr,↓reduceIte,reduceCtorEq,implies_true]
 refine T.loop (ι:= {p:Nat×Int×List (List UInt8)×List Spot//p.1≤l.length∧Wu (l.drop p.1) p.1 p.2.1 p.2.2.1 p.2.2.2=Yc l at_∧0≤p.2.1∧p.2.1≤65536∧p.2.2.1.length≤p.1∧p.2.2.2.length≤p.1})
  (fun x=>⟨[(17,.one (.a (.int .i64 (x.1.1:Int)))),(16,.one (.a (.int .i64 l.length))),(15,.one (.a (.ref 0))),(8,.one (.a (.ref 2))),(7,.one (.a (.ref 3))),(6,.one (.a (.loc 1 0))),(1,.one (.a (.int .i64 x.1.2.1)))],
    [(3,.row 109 .spot x.1.2.2.2),(2,.smap Tryz.prog 9 4 .bool (Hf x.1.2.2.1) x.1.2.2.1.length),(1,.cells 80 [.int .i64 0,.int .i64 0]),(0,.ro .line l)],4⟩)
  (fun x=>l.length-x.1.1) ⟨(0,at_,[],[]),by simp,by simp[Yc],h0,h1,by simp,by simp⟩ (Ent.mk1 (id) (by simp[Zy,Zfx])) ?_
 rintro⟨⟨k,a,seen,acc⟩,hk,hrun,ha0,ha1,hs,hacc⟩
 simp only at hk hrun ha0 ha1 hs hacc
 by_cases hlt:k<l.length
 ·have hdrop:l.drop k=l.getD k ln0::l.drop (k+1):=by
   rw[List.drop_eq_getElem_cons hlt];simp[List.getD,hlt]
  generalize hx:l.getD k ln0=x at hdrop
  have hx':l.getD k (Kd.dflt .line)=x:=hx
  rw[hdrop]at hrun
  simp only[Wu]at hrun
  have hw:IntKind.i64.wrap ((k:Int)+1)=((k+1:Nat):Int):=Zx (by omega)
  have ht:((k:Int)).toNat=k:=by omega
  by_cases hwr:Uw x=0
  ·rw[if_neg (by simpa using hwr)]at hrun
   by_cases hlb:x.label=[]
   ·rw[if_neg (by simpa using hlb)]at hrun
    have hkn:=Dd (Mg hwr hlb).1
    have hlg:=Zfh hlb
    have hle:=C1 x
    rw[hlg]at hrun hle
    have hwa:IntKind.i64.wrap (a+Iv x.ins.op)=a+Iv x.ins.op:=Zm (by omega) (by omega)
    have hlbd:decide (x.label=[])=true:=decide_eq_true hlb
    repeat'(first|(first|refine Stp.h ?_|((with_reducible first|apply Za.rd (Xv _)|apply Zf.rd (Xv _));focus((repeat'(first|exact rfl|exact trivial|refine And.intro ?_ ?_|(simp[Zz];done)));done))|((with_reducible first|apply Za.rd (Dh _ hkn)|apply Zf.rd (Dh _ hkn));focus((repeat'(first|exact rfl|exact trivial|refine And.intro ?_ ?_|(simp[Zz];done)));done)))<;>try simp only[Zd,simprocAttr,↓reduceIte,reduceCtorEq,implies_true,hx',hw,ht,hwr,hlbd,hwa,Int.ofNat_lt]|(with_reducible first|assumption|refine And.intro ?_ ?_)|(intro h;first|omega|exact tg h ‹_›|exact tg ‹_› h|skip))
    all_goals first|omega|(rw[if_pos (by assumption)]at hrun;rw[←hrun];done)|skip
    ·rw[if_neg (by assumption)]at hrun
     exact⟨⟨(k+1,a+Iv x.ins.op,seen,acc),hlt,hrun,by simp only;omega,by simp only;omega,by simp only;omega,by simp only;omega⟩,(Ent.mk1 (id) (by simp[Zy,hw])),by simp only;omega⟩
   ·rw[if_pos hlb]at hrun
    have hnm:=Ol (Pv hwr hlb).1
    have hseen:(Hf seen x.label)=if x.label∈seen then some true else none:=rfl
    by_cases hin:x.label∈seen
    ·rw[if_pos hin]at hrun
     rw[if_pos hin]at hseen
     repeat'(first|(first|refine Stp.h ?_|((with_reducible first|apply Za.rd (Xv _)|apply Zf.rd (Xv _));focus((repeat'(first|exact rfl|exact trivial|refine And.intro ?_ ?_|(simp[Zz];done)));done)))<;>try simp only[Zd,simprocAttr,↓reduceIte,reduceCtorEq,implies_true,hx',hw,ht,hwr,hlb,hseen,Int.ofNat_lt]|(with_reducible first|assumption|refine And.intro ?_ ?_)|(intro h;first|omega|exact tg h ‹_›|exact tg ‹_› h|skip))
     all_goals first|omega|(rw[←hrun];done)|skip
    ·rw[if_neg hin]at hrun
     rw[if_neg hin]at hseen
     repeat'(first|(first|refine Stp.h ?_|((with_reducible first|apply Za.rd (Xv _)|apply Zf.rd (Xv _));focus((repeat'(first|exact rfl|exact trivial|refine And.intro ?_ ?_|(simp[Zz];done)));done)))<;>try simp only[Zd,simprocAttr,↓reduceIte,reduceCtorEq,implies_true,hx',hw,ht,hwr,hlb,hseen,Zcb,dfltB,Int.ofNat_lt]|(with_reducible first|assumption|refine And.intro ?_ ?_)|(intro h;first|omega|exact tg h ‹_›|exact tg ‹_› h|skip))
     all_goals first|omega|skip
     exact⟨⟨(k+1,a,x.label::seen,acc++[⟨x.label,a⟩]),hlt,hrun,ha0,ha1,by simp only[List.length_cons];omega,by simp only[List.length_append,List.length_cons,List.length_nil];omega⟩,(Ent.mk1 (fun n=>if n=3 then 6 else n) (by simp[Zy,hw])),by simp only;omega⟩
  ·rw[if_pos (by simpa using hwr)]at hrun
   repeat'(first|(first|refine Stp.h ?_|((with_reducible first|apply Za.rd (Xv _)|apply Zf.rd (Xv _));focus((repeat'(first|exact rfl|exact trivial|refine And.intro ?_ ?_|(simp[Zz];done)));done)))<;>try simp only[Zd,simprocAttr,↓reduceIte,reduceCtorEq,implies_true,hx',hw,ht,hwr,Int.ofNat_lt]|(with_reducible first|assumption|refine And.intro ?_ ?_)|(intro h;first|omega|exact tg h ‹_›|exact tg ‹_› h|skip))
   all_goals first|omega|(rw[←hrun];done)|skip
 ·have hk2:k=l.length:=by omega
  subst hk2
  rw[List.drop_length]at hrun
  simp only[Wu]at hrun
  repeat'(first|(first|refine Stp.h ?_)<;>try simp only[Zd,simprocAttr,↓reduceIte,reduceCtorEq,implies_true,Int.ofNat_lt]|(with_reducible first|assumption|refine And.intro ?_ ?_)|(intro h;first|omega|exact tg h ‹_›|exact tg ‹_› h|skip))
  all_goals first|omega|(rw[←hrun];done)|skip
def Ri(h:List UInt8→Int×Bool):List Ln→Nat→List Ins→List Ins×Int×Int
 | [],_,acc=>(acc,0,0)
 |x::l,k,acc=>if x.label≠[]then Ri h l (k+1) acc
   else if x.ref≠[]then(if(h x.ref).2=false then([],6,k)else Ri h l (k+1) (acc++[⟨x.ins.op,x.ins.d,x.ins.s,Mn .i64 (h x.ref).1 65535⟩]))
   else Ri h l (k+1) (acc++[x.ins])
def Ut(h:List UInt8→Int×Bool)(l:List Ln):List Ins×Int×Int:=Ri h l 0 []
def Knows(g:List S1→Option SV)(h:List UInt8→Int×Bool)(l:List Ln):Prop:=
 ∀x∈l,x.label=[]→x.ref≠[]→g [.a (.str x.ref)]=some (.tup [.a (.int .i64 (h x.ref).1),.a (.bool (h x.ref).2)])
set_option maxHeartbeats 2000000 in
theorem Dk(l:List Ln)(g:List S1→Option SV)(kn:List UInt8→Int×Bool)(hg:Knows g kn l)(hlen:l.length≤40000):
 GC Tryz.prog 67 [.a (.ref 0),.a (.ref 1)] [(0,.ro .line l),(1,.fn Tryz.prog g)] 2 [] (.tup [.a (.ref 2),.agg [.int .i64 (Ut kn l).2.1,.int .i64 (Ut kn l).2.2]])
  [(2,.row 70 .ins (Ut kn l).1)] 3:=by
 refine Nf.fn.gc (by simp) (by simp[Zu,Zw,Zv,Zj,Ze,Vc.S1.okN,At.okN,SV.okN,Res.okN,Res.outOk,Zo,Res.own,Value.oneCell']) fun w X fr=> ?_
 repeat'(first|(first|refine Stp.h ?_)<;>try simp only[Zd,simprocAttr,↓reduceIte,reduceCtorEq,implies_true]|(with_reducible first|assumption|refine And.intro ?_ ?_)|(intro h;first|omega|exact tg h ‹_›|exact tg ‹_› h|skip))
 refine T.weak (Ent.nilRow (t:=6) 70 .ins rfl) ?_
 simp only[Zd,simprocAttr,↓reduceIte,reduceCtorEq,implies_true]
 refine T.loop (ι:= {p:Nat×List Ins//p.1≤l.length∧Ri kn (l.drop p.1) p.1 p.2=Ut kn l∧p.2.length≤p.1})
  (fun x=>⟨[(14,.one (.a (.int .i64 (x.1.1:Int)))),(13,.one (.a (.int .i64 l.length))),(12,.one (.a (.ref 0))),(6,.one (.a (.ref 3))),(5,.one (.a (.loc 2 0))),(1,.one (.a (.ref 1)))],
    [(3,.row 70 .ins x.1.2),(2,.cells 80 [.int .i64 0,.int .i64 0]),(0,.ro .line l),(1,.fn Tryz.prog g)],4⟩)
  (fun x=>l.length-x.1.1) ⟨(0,[]),by simp,by simp[Ut],by simp⟩ (Ent.mk1 (id) (by simp[Zy])) ?_
 rintro⟨⟨k,acc⟩,hk,hrun,hacc⟩
 simp only at hk hrun hacc
 by_cases hlt:k<l.length
 ·have hdrop:l.drop k=l.getD k ln0::l.drop (k+1):=by
   rw[List.drop_eq_getElem_cons hlt];simp[List.getD,hlt]
  have hmem:l.getD k ln0∈l:=by simp[List.getD,hlt]
  generalize hx:l.getD k ln0=x at hdrop hmem
  have hx':l.getD k (Kd.dflt .line)=x:=hx
  rw[hdrop]at hrun
  simp only[Ri]at hrun
  have hw:IntKind.i64.wrap ((k:Int)+1)=((k+1:Nat):Int):=Zx (by omega)
  have ht:((k:Int)).toNat=k:=by omega
  by_cases hlb:x.label=[]
  ·rw[if_neg (by simpa using hlb)]at hrun
   have hlbd:decide (x.label=[])=true:=decide_eq_true hlb
   by_cases hrf:x.ref=[]
   ·rw[if_neg (by simpa using hrf)]at hrun
    have hrfd:decide (x.ref=[])=true:=decide_eq_true hrf
    repeat'(first|(first|refine Stp.h ?_)<;>try simp only[Zd,simprocAttr,↓reduceIte,reduceCtorEq,implies_true,hx',hw,ht,hlbd,hrfd,Int.ofNat_lt]|(with_reducible first|assumption|refine And.intro ?_ ?_)|(intro h;first|omega|exact tg h ‹_›|exact tg ‹_› h|skip))
    all_goals first|omega|skip
    exact⟨⟨(k+1,acc++[x.ins]),hlt,hrun,by simp only[List.length_append,List.length_cons,List.length_nil];omega⟩,(Ent.mk1 (fun n=>if n=3 then 7 else n) (by simp[Zy,hw])),by simp only;omega⟩
   ·rw[if_pos hrf]at hrun
    have hgx:=hg x hmem hlb hrf
    cases hkn:(kn x.ref).2 with
    |false=>
     rw[if_pos hkn]at hrun
     rw[hkn]at hgx
     repeat'(first|(first|refine Stp.h ?_)<;>try simp only[Zd,simprocAttr,↓reduceIte,reduceCtorEq,implies_true,hx',hw,ht,hlbd,hrf,hgx,Int.ofNat_lt]|(with_reducible first|assumption|refine And.intro ?_ ?_)|(intro h;first|omega|exact tg h ‹_›|exact tg ‹_› h|skip))
     all_goals first|omega|(rw[←hrun];done)|skip
    |true=>
     rw[if_neg (by simpa using hkn)]at hrun
     rw[hkn]at hgx
     repeat'(first|(first|refine Stp.h ?_)<;>try simp only[Zd,simprocAttr,↓reduceIte,reduceCtorEq,implies_true,hx',hw,ht,hlbd,hrf,hgx,Int.ofNat_lt]|(with_reducible first|assumption|refine And.intro ?_ ?_)|(intro h;first|omega|exact tg h ‹_›|exact tg ‹_› h|skip))
     all_goals first|omega|skip
     exact⟨⟨(k+1,acc++[⟨x.ins.op,x.ins.d,x.ins.s,Mn .i64 (kn x.ref).1 65535⟩]),hlt,hrun,by simp only[List.length_append,List.length_cons,List.length_nil];omega⟩,(Ent.mk1 (fun n=>if n=3 then 7 else n) (by simp[Zy,hw])),by simp only;omega⟩
  ·rw[if_pos hlb]at hrun
   repeat'(first|(first|refine Stp.h ?_)<;>try simp only[Zd,simprocAttr,↓reduceIte,reduceCtorEq,implies_true,hx',hw,ht,hlb,Int.ofNat_lt]|(with_reducible first|assumption|refine And.intro ?_ ?_)|(intro h;first|omega|exact tg h ‹_›|exact tg ‹_› h|skip))
   all_goals first|omega|skip
   exact⟨⟨(k+1,acc),hlt,hrun,by simp only;omega⟩,(Ent.mk1 (id) (by simp[Zy,hw])),by simp only;omega⟩
 ·have hk2:k=l.length:=by omega
  subst hk2
  rw[List.drop_length]at hrun
  simp only[Ri]at hrun
  repeat'(first|(first|refine Stp.h ?_)<;>try simp only[Zd,simprocAttr,↓reduceIte,reduceCtorEq,implies_true,Int.ofNat_lt]|(with_reducible first|assumption|refine And.intro ?_ ?_)|(intro h;first|omega|exact tg h ‹_›|exact tg ‹_› h|skip))
  all_goals first|omega|(rw[←hrun];done)|skip
theorem C0{x:Ln}(h:x.label≠[]):Og x=0:=by unfold Og;rw[if_pos h]
end Go.Proofs.YtbmecnjmbhokgaaGreatDoor
namespace Go.Proofs.YtbmecnjmbhokgaaGreatDoor
open Vc
namespace Mk
abbrev r0:List In:=[i1 2 (.mv (kB false))]
abbrev r1:List In:=[mv 3 0,
i1 4 (.sidx (.t 3) (kI 0)),
i1 5 (.bin .eql (.t 4) (.k (.a (.int .u8 46)))),
mv 2 5]
abbrev code:IC:=.seq (.reg r0) (.seq (.reg r1) .ret)
abbrev res:List RV:=[.tmp 2]
theorem fn:Body Tryz.prog 63 6 code res:=⟨by decide,Tryz.f63,_,Tryz.func63,rfl,rfl,by kernel_rfl,by kernel_rfl⟩
end Mk
namespace P3
noncomputable abbrev r0:List In:=[i1 2 (.mv (.k (.a (.raw (.map none))))),
i1 3 (.alloc 80 [.int .i64 0,.int .i64 0])]
noncomputable abbrev r1:List In:=[mv 14 0,
i1 15 (.len (.t 14)),
i1 16 (.bin .gtr (.t 15) (kI 400))]
noncomputable abbrev r2:List In:=[i1 17 (.build [.int .i64 0,.int .i64 0] [(0,1,(kI 5))]),
i1 2 (.mv (.k (.a (.raw (.map none))))),
i0 (.store 2 (.t 3) (.t 17))]
noncomputable abbrev r3:List In:=[i1 18 (.mkmap Tryz.prog 9 3 (.int .i64)),
mv 4 18]
noncomputable abbrev r4:List In:=[mv 19 0,
i1 20 (.len (.t 19)),
i1 21 (.mv (kI 0))]
noncomputable abbrev r5:List In:=[i1 22 (.bin .lss (.t 21) (.t 20))]
noncomputable abbrev r6:List In:=[mv 23 21,
i1 24 (.iaddr 2 (.t 19) (.t 21)),
i1 25 (.load 2 true (.t 24)),
i1 6 (.alloc 75 [.str [],.raw (.slice none 0 0)]),
mv 5 23,
i0 (.store 2 (.t 6) (.t 25))]
noncomputable abbrev r7:List In:=[i1 26 (.faddr 1 (.t 6)),
i1 27 (.load 1 false (.t 26)),
i1 28 (.len (.t 27)),
i1 29 (.bin .gtr (.t 28) (kI 40000))]
noncomputable abbrev r8:List In:=[mv 30 5,
i1 31 (.build [.int .i64 0,.int .i64 0] [(0,1,(kI 5)),(1,1,(.t 30))]),
i1 2 (.mv (.k (.a (.raw (.map none))))),
i0 (.store 2 (.t 3) (.t 31))]
noncomputable abbrev r9:List In:=[i1 33 (.faddr 1 (.t 6)),
i1 34 (.load 1 false (.t 33)),
i1 35 (.call 62 [.t 34,kI 0]),
mv 32 35,
i1 36 (.ext 0 (.t 32)),
i1 37 (.ext 1 (.t 32)),
i1 38 (.ext 2 (.t 32)),
i1 9 (.alloc 80 [.int .i64 0,.int .i64 0]),
mv 7 36,
mv 8 37,
i0 (.store 2 (.t 9) (.t 38))]
noncomputable abbrev r10:List In:=[i1 39 (.faddr 0 (.t 9)),
i1 40 (.load 1 false (.t 39)),
i1 41 (.bin .neq (.t 40) (kI 0))]
noncomputable abbrev r11:List In:=[i1 42 (.faddr 0 (.t 9)),
i1 43 (.load 1 false (.t 42)),
mv 44 5,
i1 45 (.build [.int .i64 0,.int .i64 0] [(0,1,(.t 43)),(1,1,(.t 44))]),
i1 2 (.mv (.k (.a (.raw (.map none)))))]
noncomputable abbrev r12:List In:=[i0 (.store 2 (.t 3) (.t 45))]
noncomputable abbrev r13:List In:=[mv 46 7,
i1 47 (.len (.t 46)),
i1 48 (.mv (kI 0))]
noncomputable abbrev r14:List In:=[i1 49 (.bin .lss (.t 48) (.t 47))]
noncomputable abbrev r15:List In:=[i1 50 (.iaddr 2 (.t 46) (.t 48)),
i1 51 (.load 2 true (.t 50)),
i1 11 (.alloc 109 [.str [],.int .i64 0]),
i0 (.store 2 (.t 11) (.t 51))]
noncomputable abbrev r16:List In:=[i1 52 (.faddr 0 (.t 11)),
i1 53 (.load 1 false (.t 52)),
i1 54 (.call 63 [.t 53])]
noncomputable abbrev r17:List In:=[mv 56 4,
i1 57 (.faddr 0 (.t 11)),
i1 58 (.load 1 false (.t 57)),
i1 59 (.mlook Tryz.prog 9 3 (.int .i64) true (.t 56) (.t 58)),
mv 55 59,
i1 60 (.ext 0 (.t 55)),
i1 61 (.ext 1 (.t 55)),
mv 12 60,
mv 13 61]
noncomputable abbrev r18:List In:=[mv 62 13]
noncomputable abbrev r19:List In:=[mv 63 5,
i1 64 (.build [.int .i64 0,.int .i64 0] [(0,1,(kI 7)),(1,1,(.t 63))]),
i1 2 (.mv (.k (.a (.raw (.map none))))),
i0 (.store 2 (.t 3) (.t 64))]
noncomputable abbrev r20:List In:=[mv 65 4,
i1 66 (.faddr 0 (.t 11)),
i1 67 (.load 1 false (.t 66)),
mv 68 5,
i0 (.mupd Tryz.prog 9 3 (.int .i64) (.t 65) (.t 67) (.t 68))]
noncomputable abbrev r21:List In:=[i1 69 (.bin .add (.t 48) (kI 1)),
mv 48 69]
noncomputable abbrev r22:List In:=[i1 70 (.bin .add (.t 21) (kI 1)),
mv 21 70]
noncomputable abbrev r23:List In:=[mv 71 4,
i1 72 (.build [.int .i64 0,.int .i64 0] []),
mv 2 71,
i0 (.store 2 (.t 3) (.t 72))]
noncomputable abbrev code:IC:=.seq (.reg r0) (.seq (.seq (.reg r1) (.cond (.t 16) (.seq (.reg r2) .ret) .skip)) (.seq (.reg r3) (.seq (.seq (.reg r4) (.block 0 (.loop (.seq (.reg r5) (.seq (.cond (.t 22) .skip (.exit 0)) (.seq (.block 1 (.seq (.reg r6) (.seq (.seq (.reg r7) (.cond (.t 29) (.seq (.reg r8) .ret) .skip)) (.seq (.reg r9) (.seq (.seq (.reg r10) (.cond (.t 41) (.seq (.dregt r11 r12) .ret) .skip)) (.seq (.reg r13) (.block 2 (.loop (.seq (.reg r14) (.seq (.cond (.t 49) .skip (.exit 2)) (.seq (.block 3 (.seq (.reg r15) (.seq (.seq (.reg r16) (.cond (.t 54) (.exit 3) .skip)) (.seq (.seq (.reg r17) (.seq (.reg r18) (.cond (.t 62) (.seq (.reg r19) .ret) .skip))) (.reg r20))))) (.reg r21)))))))))))) (.reg r22))))))) (.seq (.reg r23) .ret))))
abbrev res:List RV:=[.tmp 2,.cell 3 2 true]
theorem fn:Body Tryz.prog 61 73 code res:=⟨by decide,Tryz.f61,_,Tryz.func61,rfl,rfl,by kernel_rfl,by kernel_rfl⟩
end P3
namespace W3
noncomputable abbrev r0:List In:=[i1 4 (.alloc 78 [.raw (.slice none 0 0),.raw (.slice none 0 0),.raw (.slice none 0 0)]),
i1 5 (.alloc 80 [.int .i64 0,.int .i64 0])]
noncomputable abbrev r1:List In:=[mv 34 0,
i1 35 (.call 61 [.t 34]),
mv 33 35,
i1 36 (.ext 0 (.t 33)),
i1 37 (.ext 1 (.t 33)),
i1 7 (.alloc 80 [.int .i64 0,.int .i64 0]),
mv 6 36,
i0 (.store 2 (.t 7) (.t 37))]
noncomputable abbrev r2:List In:=[i1 38 (.faddr 0 (.t 7)),
i1 39 (.load 1 false (.t 38)),
i1 40 (.bin .neq (.t 39) (kI 0))]
noncomputable abbrev r3:DT:=(tk 41 (.build [.raw (.slice none 0 0),.raw (.slice none 0 0),.raw (.slice none 0 0)] []) false
 (al 42 (.load 2 true (.t 7)) false
 (.alt (i0 (.store 3 (.t 4) (.t 41))) false
 (.alt (i0 (.store 2 (.t 5) (.t 42))) false
 .done
 .stop)
 .stop)
 (.alt (i0 (.store 3 (.t 4) (.t 41))) false
 (al 42 (.load 2 true (.t 7)) false
 (.alt (i0 (.store 2 (.t 5) (.t 42))) false
 .done
 .stop)
 .stop)
 .stop)))
noncomputable abbrev r4:List In:=[mv 44 6,
mv 45 1,
i1 46 (.mlook Tryz.prog 9 3 (.int .i64) true (.t 44) (.t 45)),
mv 43 46,
i1 47 (.ext 0 (.t 43)),
i1 48 (.ext 1 (.t 43)),
mv 8 47,
mv 9 48]
noncomputable abbrev r5:List In:=[mv 49 9,
i1 50 (.un .not (.t 49))]
noncomputable abbrev r6:List In:=[i1 51 (.build [.raw (.slice none 0 0),.raw (.slice none 0 0),.raw (.slice none 0 0)] []),
mv 52 0,
i1 53 (.len (.t 52)),
i1 54 (.build [.int .i64 0,.int .i64 0] [(0,1,(kI 6)),(1,1,(.t 53))]),
i0 (.store 3 (.t 4) (.t 51)),
i0 (.store 2 (.t 5) (.t 54))]
noncomputable abbrev r7:List In:=[i1 10 (.alloc 78 [.raw (.slice none 0 0),.raw (.slice none 0 0),.raw (.slice none 0 0)])]
noncomputable abbrev r8:List In:=[i1 55 (.mkmap Tryz.prog 9 3 (.int .i64)),
i1 11 (.alloc 101 [.raw (.map none)]),
i0 (.store 1 (.t 11) (.t 55))]
noncomputable abbrev r9:List In:=[i1 12 (.mv (kI 0))]
noncomputable abbrev r10:List In:=[mv 56 8,
i1 57 (.bsl 3 1 1 [.int .i64 0] [(0,1,(.t 56))]),
i1 58 (.faddr 1 (.t 10)),
i0 (.store 1 (.t 58) (.t 57))]
noncomputable abbrev r11:List In:=[i1 13 (.mv (kI 0))]
noncomputable abbrev r12:List In:=[mv 59 13,
i1 60 (.faddr 1 (.t 10)),
i1 61 (.load 1 false (.t 60)),
i1 62 (.len (.t 61)),
i1 63 (.bin .lss (.t 59) (.t 62))]
noncomputable abbrev r13:List In:=[i1 66 (.faddr 1 (.t 10)),
i1 67 (.load 1 false (.t 66)),
mv 68 13,
i1 69 (.iaddr 1 (.t 67) (.t 68)),
i1 70 (.load 1 false (.t 69)),
mv 14 70]
noncomputable abbrev r14:List In:=[mv 72 0,
mv 73 14,
i1 74 (.iaddr 2 (.t 72) (.t 73)),
i1 75 (.faddr 1 (.t 74)),
i1 76 (.load 1 false (.t 75)),
mv 77 12,
i1 78 (.call 62 [.t 76,.t 77]),
mv 71 78,
i1 79 (.ext 0 (.t 71)),
i1 80 (.ext 1 (.t 71)),
i1 81 (.ext 2 (.t 71)),
i1 17 (.alloc 80 [.int .i64 0,.int .i64 0]),
mv 15 79,
mv 16 80,
i0 (.store 2 (.t 17) (.t 81))]
noncomputable abbrev r15:List In:=[i1 82 (.faddr 0 (.t 17)),
i1 83 (.load 1 false (.t 82)),
i1 84 (.bin .neq (.t 83) (kI 0))]
noncomputable abbrev r16:DT:=(tk 85 (.build [.raw (.slice none 0 0),.raw (.slice none 0 0),.raw (.slice none 0 0)] []) false
 (tm 88 14 false
 (al 86 (.faddr 0 (.t 17)) false
 (al 87 (.load 1 false (.t 86)) false
 (tk 89 (.build [.int .i64 0,.int .i64 0] [(0,1,(.t 87)),(1,1,(.t 88))]) false
 (.alt (i0 (.store 3 (.t 4) (.t 85))) false
 (.alt (i0 (.store 2 (.t 5) (.t 89))) false
 .done
 .stop)
 .stop))
 (.alt (i0 (.store 3 (.t 4) (.t 85))) false
 (al 87 (.load 1 false (.t 86)) false
 (tk 89 (.build [.int .i64 0,.int .i64 0] [(0,1,(.t 87)),(1,1,(.t 88))]) false
 (.alt (i0 (.store 2 (.t 5) (.t 89))) false
 .done
 .stop))
 .stop)
 .stop))
 (.alt (i0 (.store 3 (.t 4) (.t 85))) false
 (al 86 (.faddr 0 (.t 17)) false
 (al 87 (.load 1 false (.t 86)) false
 (tk 89 (.build [.int .i64 0,.int .i64 0] [(0,1,(.t 87)),(1,1,(.t 88))]) false
 (.alt (i0 (.store 2 (.t 5) (.t 89))) false
 .done
 .stop))
 .stop)
 .stop)
 .stop))))
noncomputable abbrev r17:List In:=[mv 90 15,
i1 91 (.len (.t 90)),
i1 92 (.mv (kI 0))]
noncomputable abbrev r18:List In:=[i1 93 (.bin .lss (.t 92) (.t 91))]
noncomputable abbrev r19:List In:=[i1 94 (.iaddr 2 (.t 90) (.t 92)),
i1 95 (.load 2 true (.t 94)),
i1 19 (.alloc 109 [.str [],.int .i64 0]),
i0 (.store 2 (.t 19) (.t 95))]
noncomputable abbrev r20:List In:=[i1 96 (.faddr 0 (.t 19)),
i1 97 (.load 1 false (.t 96)),
i1 98 (.call 63 [.t 97]),
i1 99 (.un .not (.t 98))]
noncomputable abbrev r21:List In:=[i1 100 (.load 1 false (.t 11)),
i1 101 (.faddr 0 (.t 19)),
i1 102 (.load 1 false (.t 101)),
i1 103 (.faddr 1 (.t 19)),
i1 104 (.load 1 false (.t 103)),
i0 (.mupd Tryz.prog 9 3 (.int .i64) (.t 100) (.t 102) (.t 104))]
noncomputable abbrev r22:List In:=[i1 105 (.faddr 2 (.t 10)),
i1 106 (.load 1 false (.t 105)),
i1 107 (.load 2 true (.t 19)),
i1 108 (.bsl 109 2 1 [.str [],.int .i64 0] [(0,2,(.t 107))]),
i1 109 (.app 76 109 2 24 (.t 106) (.t 108)),
i1 110 (.faddr 2 (.t 10)),
i0 (.store 1 (.t 110) (.t 109))]
noncomputable abbrev r23:List In:=[i1 111 (.bin .add (.t 92) (kI 1)),
mv 92 111]
noncomputable abbrev c19:IC:=.seq (.reg r18) (.seq (.cond (.t 93) .skip (.exit 2)) (.seq (.block 3 (.seq (.reg r19) (.seq (.reg r20) (.cond (.t 99) (.seq (.reg r21) (.reg r22)) .skip)))) (.reg r23)))
noncomputable abbrev r24:List In:=[mv 112 16,
mv 12 112]
noncomputable abbrev r25:List In:=[mv 113 0,
mv 114 14,
i1 115 (.iaddr 2 (.t 113) (.t 114)),
i1 116 (.faddr 1 (.t 115)),
i1 117 (.load 1 false (.t 116)),
i1 118 (.len (.t 117)),
i1 119 (.mv (kI 0))]
noncomputable abbrev r26:List In:=[i1 120 (.bin .lss (.t 119) (.t 118))]
noncomputable abbrev r27:List In:=[i1 121 (.iaddr 6 (.t 117) (.t 119)),
i1 122 (.load 6 true (.t 121)),
i1 21 (.alloc 72 [.str [],.int .i64 0,.int .i64 0,.int .i64 0,.int .i64 0,.str []]),
i0 (.store 6 (.t 21) (.t 122))]
noncomputable abbrev r28:List In:=[i1 123 (.faddr 5 (.t 21)),
i1 124 (.load 1 false (.t 123)),
i1 125 (.bin .eql (.t 124) (.k (.a (.str []))))]
noncomputable abbrev r29:List In:=[mv 127 6,
i1 128 (.faddr 5 (.t 21)),
i1 129 (.load 1 false (.t 128)),
i1 130 (.mlook Tryz.prog 9 3 (.int .i64) true (.t 127) (.t 129)),
mv 126 130,
i1 131 (.ext 0 (.t 126)),
i1 132 (.ext 1 (.t 126)),
mv 22 131,
mv 23 132]
noncomputable abbrev r30:List In:=[i1 133 (.faddr 5 (.t 21)),
i1 134 (.load 1 false (.t 133)),
i1 135 (.call 63 [.t 134])]
noncomputable abbrev r31:List In:=[mv 136 14,
mv 137 15,
i1 138 (.mkf 65 [.t 21]),
i1 139 (.call 64 [.t 137,.t 138]),
mv 22 136,
mv 23 139]
noncomputable abbrev r32:List In:=[mv 140 23,
i1 141 (.un .not (.t 140))]
noncomputable abbrev r33:List In:=[i1 142 (.build [.raw (.slice none 0 0),.raw (.slice none 0 0),.raw (.slice none 0 0)] []),
mv 143 14,
i1 144 (.build [.int .i64 0,.int .i64 0] [(0,1,(kI 6)),(1,1,(.t 143))]),
i0 (.store 3 (.t 4) (.t 142)),
i0 (.store 2 (.t 5) (.t 144))]
noncomputable abbrev r34:List In:=[i1 145 (.faddr 1 (.t 10)),
i1 146 (.load 1 false (.t 145)),
mv 147 22,
i1 148 (.call 66 [.t 146,.t 147]),
i1 149 (.un .not (.t 148))]
noncomputable abbrev r35:List In:=[i1 150 (.faddr 1 (.t 10)),
i1 151 (.load 1 false (.t 150)),
mv 152 22,
i1 153 (.bsl 3 1 1 [.int .i64 0] [(0,1,(.t 152))]),
i1 154 (.app 42 3 1 8 (.t 151) (.t 153)),
i1 155 (.faddr 1 (.t 10)),
i0 (.store 1 (.t 155) (.t 154))]
noncomputable abbrev r36:List In:=[i1 156 (.bin .add (.t 119) (kI 1)),
mv 119 156]
noncomputable abbrev c41:IC:=.seq (.reg r26) (.seq (.cond (.t 120) .skip (.exit 4)) (.seq (.block 5 (.seq (.reg r27) (.seq (.seq (.reg r28) (.cond (.t 125) (.exit 5) .skip)) (.seq (.reg r29) (.seq (.seq (.reg r30) (.cond (.t 135) (.reg r31) .skip)) (.seq (.seq (.reg r32) (.cond (.t 141) (.seq (.reg r33) .ret) .skip)) (.seq (.reg r34) (.cond (.t 149) (.reg r35) .skip)))))))) (.reg r36)))
noncomputable abbrev r37:List In:=[mv 64 13,
i1 65 (.bin .add (.t 64) (kI 1)),
mv 13 65]
noncomputable abbrev c52:IC:=.seq (.seq (.reg r12) (.cond (.t 63) .skip (.exit 0))) (.seq (.block 1 (.seq (.reg r13) (.seq (.reg r14) (.seq (.seq (.reg r15) (.cond (.t 84) (.seq (.dany r16) .ret) .skip)) (.seq (.seq (.reg r17) (.block 2 (.loop c19))) (.seq (.reg r24) (.seq (.reg r25) (.block 4 (.loop c41))))))))) (.reg r37))
noncomputable abbrev r38:List In:=[i1 12 (.mv (kI 0))]
noncomputable abbrev r39:List In:=[i1 157 (.faddr 1 (.t 10)),
i1 158 (.load 1 false (.t 157)),
i1 159 (.len (.t 158)),
i1 160 (.mv (kI 0))]
noncomputable abbrev r40:List In:=[i1 161 (.bin .lss (.t 160) (.t 159))]
noncomputable abbrev r41:List In:=[i1 162 (.iaddr 1 (.t 158) (.t 160)),
i1 163 (.load 1 false (.t 162)),
mv 25 163]
noncomputable abbrev r42:List In:=[mv 165 0,
mv 166 25,
i1 167 (.iaddr 2 (.t 165) (.t 166)),
i1 168 (.faddr 1 (.t 167)),
i1 169 (.load 1 false (.t 168)),
mv 170 12,
i1 171 (.call 62 [.t 169,.t 170]),
mv 164 171,
i1 172 (.ext 0 (.t 164)),
i1 173 (.ext 1 (.t 164)),
i1 174 (.ext 2 (.t 164)),
i1 26 (.alloc 76 [.raw (.slice none 0 0)]),
i1 28 (.alloc 80 [.int .i64 0,.int .i64 0]),
i0 (.store 1 (.t 26) (.t 172)),
mv 27 173,
i0 (.store 2 (.t 28) (.t 174))]
noncomputable abbrev r43:List In:=[mv 176 0,
mv 177 25,
i1 178 (.iaddr 2 (.t 176) (.t 177)),
i1 179 (.faddr 1 (.t 178)),
i1 180 (.load 1 false (.t 179)),
i1 181 (.mkf 68 [.t 11,.t 26]),
i1 182 (.call 67 [.t 180,.t 181]),
mv 175 182,
i1 183 (.ext 0 (.t 175)),
i1 184 (.ext 1 (.t 175)),
i1 30 (.alloc 80 [.int .i64 0,.int .i64 0]),
mv 29 183,
i0 (.store 2 (.t 30) (.t 184))]
noncomputable abbrev r44:List In:=[mv 186 29,
i1 187 (.call 71 [.t 186]),
mv 185 187,
i1 188 (.ext 0 (.t 185)),
i1 189 (.ext 1 (.t 185)),
i1 32 (.alloc 80 [.int .i64 0,.int .i64 0]),
mv 31 188,
i0 (.store 2 (.t 32) (.t 189))]
noncomputable abbrev r45:List In:=[i1 190 (.faddr 0 (.t 10)),
i1 191 (.load 1 false (.t 190)),
mv 192 31,
i1 193 (.app 42 3 1 8 (.t 191) (.t 192)),
i1 194 (.faddr 0 (.t 10)),
i0 (.store 1 (.t 194) (.t 193))]
noncomputable abbrev r46:List In:=[mv 195 27,
mv 12 195]
noncomputable abbrev r47:List In:=[i1 196 (.bin .add (.t 160) (kI 1)),
mv 160 196]
noncomputable abbrev c65:IC:=.seq (.reg r40) (.seq (.cond (.t 161) .skip (.exit 6)) (.seq (.block 7 (.seq (.reg r41) (.seq (.reg r42) (.seq (.reg r43) (.seq (.reg r44) (.seq (.reg r45) (.reg r46))))))) (.reg r47)))
noncomputable abbrev r48:List In:=[i1 197 (.load 3 true (.t 10)),
i1 198 (.build [.int .i64 0,.int .i64 0] []),
i0 (.store 3 (.t 4) (.t 197)),
i0 (.store 2 (.t 5) (.t 198))]
noncomputable abbrev code:IC:=.seq (.reg r0) (.seq (.reg r1) (.seq (.seq (.reg r2) (.cond (.t 40) (.seq (.dany r3) .ret) .skip)) (.seq (.reg r4) (.seq (.seq (.reg r5) (.cond (.t 50) (.seq (.reg r6) .ret) .skip)) (.seq (.reg r7) (.seq (.reg r8) (.seq (.reg r9) (.seq (.reg r10) (.seq (.seq (.reg r11) (.block 0 (.loop c52))) (.seq (.reg r38) (.seq (.seq (.reg r39) (.block 6 (.loop c65))) (.seq (.reg r48) .ret))))))))))))
abbrev res:List RV:=[.cell 4 3 true,.cell 5 2 true]
theorem fn:Body Tryz.prog 43 199 code res:=⟨by decide,Tryz.f43,_,Tryz.func43,rfl,rfl,by kernel_rfl,by kernel_rfl⟩
end W3
namespace Rz
abbrev r0:List In:=[i1 2 (.box 109 (.t 0)),
i1 3 (.mv (kB false))]
abbrev r1:List In:=[i1 4 (.faddr 0 (.t 2)),
i1 5 (.load 1 false (.t 4)),
i1 6 (.faddr 5 (.t 1)),
i1 7 (.load 1 false (.t 6)),
i1 8 (.bin .eql (.t 5) (.t 7)),
mv 3 8]
abbrev code:IC:=.seq (.reg r0) (.seq (.reg r1) .ret)
abbrev res:List RV:=[.tmp 3]
theorem fn:Body Tryz.prog 65 9 code res:=⟨by decide,Tryz.f65,_,Tryz.func65,rfl,rfl,by kernel_rfl,by kernel_rfl⟩
theorem enters:Xr Tryz.prog 65=true:=by kernel_rfl
end Rz
namespace R3
noncomputable abbrev r0:List In:=[i1 3 (.box 9 (.t 0)),
i1 4 (.mv (kI 0)),
i1 5 (.mv (kB false))]
noncomputable abbrev r1:List In:=[i1 7 (.load 1 false (.t 3)),
i1 8 (.call 63 [.t 7]),
i1 9 (.un .not (.t 8))]
noncomputable abbrev r2:List In:=[i1 10 (.load 1 false (.t 1)),
i1 11 (.load 1 false (.t 3)),
i1 12 (.mlook Tryz.prog 9 3 (.int .i64) false (.t 10) (.t 11)),
mv 4 12,
i1 5 (.mv (kB true))]
noncomputable abbrev r3:List In:=[i1 13 (.load 1 false (.t 2)),
i1 14 (.mkf 70 [.t 3]),
i1 15 (.call 69 [.t 13,.t 14]),
mv 6 15]
noncomputable abbrev r4:List In:=[i1 16 (.load 1 false (.t 2)),
mv 17 6,
i1 18 (.iaddr 2 (.t 16) (.t 17)),
i1 19 (.faddr 1 (.t 18)),
i1 20 (.load 1 false (.t 19)),
mv 4 20,
i1 5 (.mv (kB true))]
noncomputable abbrev code:IC:=.seq (.reg r0) (.seq (.seq (.reg r1) (.cond (.t 9) (.seq (.reg r2) .ret) .skip)) (.seq (.reg r3) (.seq (.reg r4) .ret)))
abbrev res:List RV:=[.tmp 4,.tmp 5]
theorem fn:Body Tryz.prog 68 21 code res:=⟨by decide,Tryz.f68,_,Tryz.func68,rfl,rfl,by kernel_rfl,by kernel_rfl⟩
theorem enters:Xr Tryz.prog 68=true:=by kernel_rfl
end R3
namespace Ts
abbrev r0:List In:=[i1 2 (.box 109 (.t 0)),
i1 3 (.mv (kB false))]
abbrev r1:List In:=[i1 4 (.faddr 0 (.t 2)),
i1 5 (.load 1 false (.t 4)),
i1 6 (.load 1 false (.t 1)),
i1 7 (.bin .eql (.t 5) (.t 6)),
mv 3 7]
abbrev code:IC:=.seq (.reg r0) (.seq (.reg r1) .ret)
abbrev res:List RV:=[.tmp 3]
theorem fn:Body Tryz.prog 70 8 code res:=⟨by decide,Tryz.f70,_,Tryz.func70,rfl,rfl,by kernel_rfl,by kernel_rfl⟩
theorem enters:Xr Tryz.prog 70=true:=by kernel_rfl
end Ts
namespace Yd
abbrev r0:List In:=[i1 4 (.mv (kB false))]
abbrev r1:List In:=[mv 5 0,
mv 6 1,
i1 7 (.call 69 [.t 5,.t 6]),
i1 8 (.bin .geq (.t 7) (kI 0)),
mv 4 8]
abbrev code:IC:=.seq (.reg r0) (.seq (.reg r1) .ret)
abbrev res:List RV:=[.tmp 4]
theorem fn:Body Tryz.prog 64 9 code res:=⟨by decide,Tryz.f64,_,Tryz.func64,rfl,rfl,by kernel_rfl,by kernel_rfl⟩
end Yd
namespace Vm
abbrev r0:List In:=[i1 4 (.mv (kB false))]
abbrev r1:List In:=[mv 5 0,
mv 6 1,
i1 7 (.call 82 [.t 5,.t 6]),
i1 8 (.bin .geq (.t 7) (kI 0)),
mv 4 8]
abbrev code:IC:=.seq (.reg r0) (.seq (.reg r1) .ret)
abbrev res:List RV:=[.tmp 4]
theorem fn:Body Tryz.prog 66 9 code res:=⟨by decide,Tryz.f66,_,Tryz.func66,rfl,rfl,by kernel_rfl,by kernel_rfl⟩
end Vm
namespace Yi
abbrev r0:List In:=[i1 4 (.mv (kI 0))]
abbrev r1:List In:=[mv 6 0,
i1 7 (.len (.t 6)),
i1 8 (.mv (kI 0))]
abbrev r2:List In:=[i1 9 (.bin .lss (.t 8) (.t 7))]
abbrev r3:List In:=[mv 10 8,
mv 5 10]
abbrev r4:List In:=[mv 11 1,
mv 12 0,
mv 13 5,
i1 14 (.iaddr 2 (.t 12) (.t 13)),
i1 15 (.load 2 true (.t 14)),
i1 16 (.callv (.t 11) [.t 15])]
abbrev r5:List In:=[mv 17 5,
mv 4 17]
abbrev r6:List In:=[i1 18 (.bin .add (.t 8) (kI 1)),
mv 8 18]
abbrev r7:List In:=[i1 4 (.mv (kI (-1)))]
abbrev code:IC:=.seq (.reg r0) (.seq (.seq (.reg r1) (.block 0 (.loop (.seq (.reg r2) (.seq (.cond (.t 9) .skip (.exit 0)) (.seq (.block 1 (.seq (.reg r3) (.seq (.reg r4) (.cond (.t 16) (.seq (.reg r5) .ret) .skip)))) (.reg r6))))))) (.seq (.reg r7) .ret))
abbrev res:List RV:=[.tmp 4]
theorem fn:Body Tryz.prog 69 19 code res:=⟨by decide,Tryz.f69,_,Tryz.func69,rfl,rfl,by kernel_rfl,by kernel_rfl⟩
end Yi
namespace Uf
abbrev r0:List In:=[i1 4 (.mv (kI 0))]
abbrev r1:List In:=[mv 6 0,
i1 7 (.len (.t 6)),
i1 8 (.mv (kI 0))]
abbrev r2:List In:=[i1 9 (.bin .lss (.t 8) (.t 7))]
abbrev r3:List In:=[mv 10 8,
mv 5 10]
abbrev r4:List In:=[mv 11 1,
mv 12 0,
mv 13 5,
i1 14 (.iaddr 1 (.t 12) (.t 13)),
i1 15 (.load 1 false (.t 14)),
i1 16 (.bin .eql (.t 11) (.t 15))]
abbrev r5:List In:=[mv 17 5,
mv 4 17]
abbrev r6:List In:=[i1 18 (.bin .add (.t 8) (kI 1)),
mv 8 18]
abbrev r7:List In:=[i1 4 (.mv (kI (-1)))]
abbrev code:IC:=.seq (.reg r0) (.seq (.seq (.reg r1) (.block 0 (.loop (.seq (.reg r2) (.seq (.cond (.t 9) .skip (.exit 0)) (.seq (.block 1 (.seq (.reg r3) (.seq (.reg r4) (.cond (.t 16) (.seq (.reg r5) .ret) .skip)))) (.reg r6))))))) (.seq (.reg r7) .ret))
abbrev res:List RV:=[.tmp 4]
theorem fn:Body Tryz.prog 82 19 code res:=⟨by decide,Tryz.f82,_,Tryz.func82,rfl,rfl,by kernel_rfl,by kernel_rfl⟩
end Uf
end Go.Proofs.YtbmecnjmbhokgaaGreatDoor
namespace Go.Proofs.YtbmecnjmbhokgaaGreatDoor
open Go.RowKit Vc
set_option linter.unusedVariables false
set_option linter.unusedSimpArgs false
attribute [local irreducible] T Za Zn Ent RdC RwC Yj Zf Zi
def M0(s:List UInt8):Bool:=decide (0<s.length)&&decide (Wc s 0=46)
theorem Xn(s:List UInt8)(hs:s≠[]):RdC Tryz.prog 63 [.v (.a (.str s))] (.one (.a (.bool (M0 s)))):=by
 refine Mk.fn.rd (by simp) (by simp[Zz]) (by simp[Zz]) fun w=> ?_
 have hl:0<s.length:=List.length_pos_iff.2 hs
 repeat'(first|(first|refine Stp.h ?_)<;>try simp only[Zd,simprocAttr,↓reduceIte,reduceCtorEq,implies_true,M0,hl]|(with_reducible first|assumption|refine And.intro ?_ ?_)|(intro h;first|omega|exact tg h ‹_›|exact tg ‹_› h|skip))
 all_goals first|omega|(simp;done)|skip
def Rn{α:Type}(p:α→Bool):List α→Nat→Int
 | [],_=> -1
 |x::l,k=>if p x=true then k else Rn p l (k+1)
def Ou:Spot:=⟨[],0⟩
theorem Ni(l:List Spot)(g:List S1→Option SV)(p:Spot→Bool)(hg:∀y∈l,g [.agg [.str y.name,.int .i64 y.at_]]=some (.one (.a (.bool (p y)))))(hlen:l.length≤9223372036854775807):
 GC Tryz.prog 69 [.a (.ref 0),.a (.ref 1)] [(0,.ro .spot l),(1,.fn Tryz.prog g)] 2 [] (.one (.a (.int .i64 (Rn p l 0)))) [] 2:=by
 refine Yi.fn.gc (by simp) (by simp[Zu,Zw,Zv,Zj,Ze,Vc.S1.okN,At.okN,SV.okN,Res.okN,Res.outOk,Zo,Res.own,Value.oneCell']) fun w X fr=> ?_
 repeat'(first|(first|refine Stp.h ?_)<;>try simp only[Zd,simprocAttr,↓reduceIte,reduceCtorEq,implies_true]|(with_reducible first|assumption|refine And.intro ?_ ?_)|(intro h;first|omega|exact tg h ‹_›|exact tg ‹_› h|skip))
 refine T.loop (ι:= {k:Nat//k≤l.length∧Rn p (l.drop k) k=Rn p l 0})
  (fun x=>⟨[(8,.one (.a (.int .i64 (x.1:Int)))),(7,.one (.a (.int .i64 l.length))),(1,.one (.a (.ref 1))),(0,.one (.a (.ref 0)))],[(0,.ro .spot l),(1,.fn Tryz.prog g)],2⟩)
  (fun x=>l.length-x.1) ⟨0,by simp,by simp⟩ (Ent.mk1 (id) (by simp[Zy])) ?_
 rintro⟨k,hk,hrun⟩
 by_cases hlt:k<l.length
 ·have hdrop:l.drop k=l.getD k Ou::l.drop (k+1):=by
   rw[List.drop_eq_getElem_cons hlt];simp[List.getD,hlt]
  have hmem:l.getD k Ou∈l:=by simp[List.getD,hlt]
  generalize hx:l.getD k Ou=x at hdrop hmem
  have hx':l.getD k (Kd.dflt .spot)=x:=hx
  rw[hdrop]at hrun
  simp only[Rn]at hrun
  have hgx:=hg x hmem
  have hw:IntKind.i64.wrap ((k:Int)+1)=((k+1:Nat):Int):=Zx (by omega)
  have ht:((k:Int)).toNat=k:=by omega
  cases hp:p x with
  |true=>
   rw[if_pos hp]at hrun
   rw[hp]at hgx
   repeat'(first|(first|refine Stp.h ?_)<;>try simp only[Zd,simprocAttr,↓reduceIte,reduceCtorEq,implies_true,hx',hw,ht,hgx,Int.ofNat_lt]|(with_reducible first|assumption|refine And.intro ?_ ?_)|(intro h;first|omega|exact tg h ‹_›|exact tg ‹_› h|skip))
   all_goals first|omega|(rw[←hrun];done)|skip
  |false=>
   rw[if_neg (by simp[hp])]at hrun
   rw[hp]at hgx
   repeat'(first|(first|refine Stp.h ?_)<;>try simp only[Zd,simprocAttr,↓reduceIte,reduceCtorEq,implies_true,hx',hw,ht,hgx,Int.ofNat_lt]|(with_reducible first|assumption|refine And.intro ?_ ?_)|(intro h;first|omega|exact tg h ‹_›|exact tg ‹_› h|skip))
   all_goals first|omega|exact⟨⟨k+1,hlt,hrun⟩,(Ent.mk1 (id) (by simp[Zy,hw])),by simp only;omega⟩|skip
 ·have hk2:k=l.length:=by omega
  subst hk2
  rw[List.drop_length]at hrun
  simp only[Rn]at hrun
  repeat'(first|(first|refine Stp.h ?_)<;>try simp only[Zd,simprocAttr,↓reduceIte,reduceCtorEq,implies_true,Int.ofNat_lt]|(with_reducible first|assumption|refine And.intro ?_ ?_)|(intro h;first|omega|exact tg h ‹_›|exact tg ‹_› h|skip))
  all_goals first|omega|(rw[←hrun];done)|skip
theorem Lf(l:List Spot)(g:List S1→Option SV)(p:Spot→Bool)(hg:∀y∈l,g [.agg [.str y.name,.int .i64 y.at_]]=some (.one (.a (.bool (p y)))))(hlen:l.length≤9223372036854775807):
 GC Tryz.prog 64 [.a (.ref 0),.a (.ref 1)] [(0,.ro .spot l),(1,.fn Tryz.prog g)] 2 [] (.one (.a (.bool (decide (0≤Rn p l 0))))) [] 2:=by
 refine Yd.fn.gc (by simp) (by simp[Zu,Zw,Zv,Zj,Ze,Vc.S1.okN,At.okN,SV.okN,Res.okN,Res.outOk,Zo,Res.own,Value.oneCell']) fun w X fr=> ?_
 repeat'(first|(first|refine Stp.h ?_|(refine Za.gc (Ni l g p hg hlen) ?_ ?_;focus simp[Zb]))<;>try simp only[Zd,simprocAttr,↓reduceIte,reduceCtorEq,implies_true]|(with_reducible first|assumption|refine And.intro ?_ ?_)|(intro h;first|omega|exact tg h ‹_›|exact tg ‹_› h|skip))
theorem Zen(l:List Int)(v:Int)(hlen:l.length≤9223372036854775807):
 RdC Tryz.prog 82 [.ro (.int .i64) l,.v (.a (.int .i64 v))] (.one (.a (.int .i64 (Rn (fun x=>decide (v=x)) l 0)))):=by
 refine Uf.fn.rd (by simp) (by simp[Zz]) (by simp[Zz]) fun w=> ?_
 repeat'(first|(first|refine Stp.h ?_)<;>try simp only[Zd,simprocAttr,↓reduceIte,reduceCtorEq,implies_true]|(with_reducible first|assumption|refine And.intro ?_ ?_)|(intro h;first|omega|exact tg h ‹_›|exact tg ‹_› h|skip))
 refine T.loop (ι:= {k:Nat//k≤l.length∧Rn (fun x=>decide (v=x)) (l.drop k) k=Rn (fun x=>decide (v=x)) l 0})
  (fun x=>⟨[(8,.one (.a (.int .i64 (x.1:Int)))),(7,.one (.a (.int .i64 l.length))),(1,.one (.a (.int .i64 v))),(0,.one (.a (.ref 0)))],[(0,.ro (.int .i64) l)],1⟩)
  (fun x=>l.length-x.1) ⟨0,by simp,by simp⟩ (Ent.mk1 (id) (by simp[Zy])) ?_
 rintro⟨k,hk,hrun⟩
 by_cases hlt:k<l.length
 ·have hdrop:l.drop k=l.getD k 0::l.drop (k+1):=by
   rw[List.drop_eq_getElem_cons hlt];simp[List.getD,hlt]
  generalize hx:l.getD k 0=x at hdrop
  have hx':l.getD k (Kd.dflt (.int .i64))=x:=hx
  rw[hdrop]at hrun
  simp only[Rn,decide_eq_true_eq]at hrun
  have hw:IntKind.i64.wrap ((k:Int)+1)=((k+1:Nat):Int):=Zx (by omega)
  have ht:((k:Int)).toNat=k:=by omega
  by_cases hp:v=x
  ·rw[if_pos hp]at hrun
   have hpd:decide (v=x)=true:=decide_eq_true hp
   repeat'(first|(first|refine Stp.h ?_)<;>try simp only[Zd,simprocAttr,↓reduceIte,reduceCtorEq,implies_true,hx',hw,ht,hpd,Int.ofNat_lt]|(with_reducible first|assumption|refine And.intro ?_ ?_)|(intro h;first|omega|exact tg h ‹_›|exact tg ‹_› h|skip))
   all_goals first|omega|(rw[←hrun];done)|skip
  ·rw[if_neg hp]at hrun
   have hpd:decide (v=x)=false:=decide_eq_false hp
   repeat'(first|(first|refine Stp.h ?_)<;>try simp only[Zd,simprocAttr,↓reduceIte,reduceCtorEq,implies_true,hx',hw,ht,hpd,Int.ofNat_lt]|(with_reducible first|assumption|refine And.intro ?_ ?_)|(intro h;first|omega|exact tg h ‹_›|exact tg ‹_› h|skip))
   all_goals first|omega|exact⟨⟨k+1,hlt,hrun⟩,(Ent.mk1 (id) (by simp[Zy,hw])),by simp only;omega⟩|skip
 ·have hk2:k=l.length:=by omega
  subst hk2
  rw[List.drop_length]at hrun
  simp only[Rn]at hrun
  repeat'(first|(first|refine Stp.h ?_)<;>try simp only[Zd,simprocAttr,↓reduceIte,reduceCtorEq,implies_true,Int.ofNat_lt]|(with_reducible first|assumption|refine And.intro ?_ ?_)|(intro h;first|omega|exact tg h ‹_›|exact tg ‹_› h|skip))
  all_goals first|omega|(rw[←hrun];done)|skip
theorem Iq{α:Type}(p:α→Bool):∀(l:List α) (k:Nat),decide (0≤Rn p l k)=l.any p
 | [],k=>by simp[Rn]
 |x::l,k=>by
  by_cases hp:p x=true
  ·simp[Rn,hp]
  ·simp only[Bool.not_eq_true]at hp
   simpa[Rn,hp]using Iq p l (k+1)
theorem G5(l:List Int)(v:Int)(hlen:l.length≤9223372036854775807):
 RdC Tryz.prog 66 [.ro (.int .i64) l,.v (.a (.int .i64 v))] (.one (.a (.bool (decide (v∈l))))):=by
 refine Vm.fn.rd (by simp) (by simp[Zz]) (by simp[Zz]) fun w=> ?_
 have h1:decide (0≤Rn (fun x=>decide (v=x)) l 0)=decide (v∈l):=by
  rw[Iq,Bool.eq_iff_iff];simp
 repeat'(first|(first|refine Stp.h ?_|(refine rq (Zen l v hlen) ?_ ?_;focus simp[Zz];done))<;>try simp only[Zd,simprocAttr,↓reduceIte,reduceCtorEq,implies_true,h1]|(with_reducible first|assumption|refine And.intro ?_ ?_)|(intro h;first|omega|exact tg h ‹_›|exact tg ‹_› h|skip))
def Fits(l:List (List UInt8×List Ln)):Prop:=l.length≤9223372036854775807∧∀u∈l,u.2.length≤9223372036854775807
def Nd:List UInt8×List Ln:=([],[])
def Fg(s:Spot):Prop:=(0≤s.at_∧s.at_≤65536)∧Xk s.name=true∧s.name≠[]
theorem L6:∀(l:List Ln) (k:Nat) (a:Int) (seen:List (List UInt8)) (acc:List Spot),0≤a→a≤65536→(∀s∈acc,Fg s)→(∀s∈(Wu l k a seen acc).1,Fg s)∧(Wu l k a seen acc).1.length≤acc.length+l.length∧0≤(Wu l k a seen acc).2.1∧(Wu l k a seen acc).2.1≤65536
 | [],k,a,seen,acc,h0,h1,h=>⟨h,Nat.le_refl _,h0,h1⟩
 |x::l,k,a,seen,acc,h0,h1,h=>by
  unfold Wu
  have hle:=C1 x
  split
  ·simp
  ·rename_i hw
   have hw':Uw x=0:=by simpa using hw
   split
   ·rename_i hlb
    split
    ·simp
    ·obtain⟨g1,g2,g3⟩:=L6 l (k+1) a (x.label::seen) (acc++[⟨x.label,a⟩]) h0 h1 (fun s hs=>by
      rcases List.mem_append.1 hs with hs|hs
      ·exact h s hs
      ·simp only[List.mem_singleton]at hs;subst hs
       exact⟨⟨h0,h1⟩,(Pv hw' hlb).1,hlb⟩)
     refine⟨g1,?_,g3⟩
     simp only[List.length_append,List.length_cons,List.length_nil]at g2 ⊢;omega
   ·split
    ·simp
    ·obtain⟨g1,g2,g3⟩:=L6 l (k+1) (a+Og x) seen acc (by omega) (by omega) h
     refine⟨g1,?_,g3⟩
     simp only[List.length_cons];omega
theorem Hl(l:List Ln)(a:Int)(h0:0≤a)(h1:a≤65536):(∀s∈(Yc l a).1,Fg s)∧(Yc l a).1.length≤l.length∧0≤(Yc l a).2.1∧(Yc l a).2.1≤65536:=by
 have:=L6 l 0 a [] [] h0 h1 (by simp)
 simpa[Yc]using this
@[reducible] def Own:Type:=List UInt8→Option (Kd.ty (.int .i64))
def T9:Own:=fun _=>none
theorem Eg:(fun _=>none)=T9:=rfl
def Uq(u:Int):List Spot→Own→Option Own
 | [],f=>some f
 |s::l,f=>if M0 s.name=true then Uq u l f else if(f s.name).isSome=true then none else Uq u l fun t=>if t=s.name then some u else f t
def Uj:List (List UInt8×List Ln)→Nat→Own→Own×Int×Int
 | [],_,f=>(f,0,0)
 |u::l,k,f=>if 40000<u.2.length then(T9,5,k)else if(Yc u.2 0).2.2.1≠0 then(T9,(Yc u.2 0).2.2.1,k)else
   match Uq k (Yc u.2 0).1 f with
   |none=>(T9,7,k)
   |some f'=>Uj l (k+1) f'
def Z7(l:List (List UInt8×List Ln)):Own×Int×Int:=if 400<l.length then(T9,5,0)else Uj l 0 T9
def chV(l:List (List UInt8×List Ln)):SV:=if(Z7 l).2.1=0 then .tup [.a (.ref 1),.agg [.int .i64 0,.int .i64 0]]else .tup [.a (.raw (.map none)),.agg [.int .i64 (Z7 l).2.1,.int .i64 (Z7 l).2.2]]
noncomputable def chR(l:List (List UInt8×List Ln)):List (Nat×Res):=if(Z7 l).2.1=0 then[(1,.smap Tryz.prog 9 3 (.int .i64) (Z7 l).1 16000000)]else[]
theorem Dw{l:List (List UInt8×List Ln)}{e k:Int}{f:Own}(h:Z7 l=(f,e,k))(he:e≠0):chV l= .tup [.a (.raw (.map none)),.agg [.int .i64 e,.int .i64 k]]∧chR l=[]:=by
 unfold chV chR;rw[h];simp[he]
theorem ch_ok{l:List (List UInt8×List Ln)}{k:Int}{f:Own}(h:Z7 l=(f,0,k)):chV l= .tup [.a (.ref 1),.agg [.int .i64 0,.int .i64 0]]∧chR l=[(1,.smap Tryz.prog 9 3 (.int .i64) f 16000000)]:=by
 unfold chV chR;rw[h];simp
set_option maxHeartbeats 4000000 in
theorem Zat(l:List (List UInt8×List Ln))(hf:Fits l):
 GC Tryz.prog 61 [.a (.ref 0)] [(0,.rou l)] 1 [] (chV l) (chR l) 2:=by
 refine P3.fn.gc (by simp) (by
  unfold chV chR
  by_cases h:(Z7 l).2.1=0
  ·rw[if_pos h,if_pos h];exact(by simp[Zu,Zw,Zv,Zj,Ze,Vc.S1.okN,At.okN,SV.okN,Res.okN,Res.outOk,Zo,Res.own,Value.oneCell'])
  ·rw[if_neg h,if_neg h];exact(by simp[Zu,Zw,Zv,Zj,Ze,Vc.S1.okN,At.okN,SV.okN,Res.okN,Res.outOk,Zo,Res.own,Value.oneCell'])) fun w X fr=> ?_
 by_cases hbig:400<l.length
 ·have e:Z7 l=(T9,5,0):=if_pos hbig
  obtain⟨e1,e2⟩:=Dw e (by decide)
  rw[e1,e2]
  repeat'(first|(first|refine Stp.h ?_)<;>try simp only[Zd,simprocAttr,↓reduceIte,reduceCtorEq,implies_true]|(with_reducible first|assumption|refine And.intro ?_ ?_)|(intro h;first|omega|exact tg h ‹_›|exact tg ‹_› h|skip))
  all_goals first|omega|skip
 have e:Z7 l=Uj l 0 T9:=if_neg hbig
 repeat'(first|(first|refine Stp.h ?_)<;>try simp only[Zd,simprocAttr,↓reduceIte,reduceCtorEq,implies_true]|(with_reducible first|assumption|refine And.intro ?_ ?_)|(intro h;first|omega|exact tg h ‹_›|exact tg ‹_› h|skip))
 all_goals first|omega|skip
 refine T.loop (ι:= {p:Nat×Own×Nat//p.1≤l.length∧Uj (l.drop p.1) p.1 p.2.1=Z7 l∧p.2.2≤40000*p.1})
  (fun x=>⟨[(21,.one (.a (.int .i64 (x.1.1:Int)))),(20,.one (.a (.int .i64 l.length))),(19,.one (.a (.ref 0))),(4,.one (.a (.ref 2))),(3,.one (.a (.loc 1 0)))],
    [(2,.smap Tryz.prog 9 3 (.int .i64) x.1.2.1 x.1.2.2),(1,.cells 80 [.int .i64 0,.int .i64 0]),(0,.rou l)],3⟩)
  (fun x=>l.length-x.1.1) ⟨(0,T9,0),by simp,by simp[e],by simp⟩ (Ent.mk1 (id) (by simp[Zy,Eg])) ?_
 rintro⟨⟨k,f,n⟩,hk,hrun,hn⟩
 simp only at hk hrun hn
 by_cases hlt:k<l.length
 ·have hdrop:l.drop k=l.getD k Nd::l.drop (k+1):=by
   rw[List.drop_eq_getElem_cons hlt];simp[List.getD,hlt]
  generalize hx:l.getD k Nd=u at hdrop
  have hx':l.getD k ([],[])=u:=hx
  rw[hdrop]at hrun
  simp only[Uj]at hrun
  have hw:IntKind.i64.wrap ((k:Int)+1)=((k+1:Nat):Int):=Zx (by omega)
  have ht:((k:Int)).toNat=k:=by omega
  by_cases hul:40000<u.2.length
  ·rw[if_pos hul]at hrun
   obtain⟨e1,e2⟩:=Dw hrun.symm (by decide)
   rw[e1,e2]
   repeat'(first|(first|refine Stp.h ?_)<;>try simp only[Zd,simprocAttr,↓reduceIte,reduceCtorEq,implies_true,hx',hw,ht,Int.ofNat_lt]|(with_reducible first|assumption|refine And.intro ?_ ?_)|(intro h;first|omega|exact tg h ‹_›|exact tg ‹_› h|skip))
   all_goals first|omega|skip
  rw[if_neg hul]at hrun
  by_cases hsp:(Yc u.2 0).2.2.1=0
  ·rw[if_neg (by simpa using hsp)]at hrun
   obtain⟨hsok,hslen,_,_⟩:=Hl u.2 0 (by omega) (by omega)
   have hSp:=O3 u.2 0 (by omega) (by omega) (by omega)
   generalize hsp1:(Yc u.2 0).1=sp at hrun hsok hslen hSp
   repeat'(first|(first|refine Stp.h ?_|(refine Za.rw hSp ?_ ?_;(focus(((repeat'(first|exact rfl|exact trivial|refine And.intro ?_ ?_|(simp[Zz];done))));done))))<;>try simp only[Zd,simprocAttr,↓reduceIte,reduceCtorEq,implies_true,hx',hw,ht,hsp,Int.ofNat_lt]|(with_reducible first|assumption|refine And.intro ?_ ?_)|(intro h;first|omega|exact tg h ‹_›|exact tg ‹_› h|skip))
   all_goals first|omega|skip
   refine T.loop (ι:= {p:Nat×Own×Nat//p.1≤sp.length∧Uq k (sp.drop p.1) p.2.1=Uq k sp f∧p.2.2≤40000*k+p.1})
    (fun x=>⟨[(48,.one (.a (.int .i64 (x.1.1:Int)))),(47,.one (.a (.int .i64 sp.length))),(46,.one (.a (.ref 3))),(21,.one (.a (.int .i64 (k:Int)))),(20,.one (.a (.int .i64 l.length))),(19,.one (.a (.ref 0))),(5,.one (.a (.int .i64 (k:Int)))),(4,.one (.a (.ref 2))),(3,.one (.a (.loc 1 0)))],
      [(3,.row 109 .spot sp),(2,.smap Tryz.prog 9 3 (.int .i64) x.1.2.1 x.1.2.2),(1,.cells 80 [.int .i64 0,.int .i64 0]),(0,.rou l)],4⟩)
    (fun x=>sp.length-x.1.1) ⟨(0,f,n),by simp,by simp,by simpa using hn⟩ (Ent.mk1 (fun n=>if n=3 then 5 else n) (by simp[Zy])) ?_
   rintro⟨⟨j,f',n'⟩,hj,hrun2,hn'⟩
   simp only at hj hrun2 hn'
   by_cases hlt2:j<sp.length
   ·have hdrop2:sp.drop j=sp.getD j Ou::sp.drop (j+1):=by
     rw[List.drop_eq_getElem_cons hlt2];simp[List.getD,hlt2]
    have hmem2:sp.getD j Ou∈sp:=by simp[List.getD,hlt2]
    generalize hy:sp.getD j Ou=y at hdrop2 hmem2
    have hy':sp.getD j (Kd.dflt .spot)=y:=hy
    obtain⟨⟨hy0,hy1⟩,hyn,hyne⟩:=hsok y hmem2
    have hyl:=Ol hyn
    rw[hdrop2]at hrun2
    simp only[Uq]at hrun2
    have hw2:IntKind.i64.wrap ((j:Int)+1)=((j+1:Nat):Int):=Zx (by omega)
    have ht2:((j:Int)).toNat=j:=by omega
    cases hown:M0 y.name with
    |true=>
     rw[if_pos hown]at hrun2
     repeat'(first|(first|refine Stp.h ?_|(refine rq (Xn y.name hyne) ?_ ?_;focus simp[Zz];done))<;>try simp only[Zd,simprocAttr,↓reduceIte,reduceCtorEq,implies_true,hy',hw2,ht2,hown,Int.ofNat_lt]|(with_reducible first|assumption|refine And.intro ?_ ?_)|(intro h;first|omega|exact tg h ‹_›|exact tg ‹_› h|skip))
     all_goals first|omega|skip
     exact⟨⟨(j+1,f',n'),hlt2,hrun2,by simp only;omega⟩,(Ent.mk1 (id) (by simp[Zy,hw2])),by simp only;omega⟩
    |false=>
     rw[if_neg (by simp[hown])]at hrun2
     cases hfy:f' y.name with
     |some v=>
      rw[if_pos (by rw[hfy];rfl)]at hrun2
      rw[←hrun2]at hrun
      simp only at hrun
      obtain⟨e1,e2⟩:=Dw hrun.symm (by decide)
      rw[e1,e2]
      repeat'(first|(first|refine Stp.h ?_|(refine rq (Xn y.name hyne) ?_ ?_;focus simp[Zz];done))<;>try simp only[Zd,simprocAttr,↓reduceIte,reduceCtorEq,implies_true,hy',hw2,ht2,hown,hfy,Int.ofNat_lt]|(with_reducible first|assumption|refine And.intro ?_ ?_)|(intro h;first|omega|exact tg h ‹_›|exact tg ‹_› h|skip))
      all_goals first|omega|skip
     |none=>
      rw[if_neg (by rw[hfy];simp)]at hrun2
      repeat'(first|(first|refine Stp.h ?_|(refine rq (Xn y.name hyne) ?_ ?_;focus simp[Zz];done))<;>try simp only[Zd,simprocAttr,↓reduceIte,reduceCtorEq,implies_true,hy',hw2,ht2,hown,hfy,Int.ofNat_lt]|(with_reducible first|assumption|refine And.intro ?_ ?_)|(intro h;first|omega|exact tg h ‹_›|exact tg ‹_› h|skip))
      all_goals first|omega|skip
      all_goals try(first|(show(-9223372036854775808:Int)≤(k:Int);omega)|(show(k:Int)≤9223372036854775807;omega))
      exact⟨⟨(j+1,fun t=>if t=y.name then some (k:Int)else f' t,n'+1),hlt2,hrun2,by simp only;omega⟩,(Ent.mk1 (id) (by simp[Zy,hw2])),by simp only;omega⟩
   ·have hj2:j=sp.length:=by omega
    subst hj2
    rw[List.drop_length]at hrun2
    simp only[Uq]at hrun2
    rw[←hrun2]at hrun
    simp only at hrun
    repeat'(first|(first|refine Stp.h ?_)<;>try simp only[Zd,simprocAttr,↓reduceIte,reduceCtorEq,implies_true,hw,Int.ofNat_lt]|(with_reducible first|assumption|refine And.intro ?_ ?_)|(intro h;first|omega|exact tg h ‹_›|exact tg ‹_› h|skip))
    all_goals first|omega|skip
    exact⟨⟨(k+1,f',n'),hlt,hrun,by simp only;omega⟩,(Ent.mk1 (id) (by simp[Zy,hw])),by simp only;omega⟩
  ·rw[if_pos (by simpa using hsp)]at hrun
   obtain⟨e1,e2⟩:=Dw hrun.symm (by simpa using hsp)
   rw[e1,e2]
   repeat'(first|(first|refine Stp.h ?_|(refine Za.rw (O3 u.2 0 (by omega) (by omega) (by omega)) ?_ ?_;(focus(((repeat'(first|exact rfl|exact trivial|refine And.intro ?_ ?_|(simp[Zz];done))));done))))<;>try simp only[Zd,simprocAttr,↓reduceIte,reduceCtorEq,implies_true,hx',hw,ht,hsp,Int.ofNat_lt]|(with_reducible first|assumption|refine And.intro ?_ ?_)|(intro h;first|omega|exact tg h ‹_›|exact tg ‹_› h|skip))
   all_goals first|omega|skip
 ·have hk2:k=l.length:=by omega
  subst hk2
  rw[List.drop_length]at hrun
  simp only[Uj]at hrun
  obtain⟨e1,e2⟩:=ch_ok hrun.symm
  rw[e1,e2]
  refine T.weak (Ent.smapLe (m:=2) 16000000 rfl (by simp only;omega)) ?_
  repeat'(first|(first|refine Stp.h ?_)<;>try simp only[Zd,simprocAttr,↓reduceIte,reduceCtorEq,implies_true,Int.ofNat_lt]|(with_reducible first|assumption|refine And.intro ?_ ?_)|(intro h;first|omega|exact tg h ‹_›|exact tg ‹_› h|skip))
  all_goals first|omega|skip
end Go.Proofs.YtbmecnjmbhokgaaGreatDoor
