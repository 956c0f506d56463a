/- A part of the proofs of this seat's laws: steps on the way, joined. It has no conditions of its own. -/
import Derived.Test.YtddmlennnmpnhaaGreatDoorQr
import Derived.Test.YtddmlennnmpnhaaGreatDoorQh
import Derived.Test.YtddmlennnmpnhaaGreatDoorChecked
import Derived.KernelRfl
namespace Go.Proofs.YtddmlennnmpnhaaGreatDoor
open Go Go.RowKit Vc
set_option linter.unusedVariables false
set_option linter.unusedSimpArgs false
attribute [local irreducible] T Za Zn Ent RdC RwC Yd Ze Zh
theorem Na(G:Nat)(H:Nat→Option Obj)(s:List UInt8)(hs:s.length≤2000000):
 GCp G H Tryz.prog 108 [.a (.str s),.a (.str [32,9])] [] 0 [] (.one (.a (.str (trimB s)))) [] 0:=
 Ia G H s [32,9] (by omega) (by decide) (by decide)
set_option maxHeartbeats 16000000 in
set_option maxRecDepth 100000 in
theorem Ih{G:Nat}{H:Nat→Option Obj}{w:World}{X:List Nat}{fr:List Value}{Q:Exit→St→Prop}(hglob:Wb G H w X)(op:Int)(raw:List (List UInt8))(hlen:raw.length≤3000000)(hps:∀p∈raw,p.length≤2000000)
 (hQ:∀(lo d s:Nat),lo≤raw.length→Gk op d s ((raw.drop lo).map trimB)=insV op (raw.map trimB)→∀S',Ent ⟨Tryz.prog,w,X,149,fr⟩ S' ⟨[(11,.one (.a (.ref 2))),(14,.one (.a (.bool (Ui op)))),(10,.one (.a (.int .i64 op))),(2,.one (.a (.loc 0 0)))],[(0,.cells 75 [.str [],.int .i64 op,.int .i64 (d:Int),.int .i64 (s:Int),.int .i64 (0:Int),.str []]),(1,.row 9 .str raw),(2,.view 1 1 lo raw.length)],3⟩→Q (.exit 0) S')
 (hE:∀e,insV op (raw.map trimB)= .error e→∀S':St,Zo S'.slots 2=some (.one (.a (.loc 0 0)))→Zo S'.slots 3=some (.one (.a (.bool false)))→Zo S'.slots 4=some (.one (.a (.int .i64 e)))→Zo S'.res 0=some (.cells 75 [.str [],.int .i64 0,.int .i64 0,.int .i64 0,.int .i64 0,.str []])→Q .ret S'):
 T ⟨Tryz.prog,w,X,149,fr⟩ (.loop W4.c34) Q ⟨[(84,.one (.a (.int .i64 0))),(83,.one (.a (.int .i64 2))),(82,.one (.a (.ref 3))),(11,.one (.a (.ref 2))),(14,.one (.a (.bool (Ui op)))),(10,.one (.a (.int .i64 op))),(2,.one (.a (.loc 0 0)))],[(0,.cells 75 [.str [],.int .i64 op,.int .i64 0,.int .i64 0,.int .i64 0,.str []]),(1,.row 9 .str raw),(2,.view 1 1 0 raw.length),(3,.lit 176 2 2 [.bool (Qh op),.loc 0 2,.bool (Qi op),.loc 0 3])],4⟩:=by
 generalize hR:insV op (raw.map trimB)=R at hQ hE
 refine T.loop (ι:= {p:Nat×Nat×Nat×Nat//p.2.1≤raw.length∧
  ((p.1=0∧p.2.2=(0,0)∧insV op ((raw.drop p.2.1).map trimB)=R)∨(p.1=1∧p.2.2.2=0∧insS op p.2.2.1 ((raw.drop p.2.1).map trimB)=R)∨(p.1=2∧Gk op p.2.2.1 p.2.2.2 ((raw.drop p.2.1).map trimB)=R))})
  (fun y=>⟨[(84,.one (.a (.int .i64 (y.1.1:Int)))),(83,.one (.a (.int .i64 2))),(82,.one (.a (.ref 3))),(11,.one (.a (.ref 2))),(14,.one (.a (.bool (Ui op)))),(10,.one (.a (.int .i64 op))),(2,.one (.a (.loc 0 0)))],[(0,.cells 75 [.str [],.int .i64 op,.int .i64 (y.1.2.2.1:Int),.int .i64 (y.1.2.2.2:Int),.int .i64 (0:Int),.str []]),(1,.row 9 .str raw),(2,.view 1 1 y.1.2.1 raw.length),(3,.lit 176 2 2 [.bool (Qh op),.loc 0 2,.bool (Qi op),.loc 0 3])],4⟩) (fun y=>2-y.1.1) ⟨(0,0,0,0),by simp,.inl ⟨rfl,rfl,by simpa using hR⟩⟩ (Ent.mk1 (id) (by simp[Zt])) ?_
 rintro⟨⟨j,lo,d,s⟩,ha,hst⟩
 simp only at ha hst
 have hpe:lo<raw.length→∃p,p.length≤2000000∧raw.getD lo (Kd.dflt .str)=p∧(raw.drop lo).map trimB=trimB p::(raw.drop (lo+1)).map trimB:=by
  intro hlt
  refine⟨raw.getD lo [],hps _ (by simp[List.getD,hlt]),rfl,?_⟩
  have hg:raw.getD lo []=raw[lo]:=by simp[List.getD,hlt]
  rw[hg,List.drop_eq_getElem_cons hlt,List.map_cons]
 have hz1:lo+(0:Int).toNat=lo:=rfl
 have hz2:lo+(1:Int).toNat=lo+1:=rfl
 have hvl:lo+(((raw.length-lo:Nat):Int)).toNat=raw.length:=by omega
 rcases hst with⟨rfl,hz,hrun⟩|⟨rfl,hz,hrun⟩|⟨rfl,hrun⟩
 ·obtain⟨rfl,rfl⟩:d=0∧s=0:=by simpa using hz
  have hj:((((0:Nat):Int)).toNat:Nat)=0:=rfl
  have hw:IntKind.i64.wrap (((0:Nat):Int)+1)=((1:Nat):Int):=Zx (by omega)
  rw[Zeh]at hrun
  cases hd:Qh op
  ·rw[hd]at hrun
   rw[A8]at hrun
   simp only at hrun
   repeat'(first|(first|refine Stp.h ?_)<;>try simp only[Zc,simprocAttr,↓reduceIte,reduceCtorEq,implies_true,hd,hj,hw,Int.ofNat_lt]|(with_reducible first|assumption|refine And.intro ?_ ?_)|(intro h;first|omega|exact tg h ‹_›|exact tg ‹_› h|skip))
   all_goals first|omega|skip
   exact⟨⟨(1,lo,0,0),ha,.inr (.inl ⟨rfl,rfl,hrun⟩)⟩,(Ent.mk1 (id) (by simp[Zt,hd])),by simp only;omega⟩
  ·rw[hd]at hrun
   by_cases hlt:lo<raw.length
   ·obtain⟨p,hpl,hpg,hdrop⟩:=hpe hlt
    rw[hdrop]at hrun
    have hne:¬((raw.length-lo:Nat):Int)=0:=by omega
    have hT:=Na G H p hpl
    have htl:=Ug p
    generalize trimB p=q at hT hrun htl
    cases hv:Da q with
    |none=>
     rw[Fr hv]at hrun
     simp only at hrun
     obtain⟨m,hN⟩:=K7 G H hv (by omega)
     repeat'(first|(first|refine Stp.h ?_|(refine Za.gcp hglob hT ?_ ?_;focus simp[Zb];done)|(refine Za.gcp hglob hN ?_ ?_;focus simp[Zb];done))<;>try simp only[Zc,simprocAttr,↓reduceIte,reduceCtorEq,implies_true,hd,hj,hw,hpg,hne,hz1,Int.ofNat_lt]|(with_reducible first|assumption|refine And.intro ?_ ?_)|(intro h;first|omega|exact tg h ‹_›|exact tg ‹_› h|skip))
     all_goals first|omega|skip
     all_goals exact hE _ hrun.symm _ rfl rfl rfl rfl
    |some n=>
     rw[Fu hv]at hrun
     simp only at hrun
     have hN:=Lg G H hv
     repeat'(first|(first|refine Stp.h ?_|(refine Za.gcp hglob hT ?_ ?_;focus simp[Zb];done)|(refine Za.gcp hglob hN ?_ ?_;focus simp[Zb];done))<;>try simp only[Zc,simprocAttr,↓reduceIte,reduceCtorEq,implies_true,hd,hj,hw,hpg,hne,hz1,hz2,hvl,Int.ofNat_lt]|(with_reducible first|assumption|refine And.intro ?_ ?_)|(intro h;first|omega|exact tg h ‹_›|exact tg ‹_› h|skip))
     all_goals first|omega|skip
     all_goals exact⟨⟨(1,lo+1,n,0),hlt,.inr (.inl ⟨rfl,rfl,hrun⟩)⟩,(Ent.mk1 (fun n=>if n=2 then 5 else n) (by simp[Zt,hd])),by simp only;omega⟩
   ·have hae:lo=raw.length:=by omega
    have hd0:raw.drop lo=[]:=by rw[hae];exact List.drop_length
    rw[hd0,List.map_nil,Ft]at hrun
    simp only at hrun
    have heq:((raw.length-lo:Nat):Int)=0:=by omega
    repeat'(first|(first|refine Stp.h ?_)<;>try simp only[Zc,simprocAttr,↓reduceIte,reduceCtorEq,implies_true,hd,hj,hw,heq,Int.ofNat_lt]|(with_reducible first|assumption|refine And.intro ?_ ?_)|(intro h;first|omega|exact tg h ‹_›|exact tg ‹_› h|skip))
    all_goals first|omega|skip
    all_goals exact hE _ hrun.symm _ rfl rfl rfl rfl
 ·obtain rfl:s=0:=hz
  have hj:((((1:Nat):Int)).toNat:Nat)=1:=rfl
  have hw:IntKind.i64.wrap (((1:Nat):Int)+1)=((2:Nat):Int):=Zx (by omega)
  unfold insS at hrun
  cases hd:Qi op
  ·rw[hd]at hrun
   rw[A8]at hrun
   simp only at hrun
   repeat'(first|(first|refine Stp.h ?_)<;>try simp only[Zc,simprocAttr,↓reduceIte,reduceCtorEq,implies_true,hd,hj,hw,Int.ofNat_lt]|(with_reducible first|assumption|refine And.intro ?_ ?_)|(intro h;first|omega|exact tg h ‹_›|exact tg ‹_› h|skip))
   all_goals first|omega|skip
   exact⟨⟨(2,lo,d,0),ha,.inr (.inr ⟨rfl,hrun⟩)⟩,(Ent.mk1 (id) (by simp[Zt,hd])),by simp only;omega⟩
  ·rw[hd]at hrun
   by_cases hlt:lo<raw.length
   ·obtain⟨p,hpl,hpg,hdrop⟩:=hpe hlt
    rw[hdrop]at hrun
    have hne:¬((raw.length-lo:Nat):Int)=0:=by omega
    have hT:=Na G H p hpl
    have htl:=Ug p
    generalize trimB p=q at hT hrun htl
    cases hv:Da q with
    |none=>
     rw[Fr hv]at hrun
     simp only at hrun
     obtain⟨m,hN⟩:=K7 G H hv (by omega)
     repeat'(first|(first|refine Stp.h ?_|(refine Za.gcp hglob hT ?_ ?_;focus simp[Zb];done)|(refine Za.gcp hglob hN ?_ ?_;focus simp[Zb];done))<;>try simp only[Zc,simprocAttr,↓reduceIte,reduceCtorEq,implies_true,hd,hj,hw,hpg,hne,hz1,Int.ofNat_lt]|(with_reducible first|assumption|refine And.intro ?_ ?_)|(intro h;first|omega|exact tg h ‹_›|exact tg ‹_› h|skip))
     all_goals first|omega|skip
     all_goals exact hE _ hrun.symm _ rfl rfl rfl rfl
    |some n=>
     rw[Fu hv]at hrun
     simp only at hrun
     have hN:=Lg G H hv
     repeat'(first|(first|refine Stp.h ?_|(refine Za.gcp hglob hT ?_ ?_;focus simp[Zb];done)|(refine Za.gcp hglob hN ?_ ?_;focus simp[Zb];done))<;>try simp only[Zc,simprocAttr,↓reduceIte,reduceCtorEq,implies_true,hd,hj,hw,hpg,hne,hz1,hz2,hvl,Int.ofNat_lt]|(with_reducible first|assumption|refine And.intro ?_ ?_)|(intro h;first|omega|exact tg h ‹_›|exact tg ‹_› h|skip))
     all_goals first|omega|skip
     all_goals exact⟨⟨(2,lo+1,d,n),hlt,.inr (.inr ⟨rfl,hrun⟩)⟩,(Ent.mk1 (fun n=>if n=2 then 5 else n) (by simp[Zt,hd])),by simp only;omega⟩
   ·have hae:lo=raw.length:=by omega
    have hd0:raw.drop lo=[]:=by rw[hae];exact List.drop_length
    rw[hd0,List.map_nil,Ft]at hrun
    simp only at hrun
    have heq:((raw.length-lo:Nat):Int)=0:=by omega
    repeat'(first|(first|refine Stp.h ?_)<;>try simp only[Zc,simprocAttr,↓reduceIte,reduceCtorEq,implies_true,hd,hj,hw,heq,Int.ofNat_lt]|(with_reducible first|assumption|refine And.intro ?_ ?_)|(intro h;first|omega|exact tg h ‹_›|exact tg ‹_› h|skip))
    all_goals first|omega|skip
    all_goals exact hE _ hrun.symm _ rfl rfl rfl rfl
 ·repeat'(first|(first|refine Stp.h ?_)<;>try simp only[Zc,simprocAttr,↓reduceIte,reduceCtorEq,implies_true,Int.ofNat_lt]|(with_reducible first|assumption|refine And.intro ?_ ?_)|(intro h;first|omega|exact tg h ‹_›|exact tg ‹_› h|skip))
  all_goals first|omega|skip
  exact hQ lo d s ha hrun _ (Ent.mk1 (id) (by simp[Zt]))
theorem K9(s:List UInt8)(c:UInt8):Lib.hasSuffix s [c]=decide (s.getLast? =some c):=by
 unfold Lib.hasSuffix List.isSuffixOf
 rcases List.eq_nil_or_concat s with rfl|⟨r,x,rfl⟩
 ·rfl
 ·simp only[List.concat_eq_append,List.reverse_append,List.reverse_cons,List.reverse_nil,List.nil_append,List.cons_append,List.isPrefixOf,Bool.and_true,List.getLast?_concat,Option.some.injEq]
  rw[Bool.eq_iff_iff,beq_iff_eq,decide_eq_true_eq]
  first|exact Iff.rfl|exact⟨fun e=>e.symm,fun e=>e.symm⟩
theorem Zdg{s:List UInt8}{c:UInt8}(h:s.getLast? =some c):Lib.trimSuffix s [c]=s.dropLast:=by
 unfold Lib.trimSuffix
 rw[K9,decide_eq_true h,if_pos rfl,List.dropLast_eq_take]
 rfl
def Zgk:Except Int Ln→Ln×Bool×Int
 |.error e=>(ln0,false,e)
 |.ok l=>(l,true,0)
theorem Zbk{s:List UInt8}(h:trimB (upToS 59 s).1=[]):lineT s=(ln0,false,0):=by unfold lineT Ny;simp only[h,if_true]
theorem Be{s:List UInt8}(h:trimB (upToS 59 s).1≠[])(hl:(trimB (upToS 59 s).1).getLast? =some 58)(hn:Xk (trimB (upToS 59 s).1).dropLast=true):lineT s=(⟨(trimB (upToS 59 s).1).dropLast,Vt,[]⟩,true,0):=by
 unfold lineT Ny;simp only[h,hl,hn,if_true,if_false]
theorem Zbj{s:List UInt8}(h:trimB (upToS 59 s).1≠[])(hl:(trimB (upToS 59 s).1).getLast? =some 58)(hn:Xk (trimB (upToS 59 s).1).dropLast=false):lineT s=(ln0,false,7):=by
 unfold lineT Ny;simp only[h,hl,hn,if_true,if_false,Bool.false_eq_true]
theorem Zbi{s:List UInt8}(h:trimB (upToS 59 s).1≠[])(hl:(trimB (upToS 59 s).1).getLast? ≠some 58)(hk:kindS (upToS 32 (trimB (upToS 59 s).1)).1<0):lineT s=(ln0,false,1):=by
 unfold lineT Ny;simp only[h,hl,hk,if_true,if_false]
theorem Zf3{s:List UInt8}(h:trimB (upToS 59 s).1≠[])(hl:(trimB (upToS 59 s).1).getLast? ≠some 58)(hk:¬kindS (upToS 32 (trimB (upToS 59 s).1)).1<0):
 lineT s=Zgk (insV (kindS (upToS 32 (trimB (upToS 59 s).1)).1) (R8 (upToS 32 (trimB (upToS 59 s).1)).2.1)):=by
 unfold lineT Ny
 simp only[h,hl,hk,if_false]
 cases insV (kindS (upToS 32 (trimB (upToS 59 s).1)).1) (R8 (upToS 32 (trimB (upToS 59 s).1)).2.1)<;>rfl
theorem Ziq{q:List UInt8}{n m:Nat}(h:Mi q m=some n):Hf q=some n∧n≤m:=by
 unfold Mi at h
 split at h
 ·rename_i v hv
  split at h
  ·cases h;exact⟨hv,by assumption⟩
  ·cases h
 ·cases h
theorem Bw(G:Nat)(H:Nat→Option Obj){q:List UInt8}(h:Mi q 65535=none)(hs:q.length≤2000000):
 ∃m:Int,GCp G H Tryz.prog 114 [.a (.str q),.a (.int .i64 65535)] [] 0 [] (.tup [.a (.int .i64 m),.a (.bool false)]) [] 0:=by
 cases hv:Hf q with
 |none=>exact⟨0,Fi G H hv 65535 (by omega)⟩
 |some v=>
  have hN:=Pr G H hv 65535
  have:¬v≤65535:=by
   intro e
   unfold Mi at h
   rw[hv]at h
   simp[e]at h
  rw[decide_eq_false (by omega)]at hN
  exact⟨v,hN⟩
theorem Bx(G:Nat)(H:Nat→Option Obj){q:List UInt8}{n:Nat}(h:Mi q 65535=some n):
 GCp G H Tryz.prog 114 [.a (.str q),.a (.int .i64 65535)] [] 0 [] (.tup [.a (.int .i64 (n:Int)),.a (.bool true)]) [] 0:=by
 obtain⟨hv,hn⟩:=Ziq h
 have hN:=Pr G H hv 65535
 rwa [decide_eq_true (by omega)]at hN
def rawS(rest:List UInt8):List (List UInt8):=if trimB rest=[]then[]else splitS 44 (trimB rest)
theorem B8(rest:List UInt8):R8 rest=(rawS rest).map trimB:=by
 unfold R8 rawS
 split<;>rfl
theorem Ziv(rest:List UInt8):(∀p∈rawS rest,p.length≤rest.length)∧(rawS rest).length≤rest.length+1:=by
 have ht:=Ug rest
 refine⟨fun p hp=> ?_,?_⟩
 ·unfold rawS at hp
  split at hp
  ·cases hp
  ·have h1:=P1 44 _ p hp
   omega
 ·have:=(Zbw rest).2
  rw[B8,List.length_map]at this
  exact this
theorem IndexK(v:List UInt8):RdC Tryz.prog 102 [.ro .str Hc,.v (.a (.str v))] (.one (.a (.int .i64 (kindS v)))):=J7 Hc v (by decide)
theorem Za8{n:Int}(h0:0≤n)(h1:n≤32):Th n=true:=by simp[Th,h0,h1]
set_option maxHeartbeats 16000000 in
set_option maxRecDepth 100000 in
theorem Fd{G:Nat}{H:Nat→Option Obj}{w:World}{X:List Nat}{fr:List Value}{Q:Exit→St→Prop}(hglob:Wb G H w X)(op:Int)(raw:List (List UInt8))(hlen:raw.length≤3000000)(hps:∀p∈raw,p.length≤2000000)(lo d s:Nat)(hlo:lo≤raw.length)
 (hE:∀S':St,Zo S'.slots 2=some (.one (.a (.loc 0 0)))→Zo S'.slots 3=some (.one (.a (.bool (Zgk (Gk op d s ((raw.drop lo).map trimB))).2.1)))→Zo S'.slots 4=some (.one (.a (.int .i64 (Zgk (Gk op d s ((raw.drop lo).map trimB))).2.2)))→Zo S'.res 0=some (.cells 75 (Zgk (Gk op d s ((raw.drop lo).map trimB))).1.cells)→Q .ret S'):
 T ⟨Tryz.prog,w,X,149,fr⟩ W4.c58 Q ⟨[(11,.one (.a (.ref 2))),(14,.one (.a (.bool (Ui op)))),(10,.one (.a (.int .i64 op))),(2,.one (.a (.loc 0 0)))],[(0,.cells 75 [.str [],.int .i64 op,.int .i64 (d:Int),.int .i64 (s:Int),.int .i64 0,.str []]),(1,.row 9 .str raw),(2,.view 1 1 lo raw.length)],3⟩:=by
 generalize hR:Gk op d s ((raw.drop lo).map trimB)=R at hE
 unfold Gk at hR
 cases hi:Ui op
 ·rw[Zjg hi]at hR
  simp only at hR
  by_cases hd:lo<raw.length
  ·have hne:(raw.drop lo).map trimB≠[]:=by simp;omega
   rw[if_neg hne]at hR
   subst hR
   have hgt:(0:Int)<((raw.length-lo:Nat):Int):=by omega
   repeat'(first|(first|refine Stp.h ?_)<;>try simp only[Zc,simprocAttr,↓reduceIte,reduceCtorEq,implies_true,hi,hgt,Int.ofNat_lt]|(with_reducible first|assumption|refine And.intro ?_ ?_)|(intro h;first|omega|exact tg h ‹_›|exact tg ‹_› h|skip))
   all_goals first|omega|skip
   all_goals first|exact hE _ rfl rfl rfl rfl|exact T.ret (hE _ rfl rfl rfl rfl)
  ·have hne:(raw.drop lo).map trimB=[]:=by simp;omega
   rw[if_pos hne]at hR
   subst hR
   have hgt:¬(0:Int)<((raw.length-lo:Nat):Int):=by omega
   repeat'(first|(first|refine Stp.h ?_)<;>try simp only[Zc,simprocAttr,↓reduceIte,reduceCtorEq,implies_true,hi,hgt,Int.ofNat_lt]|(with_reducible first|assumption|refine And.intro ?_ ?_)|(intro h;first|omega|exact tg h ‹_›|exact tg ‹_› h|skip))
   all_goals first|omega|skip
   all_goals first|exact hE _ rfl rfl rfl rfl|exact T.ret (hE _ rfl rfl rfl rfl)
 ·by_cases hlt:lo<raw.length
  ·obtain⟨p,hpl,hpg,hdrop⟩:∃p,p.length≤2000000∧raw.getD lo (Kd.dflt .str)=p∧(raw.drop lo).map trimB=trimB p::(raw.drop (lo+1)).map trimB:=by
    refine⟨raw.getD lo [],hps _ (by simp[List.getD,hlt]),rfl,?_⟩
    have hg:raw.getD lo []=raw[lo]:=by simp[List.getD,hlt]
    rw[hg,List.drop_eq_getElem_cons hlt,List.map_cons]
   rw[hdrop]at hR
   have hne:¬((raw.length-lo:Nat):Int)=0:=by omega
   have hz1:lo+(0:Int).toNat=lo:=rfl
   have hz2:lo+(1:Int).toNat=lo+1:=rfl
   have hvl:lo+(((raw.length-lo:Nat):Int)).toNat=raw.length:=by omega
   have hT:=Na G H p hpl
   have htl:=Ug p
   generalize trimB p=q at hT hR htl
   have hmore:((raw.drop (lo+1)).map trimB≠[]∧(0:Int)<((raw.length-(lo+1):Nat):Int))∨((raw.drop (lo+1)).map trimB=[]∧¬(0:Int)<((raw.length-(lo+1):Nat):Int)):=by
    by_cases hd:lo+1<raw.length
    ·exact .inl ⟨by simp;omega,by omega⟩
    ·exact .inr ⟨by simp;omega,by omega⟩
   cases hv:Mi q 65535 with
   |some n=>
    rw[Zg7 hi hv]at hR
    simp only at hR
    have hN:=Bx G H hv
    rcases hmore with⟨hne2,hgt⟩|⟨hne2,hgt⟩
    ·rw[if_neg hne2]at hR
     subst hR
     repeat'(first|(first|refine Stp.h ?_|(refine Za.gcp hglob hT ?_ ?_;focus simp[Zb];done)|(refine Za.gcp hglob hN ?_ ?_;focus simp[Zb];done))<;>try simp only[Zc,simprocAttr,↓reduceIte,reduceCtorEq,implies_true,hi,hpg,hne,hz1,hz2,hvl,hgt,Int.ofNat_lt]|(with_reducible first|assumption|refine And.intro ?_ ?_)|(intro h;first|omega|exact tg h ‹_›|exact tg ‹_› h|skip))
     all_goals first|omega|skip
     all_goals first|exact hE _ rfl rfl rfl rfl|exact T.ret (hE _ rfl rfl rfl rfl)
    ·rw[if_pos hne2]at hR
     subst hR
     repeat'(first|(first|refine Stp.h ?_|(refine Za.gcp hglob hT ?_ ?_;focus simp[Zb];done)|(refine Za.gcp hglob hN ?_ ?_;focus simp[Zb];done))<;>try simp only[Zc,simprocAttr,↓reduceIte,reduceCtorEq,implies_true,hi,hpg,hne,hz1,hz2,hvl,hgt,Int.ofNat_lt]|(with_reducible first|assumption|refine And.intro ?_ ?_)|(intro h;first|omega|exact tg h ‹_›|exact tg ‹_› h|skip))
     all_goals first|omega|skip
     all_goals first|exact hE _ rfl rfl rfl rfl|exact T.ret (hE _ rfl rfl rfl rfl)
   |none=>
    obtain⟨m,hN⟩:=Bw G H hv (by omega)
    have hNm:=Su q
    have hRf:=Rm op
    by_cases hr:Xk q=true∧U1 op=true
    ·rw[Zg8 hi hv hr]at hR
     simp only at hR
     rw[hr.1]at hNm
     rw[hr.2]at hRf
     rcases hmore with⟨hne2,hgt⟩|⟨hne2,hgt⟩
     ·rw[if_neg hne2]at hR
      subst hR
      repeat'(first|(first|refine Stp.h ?_|(refine Za.gcp hglob hT ?_ ?_;focus simp[Zb];done)|(refine Za.gcp hglob hN ?_ ?_;focus simp[Zb];done)|(refine rq hNm ?_ ?_;focus simp[Zz];done)|(refine rq hRf ?_ ?_;focus simp[Zz];done)|refine Ze.split ?_ ?_|refine Zh.no ?_)<;>try simp only[Zc,simprocAttr,↓reduceIte,reduceCtorEq,implies_true,hi,hpg,hne,hz1,hz2,hvl,hgt,Int.ofNat_lt]|(with_reducible first|assumption|refine And.intro ?_ ?_)|(intro h;first|omega|exact tg h ‹_›|exact tg ‹_› h|skip))
      all_goals first|omega|skip
      all_goals first|exact hE _ rfl rfl rfl rfl|exact T.ret (hE _ rfl rfl rfl rfl)
     ·rw[if_pos hne2]at hR
      subst hR
      repeat'(first|(first|refine Stp.h ?_|(refine Za.gcp hglob hT ?_ ?_;focus simp[Zb];done)|(refine Za.gcp hglob hN ?_ ?_;focus simp[Zb];done)|(refine rq hNm ?_ ?_;focus simp[Zz];done)|(refine rq hRf ?_ ?_;focus simp[Zz];done)|refine Ze.split ?_ ?_|refine Zh.no ?_)<;>try simp only[Zc,simprocAttr,↓reduceIte,reduceCtorEq,implies_true,hi,hpg,hne,hz1,hz2,hvl,hgt,Int.ofNat_lt]|(with_reducible first|assumption|refine And.intro ?_ ?_)|(intro h;first|omega|exact tg h ‹_›|exact tg ‹_› h|skip))
      all_goals first|omega|skip
      all_goals first|exact hE _ rfl rfl rfl rfl|exact T.ret (hE _ rfl rfl rfl rfl)
    ·rw[Zg5 hi hv hr]at hR
     simp only at hR
     subst hR
     cases hn:Xk q
     ·rw[hn]at hNm
      repeat'(first|(first|refine Stp.h ?_|(refine Za.gcp hglob hT ?_ ?_;focus simp[Zb];done)|(refine Za.gcp hglob hN ?_ ?_;focus simp[Zb];done)|(refine rq hNm ?_ ?_;focus simp[Zz];done)|(refine rq hRf ?_ ?_;focus simp[Zz];done)|refine Ze.split ?_ ?_|refine Zh.no ?_)<;>try simp only[Zc,simprocAttr,↓reduceIte,reduceCtorEq,implies_true,hi,hpg,hne,hz1,Int.ofNat_lt]|(with_reducible first|assumption|refine And.intro ?_ ?_)|(intro h;first|omega|exact tg h ‹_›|exact tg ‹_› h|skip))
      all_goals first|omega|skip
      all_goals first|exact hE _ rfl rfl rfl rfl|exact T.ret (hE _ rfl rfl rfl rfl)
     ·have hrf:U1 op=false:=by
       cases hb:U1 op with
       |false=>rfl
       |true=>exact absurd ⟨hn,hb⟩ hr
      rw[hn]at hNm
      rw[hrf]at hRf
      repeat'(first|(first|refine Stp.h ?_|(refine Za.gcp hglob hT ?_ ?_;focus simp[Zb];done)|(refine Za.gcp hglob hN ?_ ?_;focus simp[Zb];done)|(refine rq hNm ?_ ?_;focus simp[Zz];done)|(refine rq hRf ?_ ?_;focus simp[Zz];done)|refine Ze.split ?_ ?_|refine Zh.no ?_)<;>try simp only[Zc,simprocAttr,↓reduceIte,reduceCtorEq,implies_true,hi,hpg,hne,hz1,Int.ofNat_lt]|(with_reducible first|assumption|refine And.intro ?_ ?_)|(intro h;first|omega|exact tg h ‹_›|exact tg ‹_› h|skip))
      all_goals first|omega|skip
      all_goals first|exact hE _ rfl rfl rfl rfl|exact T.ret (hE _ rfl rfl rfl rfl)
  ·have hd0:(raw.drop lo).map trimB=[]:=by simp;omega
   rw[hd0,Zg6 hi]at hR
   simp only at hR
   subst hR
   have heq:((raw.length-lo:Nat):Int)=0:=by omega
   repeat'(first|(first|refine Stp.h ?_)<;>try simp only[Zc,simprocAttr,↓reduceIte,reduceCtorEq,implies_true,hi,heq,Int.ofNat_lt]|(with_reducible first|assumption|refine And.intro ?_ ?_)|(intro h;first|omega|exact tg h ‹_›|exact tg ‹_› h|skip))
   all_goals first|omega|skip
   all_goals first|exact hE _ rfl rfl rfl rfl|exact T.ret (hE _ rfl rfl rfl rfl)
set_option maxHeartbeats 16000000 in
set_option maxRecDepth 100000 in
theorem Ca{G:Nat}{H:Nat→Option Obj}(hM:Yn G H)(s:List UInt8)(hs:s.length≤2000000):
 GCp G H Tryz.prog 80 [.a (.str s)] [] 0 [] (.tup [.agg (lineT s).1.cells,.a (.bool (lineT s).2.1),.a (.int .i64 (lineT s).2.2)]) [] 0:=by
 refine W4.fn.gcp (by simp) (by simp[Zu,Zw,Zv,Zj,Zf,Vc.S1.okN,At.okN,SV.okN,Res.okN,Res.outOk,Zo,Res.own,Value.oneCell',Ln.cells]) fun w X fr hglob=> ?_
 have l1:=Zbk (s:=s)
 have l2:=Be (s:=s)
 have l3:=Zbj (s:=s)
 have l4:=Zbi (s:=s)
 have l5:=Zf3 (s:=s)
 have hU:=Zdp hM s 59 (by omega)
 have hul:=Kq 59 s
 generalize lineT s=L at l1 l2 l3 l4 l5 ⊢
 generalize upToS 59 s=U at*
 have hT:=Na G H U.1 (by omega)
 have htl:=Ug U.1
 generalize trimB U.1=t at*
 by_cases ht:t=[]
 ·rw[l1 ht]
  repeat'(first|(first|refine Stp.h ?_|(refine Za.gcp hglob hU ?_ ?_;focus simp[Zb];done)|(refine Za.gcp hglob hT ?_ ?_;focus simp[Zb];done))<;>try simp only[Zc,simprocAttr,↓reduceIte,reduceCtorEq,implies_true,ht,ln0,Vt]|(with_reducible first|assumption|refine And.intro ?_ ?_)|(intro h;first|omega|exact tg h ‹_›|exact tg ‹_› h|skip))
  all_goals first|omega|skip
 have hS:=Gf G H t [58] (by omega)
 rw[K9]at hS
 by_cases hlast:t.getLast? =some 58
 ·rw[Zdg hlast,decide_eq_true hlast]at hS
  have hN:=Su t.dropLast
  cases hn:Xk t.dropLast
  ·rw[l3 ht hlast hn]
   rw[hn]at hN
   repeat'(first|(first|refine Stp.h ?_|(refine Za.gcp hglob hU ?_ ?_;focus simp[Zb];done)|(refine Za.gcp hglob hT ?_ ?_;focus simp[Zb];done)|(refine Za.gcp hglob hS ?_ ?_;focus simp[Zb];done)|(refine rq hN ?_ ?_;focus simp[Zz];done))<;>try simp only[Zc,simprocAttr,↓reduceIte,reduceCtorEq,implies_true,ht,ln0,Vt]|(with_reducible first|assumption|refine And.intro ?_ ?_)|(intro h;first|omega|exact tg h ‹_›|exact tg ‹_› h|skip))
   all_goals first|omega|skip
  ·rw[l2 ht hlast hn]
   rw[hn]at hN
   repeat'(first|(first|refine Stp.h ?_|(refine Za.gcp hglob hU ?_ ?_;focus simp[Zb];done)|(refine Za.gcp hglob hT ?_ ?_;focus simp[Zb];done)|(refine Za.gcp hglob hS ?_ ?_;focus simp[Zb];done)|(refine rq hN ?_ ?_;focus simp[Zz];done))<;>try simp only[Zc,simprocAttr,↓reduceIte,reduceCtorEq,implies_true,ht,ln0,Vt]|(with_reducible first|assumption|refine And.intro ?_ ?_)|(intro h;first|omega|exact tg h ‹_›|exact tg ‹_› h|skip))
   all_goals first|omega|skip
 rw[decide_eq_false hlast]at hS
 generalize Lib.trimSuffix t [58]=q at hS
 have hU2:=Zdp hM t 32 (by omega)
 have hul2:=Kq 32 t
 generalize upToS 32 t=V at*
 have hI:=IndexK V.1
 have hkr:=Zfz V.1
 by_cases hk:kindS V.1<0
 ·rw[l4 ht hlast hk]
  repeat'(first|(first|refine Stp.h ?_|(refine Za.gcp hglob hU ?_ ?_;focus simp[Zb];done)|(refine Za.gcp hglob hT ?_ ?_;focus simp[Zb];done)|(refine Za.gcp hglob hS ?_ ?_;focus simp[Zb];done)|(refine Za.gcp hglob hU2 ?_ ?_;focus simp[Zb];done)|(refine Za.gc Ey ?_ ?_;focus simp[Zb];done)|(refine rq hI ?_ ?_;focus simp[Zz];done))<;>try simp only[Zc,simprocAttr,↓reduceIte,reduceCtorEq,implies_true,ht,hk,ln0,Vt]|(with_reducible first|assumption|refine And.intro ?_ ?_)|(intro h;first|omega|exact tg h ‹_›|exact tg ‹_› h|skip))
  all_goals first|omega|skip
 rw[l5 ht hlast hk,B8]
 generalize kindS V.1=op at*
 have hY:=D8 op (Za8 (by omega) (by omega))
 have hT2:=Na G H V.2.1 (by omega)
 have htl2:=Ug V.2.1
 have hraw:=Ziv V.2.1
 have hrw:rawS V.2.1=if trimB V.2.1=[]then[]else splitS 44 (trimB V.2.1):=rfl
 generalize rawS V.2.1=raw at*
 generalize trimB V.2.1=rt at*
 by_cases hr:rt=[]
 ·rw[if_pos hr]at hrw
  repeat'(first|(first|refine Stp.h ?_|(refine Za.gcp hglob hU ?_ ?_;focus simp[Zb];done)|(refine Za.gcp hglob hT ?_ ?_;focus simp[Zb];done)|(refine Za.gcp hglob hS ?_ ?_;focus simp[Zb];done)|(refine Za.gcp hglob hU2 ?_ ?_;focus simp[Zb];done)|(refine Za.gc Ey ?_ ?_;focus simp[Zb];done)|(refine rq hI ?_ ?_;focus simp[Zz];done)|(refine Za.gcp hglob hT2 ?_ ?_;focus simp[Zb];done)|(refine rq hY ?_ ?_;focus simp[Zz];done))<;>try simp only[Zc,simprocAttr,↓reduceIte,reduceCtorEq,implies_true,ht,hk,hr]|(with_reducible first|assumption|refine And.intro ?_ ?_)|(intro h;first|omega|exact tg h ‹_›|exact tg ‹_› h|skip))
  all_goals first|omega|skip
  refine T.weak (Ent.nilRow (t:=11) 9 .str rfl) ?_
  refine T.weak (Ent.view (t:=11) 1 3 0 0 rfl rfl trivial) ?_
  have hl0:0=raw.length:=by rw[hrw];rfl
  refine T.weak (S2:=⟨[(84,.one (.a (.int .i64 0))),(83,.one (.a (.int .i64 2))),(82,.one (.a (.ref 3))),(11,.one (.a (.ref 2))),(14,.one (.a (.bool (Ui op)))),(10,.one (.a (.int .i64 op))),(2,.one (.a (.loc 0 0)))],[(0,.cells 75 [.str [],.int .i64 op,.int .i64 0,.int .i64 0,.int .i64 0,.str []]),(1,.row 9 .str raw),(2,.view 1 1 0 raw.length),(3,.lit 176 2 2 [.bool (Qh op),.loc 0 2,.bool (Qi op),.loc 0 3])],4⟩) (Ent.mk1 (fun n=>if n=1 then 3 else if n=2 then 4 else if n=3 then 2 else n) (by simp[Zt,hrw])) (Ih hglob op raw (by omega) (fun p hp=>Nat.le_trans (hraw.1 p hp) (by omega)) (fun lo d s' hlo hres S' hE=> ?_) (fun e he S' h2 h3 h4 h0=> ?_))
  ·simp only[Zc,simprocAttr,↓reduceIte,reduceCtorEq,implies_true]
   refine T.weak hE ?_
   refine Fd hglob op raw (by omega) (fun p hp=>Nat.le_trans (hraw.1 p hp) (by omega)) lo d s' hlo fun S' h2 h3 h4 h0=> ?_
   rw[hres]at h3 h4 h0
   simp only[Zc,simprocAttr,↓reduceIte,reduceCtorEq,implies_true,W4.res,h2,h3,h4,h0]
  ·rw[he]
   simp only[Zc,simprocAttr,↓reduceIte,reduceCtorEq,implies_true,W4.res,h2,h3,h4,h0,Zgk,ln0,Vt]
 ·rw[if_neg hr]at hrw
  have hSp:=Gt hM rt 44 (by omega)
  rw[←hrw]at hSp
  repeat'(first|(first|refine Stp.h ?_|(refine Za.gcp hglob hU ?_ ?_;focus simp[Zb];done)|(refine Za.gcp hglob hT ?_ ?_;focus simp[Zb];done)|(refine Za.gcp hglob hS ?_ ?_;focus simp[Zb];done)|(refine Za.gcp hglob hU2 ?_ ?_;focus simp[Zb];done)|(refine Za.gc Ey ?_ ?_;focus simp[Zb];done)|(refine rq hI ?_ ?_;focus simp[Zz];done)|(refine Za.gcp hglob hT2 ?_ ?_;focus simp[Zb];done)|(refine Za.gcp hglob hSp ?_ ?_;focus simp[Zb];done)|(refine rq hY ?_ ?_;focus simp[Zz];done))<;>try simp only[Zc,simprocAttr,↓reduceIte,reduceCtorEq,implies_true,ht,hk,hr]|(with_reducible first|assumption|refine And.intro ?_ ?_)|(intro h;first|omega|exact tg h ‹_›|exact tg ‹_› h|skip))
  all_goals first|omega|skip
  refine T.weak (Ent.view (t:=11) 1 2 0 raw.length rfl rfl trivial) ?_
  refine T.weak (S2:=⟨[(84,.one (.a (.int .i64 0))),(83,.one (.a (.int .i64 2))),(82,.one (.a (.ref 3))),(11,.one (.a (.ref 2))),(14,.one (.a (.bool (Ui op)))),(10,.one (.a (.int .i64 op))),(2,.one (.a (.loc 0 0)))],[(0,.cells 75 [.str [],.int .i64 op,.int .i64 0,.int .i64 0,.int .i64 0,.str []]),(1,.row 9 .str raw),(2,.view 1 1 0 raw.length),(3,.lit 176 2 2 [.bool (Qh op),.loc 0 2,.bool (Qi op),.loc 0 3])],4⟩) (Ent.mk1 (fun n=>if n=1 then 2 else if n=2 then 4 else n) (by simp[Zt])) (Ih hglob op raw (by omega) (fun p hp=>Nat.le_trans (hraw.1 p hp) (by omega)) (fun lo d s' hlo hres S' hE=> ?_) (fun e he S' h2 h3 h4 h0=> ?_))
  ·simp only[Zc,simprocAttr,↓reduceIte,reduceCtorEq,implies_true]
   refine T.weak hE ?_
   refine Fd hglob op raw (by omega) (fun p hp=>Nat.le_trans (hraw.1 p hp) (by omega)) lo d s' hlo fun S' h2 h3 h4 h0=> ?_
   rw[hres]at h3 h4 h0
   simp only[Zc,simprocAttr,↓reduceIte,reduceCtorEq,implies_true,W4.res,h2,h3,h4,h0]
  ·rw[he]
   simp only[Zc,simprocAttr,↓reduceIte,reduceCtorEq,implies_true,W4.res,h2,h3,h4,h0,Zgk,ln0,Vt]
theorem Fs{b:Bool}{ps:List (List UInt8)}{e:Int}(h:Oa b ps= .error e):e≠0:=by
 unfold Oa at h
 split at h
 ·cases h
 ·split at h
  ·cases h;decide
  ·split at h
   ·cases h
   ·cases h;decide
theorem Zid{op:Int}{d s:Nat}{ps:List (List UInt8)}{e:Int}(h:Gk op d s ps= .error e):e≠0:=by
 unfold Gk Q8 at h
 split at h
 ·rename_i e' he
  cases h
  split at he
  ·cases he
  ·split at he
   ·cases he;decide
   ·split at he
    ·cases he
    ·split at he
     ·cases he
     ·cases he;decide
 ·split at h
  ·cases h
  ·cases h;decide
theorem Zie{op:Int}{ps:List (List UInt8)}{e:Int}(h:insV op ps= .error e):e≠0:=by
 rw[Zeh]at h
 split at h
 ·rename_i e' he
  cases h;exact Fs he
 ·unfold insS at h
  split at h
  ·rename_i e' he
   cases h;exact Fs he
  ·exact Zid h
theorem Zf4{s:List UInt8}{e:Int}(h:Ny s= .error e):e≠0:=by
 unfold Ny at h
 simp only at h
 split at h
 ·cases h
 ·split at h
  ·split at h
   ·cases h
   ·cases h;decide
  ·split at h
   ·cases h;decide
   ·split at h
    ·rename_i e' he
     cases h;exact Zie he
    ·cases h
theorem Zby(s:List UInt8)(l:List (List UInt8))(k:Nat)(acc:List Ln):
 P9 (s::l) k acc=if(lineT s).2.2≠0 then(([],(lineT s).2.2,(k:Int)):List Ln×Int×Int)else if(lineT s).2.1=true then P9 l (k+1) (acc++[(lineT s).1])else P9 l (k+1) acc:=by
 rw[P9]
 unfold lineT
 cases hv:Ny s with
 |error e=>simp only;rw[if_pos (Zf4 hv)]
 |ok o=>cases o<;>simp
set_option maxHeartbeats 16000000 in
set_option maxRecDepth 100000 in
theorem M0{G:Nat}{H:Nat→Option Obj}{w:World}{X:List Nat}{fr:List Value}{Q:Exit→St→Prop}(hglob:Wb G H w X)(hM:Yn G H)(P:List (List UInt8))(n:Nat)(hn:n≤P.length)(h40:n≤40000)(hp:∀p∈P,p.length≤2000000)
 (hQ:∀acc,P9 (P.take n) 0 []=(acc,0,0)→∀S',Ent ⟨Tryz.prog,w,X,59,fr⟩ S' ⟨[(5,.one (.a (.ref 1))),(3,.one (.a (.loc 0 0)))],[(0,.cells 83 [.int .i64 0,.int .i64 0]),(1,.row 75 .line acc)],2⟩→Q (.exit 0) S')
 (hE:∀e k,P9 (P.take n) 0 []=([],e,k)→∀S':St,Zo S'.slots 2=some (.one (.a (.raw (.slice none 0 0))))→Zo S'.slots 3=some (.one (.a (.loc 0 0)))→Zo S'.res 0=some (.cells 83 [.int .i64 e,.int .i64 k])→Q .ret S'):
 T ⟨Tryz.prog,w,X,59,fr⟩ (.loop Sz.c20) Q ⟨[(35,.one (.a (.int .i64 0))),(34,.one (.a (.int .i64 n))),(33,.one (.a (.ref 2))),(5,.one (.a (.ref 3))),(3,.one (.a (.loc 0 0)))],
   [(0,.cells 83 [.int .i64 0,.int .i64 0]),(1,.row 9 .str P),(2,.view 1 1 0 n),(3,.row 75 .line [])],4⟩:=by
 generalize hR:P9 (P.take n) 0 []=R at hQ hE
 refine T.loop (ι:= {p:Nat×List Ln//p.1≤n∧P9 ((P.take n).drop p.1) p.1 p.2=R∧p.2.length≤p.1})
  (fun x=>⟨[(35,.one (.a (.int .i64 (x.1.1:Int)))),(34,.one (.a (.int .i64 n))),(33,.one (.a (.ref 2))),(5,.one (.a (.ref 3))),(3,.one (.a (.loc 0 0)))],
    [(0,.cells 83 [.int .i64 0,.int .i64 0]),(1,.row 9 .str P),(2,.view 1 1 0 n),(3,.row 75 .line x.1.2)],4⟩) (fun x=>n-x.1.1) ⟨(0,[]),by simp,by simpa using hR,by simp⟩ (Ent.mk1 (id) (by simp[Zt])) ?_
 rintro⟨⟨k,acc⟩,hk,hrun,hal⟩
 simp only at hk hrun hal
 have hln:(P.take n).length=n:=by rw[List.length_take];omega
 by_cases hlt:k<n
 ·have hdrop:(P.take n).drop k=P.getD k []::(P.take n).drop (k+1):=by
   have hlt2:k<(P.take n).length:=by omega
   rw[List.drop_eq_getElem_cons hlt2,List.getElem_take]
   have hg:P.getD k []=P[k]:=by simp[List.getD,show k<P.length by omega]
   rw[hg]
  have hmem:P.getD k []∈P:=by simp[List.getD,show k<P.length by omega]
  generalize hy:P.getD k []=x at hdrop hmem
  have hy':P.getD k (Kd.dflt .str)=x:=hy
  have hxl:=hp x hmem
  rw[hdrop,Zby]at hrun
  have hA:=Ca hM x (by omega)
  have hw:IntKind.i64.wrap ((k:Int)+1)=((k+1:Nat):Int):=Zx (by omega)
  have ht:0+((k:Int)).toNat=k:=by omega
  generalize lineT x=V at hA hrun
  obtain⟨y,some_,e⟩:=V
  simp only[Ln.cells]at hA hrun
  by_cases he:e≠0
  ·rw[if_pos he]at hrun
   subst hrun
   repeat'(first|(first|refine Stp.h ?_|(refine Za.gcp hglob hA ?_ ?_;focus simp[Zb];done))<;>try simp only[Zc,simprocAttr,↓reduceIte,reduceCtorEq,implies_true,hy',ht,hw,he,Int.ofNat_lt]|(with_reducible first|assumption|refine And.intro ?_ ?_)|(intro h;first|omega|exact tg h ‹_›|exact tg ‹_› h|skip))
   all_goals first|omega|skip
   all_goals first|exact hE _ _ rfl _ rfl rfl rfl|exact T.ret (hE _ _ rfl _ rfl rfl rfl)
  ·rw[if_neg he]at hrun
   have he0:e=0:=by simpa using he
   subst he0
   cases some_
   ·rw[if_neg (by decide)]at hrun
    repeat'(first|(first|refine Stp.h ?_|(refine Za.gcp hglob hA ?_ ?_;focus simp[Zb];done))<;>try simp only[Zc,simprocAttr,↓reduceIte,reduceCtorEq,implies_true,hy',ht,hw,Int.ofNat_lt]|(with_reducible first|assumption|refine And.intro ?_ ?_)|(intro h;first|omega|exact tg h ‹_›|exact tg ‹_› h|skip))
    all_goals first|omega|skip
    exact⟨⟨(k+1,acc),hlt,hrun,by simp only;omega⟩,(Ent.mk1 (id) (by simp[Zt,hw])),by simp only;omega⟩
   ·rw[if_pos rfl]at hrun
    repeat'(first|(first|refine Stp.h ?_|(refine Za.gcp hglob hA ?_ ?_;focus simp[Zb];done))<;>try simp only[Zc,simprocAttr,↓reduceIte,reduceCtorEq,implies_true,hy',ht,hw,Int.ofNat_lt]|(with_reducible first|assumption|refine And.intro ?_ ?_)|(intro h;first|omega|exact tg h ‹_›|exact tg ‹_› h|skip))
    all_goals first|omega|skip
    exact⟨⟨(k+1,acc++[y]),hlt,hrun,by simp only[List.length_append,List.length_cons,List.length_nil];omega⟩,(Ent.mk1 (fun n=>if n=3 then 6 else n) (by simp[Zt,hw])),by simp only;omega⟩
 ·have hk2:k=n:=by omega
  have hd0:(P.take n).drop k=[]:=by rw[hk2,←hln];simp
  rw[hd0]at hrun
  simp only[P9]at hrun
  repeat'(first|(first|refine Stp.h ?_)<;>try simp only[Zc,simprocAttr,↓reduceIte,reduceCtorEq,implies_true,hk2,Int.ofNat_lt]|(with_reducible first|assumption|refine And.intro ?_ ?_)|(intro h;first|omega|exact tg h ‹_›|exact tg ‹_› h|skip))
  all_goals first|omega|skip
  exact hQ acc hrun.symm _ (Ent.mk1 (fun n=>if n=1 then 3 else n) (by simp[Zt]))
theorem Bf(t:List UInt8):Ep t=(splitS 10 t).take (if(splitS 10 t).getLast? =some []then(splitS 10 t).length-1 else(splitS 10 t).length):=by
 unfold Ep
 split
 ·rw[List.dropLast_eq_take]
 ·rw[List.take_length]
set_option maxHeartbeats 16000000 in
set_option maxRecDepth 100000 in
theorem Cb{G:Nat}{H:Nat→Option Obj}(hM:Yn G H)(t:List UInt8)(hs:t.length≤9223372036854775807):
 GCp G H Tryz.prog 61 [.a (.str t)] [] 0 [] (.tup [.a (.ref 0),.agg [.int .i64 (K6 t).2.1,.int .i64 (K6 t).2.2]]) [(0,.row 75 .line (K6 t).1)] 1:=by
 refine Sz.fn.gcp (by simp) (by simp[Zu,Zw,Zv,Zj,Zf,Vc.S1.okN,At.okN,SV.okN,Res.okN,Res.outOk,Zo,Res.own,Value.oneCell']) fun w X fr hglob=> ?_
 generalize hR:K6 t=R
 unfold K6 at hR
 by_cases hlen:1048576<t.length
 ·rw[if_pos hlen]at hR
  subst hR
  have hgt:(1048576:Int)<(t.length:Int):=by omega
  repeat'(first|(first|refine Stp.h ?_)<;>try simp only[Zc,simprocAttr,↓reduceIte,reduceCtorEq,implies_true,hgt]|(with_reducible first|assumption|refine And.intro ?_ ?_)|(intro h;first|omega|exact tg h ‹_›|exact tg ‹_› h|skip))
  all_goals first|omega|skip
 rw[if_neg hlen]at hR
 have hgt:¬(1048576:Int)<(t.length:Int):=by omega
 have hSp:=Gt hM t 10 (by omega)
 have hne:=Zgy 10 t
 have hp:=P1 10 t
 have hcl:=Oo 10 t
 have hcc:=List.count_le_length (a:=(10:UInt8)) (l:=t)
 rw[Bf]at hR
 generalize splitS 10 t=P at*
 have hpos:=List.length_pos_iff.2 hne
 have hw1:IntKind.i64.wrap ((P.length:Int)-1)=((P.length-1:Nat):Int):=by rw[Zk (by omega) (by omega)];omega
 have htn:(((P.length-1:Nat):Int)).toNat=P.length-1:=by omega
 have hz:0+(0:Int).toNat=0:=rfl
 have htn2:0+(((P.length-1:Nat):Int)).toNat=P.length-1:=by omega
 have hlast:P.getD (P.length-1) (Kd.dflt .str)=[]↔P.getLast? =some []:=by
  have e:P.getD (P.length-1) (Kd.dflt .str)=P[P.length-1]:=by
   show P.getD (P.length-1) []=_
   simp[List.getD,show P.length-1<P.length by omega]
  rw[e,List.getLast?_eq_getElem?,List.getElem?_eq_getElem (by omega)]
  simp
 by_cases hl:P.getLast? =some []
 ·have hl':=hlast.2 hl
  rw[if_pos hl]at hR
  have hln:(P.take (P.length-1)).length=P.length-1:=by rw[List.length_take];omega
  rw[hln]at hR
  have hlv:((P.length-1-0:Nat):Int)=((P.length-1:Nat):Int):=rfl
  generalize hnn:P.length-1=n at*
  by_cases h40:40000<n
  ·rw[if_pos h40]at hR
   subst hR
   have hgt2:(40000:Int)<(n:Int):=by omega
   repeat'(first|(first|refine Stp.h ?_|(refine Za.gcp hglob hSp ?_ ?_;focus simp[Zb];done))<;>try simp only[Zc,simprocAttr,↓reduceIte,reduceCtorEq,implies_true,hgt,hw1,htn,htn2,hz,hl',hlv,hgt2]|(with_reducible first|assumption|refine And.intro ?_ ?_)|(intro h;first|omega|exact tg h ‹_›|exact tg ‹_› h|skip))
   all_goals first|omega|skip
  rw[if_neg h40]at hR
  have hgt2:¬(40000:Int)<(n:Int):=by omega
  repeat'(first|(first|refine Stp.h ?_|(refine Za.gcp hglob hSp ?_ ?_;focus simp[Zb];done))<;>try simp only[Zc,simprocAttr,↓reduceIte,reduceCtorEq,implies_true,hgt,hw1,htn,htn2,hz,hl',hlv,hgt2]|(with_reducible first|assumption|refine And.intro ?_ ?_)|(intro h;first|omega|exact tg h ‹_›|exact tg ‹_› h|skip))
  all_goals first|omega|skip
  refine T.weak (Ent.nilRow (t:=5) 75 .line rfl) ?_
  refine T.weak (S2:=⟨[(35,.one (.a (.int .i64 0))),(34,.one (.a (.int .i64 n))),(33,.one (.a (.ref 2))),(5,.one (.a (.ref 3))),(3,.one (.a (.loc 0 0)))],
   [(0,.cells 83 [.int .i64 0,.int .i64 0]),(1,.row 9 .str P),(2,.view 1 1 0 n),(3,.row 75 .line [])],4⟩) (Ent.mk1 (id) (by simp[Zt])) (M0 hglob hM P n (by omega) (by omega) (fun p h=>Nat.le_trans (hp p h) (by omega)) (fun acc ha S' hE=> ?_) (fun e k ha S' h2 h3 h0=> ?_))
  ·rw[ha]at hR
   subst hR
   simp only[Zc,simprocAttr,↓reduceIte,reduceCtorEq,implies_true]
   refine T.weak hE ?_
   repeat'(first|(first|refine Stp.h ?_)<;>try simp only[Zc,simprocAttr,↓reduceIte,reduceCtorEq,implies_true]|(with_reducible first|assumption|refine And.intro ?_ ?_)|(intro h;first|omega|exact tg h ‹_›|exact tg ‹_› h|skip))
  ·rw[ha]at hR
   subst hR
   simp only[Zc,simprocAttr,↓reduceIte,reduceCtorEq,implies_true,Sz.res,h2,h3,h0]
 ·have hl':¬P.getD (P.length-1) (Kd.dflt .str)=[]:=fun e=>hl (hlast.1 e)
  rw[if_neg hl,List.take_length]at hR
  by_cases h40:40000<P.length
  ·rw[if_pos h40]at hR
   subst hR
   have hgt2:(40000:Int)<(P.length:Int):=by omega
   repeat'(first|(first|refine Stp.h ?_|(refine Za.gcp hglob hSp ?_ ?_;focus simp[Zb];done))<;>try simp only[Zc,simprocAttr,↓reduceIte,reduceCtorEq,implies_true,hgt,hw1,htn,hl',hgt2]|(with_reducible first|assumption|refine And.intro ?_ ?_)|(intro h;first|omega|exact tg h ‹_›|exact tg ‹_› h|skip))
   all_goals first|omega|skip
  rw[if_neg h40]at hR
  have hgt2:¬(40000:Int)<(P.length:Int):=by omega
  repeat'(first|(first|refine Stp.h ?_|(refine Za.gcp hglob hSp ?_ ?_;focus simp[Zb];done))<;>try simp only[Zc,simprocAttr,↓reduceIte,reduceCtorEq,implies_true,hgt,hw1,htn,hl',hgt2]|(with_reducible first|assumption|refine And.intro ?_ ?_)|(intro h;first|omega|exact tg h ‹_›|exact tg ‹_› h|skip))
  all_goals first|omega|skip
  refine T.weak (Ent.nilRow (t:=5) 75 .line rfl) ?_
  refine T.weak (Ent.view (t:=33) 1 1 0 P.length rfl rfl trivial) ?_
  refine T.weak (S2:=⟨[(35,.one (.a (.int .i64 0))),(34,.one (.a (.int .i64 P.length))),(33,.one (.a (.ref 2))),(5,.one (.a (.ref 3))),(3,.one (.a (.loc 0 0)))],
   [(0,.cells 83 [.int .i64 0,.int .i64 0]),(1,.row 9 .str P),(2,.view 1 1 0 P.length),(3,.row 75 .line [])],4⟩) (Ent.mk1 (fun n=>if n=2 then 3 else if n=3 then 2 else n) (by simp[Zt])) (M0 hglob hM P P.length (by omega) (by omega) (fun p h=>Nat.le_trans (hp p h) (by omega)) (fun acc ha S' hE=> ?_) (fun e k ha S' h2 h3 h0=> ?_))
  ·rw[List.take_length]at ha
   rw[ha]at hR
   subst hR
   simp only[Zc,simprocAttr,↓reduceIte,reduceCtorEq,implies_true]
   refine T.weak hE ?_
   repeat'(first|(first|refine Stp.h ?_)<;>try simp only[Zc,simprocAttr,↓reduceIte,reduceCtorEq,implies_true]|(with_reducible first|assumption|refine And.intro ?_ ?_)|(intro h;first|omega|exact tg h ‹_›|exact tg ‹_› h|skip))
  ·rw[List.take_length]at ha
   rw[ha]at hR
   subst hR
   simp only[Zc,simprocAttr,↓reduceIte,reduceCtorEq,implies_true,Sz.res,h2,h3,h0]
end Go.Proofs.YtddmlennnmpnhaaGreatDoor
namespace Go.Proofs.YtddmlennnmpnhaaGreatDoor
open Go Go.RowKit Vc
set_option linter.unusedVariables false
set_option linter.unusedSimpArgs false
namespace Vc
theorem Ent.nilUrow{c:Cx}{S:St}{t:Nat}{base:Nat}(E:Nat)(ht:S.get t=some (.one (.a (.raw (.slice none 0 0))))):Ent c S ⟨(t,.one (.a (.ref S.nx)))::S.slots,(S.nx,(.urow base E []))::S.res,S.nx+1⟩:=fun ρ a w hh=>by
 have hmem:Mem c (Z9 ρ S.nx (.slice none 0 0)) ((S.nx,(.urow base E []))::S.res) (S.nx+1) w:=by
  have h:=hh.mem
  have:=Mem.step (ρ':=Z9 ρ S.nx (.slice none 0 0)) (nx':=S.nx+1) (w':=w) (ds:=[]) (m:=S.nx) (r:=.urow base E []) (D:=[]) h
   (Zi ρ S.nx _) (by omega) (Y0 h.one rfl) rfl rfl rfl (Nat.le_refl _) (fun b o hb _=>hb) (by simp) (by omega) (.inr (Nat.le_refl _)) trivial
   (fun b hb=>by simp only[Res.block,Zm,Value.ownBlock]at hb;cases hb)
   (fun O' _ _=>by
     simp only[Res.holds,Zm]
     exact⟨[],rfl,World.ownsRow_nil w 0 E Kd.unt.sz,fun i u x hu=>by simp at hu⟩)
  rwa [Xj]at this
 refine⟨Z9 ρ S.nx (.slice none 0 0),hh.nodef,hh.sz,hh.lown,fun u v hu=> ?_,fun u v hu=> ?_,hmem⟩
 ·rcases look_cons hu with⟨rfl,rfl⟩|⟨hne,hu'⟩
  ·rw[hh.slot _ _ ht];simp only[SV.den,S1.den,At.den,Zm]
  ·rw[SV.den_same (Zi ρ S.nx _) (hh.bds u v hu')];exact hh.slot u v hu'
 ·rcases look_cons hu with⟨rfl,rfl⟩|⟨hne,hu'⟩
  ·exact Nat.lt_succ_self _
  ·exact SV.bd_mono (Nat.le_succ _) (hh.bds u v hu')
def UOwn(base:Nat)(w:World)(v:Value)(E:Nat)(l:List (List UInt8×List Ln)):Prop:=
 ∃us:List Unt,us.length=l.length∧w.ownsRow base E Kd.unt.sz v us.length ((us.flatMap Kd.unt.enc).map (At.den fun _=>Yz))∧
  ∀(i:Nat) (u:Unt) (x:List UInt8×List Ln),us[i]? =some u→l[i]? =some x→u.name=x.1∧(u.ln=x.2.length∧u.ln≤u.lc)∧Te w v.ownBlock.toList base u.la x.2
def RuC(G:Nat)(H:Nat→Option Obj)(P:Program)(f:Nat)(E:Nat)(l:List (List UInt8×List Ln)):Prop:=
 ∀w,Wb G H w []→Calls P f #[] w fun e w'=>∃r,e= .returned r∧Below w.heap.size w w'∧UOwn w.heap.size w' r E l
theorem Body.ru{G:Nat}{H:Nat→Option Obj}{P:Program}{f nt:Nat}{x:IC}{rl:List RV}(hF:Body P f nt x rl){E:Nat}{l:List (List UInt8×List Ln)}
 (hT:∀w,Wb G H w []→T ⟨P,w,[],nt,[]⟩ x (Q6 ⟨P,w,[],nt,[]⟩ rl fun v S=>∃m,v= .one (.a (.ref m))∧S.find m=some (.urow w.heap.size E l)) ⟨[],[],0⟩):RuC G H P f E l:=fun w hg=>by
 refine hF.plain (vs:=[]) (Nat.zero_le _) (by simp) (hT w hg) fun v S' ρ' w' hR _ hm=> ?_
 obtain⟨m,rfl,hf⟩:=hR
 obtain⟨us,h0,hown,hl⟩:=hm.res m _ (Zg hf)
 refine⟨ρ' m,rfl,hm.toBelow,us,h0,⟨hown.1,?_⟩,fun i u x hu hx=> ?_⟩
 ·rcases hown.2 with h|⟨g,cap,cur,h3,_,h4⟩
  ·exact .inl h
  ·refine .inr ⟨g,cap,cur,h3,?_,h4⟩
   have hb:g∈Zp ρ' S'.res:=List.mem_filterMap.2 ⟨(m,_),Zg hf,by simp[Res.block,h3,Value.ownBlock]⟩
   rcases(hm.lt g hb).2 with h|h
   ·exact h
   ·cases h
 ·obtain⟨g1,g2,g3⟩:=hl i u x hu hx
  refine⟨g1,g2,g3.sub fun b hb=>List.mem_filterMap.2 ⟨(m,_),Zg hf,?_⟩⟩
  show(ρ' m).ownBlock=some b
  simpa using hb
theorem Za.ru{G:Nat}{H:Nat→Option Obj}{c:Cx}(hglob:Wb G H c.w0 c.X){f:Nat}{S:St}{K:SV→St→Prop}{E:Nat}{l:List (List UInt8×List Ln)}(h:RuC G H c.P f E l)
 (hK:K (.one (.a (.ref S.nx))) ⟨S.slots,(S.nx,.urow 0 E l)::S.res,S.nx+1⟩):Za c f [] S K:=by
 intro ρ a w hh
 have hm:=hh.mem
 have hglob':Wb G H w []:=by
  obtain⟨k1,k2,k3⟩:=hglob
  refine⟨Nat.le_trans k1 hm.size,fun b hb=> ?_,fun b hb=>by cases hb⟩
  rw[hm.block b (by omega) (fun hX=>by have:=k3 b hX;omega)];exact k2 b hb
 refine(h w hglob').mono fun e w' ⟨v,he,hb,us,h0,hown,hl⟩=>⟨_,Z9 ρ S.nx v,_,⟨Zi _ _ _,Nat.le_succ _⟩,?_,Nat.lt_succ_self _,hh.res (Zi ρ S.nx v) (Nat.le_succ _) ?_,hK⟩
 ·rw[he];simp only[SV.den,S1.den,At.den,Zm]
 have hvone:v.oneCell'=true:=by rcases hown.2 with⟨hv,_⟩|⟨g,cp,cur,hv,_⟩<;>rw[hv]<;>rfl
 have:=Mem.step (ρ':=Z9 ρ S.nx v) (nx':=S.nx+1) (w':=w') (ds:=[]) (m:=S.nx) (r:=.urow 0 E l) (D:=[]) hm
  (Zi ρ S.nx _) (by omega) (Y0 hm.one hvone) hb.os hb.tape hb.output hb.size (fun b o ho _=>by rw[hb.block b (Array.getElem?_eq_some_iff.1 ho).1];exact ho) (by simp) (by omega) (.inr (Nat.le_refl _)) trivial
  (fun b hbk=>by
    simp only[Res.block,Zm]at hbk
    have:=World.ownsRow.lt hown b hbk
    exact⟨this.2,.inl this.1⟩)
  (fun O' hO _=>by
    refine⟨us,h0,?_,fun i u x hu hx=> ?_⟩
    ·simp only[Zm]
     obtain⟨h1,h2⟩:=hown
     refine⟨h1,?_⟩
     rcases h2 with h2|⟨g,cap,cur,h3,_,h4⟩
     ·exact .inl h2
     ·exact .inr ⟨g,cap,cur,h3,Nat.zero_le _,h4⟩
    ·obtain⟨g1,g2,g3,g4⟩:=hl i u x hu hx
     refine⟨g1,g2,g3,fun ad1 had1=>⟨(g4 ad1 had1).1,fun j y hy q v' hv'=> ?_⟩⟩
     obtain⟨k1,k2,k3⟩:=(g4 ad1 had1).2 j y hy q v' hv'
     refine⟨k1,fun hbO=> ?_,Nat.zero_le _⟩
     rcases hO _ hbO with h5|h5
     ·rw[Xj]at h5
      have:=(hm.lt _ h5).1;omega
     ·simp only[Res.block,Zm]at h5
      exact k2 (by rw[h5];simp))
 rwa [Xj]at this
end Vc
attribute [local irreducible] T Za Zn Ent RdC RwC Yd Ze Zh
set_option maxHeartbeats 4000000 in
set_option maxRecDepth 100000 in
theorem Zhj{G:Nat}{H:Nat→Option Obj}(hM:Yn G H)(hH:Z4 G H):RuC G H Tryz.prog 44 78 (unitsTo 24):=by
 refine Body.ru J3.fn fun w hglob=> ?_
 have hnl:V1.length=24:=rfl
 repeat'(first|(first|refine Stp.h ?_|(refine Za.gc Dt ?_ ?_;focus simp[Zb];done))<;>try simp only[Zc,simprocAttr,↓reduceIte,reduceCtorEq,implies_true,hnl]|(with_reducible first|assumption|refine And.intro ?_ ?_)|(intro h;first|omega|exact tg h ‹_›|exact tg ‹_› h|skip))
 all_goals first|omega|skip
 refine T.weak (Ent.nilUrow (t:=1) (base:=w.heap.size) 78 rfl) ?_
 refine T.loop (ι:= {k:Nat//k≤24})
  (fun x=>⟨[(10,.one (.a (.int .i64 (x.1:Int)))),(9,.one (.a (.int .i64 24))),(8,.one (.a (.ref 0))),(1,.one (.a (.ref 1)))],
    [(0,.row 9 .str V1),(1,.urow w.heap.size 78 (unitsTo x.1))],2⟩) (fun x=>24-x.1) ⟨0,by simp⟩ (Ent.mk1 (id) (by simp[Zt,unitsTo])) ?_
 rintro⟨k,hk⟩
 simp only
 by_cases hlt:k<24
 ·obtain⟨hr1,hr2,hr3⟩:=Aa k hlt
  have hT:=Zhg hM hH k hlt
  have hR:=Cb hM (textAt k) (by omega)
  have hul:=Nb k
  have hus:=Di k
  have hw:IntKind.i64.wrap ((k:Int)+1)=((k+1:Nat):Int):=Zx (by omega)
  have ht:((k:Int)).toNat=k:=by omega
  have hx:V1.getD k (Kd.dflt .str)=nameAt k:=rfl
  have hlt3:(k:Int)<24:=by omega
  have hll:(K6 (textAt k)).1=linesAt k:=rfl
  rw[hr1,hll]at hR
  generalize textAt k=tx at hT hR
  generalize linesAt k=ls at hR hus hr3
  generalize nameAt k=nm at hT hx hus
  generalize unitsTo k=us at hus hul
  have hb1:(us.length+1)*40≤140737488355328:=by omega
  have hb2:us.length+1≤4611686018427387904:=by omega
  repeat'(first|(first|refine Stp.h ?_|(refine Za.gcp hglob hT ?_ ?_;focus simp[Zb];done)|(refine Za.gcp hglob hR ?_ ?_;focus simp[Zb];done))<;>try simp only[Zc,simprocAttr,↓reduceIte,reduceCtorEq,implies_true,hx,hlt3,ht,hnl,hw,Int.ofNat_lt]|(with_reducible first|assumption|refine And.intro ?_ ?_)|(intro h;first|omega|exact tg h ‹_›|exact tg ‹_› h|skip))
  all_goals first|omega|exact .inr ⟨rfl,rfl⟩|skip
  exact⟨⟨k+1,hlt⟩,(Ent.mk1 (fun n=>if n=1 then 5 else n) (by simp[Zt,hus,hw])),by simp only;omega⟩
 ·have hk2:k=24:=by omega
  subst hk2
  repeat'(first|(first|refine Stp.h ?_)<;>try simp only[Zc,simprocAttr,↓reduceIte,reduceCtorEq,implies_true]|(with_reducible first|assumption|refine And.intro ?_ ?_)|(intro h;first|omega|exact tg h ‹_›|exact tg ‹_› h|skip))
  all_goals first|omega|exact⟨1,rfl,rfl⟩
end Go.Proofs.YtddmlennnmpnhaaGreatDoor
namespace Go.Proofs.YtddmlennnmpnhaaGreatDoor
open Vc
namespace Kv
noncomputable abbrev r0:List In:=[i1 4 (.mv (.k (.a (.raw (.slice none 0 0))))),i1 5 (.mv (kI 0)),i1 6 (.alloc 83 [.int .i64 0,.int .i64 0])]
noncomputable abbrev r1:List In:=[i1 7 (.mv (.k (.a (.raw (.slice none 0 0)))))]
noncomputable abbrev r2:List In:=[i1 14 (.mkmap Tryz.prog 9 4 .bool),mv 8 14]
noncomputable abbrev r3:List In:=[mv 15 0,i1 16 (.len (.t 15)),i1 17 (.mv (kI 0))]
noncomputable abbrev r4:List In:=[i1 18 (.bin .lss (.t 17) (.t 16))]
noncomputable abbrev r5:List In:=[mv 19 17,i1 20 (.iaddr 6 (.t 15) (.t 17)),i1 21 (.load 6 true (.t 20)),i1 10 (.alloc 75 [.str [],.int .i64 0,.int .i64 0,.int .i64 0,.int .i64 0,.str []]),mv 9 19,i0 (.store 6 (.t 10) (.t 21))]
noncomputable abbrev r6:List In:=[i1 22 (.load 6 true (.t 10)),i1 23 (.call 81 [.t 22]),mv 11 23]
noncomputable abbrev r7:List In:=[mv 24 11,i1 25 (.bin .neq (.t 24) (kI 0))]
noncomputable abbrev r8:List In:=[mv 26 11,mv 27 9,i1 28 (.build [.int .i64 0,.int .i64 0] [(0,1,(.t 26)),(1,1,(.t 27))]),i1 4 (.mv (.k (.a (.raw (.slice none 0 0))))),i1 5 (.mv (kI 0)),i0 (.store 2 (.t 6) (.t 28))]
noncomputable abbrev r9:List In:=[i1 29 (.faddr 0 (.t 10)),i1 30 (.load 1 false (.t 29)),i1 31 (.bin .neq (.t 30) (.k (.a (.str []))))]
noncomputable abbrev r10:List In:=[mv 32 8,i1 33 (.faddr 0 (.t 10)),i1 34 (.load 1 false (.t 33)),i1 35 (.mlook Tryz.prog 9 4 .bool false (.t 32) (.t 34))]
noncomputable abbrev r11:List In:=[mv 36 9,i1 37 (.build [.int .i64 0,.int .i64 0] [(0,1,(kI 7)),(1,1,(.t 36))]),i1 4 (.mv (.k (.a (.raw (.slice none 0 0))))),i1 5 (.mv (kI 0)),i0 (.store 2 (.t 6) (.t 37))]
noncomputable abbrev r12:List In:=[mv 38 8,i1 39 (.faddr 0 (.t 10)),i1 40 (.load 1 false (.t 39)),i0 (.mupd Tryz.prog 9 4 .bool (.t 38) (.t 40) (kB true))]
noncomputable abbrev r13:List In:=[mv 41 7,i1 42 (.faddr 0 (.t 10)),i1 43 (.load 1 false (.t 42)),mv 44 1,i1 45 (.build [.str [],.int .i64 0] [(0,1,(.t 43)),(1,1,(.t 44))]),i1 46 (.bsl 110 2 1 [.str [],.int .i64 0] [(0,2,(.t 45))]),i1 47 (.app 79 110 2 24 (.t 41) (.t 46)),mv 7 47]
noncomputable abbrev r14:List In:=[i1 49 (.faddr 1 (.t 10)),i1 50 (.faddr 0 (.t 49)),i1 51 (.load 1 false (.t 50)),i1 52 (.call 82 [.t 51]),mv 48 52,i1 53 (.ext 0 (.t 48)),i1 54 (.ext 1 (.t 48)),mv 12 53,mv 13 54]
noncomputable abbrev r15:List In:=[mv 55 1,mv 56 12,i1 57 (.bin .add (.t 55) (.t 56)),mv 1 57]
noncomputable abbrev r16:List In:=[mv 58 1,i1 59 (.bin .gtr (.t 58) (kI 65536))]
noncomputable abbrev r17:List In:=[mv 60 9,i1 61 (.build [.int .i64 0,.int .i64 0] [(0,1,(kI 4)),(1,1,(.t 60))]),i1 4 (.mv (.k (.a (.raw (.slice none 0 0))))),i1 5 (.mv (kI 0)),i0 (.store 2 (.t 6) (.t 61))]
noncomputable abbrev r18:List In:=[i1 62 (.bin .add (.t 17) (kI 1)),mv 17 62]
noncomputable abbrev r19:List In:=[mv 63 7,mv 64 1,i1 65 (.build [.int .i64 0,.int .i64 0] []),mv 4 63,mv 5 64,i0 (.store 2 (.t 6) (.t 65))]
noncomputable abbrev code:IC:=.seq (.reg r0) (.seq (.reg r1) (.seq (.reg r2) (.seq (.seq (.reg r3) (.block 0 (.loop (.seq (.reg r4) (.seq (.cond (.t 18) .skip (.exit 0)) (.seq (.block 1 (.seq (.reg r5) (.seq (.seq (.reg r6) (.seq (.reg r7) (.cond (.t 25) (.seq (.reg r8) .ret) .skip))) (.seq (.seq (.reg r9) (.cond (.t 31) (.seq (.seq (.reg r10) (.cond (.t 35) (.seq (.reg r11) .ret) .skip)) (.seq (.reg r12) (.seq (.reg r13) (.exit 1)))) .skip)) (.seq (.reg r14) (.seq (.reg r15) (.seq (.reg r16) (.cond (.t 59) (.seq (.reg r17) .ret) .skip)))))))) (.reg r18))))))) (.seq (.reg r19) .ret))))
abbrev res:List RV:=[.tmp 4,.tmp 5,.cell 6 2 true]
theorem fn:Body Tryz.prog 63 66 code res:=⟨by decide,Tryz.f63,_,Tryz.func63,rfl,rfl,by kernel_rfl,by kernel_rfl⟩
end Kv
namespace Ns
abbrev r0:List In:=[i1 4 (.mv (.k (.a (.raw (.slice none 0 0))))),i1 5 (.alloc 83 [.int .i64 0,.int .i64 0])]
abbrev r1:List In:=[i1 6 (.mv (.k (.a (.raw (.slice none 0 0)))))]
abbrev r2:List In:=[mv 12 0,i1 13 (.len (.t 12)),i1 14 (.mv (kI 0))]
abbrev r3:List In:=[i1 15 (.bin .lss (.t 14) (.t 13))]
abbrev r4:List In:=[mv 16 14,i1 17 (.iaddr 6 (.t 12) (.t 14)),i1 18 (.load 6 true (.t 17)),i1 8 (.alloc 75 [.str [],.int .i64 0,.int .i64 0,.int .i64 0,.int .i64 0,.str []]),mv 7 16,i0 (.store 6 (.t 8) (.t 18))]
abbrev r5:List In:=[i1 19 (.faddr 0 (.t 8)),i1 20 (.load 1 false (.t 19)),i1 21 (.bin .neq (.t 20) (.k (.a (.str []))))]
abbrev r6:List In:=[i1 22 (.faddr 1 (.t 8)),i1 23 (.load 4 true (.t 22)),i1 9 (.alloc 73 [.int .i64 0,.int .i64 0,.int .i64 0,.int .i64 0]),i0 (.store 4 (.t 9) (.t 23))]
abbrev r7:List In:=[i1 24 (.faddr 5 (.t 8)),i1 25 (.load 1 false (.t 24)),i1 26 (.bin .neq (.t 25) (.k (.a (.str []))))]
abbrev r8:List In:=[mv 28 1,i1 29 (.faddr 5 (.t 8)),i1 30 (.load 1 false (.t 29)),i1 31 (.callv (.t 28) [.t 30]),mv 27 31,i1 32 (.ext 0 (.t 27)),i1 33 (.ext 1 (.t 27)),mv 10 32,mv 11 33]
abbrev r9:List In:=[mv 34 11,i1 35 (.un .not (.t 34))]
abbrev r10:List In:=[mv 36 7,i1 37 (.build [.int .i64 0,.int .i64 0] [(0,1,(kI 6)),(1,1,(.t 36))]),i1 4 (.mv (.k (.a (.raw (.slice none 0 0))))),i0 (.store 2 (.t 5) (.t 37))]
abbrev r11:List In:=[mv 38 10,i1 39 (.bin .and (.t 38) (kI 65535)),i1 40 (.faddr 3 (.t 9)),i0 (.store 1 (.t 40) (.t 39))]
abbrev r12:List In:=[mv 41 6,i1 42 (.load 4 true (.t 9)),i1 43 (.bsl 73 4 1 [.int .i64 0,.int .i64 0,.int .i64 0,.int .i64 0] [(0,4,(.t 42))]),i1 44 (.app 115 73 4 32 (.t 41) (.t 43)),mv 6 44]
abbrev r13:List In:=[i1 45 (.bin .add (.t 14) (kI 1)),mv 14 45]
abbrev r14:List In:=[mv 46 6,i1 47 (.build [.int .i64 0,.int .i64 0] []),mv 4 46,i0 (.store 2 (.t 5) (.t 47))]
abbrev code:IC:=.seq (.reg r0) (.seq (.reg r1) (.seq (.seq (.reg r2) (.block 0 (.loop (.seq (.reg r3) (.seq (.cond (.t 15) .skip (.exit 0)) (.seq (.block 1 (.seq (.reg r4) (.seq (.seq (.reg r5) (.cond (.t 21) (.exit 1) .skip)) (.seq (.reg r6) (.seq (.seq (.reg r7) (.cond (.t 26) (.seq (.reg r8) (.seq (.seq (.reg r9) (.cond (.t 35) (.seq (.reg r10) .ret) .skip)) (.reg r11))) .skip)) (.reg r12)))))) (.reg r13))))))) (.seq (.reg r14) .ret)))
abbrev res:List RV:=[.tmp 4,.cell 5 2 true]
theorem fn:Body Tryz.prog 68 48 code res:=⟨by decide,Tryz.f68,_,Tryz.func68,rfl,rfl,by kernel_rfl,by kernel_rfl⟩
end Ns
end Go.Proofs.YtddmlennnmpnhaaGreatDoor
