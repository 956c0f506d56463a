/- A part of the proofs of this seat's laws: steps on the way, joined. It has no conditions of its own. -/
import Derived.Test.YtddmlennnmpnhaaGreatDoorQt
import Derived.Test.YtddmlennnmpnhaaGreatDoorQh
import Derived.Test.YtddmlennnmpnhaaGreatDoorChecked
import Derived.KernelRfl
import Derived.Test.YtddmlennnmpnhaaGreatDoorQs
namespace Go.Proofs.YtddmlennnmpnhaaGreatDoor
open Go.RowKit Vc
set_option linter.unusedVariables false
set_option linter.unusedSimpArgs false
attribute [local irreducible] T Za Zn Ent RdC RwC Yd Ze Zh
def Ab(own:Own)(u:Int)(sp:List Spot)(s:List UInt8):Option Int:=if Lb s=true then(if sp.any (fun y=>decide (y.name=s))=true then some u else none)else own s
def Rn(own:Own)(u:Int)(sp:List Spot):List Ln→List Int→Option (List Int)
 | [],us=>some us
 |x::ls,us=>if x.ref=[]then Rn own u sp ls us else match Ab own u sp x.ref with
  |none=>none
  |some n=>Rn own u sp ls (if n∈us then us else us++[n])
def Mn(sp:List Spot):List Spot:=sp.filter fun s=> !Lb s.name
def E9:List Spot→Own→Own
 | [],g=>g
 |s::l,g=>E9 l (if Lb s.name=true then g else fun t=>if t=s.name then some s.at_ else g t)
set_option maxHeartbeats 4000000 in
theorem Zbl{w:World}{X:List Nat}{fr:List Value}{Q:Exit→St→Prop}(l:List (List UInt8×List Ln))(own:Own)(i:Nat)(at_ u end_:Int)(us:List Int)(g:Own)(n:Nat)(sps sp:List Spot)
 (hok:∀s∈sp,F3 s)(hsl:sp.length≤40000)(hn:n≤40000*i)(hsps:sps.length≤40000*i)(hi:i≤400)
 (hQ:∀S' n',n'≤40000*(i+1)→Ent ⟨Tryz.prog,w,X,199,fr⟩ S' ⟨[(14,.one (.a (.int .i64 u))),(15,.one (.a (.ref 9))),(16,.one (.a (.int .i64 end_))),(13,.one (.a (.int .i64 (i:Int)))),(12,.one (.a (.int .i64 at_))),(11,.one (.a (.loc 5 0))),(10,.one (.a (.loc 2 0))),(6,.one (.a (.ref 1))),(5,.one (.a (.loc 8 0))),(4,.one (.a (.loc 7 0))),(0,.one (.a (.ref 0)))],[(0,.rou l),(1,.smap Tryz.prog 9 3 (.int .i64) own 16000000),(2,.cells 81 [(.raw (.slice none 0 0)),.ref 3,.ref 4]),(3,.row 3 (.int .i64) us),(4,.row 110 .spot (sps++Mn sp)),(5,.cells 102 [.ref 6]),(6,.smap Tryz.prog 9 3 (.int .i64) (E9 sp g) n'),(7,.cells 81 [(.raw (.slice none 0 0)),(.raw (.slice none 0 0)),(.raw (.slice none 0 0))]),(8,.cells 83 [.int .i64 0,.int .i64 0]),(9,.row 110 .spot sp)],10⟩→Q (.exit 2) S'):
 T ⟨Tryz.prog,w,X,199,fr⟩ (.loop W6.c19) Q ⟨[(92,.one (.a (.int .i64 0))),(91,.one (.a (.int .i64 sp.length))),(90,.one (.a (.ref 9))),(14,.one (.a (.int .i64 u))),(15,.one (.a (.ref 9))),(16,.one (.a (.int .i64 end_))),(13,.one (.a (.int .i64 (i:Int)))),(12,.one (.a (.int .i64 at_))),(11,.one (.a (.loc 5 0))),(10,.one (.a (.loc 2 0))),(6,.one (.a (.ref 1))),(5,.one (.a (.loc 8 0))),(4,.one (.a (.loc 7 0))),(0,.one (.a (.ref 0)))],[(0,.rou l),(1,.smap Tryz.prog 9 3 (.int .i64) own 16000000),(2,.cells 81 [(.raw (.slice none 0 0)),.ref 3,.ref 4]),(3,.row 3 (.int .i64) us),(4,.row 110 .spot sps),(5,.cells 102 [.ref 6]),(6,.smap Tryz.prog 9 3 (.int .i64) g n),(7,.cells 81 [(.raw (.slice none 0 0)),(.raw (.slice none 0 0)),(.raw (.slice none 0 0))]),(8,.cells 83 [.int .i64 0,.int .i64 0]),(9,.row 110 .spot sp)],10⟩:=by
 refine T.loop (ι:= {p:Nat×Own×Nat×List Spot//p.1≤sp.length∧E9 (sp.drop p.1) p.2.1=E9 sp g∧p.2.2.1≤n+p.1∧p.2.2.2++Mn (sp.drop p.1)=sps++Mn sp∧p.2.2.2.length≤sps.length+p.1})
  (fun x=>⟨[(92,.one (.a (.int .i64 (x.1.1:Int)))),(91,.one (.a (.int .i64 sp.length))),(90,.one (.a (.ref 9))),(14,.one (.a (.int .i64 u))),(15,.one (.a (.ref 9))),(16,.one (.a (.int .i64 end_))),(13,.one (.a (.int .i64 (i:Int)))),(12,.one (.a (.int .i64 at_))),(11,.one (.a (.loc 5 0))),(10,.one (.a (.loc 2 0))),(6,.one (.a (.ref 1))),(5,.one (.a (.loc 8 0))),(4,.one (.a (.loc 7 0))),(0,.one (.a (.ref 0)))],[(0,.rou l),(1,.smap Tryz.prog 9 3 (.int .i64) own 16000000),(2,.cells 81 [(.raw (.slice none 0 0)),.ref 3,.ref 4]),(3,.row 3 (.int .i64) us),(4,.row 110 .spot x.1.2.2.2),(5,.cells 102 [.ref 6]),(6,.smap Tryz.prog 9 3 (.int .i64) x.1.2.1 x.1.2.2.1),(7,.cells 81 [(.raw (.slice none 0 0)),(.raw (.slice none 0 0)),(.raw (.slice none 0 0))]),(8,.cells 83 [.int .i64 0,.int .i64 0]),(9,.row 110 .spot sp)],10⟩) (fun x=>sp.length-x.1.1) ⟨(0,g,n,sps),by simp,by simp,by simp,by simp,by simp⟩ (Ent.mk1 (id) (by simp[Zt])) ?_
 rintro⟨⟨j,g',n',sps'⟩,hj,hg,hn',hs,hs'⟩
 simp only at hj hg hn' hs hs'
 by_cases hlt:j<sp.length
 ·have hdrop:sp.drop j=sp.getD j O7::sp.drop (j+1):=by
   rw[List.drop_eq_getElem_cons hlt];simp[List.getD,hlt]
  have hmem:sp.getD j O7∈sp:=by simp[List.getD,hlt]
  generalize hy:sp.getD j O7=y at hdrop hmem
  have hy':sp.getD j (Kd.dflt .spot)=y:=hy
  obtain⟨⟨hy0,hy1⟩,hyn,hyne⟩:=hok y hmem
  have hyl:=O2 hyn
  rw[hdrop]at hg hs
  simp only[E9]at hg
  have hw:IntKind.i64.wrap ((j:Int)+1)=((j+1:Nat):Int):=Zx (by omega)
  have ht:((j:Int)).toNat=j:=by omega
  cases hown:Lb y.name with
  |true=>
   rw[if_pos hown]at hg
   have hv:Mn (y::sp.drop (j+1))=Mn (sp.drop (j+1)):=by simp[Mn,hown]
   rw[hv]at hs
   repeat'(first|(first|refine Stp.h ?_|(refine rq (Xo y.name hyne) ?_ ?_;focus simp[Zz];done))<;>try simp only[Zc,simprocAttr,↓reduceIte,reduceCtorEq,implies_true,hy',hw,ht,hown,Int.ofNat_lt]|(with_reducible first|assumption|refine And.intro ?_ ?_)|(intro h;first|omega|exact tg h ‹_›|exact tg ‹_› h|skip))
   all_goals first|omega|skip
   exact⟨⟨(j+1,g',n',sps'),hlt,hg,by simp only;omega,hs,by simp only;omega⟩,(Ent.mk1 (id) (by simp[Zt,hw])),by simp only;omega⟩
  |false=>
   rw[if_neg (by simp[hown])]at hg
   have hv:Mn (y::sp.drop (j+1))=y::Mn (sp.drop (j+1)):=by simp[Mn,hown]
   rw[hv]at hs
   repeat'(first|(first|refine Stp.h ?_|(refine rq (Xo y.name hyne) ?_ ?_;focus simp[Zz];done))<;>try simp only[Zc,simprocAttr,↓reduceIte,reduceCtorEq,implies_true,hy',hw,ht,hown,Int.ofNat_lt]|(with_reducible first|assumption|refine And.intro ?_ ?_)|(intro h;first|omega|exact tg h ‹_›|exact tg ‹_› h|skip))
   all_goals first|omega|skip
   all_goals try(first|(show(-9223372036854775808:Int)≤y.at_;omega)|(show y.at_≤(9223372036854775807:Int);omega))
   exact⟨⟨(j+1,fun t=>if t=y.name then some y.at_ else g' t,n'+1,sps'++[y]),hlt,hg,by simp only;omega,by simpa using hs,by simp only[List.length_append,List.length_cons,List.length_nil];omega⟩,(Ent.mk1 (fun n=>if n=4 then 12 else n) (by simp[Zt,hw])),by simp only;omega⟩
 ·have hk2:j=sp.length:=by omega
  subst hk2
  rw[List.drop_length]at hg hs
  simp only[E9]at hg
  have hs2:sps'=sps++Mn sp:=by simpa[Mn]using hs
  subst hs2
  subst hg
  repeat'(first|(first|refine Stp.h ?_)<;>try simp only[Zc,simprocAttr,↓reduceIte,reduceCtorEq,implies_true,Int.ofNat_lt]|(with_reducible first|assumption|refine And.intro ?_ ?_)|(intro h;first|omega|exact tg h ‹_›|exact tg ‹_› h|skip))
  all_goals first|omega|skip
  exact hQ _ n' (by omega) (Ent.mk1 (id) (by simp[Zt]))
def O1(s:List UInt8):List S1→Option SV
 | [.agg [.str t,.int .i64 _]]=>some (.one (.a (.bool (decide (t=s)))))
 |_=>none
theorem J8(R:List (Nat×Res))(nx m:Nat)(x:Ln)(hm:Zo (roR R) m=some (Res.rocells x.cells)):Zal Tryz.prog R nx 66 [m] (O1 x.ref):=by
 refine⟨Qc.enters,_,_,_,Qc.fn,fun args r hr=> ?_⟩
 unfold O1 at hr
 split at hr
 ·rename_i t n
  cases hr
  refine⟨by simp[Sf,S1.bd,At.bd],by simp[SV.bd,S1.bd,At.bd],by simp,fun w=> ?_⟩
  refine T.weak (S2:=⟨[(0,.one (.agg [.str t,.int .i64 n])),(1,.one (.a (.loc 0 0)))],[(0,.rocells x.cells)],1⟩) (Ent.mk1 (fun _=>m) (by simp[Zt,hm,Y2,Ln.cells])) ?_
  repeat'(first|(first|refine Stp.h ?_)<;>try simp only[Zc,simprocAttr,↓reduceIte,reduceCtorEq,implies_true]|(with_reducible first|assumption|refine And.intro ?_ ?_)|(intro h;first|omega|exact tg h ‹_›|exact tg ‹_› h|skip))
 ·cases hr
theorem Ac{own:Own}{u:Int}{sp:List Spot}{s:List UInt8}:Ab own u sp s=if Lb s=true then(if sp.any (fun y=>decide (y.name=s))=true then some u else none)else own s:=rfl
set_option maxHeartbeats 8000000 in
theorem Zbm{w:World}{X:List Nat}{fr:List Value}{Q:Exit→St→Prop}(l:List (List UInt8×List Ln))(own:Own)(i:Nat)(at_ u:Int)(us:List Int)(g:Own)(n:Nat)(sps sp:List Spot)(ls:List Ln)
 (hw0:∀x∈ls,U5 x=0)(hsl:sp.length≤40000)(hll:ls.length≤40000)(hus:us.length≤1000)
 (hQ:∀us' S',Rn own u sp ls us=some us'→Ent ⟨Tryz.prog,w,X,199,fr⟩ S' ⟨[(13,.one (.a (.int .i64 (i:Int)))),(12,.one (.a (.int .i64 at_))),(11,.one (.a (.loc 5 0))),(10,.one (.a (.loc 2 0))),(6,.one (.a (.ref 1))),(5,.one (.a (.loc 8 0))),(4,.one (.a (.loc 7 0))),(0,.one (.a (.ref 0)))],[(0,.rou l),(1,.smap Tryz.prog 9 3 (.int .i64) own 16000000),(2,.cells 81 [(.raw (.slice none 0 0)),.ref 3,.ref 4]),(3,.row 3 (.int .i64) us'),(4,.row 110 .spot sps),(5,.cells 102 [.ref 6]),(6,.smap Tryz.prog 9 3 (.int .i64) g n),(7,.cells 81 [(.raw (.slice none 0 0)),(.raw (.slice none 0 0)),(.raw (.slice none 0 0))]),(8,.cells 83 [.int .i64 0,.int .i64 0])],9⟩→Q (.exit 4) S')
 (hE:∀S',Rn own u sp ls us=none→Ent ⟨Tryz.prog,w,X,199,fr⟩ S' ⟨[(5,.one (.a (.loc 1 0))),(4,.one (.a (.loc 0 0)))],[(0,.cells 81 [(.raw (.slice none 0 0)),(.raw (.slice none 0 0)),(.raw (.slice none 0 0))]),(1,.cells 83 [.int .i64 6,.int .i64 u])],2⟩→Q .ret S'):
 T ⟨Tryz.prog,w,X,199,fr⟩ (.loop W6.c41) Q ⟨[(119,.one (.a (.int .i64 0))),(118,.one (.a (.int .i64 ls.length))),(117,.one (.a (.ref 10))),(14,.one (.a (.int .i64 u))),(15,.one (.a (.ref 9))),(13,.one (.a (.int .i64 (i:Int)))),(12,.one (.a (.int .i64 at_))),(11,.one (.a (.loc 5 0))),(10,.one (.a (.loc 2 0))),(6,.one (.a (.ref 1))),(5,.one (.a (.loc 8 0))),(4,.one (.a (.loc 7 0))),(0,.one (.a (.ref 0)))],[(0,.rou l),(1,.smap Tryz.prog 9 3 (.int .i64) own 16000000),(2,.cells 81 [(.raw (.slice none 0 0)),.ref 3,.ref 4]),(3,.row 3 (.int .i64) us),(4,.row 110 .spot sps),(5,.cells 102 [.ref 6]),(6,.smap Tryz.prog 9 3 (.int .i64) g n),(7,.cells 81 [(.raw (.slice none 0 0)),(.raw (.slice none 0 0)),(.raw (.slice none 0 0))]),(8,.cells 83 [.int .i64 0,.int .i64 0]),(9,.row 110 .spot sp),(10,.ro .line ls)],11⟩:=by
 refine T.loop (ι:= {p:Nat×List Int//p.1≤ls.length∧Rn own u sp (ls.drop p.1) p.2=Rn own u sp ls us∧p.2.length≤us.length+p.1})
  (fun x=>⟨[(119,.one (.a (.int .i64 (x.1.1:Int)))),(118,.one (.a (.int .i64 ls.length))),(117,.one (.a (.ref 10))),(14,.one (.a (.int .i64 u))),(15,.one (.a (.ref 9))),(13,.one (.a (.int .i64 (i:Int)))),(12,.one (.a (.int .i64 at_))),(11,.one (.a (.loc 5 0))),(10,.one (.a (.loc 2 0))),(6,.one (.a (.ref 1))),(5,.one (.a (.loc 8 0))),(4,.one (.a (.loc 7 0))),(0,.one (.a (.ref 0)))],[(0,.rou l),(1,.smap Tryz.prog 9 3 (.int .i64) own 16000000),(2,.cells 81 [(.raw (.slice none 0 0)),.ref 3,.ref 4]),(3,.row 3 (.int .i64) x.1.2),(4,.row 110 .spot sps),(5,.cells 102 [.ref 6]),(6,.smap Tryz.prog 9 3 (.int .i64) g n),(7,.cells 81 [(.raw (.slice none 0 0)),(.raw (.slice none 0 0)),(.raw (.slice none 0 0))]),(8,.cells 83 [.int .i64 0,.int .i64 0]),(9,.row 110 .spot sp),(10,.ro .line ls)],11⟩) (fun x=>ls.length-x.1.1) ⟨(0,us),by simp,by simp,by simp⟩ (Ent.mk1 (id) (by simp[Zt])) ?_
 rintro⟨⟨j,us'⟩,hj,hrun,hul⟩
 simp only at hj hrun hul
 by_cases hlt:j<ls.length
 ·have hdrop:ls.drop j=ls.getD j ln0::ls.drop (j+1):=by
   rw[List.drop_eq_getElem_cons hlt];simp[List.getD,hlt]
  have hmem:ls.getD j ln0∈ls:=by simp[List.getD,hlt]
  generalize hy:ls.getD j ln0=x at hdrop hmem
  have hy':ls.getD j (Kd.dflt .line)=x:=hy
  have hwx:=hw0 x hmem
  rw[hdrop]at hrun
  simp only[Rn]at hrun
  have hw:IntKind.i64.wrap ((j:Int)+1)=((j+1:Nat):Int):=Zx (by omega)
  have ht:((j:Int)).toNat=j:=by omega
  by_cases hrf:x.ref=[]
  ·rw[if_pos hrf]at hrun
   have hrfd:decide (x.ref=[])=true:=decide_eq_true hrf
   repeat'(first|(first|refine Stp.h ?_)<;>try simp only[Zc,simprocAttr,↓reduceIte,reduceCtorEq,implies_true,hy',hw,ht,hrfd,Int.ofNat_lt]|(with_reducible first|assumption|refine And.intro ?_ ?_)|(intro h;first|omega|exact tg h ‹_›|exact tg ‹_› h|skip))
   all_goals first|omega|skip
   exact⟨⟨(j+1,us'),hlt,hrun,by simp only;omega⟩,(Ent.mk1 (id) (by simp[Zt,hw])),by simp only;omega⟩
  rw[if_neg hrf]at hrun
  have hlb:x.label=[]:=Decidable.byContradiction fun h=>hrf (P5 hwx h).2.1
  have hxl:=O2 ((Mq hwx hlb).2 hrf).1
  have hgs:∀y∈sp,O1 x.ref [.agg [.str y.name,.int .i64 y.at_]]=some (.one (.a (.bool ((fun y:Spot=>decide (y.name=x.ref)) y)))):=fun y _=>rfl
  have hCF:=Ls sp (O1 x.ref) (fun y=>decide (y.name=x.ref)) hgs (by omega)
  rw[I4]at hCF
  have hCt:∀v,RdC Tryz.prog 67 [.ro (.int .i64) us',.v (.a (.int .i64 v))] (.one (.a (.bool (decide (v∈us'))))):=fun v=>Fv us' v (by omega)
  rw[Ac]at hrun
  cases hown:Lb x.ref with
  |true=>
   rw[if_pos hown]at hrun
   cases hany:sp.any (fun y=>decide (y.name=x.ref))with
   |true=>
    rw[if_pos hany]at hrun
    rw[hany]at hCF
    simp only at hrun
    by_cases hin:u∈us'
    ·rw[if_pos hin]at hrun
     repeat'(first|(first|refine Stp.h ?_|(refine rq (Xo x.ref hrf) ?_ ?_;focus simp[Zz];done)|((with_reducible first|apply Za.rd (hCt _)|apply Ze.rd (hCt _));focus((repeat'(first|exact rfl|exact trivial|refine And.intro ?_ ?_|(simp[Zz];done)));done))|(refine Za.gc hCF ?_ ?_;rotate_left))<;>try simp only[Zc,simprocAttr,↓reduceIte,reduceCtorEq,implies_true,hy',hw,ht,hrf,hown,hin,Int.ofNat_lt]|(with_reducible first|assumption|refine And.intro ?_ ?_)|(intro h;first|omega|exact tg h ‹_›|exact tg ‹_› h|skip))
     all_goals first|omega|skip
     ·exact⟨⟨(j+1,us'),hlt,hrun,by simp only;omega⟩,(Ent.mk1 (id) (by simp[Zt,hw])),by simp only;omega⟩
     ·exact⟨rfl,⟨rfl,⟨rfl,by simp,J8 _ _ _ x rfl⟩,trivial⟩,List.nodup_nil⟩
    ·rw[if_neg hin]at hrun
     repeat'(first|(first|refine Stp.h ?_|(refine rq (Xo x.ref hrf) ?_ ?_;focus simp[Zz];done)|((with_reducible first|apply Za.rd (hCt _)|apply Ze.rd (hCt _));focus((repeat'(first|exact rfl|exact trivial|refine And.intro ?_ ?_|(simp[Zz];done)));done))|(refine Za.gc hCF ?_ ?_;rotate_left))<;>try simp only[Zc,simprocAttr,↓reduceIte,reduceCtorEq,implies_true,hy',hw,ht,hrf,hown,hin,Int.ofNat_lt]|(with_reducible first|assumption|refine And.intro ?_ ?_)|(intro h;first|omega|exact tg h ‹_›|exact tg ‹_› h|skip))
     all_goals first|omega|skip
     ·exact⟨⟨(j+1,us'++[u]),hlt,hrun,by simp only[List.length_append,List.length_cons,List.length_nil];omega⟩,(Ent.mk1 (fun n=>if n=3 then 13 else n) (by simp[Zt,hw])),by simp only;omega⟩
     ·exact⟨rfl,⟨rfl,⟨rfl,by simp,J8 _ _ _ x rfl⟩,trivial⟩,List.nodup_nil⟩
   |false=>
    rw[if_neg (by rw[hany];decide)]at hrun
    rw[hany]at hCF
    simp only at hrun
    repeat'(first|(first|refine Stp.h ?_|(refine rq (Xo x.ref hrf) ?_ ?_;focus simp[Zz];done)|((with_reducible first|apply Za.rd (hCt _)|apply Ze.rd (hCt _));focus((repeat'(first|exact rfl|exact trivial|refine And.intro ?_ ?_|(simp[Zz];done)));done))|(refine Za.gc hCF ?_ ?_;rotate_left))<;>try simp only[Zc,simprocAttr,↓reduceIte,reduceCtorEq,implies_true,hy',hw,ht,hrf,hown,Int.ofNat_lt]|(with_reducible first|assumption|refine And.intro ?_ ?_)|(intro h;first|omega|exact tg h ‹_›|exact tg ‹_› h|skip))
    all_goals first|omega|skip
    ·exact hE _ hrun.symm (Ent.mk1 (fun n=>n+7) (by simp[Zt]))
    ·exact⟨rfl,⟨rfl,⟨rfl,by simp,J8 _ _ _ x rfl⟩,trivial⟩,List.nodup_nil⟩
  |false=>
   rw[if_neg (by rw[hown];decide)]at hrun
   cases hox:own x.ref with
   |some v=>
    rw[hox]at hrun
    simp only at hrun
    by_cases hin:v∈us'
    ·rw[if_pos hin]at hrun
     repeat'(first|(first|refine Stp.h ?_|(refine rq (Xo x.ref hrf) ?_ ?_;focus simp[Zz];done)|((with_reducible first|apply Za.rd (hCt _)|apply Ze.rd (hCt _));focus((repeat'(first|exact rfl|exact trivial|refine And.intro ?_ ?_|(simp[Zz];done)));done)))<;>try simp only[Zc,simprocAttr,↓reduceIte,reduceCtorEq,implies_true,hy',hw,ht,hrf,hown,hin,hox,Int.ofNat_lt]|(with_reducible first|assumption|refine And.intro ?_ ?_)|(intro h;first|omega|exact tg h ‹_›|exact tg ‹_› h|skip))
     all_goals first|omega|skip
     ·exact⟨⟨(j+1,us'),hlt,hrun,by simp only;omega⟩,(Ent.mk1 (id) (by simp[Zt,hw])),by simp only;omega⟩
    ·rw[if_neg hin]at hrun
     repeat'(first|(first|refine Stp.h ?_|(refine rq (Xo x.ref hrf) ?_ ?_;focus simp[Zz];done)|((with_reducible first|apply Za.rd (hCt _)|apply Ze.rd (hCt _));focus((repeat'(first|exact rfl|exact trivial|refine And.intro ?_ ?_|(simp[Zz];done)));done)))<;>try simp only[Zc,simprocAttr,↓reduceIte,reduceCtorEq,implies_true,hy',hw,ht,hrf,hown,hin,hox,Int.ofNat_lt]|(with_reducible first|assumption|refine And.intro ?_ ?_)|(intro h;first|omega|exact tg h ‹_›|exact tg ‹_› h|skip))
     all_goals first|omega|skip
     ·exact⟨⟨(j+1,us'++[v]),hlt,hrun,by simp only[List.length_append,List.length_cons,List.length_nil];omega⟩,(Ent.mk1 (fun n=>if n=3 then 13 else n) (by simp[Zt,hw])),by simp only;omega⟩
   |none=>
    rw[hox]at hrun
    simp only at hrun
    repeat'(first|(first|refine Stp.h ?_|(refine rq (Xo x.ref hrf) ?_ ?_;focus simp[Zz];done)|((with_reducible first|apply Za.rd (hCt _)|apply Ze.rd (hCt _));focus((repeat'(first|exact rfl|exact trivial|refine And.intro ?_ ?_|(simp[Zz];done)));done)))<;>try simp only[Zc,simprocAttr,↓reduceIte,reduceCtorEq,implies_true,hy',hw,ht,hrf,hown,hox,Int.ofNat_lt]|(with_reducible first|assumption|refine And.intro ?_ ?_)|(intro h;first|omega|exact tg h ‹_›|exact tg ‹_› h|skip))
    all_goals first|omega|skip
    ·exact hE _ hrun.symm (Ent.mk1 (fun n=>n+7) (by simp[Zt]))
 ·have hk2:j=ls.length:=by omega
  subst hk2
  rw[List.drop_length]at hrun
  simp only[Rn]at hrun
  repeat'(first|(first|refine Stp.h ?_)<;>try simp only[Zc,simprocAttr,↓reduceIte,reduceCtorEq,implies_true,Int.ofNat_lt]|(with_reducible first|assumption|refine And.intro ?_ ?_)|(intro h;first|omega|exact tg h ‹_›|exact tg ‹_› h|skip))
  all_goals first|omega|skip
  exact hQ us' _ hrun.symm (Ent.mk1 (id) (by simp[Zt]))
theorem So:∀(l:List Ln) (k:Nat) (a:Int) (seen:List (List UInt8)) (acc:List Spot),(Ww l k a seen acc).2.2.1=0→∀x∈l,U5 x=0
 | [],_,_,_,_,_,x,hx=>nomatch hx
 |y::l,k,a,seen,acc,h,x,hx=>by
  unfold Ww at h
  split at h
  ·rename_i h1;exact absurd h h1
  ·rename_i h1
   have hy:U5 y=0:=by simpa using h1
   rcases List.mem_cons.1 hx with rfl|hx
   ·exact hy
   ·split at h
    ·split at h
     ·exact absurd h (by simp)
     ·exact So l _ _ _ _ h x hx
    ·split at h
     ·exact absurd h (by simp)
     ·exact So l _ _ _ _ h x hx
theorem Py{u:Int}{n:Nat}:∀ {sp:List Spot} {f f':Own},U0 u sp f=some f'→(0≤u∧u<n)→(∀s v,f s=some v→0≤v∧v<n)→∀s v,f' s=some v→0≤v∧v<n
 | [],f,f',h,hu,hf=>by cases h;exact hf
 |y::sp,f,f',h,hu,hf=>by
  simp only[U0]at h
  split at h
  ·exact Py h hu hf
  ·split at h
   ·cases h
   ·refine Py h hu fun s v hv=> ?_
    split at hv
    ·cases hv;exact hu
    ·exact hf s v hv
theorem K1{N:Nat}:∀(l:List (List UInt8×List Ln)) (k:Nat) (f:Own),(Ur l k f).2.1=0→k+l.length≤N→(∀s v,f s=some v→0≤v∧v<N)→
 (∀u∈l,u.2.length≤40000∧(Yb u.2 0).2.2.1=0)∧∀s v,(Ur l k f).1 s=some v→0≤v∧v<N
 | [],k,f,h,hk,hf=>⟨(fun u hu=>nomatch hu),hf⟩
 |x::l,k,f,h,hk,hf=>by
  unfold Ur at h ⊢
  simp only[List.length_cons]at hk
  split at h
  ·simp at h
  ·rename_i h1
   split at h
   ·rename_i h2;exact absurd h h2
   ·rename_i h2
    rw[if_neg h1,if_neg h2]
    split at h
    ·simp at h
    ·rename_i f' hf'
     obtain⟨g1,g2⟩:=K1 l (k+1) f' h (by omega) (Py hf' ⟨by omega,by omega⟩ hf)
     refine⟨fun u hu=> ?_,by simpa[hf']using g2⟩
     rcases List.mem_cons.1 hu with rfl|hu
     ·exact⟨by omega,by simpa using h2⟩
     ·exact g1 u hu
theorem Ci{l:List (List UInt8×List Ln)}(h:(Z8 l).2.1=0):l.length≤400∧(∀u∈l,u.2.length≤40000∧(Yb u.2 0).2.2.1=0)∧∀s v,(Z8 l).1 s=some v→0≤v∧v<l.length:=by
 unfold Z8 at h ⊢
 split at h
 ·simp at h
 ·rename_i hl
  rw[if_neg hl]
  exact⟨by omega,K1 l 0 Sl h (by omega) (fun s v hv=>by cases hv)⟩
def Zaq(N:Nat)(us:List Int):Prop:=us.Nodup∧∀v∈us,0≤v∧v<N
theorem Le{own:Own}{u:Int}{sp:List Spot}{N:Nat}(hu:0≤u∧u<N)(ho:∀s v,own s=some v→0≤v∧v<N):∀ {ls:List Ln} {us us':List Int},Rn own u sp ls us=some us'→Zaq N us→Zaq N us'∧us.length≤us'.length
 | [],us,us',h,hus=>by cases h;exact⟨hus,Nat.le_refl _⟩
 |x::ls,us,us',h,hus=>by
  simp only[Rn]at h
  split at h
  ·exact Le hu ho h hus
  ·split at h
   ·cases h
   ·rename_i n hn
    have hr:0≤n∧n<N:=by
     unfold Ab at hn
     split at hn
     ·split at hn
      ·cases hn;exact hu
      ·cases hn
     ·exact ho _ _ hn
    split at h
    ·exact Le hu ho h hus
    ·rename_i hni
     have:=Le hu ho h (us:=us++[n]) ⟨List.nodup_append.2 ⟨hus.1,by simp,fun a ha b hb e=>by simp only[List.mem_singleton]at hb;subst hb;subst e;exact hni ha⟩,fun v hv=>by
      rcases List.mem_append.1 hv with hv|hv
      ·exact hus.2 v hv
      ·simp only[List.mem_singleton]at hv;subst hv;exact hr⟩
     refine⟨this.1,?_⟩
     have h2:=this.2
     simp only[List.length_append,List.length_cons,List.length_nil]at h2;omega
theorem nodup_range:∀(N:Nat) (us:List Int),Zaq N us→us.length≤N
 |0,us,h=>by
  cases us with
  |nil=>exact Nat.le_refl _
  |cons x us=>have:=h.2 x (by simp);omega
 |N+1,us,h=>by
  have h1:=nodup_range N (us.erase (N:Int)) ⟨h.1.erase _,fun v hv=>by
   have h2:=h.2 v (List.mem_of_mem_erase hv)
   have h3:v≠(N:Int):=fun e=>by rw[e]at hv;exact(List.Nodup.not_mem_erase h.1) hv
   omega⟩
  have h2:us.length≤(us.erase (N:Int)).length+1:=by rw[List.length_erase];split<;>omega
  omega
def lk1(l:List (List UInt8×List Ln))(own:Own):Nat→Nat→List Int→Int→Own→List Spot→(List Int×Own×List Spot)×Int×Int
 |0,_,_,_,_,_=>(([],Sl,[]),99,0)
 |f+1,i,us,at_,g,sps=>if us.length≤i then((us,g,sps),0,0)else
   if(Yb (l.getD (us.getD i 0).toNat Nr).2 at_).2.2.1≠0 then(([],Sl,[]),(Yb (l.getD (us.getD i 0).toNat Nr).2 at_).2.2.1,us.getD i 0)else
   match Rn own (us.getD i 0) (Yb (l.getD (us.getD i 0).toNat Nr).2 at_).1 (l.getD (us.getD i 0).toNat Nr).2 us with
   |none=>(([],Sl,[]),6,us.getD i 0)
   |some us'=>lk1 l own f (i+1) us' (Yb (l.getD (us.getD i 0).toNat Nr).2 at_).2.1 (E9 (Yb (l.getD (us.getD i 0).toNat Nr).2 at_).1 g) (sps++Mn (Yb (l.getD (us.getD i 0).toNat Nr).2 at_).1)
set_option maxHeartbeats 8000000 in
theorem Zf5{w:World}{X:List Nat}{fr:List Value}{Q:Exit→St→Prop}(l:List (List UInt8×List Ln))(own:Own)(us0:List Int)(RES:(List Int×Own×List Spot)×Int×Int)
 (hl:l.length≤400)(hu:∀u∈l,u.2.length≤40000∧(Yb u.2 0).2.2.1=0)(ho:∀s v,own s=some v→0≤v∧v<l.length)(hus0:Zaq l.length us0)(hres:lk1 l own 402 0 us0 0 Sl []=RES)
 (hQ:RES.2.1=0→∀S' i at_ n,Zaq l.length RES.1.1→RES.1.2.2.length≤40000*400→Ent ⟨Tryz.prog,w,X,199,fr⟩ S' ⟨[(13,.one (.a (.int .i64 i))),(12,.one (.a (.int .i64 at_))),(11,.one (.a (.loc 5 0))),(10,.one (.a (.loc 2 0))),(6,.one (.a (.ref 1))),(5,.one (.a (.loc 8 0))),(4,.one (.a (.loc 7 0))),(0,.one (.a (.ref 0)))],[(0,.rou l),(1,.smap Tryz.prog 9 3 (.int .i64) own 16000000),(2,.cells 81 [(.raw (.slice none 0 0)),.ref 3,.ref 4]),(3,.row 3 (.int .i64) RES.1.1),(4,.row 110 .spot RES.1.2.2),(5,.cells 102 [.ref 6]),(6,.smap Tryz.prog 9 3 (.int .i64) RES.1.2.1 n),(7,.cells 81 [(.raw (.slice none 0 0)),(.raw (.slice none 0 0)),(.raw (.slice none 0 0))]),(8,.cells 83 [.int .i64 0,.int .i64 0])],9⟩→Q (.exit 0) S')
 (hE:RES.2.1≠0→∀S',Ent ⟨Tryz.prog,w,X,199,fr⟩ S' ⟨[(5,.one (.a (.loc 1 0))),(4,.one (.a (.loc 0 0)))],[(0,.cells 81 [(.raw (.slice none 0 0)),(.raw (.slice none 0 0)),(.raw (.slice none 0 0))]),(1,.cells 83 [.int .i64 RES.2.1,.int .i64 RES.2.2])],2⟩→Q .ret S'):
 T ⟨Tryz.prog,w,X,199,fr⟩ (.loop W6.c52) Q ⟨[(13,.one (.a (.int .i64 0))),(12,.one (.a (.int .i64 0))),(11,.one (.a (.loc 5 0))),(10,.one (.a (.loc 2 0))),(6,.one (.a (.ref 1))),(5,.one (.a (.loc 8 0))),(4,.one (.a (.loc 7 0))),(0,.one (.a (.ref 0)))],[(0,.rou l),(1,.smap Tryz.prog 9 3 (.int .i64) own 16000000),(2,.cells 81 [(.raw (.slice none 0 0)),.ref 3,.ref 4]),(3,.row 3 (.int .i64) us0),(4,.row 110 .spot []),(5,.cells 102 [.ref 6]),(6,.smap Tryz.prog 9 3 (.int .i64) Sl 0),(7,.cells 81 [(.raw (.slice none 0 0)),(.raw (.slice none 0 0)),(.raw (.slice none 0 0))]),(8,.cells 83 [.int .i64 0,.int .i64 0])],9⟩:=by
 refine T.loop (ι:= {p:Nat×List Int×Int×Own×Nat×List Spot//p.1≤p.2.1.length∧Zaq l.length p.2.1∧(0≤p.2.2.1∧p.2.2.1≤65536)∧p.2.2.2.2.1≤40000*p.1∧p.2.2.2.2.2.length≤40000*p.1∧lk1 l own (402-p.1) p.1 p.2.1 p.2.2.1 p.2.2.2.1 p.2.2.2.2.2=RES})
  (fun x=>⟨[(13,.one (.a (.int .i64 (x.1.1:Int)))),(12,.one (.a (.int .i64 x.1.2.2.1))),(11,.one (.a (.loc 5 0))),(10,.one (.a (.loc 2 0))),(6,.one (.a (.ref 1))),(5,.one (.a (.loc 8 0))),(4,.one (.a (.loc 7 0))),(0,.one (.a (.ref 0)))],[(0,.rou l),(1,.smap Tryz.prog 9 3 (.int .i64) own 16000000),(2,.cells 81 [(.raw (.slice none 0 0)),.ref 3,.ref 4]),(3,.row 3 (.int .i64) x.1.2.1),(4,.row 110 .spot x.1.2.2.2.2.2),(5,.cells 102 [.ref 6]),(6,.smap Tryz.prog 9 3 (.int .i64) x.1.2.2.2.1 x.1.2.2.2.2.1),(7,.cells 81 [(.raw (.slice none 0 0)),(.raw (.slice none 0 0)),(.raw (.slice none 0 0))]),(8,.cells 83 [.int .i64 0,.int .i64 0])],9⟩) (fun x=>l.length-x.1.1) ⟨(0,us0,0,Sl,0,[]),by simp,hus0,by simp,by simp,by simp,hres⟩ (Ent.mk1 (id) (by simp[Zt,E6])) ?_
 rintro⟨⟨i,us,at_,g,n,sps⟩,hi,hus,⟨ha0,ha1⟩,hn,hsps,hrun⟩
 simp only at hi hus ha0 ha1 hn hsps hrun
 have hul:=nodup_range _ _ hus
 obtain⟨f,hf⟩:∃f,402-i=f+1:=⟨401-i,by omega⟩
 rw[hf]at hrun
 simp only[lk1]at hrun
 by_cases hlt:i<us.length
 ·rw[if_neg (by omega)]at hrun
  have hmem:us.getD i 0∈us:=by simp[List.getD,hlt]
  generalize hx:us.getD i 0=u at hrun hmem
  have hx':us.getD i (Kd.dflt (.int .i64))=u:=hx
  have hur:=hus.2 u hmem
  have humem:l.getD u.toNat Nr∈l:=by
   have:u.toNat<l.length:=by omega
   simp[List.getD,this]
  generalize hU:l.getD u.toNat Nr=U at hrun humem
  have hU':l.getD u.toNat ([],[])=U:=hU
  obtain⟨hUl,hU0⟩:=hu U humem
  have hwr:=So U.2 0 0 [] [] hU0
  obtain⟨hsok,hslen,he0,he1⟩:=H8 U.2 at_ ha0 ha1
  have hSp:=Nd U.2 at_ hUl ha0 ha1
  have hw:IntKind.i64.wrap ((i:Int)+1)=((i+1:Nat):Int):=Zx (by omega)
  have ht:((i:Int)).toNat=i:=by omega
  by_cases hsp:(Yb U.2 at_).2.2.1=0
  ·rw[if_neg (by simpa using hsp)]at hrun
   generalize hsp1:(Yb U.2 at_).1=sp at hrun hsok hslen hSp
   generalize hend:(Yb U.2 at_).2.1=end_ at hrun hSp he0 he1
   repeat'(first|(first|refine Stp.h ?_|(refine Za.rw hSp ?_ ?_;(focus(((repeat'(first|exact rfl|exact trivial|refine And.intro ?_ ?_|(simp[Zz];done))));done))))<;>try simp only[Zc,simprocAttr,↓reduceIte,reduceCtorEq,implies_true,hx',hU',hw,ht,hsp,Int.ofNat_lt]|(with_reducible first|assumption|refine And.intro ?_ ?_)|(intro h;first|omega|exact tg h ‹_›|exact tg ‹_› h|skip))
   all_goals first|omega|skip
   refine T.weak (Ent.mk1 (fun n=>if n=9 then 10 else n) (by simp[Zt])) (Zbl l own i at_ u end_ us g n sps sp hsok (by omega) hn hsps (by omega) fun S1 n' hn' he=> ?_)
   simp only[Zc,simprocAttr,↓reduceIte,reduceCtorEq,implies_true]
   refine T.weak he ?_
   repeat'(first|(first|refine Stp.h ?_)<;>try simp only[Zc,simprocAttr,↓reduceIte,reduceCtorEq,implies_true,hU',hw,Int.ofNat_lt]|(with_reducible first|assumption|refine And.intro ?_ ?_)|(intro h;first|omega|exact tg h ‹_›|exact tg ‹_› h|skip))
   all_goals first|omega|skip
   refine T.weak (Ent.mk1 (id) (by simp[Zt])) (Zbm l own i end_ u us (E9 sp g) n' (sps++Mn sp) sp U.2 hwr (by omega) hUl (by omega) (fun us' S2 hr he2=> ?_) fun S2 hr he2=> ?_)
   ·rw[hr]at hrun
    simp only at hrun
    obtain⟨hus2,hul2⟩:=Le hur ho hr hus
    simp only[Zc,simprocAttr,↓reduceIte,reduceCtorEq,implies_true]
    refine T.weak he2 ?_
    repeat'(first|(first|refine Stp.h ?_)<;>try simp only[Zc,simprocAttr,↓reduceIte,reduceCtorEq,implies_true,hw,Int.ofNat_lt]|(with_reducible first|assumption|refine And.intro ?_ ?_)|(intro h;first|omega|exact tg h ‹_›|exact tg ‹_› h|skip))
    all_goals first|omega|skip
    have hvl:(Mn sp).length≤sp.length:=List.length_filter_le _ _
    refine⟨⟨(i+1,us',end_,E9 sp g,n',sps++Mn sp),by simp only;omega,hus2,⟨he0,he1⟩,hn',by simp only[List.length_append];omega,?_⟩,(Ent.mk1 (id) (by simp[Zt,hw])),by simp only;omega⟩
    have:402-(i+1)=f:=by omega
    simp only[this]
    exact hrun
   ·rw[hr]at hrun
    simp only at hrun
    have hE2:=hE (by rw[←hrun];simp)
    rw[←hrun]at hE2
    simp only at hE2
    simp only[Zc,simprocAttr,↓reduceIte,reduceCtorEq,implies_true]
    exact hE2 _ he2
  ·rw[if_pos (by simpa using hsp)]at hrun
   have hE2:=hE (by rw[←hrun];simpa using hsp)
   rw[←hrun]at hE2
   simp only at hE2
   repeat'(first|(first|refine Stp.h ?_|(refine Za.rw hSp ?_ ?_;(focus(((repeat'(first|exact rfl|exact trivial|refine And.intro ?_ ?_|(simp[Zz];done))));done))))<;>try simp only[Zc,simprocAttr,↓reduceIte,reduceCtorEq,implies_true,hx',hU',hw,ht,hsp,Int.ofNat_lt]|(with_reducible first|assumption|refine And.intro ?_ ?_)|(intro h;first|omega|exact tg h ‹_›|exact tg ‹_› h|skip))
   all_goals first|omega|exact hE2 _ (Ent.mk1 (fun n=>n+7) (by simp[Zt]))|skip
 ·rw[if_pos (by omega)]at hrun
  subst hrun
  repeat'(first|(first|refine Stp.h ?_)<;>try simp only[Zc,simprocAttr,↓reduceIte,reduceCtorEq,implies_true,Int.ofNat_lt]|(with_reducible first|assumption|refine And.intro ?_ ?_)|(intro h;first|omega|exact tg h ‹_›|exact tg ‹_› h|skip))
  all_goals first|omega|skip
  exact hQ rfl _ (i:Int) at_ n hus (by simp only;omega) (Ent.mk1 (id) (by simp[Zt]))
def Gl(g:Own)(sp:List Spot)(s:List UInt8):Int×Bool:=if Lb s=true then((sp.getD (Rw (fun y=>decide (y.name=s)) sp 0).toNat O7).at_,true)else((g s).getD (0:Int),true)
def kn2(g:Own)(sp:List Spot):List S1→Option SV
 | [.a (.str s)]=>if s≠[]∧s.length≤32∧(Lb s=true→sp.any (fun y=>decide (y.name=s))=true)then some (.tup [.a (.int .i64 (Gl g sp s).1),.a (.bool (Gl g sp s).2)])else none
 |_=>none
theorem Zfg(R:List (Nat×Res))(nx m:Nat)(s:List UInt8)(hm:Zo (roR R) m=some (Res.rocells [.str s])):Zal Tryz.prog R nx 71 [m] (O1 s):=by
 refine⟨T1.enters,_,_,_,T1.fn,fun args r hr=> ?_⟩
 unfold O1 at hr
 split at hr
 ·rename_i t n
  cases hr
  refine⟨by simp[Sf,S1.bd,At.bd],by simp[SV.bd,S1.bd,At.bd],by simp,fun w=> ?_⟩
  refine T.weak (S2:=⟨[(0,.one (.agg [.str t,.int .i64 n])),(1,.one (.a (.loc 0 0)))],[(0,.rocells [.str s])],1⟩) (Ent.mk1 (fun _=>m) (by simp[Zt,hm,Y2])) ?_
  repeat'(first|(first|refine Stp.h ?_)<;>try simp only[Zc,simprocAttr,↓reduceIte,reduceCtorEq,implies_true]|(with_reducible first|assumption|refine And.intro ?_ ?_)|(intro h;first|omega|exact tg h ‹_›|exact tg ‹_› h|skip))
 ·cases hr
theorem Ba{α:Type}(p:α→Bool):∀(l:List α) (k:Nat),l.any p=true→(k:Int)≤Rw p l k∧Rw p l k<k+l.length
 | [],k,h=>by simp at h
 |x::l,k,h=>by
  simp only[Rw,List.length_cons]
  by_cases hp:p x=true
  ·rw[if_pos hp];omega
  ·rw[if_neg hp]
   have:=Ba p l (k+1) (by simpa[hp]using h)
   omega
set_option maxHeartbeats 4000000 in
theorem Zhe(R:List (Nat×Res))(nx mg q ms r:Nat)(g:Own)(n:Nat)(sp:List Spot)(hsl:sp.length≤40000)(h1:Zo (roR R) mg=some (Res.rocells [.ref q]))(h2:Zo (roR R) q=some (Res.rosmap Tryz.prog 9 3 (.int .i64) g n))
 (h3:Zo (roR R) ms=some (Res.rocells [.ref r]))(h4:Zo (roR R) r=some (Res.ro .spot sp))(hne:[mg,q,ms,r].Nodup):Zal Tryz.prog R nx 69 [mg,ms] (kn2 g sp):=by
 refine⟨Qd.enters,_,_,_,Qd.fn,fun args res hr=> ?_⟩
 unfold kn2 at hr
 split at hr
 ·rename_i s
  split at hr
  ·rename_i hs
   cases hr
   obtain⟨hs1,hs2,hs3⟩:=hs
   simp only[List.nodup_cons,List.mem_cons,List.not_mem_nil,or_false,not_or,List.nodup_nil,and_true,not_false_eq_true]at hne
   obtain⟨⟨n1,n2,n3⟩,⟨n4,n5⟩,n6⟩:=hne
   refine⟨by simp[Sf,S1.bd,At.bd],by simp[SV.bd,S1.bd,At.bd],by simp,fun w=> ?_⟩
   refine T.weak (S2:=⟨[(0,.one (.a (.str s))),(1,.one (.a (.loc 0 0))),(2,.one (.a (.loc 2 0)))],[(0,.rocells [.ref 1]),(1,.rosmap Tryz.prog 9 3 (.int .i64) g n),(2,.rocells [.ref 3]),(3,.ro .spot sp)],4⟩)
    (Ent.mk1 (fun k=>if k=0 then mg else if k=1 then q else if k=2 then ms else r) (by simp[Zt,h1,h2,h3,h4,Y2,n1,n2,n3,n4,n5,n6])) ?_
   have hsl2:s.length≤9223372036854775807:=by omega
   have hgs:∀y∈sp,O1 s [.agg [.str y.name,.int .i64 y.at_]]=some (.one (.a (.bool ((fun y:Spot=>decide (y.name=s)) y)))):=fun y _=>rfl
   have hIF:=Nv sp (O1 s) (fun y=>decide (y.name=s)) hgs (by omega)
   cases hown:Lb s with
   |true=>
    have hr:=Ba (fun y:Spot=>decide (y.name=s)) sp 0 (hs3 hown)
    generalize hI:Rw (fun y:Spot=>decide (y.name=s)) sp 0=I at hIF hr
    have hI2:sp.getD I.toNat (Kd.dflt .spot)=sp.getD I.toNat O7:=rfl
    repeat'(first|(first|refine Stp.h ?_|(refine rq (Xo s hs1) ?_ ?_;focus simp[Zz];done)|(refine Za.gc hIF ?_ ?_;rotate_left))<;>try simp only[Zc,simprocAttr,↓reduceIte,reduceCtorEq,implies_true,hown,hI2]|(with_reducible first|assumption|refine And.intro ?_ ?_)|(intro h;first|omega|exact tg h ‹_›|exact tg ‹_› h|skip))
    all_goals first|omega|skip
    ·unfold Gl;rw[if_pos hown,hI]
    ·exact⟨rfl,⟨rfl,⟨rfl,by simp,Zfg _ _ _ s rfl⟩,trivial⟩,List.nodup_nil⟩
   |false=>
    have hd:(g s).getD (Kd.dflt (.int .i64))=(g s).getD 0:=rfl
    repeat'(first|(first|refine Stp.h ?_|(refine rq (Xo s hs1) ?_ ?_;focus simp[Zz];done))<;>try simp only[Zc,simprocAttr,↓reduceIte,reduceCtorEq,implies_true,hown,hd]|(with_reducible first|assumption|refine And.intro ?_ ?_)|(intro h;first|omega|exact tg h ‹_›|exact tg ‹_› h|skip))
    all_goals first|omega|skip
    unfold Gl;rw[if_neg (by rw[hown];decide)]
  ·cases hr
 ·cases hr
def N0:List Ln→Int
 | []=>0
 |x::l=>Oy x+N0 l
def Nk(l:List Ln):List (List UInt8):=(l.filter fun x=>decide (x.label≠[])).map Ln.label
theorem Ml:∀(l:List Ln) (k:Nat) (a:Int) (seen:List (List UInt8)) (acc:List Spot),(Ww l k a seen acc).2.2.1=0→(Ww l k a seen acc).2.1=a+N0 l∧(Ww l k a seen acc).1.map Spot.name=acc.map Spot.name++Nk l
 | [],k,a,seen,acc,h=>by simp[Ww,N0,Nk]
 |x::l,k,a,seen,acc,h=>by
  unfold Ww at h ⊢
  split at h
  ·rename_i h1;exact absurd h h1
  ·rename_i h1
   rw[if_neg h1]
   split at h
   ·rename_i hl
    rw[if_pos hl]
    split at h
    ·exact absurd h (by simp)
    ·rename_i hs
     rw[if_neg hs]
     obtain⟨g1,g2⟩:=Ml l _ _ _ _ h
     refine⟨by rw[g1,N0,Bj hl];omega,?_⟩
     rw[g2];simp[Nk,hl]
   ·rename_i hl
    rw[if_neg hl]
    split at h
    ·exact absurd h (by simp)
    ·rename_i hs
     rw[if_neg hs]
     obtain⟨g1,g2⟩:=Ml l _ _ _ _ h
     refine⟨by rw[g1,N0];omega,?_⟩
     rw[g2]
     have hl':x.label=[]:=by simpa using hl
     simp[Nk,hl']
theorem Fo{l:List Ln}{a:Int}(h:(Yb l a).2.2.1=0):(Yb l a).2.1=a+N0 l∧(Yb l a).1.map Spot.name=Nk l:=by
 have:=Ml l 0 a [] [] h
 simpa[Yb]using this
theorem Gu(sp:List Spot)(s:List UInt8):sp.any (fun y=>decide (y.name=s))=decide (s∈sp.map Spot.name):=by
 rw[Bool.eq_iff_iff];simp
@[reducible] def Oj:Type:=List (List UInt8×List Ln)
def Yu(l:Oj)(u:Int):List Ln:=(l.getD u.toNat Nr).2
def Nq(l:Oj):List Int→Nat→Int
 | [],_=>0
 |_,0=>0
 |u::us,k+1=>N0 (Yu l u)+Nq l us k
theorem R7(l:Oj):∀(us vs:List Int) (k:Nat),k≤us.length→Nq l (us++vs) k=Nq l us k
 | [],vs,k,h=>by
   have:k=0:=by simpa using h
   subst this
   cases vs<;>rfl
 |u::us,vs,0,h=>rfl
 |u::us,vs,k+1,h=>by simp only[List.cons_append,Nq,R7 l us vs k (by simpa using h)]
theorem Ka(l:Oj):∀(us:List Int) (k:Nat),k<us.length→Nq l us (k+1)=Nq l us k+N0 (Yu l (us.getD k 0))
 |u::us,0,h=>by cases us<;>simp[Nq]
 |u::us,k+1,h=>by
  have:=Ka l us k (by simpa using h)
  have e1:Nq l (u::us) (k+1+1)=N0 (Yu l u)+Nq l us (k+1):=rfl
  have e2:Nq l (u::us) (k+1)=N0 (Yu l u)+Nq l us k:=rfl
  rw[e1,e2,this]
  simp only[List.getD_cons_succ];omega
def Nu(l:Oj)(own:Own)(us:List Int)(k:Nat):Prop:=
 (Yb (Yu l (us.getD k 0)) (Nq l us k)).2.2.1=0∧∀x∈Yu l (us.getD k 0),x.ref≠[]→if Lb x.ref=true then x.ref∈Nk (Yu l (us.getD k 0))else∃v,own x.ref=some v∧v∈us
theorem U2{own:Own}{u:Int}{sp:List Spot}:∀ {ls:List Ln} {us us':List Int},Rn own u sp ls us=some us'→∃vs,us'=us++vs
 | [],us,us',h=>by cases h;exact⟨[],by simp⟩
 |x::ls,us,us',h=>by
  simp only[Rn]at h
  split at h
  ·exact U2 h
  ·split at h
   ·cases h
   ·split at h
    ·exact U2 h
    ·obtain⟨vs,rfl⟩:=U2 h
     exact⟨[_]++vs,List.append_assoc _ _ _⟩
theorem Kf{own:Own}{u:Int}{sp:List Spot}:∀ {ls:List Ln} {us us':List Int},Rn own u sp ls us=some us'→∀x∈ls,x.ref≠[]→∃v,Ab own u sp x.ref=some v∧v∈us'
 |y::ls,us,us',h,x,hx,hr=>by
  simp only[Rn]at h
  by_cases hy:y.ref=[]
  ·rw[if_pos hy]at h
   rcases List.mem_cons.1 hx with rfl|hx
   ·exact absurd hy hr
   ·exact Kf h x hx hr
  ·rw[if_neg hy]at h
   split at h
   ·cases h
   ·rename_i v hv
    rcases List.mem_cons.1 hx with rfl|hx
    ·refine⟨v,hv,?_⟩
     obtain⟨vs,rfl⟩:=U2 h
     split
     ·exact List.mem_append_left _ (by assumption)
     ·simp
    ·exact Kf h x hx hr
theorem Nu.mono{l:Oj}{own:Own}{us:List Int}{k:Nat}(h:Nu l own us k)(hk:k<us.length)(vs:List Int):Nu l own (us++vs) k:=by
 unfold Nu at h ⊢
 have e1:(us++vs).getD k 0=us.getD k 0:=by simp[List.getD,List.getElem?_append_left hk]
 rw[e1,R7 l us vs k (by omega)]
 refine⟨h.1,fun x hx hr=> ?_⟩
 have:=h.2 x hx hr
 split
 ·rename_i ho;rwa [if_pos ho]at this
 ·rename_i ho
  rw[if_neg ho]at this
  obtain⟨v,h1,h2⟩:=this
  exact⟨v,h1,List.mem_append_left _ h2⟩
theorem Bh{l:Oj}{own:Own}:∀(f i:Nat) (us:List Int) (at_:Int) (g:Own) (sps:List Spot),(lk1 l own f i us at_ g sps).2.1=0→i≤us.length→at_=Nq l us i→(∀k,k<i→Nu l own us k)→
 (∀k,k<(lk1 l own f i us at_ g sps).1.1.length→Nu l own (lk1 l own f i us at_ g sps).1.1 k)∧∃vs,(lk1 l own f i us at_ g sps).1.1=us++vs
 |0,i,us,at_,g,sps,h,_,_,_=>by simp[lk1]at h
 |f+1,i,us,at_,g,sps,h,hi,ha,hg=>by
  unfold lk1 at h ⊢
  split at h
  ·rename_i h1
   rw[if_pos h1]
   exact⟨fun k hk=>hg k (by simp only at hk;omega),[],by simp⟩
  ·rename_i h1
   rw[if_neg h1]
   split at h
   ·rename_i h2;exact absurd h h2
   ·rename_i h2
    rw[if_neg h2]
    split at h
    ·simp at h
    ·rename_i us' hus'
     obtain⟨vs,rfl⟩:=U2 hus'
     have hlt:i<us.length:=by omega
     have hsp:(Yb (l.getD (us.getD i 0).toNat Nr).2 at_).2.2.1=0:=by simpa using h2
     obtain⟨hend,hnm⟩:=Fo hsp
     have hgi:Nu l own (us++vs) i:=by
      unfold Nu
      have e1:(us++vs).getD i 0=us.getD i 0:=by simp[List.getD,List.getElem?_append_left hlt]
      rw[e1,R7 l us vs i (by omega),←ha]
      refine⟨hsp,fun x hx hr=> ?_⟩
      obtain⟨v,h3,h4⟩:=Kf hus' x hx hr
      unfold Ab at h3
      split
      ·rename_i ho
       rw[if_pos ho]at h3
       split at h3
       ·rename_i h5
        rw[Gu,hnm]at h5
        simpa[Yu]using h5
       ·cases h3
      ·rename_i ho
       rw[if_neg ho]at h3
       exact⟨v,h3,h4⟩
     obtain⟨r1,vs2,r2⟩:=Bh f (i+1) (us++vs) _ _ _ h (by simp;omega) (by
      rw[hend,R7 l us vs (i+1) (by omega),Ka l us i hlt,ha];rfl) (fun k hk=>by
       by_cases hki:k<i
       ·exact(hg k hki).mono (by omega) vs
       ·have:k=i:=by omega
        subst this;exact hgi)
     refine⟨by simpa[hus']using r1,vs++vs2,?_⟩
     simpa[hus',List.append_assoc]using r2
end Go.Proofs.YtddmlennnmpnhaaGreatDoor
namespace Go.Proofs.YtddmlennnmpnhaaGreatDoor
open Go.RowKit Vc
set_option linter.unusedVariables false
set_option linter.unusedSimpArgs false
def entQ(c:Cx)(Q:Exit→St→Prop)(e:Exit)(S:St):Prop:=∃S2,Ent c S S2∧Q e S2
theorem T.entQ{c:Cx}{Q:Exit→St→Prop}{S:St}{x:IC}(h:T c x (entQ c Q) S):T c x Q S:=by
 intro ρ a w hh code hc
 refine wp_mono (h ρ a w hh code hc) fun e a' w' hl=> ?_
 obtain⟨S',ρ',g1,S2,g2,g3⟩:=hl
 obtain⟨ρ2,g4⟩:=g2 ρ' a' w' g1
 exact⟨S2,ρ2,g4,g3⟩
attribute [local irreducible] T Za Zn Ent RdC RwC Yd Ze Zh
theorem Cr:∀(l:List Ins) (k:Nat) (acc:List Int),acc.length≤65536→(Za3 l k acc).1.length≤65536
 | [],_,_,h=>h
 |x::l,k,acc,h=>by
  simp only[Za3]
  split
  ·split
   ·simp
   ·exact Cr l _ _ (by omega)
  ·simp
theorem Zh4(l:List Ins):(Cs l).1.length≤65536:=Cr l 0 [] (by simp)
def lk2(l:Oj)(g:Own):List Int→Int→List Int→List Int
 | [],_,acc=>acc
 |u::us,at_,acc=>lk2 l g us (Yb (Yu l u) at_).2.1 (acc++(Cs (U3 (Gl g (Yb (Yu l u) at_).1) (Yu l u)).1).1)
set_option maxHeartbeats 8000000 in
theorem Zik{w:World}{X:List Nat}{fr:List Value}{Q:Exit→St→Prop}(l:Oj)(own g:Own)(us:List Int)(n:Nat)(sps:List Spot)
 (hu:∀u∈l,u.2.length≤40000∧(Yb u.2 0).2.2.1=0)(hus:Zaq l.length us)(hul:us.length≤400)(hgood:∀k,k<us.length→Nu l own us k)
 (hQ:∀S',Ent ⟨Tryz.prog,w,X,199,fr⟩ S' ⟨[(10,.one (.a (.loc 2 0))),(5,.one (.a (.loc 8 0))),(4,.one (.a (.loc 7 0)))],[(2,.cells 81 [.ref 9,.ref 3,.ref 4]),(3,.row 3 (.int .i64) us),(4,.row 110 .spot sps),(7,.cells 81 [(.raw (.slice none 0 0)),(.raw (.slice none 0 0)),(.raw (.slice none 0 0))]),(8,.cells 83 [.int .i64 0,.int .i64 0]),(9,.row 3 (.int .i64) (lk2 l g us 0 []))],10⟩→Q (.exit 6) S'):
 T ⟨Tryz.prog,w,X,199,fr⟩ (.loop W6.c65) Q ⟨[(160,.one (.a (.int .i64 0))),(159,.one (.a (.int .i64 us.length))),(158,.one (.a (.ref 3))),(12,.one (.a (.int .i64 0))),(11,.one (.a (.loc 5 0))),(10,.one (.a (.loc 2 0))),(5,.one (.a (.loc 8 0))),(4,.one (.a (.loc 7 0))),(0,.one (.a (.ref 0)))],[(0,.rou l),(2,.cells 81 [.ref 9,.ref 3,.ref 4]),(3,.row 3 (.int .i64) us),(4,.row 110 .spot sps),(5,.cells 102 [.ref 6]),(6,.smap Tryz.prog 9 3 (.int .i64) g n),(7,.cells 81 [(.raw (.slice none 0 0)),(.raw (.slice none 0 0)),(.raw (.slice none 0 0))]),(8,.cells 83 [.int .i64 0,.int .i64 0]),(9,.row 3 (.int .i64) [])],10⟩:=by
 refine T.loop (ι:= {p:Nat×Int×List Int//p.1≤us.length∧lk2 l g (us.drop p.1) p.2.1 p.2.2=lk2 l g us 0 []∧p.2.1=Nq l us p.1∧(0≤p.2.1∧p.2.1≤65536)∧p.2.2.length≤65536*p.1})
  (fun x=>⟨[(160,.one (.a (.int .i64 (x.1.1:Int)))),(159,.one (.a (.int .i64 us.length))),(158,.one (.a (.ref 3))),(12,.one (.a (.int .i64 x.1.2.1))),(11,.one (.a (.loc 5 0))),(10,.one (.a (.loc 2 0))),(5,.one (.a (.loc 8 0))),(4,.one (.a (.loc 7 0))),(0,.one (.a (.ref 0)))],[(0,.rou l),(2,.cells 81 [.ref 9,.ref 3,.ref 4]),(3,.row 3 (.int .i64) us),(4,.row 110 .spot sps),(5,.cells 102 [.ref 6]),(6,.smap Tryz.prog 9 3 (.int .i64) g n),(7,.cells 81 [(.raw (.slice none 0 0)),(.raw (.slice none 0 0)),(.raw (.slice none 0 0))]),(8,.cells 83 [.int .i64 0,.int .i64 0]),(9,.row 3 (.int .i64) x.1.2.2)],10⟩) (fun x=>us.length-x.1.1) ⟨(0,0,[]),by simp,by simp,by cases us<;>rfl,by simp,by simp⟩ (Ent.mk1 (id) (by simp[Zt])) ?_
 rintro⟨⟨k,at_,ws⟩,hk,hrun,hat,⟨ha0,ha1⟩,hws⟩
 simp only at hk hrun hat ha0 ha1 hws
 by_cases hlt:k<us.length
 ·have hdrop:us.drop k=us.getD k 0::us.drop (k+1):=by
   rw[List.drop_eq_getElem_cons hlt];simp[List.getD,hlt]
  have hmem:us.getD k 0∈us:=by simp[List.getD,hlt]
  have hgk:=hgood k hlt
  unfold Nu at hgk
  rw[←hat]at hgk
  generalize hx:us.getD k 0=u at hdrop hmem hgk
  have hx':us.getD k (Kd.dflt (.int .i64))=u:=hx
  have hur:=hus.2 u hmem
  have humem:l.getD u.toNat Nr∈l:=by
   have:u.toNat<l.length:=by omega
   simp[List.getD,this]
  obtain⟨hUl,hU0⟩:=hu _ humem
  have hU':l.getD u.toNat ([],[])=l.getD u.toNat Nr:=rfl
  have hU2:(l.getD u.toNat Nr).2=Yu l u:=rfl
  rw[hU2]at hUl hU0
  have hwr:=So (Yu l u) 0 0 [] [] hU0
  obtain⟨hsok,hslen,he0,he1⟩:=H8 (Yu l u) at_ ha0 ha1
  have hSp:=Nd (Yu l u) at_ hUl ha0 ha1
  obtain⟨hend,hnm⟩:=Fo hgk.1
  have hoff:(Yb (Yu l u) at_).2.1=Nq l us (k+1):=by rw[hend,Ka l us k hlt,hx,hat]
  rw[hdrop]at hrun
  simp only[lk2]at hrun
  have hw:IntKind.i64.wrap ((k:Int)+1)=((k+1:Nat):Int):=Zx (by omega)
  have ht:((k:Int)).toNat=k:=by omega
  have hKn:Knows (kn2 g (Yb (Yu l u) at_).1) (Gl g (Yb (Yu l u) at_).1) (Yu l u):=by
   intro x hx hlb hrf
   have hxl:=O2 ((Mq (hwr x hx) hlb).2 hrf).1
   have h2:=hgk.2 x hx hrf
   unfold kn2
   simp only
   rw[if_pos ⟨hrf,hxl,fun ho=>by
    rw[if_pos ho]at h2
    rw[Gu,hnm];simpa using h2⟩]
  have hRs:=Dv (Yu l u) (kn2 g (Yb (Yu l u) at_).1) (Gl g (Yb (Yu l u) at_).1) hKn hUl
  generalize hsp1:(Yb (Yu l u) at_).1=sp at hrun hsok hslen hSp hRs
  generalize hend1:(Yb (Yu l u) at_).2.1=end_ at hrun hSp he0 he1 hoff
  have hEn:=Zak (U3 (Gl g sp) (Yu l u)).1
  have hem:=Zh4 (U3 (Gl g sp) (Yu l u)).1
  generalize hen:Cs (U3 (Gl g sp) (Yu l u)).1=en at hrun hEn hem
  repeat'(first|(first|refine Stp.h ?_|(refine Za.rw hSp ?_ ?_;(focus(((repeat'(first|exact rfl|exact trivial|refine And.intro ?_ ?_|(simp[Zz];done))));done)))|(refine Za.rw hEn ?_ ?_;(focus(((repeat'(first|exact rfl|exact trivial|refine And.intro ?_ ?_|(simp[Zz];done))));done)))|(refine Za.gc hRs ?_ ?_;rotate_left))<;>try simp only[Zc,simprocAttr,↓reduceIte,reduceCtorEq,implies_true,hx',hU',hU2,hw,ht,Int.ofNat_lt]|(with_reducible first|assumption|refine And.intro ?_ ?_)|(intro h;first|omega|exact tg h ‹_›|exact tg ‹_› h|skip))
  all_goals first|omega|skip
  ·exact⟨⟨(k+1,end_,ws++en.1),hlt,hrun,hoff,⟨he0,he1⟩,by simp only[List.length_append];omega⟩,(Ent.mk1 (fun n=>if n=9 then 19 else n) (by simp[Zt,hw])),by simp only;omega⟩
  ·exact⟨rfl,⟨rfl,⟨rfl,by simp,Zhe _ _ 5 6 12 11 g n sp (by omega) rfl rfl rfl rfl (by decide)⟩,trivial⟩,List.nodup_nil⟩
 ·have hk2:k=us.length:=by omega
  subst hk2
  rw[List.drop_length]at hrun
  simp only[lk2]at hrun
  subst hrun
  repeat'(first|(first|refine Stp.h ?_)<;>try simp only[Zc,simprocAttr,↓reduceIte,reduceCtorEq,implies_true,Int.ofNat_lt]|(with_reducible first|assumption|refine And.intro ?_ ?_)|(intro h;first|omega|exact tg h ‹_›|exact tg ‹_› h|skip))
  all_goals first|omega|skip
  exact hQ _ (Ent.mk1 (id) (by simp[Zt]))
def linkS(l:Oj)(entry:List UInt8):(List Int×List Int×List Spot)×Int×Int:=
 if(Z8 l).2.1≠0 then(([],[],[]),(Z8 l).2.1,(Z8 l).2.2)else
 match(Z8 l).1 entry with
 |none=>(([],[],[]),6,(l.length:Int))
 |some first=>if(lk1 l (Z8 l).1 402 0 [first] 0 Sl []).2.1≠0 then(([],[],[]),(lk1 l (Z8 l).1 402 0 [first] 0 Sl []).2)else
   ((lk2 l (lk1 l (Z8 l).1 402 0 [first] 0 Sl []).1.2.1 (lk1 l (Z8 l).1 402 0 [first] 0 Sl []).1.1 0 [],(lk1 l (Z8 l).1 402 0 [first] 0 Sl []).1.1,(lk1 l (Z8 l).1 402 0 [first] 0 Sl []).1.2.2),0,0)
def lkV(r:(List Int×List Int×List Spot)×Int×Int):SV:=if r.2.1=0 then .tup [.agg [.ref 1,.ref 2,.ref 3],.agg [.int .i64 0,.int .i64 0]]else .tup [.agg [.raw (.slice none 0 0),.raw (.slice none 0 0),.raw (.slice none 0 0)],.agg [.int .i64 r.2.1,.int .i64 r.2.2]]
def lkR(r:(List Int×List Int×List Spot)×Int×Int):List (Nat×Res):=if r.2.1=0 then[(1,.row 3 (.int .i64) r.1.1),(2,.row 3 (.int .i64) r.1.2.1),(3,.row 110 .spot r.1.2.2)]else[]
theorem Zil{r:(List Int×List Int×List Spot)×Int×Int}(h:r.2.1≠0):lkV r= .tup [.agg [.raw (.slice none 0 0),.raw (.slice none 0 0),.raw (.slice none 0 0)],.agg [.int .i64 r.2.1,.int .i64 r.2.2]]∧lkR r=[]:=by
 unfold lkV lkR;rw[if_neg h,if_neg h];exact⟨rfl,rfl⟩
theorem lk_ok{r:(List Int×List Int×List Spot)×Int×Int}(h:r.2.1=0):lkV r= .tup [.agg [.ref 1,.ref 2,.ref 3],.agg [.int .i64 0,.int .i64 0]]∧lkR r=[(1,.row 3 (.int .i64) r.1.1),(2,.row 3 (.int .i64) r.1.2.1),(3,.row 110 .spot r.1.2.2)]:=by
 unfold lkV lkR;rw[if_pos h,if_pos h];exact⟨rfl,rfl⟩
set_option maxHeartbeats 8000000 in
theorem Link_gc(l:Oj)(entry:List UInt8)(hf:Fits l)(hen:entry.length≤9223372036854775807):
 GC Tryz.prog 45 [.a (.ref 0),.a (.str entry)] [(0,.rou l)] 1 [] (lkV (linkS l entry)) (lkR (linkS l entry)) 4:=by
 refine W6.fn.gc (by simp) (by
  unfold lkV lkR
  by_cases h:(linkS l entry).2.1=0
  ·rw[if_pos h,if_pos h];exact(by simp[Zu,Zw,Zv,Zj,Zf,Vc.S1.okN,At.okN,SV.okN,Res.okN,Res.outOk,Zo,Res.own,Value.oneCell'])
  ·rw[if_neg h,if_neg h];exact(by simp[Zu,Zw,Zv,Zj,Zf,Vc.S1.okN,At.okN,SV.okN,Res.okN,Res.outOk,Zo,Res.own,Value.oneCell'])) fun w X fr=> ?_
 have hch:=Zaw l hf
 generalize hR:linkS l entry=R
 unfold linkS at hR
 by_cases he:(Z8 l).2.1=0
 ·rw[if_neg (by simpa using he)]at hR
  obtain⟨hl,hu,ho⟩:=Ci he
  obtain⟨e1,e2⟩:=ch_ok (l:=l) (k:=(Z8 l).2.2) (f:=(Z8 l).1) (by rw[←he])
  rw[e1,e2]at hch
  generalize hown:(Z8 l).1=own at hR hch ho
  cases hoe:own entry with
  |none=>
   rw[hoe]at hR
   simp only at hR
   obtain⟨e3,e4⟩:=Zil (r:=R) (by rw[←hR];simp)
   rw[e3,e4,←hR]
   repeat'(first|(first|refine Stp.h ?_|(refine Za.gc hch ?_ ?_;focus simp[Zb]))<;>try simp only[Zc,simprocAttr,↓reduceIte,reduceCtorEq,implies_true,hoe]|(with_reducible first|assumption|refine And.intro ?_ ?_)|(intro h;first|omega|exact tg h ‹_›|exact tg ‹_› h|skip))
   all_goals first|omega|skip
  |some first=>
   rw[hoe]at hR
   simp only at hR
   generalize hRES:lk1 l own 402 0 [first] 0 Sl []=RES at hR
   repeat'(first|(first|refine Stp.h ?_|(refine Za.gc hch ?_ ?_;focus simp[Zb]))<;>try simp only[Zc,simprocAttr,↓reduceIte,reduceCtorEq,implies_true,hoe]|(with_reducible first|assumption|refine And.intro ?_ ?_)|(intro h;first|omega|exact tg h ‹_›|exact tg ‹_› h|skip))
   all_goals first|omega|skip
   refine T.weak (Ent.litRow (m:=8) (.int .i64) [first] rfl rfl rfl rfl (by decide)) ?_
   refine T.weak (Ent.nilCell (m:=5) (j:=2) 110 .spot rfl rfl) ?_
   refine T.entQ ?_
   have hgl:=Bh (l:=l) (own:=own) 402 0 [first] 0 Sl []
   rw[hRES]at hgl
   refine T.weak (Ent.mk1 (fun n=>if n=1 then 3 else if n=2 then 5 else if n=3 then 8 else if n=4 then 9 else if n=5 then 7 else if n=7 then 1 else if n=8 then 2 else n) (by simp[Zt,E6])) (Zf5 l own [first] RES hl hu ho ⟨by simp,fun v hv=>by
    simp only[List.mem_singleton]at hv;subst hv;exact ho _ _ hoe⟩ hRES (fun hz S1 i at_ n hus hsl he1=>⟨_,he1,?_⟩) fun hz S1 he1=>⟨_,he1,?_⟩)
   ·obtain⟨hgood,_⟩:=hgl hz (by simp) (by simp[Nq]) (fun k hk=>by omega)
    rw[if_neg (by simpa using hz)]at hR
    obtain⟨e3,e4⟩:=lk_ok (r:=R) (by rw[←hR])
    rw[e3,e4,←hR]
    generalize RES.1.1=us at*
    generalize RES.1.2.1=g at*
    generalize RES.1.2.2=sps at*
    have hul:=nodup_range _ _ hus
    simp only[Zc,simprocAttr,↓reduceIte,reduceCtorEq,implies_true]
    refine T.weak (Ent.nilCell (m:=2) (j:=0) 3 (.int .i64) rfl rfl) ?_
    repeat'(first|(first|refine Stp.h ?_)<;>try simp only[Zc,simprocAttr,↓reduceIte,reduceCtorEq,implies_true]|(with_reducible first|assumption|refine And.intro ?_ ?_)|(intro h;first|omega|exact tg h ‹_›|exact tg ‹_› h|skip))
    all_goals first|omega|skip
    refine T.weak (Ent.mk1 (id) (by simp[Zt])) (Zik l own g us n sps hu hus (by omega) hgood fun S2 he2=> ?_)
    simp only[Zc,simprocAttr,↓reduceIte,reduceCtorEq,implies_true]
    refine T.weak he2 ?_
    repeat'(first|(first|refine Stp.h ?_)<;>try simp only[Zc,simprocAttr,↓reduceIte,reduceCtorEq,implies_true]|(with_reducible first|assumption|refine And.intro ?_ ?_)|(intro h;first|omega|exact tg h ‹_›|exact tg ‹_› h|skip))
    all_goals first|omega|skip
   ·rw[if_pos (by simpa using hz)]at hR
    obtain⟨e3,e4⟩:=Zil (r:=R) (by rw[←hR];simpa using hz)
    rw[e3,e4,←hR]
    simp only[Zc,simprocAttr,↓reduceIte,reduceCtorEq,implies_true,W6.res]
 ·rw[if_pos (by simpa using he)]at hR
  obtain⟨e1,e2⟩:=Ch (l:=l) (k:=(Z8 l).2.2) (f:=(Z8 l).1) (e:=(Z8 l).2.1) rfl he
  rw[e1,e2]at hch
  obtain⟨e3,e4⟩:=Zil (r:=R) (by rw[←hR];simpa using he)
  rw[e3,e4,←hR]
  repeat'(first|(first|refine Stp.h ?_|(refine Za.gc hch ?_ ?_;focus simp[Zb]))<;>try simp only[Zc,simprocAttr,↓reduceIte,reduceCtorEq,implies_true,he]|(with_reducible first|assumption|refine And.intro ?_ ?_)|(intro h;first|omega|exact tg h ‹_›|exact tg ‹_› h|skip))
  all_goals first|omega|skip
end Go.Proofs.YtddmlennnmpnhaaGreatDoor
namespace Go.Proofs.YtddmlennnmpnhaaGreatDoor
open Vc
end Go.Proofs.YtddmlennnmpnhaaGreatDoor
namespace Go.Proofs.YtddmlennnmpnhaaGreatDoor
open Go Go.RowKit Vc
set_option linter.unusedVariables false
set_option linter.unusedSimpArgs false
attribute [local irreducible] T Za Zn Ent RdC RwC Yd Ze Zh
theorem Dh(i:Nat)(hi:i≤24)(ls:List Ln)(hl:ls.length≤1000):Fits (unitsTo i++[([],ls)])∧Fits (unitsTo i):=by
 have h1:∀u∈unitsTo i,u.2.length≤9223372036854775807:=fun u hu=>by
  obtain⟨k,hk,rfl⟩:=List.mem_map.1 hu
  have:=(Aa k (by have:=List.mem_range.1 hk;omega)).2.2
  show(linesAt k).length≤_
  omega
 have h2:=Nb i
 refine⟨⟨by simp only[List.length_append,List.length_cons,List.length_nil];omega,fun u hu=> ?_⟩,by omega,h1⟩
 rcases List.mem_append.1 hu with h|h
 ·exact h1 u h
 ·simp only[List.mem_singleton]at h
  subst h
  show ls.length≤_
  omega
def Z2:List UInt8:=[109,97,105,110]
def callL(n:List UInt8):Ln:=⟨[],⟨26,0,0,0⟩,n⟩
end Go.Proofs.YtddmlennnmpnhaaGreatDoor
