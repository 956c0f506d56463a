/- A part of the proofs of this seat's laws: steps on the way, joined. It has no conditions of its own. -/
import Derived.Test.YtbmecnjmbhokgaaGreatDoorQi
import Derived.Test.YtbmecnjmbhokgaaGreatDoorQe
import Derived.Test.YtbmecnjmbhokgaaGreatDoorChecked
import Derived.KernelRfl
import Derived.Test.YtbmecnjmbhokgaaGreatDoorQf
namespace Go.Proofs.YtbmecnjmbhokgaaGreatDoor
open Go.RowKit Vc
set_option linter.unusedVariables false
set_option linter.unusedSimpArgs false
attribute [local irreducible] T Za Zn Ent RdC RwC Yj Zf Zi
def Br(own:Own)(u:Int)(sp:List Spot)(s:List UInt8):Option Int:=if M0 s=true then(if sp.any (fun y=>decide (y.name=s))=true then some u else none)else own s
def Rh(own:Own)(u:Int)(sp:List Spot):List Ln→List Int→Option (List Int)
 | [],us=>some us
 |x::ls,us=>if x.ref=[]then Rh own u sp ls us else match Br own u sp x.ref with
  |none=>none
  |some n=>Rh own u sp ls (if n∈us then us else us++[n])
def Md(sp:List Spot):List Spot:=sp.filter fun s=> !M0 s.name
def Ei:List Spot→Own→Own
 | [],g=>g
 |s::l,g=>Ei l (if M0 s.name=true then g else fun t=>if t=s.name then some s.at_ else g t)
set_option maxHeartbeats 4000000 in
theorem Zbg{w:World}{X:List Nat}{fr:List Value}{Q:Exit→St→Prop}(l:List (List UInt8×List Ln))(own:Own)(i:Nat)(at_ u end_:Int)(us:List Int)(g:Own)(n:Nat)(sps sp:List Spot)
 (hok:∀s∈sp,Fg s)(hsl:sp.length≤40000)(hn:n≤40000*i)(hsps:sps.length≤40000*i)(hi:i≤400)
 (hQ:∀S' n',n'≤40000*(i+1)→Ent ⟨Tryz.prog,w,X,199,fr⟩ S' ⟨[(14,.one (.a (.int .i64 u))),(15,.one (.a (.ref 9))),(16,.one (.a (.int .i64 end_))),(13,.one (.a (.int .i64 (i:Int)))),(12,.one (.a (.int .i64 at_))),(11,.one (.a (.loc 5 0))),(10,.one (.a (.loc 2 0))),(6,.one (.a (.ref 1))),(5,.one (.a (.loc 8 0))),(4,.one (.a (.loc 7 0))),(0,.one (.a (.ref 0)))],[(0,.rou l),(1,.smap Tryz.prog 9 3 (.int .i64) own 16000000),(2,.cells 78 [(.raw (.slice none 0 0)),.ref 3,.ref 4]),(3,.row 3 (.int .i64) us),(4,.row 109 .spot (sps++Md sp)),(5,.cells 101 [.ref 6]),(6,.smap Tryz.prog 9 3 (.int .i64) (Ei sp g) n'),(7,.cells 78 [(.raw (.slice none 0 0)),(.raw (.slice none 0 0)),(.raw (.slice none 0 0))]),(8,.cells 80 [.int .i64 0,.int .i64 0]),(9,.row 109 .spot sp)],10⟩→Q (.exit 2) S'):
 T ⟨Tryz.prog,w,X,199,fr⟩ (.loop W3.c19) Q ⟨[(92,.one (.a (.int .i64 0))),(91,.one (.a (.int .i64 sp.length))),(90,.one (.a (.ref 9))),(14,.one (.a (.int .i64 u))),(15,.one (.a (.ref 9))),(16,.one (.a (.int .i64 end_))),(13,.one (.a (.int .i64 (i:Int)))),(12,.one (.a (.int .i64 at_))),(11,.one (.a (.loc 5 0))),(10,.one (.a (.loc 2 0))),(6,.one (.a (.ref 1))),(5,.one (.a (.loc 8 0))),(4,.one (.a (.loc 7 0))),(0,.one (.a (.ref 0)))],[(0,.rou l),(1,.smap Tryz.prog 9 3 (.int .i64) own 16000000),(2,.cells 78 [(.raw (.slice none 0 0)),.ref 3,.ref 4]),(3,.row 3 (.int .i64) us),(4,.row 109 .spot sps),(5,.cells 101 [.ref 6]),(6,.smap Tryz.prog 9 3 (.int .i64) g n),(7,.cells 78 [(.raw (.slice none 0 0)),(.raw (.slice none 0 0)),(.raw (.slice none 0 0))]),(8,.cells 80 [.int .i64 0,.int .i64 0]),(9,.row 109 .spot sp)],10⟩:=by
 refine T.loop (ι:= {p:Nat×Own×Nat×List Spot//p.1≤sp.length∧Ei (sp.drop p.1) p.2.1=Ei sp g∧p.2.2.1≤n+p.1∧p.2.2.2++Md (sp.drop p.1)=sps++Md sp∧p.2.2.2.length≤sps.length+p.1})
  (fun x=>⟨[(92,.one (.a (.int .i64 (x.1.1:Int)))),(91,.one (.a (.int .i64 sp.length))),(90,.one (.a (.ref 9))),(14,.one (.a (.int .i64 u))),(15,.one (.a (.ref 9))),(16,.one (.a (.int .i64 end_))),(13,.one (.a (.int .i64 (i:Int)))),(12,.one (.a (.int .i64 at_))),(11,.one (.a (.loc 5 0))),(10,.one (.a (.loc 2 0))),(6,.one (.a (.ref 1))),(5,.one (.a (.loc 8 0))),(4,.one (.a (.loc 7 0))),(0,.one (.a (.ref 0)))],[(0,.rou l),(1,.smap Tryz.prog 9 3 (.int .i64) own 16000000),(2,.cells 78 [(.raw (.slice none 0 0)),.ref 3,.ref 4]),(3,.row 3 (.int .i64) us),(4,.row 109 .spot x.1.2.2.2),(5,.cells 101 [.ref 6]),(6,.smap Tryz.prog 9 3 (.int .i64) x.1.2.1 x.1.2.2.1),(7,.cells 78 [(.raw (.slice none 0 0)),(.raw (.slice none 0 0)),(.raw (.slice none 0 0))]),(8,.cells 80 [.int .i64 0,.int .i64 0]),(9,.row 109 .spot sp)],10⟩) (fun x=>sp.length-x.1.1) ⟨(0,g,n,sps),by simp,by simp,by simp,by simp,by simp⟩ (Ent.mk1 (id) (by simp[Zy])) ?_
 rintro⟨⟨j,g',n',sps'⟩,hj,hg,hn',hs,hs'⟩
 simp only at hj hg hn' hs hs'
 by_cases hlt:j<sp.length
 ·have hdrop:sp.drop j=sp.getD j Ou::sp.drop (j+1):=by
   rw[List.drop_eq_getElem_cons hlt];simp[List.getD,hlt]
  have hmem:sp.getD j Ou∈sp:=by simp[List.getD,hlt]
  generalize hy:sp.getD j Ou=y at hdrop hmem
  have hy':sp.getD j (Kd.dflt .spot)=y:=hy
  obtain⟨⟨hy0,hy1⟩,hyn,hyne⟩:=hok y hmem
  have hyl:=Ol hyn
  rw[hdrop]at hg hs
  simp only[Ei]at hg
  have hw:IntKind.i64.wrap ((j:Int)+1)=((j+1:Nat):Int):=Zx (by omega)
  have ht:((j:Int)).toNat=j:=by omega
  cases hown:M0 y.name with
  |true=>
   rw[if_pos hown]at hg
   have hv:Md (y::sp.drop (j+1))=Md (sp.drop (j+1)):=by simp[Md,hown]
   rw[hv]at hs
   repeat'(first|(first|refine Stp.h ?_|(refine rq (Xn y.name hyne) ?_ ?_;focus simp[Zz];done))<;>try simp only[Zd,simprocAttr,↓reduceIte,reduceCtorEq,implies_true,hy',hw,ht,hown,Int.ofNat_lt]|(with_reducible first|assumption|refine And.intro ?_ ?_)|(intro h;first|omega|exact tg h ‹_›|exact tg ‹_› h|skip))
   all_goals first|omega|skip
   exact⟨⟨(j+1,g',n',sps'),hlt,hg,by simp only;omega,hs,by simp only;omega⟩,(Ent.mk1 (id) (by simp[Zy,hw])),by simp only;omega⟩
  |false=>
   rw[if_neg (by simp[hown])]at hg
   have hv:Md (y::sp.drop (j+1))=y::Md (sp.drop (j+1)):=by simp[Md,hown]
   rw[hv]at hs
   repeat'(first|(first|refine Stp.h ?_|(refine rq (Xn y.name hyne) ?_ ?_;focus simp[Zz];done))<;>try simp only[Zd,simprocAttr,↓reduceIte,reduceCtorEq,implies_true,hy',hw,ht,hown,Int.ofNat_lt]|(with_reducible first|assumption|refine And.intro ?_ ?_)|(intro h;first|omega|exact tg h ‹_›|exact tg ‹_› h|skip))
   all_goals first|omega|skip
   all_goals try(first|(show(-9223372036854775808:Int)≤y.at_;omega)|(show y.at_≤(9223372036854775807:Int);omega))
   exact⟨⟨(j+1,fun t=>if t=y.name then some y.at_ else g' t,n'+1,sps'++[y]),hlt,hg,by simp only;omega,by simpa using hs,by simp only[List.length_append,List.length_cons,List.length_nil];omega⟩,(Ent.mk1 (fun n=>if n=4 then 12 else n) (by simp[Zy,hw])),by simp only;omega⟩
 ·have hk2:j=sp.length:=by omega
  subst hk2
  rw[List.drop_length]at hg hs
  simp only[Ei]at hg
  have hs2:sps'=sps++Md sp:=by simpa[Md]using hs
  subst hs2
  subst hg
  repeat'(first|(first|refine Stp.h ?_)<;>try simp only[Zd,simprocAttr,↓reduceIte,reduceCtorEq,implies_true,Int.ofNat_lt]|(with_reducible first|assumption|refine And.intro ?_ ?_)|(intro h;first|omega|exact tg h ‹_›|exact tg ‹_› h|skip))
  all_goals first|omega|skip
  exact hQ _ n' (by omega) (Ent.mk1 (id) (by simp[Zy]))
def Ok(s:List UInt8):List S1→Option SV
 | [.agg [.str t,.int .i64 _]]=>some (.one (.a (.bool (decide (t=s)))))
 |_=>none
theorem Js(R:List (Nat×Res))(nx m:Nat)(x:Ln)(hm:Zo (roR R) m=some (Res.rocells x.cells)):Zak Tryz.prog R nx 65 [m] (Ok x.ref):=by
 refine⟨Rz.enters,_,_,_,Rz.fn,fun args r hr=> ?_⟩
 unfold Ok at hr
 split at hr
 ·rename_i t n
  cases hr
  refine⟨by simp[T5,S1.bd,At.bd],by simp[SV.bd,S1.bd,At.bd],by simp,fun w=> ?_⟩
  refine T.weak (S2:=⟨[(0,.one (.agg [.str t,.int .i64 n])),(1,.one (.a (.loc 0 0)))],[(0,.rocells x.cells)],1⟩) (Ent.mk1 (fun _=>m) (by simp[Zy,hm,Y1,Ln.cells])) ?_
  repeat'(first|(first|refine Stp.h ?_)<;>try simp only[Zd,simprocAttr,↓reduceIte,reduceCtorEq,implies_true]|(with_reducible first|assumption|refine And.intro ?_ ?_)|(intro h;first|omega|exact tg h ‹_›|exact tg ‹_› h|skip))
 ·cases hr
theorem Bs{own:Own}{u:Int}{sp:List Spot}{s:List UInt8}:Br own u sp s=if M0 s=true then(if sp.any (fun y=>decide (y.name=s))=true then some u else none)else own s:=rfl
set_option maxHeartbeats 8000000 in
theorem Zbh{w:World}{X:List Nat}{fr:List Value}{Q:Exit→St→Prop}(l:List (List UInt8×List Ln))(own:Own)(i:Nat)(at_ u:Int)(us:List Int)(g:Own)(n:Nat)(sps sp:List Spot)(ls:List Ln)
 (hw0:∀x∈ls,Uw x=0)(hsl:sp.length≤40000)(hll:ls.length≤40000)(hus:us.length≤1000)
 (hQ:∀us' S',Rh own u sp ls us=some us'→Ent ⟨Tryz.prog,w,X,199,fr⟩ S' ⟨[(13,.one (.a (.int .i64 (i:Int)))),(12,.one (.a (.int .i64 at_))),(11,.one (.a (.loc 5 0))),(10,.one (.a (.loc 2 0))),(6,.one (.a (.ref 1))),(5,.one (.a (.loc 8 0))),(4,.one (.a (.loc 7 0))),(0,.one (.a (.ref 0)))],[(0,.rou l),(1,.smap Tryz.prog 9 3 (.int .i64) own 16000000),(2,.cells 78 [(.raw (.slice none 0 0)),.ref 3,.ref 4]),(3,.row 3 (.int .i64) us'),(4,.row 109 .spot sps),(5,.cells 101 [.ref 6]),(6,.smap Tryz.prog 9 3 (.int .i64) g n),(7,.cells 78 [(.raw (.slice none 0 0)),(.raw (.slice none 0 0)),(.raw (.slice none 0 0))]),(8,.cells 80 [.int .i64 0,.int .i64 0])],9⟩→Q (.exit 4) S')
 (hE:∀S',Rh own u sp ls us=none→Ent ⟨Tryz.prog,w,X,199,fr⟩ S' ⟨[(5,.one (.a (.loc 1 0))),(4,.one (.a (.loc 0 0)))],[(0,.cells 78 [(.raw (.slice none 0 0)),(.raw (.slice none 0 0)),(.raw (.slice none 0 0))]),(1,.cells 80 [.int .i64 6,.int .i64 u])],2⟩→Q .ret S'):
 T ⟨Tryz.prog,w,X,199,fr⟩ (.loop W3.c41) Q ⟨[(119,.one (.a (.int .i64 0))),(118,.one (.a (.int .i64 ls.length))),(117,.one (.a (.ref 10))),(14,.one (.a (.int .i64 u))),(15,.one (.a (.ref 9))),(13,.one (.a (.int .i64 (i:Int)))),(12,.one (.a (.int .i64 at_))),(11,.one (.a (.loc 5 0))),(10,.one (.a (.loc 2 0))),(6,.one (.a (.ref 1))),(5,.one (.a (.loc 8 0))),(4,.one (.a (.loc 7 0))),(0,.one (.a (.ref 0)))],[(0,.rou l),(1,.smap Tryz.prog 9 3 (.int .i64) own 16000000),(2,.cells 78 [(.raw (.slice none 0 0)),.ref 3,.ref 4]),(3,.row 3 (.int .i64) us),(4,.row 109 .spot sps),(5,.cells 101 [.ref 6]),(6,.smap Tryz.prog 9 3 (.int .i64) g n),(7,.cells 78 [(.raw (.slice none 0 0)),(.raw (.slice none 0 0)),(.raw (.slice none 0 0))]),(8,.cells 80 [.int .i64 0,.int .i64 0]),(9,.row 109 .spot sp),(10,.ro .line ls)],11⟩:=by
 refine T.loop (ι:= {p:Nat×List Int//p.1≤ls.length∧Rh own u sp (ls.drop p.1) p.2=Rh own u sp ls us∧p.2.length≤us.length+p.1})
  (fun x=>⟨[(119,.one (.a (.int .i64 (x.1.1:Int)))),(118,.one (.a (.int .i64 ls.length))),(117,.one (.a (.ref 10))),(14,.one (.a (.int .i64 u))),(15,.one (.a (.ref 9))),(13,.one (.a (.int .i64 (i:Int)))),(12,.one (.a (.int .i64 at_))),(11,.one (.a (.loc 5 0))),(10,.one (.a (.loc 2 0))),(6,.one (.a (.ref 1))),(5,.one (.a (.loc 8 0))),(4,.one (.a (.loc 7 0))),(0,.one (.a (.ref 0)))],[(0,.rou l),(1,.smap Tryz.prog 9 3 (.int .i64) own 16000000),(2,.cells 78 [(.raw (.slice none 0 0)),.ref 3,.ref 4]),(3,.row 3 (.int .i64) x.1.2),(4,.row 109 .spot sps),(5,.cells 101 [.ref 6]),(6,.smap Tryz.prog 9 3 (.int .i64) g n),(7,.cells 78 [(.raw (.slice none 0 0)),(.raw (.slice none 0 0)),(.raw (.slice none 0 0))]),(8,.cells 80 [.int .i64 0,.int .i64 0]),(9,.row 109 .spot sp),(10,.ro .line ls)],11⟩) (fun x=>ls.length-x.1.1) ⟨(0,us),by simp,by simp,by simp⟩ (Ent.mk1 (id) (by simp[Zy])) ?_
 rintro⟨⟨j,us'⟩,hj,hrun,hul⟩
 simp only at hj hrun hul
 by_cases hlt:j<ls.length
 ·have hdrop:ls.drop j=ls.getD j ln0::ls.drop (j+1):=by
   rw[List.drop_eq_getElem_cons hlt];simp[List.getD,hlt]
  have hmem:ls.getD j ln0∈ls:=by simp[List.getD,hlt]
  generalize hy:ls.getD j ln0=x at hdrop hmem
  have hy':ls.getD j (Kd.dflt .line)=x:=hy
  have hwx:=hw0 x hmem
  rw[hdrop]at hrun
  simp only[Rh]at hrun
  have hw:IntKind.i64.wrap ((j:Int)+1)=((j+1:Nat):Int):=Zx (by omega)
  have ht:((j:Int)).toNat=j:=by omega
  by_cases hrf:x.ref=[]
  ·rw[if_pos hrf]at hrun
   have hrfd:decide (x.ref=[])=true:=decide_eq_true hrf
   repeat'(first|(first|refine Stp.h ?_)<;>try simp only[Zd,simprocAttr,↓reduceIte,reduceCtorEq,implies_true,hy',hw,ht,hrfd,Int.ofNat_lt]|(with_reducible first|assumption|refine And.intro ?_ ?_)|(intro h;first|omega|exact tg h ‹_›|exact tg ‹_› h|skip))
   all_goals first|omega|skip
   exact⟨⟨(j+1,us'),hlt,hrun,by simp only;omega⟩,(Ent.mk1 (id) (by simp[Zy,hw])),by simp only;omega⟩
  rw[if_neg hrf]at hrun
  have hlb:x.label=[]:=Decidable.byContradiction fun h=>hrf (Pv hwx h).2.1
  have hxl:=Ol ((Mg hwx hlb).2 hrf).1
  have hgs:∀y∈sp,Ok x.ref [.agg [.str y.name,.int .i64 y.at_]]=some (.one (.a (.bool ((fun y:Spot=>decide (y.name=x.ref)) y)))):=fun y _=>rfl
  have hCF:=Lf sp (Ok x.ref) (fun y=>decide (y.name=x.ref)) hgs (by omega)
  rw[Iq]at hCF
  have hCt:∀v,RdC Tryz.prog 66 [.ro (.int .i64) us',.v (.a (.int .i64 v))] (.one (.a (.bool (decide (v∈us'))))):=fun v=>G5 us' v (by omega)
  rw[Bs]at hrun
  cases hown:M0 x.ref with
  |true=>
   rw[if_pos hown]at hrun
   cases hany:sp.any (fun y=>decide (y.name=x.ref))with
   |true=>
    rw[if_pos hany]at hrun
    rw[hany]at hCF
    simp only at hrun
    by_cases hin:u∈us'
    ·rw[if_pos hin]at hrun
     repeat'(first|(first|refine Stp.h ?_|(refine rq (Xn x.ref hrf) ?_ ?_;focus simp[Zz];done)|((with_reducible first|apply Za.rd (hCt _)|apply Zf.rd (hCt _));focus((repeat'(first|exact rfl|exact trivial|refine And.intro ?_ ?_|(simp[Zz];done)));done))|(refine Za.gc hCF ?_ ?_;rotate_left))<;>try simp only[Zd,simprocAttr,↓reduceIte,reduceCtorEq,implies_true,hy',hw,ht,hrf,hown,hin,Int.ofNat_lt]|(with_reducible first|assumption|refine And.intro ?_ ?_)|(intro h;first|omega|exact tg h ‹_›|exact tg ‹_› h|skip))
     all_goals first|omega|skip
     ·exact⟨⟨(j+1,us'),hlt,hrun,by simp only;omega⟩,(Ent.mk1 (id) (by simp[Zy,hw])),by simp only;omega⟩
     ·exact⟨rfl,⟨rfl,⟨rfl,by simp,Js _ _ _ x rfl⟩,trivial⟩,List.nodup_nil⟩
    ·rw[if_neg hin]at hrun
     repeat'(first|(first|refine Stp.h ?_|(refine rq (Xn x.ref hrf) ?_ ?_;focus simp[Zz];done)|((with_reducible first|apply Za.rd (hCt _)|apply Zf.rd (hCt _));focus((repeat'(first|exact rfl|exact trivial|refine And.intro ?_ ?_|(simp[Zz];done)));done))|(refine Za.gc hCF ?_ ?_;rotate_left))<;>try simp only[Zd,simprocAttr,↓reduceIte,reduceCtorEq,implies_true,hy',hw,ht,hrf,hown,hin,Int.ofNat_lt]|(with_reducible first|assumption|refine And.intro ?_ ?_)|(intro h;first|omega|exact tg h ‹_›|exact tg ‹_› h|skip))
     all_goals first|omega|skip
     ·exact⟨⟨(j+1,us'++[u]),hlt,hrun,by simp only[List.length_append,List.length_cons,List.length_nil];omega⟩,(Ent.mk1 (fun n=>if n=3 then 13 else n) (by simp[Zy,hw])),by simp only;omega⟩
     ·exact⟨rfl,⟨rfl,⟨rfl,by simp,Js _ _ _ x rfl⟩,trivial⟩,List.nodup_nil⟩
   |false=>
    rw[if_neg (by rw[hany];decide)]at hrun
    rw[hany]at hCF
    simp only at hrun
    repeat'(first|(first|refine Stp.h ?_|(refine rq (Xn x.ref hrf) ?_ ?_;focus simp[Zz];done)|((with_reducible first|apply Za.rd (hCt _)|apply Zf.rd (hCt _));focus((repeat'(first|exact rfl|exact trivial|refine And.intro ?_ ?_|(simp[Zz];done)));done))|(refine Za.gc hCF ?_ ?_;rotate_left))<;>try simp only[Zd,simprocAttr,↓reduceIte,reduceCtorEq,implies_true,hy',hw,ht,hrf,hown,Int.ofNat_lt]|(with_reducible first|assumption|refine And.intro ?_ ?_)|(intro h;first|omega|exact tg h ‹_›|exact tg ‹_› h|skip))
    all_goals first|omega|skip
    ·exact hE _ hrun.symm (Ent.mk1 (fun n=>n+7) (by simp[Zy]))
    ·exact⟨rfl,⟨rfl,⟨rfl,by simp,Js _ _ _ x rfl⟩,trivial⟩,List.nodup_nil⟩
  |false=>
   rw[if_neg (by rw[hown];decide)]at hrun
   cases hox:own x.ref with
   |some v=>
    rw[hox]at hrun
    simp only at hrun
    by_cases hin:v∈us'
    ·rw[if_pos hin]at hrun
     repeat'(first|(first|refine Stp.h ?_|(refine rq (Xn x.ref hrf) ?_ ?_;focus simp[Zz];done)|((with_reducible first|apply Za.rd (hCt _)|apply Zf.rd (hCt _));focus((repeat'(first|exact rfl|exact trivial|refine And.intro ?_ ?_|(simp[Zz];done)));done)))<;>try simp only[Zd,simprocAttr,↓reduceIte,reduceCtorEq,implies_true,hy',hw,ht,hrf,hown,hin,hox,Int.ofNat_lt]|(with_reducible first|assumption|refine And.intro ?_ ?_)|(intro h;first|omega|exact tg h ‹_›|exact tg ‹_› h|skip))
     all_goals first|omega|skip
     ·exact⟨⟨(j+1,us'),hlt,hrun,by simp only;omega⟩,(Ent.mk1 (id) (by simp[Zy,hw])),by simp only;omega⟩
    ·rw[if_neg hin]at hrun
     repeat'(first|(first|refine Stp.h ?_|(refine rq (Xn x.ref hrf) ?_ ?_;focus simp[Zz];done)|((with_reducible first|apply Za.rd (hCt _)|apply Zf.rd (hCt _));focus((repeat'(first|exact rfl|exact trivial|refine And.intro ?_ ?_|(simp[Zz];done)));done)))<;>try simp only[Zd,simprocAttr,↓reduceIte,reduceCtorEq,implies_true,hy',hw,ht,hrf,hown,hin,hox,Int.ofNat_lt]|(with_reducible first|assumption|refine And.intro ?_ ?_)|(intro h;first|omega|exact tg h ‹_›|exact tg ‹_› h|skip))
     all_goals first|omega|skip
     ·exact⟨⟨(j+1,us'++[v]),hlt,hrun,by simp only[List.length_append,List.length_cons,List.length_nil];omega⟩,(Ent.mk1 (fun n=>if n=3 then 13 else n) (by simp[Zy,hw])),by simp only;omega⟩
   |none=>
    rw[hox]at hrun
    simp only at hrun
    repeat'(first|(first|refine Stp.h ?_|(refine rq (Xn x.ref hrf) ?_ ?_;focus simp[Zz];done)|((with_reducible first|apply Za.rd (hCt _)|apply Zf.rd (hCt _));focus((repeat'(first|exact rfl|exact trivial|refine And.intro ?_ ?_|(simp[Zz];done)));done)))<;>try simp only[Zd,simprocAttr,↓reduceIte,reduceCtorEq,implies_true,hy',hw,ht,hrf,hown,hox,Int.ofNat_lt]|(with_reducible first|assumption|refine And.intro ?_ ?_)|(intro h;first|omega|exact tg h ‹_›|exact tg ‹_› h|skip))
    all_goals first|omega|skip
    ·exact hE _ hrun.symm (Ent.mk1 (fun n=>n+7) (by simp[Zy]))
 ·have hk2:j=ls.length:=by omega
  subst hk2
  rw[List.drop_length]at hrun
  simp only[Rh]at hrun
  repeat'(first|(first|refine Stp.h ?_)<;>try simp only[Zd,simprocAttr,↓reduceIte,reduceCtorEq,implies_true,Int.ofNat_lt]|(with_reducible first|assumption|refine And.intro ?_ ?_)|(intro h;first|omega|exact tg h ‹_›|exact tg ‹_› h|skip))
  all_goals first|omega|skip
  exact hQ us' _ hrun.symm (Ent.mk1 (id) (by simp[Zy]))
theorem Sb:∀(l:List Ln) (k:Nat) (a:Int) (seen:List (List UInt8)) (acc:List Spot),(Wu l k a seen acc).2.2.1=0→∀x∈l,Uw x=0
 | [],_,_,_,_,_,x,hx=>nomatch hx
 |y::l,k,a,seen,acc,h,x,hx=>by
  unfold Wu at h
  split at h
  ·rename_i h1;exact absurd h h1
  ·rename_i h1
   have hy:Uw y=0:=by simpa using h1
   rcases List.mem_cons.1 hx with rfl|hx
   ·exact hy
   ·split at h
    ·split at h
     ·exact absurd h (by simp)
     ·exact Sb l _ _ _ _ h x hx
    ·split at h
     ·exact absurd h (by simp)
     ·exact Sb l _ _ _ _ h x hx
theorem Pm{u:Int}{n:Nat}:∀ {sp:List Spot} {f f':Own},Uq u sp f=some f'→(0≤u∧u<n)→(∀s v,f s=some v→0≤v∧v<n)→∀s v,f' s=some v→0≤v∧v<n
 | [],f,f',h,hu,hf=>by cases h;exact hf
 |y::sp,f,f',h,hu,hf=>by
  simp only[Uq]at h
  split at h
  ·exact Pm h hu hf
  ·split at h
   ·cases h
   ·refine Pm h hu fun s v hv=> ?_
    split at hv
    ·cases hv;exact hu
    ·exact hf s v hv
theorem Kl{N:Nat}:∀(l:List (List UInt8×List Ln)) (k:Nat) (f:Own),(Uj l k f).2.1=0→k+l.length≤N→(∀s v,f s=some v→0≤v∧v<N)→
 (∀u∈l,u.2.length≤40000∧(Yc u.2 0).2.2.1=0)∧∀s v,(Uj l k f).1 s=some v→0≤v∧v<N
 | [],k,f,h,hk,hf=>⟨(fun u hu=>nomatch hu),hf⟩
 |x::l,k,f,h,hk,hf=>by
  unfold Uj at h ⊢
  simp only[List.length_cons]at hk
  split at h
  ·simp at h
  ·rename_i h1
   split at h
   ·rename_i h2;exact absurd h h2
   ·rename_i h2
    rw[if_neg h1,if_neg h2]
    split at h
    ·simp at h
    ·rename_i f' hf'
     obtain⟨g1,g2⟩:=Kl l (k+1) f' h (by omega) (Pm hf' ⟨by omega,by omega⟩ hf)
     refine⟨fun u hu=> ?_,by simpa[hf']using g2⟩
     rcases List.mem_cons.1 hu with rfl|hu
     ·exact⟨by omega,by simpa using h2⟩
     ·exact g1 u hu
theorem Dx{l:List (List UInt8×List Ln)}(h:(Z7 l).2.1=0):l.length≤400∧(∀u∈l,u.2.length≤40000∧(Yc u.2 0).2.2.1=0)∧∀s v,(Z7 l).1 s=some v→0≤v∧v<l.length:=by
 unfold Z7 at h ⊢
 split at h
 ·simp at h
 ·rename_i hl
  rw[if_neg hl]
  exact⟨by omega,Kl l 0 T9 h (by omega) (fun s v hv=>by cases hv)⟩
def Zan(N:Nat)(us:List Int):Prop:=us.Nodup∧∀v∈us,0≤v∧v<N
theorem M2{own:Own}{u:Int}{sp:List Spot}{N:Nat}(hu:0≤u∧u<N)(ho:∀s v,own s=some v→0≤v∧v<N):∀ {ls:List Ln} {us us':List Int},Rh own u sp ls us=some us'→Zan N us→Zan N us'∧us.length≤us'.length
 | [],us,us',h,hus=>by cases h;exact⟨hus,Nat.le_refl _⟩
 |x::ls,us,us',h,hus=>by
  simp only[Rh]at h
  split at h
  ·exact M2 hu ho h hus
  ·split at h
   ·cases h
   ·rename_i n hn
    have hr:0≤n∧n<N:=by
     unfold Br at hn
     split at hn
     ·split at hn
      ·cases hn;exact hu
      ·cases hn
     ·exact ho _ _ hn
    split at h
    ·exact M2 hu ho h hus
    ·rename_i hni
     have:=M2 hu ho h (us:=us++[n]) ⟨List.nodup_append.2 ⟨hus.1,by simp,fun a ha b hb e=>by simp only[List.mem_singleton]at hb;subst hb;subst e;exact hni ha⟩,fun v hv=>by
      rcases List.mem_append.1 hv with hv|hv
      ·exact hus.2 v hv
      ·simp only[List.mem_singleton]at hv;subst hv;exact hr⟩
     refine⟨this.1,?_⟩
     have h2:=this.2
     simp only[List.length_append,List.length_cons,List.length_nil]at h2;omega
theorem nodup_range:∀(N:Nat) (us:List Int),Zan N us→us.length≤N
 |0,us,h=>by
  cases us with
  |nil=>exact Nat.le_refl _
  |cons x us=>have:=h.2 x (by simp);omega
 |N+1,us,h=>by
  have h1:=nodup_range N (us.erase (N:Int)) ⟨h.1.erase _,fun v hv=>by
   have h2:=h.2 v (List.mem_of_mem_erase hv)
   have h3:v≠(N:Int):=fun e=>by rw[e]at hv;exact(List.Nodup.not_mem_erase h.1) hv
   omega⟩
  have h2:us.length≤(us.erase (N:Int)).length+1:=by rw[List.length_erase];split<;>omega
  omega
def lk1(l:List (List UInt8×List Ln))(own:Own):Nat→Nat→List Int→Int→Own→List Spot→(List Int×Own×List Spot)×Int×Int
 |0,_,_,_,_,_=>(([],T9,[]),99,0)
 |f+1,i,us,at_,g,sps=>if us.length≤i then((us,g,sps),0,0)else
   if(Yc (l.getD (us.getD i 0).toNat Nd).2 at_).2.2.1≠0 then(([],T9,[]),(Yc (l.getD (us.getD i 0).toNat Nd).2 at_).2.2.1,us.getD i 0)else
   match Rh own (us.getD i 0) (Yc (l.getD (us.getD i 0).toNat Nd).2 at_).1 (l.getD (us.getD i 0).toNat Nd).2 us with
   |none=>(([],T9,[]),6,us.getD i 0)
   |some us'=>lk1 l own f (i+1) us' (Yc (l.getD (us.getD i 0).toNat Nd).2 at_).2.1 (Ei (Yc (l.getD (us.getD i 0).toNat Nd).2 at_).1 g) (sps++Md (Yc (l.getD (us.getD i 0).toNat Nd).2 at_).1)
set_option maxHeartbeats 8000000 in
theorem Zfe{w:World}{X:List Nat}{fr:List Value}{Q:Exit→St→Prop}(l:List (List UInt8×List Ln))(own:Own)(us0:List Int)(RES:(List Int×Own×List Spot)×Int×Int)
 (hl:l.length≤400)(hu:∀u∈l,u.2.length≤40000∧(Yc u.2 0).2.2.1=0)(ho:∀s v,own s=some v→0≤v∧v<l.length)(hus0:Zan l.length us0)(hres:lk1 l own 402 0 us0 0 T9 []=RES)
 (hQ:RES.2.1=0→∀S' i at_ n,Zan l.length RES.1.1→RES.1.2.2.length≤40000*400→Ent ⟨Tryz.prog,w,X,199,fr⟩ S' ⟨[(13,.one (.a (.int .i64 i))),(12,.one (.a (.int .i64 at_))),(11,.one (.a (.loc 5 0))),(10,.one (.a (.loc 2 0))),(6,.one (.a (.ref 1))),(5,.one (.a (.loc 8 0))),(4,.one (.a (.loc 7 0))),(0,.one (.a (.ref 0)))],[(0,.rou l),(1,.smap Tryz.prog 9 3 (.int .i64) own 16000000),(2,.cells 78 [(.raw (.slice none 0 0)),.ref 3,.ref 4]),(3,.row 3 (.int .i64) RES.1.1),(4,.row 109 .spot RES.1.2.2),(5,.cells 101 [.ref 6]),(6,.smap Tryz.prog 9 3 (.int .i64) RES.1.2.1 n),(7,.cells 78 [(.raw (.slice none 0 0)),(.raw (.slice none 0 0)),(.raw (.slice none 0 0))]),(8,.cells 80 [.int .i64 0,.int .i64 0])],9⟩→Q (.exit 0) S')
 (hE:RES.2.1≠0→∀S',Ent ⟨Tryz.prog,w,X,199,fr⟩ S' ⟨[(5,.one (.a (.loc 1 0))),(4,.one (.a (.loc 0 0)))],[(0,.cells 78 [(.raw (.slice none 0 0)),(.raw (.slice none 0 0)),(.raw (.slice none 0 0))]),(1,.cells 80 [.int .i64 RES.2.1,.int .i64 RES.2.2])],2⟩→Q .ret S'):
 T ⟨Tryz.prog,w,X,199,fr⟩ (.loop W3.c52) Q ⟨[(13,.one (.a (.int .i64 0))),(12,.one (.a (.int .i64 0))),(11,.one (.a (.loc 5 0))),(10,.one (.a (.loc 2 0))),(6,.one (.a (.ref 1))),(5,.one (.a (.loc 8 0))),(4,.one (.a (.loc 7 0))),(0,.one (.a (.ref 0)))],[(0,.rou l),(1,.smap Tryz.prog 9 3 (.int .i64) own 16000000),(2,.cells 78 [(.raw (.slice none 0 0)),.ref 3,.ref 4]),(3,.row 3 (.int .i64) us0),(4,.row 109 .spot []),(5,.cells 101 [.ref 6]),(6,.smap Tryz.prog 9 3 (.int .i64) T9 0),(7,.cells 78 [(.raw (.slice none 0 0)),(.raw (.slice none 0 0)),(.raw (.slice none 0 0))]),(8,.cells 80 [.int .i64 0,.int .i64 0])],9⟩:=by
 refine T.loop (ι:= {p:Nat×List Int×Int×Own×Nat×List Spot//p.1≤p.2.1.length∧Zan l.length p.2.1∧(0≤p.2.2.1∧p.2.2.1≤65536)∧p.2.2.2.2.1≤40000*p.1∧p.2.2.2.2.2.length≤40000*p.1∧lk1 l own (402-p.1) p.1 p.2.1 p.2.2.1 p.2.2.2.1 p.2.2.2.2.2=RES})
  (fun x=>⟨[(13,.one (.a (.int .i64 (x.1.1:Int)))),(12,.one (.a (.int .i64 x.1.2.2.1))),(11,.one (.a (.loc 5 0))),(10,.one (.a (.loc 2 0))),(6,.one (.a (.ref 1))),(5,.one (.a (.loc 8 0))),(4,.one (.a (.loc 7 0))),(0,.one (.a (.ref 0)))],[(0,.rou l),(1,.smap Tryz.prog 9 3 (.int .i64) own 16000000),(2,.cells 78 [(.raw (.slice none 0 0)),.ref 3,.ref 4]),(3,.row 3 (.int .i64) x.1.2.1),(4,.row 109 .spot x.1.2.2.2.2.2),(5,.cells 101 [.ref 6]),(6,.smap Tryz.prog 9 3 (.int .i64) x.1.2.2.2.1 x.1.2.2.2.2.1),(7,.cells 78 [(.raw (.slice none 0 0)),(.raw (.slice none 0 0)),(.raw (.slice none 0 0))]),(8,.cells 80 [.int .i64 0,.int .i64 0])],9⟩) (fun x=>l.length-x.1.1) ⟨(0,us0,0,T9,0,[]),by simp,hus0,by simp,by simp,by simp,hres⟩ (Ent.mk1 (id) (by simp[Zy,Eg])) ?_
 rintro⟨⟨i,us,at_,g,n,sps⟩,hi,hus,⟨ha0,ha1⟩,hn,hsps,hrun⟩
 simp only at hi hus ha0 ha1 hn hsps hrun
 have hul:=nodup_range _ _ hus
 obtain⟨f,hf⟩:∃f,402-i=f+1:=⟨401-i,by omega⟩
 rw[hf]at hrun
 simp only[lk1]at hrun
 by_cases hlt:i<us.length
 ·rw[if_neg (by omega)]at hrun
  have hmem:us.getD i 0∈us:=by simp[List.getD,hlt]
  generalize hx:us.getD i 0=u at hrun hmem
  have hx':us.getD i (Kd.dflt (.int .i64))=u:=hx
  have hur:=hus.2 u hmem
  have humem:l.getD u.toNat Nd∈l:=by
   have:u.toNat<l.length:=by omega
   simp[List.getD,this]
  generalize hU:l.getD u.toNat Nd=U at hrun humem
  have hU':l.getD u.toNat ([],[])=U:=hU
  obtain⟨hUl,hU0⟩:=hu U humem
  have hwr:=Sb U.2 0 0 [] [] hU0
  obtain⟨hsok,hslen,he0,he1⟩:=Hl U.2 at_ ha0 ha1
  have hSp:=O3 U.2 at_ hUl ha0 ha1
  have hw:IntKind.i64.wrap ((i:Int)+1)=((i+1:Nat):Int):=Zx (by omega)
  have ht:((i:Int)).toNat=i:=by omega
  by_cases hsp:(Yc U.2 at_).2.2.1=0
  ·rw[if_neg (by simpa using hsp)]at hrun
   generalize hsp1:(Yc U.2 at_).1=sp at hrun hsok hslen hSp
   generalize hend:(Yc U.2 at_).2.1=end_ at hrun hSp he0 he1
   repeat'(first|(first|refine Stp.h ?_|(refine Za.rw hSp ?_ ?_;(focus(((repeat'(first|exact rfl|exact trivial|refine And.intro ?_ ?_|(simp[Zz];done))));done))))<;>try simp only[Zd,simprocAttr,↓reduceIte,reduceCtorEq,implies_true,hx',hU',hw,ht,hsp,Int.ofNat_lt]|(with_reducible first|assumption|refine And.intro ?_ ?_)|(intro h;first|omega|exact tg h ‹_›|exact tg ‹_› h|skip))
   all_goals first|omega|skip
   refine T.weak (Ent.mk1 (fun n=>if n=9 then 10 else n) (by simp[Zy])) (Zbg l own i at_ u end_ us g n sps sp hsok (by omega) hn hsps (by omega) fun S1 n' hn' he=> ?_)
   simp only[Zd,simprocAttr,↓reduceIte,reduceCtorEq,implies_true]
   refine T.weak he ?_
   repeat'(first|(first|refine Stp.h ?_)<;>try simp only[Zd,simprocAttr,↓reduceIte,reduceCtorEq,implies_true,hU',hw,Int.ofNat_lt]|(with_reducible first|assumption|refine And.intro ?_ ?_)|(intro h;first|omega|exact tg h ‹_›|exact tg ‹_› h|skip))
   all_goals first|omega|skip
   refine T.weak (Ent.mk1 (id) (by simp[Zy])) (Zbh l own i end_ u us (Ei sp g) n' (sps++Md sp) sp U.2 hwr (by omega) hUl (by omega) (fun us' S2 hr he2=> ?_) fun S2 hr he2=> ?_)
   ·rw[hr]at hrun
    simp only at hrun
    obtain⟨hus2,hul2⟩:=M2 hur ho hr hus
    simp only[Zd,simprocAttr,↓reduceIte,reduceCtorEq,implies_true]
    refine T.weak he2 ?_
    repeat'(first|(first|refine Stp.h ?_)<;>try simp only[Zd,simprocAttr,↓reduceIte,reduceCtorEq,implies_true,hw,Int.ofNat_lt]|(with_reducible first|assumption|refine And.intro ?_ ?_)|(intro h;first|omega|exact tg h ‹_›|exact tg ‹_› h|skip))
    all_goals first|omega|skip
    have hvl:(Md sp).length≤sp.length:=List.length_filter_le _ _
    refine⟨⟨(i+1,us',end_,Ei sp g,n',sps++Md sp),by simp only;omega,hus2,⟨he0,he1⟩,hn',by simp only[List.length_append];omega,?_⟩,(Ent.mk1 (id) (by simp[Zy,hw])),by simp only;omega⟩
    have:402-(i+1)=f:=by omega
    simp only[this]
    exact hrun
   ·rw[hr]at hrun
    simp only at hrun
    have hE2:=hE (by rw[←hrun];simp)
    rw[←hrun]at hE2
    simp only at hE2
    simp only[Zd,simprocAttr,↓reduceIte,reduceCtorEq,implies_true]
    exact hE2 _ he2
  ·rw[if_pos (by simpa using hsp)]at hrun
   have hE2:=hE (by rw[←hrun];simpa using hsp)
   rw[←hrun]at hE2
   simp only at hE2
   repeat'(first|(first|refine Stp.h ?_|(refine Za.rw hSp ?_ ?_;(focus(((repeat'(first|exact rfl|exact trivial|refine And.intro ?_ ?_|(simp[Zz];done))));done))))<;>try simp only[Zd,simprocAttr,↓reduceIte,reduceCtorEq,implies_true,hx',hU',hw,ht,hsp,Int.ofNat_lt]|(with_reducible first|assumption|refine And.intro ?_ ?_)|(intro h;first|omega|exact tg h ‹_›|exact tg ‹_› h|skip))
   all_goals first|omega|exact hE2 _ (Ent.mk1 (fun n=>n+7) (by simp[Zy]))|skip
 ·rw[if_pos (by omega)]at hrun
  subst hrun
  repeat'(first|(first|refine Stp.h ?_)<;>try simp only[Zd,simprocAttr,↓reduceIte,reduceCtorEq,implies_true,Int.ofNat_lt]|(with_reducible first|assumption|refine And.intro ?_ ?_)|(intro h;first|omega|exact tg h ‹_›|exact tg ‹_› h|skip))
  all_goals first|omega|skip
  exact hQ rfl _ (i:Int) at_ n hus (by simp only;omega) (Ent.mk1 (id) (by simp[Zy]))
def Hw(g:Own)(sp:List Spot)(s:List UInt8):Int×Bool:=if M0 s=true then((sp.getD (Rn (fun y=>decide (y.name=s)) sp 0).toNat Ou).at_,true)else((g s).getD (0:Int),true)
def kn2(g:Own)(sp:List Spot):List S1→Option SV
 | [.a (.str s)]=>if s≠[]∧s.length≤32∧(M0 s=true→sp.any (fun y=>decide (y.name=s))=true)then some (.tup [.a (.int .i64 (Hw g sp s).1),.a (.bool (Hw g sp s).2)])else none
 |_=>none
theorem Zep(R:List (Nat×Res))(nx m:Nat)(s:List UInt8)(hm:Zo (roR R) m=some (Res.rocells [.str s])):Zak Tryz.prog R nx 70 [m] (Ok s):=by
 refine⟨Ts.enters,_,_,_,Ts.fn,fun args r hr=> ?_⟩
 unfold Ok at hr
 split at hr
 ·rename_i t n
  cases hr
  refine⟨by simp[T5,S1.bd,At.bd],by simp[SV.bd,S1.bd,At.bd],by simp,fun w=> ?_⟩
  refine T.weak (S2:=⟨[(0,.one (.agg [.str t,.int .i64 n])),(1,.one (.a (.loc 0 0)))],[(0,.rocells [.str s])],1⟩) (Ent.mk1 (fun _=>m) (by simp[Zy,hm,Y1])) ?_
  repeat'(first|(first|refine Stp.h ?_)<;>try simp only[Zd,simprocAttr,↓reduceIte,reduceCtorEq,implies_true]|(with_reducible first|assumption|refine And.intro ?_ ?_)|(intro h;first|omega|exact tg h ‹_›|exact tg ‹_› h|skip))
 ·cases hr
theorem Cq{α:Type}(p:α→Bool):∀(l:List α) (k:Nat),l.any p=true→(k:Int)≤Rn p l k∧Rn p l k<k+l.length
 | [],k,h=>by simp at h
 |x::l,k,h=>by
  simp only[Rn,List.length_cons]
  by_cases hp:p x=true
  ·rw[if_pos hp];omega
  ·rw[if_neg hp]
   have:=Cq p l (k+1) (by simpa[hp]using h)
   omega
set_option maxHeartbeats 4000000 in
theorem Zgg(R:List (Nat×Res))(nx mg q ms r:Nat)(g:Own)(n:Nat)(sp:List Spot)(hsl:sp.length≤40000)(h1:Zo (roR R) mg=some (Res.rocells [.ref q]))(h2:Zo (roR R) q=some (Res.rosmap Tryz.prog 9 3 (.int .i64) g n))
 (h3:Zo (roR R) ms=some (Res.rocells [.ref r]))(h4:Zo (roR R) r=some (Res.ro .spot sp))(hne:[mg,q,ms,r].Nodup):Zak Tryz.prog R nx 68 [mg,ms] (kn2 g sp):=by
 refine⟨R3.enters,_,_,_,R3.fn,fun args res hr=> ?_⟩
 unfold kn2 at hr
 split at hr
 ·rename_i s
  split at hr
  ·rename_i hs
   cases hr
   obtain⟨hs1,hs2,hs3⟩:=hs
   simp only[List.nodup_cons,List.mem_cons,List.not_mem_nil,or_false,not_or,List.nodup_nil,and_true,not_false_eq_true]at hne
   obtain⟨⟨n1,n2,n3⟩,⟨n4,n5⟩,n6⟩:=hne
   refine⟨by simp[T5,S1.bd,At.bd],by simp[SV.bd,S1.bd,At.bd],by simp,fun w=> ?_⟩
   refine T.weak (S2:=⟨[(0,.one (.a (.str s))),(1,.one (.a (.loc 0 0))),(2,.one (.a (.loc 2 0)))],[(0,.rocells [.ref 1]),(1,.rosmap Tryz.prog 9 3 (.int .i64) g n),(2,.rocells [.ref 3]),(3,.ro .spot sp)],4⟩)
    (Ent.mk1 (fun k=>if k=0 then mg else if k=1 then q else if k=2 then ms else r) (by simp[Zy,h1,h2,h3,h4,Y1,n1,n2,n3,n4,n5,n6])) ?_
   have hsl2:s.length≤9223372036854775807:=by omega
   have hgs:∀y∈sp,Ok s [.agg [.str y.name,.int .i64 y.at_]]=some (.one (.a (.bool ((fun y:Spot=>decide (y.name=s)) y)))):=fun y _=>rfl
   have hIF:=Ni sp (Ok s) (fun y=>decide (y.name=s)) hgs (by omega)
   cases hown:M0 s with
   |true=>
    have hr:=Cq (fun y:Spot=>decide (y.name=s)) sp 0 (hs3 hown)
    generalize hI:Rn (fun y:Spot=>decide (y.name=s)) sp 0=I at hIF hr
    have hI2:sp.getD I.toNat (Kd.dflt .spot)=sp.getD I.toNat Ou:=rfl
    repeat'(first|(first|refine Stp.h ?_|(refine rq (Xn s hs1) ?_ ?_;focus simp[Zz];done)|(refine Za.gc hIF ?_ ?_;rotate_left))<;>try simp only[Zd,simprocAttr,↓reduceIte,reduceCtorEq,implies_true,hown,hI2]|(with_reducible first|assumption|refine And.intro ?_ ?_)|(intro h;first|omega|exact tg h ‹_›|exact tg ‹_› h|skip))
    all_goals first|omega|skip
    ·unfold Hw;rw[if_pos hown,hI]
    ·exact⟨rfl,⟨rfl,⟨rfl,by simp,Zep _ _ _ s rfl⟩,trivial⟩,List.nodup_nil⟩
   |false=>
    have hd:(g s).getD (Kd.dflt (.int .i64))=(g s).getD 0:=rfl
    repeat'(first|(first|refine Stp.h ?_|(refine rq (Xn s hs1) ?_ ?_;focus simp[Zz];done))<;>try simp only[Zd,simprocAttr,↓reduceIte,reduceCtorEq,implies_true,hown,hd]|(with_reducible first|assumption|refine And.intro ?_ ?_)|(intro h;first|omega|exact tg h ‹_›|exact tg ‹_› h|skip))
    all_goals first|omega|skip
    unfold Hw;rw[if_neg (by rw[hown];decide)]
  ·cases hr
 ·cases hr
def Nn:List Ln→Int
 | []=>0
 |x::l=>Og x+Nn l
def O7(l:List Ln):List (List UInt8):=(l.filter fun x=>decide (x.label≠[])).map Ln.label
theorem Mb:∀(l:List Ln) (k:Nat) (a:Int) (seen:List (List UInt8)) (acc:List Spot),(Wu l k a seen acc).2.2.1=0→(Wu l k a seen acc).2.1=a+Nn l∧(Wu l k a seen acc).1.map Spot.name=acc.map Spot.name++O7 l
 | [],k,a,seen,acc,h=>by simp[Wu,Nn,O7]
 |x::l,k,a,seen,acc,h=>by
  unfold Wu at h ⊢
  split at h
  ·rename_i h1;exact absurd h h1
  ·rename_i h1
   rw[if_neg h1]
   split at h
   ·rename_i hl
    rw[if_pos hl]
    split at h
    ·exact absurd h (by simp)
    ·rename_i hs
     rw[if_neg hs]
     obtain⟨g1,g2⟩:=Mb l _ _ _ _ h
     refine⟨by rw[g1,Nn,C0 hl];omega,?_⟩
     rw[g2];simp[O7,hl]
   ·rename_i hl
    rw[if_neg hl]
    split at h
    ·exact absurd h (by simp)
    ·rename_i hs
     rw[if_neg hs]
     obtain⟨g1,g2⟩:=Mb l _ _ _ _ h
     refine⟨by rw[g1,Nn];omega,?_⟩
     rw[g2]
     have hl':x.label=[]:=by simpa using hl
     simp[O7,hl']
theorem Gy{l:List Ln}{a:Int}(h:(Yc l a).2.2.1=0):(Yc l a).2.1=a+Nn l∧(Yc l a).1.map Spot.name=O7 l:=by
 have:=Mb l 0 a [] [] h
 simpa[Yc]using this
theorem H6(sp:List Spot)(s:List UInt8):sp.any (fun y=>decide (y.name=s))=decide (s∈sp.map Spot.name):=by
 rw[Bool.eq_iff_iff];simp
@[reducible] def P6:Type:=List (List UInt8×List Ln)
def Yt(l:P6)(u:Int):List Ln:=(l.getD u.toNat Nd).2
def Nc(l:P6):List Int→Nat→Int
 | [],_=>0
 |_,0=>0
 |u::us,k+1=>Nn (Yt l u)+Nc l us k
theorem Rv(l:P6):∀(us vs:List Int) (k:Nat),k≤us.length→Nc l (us++vs) k=Nc l us k
 | [],vs,k,h=>by
   have:k=0:=by simpa using h
   subst this
   cases vs<;>rfl
 |u::us,vs,0,h=>rfl
 |u::us,vs,k+1,h=>by simp only[List.cons_append,Nc,Rv l us vs k (by simpa using h)]
theorem Lt(l:P6):∀(us:List Int) (k:Nat),k<us.length→Nc l us (k+1)=Nc l us k+Nn (Yt l (us.getD k 0))
 |u::us,0,h=>by cases us<;>simp[Nc]
 |u::us,k+1,h=>by
  have:=Lt l us k (by simpa using h)
  have e1:Nc l (u::us) (k+1+1)=Nn (Yt l u)+Nc l us (k+1):=rfl
  have e2:Nc l (u::us) (k+1)=Nn (Yt l u)+Nc l us k:=rfl
  rw[e1,e2,this]
  simp only[List.getD_cons_succ];omega
def Nh(l:P6)(own:Own)(us:List Int)(k:Nat):Prop:=
 (Yc (Yt l (us.getD k 0)) (Nc l us k)).2.2.1=0∧∀x∈Yt l (us.getD k 0),x.ref≠[]→if M0 x.ref=true then x.ref∈O7 (Yt l (us.getD k 0))else∃v,own x.ref=some v∧v∈us
theorem Us{own:Own}{u:Int}{sp:List Spot}:∀ {ls:List Ln} {us us':List Int},Rh own u sp ls us=some us'→∃vs,us'=us++vs
 | [],us,us',h=>by cases h;exact⟨[],by simp⟩
 |x::ls,us,us',h=>by
  simp only[Rh]at h
  split at h
  ·exact Us h
  ·split at h
   ·cases h
   ·split at h
    ·exact Us h
    ·obtain⟨vs,rfl⟩:=Us h
     exact⟨[_]++vs,List.append_assoc _ _ _⟩
theorem Lx{own:Own}{u:Int}{sp:List Spot}:∀ {ls:List Ln} {us us':List Int},Rh own u sp ls us=some us'→∀x∈ls,x.ref≠[]→∃v,Br own u sp x.ref=some v∧v∈us'
 |y::ls,us,us',h,x,hx,hr=>by
  simp only[Rh]at h
  by_cases hy:y.ref=[]
  ·rw[if_pos hy]at h
   rcases List.mem_cons.1 hx with rfl|hx
   ·exact absurd hy hr
   ·exact Lx h x hx hr
  ·rw[if_neg hy]at h
   split at h
   ·cases h
   ·rename_i v hv
    rcases List.mem_cons.1 hx with rfl|hx
    ·refine⟨v,hv,?_⟩
     obtain⟨vs,rfl⟩:=Us h
     split
     ·exact List.mem_append_left _ (by assumption)
     ·simp
    ·exact Lx h x hx hr
theorem Nh.mono{l:P6}{own:Own}{us:List Int}{k:Nat}(h:Nh l own us k)(hk:k<us.length)(vs:List Int):Nh l own (us++vs) k:=by
 unfold Nh at h ⊢
 have e1:(us++vs).getD k 0=us.getD k 0:=by simp[List.getD,List.getElem?_append_left hk]
 rw[e1,Rv l us vs k (by omega)]
 refine⟨h.1,fun x hx hr=> ?_⟩
 have:=h.2 x hx hr
 split
 ·rename_i ho;rwa [if_pos ho]at this
 ·rename_i ho
  rw[if_neg ho]at this
  obtain⟨v,h1,h2⟩:=this
  exact⟨v,h1,List.mem_append_left _ h2⟩
theorem Cy{l:P6}{own:Own}:∀(f i:Nat) (us:List Int) (at_:Int) (g:Own) (sps:List Spot),(lk1 l own f i us at_ g sps).2.1=0→i≤us.length→at_=Nc l us i→(∀k,k<i→Nh l own us k)→
 (∀k,k<(lk1 l own f i us at_ g sps).1.1.length→Nh l own (lk1 l own f i us at_ g sps).1.1 k)∧∃vs,(lk1 l own f i us at_ g sps).1.1=us++vs
 |0,i,us,at_,g,sps,h,_,_,_=>by simp[lk1]at h
 |f+1,i,us,at_,g,sps,h,hi,ha,hg=>by
  unfold lk1 at h ⊢
  split at h
  ·rename_i h1
   rw[if_pos h1]
   exact⟨fun k hk=>hg k (by simp only at hk;omega),[],by simp⟩
  ·rename_i h1
   rw[if_neg h1]
   split at h
   ·rename_i h2;exact absurd h h2
   ·rename_i h2
    rw[if_neg h2]
    split at h
    ·simp at h
    ·rename_i us' hus'
     obtain⟨vs,rfl⟩:=Us hus'
     have hlt:i<us.length:=by omega
     have hsp:(Yc (l.getD (us.getD i 0).toNat Nd).2 at_).2.2.1=0:=by simpa using h2
     obtain⟨hend,hnm⟩:=Gy hsp
     have hgi:Nh l own (us++vs) i:=by
      unfold Nh
      have e1:(us++vs).getD i 0=us.getD i 0:=by simp[List.getD,List.getElem?_append_left hlt]
      rw[e1,Rv l us vs i (by omega),←ha]
      refine⟨hsp,fun x hx hr=> ?_⟩
      obtain⟨v,h3,h4⟩:=Lx hus' x hx hr
      unfold Br at h3
      split
      ·rename_i ho
       rw[if_pos ho]at h3
       split at h3
       ·rename_i h5
        rw[H6,hnm]at h5
        simpa[Yt]using h5
       ·cases h3
      ·rename_i ho
       rw[if_neg ho]at h3
       exact⟨v,h3,h4⟩
     obtain⟨r1,vs2,r2⟩:=Cy f (i+1) (us++vs) _ _ _ h (by simp;omega) (by
      rw[hend,Rv l us vs (i+1) (by omega),Lt l us i hlt,ha];rfl) (fun k hk=>by
       by_cases hki:k<i
       ·exact(hg k hki).mono (by omega) vs
       ·have:k=i:=by omega
        subst this;exact hgi)
     refine⟨by simpa[hus']using r1,vs++vs2,?_⟩
     simpa[hus',List.append_assoc]using r2
end Go.Proofs.YtbmecnjmbhokgaaGreatDoor
namespace Go.Proofs.YtbmecnjmbhokgaaGreatDoor
open Go.RowKit Vc
set_option linter.unusedVariables false
set_option linter.unusedSimpArgs false
def entQ(c:Cx)(Q:Exit→St→Prop)(e:Exit)(S:St):Prop:=∃S2,Ent c S S2∧Q e S2
theorem T.entQ{c:Cx}{Q:Exit→St→Prop}{S:St}{x:IC}(h:T c x (entQ c Q) S):T c x Q S:=by
 intro ρ a w hh code hc
 refine wp_mono (h ρ a w hh code hc) fun e a' w' hl=> ?_
 obtain⟨S',ρ',g1,S2,g2,g3⟩:=hl
 obtain⟨ρ2,g4⟩:=g2 ρ' a' w' g1
 exact⟨S2,ρ2,g4,g3⟩
attribute [local irreducible] T Za Zn Ent RdC RwC Yj Zf Zi
theorem D7:∀(l:List Ins) (k:Nat) (acc:List Int),acc.length≤65536→(Zay l k acc).1.length≤65536
 | [],_,_,h=>h
 |x::l,k,acc,h=>by
  simp only[Zay]
  split
  ·split
   ·simp
   ·exact D7 l _ _ (by omega)
  ·simp
theorem Zg0(l:List Ins):(D8 l).1.length≤65536:=D7 l 0 [] (by simp)
def lk2(l:P6)(g:Own):List Int→Int→List Int→List Int
 | [],_,acc=>acc
 |u::us,at_,acc=>lk2 l g us (Yc (Yt l u) at_).2.1 (acc++(D8 (Ut (Hw g (Yc (Yt l u) at_).1) (Yt l u)).1).1)
set_option maxHeartbeats 8000000 in
theorem Zhd{w:World}{X:List Nat}{fr:List Value}{Q:Exit→St→Prop}(l:P6)(own g:Own)(us:List Int)(n:Nat)(sps:List Spot)
 (hu:∀u∈l,u.2.length≤40000∧(Yc u.2 0).2.2.1=0)(hus:Zan l.length us)(hul:us.length≤400)(hgood:∀k,k<us.length→Nh l own us k)
 (hQ:∀S',Ent ⟨Tryz.prog,w,X,199,fr⟩ S' ⟨[(10,.one (.a (.loc 2 0))),(5,.one (.a (.loc 8 0))),(4,.one (.a (.loc 7 0)))],[(2,.cells 78 [.ref 9,.ref 3,.ref 4]),(3,.row 3 (.int .i64) us),(4,.row 109 .spot sps),(7,.cells 78 [(.raw (.slice none 0 0)),(.raw (.slice none 0 0)),(.raw (.slice none 0 0))]),(8,.cells 80 [.int .i64 0,.int .i64 0]),(9,.row 3 (.int .i64) (lk2 l g us 0 []))],10⟩→Q (.exit 6) S'):
 T ⟨Tryz.prog,w,X,199,fr⟩ (.loop W3.c65) Q ⟨[(160,.one (.a (.int .i64 0))),(159,.one (.a (.int .i64 us.length))),(158,.one (.a (.ref 3))),(12,.one (.a (.int .i64 0))),(11,.one (.a (.loc 5 0))),(10,.one (.a (.loc 2 0))),(5,.one (.a (.loc 8 0))),(4,.one (.a (.loc 7 0))),(0,.one (.a (.ref 0)))],[(0,.rou l),(2,.cells 78 [.ref 9,.ref 3,.ref 4]),(3,.row 3 (.int .i64) us),(4,.row 109 .spot sps),(5,.cells 101 [.ref 6]),(6,.smap Tryz.prog 9 3 (.int .i64) g n),(7,.cells 78 [(.raw (.slice none 0 0)),(.raw (.slice none 0 0)),(.raw (.slice none 0 0))]),(8,.cells 80 [.int .i64 0,.int .i64 0]),(9,.row 3 (.int .i64) [])],10⟩:=by
 refine T.loop (ι:= {p:Nat×Int×List Int//p.1≤us.length∧lk2 l g (us.drop p.1) p.2.1 p.2.2=lk2 l g us 0 []∧p.2.1=Nc l us p.1∧(0≤p.2.1∧p.2.1≤65536)∧p.2.2.length≤65536*p.1})
  (fun x=>⟨[(160,.one (.a (.int .i64 (x.1.1:Int)))),(159,.one (.a (.int .i64 us.length))),(158,.one (.a (.ref 3))),(12,.one (.a (.int .i64 x.1.2.1))),(11,.one (.a (.loc 5 0))),(10,.one (.a (.loc 2 0))),(5,.one (.a (.loc 8 0))),(4,.one (.a (.loc 7 0))),(0,.one (.a (.ref 0)))],[(0,.rou l),(2,.cells 78 [.ref 9,.ref 3,.ref 4]),(3,.row 3 (.int .i64) us),(4,.row 109 .spot sps),(5,.cells 101 [.ref 6]),(6,.smap Tryz.prog 9 3 (.int .i64) g n),(7,.cells 78 [(.raw (.slice none 0 0)),(.raw (.slice none 0 0)),(.raw (.slice none 0 0))]),(8,.cells 80 [.int .i64 0,.int .i64 0]),(9,.row 3 (.int .i64) x.1.2.2)],10⟩) (fun x=>us.length-x.1.1) ⟨(0,0,[]),by simp,by simp,by cases us<;>rfl,by simp,by simp⟩ (Ent.mk1 (id) (by simp[Zy])) ?_
 rintro⟨⟨k,at_,ws⟩,hk,hrun,hat,⟨ha0,ha1⟩,hws⟩
 simp only at hk hrun hat ha0 ha1 hws
 by_cases hlt:k<us.length
 ·have hdrop:us.drop k=us.getD k 0::us.drop (k+1):=by
   rw[List.drop_eq_getElem_cons hlt];simp[List.getD,hlt]
  have hmem:us.getD k 0∈us:=by simp[List.getD,hlt]
  have hgk:=hgood k hlt
  unfold Nh at hgk
  rw[←hat]at hgk
  generalize hx:us.getD k 0=u at hdrop hmem hgk
  have hx':us.getD k (Kd.dflt (.int .i64))=u:=hx
  have hur:=hus.2 u hmem
  have humem:l.getD u.toNat Nd∈l:=by
   have:u.toNat<l.length:=by omega
   simp[List.getD,this]
  obtain⟨hUl,hU0⟩:=hu _ humem
  have hU':l.getD u.toNat ([],[])=l.getD u.toNat Nd:=rfl
  have hU2:(l.getD u.toNat Nd).2=Yt l u:=rfl
  rw[hU2]at hUl hU0
  have hwr:=Sb (Yt l u) 0 0 [] [] hU0
  obtain⟨hsok,hslen,he0,he1⟩:=Hl (Yt l u) at_ ha0 ha1
  have hSp:=O3 (Yt l u) at_ hUl ha0 ha1
  obtain⟨hend,hnm⟩:=Gy hgk.1
  have hoff:(Yc (Yt l u) at_).2.1=Nc l us (k+1):=by rw[hend,Lt l us k hlt,hx,hat]
  rw[hdrop]at hrun
  simp only[lk2]at hrun
  have hw:IntKind.i64.wrap ((k:Int)+1)=((k+1:Nat):Int):=Zx (by omega)
  have ht:((k:Int)).toNat=k:=by omega
  have hKn:Knows (kn2 g (Yc (Yt l u) at_).1) (Hw g (Yc (Yt l u) at_).1) (Yt l u):=by
   intro x hx hlb hrf
   have hxl:=Ol ((Mg (hwr x hx) hlb).2 hrf).1
   have h2:=hgk.2 x hx hrf
   unfold kn2
   simp only
   rw[if_pos ⟨hrf,hxl,fun ho=>by
    rw[if_pos ho]at h2
    rw[H6,hnm];simpa using h2⟩]
  have hRs:=Dk (Yt l u) (kn2 g (Yc (Yt l u) at_).1) (Hw g (Yc (Yt l u) at_).1) hKn hUl
  generalize hsp1:(Yc (Yt l u) at_).1=sp at hrun hsok hslen hSp hRs
  generalize hend1:(Yc (Yt l u) at_).2.1=end_ at hrun hSp he0 he1 hoff
  have hEn:=Zaj (Ut (Hw g sp) (Yt l u)).1
  have hem:=Zg0 (Ut (Hw g sp) (Yt l u)).1
  generalize hen:D8 (Ut (Hw g sp) (Yt l u)).1=en at hrun hEn hem
  repeat'(first|(first|refine Stp.h ?_|(refine Za.rw hSp ?_ ?_;(focus(((repeat'(first|exact rfl|exact trivial|refine And.intro ?_ ?_|(simp[Zz];done))));done)))|(refine Za.rw hEn ?_ ?_;(focus(((repeat'(first|exact rfl|exact trivial|refine And.intro ?_ ?_|(simp[Zz];done))));done)))|(refine Za.gc hRs ?_ ?_;rotate_left))<;>try simp only[Zd,simprocAttr,↓reduceIte,reduceCtorEq,implies_true,hx',hU',hU2,hw,ht,Int.ofNat_lt]|(with_reducible first|assumption|refine And.intro ?_ ?_)|(intro h;first|omega|exact tg h ‹_›|exact tg ‹_› h|skip))
  all_goals first|omega|skip
  ·exact⟨⟨(k+1,end_,ws++en.1),hlt,hrun,hoff,⟨he0,he1⟩,by simp only[List.length_append];omega⟩,(Ent.mk1 (fun n=>if n=9 then 19 else n) (by simp[Zy,hw])),by simp only;omega⟩
  ·exact⟨rfl,⟨rfl,⟨rfl,by simp,Zgg _ _ 5 6 12 11 g n sp (by omega) rfl rfl rfl rfl (by decide)⟩,trivial⟩,List.nodup_nil⟩
 ·have hk2:k=us.length:=by omega
  subst hk2
  rw[List.drop_length]at hrun
  simp only[lk2]at hrun
  subst hrun
  repeat'(first|(first|refine Stp.h ?_)<;>try simp only[Zd,simprocAttr,↓reduceIte,reduceCtorEq,implies_true,Int.ofNat_lt]|(with_reducible first|assumption|refine And.intro ?_ ?_)|(intro h;first|omega|exact tg h ‹_›|exact tg ‹_› h|skip))
  all_goals first|omega|skip
  exact hQ _ (Ent.mk1 (id) (by simp[Zy]))
def linkS(l:P6)(entry:List UInt8):(List Int×List Int×List Spot)×Int×Int:=
 if(Z7 l).2.1≠0 then(([],[],[]),(Z7 l).2.1,(Z7 l).2.2)else
 match(Z7 l).1 entry with
 |none=>(([],[],[]),6,(l.length:Int))
 |some first=>if(lk1 l (Z7 l).1 402 0 [first] 0 T9 []).2.1≠0 then(([],[],[]),(lk1 l (Z7 l).1 402 0 [first] 0 T9 []).2)else
   ((lk2 l (lk1 l (Z7 l).1 402 0 [first] 0 T9 []).1.2.1 (lk1 l (Z7 l).1 402 0 [first] 0 T9 []).1.1 0 [],(lk1 l (Z7 l).1 402 0 [first] 0 T9 []).1.1,(lk1 l (Z7 l).1 402 0 [first] 0 T9 []).1.2.2),0,0)
def lkV(r:(List Int×List Int×List Spot)×Int×Int):SV:=if r.2.1=0 then .tup [.agg [.ref 1,.ref 2,.ref 3],.agg [.int .i64 0,.int .i64 0]]else .tup [.agg [.raw (.slice none 0 0),.raw (.slice none 0 0),.raw (.slice none 0 0)],.agg [.int .i64 r.2.1,.int .i64 r.2.2]]
def lkR(r:(List Int×List Int×List Spot)×Int×Int):List (Nat×Res):=if r.2.1=0 then[(1,.row 3 (.int .i64) r.1.1),(2,.row 3 (.int .i64) r.1.2.1),(3,.row 109 .spot r.1.2.2)]else[]
theorem Zhe{r:(List Int×List Int×List Spot)×Int×Int}(h:r.2.1≠0):lkV r= .tup [.agg [.raw (.slice none 0 0),.raw (.slice none 0 0),.raw (.slice none 0 0)],.agg [.int .i64 r.2.1,.int .i64 r.2.2]]∧lkR r=[]:=by
 unfold lkV lkR;rw[if_neg h,if_neg h];exact⟨rfl,rfl⟩
theorem lk_ok{r:(List Int×List Int×List Spot)×Int×Int}(h:r.2.1=0):lkV r= .tup [.agg [.ref 1,.ref 2,.ref 3],.agg [.int .i64 0,.int .i64 0]]∧lkR r=[(1,.row 3 (.int .i64) r.1.1),(2,.row 3 (.int .i64) r.1.2.1),(3,.row 109 .spot r.1.2.2)]:=by
 unfold lkV lkR;rw[if_pos h,if_pos h];exact⟨rfl,rfl⟩
set_option maxHeartbeats 8000000 in
theorem Link_gc(l:P6)(entry:List UInt8)(hf:Fits l)(hen:entry.length≤9223372036854775807):
 GC Tryz.prog 43 [.a (.ref 0),.a (.str entry)] [(0,.rou l)] 1 [] (lkV (linkS l entry)) (lkR (linkS l entry)) 4:=by
 refine W3.fn.gc (by simp) (by
  unfold lkV lkR
  by_cases h:(linkS l entry).2.1=0
  ·rw[if_pos h,if_pos h];exact(by simp[Zu,Zw,Zv,Zj,Ze,Vc.S1.okN,At.okN,SV.okN,Res.okN,Res.outOk,Zo,Res.own,Value.oneCell'])
  ·rw[if_neg h,if_neg h];exact(by simp[Zu,Zw,Zv,Zj,Ze,Vc.S1.okN,At.okN,SV.okN,Res.okN,Res.outOk,Zo,Res.own,Value.oneCell'])) fun w X fr=> ?_
 have hch:=Zat l hf
 generalize hR:linkS l entry=R
 unfold linkS at hR
 by_cases he:(Z7 l).2.1=0
 ·rw[if_neg (by simpa using he)]at hR
  obtain⟨hl,hu,ho⟩:=Dx he
  obtain⟨e1,e2⟩:=ch_ok (l:=l) (k:=(Z7 l).2.2) (f:=(Z7 l).1) (by rw[←he])
  rw[e1,e2]at hch
  generalize hown:(Z7 l).1=own at hR hch ho
  cases hoe:own entry with
  |none=>
   rw[hoe]at hR
   simp only at hR
   obtain⟨e3,e4⟩:=Zhe (r:=R) (by rw[←hR];simp)
   rw[e3,e4,←hR]
   repeat'(first|(first|refine Stp.h ?_|(refine Za.gc hch ?_ ?_;focus simp[Zb]))<;>try simp only[Zd,simprocAttr,↓reduceIte,reduceCtorEq,implies_true,hoe]|(with_reducible first|assumption|refine And.intro ?_ ?_)|(intro h;first|omega|exact tg h ‹_›|exact tg ‹_› h|skip))
   all_goals first|omega|skip
  |some first=>
   rw[hoe]at hR
   simp only at hR
   generalize hRES:lk1 l own 402 0 [first] 0 T9 []=RES at hR
   repeat'(first|(first|refine Stp.h ?_|(refine Za.gc hch ?_ ?_;focus simp[Zb]))<;>try simp only[Zd,simprocAttr,↓reduceIte,reduceCtorEq,implies_true,hoe]|(with_reducible first|assumption|refine And.intro ?_ ?_)|(intro h;first|omega|exact tg h ‹_›|exact tg ‹_› h|skip))
   all_goals first|omega|skip
   refine T.weak (Ent.litRow (m:=8) (.int .i64) [first] rfl rfl rfl rfl (by decide)) ?_
   refine T.weak (Ent.nilCell (m:=5) (j:=2) 109 .spot rfl rfl) ?_
   refine T.entQ ?_
   have hgl:=Cy (l:=l) (own:=own) 402 0 [first] 0 T9 []
   rw[hRES]at hgl
   refine T.weak (Ent.mk1 (fun n=>if n=1 then 3 else if n=2 then 5 else if n=3 then 8 else if n=4 then 9 else if n=5 then 7 else if n=7 then 1 else if n=8 then 2 else n) (by simp[Zy,Eg])) (Zfe l own [first] RES hl hu ho ⟨by simp,fun v hv=>by
    simp only[List.mem_singleton]at hv;subst hv;exact ho _ _ hoe⟩ hRES (fun hz S1 i at_ n hus hsl he1=>⟨_,he1,?_⟩) fun hz S1 he1=>⟨_,he1,?_⟩)
   ·obtain⟨hgood,_⟩:=hgl hz (by simp) (by simp[Nc]) (fun k hk=>by omega)
    rw[if_neg (by simpa using hz)]at hR
    obtain⟨e3,e4⟩:=lk_ok (r:=R) (by rw[←hR])
    rw[e3,e4,←hR]
    generalize RES.1.1=us at*
    generalize RES.1.2.1=g at*
    generalize RES.1.2.2=sps at*
    have hul:=nodup_range _ _ hus
    simp only[Zd,simprocAttr,↓reduceIte,reduceCtorEq,implies_true]
    refine T.weak (Ent.nilCell (m:=2) (j:=0) 3 (.int .i64) rfl rfl) ?_
    repeat'(first|(first|refine Stp.h ?_)<;>try simp only[Zd,simprocAttr,↓reduceIte,reduceCtorEq,implies_true]|(with_reducible first|assumption|refine And.intro ?_ ?_)|(intro h;first|omega|exact tg h ‹_›|exact tg ‹_› h|skip))
    all_goals first|omega|skip
    refine T.weak (Ent.mk1 (id) (by simp[Zy])) (Zhd l own g us n sps hu hus (by omega) hgood fun S2 he2=> ?_)
    simp only[Zd,simprocAttr,↓reduceIte,reduceCtorEq,implies_true]
    refine T.weak he2 ?_
    repeat'(first|(first|refine Stp.h ?_)<;>try simp only[Zd,simprocAttr,↓reduceIte,reduceCtorEq,implies_true]|(with_reducible first|assumption|refine And.intro ?_ ?_)|(intro h;first|omega|exact tg h ‹_›|exact tg ‹_› h|skip))
    all_goals first|omega|skip
   ·rw[if_pos (by simpa using hz)]at hR
    obtain⟨e3,e4⟩:=Zhe (r:=R) (by rw[←hR];simpa using hz)
    rw[e3,e4,←hR]
    simp only[Zd,simprocAttr,↓reduceIte,reduceCtorEq,implies_true,W3.res]
 ·rw[if_pos (by simpa using he)]at hR
  obtain⟨e1,e2⟩:=Dw (l:=l) (k:=(Z7 l).2.2) (f:=(Z7 l).1) (e:=(Z7 l).2.1) rfl he
  rw[e1,e2]at hch
  obtain⟨e3,e4⟩:=Zhe (r:=R) (by rw[←hR];simpa using he)
  rw[e3,e4,←hR]
  repeat'(first|(first|refine Stp.h ?_|(refine Za.gc hch ?_ ?_;focus simp[Zb]))<;>try simp only[Zd,simprocAttr,↓reduceIte,reduceCtorEq,implies_true,he]|(with_reducible first|assumption|refine And.intro ?_ ?_)|(intro h;first|omega|exact tg h ‹_›|exact tg ‹_› h|skip))
  all_goals first|omega|skip
end Go.Proofs.YtbmecnjmbhokgaaGreatDoor
namespace Go.Proofs.YtbmecnjmbhokgaaGreatDoor
open Vc
end Go.Proofs.YtbmecnjmbhokgaaGreatDoor
namespace Go.Proofs.YtbmecnjmbhokgaaGreatDoor
open Go Go.RowKit Vc
set_option linter.unusedVariables false
set_option linter.unusedSimpArgs false
attribute [local irreducible] T Za Zn Ent RdC RwC Yj Zf Zi
theorem E5(i:Nat)(hi:i≤24)(ls:List Ln)(hl:ls.length≤1000):Fits (unitsTo i++[([],ls)])∧Fits (unitsTo i):=by
 have h1:∀u∈unitsTo i,u.2.length≤9223372036854775807:=fun u hu=>by
  obtain⟨k,hk,rfl⟩:=List.mem_map.1 hu
  have:=(Bq k (by have:=List.mem_range.1 hk;omega)).2.2
  show(linesAt k).length≤_
  omega
 have h2:=Oy i
 refine⟨⟨by simp only[List.length_append,List.length_cons,List.length_nil];omega,fun u hu=> ?_⟩,by omega,h1⟩
 rcases List.mem_append.1 hu with h|h
 ·exact h1 u h
 ·simp only[List.mem_singleton]at h
  subst h
  show ls.length≤_
  omega
def Z3:List UInt8:=[109,97,105,110]
def callL(n:List UInt8):Ln:=⟨[],⟨26,0,0,0⟩,n⟩
structure Ma where
 f:Nat→Int
 x:Fl
 pc:Int
 mem:List Int
 trap:Int
def wd(n:Int):Prop:=0≤n∧n≤65535
def Xi(i:Ins)(nx:Int)(m:Ma):Ma:=
 if i.op=1 then {m with f:=Qx m.f i.d.toNat (m.f i.s.toNat),pc:=nx}else
 if i.op=2 then {m with f:=Qx m.f i.d.toNat i.imm,pc:=nx}else
 if i.op=3 then {m with f:=Qx m.f i.d.toNat (m.mem.getD ((m.f i.s.toNat+i.imm)%65536).toNat 0),pc:=nx}else
 if i.op=4 then {m with mem:=m.mem.set ((m.f i.d.toNat+i.imm)%65536).toNat (m.f i.s.toNat%65536),pc:=nx}else
 if i.op=12∨i.op=13 then {m with x:=twoF i.op (m.f i.d.toNat) (m.f i.s.toNat) m.x,pc:=nx}else
 if 5≤i.op∧i.op≤11 then {m with f:=Qx m.f i.d.toNat (twoR i.op (m.f i.d.toNat) (m.f i.s.toNat) m.x),x:=twoF i.op (m.f i.d.toNat) (m.f i.s.toNat) m.x,pc:=nx}else
 if 14≤i.op∧i.op≤18 then {m with f:=Qx m.f i.d.toNat (shR i.op (m.f i.d.toNat) m.x.c),x:=shF i.op (m.f i.d.toNat) m.x.c,pc:=nx}else
 if 19≤i.op∧i.op≤25 then {m with pc:=if(if i.op=20 then m.x.z else if i.op=21 then !m.x.z else if i.op=22 then m.x.c else if i.op=23 then !m.x.c else true)=true then i.imm else nx}else
 if i.op=26 then {m with f:=Qx m.f 7 ((m.f 7-1)%65536),mem:=m.mem.set ((m.f 7-1)%65536).toNat (nx%65536),pc:=i.imm}else
 if i.op=27 then {m with f:=Qx m.f 7 ((m.f 7+1)%65536),pc:=m.mem.getD (m.f 7).toNat 0}else
 if i.op=28 then {m with f:=Qx m.f 7 ((m.f 7-1)%65536),mem:=m.mem.set ((m.f 7-1)%65536).toNat (m.f i.s.toNat%65536),pc:=nx}else m
def opOk(op:Int):Bool:=[0,32,1,2,3,4,12,13,5,6,7,8,10,11,14,15,16,17,18,19,20,21,22,23,26,27,28].contains op
def stepS(i:Ins)(n:Int)(m:Ma):Int×Ma:=
 if i.op=0 then(1,m)else if i.op=32 then(2, {m with trap:=i.imm})else(0, {Xi i (m.pc+n) m with pc:=(Xi i (m.pc+n) m).pc%65536})
def Tp(f:Nat→Int)(x:Fl)(pc:Int)(mem code:List Int)(trap rd st:Int)(i:Ins)(n:Int):St:=
 ⟨[(4,.one (.a (.int .i64 n))),(3,.one (.a (.loc 3 0))),(0,.one (.a (.loc 0 0))),(1000000,.one (.a (.ref 0))),(1000001,.one (.a (.ref 1))),(1000002,.one (.a (.ref 2)))],
  [(3,.cells 70 [.int .i64 i.op,.int .i64 i.d,.int .i64 i.s,.int .i64 i.imm]),(0,.cells 151 (mcs f (TL x pc 0 trap rd st))),(1,.row 3 (.int .i64) mem),(2,.row 3 (.int .i64) code)],4⟩
def Xm(w:World)(X:List Nat)(fr:List Value)(code:List Int)(m:Ma)(rd st:Int)(i:Ins)(n:Int):Prop:=
 T ⟨Tryz.prog,w,X,268,fr⟩ Zk.c52 (Qu ⟨Tryz.prog,w,X,268,fr⟩ [.tmp 2] (D9 [0,1,2] (.one (.a (.int .i64 (stepS i n m).1))) (MR (stepS i n m).2.f (stepS i n m).2.x (stepS i n m).2.pc 0 (stepS i n m).2.trap rd st (stepS i n m).2.mem code)))
   (Tp m.f m.x m.pc m.mem code m.trap rd st i n)
section
variable (w:World) (X:List Nat) (fr:List Value) (f:Nat→Int) (xc xz xn xv:Bool) (pc:Int) (mem code:List Int) (trap rd st d s imm n:Int)
variable (hm:mem.length=65536) (hR:∀i,i<8→wd (f i)) (hpc:wd pc) (hn:n=1∨n=2) (hd:0≤d∧d<8) (hs:0≤s∧s<8) (hi:wd imm)
include hm hR hpc hn hd hs hi
set_option maxHeartbeats 64000000 in
theorem Zf4(op:Int)(hop:op=0):Xm w X fr code ⟨f,⟨xc,xz,xn,xv⟩,pc,mem,trap⟩ rd st ⟨op,d,s,imm⟩ n:=by
 unfold Xm Tp
 have hm2:=hm
 have hd1:d.toNat<8:=by omega
 have hs1:s.toNat<8:=by omega
 have hd0:0≤d:=hd.1
 have hs0:0≤s:=hs.1
 have hd2:d<8:=hd.2
 have hs2:s<8:=hs.2
 have hfd:=hR d.toNat hd1
 have hfs:=hR s.toNat hs1
 have hf7:=hR 7 (by decide)
 unfold wd at hfd hfs hf7 hpc hi
 have hn1:¬n=0:=by omega
 have w1:IntKind.i64.wrap (pc+n)=pc+n:=Zm (by omega) (by omega)
 have w2:IntKind.i64.wrap (f s.toNat+imm)=f s.toNat+imm:=Zm (by omega) (by omega)
 have w3:IntKind.i64.wrap (f d.toNat+imm)=f d.toNat+imm:=Zm (by omega) (by omega)
 subst hop
 all_goals simp only[stepS,Xi,Int.reduceEq,Int.reduceLE,↓reduceIte,or_false,or_true,false_or,true_or,and_true,and_false,true_and,false_and,or_self,and_self,Bool.false_eq_true,Bool.not_true,Bool.not_false]
 all_goals show T _ (.seq Zk.c2 Zk.c51) _ _
 all_goals(repeat'(first|(first|refine T.danyps [3] Mix.m ?_|refine T.danyp [3] Mix.m ?_|refine Stp.h ?_)<;>try simp only[Zd,simprocAttr,↓reduceIte,reduceCtorEq,implies_true,Z2,hd0,hs0,hd1,hs1,hd2,hs2,w1,w2,w3,hn1,Wo,Int.reduceToNat,Int.toNat_natCast]|(with_reducible first|assumption|refine And.intro ?_ ?_)|(intro h;first|omega|exact tg h ‹_›|exact tg ‹_› h|skip)))
 all_goals first|omega|skip
set_option maxHeartbeats 64000000 in
theorem Zf6(op:Int)(hop:op=32):Xm w X fr code ⟨f,⟨xc,xz,xn,xv⟩,pc,mem,trap⟩ rd st ⟨op,d,s,imm⟩ n:=by
 unfold Xm Tp
 have hm2:=hm
 have hd1:d.toNat<8:=by omega
 have hs1:s.toNat<8:=by omega
 have hd0:0≤d:=hd.1
 have hs0:0≤s:=hs.1
 have hd2:d<8:=hd.2
 have hs2:s<8:=hs.2
 have hfd:=hR d.toNat hd1
 have hfs:=hR s.toNat hs1
 have hf7:=hR 7 (by decide)
 unfold wd at hfd hfs hf7 hpc hi
 have hn1:¬n=0:=by omega
 have w1:IntKind.i64.wrap (pc+n)=pc+n:=Zm (by omega) (by omega)
 have w2:IntKind.i64.wrap (f s.toNat+imm)=f s.toNat+imm:=Zm (by omega) (by omega)
 have w3:IntKind.i64.wrap (f d.toNat+imm)=f d.toNat+imm:=Zm (by omega) (by omega)
 subst hop
 all_goals simp only[stepS,Xi,Int.reduceEq,Int.reduceLE,↓reduceIte,or_false,or_true,false_or,true_or,and_true,and_false,true_and,false_and,or_self,and_self,Bool.false_eq_true,Bool.not_true,Bool.not_false]
 all_goals show T _ (.seq Zk.c2 Zk.c51) _ _
 all_goals(repeat'(first|(first|refine T.danyps [3] Mix.m ?_|refine T.danyp [3] Mix.m ?_|refine Stp.h ?_)<;>try simp only[Zd,simprocAttr,↓reduceIte,reduceCtorEq,implies_true,Z2,hd0,hs0,hd1,hs1,hd2,hs2,w1,w2,w3,hn1,Wo,Int.reduceToNat,Int.toNat_natCast]|(with_reducible first|assumption|refine And.intro ?_ ?_)|(intro h;first|omega|exact tg h ‹_›|exact tg ‹_› h|skip)))
 all_goals first|omega|skip
set_option maxHeartbeats 64000000 in
theorem Zhy(op:Int)(hop:op=1):Xm w X fr code ⟨f,⟨xc,xz,xn,xv⟩,pc,mem,trap⟩ rd st ⟨op,d,s,imm⟩ n:=by
 unfold Xm Tp
 have hm2:=hm
 have hd1:d.toNat<8:=by omega
 have hs1:s.toNat<8:=by omega
 have hd0:0≤d:=hd.1
 have hs0:0≤s:=hs.1
 have hd2:d<8:=hd.2
 have hs2:s<8:=hs.2
 have hfd:=hR d.toNat hd1
 have hfs:=hR s.toNat hs1
 have hf7:=hR 7 (by decide)
 unfold wd at hfd hfs hf7 hpc hi
 have hn1:¬n=0:=by omega
 have w1:IntKind.i64.wrap (pc+n)=pc+n:=Zm (by omega) (by omega)
 have w2:IntKind.i64.wrap (f s.toNat+imm)=f s.toNat+imm:=Zm (by omega) (by omega)
 have w3:IntKind.i64.wrap (f d.toNat+imm)=f d.toNat+imm:=Zm (by omega) (by omega)
 subst hop
 all_goals simp only[stepS,Xi,Int.reduceEq,Int.reduceLE,↓reduceIte,or_false,or_true,false_or,true_or,and_true,and_false,true_and,false_and,or_self,and_self,Bool.false_eq_true,Bool.not_true,Bool.not_false]
 all_goals show T _ (.seq Zk.c2 Zk.c51) _ _
 all_goals(repeat'(first|(first|refine T.danyps [3] Mix.m ?_|refine T.danyp [3] Mix.m ?_|refine Stp.h ?_)<;>try simp only[Zd,simprocAttr,↓reduceIte,reduceCtorEq,implies_true,Z2,hd0,hs0,hd1,hs1,hd2,hs2,w1,w2,w3,hn1,Wo,Int.reduceToNat,Int.toNat_natCast]|(with_reducible first|assumption|refine And.intro ?_ ?_)|(intro h;first|omega|exact tg h ‹_›|exact tg ‹_› h|skip)))
 all_goals first|omega|skip
set_option maxHeartbeats 64000000 in
theorem Zhx(op:Int)(hop:op=2):Xm w X fr code ⟨f,⟨xc,xz,xn,xv⟩,pc,mem,trap⟩ rd st ⟨op,d,s,imm⟩ n:=by
 unfold Xm Tp
 have hm2:=hm
 have hd1:d.toNat<8:=by omega
 have hs1:s.toNat<8:=by omega
 have hd0:0≤d:=hd.1
 have hs0:0≤s:=hs.1
 have hd2:d<8:=hd.2
 have hs2:s<8:=hs.2
 have hfd:=hR d.toNat hd1
 have hfs:=hR s.toNat hs1
 have hf7:=hR 7 (by decide)
 unfold wd at hfd hfs hf7 hpc hi
 have hn1:¬n=0:=by omega
 have w1:IntKind.i64.wrap (pc+n)=pc+n:=Zm (by omega) (by omega)
 have w2:IntKind.i64.wrap (f s.toNat+imm)=f s.toNat+imm:=Zm (by omega) (by omega)
 have w3:IntKind.i64.wrap (f d.toNat+imm)=f d.toNat+imm:=Zm (by omega) (by omega)
 subst hop
 all_goals simp only[stepS,Xi,Int.reduceEq,Int.reduceLE,↓reduceIte,or_false,or_true,false_or,true_or,and_true,and_false,true_and,false_and,or_self,and_self,Bool.false_eq_true,Bool.not_true,Bool.not_false]
 all_goals show T _ (.seq Zk.c2 Zk.c51) _ _
 all_goals(repeat'(first|(first|refine T.danyps [3] Mix.m ?_|refine T.danyp [3] Mix.m ?_|refine Stp.h ?_)<;>try simp only[Zd,simprocAttr,↓reduceIte,reduceCtorEq,implies_true,Z2,hd0,hs0,hd1,hs1,hd2,hs2,w1,w2,w3,hn1,Wo,Int.reduceToNat,Int.toNat_natCast]|(with_reducible first|assumption|refine And.intro ?_ ?_)|(intro h;first|omega|exact tg h ‹_›|exact tg ‹_› h|skip)))
 all_goals first|omega|skip
set_option maxHeartbeats 64000000 in
theorem step_ld(op:Int)(hop:op=3):Xm w X fr code ⟨f,⟨xc,xz,xn,xv⟩,pc,mem,trap⟩ rd st ⟨op,d,s,imm⟩ n:=by
 unfold Xm Tp
 have hm2:=hm
 have hd1:d.toNat<8:=by omega
 have hs1:s.toNat<8:=by omega
 have hd0:0≤d:=hd.1
 have hs0:0≤s:=hs.1
 have hd2:d<8:=hd.2
 have hs2:s<8:=hs.2
 have hfd:=hR d.toNat hd1
 have hfs:=hR s.toNat hs1
 have hf7:=hR 7 (by decide)
 unfold wd at hfd hfs hf7 hpc hi
 have hn1:¬n=0:=by omega
 have w1:IntKind.i64.wrap (pc+n)=pc+n:=Zm (by omega) (by omega)
 have w2:IntKind.i64.wrap (f s.toNat+imm)=f s.toNat+imm:=Zm (by omega) (by omega)
 have w3:IntKind.i64.wrap (f d.toNat+imm)=f d.toNat+imm:=Zm (by omega) (by omega)
 have hL:=Zdk f ⟨xc,xz,xn,xv⟩ pc 0 trap rd st mem code hm (f s.toNat+imm)
 subst hop
 all_goals simp only[stepS,Xi,Int.reduceEq,Int.reduceLE,↓reduceIte,or_false,or_true,false_or,true_or,and_true,and_false,true_and,false_and,or_self,and_self,Bool.false_eq_true,Bool.not_true,Bool.not_false]
 all_goals show T _ (.seq Zk.c2 Zk.c51) _ _
 all_goals(repeat'(first|(first|refine T.danyps [3] Mix.m ?_|refine T.danyp [3] Mix.m ?_|refine Stp.h ?_|(refine Za.gc hL ?_ ?_;focus simp[Zb,Z2];done))<;>try simp only[Zd,simprocAttr,↓reduceIte,reduceCtorEq,implies_true,Z2,hd0,hs0,hd1,hs1,hd2,hs2,w1,w2,w3,hn1,Wo,Int.reduceToNat,Int.toNat_natCast]|(with_reducible first|assumption|refine And.intro ?_ ?_)|(intro h;first|omega|exact tg h ‹_›|exact tg ‹_› h|skip)))
 all_goals first|omega|skip
set_option maxHeartbeats 64000000 in
theorem step_st(op:Int)(hop:op=4):Xm w X fr code ⟨f,⟨xc,xz,xn,xv⟩,pc,mem,trap⟩ rd st ⟨op,d,s,imm⟩ n:=by
 unfold Xm Tp
 have hm2:=hm
 have hd1:d.toNat<8:=by omega
 have hs1:s.toNat<8:=by omega
 have hd0:0≤d:=hd.1
 have hs0:0≤s:=hs.1
 have hd2:d<8:=hd.2
 have hs2:s<8:=hs.2
 have hfd:=hR d.toNat hd1
 have hfs:=hR s.toNat hs1
 have hf7:=hR 7 (by decide)
 unfold wd at hfd hfs hf7 hpc hi
 have hn1:¬n=0:=by omega
 have w1:IntKind.i64.wrap (pc+n)=pc+n:=Zm (by omega) (by omega)
 have w2:IntKind.i64.wrap (f s.toNat+imm)=f s.toNat+imm:=Zm (by omega) (by omega)
 have w3:IntKind.i64.wrap (f d.toNat+imm)=f d.toNat+imm:=Zm (by omega) (by omega)
 have hL:=A3 f ⟨xc,xz,xn,xv⟩ pc 0 trap rd st mem code hm (f d.toNat+imm) (f s.toNat)
 subst hop
 all_goals simp only[stepS,Xi,Int.reduceEq,Int.reduceLE,↓reduceIte,or_false,or_true,false_or,true_or,and_true,and_false,true_and,false_and,or_self,and_self,Bool.false_eq_true,Bool.not_true,Bool.not_false]
 all_goals show T _ (.seq Zk.c2 Zk.c51) _ _
 all_goals(repeat'(first|(first|refine T.danyps [3] Mix.m ?_|refine T.danyp [3] Mix.m ?_|refine Stp.h ?_|(refine Za.gc hL ?_ ?_;focus simp[Zb,Z2];done))<;>try simp only[Zd,simprocAttr,↓reduceIte,reduceCtorEq,implies_true,Z2,hd0,hs0,hd1,hs1,hd2,hs2,w1,w2,w3,hn1,Wo,Int.reduceToNat,Int.toNat_natCast]|(with_reducible first|assumption|refine And.intro ?_ ?_)|(intro h;first|omega|exact tg h ‹_›|exact tg ‹_› h|skip)))
 all_goals first|omega|skip
set_option maxHeartbeats 64000000 in
theorem Zhv(op:Int)(hop:op=12∨op=13):Xm w X fr code ⟨f,⟨xc,xz,xn,xv⟩,pc,mem,trap⟩ rd st ⟨op,d,s,imm⟩ n:=by
 unfold Xm Tp
 have hm2:=hm
 have hd1:d.toNat<8:=by omega
 have hs1:s.toNat<8:=by omega
 have hd0:0≤d:=hd.1
 have hs0:0≤s:=hs.1
 have hd2:d<8:=hd.2
 have hs2:s<8:=hs.2
 have hfd:=hR d.toNat hd1
 have hfs:=hR s.toNat hs1
 have hf7:=hR 7 (by decide)
 unfold wd at hfd hfs hf7 hpc hi
 have hn1:¬n=0:=by omega
 have w1:IntKind.i64.wrap (pc+n)=pc+n:=Zm (by omega) (by omega)
 have w2:IntKind.i64.wrap (f s.toNat+imm)=f s.toNat+imm:=Zm (by omega) (by omega)
 have w3:IntKind.i64.wrap (f d.toNat+imm)=f d.toNat+imm:=Zm (by omega) (by omega)
 have hL:=Zia f ⟨xc,xz,xn,xv⟩ pc 0 trap rd st mem code op (f d.toNat) (f s.toNat) (by omega) hfd hfs
 rcases hop with rfl|rfl
 all_goals simp only[stepS,Xi,Int.reduceEq,Int.reduceLE,↓reduceIte,or_false,or_true,false_or,true_or,and_true,and_false,true_and,false_and,or_self,and_self,Bool.false_eq_true,Bool.not_true,Bool.not_false]
 all_goals show T _ (.seq Zk.c2 Zk.c51) _ _
 all_goals(repeat'(first|(first|refine T.danyps [3] Mix.m ?_|refine T.danyp [3] Mix.m ?_|refine Stp.h ?_|(refine Za.gc hL ?_ ?_;focus simp[Zb,Z2];done))<;>try simp only[Zd,simprocAttr,↓reduceIte,reduceCtorEq,implies_true,Z2,hd0,hs0,hd1,hs1,hd2,hs2,w1,w2,w3,hn1,Wo,Int.reduceToNat,Int.toNat_natCast]|(with_reducible first|assumption|refine And.intro ?_ ?_)|(intro h;first|omega|exact tg h ‹_›|exact tg ‹_› h|skip)))
 all_goals first|omega|skip
set_option maxHeartbeats 64000000 in
theorem Zh0(op:Int)(hop:op=5∨op=6∨op=7∨op=8∨op=10∨op=11):Xm w X fr code ⟨f,⟨xc,xz,xn,xv⟩,pc,mem,trap⟩ rd st ⟨op,d,s,imm⟩ n:=by
 unfold Xm Tp
 have hm2:=hm
 have hd1:d.toNat<8:=by omega
 have hs1:s.toNat<8:=by omega
 have hd0:0≤d:=hd.1
 have hs0:0≤s:=hs.1
 have hd2:d<8:=hd.2
 have hs2:s<8:=hs.2
 have hfd:=hR d.toNat hd1
 have hfs:=hR s.toNat hs1
 have hf7:=hR 7 (by decide)
 unfold wd at hfd hfs hf7 hpc hi
 have hn1:¬n=0:=by omega
 have w1:IntKind.i64.wrap (pc+n)=pc+n:=Zm (by omega) (by omega)
 have w2:IntKind.i64.wrap (f s.toNat+imm)=f s.toNat+imm:=Zm (by omega) (by omega)
 have w3:IntKind.i64.wrap (f d.toNat+imm)=f d.toNat+imm:=Zm (by omega) (by omega)
 have hL:=Zia f ⟨xc,xz,xn,xv⟩ pc 0 trap rd st mem code op (f d.toNat) (f s.toNat) (by omega) hfd hfs
 rcases hop with rfl|rfl|rfl|rfl|rfl|rfl
 all_goals simp only[stepS,Xi,Int.reduceEq,Int.reduceLE,↓reduceIte,or_false,or_true,false_or,true_or,and_true,and_false,true_and,false_and,or_self,and_self,Bool.false_eq_true,Bool.not_true,Bool.not_false]
 all_goals show T _ (.seq Zk.c2 Zk.c51) _ _
 all_goals(repeat'(first|(first|refine T.danyps [3] Mix.m ?_|refine T.danyp [3] Mix.m ?_|refine Stp.h ?_|(refine Za.gc hL ?_ ?_;focus simp[Zb,Z2];done))<;>try simp only[Zd,simprocAttr,↓reduceIte,reduceCtorEq,implies_true,Z2,hd0,hs0,hd1,hs1,hd2,hs2,w1,w2,w3,hn1,Wo,Int.reduceToNat,Int.toNat_natCast]|(with_reducible first|assumption|refine And.intro ?_ ?_)|(intro h;first|omega|exact tg h ‹_›|exact tg ‹_› h|skip)))
 all_goals first|omega|skip
set_option maxHeartbeats 64000000 in
theorem step_sh(op:Int)(hop:op=14∨op=15∨op=16∨op=17∨op=18):Xm w X fr code ⟨f,⟨xc,xz,xn,xv⟩,pc,mem,trap⟩ rd st ⟨op,d,s,imm⟩ n:=by
 unfold Xm Tp
 have hm2:=hm
 have hd1:d.toNat<8:=by omega
 have hs1:s.toNat<8:=by omega
 have hd0:0≤d:=hd.1
 have hs0:0≤s:=hs.1
 have hd2:d<8:=hd.2
 have hs2:s<8:=hs.2
 have hfd:=hR d.toNat hd1
 have hfs:=hR s.toNat hs1
 have hf7:=hR 7 (by decide)
 unfold wd at hfd hfs hf7 hpc hi
 have hn1:¬n=0:=by omega
 have w1:IntKind.i64.wrap (pc+n)=pc+n:=Zm (by omega) (by omega)
 have w2:IntKind.i64.wrap (f s.toNat+imm)=f s.toNat+imm:=Zm (by omega) (by omega)
 have w3:IntKind.i64.wrap (f d.toNat+imm)=f d.toNat+imm:=Zm (by omega) (by omega)
 have hL:=Zce f ⟨xc,xz,xn,xv⟩ pc 0 trap rd st mem code op (f d.toNat) (by omega) hfd
 rcases hop with rfl|rfl|rfl|rfl|rfl
 all_goals simp only[stepS,Xi,Int.reduceEq,Int.reduceLE,↓reduceIte,or_false,or_true,false_or,true_or,and_true,and_false,true_and,false_and,or_self,and_self,Bool.false_eq_true,Bool.not_true,Bool.not_false]
 all_goals show T _ (.seq Zk.c2 Zk.c51) _ _
 all_goals(repeat'(first|(first|refine T.danyps [3] Mix.m ?_|refine T.danyp [3] Mix.m ?_|refine Stp.h ?_|(refine Za.gc hL ?_ ?_;focus simp[Zb,Z2];done))<;>try simp only[Zd,simprocAttr,↓reduceIte,reduceCtorEq,implies_true,Z2,hd0,hs0,hd1,hs1,hd2,hs2,w1,w2,w3,hn1,Wo,Int.reduceToNat,Int.toNat_natCast]|(with_reducible first|assumption|refine And.intro ?_ ?_)|(intro h;first|omega|exact tg h ‹_›|exact tg ‹_› h|skip)))
 all_goals first|omega|skip
set_option maxHeartbeats 64000000 in
theorem Zhw(op:Int)(hop:op=19):Xm w X fr code ⟨f,⟨xc,xz,xn,xv⟩,pc,mem,trap⟩ rd st ⟨op,d,s,imm⟩ n:=by
 unfold Xm Tp
 have hm2:=hm
 have hd1:d.toNat<8:=by omega
 have hs1:s.toNat<8:=by omega
 have hd0:0≤d:=hd.1
 have hs0:0≤s:=hs.1
 have hd2:d<8:=hd.2
 have hs2:s<8:=hs.2
 have hfd:=hR d.toNat hd1
 have hfs:=hR s.toNat hs1
 have hf7:=hR 7 (by decide)
 unfold wd at hfd hfs hf7 hpc hi
 have hn1:¬n=0:=by omega
 have w1:IntKind.i64.wrap (pc+n)=pc+n:=Zm (by omega) (by omega)
 have w2:IntKind.i64.wrap (f s.toNat+imm)=f s.toNat+imm:=Zm (by omega) (by omega)
 have w3:IntKind.i64.wrap (f d.toNat+imm)=f d.toNat+imm:=Zm (by omega) (by omega)
 have hL:=F2 f ⟨xc,xz,xn,xv⟩ pc 0 trap rd st mem code op (by omega)
 subst hop
 simp only[Int.reduceEq,↓reduceIte]at hL
 all_goals simp only[stepS,Xi,Int.reduceEq,Int.reduceLE,↓reduceIte,or_false,or_true,false_or,true_or,and_true,and_false,true_and,false_and,or_self,and_self,Bool.false_eq_true,Bool.not_true,Bool.not_false]
 all_goals show T _ (.seq Zk.c2 Zk.c51) _ _
 all_goals(repeat'(first|(first|refine T.danyps [3] Mix.m ?_|refine T.danyp [3] Mix.m ?_|refine Stp.h ?_|(refine Za.gc hL ?_ ?_;focus simp[Zb,Z2];done))<;>try simp only[Zd,simprocAttr,↓reduceIte,reduceCtorEq,implies_true,Z2,hd0,hs0,hd1,hs1,hd2,hs2,w1,w2,w3,hn1,Wo,Int.reduceToNat,Int.toNat_natCast]|(with_reducible first|assumption|refine And.intro ?_ ?_)|(intro h;first|omega|exact tg h ‹_›|exact tg ‹_› h|skip)))
 all_goals first|omega|skip
set_option maxHeartbeats 64000000 in
theorem step_jz(op:Int)(hop:op=20∨op=21):Xm w X fr code ⟨f,⟨xc,xz,xn,xv⟩,pc,mem,trap⟩ rd st ⟨op,d,s,imm⟩ n:=by
 unfold Xm Tp
 have hm2:=hm
 have hd1:d.toNat<8:=by omega
 have hs1:s.toNat<8:=by omega
 have hd0:0≤d:=hd.1
 have hs0:0≤s:=hs.1
 have hd2:d<8:=hd.2
 have hs2:s<8:=hs.2
 have hfd:=hR d.toNat hd1
 have hfs:=hR s.toNat hs1
 have hf7:=hR 7 (by decide)
 unfold wd at hfd hfs hf7 hpc hi
 have hn1:¬n=0:=by omega
 have w1:IntKind.i64.wrap (pc+n)=pc+n:=Zm (by omega) (by omega)
 have w2:IntKind.i64.wrap (f s.toNat+imm)=f s.toNat+imm:=Zm (by omega) (by omega)
 have w3:IntKind.i64.wrap (f d.toNat+imm)=f d.toNat+imm:=Zm (by omega) (by omega)
 have hL:=F2 f ⟨xc,xz,xn,xv⟩ pc 0 trap rd st mem code op (by omega)
 rcases hop with rfl|rfl
 all_goals cases xz
 all_goals simp only[stepS,Xi,Int.reduceEq,Int.reduceLE,↓reduceIte,or_false,or_true,false_or,true_or,and_true,and_false,true_and,false_and,or_self,and_self,Bool.false_eq_true,Bool.not_true,Bool.not_false]
 all_goals show T _ (.seq Zk.c2 Zk.c51) _ _
 all_goals(repeat'(first|(first|refine T.danyps [3] Mix.m ?_|refine T.danyp [3] Mix.m ?_|refine Stp.h ?_|(refine Za.gc hL ?_ ?_;focus simp[Zb,Z2];done))<;>try simp only[Zd,simprocAttr,↓reduceIte,reduceCtorEq,implies_true,Z2,hd0,hs0,hd1,hs1,hd2,hs2,w1,w2,w3,hn1,Wo,Int.reduceToNat,Int.toNat_natCast]|(with_reducible first|assumption|refine And.intro ?_ ?_)|(intro h;first|omega|exact tg h ‹_›|exact tg ‹_› h|skip)))
 all_goals first|omega|skip
set_option maxHeartbeats 64000000 in
theorem step_jc(op:Int)(hop:op=22∨op=23):Xm w X fr code ⟨f,⟨xc,xz,xn,xv⟩,pc,mem,trap⟩ rd st ⟨op,d,s,imm⟩ n:=by
 unfold Xm Tp
 have hm2:=hm
 have hd1:d.toNat<8:=by omega
 have hs1:s.toNat<8:=by omega
 have hd0:0≤d:=hd.1
 have hs0:0≤s:=hs.1
 have hd2:d<8:=hd.2
 have hs2:s<8:=hs.2
 have hfd:=hR d.toNat hd1
 have hfs:=hR s.toNat hs1
 have hf7:=hR 7 (by decide)
 unfold wd at hfd hfs hf7 hpc hi
 have hn1:¬n=0:=by omega
 have w1:IntKind.i64.wrap (pc+n)=pc+n:=Zm (by omega) (by omega)
 have w2:IntKind.i64.wrap (f s.toNat+imm)=f s.toNat+imm:=Zm (by omega) (by omega)
 have w3:IntKind.i64.wrap (f d.toNat+imm)=f d.toNat+imm:=Zm (by omega) (by omega)
 have hL:=F2 f ⟨xc,xz,xn,xv⟩ pc 0 trap rd st mem code op (by omega)
 rcases hop with rfl|rfl
 all_goals cases xc
 all_goals simp only[stepS,Xi,Int.reduceEq,Int.reduceLE,↓reduceIte,or_false,or_true,false_or,true_or,and_true,and_false,true_and,false_and,or_self,and_self,Bool.false_eq_true,Bool.not_true,Bool.not_false]
 all_goals show T _ (.seq Zk.c2 Zk.c51) _ _
 all_goals(repeat'(first|(first|refine T.danyps [3] Mix.m ?_|refine T.danyp [3] Mix.m ?_|refine Stp.h ?_|(refine Za.gc hL ?_ ?_;focus simp[Zb,Z2];done))<;>try simp only[Zd,simprocAttr,↓reduceIte,reduceCtorEq,implies_true,Z2,hd0,hs0,hd1,hs1,hd2,hs2,w1,w2,w3,hn1,Wo,Int.reduceToNat,Int.toNat_natCast]|(with_reducible first|assumption|refine And.intro ?_ ?_)|(intro h;first|omega|exact tg h ‹_›|exact tg ‹_› h|skip)))
 all_goals first|omega|skip
set_option maxHeartbeats 64000000 in
theorem Zf3(op:Int)(hop:op=26):Xm w X fr code ⟨f,⟨xc,xz,xn,xv⟩,pc,mem,trap⟩ rd st ⟨op,d,s,imm⟩ n:=by
 unfold Xm Tp
 have hm2:=hm
 have hd1:d.toNat<8:=by omega
 have hs1:s.toNat<8:=by omega
 have hd0:0≤d:=hd.1
 have hs0:0≤s:=hs.1
 have hd2:d<8:=hd.2
 have hs2:s<8:=hs.2
 have hfd:=hR d.toNat hd1
 have hfs:=hR s.toNat hs1
 have hf7:=hR 7 (by decide)
 unfold wd at hfd hfs hf7 hpc hi
 have hn1:¬n=0:=by omega
 have w1:IntKind.i64.wrap (pc+n)=pc+n:=Zm (by omega) (by omega)
 have w2:IntKind.i64.wrap (f s.toNat+imm)=f s.toNat+imm:=Zm (by omega) (by omega)
 have w3:IntKind.i64.wrap (f d.toNat+imm)=f d.toNat+imm:=Zm (by omega) (by omega)
 have hL:=Zdy f ⟨xc,xz,xn,xv⟩ pc 0 trap rd st mem code hm hf7 (pc+n)
 subst hop
 all_goals simp only[stepS,Xi,Int.reduceEq,Int.reduceLE,↓reduceIte,or_false,or_true,false_or,true_or,and_true,and_false,true_and,false_and,or_self,and_self,Bool.false_eq_true,Bool.not_true,Bool.not_false]
 all_goals show T _ (.seq Zk.c2 Zk.c51) _ _
 all_goals(repeat'(first|(first|refine T.danyps [3] Mix.m ?_|refine T.danyp [3] Mix.m ?_|refine Stp.h ?_|(refine Za.gc hL ?_ ?_;focus simp[Zb,Z2];done))<;>try simp only[Zd,simprocAttr,↓reduceIte,reduceCtorEq,implies_true,Z2,hd0,hs0,hd1,hs1,hd2,hs2,w1,w2,w3,hn1,Wo,Int.reduceToNat,Int.toNat_natCast]|(with_reducible first|assumption|refine And.intro ?_ ?_)|(intro h;first|omega|exact tg h ‹_›|exact tg ‹_› h|skip)))
 all_goals first|omega|skip
set_option maxHeartbeats 64000000 in
theorem Zhz(op:Int)(hop:op=27):Xm w X fr code ⟨f,⟨xc,xz,xn,xv⟩,pc,mem,trap⟩ rd st ⟨op,d,s,imm⟩ n:=by
 unfold Xm Tp
 have hm2:=hm
 have hd1:d.toNat<8:=by omega
 have hs1:s.toNat<8:=by omega
 have hd0:0≤d:=hd.1
 have hs0:0≤s:=hs.1
 have hd2:d<8:=hd.2
 have hs2:s<8:=hs.2
 have hfd:=hR d.toNat hd1
 have hfs:=hR s.toNat hs1
 have hf7:=hR 7 (by decide)
 unfold wd at hfd hfs hf7 hpc hi
 have hn1:¬n=0:=by omega
 have w1:IntKind.i64.wrap (pc+n)=pc+n:=Zm (by omega) (by omega)
 have w2:IntKind.i64.wrap (f s.toNat+imm)=f s.toNat+imm:=Zm (by omega) (by omega)
 have w3:IntKind.i64.wrap (f d.toNat+imm)=f d.toNat+imm:=Zm (by omega) (by omega)
 have hL:=pop_gc f ⟨xc,xz,xn,xv⟩ pc 0 trap rd st mem code hm hf7
 subst hop
 all_goals simp only[stepS,Xi,Int.reduceEq,Int.reduceLE,↓reduceIte,or_false,or_true,false_or,true_or,and_true,and_false,true_and,false_and,or_self,and_self,Bool.false_eq_true,Bool.not_true,Bool.not_false]
 all_goals show T _ (.seq Zk.c2 Zk.c51) _ _
 all_goals(repeat'(first|(first|refine T.danyps [3] Mix.m ?_|refine T.danyp [3] Mix.m ?_|refine Stp.h ?_|(refine Za.gc hL ?_ ?_;focus simp[Zb,Z2];done))<;>try simp only[Zd,simprocAttr,↓reduceIte,reduceCtorEq,implies_true,Z2,hd0,hs0,hd1,hs1,hd2,hs2,w1,w2,w3,hn1,Wo,Int.reduceToNat,Int.toNat_natCast]|(with_reducible first|assumption|refine And.intro ?_ ?_)|(intro h;first|omega|exact tg h ‹_›|exact tg ‹_› h|skip)))
 all_goals first|omega|skip
set_option maxHeartbeats 64000000 in
theorem Zf5(op:Int)(hop:op=28):Xm w X fr code ⟨f,⟨xc,xz,xn,xv⟩,pc,mem,trap⟩ rd st ⟨op,d,s,imm⟩ n:=by
 unfold Xm Tp
 have hm2:=hm
 have hd1:d.toNat<8:=by omega
 have hs1:s.toNat<8:=by omega
 have hd0:0≤d:=hd.1
 have hs0:0≤s:=hs.1
 have hd2:d<8:=hd.2
 have hs2:s<8:=hs.2
 have hfd:=hR d.toNat hd1
 have hfs:=hR s.toNat hs1
 have hf7:=hR 7 (by decide)
 unfold wd at hfd hfs hf7 hpc hi
 have hn1:¬n=0:=by omega
 have w1:IntKind.i64.wrap (pc+n)=pc+n:=Zm (by omega) (by omega)
 have w2:IntKind.i64.wrap (f s.toNat+imm)=f s.toNat+imm:=Zm (by omega) (by omega)
 have w3:IntKind.i64.wrap (f d.toNat+imm)=f d.toNat+imm:=Zm (by omega) (by omega)
 have hL:=Zdy f ⟨xc,xz,xn,xv⟩ pc 0 trap rd st mem code hm hf7 (f s.toNat)
 subst hop
 all_goals simp only[stepS,Xi,Int.reduceEq,Int.reduceLE,↓reduceIte,or_false,or_true,false_or,true_or,and_true,and_false,true_and,false_and,or_self,and_self,Bool.false_eq_true,Bool.not_true,Bool.not_false]
 all_goals show T _ (.seq Zk.c2 Zk.c51) _ _
 all_goals(repeat'(first|(first|refine T.danyps [3] Mix.m ?_|refine T.danyp [3] Mix.m ?_|refine Stp.h ?_|(refine Za.gc hL ?_ ?_;focus simp[Zb,Z2];done))<;>try simp only[Zd,simprocAttr,↓reduceIte,reduceCtorEq,implies_true,Z2,hd0,hs0,hd1,hs1,hd2,hs2,w1,w2,w3,hn1,Wo,Int.reduceToNat,Int.toNat_natCast]|(with_reducible first|assumption|refine And.intro ?_ ?_)|(intro h;first|omega|exact tg h ‹_›|exact tg ‹_› h|skip)))
 all_goals first|omega|skip
end
theorem One_ins(code:List Int)(p:Int)(i:Ins)(n:Int)(h:Y4 code p=(i,n))(hl:code.length≤65536):RdC Tryz.prog 118 [.ro (.int .i64) code,.v (.a (.int .i64 p))] (.tup [.agg [.int .i64 i.op,.int .i64 i.d,.int .i64 i.s,.int .i64 i.imm],.a (.int .i64 n)]):=by
 have:=One_any code p (by omega)
 rw[h]at this
 exact this
def Tj(i:Ins)(n:Int):Bool:=opOk i.op&&(decide (n=1∨n=2)&&(decide (0≤i.d∧i.d<8)&&(decide (0≤i.s∧i.s<8)&&decide (0≤i.imm∧i.imm≤65535))))
theorem step_gc(code:List Int)(m:Ma)(rd st:Int)(i:Ins)(n:Int)(h:Y4 code m.pc=(i,n))(hl:code.length≤65536)(hok:Tj i n=true)(hm:m.mem.length=65536)(hR:∀i,i<8→wd (m.f i))(hpc:wd m.pc):
 GC Tryz.prog 87 [.a (.loc 0 0)] (MR m.f m.x m.pc 0 m.trap rd st m.mem code) 3 [0,1,2] (.one (.a (.int .i64 (stepS i n m).1)))
  (MR (stepS i n m).2.f (stepS i n m).2.x (stepS i n m).2.pc 0 (stepS i n m).2.trap rd st (stepS i n m).2.mem code) 3:=by
 have hO:=One_ins code m.pc i n h hl
 simp only[Tj,Bool.and_eq_true,decide_eq_true_eq]at hok
 obtain⟨hop,hn,hd,hs,hi⟩:=hok
 obtain⟨f,⟨xc,xz,xn,xv⟩,pc,mem,trap⟩:=m
 obtain⟨op,d,s,imm⟩:=i
 refine Zk.fn.gc (by simp) (by simp[Zu,Zw,Zv,Zj,Ze,Vc.S1.okN,At.okN,SV.okN,Res.okN,Res.outOk,Zo,Res.own,Value.oneCell',MR,Xw,TL,Ux]) fun w X fr=> ?_
 have key:Xm w X fr code ⟨f,⟨xc,xz,xn,xv⟩,pc,mem,trap⟩ rd st ⟨op,d,s,imm⟩ n:=by
  simp only at hop hm hR hpc hd hs hi
  simp[opOk]at hop
  rcases hop with hop|hop|hop|hop|hop|hop|hop|hop|hop|hop|hop|hop|hop|hop|hop|hop|hop|hop|hop|hop|hop|hop|hop|hop|hop|hop|hop
  all_goals first|exact Zf4 w X fr f xc xz xn xv pc mem code trap rd st d s imm n hm hR hpc hn hd hs hi op (by omega)|exact Zf6 w X fr f xc xz xn xv pc mem code trap rd st d s imm n hm hR hpc hn hd hs hi op (by omega)|exact Zhy w X fr f xc xz xn xv pc mem code trap rd st d s imm n hm hR hpc hn hd hs hi op (by omega)|exact Zhx w X fr f xc xz xn xv pc mem code trap rd st d s imm n hm hR hpc hn hd hs hi op (by omega)|exact step_ld w X fr f xc xz xn xv pc mem code trap rd st d s imm n hm hR hpc hn hd hs hi op (by omega)|exact step_st w X fr f xc xz xn xv pc mem code trap rd st d s imm n hm hR hpc hn hd hs hi op (by omega)|exact Zhv w X fr f xc xz xn xv pc mem code trap rd st d s imm n hm hR hpc hn hd hs hi op (by omega)|exact Zh0 w X fr f xc xz xn xv pc mem code trap rd st d s imm n hm hR hpc hn hd hs hi op (by omega)|exact step_sh w X fr f xc xz xn xv pc mem code trap rd st d s imm n hm hR hpc hn hd hs hi op (by omega)|exact Zhw w X fr f xc xz xn xv pc mem code trap rd st d s imm n hm hR hpc hn hd hs hi op (by omega)|exact step_jz w X fr f xc xz xn xv pc mem code trap rd st d s imm n hm hR hpc hn hd hs hi op (by omega)|exact step_jc w X fr f xc xz xn xv pc mem code trap rd st d s imm n hm hR hpc hn hd hs hi op (by omega)|exact Zf3 w X fr f xc xz xn xv pc mem code trap rd st d s imm n hm hR hpc hn hd hs hi op (by omega)|exact Zhz w X fr f xc xz xn xv pc mem code trap rd st d s imm n hm hR hpc hn hd hs hi op (by omega)|exact Zf5 w X fr f xc xz xn xv pc mem code trap rd st d s imm n hm hR hpc hn hd hs hi op (by omega)
 unfold Xm Tp at key
 generalize stepS ⟨op,d,s,imm⟩ n ⟨f,⟨xc,xz,xn,xv⟩,pc,mem,trap⟩=R at*
 simp only at hO key
 repeat'(first|(first|refine Stp.h ?_|(refine rq hO ?_ ?_;focus simp[Zz];done))<;>try simp only[Zd,simprocAttr,↓reduceIte,reduceCtorEq,implies_true,Z2]|(with_reducible first|assumption|refine And.intro ?_ ?_)|(intro h;first|omega|exact tg h ‹_›|exact tg ‹_› h|skip))
 all_goals exact T.weak (Ent.mk1 id (by simp[Zy,Z2])) key
theorem De(l:List Int)(hl:0<l.length)(hb:l.length≤65536):GC Tryz.prog 86 [.a (.ref 0)] [(0,.ro (.int .i64) l)] 1 [] (.one (.a (.ref 1))) [(1,.row 3 (.int .i64) l)] 2:=by
 refine Ue.fn.gc (by simp) (by simp[Zu,Zw,Zv,Zj,Ze,Vc.S1.okN,At.okN,SV.okN,Res.okN,Res.outOk,Zo,Res.own,Value.oneCell']) fun w X fr=> ?_
 have h1:l.length*8≤140737488355328:=by omega
 have h2:l.length≤4611686018427387904:=by omega
 repeat'(first|(first|refine Stp.h ?_)<;>try simp only[Zd,simprocAttr,↓reduceIte,reduceCtorEq,implies_true,hl,h1,h2]|(with_reducible first|assumption|refine And.intro ?_ ?_)|(intro h;first|omega|exact tg h ‹_›|exact tg ‹_› h|skip))
theorem mcs_i64(f:Nat→Int):Kx (mcs f [])=some ((List.range 8).map f):=rfl
theorem regs_wd{f:Nat→Int}{a:Int}(hf:∀i,i<8→wd (f i))(ha:wd a):∀j,j<9→wd (((List.range 8).map f++[a]).getD j 0):=by
 intro j hj
 rcases Nat.lt_or_ge j 8 with h|h
 ·have e:((List.range 8).map f++[a]).getD j 0=f j:=by
   rw[List.getD_eq_getElem?_getD,List.getElem?_append_left (by simpa using h)];simp[h]
  rw[e];exact hf j h
 ·obtain rfl:j=8:=by omega
  exact ha
set_option maxHeartbeats 4000000 in
theorem Zgo(f:Nat→Int)(x:Fl)(a:Int)(mem:List Int)(hf:∀i,i<8→wd (f i))(ha:wd a)(hl:mem.length≤65536)(hm:∀j,j<mem.length→wd (mem.getD j 0)):
 GC Tryz.prog 117 [.agg (mcs f [.bool x.c,.bool x.z,.bool x.n,.bool x.v,.int .i64 a,.ref 0])] [(0,.ro (.int .i64) mem)] 1 [] (.one (.a (.int .i64 0))) [] 1:=by
 have hr:=regs_wd hf ha
 have hrl:((List.range 8).map f++[a]).length=9:=by simp
 have hl2:¬(65536:Int)<mem.length:=by omega
 have d0:(Kd.int .i64).dflt=(0:Int):=rfl
 have z0:∀l:List At,l.drop 0=l:=fun l=>rfl
 have t0:∀l:List At,l.take 0=[]:=fun l=>rfl
 refine Ki.fn.gc (by simp) (by simp[Zu,Zw,Zv,Zj,Ze,Vc.S1.okN,At.okN,SV.okN,Res.okN,Res.outOk,Zo,Res.own,Value.oneCell',Xw]) fun w X fr=> ?_
 repeat'(first|(first|refine T.danyps [1] Mix.m ?_|refine T.danyp [1] Mix.m ?_|refine Stp.h ?_)<;>try simp only[Zd,simprocAttr,↓reduceIte,reduceCtorEq,implies_true,Z2,mcs_i64,hl2,z0,t0]|(with_reducible first|assumption|refine And.intro ?_ ?_)|(intro h;first|omega|exact tg h ‹_›|exact tg ‹_› h|skip))
 all_goals
  rw[hrl]
  generalize (List.range 8).map f++[a]=L at*
  refine T.loop (ι:= {k:Nat//k≤9}) (fun y=>⟨[(17,.one (.a (.int .i64 (9:Nat)))),(16,.one (.a (.ref 1))),(18,.one (.a (.int .i64 (y.1:Int)))),(1,.one (.a (.loc 2 0)))],
   [(0,.ro (.int .i64) mem),(1,.row 3 (.int .i64) L),(2,.cells 50 (mcs f [.bool x.c,.bool x.z,.bool x.n,.bool x.v,.int .i64 a,.ref 0]))],3⟩)
   (fun y=>9-y.1) ⟨0,by omega⟩ (Ent.mk1 (fun n=>if n=0 then 0 else if n=1 then 4 else 1) (by simp[Zy,Z2])) ?_
  rintro⟨k,hk⟩
  simp only
  by_cases hlt:k<9
  ·have hw:IntKind.i64.wrap ((k:Int)+1)=((k+1:Nat):Int):=Zx (by omega)
   have hkt:((k:Int)).toNat=k:=by omega
   have hk9:(k:Int)<(9:Nat):=by omega
   have hkL:(k:Int)<L.length:=by omega
   have hkL2:k<L.length:=by omega
   have hx:=hr k hlt
   obtain⟨v,hv⟩:∃v,L.getD k 0=v:=⟨_,rfl⟩
   rw[hv]at hx
   have v0:¬v<0:=by unfold wd at hx;omega
   have v1:¬65535<v:=by unfold wd at hx;omega
   repeat'(first|(first|refine Stp.h ?_)<;>try simp only[Zd,simprocAttr,↓reduceIte,reduceCtorEq,implies_true,Z2,hw,hkt,hk9,hkL,hkL2,d0,hv,v0,v1,decide_false,Int.ofNat_lt]|(with_reducible first|assumption|refine And.intro ?_ ?_)|(intro h;first|omega|exact tg h ‹_›|exact tg ‹_› h|skip))
   all_goals first|omega|exact⟨⟨k+1,hlt⟩,(Ent.mk1 (id) (by simp[Zy,hw,Z2])),by simp only;omega⟩|skip
  ·have hk2:k=9:=by omega
   subst hk2
   repeat'(first|(first|refine Stp.h ?_)<;>try simp only[Zd,simprocAttr,↓reduceIte,reduceCtorEq,implies_true,Z2,hl2,d0]|(with_reducible first|assumption|refine And.intro ?_ ?_)|(intro h;first|omega|exact tg h ‹_›|exact tg ‹_› h|skip))
   all_goals first|omega|skip
   refine T.loop (ι:= {k:Nat//k≤mem.length}) (fun y=>⟨[(31,.one (.a (.int .i64 mem.length))),(30,.one (.a (.ref 0))),(32,.one (.a (.int .i64 (y.1:Int))))],[(0,.ro (.int .i64) mem)],3⟩)
    (fun y=>mem.length-y.1) ⟨0,by omega⟩ (Ent.mk1 (id) (by simp[Zy,Z2])) ?_
   rintro⟨k,hk⟩
   simp only
   by_cases hlt:k<mem.length
   ·have hw:IntKind.i64.wrap ((k:Int)+1)=((k+1:Nat):Int):=Zx (by omega)
    have hkt:((k:Int)).toNat=k:=by omega
    have hkL:(k:Int)<mem.length:=by omega
    have hx:=hm k hlt
    obtain⟨v,hv⟩:∃v,mem.getD k 0=v:=⟨_,rfl⟩
    rw[hv]at hx
    have v0:¬v<0:=by unfold wd at hx;omega
    have v1:¬65535<v:=by unfold wd at hx;omega
    repeat'(first|(first|refine Stp.h ?_)<;>try simp only[Zd,simprocAttr,↓reduceIte,reduceCtorEq,implies_true,Z2,hw,hkt,hkL,hlt,d0,hv,v0,v1,decide_false,Int.ofNat_lt]|(with_reducible first|assumption|refine And.intro ?_ ?_)|(intro h;first|omega|exact tg h ‹_›|exact tg ‹_› h|skip))
    all_goals first|omega|exact⟨⟨k+1,hlt⟩,(Ent.mk1 (id) (by simp[Zy,hw,Z2])),by simp only;omega⟩|skip
   ·have hk2:k=mem.length:=by omega
    subst hk2
    have hn:¬(mem.length:Int)<mem.length:=by omega
    repeat'(first|(first|refine Stp.h ?_)<;>try simp only[Zd,simprocAttr,↓reduceIte,reduceCtorEq,implies_true,Z2,hn]|(with_reducible first|assumption|refine And.intro ?_ ?_)|(intro h;first|omega|exact tg h ‹_›|exact tg ‹_› h|skip))
    all_goals first|omega|skip
theorem wary_gc(f:Nat→Int)(x:Fl)(a:Int)(mem code:List Int)(fuel:Int)(hf:∀i,i<8→wd (f i))(ha:wd a)(hl:mem.length≤65536)(hm:∀j,j<mem.length→wd (mem.getD j 0))(hc:code.length≤65536)(hfu:0≤fuel∧fuel≤1000000):
 GC Tryz.prog 85 [.a (.ref 1),.agg (mcs f [.bool x.c,.bool x.z,.bool x.n,.bool x.v,.int .i64 a,.ref 0]),.a (.raw (.slice none 0 0)),.a (.int .i64 fuel)] [(0,.ro (.int .i64) mem),(1,.ro (.int .i64) code)] 2 [] (.one (.a (.int .i64 0))) [] 2:=by
 have hW:=Zgo f x a mem hf ha hl hm
 have hc2:¬(65536:Int)<code.length:=by omega
 have f0:¬fuel<0:=by omega
 have f1:¬1000000<fuel:=by omega
 have z0:∀l:List At,l.drop 0=l:=fun l=>rfl
 refine Jl.fn.gc (by simp) (by simp[Zu,Zw,Zv,Zj,Ze,Vc.S1.okN,At.okN,SV.okN,Res.okN,Res.outOk,Zo,Res.own,Value.oneCell',Xw]) fun w X fr=> ?_
 repeat'(first|(first|refine Stp.h ?_|(refine Za.gc hW ?_ ?_;focus simp[Zb,Z2];done))<;>try simp only[Zd,simprocAttr,↓reduceIte,reduceCtorEq,implies_true,Z2,hc2,f0,f1,z0,decide_false]|(with_reducible first|assumption|refine And.intro ?_ ?_)|(intro h;first|omega|exact tg h ‹_›|exact tg ‹_› h|skip))
structure Trace (code:List Int) (M:Nat→Ma) (N:Nat) (hw:Int):Prop where
 pos:0<N
 how:hw=1∨hw=2
 cl:code.length≤65536
 len:∀k,k≤N→(M k).mem.length=65536
 reg:∀k,k≤N→∀i,i<8→wd ((M k).f i)
 pc:∀k,k≤N→wd (M k).pc
 st:∀k,k<N→∃i n,Y4 code (M k).pc=(i,n)∧Tj i n=true∧stepS i n (M k)=(if k+1=N then hw else 0,M (k+1))
def trimN(l:List Int):Nat→Nat
 |0=>0
 |n+1=>if l.getD n 0=0 then trimN l n else n+1
theorem Hn(l:List Int):∀n,trimN l n≤n
 |0=>Nat.le_refl _
 |n+1=>by unfold trimN;split;exact Nat.le_succ_of_le (Hn l n);exact Nat.le_refl _
theorem Zie:z14=[.int .i64 0,.int .i64 0,.int .i64 0,.int .i64 0,.int .i64 0,.int .i64 0,.int .i64 0,.int .i64 0,.bool false,.bool false,.bool false,.bool false,.int .i64 0,.raw (.slice none 0 0)]:=rfl
def Hb(hw tr st:Int)(f:Nat→Int)(x:Fl)(pc:Int):List At:=[.int .i64 hw,.int .i64 tr,.raw (.slice none 0 0),.int .i64 0,.int .i64 st]++mcs f [.bool x.c,.bool x.z,.bool x.n,.bool x.v,.int .i64 pc,.ref 2]
def Zcp(code:List Int)(M:Nat→Ma)(N:Nat)(hw fuel:Int)(k:Nat):St:=
 ⟨[(15,.one (.a (.loc 0 0))),(12,.one (.a (.loc 3 0))),(3,.one (.a (.int .i64 fuel))),(4,.one (.a (.raw .nilFunc))),(5,.one (.a (.raw .nilFunc)))],
  [(0,.cells 151 (mcs (M k).f (TL (M k).x (M k).pc (if k=N then hw else 0) (M k).trap 0 (k:Int)))),(1,.row 3 (.int .i64) (M k).mem),(2,.row 3 (.int .i64) code),
   (3,.cells 52 [.int .i64 0,.int .i64 0,.raw (.slice none 0 0),.int .i64 0,.int .i64 0,.int .i64 0,.int .i64 0,.int .i64 0,.int .i64 0,.int .i64 0,.int .i64 0,.int .i64 0,.int .i64 0,.bool false,.bool false,.bool false,.bool false,.int .i64 0,.raw (.slice none 0 0)])],4⟩
def trimS(code:List Int)(M:Nat→Ma)(N:Nat)(hw:Int)(t:Nat):St:=
 ⟨[(17,.one (.a (.int .i64 (t:Int)))),(15,.one (.a (.loc 0 0))),(12,.one (.a (.loc 3 0)))],
  [(0,.cells 151 (mcs (M N).f (TL (M N).x (M N).pc hw (M N).trap 0 (N:Int)))),(1,.row 3 (.int .i64) (M N).mem),(2,.row 3 (.int .i64) code),
   (3,.cells 52 [.int .i64 0,.int .i64 0,.raw (.slice none 0 0),.int .i64 0,.int .i64 0,.int .i64 0,.int .i64 0,.int .i64 0,.int .i64 0,.int .i64 0,.int .i64 0,.int .i64 0,.int .i64 0,.bool false,.bool false,.bool false,.bool false,.int .i64 0,.raw (.slice none 0 0)])],4⟩
set_option maxHeartbeats 16000000 in
set_option maxRecDepth 100000 in
theorem Zgn(code:List Int)(M:Nat→Ma)(N:Nat)(hw:Int)(h:Trace code M N hw)(ht:(M 0).trap=0)(hm:∀j,j<65536→wd ((M 0).mem.getD j 0))(fuel:Int)(hfu:(N:Int)≤fuel∧fuel≤1000000)(h0:0<trimN (M N).mem 65536):
 GC Tryz.prog 72 [.a (.ref 0),.agg (mcs (M 0).f [.bool (M 0).x.c,.bool (M 0).x.z,.bool (M 0).x.n,.bool (M 0).x.v,.int .i64 (M 0).pc,.ref 1]),.a (.raw (.slice none 0 0)),.a (.int .i64 fuel),.a (.raw .nilFunc),.a (.raw .nilFunc)]
  [(0,.row 3 (.int .i64) code),(1,.ro (.int .i64) (M 0).mem)] 2 [] (.tup [.agg (Hb hw (M N).trap N (M N).f (M N).x (M N).pc),.a (.int .i64 0)]) [(2,.row 3 (.int .i64) ((M N).mem.take (trimN (M N).mem 65536)))] 3:=by
 have hl0:=h.len 0 (Nat.zero_le _)
 have hW:=wary_gc (M 0).f (M 0).x (M 0).pc (M 0).mem code fuel (h.reg 0 (Nat.zero_le _)) (h.pc 0 (Nat.zero_le _)) (by omega) (fun j hj=>hm j (by omega)) h.cl (by omega)
 have hC:=De (M 0).mem (by omega) (by omega)
 have w0:IntKind.i64.wrap (65536-((M 0).mem.length:Int))=0:=by rw[hl0];exact Zm (by omega) (by omega)
 have z0:∀l:List At,l.drop 0=l:=fun l=>rfl
 have t0:∀l:List At,l.take 0=[]:=fun l=>rfl
 refine Kh.fn.gc (by simp) (by simp[Zu,Zw,Zv,Zj,Ze,Vc.S1.okN,At.okN,SV.okN,Res.okN,Res.outOk,Zo,Res.own,Value.oneCell',Xw,Hb]) fun w X fr=> ?_
 repeat'(first|(first|refine T.danyps [2] Mix.m ?_|refine T.danyp [2] Mix.m ?_|refine Stp.h ?_|(refine Za.gc hW ?_ ?_;focus simp[Zb,Z2];done)|(refine Za.gc hC ?_ ?_;focus simp[Zb,Z2];done))<;>try simp only[Zd,simprocAttr,↓reduceIte,reduceCtorEq,implies_true,Z2,w0,z0,t0]|(with_reducible first|assumption|refine And.intro ?_ ?_)|(intro h;first|omega|exact tg h ‹_›|exact tg ‹_› h|skip))
 all_goals
  refine T.loop (ι:= {k:Nat//k≤N}) (fun y=>Zcp code M N hw fuel y.1) (fun y=>N-y.1) ⟨0,Nat.zero_le _⟩ (Ent.mk1 (fun n=>if n=0 then 4 else if n=1 then 5 else if n=2 then 0 else 3) (by simp[Zy,Z2,Zcp,Zie,ht,show¬0=N by have:=h.pos;omega])) ?_
  rintro⟨k,hk⟩
  simp only[Zcp]
  by_cases hlt:k<N
  ·have hw:IntKind.i64.wrap ((k:Int)+1)=((k+1:Nat):Int):=Zx (by omega)
   have hkf:¬(k:Int)=fuel:=by omega
   have hkN:¬k=N:=by omega
   obtain⟨i,n,g1,g2,g3⟩:=h.st k hlt
   have hG:=step_gc code (M k) 0 ((k+1:Nat):Int) i n g1 h.cl g2 (h.len k hk) (h.reg k hk) (h.pc k hk)
   rw[g3]at hG
   repeat'(first|(first|refine Stp.h ?_|(refine Za.gc hG ?_ ?_;focus simp[Zb,Z2];done))<;>try simp only[Zd,simprocAttr,↓reduceIte,reduceCtorEq,implies_true,Z2,hw,hkf,hkN,z0,t0,decide_false]|(with_reducible first|assumption|refine And.intro ?_ ?_)|(intro h;first|omega|exact tg h ‹_›|exact tg ‹_› h|skip))
   all_goals first|omega|exact⟨⟨k+1,hlt⟩,(Ent.mk1 (id) (by simp[Zy,Z2])),by simp only;omega⟩|skip
  ·have hk2:k=N:=by omega
   subst hk2
   have hw0:¬hw=0:=by rcases h.how with e|e<;>omega
   have hlN:=h.len k hk
   repeat'(first|(first|refine Stp.h ?_)<;>try simp only[Zd,simprocAttr,↓reduceIte,reduceCtorEq,implies_true,Z2,hw0,z0,t0,decide_false]|(with_reducible first|assumption|refine And.intro ?_ ?_)|(intro h;first|omega|exact tg h ‹_›|exact tg ‹_› h|skip))
   all_goals first|omega|skip
   refine T.loop (ι:= {t:Nat//t≤65536∧trimN (M k).mem t=trimN (M k).mem 65536}) (fun y=>trimS code M k hw y.1) (fun y=>y.1) ⟨65536,Nat.le_refl _,rfl⟩ (Ent.mk1 id (by simp[Zy,Z2,trimS,hlN])) ?_
   rintro⟨t,ht1,ht2⟩
   simp only[trimS]
   obtain⟨t,rfl⟩:∃q,t=q+1:=⟨t-1,by
    rcases t with _|t
    ·have e:trimN (M k).mem 0=0:=rfl
     omega
    ·omega⟩
   have hw1:IntKind.i64.wrap (((t+1:Nat):Int)-1)=(t:Int):=by rw[Zm (by omega) (by omega)];omega
   have hp:(0:Int)<((t+1:Nat):Int):=by omega
   have htn:((t:Nat):Int).toNat=t:=by omega
   have htl:(t:Int)<(M k).mem.length:=by omega
   have htl2:t<(M k).mem.length:=by omega
   have d0:(Kd.int .i64).dflt=(0:Int):=rfl
   by_cases hz:(M k).mem.getD t 0=0
   ·have ht3:trimN (M k).mem t=trimN (M k).mem 65536:=by rw[←ht2,trimN,if_pos hz]
    repeat'(first|(first|refine Stp.h ?_)<;>try simp only[Zd,simprocAttr,↓reduceIte,reduceCtorEq,implies_true,Z2,hw1,hp,htn,htl,htl2,d0,hz,z0,t0,decide_true,Int.ofNat_lt]|(with_reducible first|assumption|refine And.intro ?_ ?_)|(intro h;first|omega|exact tg h ‹_›|exact tg ‹_› h|skip))
    all_goals first|omega|exact⟨⟨t,by omega,ht3⟩,(Ent.mk1 (id) (by simp[Zy,Z2])),by simp only;omega⟩|skip
   ·have ht3:t+1=trimN (M k).mem 65536:=by rw[←ht2,trimN,if_neg hz]
    have hC2:=De ((M k).mem.take (t+1)) (by rw[List.length_take];omega) (by rw[List.length_take];omega)
    rw[←ht3]
    have htn2:(((t+1:Nat)):Int).toNat=t+1:=by omega
    have hle:0≤((t+1:Nat):Int):=by omega
    have hle2:t+1≤(M k).mem.length:=by omega
    have tz:(0:Int).toNat=0:=rfl
    have zd:z14.drop 14=[]:=rfl
    repeat'(first|(first|refine Stp.h ?_|(refine Za.gc hC2 ?_ ?_;focus simp[Zb,Z2,hle2];done))<;>try simp only[Zd,simprocAttr,↓reduceIte,reduceCtorEq,implies_true,Z2,tz,zd,hw1,hp,htn,htn2,htl,htl2,hle,hle2,d0,hz,z0,t0,decide_true,decide_false,Int.ofNat_lt,Hb]|(with_reducible first|assumption|refine And.intro ?_ ?_)|(intro h;first|omega|exact tg h ‹_›|exact tg ‹_› h|skip))
    all_goals first|omega|skip
theorem Run_gc(code:List Int)(M:Nat→Ma)(N:Nat)(hw:Int)(h:Trace code M N hw)(ht:(M 0).trap=0)(hm:∀j,j<65536→wd ((M 0).mem.getD j 0))(fuel:Int)(hfu:(N:Int)≤fuel∧fuel≤1000000)(h0:0<trimN (M N).mem 65536):
 GC Tryz.prog 44 [.a (.ref 0),.agg (mcs (M 0).f [.bool (M 0).x.c,.bool (M 0).x.z,.bool (M 0).x.n,.bool (M 0).x.v,.int .i64 (M 0).pc,.ref 1]),.a (.raw (.slice none 0 0)),.a (.int .i64 fuel)]
  [(0,.row 3 (.int .i64) code),(1,.ro (.int .i64) (M 0).mem)] 2 [] (.tup [.agg (Hb hw (M N).trap N (M N).f (M N).x (M N).pc),.a (.int .i64 0)]) [(2,.row 3 (.int .i64) ((M N).mem.take (trimN (M N).mem 65536)))] 3:=by
 have hW:=Zgn code M N hw h ht hm fuel hfu h0
 have z0:∀l:List At,l.drop 0=l:=fun l=>rfl
 have t0:∀l:List At,l.take 0=[]:=fun l=>rfl
 refine H0.fn.gc (by simp) (by simp[Zu,Zw,Zv,Zj,Ze,Vc.S1.okN,At.okN,SV.okN,Res.okN,Res.outOk,Zo,Res.own,Value.oneCell',Xw,Hb]) fun w X fr=> ?_
 unfold Hb at*
 repeat'(first|(first|refine Stp.h ?_|(refine Za.gc hW ?_ ?_;focus simp[Zb,Z2];done))<;>try simp only[Zd,simprocAttr,↓reduceIte,reduceCtorEq,implies_true,Z2,z0,t0,List.cons_append,List.nil_append]|(with_reducible first|assumption|refine And.intro ?_ ?_)|(intro h;first|omega|exact tg h ‹_›|exact tg ‹_› h|skip))
end Go.Proofs.YtbmecnjmbhokgaaGreatDoor
namespace Go.Proofs.YtbmecnjmbhokgaaGreatDoor
open Go Vc
set_option linter.unusedVariables false
set_option linter.unusedSimpArgs false
structure Pu where
 f:Nat→Int
 x:Fl
 mem:List Int
def mk(s:Pu)(pc tr:Int):Ma:=⟨s.f,s.x,pc,s.mem,tr⟩
def szI(i:Ins):Int:=if V7 i.op=true then 2 else 1
def Z0:List Ins→Int
 | []=>0
 |i::r=>szI i+Z0 r
theorem Ey(i:Ins):szI i=1∨szI i=2:=by unfold szI;split<;>simp
theorem Z8(l:List Ins):0≤Z0 l:=by
 induction l with
 |nil=>simp[Z0]
 |cons i l ih=>have:=Ey i;simp only[Z0];omega
def atB(code:List Int):Int→List Ins→Bool
 |_,[]=>true
 |a,i::r=>decide (Y4 code a=(i,szI i))&&(Tj i (szI i)&&atB code (a+szI i) r)
theorem Z6(code:List Int):∀(l r:List Ins) (a:Int),atB code a (l++r)=true→atB code a l=true∧atB code (a+Z0 l) r=true
 | [],r,a,h=>⟨rfl,by simpa[Z0]using h⟩
 |i::l,r,a,h=>by
  simp only[List.cons_append,atB,Bool.and_eq_true]at h ⊢
  obtain⟨h1,h2,h3⟩:=h
  obtain⟨g1,g2⟩:=Z6 code l r _ h3
  exact⟨⟨h1,h2,g1⟩,by simp only[Z0,←Int.add_assoc];exact g2⟩
theorem Qn{code:List Int}{a:Int}{i:Ins}{r:List Ins}(h:atB code a (i::r)=true):Y4 code a=(i,szI i)∧Tj i (szI i)=true∧atB code (a+szI i) r=true:=by
 simp only[atB,Bool.and_eq_true,decide_eq_true_eq]at h
 exact h
structure PuOk (s:Pu):Prop where
 len:s.mem.length=65536
 reg:∀i,i<8→wd (s.f i)
 mem:∀j,wd (s.mem.getD j 0)
theorem Pr(x:Int):wd (x%65536):=by
 have h1:=Int.emod_nonneg x (show(65536:Int)≠0 by decide)
 have h2:=Int.emod_lt_of_pos x (show(0:Int)<65536 by decide)
 unfold wd;omega
theorem Pt{f:Nat→Int}(h:∀i,i<8→wd (f i)){o:Nat}{v:Int}(hv:wd v):∀i,i<8→wd (Qx f o v i):=by
 intro i hi;unfold Qx;split
 ·exact hv
 ·exact h i hi
theorem Da{l:List Int}(h:∀j,wd (l.getD j 0)){o:Nat}{v:Int}(hv:wd v):∀j,wd ((l.set o v).getD j 0):=by
 intro j
 rw[List.getD_eq_getElem?_getD,List.getElem?_set]
 split
 ·split
  ·exact hv
  ·exact⟨by decide,by decide⟩
 ·rw[←List.getD_eq_getElem?_getD];exact h j
theorem Db(a b:Int)(c:Bool):wd (Tz a b c):=Zh3 a b c
theorem Ps(op a b:Int)(x:Fl):wd (twoR op a b x):=by
 unfold twoR T8
 repeat' split
 all_goals first|exact Db _ _ _|exact Pr _
theorem Qc(op a:Int)(c:Bool)(ha:wd a):wd (shR op a c):=by
 unfold shR wd cI at*
 repeat' split
 all_goals omega
def exP(i:Ins)(s:Pu):Pu:=⟨(Xi i 0 (mk s 0 0)).f,(Xi i 0 (mk s 0 0)).x,(Xi i 0 (mk s 0 0)).mem⟩
def exL(l:List Ins)(s:Pu):Pu:=l.foldl (fun s i=>exP i s) s
def Pq(i:Ins):Bool:=[1,2,3,4,12,13,5,6,7,8,10,11,14,15,16,17,18,28].contains i.op
theorem F3{i:Ins}{n:Int}(h:Tj i n=true):i.d.toNat<8∧i.s.toNat<8∧wd i.imm∧(n=1∨n=2):=by
 simp only[Tj,Bool.and_eq_true,decide_eq_true_eq]at h
 obtain⟨_,h1,h2,h3,h4⟩:=h
 exact⟨by omega,by omega,h4,h1⟩
structure OkM (m:Ma):Prop where
 len:m.mem.length=65536
 reg:∀i,i<8→wd (m.f i)
 mem:∀j,wd (m.mem.getD j 0)
theorem I3{c:Prop}[Decidable c]{a b:Ma}(ha:OkM a)(hb:OkM b):OkM (if c then a else b):=by split<;>assumption
theorem Zg3{i:Ins}{n nx:Int}(hi:Tj i n=true){m:Ma}(h:OkM m):OkM (Xi i nx m):=by
 obtain⟨hd,hs,him,_⟩:=F3 hi
 have hp:∀v,(m.mem.set v (nx%65536)).length=65536:=fun v=>by rw[List.length_set];exact h.len
 unfold Xi
 refine I3 ⟨h.len,Pt h.reg (h.reg _ hs),h.mem⟩ ?_
 refine I3 ⟨h.len,Pt h.reg him,h.mem⟩ ?_
 refine I3 ⟨h.len,Pt h.reg (h.mem _),h.mem⟩ ?_
 refine I3 ⟨by rw[List.length_set];exact h.len,h.reg,Da h.mem (Pr _)⟩ ?_
 refine I3 ⟨h.len,h.reg,h.mem⟩ ?_
 refine I3 ⟨h.len,Pt h.reg (Ps _ _ _ _),h.mem⟩ ?_
 refine I3 ⟨h.len,Pt h.reg (Qc _ _ _ (h.reg _ hd)),h.mem⟩ ?_
 refine I3 ⟨h.len,h.reg,h.mem⟩ ?_
 refine I3 ⟨by rw[List.length_set];exact h.len,Pt h.reg (Pr _),Da h.mem (Pr _)⟩ ?_
 refine I3 ⟨h.len,Pt h.reg (Pr _),h.mem⟩ ?_
 exact I3 ⟨by rw[List.length_set];exact h.len,Pt h.reg (Pr _),Da h.mem (Pr _)⟩ h
theorem exP_ok{i:Ins}{n:Int}(hi:Tj i n=true){s:Pu}(h:PuOk s):PuOk (exP i s):=by
 obtain⟨h1,h2,h3⟩:=Zg3 (nx:=0) (m:=mk s 0 0) hi ⟨h.len,h.reg,h.mem⟩
 exact⟨h1,h2,h3⟩
def nextS(code:List Int)(m:Ma):Ma:=(stepS (Y4 code m.pc).1 (Y4 code m.pc).2 m).2
structure Good (code:List Int) (m:Ma):Prop where
 ins:Tj (Y4 code m.pc).1 (Y4 code m.pc).2=true
 len:m.mem.length=65536
 reg:∀i,i<8→wd (m.f i)
 pc:wd m.pc
def U6(code:List Int):Nat→Ma→Ma→Prop
 |0,m,m'=>m=m'
 |k+1,m,m'=>(Good code m∧(stepS (Y4 code m.pc).1 (Y4 code m.pc).2 m).1=0)∧U6 code k (nextS code m) m'
theorem U6.trans{code:List Int}:∀ {j k:Nat} {a b c:Ma},U6 code j a b→U6 code k b c→U6 code (j+k) a c
 |0,k,a,b,c,h1,h2=>by
  have e:a=b:=h1
  subst e;rw[Nat.zero_add];exact h2
 |j+1,k,a,b,c,h1,h2=>by
  rw[show j+1+k=(j+k)+1 by omega]
  exact⟨h1.1,U6.trans h1.2 h2⟩
def cns(a:Ma)(M:Nat→Ma):Nat→Ma
 |0=>a
 |j+1=>M j
theorem U6.trace{code:List Int}{k:Nat}{m0 m1 m2:Ma}{hw:Int}(hc:code.length≤65536)(h:U6 code k m0 m1)(g:Good code m1)(hs:stepS (Y4 code m1.pc).1 (Y4 code m1.pc).2 m1=(hw,m2))(hhw:hw=1∨hw=2)
 (h2:m2.mem.length=65536∧(∀i,i<8→wd (m2.f i))∧wd m2.pc):∃M:Nat→Ma,Trace code M (k+1) hw∧M 0=m0∧M (k+1)=m2:=by
 induction k generalizing m0 with
 |zero=>
  have e:m0=m1:=h
  subst e
  refine⟨cns m0 fun _=>m2,⟨by omega,hhw,hc,?_,?_,?_,?_⟩,rfl,rfl⟩
  ·intro j hj;cases j;exact g.len;exact h2.1
  ·intro j hj;cases j;exact g.reg;exact h2.2.1
  ·intro j hj;cases j;exact g.pc;exact h2.2.2
  ·intro j hj
   obtain rfl:j=0:=by omega
   exact⟨(Y4 code m0.pc).1,(Y4 code m0.pc).2,rfl,g.ins,hs⟩
 |succ k ih=>
  obtain⟨⟨g0,hz⟩,hr⟩:=h
  obtain⟨M,hM,hM0,hMk⟩:=ih hr
  refine⟨cns m0 M,⟨by omega,hhw,hc,?_,?_,?_,?_⟩,rfl,hMk⟩
  ·intro j hj
   cases j with
   |zero=>exact g0.len
   |succ j=>exact hM.len j (by omega)
  ·intro j hj
   cases j with
   |zero=>exact g0.reg
   |succ j=>exact hM.reg j (by omega)
  ·intro j hj
   cases j with
   |zero=>exact g0.pc
   |succ j=>exact hM.pc j (by omega)
  ·intro j hj
   cases j with
   |zero=>
    refine⟨(Y4 code m0.pc).1,(Y4 code m0.pc).2,rfl,g0.ins,?_⟩
    have e:(if 0+1=k+1+1 then hw else 0)=(0:Int):=if_neg (by omega)
    rw[e]
    show _=(0,M 0)
    rw[hM0]
    exact Prod.ext hz rfl
   |succ j=>
    obtain⟨i,n,e1,e2,e3⟩:=hM.st j (by omega)
    refine⟨i,n,e1,e2,?_⟩
    show stepS i n (M j)=(_,M (j+1))
    rw[e3]
    by_cases hjk:j+1=k+1
    ·rw[if_pos hjk,if_pos (by omega)]
    ·rw[if_neg hjk,if_neg (by omega)]
theorem Zh1{code:List Int}{i:Ins}{pc tr:Int}{s:Pu}(h1:Y4 code pc=(i,szI i))(h2:Tj i (szI i)=true)(hst:Pq i=true)(hs:PuOk s)(hp:0≤pc∧pc+szI i≤65535):U6 code 1 (mk s pc tr) (mk (exP i s) (pc+szI i) tr):=by
 have hsz:=Ey i
 have hop:i.op≠0∧i.op≠32:=by
  simp[Pq]at hst
  omega
 have key:stepS i (szI i) (mk s pc tr)=(0,mk (exP i s) (pc+szI i) tr):=by
  unfold stepS
  rw[if_neg hop.1,if_neg hop.2]
  have e:(pc+szI i)%65536=pc+szI i:=by omega
  have e2:∀x:Int,(x%65536)%65536=x%65536:=fun x=>by omega
  simp[Pq]at hst
  rcases hst with h|h|h|h|h|h|h|h|h|h|h|h|h|h|h|h|h|h<;>simp[Xi,exP,mk,h,e]
 refine⟨⟨⟨?_,hs.len,hs.reg,?_⟩,?_⟩,?_⟩
 ·show Tj (Y4 code pc).1 (Y4 code pc).2=true
  rw[h1];exact h2
 ·show wd pc;unfold wd;omega
 ·show(stepS (Y4 code pc).1 (Y4 code pc).2 _).1=0
  rw[h1];exact congrArg Prod.fst key
 ·show nextS code (mk s pc tr)=_
  show(stepS (Y4 code pc).1 (Y4 code pc).2 _).2=_
  rw[h1];exact congrArg Prod.snd key
theorem Xs{code:List Int}{tr:Int}:∀(l:List Ins) (pc:Int) (s:Pu),atB code pc l=true→l.all Pq=true→PuOk s→0≤pc→pc+Z0 l≤65535→
 U6 code l.length (mk s pc tr) (mk (exL l s) (pc+Z0 l) tr)∧PuOk (exL l s)
 | [],pc,s,_,_,hs,_,_=>⟨by simp[U6,exL,Z0],hs⟩
 |i::l,pc,s,h,hst,hs,hp,hq=>by
  obtain⟨h1,h2,h3⟩:=Qn h
  simp only[List.all_cons,Bool.and_eq_true]at hst
  have hz:=Ey i
  have hnn:=Z8 l
  simp only[Z0]at hq
  have r1:=Zh1 (tr:=tr) h1 h2 hst.1 hs ⟨hp,by omega⟩
  obtain⟨r2,r3⟩:=Xs (tr:=tr) l (pc+szI i) (exP i s) h3 hst.2 (exP_ok h2 hs) (by omega) (by omega)
  refine⟨?_,r3⟩
  have:=r1.trans r2
  rw[Nat.add_comm]at this
  simp only[Z0,List.length_cons]
  rw[←Int.add_assoc]
  exact this
def W7(op:Int)(x:Fl):Bool:=if op=20 then x.z else if op=21 then !x.z else if op=22 then x.c else if op=23 then !x.c else true
theorem Tk{code:List Int}{op imm pc tr:Int}{s:Pu}(hop:op=19∨op=20∨op=21∨op=22∨op=23)(h:atB code pc [⟨op,0,0,imm⟩]=true)(hs:PuOk s)(hp:0≤pc∧pc+2≤65535):U6 code 1 (mk s pc tr) (mk s (if W7 op s.x=true then imm else pc+2) tr):=by
 obtain⟨h1,h2,_⟩:=Qn h
 have hsz:szI ⟨op,0,0,imm⟩=2:=by rcases hop with rfl|rfl|rfl|rfl|rfl<;>rfl
 rw[hsz]at h1 h2
 have him:=(F3 h2).2.2.1
 have key:stepS ⟨op,0,0,imm⟩ 2 (mk s pc tr)=(0,mk s (if W7 op s.x=true then imm else pc+2) tr):=by
  have e:(pc+2)%65536=pc+2:=by omega
  have e2:imm%65536=imm:=by unfold wd at him;simp only at him;omega
  obtain⟨f,⟨xc,xz,xn,xv⟩,mem⟩:=s
  unfold stepS W7
  rcases hop with rfl|rfl|rfl|rfl|rfl<;>cases xc<;>cases xz<;>simp[Xi,mk,e,e2]
 refine⟨⟨⟨?_,hs.len,hs.reg,?_⟩,?_⟩,?_⟩
 ·show Tj (Y4 code pc).1 (Y4 code pc).2=true
  rw[h1];exact h2
 ·show wd pc;unfold wd;omega
 ·show(stepS (Y4 code pc).1 (Y4 code pc).2 _).1=0
  rw[h1];exact congrArg Prod.fst key
 ·show(stepS (Y4 code pc).1 (Y4 code pc).2 _).2=_
  rw[h1];exact congrArg Prod.snd key
def iLd(d s:Nat)(o:Nat):Ins:=⟨3,d,s,o⟩
def iSt(d s:Nat)(o:Nat):Ins:=⟨4,d,s,o⟩
def Ky(d:Nat)(v:Nat):Ins:=⟨2,d,0,v⟩
def Ze6(d s:Nat):Ins:=⟨1,d,s,0⟩
def Zg6(k:Int)(d:Nat):Ins:=⟨k,d,0,0⟩
def N5(k:Int)(d s:Nat):Ins:=⟨k,d,s,0⟩
def Px(s:Nat):Ins:=⟨28,0,s,0⟩
def gM(s:Pu)(a:Nat):Int:=s.mem.getD a 0
def aR(s:Pu)(r:Nat):Nat:=(s.f r).toNat
def stM(s:Pu)(a:Nat)(v:Int):Pu:= {s with mem:=s.mem.set a v}
def stR(s:Pu)(r:Nat)(v:Int):Pu:= {s with f:=Qx s.f r v}
def stF(s:Pu)(x:Fl):Pu:= {s with x:=x}
theorem Yl(s:Pu):exL [] s=s:=rfl
theorem Yu(i:Ins)(l:List Ins)(s:Pu):exL (i::l) s=exL l (exP i s):=rfl
theorem Yy(l r:List Ins)(s:Pu):exL (l++r) s=exL r (exL l s):=by simp[exL]
theorem S9{s:Pu}{d r o:Nat}(h:0≤s.f r∧s.f r+o≤65535):exP (iLd d r o) s=stR s d (gM s (aR s r+o)):=by
 have e:((s.f r+(o:Int))%65536).toNat=aR s r+o:=by unfold aR;omega
 simp[exP,Xi,iLd,mk,stR,gM,e]
theorem Im{s:Pu}{d r o:Nat}(h:0≤s.f d∧s.f d+o≤65535)(hr:wd (s.f r)):exP (iSt d r o) s=stM s (aR s d+o) (s.f r):=by
 have e:((s.f d+(o:Int))%65536).toNat=aR s d+o:=by unfold aR;omega
 have e2:s.f r%65536=s.f r:=by unfold wd at hr;omega
 simp[exP,Xi,iSt,mk,stM,e,e2]
theorem N3{s:Pu}{d v:Nat}:exP (Ky d v) s=stR s d (v:Int):=by simp[exP,Xi,Ky,mk,stR]
theorem ex_mov{s:Pu}{d r:Nat}:exP (Ze6 d r) s=stR s d (s.f r):=by simp[exP,Xi,Ze6,mk,stR]
theorem Zaz{s:Pu}{k:Int}{d:Nat}(hk:k=14∨k=15∨k=16∨k=17∨k=18):exP (Zg6 k d) s=stF (stR s d (shR k (s.f d) s.x.c)) (shF k (s.f d) s.x.c):=by
 rcases hk with rfl|rfl|rfl|rfl|rfl<;>simp[exP,Xi,Zg6,mk,stR,stF]
theorem N4{s:Pu}{k:Int}{d r:Nat}(hk:k=5∨k=6∨k=7∨k=8∨k=10∨k=11):exP (N5 k d r) s=stF (stR s d (twoR k (s.f d) (s.f r) s.x)) (twoF k (s.f d) (s.f r) s.x):=by
 rcases hk with rfl|rfl|rfl|rfl|rfl|rfl<;>simp[exP,Xi,N5,mk,stR,stF]
theorem Zg1{s:Pu}{k:Int}{d r:Nat}(hk:k=12∨k=13):exP (N5 k d r) s=stF s (twoF k (s.f d) (s.f r) s.x):=by
 rcases hk with rfl|rfl<;>simp[exP,Xi,N5,mk,stF]
theorem ex_push{s:Pu}{r:Nat}(h7:1≤s.f 7∧s.f 7≤65535)(hr:wd (s.f r)):exP (Px r) s=stM (stR s 7 (s.f 7-1)) (aR s 7-1) (s.f r):=by
 have e:(s.f 7-1)%65536=s.f 7-1:=by omega
 have e1:(s.f 7-1).toNat=aR s 7-1:=by unfold aR;omega
 have e2:s.f r%65536=s.f r:=by unfold wd at hr;omega
 simp[exP,Xi,Px,mk,stM,stR,e,e1,e2]
theorem Wj{s:Pu}{a b:Nat}{v:Int}(ha:a<s.mem.length):gM (stM s a v) b=if b=a then v else gM s b:=by
 unfold gM stM
 simp only
 rw[List.getD_eq_getElem?_getD,List.getElem?_set]
 by_cases h:a=b
 ·subst h;simp[ha]
 ·rw[if_neg h,if_neg (fun e=>h e.symm),←List.getD_eq_getElem?_getD]
theorem Za1{s:Pu}{r b:Nat}{v:Int}:gM (stR s r v) b=gM s b:=rfl
theorem Mx{s:Pu}{a:Nat}{v:Int}:(stM s a v).f=s.f:=rfl
theorem W6{s:Pu}{x:Fl}:(stF s x).f=s.f:=rfl
theorem Yg{s:Pu}{r i:Nat}{v:Int}:(stR s r v).f i=if i=r then v else s.f i:=rfl
theorem Zeg{s:Pu}{a:Nat}{v:Int}:(stM s a v).x=s.x:=rfl
theorem Ku{s:Pu}{x:Fl}:(stF s x).x=x:=rfl
theorem Rt{s:Pu}{r:Nat}{v:Int}:(stR s r v).mem.length=s.mem.length:=rfl
theorem len_stF{s:Pu}{x:Fl}:(stF s x).mem.length=s.mem.length:=rfl
theorem Qa{s:Pu}(h:PuOk s){a:Nat}{v:Int}(hv:wd v):PuOk (stM s a v):=⟨by simpa[stM]using h.len,h.reg,Da h.mem hv⟩
theorem Yh{s:Pu}(h:PuOk s){r:Nat}{v:Int}(hv:wd v):PuOk (stR s r v):=⟨h.len,Pt h.reg hv,h.mem⟩
theorem Tx{s:Pu}(h:PuOk s){x:Fl}:PuOk (stF s x):=⟨h.len,h.reg,h.mem⟩
def pw:Nat→Int
 |0=>1
 |n+1=>65536*pw n
theorem Oo:∀n,0<pw n
 |0=>by decide
 |n+1=>by have:=Oo n;simp only[pw];omega
def val(g:Nat→Int)(a:Nat):Nat→Int
 |0=>0
 |n+1=>g a+65536*val g (a+1) n
theorem Vv(g:Nat→Int):∀(n a:Nat),val g a (n+1)=val g a n+pw n*g (a+n)
 |0,a=>by simp[val,pw]
 |n+1,a=>by
  have ih:=Vv g n (a+1)
  rw[val,ih,val,pw,show a+1+n=a+(n+1) by omega,Int.mul_add,Int.mul_assoc]
  omega
theorem Zs{g h:Nat→Int}:∀(n a:Nat),(∀b,a≤b→b<a+n→g b=h b)→val g a n=val h a n
 |0,a,_=>rfl
 |n+1,a,hb=>by
  rw[val,val,hb a (Nat.le_refl _) (by omega),Zs n (a+1) fun b h1 h2=>hb b (by omega) (by omega)]
theorem Xd{g:Nat→Int}:∀(n a:Nat),(∀b,wd (g b))→0≤val g a n∧val g a n<pw n
 |0,a,_=>by simp[val,pw]
 |n+1,a,hb=>by
  have ih:=Xd n (a+1) hb
  have h1:=hb a
  unfold wd at h1
  simp only[val,pw]
  omega
theorem Zec{g h:Nat→Int}:∀(n a b:Nat),(∀b,wd (g b))→(∀b,wd (h b))→val g a n=val h b n→∀i,i<n→g (a+i)=h (b+i)
 |0,a,b,_,_,_,i,hi=>by omega
 |n+1,a,b,hg,hh,e,i,hi=>by
  have h1:=hg a
  have h2:=hh b
  unfold wd at h1 h2
  simp only[val]at e
  have e1:g a=h b:=by omega
  cases i with
  |zero=>exact e1
  |succ i=>
   have:=Zec n (a+1) (b+1) hg hh (by omega) i (by omega)
   rw[show a+(i+1)=a+1+i by omega,show b+(i+1)=b+1+i by omega]
   exact this
theorem sh_up(a:Int)(ha:wd a)(c:Bool):shR 15 a c+65536*cI (shF 15 a c).c=2*a+cI c∧wd (shR 15 a c):=by
 unfold wd at ha
 refine⟨?_,Qc _ _ _ ha⟩
 simp only[shF,Rj,shR,Int.reduceEq,↓reduceIte,or_true]
 by_cases h:32767<a<;>cases c<;>simp[cI,h]<;>omega
theorem sh_up0(a:Int)(ha:wd a)(c:Bool):shR 14 a c=shR 15 a false∧(shF 14 a c).c=(shF 15 a false).c:=by
 simp[shF,Rj,shR,cI]
def topB(k:Int)(a:Int)(c:Bool):Bool:=if k=16 then false else if k=17 then decide (32767<a)else c
theorem sh_down(k:Int)(hk:k=16∨k=17∨k=18)(a:Int)(ha:wd a)(c:Bool):2*shR k a c+cI (shF k a c).c=a+65536*cI (topB k a c)∧wd (shR k a c):=by
 unfold wd at ha
 refine⟨?_,Qc _ _ _ ha⟩
 rcases hk with rfl|rfl|rfl
 ·simp only[shF,Rj,shR,topB,Int.reduceEq,↓reduceIte,or_false]
  by_cases h:a%2=1<;>simp[cI,h]<;>omega
 ·simp only[shF,Rj,shR,topB,Int.reduceEq,↓reduceIte,or_false]
  by_cases h:a%2=1<;>by_cases h2:32767<a<;>simp[cI,h,h2]<;>omega
 ·simp only[shF,Rj,shR,topB,Int.reduceEq,↓reduceIte,or_false]
  by_cases h:a%2=1<;>cases c<;>simp[cI,h]<;>omega
def upW(k:Int)(reg off:Nat):List Ins:=[iLd 2 reg off,Zg6 k 2,iSt reg 2 off]
def upL(reg:Nat):Nat→Nat→List Ins
 |_,0=>[]
 |off,n+1=>upW 15 reg off++upL reg (off+1) n
theorem upW_run(k:Int)(hk:k=14∨k=15){s:Pu}(h:PuOk s){reg off:Nat}(hr:reg<8∧reg≠2)(hb:aR s reg+off<65536):
 exL (upW k reg off) s=stM (stF (stR (stR s 2 (gM s (aR s reg+off))) 2 (shR k (gM s (aR s reg+off)) s.x.c)) (shF k (gM s (aR s reg+off)) s.x.c)) (aR s reg+off) (shR k (gM s (aR s reg+off)) s.x.c):=by
 have hf:=h.reg reg hr.1
 unfold wd at hf
 have hA:((aR s reg:Nat):Int)=s.f reg:=by unfold aR;omega
 have hw:wd (gM s (aR s reg+off)):=h.mem _
 simp only[upW,Yu,Yl]
 rw[S9 (by omega),Zaz (by omega)]
 have e2:(stR s 2 (gM s (aR s reg+off))).f 2=gM s (aR s reg+off):=rfl
 rw[e2]
 rw[Im (by
  show 0≤(stR (stR s 2 _) 2 _).f reg∧_
  simp only[Yg,W6,if_neg hr.2];omega) (Qc _ _ _ hw)]
 have e3:aR (stF (stR (stR s 2 (gM s (aR s reg+off))) 2 (shR k (gM s (aR s reg+off)) (stR s 2 (gM s (aR s reg+off))).x.c)) (shF k (gM s (aR s reg+off)) (stR s 2 (gM s (aR s reg+off))).x.c)) reg=aR s reg:=by
  simp only[aR,W6,Yg,if_neg hr.2]
 rw[e3]
 rfl
structure Chg (s s':Pu) (A n:Nat):Prop where
 ok:PuOk s'
 f:∀i,i≠2→i≠4→s'.f i=s.f i
 m:∀b,b<A∨A+n≤b→gM s' b=gM s b
theorem Chg.rfl'{s:Pu}(h:PuOk s)(A n:Nat):Chg s s A n:=⟨h,fun _ _ _=>rfl,fun _ _=>rfl⟩
theorem Chg.wider{s s':Pu}{A n A' n':Nat}(h:Chg s s' A n)(h1:A'≤A)(h2:A+n≤A'+n'):Chg s s' A' n':=⟨h.ok,h.f,fun b hb=>h.m b (by omega)⟩
theorem Chg.trans{s s1 s2:Pu}{A n:Nat}(h:Chg s s1 A n)(h2:Chg s1 s2 A n):Chg s s2 A n:=⟨h2.ok,fun i h3 h4=>(h2.f i h3 h4).trans (h.f i h3 h4),fun b hb=>(h2.m b hb).trans (h.m b hb)⟩
theorem Chg.aR{s s':Pu}{A n:Nat}(h:Chg s s' A n){r:Nat}(h2:r≠2)(h4:r≠4):aR s' r=aR s r:=by unfold Proofs.YtbmecnjmbhokgaaGreatDoor.aR;rw[h.f r h2 h4]
theorem Lk(p:Int)(c:Bool):65536*p*cI c=65536*(p*cI c):=by rw[Int.mul_assoc]
theorem Zeb(k:Int)(hk:k=14∨k=15){s:Pu}(h:PuOk s){reg off:Nat}(hr:reg<8∧reg≠2)(hb:aR s reg+off<65536):
 Chg s (exL (upW k reg off) s) (aR s reg+off) 1∧gM (exL (upW k reg off) s) (aR s reg+off)+65536*cI (exL (upW k reg off) s).x.c=2*gM s (aR s reg+off)+(if k=14 then 0 else cI s.x.c):=by
 have hw:wd (gM s (aR s reg+off)):=h.mem _
 rw[upW_run k hk h hr hb]
 have hl:aR s reg+off<s.mem.length:=by rw[h.len];exact hb
 refine⟨⟨Qa (Tx (Yh (Yh h hw) (Qc _ _ _ hw))) (Qc _ _ _ hw),fun i h2 _=>by simp only[Mx,W6,Yg,if_neg h2],fun b hb=> ?_⟩,?_⟩
 ·rw[Wj (by exact hl),if_neg (by omega)];rfl
 ·rw[Wj (by exact hl),if_pos rfl]
  simp only[Zeg,Ku]
  rcases hk with rfl|rfl
  ·obtain⟨e1,e2⟩:=sh_up0 _ hw s.x.c
   rw[e1,e2]
   have:=(sh_up _ hw false).1
   simpa[cI]using this
  ·simpa using(sh_up _ hw s.x.c).1
theorem Zea(reg:Nat)(hr:reg<8∧reg≠2∧reg≠4):∀(n off:Nat) (s:Pu),PuOk s→aR s reg+off+n≤65536→
 Chg s (exL (upL reg off n) s) (aR s reg+off) n∧val (gM (exL (upL reg off n) s)) (aR s reg+off) n+pw n*cI (exL (upL reg off n) s).x.c=2*val (gM s) (aR s reg+off) n+cI s.x.c
 |0,off,s,h,hb=>⟨Chg.rfl' h _ _,by simp[upL,Yl,val,pw]⟩
 |n+1,off,s,h,hb=>by
  obtain⟨c1,e1⟩:=Zeb 15 (.inr rfl) h ⟨hr.1,hr.2.1⟩ (off:=off) (by omega)
  simp only[upL,Yy]
  generalize exL (upW 15 reg off) s=s1 at*
  have ha:=c1.aR hr.2.1 hr.2.2
  obtain⟨c2,e2⟩:=Zea reg hr n (off+1) s1 c1.ok (by omega)
  rw[ha]at c2 e2
  generalize exL (upL reg (off+1) n) s1=s2 at*
  refine⟨(c1.wider (by omega) (by omega)).trans (c2.wider (by omega) (by omega)),?_⟩
  simp only[val,pw,Lk]
  have g1:gM s2 (aR s reg+off)=gM s1 (aR s reg+off):=c2.m _ (by omega)
  have g2:val (gM s1) (aR s reg+off+1) n=val (gM s) (aR s reg+off+1) n:=Zs _ _ fun b h1 h2=>c1.m b (by omega)
  rw[show aR s reg+(off+1)=aR s reg+off+1 by omega]at e2
  rw[g2]at e2
  rw[g1]
  simp only[Int.reduceEq,↓reduceIte]at e1
  generalize pw n*cI s2.x.c=q at*
  omega
def upN(k:Int)(reg off n:Nat):List Ins:=match n with
 |0=>[]
 |n+1=>upW k reg off++upL reg (off+1) n
theorem E7(k:Int)(hk:k=14∨k=15)(reg:Nat)(hr:reg<8∧reg≠2∧reg≠4)(n off:Nat)(hn:0<n)(s:Pu)(h:PuOk s)(hb:aR s reg+off+n≤65536):
 Chg s (exL (upN k reg off n) s) (aR s reg+off) n∧val (gM (exL (upN k reg off n) s)) (aR s reg+off) n+pw n*cI (exL (upN k reg off n) s).x.c=2*val (gM s) (aR s reg+off) n+(if k=14 then 0 else cI s.x.c):=by
 obtain⟨n,rfl⟩:∃m,n=m+1:=⟨n-1,by omega⟩
 obtain⟨c1,e1⟩:=Zeb k hk h ⟨hr.1,hr.2.1⟩ (off:=off) (by omega)
 simp only[upN,Yy]
 generalize exL (upW k reg off) s=s1 at*
 have ha:=c1.aR hr.2.1 hr.2.2
 obtain⟨c2,e2⟩:=Zea reg hr n (off+1) s1 c1.ok (by omega)
 rw[ha]at c2 e2
 generalize exL (upL reg (off+1) n) s1=s2 at*
 refine⟨(c1.wider (by omega) (by omega)).trans (c2.wider (by omega) (by omega)),?_⟩
 simp only[val,pw,Lk]
 have g1:gM s2 (aR s reg+off)=gM s1 (aR s reg+off):=c2.m _ (by omega)
 have g2:val (gM s1) (aR s reg+off+1) n=val (gM s) (aR s reg+off+1) n:=Zs _ _ fun b h1 h2=>c1.m b (by omega)
 rw[show aR s reg+(off+1)=aR s reg+off+1 by omega]at e2
 rw[g2]at e2
 rw[g1]
 generalize pw n*cI s2.x.c=q at*
 omega
def dnW(k:Int)(reg off:Nat):List Ins:=[iLd 2 reg off,Zg6 k 2,iSt reg 2 off]
def dnL(reg:Nat):Nat→List Ins
 |0=>[]
 |n+1=>dnW 18 reg n++dnL reg n
theorem Zc5(k:Int)(hk:k=16∨k=17∨k=18){s:Pu}(h:PuOk s){reg off:Nat}(hr:reg<8∧reg≠2)(hb:aR s reg+off<65536):
 Chg s (exL (dnW k reg off) s) (aR s reg+off) 1∧2*gM (exL (dnW k reg off) s) (aR s reg+off)+cI (exL (dnW k reg off) s).x.c=gM s (aR s reg+off)+65536*cI (topB k (gM s (aR s reg+off)) s.x.c):=by
 have hf:=h.reg reg hr.1
 unfold wd at hf
 have hA:((aR s reg:Nat):Int)=s.f reg:=by unfold aR;omega
 have hw:wd (gM s (aR s reg+off)):=h.mem _
 have key:exL (dnW k reg off) s=stM (stF (stR (stR s 2 (gM s (aR s reg+off))) 2 (shR k (gM s (aR s reg+off)) s.x.c)) (shF k (gM s (aR s reg+off)) s.x.c)) (aR s reg+off) (shR k (gM s (aR s reg+off)) s.x.c):=by
  simp only[dnW,Yu,Yl]
  rw[S9 (by omega),Zaz (by omega)]
  have e2:(stR s 2 (gM s (aR s reg+off))).f 2=gM s (aR s reg+off):=rfl
  rw[e2]
  rw[Im (by
   show 0≤(stR (stR s 2 _) 2 _).f reg∧_
   simp only[Yg,W6,if_neg hr.2];omega) (Qc _ _ _ hw)]
  have e3:aR (stF (stR (stR s 2 (gM s (aR s reg+off))) 2 (shR k (gM s (aR s reg+off)) (stR s 2 (gM s (aR s reg+off))).x.c)) (shF k (gM s (aR s reg+off)) (stR s 2 (gM s (aR s reg+off))).x.c)) reg=aR s reg:=by
   simp only[aR,W6,Yg,if_neg hr.2]
  rw[e3]
  rfl
 rw[key]
 have hl:aR s reg+off<s.mem.length:=by rw[h.len];exact hb
 refine⟨⟨Qa (Tx (Yh (Yh h hw) (Qc _ _ _ hw))) (Qc _ _ _ hw),fun i h2 _=>by simp only[Mx,W6,Yg,if_neg h2],fun b hb=> ?_⟩,?_⟩
 ·rw[Wj (by exact hl),if_neg (by omega)];rfl
 ·rw[Wj (by exact hl),if_pos rfl]
  simp only[Zeg,Ku]
  exact(sh_down k hk _ hw s.x.c).1
theorem Zc4(reg:Nat)(hr:reg<8∧reg≠2∧reg≠4):∀(n:Nat) (s:Pu),PuOk s→aR s reg+n≤65536→
 Chg s (exL (dnL reg n) s) (aR s reg) n∧2*val (gM (exL (dnL reg n) s)) (aR s reg) n+cI (exL (dnL reg n) s).x.c=val (gM s) (aR s reg) n+pw n*cI s.x.c
 |0,s,h,hb=>⟨Chg.rfl' h _ _,by simp[dnL,Yl,val,pw]⟩
 |n+1,s,h,hb=>by
  obtain⟨c1,e1⟩:=Zc5 18 (by omega) h ⟨hr.1,hr.2.1⟩ (off:=n) (by omega)
  simp only[dnL,Yy]
  generalize exL (dnW 18 reg n) s=s1 at*
  have ha:=c1.aR hr.2.1 hr.2.2
  obtain⟨c2,e2⟩:=Zc4 reg hr n s1 c1.ok (by omega)
  rw[ha]at c2 e2
  generalize exL (dnL reg n) s1=s2 at*
  refine⟨(c1.wider (by omega) (by omega)).trans (c2.wider (by omega) (by omega)),?_⟩
  have g1:gM s2 (aR s reg+n)=gM s1 (aR s reg+n):=c2.m _ (by omega)
  have g2:val (gM s1) (aR s reg) n=val (gM s) (aR s reg) n:=Zs _ _ fun b h1 h2=>c1.m b (by omega)
  rw[Vv,Vv,g1]
  rw[g2]at e2
  simp only[topB,Int.reduceEq,↓reduceIte]at e1
  have e3:pw n*(2*gM s1 (aR s reg+n)+cI s1.x.c)=pw n*(gM s (aR s reg+n)+65536*cI s.x.c):=by rw[e1]
  have e4:pw (n+1)*cI s.x.c=pw n*(65536*cI s.x.c):=by
   simp only[pw]
   rw[Int.mul_comm 65536 (pw n),Int.mul_assoc]
  rw[e4]
  rw[Int.mul_add,Int.mul_add,←Int.mul_assoc,Int.mul_comm (pw n) 2,Int.mul_assoc]at e3
  omega
def dnN(k:Int)(reg n:Nat):List Ins:=match n with
 |0=>[]
 |n+1=>dnW k reg n++dnL reg n
theorem dnN_run(k:Int)(hk:k=16∨k=17∨k=18)(reg:Nat)(hr:reg<8∧reg≠2∧reg≠4)(n:Nat)(s:Pu)(h:PuOk s)(hb:aR s reg+(n+1)≤65536):
 Chg s (exL (dnN k reg (n+1)) s) (aR s reg) (n+1)∧2*val (gM (exL (dnN k reg (n+1)) s)) (aR s reg) (n+1)+cI (exL (dnN k reg (n+1)) s).x.c=val (gM s) (aR s reg) (n+1)+pw (n+1)*cI (topB k (gM s (aR s reg+n)) s.x.c):=by
 obtain⟨c1,e1⟩:=Zc5 k hk h ⟨hr.1,hr.2.1⟩ (off:=n) (by omega)
 simp only[dnN,Yy]
 generalize exL (dnW k reg n) s=s1 at*
 have ha:=c1.aR hr.2.1 hr.2.2
 obtain⟨c2,e2⟩:=Zc4 reg hr n s1 c1.ok (by omega)
 rw[ha]at c2 e2
 generalize exL (dnL reg n) s1=s2 at*
 refine⟨(c1.wider (by omega) (by omega)).trans (c2.wider (by omega) (by omega)),?_⟩
 have g1:gM s2 (aR s reg+n)=gM s1 (aR s reg+n):=c2.m _ (by omega)
 have g2:val (gM s1) (aR s reg) n=val (gM s) (aR s reg) n:=Zs _ _ fun b h1 h2=>c1.m b (by omega)
 rw[Vv,Vv,g1]
 rw[g2]at e2
 generalize topB k (gM s (aR s reg+n)) s.x.c=tb at*
 have e3:pw n*(2*gM s1 (aR s reg+n)+cI s1.x.c)=pw n*(gM s (aR s reg+n)+65536*cI tb):=by rw[e1]
 have e4:pw (n+1)*cI tb=pw n*(65536*cI tb):=by
  simp only[pw]
  rw[Int.mul_comm 65536 (pw n),Int.mul_assoc]
 rw[e4]
 rw[Int.mul_add,Int.mul_add,←Int.mul_assoc,Int.mul_comm (pw n) 2,Int.mul_assoc]at e3
 omega
theorem Jb:cI true=1:=rfl
theorem W4:cI false=0:=rfl
theorem Nx(c:Bool):0≤cI c∧cI c≤1:=by cases c<;>simp[cI]
theorem Zgs(c:Bool):cI (!c)=1-cI c:=by cases c<;>rfl
theorem sum_w(a b:Int)(c:Bool)(ha:wd a)(hb:wd b):Tz a b c+65536*cI (decide (65535<a+b+cI c))=a+b+cI c:=by
 have hc:=Nx c
 unfold wd at ha hb
 unfold Tz
 generalize cI c=k at*
 by_cases h2:65535<a+b+k
 ·rw[decide_eq_true h2,Jb];omega
 ·rw[decide_eq_false h2,W4];omega
theorem Zgu(a b:Int)(c:Bool)(ha:wd a)(hb:wd b):T8 a b c-65536*cI (!decide (65535<a+(65535-b)+cI (!c)))=a-b-cI c:=by
 have hc:=Nx c
 unfold wd at ha hb
 unfold T8 Tz
 rw[Zgs,Zgs]
 generalize cI c=k at*
 by_cases h2:65535<a+(65535-b)+(1-k)
 ·rw[decide_eq_true h2,Jb];omega
 ·rw[decide_eq_false h2,W4];omega
def twW(k:Int)(ra rb i off:Nat):List Ins:=[iLd 2 ra i,iLd 4 rb off,N5 k 2 4,iSt ra 2 i]
def twS(k:Int):Bool:=k==7||k==8
def twC(k:Int)(c:Bool):Bool:=if k=5∨k=7 then false else c
theorem Zd7(k:Int)(hk:k=5∨k=6∨k=7∨k=8){s:Pu}(h:PuOk s){ra rb i off:Nat}(ha:ra<8∧ra≠2∧ra≠4)(hb:rb<8∧rb≠2∧rb≠4)(h1:aR s ra+i<65536)(h2:aR s rb+off<65536):
 Chg s (exL (twW k ra rb i off) s) (aR s ra+i) 1∧
  (if twS k=true then gM (exL (twW k ra rb i off) s) (aR s ra+i)-65536*cI (exL (twW k ra rb i off) s).x.c=gM s (aR s ra+i)-gM s (aR s rb+off)-cI (twC k s.x.c)
   else gM (exL (twW k ra rb i off) s) (aR s ra+i)+65536*cI (exL (twW k ra rb i off) s).x.c=gM s (aR s ra+i)+gM s (aR s rb+off)+cI (twC k s.x.c)):=by
 have hfa:=h.reg ra ha.1
 have hfb:=h.reg rb hb.1
 unfold wd at hfa hfb
 have hA:((aR s ra:Nat):Int)=s.f ra:=by unfold aR;omega
 have hB:((aR s rb:Nat):Int)=s.f rb:=by unfold aR;omega
 have hwa:wd (gM s (aR s ra+i)):=h.mem _
 have hwb:wd (gM s (aR s rb+off)):=h.mem _
 have key:exL (twW k ra rb i off) s=stM (stF (stR (stR (stR s 2 (gM s (aR s ra+i))) 4 (gM s (aR s rb+off))) 2 (twoR k (gM s (aR s ra+i)) (gM s (aR s rb+off)) s.x)) (twoF k (gM s (aR s ra+i)) (gM s (aR s rb+off)) s.x)) (aR s ra+i) (twoR k (gM s (aR s ra+i)) (gM s (aR s rb+off)) s.x):=by
  simp only[twW,Yu,Yl]
  rw[S9 (s:=s) (d:=2) (r:=ra) (o:=i) (by omega)]
  have e1:aR (stR s 2 (gM s (aR s ra+i))) rb=aR s rb:=by simp only[aR,Yg,if_neg hb.2.1]
  rw[S9 (by simp only[Yg,if_neg hb.2.1];omega),e1,N4 (by omega)]
  have e2:(stR (stR s 2 (gM s (aR s ra+i))) 4 (gM (stR s 2 (gM s (aR s ra+i))) (aR s rb+off))).f 2=gM s (aR s ra+i):=rfl
  have e3:(stR (stR s 2 (gM s (aR s ra+i))) 4 (gM (stR s 2 (gM s (aR s ra+i))) (aR s rb+off))).f 4=gM s (aR s rb+off):=rfl
  rw[e2,e3]
  rw[Im (by simp only[Yg,W6,if_neg ha.2.1,if_neg ha.2.2];omega) (Ps _ _ _ _)]
  have e4:aR (stF (stR (stR (stR s 2 (gM s (aR s ra+i))) 4 (gM (stR s 2 (gM s (aR s ra+i))) (aR s rb+off))) 2 (twoR k (gM s (aR s ra+i)) (gM s (aR s rb+off)) (stR (stR s 2 (gM s (aR s ra+i))) 4 (gM (stR s 2 (gM s (aR s ra+i))) (aR s rb+off))).x)) (twoF k (gM s (aR s ra+i)) (gM s (aR s rb+off)) (stR (stR s 2 (gM s (aR s ra+i))) 4 (gM (stR s 2 (gM s (aR s ra+i))) (aR s rb+off))).x)) ra=aR s ra:=by
   simp only[aR,Yg,W6,if_neg ha.2.1,if_neg ha.2.2]
  rw[e4]
  rfl
 rw[key]
 have hl:aR s ra+i<s.mem.length:=by rw[h.len];exact h1
 refine⟨⟨Qa (Tx (Yh (Yh (Yh h hwa) hwb) (Ps _ _ _ _))) (Ps _ _ _ _),fun i h2 h4=>by simp only[Mx,W6,Yg,if_neg h2,if_neg h4],fun b hb=> ?_⟩,?_⟩
 ·rw[Wj (by exact hl),if_neg (by omega)];rfl
 ·rw[Wj (by exact hl),if_pos rfl]
  simp only[Zeg,Ku]
  generalize gM s (aR s ra+i)=a at*
  generalize gM s (aR s rb+off)=b at*
  have hs:=fun c=>sum_w a b c hwa hwb
  have hd:=fun c=>Zgu a b c hwa hwb
  rcases hk with rfl|rfl|rfl|rfl
  ·exact hs false
  ·exact hs s.x.c
  ·exact hd false
  ·exact hd s.x.c
def twL(k:Int)(ra rb:Nat):Nat→Nat→Nat→List Ins
 |_,_,0=>[]
 |i,off,n+1=>twW k ra rb i off++twL k ra rb (i+1) (off+1) n
def twV(k:Int)(s s':Pu)(A B n:Nat)(c:Bool):Prop:=
 if twS k=true then val (gM s') A n-pw n*cI s'.x.c=val (gM s) A n-val (gM s) B n-cI c else val (gM s') A n+pw n*cI s'.x.c=val (gM s) A n+val (gM s) B n+cI c
theorem Zd8{k:Int}{s s1 s2:Pu}{A B n:Nat}{c:Bool}(c1:Chg s s1 A 1)(c2:Chg s1 s2 (A+1) n)(hd:A+(n+1)≤B∨B+(n+1)≤A)
 (e1:if twS k=true then gM s1 A-65536*cI s1.x.c=gM s A-gM s B-cI c else gM s1 A+65536*cI s1.x.c=gM s A+gM s B+cI c)(e2:twV k s1 s2 (A+1) (B+1) n s1.x.c):twV k s s2 A B (n+1) c:=by
 have g1:gM s2 A=gM s1 A:=c2.m _ (by omega)
 have g2:val (gM s1) (A+1) n=val (gM s) (A+1) n:=Zs _ _ fun b h1 h2=>c1.m b (by omega)
 have g3:val (gM s1) (B+1) n=val (gM s) (B+1) n:=Zs _ _ fun b h1 h2=>c1.m b (by omega)
 unfold twV at*
 simp only[val,pw,Lk]
 rw[g2,g3]at e2
 rw[g1]
 generalize pw n*cI s2.x.c=q at*
 by_cases hb:twS k=true
 ·simp only[if_pos hb]at*;omega
 ·simp only[if_neg hb]at*;omega
theorem Zd5(k:Int)(hk:k=6∨k=8)(ra rb:Nat)(ha:ra<8∧ra≠2∧ra≠4)(hb:rb<8∧rb≠2∧rb≠4):∀(n i off:Nat) (s:Pu),PuOk s→aR s ra+i+n≤65536→aR s rb+off+n≤65536→(aR s ra+i+n≤aR s rb+off∨aR s rb+off+n≤aR s ra+i)→
 Chg s (exL (twL k ra rb i off n) s) (aR s ra+i) n∧twV k s (exL (twL k ra rb i off n) s) (aR s ra+i) (aR s rb+off) n s.x.c
 |0,i,off,s,h,_,_,_=>⟨Chg.rfl' h _ _,by unfold twV;split<;>simp[twL,Yl,val,pw]⟩
 |n+1,i,off,s,h,h1,h2,hd=>by
  obtain⟨c1,e1⟩:=Zd7 k (by omega) h ha hb (i:=i) (off:=off) (by omega) (by omega)
  have htc:twC k s.x.c=s.x.c:=by rcases hk with rfl|rfl<;>rfl
  rw[htc]at e1
  simp only[twL,Yy]
  generalize exL (twW k ra rb i off) s=s1 at*
  have hra:=c1.aR ha.2.1 ha.2.2
  have hrb:=c1.aR hb.2.1 hb.2.2
  obtain⟨c2,e2⟩:=Zd5 k hk ra rb ha hb n (i+1) (off+1) s1 c1.ok (by omega) (by omega) (by omega)
  rw[hra]at c2 e2
  rw[hrb]at e2
  generalize exL (twL k ra rb (i+1) (off+1) n) s1=s2 at*
  exact⟨(c1.wider (by omega) (by omega)).trans (c2.wider (by omega) (by omega)),Zd8 c1 c2 (by omega) e1 e2⟩
def twN(k:Int)(ra rb off n:Nat):List Ins:=match n with
 |0=>[]
 |n+1=>twW k ra rb 0 off++twL (k+1) ra rb 1 (off+1) n
theorem Zd6(k:Int)(hk:k=5∨k=7)(ra rb:Nat)(ha:ra<8∧ra≠2∧ra≠4)(hb:rb<8∧rb≠2∧rb≠4)(n off:Nat)(hn:0<n)(s:Pu)(h:PuOk s)(h1:aR s ra+n≤65536)(h2:aR s rb+off+n≤65536)(hd:aR s ra+n≤aR s rb+off∨aR s rb+off+n≤aR s ra):
 Chg s (exL (twN k ra rb off n) s) (aR s ra) n∧twV k s (exL (twN k ra rb off n) s) (aR s ra) (aR s rb+off) n false:=by
 obtain⟨n,rfl⟩:∃m,n=m+1:=⟨n-1,by omega⟩
 obtain⟨c1,e1⟩:=Zd7 k (by omega) h ha hb (i:=0) (off:=off) (by omega) (by omega)
 have htc:twC k s.x.c=false:=by rcases hk with rfl|rfl<;>rfl
 rw[htc]at e1
 simp only[twN,Yy,Nat.add_zero]at*
 generalize exL (twW k ra rb 0 off) s=s1 at*
 have hra:=c1.aR ha.2.1 ha.2.2
 have hrb:=c1.aR hb.2.1 hb.2.2
 obtain⟨c2,e2⟩:=Zd5 (k+1) (by omega) ra rb ha hb n 1 (off+1) s1 c1.ok (by omega) (by omega) (by omega)
 rw[hra]at c2 e2
 rw[hrb]at e2
 generalize exL (twL (k+1) ra rb 1 (off+1) n) s1=s2 at*
 refine⟨(c1.wider (by omega) (by omega)).trans (c2.wider (by omega) (by omega)),Zd8 c1 c2 (by omega) e1 ?_⟩
 rcases hk with rfl|rfl<;>exact e2
def cmW(k:Int)(ra rb i:Nat):List Ins:=[iLd 2 ra i,iLd 4 rb i,N5 k 2 4]
def cmC(k:Int)(c:Bool):Bool:=if k=12 then false else c
theorem Zc0(k:Int)(hk:k=12∨k=13){s:Pu}(h:PuOk s){ra rb i:Nat}(ha:ra<8∧ra≠2∧ra≠4)(hb:rb<8∧rb≠2∧rb≠4)(h1:aR s ra+i<65536)(h2:aR s rb+i<65536):
 Chg s (exL (cmW k ra rb i) s) 0 0∧∃r,wd r∧r-65536*cI (exL (cmW k ra rb i) s).x.c=gM s (aR s ra+i)-gM s (aR s rb+i)-cI (cmC k s.x.c):=by
 have hfa:=h.reg ra ha.1
 have hfb:=h.reg rb hb.1
 unfold wd at hfa hfb
 have hA:((aR s ra:Nat):Int)=s.f ra:=by unfold aR;omega
 have hB:((aR s rb:Nat):Int)=s.f rb:=by unfold aR;omega
 have hwa:wd (gM s (aR s ra+i)):=h.mem _
 have hwb:wd (gM s (aR s rb+i)):=h.mem _
 have key:exL (cmW k ra rb i) s=stF (stR (stR s 2 (gM s (aR s ra+i))) 4 (gM s (aR s rb+i))) (twoF k (gM s (aR s ra+i)) (gM s (aR s rb+i)) s.x):=by
  simp only[cmW,Yu,Yl]
  rw[S9 (s:=s) (d:=2) (r:=ra) (o:=i) (by omega)]
  have e1:aR (stR s 2 (gM s (aR s ra+i))) rb=aR s rb:=by simp only[aR,Yg,if_neg hb.2.1]
  rw[S9 (by simp only[Yg,if_neg hb.2.1];omega),e1,Zg1 hk]
  rfl
 rw[key]
 refine⟨⟨Tx (Yh (Yh h hwa) hwb),fun i h2 h4=>by simp only[W6,Yg,if_neg h2,if_neg h4],fun b hb=>rfl⟩,?_⟩
 simp only[Ku]
 generalize gM s (aR s ra+i)=a at*
 generalize gM s (aR s rb+i)=b at*
 have hd:=fun c=>Zgu a b c hwa hwb
 rcases hk with rfl|rfl
 ·exact⟨T8 a b false,Db _ _ _,hd false⟩
 ·exact⟨T8 a b s.x.c,Db _ _ _,hd s.x.c⟩
def cmL(ra rb:Nat):Nat→Nat→List Ins
 |_,0=>[]
 |i,n+1=>cmW 13 ra rb i++cmL ra rb (i+1) n
theorem Zc1{s s1 s2:Pu}{A B n:Nat}{c:Bool}(c1:Chg s s1 0 0)(e1:∃r,wd r∧r-65536*cI s1.x.c=gM s A-gM s B-cI c)
 (e2:∃r,(0≤r∧r<pw n)∧r-pw n*cI s2.x.c=val (gM s1) (A+1) n-val (gM s1) (B+1) n-cI s1.x.c):∃r,(0≤r∧r<pw (n+1))∧r-pw (n+1)*cI s2.x.c=val (gM s) A (n+1)-val (gM s) B (n+1)-cI c:=by
 obtain⟨r1,w1,e1⟩:=e1
 obtain⟨r2,w2,e2⟩:=e2
 have g2:val (gM s1) (A+1) n=val (gM s) (A+1) n:=Zs _ _ fun b h1 h2=>c1.m b (by omega)
 have g3:val (gM s1) (B+1) n=val (gM s) (B+1) n:=Zs _ _ fun b h1 h2=>c1.m b (by omega)
 rw[g2,g3]at e2
 unfold wd at w1
 refine⟨r1+65536*r2,by simp only[pw];omega,?_⟩
 simp only[val,pw,Lk]
 generalize pw n*cI s2.x.c=q at*
 omega
theorem Zcz(ra rb:Nat)(ha:ra<8∧ra≠2∧ra≠4)(hb:rb<8∧rb≠2∧rb≠4):∀(n i:Nat) (s:Pu),PuOk s→aR s ra+i+n≤65536→aR s rb+i+n≤65536→
 Chg s (exL (cmL ra rb i n) s) 0 0∧∃r,(0≤r∧r<pw n)∧r-pw n*cI (exL (cmL ra rb i n) s).x.c=val (gM s) (aR s ra+i) n-val (gM s) (aR s rb+i) n-cI s.x.c
 |0,i,s,h,_,_=>⟨Chg.rfl' h _ _,0,by simp[pw],by simp[cmL,Yl,val,pw]⟩
 |n+1,i,s,h,h1,h2=>by
  obtain⟨c1,e1⟩:=Zc0 13 (.inr rfl) h ha hb (i:=i) (by omega) (by omega)
  simp only[cmL,Yy]
  generalize exL (cmW 13 ra rb i) s=s1 at*
  have hra:=c1.aR ha.2.1 ha.2.2
  have hrb:=c1.aR hb.2.1 hb.2.2
  obtain⟨c2,e2⟩:=Zcz ra rb ha hb n (i+1) s1 c1.ok (by omega) (by omega)
  rw[hra,hrb]at e2
  generalize exL (cmL ra rb (i+1) n) s1=s2 at*
  exact⟨c1.trans c2,Zc1 c1 e1 e2⟩
def cmN(ra rb n:Nat):List Ins:=match n with
 |0=>[]
 |n+1=>cmW 12 ra rb 0++cmL ra rb 1 n
theorem cmN_run(ra rb:Nat)(ha:ra<8∧ra≠2∧ra≠4)(hb:rb<8∧rb≠2∧rb≠4)(n:Nat)(hn:0<n)(s:Pu)(h:PuOk s)(h1:aR s ra+n≤65536)(h2:aR s rb+n≤65536):
 Chg s (exL (cmN ra rb n) s) 0 0∧((exL (cmN ra rb n) s).x.c=decide (val (gM s) (aR s ra) n<val (gM s) (aR s rb) n)):=by
 obtain⟨n,rfl⟩:∃m,n=m+1:=⟨n-1,by omega⟩
 obtain⟨c1,e1⟩:=Zc0 12 (.inl rfl) h ha hb (i:=0) (by omega) (by omega)
 have htc:cmC 12 s.x.c=false:=rfl
 rw[htc]at e1
 simp only[cmN,Yy,Nat.add_zero]at*
 generalize exL (cmW 12 ra rb 0) s=s1 at*
 have hra:=c1.aR ha.2.1 ha.2.2
 have hrb:=c1.aR hb.2.1 hb.2.2
 obtain⟨c2,e2⟩:=Zcz ra rb ha hb n 1 s1 c1.ok (by omega) (by omega)
 rw[hra,hrb]at e2
 generalize exL (cmL ra rb 1 n) s1=s2 at*
 refine⟨c1.trans c2,?_⟩
 obtain⟨r,hr,e⟩:=Zc1 c1 e1 e2
 have ha':=Xd (g:=gM s) (n+1) (aR s ra) (fun b=>h.mem b)
 have hb':=Xd (g:=gM s) (n+1) (aR s rb) (fun b=>h.mem b)
 have hp:=Oo (n+1)
 cases hc:s2.x.c
 ·rw[hc]at e
  simp only[cI,Bool.false_eq_true,↓reduceIte,Int.mul_zero]at e
  symm;rw[decide_eq_false_iff_not];omega
 ·rw[hc]at e
  simp only[cI,Bool.false_eq_true,↓reduceIte,Int.mul_one]at e
  symm;rw[decide_eq_true_eq];omega
end Go.Proofs.YtbmecnjmbhokgaaGreatDoor
