/- A part of the proofs of this seat's laws: steps on the way, joined. It has no conditions of its own. -/
import Derived.Test.YtbmecnjmbhokgaaGreatDoorQt
import Derived.Test.YtbmecnjmbhokgaaGreatDoorQh
import Derived.Test.YtbmecnjmbhokgaaGreatDoorChecked
import Derived.KernelRfl
import Derived.Test.YtbmecnjmbhokgaaGreatDoorQs
namespace Go.Proofs.YtbmecnjmbhokgaaGreatDoor
open Go.RowKit Vc
set_option linter.unusedVariables false
set_option linter.unusedSimpArgs false
attribute [local irreducible] T Za Zn Ent RdC RwC Ye Zf Zh
theorem Sl:∀(l:List Ln) (k:Nat) (a:Int) (seen:List (List UInt8)) (acc:List Spot),(Wz l k a seen acc).2.2.1=0→∀x∈l,U2 x=0
 | [],_,_,_,_,_,x,hx=>nomatch hx
 |y::l,k,a,seen,acc,h,x,hx=>by
  unfold Wz at h
  split at h
  ·rename_i h1;exact absurd h h1
  ·rename_i h1
   have hy:U2 y=0:=by simpa using h1
   rcases List.mem_cons.1 hx with rfl|hx
   ·exact hy
   ·split at h
    ·split at h
     ·exact absurd h (by simp)
     ·exact Sl l _ _ _ _ h x hx
    ·split at h
     ·exact absurd h (by simp)
     ·exact Sl l _ _ _ _ h x hx
theorem Px{u:Int}{n:Nat}:∀ {sp:List Spot} {f f':Own},Ux u sp f=some f'→(0≤u∧u<n)→(∀s v,f s=some v→0≤v∧v<n)→∀s v,f' s=some v→0≤v∧v<n
 | [],f,f',h,hu,hf=>by cases h;exact hf
 |y::sp,f,f',h,hu,hf=>by
  simp only[Ux]at h
  split at h
  ·exact Px h hu hf
  ·split at h
   ·cases h
   ·refine Px h hu fun s v hv=> ?_
    split at hv
    ·cases hv;exact hu
    ·exact hf s v hv
theorem Kw{N:Nat}:∀(l:List (List UInt8×List Ln)) (k:Nat) (f:Own),(Uq l k f).2.1=0→k+l.length≤N→(∀s v,f s=some v→0≤v∧v<N)→
 (∀u∈l,u.2.length≤40000∧(Yc u.2 0).2.2.1=0)∧∀s v,(Uq l k f).1 s=some v→0≤v∧v<N
 | [],k,f,h,hk,hf=>⟨(fun u hu=>nomatch hu),hf⟩
 |x::l,k,f,h,hk,hf=>by
  unfold Uq at h ⊢
  simp only[List.length_cons]at hk
  split at h
  ·simp at h
  ·rename_i h1
   split at h
   ·rename_i h2;exact absurd h h2
   ·rename_i h2
    rw[if_neg h1,if_neg h2]
    split at h
    ·simp at h
    ·rename_i f' hf'
     obtain⟨g1,g2⟩:=Kw l (k+1) f' h (by omega) (Px hf' ⟨by omega,by omega⟩ hf)
     refine⟨fun u hu=> ?_,by simpa[hf']using g2⟩
     rcases List.mem_cons.1 hu with rfl|hu
     ·exact⟨by omega,by simpa using h2⟩
     ·exact g1 u hu
theorem Cd{l:List (List UInt8×List Ln)}(h:(Z8 l).2.1=0):l.length≤400∧(∀u∈l,u.2.length≤40000∧(Yc u.2 0).2.2.1=0)∧∀s v,(Z8 l).1 s=some v→0≤v∧v<l.length:=by
 unfold Z8 at h ⊢
 split at h
 ·simp at h
 ·rename_i hl
  rw[if_neg hl]
  exact⟨by omega,Kw l 0 Si h (by omega) (fun s v hv=>by cases hv)⟩
def Za5(N:Nat)(us:List Int):Prop:=us.Nodup∧∀v∈us,0≤v∧v<N
theorem Ld{own:Own}{u:Int}{sp:List Spot}{N:Nat}(hu:0≤u∧u<N)(ho:∀s v,own s=some v→0≤v∧v<N):∀ {ls:List Ln} {us us':List Int},Rn own u sp ls us=some us'→Za5 N us→Za5 N us'∧us.length≤us'.length
 | [],us,us',h,hus=>by cases h;exact⟨hus,Nat.le_refl _⟩
 |x::ls,us,us',h,hus=>by
  simp only[Rn]at h
  split at h
  ·exact Ld hu ho h hus
  ·split at h
   ·cases h
   ·rename_i n hn
    have hr:0≤n∧n<N:=by
     unfold B9 at hn
     split at hn
     ·split at hn
      ·cases hn;exact hu
      ·cases hn
     ·exact ho _ _ hn
    split at h
    ·exact Ld hu ho h hus
    ·rename_i hni
     have:=Ld hu ho h (us:=us++[n]) ⟨List.nodup_append.2 ⟨hus.1,by simp,fun a ha b hb e=>by simp only[List.mem_singleton]at hb;subst hb;subst e;exact hni ha⟩,fun v hv=>by
      rcases List.mem_append.1 hv with hv|hv
      ·exact hus.2 v hv
      ·simp only[List.mem_singleton]at hv;subst hv;exact hr⟩
     refine⟨this.1,?_⟩
     have h2:=this.2
     simp only[List.length_append,List.length_cons,List.length_nil]at h2;omega
theorem nodup_range:∀(N:Nat) (us:List Int),Za5 N us→us.length≤N
 |0,us,h=>by
  cases us with
  |nil=>exact Nat.le_refl _
  |cons x us=>have:=h.2 x (by simp);omega
 |N+1,us,h=>by
  have h1:=nodup_range N (us.erase (N:Int)) ⟨h.1.erase _,fun v hv=>by
   have h2:=h.2 v (List.mem_of_mem_erase hv)
   have h3:v≠(N:Int):=fun e=>by rw[e]at hv;exact(List.Nodup.not_mem_erase h.1) hv
   omega⟩
  have h2:us.length≤(us.erase (N:Int)).length+1:=by rw[List.length_erase];split<;>omega
  omega
def lk1(l:List (List UInt8×List Ln))(own:Own):Nat→Nat→List Int→Int→Own→List Spot→(List Int×Own×List Spot)×Int×Int
 |0,_,_,_,_,_=>(([],Si,[]),99,0)
 |f+1,i,us,at_,g,sps=>if us.length≤i then((us,g,sps),0,0)else
   if(Yc (l.getD (us.getD i 0).toNat Nr).2 at_).2.2.1≠0 then(([],Si,[]),(Yc (l.getD (us.getD i 0).toNat Nr).2 at_).2.2.1,us.getD i 0)else
   match Rn own (us.getD i 0) (Yc (l.getD (us.getD i 0).toNat Nr).2 at_).1 (l.getD (us.getD i 0).toNat Nr).2 us with
   |none=>(([],Si,[]),6,us.getD i 0)
   |some us'=>lk1 l own f (i+1) us' (Yc (l.getD (us.getD i 0).toNat Nr).2 at_).2.1 (E4 (Yc (l.getD (us.getD i 0).toNat Nr).2 at_).1 g) (sps++Mo (Yc (l.getD (us.getD i 0).toNat Nr).2 at_).1)
set_option maxHeartbeats 8000000 in
theorem Zf4{w:World}{X:List Nat}{fr:List Value}{Q:Exit→St→Prop}(l:List (List UInt8×List Ln))(own:Own)(us0:List Int)(RES:(List Int×Own×List Spot)×Int×Int)
 (hl:l.length≤400)(hu:∀u∈l,u.2.length≤40000∧(Yc u.2 0).2.2.1=0)(ho:∀s v,own s=some v→0≤v∧v<l.length)(hus0:Za5 l.length us0)(hres:lk1 l own 402 0 us0 0 Si []=RES)
 (hQ:RES.2.1=0→∀S' i at_ n,Za5 l.length RES.1.1→RES.1.2.2.length≤40000*400→Ent ⟨Tryz.prog,w,X,199,fr⟩ S' ⟨[(13,.one (.a (.int .i64 i))),(12,.one (.a (.int .i64 at_))),(11,.one (.a (.loc 5 0))),(10,.one (.a (.loc 2 0))),(6,.one (.a (.ref 1))),(5,.one (.a (.loc 8 0))),(4,.one (.a (.loc 7 0))),(0,.one (.a (.ref 0)))],[(0,.rou l),(1,.smap Tryz.prog 9 3 (.int .i64) own 16000000),(2,.cells 78 [(.raw (.slice none 0 0)),.ref 3,.ref 4]),(3,.row 3 (.int .i64) RES.1.1),(4,.row 109 .spot RES.1.2.2),(5,.cells 101 [.ref 6]),(6,.smap Tryz.prog 9 3 (.int .i64) RES.1.2.1 n),(7,.cells 78 [(.raw (.slice none 0 0)),(.raw (.slice none 0 0)),(.raw (.slice none 0 0))]),(8,.cells 80 [.int .i64 0,.int .i64 0])],9⟩→Q (.exit 0) S')
 (hE:RES.2.1≠0→∀S',Ent ⟨Tryz.prog,w,X,199,fr⟩ S' ⟨[(5,.one (.a (.loc 1 0))),(4,.one (.a (.loc 0 0)))],[(0,.cells 78 [(.raw (.slice none 0 0)),(.raw (.slice none 0 0)),(.raw (.slice none 0 0))]),(1,.cells 80 [.int .i64 RES.2.1,.int .i64 RES.2.2])],2⟩→Q .ret S'):
 T ⟨Tryz.prog,w,X,199,fr⟩ (.loop W8.c52) Q ⟨[(13,.one (.a (.int .i64 0))),(12,.one (.a (.int .i64 0))),(11,.one (.a (.loc 5 0))),(10,.one (.a (.loc 2 0))),(6,.one (.a (.ref 1))),(5,.one (.a (.loc 8 0))),(4,.one (.a (.loc 7 0))),(0,.one (.a (.ref 0)))],[(0,.rou l),(1,.smap Tryz.prog 9 3 (.int .i64) own 16000000),(2,.cells 78 [(.raw (.slice none 0 0)),.ref 3,.ref 4]),(3,.row 3 (.int .i64) us0),(4,.row 109 .spot []),(5,.cells 101 [.ref 6]),(6,.smap Tryz.prog 9 3 (.int .i64) Si 0),(7,.cells 78 [(.raw (.slice none 0 0)),(.raw (.slice none 0 0)),(.raw (.slice none 0 0))]),(8,.cells 80 [.int .i64 0,.int .i64 0])],9⟩:=by
 refine T.loop (ι:= {p:Nat×List Int×Int×Own×Nat×List Spot//p.1≤p.2.1.length∧Za5 l.length p.2.1∧(0≤p.2.2.1∧p.2.2.1≤65536)∧p.2.2.2.2.1≤40000*p.1∧p.2.2.2.2.2.length≤40000*p.1∧lk1 l own (402-p.1) p.1 p.2.1 p.2.2.1 p.2.2.2.1 p.2.2.2.2.2=RES})
  (fun x=>⟨[(13,.one (.a (.int .i64 (x.1.1:Int)))),(12,.one (.a (.int .i64 x.1.2.2.1))),(11,.one (.a (.loc 5 0))),(10,.one (.a (.loc 2 0))),(6,.one (.a (.ref 1))),(5,.one (.a (.loc 8 0))),(4,.one (.a (.loc 7 0))),(0,.one (.a (.ref 0)))],[(0,.rou l),(1,.smap Tryz.prog 9 3 (.int .i64) own 16000000),(2,.cells 78 [(.raw (.slice none 0 0)),.ref 3,.ref 4]),(3,.row 3 (.int .i64) x.1.2.1),(4,.row 109 .spot x.1.2.2.2.2.2),(5,.cells 101 [.ref 6]),(6,.smap Tryz.prog 9 3 (.int .i64) x.1.2.2.2.1 x.1.2.2.2.2.1),(7,.cells 78 [(.raw (.slice none 0 0)),(.raw (.slice none 0 0)),(.raw (.slice none 0 0))]),(8,.cells 80 [.int .i64 0,.int .i64 0])],9⟩) (fun x=>l.length-x.1.1) ⟨(0,us0,0,Si,0,[]),by simp,hus0,by simp,by simp,by simp,hres⟩ (Ent.mk1 (id) (by simp[Zx,Ex])) ?_
 rintro⟨⟨i,us,at_,g,n,sps⟩,hi,hus,⟨ha0,ha1⟩,hn,hsps,hrun⟩
 simp only at hi hus ha0 ha1 hn hsps hrun
 have hul:=nodup_range _ _ hus
 obtain⟨f,hf⟩:∃f,402-i=f+1:=⟨401-i,by omega⟩
 rw[hf]at hrun
 simp only[lk1]at hrun
 by_cases hlt:i<us.length
 ·rw[if_neg (by omega)]at hrun
  have hmem:us.getD i 0∈us:=by simp[List.getD,hlt]
  generalize hx:us.getD i 0=u at hrun hmem
  have hx':us.getD i (Kd.dflt (.int .i64))=u:=hx
  have hur:=hus.2 u hmem
  have humem:l.getD u.toNat Nr∈l:=by
   have:u.toNat<l.length:=by omega
   simp[List.getD,this]
  generalize hU:l.getD u.toNat Nr=U at hrun humem
  have hU':l.getD u.toNat ([],[])=U:=hU
  obtain⟨hUl,hU0⟩:=hu U humem
  have hwr:=Sl U.2 0 0 [] [] hU0
  obtain⟨hsok,hslen,he0,he1⟩:=H3 U.2 at_ ha0 ha1
  have hSp:=Nf U.2 at_ hUl ha0 ha1
  have hw:IntKind.i64.wrap ((i:Int)+1)=((i+1:Nat):Int):=Zy (by omega)
  have ht:((i:Int)).toNat=i:=by omega
  by_cases hsp:(Yc U.2 at_).2.2.1=0
  ·rw[if_neg (by simpa using hsp)]at hrun
   generalize hsp1:(Yc U.2 at_).1=sp at hrun hsok hslen hSp
   generalize hend:(Yc U.2 at_).2.1=end_ at hrun hSp he0 he1
   repeat'(first|(first|refine Stp.h ?_|(refine Za.rw hSp ?_ ?_;(focus(((repeat'(first|exact rfl|exact trivial|refine And.intro ?_ ?_|(simp[Zz];done))));done))))<;>try simp only[Zc,simprocAttr,↓reduceIte,reduceCtorEq,implies_true,hx',hU',hw,ht,hsp,Int.ofNat_lt]|(with_reducible first|assumption|refine And.intro ?_ ?_)|(intro h;first|omega|exact tg h ‹_›|exact tg ‹_› h|skip))
   all_goals first|omega|skip
   refine T.weak (Ent.mk1 (fun n=>if n=9 then 10 else n) (by simp[Zx])) (Zbz l own i at_ u end_ us g n sps sp hsok (by omega) hn hsps (by omega) fun S1 n' hn' he=> ?_)
   simp only[Zc,simprocAttr,↓reduceIte,reduceCtorEq,implies_true]
   refine T.weak he ?_
   repeat'(first|(first|refine Stp.h ?_)<;>try simp only[Zc,simprocAttr,↓reduceIte,reduceCtorEq,implies_true,hU',hw,Int.ofNat_lt]|(with_reducible first|assumption|refine And.intro ?_ ?_)|(intro h;first|omega|exact tg h ‹_›|exact tg ‹_› h|skip))
   all_goals first|omega|skip
   refine T.weak (Ent.mk1 (id) (by simp[Zx])) (Zb0 l own i end_ u us (E4 sp g) n' (sps++Mo sp) sp U.2 hwr (by omega) hUl (by omega) (fun us' S2 hr he2=> ?_) fun S2 hr he2=> ?_)
   ·rw[hr]at hrun
    simp only at hrun
    obtain⟨hus2,hul2⟩:=Ld hur ho hr hus
    simp only[Zc,simprocAttr,↓reduceIte,reduceCtorEq,implies_true]
    refine T.weak he2 ?_
    repeat'(first|(first|refine Stp.h ?_)<;>try simp only[Zc,simprocAttr,↓reduceIte,reduceCtorEq,implies_true,hw,Int.ofNat_lt]|(with_reducible first|assumption|refine And.intro ?_ ?_)|(intro h;first|omega|exact tg h ‹_›|exact tg ‹_› h|skip))
    all_goals first|omega|skip
    have hvl:(Mo sp).length≤sp.length:=List.length_filter_le _ _
    refine⟨⟨(i+1,us',end_,E4 sp g,n',sps++Mo sp),by simp only;omega,hus2,⟨he0,he1⟩,hn',by simp only[List.length_append];omega,?_⟩,(Ent.mk1 (id) (by simp[Zx,hw])),by simp only;omega⟩
    have:402-(i+1)=f:=by omega
    simp only[this]
    exact hrun
   ·rw[hr]at hrun
    simp only at hrun
    have hE2:=hE (by rw[←hrun];simp)
    rw[←hrun]at hE2
    simp only at hE2
    simp only[Zc,simprocAttr,↓reduceIte,reduceCtorEq,implies_true]
    exact hE2 _ he2
  ·rw[if_pos (by simpa using hsp)]at hrun
   have hE2:=hE (by rw[←hrun];simpa using hsp)
   rw[←hrun]at hE2
   simp only at hE2
   repeat'(first|(first|refine Stp.h ?_|(refine Za.rw hSp ?_ ?_;(focus(((repeat'(first|exact rfl|exact trivial|refine And.intro ?_ ?_|(simp[Zz];done))));done))))<;>try simp only[Zc,simprocAttr,↓reduceIte,reduceCtorEq,implies_true,hx',hU',hw,ht,hsp,Int.ofNat_lt]|(with_reducible first|assumption|refine And.intro ?_ ?_)|(intro h;first|omega|exact tg h ‹_›|exact tg ‹_› h|skip))
   all_goals first|omega|exact hE2 _ (Ent.mk1 (fun n=>n+7) (by simp[Zx]))|skip
 ·rw[if_pos (by omega)]at hrun
  subst hrun
  repeat'(first|(first|refine Stp.h ?_)<;>try simp only[Zc,simprocAttr,↓reduceIte,reduceCtorEq,implies_true,Int.ofNat_lt]|(with_reducible first|assumption|refine And.intro ?_ ?_)|(intro h;first|omega|exact tg h ‹_›|exact tg ‹_› h|skip))
  all_goals first|omega|skip
  exact hQ rfl _ (i:Int) at_ n hus (by simp only;omega) (Ent.mk1 (id) (by simp[Zx]))
def Ge(g:Own)(sp:List Spot)(s:List UInt8):Int×Bool:=if La s=true then((sp.getD (Rw (fun y=>decide (y.name=s)) sp 0).toNat O6).at_,true)else((g s).getD (0:Int),true)
def kn2(g:Own)(sp:List Spot):List S1→Option SV
 | [.a (.str s)]=>if s≠[]∧s.length≤32∧(La s=true→sp.any (fun y=>decide (y.name=s))=true)then some (.tup [.a (.int .i64 (Ge g sp s).1),.a (.bool (Ge g sp s).2)])else none
 |_=>none
theorem Zff(R:List (Nat×Res))(nx m:Nat)(s:List UInt8)(hm:Zo (roR R) m=some (Res.rocells [.str s])):Za3 Tryz.prog R nx 70 [m] (Oz s):=by
 refine⟨T0.enters,_,_,_,T0.fn,fun args r hr=> ?_⟩
 unfold Oz at hr
 split at hr
 ·rename_i t n
  cases hr
  refine⟨by simp[Se,S1.bd,At.bd],by simp[SV.bd,S1.bd,At.bd],by simp,fun w=> ?_⟩
  refine T.weak (S2:=⟨[(0,.one (.agg [.str t,.int .i64 n])),(1,.one (.a (.loc 0 0)))],[(0,.rocells [.str s])],1⟩) (Ent.mk1 (fun _=>m) (by simp[Zx,hm,Y4])) ?_
  repeat'(first|(first|refine Stp.h ?_)<;>try simp only[Zc,simprocAttr,↓reduceIte,reduceCtorEq,implies_true]|(with_reducible first|assumption|refine And.intro ?_ ?_)|(intro h;first|omega|exact tg h ‹_›|exact tg ‹_› h|skip))
 ·cases hr
theorem C7{α:Type}(p:α→Bool):∀(l:List α) (k:Nat),l.any p=true→(k:Int)≤Rw p l k∧Rw p l k<k+l.length
 | [],k,h=>by simp at h
 |x::l,k,h=>by
  simp only[Rw,List.length_cons]
  by_cases hp:p x=true
  ·rw[if_pos hp];omega
  ·rw[if_neg hp]
   have:=C7 p l (k+1) (by simpa[hp]using h)
   omega
set_option maxHeartbeats 4000000 in
theorem Zg8(R:List (Nat×Res))(nx mg q ms r:Nat)(g:Own)(n:Nat)(sp:List Spot)(hsl:sp.length≤40000)(h1:Zo (roR R) mg=some (Res.rocells [.ref q]))(h2:Zo (roR R) q=some (Res.rosmap Tryz.prog 9 3 (.int .i64) g n))
 (h3:Zo (roR R) ms=some (Res.rocells [.ref r]))(h4:Zo (roR R) r=some (Res.ro .spot sp))(hne:[mg,q,ms,r].Nodup):Za3 Tryz.prog R nx 68 [mg,ms] (kn2 g sp):=by
 refine⟨Qc.enters,_,_,_,Qc.fn,fun args res hr=> ?_⟩
 unfold kn2 at hr
 split at hr
 ·rename_i s
  split at hr
  ·rename_i hs
   cases hr
   obtain⟨hs1,hs2,hs3⟩:=hs
   simp only[List.nodup_cons,List.mem_cons,List.not_mem_nil,or_false,not_or,List.nodup_nil,and_true,not_false_eq_true]at hne
   obtain⟨⟨n1,n2,n3⟩,⟨n4,n5⟩,n6⟩:=hne
   refine⟨by simp[Se,S1.bd,At.bd],by simp[SV.bd,S1.bd,At.bd],by simp,fun w=> ?_⟩
   refine T.weak (S2:=⟨[(0,.one (.a (.str s))),(1,.one (.a (.loc 0 0))),(2,.one (.a (.loc 2 0)))],[(0,.rocells [.ref 1]),(1,.rosmap Tryz.prog 9 3 (.int .i64) g n),(2,.rocells [.ref 3]),(3,.ro .spot sp)],4⟩)
    (Ent.mk1 (fun k=>if k=0 then mg else if k=1 then q else if k=2 then ms else r) (by simp[Zx,h1,h2,h3,h4,Y4,n1,n2,n3,n4,n5,n6])) ?_
   have hsl2:s.length≤9223372036854775807:=by omega
   have hgs:∀y∈sp,Oz s [.agg [.str y.name,.int .i64 y.at_]]=some (.one (.a (.bool ((fun y:Spot=>decide (y.name=s)) y)))):=fun y _=>rfl
   have hIF:=Nv sp (Oz s) (fun y=>decide (y.name=s)) hgs (by omega)
   cases hown:La s with
   |true=>
    have hr:=C7 (fun y:Spot=>decide (y.name=s)) sp 0 (hs3 hown)
    generalize hI:Rw (fun y:Spot=>decide (y.name=s)) sp 0=I at hIF hr
    have hI2:sp.getD I.toNat (Kd.dflt .spot)=sp.getD I.toNat O6:=rfl
    repeat'(first|(first|refine Stp.h ?_|(refine rq (Xp s hs1) ?_ ?_;focus simp[Zz];done)|(refine Za.gc hIF ?_ ?_;rotate_left))<;>try simp only[Zc,simprocAttr,↓reduceIte,reduceCtorEq,implies_true,hown,hI2]|(with_reducible first|assumption|refine And.intro ?_ ?_)|(intro h;first|omega|exact tg h ‹_›|exact tg ‹_› h|skip))
    all_goals first|omega|skip
    ·unfold Ge;rw[if_pos hown,hI]
    ·exact⟨rfl,⟨rfl,⟨rfl,by simp,Zff _ _ _ s rfl⟩,trivial⟩,List.nodup_nil⟩
   |false=>
    have hd:(g s).getD (Kd.dflt (.int .i64))=(g s).getD 0:=rfl
    repeat'(first|(first|refine Stp.h ?_|(refine rq (Xp s hs1) ?_ ?_;focus simp[Zz];done))<;>try simp only[Zc,simprocAttr,↓reduceIte,reduceCtorEq,implies_true,hown,hd]|(with_reducible first|assumption|refine And.intro ?_ ?_)|(intro h;first|omega|exact tg h ‹_›|exact tg ‹_› h|skip))
    all_goals first|omega|skip
    unfold Ge;rw[if_neg (by rw[hown];decide)]
  ·cases hr
 ·cases hr
def N0:List Ln→Int
 | []=>0
 |x::l=>Ow x+N0 l
def Nk(l:List Ln):List (List UInt8):=(l.filter fun x=>decide (x.label≠[])).map Ln.label
theorem Mm:∀(l:List Ln) (k:Nat) (a:Int) (seen:List (List UInt8)) (acc:List Spot),(Wz l k a seen acc).2.2.1=0→(Wz l k a seen acc).2.1=a+N0 l∧(Wz l k a seen acc).1.map Spot.name=acc.map Spot.name++Nk l
 | [],k,a,seen,acc,h=>by simp[Wz,N0,Nk]
 |x::l,k,a,seen,acc,h=>by
  unfold Wz at h ⊢
  split at h
  ·rename_i h1;exact absurd h h1
  ·rename_i h1
   rw[if_neg h1]
   split at h
   ·rename_i hl
    rw[if_pos hl]
    split at h
    ·exact absurd h (by simp)
    ·rename_i hs
     rw[if_neg hs]
     obtain⟨g1,g2⟩:=Mm l _ _ _ _ h
     refine⟨by rw[g1,N0,Bg hl];omega,?_⟩
     rw[g2];simp[Nk,hl]
   ·rename_i hl
    rw[if_neg hl]
    split at h
    ·exact absurd h (by simp)
    ·rename_i hs
     rw[if_neg hs]
     obtain⟨g1,g2⟩:=Mm l _ _ _ _ h
     refine⟨by rw[g1,N0];omega,?_⟩
     rw[g2]
     have hl':x.label=[]:=by simpa using hl
     simp[Nk,hl']
theorem Ff{l:List Ln}{a:Int}(h:(Yc l a).2.2.1=0):(Yc l a).2.1=a+N0 l∧(Yc l a).1.map Spot.name=Nk l:=by
 have:=Mm l 0 a [] [] h
 simpa[Yc]using this
theorem Gn(sp:List Spot)(s:List UInt8):sp.any (fun y=>decide (y.name=s))=decide (s∈sp.map Spot.name):=by
 rw[Bool.eq_iff_iff];simp
@[reducible] def Oj:Type:=List (List UInt8×List Ln)
def Yu(l:Oj)(u:Int):List Ln:=(l.getD u.toNat Nr).2
def Nq(l:Oj):List Int→Nat→Int
 | [],_=>0
 |_,0=>0
 |u::us,k+1=>N0 (Yu l u)+Nq l us k
theorem R7(l:Oj):∀(us vs:List Int) (k:Nat),k≤us.length→Nq l (us++vs) k=Nq l us k
 | [],vs,k,h=>by
   have:k=0:=by simpa using h
   subst this
   cases vs<;>rfl
 |u::us,vs,0,h=>rfl
 |u::us,vs,k+1,h=>by simp only[List.cons_append,Nq,R7 l us vs k (by simpa using h)]
theorem L8(l:Oj):∀(us:List Int) (k:Nat),k<us.length→Nq l us (k+1)=Nq l us k+N0 (Yu l (us.getD k 0))
 |u::us,0,h=>by cases us<;>simp[Nq]
 |u::us,k+1,h=>by
  have:=L8 l us k (by simpa using h)
  have e1:Nq l (u::us) (k+1+1)=N0 (Yu l u)+Nq l us (k+1):=rfl
  have e2:Nq l (u::us) (k+1)=N0 (Yu l u)+Nq l us k:=rfl
  rw[e1,e2,this]
  simp only[List.getD_cons_succ];omega
def Nu(l:Oj)(own:Own)(us:List Int)(k:Nat):Prop:=
 (Yc (Yu l (us.getD k 0)) (Nq l us k)).2.2.1=0∧∀x∈Yu l (us.getD k 0),x.ref≠[]→if La x.ref=true then x.ref∈Nk (Yu l (us.getD k 0))else∃v,own x.ref=some v∧v∈us
theorem Uz{own:Own}{u:Int}{sp:List Spot}:∀ {ls:List Ln} {us us':List Int},Rn own u sp ls us=some us'→∃vs,us'=us++vs
 | [],us,us',h=>by cases h;exact⟨[],by simp⟩
 |x::ls,us,us',h=>by
  simp only[Rn]at h
  split at h
  ·exact Uz h
  ·split at h
   ·cases h
   ·split at h
    ·exact Uz h
    ·obtain⟨vs,rfl⟩:=Uz h
     exact⟨[_]++vs,List.append_assoc _ _ _⟩
theorem Kc{own:Own}{u:Int}{sp:List Spot}:∀ {ls:List Ln} {us us':List Int},Rn own u sp ls us=some us'→∀x∈ls,x.ref≠[]→∃v,B9 own u sp x.ref=some v∧v∈us'
 |y::ls,us,us',h,x,hx,hr=>by
  simp only[Rn]at h
  by_cases hy:y.ref=[]
  ·rw[if_pos hy]at h
   rcases List.mem_cons.1 hx with rfl|hx
   ·exact absurd hy hr
   ·exact Kc h x hx hr
  ·rw[if_neg hy]at h
   split at h
   ·cases h
   ·rename_i v hv
    rcases List.mem_cons.1 hx with rfl|hx
    ·refine⟨v,hv,?_⟩
     obtain⟨vs,rfl⟩:=Uz h
     split
     ·exact List.mem_append_left _ (by assumption)
     ·simp
    ·exact Kc h x hx hr
theorem Nu.mono{l:Oj}{own:Own}{us:List Int}{k:Nat}(h:Nu l own us k)(hk:k<us.length)(vs:List Int):Nu l own (us++vs) k:=by
 unfold Nu at h ⊢
 have e1:(us++vs).getD k 0=us.getD k 0:=by simp[List.getD,List.getElem?_append_left hk]
 rw[e1,R7 l us vs k (by omega)]
 refine⟨h.1,fun x hx hr=> ?_⟩
 have:=h.2 x hx hr
 split
 ·rename_i ho;rwa [if_pos ho]at this
 ·rename_i ho
  rw[if_neg ho]at this
  obtain⟨v,h1,h2⟩:=this
  exact⟨v,h1,List.mem_append_left _ h2⟩
theorem Be{l:Oj}{own:Own}:∀(f i:Nat) (us:List Int) (at_:Int) (g:Own) (sps:List Spot),(lk1 l own f i us at_ g sps).2.1=0→i≤us.length→at_=Nq l us i→(∀k,k<i→Nu l own us k)→
 (∀k,k<(lk1 l own f i us at_ g sps).1.1.length→Nu l own (lk1 l own f i us at_ g sps).1.1 k)∧∃vs,(lk1 l own f i us at_ g sps).1.1=us++vs
 |0,i,us,at_,g,sps,h,_,_,_=>by simp[lk1]at h
 |f+1,i,us,at_,g,sps,h,hi,ha,hg=>by
  unfold lk1 at h ⊢
  split at h
  ·rename_i h1
   rw[if_pos h1]
   exact⟨fun k hk=>hg k (by simp only at hk;omega),[],by simp⟩
  ·rename_i h1
   rw[if_neg h1]
   split at h
   ·rename_i h2;exact absurd h h2
   ·rename_i h2
    rw[if_neg h2]
    split at h
    ·simp at h
    ·rename_i us' hus'
     obtain⟨vs,rfl⟩:=Uz hus'
     have hlt:i<us.length:=by omega
     have hsp:(Yc (l.getD (us.getD i 0).toNat Nr).2 at_).2.2.1=0:=by simpa using h2
     obtain⟨hend,hnm⟩:=Ff hsp
     have hgi:Nu l own (us++vs) i:=by
      unfold Nu
      have e1:(us++vs).getD i 0=us.getD i 0:=by simp[List.getD,List.getElem?_append_left hlt]
      rw[e1,R7 l us vs i (by omega),←ha]
      refine⟨hsp,fun x hx hr=> ?_⟩
      obtain⟨v,h3,h4⟩:=Kc hus' x hx hr
      unfold B9 at h3
      split
      ·rename_i ho
       rw[if_pos ho]at h3
       split at h3
       ·rename_i h5
        rw[Gn,hnm]at h5
        simpa[Yu]using h5
       ·cases h3
      ·rename_i ho
       rw[if_neg ho]at h3
       exact⟨v,h3,h4⟩
     obtain⟨r1,vs2,r2⟩:=Be f (i+1) (us++vs) _ _ _ h (by simp;omega) (by
      rw[hend,R7 l us vs (i+1) (by omega),L8 l us i hlt,ha];rfl) (fun k hk=>by
       by_cases hki:k<i
       ·exact(hg k hki).mono (by omega) vs
       ·have:k=i:=by omega
        subst this;exact hgi)
     refine⟨by simpa[hus']using r1,vs++vs2,?_⟩
     simpa[hus',List.append_assoc]using r2
end Go.Proofs.YtbmecnjmbhokgaaGreatDoor
namespace Go.Proofs.YtbmecnjmbhokgaaGreatDoor
open Go.RowKit Vc
set_option linter.unusedVariables false
set_option linter.unusedSimpArgs false
def entQ(c:Cx)(Q:Exit→St→Prop)(e:Exit)(S:St):Prop:=∃S2,Ent c S S2∧Q e S2
theorem T.entQ{c:Cx}{Q:Exit→St→Prop}{S:St}{x:IC}(h:T c x (entQ c Q) S):T c x Q S:=by
 intro ρ a w hh code hc
 refine wp_mono (h ρ a w hh code hc) fun e a' w' hl=> ?_
 obtain⟨S',ρ',g1,S2,g2,g3⟩:=hl
 obtain⟨ρ2,g4⟩:=g2 ρ' a' w' g1
 exact⟨S2,ρ2,g4,g3⟩
attribute [local irreducible] T Za Zn Ent RdC RwC Ye Zf Zh
theorem Co:∀(l:List Ins) (k:Nat) (acc:List Int),acc.length≤65536→(Zbg l k acc).1.length≤65536
 | [],_,_,h=>h
 |x::l,k,acc,h=>by
  simp only[Zbg]
  split
  ·split
   ·simp
   ·exact Co l _ _ (by omega)
  ·simp
theorem Zhv(l:List Ins):(Cp l).1.length≤65536:=Co l 0 [] (by simp)
def lk2(l:Oj)(g:Own):List Int→Int→List Int→List Int
 | [],_,acc=>acc
 |u::us,at_,acc=>lk2 l g us (Yc (Yu l u) at_).2.1 (acc++(Cp (U0 (Ge g (Yc (Yu l u) at_).1) (Yu l u)).1).1)
set_option maxHeartbeats 8000000 in
theorem Zh8{w:World}{X:List Nat}{fr:List Value}{Q:Exit→St→Prop}(l:Oj)(own g:Own)(us:List Int)(n:Nat)(sps:List Spot)
 (hu:∀u∈l,u.2.length≤40000∧(Yc u.2 0).2.2.1=0)(hus:Za5 l.length us)(hul:us.length≤400)(hgood:∀k,k<us.length→Nu l own us k)
 (hQ:∀S',Ent ⟨Tryz.prog,w,X,199,fr⟩ S' ⟨[(10,.one (.a (.loc 2 0))),(5,.one (.a (.loc 8 0))),(4,.one (.a (.loc 7 0)))],[(2,.cells 78 [.ref 9,.ref 3,.ref 4]),(3,.row 3 (.int .i64) us),(4,.row 109 .spot sps),(7,.cells 78 [(.raw (.slice none 0 0)),(.raw (.slice none 0 0)),(.raw (.slice none 0 0))]),(8,.cells 80 [.int .i64 0,.int .i64 0]),(9,.row 3 (.int .i64) (lk2 l g us 0 []))],10⟩→Q (.exit 6) S'):
 T ⟨Tryz.prog,w,X,199,fr⟩ (.loop W8.c65) Q ⟨[(160,.one (.a (.int .i64 0))),(159,.one (.a (.int .i64 us.length))),(158,.one (.a (.ref 3))),(12,.one (.a (.int .i64 0))),(11,.one (.a (.loc 5 0))),(10,.one (.a (.loc 2 0))),(5,.one (.a (.loc 8 0))),(4,.one (.a (.loc 7 0))),(0,.one (.a (.ref 0)))],[(0,.rou l),(2,.cells 78 [.ref 9,.ref 3,.ref 4]),(3,.row 3 (.int .i64) us),(4,.row 109 .spot sps),(5,.cells 101 [.ref 6]),(6,.smap Tryz.prog 9 3 (.int .i64) g n),(7,.cells 78 [(.raw (.slice none 0 0)),(.raw (.slice none 0 0)),(.raw (.slice none 0 0))]),(8,.cells 80 [.int .i64 0,.int .i64 0]),(9,.row 3 (.int .i64) [])],10⟩:=by
 refine T.loop (ι:= {p:Nat×Int×List Int//p.1≤us.length∧lk2 l g (us.drop p.1) p.2.1 p.2.2=lk2 l g us 0 []∧p.2.1=Nq l us p.1∧(0≤p.2.1∧p.2.1≤65536)∧p.2.2.length≤65536*p.1})
  (fun x=>⟨[(160,.one (.a (.int .i64 (x.1.1:Int)))),(159,.one (.a (.int .i64 us.length))),(158,.one (.a (.ref 3))),(12,.one (.a (.int .i64 x.1.2.1))),(11,.one (.a (.loc 5 0))),(10,.one (.a (.loc 2 0))),(5,.one (.a (.loc 8 0))),(4,.one (.a (.loc 7 0))),(0,.one (.a (.ref 0)))],[(0,.rou l),(2,.cells 78 [.ref 9,.ref 3,.ref 4]),(3,.row 3 (.int .i64) us),(4,.row 109 .spot sps),(5,.cells 101 [.ref 6]),(6,.smap Tryz.prog 9 3 (.int .i64) g n),(7,.cells 78 [(.raw (.slice none 0 0)),(.raw (.slice none 0 0)),(.raw (.slice none 0 0))]),(8,.cells 80 [.int .i64 0,.int .i64 0]),(9,.row 3 (.int .i64) x.1.2.2)],10⟩) (fun x=>us.length-x.1.1) ⟨(0,0,[]),by simp,by simp,by cases us<;>rfl,by simp,by simp⟩ (Ent.mk1 (id) (by simp[Zx])) ?_
 rintro⟨⟨k,at_,ws⟩,hk,hrun,hat,⟨ha0,ha1⟩,hws⟩
 simp only at hk hrun hat ha0 ha1 hws
 by_cases hlt:k<us.length
 ·have hdrop:us.drop k=us.getD k 0::us.drop (k+1):=by
   rw[List.drop_eq_getElem_cons hlt];simp[List.getD,hlt]
  have hmem:us.getD k 0∈us:=by simp[List.getD,hlt]
  have hgk:=hgood k hlt
  unfold Nu at hgk
  rw[←hat]at hgk
  generalize hx:us.getD k 0=u at hdrop hmem hgk
  have hx':us.getD k (Kd.dflt (.int .i64))=u:=hx
  have hur:=hus.2 u hmem
  have humem:l.getD u.toNat Nr∈l:=by
   have:u.toNat<l.length:=by omega
   simp[List.getD,this]
  obtain⟨hUl,hU0⟩:=hu _ humem
  have hU':l.getD u.toNat ([],[])=l.getD u.toNat Nr:=rfl
  have hU2:(l.getD u.toNat Nr).2=Yu l u:=rfl
  rw[hU2]at hUl hU0
  have hwr:=Sl (Yu l u) 0 0 [] [] hU0
  obtain⟨hsok,hslen,he0,he1⟩:=H3 (Yu l u) at_ ha0 ha1
  have hSp:=Nf (Yu l u) at_ hUl ha0 ha1
  obtain⟨hend,hnm⟩:=Ff hgk.1
  have hoff:(Yc (Yu l u) at_).2.1=Nq l us (k+1):=by rw[hend,L8 l us k hlt,hx,hat]
  rw[hdrop]at hrun
  simp only[lk2]at hrun
  have hw:IntKind.i64.wrap ((k:Int)+1)=((k+1:Nat):Int):=Zy (by omega)
  have ht:((k:Int)).toNat=k:=by omega
  have hKn:Knows (kn2 g (Yc (Yu l u) at_).1) (Ge g (Yc (Yu l u) at_).1) (Yu l u):=by
   intro x hx hlb hrf
   have hxl:=O0 ((Mr (hwr x hx) hlb).2 hrf).1
   have h2:=hgk.2 x hx hrf
   unfold kn2
   simp only
   rw[if_pos ⟨hrf,hxl,fun ho=>by
    rw[if_pos ho]at h2
    rw[Gn,hnm];simpa using h2⟩]
  have hRs:=Dz (Yu l u) (kn2 g (Yc (Yu l u) at_).1) (Ge g (Yc (Yu l u) at_).1) hKn hUl
  generalize hsp1:(Yc (Yu l u) at_).1=sp at hrun hsok hslen hSp hRs
  generalize hend1:(Yc (Yu l u) at_).2.1=end_ at hrun hSp he0 he1 hoff
  have hEn:=Za2 (U0 (Ge g sp) (Yu l u)).1
  have hem:=Zhv (U0 (Ge g sp) (Yu l u)).1
  generalize hen:Cp (U0 (Ge g sp) (Yu l u)).1=en at hrun hEn hem
  repeat'(first|(first|refine Stp.h ?_|(refine Za.rw hSp ?_ ?_;(focus(((repeat'(first|exact rfl|exact trivial|refine And.intro ?_ ?_|(simp[Zz];done))));done)))|(refine Za.rw hEn ?_ ?_;(focus(((repeat'(first|exact rfl|exact trivial|refine And.intro ?_ ?_|(simp[Zz];done))));done)))|(refine Za.gc hRs ?_ ?_;rotate_left))<;>try simp only[Zc,simprocAttr,↓reduceIte,reduceCtorEq,implies_true,hx',hU',hU2,hw,ht,Int.ofNat_lt]|(with_reducible first|assumption|refine And.intro ?_ ?_)|(intro h;first|omega|exact tg h ‹_›|exact tg ‹_› h|skip))
  all_goals first|omega|skip
  ·exact⟨⟨(k+1,end_,ws++en.1),hlt,hrun,hoff,⟨he0,he1⟩,by simp only[List.length_append];omega⟩,(Ent.mk1 (fun n=>if n=9 then 19 else n) (by simp[Zx,hw])),by simp only;omega⟩
  ·exact⟨rfl,⟨rfl,⟨rfl,by simp,Zg8 _ _ 5 6 12 11 g n sp (by omega) rfl rfl rfl rfl (by decide)⟩,trivial⟩,List.nodup_nil⟩
 ·have hk2:k=us.length:=by omega
  subst hk2
  rw[List.drop_length]at hrun
  simp only[lk2]at hrun
  subst hrun
  repeat'(first|(first|refine Stp.h ?_)<;>try simp only[Zc,simprocAttr,↓reduceIte,reduceCtorEq,implies_true,Int.ofNat_lt]|(with_reducible first|assumption|refine And.intro ?_ ?_)|(intro h;first|omega|exact tg h ‹_›|exact tg ‹_› h|skip))
  all_goals first|omega|skip
  exact hQ _ (Ent.mk1 (id) (by simp[Zx]))
def linkS(l:Oj)(entry:List UInt8):(List Int×List Int×List Spot)×Int×Int:=
 if(Z8 l).2.1≠0 then(([],[],[]),(Z8 l).2.1,(Z8 l).2.2)else
 match(Z8 l).1 entry with
 |none=>(([],[],[]),6,(l.length:Int))
 |some first=>if(lk1 l (Z8 l).1 402 0 [first] 0 Si []).2.1≠0 then(([],[],[]),(lk1 l (Z8 l).1 402 0 [first] 0 Si []).2)else
   ((lk2 l (lk1 l (Z8 l).1 402 0 [first] 0 Si []).1.2.1 (lk1 l (Z8 l).1 402 0 [first] 0 Si []).1.1 0 [],(lk1 l (Z8 l).1 402 0 [first] 0 Si []).1.1,(lk1 l (Z8 l).1 402 0 [first] 0 Si []).1.2.2),0,0)
def lkV(r:(List Int×List Int×List Spot)×Int×Int):SV:=if r.2.1=0 then .tup [.agg [.ref 1,.ref 2,.ref 3],.agg [.int .i64 0,.int .i64 0]]else .tup [.agg [.raw (.slice none 0 0),.raw (.slice none 0 0),.raw (.slice none 0 0)],.agg [.int .i64 r.2.1,.int .i64 r.2.2]]
def lkR(r:(List Int×List Int×List Spot)×Int×Int):List (Nat×Res):=if r.2.1=0 then[(1,.row 3 (.int .i64) r.1.1),(2,.row 3 (.int .i64) r.1.2.1),(3,.row 109 .spot r.1.2.2)]else[]
theorem Zh9{r:(List Int×List Int×List Spot)×Int×Int}(h:r.2.1≠0):lkV r= .tup [.agg [.raw (.slice none 0 0),.raw (.slice none 0 0),.raw (.slice none 0 0)],.agg [.int .i64 r.2.1,.int .i64 r.2.2]]∧lkR r=[]:=by
 unfold lkV lkR;rw[if_neg h,if_neg h];exact⟨rfl,rfl⟩
theorem lk_ok{r:(List Int×List Int×List Spot)×Int×Int}(h:r.2.1=0):lkV r= .tup [.agg [.ref 1,.ref 2,.ref 3],.agg [.int .i64 0,.int .i64 0]]∧lkR r=[(1,.row 3 (.int .i64) r.1.1),(2,.row 3 (.int .i64) r.1.2.1),(3,.row 109 .spot r.1.2.2)]:=by
 unfold lkV lkR;rw[if_pos h,if_pos h];exact⟨rfl,rfl⟩
set_option maxHeartbeats 8000000 in
theorem Link_gc(l:Oj)(entry:List UInt8)(hf:Fits l)(hen:entry.length≤9223372036854775807):
 GC Tryz.prog 43 [.a (.ref 0),.a (.str entry)] [(0,.rou l)] 1 [] (lkV (linkS l entry)) (lkR (linkS l entry)) 4:=by
 refine W8.fn.gc (by simp) (by
  unfold lkV lkR
  by_cases h:(linkS l entry).2.1=0
  ·rw[if_pos h,if_pos h];exact(by simp[Zu,Zw,Zv,Zj,Ze,Vc.S1.okN,At.okN,SV.okN,Res.okN,Res.outOk,Zo,Res.own,Value.oneCell'])
  ·rw[if_neg h,if_neg h];exact(by simp[Zu,Zw,Zv,Zj,Ze,Vc.S1.okN,At.okN,SV.okN,Res.okN,Res.outOk,Zo,Res.own,Value.oneCell'])) fun w X fr=> ?_
 have hch:=Zbb l hf
 generalize hR:linkS l entry=R
 unfold linkS at hR
 by_cases he:(Z8 l).2.1=0
 ·rw[if_neg (by simpa using he)]at hR
  obtain⟨hl,hu,ho⟩:=Cd he
  obtain⟨e1,e2⟩:=ch_ok (l:=l) (k:=(Z8 l).2.2) (f:=(Z8 l).1) (by rw[←he])
  rw[e1,e2]at hch
  generalize hown:(Z8 l).1=own at hR hch ho
  cases hoe:own entry with
  |none=>
   rw[hoe]at hR
   simp only at hR
   obtain⟨e3,e4⟩:=Zh9 (r:=R) (by rw[←hR];simp)
   rw[e3,e4,←hR]
   repeat'(first|(first|refine Stp.h ?_|(refine Za.gc hch ?_ ?_;focus simp[Zb]))<;>try simp only[Zc,simprocAttr,↓reduceIte,reduceCtorEq,implies_true,hoe]|(with_reducible first|assumption|refine And.intro ?_ ?_)|(intro h;first|omega|exact tg h ‹_›|exact tg ‹_› h|skip))
   all_goals first|omega|skip
  |some first=>
   rw[hoe]at hR
   simp only at hR
   generalize hRES:lk1 l own 402 0 [first] 0 Si []=RES at hR
   repeat'(first|(first|refine Stp.h ?_|(refine Za.gc hch ?_ ?_;focus simp[Zb]))<;>try simp only[Zc,simprocAttr,↓reduceIte,reduceCtorEq,implies_true,hoe]|(with_reducible first|assumption|refine And.intro ?_ ?_)|(intro h;first|omega|exact tg h ‹_›|exact tg ‹_› h|skip))
   all_goals first|omega|skip
   refine T.weak (Ent.litRow (m:=8) (.int .i64) [first] rfl rfl rfl rfl (by decide)) ?_
   refine T.weak (Ent.nilCell (m:=5) (j:=2) 109 .spot rfl rfl) ?_
   refine T.entQ ?_
   have hgl:=Be (l:=l) (own:=own) 402 0 [first] 0 Si []
   rw[hRES]at hgl
   refine T.weak (Ent.mk1 (fun n=>if n=1 then 3 else if n=2 then 5 else if n=3 then 8 else if n=4 then 9 else if n=5 then 7 else if n=7 then 1 else if n=8 then 2 else n) (by simp[Zx,Ex])) (Zf4 l own [first] RES hl hu ho ⟨by simp,fun v hv=>by
    simp only[List.mem_singleton]at hv;subst hv;exact ho _ _ hoe⟩ hRES (fun hz S1 i at_ n hus hsl he1=>⟨_,he1,?_⟩) fun hz S1 he1=>⟨_,he1,?_⟩)
   ·obtain⟨hgood,_⟩:=hgl hz (by simp) (by simp[Nq]) (fun k hk=>by omega)
    rw[if_neg (by simpa using hz)]at hR
    obtain⟨e3,e4⟩:=lk_ok (r:=R) (by rw[←hR])
    rw[e3,e4,←hR]
    generalize RES.1.1=us at*
    generalize RES.1.2.1=g at*
    generalize RES.1.2.2=sps at*
    have hul:=nodup_range _ _ hus
    simp only[Zc,simprocAttr,↓reduceIte,reduceCtorEq,implies_true]
    refine T.weak (Ent.nilCell (m:=2) (j:=0) 3 (.int .i64) rfl rfl) ?_
    repeat'(first|(first|refine Stp.h ?_)<;>try simp only[Zc,simprocAttr,↓reduceIte,reduceCtorEq,implies_true]|(with_reducible first|assumption|refine And.intro ?_ ?_)|(intro h;first|omega|exact tg h ‹_›|exact tg ‹_› h|skip))
    all_goals first|omega|skip
    refine T.weak (Ent.mk1 (id) (by simp[Zx])) (Zh8 l own g us n sps hu hus (by omega) hgood fun S2 he2=> ?_)
    simp only[Zc,simprocAttr,↓reduceIte,reduceCtorEq,implies_true]
    refine T.weak he2 ?_
    repeat'(first|(first|refine Stp.h ?_)<;>try simp only[Zc,simprocAttr,↓reduceIte,reduceCtorEq,implies_true]|(with_reducible first|assumption|refine And.intro ?_ ?_)|(intro h;first|omega|exact tg h ‹_›|exact tg ‹_› h|skip))
    all_goals first|omega|skip
   ·rw[if_pos (by simpa using hz)]at hR
    obtain⟨e3,e4⟩:=Zh9 (r:=R) (by rw[←hR];simpa using hz)
    rw[e3,e4,←hR]
    simp only[Zc,simprocAttr,↓reduceIte,reduceCtorEq,implies_true,W8.res]
 ·rw[if_pos (by simpa using he)]at hR
  obtain⟨e1,e2⟩:=Cc (l:=l) (k:=(Z8 l).2.2) (f:=(Z8 l).1) (e:=(Z8 l).2.1) rfl he
  rw[e1,e2]at hch
  obtain⟨e3,e4⟩:=Zh9 (r:=R) (by rw[←hR];simpa using he)
  rw[e3,e4,←hR]
  repeat'(first|(first|refine Stp.h ?_|(refine Za.gc hch ?_ ?_;focus simp[Zb]))<;>try simp only[Zc,simprocAttr,↓reduceIte,reduceCtorEq,implies_true,he]|(with_reducible first|assumption|refine And.intro ?_ ?_)|(intro h;first|omega|exact tg h ‹_›|exact tg ‹_› h|skip))
  all_goals first|omega|skip
end Go.Proofs.YtbmecnjmbhokgaaGreatDoor
namespace Go.Proofs.YtbmecnjmbhokgaaGreatDoor
open Vc
end Go.Proofs.YtbmecnjmbhokgaaGreatDoor
namespace Go.Proofs.YtbmecnjmbhokgaaGreatDoor
open Go Go.RowKit Vc
set_option linter.unusedVariables false
set_option linter.unusedSimpArgs false
attribute [local irreducible] T Za Zn Ent RdC RwC Ye Zf Zh
theorem Dl(i:Nat)(hi:i≤24)(ls:List Ln)(hl:ls.length≤1000):Fits (unitsTo i++[([],ls)])∧Fits (unitsTo i):=by
 have h1:∀u∈unitsTo i,u.2.length≤9223372036854775807:=fun u hu=>by
  obtain⟨k,hk,rfl⟩:=List.mem_map.1 hu
  have:=(B8 k (by have:=List.mem_range.1 hk;omega)).2.2
  show(linesAt k).length≤_
  omega
 have h2:=Na i
 refine⟨⟨by simp only[List.length_append,List.length_cons,List.length_nil];omega,fun u hu=> ?_⟩,by omega,h1⟩
 rcases List.mem_append.1 hu with h|h
 ·exact h1 u h
 ·simp only[List.mem_singleton]at h
  subst h
  show ls.length≤_
  omega
def Z2:List UInt8:=[109,97,105,110]
def callL(n:List UInt8):Ln:=⟨[],⟨26,0,0,0⟩,n⟩
end Go.Proofs.YtbmecnjmbhokgaaGreatDoor
