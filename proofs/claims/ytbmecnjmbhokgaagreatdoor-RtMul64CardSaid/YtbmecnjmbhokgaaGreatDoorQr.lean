/- A part of the proofs of this seat's laws: steps on the way, joined. It has no conditions of its own. -/
import Derived.Test.YtbmecnjmbhokgaaGreatDoorQq
import Derived.Sort.OwnSorted
import Derived.Sort.KeysCollected
import Derived.Test.YtbmecnjmbhokgaaGreatDoorQi
import Derived.Test.YtbmecnjmbhokgaaGreatDoorQj
import Derived.Test.YtbmecnjmbhokgaaGreatDoorQh
import Derived.Test.YtbmecnjmbhokgaaGreatDoorChecked
import Derived.KernelRfl
namespace Go.Proofs.YtbmecnjmbhokgaaGreatDoor
open Go Go.RowKit Vc
set_option linter.unusedVariables false
set_option linter.unusedSimpArgs false
def Li(l:List (List UInt8)):List (List UInt8):=l.mergeSort fun x y=>decide (x≤y)
theorem Fg(ρ:Env)(l:List (List UInt8)):((l.flatMap (Kd.enc .str)).map (At.den ρ))=l.map encStr:=by
 induction l with
 |nil=>rfl
 |cons x l ih=>
  simp only[List.flatMap_cons,List.map_append,ih,List.map_cons]
  rfl
theorem Sort_gc(l:List (List UInt8))(h0:l≠[])(hl:l.length≤1000):
 GC Tryz.prog 74 [.a (.ref 0)] [(0,.row 9 .str l)] 1 [0] (.tup []) [(0,.row 9 .str (Li l))] 1:=by
 refine⟨(by simp[Zu,Zw,Zv,Zj,Ze,Vc.S1.okN,At.okN,SV.okN,Res.okN,Res.outOk,Zo,Res.own,Value.oneCell']),fun ρ w hm=> ?_⟩
 have hr:=hm.res 0 _ (List.mem_cons_self ..)
 simp only[Res.holds]at hr
 rw[Fg]at hr
 have hlen:(Li l).length=l.length:=by simp[Li]
 rcases hr.2 with⟨_,hz⟩|⟨g,cap,cur,hv,hbase,hb,h1,h2,h3,h4⟩
 ·exact absurd (List.length_eq_zero_iff.1 hz) h0
 have hsz:Kd.sz .str=1:=rfl
 have hH:=holds_of_block (ss:=l) hb (by simpa[hsz]using h4)
 have hg:=(Array.getElem?_eq_some_iff.1 hb).1
 have hc:=Tryz.slices_Sort_string g 0 cap l w hH hg (by omega)
 have e1:(At.den ρ (.ref 0))= .slice (some ⟨g,0,none⟩) l.length cap:=hv
 simp only[List.map_cons,List.map_nil,S1.den,e1]
 refine hc.mono fun e w' ⟨he,n,os,hw⟩=>⟨ρ,fun _ _=>rfl,he,?_⟩
 have hgr:=grownBy_sorted (w:=w) (g:=g) (n:=n) (os:=os) (Li l).toArray
 have hw':w'=Go.Sort.grow (Go.Sort.putRow encStr (Sort.ahead w n) g 0 (Li l).toArray) os:=hw
 rw[←hw']at hgr
 have hrow:w'.ownsRow 0 9 1 (ρ 0) (Li l).length ((Li l).map encStr):=by
  rw[hv,hw',hlen]
  exact ownsRow_sorted hlen hbase hb h1 h2 (by simpa[hsz]using h3)
 have:=Mem.step (ρ':=ρ) (nx':=1) (w':=w') (ds:=[0]) (m:=0) (r:=.row 9 .str (Li l)) (D:=[g]) hm
  (fun _ _=>rfl) (Nat.le_refl _) hm.one hgr.os hgr.tape hgr.output hgr.size
  (fun b o hbo hbn=>by
    have hbl:=(Array.getElem?_eq_some_iff.1 hbo).1
    rw[hgr.block b hbl (fun e=>by cases e;exact hbn (List.mem_cons_self ..))];exact hbo)
  (fun b hb'=>by
    simp only[List.mem_singleton]at hb';subst hb'
    exact⟨0,_,List.mem_cons_self ..,by simp,by simp[Res.block,hv,Value.ownBlock]⟩)
  (by omega) (.inl (by simp)) trivial
  (fun b hb'=>by
    simp only[Res.block,hv,Value.ownBlock,Option.some.injEq]at hb'
    subst hb'
    exact⟨Nat.lt_of_lt_of_le hg hgr.size,.inr ⟨0,_,List.mem_cons_self ..,by simp,by simp[Res.block,hv,Value.ownBlock]⟩⟩)
  (fun O' _ _=>by simp only[Res.holds];rw[Fg];exact hrow)
 simpa[del]using this
end Go.Proofs.YtbmecnjmbhokgaaGreatDoor
namespace Go.Proofs.YtbmecnjmbhokgaaGreatDoor
open Go Go.RowKit Vc
set_option linter.unusedVariables false
set_option linter.unusedSimpArgs false
attribute [local irreducible] T Za Zn Ent RdC RwC Ye Zf Zh
def Qk:List (List UInt8):=[[49],[50],[52]]
def Tz(s:List UInt8):List (List UInt8):=Qk.map fun t=>s++t
def I8(i:Nat):List UInt8:=(Ou.getD i ([],0)).1
def Uw(seen:List Nat):List (List UInt8):=seen.flatMap fun i=>Tz (I8 i)
def V4:List (List UInt8):=[[109,117,108],[115,97,114],[115,100,105,118],[115,104,108],[115,104,114],[115,114,101,109],[117,100,105,118],[117,114,101,109]].flatMap Tz
theorem Ev:V4.Pairwise fun a b=>decide (a≤b)=true:=by decide+kernel
theorem Zb5:V4.Perm (Uw (List.range 8)):=List.isPerm_iff.1 (by decide+kernel)
theorem Zid{seen:List Nat}(hnd:seen.Nodup)(hlt:∀i∈seen,i<8)(hall:∀i,i<8→i∈seen):Li (Uw seen)=V4:=by
 have hp:seen.Perm (List.range 8):=(List.perm_ext_iff_of_nodup hnd List.nodup_range).2 fun i=>by
  rw[List.mem_range];exact⟨hlt i,hall i⟩
 have hp2:(Uw seen).Perm V4:=(hp.flatMap_right _).trans Zb5.symm
 have:=mergeSort_of_perm hp2
 show(Uw seen).mergeSort (fun x y=>decide (x≤y))=V4
 have e:V4.mergeSort (fun x y=>decide (x≤y))=V4:=List.mergeSort_of_pairwise Ev
 exact Eq.trans this e
theorem Zah{seen:List Nat}(hnd:seen.Nodup)(hlt:∀i∈seen,i<8):seen.length≤8:=by
 have hp:seen.Perm ((List.range 8).filter fun i=>decide (i∈seen)):=(List.perm_ext_iff_of_nodup hnd (List.nodup_range.filter _)).2 fun i=>by
  simp only[List.mem_filter,List.mem_range,decide_eq_true_eq]
  exact⟨fun h=>⟨hlt i h,h⟩,fun h=>h.2⟩
 rw[hp.length_eq]
 exact Nat.le_trans (List.length_filter_le _ _) (by simp)
theorem Zh6:∀i,i<8→(I8 i).length≤4:=by decide
theorem Zi3:∀j,j<3→(Qk.getD j []).length≤1:=by decide
theorem Zgc(seen:List Nat):(Uw seen).length=3*seen.length:=by
 induction seen with
 |nil=>rfl
 |cons i seen ih=>
  simp only[Uw,List.flatMap_cons,List.length_append]at ih ⊢
  rw[ih]
  simp[Tz,Qk];omega
theorem Zb7(seen:List Nat)(i:Nat):Uw (seen++[i])=Uw seen++Tz (I8 i):=by simp[Uw]
set_option maxHeartbeats 8000000 in
set_option maxRecDepth 100000 in
theorem Dx:GC Tryz.prog 58 [] [] 0 [] (.one (.a (.ref 0))) [(0,.row 9 .str V4)] 1:=by
 refine N4.fn.gc (by simp) (by simp[Zu,Zw,Zv,Zj,Ze,Vc.S1.okN,At.okN,SV.okN,Res.okN,Res.outOk,Zo,Res.own,Value.oneCell']) fun w X fr=> ?_
 have hkl:Ou.length=8:=rfl
 repeat'(first|(first|refine Stp.h ?_|(refine Za.gc Ba ?_ ?_;focus simp[Zb];done))<;>try simp only[Zc,simprocAttr,↓reduceIte,reduceCtorEq,implies_true,hkl]|(with_reducible first|assumption|refine And.intro ?_ ?_)|(intro h;first|omega|exact tg h ‹_›|exact tg ‹_› h|skip))
 all_goals first|omega|skip
 refine T.weak (Ent.nilRow (t:=1) 9 .str rfl) ?_
 refine T.loop (ι:= {seen:List Nat//seen.Nodup∧∀i∈seen,i<8})
  (fun x=>⟨[(6,.one (.a (.ref 1))),(1,.one (.a (.ref 2)))],[(0,.fmap Ou),(1,.fiter 0 8 x.1),(2,.row 9 .str (Uw x.1))],3⟩) (fun x=>8-x.1.length) ⟨[],by simp,by simp⟩ (Ent.mk1 (id) (by simp[Zx,Uw])) ?_
 rintro⟨seen,hnd,hlt⟩
 simp only
 have hlen:=Zah hnd hlt
 have hol:=Zgc seen
 refine T.regs ?_
 simp only[Zc,simprocAttr,↓reduceIte,reduceCtorEq,implies_true,N4.r3,hkl]
 refine⟨fun hall=> ?_,fun i s f hg hn=> ?_⟩
 ·have hne:Uw seen≠[]:=by
   intro e
   rw[e]at hol
   have:seen.length=0:=by simp at hol;omega
   have h0:=hall 0 (by omega)
   rw[List.length_eq_zero_iff.1 this]at h0;cases h0
  have hS:=Sort_gc (Uw seen) hne (by omega)
  rw[Zid hnd hlt hall]at hS
  repeat'(first|(first|refine Stp.h ?_|(refine Za.gc hS ?_ ?_;focus simp[Zb];done))<;>try simp only[Zc,simprocAttr,↓reduceIte,reduceCtorEq,implies_true]|(with_reducible first|assumption|refine And.intro ?_ ?_)|(intro h;first|omega|exact tg h ‹_›|exact tg ‹_› h|skip))
  all_goals first|omega|skip
 ·have hi8:i<8:=by have:=(List.getElem?_eq_some_iff.1 hg).1;omega
  have hk:I8 i=s:=by unfold I8;simp[List.getD,hg]
  repeat'(first|(first|refine Stp.h ?_)<;>try simp only[Zc,simprocAttr,↓reduceIte,reduceCtorEq,implies_true,hg,hkl,List.getLast?_concat]|(with_reducible first|assumption|refine And.intro ?_ ?_)|(intro h;first|omega|exact tg h ‹_›|exact tg ‹_› h|skip))
  all_goals first|omega|skip
  refine T.weak (Ent.litRow (m:=3) .str Qk rfl rfl rfl rfl (by decide)) ?_
  simp only[Zc,simprocAttr,↓reduceIte,reduceCtorEq,implies_true]
  refine T.loop (ι:= {j:Nat//j≤3})
   (fun x=>⟨[(13,.one (.a (.int .i64 (x.1:Int)))),(12,.one (.a (.int .i64 3))),(11,.one (.a (.ref 3))),(2,.one (.a (.str s))),(6,.one (.a (.ref 1))),(1,.one (.a (.ref 2)))],
     [(0,.fmap Ou),(1,.fiter 0 8 (seen++[i])),(2,.row 9 .str (Uw seen++(Tz s).take x.1)),(3,.row 9 .str Qk)],4⟩) (fun x=>3-x.1) ⟨0,by simp⟩ (Ent.mk1 (id) (by simp[Zx])) ?_
  rintro⟨j,hj⟩
  simp only
  have htl:Qk.length=3:=rfl
  by_cases hj3:j<3
  ·have hw:IntKind.i64.wrap ((j:Int)+1)=((j+1:Nat):Int):=Zy (by omega)
   have htj:((j:Int)).toNat=j:=by omega
   have htk:(Tz s).take (j+1)=(Tz s).take j++[s++Qk.getD j (Kd.dflt .str)]:=by
    have h3:j<(Tz s).length:=by simp[Tz,Qk];omega
    rw[List.take_add_one,List.getElem?_eq_getElem h3]
    simp[Tz,List.getD,show j<Qk.length by omega]
   have hll:(Uw seen++(Tz s).take j).length≤100:=by
    simp only[List.length_append,List.length_take,hol,Tz,List.length_map,htl];omega
   generalize hx:Qk.getD j (Kd.dflt .str)=x at htk
   have hsx:s.length+x.length≤1000:=by
    have h1:=Zh6 i hi8
    have h2:x.length≤1:=by rw[←hx];exact Zi3 j hj3
    rw[hk]at h1;omega
   generalize hacc:Uw seen++(Tz s).take j=acc at hll
   have hacc2:Uw seen++(Tz s).take (j+1)=acc++[s++x]:=by rw[htk,←hacc,List.append_assoc]
   have hlt3:(j:Int)<3:=by omega
   repeat'(first|(first|refine Stp.h ?_)<;>try simp only[Zc,simprocAttr,↓reduceIte,reduceCtorEq,implies_true,hx,hw,htj,htl,hlt3,Int.ofNat_lt]|(with_reducible first|assumption|refine And.intro ?_ ?_)|(intro h;first|omega|exact tg h ‹_›|exact tg ‹_› h|skip))
   all_goals first|omega|skip
   exact⟨⟨j+1,hj3⟩,(Ent.mk1 (fun n=>if n=2 then 5 else n) (by simp[Zx,hacc2,hw])),by simp only;omega⟩
  ·have hj2:j=3:=by omega
   subst hj2
   have h3:(Tz s).take 3=Tz s:=rfl
   have hnl:(seen++[i]).Nodup:=by
    rw[List.nodup_append]
    exact⟨hnd,by simp,fun a ha b hb e=>by simp at hb;subst hb;exact hn (e▸ha)⟩
   have hlt':∀q∈seen++[i],q<8:=by
    intro q hq
    rcases List.mem_append.1 hq with hq|hq
    ·exact hlt q hq
    ·simp only[List.mem_singleton]at hq;subst hq;exact hi8
   have hsl:=Zah hnl hlt'
   have ho:Uw (seen++[i])=Uw seen++Tz s:=by rw[Zb7,hk]
   have hlt3:¬(((3:Nat):Int)<3):=by decide
   rw[h3]
   repeat'(first|(first|refine Stp.h ?_)<;>try simp only[Zc,simprocAttr,↓reduceIte,reduceCtorEq,implies_true,hlt3]|(with_reducible first|assumption|refine And.intro ?_ ?_)|(intro h;first|omega|exact tg h ‹_›|exact tg ‹_› h|skip))
   all_goals first|omega|skip
   exact⟨⟨seen++[i],hnl,hlt'⟩,(Ent.mk1 (id) (by simp[Zx,ho])),by simp only[List.length_append,List.length_cons,List.length_nil]at hsl ⊢;omega⟩
end Go.Proofs.YtbmecnjmbhokgaaGreatDoor
namespace Go.Proofs.YtbmecnjmbhokgaaGreatDoor
open Go Go.RowKit Vc
set_option linter.unusedVariables false
set_option linter.unusedSimpArgs false
theorem C9:∀(l:List (List UInt8)) (w:List UInt8) (k:Nat),w∉l→Sf l w k= -1
 | [],_,_,_=>rfl
 |x::l,w,k,h=>by
  simp only[List.mem_cons,not_or]at h
  unfold Sf
  rw[if_neg (fun e=>h.1 e.symm)]
  exact C9 l w (k+1) h.2
theorem kindL_rng:∀(l:List (List UInt8)) (w:List UInt8) (k:Nat),Sf l w k= -1∨((k:Int)≤Sf l w k∧Sf l w k<(k+l.length:Nat))
 | [],_,_=>.inl rfl
 |x::l,w,k=>by
  unfold Sf
  split
  ·right;simp only[List.length_cons];omega
  ·rcases kindL_rng l w (k+1)with h|h
   ·exact .inl h
   ·right;simp only[List.length_cons];omega
theorem Zfy(w:List UInt8):kindS w= -1∨(0≤kindS w∧kindS w≤32):=by
 have:=kindL_rng Hd w 0
 have e:Hd.length=33:=rfl
 unfold kindS
 rw[e]at this
 omega
theorem Kl(c:UInt8):∀s:List UInt8,(upToS c s).1.length≤s.length∧(upToS c s).2.1.length≤s.length∧((upToS c s).2.2=true→(upToS c s).2.1.length+1≤s.length)
 | []=>by simp[upToS]
 |b::r=>by
  have ih:=Kl c r
  rw[H8]
  split
  ·simp
  ·simp only[List.length_cons]
   omega
theorem Ud(s:List UInt8):(trimB s).length≤s.length:=by
 unfold trimB Lib.trimS Lib.trimLeftS Lib.trimRightS
 have h1:=(List.dropWhile_sublist (p:=fun b=>([32,9]:List UInt8).contains b) (l:=((s.reverse.dropWhile (fun b=>([32,9]:List UInt8).contains b)).reverse))).length_le
 have h2:=(List.dropWhile_sublist (p:=fun b=>([32,9]:List UInt8).contains b) (l:=s.reverse)).length_le
 simp only[List.length_reverse]at h1 h2
 exact Nat.le_trans h1 h2
def Gd(op:Int)(d s:Nat)(ps:List (List UInt8)):Except Int Ln:=match Q6 op ps with
 |.error e=>.error e
 |.ok (i,r,ps)=>if ps=[]then .ok ⟨[],⟨op,d,s,i⟩,r⟩else .error 5
def insS(op:Int)(d:Nat)(ps:List (List UInt8)):Except Int Ln:=match Oc (Qh op) ps with
 |.error e=>.error e
 |.ok (s,ps)=>Gd op d s ps
theorem Zd8(op:Int)(ps:List (List UInt8)):insV op ps=match Oc (Qg op) ps with
 |.error e=>.error e
 |.ok (d,ps)=>insS op d ps:=rfl
theorem Zap(ps:List (List UInt8)):Oc false ps= .ok (0,ps):=rfl
theorem Fk:Oc true []= .error 5:=rfl
theorem Fm{p:List UInt8}{n:Nat}(h:E7 p=some n)(ps:List (List UInt8)):Oc true (p::ps)= .ok (n,ps):=by
 simp[Oc,h]
theorem Fi{p:List UInt8}(h:E7 p=none)(ps:List (List UInt8)):Oc true (p::ps)= .error 2:=by
 simp[Oc,h]
theorem Zi4{op:Int}(h:Ue op=false)(ps:List (List UInt8)):Q6 op ps= .ok (0,[],ps):=by simp[Q6,h]
theorem Zg0{op:Int}(h:Ue op=true):Q6 op []= .error 5:=by simp[Q6,h]
theorem Zg1{op:Int}(h:Ue op=true){p:List UInt8}{n:Nat}(hn:Mk p 65535=some n)(ps:List (List UInt8)):Q6 op (p::ps)= .ok (n,[],ps):=by simp[Q6,h,hn]
theorem Zg2{op:Int}(h:Ue op=true){p:List UInt8}(hn:Mk p 65535=none)(hr:Xm p=true∧Uy op=true)(ps:List (List UInt8)):Q6 op (p::ps)= .ok (0,p,ps):=by simp[Q6,h,hn,hr.1,hr.2]
theorem Zgz{op:Int}(h:Ue op=true){p:List UInt8}(hn:Mk p 65535=none)(hr:¬(Xm p=true∧Uy op=true))(ps:List (List UInt8)):Q6 op (p::ps)= .error 2:=by
 simp only[Q6,h,hn,hr,if_false];rfl
theorem P0(c:UInt8):∀(s:List UInt8),∀p∈splitS c s,p.length≤s.length
 | [],p,h=>by
   simp only[splitS,List.mem_singleton]at h
   subst h;simp
 |b::r,p,h=>by
  have ih:=P0 c r
  rw[O5]at h
  split at h
  ·rcases List.mem_cons.1 h with rfl|h
   ·simp
   ·have:=ih p h
    simp only[List.length_cons];omega
  ·split at h
   ·simp only[List.mem_singleton]at h
    subst h;simp
   ·rename_i q qs hq
    rcases List.mem_cons.1 h with rfl|h
    ·have:=ih q (by rw[hq];exact List.mem_cons_self ..)
     simp only[List.length_cons];omega
    ·have:=ih p (by rw[hq];exact List.mem_cons_of_mem _ h)
     simp only[List.length_cons];omega
theorem Zb9(rest:List UInt8):(∀p∈R8 rest,p.length≤rest.length)∧(R8 rest).length≤rest.length+1:=by
 have ht:=Ud rest
 unfold R8
 split
 ·simp
 ·refine⟨fun p hp=> ?_,?_⟩
  ·obtain⟨q,hq,rfl⟩:=List.mem_map.1 hp
   have h1:=P0 44 _ q hq
   have h2:=Ud q
   omega
  ·have h1:=On 44 (trimB rest)
   have h2:=List.count_le_length (a:=(44:UInt8)) (l:=trimB rest)
   rw[List.length_map,h1];omega
def lineT(s:List UInt8):Ln×Bool×Int:=match Ny s with
 |.error e=>(ln0,false,e)
 |.ok none=>(ln0,false,0)
 |.ok (some x)=>(x,true,0)
end Go.Proofs.YtbmecnjmbhokgaaGreatDoor
namespace Go.Proofs.YtbmecnjmbhokgaaGreatDoor
open Go Go.RowKit Vc
set_option linter.unusedVariables false
set_option linter.unusedSimpArgs false
attribute [local irreducible] T Za Zn Ent RdC RwC Ye Zf Zh
theorem Zhj{s:List UInt8}{v:Nat}(h:Lib.decNat s=some v):Lib.atoi s=some (v:Int):=by
 obtain⟨hne,hd⟩:=Lib.decNat_some h
 cases s with
 |nil=>exact absurd rfl hne
 |cons b r=>
  obtain⟨d,hd0⟩:=Lib.digit_of_decFrom (b::r) 0 v hd 0 b rfl
  have hb:=Lib.digitVal_eq hd0
  have h45:(b==45)=false:=by rw[beq_eq_false_iff_ne];intro e;rw[e]at hb;simp at hb
  have h43:(b==43)=false:=by rw[beq_eq_false_iff_ne];intro e;rw[e]at hb;simp at hb
  unfold Lib.atoi
  simp only[h45,h43,Bool.false_eq_true,if_false,h,Option.map_some]
set_option maxHeartbeats 4000000 in
set_option maxRecDepth 100000 in
theorem Pr(G:Nat)(H:Nat→Option Obj){s:List UInt8}{v:Nat}(h:Hg s=some v)(most:Int):
 GCp G H Tryz.prog 113 [.a (.str s),.a (.int .i64 most)] [] 0 [] (.tup [.a (.int .i64 (v:Int)),.a (.bool (decide ((v:Int)≤most)))]) [] 0:=by
 have hlt:=numV_lt h
 unfold Hg at h
 split at h
 ·cases h
 rename_i hn
 simp only[not_or]at hn
 obtain⟨h1,h2,h3⟩:=hn
 have hne:decide (s=[])=false:=decide_eq_false h1
 have hT:=J9 G H s Iv (by omega) (by decide) (by decide)
 have ht:Lib.trimS s Iv=[]:=(Zds h1).2 ⟨v,h⟩
 rw[ht]at hT
 unfold Iv at hT
 have hA:=Zg5 G H s (v:Int) (by omega) (Zhj h)
 have h5:¬(5:Int)<s.length:=by omega
 refine Pa.fn.gcp (by simp) (by simp[Zu,Zw,Zv,Zj,Ze,Vc.S1.okN,At.okN,SV.okN,Res.okN,Res.outOk,Zo,Res.own,Value.oneCell']) fun w X fr hglob=> ?_
 by_cases h6:1<s.length
 ·have h7:(1:Int)<s.length:=by omega
  have h8:¬Wh s 0=48:=by
   intro e
   refine h3 ⟨h6,?_⟩
   unfold Wh at e
   have:(s.getD 0 0).toNat=48:=by omega
   exact UInt8.toNat_inj.1 this
  have h9:¬Wh s (0:Int).toNat=48:=h8
  repeat'(first|(first|refine Stp.h ?_|(refine Za.gcp hglob hT ?_ ?_;focus simp[Zb];done)|(refine Za.gcp hglob hA ?_ ?_;focus simp[Zb];done)|refine Zf.split ?_ ?_|refine Zh.no ?_)<;>try simp only[Zc,simprocAttr,↓reduceIte,reduceCtorEq,implies_true,hne,h5,h7,h8,h1,Int.ofNat_lt]|(with_reducible first|assumption|refine And.intro ?_ ?_)|(intro h;first|omega|exact tg h ‹_›|exact tg ‹_› h|skip))
  all_goals first|omega|(exfalso;exact h8 (by assumption))|(exfalso;simp_all;done)|skip
 ·have h7:¬(1:Int)<s.length:=by omega
  repeat'(first|(first|refine Stp.h ?_|(refine Za.gcp hglob hT ?_ ?_;focus simp[Zb];done)|(refine Za.gcp hglob hA ?_ ?_;focus simp[Zb];done)|refine Zf.split ?_ ?_|refine Zh.no ?_)<;>try simp only[Zc,simprocAttr,↓reduceIte,reduceCtorEq,implies_true,hne,h5,h7,h1,Int.ofNat_lt]|(with_reducible first|assumption|refine And.intro ?_ ?_)|(intro h;first|omega|exact tg h ‹_›|exact tg ‹_› h|skip))
  all_goals first|omega|skip
set_option maxHeartbeats 4000000 in
set_option maxRecDepth 100000 in
theorem Fc(G:Nat)(H:Nat→Option Obj){s:List UInt8}(h:Hg s=none)(most:Int)(hs:s.length≤9223372036854775807):
 GCp G H Tryz.prog 113 [.a (.str s),.a (.int .i64 most)] [] 0 [] (.tup [.a (.int .i64 0),.a (.bool false)]) [] 0:=by
 refine Pa.fn.gcp (by simp) (by simp[Zu,Zw,Zv,Zj,Ze,Vc.S1.okN,At.okN,SV.okN,Res.okN,Res.outOk,Zo,Res.own,Value.oneCell']) fun w X fr hglob=> ?_
 by_cases h1:s=[]
 ·have hne:decide (s=[])=true:=decide_eq_true h1
  repeat'(first|(first|refine Stp.h ?_|refine Zf.split ?_ ?_|refine Zh.no ?_)<;>try simp only[Zc,simprocAttr,↓reduceIte,reduceCtorEq,implies_true,hne,h1]|(with_reducible first|assumption|refine And.intro ?_ ?_)|(intro h;first|omega|exact tg h ‹_›|exact tg ‹_› h|skip))
  all_goals first|omega|(exfalso;simp_all;done)|skip
 have hne:decide (s=[])=false:=decide_eq_false h1
 by_cases h2:5<s.length
 ·have h5:(5:Int)<s.length:=by omega
  repeat'(first|(first|refine Stp.h ?_|refine Zf.split ?_ ?_|refine Zh.no ?_)<;>try simp only[Zc,simprocAttr,↓reduceIte,reduceCtorEq,implies_true,hne,h5,h1,Int.ofNat_lt]|(with_reducible first|assumption|refine And.intro ?_ ?_)|(intro h;first|omega|exact tg h ‹_›|exact tg ‹_› h|skip))
  all_goals first|omega|(exfalso;simp_all;done)|skip
 have h5:¬(5:Int)<s.length:=by omega
 have hT:=J9 G H s Iv hs (by decide) (by decide)
 have hda:=Zds h1
 generalize Lib.trimS s Iv=t at hT hda
 unfold Iv at hT
 by_cases ht:t=[]
 ·subst ht
  obtain⟨v,hv⟩:=hda.1 rfl
  have h3:1<s.length∧s.getD 0 0=48:=by
   unfold Hg at h
   split at h
   ·rename_i hn
    rcases hn with hn|hn|hn
    ·exact absurd hn h1
    ·exact absurd hn h2
    ·exact hn
   ·rw[hv]at h;cases h
  have h7:(1:Int)<s.length:=by omega
  have h8:Wh s 0=48:=by unfold Wh;rw[h3.2];rfl
  have h9:Wh s (0:Int).toNat=48:=h8
  repeat'(first|(first|refine Stp.h ?_|(refine Za.gcp hglob hT ?_ ?_;focus simp[Zb];done)|refine Zf.split ?_ ?_|refine Zh.no ?_)<;>try simp only[Zc,simprocAttr,↓reduceIte,reduceCtorEq,implies_true,hne,h5,h7,h9,h1,Int.ofNat_lt]|(with_reducible first|assumption|refine And.intro ?_ ?_)|(intro h;first|omega|exact tg h ‹_›|exact tg ‹_› h|skip))
  all_goals first|omega|(exfalso;simp_all;done)|skip
 ·have ht2:decide (t=[])=false:=decide_eq_false ht
  repeat'(first|(first|refine Stp.h ?_|(refine Za.gcp hglob hT ?_ ?_;focus simp[Zb];done)|refine Zf.split ?_ ?_|refine Zh.no ?_)<;>try simp only[Zc,simprocAttr,↓reduceIte,reduceCtorEq,implies_true,hne,h5,ht,ht2,h1,Int.ofNat_lt]|(with_reducible first|assumption|refine And.intro ?_ ?_)|(intro h;first|omega|exact tg h ‹_›|exact tg ‹_› h|skip))
  all_goals first|omega|(exfalso;simp_all;done)|skip
theorem Pv(t:List UInt8):Lib.hasPrefix (114::t) [114]=true∧Lib.trimPrefix (114::t) [114]=t:=by
 have h:Lib.hasPrefix (114::t) [114]=true:=by simp[Lib.hasPrefix]
 exact⟨h,by simp[Lib.trimPrefix,h]⟩
theorem Zgf{s:List UInt8}(h:∀t,s≠114::t):Lib.hasPrefix s [114]=false:=by
 cases s with
 |nil=>rfl
 |cons b t=>
  have:b≠114:=fun e=>h t (by rw[e])
  simp only[Lib.hasPrefix,List.isPrefixOf,Bool.and_eq_false_iff,beq_eq_false_iff_ne]
  exact .inl fun e=>this e.symm
set_option maxHeartbeats 4000000 in
set_option maxRecDepth 100000 in
theorem Lf(G:Nat)(H:Nat→Option Obj){s:List UInt8}{n:Nat}(h:E7 s=some n):
 GCp G H Tryz.prog 112 [.a (.str s)] [] 0 [] (.tup [.a (.int .i64 (n:Int)),.a (.bool true)]) [] 0:=by
 obtain⟨t,rfl,hn⟩:∃t,s=114::t∧Mk t 7=some n:=by
  cases s with
  |nil=>cases h
  |cons b t=>
   have e:E7 (b::t)=if b=114 then Mk t 7 else none:=rfl
   rw[e]at h
   by_cases hb:b=114
   ·rw[if_pos hb]at h;exact⟨t,by rw[hb],h⟩
   ·rw[if_neg hb]at h;cases h
 obtain⟨hv,h7⟩:Hg t=some n∧n≤7:=by
  unfold Mk at hn
  split at hn
  ·rename_i v hv
   split at hn
   ·cases hn;exact⟨hv,by assumption⟩
   ·cases hn
  ·cases hn
 have hP:=Qa G H (114::t) [114]
 rw[(Pv t).1,(Pv t).2]at hP
 have hN:=Pr G H hv 7
 rw[decide_eq_true (by omega)]at hN
 refine W7.fn.gcp (by simp) (by simp[Zu,Zw,Zv,Zj,Ze,Vc.S1.okN,At.okN,SV.okN,Res.okN,Res.outOk,Zo,Res.own,Value.oneCell']) fun w X fr hglob=> ?_
 repeat'(first|(first|refine Stp.h ?_|(refine Za.gcp hglob hP ?_ ?_;focus simp[Zb];done)|(refine Za.gcp hglob hN ?_ ?_;focus simp[Zb];done))<;>try simp only[Zc,simprocAttr,↓reduceIte,reduceCtorEq,implies_true]|(with_reducible first|assumption|refine And.intro ?_ ?_)|(intro h;first|omega|exact tg h ‹_›|exact tg ‹_› h|skip))
 all_goals first|omega|skip
set_option maxHeartbeats 4000000 in
set_option maxRecDepth 100000 in
theorem K2(G:Nat)(H:Nat→Option Obj){s:List UInt8}(h:E7 s=none)(hs:s.length≤9223372036854775807):
 ∃m:Int,GCp G H Tryz.prog 112 [.a (.str s)] [] 0 [] (.tup [.a (.int .i64 m),.a (.bool false)]) [] 0:=by
 by_cases hp:∃t,s=114::t
 ·obtain⟨t,rfl⟩:=hp
  have hP:=Qa G H (114::t) [114]
  rw[(Pv t).1,(Pv t).2]at hP
  simp only[E7,if_true,Mk]at h
  cases hv:Hg t with
  |none=>
   have hN:=Fc G H hv 7 (by simp only[List.length_cons]at hs;omega)
   refine⟨0,W7.fn.gcp (by simp) (by simp[Zu,Zw,Zv,Zj,Ze,Vc.S1.okN,At.okN,SV.okN,Res.okN,Res.outOk,Zo,Res.own,Value.oneCell']) fun w X fr hglob=> ?_⟩
   repeat'(first|(first|refine Stp.h ?_|(refine Za.gcp hglob hP ?_ ?_;focus simp[Zb];done)|(refine Za.gcp hglob hN ?_ ?_;focus simp[Zb];done))<;>try simp only[Zc,simprocAttr,↓reduceIte,reduceCtorEq,implies_true]|(with_reducible first|assumption|refine And.intro ?_ ?_)|(intro h;first|omega|exact tg h ‹_›|exact tg ‹_› h|skip))
   all_goals first|omega|skip
  |some v=>
   rw[hv]at h
   have h7:¬v≤7:=by
    intro e
    simp[e]at h
   have hN:=Pr G H hv 7
   rw[decide_eq_false (by omega)]at hN
   refine⟨v,W7.fn.gcp (by simp) (by simp[Zu,Zw,Zv,Zj,Ze,Vc.S1.okN,At.okN,SV.okN,Res.okN,Res.outOk,Zo,Res.own,Value.oneCell']) fun w X fr hglob=> ?_⟩
   repeat'(first|(first|refine Stp.h ?_|(refine Za.gcp hglob hP ?_ ?_;focus simp[Zb];done)|(refine Za.gcp hglob hN ?_ ?_;focus simp[Zb];done))<;>try simp only[Zc,simprocAttr,↓reduceIte,reduceCtorEq,implies_true]|(with_reducible first|assumption|refine And.intro ?_ ?_)|(intro h;first|omega|exact tg h ‹_›|exact tg ‹_› h|skip))
   all_goals first|omega|skip
 ·have hP:=Qa G H s [114]
  rw[Zgf (fun t e=>hp ⟨t,e⟩)]at hP
  generalize Lib.trimPrefix s [114]=t at hP
  refine⟨0,W7.fn.gcp (by simp) (by simp[Zu,Zw,Zv,Zj,Ze,Vc.S1.okN,At.okN,SV.okN,Res.okN,Res.outOk,Zo,Res.own,Value.oneCell']) fun w X fr hglob=> ?_⟩
  repeat'(first|(first|refine Stp.h ?_|(refine Za.gcp hglob hP ?_ ?_;focus simp[Zb];done))<;>try simp only[Zc,simprocAttr,↓reduceIte,reduceCtorEq,implies_true]|(with_reducible first|assumption|refine And.intro ?_ ?_)|(intro h;first|omega|exact tg h ‹_›|exact tg ‹_› h|skip))
  all_goals first|omega|skip
def blk(b:UInt8):Prop:=b=32∨b=9
end Go.Proofs.YtbmecnjmbhokgaaGreatDoor
namespace Go.Proofs.YtbmecnjmbhokgaaGreatDoor
open Go Go.RowKit Vc
set_option linter.unusedVariables false
set_option linter.unusedSimpArgs false
attribute [local irreducible] T Za Zn RdC RwC Ye Zf Zh
theorem Ent.view{c:Cx}{S:St}{t m:Nat}(sz m0 lo hi:Nat){g:Prop}(ht:S.get t=some (.one (.a (.ref m))))(h:H0 S sz m=some (g,m0,lo,hi))(hg:g):
 Ent c S ⟨(t,.one (.a (.ref S.nx)))::S.slots,(S.nx,.view m0 sz lo hi)::S.res,S.nx+1⟩:=fun ρ a w hh=>by
 obtain⟨ad,len,cap,ad',g1,g2,g3,g4,g5,g6,g8,g9⟩:=H1 hh h hg
 refine⟨Ya ρ S.nx (ρ m),hh.nodef,hh.sz,hh.lown,fun u v hu=> ?_,fun u v hu=> ?_,?_⟩
 ·rcases look_cons hu with⟨rfl,rfl⟩|⟨hne,hu'⟩
  ·rw[hh.slot _ _ ht];simp only[SV.den,S1.den,At.den,Zm]
  ·rw[SV.den_same (Zi ρ S.nx _) (hh.bds u v hu')];exact hh.slot u v hu'
 ·rcases look_cons hu with⟨rfl,rfl⟩|⟨hne,hu'⟩
  ·exact Nat.lt_succ_self _
  ·exact SV.bd_mono (Nat.le_succ _) (hh.bds u v hu')
 ·refine hh.mem.named (hh.mem.one m) (show m0<S.nx+1 by omega) rfl fun O' _=> ?_
  exact⟨ad,len,cap,ad',by rw[Zi ρ S.nx _ m0 g5];exact g1,by rw[Zm];exact g2,by omega,g9,g6⟩
attribute [local irreducible] Ent
set_option maxHeartbeats 2000000 in
theorem J6(l:List (List UInt8))(v:List UInt8)(hlen:l.length≤9223372036854775807):
 RdC Tryz.prog 101 [.ro .str l,.v (.a (.str v))] (.one (.a (.int .i64 (Sf l v 0)))):=by
 refine Wq.fn.rd (by simp) (by simp[Zz]) (by simp[Zz]) fun w=> ?_
 repeat'(first|(first|refine Stp.h ?_)<;>try simp only[Zc,simprocAttr,↓reduceIte,reduceCtorEq,implies_true]|(with_reducible first|assumption|refine And.intro ?_ ?_)|(intro h;first|omega|exact tg h ‹_›|exact tg ‹_› h|skip))
 refine T.loop (ι:= {k:Nat//k≤l.length∧Sf (l.drop k) v k=Sf l v 0})
  (fun x=>⟨[(8,.one (.a (.int .i64 (x.1:Int)))),(7,.one (.a (.int .i64 l.length))),(1,.one (.a (.str v))),(0,.one (.a (.ref 0)))],[(0,.ro .str l)],1⟩)
  (fun x=>l.length-x.1) ⟨0,by simp,by simp⟩ (Ent.mk1 (id) (by simp[Zx])) ?_
 rintro⟨k,hk,hrun⟩
 by_cases hlt:k<l.length
 ·have hdrop:l.drop k=l.getD k []::l.drop (k+1):=by
   rw[List.drop_eq_getElem_cons hlt];simp[List.getD,hlt]
  generalize hx:l.getD k []=x at hdrop
  have hx':l.getD k (Kd.dflt .str)=x:=hx
  rw[hdrop]at hrun
  simp only[Sf]at hrun
  have hw:IntKind.i64.wrap ((k:Int)+1)=((k+1:Nat):Int):=Zy (by omega)
  have ht:((k:Int)).toNat=k:=by omega
  by_cases hp:x=v
  ·rw[if_pos hp]at hrun
   have hpd:decide (v=x)=true:=decide_eq_true hp.symm
   repeat'(first|(first|refine Stp.h ?_)<;>try simp only[Zc,simprocAttr,↓reduceIte,reduceCtorEq,implies_true,hx',hw,ht,hpd,Int.ofNat_lt]|(with_reducible first|assumption|refine And.intro ?_ ?_)|(intro h;first|omega|exact tg h ‹_›|exact tg ‹_› h|skip))
   all_goals first|omega|(rw[←hrun];done)|skip
  ·rw[if_neg hp]at hrun
   have hpd:decide (v=x)=false:=decide_eq_false fun e=>hp e.symm
   repeat'(first|(first|refine Stp.h ?_)<;>try simp only[Zc,simprocAttr,↓reduceIte,reduceCtorEq,implies_true,hx',hw,ht,hpd,Int.ofNat_lt]|(with_reducible first|assumption|refine And.intro ?_ ?_)|(intro h;first|omega|exact tg h ‹_›|exact tg ‹_› h|skip))
   all_goals first|omega|exact⟨⟨k+1,hlt,hrun⟩,(Ent.mk1 (id) (by simp[Zx,hw])),by simp only;omega⟩|skip
 ·have hk2:k=l.length:=by omega
  subst hk2
  rw[List.drop_length]at hrun
  simp only[Sf]at hrun
  repeat'(first|(first|refine Stp.h ?_)<;>try simp only[Zc,simprocAttr,↓reduceIte,reduceCtorEq,implies_true,Int.ofNat_lt]|(with_reducible first|assumption|refine And.intro ?_ ?_)|(intro h;first|omega|exact tg h ‹_›|exact tg ‹_› h|skip))
  all_goals first|omega|(rw[←hrun];done)|skip
end Go.Proofs.YtbmecnjmbhokgaaGreatDoor
namespace Go.Proofs.YtbmecnjmbhokgaaGreatDoor
open Vc
namespace Wc
abbrev r0:List In:=[i1 4 (.mv (kB false))]
abbrev r1:List In:=[mv 5 0, mv 6 1, i1 7 (.call 101 [.t 5,.t 6]), i1 8 (.bin .geq (.t 7) (kI 0)), mv 4 8]
abbrev code:IC:=.seq (.reg r0) (.seq (.reg r1) .ret)
abbrev res:List RV:=[.tmp 4]
theorem fn:Body Tryz.prog 75 9 code res:=⟨by decide,Tryz.f75,_,Tryz.func75,rfl,rfl,by kernel_rfl,by kernel_rfl⟩
end Wc
end Go.Proofs.YtbmecnjmbhokgaaGreatDoor
namespace Go.Proofs.YtbmecnjmbhokgaaGreatDoor
open Go Go.RowKit Vc
set_option linter.unusedVariables false
set_option linter.unusedSimpArgs false
attribute [local irreducible] T Za Zn Ent RdC RwC Ye Zf Zh
set_option maxHeartbeats 1000000 in
set_option maxRecDepth 100000 in
theorem K6(b g cap:Nat)(p q:Value)(l:List UInt8)(w:World)(hbk:w.heap[b]? =some (.cells #[p,.slice (some ⟨g,0,none⟩) l.length cap,q] 131 (0,0)))
 (hown:w.ownsRow 0 5 1 (.slice (some ⟨g,0,none⟩) l.length cap) l.length (Lib.byteCells l))(h0:l≠[]):
 Calls Tryz.prog 77 #[.pointer (some ⟨b,0,none⟩)] w fun e w'=>e= .returned (.string ⟨l.toArray⟩)∧w'=w.drew.freeze ⟨g,0,none⟩ l.length:=by
 have hl0:l.length≠0:=by simpa using h0
 obtain⟨cur,hg,hnc,hcm,hcs,htake⟩:∃cur,w.heap[g]? =some (.cells cur 5 (0,0))∧l.length≤cap∧cap≤maxLen∧cur.size=cap*1∧cur.toList.take (l.length*1)=Lib.byteCells l:=by
  rcases hown.2 with⟨hv,hz⟩|⟨g',cap',cur,hv,_,r⟩
  ·exact absurd hz hl0
  ·cases hv;exact⟨cur,r⟩
 have c1:w.drew.cell? ⟨b,1,none⟩=some (.slice (some ⟨g,0,none⟩) l.length cap):=by
  have:w.drew.heap[b]? =some (.cells #[p,.slice (some ⟨g,0,none⟩) l.length cap,q] 131 (0,0)):=hbk
  rw[Lib.cell_of_heap this];rfl
 have hSD:(Builtin.unsafeSliceData_ #[45] 165 #[.slice (some ⟨g,0,none⟩) l.length cap]).run Tryz.prog w.drew= .ok (.pointer (some ⟨g,0,none⟩)) w.drew:=
  Lib.run_unsafeSliceData_row _ _ _ _ _ _ (by omega)
 have hUS:(Builtin.unsafeString_ #[165,3] 9 #[.pointer (some ⟨g,0,none⟩),.int .i64 l.length]).run Tryz.prog w.drew= .ok (.string ⟨l.toArray⟩) (w.drew.freeze ⟨g,0,none⟩ l.length):=by
  refine Lib.run_unsafeString_row w.drew 165 3 9 5 Tryz.underlying165 (by kernel_rfl) g cur.size (by have hg':w.drew.heap[g]? =some (.cells cur 5 (0,0)):=hg;simp[World.shape?,hg']) l h0 (by omega) (by unfold maxLen at hcm;omega) ?_
  intro j x hx
  have:=hown.cells (g:=g) rfl j (.int .u8 x.toNat) (by simp[Lib.byteCells,hx])
  exact this
 go_enter Tryz.func77,Tryz.ntmps77
 go_wp2
 go_region
 all_goals(go_wp2;go_ret;exact⟨rfl,rfl⟩)
theorem Zg6(n:Int)(l:List UInt8)(hne:l≠[]):
 GC Tryz.prog 77 [.a (.loc 0 0)] [(0,.cells 131 [.loc 0 0,.ref 1,.int .i64 n]),(1,.row 5 (.int .u8) (bytesI l))] 2 [] (.one (.a (.str l))) [] 2:=by
 refine⟨(by simp[Zu,Zw,Zv,Zj,Ze,Vc.S1.okN,At.okN,SV.okN,Res.okN,Res.outOk,Zo,Res.own,Value.oneCell']),fun ρ w hm=> ?_⟩
 obtain⟨b,hb,hcell⟩:=hm.res 0 _ (List.mem_cons_self ..)
 have hown:=hm.res 1 _ (List.mem_cons_of_mem _ (List.mem_cons_self ..))
 simp only[Res.holds]at hown
 have h1:S1.den ρ (.a (.loc 0 0))= .pointer (some ⟨b,0,none⟩):=by simp[S1.den,At.den,Wo,hb]
 simp only[List.map_cons,List.map_nil,h1]
 have hbl:(bytesI l).length=l.length:=by simp[bytesI]
 rw[hbl,Pn]at hown
 have hsz:Kd.sz (.int .u8)=1:=rfl
 rw[hsz]at hown
 have hcl:w.heap[b]? =some (.cells #[Wo (ρ 0) 0,ρ 1,.int .i64 n] 131 (0,0)):=hcell
 have hnone:∀w':World,w'.os=w.os→w'.tape=w.tape→w'.output=w.output→w.heap.size≤w'.heap.size→(∀k,k<w.heap.size→k∉Zp ρ [(0,Res.cells 131 [.loc 0 0,.ref 1,.int .i64 n]),(1,.row 5 (.int .u8) (bytesI l))]→w'.heap[k]? =w.heap[k]?)→Mem ⟨Tryz.prog,w,Zp ρ [(0,Res.cells 131 [.loc 0 0,.ref 1,.int .i64 n]),(1,.row 5 (.int .u8) (bytesI l))],0,[]⟩ ρ [] 2 w':=
  fun w' a1 a2 a3 a4 a5=>⟨a1,a2,a3,a4,a5,hm.one,by simp,by simp,by simp,by simp[Zp],by simp[Zp]⟩
 cases l with
 |nil=>exact absurd rfl hne
 |cons x l=>
  have hown2:=hown
  rcases hown.2 with⟨_,hz⟩|⟨g,cap,cur,hv,r⟩
  ·simp at hz
  rw[hv]at hcl hown2
  refine(K6 b g cap _ _ (x::l) w hcl hown2 (by simp)).mono fun e w' ⟨he,hw⟩=>⟨ρ,by simp,he,?_⟩
  subst hw
  obtain⟨f1,f2,f3⟩:=C4 w.drew g (x::l).length
  refine hnone _ f1 f2 f3 (by rw[C5];exact Nat.le_refl _) fun k hk hko=> ?_
  rw[C2 k (fun e=>hko ?_)]
  ·rfl
  ·subst e
   simp[Zp,Res.block,hb,hv,Value.ownBlock]
set_option maxHeartbeats 4000000 in
theorem Zgh(n:Int)(x:List UInt8)(hx:x.length≤1000)(hsf:Lib.hasSuffix x [58]=true):
 GC Tryz.prog 76 [.a (.loc 0 0),.a (.ref 1)] [(0,.cells 131 [.raw (.pointer none),.raw (.slice none 0 0),.int .i64 n]),(1,.ro .str [x])] 2 [0] (.tup []) [(0,.cells 131 [.loc 0 0,.ref 2,.int .i64 n]),(2,.row 5 (.int .u8) (bytesI (x++[10])))] 3:=by
 have hS:=Mw x [58] (by omega)
 rw[hsf]at hS
 have hW:=N5 n (x++[10]) (by simp only[List.length_append,List.length_cons,List.length_nil];omega)
 refine T3.fn.gc (by simp) (by simp[Zu,Zw,Zv,Zj,Ze,Vc.S1.okN,At.okN,SV.okN,Res.okN,Res.outOk,Zo,Res.own,Value.oneCell']) fun w X fr=> ?_
 repeat'(first|(first|refine Stp.h ?_)<;>try simp only[Zc,simprocAttr,↓reduceIte,reduceCtorEq,implies_true]|(with_reducible first|assumption|refine And.intro ?_ ?_)|(intro h;first|omega|exact tg h ‹_›|exact tg ‹_› h|skip))
 all_goals first|omega|skip
 refine T.loop (ι:=Bool)
  (fun b=>match b with
    |false=>⟨[(8,.one (.a (.int .i64 0))),(7,.one (.a (.int .i64 1))),(6,.one (.a (.ref 1))),(0,.one (.a (.loc 0 0))),(1000000,.one (.a (.ref 0)))],
      [(0,.cells 131 [.raw (.pointer none),.raw (.slice none 0 0),.int .i64 n]),(1,.ro .str [x])],2⟩
    |true=>⟨[(8,.one (.a (.int .i64 1))),(7,.one (.a (.int .i64 1))),(6,.one (.a (.ref 1))),(0,.one (.a (.loc 0 0))),(1000000,.one (.a (.ref 0)))],
      [(0,.cells 131 [.loc 0 0,.ref 2,.int .i64 n]),(2,.row 5 (.int .u8) (bytesI (x++[10]))),(1,.ro .str [x])],3⟩) (fun b=>if b=true then 0 else 1) false (Ent.mk1 (id) (by simp[Zx])) ?_
 rintro(_|_)
 ·have hw:IntKind.i64.wrap (0+1)=1:=by decide
  have hx':[x].getD 0 (Kd.dflt .str)=x:=rfl
  repeat'(first|(first|refine Stp.h ?_|(refine Za.gc hS ?_ ?_;focus simp[Zb];done)|(refine Za.gc hW ?_ ?_;focus simp[Zb];done))<;>try simp only[Zc,simprocAttr,↓reduceIte,reduceCtorEq,implies_true,hx',hw,Int.toNat_zero,List.length_cons,List.length_nil]|(with_reducible first|assumption|refine And.intro ?_ ?_)|(intro h;first|omega|exact tg h ‹_›|exact tg ‹_› h|skip))
  all_goals first|omega|skip
  exact⟨true,(Ent.mk1 (id) (by simp[Zx,hw])),by decide⟩
 ·repeat'(first|(first|refine Stp.h ?_)<;>try simp only[Zc,simprocAttr,↓reduceIte,reduceCtorEq,implies_true,List.length_cons,List.length_nil]|(with_reducible first|assumption|refine And.intro ?_ ?_)|(intro h;first|omega|exact tg h ‹_›|exact tg ‹_› h|skip))
  all_goals first|omega|skip
theorem Zh5(l:List (List UInt8))(v:List UInt8):decide (0≤Sf l v 0)=decide (v∈l):=by
 by_cases h:v∈l
 ·have:∀(l:List (List UInt8)) (k:Nat),v∈l→0≤Sf l v k:=by
   intro l
   induction l with
   |nil=>intro k h;cases h
   |cons x l ih=>
    intro k h
    unfold Sf
    by_cases e:x=v
    ·rw[if_pos e];omega
    ·rw[if_neg e]
     rcases List.mem_cons.1 h with h|h
     ·exact absurd h.symm e
     ·exact ih _ h
  rw[decide_eq_true (this l 0 h),decide_eq_true h]
 ·rw[C9 l v 0 h,decide_eq_false h];rfl
theorem Zfb(l:List (List UInt8))(v:List UInt8)(hlen:l.length≤9223372036854775807):
 RdC Tryz.prog 75 [.ro .str l,.v (.a (.str v))] (.one (.a (.bool (decide (v∈l))))):=by
 refine Wc.fn.rd (by simp) (by simp[Zz]) (by simp[Zz]) fun w=> ?_
 have h1:=Zh5 l v
 repeat'(first|(first|refine Stp.h ?_|(refine rq (J6 l v hlen) ?_ ?_;focus simp[Zz];done))<;>try simp only[Zc,simprocAttr,↓reduceIte,reduceCtorEq,implies_true,h1]|(with_reducible first|assumption|refine And.intro ?_ ?_)|(intro h;first|omega|exact tg h ‹_›|exact tg ‹_› h|skip))
theorem Zbn{G:Nat}{H:Nat→Option Obj}(hM:Yn G H)(hH:Z4 G H)(n:Nat)(hn:1≤n∧n≤100)(acc:List UInt8)(hb:acc.length+(Iw n).length≤100000):
 GCp G H Tryz.prog 89 [.a (.loc 0 0)] [(0,.cells 131 [.loc 0 0,.ref 1,.int .i64 (n:Int)]),(1,.row 5 (.int .u8) (bytesI (acc)))] 2 [0] (.tup []) [(0,.cells 131 [.loc 0 0,.ref 2,.int .i64 (n:Int)]),(2,.row 5 (.int .u8) (bytesI (acc++Iw n)))] 3:=by
 have hC:=Zht hM hH n hn acc hb
 generalize acc++Iw n=z at*
 refine Pc.fn.gcp (by simp) (by simp[Zu,Zw,Zv,Zj,Ze,Vc.S1.okN,At.okN,SV.okN,Res.okN,Res.outOk,Zo,Res.own,Value.oneCell']) fun w X fr hglob=> ?_
 repeat'(first|(first|refine Stp.h ?_|(refine Za.gcp hglob hC ?_ ?_;focus simp[Zb];done))<;>try simp only[Zc,simprocAttr,↓reduceIte,reduceCtorEq,implies_true]|(with_reducible first|assumption|refine And.intro ?_ ?_)|(intro h;first|omega|exact tg h ‹_›|exact tg ‹_› h|skip))
 all_goals first|omega|skip
theorem Zbo{G:Nat}{H:Nat→Option Obj}(hM:Yn G H)(hH:Z4 G H)(n:Nat)(hn:1≤n∧n≤100)(acc:List UInt8)(hb:acc.length+(Ix n).length≤100000):
 GCp G H Tryz.prog 91 [.a (.loc 0 0)] [(0,.cells 131 [.loc 0 0,.ref 1,.int .i64 (n:Int)]),(1,.row 5 (.int .u8) (bytesI (acc)))] 2 [0] (.tup []) [(0,.cells 131 [.loc 0 0,.ref 2,.int .i64 (n:Int)]),(2,.row 5 (.int .u8) (bytesI (acc++Ix n)))] 3:=by
 have hC:=Zhu hM hH n hn acc hb
 generalize acc++Ix n=z at*
 refine Pd.fn.gcp (by simp) (by simp[Zu,Zw,Zv,Zj,Ze,Vc.S1.okN,At.okN,SV.okN,Res.okN,Res.outOk,Zo,Res.own,Value.oneCell']) fun w X fr hglob=> ?_
 repeat'(first|(first|refine Stp.h ?_|(refine Za.gcp hglob hC ?_ ?_;focus simp[Zb];done))<;>try simp only[Zc,simprocAttr,↓reduceIte,reduceCtorEq,implies_true]|(with_reducible first|assumption|refine And.intro ?_ ?_)|(intro h;first|omega|exact tg h ‹_›|exact tg ‹_› h|skip))
 all_goals first|omega|skip
theorem Zbp{G:Nat}{H:Nat→Option Obj}(hM:Yn G H)(hH:Z4 G H)(n:Nat)(hn:1≤n∧n≤100)(acc:List UInt8)(hb:acc.length+(Rr n).length≤100000):
 GCp G H Tryz.prog 92 [.a (.loc 0 0)] [(0,.cells 131 [.loc 0 0,.ref 1,.int .i64 (n:Int)]),(1,.row 5 (.int .u8) (bytesI (acc)))] 2 [0] (.tup []) [(0,.cells 131 [.loc 0 0,.ref 2,.int .i64 (n:Int)]),(2,.row 5 (.int .u8) (bytesI (acc++Rr n)))] 3:=by
 have hC:=Zaj hM hH n hn acc hb
 generalize acc++Rr n=z at*
 refine Pe.fn.gcp (by simp) (by simp[Zu,Zw,Zv,Zj,Ze,Vc.S1.okN,At.okN,SV.okN,Res.okN,Res.outOk,Zo,Res.own,Value.oneCell']) fun w X fr hglob=> ?_
 repeat'(first|(first|refine Stp.h ?_|(refine Za.gcp hglob hC ?_ ?_;focus simp[Zb];done))<;>try simp only[Zc,simprocAttr,↓reduceIte,reduceCtorEq,implies_true]|(with_reducible first|assumption|refine And.intro ?_ ?_)|(intro h;first|omega|exact tg h ‹_›|exact tg ‹_› h|skip))
 all_goals first|omega|skip
theorem Zbq{G:Nat}{H:Nat→Option Obj}(hM:Yn G H)(hH:Z4 G H)(n:Nat)(hn:1≤n∧n≤100)(acc:List UInt8)(hb:acc.length+(Rt n).length≤100000):
 GCp G H Tryz.prog 94 [.a (.loc 0 0)] [(0,.cells 131 [.loc 0 0,.ref 1,.int .i64 (n:Int)]),(1,.row 5 (.int .u8) (bytesI (acc)))] 2 [0] (.tup []) [(0,.cells 131 [.loc 0 0,.ref 2,.int .i64 (n:Int)]),(2,.row 5 (.int .u8) (bytesI (acc++Rt n)))] 3:=by
 have hC:=Zak hM hH n hn acc hb
 generalize acc++Rt n=z at*
 refine Pg.fn.gcp (by simp) (by simp[Zu,Zw,Zv,Zj,Ze,Vc.S1.okN,At.okN,SV.okN,Res.okN,Res.outOk,Zo,Res.own,Value.oneCell']) fun w X fr hglob=> ?_
 repeat'(first|(first|refine Stp.h ?_|(refine Za.gcp hglob hC ?_ ?_;focus simp[Zb];done))<;>try simp only[Zc,simprocAttr,↓reduceIte,reduceCtorEq,implies_true]|(with_reducible first|assumption|refine And.intro ?_ ?_)|(intro h;first|omega|exact tg h ‹_›|exact tg ‹_› h|skip))
 all_goals first|omega|skip
theorem Zbr{G:Nat}{H:Nat→Option Obj}(hM:Yn G H)(hH:Z4 G H)(n:Nat)(hn:1≤n∧n≤100)(acc:List UInt8)(hb:acc.length+(Zc2 n).length≤100000):
 GCp G H Tryz.prog 95 [.a (.loc 0 0)] [(0,.cells 131 [.loc 0 0,.ref 1,.int .i64 (n:Int)]),(1,.row 5 (.int .u8) (bytesI (acc)))] 2 [0] (.tup []) [(0,.cells 131 [.loc 0 0,.ref 2,.int .i64 (n:Int)]),(2,.row 5 (.int .u8) (bytesI (acc++Zc2 n)))] 3:=by
 have hC:=shl_gcp hM hH n hn acc hb
 generalize acc++Zc2 n=z at*
 refine Ph.fn.gcp (by simp) (by simp[Zu,Zw,Zv,Zj,Ze,Vc.S1.okN,At.okN,SV.okN,Res.okN,Res.outOk,Zo,Res.own,Value.oneCell']) fun w X fr hglob=> ?_
 repeat'(first|(first|refine Stp.h ?_|(refine Za.gcp hglob hC ?_ ?_;focus simp[Zb];done))<;>try simp only[Zc,simprocAttr,↓reduceIte,reduceCtorEq,implies_true]|(with_reducible first|assumption|refine And.intro ?_ ?_)|(intro h;first|omega|exact tg h ‹_›|exact tg ‹_› h|skip))
 all_goals first|omega|skip
theorem Zbs{G:Nat}{H:Nat→Option Obj}(hM:Yn G H)(hH:Z4 G H)(n:Nat)(hn:1≤n∧n≤100)(acc:List UInt8)(hb:acc.length+(Zc3 n).length≤100000):
 GCp G H Tryz.prog 97 [.a (.loc 0 0)] [(0,.cells 131 [.loc 0 0,.ref 1,.int .i64 (n:Int)]),(1,.row 5 (.int .u8) (bytesI (acc)))] 2 [0] (.tup []) [(0,.cells 131 [.loc 0 0,.ref 2,.int .i64 (n:Int)]),(2,.row 5 (.int .u8) (bytesI (acc++Zc3 n)))] 3:=by
 have hC:=shr_gcp hM hH n hn acc hb
 generalize acc++Zc3 n=z at*
 refine Pi.fn.gcp (by simp) (by simp[Zu,Zw,Zv,Zj,Ze,Vc.S1.okN,At.okN,SV.okN,Res.okN,Res.outOk,Zo,Res.own,Value.oneCell']) fun w X fr hglob=> ?_
 repeat'(first|(first|refine Stp.h ?_|(refine Za.gcp hglob hC ?_ ?_;focus simp[Zb];done))<;>try simp only[Zc,simprocAttr,↓reduceIte,reduceCtorEq,implies_true]|(with_reducible first|assumption|refine And.intro ?_ ?_)|(intro h;first|omega|exact tg h ‹_›|exact tg ‹_› h|skip))
 all_goals first|omega|skip
theorem Zbt{G:Nat}{H:Nat→Option Obj}(hM:Yn G H)(hH:Z4 G H)(n:Nat)(hn:1≤n∧n≤100)(acc:List UInt8)(hb:acc.length+(Zcx n).length≤100000):
 GCp G H Tryz.prog 98 [.a (.loc 0 0)] [(0,.cells 131 [.loc 0 0,.ref 1,.int .i64 (n:Int)]),(1,.row 5 (.int .u8) (bytesI (acc)))] 2 [0] (.tup []) [(0,.cells 131 [.loc 0 0,.ref 2,.int .i64 (n:Int)]),(2,.row 5 (.int .u8) (bytesI (acc++Zcx n)))] 3:=by
 have hC:=sar_gcp hM hH n hn acc hb
 generalize acc++Zcx n=z at*
 refine Pj.fn.gcp (by simp) (by simp[Zu,Zw,Zv,Zj,Ze,Vc.S1.okN,At.okN,SV.okN,Res.okN,Res.outOk,Zo,Res.own,Value.oneCell']) fun w X fr hglob=> ?_
 repeat'(first|(first|refine Stp.h ?_|(refine Za.gcp hglob hC ?_ ?_;focus simp[Zb];done))<;>try simp only[Zc,simprocAttr,↓reduceIte,reduceCtorEq,implies_true]|(with_reducible first|assumption|refine And.intro ?_ ?_)|(intro h;first|omega|exact tg h ‹_›|exact tg ‹_› h|skip))
 all_goals first|omega|skip
set_option maxHeartbeats 4000000 in
set_option maxRecDepth 100000 in
theorem Zhd{G:Nat}{H:Nat→Option Obj}(s:List UInt8)(f:Nat)(d:UInt8)(n:Nat)(nm hd body:List UInt8)(hnm:nm=s++[d])(hhd:hd=nm++[58]++[10])(hf:flk Ou s=some f)(hd1:IntKind.u8.wrap (((d.toNat:Nat):Int)-48)=(n:Int))(hn:n≤100)(hs:s.length≤10)(hin:nm∈V4)
 (hent:Xt Tryz.prog f=true)(hC:GCp G H Tryz.prog f [.a (.loc 0 0)] [(0,.cells 131 [.loc 0 0,.ref 1,.int .i64 (n:Int)]),(1,.row 5 (.int .u8) (bytesI (hd)))] 2 [0] (.tup []) [(0,.cells 131 [.loc 0 0,.ref 2,.int .i64 (n:Int)]),(2,.row 5 (.int .u8) (bytesI (hd++body)))] 3):
 GCp G H Tryz.prog 59 [.a (.str nm)] [] 0 [] (.tup [.a (.str (hd++body)),.a (.int .i64 0)]) [] 0:=by
 have hlen:nm.length=s.length+1:=by rw[hnm];simp
 have hCon:=Zfb V4 nm (by decide)
 rw[decide_eq_true hin]at hCon
 have hput:=Zgh (n:Int) (nm++[58]) (by simp only[List.length_append,List.length_cons,List.length_nil];omega) (by rw[hnm];simp[Lib.hasSuffix,List.isSuffixOf,List.isPrefixOf])
 rw[←hhd]at hput
 have hstr:=Zg6 (n:Int) (hd++body) (by rw[hhd];simp)
 have hk:IntKind.i64.wrap ((nm.length:Int)-1)=(s.length:Int):=by rw[Zk (by omega) (by omega)];omega
 have hkt:((s.length:Int)).toNat=s.length:=by omega
 have htake:nm.take s.length=s:=by rw[hnm];simp
 have hget:Wh nm s.length=((d.toNat:Nat):Int):=by rw[hnm];simp[Wh]
 have hwn:IntKind.i64.wrap (n:Int)=(n:Int):=Zk (by omega) (by omega)
 generalize hd++body=tx at*
 refine Gi.fn.gcp (by simp) (by simp[Zu,Zw,Zv,Zj,Ze,Vc.S1.okN,At.okN,SV.okN,Res.okN,Res.outOk,Zo,Res.own,Value.oneCell']) fun w X fr hglob=> ?_
 repeat'(first|(first|refine Stp.h ?_|(refine Za.gc Dx ?_ ?_;focus simp[Zb];done)|(refine rq hCon ?_ ?_;focus simp[Zz];done)|(refine Za.gc hput ?_ ?_;focus simp[Zb];done)|(refine Za.gc Ba ?_ ?_;focus simp[Zb];done)|(refine Za.gcp hglob hC ?_ ?_;focus simp[Zb];done)|(refine Za.gc hstr ?_ ?_;focus simp[Zb];done))<;>try simp only[Zc,simprocAttr,↓reduceIte,reduceCtorEq,implies_true,hf,hk,hkt,htake,hget,hd1,hwn,hent,Int.toNat_zero,List.drop_zero,Bool.not_true,Bool.not_false]|(with_reducible first|assumption|refine And.intro ?_ ?_)|(intro h;first|omega|exact tg h ‹_›|exact tg ‹_› h|skip))
 all_goals first|omega|skip
def Zea:List (List UInt8):=[[109,117,108],[115,97,114],[115,100,105,118],[115,104,108],[115,104,114],[115,114,101,109],[117,100,105,118],[117,114,101,109]]
def Zd9:List Nat:=[88,98,92,95,97,94,89,91]
def Ij:Nat→Nat→List UInt8
 |0,n=>mulS n
 |1,n=>Zcx n
 |2,n=>Rr n
 |3,n=>Zc2 n
 |4,n=>Zc3 n
 |5,n=>Rt n
 |6,n=>Iw n
 |_,n=>Ix n
def O4:Nat→Nat
 |0=>1
 |1=>2
 |_=>4
def Ea:Nat→UInt8
 |0=>49
 |1=>50
 |_=>52
def nameAt(i:Nat):List UInt8:=V4.getD i []
def textAt(i:Nat):List UInt8:=(nameAt i++[58]++[10])++Ij (i/3) (O4 (i%3))
theorem name_of:∀k,k<8→∀j,j<3→nameAt (3*k+j)=Zea.getD k []++[Ea j]:=by decide+kernel
theorem flk_of:∀k,k<8→flk Ou (Zea.getD k [])=some (Zd9.getD k 0):=by decide+kernel
theorem Zhk:∀k,k<8→∀j,j<3→(Ij k (O4 j)).length≤2000:=by decide+kernel
theorem name_in:∀k,k<8→∀j,j<3→nameAt (3*k+j)∈V4:=by decide+kernel
theorem Zfx:∀k,k<8→(Zea.getD k []).length≤10:=by decide+kernel
theorem Zi5:∀k,k<8→∀j,j<3→(3*k+j)/3=k∧(3*k+j)%3=j:=by omega
theorem Zhq:∀j,j<3→IntKind.u8.wrap (((Ea j).toNat:Int)-48)=(O4 j:Int)∧1≤O4 j∧O4 j≤100:=by decide+kernel
theorem Zic:∀i,i<24→(nameAt i).length≤5:=by decide+kernel
theorem V8{G:Nat}{H:Nat→Option Obj}(k:Nat)(hk:k<8)(hent:Xt Tryz.prog (Zd9.getD k 0)=true)
 (hC:∀n:Nat,1≤n∧n≤100→∀acc:List UInt8,acc.length+(Ij k n).length≤100000→
   GCp G H Tryz.prog (Zd9.getD k 0) [.a (.loc 0 0)] [(0,.cells 131 [.loc 0 0,.ref 1,.int .i64 (n:Int)]),(1,.row 5 (.int .u8) (bytesI acc))] 2 [0] (.tup []) [(0,.cells 131 [.loc 0 0,.ref 2,.int .i64 (n:Int)]),(2,.row 5 (.int .u8) (bytesI (acc++Ij k n)))] 3)(j:Nat)(hj:j<3):
 GCp G H Tryz.prog 59 [.a (.str (nameAt (3*k+j)))] [] 0 [] (.tup [.a (.str (textAt (3*k+j))),.a (.int .i64 0)]) [] 0:=by
 have hnl:=Zic (3*k+j) (by omega)
 obtain⟨h1,h2⟩:=Zi5 k hk j hj
 obtain⟨h3,h4,h5⟩:=Zhq j hj
 unfold textAt
 rw[h1,h2]
 exact Zhd (Zea.getD k []) (Zd9.getD k 0) (Ea j) (O4 j) (nameAt (3*k+j)) (nameAt (3*k+j)++[58]++[10]) (Ij k (O4 j)) (name_of k hk j hj) rfl (flk_of k hk) h3 h5 (Zfx k hk) (name_in k hk j hj) hent
  (hC (O4 j) ⟨h4,h5⟩ _ (by have:=Zhk k hk j hj;simp only[List.length_append,List.length_cons,List.length_nil];omega))
theorem Zhc{G:Nat}{H:Nat→Option Obj}(hM:Yn G H)(hH:Z4 G H)(i:Nat)(hi:i<24):
 GCp G H Tryz.prog 59 [.a (.str (nameAt i))] [] 0 [] (.tup [.a (.str (textAt i)),.a (.int .i64 0)]) [] 0:=by
 have e:i=3*(i/3)+i%3:=by omega
 have hj:i%3<3:=by omega
 have hk:i/3=0∨i/3=1∨i/3=2∨i/3=3∨i/3=4∨i/3=5∨i/3=6∨i/3=7:=by omega
 rw[e]
 generalize i%3=j at hj
 generalize i/3=k at hk
 clear e hi
 rcases hk with rfl|rfl|rfl|rfl|rfl|rfl|rfl|rfl
 ·exact V8 0 (by decide) T2.enters (fun n hn acc hb=>mul_gcp hM hH n hn acc hb) j hj
 ·exact V8 1 (by decide) Pj.enters (fun n hn acc hb=>Zbt hM hH n hn acc hb) j hj
 ·exact V8 2 (by decide) Pe.enters (fun n hn acc hb=>Zbp hM hH n hn acc hb) j hj
 ·exact V8 3 (by decide) Ph.enters (fun n hn acc hb=>Zbr hM hH n hn acc hb) j hj
 ·exact V8 4 (by decide) Pi.enters (fun n hn acc hb=>Zbs hM hH n hn acc hb) j hj
 ·exact V8 5 (by decide) Pg.enters (fun n hn acc hb=>Zbq hM hH n hn acc hb) j hj
 ·exact V8 6 (by decide) Pc.enters (fun n hn acc hb=>Zbn hM hH n hn acc hb) j hj
 ·exact V8 7 (by decide) Pd.enters (fun n hn acc hb=>Zbo hM hH n hn acc hb) j hj
def linesAt(i:Nat):List Ln:=(K1 (textAt i)).1
theorem B8:∀i,i<24→(K1 (textAt i)).2=(0,0)∧(textAt i).length≤2000∧(linesAt i).length≤100:=by decide+kernel
def unitsTo(i:Nat):List (List UInt8×List Ln):=(List.range i).map fun k=>(nameAt k,linesAt k)
theorem Dm(i:Nat):unitsTo (i+1)=unitsTo i++[(nameAt i,linesAt i)]:=by simp[unitsTo,List.range_succ]
theorem Na(i:Nat):(unitsTo i).length=i:=by simp[unitsTo]
theorem O9(G:Nat)(H:Nat→Option Obj)(s:List UInt8)(hs:s.length≤2000000):
 GCp G H Tryz.prog 107 [.a (.str s),.a (.str [32,9])] [] 0 [] (.one (.a (.str (trimB s)))) [] 0:=
 J9 G H s [32,9] (by omega) (by decide) (by decide)
set_option maxHeartbeats 16000000 in
set_option maxRecDepth 100000 in
theorem Ig{G:Nat}{H:Nat→Option Obj}{w:World}{X:List Nat}{fr:List Value}{Q:Exit→St→Prop}(hglob:Wg G H w X)(op:Int)(raw:List (List UInt8))(hlen:raw.length≤3000000)(hps:∀p∈raw,p.length≤2000000)
 (hQ:∀(lo d s:Nat),lo≤raw.length→Gd op d s ((raw.drop lo).map trimB)=insV op (raw.map trimB)→∀S',Ent ⟨Tryz.prog,w,X,149,fr⟩ S' ⟨[(11,.one (.a (.ref 2))),(14,.one (.a (.bool (Ue op)))),(10,.one (.a (.int .i64 op))),(2,.one (.a (.loc 0 0)))],[(0,.cells 72 [.str [],.int .i64 op,.int .i64 (d:Int),.int .i64 (s:Int),.int .i64 (0:Int),.str []]),(1,.row 9 .str raw),(2,.view 1 1 lo raw.length)],3⟩→Q (.exit 0) S')
 (hE:∀e,insV op (raw.map trimB)= .error e→∀S':St,Zo S'.slots 2=some (.one (.a (.loc 0 0)))→Zo S'.slots 3=some (.one (.a (.bool false)))→Zo S'.slots 4=some (.one (.a (.int .i64 e)))→Zo S'.res 0=some (.cells 72 [.str [],.int .i64 0,.int .i64 0,.int .i64 0,.int .i64 0,.str []])→Q .ret S'):
 T ⟨Tryz.prog,w,X,149,fr⟩ (.loop W6.c34) Q ⟨[(84,.one (.a (.int .i64 0))),(83,.one (.a (.int .i64 2))),(82,.one (.a (.ref 3))),(11,.one (.a (.ref 2))),(14,.one (.a (.bool (Ue op)))),(10,.one (.a (.int .i64 op))),(2,.one (.a (.loc 0 0)))],[(0,.cells 72 [.str [],.int .i64 op,.int .i64 0,.int .i64 0,.int .i64 0,.str []]),(1,.row 9 .str raw),(2,.view 1 1 0 raw.length),(3,.lit 175 2 2 [.bool (Qg op),.loc 0 2,.bool (Qh op),.loc 0 3])],4⟩:=by
 generalize hR:insV op (raw.map trimB)=R at hQ hE
 refine T.loop (ι:= {p:Nat×Nat×Nat×Nat//p.2.1≤raw.length∧
  ((p.1=0∧p.2.2=(0,0)∧insV op ((raw.drop p.2.1).map trimB)=R)∨(p.1=1∧p.2.2.2=0∧insS op p.2.2.1 ((raw.drop p.2.1).map trimB)=R)∨(p.1=2∧Gd op p.2.2.1 p.2.2.2 ((raw.drop p.2.1).map trimB)=R))})
  (fun y=>⟨[(84,.one (.a (.int .i64 (y.1.1:Int)))),(83,.one (.a (.int .i64 2))),(82,.one (.a (.ref 3))),(11,.one (.a (.ref 2))),(14,.one (.a (.bool (Ue op)))),(10,.one (.a (.int .i64 op))),(2,.one (.a (.loc 0 0)))],[(0,.cells 72 [.str [],.int .i64 op,.int .i64 (y.1.2.2.1:Int),.int .i64 (y.1.2.2.2:Int),.int .i64 (0:Int),.str []]),(1,.row 9 .str raw),(2,.view 1 1 y.1.2.1 raw.length),(3,.lit 175 2 2 [.bool (Qg op),.loc 0 2,.bool (Qh op),.loc 0 3])],4⟩) (fun y=>2-y.1.1) ⟨(0,0,0,0),by simp,.inl ⟨rfl,rfl,by simpa using hR⟩⟩ (Ent.mk1 (id) (by simp[Zx])) ?_
 rintro⟨⟨j,lo,d,s⟩,ha,hst⟩
 simp only at ha hst
 have hpe:lo<raw.length→∃p,p.length≤2000000∧raw.getD lo (Kd.dflt .str)=p∧(raw.drop lo).map trimB=trimB p::(raw.drop (lo+1)).map trimB:=by
  intro hlt
  refine⟨raw.getD lo [],hps _ (by simp[List.getD,hlt]),rfl,?_⟩
  have hg:raw.getD lo []=raw[lo]:=by simp[List.getD,hlt]
  rw[hg,List.drop_eq_getElem_cons hlt,List.map_cons]
 have hz1:lo+(0:Int).toNat=lo:=rfl
 have hz2:lo+(1:Int).toNat=lo+1:=rfl
 have hvl:lo+(((raw.length-lo:Nat):Int)).toNat=raw.length:=by omega
 rcases hst with⟨rfl,hz,hrun⟩|⟨rfl,hz,hrun⟩|⟨rfl,hrun⟩
 ·obtain⟨rfl,rfl⟩:d=0∧s=0:=by simpa using hz
  have hj:((((0:Nat):Int)).toNat:Nat)=0:=rfl
  have hw:IntKind.i64.wrap (((0:Nat):Int)+1)=((1:Nat):Int):=Zy (by omega)
  rw[Zd8]at hrun
  cases hd:Qg op
  ·rw[hd]at hrun
   rw[Zap]at hrun
   simp only at hrun
   repeat'(first|(first|refine Stp.h ?_)<;>try simp only[Zc,simprocAttr,↓reduceIte,reduceCtorEq,implies_true,hd,hj,hw,Int.ofNat_lt]|(with_reducible first|assumption|refine And.intro ?_ ?_)|(intro h;first|omega|exact tg h ‹_›|exact tg ‹_› h|skip))
   all_goals first|omega|skip
   exact⟨⟨(1,lo,0,0),ha,.inr (.inl ⟨rfl,rfl,hrun⟩)⟩,(Ent.mk1 (id) (by simp[Zx,hd])),by simp only;omega⟩
  ·rw[hd]at hrun
   by_cases hlt:lo<raw.length
   ·obtain⟨p,hpl,hpg,hdrop⟩:=hpe hlt
    rw[hdrop]at hrun
    have hne:¬((raw.length-lo:Nat):Int)=0:=by omega
    have hT:=O9 G H p hpl
    have htl:=Ud p
    generalize trimB p=q at hT hrun htl
    cases hv:E7 q with
    |none=>
     rw[Fi hv]at hrun
     simp only at hrun
     obtain⟨m,hN⟩:=K2 G H hv (by omega)
     repeat'(first|(first|refine Stp.h ?_|(refine Za.gcp hglob hT ?_ ?_;focus simp[Zb];done)|(refine Za.gcp hglob hN ?_ ?_;focus simp[Zb];done))<;>try simp only[Zc,simprocAttr,↓reduceIte,reduceCtorEq,implies_true,hd,hj,hw,hpg,hne,hz1,Int.ofNat_lt]|(with_reducible first|assumption|refine And.intro ?_ ?_)|(intro h;first|omega|exact tg h ‹_›|exact tg ‹_› h|skip))
     all_goals first|omega|skip
     all_goals exact hE _ hrun.symm _ rfl rfl rfl rfl
    |some n=>
     rw[Fm hv]at hrun
     simp only at hrun
     have hN:=Lf G H hv
     repeat'(first|(first|refine Stp.h ?_|(refine Za.gcp hglob hT ?_ ?_;focus simp[Zb];done)|(refine Za.gcp hglob hN ?_ ?_;focus simp[Zb];done))<;>try simp only[Zc,simprocAttr,↓reduceIte,reduceCtorEq,implies_true,hd,hj,hw,hpg,hne,hz1,hz2,hvl,Int.ofNat_lt]|(with_reducible first|assumption|refine And.intro ?_ ?_)|(intro h;first|omega|exact tg h ‹_›|exact tg ‹_› h|skip))
     all_goals first|omega|skip
     all_goals exact⟨⟨(1,lo+1,n,0),hlt,.inr (.inl ⟨rfl,rfl,hrun⟩)⟩,(Ent.mk1 (fun n=>if n=2 then 5 else n) (by simp[Zx,hd])),by simp only;omega⟩
   ·have hae:lo=raw.length:=by omega
    have hd0:raw.drop lo=[]:=by rw[hae];exact List.drop_length
    rw[hd0,List.map_nil,Fk]at hrun
    simp only at hrun
    have heq:((raw.length-lo:Nat):Int)=0:=by omega
    repeat'(first|(first|refine Stp.h ?_)<;>try simp only[Zc,simprocAttr,↓reduceIte,reduceCtorEq,implies_true,hd,hj,hw,heq,Int.ofNat_lt]|(with_reducible first|assumption|refine And.intro ?_ ?_)|(intro h;first|omega|exact tg h ‹_›|exact tg ‹_› h|skip))
    all_goals first|omega|skip
    all_goals exact hE _ hrun.symm _ rfl rfl rfl rfl
 ·obtain rfl:s=0:=hz
  have hj:((((1:Nat):Int)).toNat:Nat)=1:=rfl
  have hw:IntKind.i64.wrap (((1:Nat):Int)+1)=((2:Nat):Int):=Zy (by omega)
  unfold insS at hrun
  cases hd:Qh op
  ·rw[hd]at hrun
   rw[Zap]at hrun
   simp only at hrun
   repeat'(first|(first|refine Stp.h ?_)<;>try simp only[Zc,simprocAttr,↓reduceIte,reduceCtorEq,implies_true,hd,hj,hw,Int.ofNat_lt]|(with_reducible first|assumption|refine And.intro ?_ ?_)|(intro h;first|omega|exact tg h ‹_›|exact tg ‹_› h|skip))
   all_goals first|omega|skip
   exact⟨⟨(2,lo,d,0),ha,.inr (.inr ⟨rfl,hrun⟩)⟩,(Ent.mk1 (id) (by simp[Zx,hd])),by simp only;omega⟩
  ·rw[hd]at hrun
   by_cases hlt:lo<raw.length
   ·obtain⟨p,hpl,hpg,hdrop⟩:=hpe hlt
    rw[hdrop]at hrun
    have hne:¬((raw.length-lo:Nat):Int)=0:=by omega
    have hT:=O9 G H p hpl
    have htl:=Ud p
    generalize trimB p=q at hT hrun htl
    cases hv:E7 q with
    |none=>
     rw[Fi hv]at hrun
     simp only at hrun
     obtain⟨m,hN⟩:=K2 G H hv (by omega)
     repeat'(first|(first|refine Stp.h ?_|(refine Za.gcp hglob hT ?_ ?_;focus simp[Zb];done)|(refine Za.gcp hglob hN ?_ ?_;focus simp[Zb];done))<;>try simp only[Zc,simprocAttr,↓reduceIte,reduceCtorEq,implies_true,hd,hj,hw,hpg,hne,hz1,Int.ofNat_lt]|(with_reducible first|assumption|refine And.intro ?_ ?_)|(intro h;first|omega|exact tg h ‹_›|exact tg ‹_› h|skip))
     all_goals first|omega|skip
     all_goals exact hE _ hrun.symm _ rfl rfl rfl rfl
    |some n=>
     rw[Fm hv]at hrun
     simp only at hrun
     have hN:=Lf G H hv
     repeat'(first|(first|refine Stp.h ?_|(refine Za.gcp hglob hT ?_ ?_;focus simp[Zb];done)|(refine Za.gcp hglob hN ?_ ?_;focus simp[Zb];done))<;>try simp only[Zc,simprocAttr,↓reduceIte,reduceCtorEq,implies_true,hd,hj,hw,hpg,hne,hz1,hz2,hvl,Int.ofNat_lt]|(with_reducible first|assumption|refine And.intro ?_ ?_)|(intro h;first|omega|exact tg h ‹_›|exact tg ‹_› h|skip))
     all_goals first|omega|skip
     all_goals exact⟨⟨(2,lo+1,d,n),hlt,.inr (.inr ⟨rfl,hrun⟩)⟩,(Ent.mk1 (fun n=>if n=2 then 5 else n) (by simp[Zx,hd])),by simp only;omega⟩
   ·have hae:lo=raw.length:=by omega
    have hd0:raw.drop lo=[]:=by rw[hae];exact List.drop_length
    rw[hd0,List.map_nil,Fk]at hrun
    simp only at hrun
    have heq:((raw.length-lo:Nat):Int)=0:=by omega
    repeat'(first|(first|refine Stp.h ?_)<;>try simp only[Zc,simprocAttr,↓reduceIte,reduceCtorEq,implies_true,hd,hj,hw,heq,Int.ofNat_lt]|(with_reducible first|assumption|refine And.intro ?_ ?_)|(intro h;first|omega|exact tg h ‹_›|exact tg ‹_› h|skip))
    all_goals first|omega|skip
    all_goals exact hE _ hrun.symm _ rfl rfl rfl rfl
 ·repeat'(first|(first|refine Stp.h ?_)<;>try simp only[Zc,simprocAttr,↓reduceIte,reduceCtorEq,implies_true,Int.ofNat_lt]|(with_reducible first|assumption|refine And.intro ?_ ?_)|(intro h;first|omega|exact tg h ‹_›|exact tg ‹_› h|skip))
  all_goals first|omega|skip
  exact hQ lo d s ha hrun _ (Ent.mk1 (id) (by simp[Zx]))
theorem K3(s:List UInt8)(c:UInt8):Lib.hasSuffix s [c]=decide (s.getLast? =some c):=by
 unfold Lib.hasSuffix List.isSuffixOf
 rcases List.eq_nil_or_concat s with rfl|⟨r,x,rfl⟩
 ·rfl
 ·simp only[List.concat_eq_append,List.reverse_append,List.reverse_cons,List.reverse_nil,List.nil_append,List.cons_append,List.isPrefixOf,Bool.and_true,List.getLast?_concat,Option.some.injEq]
  rw[Bool.eq_iff_iff,beq_iff_eq,decide_eq_true_eq]
  first|exact Iff.rfl|exact⟨fun e=>e.symm,fun e=>e.symm⟩
theorem Zc8{s:List UInt8}{c:UInt8}(h:s.getLast? =some c):Lib.trimSuffix s [c]=s.dropLast:=by
 unfold Lib.trimSuffix
 rw[K3,decide_eq_true h,if_pos rfl,List.dropLast_eq_take]
 rfl
def Zgk:Except Int Ln→Ln×Bool×Int
 |.error e=>(ln0,false,e)
 |.ok l=>(l,true,0)
theorem Zby{s:List UInt8}(h:trimB (upToS 59 s).1=[]):lineT s=(ln0,false,0):=by unfold lineT Ny;simp only[h,if_true]
theorem Bb{s:List UInt8}(h:trimB (upToS 59 s).1≠[])(hl:(trimB (upToS 59 s).1).getLast? =some 58)(hn:Xm (trimB (upToS 59 s).1).dropLast=true):lineT s=(⟨(trimB (upToS 59 s).1).dropLast,Vx,[]⟩,true,0):=by
 unfold lineT Ny;simp only[h,hl,hn,if_true,if_false]
theorem Zbx{s:List UInt8}(h:trimB (upToS 59 s).1≠[])(hl:(trimB (upToS 59 s).1).getLast? =some 58)(hn:Xm (trimB (upToS 59 s).1).dropLast=false):lineT s=(ln0,false,7):=by
 unfold lineT Ny;simp only[h,hl,hn,if_true,if_false,Bool.false_eq_true]
theorem Zbw{s:List UInt8}(h:trimB (upToS 59 s).1≠[])(hl:(trimB (upToS 59 s).1).getLast? ≠some 58)(hk:kindS (upToS 32 (trimB (upToS 59 s).1)).1<0):lineT s=(ln0,false,1):=by
 unfold lineT Ny;simp only[h,hl,hk,if_true,if_false]
theorem Zf2{s:List UInt8}(h:trimB (upToS 59 s).1≠[])(hl:(trimB (upToS 59 s).1).getLast? ≠some 58)(hk:¬kindS (upToS 32 (trimB (upToS 59 s).1)).1<0):
 lineT s=Zgk (insV (kindS (upToS 32 (trimB (upToS 59 s).1)).1) (R8 (upToS 32 (trimB (upToS 59 s).1)).2.1)):=by
 unfold lineT Ny
 simp only[h,hl,hk,if_false]
 cases insV (kindS (upToS 32 (trimB (upToS 59 s).1)).1) (R8 (upToS 32 (trimB (upToS 59 s).1)).2.1)<;>rfl
end Go.Proofs.YtbmecnjmbhokgaaGreatDoor
