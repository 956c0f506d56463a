/- A part of the proofs of this seat's laws: steps on the way, joined. It has no conditions of its own. -/
import Derived.Test.YtddmlennnmpnhaaGreatDoorQd
import Derived.OrdersHeld
import Derived.Deep.RegionHeld3
import Derived.StillTail
namespace Go.Proofs.YtddmlennnmpnhaaGreatDoor
namespace Vc
open Go.RowKit
set_option linter.unusedVariables false
set_option linter.unusedSimpArgs false
section
variable {P:Program} {ops:Array Oper} {Q:Exit→Act→World→Prop} {md:Region.Mode}
def Nc(P:Program)(md:Region.Mode)(ops:Array Oper)(Q:Exit→Act→World→Prop)(S:Nat→World→Prop):Nat→Array Bool→Act→World→Prop
 |0,listed,a,w=>Region.ready md ops listed=[]∧Q .normal a w
 |fuel+1,listed,a,w=>
  (Region.ready md ops listed=[]→Q .normal a w)∧
  ∀i∈Region.ready md ops listed,wpOp P ops Q i (fun a' w'=>S i w'∧Nc P md ops Q S fuel (listed.setIfInBounds i true) a' w') a w
theorem Mp{S:Nat→World→Prop}:∀(fuel:Nat) (listed:Array Bool) (a:Act) (w:World),Nc P md ops Q S fuel listed a w→wpAny P md ops Q fuel listed a w
 |0,_,_,_,h=>h
 |fuel+1,_,_,_,h=>⟨h.1,fun i hi=>wpOp_mono (fun a' w' h'=>Mp fuel _ a' w' h'.2) (h.2 i hi)⟩
theorem Dn{S:Nat→World→Prop}{C:World→Prop}{i:Nat}{oi:Oper}{v:Value}{D:List Nat}(hi:ops[i]? =some oi)(hsel:∀(j:Nat) (o:Oper) cs b,ops[j]? =some o→o.op≠ .select cs b)
 (hQ:∀c a w,Q (.panic c) (a.put oi.dst v) w→Q (.panic c) a w)(hSi:∀w,C w→S i w):
 ∀(fuel:Nat) (listed:Array Bool) (a:Act) (w:World),
  (∀j oj,ops[j]? =some oj→j≠i→listed.getD j true=false→(∀e∈oj.after,Region.binds md e=true→e.on≠i)→oi.apart ops oj=true)→
  (∀j oj,ops[j]? =some oj→j≠i→listed.getD j true=false→j∉D→∀w,S j w→C w)→
  (∀d∈D,listed.getD d true=false∧∃od,ops[d]? =some od∧∃e∈od.after,Region.binds md e=true∧(e.on=i∨e.on∈D))→
  i∈Region.ready md ops listed→YieldsIf P ops C oi v a→C w→
  Nc P md ops Q S fuel (listed.setIfInBounds i true) (a.put oi.dst v) w→Nc P md ops Q S (fuel+1) listed a w:=by
 intro fuel
 induction fuel with
 |zero=>
  intro listed a w _ _ _ hr hy hC H
  refine⟨fun h=>(by rw[h]at hr;cases hr),fun j hj=> ?_⟩
  by_cases hji:j=i
  ·subst hji;exact hy.wpOp hi hC ⟨hSi w hC,H⟩
  ·have:=ready_mono hj hji
   rw[H.1]at this
   cases this
 |succ fuel ih=>
  intro listed a w hfree hCS hD hr hy hC H
  refine⟨fun h=>(by rw[h]at hr;cases hr),fun j hj=> ?_⟩
  by_cases hji:j=i
  ·subst hji;exact hy.wpOp hi hC ⟨hSi w hC,H⟩
  ·have h1:=H.2 j (ready_mono hj hji)
   obtain⟨hjun,oj,hoj,hall⟩:=mem_ready.1 hj
   have hiun:=(mem_ready.1 hr).1
   have notl:∀n,listed.getD n true=false→listed.getD n false=true→False:=fun n h0 h1=>by
    rcases Nat.lt_or_ge n listed.size with h'|h'
    ·simp[h']at h0 h1;rw[h0]at h1;cases h1
    ·simp[Array.getElem?_eq_none h']at h1
   have hjD:j∉D:=fun hjD=>by
    obtain⟨_,od,h2,e,h3,h4,h5⟩:=hD j hjD
    rw[hoj]at h2;cases h2
    have h6:=hall e h3 h4
    rcases h5 with h5|h5
    ·rw[h5]at h6;exact notl i hiun h6
    ·exact notl _ (hD _ h5).1 h6
   have hnot:∀e∈oj.after,Region.binds md e=true→e.on≠i:=fun e he hb heq=>by
    have h1:=hall e he hb
    rw[heq]at h1
    exact notl i hiun h1
   have h2:=wpOp_putIf hoj (hfree j oj hoj hji hjun hnot) (fun cs b=>hsel i oi cs b hi) (fun cs b=>hsel j oj cs b hoj) hQ hy h1
   have hset:∀k,(listed.setIfInBounds j true).getD k true=false→listed.getD k true=false:=fun k hun=>by
    by_cases hjk:j=k
    ·subst hjk;exact hjun
    ·rw[getD_set_ne true hjk]at hun;exact hun
   refine wpOp_mono (fun a' w' h3=>⟨h3.2.1,ih (listed.setIfInBounds j true) a' w' (fun k ok hk hki hun hno=>hfree k ok hk hki (hset k hun) hno) (fun k ok hk hki hun hkD=>hCS k ok hk hki (hset k hun) hkD) (fun d hd=> ?_) (ready_mono hr (Ne.symm hji)) h3.1 (hCS j oj hoj hji hjun hjD _ h3.2.1) ?_⟩) h2
   ·have hdj:j≠d:=fun e=>hjD (e▸hd)
    exact⟨by rw[getD_set_ne true hdj];exact(hD d hd).1,(hD d hd).2⟩
   ·rw[Array.setIfInBounds_comm _ _ hji]
    exact h3.2.2
theorem Zag{S:Nat→World→Prop}{listed:Array Bool}{a:Act}{w:World}(hr:Region.ready md ops listed=[])(h:Q .normal a w):∀fuel,Nc P md ops Q S fuel listed a w
 |0=>⟨hr,h⟩
 |_+1=>⟨fun _=>h,by rw[hr];simp⟩
end
inductive IT where
 |done
 |stop
 |take (i:Nat) (m:Bool) (D V:List Nat) (r:IT)
 |alt (i:Nat) (r rest:IT)
inductive DT where
 |done
 |stop
 |take (x:In) (m:Bool) (r:DT)
 |alt (x:In) (keep:Bool) (r rest:DT)
def IT.uses:IT→List Nat
 |.done=>[]
 |.stop=>[]
 |.take _ m _ V r=>bif m then V++r.uses else r.uses
 |.alt _ r rest=>r.uses++rest.uses
def IT.depth:IT→Nat
 |.done=>0
 |.stop=>0
 |.take _ _ _ _ r=>r.depth+1
 |.alt _ r rest=>max (r.depth+1) rest.depth
def okD(ops:Array Oper)(listed:Array Bool)(i:Nat)(D:List Nat):Bool:=
 D.all fun d=> !listed.getD d true&&(match ops[d]? with
  |some od=>od.after.any fun e=>Region.binds .any e&&(e.on==i||D.contains e.on)
  |none=>false)
def okI(ops:Array Oper)(U:List Nat):IT→Array Bool→Option (List Nat)→Bool
 |.done,listed,none=>(Region.ready .any ops listed).isEmpty
 |.stop,_,some []=>true
 |.take i m D V r,listed,none=>(Region.ready .any ops listed).contains i&&(Region.free .any ops listed i&&(okD ops listed i D&&(((List.range ops.size).all fun j=>j==i||listed.getD j true||D.contains j||V.contains j)&&
    ((!m||V.all fun j=>U.contains j)&&((m|| !U.contains i)&&okI ops U r (listed.setIfInBounds i true) none)))))
 |.alt i r rest,listed,none=>match Region.ready .any ops listed with
  |i0::l=>i0==i&&(okI ops U r (listed.setIfInBounds i true) none&&okI ops U rest listed (some l))
  | []=>false
 |.alt i r rest,listed,some (i0::l)=>i0==i&&(okI ops U r (listed.setIfInBounds i true) none&&okI ops U rest listed (some l))
 |_,_,_=>false
def K4(P:Program)(nt:Nat)(ops:Array Oper)(U:List Nat):IT→Option DT
 |.done=>some .done
 |.stop=>some .stop
 |.take i m _ _ r=>match(ops[i]?).bind (Xs P nt ops),K4 P nt ops U r with
  |some x,some t=>some (.take x m t)
  |_,_=>none
 |.alt i r rest=>match(ops[i]?).bind (Xs P nt ops),K4 P nt ops U r,K4 P nt ops U rest with
  |some x,some t,some t2=>some (.alt x (U.contains i) t t2)
  |_,_,_=>none
def I5:Option Res→Prop
 |some (.cells _ _)=>True
 |some (.rocells _)=>True
 |_=>False
def Vg(o:Option Res):Res→Prop
 |.rocells []=>I5 o
 |.rocells (x::l)=>o=some (.rocells (x::l))
 |.cells E l=>o=some (.cells E l)
 |.row E k l=>o=some (.row E k l)
 |.lit E z m l=>o=some (.lit E z m l)
 |.ro k l=>o=some (.ro k l)
 |.fact p=>o=some (.fact p)
 |.smap P K E k f n=>o=some (.smap P K E k f n)
 |.rosmap P K E k f n=>o=some (.rosmap P K E k f n)
 |.rou l=>o=some (.rou l)
 |.urow b E l=>o=some (.urow b E l)
 |.fn P g=>o=some (.fn P g)
 |.view m z lo hi=>o=some (.view m z lo hi)
 |.fmap l=>o=some (.fmap l)
 |.fiter m n seen=>o=some (.fiter m n seen)
 |.arr m a n=>o=some (.arr m a n)
def Lk(S:St):List (Nat×Res)→Prop
 | []=>True
 |(n,r)::l=>Vg (S.find n) r∧Lk S l
def WIn(R:List (Nat×Res))(p:Nat×Res):Prop:=p∈R∨p.2= .rocells []∧((∃E l,(p.1,.cells E l)∈R)∨∃l,(p.1,.rocells l)∈R)
theorem hasW_in{S:St}{n:Nat}{r:Res}(h:Vg (S.find n) r):WIn S.res (n,r):=by
 have ptr:I5 (S.find n)→WIn S.res (n,.rocells []):=fun h=>by
  unfold I5 at h
  split at h
  ·rename_i E l hf;exact .inr ⟨rfl,.inl ⟨E,l,Zg hf⟩⟩
  ·rename_i l hf;exact .inr ⟨rfl,.inr ⟨l,Zg hf⟩⟩
  ·exact h.elim
 cases r with
 |rocells l=>cases l with
  |nil=>exact ptr h
  |cons x l=>exact .inl (Zg h)
 |_=>exact .inl (Zg h)
theorem Ll{S:St}:∀ {l:List (Nat×Res)},Lk S l→∀p∈l,WIn S.res p
 |(n,r)::l,h,p,hp=>by
  rcases List.mem_cons.1 hp with rfl|hp
  ·exact hasW_in h.1
  ·exact Ll h.2 p hp
def wkR(ps:List Nat):List (Nat×Res)→List (Nat×Res)
 | []=>[]
 |(n,.cells E l)::R=>(n,bif ps.contains n then .cells E l else .rocells [])::wkR ps R
 |(n,.rocells l)::R=>(n,.rocells l)::wkR ps R
 |(_,_)::R=>wkR ps R
theorem wkR_in(ps:List Nat):∀(R:List (Nat×Res)),∀p∈wkR ps R,WIn R p
 | [],p,hp=>nomatch hp
 |(n,r)::R,p,hp=>by
  have tl:∀p,p∈wkR ps R→WIn ((n,r)::R) p:=fun p hp=>by
   rcases wkR_in ps R p hp with h|⟨h,h2⟩
   ·exact .inl (List.mem_cons_of_mem _ h)
   ·exact .inr ⟨h,h2.imp (fun⟨E,l,h⟩=>⟨E,l,List.mem_cons_of_mem _ h⟩) (fun⟨l,h⟩=>⟨l,List.mem_cons_of_mem _ h⟩)⟩
  cases r with
  |cells E l=>
   simp only[wkR]at hp
   rcases List.mem_cons.1 hp with rfl|hp
   ·cases ps.contains n
    ·exact .inr ⟨rfl,.inl ⟨E,l,List.mem_cons_self ..⟩⟩
    ·exact .inl (List.mem_cons_self ..)
   ·exact tl p hp
  |rocells l=>
   simp only[wkR]at hp
   rcases List.mem_cons.1 hp with rfl|hp
   ·exact .inl (List.mem_cons_self ..)
   ·exact tl p hp
  |_=>simp only[wkR]at hp;exact tl p hp
theorem Zae(ps:List Nat):∀(R:List (Nat×Res)),(R.map Prod.fst).Nodup→((wkR ps R).map Prod.fst).Nodup∧∀n∈(wkR ps R).map Prod.fst,n∈R.map Prod.fst
 | [],_=>⟨List.nodup_nil,fun n h=>h⟩
 |(n,r)::R,h=>by
  obtain⟨h1,h2⟩:=List.nodup_cons.1 h
  obtain⟨g1,g2⟩:=Zae ps R h2
  cases r with
  |cells E l=>
   refine⟨?_,fun m hm=> ?_⟩
   ·simp only[wkR,List.map_cons];exact List.nodup_cons.2 ⟨fun hm=>h1 (g2 _ hm),g1⟩
   ·simp only[wkR,List.map_cons]at hm
    rcases List.mem_cons.1 hm with rfl|hm
    ·exact List.mem_cons_self ..
    ·exact List.mem_cons_of_mem _ (g2 _ hm)
  |rocells l=>
   refine⟨?_,fun m hm=> ?_⟩
   ·simp only[wkR,List.map_cons];exact List.nodup_cons.2 ⟨fun hm=>h1 (g2 _ hm),g1⟩
   ·simp only[wkR,List.map_cons]at hm
    rcases List.mem_cons.1 hm with rfl|hm
    ·exact List.mem_cons_self ..
    ·exact List.mem_cons_of_mem _ (g2 _ hm)
  |_=>exact⟨g1,fun m hm=>List.mem_cons_of_mem _ (g2 _ hm)⟩
def exD(c:Cx)(R0:List (Nat×Res)):DT→St→(St→Prop)→Prop
 |.done,S,K=>K S
 |.stop,_,_=>True
 |.take ⟨none,d,i⟩ m r,S,K=>(m=true→Lk S R0)∧match ev ⟨S.slots,bif m then R0 else[],S.nx⟩ i with
  |some (p,v)=>p∧exD c R0 r (S.put d v) K
  |none=>False
 |.take ⟨some g,d,i⟩ m r,S,K=>(m=true→Lk S R0)∧match gdc S g with
  |none=>False
  |some b=>match ev ⟨S.slots,bif m then R0 else[],S.nx⟩ i with
   |some (p,.one v)=>(b=true→p)∧exD c R0 r (S.put d (.opt b v)) K
   |_=>False
 |.alt x keep r rest,S,K=>(ex c [x] S fun S'=>(keep=true→Lk S' R0)∧exD c R0 r S' K)∧exD c R0 rest S K
def exDK(c:Cx)(R0:List (Nat×Res))(keep:Bool)(r:DT)(K:St→Prop)(S':St):Prop:=(keep=true→Lk S' R0)∧exD c R0 r S' K
theorem Cv(c:Cx)(R0:List (Nat×Res))(S:St)(K:St→Prop):exD c R0 .done S K=K S:=rfl
theorem Cw(c:Cx)(R0:List (Nat×Res))(S:St)(K:St→Prop):exD c R0 .stop S K=True:=rfl
theorem I1(c:Cx)(R0:List (Nat×Res))(d:Option Nat)(i:I)(m:Bool)(r:DT)(S:St)(K:St→Prop):exD c R0 (.take ⟨none,d,i⟩ m r) S K=((m=true→Lk S R0)∧match ev ⟨S.slots,bif m then R0 else[],S.nx⟩ i with
 |some (p,v)=>p∧exD c R0 r (S.put d v) K
 |none=>False):=rfl
theorem I2(c:Cx)(R0:List (Nat×Res))(g:Nat×Bool)(d:Option Nat)(i:I)(m:Bool)(r:DT)(S:St)(K:St→Prop):exD c R0 (.take ⟨some g,d,i⟩ m r) S K=((m=true→Lk S R0)∧match gdc S g with
 |none=>False
 |some b=>match ev ⟨S.slots,bif m then R0 else[],S.nx⟩ i with
  |some (p,.one v)=>(b=true→p)∧exD c R0 r (S.put d (.opt b v)) K
  |_=>False):=rfl
theorem Ef(c:Cx)(R0:List (Nat×Res))(x:In)(keep:Bool)(r rest:DT)(S:St)(K:St→Prop):exD c R0 (.alt x keep r rest) S K=(ex c [x] S (exDK c R0 keep r K)∧exD c R0 rest S K):=rfl
theorem WIn.holds{c:Cx}{ρ:Env}{R:List (Nat×Res)}{nx:Nat}{w:World}(h:Mem c ρ R nx w){n:Nat}{r:Res}(hp:WIn R (n,r)):r.holds ρ (Zp ρ R) n w∧∀b,r.block ρ n=some b→∃p∈R,p.2.block ρ p.1=some b:=by
 rcases hp with hp|⟨rfl,hp⟩
 ·exact⟨h.res n r hp,fun b hb=>⟨_,hp,hb⟩⟩
 ·refine⟨?_,fun b hb=>by cases hb⟩
  rcases hp with⟨E,l,hp⟩|⟨l,hp⟩
  ·obtain⟨b,hv,_⟩:=h.res n _ hp
   exact⟨_,hv,fun j u hj=>by simp at hj⟩
  ·obtain⟨a,hv,_⟩:=h.res n _ hp
   exact⟨_,hv,fun j u hj=>by simp at hj⟩
theorem Mem.restrict{c:Cx}{ρ ρ0:Env}{R R0:List (Nat×Res)}{nx nx0:Nat}{w w0:World}(h0:Mem c ρ0 R0 nx0 w0)(h:Mem c ρ R nx w)(hs:Qv nx0 ρ0 ρ)(hsub:∀p∈R0,WIn R p):Mem c ρ0 R0 nx0 w:=by
 have hs':Qv nx0 ρ ρ0:=fun n hn=>(hs n hn).symm
 have hown:Zp ρ0 R0=Zp ρ R0:=Rk (nx:=nx0) hs' fun n r hr=>(h0.bdr n r hr).1
 have hin:∀b∈Zp ρ0 R0,b∈Zp ρ R:=fun b hb=>by
  rw[hown]at hb
  obtain⟨p,hp,hpb⟩:=List.mem_filterMap.1 hb
  obtain⟨q,hq,hqb⟩:=(WIn.holds h (hsub p hp)).2 b hpb
  exact List.mem_filterMap.2 ⟨q,hq,hqb⟩
 refine⟨h.os,h.tape,h.output,h.size,h.block,h0.one,h0.keys,fun n r hr=> ?_,h0.bdr,h0.nodup,fun b hb=>h.lt b (hin b hb)⟩
 refine Res.carry (nx:=nx0) (ρ:=ρ) (O:=Zp ρ R) (D:=[]) hs' (h0.bdr n r hr).1 (h0.bdr n r hr).2 (fun b o hb _=>hb) (by simp) (by simp) (fun b hb=>.inl (hin b hb)) (WIn.holds h (hsub _ hr)).1
theorem Kb(ps:List Nat)(ρ:Env):∀(R:List (Nat×Res)),(Zp ρ (wkR ps R)).Sublist (Zp ρ R)
 | []=>List.Sublist.slnil
 |(n,r)::R=>by
  have ih:=Kb ps ρ R
  have keep:∀(x:Nat×Res) (A B:List (Nat×Res)),(Zp ρ A).Sublist (Zp ρ B)→(Zp ρ (x::A)).Sublist (Zp ρ (x::B)):=fun x A B h=>by
   unfold Zp at h ⊢
   simp only[List.filterMap_cons]
   split
   ·exact h
   ·exact h.cons_cons _
  have skip:∀(x:Nat×Res) (A B:List (Nat×Res)),(Zp ρ A).Sublist (Zp ρ B)→(Zp ρ A).Sublist (Zp ρ (x::B)):=fun x A B h=>by
   unfold Zp at h ⊢
   simp only[List.filterMap_cons]
   split
   ·exact h
   ·exact h.cons _
  cases r with
  |cells E l=>
   simp only[wkR]
   cases ps.contains n
   ·exact skip _ _ _ ih
   ·exact keep _ _ _ ih
  |rocells l=>exact keep _ _ _ ih
  |_=>exact skip _ _ _ ih
theorem Mem.wk{c:Cx}{ρ:Env}{R:List (Nat×Res)}{nx:Nat}{w:World}(h:Mem c ρ R nx w)(ps:List Nat):Mem c ρ (wkR ps R) nx w:=by
 obtain⟨k1,k2⟩:=Zae ps R h.keys
 have o1:=(Kb ps ρ R).nodup h.nodup
 have o2:∀b∈Zp ρ (wkR ps R),b∈Zp ρ R:=fun b hb=>(Kb ps ρ R).subset hb
 refine⟨h.os,h.tape,h.output,h.size,h.block,h.one,k1,fun n r hr=> ?_,fun n r hr=> ?_,o1,fun b hb=>h.lt b (o2 b hb)⟩
 ·have hbd:n<nx∧r.bd nx:=by
   rcases wkR_in ps R _ hr with hp|⟨e,hp⟩
   ·exact h.bdr n r hp
   ·simp only at e;subst e
    rcases hp with⟨E,l,hp⟩|⟨l,hp⟩
    ·exact⟨(h.bdr n _ hp).1,fun x hx=>by simp at hx⟩
    ·exact⟨(h.bdr n _ hp).1,fun x hx=>by simp at hx⟩
  exact Res.carry (nx:=nx) (ρ:=ρ) (O:=Zp ρ R) (D:=[]) (fun _ _=>rfl) hbd.1 hbd.2 (fun b o hb _=>hb) (by simp) (by simp) (fun b hb=>.inl (o2 b hb)) (WIn.holds h (wkR_in ps R _ hr)).1
 ·rcases wkR_in ps R _ hr with hp|⟨e,hp⟩
  ·exact h.bdr n r hp
  ·simp only at e;subst e
   rcases hp with⟨E,l,hp⟩|⟨l,hp⟩
   ·exact⟨(h.bdr n _ hp).1,fun x hx=>by simp at hx⟩
   ·exact⟨(h.bdr n _ hp).1,fun x hx=>by simp at hx⟩
theorem Mem.widen{c:Cx}{ρ ρ0:Env}{R0:List (Nat×Res)}{nx nx0:Nat}{w:World}(h0:Mem c ρ0 R0 nx0 w)(hs:Qv nx0 ρ0 ρ)(hone:∀n,(ρ n).oneCell'=true)(hn:nx0≤nx):Mem c ρ R0 nx w:=by
 have hown:Zp ρ R0=Zp ρ0 R0:=Rk (nx:=nx0) hs fun n r hr=>(h0.bdr n r hr).1
 refine⟨h0.os,h0.tape,h0.output,h0.size,h0.block,hone,h0.keys,fun n r hr=> ?_,fun n r hr=>⟨Nat.lt_of_lt_of_le (h0.bdr n r hr).1 hn,Res.bd_mono hn (h0.bdr n r hr).2⟩,by rw[hown];exact h0.nodup,fun b hb=>h0.lt b (by rw[←hown];exact hb)⟩
 rw[hown]
 exact Res.carry (nx:=nx0) (ρ:=ρ0) (O:=Zp ρ0 R0) (D:=[]) hs (h0.bdr n r hr).1 (h0.bdr n r hr).2 (fun b o hb _=>hb) (by simp) (by simp) (fun b hb=>.inl hb) (h0.res n r hr)
theorem Zfv{c:Cx}{ops:Array Oper}{Q:Exit→Act→World→Prop}{o:Oper}{x:In}(h1:Xs c.P c.nt ops o=some x){K:St→Prop}{S:St}{ρ:Env}{a:Act}{w:World}{next:Act→World→Prop}
 (ih:∀S' ρ' a' w',Ext S ρ S' ρ'→K S'→S'.holds c ρ' a' w'→next a' w')(hx:ex c [x] S K)(hh:S.holds c ρ a w):
 if Region.wanted o (yielded ops a.tmps)then o.wp c.P a w next Q∨(o.asks c.P a w∧LetsOut Q)else next (a.put o.dst undef) w:=by
 obtain⟨hc,hdst,hd,hg⟩:=Uc h1
 obtain⟨g,d,i⟩:=x
 simp only at hc hdst hg
 subst hdst
 cases g with
 |none=>
  simp only at hg
  have hw:Region.wanted o (yielded ops a.tmps)=true:=by simp[Region.wanted,hg]
  rw[if_pos hw]
  refine .inl ?_
  unfold ex at hx
  split at hx
  ·rename_i p v hev
   obtain⟨g1,g2⟩:=Wd hh hc hev hx.1
   exact Zr g1 (ih _ _ _ _ (Ext.rfl.put _ _) hx.2 (hh.put_same hd g2))
  ·exact U4 hh hc hd hx ih
 |some g=>
  obtain⟨t,want⟩:=g
  obtain⟨hlow,j,hgd,hj⟩:=hg
  unfold ex at hx
  split at hx
  ·exact hx.elim
  ·rename_i b hgdc
   have hw:=Sy hh hgd hj hlow hgdc
   split at hx
   ·rename_i p v hev
    cases b with
    |true=>
     rw[if_pos hw]
     obtain⟨g1,g2⟩:=Wd hh hc hev (hx.1 rfl)
     exact .inl (Zr g1 (ih _ ρ _ _ (Ext.rfl.put _ _) hx.2 (hh.put_same hd (v:=.opt true v) fun _=>g2)))
    |false=>
     rw[if_neg (by rw[hw];decide)]
     exact ih _ _ _ _ (Ext.rfl.put _ _) hx.2 (hh.put_same hd (v:=.opt false v) fun h=>by cases h)
   ·have plain:(b=true→st c S o.dst i K)∧(b=false→K (S.put o.dst noV))→(if Region.wanted o (yielded ops a.tmps)then o.wp c.P a w next Q∨(o.asks c.P a w∧LetsOut Q)else next (a.put o.dst undef) w):=by
     intro hx
     cases b with
     |true=>
      rw[if_pos hw]
      exact .inl (U4 hh hc hd (hx.1 rfl) ih)
     |false=>
      rw[if_neg (by rw[hw];decide)]
      exact ih _ ρ _ _ (Ext.rfl.put _ _) (hx.2 rfl) (by have:=hh.put_same hd (Qj S.nx);rwa [R6]at this)
    cases i with
    |call f args=>
     simp only[gst]at hx
     split at hx
     ·rename_i p vs hrd
      obtain⟨hp,hg⟩:=hx
      obtain⟨h1,h2⟩:=hg ρ a w hh
      cases b with
      |true=>
       rw[if_pos hw]
       refine .inl (U4 (K:=K) hh hc hd ?_ ih)
       simp only[st,hrd]
       refine⟨hp rfl,fun ρ2 a2 w2 hh2=> ?_⟩
       exact(hg ρ2 a2 w2 hh2).1 rfl
      |false=>
       rw[if_neg (by rw[hw];decide)]
       obtain⟨v,hvb,hvd,hK2⟩:=h2 rfl
       have:=hh.put_same hd hvb
       rw[hvd]at this
       exact ih _ ρ _ _ (Ext.rfl.put _ _) hK2 this
     ·exact hx.elim
    |_=>exact plain hx
section
variable {c:Cx} {ops:Array Oper} {Q:Exit→Act→World→Prop} {ρ0:Env} {R0:List (Nat×Res)} {nx0:Nat} {U:List Nat}
def Sj(c:Cx)(ρ0:Env)(R0:List (Nat×Res))(nx0:Nat)(U:List Nat)(j:Nat)(w:World):Prop:=Mem c ρ0 [] nx0 w∧(U.contains j=true→Mem c ρ0 R0 nx0 w)
theorem A9{w0:World}(h0:Mem c ρ0 R0 nx0 w0){S:St}{ρ:Env}{a:Act}{w:World}(hs:Qv nx0 ρ0 ρ)(hn:nx0≤S.nx)(hh:S.holds c ρ a w){o:Oper}{x:In}(hx:Xs c.P c.nt ops o=some x){m:Bool}{r:DT}{K:St→Prop}
 (he:exD c R0 (.take x m r) S K):∃v S',YieldsIf c.P ops (fun w'=>Mem c ρ0 (bif m then R0 else[]) nx0 w') o v a∧S'.holds c ρ (a.put o.dst v) w∧S'.nx=S.nx∧exD c R0 r S' K∧(m=true→Lk S R0):=by
 obtain⟨hc,hdst,hd,hg⟩:=Uc hx
 obtain⟨g,d,i⟩:=x
 simp only at hc hdst hg
 subst hdst
 have hold:∀w',Mem c ρ0 (bif m then R0 else[]) nx0 w'→(St.mk S.slots (bif m then R0 else[]) S.nx).holds c ρ a w':=fun w' hw'=>⟨hh.nodef,hh.sz,hh.lown,hh.slot,hh.bds,hw'.widen hs hh.mem.one hn⟩
 have hrun:∀ {p v},ev ⟨S.slots,bif m then R0 else[],S.nx⟩ i=some (p,v)→p→∀w',Mem c ρ0 (bif m then R0 else[]) nx0 w'→(execOp a.eval o).run c.P w'= .ok (.value (v.den ρ)) w'∧v.bd S.nx:=fun hev hp w' hw'=>Wd (hold w' hw') hc hev hp
 have hat:(m=true→Lk S R0)→Mem c ρ0 (bif m then R0 else[]) nx0 w:=fun hm=>by
  cases m with
  |true=>exact h0.restrict hh.mem hs (Ll (hm rfl))
  |false=>
   have h00:Mem c ρ0 [] nx0 w0:=⟨h0.os,h0.tape,h0.output,h0.size,h0.block,h0.one,List.nodup_nil,(fun n r h=>nomatch h),(fun n r h=>nomatch h),List.nodup_nil,(fun b hb=>nomatch hb)⟩
   exact h00.restrict hh.mem hs (fun p hp=>nomatch hp)
 cases g with
 |none=>
  simp only at hg
  have hw:Region.wanted o (yielded ops a.tmps)=true:=by simp[Region.wanted,hg]
  rw[I1]at he
  obtain⟨hm,he⟩:=he
  split at he
  ·rename_i p v hev
   have hbd:=(hrun hev he.1 w (hat hm)).2
   exact⟨v.den ρ,_,.inl ⟨hw,fun w' hw'=>(hrun hev he.1 w' hw').1⟩,hh.put_same hd hbd,Yg _ _ _,he.2,hm⟩
  ·exact he.elim
 |some g=>
  obtain⟨t,want⟩:=g
  obtain⟨hlow,j,hgd,hj⟩:=hg
  rw[I2]at he
  obtain⟨hm,he⟩:=he
  split at he
  ·exact he.elim
  ·rename_i b hgdc
   have hw:=Sy hh hgd hj hlow hgdc
   split at he
   ·rename_i p v hev
    cases b with
    |true=>
     have hbd:=(hrun hev (he.1 rfl) w (hat hm)).2
     exact⟨v.den ρ,_,.inl ⟨hw,fun w' hw'=>(hrun hev (he.1 rfl) w' hw').1⟩,hh.put_same hd (v:=.opt true v) fun _=>hbd,Yg _ _ _,he.2,hm⟩
    |false=>
     exact⟨undef,_,.inr ⟨hw,rfl⟩,hh.put_same hd (v:=.opt false v) (fun h=>by cases h),Yg _ _ _,he.2,hm⟩
   ·exact he.elim
theorem G5{w0:World}(h0:Mem c ρ0 R0 nx0 w0)(hns:Region.noSelect ops=true)(hQ:∀p a w,¬Q (.panic p) a w){K:St→Prop}(hK:∀S' ρ' a' w',K S'→S'.holds c ρ' a' w'→Q .normal a' w'):
 ∀(it:IT) (t:DT) (listed:Array Bool) (rs:Option (List Nat)) (S:St) (ρ:Env) (a:Act) (w:World) (fuel:Nat),K4 c.P c.nt ops U it=some t→okI ops U it listed rs=true→Qv nx0 ρ0 ρ→nx0≤S.nx→S.holds c ρ a w→exD c R0 t S K→
  match rs with
  |none=>it.depth≤fuel→Nc c.P .any ops Q (Sj c ρ0 R0 nx0 U) fuel listed a w
  |some l=>it.depth≤fuel+1→∀i∈l,wpOp c.P ops Q i (fun a' w'=>Sj c ρ0 R0 nx0 U i w'∧Nc c.P .any ops Q (Sj c ρ0 R0 nx0 U) fuel (listed.setIfInBounds i true) a' w') a w:=by
 have h00:Mem c ρ0 [] nx0 w0:=⟨h0.os,h0.tape,h0.output,h0.size,h0.block,h0.one,List.nodup_nil,(fun n r h=>nomatch h),(fun n r h=>nomatch h),List.nodup_nil,(fun b hb=>nomatch hb)⟩
 intro it
 induction it with
 |done=>
  intro t listed rs S ρ a w fuel hf hok hs hn hh he
  cases hf
  cases rs with
  |some l=>simp[okI]at hok
  |none=>
   intro _
   simp only[okI,List.isEmpty_iff]at hok
   exact Zag hok (hK _ _ _ _ he hh) fuel
 |stop=>
  intro t listed rs S ρ a w fuel hf hok hs hn hh he
  match rs,hok with
  |some [],_=>intro _ i hi;cases hi
  |some (_::_),hok=>simp[okI]at hok
  |none,hok=>simp[okI]at hok
 |take i m D V r ih=>
  intro t listed rs S ρ a w fuel hf hok hs hn hh he
  cases rs with
  |some l=>simp[okI]at hok
  |none=>
   intro hdep
   simp only[IT.depth]at hdep
   obtain⟨fuel,rfl⟩:∃f,fuel=f+1:=⟨fuel-1,by omega⟩
   simp only[okI,Bool.and_eq_true]at hok
   obtain⟨k1,k2,k3,k4,k5,k6,k7⟩:=hok
   simp only[K4]at hf
   split at hf
   ·rename_i x t' hx ht'
    cases hf
    obtain⟨o,ho,hx⟩:=Option.bind_eq_some_iff.1 hx
    obtain⟨v,S',hy,hh',hn',he',hm⟩:=A9 (ops:=ops) h0 hs hn hh hx he
    have hCw:Mem c ρ0 (bif m then R0 else[]) nx0 w:=by
     cases m with
     |true=>exact h0.restrict hh.mem hs (Ll (hm rfl))
     |false=>exact h00.restrict hh.mem hs (fun p hp=>nomatch hp)
    refine Dn (C:=fun w'=>Mem c ρ0 (bif m then R0 else[]) nx0 w') (D:=D) ho (Region.noSelect_spec hns) (fun p a w h=>(hQ p _ w h).elim) (fun w' hw'=> ?_) fuel listed a w (Region.free_spec ho k2) (fun j oj hoj hji hun hjD w' hw'=> ?_) (fun d hd=> ?_) (by simpa using k1) hy hCw ?_
    ·cases m with
     |true=>exact⟨h00.restrict hw' (fun _ _=>rfl) (fun p hp=>nomatch hp),fun _=>hw'⟩
     |false=>
      refine⟨hw',fun hU=> ?_⟩
      simp only[Bool.false_or,Bool.not_eq_true']at k6
      rw[k6]at hU;cases hU
    ·cases m with
     |false=>exact hw'.1
     |true=>
      refine hw'.2 ?_
      have hlt:j<ops.size:=(Array.getElem?_eq_some_iff.1 hoj).1
      have h4:=List.all_eq_true.1 k4 j (List.mem_range.2 hlt)
      simp only[Bool.or_eq_true,beq_iff_eq,hji,false_or,hun,Bool.false_eq_true]at h4
      rcases h4 with h4|h4
      ·exact absurd (by simpa using h4) hjD
      ·simp only[Bool.not_true,Bool.false_or]at k5
       exact List.all_eq_true.1 k5 j (by simpa using h4)
    ·have h3:=List.all_eq_true.1 k3 d hd
     simp only[Bool.and_eq_true,Bool.not_eq_true']at h3
     refine⟨h3.1,?_⟩
     have h5:=h3.2
     split at h5
     ·rename_i od hod
      obtain⟨e,he1,he2⟩:=Array.any_eq_true'.1 h5
      simp only[Bool.and_eq_true,Bool.or_eq_true,beq_iff_eq]at he2
      exact⟨od,hod,e,he1,he2.1,he2.2.imp id fun h=>by simpa using h⟩
     ·cases h5
    ·exact ih _ _ none _ _ _ _ _ ht' k7 hs (by omega) hh' he' (by omega)
   ·cases hf
 |alt i r rest ihr ihs=>
  intro t listed rs S ρ a w fuel hf hok hs hn hh he
  simp only[K4]at hf
  split at hf
  ·rename_i x t1 t2 hx ht1 ht2
   cases hf
   obtain⟨o,ho,hx⟩:=Option.bind_eq_some_iff.1 hx
   rw[Ef]at he
   have one:∀fuel,r.depth≤fuel→okI ops U r (listed.setIfInBounds i true) none=true→wpOp c.P ops Q i (fun a' w'=>Sj c ρ0 R0 nx0 U i w'∧Nc c.P .any ops Q (Sj c ρ0 R0 nx0 U) fuel (listed.setIfInBounds i true) a' w') a w:=by
    intro fuel hdep hok1
    unfold wpOp
    simp only[ho]
    refine Zfv hx (fun S' ρ' a' w' hext hk hh'=> ?_) he.1 hh
    have hs':Qv nx0 ρ0 ρ':=fun n hn0=>(hext.same n (Nat.lt_of_lt_of_le hn0 hn)).trans (hs n hn0)
    have hn':nx0≤S'.nx:=Nat.le_trans hn hext.le
    refine⟨⟨h00.restrict hh'.mem hs' (fun p hp=>nomatch hp),fun hU=>h0.restrict hh'.mem hs' (Ll (hk.1 hU))⟩,?_⟩
    exact ihr _ _ none _ _ _ _ _ ht1 hok1 hs' hn' hh' hk.2 hdep
   match rs,hok with
   |none,hok=>
    intro hdep
    simp only[IT.depth]at hdep
    obtain⟨fuel,rfl⟩:∃f,fuel=f+1:=⟨fuel-1,by omega⟩
    simp only[okI]at hok
    split at hok
    ·rename_i i0 l hr
     simp only[Bool.and_eq_true,beq_iff_eq]at hok
     obtain⟨rfl,k1,k2⟩:=hok
     have:=ihs _ _ (some l) _ _ _ _ fuel ht2 k2 hs hn hh he.2 (by omega)
     refine⟨fun h=>(by rw[hr]at h;cases h),fun j hj=> ?_⟩
     rw[hr]at hj
     rcases List.mem_cons.1 hj with rfl|hj
     ·exact one fuel (by omega) k1
     ·exact this j hj
    ·cases hok
   |some (i0::l),hok=>
    intro hdep
    simp only[IT.depth]at hdep
    simp only[okI,Bool.and_eq_true,beq_iff_eq]at hok
    obtain⟨rfl,k1,k2⟩:=hok
    have:=ihs _ _ (some l) _ _ _ _ fuel ht2 k2 hs hn hh he.2 (by omega)
    intro j hj
    rcases List.mem_cons.1 hj with rfl|hj
    ·exact one fuel (by omega) k1
    ·exact this j hj
   |some [],hok=>simp[okI]at hok
  ·cases hf
end
inductive IC where
 |skip
 |reg (l:List In)
 |dreg (l:List In)
 |dregt (h t:List In)
 |dany (t:DT)
 |seq (a b:IC)
 |cond (x:Opd) (a b:IC)
 |block (id:Nat) (b:IC)
 |loop (b:IC)
 |exit (id:Nat)
 |ret
def I.pure:I→Bool
 |.alloc _ _=>false
 |.box _ _=>false
 |.store _ _ _=>false
 |.call _ _=>false
 |.callv _ _=>false
 |.bsl _ _ _ _ _=>false
 |.bsl0 _ _=>false
 |.app _ _ _ _ _ _=>false
 |.s2b _=>false
 |.mkmap _ _ _ _=>false
 |.mupd _ _ _ _ _ _ _=>false
 |.sl _ _ _ _=>false
 |.mks _ _ _ _ _=>false
 |.apps _ _ _ _=>false
 |.b2s _=>false
 |.frz _=>false
 |.fmk=>false
 |.fupd _ _ _=>false
 |.flook _ _ _=>false
 |.frng _=>false
 |.fnxt _=>false
 |.fent _=>false
 |.cpy _ _ _ _=>false
 |.slA _ _=>false
 |_=>true
def I.quiet(i:I):Bool:=match i with
 |.call _ _=>true
 |i=>i.pure
def Zdt:List In→Bool
 | []=>true
 |x::l=>x.i.pure&&Zdt l
def D9:List In→Bool
 | []=>true
 |x::l=>x.i.quiet&&D9 l
def plainTy(P:Program)(t:TypeId):Bool:=match P.underlying t with
 |some (.pointer _)=>false
 |some (.slice _)=>false
 |some (.map _ _)=>false
 |_=>true
def Zge(P:Program):I→Bool
 |.call f _=>(match P.funcs[f]? with
  |some fn=>(fn.params.all fun t=>(match P.underlying t with
   |some (.pointer _)=>false
   |_=>true))&&fn.resultTypes.all (plainTy P)
  |none=>true)
 |_=>true
def Ho(P:Program):List In→Bool
 | []=>true
 |x::l=>Zge P x.i&&Ho P l
def tailAt(ops:Array Oper)(l:List In):Option Nat:=(List.range ops.size).find? fun n=>Region.lexTailB .any ops n&&Zdt (l.take n)
def I.nomem:I→Bool
 |.mv _=>true
 |.bin _ _ _=>true
 |.un _ _=>true
 |.conv _ _=>true
 |.fld _ _ _ _=>true
 |.ext _ _=>true
 |.build _ _=>true
 |.slen _=>true
 |.ssl _ _ _=>true
 |.aeq _ _ _ _=>true
 |.beq _ _ _=>true
 |.sidx _ _=>true
 |.pick _ _ _=>true
 |_=>false
def I.makes:I→Bool
 |.bsl0 _ _=>true
 |.bsl _ _ _ _ _=>true
 |.app _ _ _ _ _ _=>true
 |.apps _ _ _ _=>true
 |.frz _=>true
 |.alloc _ _=>true
 |.box _ _=>true
 |.mkmap _ _ _ _=>true
 |.fmk=>true
 |_=>false
def Mf(ins:List In):Opd→Bool
 |.t t=>ins.any fun y=>y.d==some t&&y.i.makes
 |_=>false
def I.hard(ins:List In):I→Bool
 |.store _ x _=> !Mf ins x
 |.app _ _ _ _ x _=> !Mf ins x
 |.apps _ _ x _=> !Mf ins x
 |.frz x=> !Mf ins x
 |.mupd _ _ _ _ x _ _=> !Mf ins x
 |.fupd x _ _=> !Mf ins x
 |.cpy _ _ x _=> !Mf ins x
 |.fnxt _=>true
 |_=>false
def N8(ops:Array Oper)(listed:Array Bool)(i:Nat):List Nat:=
 (List.range ops.size).foldl (fun D j=>if(!listed.getD j true&&(j !=i&&(match ops[j]? with
   |some o=>o.after.any fun e=>Region.binds .any e&&(e.on==i||D.contains e.on)
   |none=>false)))=true then D++[j]else D) []
def Hn(ops:Array Oper)(listed:Array Bool)(i:Nat)(D:List Nat):List Nat:=(List.range ops.size).filter fun j=> !listed.getD j true&&(j !=i&& !D.contains j)
def isI(ins:List In)(p:I→Bool)(i:Nat):Bool:=match ins[i]? with
 |some x=>p x.i
 |none=>false
def Il(ins:List In)(ops:Array Oper):Nat→Array Bool→List Nat→IT
 |0,_,_=>.done
 |n+1,listed,U=>
  match Region.ready .any ops listed with
  | []=>.done
  | [i]=>if isI ins I.nomem i&& !U.contains i then .take i false (N8 ops listed i) (Hn ops listed i (N8 ops listed i)) (Il ins ops n (listed.setIfInBounds i true) U)else .alt i (Il ins ops n (listed.setIfInBounds i true) U) .stop
  |rs=>match rs.find? (fun i=>isI ins I.pure i&&(Region.free .any ops listed i&&((isI ins I.nomem i&& !U.contains i)||(((Hn ops listed i (N8 ops listed i)).all fun j=> !isI ins (I.hard ins) j)&&((Hn ops listed i (N8 ops listed i)).isEmpty||(N8 ops listed i).all fun j=> !isI ins (I.hard ins) j)))))with
   |some i=>
    let D:=N8 ops listed i
    let V:=Hn ops listed i D
    let m:= !isI ins I.nomem i||U.contains i
    .take i m D V (Il ins ops n (listed.setIfInBounds i true) (bif m then U++V else U))
   |none=>rs.foldr (fun i t=>.alt i (Il ins ops n (listed.setIfInBounds i true) U) t) .stop
def B6(ins:List In):Nat→Opd→Bool
 |0,_=>false
 |n+1,.t y=>(match ins.find? fun x=>x.d==some y with
  |some x=>(match x.i with
   |.faddr _ z=>B6 ins n z
   |_=>false)
  |none=>true)
 |_,_=>false
def I.loose(ins:List In):I→Bool
 |.nchk _=>true
 |.faddr _ _=>true
 |.iarr _ _ _ _=>true
 |.load _ _ x=>B6 ins 8 x
 |i=>i.nomem
def Zau(ins:List In)(ops:Array Oper):Nat→Array Bool→IT
 |0,_=>.done
 |n+1,listed=>
  match Region.ready .any ops listed with
  | []=>.done
  |rs=>match rs.find? (fun i=>isI ins (I.loose ins) i&&Region.free .any ops listed i)with
   |some i=>
    let D:=N8 ops listed i
    .take i true D (Hn ops listed i D) (Zau ins ops n (listed.setIfInBounds i true))
   |none=>rs.foldr (fun i t=>.alt i (Zau ins ops n (listed.setIfInBounds i true)) t) .stop
def hasArr(l:List In):Bool:=l.any fun x=>match x.i with
 |.iarr _ _ _ _=>true
 |.slA _ _=>true
 |.app0 _ _=>true
 |_=>false
def Zji(P:Program)(nt:Nat)(ops:Array Oper)(l:List In):Option DT:=
 let it:=bif hasArr l then Zau l ops (ops.size+1) (Array.replicate ops.size false)else Il l ops (ops.size+1) (Array.replicate ops.size false) []
 let U:=it.uses
 if Region.noSelect ops=true∧okI ops U it (Array.replicate ops.size false) none=true∧it.depth≤ops.size then K4 P nt ops U it else none
def Wv(P:Program)(nt:Nat):Code→Option IC
 |.skip=>some .skip
 |.region _ ops draw=>if draw=true then(match ops.toList.mapM (Xs P nt ops)with
    |some l=>if(Region.lexB .any ops=true∧D9 l=true)∧Ho P l=true then some (.dreg l)else(match tailAt ops l with|some n=>some (.dregt (l.take n) (l.drop n))|none=>(match Zji P nt ops l with|some t=>some (.dany t)|none=>none))
    |none=>none)
  else(match ops.toList.mapM (Xs P nt ops)with|some l=>some (.reg l)|none=>none)
 |.seq a b=>match Wv P nt a,Wv P nt b with|some x,some y=>some (.seq x y)|_,_=>none
 |.cond c a b=>match Wv P nt a,Wv P nt b with|some x,some y=>some (.cond (opd c) x y)|_,_=>none
 |.block id b=>match Wv P nt b with|some x=>some (.block id x)|none=>none
 |.loop b=>match Wv P nt b with|some x=>some (.loop x)|none=>none
 |.exit id=>some (.exit id)
 |.ret=>some .ret
 |_=>none
def Zij(c:Cx)(Q:Exit→St→Prop)(e:Exit)(a:Act)(w:World):Prop:=∃S ρ,S.holds c ρ a w∧Q e S
def T(c:Cx)(x:IC)(Q:Exit→St→Prop)(S:St):Prop:=∀ρ a w,S.holds c ρ a w→∀code,Wv c.P c.nt code=some x→code.wp c.P (Zij c Q) a w
def Ent(c:Cx)(S S2:St):Prop:=∀ρ a w,S.holds c ρ a w→∃ρ',S2.holds c ρ' a w
def Lo(N:St→Prop)(Q:Exit→St→Prop):Exit→St→Prop
 |.normal,S=>N S
 |e,S=>Q e S
def N7(id:Nat)(Q:Exit→St→Prop):Exit→St→Prop
 |.exit i,S=>if i=id then Q .normal S else Q (.exit i) S
 |e,S=>Q e S
section
variable {c:Cx} {Q:Exit→St→Prop} {S:St}
theorem Ent.refl(S:St):Ent c S S:=fun ρ a w h=>⟨ρ,h⟩
theorem T.weak{S2:St}{x:IC}(h:Ent c S S2)(ht:T c x Q S2):T c x Q S:=fun ρ a w hh=>by
 obtain⟨ρ',h2⟩:=h ρ a w hh
 exact ht ρ' a w h2
theorem T.skip(h:Q .normal S):T c .skip Q S:=by
 intro ρ a w hh code hc
 cases code<;>simp only[Wv,reduceCtorEq]at hc
 ·exact wp_skip ⟨S,ρ,hh,h⟩
 all_goals(repeat' split at hc)<;>cases hc
theorem Ck{P:Program}{nt:Nat}{code:Code}{l:List In}(hc:Wv P nt code=some (.reg l)):∃id ops,code= .region id ops false∧ops.toList.mapM (Xs P nt ops)=some l:=by
 cases code
 case region id ops draw=>
  simp only[Wv]at hc
  by_cases hd:draw=true
  ·rw[if_pos hd]at hc;(repeat' split at hc)<;>cases hc
  ·rw[if_neg hd]at hc
   split at hc
   ·rename_i l' hl;cases hc;exact⟨id,ops,by rw[Bool.not_eq_true]at hd;rw[hd],hl⟩
   ·cases hc
 all_goals simp only[Wv,reduceCtorEq]at hc<;>(repeat' split at hc)<;>cases hc
theorem Zfo{P:Program}{nt:Nat}{code:Code}{l:List In}(hc:Wv P nt code=some (.dreg l)):∃id ops,code= .region id ops true∧Region.lexB .any ops=true∧ops.toList.mapM (Xs P nt ops)=some l:=by
 cases code
 case region id ops draw=>
  simp only[Wv]at hc
  by_cases hd:draw=true
  ·rw[if_pos hd]at hc
   split at hc
   ·rename_i l' hl
    split at hc
    ·rename_i hB;cases hc;exact⟨id,ops,by rw[hd],hB.1.1,hl⟩
    ·(repeat' split at hc)<;>cases hc
   ·cases hc
  ·rw[if_neg hd]at hc;(repeat' split at hc)<;>cases hc
 all_goals simp only[Wv,reduceCtorEq]at hc<;>(repeat' split at hc)<;>cases hc
theorem Zay{P:Program}{nt:Nat}{code:Code}{h t:List In}(hc:Wv P nt code=some (.dregt h t)):∃id ops n l,code= .region id ops true∧Region.lexTailB .any ops n=true∧ops.toList.mapM (Xs P nt ops)=some l∧h=l.take n∧t=l.drop n:=by
 cases code
 case region id ops draw=>
  simp only[Wv]at hc
  by_cases hd:draw=true
  ·rw[if_pos hd]at hc
   split at hc
   ·rename_i l' hl
    split at hc
    ·cases hc
    ·split at hc
     ·rename_i n hn
      cases hc
      have:=List.find?_some hn
      simp only[Bool.and_eq_true]at this
      exact⟨id,ops,n,l',by rw[hd],this.1,hl,rfl,rfl⟩
     ·split at hc<;>cases hc
   ·cases hc
  ·rw[if_neg hd]at hc;(repeat' split at hc)<;>cases hc
 all_goals simp only[Wv,reduceCtorEq]at hc<;>(repeat' split at hc)<;>cases hc
theorem G0{P:Program}{nt:Nat}{code:Code}{t:DT}(hc:Wv P nt code=some (.dany t)):∃id ops it,code= .region id ops true∧Region.noSelect ops=true∧okI ops it.uses it (Array.replicate ops.size false) none=true∧it.depth≤ops.size∧K4 P nt ops it.uses it=some t:=by
 cases code
 case region id ops draw=>
  simp only[Wv]at hc
  by_cases hd:draw=true
  ·rw[if_pos hd]at hc
   split at hc
   ·rename_i l' hl
    split at hc
    ·cases hc
    ·split at hc
     ·cases hc
     ·split at hc
      ·rename_i t' ht
       cases hc
       unfold Zji at ht
       simp only at ht
       split at ht
       ·rename_i h
        exact⟨id,ops,_,by rw[hd],h.1,h.2.1,h.2.2,ht⟩
       ·cases ht
      ·cases hc
   ·cases hc
  ·rw[if_neg hd]at hc;(repeat' split at hc)<;>cases hc
 all_goals simp only[Wv,reduceCtorEq]at hc<;>(repeat' split at hc)<;>cases hc
theorem Cm{P:Program}{nt:Nat}{code:Code}{x y:IC}(hc:Wv P nt code=some (.seq x y)):∃a b,code= .seq a b∧Wv P nt a=some x∧Wv P nt b=some y:=by
 cases code<;>simp only[Wv,reduceCtorEq]at hc<;>(repeat' split at hc)<;>cases hc
 exact⟨_,_,rfl,by assumption,by assumption⟩
theorem Zfn{P:Program}{nt:Nat}{code:Code}{o:Opd}{x y:IC}(hc:Wv P nt code=some (.cond o x y)):∃p a b,code= .cond p a b∧opd p=o∧Wv P nt a=some x∧Wv P nt b=some y:=by
 cases code<;>simp only[Wv,reduceCtorEq]at hc<;>(repeat' split at hc)<;>cases hc
 exact⟨_,_,_,rfl,rfl,by assumption,by assumption⟩
theorem Zax{P:Program}{nt id:Nat}{code:Code}{x:IC}(hc:Wv P nt code=some (.block id x)):∃a,code= .block id a∧Wv P nt a=some x:=by
 cases code<;>simp only[Wv,reduceCtorEq]at hc<;>(repeat' split at hc)<;>cases hc
 exact⟨_,rfl,by assumption⟩
theorem Zfp{P:Program}{nt:Nat}{code:Code}{x:IC}(hc:Wv P nt code=some (.loop x)):∃a,code= .loop a∧Wv P nt a=some x:=by
 cases code<;>simp only[Wv,reduceCtorEq]at hc<;>(repeat' split at hc)<;>cases hc
 exact⟨_,rfl,by assumption⟩
theorem T.ret(h:Q .ret S):T c .ret Q S:=by
 intro ρ a w hh code hc
 cases code<;>simp only[Wv,reduceCtorEq]at hc
 case ret=>exact wp_ret ⟨S,ρ,hh,h⟩
 all_goals(repeat' split at hc)<;>cases hc
theorem T.exit{id:Nat}(h:Q (.exit id) S):T c (.exit id) Q S:=by
 intro ρ a w hh code hc
 cases code<;>simp only[Wv,reduceCtorEq]at hc
 case exit i=>cases hc;exact wp_exit ⟨S,ρ,hh,h⟩
 all_goals(repeat' split at hc)<;>cases hc
theorem T.reg{l:List In}(h:ex c l S (Q .normal)):T c (.reg l) Q S:=by
 intro ρ a w hh code hc
 obtain⟨id,ops,rfl,hl⟩:=Ck hc
 refine wp_region_list ?_
 exact M7 ops.toList l hl (Q .normal) S ρ a w (fun S' ρ' a' w' _ hQ hS=>⟨S',ρ',hS,hQ⟩) h hh
theorem L8{N:St→Prop}{e:Exit}{a:Act}{w:World}(h:Zij c (Lo N Q) e a w):Exit.then (fun a w=>∃S ρ,S.holds c ρ a w∧N S) (Zij c Q) e a w:=by
 obtain⟨S,ρ,h1,h2⟩:=h
 cases e<;>exact⟨S,ρ,h1,h2⟩
theorem T.seq{x y:IC}(h:T c x (Lo (T c y Q) Q) S):T c (.seq x y) Q S:=by
 intro ρ a w hh code hc
 obtain⟨p,q,rfl,h1,h2⟩:=Cm hc
 refine wp_seq (wp_mono (h ρ a w hh p h1) fun e a w hl=> ?_)
 have:=L8 hl
 cases e with
 |normal=>
  obtain⟨S',ρ',g1,g2⟩:=this
  exact g2 ρ' a w g1 q h2
 |_=>exact this
theorem T.regs{l:List In}{y:IC}(h:ex c l S (T c y Q)):T c (.seq (.reg l) y) Q S:=T.seq (T.reg h)
theorem T.cut{x y:IC}{ι:Type}(F:ι→St)(h:T c x (Lo (fun S'=>∃i,Ent c S' (F i)) Q) S)(hy:∀i,T c y Q (F i)):T c (.seq x y) Q S:=by
 intro ρ a w hh code hc
 obtain⟨p,q,rfl,h1,h2⟩:=Cm hc
 refine wp_seq (wp_mono (h ρ a w hh p h1) fun e a w hl=> ?_)
 have:=L8 hl
 cases e with
 |normal=>
  obtain⟨S',ρ',g1,i,g2⟩:=this
  obtain⟨ρ2,g3⟩:=g2 ρ' a w g1
  exact hy i ρ2 a w g3 q h2
 |_=>exact this
def Is(S:St)(o:Opd)(A B:Prop):Prop:=match S.rd o with
 |some (p,.a (.bool g))=>p∧(g=true→A)∧(g=false→B)
 |_=>False
theorem T.cond{o:Opd}{x y:IC}(h:Is S o (T c x Q S) (T c y Q S)):T c (.cond o x y) Q S:=by
 intro ρ a w hh code hc
 obtain⟨p,l,r,rfl,ho,h1,h2⟩:=Zfn hc
 subst ho
 unfold Is at h
 split at h
 ·rename_i q g hrd
  obtain⟨e1,_⟩:=Zd hh hrd h.1
  exact wp_cond_split (t:=g) e1 (fun hg=>h.2.1 hg ρ a w hh l h1) (fun hg=>h.2.2 hg ρ a w hh r h2)
 ·exact h.elim
theorem T.block{id:Nat}{x:IC}(h:T c x (N7 id Q) S):T c (.block id x) Q S:=by
 intro ρ a w hh code hc
 obtain⟨p,rfl,h1⟩:=Zax hc
 refine wp_block (wp_mono (h ρ a w hh p h1) fun e a w hl=> ?_)
 obtain⟨S',ρ',g1,g2⟩:=hl
 cases e with
 |exit i=>
  simp only[N7]at g2
  simp only[Exit.inBlock]
  by_cases hi:i=id
  ·rw[if_pos hi]at g2 ⊢;exact⟨S',ρ',g1,g2⟩
  ·rw[if_neg hi]at g2 ⊢;exact⟨S',ρ',g1,g2⟩
 |_=>exact⟨S',ρ',g1,g2⟩
theorem least{p:Nat→Prop}(h:∃n,p n):∃n,p n∧∀m,p m→n≤m:=by
 obtain⟨n,hn⟩:=h
 induction n using Nat.strongRecOn with
 |_ n ih=>
  by_cases hx:∃m,m<n∧p m
  ·obtain⟨m,h1,h2⟩:=hx;exact ih m h1 h2
  ·exact⟨n,hn,fun m hm=>Nat.le_of_not_lt fun hlt=>hx ⟨m,hlt,hm⟩⟩
open Classical in
theorem T.loop{ι:Type}(F:ι→St)(μ:ι→Nat)(x0:ι)(h0:Ent c S (F x0)){b:IC}(round:∀x,T c b (Lo (fun S'=>∃x',Ent c S' (F x')∧μ x'<μ x) Q) (F x)):T c (.loop b) Q S:=by
 intro ρ a w hh code hc
 obtain⟨p,rfl,h1⟩:=Zfp hc
 let I:Act→World→Prop:=fun a w=>∃x ρ,(F x).holds c ρ a w
 have hmin:∀a w,I a w→∃n,(∃x ρ,(F x).holds c ρ a w∧μ x=n)∧∀x ρ,(F x).holds c ρ a w→n≤μ x:=by
  intro a w ⟨x,ρ,h⟩
  obtain⟨n,h1,h2⟩:=least (p:=fun n=>∃x ρ,(F x).holds c ρ a w∧μ x=n) ⟨_,x,ρ,h,rfl⟩
  exact⟨n,h1,fun y ρ' hy=>h2 _ ⟨y,ρ',hy,rfl⟩⟩
 let m:Act→World→Nat:=fun a w=>if h:I a w then(hmin a w h).choose else 0
 refine wp_loop I m (by obtain⟨ρ',h'⟩:=h0 ρ a w hh;exact⟨x0,ρ',h'⟩) ?_
 intro a w hI
 obtain⟨⟨x,ρ1,hx,hxm⟩,hle⟩:=(hmin a w hI).choose_spec
 refine wp_mono (round x ρ1 a w hx p h1) fun e a' w' hl=> ?_
 have:=L8 hl
 cases e with
 |normal=>
  obtain⟨S',ρ',g1,x',g2,g3⟩:=this
  obtain⟨ρ2,g4⟩:=g2 ρ' a' w' g1
  have hI':I a' w':=⟨x',ρ2,g4⟩
  refine⟨hI',?_⟩
  have e1:m a w=μ x:=by simp only[m,dif_pos hI];exact hxm.symm
  have e2:m a' w'≤μ x':=by
   simp only[m,dif_pos hI']
   exact(hmin a' w' hI').choose_spec.2 x' ρ2 g4
  omega
 |_=>exact this
end
def At.ren(σ:Nat→Nat):At→At
 |.ref n=>.ref (σ n)
 |.loc n o=>.loc (σ n) o
 |.elt n sz i j=>.elt (σ n) sz i j
 |.clo f ms=>.clo f (ms.map σ)
 |x=>x
def S1.ren(σ:Nat→Nat):S1→S1
 |.a x=>.a (x.ren σ)
 |.agg l=>.agg (l.map (At.ren σ))
def SV.ren(σ:Nat→Nat):SV→SV
 |.one x=>.one (x.ren σ)
 |.tup l=>.tup (l.map (S1.ren σ))
 |.opt g x=>.opt g (x.ren σ)
def Res.ren(σ:Nat→Nat):Res→Res
 |.cells E l=>.cells E (l.map (At.ren σ))
 |.lit E sz m l=>.lit E sz m (l.map (At.ren σ))
 |.rocells l=>.rocells (l.map (At.ren σ))
 |.view m sz lo hi=>.view (σ m) sz lo hi
 |.arr m o n=>.arr (σ m) o n
 |.fiter m q seen=>.fiter (σ m) q seen
 |r=>r
theorem At.ren_den(σ:Nat→Nat)(ρ:Env)(x:At):(x.ren σ).den ρ=x.den fun n=>ρ (σ n):=by
 cases x<;>first|rfl|(simp only[At.ren,At.den,List.map_map];rfl)
theorem O0(σ:Nat→Nat)(ρ:Env)(l:List At):(l.map (At.ren σ)).map (At.den ρ)=l.map (At.den fun n=>ρ (σ n)):=by
 rw[List.map_map];exact List.map_congr_left fun x _=>At.ren_den σ ρ x
theorem S1.ren_den(σ:Nat→Nat)(ρ:Env)(x:S1):(x.ren σ).den ρ=x.den fun n=>ρ (σ n):=by
 cases x with
 |a x=>exact At.ren_den σ ρ x
 |agg l=>simp only[S1.ren,S1.den,O0]
theorem SV.ren_den(σ:Nat→Nat)(ρ:Env)(x:SV):(x.ren σ).den ρ=x.den fun n=>ρ (σ n):=by
 cases x with
 |one x=>exact S1.ren_den σ ρ x
 |tup l=>simp only[SV.ren,SV.den,List.map_map];congr 2;exact List.map_congr_left fun x _=>S1.ren_den σ ρ x
 |opt g x=>simp only[SV.ren,SV.den,S1.ren_den]
def bnd(nx:Nat):List (Nat×SV)→Prop
 | []=>True
 |(_,v)::l=>v.bd nx∧bnd nx l
def Tz(σ:Nat→Nat)(S:St):List (Nat×SV)→Prop
 | []=>True
 |(t,v)::l=>S.get t=some (v.ren σ)∧Tz σ S l
def O9(σ:Nat→Nat)(S:St)(nx:Nat):List (Nat×Res)→Prop
 | []=>True
 |(n,r)::l=>(S.find (σ n)=some (r.ren σ)∧n<nx∧r.bd nx)∧O9 σ S nx l
theorem Lm{σ:Nat→Nat}{S:St}:∀ {l:List (Nat×SV)} {t:Nat} {v:SV},Tz σ S l→Zo l t=some v→S.get t=some (v.ren σ)
 |(m,x)::l,t,v,h,hl=>by
  rcases look_cons hl with⟨rfl,rfl⟩|⟨_,hl⟩
  ·exact h.1
  ·exact Lm h.2 hl
theorem Zdu{nx:Nat}:∀ {l:List (Nat×SV)} {t:Nat} {v:SV},bnd nx l→Zo l t=some v→v.bd nx
 |(m,x)::l,t,v,h,hl=>by
  rcases look_cons hl with⟨rfl,rfl⟩|⟨_,hl⟩
  ·exact h.1
  ·exact Zdu h.2 hl
theorem Mm{σ:Nat→Nat}{S:St}{nx:Nat}:∀ {l:List (Nat×Res)} {n:Nat} {r:Res},O9 σ S nx l→(n,r)∈l→S.find (σ n)=some (r.ren σ)∧n<nx∧r.bd nx
 |(m,x)::l,n,r,h,hm=>by
  rcases List.mem_cons.1 hm with e|hm
  ·cases e;exact h.1
  ·exact Mm h.2 hm
theorem Res.ren_block(σ:Nat→Nat)(ρ:Env)(n:Nat)(r:Res):(r.ren σ).block ρ (σ n)=r.block (fun n=>ρ (σ n)) n:=by cases r<;>rfl
theorem Te.sub{O O':List Nat}{w:World}{base:Nat}{a1:Option Addr}{ls:List Ln}(hO:∀b∈O',b∈O)(h:Te w O base a1 ls):Te w O' base a1 ls:=
 ⟨h.1,fun ad1 had1=>⟨(h.2 ad1 had1).1,fun j y hy q u hu=>let⟨h1,h2,h3⟩:=(h.2 ad1 had1).2 j y hy q u hu;⟨h1,fun hm=>h2 (hO _ hm),h3⟩⟩⟩
theorem Res.ren_holds{σ:Nat→Nat}{ρ:Env}{O O':List Nat}{n:Nat}{w:World}{r:Res}(hO:∀b∈O',b∈O)(h:(r.ren σ).holds ρ O (σ n) w):r.holds (fun n=>ρ (σ n)) O' n w:=by
 cases r with
 |cells E l=>
  obtain⟨b,h1,h2⟩:=h
  exact⟨b,h1,by rw[O0]at h2;exact h2⟩
 |row E k l=>
  simp only[Res.holds,Res.ren]at h ⊢
  rw[k.encs_den l ρ fun n=>ρ (σ n)]
  exact h
 |lit E sz m l=>
  obtain⟨b,h1,h2,h3⟩:=h
  exact⟨b,h1,by simpa using h2,by rw[O0]at h3;exact h3⟩
 |rocells l=>
  obtain⟨a,h1,h2⟩:=h
  refine⟨a,h1,fun j u hu=> ?_⟩
  have:=h2 j (u.ren σ) (by simp[hu])
  rw[At.ren_den]at this
  exact⟨this.1,fun hm=>this.2 (hO _ hm)⟩
 |ro k l=>
  obtain⟨a,cap,h1,h2,h3⟩:=h
  refine⟨a,cap,h1,h2,fun ad had=>⟨(h3 ad had).1,fun i x hx j u hu=> ?_⟩⟩
  have:=(h3 ad had).2 i x hx j u hu
  rw[k.enc_at x ρ (fun n=>ρ (σ n)) hu]
  exact⟨this.1,fun hm=>this.2 (hO _ hm)⟩
 |fact Φ=>exact fun w' hk=>h w' fun b o hb hn=>hk b o hb fun hm=>hn (hO _ hm)
 |smap P K E k f m=>exact h
 |rosmap P K E k f m=>
  obtain⟨b,es,clock,h1,h2,h3⟩:=h
  exact⟨b,es,clock,h1,⟨h2.1,fun hm=>h2.2 (hO _ hm)⟩,h3⟩
 |rou l=>
  obtain⟨a,cap,h1,h2,h3⟩:=h
  refine⟨a,cap,h1,h2,fun ad had=>⟨(h3 ad had).1,fun i x hx=> ?_⟩⟩
  obtain⟨g1,a1,cap1,g2,g3⟩:=(h3 ad had).2 i x hx
  exact⟨⟨g1.1,fun hm=>g1.2 (hO _ hm)⟩,a1,cap1,⟨⟨g2.1.1,fun hm=>g2.1.2 (hO _ hm)⟩,g2.2⟩,g3.sub hO⟩
 |urow base E l=>
  obtain⟨us,h1,h2,h3⟩:=h
  exact⟨us,h1,h2,fun i u x hu hx=>⟨(h3 i u x hu hx).1,(h3 i u x hu hx).2.1,(h3 i u x hu hx).2.2.sub hO⟩⟩
 |fn P g=>exact fun w' hk=>h w' fun b o hb hn=>hk b o hb fun hm=>hn (hO _ hm)
 |view m sz lo hi=>exact h
 |arr m o n=>exact h
 |fmap l=>exact h
 |fiter m q seen=>exact h
theorem He(σ:Nat→Nat):∀(l:List (Nat×Res)),(l.map fun p=>σ p.1).Nodup→(l.map Prod.fst).Nodup
 | [],_=>List.nodup_nil
 |p::l,h=>by
  simp only[List.map_cons,List.nodup_cons]at h ⊢
  refine⟨fun hm=>h.1 ?_,He σ l h.2⟩
  obtain⟨q,hq,he⟩:=List.mem_map.1 hm
  exact List.mem_map.2 ⟨q,hq,by rw[he]⟩
theorem Ent.mk{c:Cx}{S S2:St}(σ:Nat→Nat)(h1:Tz σ S S2.slots)(h2:O9 σ S S2.nx S2.res)(h3:bnd S2.nx S2.slots)(h4:(S2.res.map fun p=>σ p.1).Nodup):Ent c S S2:=by
 intro ρ a w hh
 refine⟨fun n=>ρ (σ n),hh.nodef,hh.sz,hh.lown,fun t v hv=> ?_,fun t v hv=>Zdu h3 hv,?_⟩
 ·rw[←SV.ren_den];exact hh.slot t _ (Lm h1 hv)
 ·have hm:=hh.mem
  have hmem:∀n r,(n,r)∈S2.res→(σ n,r.ren σ)∈S.res:=fun n r hr=>Zg (Mm h2 hr).1
  have hsub:∀b∈Zp (fun n=>ρ (σ n)) S2.res,b∈Zp ρ S.res:=by
   intro b hb
   obtain⟨p,hp,hpb⟩:=List.mem_filterMap.1 hb
   refine List.mem_filterMap.2 ⟨(σ p.1,p.2.ren σ),hmem p.1 p.2 hp,?_⟩
   rw[Res.ren_block];exact hpb
  refine⟨hm.os,hm.tape,hm.output,hm.size,hm.block,fun n=>hm.one _,?_,fun n r hr=>Res.ren_holds hsub (hm.res _ _ (hmem n r hr)),fun n r hr=>(Mm h2 hr).2,?_,fun b hb=>hm.lt b (hsub b hb)⟩
  ·exact He σ S2.res h4
  ·have key:∀(l:List (Nat×Res)),(∀p∈l,p∈S2.res)→(l.map fun p=>σ p.1).Nodup→(Zp (fun n=>ρ (σ n)) l).Nodup:=by
    intro l
    induction l with
    |nil=>intro _ _;exact List.nodup_nil
    |cons p l ih=>
     intro hin hnd
     simp only[List.map_cons,List.nodup_cons]at hnd
     have ih':=ih (fun q hq=>hin q (by simp[hq])) hnd.2
     unfold Zp
     rw[List.filterMap_cons]
     split
     ·exact ih'
     ·rename_i b hb
      refine List.nodup_cons.2 ⟨fun hmem2=> ?_,ih'⟩
      obtain⟨q,hq,hqb⟩:=List.mem_filterMap.1 hmem2
      have hp1:=hmem p.1 p.2 (hin p (by simp))
      have hq1:=hmem q.1 q.2 (hin q (by simp[hq]))
      have hpb:(p.2.ren σ).block ρ (σ p.1)=some b:=by rw[Res.ren_block];exact hb
      have hqb':(q.2.ren σ).block ρ (σ q.1)=some b:=by rw[Res.ren_block];exact hqb
      have hne:σ q.1≠σ p.1:=fun e=>hnd.1 (by rw[←e];exact List.mem_map.2 ⟨q,hq,rfl⟩)
      have h5:=Yh (ds:=[σ p.1]) hm.keys hm.nodup hp1 (by simp) hpb
      refine h5 (List.mem_filterMap.2 ⟨(σ q.1,q.2.ren σ),List.mem_filter.2 ⟨hq1,?_⟩,hqb'⟩)
      simp[hne]
   exact key S2.res (fun _ h=>h) h4
theorem Ent.trans{c:Cx}{S1 S2 S3:St}(h:Ent c S1 S2)(h':Ent c S2 S3):Ent c S1 S3:=fun ρ a w hh=>by
 obtain⟨ρ',h2⟩:=h ρ a w hh
 exact h' ρ' a w h2
theorem Ent.litRow{c:Cx}{S:St}{m E z e:Nat}{l:List At}(k:Kd)(xs:List k.ty)(hf:S.find m=some (.lit E z e l))(hl:xs.flatMap k.enc=l)(he:xs.length=e)(hz:z=k.sz)(hmax:e≤4611686018427387904):
 Ent c S ⟨S.slots,upd S.res m (.row E k xs),S.nx⟩:=fun ρ a w hh=>⟨ρ,hh.litRow hf k xs hl he hz hmax⟩
theorem Mem.nilRow{c:Cx}{ρ:Env}{R:List (Nat×Res)}{nx:Nat}{w:World}(h:Mem c ρ R nx w)(E:Nat)(k:Kd):Mem c (Z9 ρ nx (.slice none 0 0)) ((nx,.row E k [])::R) (nx+1) w:=by
 have:=Mem.step (ρ':=Z9 ρ nx (.slice none 0 0)) (nx':=nx+1) (w':=w) (ds:=[]) (m:=nx) (r:=.row E k []) (D:=[]) h
  (Zi ρ nx _) (by omega) (Y0 h.one rfl) rfl rfl rfl (Nat.le_refl _) (fun b o hb _=>hb) (by simp) (by omega) (.inr (Nat.le_refl _)) trivial
  (fun b hb=>by simp only[Res.block,Zm,Value.ownBlock]at hb;cases hb)
  (fun O' _ _=>by simp only[Res.holds,Zm];exact World.ownsRow_nil w 0 E k.sz)
 rwa [Xj]at this
theorem Ent.nilRow{c:Cx}{S:St}{t:Nat}(E:Nat)(k:Kd)(ht:S.get t=some (.one (.a (.raw (.slice none 0 0))))):Ent c S ⟨(t,.one (.a (.ref S.nx)))::S.slots,(S.nx,.row E k [])::S.res,S.nx+1⟩:=fun ρ a w hh=>by
 refine⟨Z9 ρ S.nx (.slice none 0 0),hh.nodef,hh.sz,hh.lown,fun u v hu=> ?_,fun u v hu=> ?_,hh.mem.nilRow E k⟩
 ·rcases look_cons hu with⟨rfl,rfl⟩|⟨hne,hu'⟩
  ·rw[hh.slot _ _ ht];simp only[SV.den,S1.den,At.den,Zm]
  ·rw[SV.den_same (Zi ρ S.nx _) (hh.bds u v hu')];exact hh.slot u v hu'
 ·rcases look_cons hu with⟨rfl,rfl⟩|⟨hne,hu'⟩
  ·exact Nat.lt_succ_self _
  ·exact SV.bd_mono (Nat.le_succ _) (hh.bds u v hu')
theorem Ent.nilCell{c:Cx}{S:St}{m E0 j:Nat}{l:List At}(E:Nat)(k:Kd)(hf:S.find m=some (.cells E0 l))(hj:l[j]? =some (.raw (.slice none 0 0))):
 Ent c S ⟨S.slots,(m,.cells E0 (l.set j (.ref S.nx)))::del ((S.nx,.row E k [])::S.res) [m],S.nx+1⟩:=fun ρ a w hh=>by
 have h1:=hh.mem.nilRow E k
 have hm:=Zg hf
 obtain⟨b,hv,hb⟩:=hh.mem.res m _ hm
 have hlt:=(hh.mem.bdr m _ hm).1
 have hv':Z9 ρ S.nx (.slice none 0 0) m= .pointer (some ⟨b,0,none⟩):=by rw[Zi ρ S.nx _ m hlt];exact hv
 have h2:=h1.rewrite (m:=m) (r:=.cells E0 l) (r':=.cells E0 (l.set j (.ref S.nx))) (g:=b) (List.mem_cons_of_mem _ hm) (by simp[Res.block,hv']) (by simp[Res.block,hv']) rfl rfl rfl rfl (fun _ _=>rfl)
  (fun u hu=>by
    rcases List.mem_or_eq_of_mem_set hu with hu|rfl
    ·exact At.bd_mono (Nat.le_succ _) ((hh.mem.bdr m _ hm).2 u hu)
    ·exact Nat.lt_succ_self _)
  fun O'=>⟨b,hv',by
   have hl:(l.set j (.ref S.nx)).map (At.den (Z9 ρ S.nx (.slice none 0 0)))=l.map (At.den ρ):=by
    rw[List.map_set,Vi (Zi ρ S.nx _) (hh.mem.bdr m _ hm).2]
    apply List.ext_getElem?
    intro q
    rw[List.getElem?_set]
    split
    ·rename_i e
     subst e
     have hjl:j<l.length:=(List.getElem?_eq_some_iff.1 hj).1
     rw[if_pos (by simpa using hjl),List.getElem?_map,hj]
     simp only[At.den,Zm,Option.map_some]
    ·rfl
   rw[hl];exact hb⟩
 refine⟨Z9 ρ S.nx (.slice none 0 0),hh.nodef,hh.sz,hh.lown,fun u v hu=> ?_,fun u v hu=>SV.bd_mono (Nat.le_succ _) (hh.bds u v hu),h2⟩
 rw[SV.den_same (Zi ρ S.nx _) (hh.bds u v hu)];exact hh.slot u v hu
theorem Ent.smapLe{c:Cx}{S:St}{m:Nat}{P:Program}{K E:TypeId}{k:Kd}{f:List UInt8→Option k.ty}{n:Nat}(n':Nat)(hf:S.find m=some (.smap P K E k f n))(hn:n≤n'):
 Ent c S ⟨S.slots,upd S.res m (.smap P K E k f n'),S.nx⟩:=fun ρ a w hh=>by
 have hm:=Zg hf
 obtain⟨b,es,clock,h1,h2,h3,h4,h5⟩:=hh.mem.res m _ hm
 exact⟨ρ,hh.nodef,hh.sz,hh.lown,hh.slot,hh.bds,hh.mem.rewrite (g:=b) hm (by simp[Res.block,h1]) (by simp[Res.block,h1]) rfl rfl rfl rfl (fun _ _=>rfl) trivial fun O'=>⟨b,es,clock,h1,h2,h3,Nat.le_trans h4 hn,h5⟩⟩
end Vc
end Go.Proofs.YtddmlennnmpnhaaGreatDoor
