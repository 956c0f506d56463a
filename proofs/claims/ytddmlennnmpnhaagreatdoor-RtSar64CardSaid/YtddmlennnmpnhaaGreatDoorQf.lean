/- A part of the proofs of this seat's laws: steps on the way, joined. It has no conditions of its own. -/
import Derived.Test.YtddmlennnmpnhaaGreatDoorQe
import Derived.Test.YtddmlennnmpnhaaGreatDoorRows
import Derived.SizedLaws
import Derived.Carry
import Derived.OpenShut
import Derived.ProofKit
import Derived.Deep.Slices
namespace Go.Proofs.YtddmlennnmpnhaaGreatDoor
namespace Vc
open Go.RowKit
set_option linter.unusedVariables false
set_option linter.unusedSimpArgs false
theorem Mem.drew{c:Cx}{ρ:Env}{R:List (Nat×Res)}{nx:Nat}{w:World}(h:Mem c ρ R nx w):Mem c ρ R nx {w with drawn:=w.drawn+1}:=
 h.grow rfl rfl rfl (Nat.le_refl _) fun _ _ ho _=>ho
theorem Mem.toBelow{P:Program}{w0 w:World}{nt:Nat}{ρ:Env}{R:List (Nat×Res)}{nx:Nat}(h:Mem ⟨P,w0,[],nt,[]⟩ ρ R nx w):Below w0.heap.size w0 w:=
 ⟨h.os,h.tape,h.output,h.size,fun k hk=>h.block k hk (by simp)⟩
inductive RV where
 |tmp (t:Nat)
 |cell (t n:Nat) (agg:Bool)
def Ir(P:Program):List ResultVar→Option (List RV)
 | []=>some []
 |.tmp t::r=>if t<BIG then(match Ir P r with|some l=>some (.tmp t::l)|none=>none)else none
 |.cell t T::r=>if BIG≤t then none else match P.underlying T,P.info? T,Ir P r with|some d,some i,some l=>some (.cell t i.size (Wj d)::l)|_,_,_=>none
def rvs(S:St):List RV→Option (List S1)
 | []=>some []
 |.tmp t::r=>match S.get t,rvs S r with
  |some (.one v),some l=>some (v::l)
  |_,_=>none
 |.cell t n agg::r=>match S.get t,rvs S r with
  |some (.one (.a (.loc m o))),some l=>(match S.find m with
   |some (.cells _ cs)=>(match Vh cs o n agg with
    |some (.one v)=>some (v::l)
    |_=>none)
   |_=>none)
  |_,_=>none
def Hj:List S1→SV
 | [v]=>.one v
 |l=>.tup l
def Jt(tmps:Array Value):ResultVar→Sem Value
 |.tmp t=>pure (tmps.getD t undef)
 |.cell q t=>do loadVar t (←asAddr (tmps.getD q undef))
theorem Zbz(fn:Func)(tmps:Array Value):results fn tmps=(do let vs ←fn.results.mapM (Jt tmps);pure (if h:vs.size=1 then vs[0]else .tuple vs)):=rfl
theorem Kg{c:Cx}{S:St}{ρ:Env}{a:Act}{w:World}(hh:S.holds c ρ a w):∀ {rs:List ResultVar} {rl:List RV} {vs:List S1},Ir c.P rs=some rl→rvs S rl=some vs→
 (rs.mapM (Jt a.tmps):Sem (List Value)).run c.P w= .ok (vs.map (S1.den ρ)) w∧∀v∈vs,v.bd S.nx
 | [],rl,vs,h1,h2=>by cases h1;cases h2;exact⟨by rw[List.mapM_nil,Sem.run_pure];rfl,by simp⟩
 |.tmp t::rs,rl,vs,h1,h2=>by
  simp only[Ir]at h1
  split at h1
  rotate_left
  ·cases h1
  rename_i hlow
  split at h1
  ·rename_i l hl
   cases h1
   simp only[rvs]at h2
   split at h2
   ·rename_i v l' hg hr
    cases h2
    obtain⟨ih1,ih2⟩:=Kg hh hl hr
    have e1:=hh.slot _ _ hg
    rw[Uf hlow]at e1
    refine⟨?_,fun x hx=> ?_⟩
    ·rw[List.mapM_cons]
     simp only[Sem.run_bind,Jt,Sem.run_pure,Result.andThen_ok,ih1]
     simp[Array.getD_eq_getD_getElem?,e1,SV.den]
    ·rcases List.mem_cons.1 hx with rfl|hx
     ·exact hh.bds _ _ hg
     ·exact ih2 x hx
   ·cases h2
  ·cases h1
 |.cell q T::rs,rl,vs,h1,h2=>by
  simp only[Ir]at h1
  split at h1
  ·cases h1
  rename_i hlow
  split at h1
  ·rename_i d i l hd hi hl
   cases h1
   simp only[rvs]at h2
   split at h2
   ·rename_i m o l' hg hr
    split at h2
    ·rename_i E cs hf
     split at h2
     ·rename_i v hld
      cases h2
      obtain⟨ih1,ih2⟩:=Kg hh hl hr
      have e1:=hh.slot _ _ hg
      rw[Uf (Nat.lt_of_not_le hlow)]at e1
      obtain⟨b,hv,hb⟩:=hh.mem.res m _ (Zg hf)
      obtain⟨g1,g2⟩:=Ti (c:=c) (P:=c.P) (ρ:=ρ) (w:=w) (a:=⟨b,o,none⟩) hd hi hld (hh.mem.bdr _ _ (Zg hf)).2 rfl fun j u hu=>by
       rw[cell_of_row w b _ _ E (0,0) hb];simp[hu]
      have e2:a.tmps.getD q undef= .pointer (some ⟨b,o,none⟩):=by
       simp[Array.getD_eq_getD_getElem?,e1,SV.den,S1.den,At.den,hv,Wk]
      refine⟨?_,fun x hx=> ?_⟩
      ·rw[List.mapM_cons]
       have e3:(Jt a.tmps (.cell q T)).run c.P w= .ok (v.den ρ) w:=by
        show(do loadVar T (←asAddr (a.tmps.getD q undef)):Sem Value).run c.P w=_
        rw[e2,Sem.run_bind]
        exact g1
       simp only[Sem.run_bind,e3,Sem.run_pure,Result.andThen_ok,ih1,List.map_cons]
      ·rcases List.mem_cons.1 hx with rfl|hx
       ·exact g2
       ·exact ih2 x hx
     ·cases h2
    ·cases h2
   ·cases h2
  ·cases h1
theorem Nz{c:Cx}{S:St}{ρ:Env}{a:Act}{w:World}(hh:S.holds c ρ a w){fn:Func}{rl:List RV}{vs:List S1}(h1:Ir c.P fn.results.toList=some rl)(h2:rvs S rl=some vs):
 (results fn a.tmps).run c.P w= .ok ((Hj vs).den ρ) w∧(Hj vs).bd S.nx:=by
 obtain⟨g1,g2⟩:=Kg hh h1 h2
 refine⟨?_,?_⟩
 ·rw[Zbz,Array.mapM_eq_mapM_toList]
  simp only[map_eq_pure_bind,Sem.run_bind,Result.andThen_ok,Sem.run_pure]
  rw[g1]
  simp only[Result.andThen_ok,Sem.run_pure]
  match vs with
  | []=>rfl
  | [v]=>rfl
  |v::u::l=>simp[Hj,SV.den]
 ·match vs,g2 with
  | [],_=>intro x hx;cases hx
  | [v],g2=>exact g2 v (by simp)
  |v::u::l,g2=>exact g2
def Q6(c:Cx)(rl:List RV)(R:SV→St→Prop):Exit→St→Prop
 |.normal,S=>match rvs S rl with|some vs=>R (Hj vs) S|none=>False
 |.ret,S=>match rvs S rl with|some vs=>R (Hj vs) S|none=>False
 |_,_=>False
structure Body (P:Program) (f:Nat) (nt:Nat) (x:IC) (rl:List RV):Prop where
 lown:nt≤BIG
 ok:∃fn code,P.funcs[f]? =some fn∧fn.body=some code∧fn.ntmps=nt∧Wv P nt code=some x∧Ir P fn.results.toList=some rl
theorem Body.calls{P:Program}{f nt:Nat}{x:IC}{rl:List RV}(hF:Body P f nt x rl){w:World}{X:List Nat}{fr:List Value}{args:Array Value}{S:St}{ρ:Env}{R:SV→St→Prop}{Post:Ending→World→Prop}
 (hlen:args.size≤nt)(hs:∀t v,S.get t=some v→(if t<BIG then args[t]? else fr[t-BIG]?)=some (v.den ρ)∧v.bd S.nx)(hm:Mem ⟨P,w,X,nt,fr⟩ ρ S.res S.nx w)(hT:T ⟨P,w,X,nt,fr⟩ x (Q6 ⟨P,w,X,nt,fr⟩ rl R) S)
 (hpost:∀v S' ρ' w',R v S'→v.bd S'.nx→Mem ⟨P,w,X,nt,fr⟩ ρ' S'.res S'.nx w'→Post (.returned (v.den ρ')) w'):Calls P f args w Post:=by
 obtain⟨fn,code,h1,h2,h3,h4,h5⟩:=hF.ok
 refine calls_of_wp h1 h2 ?_
 have hh:S.holds ⟨P,w,X,nt,fr⟩ ρ {tmps:=args++Array.replicate (fn.ntmps-args.size) undef,defers:=[]} w:=by
  refine⟨rfl,by simp[h3];omega,hF.lown,fun t v hv=> ?_,fun t v hv=>(hs t v hv).2,hm⟩
  have:=(hs t v hv).1
  unfold N1
  split
  rotate_left
  ·rename_i hb;rwa [if_neg hb]at this
  rename_i hb
  rw[if_pos hb]at this
  have hlt:t<args.size:=(Array.getElem?_eq_some_iff.1 this).1
  rw[Array.getElem?_append_left hlt];exact this
 refine wp_mono (hT ρ _ w hh code h4) fun e a' w' hl=> ?_
 obtain⟨S',ρ',g1,g2⟩:=hl
 have fin:(match rvs S' rl with|some vs=>R (Hj vs) S'|none=>False)→a'.defers=[]∧∃v,(results fn a'.tmps).run P w'= .ok v w'∧Post (.returned v) w':=by
  intro h
  split at h
  ·rename_i vs hvs
   obtain⟨r1,r2⟩:=Nz g1 h5 hvs
   exact⟨g1.nodef,_,r1,hpost _ _ _ _ h r2 g1.mem⟩
  ·exact h.elim
 cases e with
 |normal=>exact fin g2
 |ret=>exact fin g2
 |_=>exact g2.elim
def Y2:Nat→List S1→List (Nat×SV)
 |_,[]=>[]
 |i,v::l=>(i,.one v)::Y2 (i+1) l
theorem Si{ρ:Env}{nx:Nat}:∀ {vs:List S1} {i t:Nat} {v:SV},(∀v∈vs,v.bd nx)→Zo (Y2 i vs) t=some v→∃j,t=i+j∧(vs.map (S1.den ρ))[j]? =some (v.den ρ)∧v.bd nx
 |u::vs,i,t,v,hb,h=>by
  rcases look_cons h with⟨rfl,rfl⟩|⟨hne,h⟩
  ·exact⟨0,rfl,rfl,hb u (by simp)⟩
  ·obtain⟨j,h1,h2,h3⟩:=Si (ρ:=ρ) (fun v hv=>hb v (by simp[hv])) h
   exact⟨j+1,by omega,by simpa using h2,h3⟩
theorem Mem.none(P:Program)(w:World)(X:List Nat)(nt nx:Nat)(fr:List Value):Mem ⟨P,w,X,nt,fr⟩ (fun _=>Yz) [] nx w:=
 ⟨rfl,rfl,rfl,Nat.le_refl _,fun _ _ _=>rfl,fun _=>rfl,List.nodup_nil,(fun n r h=>nomatch h),(fun n r h=>nomatch h),List.nodup_nil,(fun b hb=>nomatch hb)⟩
theorem Body.plain{P:Program}{f nt:Nat}{x:IC}{rl:List RV}(hF:Body P f nt x rl){w:World}{vs:List S1}{R:SV→St→Prop}{Post:Ending→World→Prop}
 (hlen:vs.length≤nt)(hb:∀v∈vs,v.bd 0)(hT:T ⟨P,w,[],nt,[]⟩ x (Q6 ⟨P,w,[],nt,[]⟩ rl R) ⟨Y2 0 vs,[],0⟩)
 (hpost:∀v S' ρ' w',R v S'→v.bd S'.nx→Mem ⟨P,w,[],nt,[]⟩ ρ' S'.res S'.nx w'→Post (.returned (v.den ρ')) w'):Calls P f (vs.map (S1.den fun _=>Yz)).toArray w Post:=by
 refine hF.calls (S:=⟨Y2 0 vs,[],0⟩) (ρ:=fun _=>Yz) (by simpa using hlen) (fun t v hv=> ?_) (Mem.none P w [] nt 0 []) hT hpost
 obtain⟨j,h1,h2,h3⟩:=Si (ρ:=fun _=>Yz) hb hv
 simp only[Nat.zero_add]at h1
 subst h1
 have hjl:t<BIG:=by
  have:=(List.getElem?_eq_some_iff.1 h2).1
  have h4:=hF.lown
  simp only[List.length_map]at this
  omega
 exact⟨by rw[if_pos hjl];simpa using h2,h3⟩
theorem Body.quiet{P:Program}{f nt:Nat}{x:IC}{rl:List RV}(hF:Body P f nt x rl){w:World}{vs:List S1}{r:SV}
 (hlen:vs.length≤nt)(hb:∀v∈vs,v.bd 0)(hr:r.bd 0)(hT:T ⟨P,w,[],nt,[]⟩ x (Q6 ⟨P,w,[],nt,[]⟩ rl fun v _=>v=r) ⟨Y2 0 vs,[],0⟩):
 Calls P f (vs.map (S1.den fun _=>Yz)).toArray w fun e w'=>e= .returned (r.den fun _=>Yz)∧Below w.heap.size w w':=
 hF.plain hlen hb hT fun v S' ρ' w' hv _ hm=>⟨by rw[hv,SV.den_same (nx:=0) (ρ:=fun _=>Yz) (fun n hn=>by omega) hr],hm.toBelow⟩
theorem Oz{ρ:Env}{vs:List S1}(hb:∀v∈vs,v.bd 0):vs.map (S1.den ρ)=vs.map (S1.den fun _=>Yz):=
 List.map_congr_left fun v hv=>S1.den_same (nx:=0) (ρ:=fun _=>Yz) (fun n hn=>by omega) (hb v hv)
theorem Za.plain{c:Cx}{f:Nat}{args:List S1}{S:St}{K:SV→St→Prop}(r:SV)(h:∀w,Calls c.P f (args.map (S1.den fun _=>Yz)).toArray w fun e w'=>e= .returned (r.den fun _=>Yz)∧Below w.heap.size w w')
 (hb:∀v∈args,v.bd 0)(hr:r.bd 0)(hK:K r S):Za c f args S K:=by
 intro ρ a w hh
 rw[Oz hb]
 refine(h w).mono fun e w' ⟨he,hbl⟩=>⟨r,ρ,S,Ext.rfl,?_,SV.bd_mono (Nat.zero_le _) hr,hh.below hbl,hK⟩
 rw[he,SV.den_same (nx:=0) (ρ:=fun _=>Yz) (ρ':=ρ) (fun n hn=>by omega) hr]
def Zn(c:Cx)(f:Nat)(args:List S1)(S:St)(K:SV→Prop):Prop:=
 ∃v:SV,v.bd S.nx∧(∀ρ a w,S.holds c ρ a w→Calls c.P f (args.map (S1.den ρ)).toArray w fun e w'=>e= .returned (v.den ρ)∧Below w.heap.size w w')∧K v
def Zh(c:Cx)(b:Bool)(f:Nat)(args:List S1)(S:St)(K:SV→Prop):Prop:=
 ∃v:SV,(b=true→v.bd S.nx∧∀ρ a w,S.holds c ρ a w→Calls c.P f (args.map (S1.den ρ)).toArray w fun e w'=>e= .returned (v.den ρ)∧Below w.heap.size w w')∧(b=false→v.bd S.nx∧∀ρ,v.den ρ=undef)∧K v
def putK(K:St→Prop)(S:St)(d:Option Nat)(v:SV):Prop:=K (S.put d v)
def stq(c:Cx)(S:St)(d:Option Nat):I→(St→Prop)→Prop
 |.load n agg x,K=>match S.rd x with
  |some (p,.a (.elt m sz i j))=>(match S.find m with
   |some (.rou l)=>if sz=2 then(match agg,n,j with
    |true,2,0=>p∧i<l.length∧K (S.new (.ro .line (l.getD i ([],[])).2) d (.one (.agg [.str (l.getD i ([],[])).1,.ref S.nx])))
    |false,1,0=>p∧i<l.length∧K (S.put d (.one (.a (.str (l.getD i ([],[])).1))))
    |false,1,1=>p∧i<l.length∧K (S.new (.ro .line (l.getD i ([],[])).2) d (.one (.a (.ref S.nx))))
    |_,_,_=>False)else False
   |_=>False)
  |_=>False
 |.call f args,K=>match Rl S args with
  |some (p,vs)=>p∧Zn c f vs S (putK K S d)
  |none=>False
 |.pick cc x y,K=>match S.rd cc with
  |some (p,.a (.bool g))=>p∧(g=true→match S.rd x with
    |some (q,v)=>q∧K (S.put d (.one v))
    |none=>False)∧(g=false→match S.rd y with
    |some (q,v)=>q∧K (S.put d (.one v))
    |none=>False)
  |_=>False
 |_,_=>False
def Za6(c:Cx)(b:Bool)(S:St)(d:Option Nat)(i:I)(K:St→Prop):Prop:=
 match i with
 |.call f args=>(match Rl S args with
  |some (p,vs)=>(b=true→p)∧Zh c b f vs S (putK K S d)
  |none=>False)
 |i=>(b=true→stq c S d i K)∧(b=false→K (S.put d noV))
def exq(c:Cx):List In→St→(St→Prop)→Prop
 | [],S,K=>K S
 |⟨none,d,i⟩::r,S,K=>match ev S i with
  |some (p,v)=>p∧exq c r (S.put d v) K
  |none=>stq c S d i fun S'=>exq c r S' K
 |⟨some g,d,i⟩::r,S,K=>match gdc S g with
  |none=>False
  |some b=>match ev S i with
   |some (p,.one v)=>(b=true→p)∧exq c r (S.put d (.opt b v)) K
   |_=>Za6 c b S d i fun S'=>exq c r S' K
def exqK(c:Cx)(r:List In)(K:St→Prop)(S:St):Prop:=exq c r S K
theorem Zec(c:Cx)(S:St)(K:St→Prop):exq c [] S K=K S:=rfl
theorem C0(c:Cx)(d:Option Nat)(i:I)(r:List In)(S:St)(K:St→Prop):exq c (⟨none,d,i⟩::r) S K=(match ev S i with
 |some (p,v)=>p∧exq c r (S.put d v) K
 |none=>stq c S d i (exqK c r K)):=rfl
theorem C1(c:Cx)(g:Nat×Bool)(d:Option Nat)(i:I)(r:List In)(S:St)(K:St→Prop):exq c (⟨some g,d,i⟩::r) S K=(match gdc S g with
 |none=>False
 |some b=>match ev S i with
  |some (p,.one v)=>(b=true→p)∧exq c r (S.put d (.opt b v)) K
  |_=>Za6 c b S d i (exqK c r K)):=rfl
theorem St.holds.atw{S:St}{c:Cx}{ρ:Env}{a:Act}{w w':World}(h:S.holds c ρ a w)(hm:Mem c ρ S.res S.nx w'):S.holds c ρ a w':=⟨h.nodef,h.sz,h.lown,h.slot,h.bds,hm⟩
theorem Gm{c:Cx}{S:St}{ρ:Env}{a:Act}{w:World}(hh:S.holds c ρ a w){o:Oper}{n:Nat}{agg:Bool}{x:Opd}(hc:Nw c.P o=some (.load n agg x))(hd:∀t,o.dst=some t→t<c.nt){K:St→Prop}(hs:stq c S o.dst (.load n agg x) K):
 ∃u S' ρ',K S'∧(∀w',Below w.heap.size w w'→(execOp a.eval o).run c.P w'= .ok (.value u) w')∧S'.holds c ρ' (a.put o.dst u) w:=by
 have hc':∃t y dd j,o.op= .load t y∧c.P.underlying t=some dd∧c.P.info? t=some j∧n=j.size∧agg=Wj dd∧x=opd y:=by
  replace hc:=Ec hc rfl
  unfold Re at hc
  split at hc<;>(try(repeat' split at hc)<;>cases hc)
  exact⟨_,_,_,_,by assumption,by assumption,by assumption,rfl,rfl,rfl⟩
 obtain⟨t,y,dd,j,ho,ht,hi,rfl,hag,rfl⟩:=hc'
 simp only[stq]at hs
 split at hs
 ·rename_i p m sz ii jj hrd
  split at hs
  ·rename_i l hf
   split at hs
   ·rename_i hsz
    subst hsz
    split at hs
    ·rename_i hagg hsz
     obtain⟨hp,hlt,hK⟩:=hs
     obtain⟨e1,_⟩:=Zd hh hrd hp
     obtain⟨ad,cap,a1,cap1,g1,g2,g3,g4,g5⟩:=hh.mem.rou_cell (Zg hf) hlt
     have hm:=hh.mem.nameLines g4 g5
     have hput:=hh.put (Zi ρ S.nx _) (Nat.le_succ _) hm hd (v:=.one (.agg [.str (l.getD ii ([],[])).1,.ref S.nx])) (by intro u hu;simp only[List.mem_cons,List.not_mem_nil,or_false]at hu;rcases hu with rfl|rfl<;>simp[At.bd])
     have hden:(SV.one (.agg [.str (l.getD ii ([],[])).1,.ref S.nx])).den (Z9 ρ S.nx (.slice a1 (l.getD ii ([],[])).2.length cap1))= .agg #[.string ⟨(l.getD ii ([],[])).1.toArray⟩,.slice a1 (l.getD ii ([],[])).2.length cap1]:=by
      simp only[SV.den,S1.den,List.map_cons,List.map_nil,At.den,Zm]
     rw[hden]at hput
     refine⟨_,_,_,hK,fun w' hb=> ?_,hput⟩
     unfold execOp;simp only[ho]
     refine Y3 ?_
     rw[e1]
     simp only[S1.den,At.den,g1,V0,Instr.loadAt,Sem.run_bind,Ya,Result.andThen_ok]
     refine T8 ht hi hag.symm (cs:=[.string ⟨(l.getD ii ([],[])).1.toArray⟩,.slice a1 (l.getD ii ([],[])).2.length cap1]) hsz fun q v hq=> ?_
     rw[Addr.add_lit]
     match q,hq with
     |0,hq=>cases hq;exact(hb.cell (Xm g2)).trans g2
     |1,hq=>cases hq;exact(hb.cell (Xm g3)).trans g3
     |q+2,hq=>simp at hq
    ·rename_i hagg hsz
     obtain⟨hp,hlt,hK⟩:=hs
     obtain⟨e1,_⟩:=Zd hh hrd hp
     obtain⟨ad,cap,a1,cap1,g1,g2,g3,g4,g5⟩:=hh.mem.rou_cell (Zg hf) hlt
     refine⟨_,_,_,hK,fun w' hb=> ?_,hh.put_same hd (v:=.one (.a (.str (l.getD ii ([],[])).1))) trivial⟩
     unfold execOp;simp only[ho]
     refine Y3 ?_
     rw[e1]
     simp only[S1.den,At.den,g1,V0,Instr.loadAt,Sem.run_bind,Ya,Result.andThen_ok]
     exact Wr ht hag.symm ((hb.cell (Xm g2)).trans g2)
    ·rename_i hagg hsz
     obtain⟨hp,hlt,hK⟩:=hs
     obtain⟨e1,_⟩:=Zd hh hrd hp
     obtain⟨ad,cap,a1,cap1,g1,g2,g3,g4,g5⟩:=hh.mem.rou_cell (Zg hf) hlt
     have hm:=hh.mem.nameLines g4 g5
     have hput:=hh.put (Zi ρ S.nx _) (Nat.le_succ _) hm hd (v:=.one (.a (.ref S.nx))) (Nat.lt_succ_self _)
     have hden:(SV.one (.a (.ref S.nx))).den (Z9 ρ S.nx (.slice a1 (l.getD ii ([],[])).2.length cap1))= .slice a1 (l.getD ii ([],[])).2.length cap1:=by simp only[SV.den,S1.den,At.den,Zm]
     rw[hden]at hput
     refine⟨_,_,_,hK,fun w' hb=> ?_,hput⟩
     unfold execOp;simp only[ho]
     refine Y3 ?_
     rw[e1]
     simp only[S1.den,At.den,g1,V0,Instr.loadAt,Sem.run_bind,Ya,Result.andThen_ok]
     exact Wr ht hag.symm ((hb.cell (Xm g3)).trans g3)
    ·exact hs.elim
   ·exact hs.elim
  ·exact hs.elim
 ·exact hs.elim
theorem G9{c:Cx}{ops:Array Oper}{w0:World}:∀(ol:List Oper) (il:List In),ol.mapM (Xs c.P c.nt ops)=some il→∀(K:St→Prop) (S:St) (ρ:Env) (a:Act),
 exq c il S K→S.holds c ρ a w0→wpQuiet c.P ops (fun w=>Below w0.heap.size w0 w) (fun a'=>∃S' ρ',K S'∧S'.holds c ρ' a' w0) ol a
 | [],il,hm,K,S,ρ,a,hx,hh=>by
   rw[List.mapM_nil]at hm
   cases hm
   exact⟨S,ρ,hx,hh⟩
 |o::ol,il,hm,K,S,ρ,a,hx,hh=>by
  rw[List.mapM_cons]at hm
  cases h1:Xs c.P c.nt ops o with
  |none=>simp[h1]at hm
  |some x=>
   cases h2:ol.mapM (Xs c.P c.nt ops)with
   |none=>simp[h1,h2]at hm
   |some il'=>
    simp[h1,h2]at hm
    subst hm
    obtain⟨hc,hdst,hd,hg⟩:=Uc h1
    obtain⟨g,d,i⟩:=x
    simp only at hc hdst hg
    subst hdst
    have ih:∀S' ρ' a',exq c il' S' K→S'.holds c ρ' a' w0→wpQuiet c.P ops (fun w=>Below w0.heap.size w0 w) (fun a'=>∃S' ρ',K S'∧S'.holds c ρ' a' w0) ol a':=fun S' ρ' a' h1 h3=>G9 ol il' h2 K S' ρ' a' h1 h3
    have atw:∀ {w},Below w0.heap.size w0 w→S.holds c ρ a w:=fun hb=>hh.below hb
    have stq_ok:stq c S o.dst i (fun S'=>exq c il' S' K)→o.quiet c.P a (fun w=>Below w0.heap.size w0 w) (wpQuiet c.P ops (fun w=>Below w0.heap.size w0 w) (fun a'=>∃S' ρ',K S'∧S'.holds c ρ' a' w0) ol):=by
     intro hs
     cases i with
     |load n agg x=>
      obtain⟨u,S',ρ',hK,hrun,hS'⟩:=Gm hh hc hd hs
      refine⟨u,fun w hw=> ?_,ih _ _ _ hK hS'⟩
      unfold Oper.quietAt
      rw[hrun w hw]
      exact⟨rfl,rfl⟩
     |call f args=>
      simp only[stq]at hs
      split at hs
      ·rename_i p vs hrd
       obtain⟨hp,v,hvb,hcall,hK⟩:=hs
       refine⟨v.den ρ,fun w hw=> ?_,ih _ _ _ hK (hh.put_same hd hvb)⟩
       have hc':=Ec hc rfl
       unfold Re at hc'
       have hrun:∃cl f' fn,o.op= .call cl∧cl.callee= .value (.func f')∧c.P.funcs[f']? =some fn∧¬(fn.name== "runtime.NumGoroutine" ||fn.body.isNone)=true∧f=f'∧args=cl.args.toList.map opd:=by
        split at hc'<;>(try(repeat' split at hc')<;>cases hc')
        rename_i cl ho _ _ fn hnot hcal hfn
        exact⟨cl,_,fn,ho,hcal,hfn,hnot,rfl,rfl⟩
       obtain⟨cl,f',fn,ho,hcal,hfn,hnot,rfl,rfl⟩:=hrun
       have hargs:=Ue (atw hw) hrd hp
       have hargs':cl.args.map a.eval=(vs.map (S1.den ρ)).toArray:=by rw[←hargs,←Array.toList_map]
       have hx2:(execOp a.eval o).run c.P w= .ok (.enter f (vs.map (S1.den ρ)).toArray) w:=by
        simp only[Bool.or_eq_true,not_or,Bool.not_eq_true]at hnot
        unfold execOp
        simp only[ho,resolve,hcal,Act.eval,Deferred.ofValue,Sem.run_bind,Sem.run_pure,Result.andThen_ok,invoke,callFunc,program,Sem.run,hfn,hnot.1,hnot.2]
        simp[Sem.run_pure,hargs']
       unfold Oper.quietAt
       rw[hx2]
       exact⟨rfl,(hcall ρ a w (atw hw)).mono fun e w'' ⟨he,hb⟩=>⟨he,hw.trans (hb.mono hw.size)⟩⟩
      ·exact hs.elim
     |pick cc x y=>
      have hc':=Ec hc rfl
      unfold Re at hc'
      have hrun:∃cc' x' y',o.op= .pick cc' x' y'∧cc=opd cc'∧x=opd x'∧y=opd y':=by
       split at hc'<;>(try(repeat' split at hc')<;>cases hc')
       exact⟨_,_,_,by assumption,rfl,rfl,rfl⟩
      obtain⟨cc',x',y',ho,rfl,rfl,rfl⟩:=hrun
      simp only[stq]at hs
      split at hs
      ·rename_i p g hrd
       obtain⟨hp,hs1,hs2⟩:=hs
       obtain⟨e1,_⟩:=Zd hh hrd hp
       have fin:∀(q:Prop) (v:S1) (z:Operand),S.rd (opd z)=some (q,v)→q→(if g=true then z=x' else z=y')→exq c il' (S.put o.dst (.one v)) K→o.quiet c.P a (fun w=>Below w0.heap.size w0 w) (wpQuiet c.P ops (fun w=>Below w0.heap.size w0 w) (fun a'=>∃S' ρ',K S'∧S'.holds c ρ' a' w0) ol):=by
        intro q v z hrd2 hq hz hK
        obtain⟨e2,hb⟩:=Zd hh hrd2 hq
        refine⟨v.den ρ,fun w hw=> ?_,ih _ _ _ hK (hh.put_same hd (v:=.one v) hb)⟩
        have e1':a.eval cc'= .bool g:=e1
        unfold Oper.quietAt
        have:(execOp a.eval o).run c.P w= .ok (.value (v.den ρ)) w:=by
         unfold execOp
         simp only[ho,e1',asBool,Sem.run_bind,Sem.run_pure,Result.andThen_ok]
         cases g
         ·simp only[Bool.false_eq_true,if_false]at hz ⊢;rw[←hz,e2]
         ·simp only[if_true]at hz ⊢;rw[←hz,e2]
        rw[this]
        exact⟨rfl,rfl⟩
       cases g
       ·have:=hs2 rfl
        split at this
        ·rename_i q v hrd2;exact fin q v y' hrd2 this.1 (by simp) this.2
        ·exact this.elim
       ·have:=hs1 rfl
        split at this
        ·rename_i q v hrd2;exact fin q v x' hrd2 this.1 (by simp) this.2
        ·exact this.elim
      ·exact hs.elim
     |_=>exact hs.elim
    have ev_ok:∀ {p:Prop} {v:SV},ev S i=some (p,v)→p→∀w,Below w0.heap.size w0 w→o.quietAt c.P a (fun w=>Below w0.heap.size w0 w) w (v.den ρ):=by
     intro p v hev hp w hw
     obtain⟨g1,_⟩:=Wd (atw hw) hc hev hp
     unfold Oper.quietAt
     rw[g1]
     exact⟨rfl,rfl⟩
    unfold wpQuiet
    cases g with
    |none=>
     simp only at hg
     have hw:Region.wanted o (yielded ops a.tmps)=true:=by simp[Region.wanted,hg]
     rw[if_pos hw]
     unfold exq at hx
     split at hx
     ·rename_i p v hev
      exact⟨v.den ρ,ev_ok hev hx.1,ih _ _ _ hx.2 (hh.put_same hd (Wd hh hc hev hx.1).2)⟩
     ·exact stq_ok hx
    |some g=>
     obtain⟨t,want⟩:=g
     obtain⟨hlow,j,hgd,hj⟩:=hg
     unfold exq at hx
     split at hx
     ·exact hx.elim
     ·rename_i b hgdc
      have hw:=Sy hh hgd hj hlow hgdc
      split at hx
      ·rename_i p v hev
       cases b with
       |true=>
        rw[if_pos hw]
        exact⟨v.den ρ,ev_ok hev (hx.1 rfl),ih _ _ _ hx.2 (hh.put_same hd (v:=.opt true v) fun _=>(Wd hh hc hev (hx.1 rfl)).2)⟩
       |false=>
        rw[if_neg (by rw[hw];decide)]
        exact ih _ _ _ hx.2 (hh.put_same hd (v:=.opt false v) fun h=>by cases h)
      ·have skip:∀v:SV,b=false→v.bd S.nx→v.den ρ=undef→exq c il' (S.put o.dst v) K→(if Region.wanted o (yielded ops a.tmps)=true then o.quiet c.P a (fun w=>Below w0.heap.size w0 w) (wpQuiet c.P ops (fun w=>Below w0.heap.size w0 w) (fun a'=>∃S' ρ',K S'∧S'.holds c ρ' a' w0) ol)else wpQuiet c.P ops (fun w=>Below w0.heap.size w0 w) (fun a'=>∃S' ρ',K S'∧S'.holds c ρ' a' w0) ol (a.put o.dst undef)):=by
        intro v hb hvb hvd hK
        rw[if_neg (by rw[hw,hb];decide)]
        have hp:=hh.put_same hd hvb
        rw[hvd]at hp
        exact ih _ _ _ hK hp
       have plain:(b=true→stq c S o.dst i fun S'=>exq c il' S' K)∧(b=false→exq c il' (S.put o.dst noV) K)→(if Region.wanted o (yielded ops a.tmps)=true then o.quiet c.P a (fun w=>Below w0.heap.size w0 w) (wpQuiet c.P ops (fun w=>Below w0.heap.size w0 w) (fun a'=>∃S' ρ',K S'∧S'.holds c ρ' a' w0) ol)else wpQuiet c.P ops (fun w=>Below w0.heap.size w0 w) (fun a'=>∃S' ρ',K S'∧S'.holds c ρ' a' w0) ol (a.put o.dst undef)):=by
        intro hx
        cases b with
        |true=>rw[if_pos hw];exact stq_ok (hx.1 rfl)
        |false=>exact skip noV rfl (Qj _) (R6 ρ) (hx.2 rfl)
       cases i with
       |call f args=>
        simp only[Za6]at hx
        split at hx
        ·rename_i p vs hrd
         obtain⟨hp,v,h1,h2,hK⟩:=hx
         cases b with
         |true=>
          rw[if_pos hw]
          refine stq_ok ?_
          simp only[stq,hrd]
          exact⟨hp rfl,v,(h1 rfl).1,(h1 rfl).2,hK⟩
         |false=>exact skip v rfl (h2 rfl).1 ((h2 rfl).2 ρ) hK
        ·exact hx.elim
       |_=>exact plain hx
theorem T.dreg{c:Cx}{Q:Exit→St→Prop}{S:St}{l:List In}(hmix:c.P.follows .mixedOrders=true)(h:exq c l S (Q .normal)):T c (.dreg l) Q S:=by
 intro ρ a w hh code hc
 obtain⟨id,ops,rfl,hB,hl⟩:=Zfo hc
 have hh':S.holds c ρ a {w with drawn:=w.drawn+1}:=hh.atw hh.mem.drew
 refine wp_region_quiet (C:=fun w'=>Below {w with drawn:=w.drawn+1}.heap.size {w with drawn:=w.drawn+1} w') hmix hB (Below.refl _ _) ?_
 have hq:=G9 (w0:= {w with drawn:=w.drawn+1}) ops.toList l hl (Q .normal) S ρ a h hh'
 have mono:∀(l:List Oper) (a:Act) {C:World→Prop} {K K':Act→Prop},(∀a,K a→K' a)→wpQuiet c.P ops C K l a→wpQuiet c.P ops C K' l a:=by
  intro l
  induction l with
  |nil=>intro a C K K' hk h;exact hk _ h
  |cons o l ih=>
   intro a C K K' hk h
   unfold wpQuiet at h ⊢
   split
   ·rename_i hw
    rw[if_pos hw]at h
    exact Oper.quiet_mono (fun a h=>ih a hk h) h
   ·rename_i hw
    rw[if_neg hw]at h
    exact ih _ hk h
 refine mono _ _ (fun a' h=> ?_) hq
 obtain⟨S',ρ',hK,hS'⟩:=h
 intro w' hw'
 exact⟨S',ρ',hS'.below hw',hK⟩
def exh:List In→St→(St→Prop)→Prop
 | [],S,K=>K S
 |⟨none,d,i⟩::r,S,K=>match ev S i with
  |some (p,v)=>p∧exh r (S.put d v) K
  |none=>False
 |⟨some g,d,i⟩::r,S,K=>match gdc S g with
  |none=>False
  |some b=>match ev S i with
   |some (p,.one v)=>(b=true→p)∧exh r (S.put d (.opt b v)) K
   |_=>False
theorem Zeb(S:St)(K:St→Prop):exh [] S K=K S:=rfl
theorem Cy(d:Option Nat)(i:I)(r:List In)(S:St)(K:St→Prop):exh (⟨none,d,i⟩::r) S K=(match ev S i with
 |some (p,v)=>p∧exh r (S.put d v) K
 |none=>False):=rfl
theorem Cz(g:Nat×Bool)(d:Option Nat)(i:I)(r:List In)(S:St)(K:St→Prop):exh (⟨some g,d,i⟩::r) S K=(match gdc S g with
 |none=>False
 |some b=>match ev S i with
  |some (p,.one v)=>(b=true→p)∧exh r (S.put d (.opt b v)) K
  |_=>False):=rfl
theorem G8{c:Cx}{ops:Array Oper}{ρ:Env}{w:World}:∀(ol:List Oper) (il:List In),ol.mapM (Xs c.P c.nt ops)=some il→∀(K:St→Prop) (S:St) (a:Act),
 exh il S K→S.holds c ρ a w→wpStill c.P ops w (fun a'=>∃S',K S'∧S'.holds c ρ a' w) ol a
 | [],il,hm,K,S,a,hx,hh=>by
   rw[List.mapM_nil]at hm
   cases hm
   exact⟨S,hx,hh⟩
 |o::ol,il,hm,K,S,a,hx,hh=>by
  rw[List.mapM_cons]at hm
  cases h1:Xs c.P c.nt ops o with
  |none=>simp[h1]at hm
  |some x=>
   cases h2:ol.mapM (Xs c.P c.nt ops)with
   |none=>simp[h1,h2]at hm
   |some il'=>
    simp[h1,h2]at hm
    subst hm
    obtain⟨hc,hdst,hd,hg⟩:=Uc h1
    obtain⟨g,d,i⟩:=x
    simp only at hc hdst hg
    subst hdst
    have ih:∀S' a',exh il' S' K→S'.holds c ρ a' w→wpStill c.P ops w (fun a'=>∃S',K S'∧S'.holds c ρ a' w) ol a':=fun S' a' h1 h3=>G8 ol il' h2 K S' a' h1 h3
    unfold wpStill
    have run:∀ {p:Prop} {v:SV},ev S i=some (p,v)→p→∀ {next:Act→Prop},next (a.put o.dst (v.den ρ))→o.still c.P a w next:=by
     intro p v hev hp next hn
     obtain⟨g1,_⟩:=Wd hh hc hev hp
     unfold Oper.still
     rw[g1]
     exact⟨rfl,hn⟩
    cases g with
    |none=>
     simp only at hg
     have hw:Region.wanted o (yielded ops a.tmps)=true:=by simp[Region.wanted,hg]
     rw[if_pos hw]
     unfold exh at hx
     split at hx
     ·rename_i p v hev
      exact run hev hx.1 (ih _ _ hx.2 (hh.put_same hd (Wd hh hc hev hx.1).2))
     ·exact hx.elim
    |some g=>
     obtain⟨t,want⟩:=g
     obtain⟨hlow,j,hgd,hj⟩:=hg
     unfold exh at hx
     split at hx
     ·exact hx.elim
     ·rename_i b hgdc
      have hw:=Sy hh hgd hj hlow hgdc
      split at hx
      ·rename_i p v hev
       cases b with
       |true=>
        rw[if_pos hw]
        exact run hev (hx.1 rfl) (ih _ _ hx.2 (hh.put_same hd (v:=.opt true v) fun _=>(Wd hh hc hev (hx.1 rfl)).2))
       |false=>
        rw[if_neg (by rw[hw];decide)]
        exact ih _ _ hx.2 (hh.put_same hd (v:=.opt false v) fun h=>by cases h)
      ·exact hx.elim
theorem Fe{α β:Type}{f:α→Option β}:∀ {l:List α} {m:List β},l.mapM f=some m→∀n,(l.take n).mapM f=some (m.take n)∧(l.drop n).mapM f=some (m.drop n)
 | [],m,h,n=>by
   rw[List.mapM_nil]at h;cases h
   simp
 |x::l,m,h,n=>by
  rw[List.mapM_cons]at h
  cases h1:f x with
  |none=>simp[h1]at h
  |some y=>
   cases h2:l.mapM f with
   |none=>simp[h1,h2]at h
   |some m'=>
    simp[h1,h2]at h
    subst h
    cases n with
    |zero=>simp[List.mapM_cons,h1,h2]
    |succ n=>
     obtain⟨g1,g2⟩:=Fe h2 n
     refine⟨?_,by simpa using g2⟩
     simp[List.take_succ_cons,List.mapM_cons,h1,g1]
theorem T.dregt{c:Cx}{Q:Exit→St→Prop}{S:St}{hd tl:List In}(hmix:c.P.follows .mixedOrders=true)(h:exh hd S fun S'=>ex c tl S' (Q .normal)):T c (.dregt hd tl) Q S:=by
 intro ρ a w hh code hc
 obtain⟨id,ops,n,l,rfl,hB,hl,rfl,rfl⟩:=Zay hc
 obtain⟨h1,h2⟩:=Fe hl n
 have e:ops=ops.toList.toArray:=by simp
 have hh':S.holds c ρ a {w with drawn:=w.drawn+1}:=hh.atw hh.mem.drew
 have key:=G8 _ _ h1 _ S a h hh'
 rw[e]at hB key ⊢
 refine wp_region_still_tail n hmix hB ?_
 have mono:∀(l:List Oper) (a:Act) {K K':Act→Prop},(∀a,K a→K' a)→wpStill c.P ops.toList.toArray {w with drawn:=w.drawn+1} K l a→wpStill c.P ops.toList.toArray {w with drawn:=w.drawn+1} K' l a:=by
  intro l
  induction l with
  |nil=>intro a K K' hk h;exact hk _ h
  |cons o l ih=>
   intro a K K' hk h
   unfold wpStill at h ⊢
   split
   ·rename_i hw
    rw[if_pos hw]at h
    exact Oper.still_mono (fun a h=>ih a hk h) h
   ·rename_i hw
    rw[if_neg hw]at h
    exact ih _ hk h
 refine mono _ _ (fun a' hq=> ?_) key
 obtain⟨S',hK,hS'⟩:=hq
 rw[e]at h2
 exact M7 _ _ h2 (Q .normal) S' ρ a' _ (fun S2 ρ2 a2 w2 _ hQ hS2=>⟨S2,ρ2,hS2,hQ⟩) hK hS'
theorem T.dregts{c:Cx}{Q:Exit→St→Prop}{S:St}{hd tl:List In}{y:IC}(hmix:c.P.follows .mixedOrders=true)(h:exh hd S fun S'=>ex c tl S' (T c y Q)):T c (.seq (.dregt hd tl) y) Q S:=T.seq (T.dregt hmix h)
theorem T.dany{c:Cx}{Q:Exit→St→Prop}{S:St}{t:DT}(hmix:c.P.follows .mixedOrders=true)(h:exD c S.res t S (Q .normal)):T c (.dany t) Q S:=by
 intro ρ a w hh code hc
 obtain⟨id,ops,it,rfl,hns,hok,hdep,hf⟩:=G0 hc
 refine wp_region_noPanic ?_
 refine wp_region_any hmix ?_
 have hh':S.holds c ρ a {w with drawn:=w.drawn+1}:=hh.atw hh.mem.drew
 have:=G5 (Q:=NoPanic (Zij c Q)) hh'.mem hns (fun p a w h=>h) (K:=Q .normal) (fun S' ρ' a' w' hQ hS=>⟨S',ρ',hS,hQ⟩) it t (Array.replicate ops.size false) none S ρ a {w with drawn:=w.drawn+1} ops.size hf hok (fun _ _=>rfl) (Nat.le_refl _) hh' h hdep
 exact Mp _ _ _ _ this
theorem T.danyp(ps:List Nat){c:Cx}{Q:Exit→St→Prop}{S:St}{t:DT}(hmix:c.P.follows .mixedOrders=true)(h:exD c (wkR ps S.res) t S (Q .normal)):T c (.dany t) Q S:=by
 intro ρ a w hh code hc
 obtain⟨id,ops,it,rfl,hns,hok,hdep,hf⟩:=G0 hc
 refine wp_region_noPanic ?_
 refine wp_region_any hmix ?_
 have hh':S.holds c ρ a {w with drawn:=w.drawn+1}:=hh.atw hh.mem.drew
 have:=G5 (Q:=NoPanic (Zij c Q)) (hh'.mem.wk ps) hns (fun p a w h=>h) (K:=Q .normal) (fun S' ρ' a' w' hQ hS=>⟨S',ρ',hS,hQ⟩) it t (Array.replicate ops.size false) none S ρ a {w with drawn:=w.drawn+1} ops.size hf hok (fun _ _=>rfl) (Nat.le_refl _) hh' h hdep
 exact Mp _ _ _ _ this
theorem T.danyps(ps:List Nat){c:Cx}{Q:Exit→St→Prop}{S:St}{t:DT}{y:IC}(hmix:c.P.follows .mixedOrders=true)(h:exD c (wkR ps S.res) t S (T c y Q)):T c (.seq (.dany t) y) Q S:=T.seq (T.danyp ps hmix h)
theorem T.danys{c:Cx}{Q:Exit→St→Prop}{S:St}{t:DT}{y:IC}(hmix:c.P.follows .mixedOrders=true)(h:exD c S.res t S (T c y Q)):T c (.seq (.dany t) y) Q S:=T.seq (T.dany hmix h)
theorem T.dregs{c:Cx}{Q:Exit→St→Prop}{S:St}{l:List In}{y:IC}(hmix:c.P.follows .mixedOrders=true)(h:exq c l S (T c y Q)):T c (.seq (.dreg l) y) Q S:=T.seq (T.dreg hmix h)
theorem Zn.plain{c:Cx}{f:Nat}{args:List S1}{S:St}{K:SV→Prop}(r:SV)(h:∀w,Calls c.P f (args.map (S1.den fun _=>Yz)).toArray w fun e w'=>e= .returned (r.den fun _=>Yz)∧Below w.heap.size w w')
 (hb:∀v∈args,v.bd 0)(hr:r.bd 0)(hK:K r):Zn c f args S K:=by
 refine⟨r,SV.bd_mono (Nat.zero_le _) hr,fun ρ a w hh=> ?_,hK⟩
 rw[Oz hb]
 refine(h w).mono fun e w' ⟨he,hbl⟩=>⟨?_,hbl⟩
 rw[he,SV.den_same (nx:=0) (ρ:=fun _=>Yz) (ρ':=ρ) (fun n hn=>by omega) hr]
def X1:Env:=fun _=>Yz
def Nm(w:World)(v:Value)(k:Kd)(l:List k.ty):Prop:=
 ∃a cap,(v= .slice a l.length cap∧l.length≤cap)∧(a=none→l=[])∧∀ad:Addr,a=some ad→(l≠[]→ad.spot=none)∧∀(i:Nat) (x:k.ty),l[i]? =some x→∀(j:Nat) (u:At),(k.enc x)[j]? =some u→w.cell? ⟨ad.block,ad.off+(i*k.sz+j),none⟩=some (u.den X1)
def Of(base:Nat)(w:World)(v:Value)(E:Nat)(k:Kd)(l:List k.ty):Prop:=w.ownsRow base E k.sz v l.length ((l.flatMap k.enc).map (At.den X1))
theorem Nm.one{w:World}{v:Value}{k:Kd}{l:List k.ty}(h:Nm w v k l):v.oneCell'=true:=by obtain⟨a,cap,⟨rfl,_⟩,_⟩:=h;rfl
theorem Of.one{base:Nat}{w:World}{v:Value}{E:Nat}{k:Kd}{l:List k.ty}(h:Of base w v E k l):v.oneCell'=true:=by
 rcases h.2 with⟨rfl,_⟩|⟨g,cp,cur,rfl,_⟩<;>rfl
theorem Nm.below{w w':World}{v:Value}{k:Kd}{l:List k.ty}(h:Nm w v k l)(hb:Below w.heap.size w w'):Nm w' v k l:=by
 obtain⟨a,cap,h1,h2,h3⟩:=h
 refine⟨a,cap,h1,h2,fun ad had=>⟨(h3 ad had).1,fun i x hx j u hu=> ?_⟩⟩
 have:=(h3 ad had).2 i x hx j u hu
 rw[hb.cell (Xm this)];exact this
theorem Res.ro_at{ρ:Env}{O:List Nat}{n:Nat}{w:World}{k:Kd}{l:List k.ty}(h:(Res.ro k l).holds ρ O n w):Nm w (ρ n) k l:=by
 obtain⟨a,cap,h1,h2,h3⟩:=h
 refine⟨a,cap,h1,h2,fun ad had=>⟨(h3 ad had).1,fun i x hx j u hu=> ?_⟩⟩
 rw[k.enc_at x ρ X1 hu]
 exact((h3 ad had).2 i x hx j u hu).1
theorem Pv{base:Nat}{w:World}{v:Value}{E:Nat}{k:Kd}{l:List k.ty}(h:w.ownsRow base E k.sz v l.length ((l.flatMap k.enc).map (At.den X1))):Nm w v k l:=by
 rcases h.2 with⟨hv,hn⟩|⟨g,cap,cur,hv,_,hh,hn,hcap,hcur,htake⟩
 ·have:l=[]:=List.eq_nil_of_length_eq_zero hn
  subst this
  exact⟨none,0,⟨hv,Nat.le_refl _⟩,fun _=>rfl,fun ad had=>by cases had⟩
 ·refine⟨some ⟨g,0,none⟩,cap,⟨hv,hn⟩,(fun h=>by cases h),fun ad had=> ?_⟩
  cases had
  refine⟨fun _=>rfl,fun i x hx j u hu=> ?_⟩
  have hj:j<k.sz:=by rw[←k.enc_length x];exact(List.getElem?_eq_some_iff.1 hu).1
  have hc:((l.flatMap k.enc).map (At.den X1))[i*k.sz+j]? =some (u.den X1):=by rw[List.getElem?_map,k.encs_get l i j x hx hj,hu];rfl
  rw[cell_of_row w g _ cur E (0,0) hh,Nat.zero_add]
  rw[←htake,List.getElem?_take]at hc
  split at hc
  ·simpa using hc
  ·cases hc
theorem Of.ro{base:Nat}{w:World}{v:Value}{E:Nat}{k:Kd}{l:List k.ty}(h:Of base w v E k l):Nm w v k l:=Pv h
theorem Res.row_own{ρ:Env}{O:List Nat}{n E:Nat}{w:World}{k:Kd}{l:List k.ty}(h:(Res.row E k l).holds ρ O n w):w.ownsRow 0 E k.sz (ρ n) l.length ((l.flatMap k.enc).map (At.den X1)):=by
 simp only[Res.holds]at h;rw[k.encs_den l ρ X1];exact h
theorem Res.lit_ro{ρ:Env}{O:List Nat}{n E z e:Nat}{w:World}{k:Kd}{xs:List k.ty}{l:List At}(h:(Res.lit E z e l).holds ρ O n w)(hl:xs.flatMap k.enc=l)(he:xs.length=e):Nm w (ρ n) k xs:=by
 obtain⟨b,hv,hlen,hb⟩:=h
 subst hl
 refine⟨some ⟨b,0,none⟩,e,⟨by rw[hv,he],Nat.le_of_eq he⟩,(fun h=>by cases h),fun ad had=> ?_⟩
 cases had
 refine⟨fun _=>rfl,fun i x hx j u hu=> ?_⟩
 have hj:j<k.sz:=by rw[←k.enc_length x];exact(List.getElem?_eq_some_iff.1 hu).1
 rw[cell_of_row w b _ _ E (0,0) hb,Nat.zero_add,k.enc_at x ρ X1 hu]
 simp[k.encs_get xs i j x hx hj,hu]
theorem Mem.ro{c:Cx}{ρ:Env}{R:List (Nat×Res)}{nx m:Nat}{w:World}(h:Mem c ρ R nx w){k:Kd}{l:List k.ty}(hm:(m,Res.ro k l)∈R∨∃E,(m,Res.row E k l)∈R):Nm w (ρ m) k l:=by
 rcases hm with hm|⟨E,hm⟩
 ·exact Res.ro_at (h.res _ _ hm)
 ·exact Pv (Res.row_own (h.res _ _ hm))
theorem Mem.addRo{c:Cx}{ρ:Env}{R:List (Nat×Res)}{nx:Nat}{w:World}(h:Mem c ρ R nx w){v:Value}{k:Kd}{l:List k.ty}(hv:Nm w v k l)(hno:∀a n cp,v= .slice (some a) n cp→l≠[]→a.block∉Zp ρ R):
 Mem c (Z9 ρ nx v) ((nx,.ro k l)::R) (nx+1) w:=by
 have:=Mem.step (ρ':=Z9 ρ nx v) (nx':=nx+1) (w':=w) (ds:=[]) (m:=nx) (r:=.ro k l) (D:=[]) h
  (Zi ρ nx _) (by omega) (Y0 h.one hv.one) rfl rfl rfl (Nat.le_refl _) (fun b o hb _=>hb) (by simp) (by omega) (.inr (Nat.le_refl _)) trivial
  (fun b hb=>by cases hb)
  (fun O' hO _=>by
    obtain⟨a,cap,h1,h2,h3⟩:=hv
    refine⟨a,cap,by rw[Zm];exact h1,h2,fun ad had=>⟨(h3 ad had).1,fun i x hx j u hu=>⟨?_,fun hm=> ?_⟩⟩⟩
    ·rw[k.enc_at x X1 _ hu];exact(h3 ad had).2 i x hx j u hu
    ·rcases hO _ hm with h4|h4
     ·rw[Xj]at h4
      exact hno ad _ _ (by rw[h1.1,had]) (fun e=>by rw[e]at hx;cases hx) h4
     ·cases h4)
 rwa [Xj]at this
theorem Mem.addRow{c:Cx}{ρ:Env}{R:List (Nat×Res)}{nx:Nat}{w w':World}(h:Mem c ρ R nx w)(hb:Below w.heap.size w w'){v:Value}{E:Nat}{k:Kd}{l:List k.ty}(hv:Of w.heap.size w' v E k l):
 Mem c (Z9 ρ nx v) ((nx,.row E k l)::R) (nx+1) w':=by
 have:=Mem.step (ρ':=Z9 ρ nx v) (nx':=nx+1) (w':=w') (ds:=[]) (m:=nx) (r:=.row E k l) (D:=[]) h
  (Zi ρ nx _) (by omega) (Y0 h.one hv.one) hb.os hb.tape hb.output hb.size (fun b o ho _=>by rw[hb.block b (Array.getElem?_eq_some_iff.1 ho).1];exact ho) (by simp) (by omega) (.inr (Nat.le_refl _)) trivial
  (fun b hbk=>by
    simp only[Res.block,Zm]at hbk
    have:=World.ownsRow.lt hv b hbk
    exact⟨this.2,.inl this.1⟩)
  (fun O' hO _=>by
    simp only[Res.holds,Zm]
    rw[k.encs_den l X1]
    obtain⟨h1,h2⟩:=hv
    refine⟨h1,?_⟩
    rcases h2 with h2|⟨g,cap,cur,h3,_,h4⟩
    ·exact .inl h2
    ·exact .inr ⟨g,cap,cur,h3,Nat.zero_le _,h4⟩)
 rwa [Xj]at this
inductive Arg where
 |v (x:S1)
 |ro (x:Value) (k:Kd) (l:List k.ty)
def Arg.val:Arg→Value
 |.v x=>x.den X1
 |.ro x _ _=>x
def Mz:Nat→Nat→List Arg→List (Nat×SV)
 |_,_,[]=>[]
 |i,n,.v x::l=>(i,.one x)::Mz (i+1) n l
 |i,n,.ro _ _ _::l=>(i,.one (.a (.ref n)))::Mz (i+1) (n+1) l
def Rc:Nat→List Arg→List (Nat×Res)
 |_,[]=>[]
 |n,.v _::l=>Rc n l
 |n,.ro _ k xs::l=>(n,.ro k xs)::Rc (n+1) l
def Np:Nat→List Arg→Nat
 |n,[]=>n
 |n,.v _::l=>Np n l
 |n,.ro _ _ _::l=>Np (n+1) l
def Nn:Nat→List Arg→Env→Env
 |_,[],ρ=>ρ
 |n,.v _::l,ρ=>Nn n l ρ
 |n,.ro x _ _::l,ρ=>Nn (n+1) l (Z9 ρ n x)
def Gv(w:World):List Arg→Prop
 | []=>True
 |.v x::l=>x.bd 0∧Gv w l
 |.ro x k xs::l=>Nm w x k xs∧Gv w l
theorem Lv:∀(l:List Arg) (n:Nat) (ρ:Env),Qv n ρ (Nn n l ρ)
 | [],n,ρ=>fun _ _=>rfl
 |.v x::l,n,ρ=>Lv l n ρ
 |.ro x k xs::l,n,ρ=>fun m hm=>by
  simp only[Nn]
  rw[Lv l (n+1) _ m (by omega),Zi ρ n x m hm]
theorem F5:∀(l:List Arg) (n:Nat),n≤Np n l
 | [],n=>Nat.le_refl _
 |.v x::l,n=>F5 l n
 |.ro x k xs::l,n=>Nat.le_trans (Nat.le_succ n) (F5 l (n+1))
theorem Zat{P:Program}{w:World}{nt:Nat}{X:List Nat}{fr:List Value}:∀(l:List Arg) (n:Nat) (ρ:Env) (R:List (Nat×Res)),Zp ρ R=[]→Mem ⟨P,w,X,nt,fr⟩ ρ R n w→Gv w l→∃R',Mem ⟨P,w,X,nt,fr⟩ (Nn n l ρ) R' (Np n l) w∧(∀p,p∈R'↔p∈Rc n l∨p∈R)∧Zp (Nn n l ρ) R'=[]
 | [],n,ρ,R,ho,hm,hok=>⟨R,hm,fun p=>by simp[Rc],ho⟩
 |.v x::l,n,ρ,R,ho,hm,hok=>Zat l n ρ R ho hm hok.2
 |.ro x k xs::l,n,ρ,R,ho,hm,hok=>by
  have h1:=hm.addRo hok.1 (fun _ _ _ _ _ h=>by rw[ho]at h;cases h)
  have ho':Zp (Z9 ρ n x) ((n,.ro k xs)::R)=[]:=by
   have:Zp (Z9 ρ n x) ((n,.ro k xs)::R)=Zp (Z9 ρ n x) R:=rfl
   rw[this,Rk (Zi ρ n x) fun m r hr=>(hm.bdr m r hr).1,ho]
  obtain⟨R',g1,g2,g3⟩:=Zat l (n+1) (Z9 ρ n x) ((n,.ro k xs)::R) ho' h1 hok.2
  refine⟨R',g1,fun p=> ?_,g3⟩
  rw[g2]
  simp only[Rc,List.mem_cons]
  constructor
  ·rintro(h|h|h)
   ·exact .inl (.inr h)
   ·exact .inl (.inl h)
   ·exact .inr h
  ·rintro((h|h)|h)
   ·exact .inr (.inl h)
   ·exact .inl h
   ·exact .inr (.inr h)
theorem Ig{w:World}:∀(l:List Arg) (i n:Nat) (ρ:Env) (t:Nat) (v:SV),Gv w l→Zo (Mz i n l) t=some v→∃j,t=i+j∧(l.map Arg.val)[j]? =some (v.den (Nn n l ρ))∧v.bd (Np n l)
 |.v x::l,i,n,ρ,t,v,hok,h=>by
  rcases look_cons h with⟨rfl,rfl⟩|⟨_,h⟩
  ·refine⟨0,rfl,?_,S1.bd_mono (Nat.zero_le _) hok.1⟩
   show some (x.den X1)=some (x.den (Nn n l ρ))
   exact congrArg some (S1.den_same (nx:=0) (ρ:=X1) (ρ':=Nn n l ρ) (fun n hn=>by omega) hok.1).symm
  ·obtain⟨j,h1,h2,h3⟩:=Ig l (i+1) n ρ t v hok.2 h
   exact⟨j+1,by omega,h2,h3⟩
 |.ro x k xs::l,i,n,ρ,t,v,hok,h=>by
  rcases look_cons h with⟨rfl,rfl⟩|⟨_,h⟩
  ·refine⟨0,rfl,?_,F5 l (n+1)⟩
   simp only[List.map_cons,List.getElem?_cons_zero,Arg.val,SV.den,S1.den,At.den,Nn]
   rw[Lv l (n+1) _ n (Nat.lt_succ_self _),Zm]
  ·obtain⟨j,h1,h2,h3⟩:=Ig l (i+1) (n+1) (Z9 ρ n x) t v hok.2 h
   exact⟨j+1,by omega,h2,h3⟩
theorem Body.args{P:Program}{f nt:Nat}{x:IC}{rl:List RV}(hF:Body P f nt x rl){w:World}{l:List Arg}{R:SV→St→Prop}{Post:Ending→World→Prop}
 (hlen:l.length≤nt)(hok:Gv w l)(hT:T ⟨P,w,[],nt,[]⟩ x (Q6 ⟨P,w,[],nt,[]⟩ rl R) ⟨Mz 0 0 l,Rc 0 l,Np 0 l⟩)
 (hpost:∀v S' ρ' w',R v S'→v.bd S'.nx→Mem ⟨P,w,[],nt,[]⟩ ρ' S'.res S'.nx w'→Post (.returned (v.den ρ')) w'):Calls P f (l.map Arg.val).toArray w Post:=by
 obtain⟨R',g1,g2,g3⟩:=Zat (P:=P) (w:=w) (nt:=nt) (X:=[]) (fr:=[]) l 0 X1 [] rfl (Mem.none P w [] nt 0 []) hok
 have hnd:∀(l:List Arg) (n:Nat),((Rc n l).map Prod.fst).Nodup∧∀p∈Rc n l,n≤p.1:=by
  intro l
  induction l with
  |nil=>intro n;exact⟨List.nodup_nil,fun p hp=>nomatch hp⟩
  |cons a l ih=>
   intro n
   cases a with
   |v x=>exact ih n
   |ro x k xs=>
    refine⟨?_,fun p hp=> ?_⟩
    ·simp only[Rc,List.map_cons,List.nodup_cons]
     refine⟨fun hm=> ?_,(ih (n+1)).1⟩
     obtain⟨p,hp,he⟩:=List.mem_map.1 hm
     have:=(ih (n+1)).2 p hp
     omega
    ·rcases List.mem_cons.1 hp with e|hp
     ·rw[e];exact Nat.le_refl _
     ·have:=(ih (n+1)).2 p hp;omega
 have hm:Mem ⟨P,w,[],nt,[]⟩ (Nn 0 l X1) (Rc 0 l) (Np 0 l) w:=by
  have hsub:∀p,p∈Rc 0 l→p∈R':=fun p hp=>(g2 p).2 (.inl hp)
  have hown:Zp (Nn 0 l X1) (Rc 0 l)=[]:=by
   cases ho:Zp (Nn 0 l X1) (Rc 0 l)with
   |nil=>rfl
   |cons b bs=>
    have:b∈Zp (Nn 0 l X1) (Rc 0 l):=by rw[ho];simp
    obtain⟨p,hp,hpb⟩:=List.mem_filterMap.1 this
    have h2:b∈Zp (Nn 0 l X1) R':=List.mem_filterMap.2 ⟨p,hsub p hp,hpb⟩
    rw[g3]at h2;cases h2
  refine⟨g1.os,g1.tape,g1.output,g1.size,g1.block,g1.one,(hnd l 0).1,fun n r hr=> ?_,fun n r hr=>g1.bdr n r (hsub _ hr),by rw[hown];exact List.nodup_nil,fun b hb=>by rw[hown]at hb;cases hb⟩
  rw[hown,←g3]
  exact g1.res n r (hsub _ hr)
 refine hF.calls (S:=⟨Mz 0 0 l,Rc 0 l,Np 0 l⟩) (ρ:=Nn 0 l X1) (by simpa using hlen) (fun t v hv=> ?_) hm hT hpost
 obtain⟨j,h1,h2,h3⟩:=Ig l 0 0 X1 t v hok hv
 simp only[Nat.zero_add]at h1
 subst h1
 have hjl:t<BIG:=by
  have:=(List.getElem?_eq_some_iff.1 h2).1
  have h4:=hF.lown
  simp only[List.length_map]at this
  omega
 exact⟨by rw[if_pos hjl];simpa using h2,h3⟩
theorem Mem.ownAt{P:Program}{w0 w:World}{nt:Nat}{ρ:Env}{R:List (Nat×Res)}{nx:Nat}(h:Mem ⟨P,w0,[],nt,[]⟩ ρ R nx w){m E:Nat}{k:Kd}{l:List k.ty}(hm:(m,Res.row E k l)∈R):Of w0.heap.size w (ρ m) E k l:=by
 have hr:=Res.row_own (h.res _ _ hm)
 obtain⟨h1,h2⟩:=hr
 refine⟨h1,?_⟩
 rcases h2 with h2|⟨g,cap,cur,hv,_,hrest⟩
 ·exact .inl h2
 ·refine .inr ⟨g,cap,cur,hv,?_,hrest⟩
  have:=(h.lt g (List.mem_filterMap.2 ⟨_,hm,by simp[Res.block,hv,Value.ownBlock]⟩)).2
  simpa using this
inductive Pat where
 |v (x:S1)
 |ro (k:Kd) (l:List k.ty)
def Hm(w:World):List Pat→List Value→Prop
 | [],[]=>True
 |.v x::ps,y::ys=>y=x.den X1∧Hm w ps ys
 |.ro k l::ps,y::ys=>Nm w y k l∧Hm w ps ys
 |_,_=>False
def Q4:List Pat→Prop
 | []=>True
 |.v x::ps=>x.bd 0∧Q4 ps
 |.ro _ _::ps=>Q4 ps
def Kc:Nat→Nat→List Pat→List (Nat×SV)
 |_,_,[]=>[]
 |i,n,.v x::l=>(i,.one x)::Kc (i+1) n l
 |i,n,.ro _ _::l=>(i,.one (.a (.ref n)))::Kc (i+1) (n+1) l
def Jj:Nat→List Pat→List (Nat×Res)
 |_,[]=>[]
 |n,.v _::l=>Jj n l
 |n,.ro k xs::l=>(n,.ro k xs)::Jj (n+1) l
def Ji:Nat→List Pat→Nat
 |n,[]=>n
 |n,.v _::l=>Ji n l
 |n,.ro _ _::l=>Ji (n+1) l
theorem Ld{w:World}:∀ {ps:List Pat} {vs:List Value},Hm w ps vs→Q4 ps→∃aq:List Arg,aq.map Arg.val=vs∧Gv w aq∧aq.length=ps.length∧(∀n,Rc n aq=Jj n ps∧Np n aq=Ji n ps)∧∀i n,Mz i n aq=Kc i n ps
 | [],[],_,_=>⟨[],rfl,trivial,rfl,fun n=>⟨rfl,rfl⟩,fun i n=>rfl⟩
 |.v x::ps,y::ys,h,hb=>by
  obtain⟨aq,h1,h2,h3,h4,h5⟩:=Ld h.2 hb.2
  exact⟨.v x::aq,by simp[Arg.val,h1,h.1],⟨hb.1,h2⟩,by simp[h3],fun n=>h4 n,fun i n=>by simp only[Mz,Kc,h5]⟩
 |.ro k l::ps,y::ys,h,hb=>by
  obtain⟨aq,h1,h2,h3,h4,h5⟩:=Ld h.2 hb
  exact⟨.ro y k l::aq,by simp[Arg.val,h1],⟨h.1,h2⟩,by simp[h3],fun n=>⟨by simp only[Rc,Jj,(h4 (n+1)).1],by simp only[Np,Ji,(h4 (n+1)).2]⟩,fun i n=>by simp only[Mz,Kc,h5]⟩
 | [],_::_,h,_=>h.elim
 |.v _::_,[],h,_=>h.elim
 |.ro _ _::_,[],h,_=>h.elim
def RdC(P:Program)(f:Nat)(ps:List Pat)(r:SV):Prop:=∀(w:World) (vs:List Value),Hm w ps vs→Calls P f vs.toArray w fun e w'=>e= .returned (r.den X1)∧Below w.heap.size w w'
def RwC(P:Program)(f:Nat)(ps:List Pat)(E:Nat)(k:Kd)(l:List k.ty)(rest:List S1):Prop:=∀(w:World) (vs:List Value),Hm w ps vs→
 Calls P f vs.toArray w fun e w'=>∃r,e= .returned (.tuple (r::rest.map (S1.den X1)).toArray)∧Of w.heap.size w' r E k l∧Below w.heap.size w w'
def Yd(P:Program)(f:Nat)(ps:List Pat)(E:Nat)(k:Kd)(l:List k.ty):Prop:=∀(w:World) (vs:List Value),Hm w ps vs→
 Calls P f vs.toArray w fun e w'=>∃r,e= .returned r∧Of w.heap.size w' r E k l∧Below w.heap.size w w'
def P8(S:St)(E:Nat)(k:Kd)(l:List k.ty):S1→Prop
 |.a (.ref m)=>S.find m=some (.row E k l)
 |.a (.raw (.slice none 0 0))=>l=[]
 |_=>False
theorem P8.own{P:Program}{w0 w:World}{nt:Nat}{ρ:Env}{S:St}(h:Mem ⟨P,w0,[],nt,[]⟩ ρ S.res S.nx w){E:Nat}{k:Kd}{l:List k.ty}{x:S1}(hx:P8 S E k l x):Of w0.heap.size w (x.den ρ) E k l:=by
 unfold P8 at hx
 split at hx
 ·exact h.ownAt (Zg hx)
 ·subst hx;exact World.ownsRow_nil w _ E k.sz
 ·exact hx.elim
def N9(E:Nat)(k:Kd)(l:List k.ty)(rest:List S1)(v:SV)(S:St):Prop:=match v with
 |.tup (y::ys)=>ys=rest∧P8 S E k l y
 |_=>False
def Jp(E:Nat)(k:Kd)(l:List k.ty)(v:SV)(S:St):Prop:=match v with
 |.one y=>P8 S E k l y
 |_=>False
def Zfs(r:SV)(v:SV)(_:St):Prop:=v=r
section
variable {P:Program} {f nt:Nat} {x:IC} {rl:List RV} {ps:List Pat}
theorem Body.rd(hF:Body P f nt x rl){r:SV}(hlen:ps.length≤nt)(hb:Q4 ps)(hr:r.bd 0)(hT:∀w,T ⟨P,w,[],nt,[]⟩ x (Q6 ⟨P,w,[],nt,[]⟩ rl (Zfs r)) ⟨Kc 0 0 ps,Jj 0 ps,Ji 0 ps⟩):RdC P f ps r:=by
 intro w vs hok
 obtain⟨aq,h1,h2,h3,h4,h5⟩:=Ld hok hb
 rw[←h1]
 refine hF.args (by omega) h2 (R:=Zfs r) ?_ fun v S' ρ' w' hv _ hm=>⟨?_,hm.toBelow⟩
 ·rw[h5,(h4 0).1,(h4 0).2];exact hT w
 ·rw[show v=r from hv,SV.den_same (nx:=0) (ρ:=X1) (fun n hn=>by omega) hr]
theorem Body.rw(hF:Body P f nt x rl){E:Nat}{k:Kd}{l:List k.ty}{rest:List S1}(hlen:ps.length≤nt)(hb:Q4 ps)(hr:∀y∈rest,y.bd 0)(hT:∀w,T ⟨P,w,[],nt,[]⟩ x (Q6 ⟨P,w,[],nt,[]⟩ rl (N9 E k l rest)) ⟨Kc 0 0 ps,Jj 0 ps,Ji 0 ps⟩):RwC P f ps E k l rest:=by
 intro w vs hok
 obtain⟨aq,h1,h2,h3,h4,h5⟩:=Ld hok hb
 rw[←h1]
 refine hF.args (by omega) h2 (R:=N9 E k l rest) (by rw[h5,(h4 0).1,(h4 0).2];exact hT w) fun v S' ρ' w' hv _ hm=> ?_
 unfold N9 at hv
 split at hv
 ·rename_i y ys _
  obtain⟨rfl,hy⟩:=hv
  refine⟨S1.den ρ' y,?_,P8.own hm hy,hm.toBelow⟩
  simp only[SV.den,List.map_cons]
  rw[Oz (ρ:=ρ') hr];rfl
 ·exact hv.elim
end
def pm1(S:St):S1→Pat→Prop
 |x,.v y=>x=y∧y.bd 0
 |.a (.ref m),.ro k l=>match S.find m with
  |some (.ro k' l')=>Yo k' k l'=some l
  |some (.row _ k' l')=>Yo k' k l'=some l
  |some (.lit _ z e cs)=>l.flatMap k.enc=cs∧l.length=e
  |_=>False
 |.a (.raw (.slice none 0 0)),.ro k l=>l=[]
 |_,_=>False
def pm(S:St):List S1→List Pat→Prop
 | [],[]=>True
 |x::xs,p::ps=>pm1 S x p∧pm S xs ps
 |_,_=>False
theorem Cg:∀ {k' k:Kd} {l':List k'.ty} {l:List k.ty},Yo k' k l'=some l→∀ {w:World} {v:Value},Nm w v k' l'→Nm w v k l:=by
 intro k' k l' l h
 cases k'<;>cases k<;>simp only[Yo,reduceCtorEq,Option.some.injEq]at h<;>(try(subst h;exact fun h=>h))
 rename_i a b
 split at h
 ·rename_i e;cases e;cases h;exact fun h=>h
 ·cases h
def pat1(w:World):Pat→Value→Prop
 |.v x,y=>y=x.den X1
 |.ro k l,y=>Nm w y k l
theorem Ziu{S:St}{c:Cx}{ρ:Env}{a:Act}{w:World}(hh:S.holds c ρ a w){x:S1}{p:Pat}(h:pm1 S x p):pat1 w p (x.den ρ):=by
 unfold pm1 at h
 split at h
 ·obtain⟨rfl,hb⟩:=h
  exact S1.den_same (nx:=0) (ρ:=X1) (fun n hn=>by omega) hb
 ·split at h
  ·rename_i hf;exact Cg h (hh.mem.ro (.inl (Zg hf)))
  ·rename_i hf;exact Cg h (hh.mem.ro (.inr ⟨_,Zg hf⟩))
  ·rename_i hf;exact Res.lit_ro (hh.mem.res _ _ (Zg hf)) h.1 h.2
  ·exact h.elim
 ·subst h;exact⟨none,0,⟨rfl,Nat.le_refl _⟩,fun _=>rfl,fun ad had=>by cases had⟩
 ·exact h.elim
theorem Hp{S:St}{c:Cx}{ρ:Env}{a:Act}{w:World}(hh:S.holds c ρ a w):∀(xs:List S1) (ps:List Pat),pm S xs ps→Hm w ps (xs.map (S1.den ρ))
 | [],[],_=>trivial
 |x::xs,.v y::ps,h=>⟨Ziu hh h.1,Hp hh xs ps h.2⟩
 |x::xs,.ro k l::ps,h=>⟨Ziu hh h.1,Hp hh xs ps h.2⟩
 | [],_::_,h=>h.elim
 |_::_,[],h=>h.elim
theorem St.holds.res{S:St}{c:Cx}{ρ ρ':Env}{a:Act}{w w':World}(h:S.holds c ρ a w){R:List (Nat×Res)}{nx:Nat}(hs:Qv S.nx ρ ρ')(hnx:S.nx≤nx)(hm:Mem c ρ' R nx w'):(St.mk S.slots R nx).holds c ρ' a w':=
 h.put hs hnx hm (d:=none) (fun t ht=>by cases ht) (v:=noV) (Qj nx)
section
variable {c:Cx} {f:Nat} {args:List S1} {S:St} {ps:List Pat}
theorem Za.rd{K:SV→St→Prop}{r:SV}(h:RdC c.P f ps r)(hv:pm S args ps∧r.bd 0)(hK:K r S):Za c f args S K:=by
 intro ρ a w hh
 refine(h w _ (Hp hh args ps hv.1)).mono fun e w' ⟨he,hbl⟩=>⟨r,ρ,S,Ext.rfl,?_,SV.bd_mono (Nat.zero_le _) hv.2,hh.below hbl,hK⟩
 rw[he,SV.den_same (nx:=0) (ρ:=X1) (ρ':=ρ) (fun n hn=>by omega) hv.2]
theorem Za.rw{K:SV→St→Prop}{E:Nat}{k:Kd}{l:List k.ty}{rest:List S1}(h:RwC c.P f ps E k l rest)(hv:pm S args ps∧Sf rest)
 (hK:K (.tup (.a (.ref S.nx)::rest)) ⟨S.slots,(S.nx,.row E k l)::S.res,S.nx+1⟩):Za c f args S K:=by
 intro ρ a w hh
 have hr:=Ng hv.2
 refine(h w _ (Hp hh args ps hv.1)).mono fun e w' ⟨r,he,ho,hbl⟩=>⟨_,Z9 ρ S.nx r,_,⟨Zi _ _ _,Nat.le_succ _⟩,?_,?_,hh.res (Zi ρ S.nx r) (Nat.le_succ _) (hh.mem.addRow hbl ho),hK⟩
 ·rw[he]
  simp only[SV.den,List.map_cons,S1.den,At.den,Zm]
  rw[Oz (ρ:=Z9 ρ S.nx r) hr]
  rfl
 ·intro x hx
  rcases List.mem_cons.1 hx with rfl|hx
  ·exact Nat.lt_succ_self _
  ·exact S1.bd_mono (Nat.zero_le _) (hr x hx)
theorem Ze.rd{b:Bool}{K:SV→St→Prop}{r:S1}(h:RdC c.P f ps (.one r))(hv:pm S args ps∧r.bd 0)(hK:K (.opt b r) S):Ze c b f args S K:=by
 intro ρ a w hh
 refine⟨fun hb=> ?_,fun hb=>⟨.opt b r,fun _=>S1.bd_mono (Nat.zero_le _) hv.2,by rw[hb];rfl,hK⟩⟩
 refine(h w _ (Hp hh args ps hv.1)).mono fun e w' ⟨he,hbl⟩=>⟨.opt b r,ρ,S,Ext.rfl,?_,fun _=>S1.bd_mono (Nat.zero_le _) hv.2,hh.below hbl,hK⟩
 rw[he,hb]
 show Ending.returned (S1.den X1 r)=Ending.returned (S1.den ρ r)
 rw[S1.den_same (nx:=0) (ρ:=X1) (ρ':=ρ) (fun n hn=>by omega) hv.2]
theorem Ze.split{b:Bool}{K:SV→St→Prop}(h1:b=true→Za c f args S K)(h2:b=false→K noV S):Ze c b f args S K:=
 fun ρ a w hh=>⟨fun hb=>h1 hb ρ a w hh,fun hb=>⟨noV,Qj _,rfl,h2 hb⟩⟩
theorem Zh.rd{b:Bool}{K:SV→Prop}{r:S1}(h:RdC c.P f ps (.one r))(hv:pm S args ps∧r.bd 0)(hK:K (.opt b r)):Zh c b f args S K:=by
 refine⟨.opt b r,fun hb=>⟨fun _=>S1.bd_mono (Nat.zero_le _) hv.2,fun ρ a w hh=> ?_⟩,fun hb=>⟨fun _=>S1.bd_mono (Nat.zero_le _) hv.2,fun ρ=>by rw[hb];rfl⟩,hK⟩
 refine(h w _ (Hp hh args ps hv.1)).mono fun e w' ⟨he,hbl⟩=>⟨?_,hbl⟩
 rw[he,hb]
 show Ending.returned (S1.den X1 r)=Ending.returned (S1.den ρ r)
 rw[S1.den_same (nx:=0) (ρ:=X1) (ρ':=ρ) (fun n hn=>by omega) hv.2]
theorem Zn.rd{K:SV→Prop}{r:SV}(h:RdC c.P f ps r)(hv:pm S args ps∧r.bd 0)(hK:K r):Zn c f args S K:=by
 refine⟨r,SV.bd_mono (Nat.zero_le _) hv.2,fun ρ a w hh=> ?_,hK⟩
 refine(h w _ (Hp hh args ps hv.1)).mono fun e w' ⟨he,hbl⟩=>⟨?_,hbl⟩
 rw[he,SV.den_same (nx:=0) (ρ:=X1) (ρ':=ρ) (fun n hn=>by omega) hv.2]
end
theorem Zk{n:Int}(h1: -9223372036854775808≤n)(h2:n≤9223372036854775807):IntKind.i64.wrap n=n:=IntWalk.i64_in n ⟨h1,h2⟩
theorem Zx{k:Nat}(h:k<9223372036854775807):IntKind.i64.wrap ((k:Int)+1)=((k+1:Nat):Int):=by rw[Zk (by omega) (by omega)];omega
end Vc
end Go.Proofs.YtddmlennnmpnhaaGreatDoor
namespace Go.Proofs.YtddmlennnmpnhaaGreatDoor
open Go.ChangeShapes Go.WideShapes Go.ChangeAt Go.RowKit Vc
set_option linter.unusedVariables false
set_option linter.unusedSimpArgs false
section
variable {H:Type} {enc:TypeId×Value→H} {P:Program} {W:World}
theorem list4{cs:List Value}(h:cs.length=4):∃a b c d,cs=[a,b,c,d]:=by
 match cs,h with
 | [a,b,c,d],_=>exact⟨a,b,c,d,rfl⟩
theorem Zga{e:TypeId}{f0 f1 f2 f3:Field}{n:Nat}{cs:List Value}{y:DataW H×List MemPlace}{sp:Nat→Bool}(hs:P.underlying e=some (.struct #[f0,f1,f2,f3]))(hc:P.cellsOf e=4)
 (hi:P.underlying f0.type=some (.int .i64)∧P.underlying f1.type=some (.int .i64)∧P.underlying f2.type=some (.int .i64)∧P.underlying f3.type=some (.int .i64))
 (h1:P.cellsOf f0.type=1∧P.cellsOf f1.type=1∧P.cellsOf f2.type=1∧P.cellsOf f3.type=1)(ho:f0.offset=0∧f1.offset=1∧f2.offset=2∧f3.offset=3)
 (h:DataW.trod enc P W 0 sp true n e cs=some y):∃x:Ins,x.cells.map (At.den X1)=cs:=by
 obtain⟨xs,m,_,_,hl,hxl,hf⟩:=DataW.trod_struct hs h
 rw[hc]at hl
 obtain⟨c0,c1,c2,c3,rfl⟩:=list4 hl
 have g0:=hf 0 f0 rfl
 have g1:=hf 1 f1 rfl
 have g2:=hf 2 f2 rfl
 have g3:=hf 3 f3 rfl
 rw[h1.1,ho.1]at g0
 rw[h1.2.1,ho.2.1]at g1
 rw[h1.2.2.1,ho.2.2.1]at g2
 rw[h1.2.2.2,ho.2.2.2]at g3
 have hx4:xs.length=4:=hxl
 rw[List.getElem?_eq_getElem (show 0<xs.length by omega)]at g0
 rw[List.getElem?_eq_getElem (show 1<xs.length by omega)]at g1
 rw[List.getElem?_eq_getElem (show 2<xs.length by omega)]at g2
 rw[List.getElem?_eq_getElem (show 3<xs.length by omega)]at g3
 obtain⟨n0,e0,_,_⟩:=DataW.trod_int hi.1 g0
 obtain⟨n1,e1,_,_⟩:=DataW.trod_int hi.2.1 g1
 obtain⟨n2,e2,_,_⟩:=DataW.trod_int hi.2.2.1 g2
 obtain⟨n3,e3,_,_⟩:=DataW.trod_int hi.2.2.2 g3
 simp at e0 e1 e2 e3
 subst e0 e1 e2 e3
 exact⟨⟨n0,n1,n2,n3⟩,rfl⟩
theorem list6{cs:List Value}(h:cs.length=6):∃a b c d e f,cs=[a,b,c,d,e,f]:=by
 match cs,h with
 | [a,b,c,d,e,f],_=>exact⟨a,b,c,d,e,f,rfl⟩
theorem Hi{e ei:TypeId}{f0 f1 f2:Field}{n:Nat}{cs:List Value}{y:DataW H×List MemPlace}(hs:P.underlying e=some (.struct #[f0,f1,f2]))(hc:P.cellsOf e=6)
 (hu:P.underlying f0.type=some .string∧f1.type=ei∧P.underlying f2.type=some .string)(h1:P.cellsOf f0.type=1∧P.cellsOf ei=4∧P.cellsOf f2.type=1)(ho:f0.offset=0∧f1.offset=1∧f2.offset=5)
 (hi:∀(n:Nat) (cs:List Value) (y:DataW H×List MemPlace),DataW.trod enc P W 0 (fun _=>true) true n ei cs=some y→∃x:Ins,x.cells.map (At.den X1)=cs)
 (h:DataW.trod enc P W 0 (fun _=>true) true n e cs=some y):∃x:Ln,x.cells.map (At.den X1)=cs:=by
 obtain⟨xs,m,_,_,hl,hxl,hf⟩:=DataW.trod_struct hs h
 rw[hc]at hl
 obtain⟨c0,c1,c2,c3,c4,c5,rfl⟩:=list6 hl
 have g0:=hf 0 f0 rfl
 have g1:=hf 1 f1 rfl
 have g2:=hf 2 f2 rfl
 rw[h1.1,ho.1]at g0
 rw[hu.2.1,h1.2.1,ho.2.1]at g1
 rw[h1.2.2,ho.2.2]at g2
 have hx3:xs.length=3:=hxl
 rw[List.getElem?_eq_getElem (show 0<xs.length by omega)]at g0
 rw[List.getElem?_eq_getElem (show 1<xs.length by omega)]at g1
 rw[List.getElem?_eq_getElem (show 2<xs.length by omega)]at g2
 obtain⟨s0,e0,_,_⟩:=DataW.trod_string hu.1 g0
 obtain⟨x,e1⟩:=hi _ _ _ g1
 obtain⟨s2,e2,_,_⟩:=DataW.trod_string hu.2.2 g2
 simp at e0 e2
 simp only[Ins.cells,List.map_cons,List.map_nil,At.den,List.drop_succ_cons,List.drop_zero,List.take_succ_cons,List.take_zero,List.cons.injEq,and_true]at e1
 obtain⟨rfl,rfl,rfl,rfl⟩:=e1
 subst e0 e2
 exact⟨⟨s0.data.toList,x,s2.data.toList⟩,by simp[Ln.cells,At.den]⟩
structure LineTy (P:Program) (tl e ei:TypeId):Prop where
 row:P.underlying tl=some (.slice e)
 sz:P.cellsOf e=6
 isz:P.cellsOf ei=4
 line:∃f0 f1 f2:Field,P.underlying e=some (.struct #[f0,f1,f2])∧(P.underlying f0.type=some .string∧f1.type=ei∧P.underlying f2.type=some .string)∧(P.cellsOf f0.type=1∧P.cellsOf f2.type=1)∧(f0.offset=0∧f1.offset=1∧f2.offset=5)
 ins:∃f0 f1 f2 f3:Field,P.underlying ei=some (.struct #[f0,f1,f2,f3])∧(P.underlying f0.type=some (.int .i64)∧P.underlying f1.type=some (.int .i64)∧P.underlying f2.type=some (.int .i64)∧P.underlying f3.type=some (.int .i64))∧
  (P.cellsOf f0.type=1∧P.cellsOf f1.type=1∧P.cellsOf f2.type=1∧P.cellsOf f3.type=1)∧(f0.offset=0∧f1.offset=1∧f2.offset=2∧f3.offset=3)
theorem LineTy.cells{tl e ei:TypeId}(h:LineTy P tl e ei){n:Nat}{cs:List Value}{y:DataW H×List MemPlace}(hy:DataW.trod enc P W 0 (fun _=>true) true n e cs=some y):∃x:Kd.ty .line,(Kd.enc .line x).map (At.den X1)=cs:=by
 obtain⟨f0,f1,f2,h1,h2,h3,h4⟩:=h.line
 obtain⟨g0,g1,g2,g3,k1,k2,k3,k4⟩:=h.ins
 exact Hi h1 h.sz h2 ⟨h3.1,h.isz,h3.2⟩ h4 (fun n cs y hy=>Zga k1 h.isz k2 k3 k4 hy) hy
theorem N2{W':World}{sp:Nat→Bool}(hl:laidOutB P=true):∀(ts:List TypeId) (vs:List Value) (ds:List (DataW H)) (ps:List MemPlace),(∀t∈ts,P.readableRec t=true∧t<P.types.size)→
 DataW.TrodAll enc P W 0 (fun _=>true) true ts vs ds ps→Below W.heap.size W W'→(∀x∈ps,x.block<W.heap.size)→(∀x∈ps,sp x.block=true)→DataW.TrodAll enc P W' 0 sp true ts vs ds ps
 | [],[],[],_,_,h,_,_,_=>h
 |t::ts,v::vs,d::ds,ps,hr,⟨p,q,h1,h2,e⟩,hb,hlt,hsp=>by
  subst e
  have ht:=hr t (List.mem_cons_self ..)
  exact⟨p,q,WideElems.Trod_stays hl ht.1 ht.2 h1 (fun x hx=>hb.same (hlt x (List.mem_append_left _ hx))) (fun x hx=>hsp x (List.mem_append_left _ hx)),
   N2 hl ts vs ds q (fun t' ht'=>hr t' (List.mem_cons_of_mem _ ht')) h2 hb (fun x hx=>hlt x (List.mem_append_right _ hx)) (fun x hx=>hsp x (List.mem_append_right _ hx)),rfl⟩
 | [],_::_,_,_,_,h,_,_,_=>h.elim
 | [],[],_::_,_,_,h,_,_,_=>h.elim
 |_::_,[],_,_,_,h,_,_,_=>h.elim
 |_::_,_::_,[],_,_,h,_,_,_=>h.elim
theorem Wq{f:Func}{s:ChangeSpec}{apart fresh handsOn again:Bool}{W':World}{args:Array Value}{ds gs:List (DataW H)}{before:List MemPlace}{tb:TypeId}(hs:s.vars=[])(hl:laidOutB P=true)
 (hr:∀t∈f.params.toList,P.readableRec t=true∧t<P.types.size)(hrt:f.resultTypes= #[tb])(hb:P.underlying tb=some .bool)
 (hW:DataW.Whole enc P f.params.toList s.vars apart W args.toList ds gs before)(hfn:s.fn H (ds++gs)= {results:=[.lit (.bool true)],args:=ds,vars:=[]})
 (hB:Below W.heap.size W W'):s.post enc P f apart fresh handsOn again W args (.bool true) W':=by
 have hW':=hW
 have hlt:=hW.lt
 obtain⟨p,q,hA,hV,hpq,hz,hn⟩:=hW
 rw[hs]at hV
 obtain⟨rfl,rfl⟩:=trodVars_none hV
 rw[List.append_nil]at hpq
 subst hpq
 have hres:∀(b:Nat) (sp:Nat→Bool) (hd:Bool),DataW.TrodAll enc P W' b sp hd f.resultTypes.toList ((Value.bool true).resultList f.resultTypes.size) (s.fn H (ds++[])).results []:=fun b sp hd=>by
  rw[hfn,hrt];exact trodAll_mk1 (shut_bool hb _)
 have hargs:∀sp:Nat→Bool,(∀p∈before,sp p.block=true)→DataW.TrodAll enc P W' 0 sp true f.params.toList args.toList (s.fn H (ds++[])).args before:=fun sp hsp=>by
  rw[hfn];exact N2 hl _ _ _ _ hr hA hB hlt hsp
 have hvars:∀sp:Nat→Bool,DataW.TrodVars enc P W' sp s.vars (s.fn H (ds++[])).vars []:=fun sp=>by rw[hfn,hs];rfl
 have hold:∀p∈before,(fun b=>decide (b<W.heap.size)) p.block=true:=fun p hp=>by simpa using hlt p hp
 refine⟨ds,[],before,[],before,[],hW',hres _ _ _,hargs _ hold,hvars _,World.keptBut_mono (fun p hp=>⟨hp,.inr (.inl hp)⟩) (hB.frame (·∈before)),fun _=> ?_⟩
 refine⟨ok_one hrt rfl (okWide_bool_mk hb _),_,_,([]++before)++[],⟨[]++before,[],trodAll_append (hargs _ (fun _ _=>rfl)) (hres _ _ _),hvars _,rfl,?_,?_⟩,?_⟩
 ·intro b off hp
  have hp':MemPlace.cell b off∈before:=by simpa using hp
  rw[hB.frozen (p:=⟨b,off,none⟩) (hlt _ hp')]
  exact hz b off hp'
 ·intro ha
  simpa using hn ha
 ·intro p hp _
  simpa using hp
end
end Go.Proofs.YtddmlennnmpnhaaGreatDoor
