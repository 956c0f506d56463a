/- A part of the proofs of this seat's laws: steps on the way, joined. It has no conditions of its own. -/
import Derived.Test.YtbmecnjmbhokgaaGreatDoorQc
import Derived.Test.YtbmecnjmbhokgaaGreatDoorRows
import Derived.SizedLaws
import Derived.Carry
import Derived.OpenShut
import Derived.ProofKit
import Derived.Deep.Slices
import Derived.Lib.SlTrimSet
import Derived.Lib.Atoi
import Derived.Lib.IndexMore
import Derived.Lib.Split
import Derived.Lib.SplitLaws
namespace Go.Proofs.YtbmecnjmbhokgaaGreatDoor
namespace Vc
open Go.RowKit
set_option linter.unusedVariables false
set_option linter.unusedSimpArgs false
theorem Mem.drew{c:Cx}{ρ:Env}{R:List (Nat×Res)}{nx:Nat}{w:World}(h:Mem c ρ R nx w):Mem c ρ R nx {w with drawn:=w.drawn+1}:=
 h.grow rfl rfl rfl (Nat.le_refl _) fun _ _ ho _=>ho
theorem Mem.toBelow{P:Program}{w0 w:World}{nt:Nat}{ρ:Env}{R:List (Nat×Res)}{nx:Nat}(h:Mem ⟨P,w0,[],nt,[]⟩ ρ R nx w):Below w0.heap.size w0 w:=
 ⟨h.os,h.tape,h.output,h.size,fun k hk=>h.block k hk (by simp)⟩
inductive RV where
 |tmp (t:Nat)
 |cell (t n:Nat) (agg:Bool)
def J9(P:Program):List ResultVar→Option (List RV)
 | []=>some []
 |.tmp t::r=>if t<BIG then(match J9 P r with|some l=>some (.tmp t::l)|none=>none)else none
 |.cell t T::r=>if BIG≤t then none else match P.underlying T,P.info? T,J9 P r with|some d,some i,some l=>some (.cell t i.size (Wk d)::l)|_,_,_=>none
def rvs(S:St):List RV→Option (List S1)
 | []=>some []
 |.tmp t::r=>match S.get t,rvs S r with
  |some (.one v),some l=>some (v::l)
  |_,_=>none
 |.cell t n agg::r=>match S.get t,rvs S r with
  |some (.one (.a (.loc m o))),some l=>(match S.find m with
   |some (.cells _ cs)=>(match Vh cs o n agg with
    |some (.one v)=>some (v::l)
    |_=>none)
   |_=>none)
  |_,_=>none
def I6:List S1→SV
 | [v]=>.one v
 |l=>.tup l
def Jh(tmps:Array Value):ResultVar→Sem Value
 |.tmp t=>pure (tmps.getD t undef)
 |.cell q t=>do loadVar t (←asAddr (tmps.getD q undef))
theorem Zbs(fn:Func)(tmps:Array Value):results fn tmps=(do let vs ←fn.results.mapM (Jh tmps);pure (if h:vs.size=1 then vs[0]else .tuple vs)):=rfl
theorem Ly{c:Cx}{S:St}{ρ:Env}{a:Act}{w:World}(hh:S.holds c ρ a w):∀ {rs:List ResultVar} {rl:List RV} {vs:List S1},J9 c.P rs=some rl→rvs S rl=some vs→
 (rs.mapM (Jh a.tmps):Sem (List Value)).run c.P w= .ok (vs.map (S1.den ρ)) w∧∀v∈vs,v.bd S.nx
 | [],rl,vs,h1,h2=>by cases h1;cases h2;exact⟨by rw[List.mapM_nil,Sem.run_pure];rfl,by simp⟩
 |.tmp t::rs,rl,vs,h1,h2=>by
  simp only[J9]at h1
  split at h1
  rotate_left
  ·cases h1
  rename_i hlow
  split at h1
  ·rename_i l hl
   cases h1
   simp only[rvs]at h2
   split at h2
   ·rename_i v l' hg hr
    cases h2
    obtain⟨ih1,ih2⟩:=Ly hh hl hr
    have e1:=hh.slot _ _ hg
    rw[V5 hlow]at e1
    refine⟨?_,fun x hx=> ?_⟩
    ·rw[List.mapM_cons]
     simp only[Sem.run_bind,Jh,Sem.run_pure,Result.andThen_ok,ih1]
     simp[Array.getD_eq_getD_getElem?,e1,SV.den]
    ·rcases List.mem_cons.1 hx with rfl|hx
     ·exact hh.bds _ _ hg
     ·exact ih2 x hx
   ·cases h2
  ·cases h1
 |.cell q T::rs,rl,vs,h1,h2=>by
  simp only[J9]at h1
  split at h1
  ·cases h1
  rename_i hlow
  split at h1
  ·rename_i d i l hd hi hl
   cases h1
   simp only[rvs]at h2
   split at h2
   ·rename_i m o l' hg hr
    split at h2
    ·rename_i E cs hf
     split at h2
     ·rename_i v hld
      cases h2
      obtain⟨ih1,ih2⟩:=Ly hh hl hr
      have e1:=hh.slot _ _ hg
      rw[V5 (Nat.lt_of_not_le hlow)]at e1
      obtain⟨b,hv,hb⟩:=hh.mem.res m _ (Zg hf)
      obtain⟨g1,g2⟩:=U9 (c:=c) (P:=c.P) (ρ:=ρ) (w:=w) (a:=⟨b,o,none⟩) hd hi hld (hh.mem.bdr _ _ (Zg hf)).2 rfl fun j u hu=>by
       rw[cell_of_row w b _ _ E (0,0) hb];simp[hu]
      have e2:a.tmps.getD q undef= .pointer (some ⟨b,o,none⟩):=by
       simp[Array.getD_eq_getD_getElem?,e1,SV.den,S1.den,At.den,hv,Wl]
      refine⟨?_,fun x hx=> ?_⟩
      ·rw[List.mapM_cons]
       have e3:(Jh a.tmps (.cell q T)).run c.P w= .ok (v.den ρ) w:=by
        show(do loadVar T (←asAddr (a.tmps.getD q undef)):Sem Value).run c.P w=_
        rw[e2,Sem.run_bind]
        exact g1
       simp only[Sem.run_bind,e3,Sem.run_pure,Result.andThen_ok,ih1,List.map_cons]
      ·rcases List.mem_cons.1 hx with rfl|hx
       ·exact g2
       ·exact ih2 x hx
     ·cases h2
    ·cases h2
   ·cases h2
  ·cases h1
theorem Nm{c:Cx}{S:St}{ρ:Env}{a:Act}{w:World}(hh:S.holds c ρ a w){fn:Func}{rl:List RV}{vs:List S1}(h1:J9 c.P fn.results.toList=some rl)(h2:rvs S rl=some vs):
 (results fn a.tmps).run c.P w= .ok ((I6 vs).den ρ) w∧(I6 vs).bd S.nx:=by
 obtain⟨g1,g2⟩:=Ly hh h1 h2
 refine⟨?_,?_⟩
 ·rw[Zbs,Array.mapM_eq_mapM_toList]
  simp only[map_eq_pure_bind,Sem.run_bind,Result.andThen_ok,Sem.run_pure]
  rw[g1]
  simp only[Result.andThen_ok,Sem.run_pure]
  match vs with
  | []=>rfl
  | [v]=>rfl
  |v::u::l=>simp[I6,SV.den]
 ·match vs,g2 with
  | [],_=>intro x hx;cases hx
  | [v],g2=>exact g2 v (by simp)
  |v::u::l,g2=>exact g2
def Qu(c:Cx)(rl:List RV)(R:SV→St→Prop):Exit→St→Prop
 |.normal,S=>match rvs S rl with|some vs=>R (I6 vs) S|none=>False
 |.ret,S=>match rvs S rl with|some vs=>R (I6 vs) S|none=>False
 |_,_=>False
structure Body (P:Program) (f:Nat) (nt:Nat) (x:IC) (rl:List RV):Prop where
 lown:nt≤BIG
 ok:∃fn code,P.funcs[f]? =some fn∧fn.body=some code∧fn.ntmps=nt∧Wt P nt code=some x∧J9 P fn.results.toList=some rl
theorem Body.calls{P:Program}{f nt:Nat}{x:IC}{rl:List RV}(hF:Body P f nt x rl){w:World}{X:List Nat}{fr:List Value}{args:Array Value}{S:St}{ρ:Env}{R:SV→St→Prop}{Post:Ending→World→Prop}
 (hlen:args.size≤nt)(hs:∀t v,S.get t=some v→(if t<BIG then args[t]? else fr[t-BIG]?)=some (v.den ρ)∧v.bd S.nx)(hm:Mem ⟨P,w,X,nt,fr⟩ ρ S.res S.nx w)(hT:T ⟨P,w,X,nt,fr⟩ x (Qu ⟨P,w,X,nt,fr⟩ rl R) S)
 (hpost:∀v S' ρ' w',R v S'→v.bd S'.nx→Mem ⟨P,w,X,nt,fr⟩ ρ' S'.res S'.nx w'→Post (.returned (v.den ρ')) w'):Calls P f args w Post:=by
 obtain⟨fn,code,h1,h2,h3,h4,h5⟩:=hF.ok
 refine calls_of_wp h1 h2 ?_
 have hh:S.holds ⟨P,w,X,nt,fr⟩ ρ {tmps:=args++Array.replicate (fn.ntmps-args.size) undef,defers:=[]} w:=by
  refine⟨rfl,by simp[h3];omega,hF.lown,fun t v hv=> ?_,fun t v hv=>(hs t v hv).2,hm⟩
  have:=(hs t v hv).1
  unfold Np
  split
  rotate_left
  ·rename_i hb;rwa [if_neg hb]at this
  rename_i hb
  rw[if_pos hb]at this
  have hlt:t<args.size:=(Array.getElem?_eq_some_iff.1 this).1
  rw[Array.getElem?_append_left hlt];exact this
 refine wp_mono (hT ρ _ w hh code h4) fun e a' w' hl=> ?_
 obtain⟨S',ρ',g1,g2⟩:=hl
 have fin:(match rvs S' rl with|some vs=>R (I6 vs) S'|none=>False)→a'.defers=[]∧∃v,(results fn a'.tmps).run P w'= .ok v w'∧Post (.returned v) w':=by
  intro h
  split at h
  ·rename_i vs hvs
   obtain⟨r1,r2⟩:=Nm g1 h5 hvs
   exact⟨g1.nodef,_,r1,hpost _ _ _ _ h r2 g1.mem⟩
  ·exact h.elim
 cases e with
 |normal=>exact fin g2
 |ret=>exact fin g2
 |_=>exact g2.elim
def Y1:Nat→List S1→List (Nat×SV)
 |_,[]=>[]
 |i,v::l=>(i,.one v)::Y1 (i+1) l
theorem T7{ρ:Env}{nx:Nat}:∀ {vs:List S1} {i t:Nat} {v:SV},(∀v∈vs,v.bd nx)→Zo (Y1 i vs) t=some v→∃j,t=i+j∧(vs.map (S1.den ρ))[j]? =some (v.den ρ)∧v.bd nx
 |u::vs,i,t,v,hb,h=>by
  rcases look_cons h with⟨rfl,rfl⟩|⟨hne,h⟩
  ·exact⟨0,rfl,rfl,hb u (by simp)⟩
  ·obtain⟨j,h1,h2,h3⟩:=T7 (ρ:=ρ) (fun v hv=>hb v (by simp[hv])) h
   exact⟨j+1,by omega,by simpa using h2,h3⟩
theorem Mem.none(P:Program)(w:World)(X:List Nat)(nt nx:Nat)(fr:List Value):Mem ⟨P,w,X,nt,fr⟩ (fun _=>Yv) [] nx w:=
 ⟨rfl,rfl,rfl,Nat.le_refl _,fun _ _ _=>rfl,fun _=>rfl,List.nodup_nil,(fun n r h=>nomatch h),(fun n r h=>nomatch h),List.nodup_nil,(fun b hb=>nomatch hb)⟩
theorem Body.plain{P:Program}{f nt:Nat}{x:IC}{rl:List RV}(hF:Body P f nt x rl){w:World}{vs:List S1}{R:SV→St→Prop}{Post:Ending→World→Prop}
 (hlen:vs.length≤nt)(hb:∀v∈vs,v.bd 0)(hT:T ⟨P,w,[],nt,[]⟩ x (Qu ⟨P,w,[],nt,[]⟩ rl R) ⟨Y1 0 vs,[],0⟩)
 (hpost:∀v S' ρ' w',R v S'→v.bd S'.nx→Mem ⟨P,w,[],nt,[]⟩ ρ' S'.res S'.nx w'→Post (.returned (v.den ρ')) w'):Calls P f (vs.map (S1.den fun _=>Yv)).toArray w Post:=by
 refine hF.calls (S:=⟨Y1 0 vs,[],0⟩) (ρ:=fun _=>Yv) (by simpa using hlen) (fun t v hv=> ?_) (Mem.none P w [] nt 0 []) hT hpost
 obtain⟨j,h1,h2,h3⟩:=T7 (ρ:=fun _=>Yv) hb hv
 simp only[Nat.zero_add]at h1
 subst h1
 have hjl:t<BIG:=by
  have:=(List.getElem?_eq_some_iff.1 h2).1
  have h4:=hF.lown
  simp only[List.length_map]at this
  omega
 exact⟨by rw[if_pos hjl];simpa using h2,h3⟩
theorem Body.quiet{P:Program}{f nt:Nat}{x:IC}{rl:List RV}(hF:Body P f nt x rl){w:World}{vs:List S1}{r:SV}
 (hlen:vs.length≤nt)(hb:∀v∈vs,v.bd 0)(hr:r.bd 0)(hT:T ⟨P,w,[],nt,[]⟩ x (Qu ⟨P,w,[],nt,[]⟩ rl fun v _=>v=r) ⟨Y1 0 vs,[],0⟩):
 Calls P f (vs.map (S1.den fun _=>Yv)).toArray w fun e w'=>e= .returned (r.den fun _=>Yv)∧Below w.heap.size w w':=
 hF.plain hlen hb hT fun v S' ρ' w' hv _ hm=>⟨by rw[hv,SV.den_same (nx:=0) (ρ:=fun _=>Yv) (fun n hn=>by omega) hr],hm.toBelow⟩
theorem Oi{ρ:Env}{vs:List S1}(hb:∀v∈vs,v.bd 0):vs.map (S1.den ρ)=vs.map (S1.den fun _=>Yv):=
 List.map_congr_left fun v hv=>S1.den_same (nx:=0) (ρ:=fun _=>Yv) (fun n hn=>by omega) (hb v hv)
theorem Za.plain{c:Cx}{f:Nat}{args:List S1}{S:St}{K:SV→St→Prop}(r:SV)(h:∀w,Calls c.P f (args.map (S1.den fun _=>Yv)).toArray w fun e w'=>e= .returned (r.den fun _=>Yv)∧Below w.heap.size w w')
 (hb:∀v∈args,v.bd 0)(hr:r.bd 0)(hK:K r S):Za c f args S K:=by
 intro ρ a w hh
 rw[Oi hb]
 refine(h w).mono fun e w' ⟨he,hbl⟩=>⟨r,ρ,S,Ext.rfl,?_,SV.bd_mono (Nat.zero_le _) hr,hh.below hbl,hK⟩
 rw[he,SV.den_same (nx:=0) (ρ:=fun _=>Yv) (ρ':=ρ) (fun n hn=>by omega) hr]
def Zn(c:Cx)(f:Nat)(args:List S1)(S:St)(K:SV→Prop):Prop:=
 ∃v:SV,v.bd S.nx∧(∀ρ a w,S.holds c ρ a w→Calls c.P f (args.map (S1.den ρ)).toArray w fun e w'=>e= .returned (v.den ρ)∧Below w.heap.size w w')∧K v
def Zi(c:Cx)(b:Bool)(f:Nat)(args:List S1)(S:St)(K:SV→Prop):Prop:=
 ∃v:SV,(b=true→v.bd S.nx∧∀ρ a w,S.holds c ρ a w→Calls c.P f (args.map (S1.den ρ)).toArray w fun e w'=>e= .returned (v.den ρ)∧Below w.heap.size w w')∧(b=false→v.bd S.nx∧∀ρ,v.den ρ=undef)∧K v
def putK(K:St→Prop)(S:St)(d:Option Nat)(v:SV):Prop:=K (S.put d v)
def stq(c:Cx)(S:St)(d:Option Nat):I→(St→Prop)→Prop
 |.load n agg x,K=>match S.rd x with
  |some (p,.a (.elt m sz i j))=>(match S.find m with
   |some (.rou l)=>if sz=2 then(match agg,n,j with
    |true,2,0=>p∧i<l.length∧K (S.new (.ro .line (l.getD i ([],[])).2) d (.one (.agg [.str (l.getD i ([],[])).1,.ref S.nx])))
    |false,1,0=>p∧i<l.length∧K (S.put d (.one (.a (.str (l.getD i ([],[])).1))))
    |false,1,1=>p∧i<l.length∧K (S.new (.ro .line (l.getD i ([],[])).2) d (.one (.a (.ref S.nx))))
    |_,_,_=>False)else False
   |_=>False)
  |_=>False
 |.call f args,K=>match Rf S args with
  |some (p,vs)=>p∧Zn c f vs S (putK K S d)
  |none=>False
 |.pick cc x y,K=>match S.rd cc with
  |some (p,.a (.bool g))=>p∧(g=true→match S.rd x with
    |some (q,v)=>q∧K (S.put d (.one v))
    |none=>False)∧(g=false→match S.rd y with
    |some (q,v)=>q∧K (S.put d (.one v))
    |none=>False)
  |_=>False
 |_,_=>False
def Za2(c:Cx)(b:Bool)(S:St)(d:Option Nat)(i:I)(K:St→Prop):Prop:=
 match i with
 |.call f args=>(match Rf S args with
  |some (p,vs)=>(b=true→p)∧Zi c b f vs S (putK K S d)
  |none=>False)
 |i=>(b=true→stq c S d i K)∧(b=false→K (S.put d noV))
def exq(c:Cx):List In→St→(St→Prop)→Prop
 | [],S,K=>K S
 |⟨none,d,i⟩::r,S,K=>match ev S i with
  |some (p,v)=>p∧exq c r (S.put d v) K
  |none=>stq c S d i fun S'=>exq c r S' K
 |⟨some g,d,i⟩::r,S,K=>match gdc S g with
  |none=>False
  |some b=>match ev S i with
   |some (p,.one v)=>(b=true→p)∧exq c r (S.put d (.opt b v)) K
   |_=>Za2 c b S d i fun S'=>exq c r S' K
def exqK(c:Cx)(r:List In)(K:St→Prop)(S:St):Prop:=exq c r S K
theorem Zdc(c:Cx)(S:St)(K:St→Prop):exq c [] S K=K S:=rfl
theorem Cf(c:Cx)(d:Option Nat)(i:I)(r:List In)(S:St)(K:St→Prop):exq c (⟨none,d,i⟩::r) S K=(match ev S i with
 |some (p,v)=>p∧exq c r (S.put d v) K
 |none=>stq c S d i (exqK c r K)):=rfl
theorem Cg(c:Cx)(g:Nat×Bool)(d:Option Nat)(i:I)(r:List In)(S:St)(K:St→Prop):exq c (⟨some g,d,i⟩::r) S K=(match gdc S g with
 |none=>False
 |some b=>match ev S i with
  |some (p,.one v)=>(b=true→p)∧exq c r (S.put d (.opt b v)) K
  |_=>Za2 c b S d i (exqK c r K)):=rfl
theorem St.holds.atw{S:St}{c:Cx}{ρ:Env}{a:Act}{w w':World}(h:S.holds c ρ a w)(hm:Mem c ρ S.res S.nx w'):S.holds c ρ a w':=⟨h.nodef,h.sz,h.lown,h.slot,h.bds,hm⟩
theorem Hx{c:Cx}{S:St}{ρ:Env}{a:Act}{w:World}(hh:S.holds c ρ a w){o:Oper}{n:Nat}{agg:Bool}{x:Opd}(hc:Nj c.P o=some (.load n agg x))(hd:∀t,o.dst=some t→t<c.nt){K:St→Prop}(hs:stq c S o.dst (.load n agg x) K):
 ∃u S' ρ',K S'∧(∀w',Below w.heap.size w w'→(execOp a.eval o).run c.P w'= .ok (.value u) w')∧S'.holds c ρ' (a.put o.dst u) w:=by
 have hc':∃t y dd j,o.op= .load t y∧c.P.underlying t=some dd∧c.P.info? t=some j∧n=j.size∧agg=Wk dd∧x=opd y:=by
  replace hc:=Fs hc rfl
  unfold S7 at hc
  split at hc<;>(try(repeat' split at hc)<;>cases hc)
  exact⟨_,_,_,_,by assumption,by assumption,by assumption,rfl,rfl,rfl⟩
 obtain⟨t,y,dd,j,ho,ht,hi,rfl,hag,rfl⟩:=hc'
 simp only[stq]at hs
 split at hs
 ·rename_i p m sz ii jj hrd
  split at hs
  ·rename_i l hf
   split at hs
   ·rename_i hsz
    subst hsz
    split at hs
    ·rename_i hagg hsz
     obtain⟨hp,hlt,hK⟩:=hs
     obtain⟨e1,_⟩:=Zc hh hrd hp
     obtain⟨ad,cap,a1,cap1,g1,g2,g3,g4,g5⟩:=hh.mem.rou_cell (Zg hf) hlt
     have hm:=hh.mem.nameLines g4 g5
     have hput:=hh.put (Zh ρ S.nx _) (Nat.le_succ _) hm hd (v:=.one (.agg [.str (l.getD ii ([],[])).1,.ref S.nx])) (by intro u hu;simp only[List.mem_cons,List.not_mem_nil,or_false]at hu;rcases hu with rfl|rfl<;>simp[At.bd])
     have hden:(SV.one (.agg [.str (l.getD ii ([],[])).1,.ref S.nx])).den (Z9 ρ S.nx (.slice a1 (l.getD ii ([],[])).2.length cap1))= .agg #[.string ⟨(l.getD ii ([],[])).1.toArray⟩,.slice a1 (l.getD ii ([],[])).2.length cap1]:=by
      simp only[SV.den,S1.den,List.map_cons,List.map_nil,At.den,Zl]
     rw[hden]at hput
     refine⟨_,_,_,hK,fun w' hb=> ?_,hput⟩
     unfold execOp;simp only[ho]
     refine Y0 ?_
     rw[e1]
     simp only[S1.den,At.den,g1,Vx,Instr.loadAt,Sem.run_bind,Yb,Result.andThen_ok]
     refine Ty ht hi hag.symm (cs:=[.string ⟨(l.getD ii ([],[])).1.toArray⟩,.slice a1 (l.getD ii ([],[])).2.length cap1]) hsz fun q v hq=> ?_
     rw[Addr.add_lit]
     match q,hq with
     |0,hq=>cases hq;exact(hb.cell (Xl g2)).trans g2
     |1,hq=>cases hq;exact(hb.cell (Xl g3)).trans g3
     |q+2,hq=>simp at hq
    ·rename_i hagg hsz
     obtain⟨hp,hlt,hK⟩:=hs
     obtain⟨e1,_⟩:=Zc hh hrd hp
     obtain⟨ad,cap,a1,cap1,g1,g2,g3,g4,g5⟩:=hh.mem.rou_cell (Zg hf) hlt
     refine⟨_,_,_,hK,fun w' hb=> ?_,hh.put_same hd (v:=.one (.a (.str (l.getD ii ([],[])).1))) trivial⟩
     unfold execOp;simp only[ho]
     refine Y0 ?_
     rw[e1]
     simp only[S1.den,At.den,g1,Vx,Instr.loadAt,Sem.run_bind,Yb,Result.andThen_ok]
     exact Wp ht hag.symm ((hb.cell (Xl g2)).trans g2)
    ·rename_i hagg hsz
     obtain⟨hp,hlt,hK⟩:=hs
     obtain⟨e1,_⟩:=Zc hh hrd hp
     obtain⟨ad,cap,a1,cap1,g1,g2,g3,g4,g5⟩:=hh.mem.rou_cell (Zg hf) hlt
     have hm:=hh.mem.nameLines g4 g5
     have hput:=hh.put (Zh ρ S.nx _) (Nat.le_succ _) hm hd (v:=.one (.a (.ref S.nx))) (Nat.lt_succ_self _)
     have hden:(SV.one (.a (.ref S.nx))).den (Z9 ρ S.nx (.slice a1 (l.getD ii ([],[])).2.length cap1))= .slice a1 (l.getD ii ([],[])).2.length cap1:=by simp only[SV.den,S1.den,At.den,Zl]
     rw[hden]at hput
     refine⟨_,_,_,hK,fun w' hb=> ?_,hput⟩
     unfold execOp;simp only[ho]
     refine Y0 ?_
     rw[e1]
     simp only[S1.den,At.den,g1,Vx,Instr.loadAt,Sem.run_bind,Yb,Result.andThen_ok]
     exact Wp ht hag.symm ((hb.cell (Xl g3)).trans g3)
    ·exact hs.elim
   ·exact hs.elim
  ·exact hs.elim
 ·exact hs.elim
theorem Gk{c:Cx}{ops:Array Oper}{w0:World}:∀(ol:List Oper) (il:List In),ol.mapM (Xq c.P c.nt ops)=some il→∀(K:St→Prop) (S:St) (ρ:Env) (a:Act),
 exq c il S K→S.holds c ρ a w0→wpQuiet c.P ops (fun w=>Below w0.heap.size w0 w) (fun a'=>∃S' ρ',K S'∧S'.holds c ρ' a' w0) ol a
 | [],il,hm,K,S,ρ,a,hx,hh=>by
   rw[List.mapM_nil]at hm
   cases hm
   exact⟨S,ρ,hx,hh⟩
 |o::ol,il,hm,K,S,ρ,a,hx,hh=>by
  rw[List.mapM_cons]at hm
  cases h1:Xq c.P c.nt ops o with
  |none=>simp[h1]at hm
  |some x=>
   cases h2:ol.mapM (Xq c.P c.nt ops)with
   |none=>simp[h1,h2]at hm
   |some il'=>
    simp[h1,h2]at hm
    subst hm
    obtain⟨hc,hdst,hd,hg⟩:=V2 h1
    obtain⟨g,d,i⟩:=x
    simp only at hc hdst hg
    subst hdst
    have ih:∀S' ρ' a',exq c il' S' K→S'.holds c ρ' a' w0→wpQuiet c.P ops (fun w=>Below w0.heap.size w0 w) (fun a'=>∃S' ρ',K S'∧S'.holds c ρ' a' w0) ol a':=fun S' ρ' a' h1 h3=>Gk ol il' h2 K S' ρ' a' h1 h3
    have atw:∀ {w},Below w0.heap.size w0 w→S.holds c ρ a w:=fun hb=>hh.below hb
    have stq_ok:stq c S o.dst i (fun S'=>exq c il' S' K)→o.quiet c.P a (fun w=>Below w0.heap.size w0 w) (wpQuiet c.P ops (fun w=>Below w0.heap.size w0 w) (fun a'=>∃S' ρ',K S'∧S'.holds c ρ' a' w0) ol):=by
     intro hs
     cases i with
     |load n agg x=>
      obtain⟨u,S',ρ',hK,hrun,hS'⟩:=Hx hh hc hd hs
      refine⟨u,fun w hw=> ?_,ih _ _ _ hK hS'⟩
      unfold Oper.quietAt
      rw[hrun w hw]
      exact⟨rfl,rfl⟩
     |call f args=>
      simp only[stq]at hs
      split at hs
      ·rename_i p vs hrd
       obtain⟨hp,v,hvb,hcall,hK⟩:=hs
       refine⟨v.den ρ,fun w hw=> ?_,ih _ _ _ hK (hh.put_same hd hvb)⟩
       have hc':=Fs hc rfl
       unfold S7 at hc'
       have hrun:∃cl f' fn,o.op= .call cl∧cl.callee= .value (.func f')∧c.P.funcs[f']? =some fn∧¬(fn.name== "runtime.NumGoroutine" ||fn.body.isNone)=true∧f=f'∧args=cl.args.toList.map opd:=by
        split at hc'<;>(try(repeat' split at hc')<;>cases hc')
        rename_i cl ho _ _ fn hnot hcal hfn
        exact⟨cl,_,fn,ho,hcal,hfn,hnot,rfl,rfl⟩
       obtain⟨cl,f',fn,ho,hcal,hfn,hnot,rfl,rfl⟩:=hrun
       have hargs:=V4 (atw hw) hrd hp
       have hargs':cl.args.map a.eval=(vs.map (S1.den ρ)).toArray:=by rw[←hargs,←Array.toList_map]
       have hx2:(execOp a.eval o).run c.P w= .ok (.enter f (vs.map (S1.den ρ)).toArray) w:=by
        simp only[Bool.or_eq_true,not_or,Bool.not_eq_true]at hnot
        unfold execOp
        simp only[ho,resolve,hcal,Act.eval,Deferred.ofValue,Sem.run_bind,Sem.run_pure,Result.andThen_ok,invoke,callFunc,program,Sem.run,hfn,hnot.1,hnot.2]
        simp[Sem.run_pure,hargs']
       unfold Oper.quietAt
       rw[hx2]
       exact⟨rfl,(hcall ρ a w (atw hw)).mono fun e w'' ⟨he,hb⟩=>⟨he,hw.trans (hb.mono hw.size)⟩⟩
      ·exact hs.elim
     |pick cc x y=>
      have hc':=Fs hc rfl
      unfold S7 at hc'
      have hrun:∃cc' x' y',o.op= .pick cc' x' y'∧cc=opd cc'∧x=opd x'∧y=opd y':=by
       split at hc'<;>(try(repeat' split at hc')<;>cases hc')
       exact⟨_,_,_,by assumption,rfl,rfl,rfl⟩
      obtain⟨cc',x',y',ho,rfl,rfl,rfl⟩:=hrun
      simp only[stq]at hs
      split at hs
      ·rename_i p g hrd
       obtain⟨hp,hs1,hs2⟩:=hs
       obtain⟨e1,_⟩:=Zc hh hrd hp
       have fin:∀(q:Prop) (v:S1) (z:Operand),S.rd (opd z)=some (q,v)→q→(if g=true then z=x' else z=y')→exq c il' (S.put o.dst (.one v)) K→o.quiet c.P a (fun w=>Below w0.heap.size w0 w) (wpQuiet c.P ops (fun w=>Below w0.heap.size w0 w) (fun a'=>∃S' ρ',K S'∧S'.holds c ρ' a' w0) ol):=by
        intro q v z hrd2 hq hz hK
        obtain⟨e2,hb⟩:=Zc hh hrd2 hq
        refine⟨v.den ρ,fun w hw=> ?_,ih _ _ _ hK (hh.put_same hd (v:=.one v) hb)⟩
        have e1':a.eval cc'= .bool g:=e1
        unfold Oper.quietAt
        have:(execOp a.eval o).run c.P w= .ok (.value (v.den ρ)) w:=by
         unfold execOp
         simp only[ho,e1',asBool,Sem.run_bind,Sem.run_pure,Result.andThen_ok]
         cases g
         ·simp only[Bool.false_eq_true,if_false]at hz ⊢;rw[←hz,e2]
         ·simp only[if_true]at hz ⊢;rw[←hz,e2]
        rw[this]
        exact⟨rfl,rfl⟩
       cases g
       ·have:=hs2 rfl
        split at this
        ·rename_i q v hrd2;exact fin q v y' hrd2 this.1 (by simp) this.2
        ·exact this.elim
       ·have:=hs1 rfl
        split at this
        ·rename_i q v hrd2;exact fin q v x' hrd2 this.1 (by simp) this.2
        ·exact this.elim
      ·exact hs.elim
     |_=>exact hs.elim
    have ev_ok:∀ {p:Prop} {v:SV},ev S i=some (p,v)→p→∀w,Below w0.heap.size w0 w→o.quietAt c.P a (fun w=>Below w0.heap.size w0 w) w (v.den ρ):=by
     intro p v hev hp w hw
     obtain⟨g1,_⟩:=Wd (atw hw) hc hev hp
     unfold Oper.quietAt
     rw[g1]
     exact⟨rfl,rfl⟩
    unfold wpQuiet
    cases g with
    |none=>
     simp only at hg
     have hw:Region.wanted o (yielded ops a.tmps)=true:=by simp[Region.wanted,hg]
     rw[if_pos hw]
     unfold exq at hx
     split at hx
     ·rename_i p v hev
      exact⟨v.den ρ,ev_ok hev hx.1,ih _ _ _ hx.2 (hh.put_same hd (Wd hh hc hev hx.1).2)⟩
     ·exact stq_ok hx
    |some g=>
     obtain⟨t,want⟩:=g
     obtain⟨hlow,j,hgd,hj⟩:=hg
     unfold exq at hx
     split at hx
     ·exact hx.elim
     ·rename_i b hgdc
      have hw:=So hh hgd hj hlow hgdc
      split at hx
      ·rename_i p v hev
       cases b with
       |true=>
        rw[if_pos hw]
        exact⟨v.den ρ,ev_ok hev (hx.1 rfl),ih _ _ _ hx.2 (hh.put_same hd (v:=.opt true v) fun _=>(Wd hh hc hev (hx.1 rfl)).2)⟩
       |false=>
        rw[if_neg (by rw[hw];decide)]
        exact ih _ _ _ hx.2 (hh.put_same hd (v:=.opt false v) fun h=>by cases h)
      ·have skip:∀v:SV,b=false→v.bd S.nx→v.den ρ=undef→exq c il' (S.put o.dst v) K→(if Region.wanted o (yielded ops a.tmps)=true then o.quiet c.P a (fun w=>Below w0.heap.size w0 w) (wpQuiet c.P ops (fun w=>Below w0.heap.size w0 w) (fun a'=>∃S' ρ',K S'∧S'.holds c ρ' a' w0) ol)else wpQuiet c.P ops (fun w=>Below w0.heap.size w0 w) (fun a'=>∃S' ρ',K S'∧S'.holds c ρ' a' w0) ol (a.put o.dst undef)):=by
        intro v hb hvb hvd hK
        rw[if_neg (by rw[hw,hb];decide)]
        have hp:=hh.put_same hd hvb
        rw[hvd]at hp
        exact ih _ _ _ hK hp
       have plain:(b=true→stq c S o.dst i fun S'=>exq c il' S' K)∧(b=false→exq c il' (S.put o.dst noV) K)→(if Region.wanted o (yielded ops a.tmps)=true then o.quiet c.P a (fun w=>Below w0.heap.size w0 w) (wpQuiet c.P ops (fun w=>Below w0.heap.size w0 w) (fun a'=>∃S' ρ',K S'∧S'.holds c ρ' a' w0) ol)else wpQuiet c.P ops (fun w=>Below w0.heap.size w0 w) (fun a'=>∃S' ρ',K S'∧S'.holds c ρ' a' w0) ol (a.put o.dst undef)):=by
        intro hx
        cases b with
        |true=>rw[if_pos hw];exact stq_ok (hx.1 rfl)
        |false=>exact skip noV rfl (R9 _) (Ru ρ) (hx.2 rfl)
       cases i with
       |call f args=>
        simp only[Za2]at hx
        split at hx
        ·rename_i p vs hrd
         obtain⟨hp,v,h1,h2,hK⟩:=hx
         cases b with
         |true=>
          rw[if_pos hw]
          refine stq_ok ?_
          simp only[stq,hrd]
          exact⟨hp rfl,v,(h1 rfl).1,(h1 rfl).2,hK⟩
         |false=>exact skip v rfl (h2 rfl).1 ((h2 rfl).2 ρ) hK
        ·exact hx.elim
       |_=>exact plain hx
theorem T.dreg{c:Cx}{Q:Exit→St→Prop}{S:St}{l:List In}(hmix:c.P.follows .mixedOrders=true)(h:exq c l S (Q .normal)):T c (.dreg l) Q S:=by
 intro ρ a w hh code hc
 obtain⟨id,ops,rfl,hB,hl⟩:=Zew hc
 have hh':S.holds c ρ a {w with drawn:=w.drawn+1}:=hh.atw hh.mem.drew
 refine wp_region_quiet (C:=fun w'=>Below {w with drawn:=w.drawn+1}.heap.size {w with drawn:=w.drawn+1} w') hmix hB (Below.refl _ _) ?_
 have hq:=Gk (w0:= {w with drawn:=w.drawn+1}) ops.toList l hl (Q .normal) S ρ a h hh'
 have mono:∀(l:List Oper) (a:Act) {C:World→Prop} {K K':Act→Prop},(∀a,K a→K' a)→wpQuiet c.P ops C K l a→wpQuiet c.P ops C K' l a:=by
  intro l
  induction l with
  |nil=>intro a C K K' hk h;exact hk _ h
  |cons o l ih=>
   intro a C K K' hk h
   unfold wpQuiet at h ⊢
   split
   ·rename_i hw
    rw[if_pos hw]at h
    exact Oper.quiet_mono (fun a h=>ih a hk h) h
   ·rename_i hw
    rw[if_neg hw]at h
    exact ih _ hk h
 refine mono _ _ (fun a' h=> ?_) hq
 obtain⟨S',ρ',hK,hS'⟩:=h
 intro w' hw'
 exact⟨S',ρ',hS'.below hw',hK⟩
def exh:List In→St→(St→Prop)→Prop
 | [],S,K=>K S
 |⟨none,d,i⟩::r,S,K=>match ev S i with
  |some (p,v)=>p∧exh r (S.put d v) K
  |none=>False
 |⟨some g,d,i⟩::r,S,K=>match gdc S g with
  |none=>False
  |some b=>match ev S i with
   |some (p,.one v)=>(b=true→p)∧exh r (S.put d (.opt b v)) K
   |_=>False
theorem Zdb(S:St)(K:St→Prop):exh [] S K=K S:=rfl
theorem Cd(d:Option Nat)(i:I)(r:List In)(S:St)(K:St→Prop):exh (⟨none,d,i⟩::r) S K=(match ev S i with
 |some (p,v)=>p∧exh r (S.put d v) K
 |none=>False):=rfl
theorem Ce(g:Nat×Bool)(d:Option Nat)(i:I)(r:List In)(S:St)(K:St→Prop):exh (⟨some g,d,i⟩::r) S K=(match gdc S g with
 |none=>False
 |some b=>match ev S i with
  |some (p,.one v)=>(b=true→p)∧exh r (S.put d (.opt b v)) K
  |_=>False):=rfl
theorem Gj{c:Cx}{ops:Array Oper}{ρ:Env}{w:World}:∀(ol:List Oper) (il:List In),ol.mapM (Xq c.P c.nt ops)=some il→∀(K:St→Prop) (S:St) (a:Act),
 exh il S K→S.holds c ρ a w→wpStill c.P ops w (fun a'=>∃S',K S'∧S'.holds c ρ a' w) ol a
 | [],il,hm,K,S,a,hx,hh=>by
   rw[List.mapM_nil]at hm
   cases hm
   exact⟨S,hx,hh⟩
 |o::ol,il,hm,K,S,a,hx,hh=>by
  rw[List.mapM_cons]at hm
  cases h1:Xq c.P c.nt ops o with
  |none=>simp[h1]at hm
  |some x=>
   cases h2:ol.mapM (Xq c.P c.nt ops)with
   |none=>simp[h1,h2]at hm
   |some il'=>
    simp[h1,h2]at hm
    subst hm
    obtain⟨hc,hdst,hd,hg⟩:=V2 h1
    obtain⟨g,d,i⟩:=x
    simp only at hc hdst hg
    subst hdst
    have ih:∀S' a',exh il' S' K→S'.holds c ρ a' w→wpStill c.P ops w (fun a'=>∃S',K S'∧S'.holds c ρ a' w) ol a':=fun S' a' h1 h3=>Gj ol il' h2 K S' a' h1 h3
    unfold wpStill
    have run:∀ {p:Prop} {v:SV},ev S i=some (p,v)→p→∀ {next:Act→Prop},next (a.put o.dst (v.den ρ))→o.still c.P a w next:=by
     intro p v hev hp next hn
     obtain⟨g1,_⟩:=Wd hh hc hev hp
     unfold Oper.still
     rw[g1]
     exact⟨rfl,hn⟩
    cases g with
    |none=>
     simp only at hg
     have hw:Region.wanted o (yielded ops a.tmps)=true:=by simp[Region.wanted,hg]
     rw[if_pos hw]
     unfold exh at hx
     split at hx
     ·rename_i p v hev
      exact run hev hx.1 (ih _ _ hx.2 (hh.put_same hd (Wd hh hc hev hx.1).2))
     ·exact hx.elim
    |some g=>
     obtain⟨t,want⟩:=g
     obtain⟨hlow,j,hgd,hj⟩:=hg
     unfold exh at hx
     split at hx
     ·exact hx.elim
     ·rename_i b hgdc
      have hw:=So hh hgd hj hlow hgdc
      split at hx
      ·rename_i p v hev
       cases b with
       |true=>
        rw[if_pos hw]
        exact run hev (hx.1 rfl) (ih _ _ hx.2 (hh.put_same hd (v:=.opt true v) fun _=>(Wd hh hc hev (hx.1 rfl)).2))
       |false=>
        rw[if_neg (by rw[hw];decide)]
        exact ih _ _ hx.2 (hh.put_same hd (v:=.opt false v) fun h=>by cases h)
      ·exact hx.elim
theorem Gq{α β:Type}{f:α→Option β}:∀ {l:List α} {m:List β},l.mapM f=some m→∀n,(l.take n).mapM f=some (m.take n)∧(l.drop n).mapM f=some (m.drop n)
 | [],m,h,n=>by
   rw[List.mapM_nil]at h;cases h
   simp
 |x::l,m,h,n=>by
  rw[List.mapM_cons]at h
  cases h1:f x with
  |none=>simp[h1]at h
  |some y=>
   cases h2:l.mapM f with
   |none=>simp[h1,h2]at h
   |some m'=>
    simp[h1,h2]at h
    subst h
    cases n with
    |zero=>simp[List.mapM_cons,h1,h2]
    |succ n=>
     obtain⟨g1,g2⟩:=Gq h2 n
     refine⟨?_,by simpa using g2⟩
     simp[List.take_succ_cons,List.mapM_cons,h1,g1]
theorem T.dregt{c:Cx}{Q:Exit→St→Prop}{S:St}{hd tl:List In}(hmix:c.P.follows .mixedOrders=true)(h:exh hd S fun S'=>ex c tl S' (Q .normal)):T c (.dregt hd tl) Q S:=by
 intro ρ a w hh code hc
 obtain⟨id,ops,n,l,rfl,hB,hl,rfl,rfl⟩:=Zav hc
 obtain⟨h1,h2⟩:=Gq hl n
 have e:ops=ops.toList.toArray:=by simp
 have hh':S.holds c ρ a {w with drawn:=w.drawn+1}:=hh.atw hh.mem.drew
 have key:=Gj _ _ h1 _ S a h hh'
 rw[e]at hB key ⊢
 refine wp_region_still_tail n hmix hB ?_
 have mono:∀(l:List Oper) (a:Act) {K K':Act→Prop},(∀a,K a→K' a)→wpStill c.P ops.toList.toArray {w with drawn:=w.drawn+1} K l a→wpStill c.P ops.toList.toArray {w with drawn:=w.drawn+1} K' l a:=by
  intro l
  induction l with
  |nil=>intro a K K' hk h;exact hk _ h
  |cons o l ih=>
   intro a K K' hk h
   unfold wpStill at h ⊢
   split
   ·rename_i hw
    rw[if_pos hw]at h
    exact Oper.still_mono (fun a h=>ih a hk h) h
   ·rename_i hw
    rw[if_neg hw]at h
    exact ih _ hk h
 refine mono _ _ (fun a' hq=> ?_) key
 obtain⟨S',hK,hS'⟩:=hq
 rw[e]at h2
 exact Mw _ _ h2 (Q .normal) S' ρ a' _ (fun S2 ρ2 a2 w2 _ hQ hS2=>⟨S2,ρ2,hS2,hQ⟩) hK hS'
theorem T.dregts{c:Cx}{Q:Exit→St→Prop}{S:St}{hd tl:List In}{y:IC}(hmix:c.P.follows .mixedOrders=true)(h:exh hd S fun S'=>ex c tl S' (T c y Q)):T c (.seq (.dregt hd tl) y) Q S:=T.seq (T.dregt hmix h)
theorem T.dany{c:Cx}{Q:Exit→St→Prop}{S:St}{t:DT}(hmix:c.P.follows .mixedOrders=true)(h:exD c S.res t S (Q .normal)):T c (.dany t) Q S:=by
 intro ρ a w hh code hc
 obtain⟨id,ops,it,rfl,hns,hok,hdep,hf⟩:=Gc hc
 refine wp_region_noPanic ?_
 refine wp_region_any hmix ?_
 have hh':S.holds c ρ a {w with drawn:=w.drawn+1}:=hh.atw hh.mem.drew
 have:=Gh (Q:=NoPanic (Zhc c Q)) hh'.mem hns (fun p a w h=>h) (K:=Q .normal) (fun S' ρ' a' w' hQ hS=>⟨S',ρ',hS,hQ⟩) it t (Array.replicate ops.size false) none S ρ a {w with drawn:=w.drawn+1} ops.size hf hok (fun _ _=>rfl) (Nat.le_refl _) hh' h hdep
 exact Mf _ _ _ _ this
theorem T.danyp(ps:List Nat){c:Cx}{Q:Exit→St→Prop}{S:St}{t:DT}(hmix:c.P.follows .mixedOrders=true)(h:exD c (wkR ps S.res) t S (Q .normal)):T c (.dany t) Q S:=by
 intro ρ a w hh code hc
 obtain⟨id,ops,it,rfl,hns,hok,hdep,hf⟩:=Gc hc
 refine wp_region_noPanic ?_
 refine wp_region_any hmix ?_
 have hh':S.holds c ρ a {w with drawn:=w.drawn+1}:=hh.atw hh.mem.drew
 have:=Gh (Q:=NoPanic (Zhc c Q)) (hh'.mem.wk ps) hns (fun p a w h=>h) (K:=Q .normal) (fun S' ρ' a' w' hQ hS=>⟨S',ρ',hS,hQ⟩) it t (Array.replicate ops.size false) none S ρ a {w with drawn:=w.drawn+1} ops.size hf hok (fun _ _=>rfl) (Nat.le_refl _) hh' h hdep
 exact Mf _ _ _ _ this
theorem T.danyps(ps:List Nat){c:Cx}{Q:Exit→St→Prop}{S:St}{t:DT}{y:IC}(hmix:c.P.follows .mixedOrders=true)(h:exD c (wkR ps S.res) t S (T c y Q)):T c (.seq (.dany t) y) Q S:=T.seq (T.danyp ps hmix h)
theorem T.danys{c:Cx}{Q:Exit→St→Prop}{S:St}{t:DT}{y:IC}(hmix:c.P.follows .mixedOrders=true)(h:exD c S.res t S (T c y Q)):T c (.seq (.dany t) y) Q S:=T.seq (T.dany hmix h)
theorem T.dregs{c:Cx}{Q:Exit→St→Prop}{S:St}{l:List In}{y:IC}(hmix:c.P.follows .mixedOrders=true)(h:exq c l S (T c y Q)):T c (.seq (.dreg l) y) Q S:=T.seq (T.dreg hmix h)
theorem Zn.plain{c:Cx}{f:Nat}{args:List S1}{S:St}{K:SV→Prop}(r:SV)(h:∀w,Calls c.P f (args.map (S1.den fun _=>Yv)).toArray w fun e w'=>e= .returned (r.den fun _=>Yv)∧Below w.heap.size w w')
 (hb:∀v∈args,v.bd 0)(hr:r.bd 0)(hK:K r):Zn c f args S K:=by
 refine⟨r,SV.bd_mono (Nat.zero_le _) hr,fun ρ a w hh=> ?_,hK⟩
 rw[Oi hb]
 refine(h w).mono fun e w' ⟨he,hbl⟩=>⟨?_,hbl⟩
 rw[he,SV.den_same (nx:=0) (ρ:=fun _=>Yv) (ρ':=ρ) (fun n hn=>by omega) hr]
def Xx:Env:=fun _=>Yv
def O9(w:World)(v:Value)(k:Kd)(l:List k.ty):Prop:=
 ∃a cap,(v= .slice a l.length cap∧l.length≤cap)∧(a=none→l=[])∧∀ad:Addr,a=some ad→(l≠[]→ad.spot=none)∧∀(i:Nat) (x:k.ty),l[i]? =some x→∀(j:Nat) (u:At),(k.enc x)[j]? =some u→w.cell? ⟨ad.block,ad.off+(i*k.sz+j),none⟩=some (u.den Xx)
def P4(base:Nat)(w:World)(v:Value)(E:Nat)(k:Kd)(l:List k.ty):Prop:=w.ownsRow base E k.sz v l.length ((l.flatMap k.enc).map (At.den Xx))
theorem O9.one{w:World}{v:Value}{k:Kd}{l:List k.ty}(h:O9 w v k l):v.oneCell'=true:=by obtain⟨a,cap,⟨rfl,_⟩,_⟩:=h;rfl
theorem P4.one{base:Nat}{w:World}{v:Value}{E:Nat}{k:Kd}{l:List k.ty}(h:P4 base w v E k l):v.oneCell'=true:=by
 rcases h.2 with⟨rfl,_⟩|⟨g,cp,cur,rfl,_⟩<;>rfl
theorem O9.below{w w':World}{v:Value}{k:Kd}{l:List k.ty}(h:O9 w v k l)(hb:Below w.heap.size w w'):O9 w' v k l:=by
 obtain⟨a,cap,h1,h2,h3⟩:=h
 refine⟨a,cap,h1,h2,fun ad had=>⟨(h3 ad had).1,fun i x hx j u hu=> ?_⟩⟩
 have:=(h3 ad had).2 i x hx j u hu
 rw[hb.cell (Xl this)];exact this
theorem Res.ro_at{ρ:Env}{O:List Nat}{n:Nat}{w:World}{k:Kd}{l:List k.ty}(h:(Res.ro k l).holds ρ O n w):O9 w (ρ n) k l:=by
 obtain⟨a,cap,h1,h2,h3⟩:=h
 refine⟨a,cap,h1,h2,fun ad had=>⟨(h3 ad had).1,fun i x hx j u hu=> ?_⟩⟩
 rw[k.enc_at x ρ Xx hu]
 exact((h3 ad had).2 i x hx j u hu).1
theorem Pj{base:Nat}{w:World}{v:Value}{E:Nat}{k:Kd}{l:List k.ty}(h:w.ownsRow base E k.sz v l.length ((l.flatMap k.enc).map (At.den Xx))):O9 w v k l:=by
 rcases h.2 with⟨hv,hn⟩|⟨g,cap,cur,hv,_,hh,hn,hcap,hcur,htake⟩
 ·have:l=[]:=List.eq_nil_of_length_eq_zero hn
  subst this
  exact⟨none,0,⟨hv,Nat.le_refl _⟩,fun _=>rfl,fun ad had=>by cases had⟩
 ·refine⟨some ⟨g,0,none⟩,cap,⟨hv,hn⟩,(fun h=>by cases h),fun ad had=> ?_⟩
  cases had
  refine⟨fun _=>rfl,fun i x hx j u hu=> ?_⟩
  have hj:j<k.sz:=by rw[←k.enc_length x];exact(List.getElem?_eq_some_iff.1 hu).1
  have hc:((l.flatMap k.enc).map (At.den Xx))[i*k.sz+j]? =some (u.den Xx):=by rw[List.getElem?_map,k.encs_get l i j x hx hj,hu];rfl
  rw[cell_of_row w g _ cur E (0,0) hh,Nat.zero_add]
  rw[←htake,List.getElem?_take]at hc
  split at hc
  ·simpa using hc
  ·cases hc
theorem P4.ro{base:Nat}{w:World}{v:Value}{E:Nat}{k:Kd}{l:List k.ty}(h:P4 base w v E k l):O9 w v k l:=Pj h
theorem Res.row_own{ρ:Env}{O:List Nat}{n E:Nat}{w:World}{k:Kd}{l:List k.ty}(h:(Res.row E k l).holds ρ O n w):w.ownsRow 0 E k.sz (ρ n) l.length ((l.flatMap k.enc).map (At.den Xx)):=by
 simp only[Res.holds]at h;rw[k.encs_den l ρ Xx];exact h
theorem Res.lit_ro{ρ:Env}{O:List Nat}{n E z e:Nat}{w:World}{k:Kd}{xs:List k.ty}{l:List At}(h:(Res.lit E z e l).holds ρ O n w)(hl:xs.flatMap k.enc=l)(he:xs.length=e):O9 w (ρ n) k xs:=by
 obtain⟨b,hv,hlen,hb⟩:=h
 subst hl
 refine⟨some ⟨b,0,none⟩,e,⟨by rw[hv,he],Nat.le_of_eq he⟩,(fun h=>by cases h),fun ad had=> ?_⟩
 cases had
 refine⟨fun _=>rfl,fun i x hx j u hu=> ?_⟩
 have hj:j<k.sz:=by rw[←k.enc_length x];exact(List.getElem?_eq_some_iff.1 hu).1
 rw[cell_of_row w b _ _ E (0,0) hb,Nat.zero_add,k.enc_at x ρ Xx hu]
 simp[k.encs_get xs i j x hx hj,hu]
theorem Mem.ro{c:Cx}{ρ:Env}{R:List (Nat×Res)}{nx m:Nat}{w:World}(h:Mem c ρ R nx w){k:Kd}{l:List k.ty}(hm:(m,Res.ro k l)∈R∨∃E,(m,Res.row E k l)∈R):O9 w (ρ m) k l:=by
 rcases hm with hm|⟨E,hm⟩
 ·exact Res.ro_at (h.res _ _ hm)
 ·exact Pj (Res.row_own (h.res _ _ hm))
theorem Mem.addRo{c:Cx}{ρ:Env}{R:List (Nat×Res)}{nx:Nat}{w:World}(h:Mem c ρ R nx w){v:Value}{k:Kd}{l:List k.ty}(hv:O9 w v k l)(hno:∀a n cp,v= .slice (some a) n cp→l≠[]→a.block∉Zp ρ R):
 Mem c (Z9 ρ nx v) ((nx,.ro k l)::R) (nx+1) w:=by
 have:=Mem.step (ρ':=Z9 ρ nx v) (nx':=nx+1) (w':=w) (ds:=[]) (m:=nx) (r:=.ro k l) (D:=[]) h
  (Zh ρ nx _) (by omega) (Yx h.one hv.one) rfl rfl rfl (Nat.le_refl _) (fun b o hb _=>hb) (by simp) (by omega) (.inr (Nat.le_refl _)) trivial
  (fun b hb=>by cases hb)
  (fun O' hO _=>by
    obtain⟨a,cap,h1,h2,h3⟩:=hv
    refine⟨a,cap,by rw[Zl];exact h1,h2,fun ad had=>⟨(h3 ad had).1,fun i x hx j u hu=>⟨?_,fun hm=> ?_⟩⟩⟩
    ·rw[k.enc_at x Xx _ hu];exact(h3 ad had).2 i x hx j u hu
    ·rcases hO _ hm with h4|h4
     ·rw[Xj]at h4
      exact hno ad _ _ (by rw[h1.1,had]) (fun e=>by rw[e]at hx;cases hx) h4
     ·cases h4)
 rwa [Xj]at this
theorem Mem.addRow{c:Cx}{ρ:Env}{R:List (Nat×Res)}{nx:Nat}{w w':World}(h:Mem c ρ R nx w)(hb:Below w.heap.size w w'){v:Value}{E:Nat}{k:Kd}{l:List k.ty}(hv:P4 w.heap.size w' v E k l):
 Mem c (Z9 ρ nx v) ((nx,.row E k l)::R) (nx+1) w':=by
 have:=Mem.step (ρ':=Z9 ρ nx v) (nx':=nx+1) (w':=w') (ds:=[]) (m:=nx) (r:=.row E k l) (D:=[]) h
  (Zh ρ nx _) (by omega) (Yx h.one hv.one) hb.os hb.tape hb.output hb.size (fun b o ho _=>by rw[hb.block b (Array.getElem?_eq_some_iff.1 ho).1];exact ho) (by simp) (by omega) (.inr (Nat.le_refl _)) trivial
  (fun b hbk=>by
    simp only[Res.block,Zl]at hbk
    have:=World.ownsRow.lt hv b hbk
    exact⟨this.2,.inl this.1⟩)
  (fun O' hO _=>by
    simp only[Res.holds,Zl]
    rw[k.encs_den l Xx]
    obtain⟨h1,h2⟩:=hv
    refine⟨h1,?_⟩
    rcases h2 with h2|⟨g,cap,cur,h3,_,h4⟩
    ·exact .inl h2
    ·exact .inr ⟨g,cap,cur,h3,Nat.zero_le _,h4⟩)
 rwa [Xj]at this
inductive Arg where
 |v (x:S1)
 |ro (x:Value) (k:Kd) (l:List k.ty)
def Arg.val:Arg→Value
 |.v x=>x.den Xx
 |.ro x _ _=>x
def Mp:Nat→Nat→List Arg→List (Nat×SV)
 |_,_,[]=>[]
 |i,n,.v x::l=>(i,.one x)::Mp (i+1) n l
 |i,n,.ro _ _ _::l=>(i,.one (.a (.ref n)))::Mp (i+1) (n+1) l
def S5:Nat→List Arg→List (Nat×Res)
 |_,[]=>[]
 |n,.v _::l=>S5 n l
 |n,.ro _ k xs::l=>(n,.ro k xs)::S5 (n+1) l
def Nb:Nat→List Arg→Nat
 |n,[]=>n
 |n,.v _::l=>Nb n l
 |n,.ro _ _ _::l=>Nb (n+1) l
def Na:Nat→List Arg→Env→Env
 |_,[],ρ=>ρ
 |n,.v _::l,ρ=>Na n l ρ
 |n,.ro x _ _::l,ρ=>Na (n+1) l (Z9 ρ n x)
def H7(w:World):List Arg→Prop
 | []=>True
 |.v x::l=>x.bd 0∧H7 w l
 |.ro x k xs::l=>O9 w x k xs∧H7 w l
theorem Li:∀(l:List Arg) (n:Nat) (ρ:Env),Ql n ρ (Na n l ρ)
 | [],n,ρ=>fun _ _=>rfl
 |.v x::l,n,ρ=>Li l n ρ
 |.ro x k xs::l,n,ρ=>fun m hm=>by
  simp only[Na]
  rw[Li l (n+1) _ m (by omega),Zh ρ n x m hm]
theorem Fi:∀(l:List Arg) (n:Nat),n≤Nb n l
 | [],n=>Nat.le_refl _
 |.v x::l,n=>Fi l n
 |.ro x k xs::l,n=>Nat.le_trans (Nat.le_succ n) (Fi l (n+1))
theorem Zaq{P:Program}{w:World}{nt:Nat}{X:List Nat}{fr:List Value}:∀(l:List Arg) (n:Nat) (ρ:Env) (R:List (Nat×Res)),Zp ρ R=[]→Mem ⟨P,w,X,nt,fr⟩ ρ R n w→H7 w l→∃R',Mem ⟨P,w,X,nt,fr⟩ (Na n l ρ) R' (Nb n l) w∧(∀p,p∈R'↔p∈S5 n l∨p∈R)∧Zp (Na n l ρ) R'=[]
 | [],n,ρ,R,ho,hm,hok=>⟨R,hm,fun p=>by simp[S5],ho⟩
 |.v x::l,n,ρ,R,ho,hm,hok=>Zaq l n ρ R ho hm hok.2
 |.ro x k xs::l,n,ρ,R,ho,hm,hok=>by
  have h1:=hm.addRo hok.1 (fun _ _ _ _ _ h=>by rw[ho]at h;cases h)
  have ho':Zp (Z9 ρ n x) ((n,.ro k xs)::R)=[]:=by
   have:Zp (Z9 ρ n x) ((n,.ro k xs)::R)=Zp (Z9 ρ n x) R:=rfl
   rw[this,Re (Zh ρ n x) fun m r hr=>(hm.bdr m r hr).1,ho]
  obtain⟨R',g1,g2,g3⟩:=Zaq l (n+1) (Z9 ρ n x) ((n,.ro k xs)::R) ho' h1 hok.2
  refine⟨R',g1,fun p=> ?_,g3⟩
  rw[g2]
  simp only[S5,List.mem_cons]
  constructor
  ·rintro(h|h|h)
   ·exact .inl (.inr h)
   ·exact .inl (.inl h)
   ·exact .inr h
  ·rintro((h|h)|h)
   ·exact .inr (.inl h)
   ·exact .inl h
   ·exact .inr (.inr h)
theorem Jz{w:World}:∀(l:List Arg) (i n:Nat) (ρ:Env) (t:Nat) (v:SV),H7 w l→Zo (Mp i n l) t=some v→∃j,t=i+j∧(l.map Arg.val)[j]? =some (v.den (Na n l ρ))∧v.bd (Nb n l)
 |.v x::l,i,n,ρ,t,v,hok,h=>by
  rcases look_cons h with⟨rfl,rfl⟩|⟨_,h⟩
  ·refine⟨0,rfl,?_,S1.bd_mono (Nat.zero_le _) hok.1⟩
   show some (x.den Xx)=some (x.den (Na n l ρ))
   exact congrArg some (S1.den_same (nx:=0) (ρ:=Xx) (ρ':=Na n l ρ) (fun n hn=>by omega) hok.1).symm
  ·obtain⟨j,h1,h2,h3⟩:=Jz l (i+1) n ρ t v hok.2 h
   exact⟨j+1,by omega,h2,h3⟩
 |.ro x k xs::l,i,n,ρ,t,v,hok,h=>by
  rcases look_cons h with⟨rfl,rfl⟩|⟨_,h⟩
  ·refine⟨0,rfl,?_,Fi l (n+1)⟩
   simp only[List.map_cons,List.getElem?_cons_zero,Arg.val,SV.den,S1.den,At.den,Na]
   rw[Li l (n+1) _ n (Nat.lt_succ_self _),Zl]
  ·obtain⟨j,h1,h2,h3⟩:=Jz l (i+1) (n+1) (Z9 ρ n x) t v hok.2 h
   exact⟨j+1,by omega,h2,h3⟩
theorem Body.args{P:Program}{f nt:Nat}{x:IC}{rl:List RV}(hF:Body P f nt x rl){w:World}{l:List Arg}{R:SV→St→Prop}{Post:Ending→World→Prop}
 (hlen:l.length≤nt)(hok:H7 w l)(hT:T ⟨P,w,[],nt,[]⟩ x (Qu ⟨P,w,[],nt,[]⟩ rl R) ⟨Mp 0 0 l,S5 0 l,Nb 0 l⟩)
 (hpost:∀v S' ρ' w',R v S'→v.bd S'.nx→Mem ⟨P,w,[],nt,[]⟩ ρ' S'.res S'.nx w'→Post (.returned (v.den ρ')) w'):Calls P f (l.map Arg.val).toArray w Post:=by
 obtain⟨R',g1,g2,g3⟩:=Zaq (P:=P) (w:=w) (nt:=nt) (X:=[]) (fr:=[]) l 0 Xx [] rfl (Mem.none P w [] nt 0 []) hok
 have hnd:∀(l:List Arg) (n:Nat),((S5 n l).map Prod.fst).Nodup∧∀p∈S5 n l,n≤p.1:=by
  intro l
  induction l with
  |nil=>intro n;exact⟨List.nodup_nil,fun p hp=>nomatch hp⟩
  |cons a l ih=>
   intro n
   cases a with
   |v x=>exact ih n
   |ro x k xs=>
    refine⟨?_,fun p hp=> ?_⟩
    ·simp only[S5,List.map_cons,List.nodup_cons]
     refine⟨fun hm=> ?_,(ih (n+1)).1⟩
     obtain⟨p,hp,he⟩:=List.mem_map.1 hm
     have:=(ih (n+1)).2 p hp
     omega
    ·rcases List.mem_cons.1 hp with e|hp
     ·rw[e];exact Nat.le_refl _
     ·have:=(ih (n+1)).2 p hp;omega
 have hm:Mem ⟨P,w,[],nt,[]⟩ (Na 0 l Xx) (S5 0 l) (Nb 0 l) w:=by
  have hsub:∀p,p∈S5 0 l→p∈R':=fun p hp=>(g2 p).2 (.inl hp)
  have hown:Zp (Na 0 l Xx) (S5 0 l)=[]:=by
   cases ho:Zp (Na 0 l Xx) (S5 0 l)with
   |nil=>rfl
   |cons b bs=>
    have:b∈Zp (Na 0 l Xx) (S5 0 l):=by rw[ho];simp
    obtain⟨p,hp,hpb⟩:=List.mem_filterMap.1 this
    have h2:b∈Zp (Na 0 l Xx) R':=List.mem_filterMap.2 ⟨p,hsub p hp,hpb⟩
    rw[g3]at h2;cases h2
  refine⟨g1.os,g1.tape,g1.output,g1.size,g1.block,g1.one,(hnd l 0).1,fun n r hr=> ?_,fun n r hr=>g1.bdr n r (hsub _ hr),by rw[hown];exact List.nodup_nil,fun b hb=>by rw[hown]at hb;cases hb⟩
  rw[hown,←g3]
  exact g1.res n r (hsub _ hr)
 refine hF.calls (S:=⟨Mp 0 0 l,S5 0 l,Nb 0 l⟩) (ρ:=Na 0 l Xx) (by simpa using hlen) (fun t v hv=> ?_) hm hT hpost
 obtain⟨j,h1,h2,h3⟩:=Jz l 0 0 Xx t v hok hv
 simp only[Nat.zero_add]at h1
 subst h1
 have hjl:t<BIG:=by
  have:=(List.getElem?_eq_some_iff.1 h2).1
  have h4:=hF.lown
  simp only[List.length_map]at this
  omega
 exact⟨by rw[if_pos hjl];simpa using h2,h3⟩
theorem Mem.ownAt{P:Program}{w0 w:World}{nt:Nat}{ρ:Env}{R:List (Nat×Res)}{nx:Nat}(h:Mem ⟨P,w0,[],nt,[]⟩ ρ R nx w){m E:Nat}{k:Kd}{l:List k.ty}(hm:(m,Res.row E k l)∈R):P4 w0.heap.size w (ρ m) E k l:=by
 have hr:=Res.row_own (h.res _ _ hm)
 obtain⟨h1,h2⟩:=hr
 refine⟨h1,?_⟩
 rcases h2 with h2|⟨g,cap,cur,hv,_,hrest⟩
 ·exact .inl h2
 ·refine .inr ⟨g,cap,cur,hv,?_,hrest⟩
  have:=(h.lt g (List.mem_filterMap.2 ⟨_,hm,by simp[Res.block,hv,Value.ownBlock]⟩)).2
  simpa using this
inductive Pat where
 |v (x:S1)
 |ro (k:Kd) (l:List k.ty)
def I7(w:World):List Pat→List Value→Prop
 | [],[]=>True
 |.v x::ps,y::ys=>y=x.den Xx∧I7 w ps ys
 |.ro k l::ps,y::ys=>O9 w y k l∧I7 w ps ys
 |_,_=>False
def Qs:List Pat→Prop
 | []=>True
 |.v x::ps=>x.bd 0∧Qs ps
 |.ro _ _::ps=>Qs ps
def Lv:Nat→Nat→List Pat→List (Nat×SV)
 |_,_,[]=>[]
 |i,n,.v x::l=>(i,.one x)::Lv (i+1) n l
 |i,n,.ro _ _::l=>(i,.one (.a (.ref n)))::Lv (i+1) (n+1) l
def K1:Nat→List Pat→List (Nat×Res)
 |_,[]=>[]
 |n,.v _::l=>K1 n l
 |n,.ro k xs::l=>(n,.ro k xs)::K1 (n+1) l
def K0:Nat→List Pat→Nat
 |n,[]=>n
 |n,.v _::l=>K0 n l
 |n,.ro _ _::l=>K0 (n+1) l
theorem M1{w:World}:∀ {ps:List Pat} {vs:List Value},I7 w ps vs→Qs ps→∃aq:List Arg,aq.map Arg.val=vs∧H7 w aq∧aq.length=ps.length∧(∀n,S5 n aq=K1 n ps∧Nb n aq=K0 n ps)∧∀i n,Mp i n aq=Lv i n ps
 | [],[],_,_=>⟨[],rfl,trivial,rfl,fun n=>⟨rfl,rfl⟩,fun i n=>rfl⟩
 |.v x::ps,y::ys,h,hb=>by
  obtain⟨aq,h1,h2,h3,h4,h5⟩:=M1 h.2 hb.2
  exact⟨.v x::aq,by simp[Arg.val,h1,h.1],⟨hb.1,h2⟩,by simp[h3],fun n=>h4 n,fun i n=>by simp only[Mp,Lv,h5]⟩
 |.ro k l::ps,y::ys,h,hb=>by
  obtain⟨aq,h1,h2,h3,h4,h5⟩:=M1 h.2 hb
  exact⟨.ro y k l::aq,by simp[Arg.val,h1],⟨h.1,h2⟩,by simp[h3],fun n=>⟨by simp only[S5,K1,(h4 (n+1)).1],by simp only[Nb,K0,(h4 (n+1)).2]⟩,fun i n=>by simp only[Mp,Lv,h5]⟩
 | [],_::_,h,_=>h.elim
 |.v _::_,[],h,_=>h.elim
 |.ro _ _::_,[],h,_=>h.elim
def RdC(P:Program)(f:Nat)(ps:List Pat)(r:SV):Prop:=∀(w:World) (vs:List Value),I7 w ps vs→Calls P f vs.toArray w fun e w'=>e= .returned (r.den Xx)∧Below w.heap.size w w'
def RwC(P:Program)(f:Nat)(ps:List Pat)(E:Nat)(k:Kd)(l:List k.ty)(rest:List S1):Prop:=∀(w:World) (vs:List Value),I7 w ps vs→
 Calls P f vs.toArray w fun e w'=>∃r,e= .returned (.tuple (r::rest.map (S1.den Xx)).toArray)∧P4 w.heap.size w' r E k l∧Below w.heap.size w w'
def Yj(P:Program)(f:Nat)(ps:List Pat)(E:Nat)(k:Kd)(l:List k.ty):Prop:=∀(w:World) (vs:List Value),I7 w ps vs→
 Calls P f vs.toArray w fun e w'=>∃r,e= .returned r∧P4 w.heap.size w' r E k l∧Below w.heap.size w w'
def Py(S:St)(E:Nat)(k:Kd)(l:List k.ty):S1→Prop
 |.a (.ref m)=>S.find m=some (.row E k l)
 |.a (.raw (.slice none 0 0))=>l=[]
 |_=>False
theorem Py.own{P:Program}{w0 w:World}{nt:Nat}{ρ:Env}{S:St}(h:Mem ⟨P,w0,[],nt,[]⟩ ρ S.res S.nx w){E:Nat}{k:Kd}{l:List k.ty}{x:S1}(hx:Py S E k l x):P4 w0.heap.size w (x.den ρ) E k l:=by
 unfold Py at hx
 split at hx
 ·exact h.ownAt (Zg hx)
 ·subst hx;exact World.ownsRow_nil w _ E k.sz
 ·exact hx.elim
def N0(E:Nat)(k:Kd)(l:List k.ty)(rest:List S1)(v:SV)(S:St):Prop:=match v with
 |.tup (y::ys)=>ys=rest∧Py S E k l y
 |_=>False
def Jd(E:Nat)(k:Kd)(l:List k.ty)(v:SV)(S:St):Prop:=match v with
 |.one y=>Py S E k l y
 |_=>False
def Ze0(r:SV)(v:SV)(_:St):Prop:=v=r
section
variable {P:Program} {f nt:Nat} {x:IC} {rl:List RV} {ps:List Pat}
theorem Body.rd(hF:Body P f nt x rl){r:SV}(hlen:ps.length≤nt)(hb:Qs ps)(hr:r.bd 0)(hT:∀w,T ⟨P,w,[],nt,[]⟩ x (Qu ⟨P,w,[],nt,[]⟩ rl (Ze0 r)) ⟨Lv 0 0 ps,K1 0 ps,K0 0 ps⟩):RdC P f ps r:=by
 intro w vs hok
 obtain⟨aq,h1,h2,h3,h4,h5⟩:=M1 hok hb
 rw[←h1]
 refine hF.args (by omega) h2 (R:=Ze0 r) ?_ fun v S' ρ' w' hv _ hm=>⟨?_,hm.toBelow⟩
 ·rw[h5,(h4 0).1,(h4 0).2];exact hT w
 ·rw[show v=r from hv,SV.den_same (nx:=0) (ρ:=Xx) (fun n hn=>by omega) hr]
theorem Body.rw(hF:Body P f nt x rl){E:Nat}{k:Kd}{l:List k.ty}{rest:List S1}(hlen:ps.length≤nt)(hb:Qs ps)(hr:∀y∈rest,y.bd 0)(hT:∀w,T ⟨P,w,[],nt,[]⟩ x (Qu ⟨P,w,[],nt,[]⟩ rl (N0 E k l rest)) ⟨Lv 0 0 ps,K1 0 ps,K0 0 ps⟩):RwC P f ps E k l rest:=by
 intro w vs hok
 obtain⟨aq,h1,h2,h3,h4,h5⟩:=M1 hok hb
 rw[←h1]
 refine hF.args (by omega) h2 (R:=N0 E k l rest) (by rw[h5,(h4 0).1,(h4 0).2];exact hT w) fun v S' ρ' w' hv _ hm=> ?_
 unfold N0 at hv
 split at hv
 ·rename_i y ys _
  obtain⟨rfl,hy⟩:=hv
  refine⟨S1.den ρ' y,?_,Py.own hm hy,hm.toBelow⟩
  simp only[SV.den,List.map_cons]
  rw[Oi (ρ:=ρ') hr];rfl
 ·exact hv.elim
end
def pm1(S:St):S1→Pat→Prop
 |x,.v y=>x=y∧y.bd 0
 |.a (.ref m),.ro k l=>match S.find m with
  |some (.ro k' l')=>Yn k' k l'=some l
  |some (.row _ k' l')=>Yn k' k l'=some l
  |some (.lit _ z e cs)=>l.flatMap k.enc=cs∧l.length=e
  |_=>False
 |.a (.raw (.slice none 0 0)),.ro k l=>l=[]
 |_,_=>False
def pm(S:St):List S1→List Pat→Prop
 | [],[]=>True
 |x::xs,p::ps=>pm1 S x p∧pm S xs ps
 |_,_=>False
theorem Dv:∀ {k' k:Kd} {l':List k'.ty} {l:List k.ty},Yn k' k l'=some l→∀ {w:World} {v:Value},O9 w v k' l'→O9 w v k l:=by
 intro k' k l' l h
 cases k'<;>cases k<;>simp only[Yn,reduceCtorEq,Option.some.injEq]at h<;>(try(subst h;exact fun h=>h))
 rename_i a b
 split at h
 ·rename_i e;cases e;cases h;exact fun h=>h
 ·cases h
def pat1(w:World):Pat→Value→Prop
 |.v x,y=>y=x.den Xx
 |.ro k l,y=>O9 w y k l
theorem Zhm{S:St}{c:Cx}{ρ:Env}{a:Act}{w:World}(hh:S.holds c ρ a w){x:S1}{p:Pat}(h:pm1 S x p):pat1 w p (x.den ρ):=by
 unfold pm1 at h
 split at h
 ·obtain⟨rfl,hb⟩:=h
  exact S1.den_same (nx:=0) (ρ:=Xx) (fun n hn=>by omega) hb
 ·split at h
  ·rename_i hf;exact Dv h (hh.mem.ro (.inl (Zg hf)))
  ·rename_i hf;exact Dv h (hh.mem.ro (.inr ⟨_,Zg hf⟩))
  ·rename_i hf;exact Res.lit_ro (hh.mem.res _ _ (Zg hf)) h.1 h.2
  ·exact h.elim
 ·subst h;exact⟨none,0,⟨rfl,Nat.le_refl _⟩,fun _=>rfl,fun ad had=>by cases had⟩
 ·exact h.elim
theorem Ha{S:St}{c:Cx}{ρ:Env}{a:Act}{w:World}(hh:S.holds c ρ a w):∀(xs:List S1) (ps:List Pat),pm S xs ps→I7 w ps (xs.map (S1.den ρ))
 | [],[],_=>trivial
 |x::xs,.v y::ps,h=>⟨Zhm hh h.1,Ha hh xs ps h.2⟩
 |x::xs,.ro k l::ps,h=>⟨Zhm hh h.1,Ha hh xs ps h.2⟩
 | [],_::_,h=>h.elim
 |_::_,[],h=>h.elim
theorem St.holds.res{S:St}{c:Cx}{ρ ρ':Env}{a:Act}{w w':World}(h:S.holds c ρ a w){R:List (Nat×Res)}{nx:Nat}(hs:Ql S.nx ρ ρ')(hnx:S.nx≤nx)(hm:Mem c ρ' R nx w'):(St.mk S.slots R nx).holds c ρ' a w':=
 h.put hs hnx hm (d:=none) (fun t ht=>by cases ht) (v:=noV) (R9 nx)
section
variable {c:Cx} {f:Nat} {args:List S1} {S:St} {ps:List Pat}
theorem Za.rd{K:SV→St→Prop}{r:SV}(h:RdC c.P f ps r)(hv:pm S args ps∧r.bd 0)(hK:K r S):Za c f args S K:=by
 intro ρ a w hh
 refine(h w _ (Ha hh args ps hv.1)).mono fun e w' ⟨he,hbl⟩=>⟨r,ρ,S,Ext.rfl,?_,SV.bd_mono (Nat.zero_le _) hv.2,hh.below hbl,hK⟩
 rw[he,SV.den_same (nx:=0) (ρ:=Xx) (ρ':=ρ) (fun n hn=>by omega) hv.2]
theorem Za.rw{K:SV→St→Prop}{E:Nat}{k:Kd}{l:List k.ty}{rest:List S1}(h:RwC c.P f ps E k l rest)(hv:pm S args ps∧T5 rest)
 (hK:K (.tup (.a (.ref S.nx)::rest)) ⟨S.slots,(S.nx,.row E k l)::S.res,S.nx+1⟩):Za c f args S K:=by
 intro ρ a w hh
 have hr:=O5 hv.2
 refine(h w _ (Ha hh args ps hv.1)).mono fun e w' ⟨r,he,ho,hbl⟩=>⟨_,Z9 ρ S.nx r,_,⟨Zh _ _ _,Nat.le_succ _⟩,?_,?_,hh.res (Zh ρ S.nx r) (Nat.le_succ _) (hh.mem.addRow hbl ho),hK⟩
 ·rw[he]
  simp only[SV.den,List.map_cons,S1.den,At.den,Zl]
  rw[Oi (ρ:=Z9 ρ S.nx r) hr]
  rfl
 ·intro x hx
  rcases List.mem_cons.1 hx with rfl|hx
  ·exact Nat.lt_succ_self _
  ·exact S1.bd_mono (Nat.zero_le _) (hr x hx)
theorem Zf.rd{b:Bool}{K:SV→St→Prop}{r:S1}(h:RdC c.P f ps (.one r))(hv:pm S args ps∧r.bd 0)(hK:K (.opt b r) S):Zf c b f args S K:=by
 intro ρ a w hh
 refine⟨fun hb=> ?_,fun hb=>⟨.opt b r,fun _=>S1.bd_mono (Nat.zero_le _) hv.2,by rw[hb];rfl,hK⟩⟩
 refine(h w _ (Ha hh args ps hv.1)).mono fun e w' ⟨he,hbl⟩=>⟨.opt b r,ρ,S,Ext.rfl,?_,fun _=>S1.bd_mono (Nat.zero_le _) hv.2,hh.below hbl,hK⟩
 rw[he,hb]
 show Ending.returned (S1.den Xx r)=Ending.returned (S1.den ρ r)
 rw[S1.den_same (nx:=0) (ρ:=Xx) (ρ':=ρ) (fun n hn=>by omega) hv.2]
theorem Zf.split{b:Bool}{K:SV→St→Prop}(h1:b=true→Za c f args S K)(h2:b=false→K noV S):Zf c b f args S K:=
 fun ρ a w hh=>⟨fun hb=>h1 hb ρ a w hh,fun hb=>⟨noV,R9 _,rfl,h2 hb⟩⟩
theorem Zi.rd{b:Bool}{K:SV→Prop}{r:S1}(h:RdC c.P f ps (.one r))(hv:pm S args ps∧r.bd 0)(hK:K (.opt b r)):Zi c b f args S K:=by
 refine⟨.opt b r,fun hb=>⟨fun _=>S1.bd_mono (Nat.zero_le _) hv.2,fun ρ a w hh=> ?_⟩,fun hb=>⟨fun _=>S1.bd_mono (Nat.zero_le _) hv.2,fun ρ=>by rw[hb];rfl⟩,hK⟩
 refine(h w _ (Ha hh args ps hv.1)).mono fun e w' ⟨he,hbl⟩=>⟨?_,hbl⟩
 rw[he,hb]
 show Ending.returned (S1.den Xx r)=Ending.returned (S1.den ρ r)
 rw[S1.den_same (nx:=0) (ρ:=Xx) (ρ':=ρ) (fun n hn=>by omega) hv.2]
theorem Zn.rd{K:SV→Prop}{r:SV}(h:RdC c.P f ps r)(hv:pm S args ps∧r.bd 0)(hK:K r):Zn c f args S K:=by
 refine⟨r,SV.bd_mono (Nat.zero_le _) hv.2,fun ρ a w hh=> ?_,hK⟩
 refine(h w _ (Ha hh args ps hv.1)).mono fun e w' ⟨he,hbl⟩=>⟨?_,hbl⟩
 rw[he,SV.den_same (nx:=0) (ρ:=Xx) (ρ':=ρ) (fun n hn=>by omega) hv.2]
end
theorem Zm{n:Int}(h1: -9223372036854775808≤n)(h2:n≤9223372036854775807):IntKind.i64.wrap n=n:=IntWalk.i64_in n ⟨h1,h2⟩
theorem Zx{k:Nat}(h:k<9223372036854775807):IntKind.i64.wrap ((k:Int)+1)=((k+1:Nat):Int):=by rw[Zm (by omega) (by omega)];omega
end Vc
end Go.Proofs.YtbmecnjmbhokgaaGreatDoor
namespace Go.Proofs.YtbmecnjmbhokgaaGreatDoor
open Go.ChangeShapes Go.WideShapes Go.ChangeAt Go.RowKit Vc
set_option linter.unusedVariables false
set_option linter.unusedSimpArgs false
section
variable {H:Type} {enc:TypeId×Value→H} {P:Program} {W:World}
theorem list4{cs:List Value}(h:cs.length=4):∃a b c d,cs=[a,b,c,d]:=by
 match cs,h with
 | [a,b,c,d],_=>exact⟨a,b,c,d,rfl⟩
theorem Zfj{e:TypeId}{f0 f1 f2 f3:Field}{n:Nat}{cs:List Value}{y:DataW H×List MemPlace}{sp:Nat→Bool}(hs:P.underlying e=some (.struct #[f0,f1,f2,f3]))(hc:P.cellsOf e=4)
 (hi:P.underlying f0.type=some (.int .i64)∧P.underlying f1.type=some (.int .i64)∧P.underlying f2.type=some (.int .i64)∧P.underlying f3.type=some (.int .i64))
 (h1:P.cellsOf f0.type=1∧P.cellsOf f1.type=1∧P.cellsOf f2.type=1∧P.cellsOf f3.type=1)(ho:f0.offset=0∧f1.offset=1∧f2.offset=2∧f3.offset=3)
 (h:DataW.trod enc P W 0 sp true n e cs=some y):∃x:Ins,x.cells.map (At.den Xx)=cs:=by
 obtain⟨xs,m,_,_,hl,hxl,hf⟩:=DataW.trod_struct hs h
 rw[hc]at hl
 obtain⟨c0,c1,c2,c3,rfl⟩:=list4 hl
 have g0:=hf 0 f0 rfl
 have g1:=hf 1 f1 rfl
 have g2:=hf 2 f2 rfl
 have g3:=hf 3 f3 rfl
 rw[h1.1,ho.1]at g0
 rw[h1.2.1,ho.2.1]at g1
 rw[h1.2.2.1,ho.2.2.1]at g2
 rw[h1.2.2.2,ho.2.2.2]at g3
 have hx4:xs.length=4:=hxl
 rw[List.getElem?_eq_getElem (show 0<xs.length by omega)]at g0
 rw[List.getElem?_eq_getElem (show 1<xs.length by omega)]at g1
 rw[List.getElem?_eq_getElem (show 2<xs.length by omega)]at g2
 rw[List.getElem?_eq_getElem (show 3<xs.length by omega)]at g3
 obtain⟨n0,e0,_,_⟩:=DataW.trod_int hi.1 g0
 obtain⟨n1,e1,_,_⟩:=DataW.trod_int hi.2.1 g1
 obtain⟨n2,e2,_,_⟩:=DataW.trod_int hi.2.2.1 g2
 obtain⟨n3,e3,_,_⟩:=DataW.trod_int hi.2.2.2 g3
 simp at e0 e1 e2 e3
 subst e0 e1 e2 e3
 exact⟨⟨n0,n1,n2,n3⟩,rfl⟩
theorem list6{cs:List Value}(h:cs.length=6):∃a b c d e f,cs=[a,b,c,d,e,f]:=by
 match cs,h with
 | [a,b,c,d,e,f],_=>exact⟨a,b,c,d,e,f,rfl⟩
theorem I4{e ei:TypeId}{f0 f1 f2:Field}{n:Nat}{cs:List Value}{y:DataW H×List MemPlace}(hs:P.underlying e=some (.struct #[f0,f1,f2]))(hc:P.cellsOf e=6)
 (hu:P.underlying f0.type=some .string∧f1.type=ei∧P.underlying f2.type=some .string)(h1:P.cellsOf f0.type=1∧P.cellsOf ei=4∧P.cellsOf f2.type=1)(ho:f0.offset=0∧f1.offset=1∧f2.offset=5)
 (hi:∀(n:Nat) (cs:List Value) (y:DataW H×List MemPlace),DataW.trod enc P W 0 (fun _=>true) true n ei cs=some y→∃x:Ins,x.cells.map (At.den Xx)=cs)
 (h:DataW.trod enc P W 0 (fun _=>true) true n e cs=some y):∃x:Ln,x.cells.map (At.den Xx)=cs:=by
 obtain⟨xs,m,_,_,hl,hxl,hf⟩:=DataW.trod_struct hs h
 rw[hc]at hl
 obtain⟨c0,c1,c2,c3,c4,c5,rfl⟩:=list6 hl
 have g0:=hf 0 f0 rfl
 have g1:=hf 1 f1 rfl
 have g2:=hf 2 f2 rfl
 rw[h1.1,ho.1]at g0
 rw[hu.2.1,h1.2.1,ho.2.1]at g1
 rw[h1.2.2,ho.2.2]at g2
 have hx3:xs.length=3:=hxl
 rw[List.getElem?_eq_getElem (show 0<xs.length by omega)]at g0
 rw[List.getElem?_eq_getElem (show 1<xs.length by omega)]at g1
 rw[List.getElem?_eq_getElem (show 2<xs.length by omega)]at g2
 obtain⟨s0,e0,_,_⟩:=DataW.trod_string hu.1 g0
 obtain⟨x,e1⟩:=hi _ _ _ g1
 obtain⟨s2,e2,_,_⟩:=DataW.trod_string hu.2.2 g2
 simp at e0 e2
 simp only[Ins.cells,List.map_cons,List.map_nil,At.den,List.drop_succ_cons,List.drop_zero,List.take_succ_cons,List.take_zero,List.cons.injEq,and_true]at e1
 obtain⟨rfl,rfl,rfl,rfl⟩:=e1
 subst e0 e2
 exact⟨⟨s0.data.toList,x,s2.data.toList⟩,by simp[Ln.cells,At.den]⟩
structure LineTy (P:Program) (tl e ei:TypeId):Prop where
 row:P.underlying tl=some (.slice e)
 sz:P.cellsOf e=6
 isz:P.cellsOf ei=4
 line:∃f0 f1 f2:Field,P.underlying e=some (.struct #[f0,f1,f2])∧(P.underlying f0.type=some .string∧f1.type=ei∧P.underlying f2.type=some .string)∧(P.cellsOf f0.type=1∧P.cellsOf f2.type=1)∧(f0.offset=0∧f1.offset=1∧f2.offset=5)
 ins:∃f0 f1 f2 f3:Field,P.underlying ei=some (.struct #[f0,f1,f2,f3])∧(P.underlying f0.type=some (.int .i64)∧P.underlying f1.type=some (.int .i64)∧P.underlying f2.type=some (.int .i64)∧P.underlying f3.type=some (.int .i64))∧
  (P.cellsOf f0.type=1∧P.cellsOf f1.type=1∧P.cellsOf f2.type=1∧P.cellsOf f3.type=1)∧(f0.offset=0∧f1.offset=1∧f2.offset=2∧f3.offset=3)
theorem LineTy.cells{tl e ei:TypeId}(h:LineTy P tl e ei){n:Nat}{cs:List Value}{y:DataW H×List MemPlace}(hy:DataW.trod enc P W 0 (fun _=>true) true n e cs=some y):∃x:Kd.ty .line,(Kd.enc .line x).map (At.den Xx)=cs:=by
 obtain⟨f0,f1,f2,h1,h2,h3,h4⟩:=h.line
 obtain⟨g0,g1,g2,g3,k1,k2,k3,k4⟩:=h.ins
 exact I4 h1 h.sz h2 ⟨h3.1,h.isz,h3.2⟩ h4 (fun n cs y hy=>Zfj k1 h.isz k2 k3 k4 hy) hy
theorem Nq{W':World}{sp:Nat→Bool}(hl:laidOutB P=true):∀(ts:List TypeId) (vs:List Value) (ds:List (DataW H)) (ps:List MemPlace),(∀t∈ts,P.readableRec t=true∧t<P.types.size)→
 DataW.TrodAll enc P W 0 (fun _=>true) true ts vs ds ps→Below W.heap.size W W'→(∀x∈ps,x.block<W.heap.size)→(∀x∈ps,sp x.block=true)→DataW.TrodAll enc P W' 0 sp true ts vs ds ps
 | [],[],[],_,_,h,_,_,_=>h
 |t::ts,v::vs,d::ds,ps,hr,⟨p,q,h1,h2,e⟩,hb,hlt,hsp=>by
  subst e
  have ht:=hr t (List.mem_cons_self ..)
  exact⟨p,q,WideElems.Trod_stays hl ht.1 ht.2 h1 (fun x hx=>hb.same (hlt x (List.mem_append_left _ hx))) (fun x hx=>hsp x (List.mem_append_left _ hx)),
   Nq hl ts vs ds q (fun t' ht'=>hr t' (List.mem_cons_of_mem _ ht')) h2 hb (fun x hx=>hlt x (List.mem_append_right _ hx)) (fun x hx=>hsp x (List.mem_append_right _ hx)),rfl⟩
 | [],_::_,_,_,_,h,_,_,_=>h.elim
 | [],[],_::_,_,_,h,_,_,_=>h.elim
 |_::_,[],_,_,_,h,_,_,_=>h.elim
 |_::_,_::_,[],_,_,h,_,_,_=>h.elim
theorem W8{f:Func}{s:ChangeSpec}{apart fresh handsOn again:Bool}{W':World}{args:Array Value}{ds gs:List (DataW H)}{before:List MemPlace}{tb:TypeId}(hs:s.vars=[])(hl:laidOutB P=true)
 (hr:∀t∈f.params.toList,P.readableRec t=true∧t<P.types.size)(hrt:f.resultTypes= #[tb])(hb:P.underlying tb=some .bool)
 (hW:DataW.Whole enc P f.params.toList s.vars apart W args.toList ds gs before)(hfn:s.fn H (ds++gs)= {results:=[.lit (.bool true)],args:=ds,vars:=[]})
 (hB:Below W.heap.size W W'):s.post enc P f apart fresh handsOn again W args (.bool true) W':=by
 have hW':=hW
 have hlt:=hW.lt
 obtain⟨p,q,hA,hV,hpq,hz,hn⟩:=hW
 rw[hs]at hV
 obtain⟨rfl,rfl⟩:=trodVars_none hV
 rw[List.append_nil]at hpq
 subst hpq
 have hres:∀(b:Nat) (sp:Nat→Bool) (hd:Bool),DataW.TrodAll enc P W' b sp hd f.resultTypes.toList ((Value.bool true).resultList f.resultTypes.size) (s.fn H (ds++[])).results []:=fun b sp hd=>by
  rw[hfn,hrt];exact trodAll_mk1 (shut_bool hb _)
 have hargs:∀sp:Nat→Bool,(∀p∈before,sp p.block=true)→DataW.TrodAll enc P W' 0 sp true f.params.toList args.toList (s.fn H (ds++[])).args before:=fun sp hsp=>by
  rw[hfn];exact Nq hl _ _ _ _ hr hA hB hlt hsp
 have hvars:∀sp:Nat→Bool,DataW.TrodVars enc P W' sp s.vars (s.fn H (ds++[])).vars []:=fun sp=>by rw[hfn,hs];rfl
 have hold:∀p∈before,(fun b=>decide (b<W.heap.size)) p.block=true:=fun p hp=>by simpa using hlt p hp
 refine⟨ds,[],before,[],before,[],hW',hres _ _ _,hargs _ hold,hvars _,World.keptBut_mono (fun p hp=>⟨hp,.inr (.inl hp)⟩) (hB.frame (·∈before)),fun _=> ?_⟩
 refine⟨ok_one hrt rfl (okWide_bool_mk hb _),_,_,([]++before)++[],⟨[]++before,[],trodAll_append (hargs _ (fun _ _=>rfl)) (hres _ _ _),hvars _,rfl,?_,?_⟩,?_⟩
 ·intro b off hp
  have hp':MemPlace.cell b off∈before:=by simpa using hp
  rw[hB.frozen (p:=⟨b,off,none⟩) (hlt _ hp')]
  exact hz b off hp'
 ·intro ha
  simpa using hn ha
 ·intro p hp _
  simpa using hp
end
end Go.Proofs.YtbmecnjmbhokgaaGreatDoor
namespace Go.Proofs.YtbmecnjmbhokgaaGreatDoor
open Go
set_option linter.unusedVariables false
set_option linter.unusedSimpArgs false
theorem Tb{α:Type}(p:α→Bool):∀l:List α,l.dropWhile p=[]↔∀b∈l,p b=true
 | []=>by simp
 |b::l=>by
  rw[List.dropWhile_cons]
  split
  ·rename_i h
   rw[Tb p l]
   simp[h]
  ·rename_i h
   simp[h]
theorem Zgc(l cs:List UInt8):Lib.trimS l cs=[]↔∀b∈l,cs.contains b=true:=by
 unfold Lib.trimS Lib.trimLeftS Lib.trimRightS
 rw[Tb]
 constructor
 ·intro h
  have h2:l.reverse.dropWhile (cs.contains ·)=[]:=by
   cases hd:l.reverse.dropWhile (cs.contains ·)with
   |nil=>rfl
   |cons x r=>
    have h1:=h x (by rw[hd];simp)
    have:=List.head_dropWhile_not (fun x=>cs.contains x) (l:=l.reverse) (by rw[hd];simp)
    simp only[hd,List.head_cons]at this
    rw[h1]at this
    cases this
  rw[Tb]at h2
  intro b hb
  exact h2 b (by simpa using hb)
 ·intro h
  have:l.reverse.dropWhile (cs.contains ·)=[]:=by
   rw[Tb]
   intro b hb
   exact h b (by simpa using hb)
  rw[this]
  simp
def upToS(c:UInt8):List UInt8→List UInt8×List UInt8×Bool
 | []=>([],[],false)
 |b::r=>if b=c then([],r,true)else(b::(upToS c r).1,(upToS c r).2)
theorem Mr(c:UInt8):∀s:List UInt8,Lib.cut s [c]=upToS c s
 | []=>by simp[Lib.cut,Lib.index,upToS]
 |b::r=>by
  have ih:=Mr c r
  unfold Lib.cut at ih ⊢
  rw[Lib.index_one]at ih ⊢
  unfold Lib.indexByte upToS
  by_cases hb:b=c
  ·subst hb
   simp
  ·have hbc:(b==c)=false:=by simpa using hb
   simp only[hbc,hb,Bool.false_eq_true,if_false]
   rcases Int.lt_or_le (Lib.indexByte r c) 0 with h|h
   ·have h1:Lib.indexByte r c= -1:=by have:=Lib.indexByte_ge r c;omega
    rw[if_neg (by omega)]at ih
    rw[←ih]
    simp[h1]
   ·rw[if_pos h]at ih
    have h1:(Lib.indexByte r c== -1)=false:=by rw[beq_eq_false_iff_ne];omega
    rw[h1,←ih]
    simp only[Bool.false_eq_true,if_false]
    rw[if_pos (by omega)]
    have h2:(Lib.indexByte r c+1).toNat=(Lib.indexByte r c).toNat+1:=by omega
    rw[h2]
    simp[List.take_succ_cons,Nat.add_right_comm]
def splitS(c:UInt8):List UInt8→List (List UInt8)
 | []=>[[]]
 |b::r=>if b=c then[]::splitS c r else match splitS c r with
  | []=>[[b]]
  |p::ps=>(b::p)::ps
theorem Ot(c b:UInt8)(r:List UInt8):splitS c (b::r)=if b=c then[]::splitS c r else match splitS c r with
 | []=>[[b]]
 |p::ps=>(b::p)::ps:=rfl
theorem Hq(c b:UInt8)(r:List UInt8):upToS c (b::r)=if b=c then([],r,true)else(b::(upToS c r).1,(upToS c r).2):=rfl
theorem Rx(c:UInt8):∀s:List UInt8,splitS c s=(upToS c s).1::(if(upToS c s).2.2=true then splitS c (upToS c s).2.1 else[])
 | []=>by simp[splitS,upToS]
 |b::r=>by
  have ih:=Rx c r
  rw[Ot,Hq]
  by_cases hb:b=c
  ·simp[hb]
  ·rw[if_neg hb,if_neg hb,ih]
theorem Oa(c:UInt8):∀s:List UInt8,(splitS c s).length=s.count c+1
 | []=>by simp[splitS]
 |b::r=>by
  have ih:=Oa c r
  rw[Ot]
  by_cases hb:b=c
  ·simp[hb,ih]
  ·rw[if_neg hb]
   rw[List.count_cons_of_ne (fun e=>hb e)]
   split
   ·rename_i h;rw[h]at ih;simp at ih
   ·rename_i h;rw[h]at ih;simpa using ih
theorem Zcj(c:UInt8):∀(k:Nat) (s:List UInt8),s.count c=k→Lib.splitK [c] 0 k s=splitS c s:=by
 intro k
 induction k with
 |zero=>
  intro s hs
  have hl:=Oa c s
  rw[hs]at hl
  have hu:=Rx c s
  have hno:(upToS c s).2.2=false:=by
   cases ht:(upToS c s).2.2 with
   |false=>rfl
   |true=>
    rw[hu,if_pos ht]at hl
    have:=Oa c (upToS c s).2.1
    simp only[List.length_cons]at hl
    omega
  rw[hu,if_neg (by simp[hno])]
  unfold Lib.splitK
  have hc:=Mr c s
  unfold Lib.cut at hc
  split at hc
  ·rw[←hc]at hno;simp at hno
  ·rw[←hc]
 |succ k ih=>
  intro s hs
  have hl:=Oa c s
  rw[hs]at hl
  have hu:=Rx c s
  have hyes:(upToS c s).2.2=true:=by
   cases ht:(upToS c s).2.2 with
   |true=>rfl
   |false=>rw[hu,if_neg (by simp[ht])]at hl;simp at hl
  have hcnt:(upToS c s).2.1.count c=k:=by
   rw[hu,if_pos hyes,List.length_cons,Oa]at hl
   omega
  rw[hu,if_pos hyes,←ih _ hcnt]
  have e:Lib.splitK [c] 0 (k+1) s=if Lib.index s [c]== -1 then[s]else s.take ((Lib.index s [c]).toNat+0)::Lib.splitK [c] 0 k (s.drop ((Lib.index s [c]).toNat+[c].length)):=rfl
  rw[e]
  have hc:=Mr c s
  unfold Lib.cut at hc
  split at hc
  ·rename_i hi
   have hne:¬(Lib.index s [c]== -1)=true:=by simp;omega
   rw[if_neg hne,←hc]
   simp
  ·rw[←hc]at hyes;simp at hyes
def Ie:List UInt8:=[48,49,50,51,52,53,54,55,56,57]
set_option maxRecDepth 100000 in
theorem Zgx:∀n:Nat,n<256→(Ie.contains (UInt8.ofNat n)=true↔(48≤n∧n≤57)):=by decide
theorem Zgw(b:UInt8):Ie.contains b=true↔(48≤b.toNat∧b.toNat≤57):=by
 have:=Zgx b.toNat (by have:=b.toNat_lt;omega)
 have e:UInt8.ofNat b.toNat=b:=by simp
 rwa [e]at this
theorem Mt(b:UInt8):Ie.contains b=true↔∃d,Lib.digitVal b=some d:=by
 rw[Zgw]
 unfold Lib.digitVal
 constructor
 ·intro h;exact⟨_,if_pos h⟩
 ·rintro⟨d,h⟩
  split at h
  ·assumption
  ·cases h
theorem Km:∀(l:List UInt8) (acc:Nat),(∀b∈l,Ie.contains b=true)→∃v,Lib.decFrom acc l=some v
 | [],acc,_=>⟨acc,rfl⟩
 |b::l,acc,h=>by
  obtain⟨d,hd⟩:=(Mt b).1 (h b (List.mem_cons_self ..))
  obtain⟨v,hv⟩:=Km l (acc*10+d) fun y hy=>h y (List.mem_cons_of_mem _ hy)
  exact⟨v,by simp only[Lib.decFrom,hd];exact hv⟩
theorem Zc3{s:List UInt8}(hne:s≠[]):Lib.trimS s Ie=[]↔∃v,Lib.decNat s=some v:=by
 rw[Zgc]
 have he:s.isEmpty=false:=by cases s with|nil=>exact absurd rfl hne|cons _ _=>rfl
 unfold Lib.decNat
 rw[he]
 constructor
 ·intro h;exact Km s 0 h
 ·rintro⟨v,hv⟩ b hb
  obtain⟨k,hk⟩:=List.getElem?_of_mem hb
  exact(Mt b).2 (Lib.digit_of_decFrom s 0 v hv k b hk)
def I2(s:List UInt8):Option Nat:=if s=[]∨5<s.length∨(1<s.length∧s.getD 0 0=48)then none else Lib.decNat s
theorem numV_lt{s:List UInt8}{v:Nat}(h:I2 s=some v):v<1000000:=by
 unfold I2 at h
 split at h
 ·cases h
 ·rename_i hn
  simp only[not_or]at hn
  obtain⟨_,hd⟩:=Lib.decNat_some h
  have:=Lib.decFrom_lt s 0 v hd
  have h5:s.length≤5:=by omega
  have:(10:Nat)^s.length≤10^5:=Nat.pow_le_pow_right (by decide) h5
  omega
theorem Zf0(c:UInt8)(s:List UInt8):splitS c s≠[]:=by rw[Rx];simp
def F5(t:List UInt8):List (List UInt8):=if(splitS 10 t).getLast? =some []then(splitS 10 t).dropLast else splitS 10 t
end Go.Proofs.YtbmecnjmbhokgaaGreatDoor
namespace Go.Proofs.YtbmecnjmbhokgaaGreatDoor
namespace Vc
open Go.RowKit
set_option linter.unusedVariables false
set_option linter.unusedSimpArgs false
def At.okN(p:Nat→Prop):At→Prop
 |.ref n=>p n
 |.loc n _=>p n
 |.elt n _ _ _=>p n
 |.clo _ ms=>ms=[]
 |.raw v=>v.oneCell'=true
 |_=>True
def S1.okN(p:Nat→Prop):S1→Prop
 |.a x=>x.okN p
 |.agg l=>∀x∈l,x.okN p
def SV.okN(p:Nat→Prop):SV→Prop
 |.one x=>x.okN p
 |.tup l=>∀x∈l,x.okN p
 |.opt _ x=>x.okN p
def Res.okN(p:Nat→Prop):Res→Prop
 |.cells _ l=>∀x∈l,x.okN p
 |.lit _ _ _ l=>∀x∈l,x.okN p
 |.rocells l=>∀x∈l,x.okN p
 |.view _ _ _ _=>False
 |.fiter _ _ _=>False
 |.arr _ _ _=>False
 |_=>True
def At.sub(σ:Nat→At):At→At
 |.ref n=>σ n
 |.loc n o=>match σ n with
  |.ref m=>.loc m o
  |.loc m o'=>.loc m (o'+o)
  |.elt m sz i j=>.elt m sz i (j+o)
  |.raw v=>.raw (Wl v o)
  |_=>.raw Yv
 |.elt n sz i j=>match σ n with
  |.ref m=>.elt m sz i j
  |.raw v=>.raw (Vx v (i*sz+j))
  |_=>.raw Yv
 |x=>x
def S1.sub(σ:Nat→At):S1→S1
 |.a x=>.a (x.sub σ)
 |.agg l=>.agg (l.map (At.sub σ))
def SV.sub(σ:Nat→At):SV→SV
 |.one x=>.one (x.sub σ)
 |.tup l=>.tup (l.map (S1.sub σ))
 |.opt g x=>.opt g (x.sub σ)
def Res.sub(σ:Nat→At):Res→Res
 |.cells E l=>.cells E (l.map (At.sub σ))
 |.lit E sz m l=>.lit E sz m (l.map (At.sub σ))
 |.rocells l=>.rocells (l.map (At.sub σ))
 |r=>r
theorem Zfg(v:Value)(a b:Nat):Wl (Wl v a) b=Wl v (a+b):=by
 unfold Wl
 split<;>simp_all[Yv]
 ·rename_i h;split at h<;>simp_all[Yv]<;>(try omega)
  subst h;simp;omega
 ·rename_i h
  split at h
  ·exact absurd rfl (h _)
  ·rfl
theorem Zff(v:Value)(a b:Nat):Wl (Vx v a) b=Vx v (a+b):=by
 cases v with
 |slice a' l c=>
  cases a' with
  |none=>rfl
  |some x=>simp only[Vx,Wl,Nat.add_assoc]
 |_=>rfl
theorem Zez(v:Value)(a b:Nat):Vx (Wl v a) b=Yv:=by
 unfold Wl
 split<;>rfl
theorem Zey(v:Value)(a b:Nat):Vx (Vx v a) b=Yv:=by
 cases v with
 |slice a' l c=>cases a'<;>rfl
 |_=>rfl
theorem At.sub_den{σ:Nat→At}{ρ ρ':Env}{p:Nat→Prop}(h:∀n,p n→(σ n).den ρ=ρ' n){x:At}(hx:x.okN p):(x.sub σ).den ρ=x.den ρ':=by
 cases x with
 |ref n=>exact h n hx
 |loc n o=>
  have hn:=h n hx
  simp only[At.sub,At.den,←hn]
  cases hσ:σ n with
  |ref m=>rfl
  |loc m o'=>simp only[At.den,Zfg]
  |elt m sz i j=>simp only[At.den,Zff,Nat.add_assoc]
  |raw v=>rfl
  |_=>rfl
 |elt n sz i j=>
  have hn:=h n hx
  simp only[At.sub,At.den,←hn]
  cases hσ:σ n with
  |ref m=>rfl
  |loc m o'=>simp only[At.den,Zez]
  |elt m sz i j=>simp only[At.den,Zey]
  |raw v=>rfl
  |_=>rfl
 |clo f ms=>have:ms=[]:=hx;subst this;rfl
 |_=>rfl
theorem To{σ:Nat→At}{ρ ρ':Env}{p:Nat→Prop}(h:∀n,p n→(σ n).den ρ=ρ' n){l:List At}(hl:∀x∈l,x.okN p):(l.map (At.sub σ)).map (At.den ρ)=l.map (At.den ρ'):=by
 rw[List.map_map];exact List.map_congr_left fun x hx=>At.sub_den h (hl x hx)
theorem S1.sub_den{σ:Nat→At}{ρ ρ':Env}{p:Nat→Prop}(h:∀n,p n→(σ n).den ρ=ρ' n){x:S1}(hx:x.okN p):(x.sub σ).den ρ=x.den ρ':=by
 cases x with
 |a x=>exact At.sub_den h hx
 |agg l=>simp only[S1.sub,S1.den,To h hx]
theorem SV.sub_den{σ:Nat→At}{ρ ρ':Env}{p:Nat→Prop}(h:∀n,p n→(σ n).den ρ=ρ' n){x:SV}(hx:x.okN p):(x.sub σ).den ρ=x.den ρ':=by
 cases x with
 |one x=>exact S1.sub_den h hx
 |tup l=>simp only[SV.sub,SV.den,List.map_map];congr 2;exact List.map_congr_left fun x hx'=>S1.sub_den h (hx x hx')
 |opt g x=>simp only[SV.sub,SV.den,S1.sub_den h hx]
theorem Cz(v:Value)(o:Nat):(Wl v o).oneCell'=true:=by unfold Wl;split<;>rfl
theorem D6(v:Value)(o:Nat):(Vx v o).oneCell'=true:=by unfold Vx;split<;>rfl
theorem At.sub_bd{σ:Nat→At}{nx:Nat}{p:Nat→Prop}(h:∀n,p n→(σ n).bd nx){x:At}(hx:x.okN p):(x.sub σ).bd nx:=by
 cases x with
 |ref n=>exact h n hx
 |loc n o=>
  have hn:=h n hx
  simp only[At.sub]
  cases hσ:σ n<;>rw[hσ]at hn<;>first|exact hn|exact Cz _ _|rfl
 |elt n sz i j=>
  have hn:=h n hx
  simp only[At.sub]
  cases hσ:σ n<;>rw[hσ]at hn<;>first|exact hn|exact D6 _ _|rfl
 |clo f ms=>have:ms=[]:=hx;subst this;intro m hm;cases hm
 |raw v=>exact hx
 |_=>trivial
theorem S1.sub_bd{σ:Nat→At}{nx:Nat}{p:Nat→Prop}(h:∀n,p n→(σ n).bd nx){x:S1}(hx:x.okN p):(x.sub σ).bd nx:=by
 cases x with
 |a x=>exact At.sub_bd h hx
 |agg l=>intro y hy;obtain⟨z,hz,rfl⟩:=List.mem_map.1 hy;exact At.sub_bd h (hx z hz)
theorem SV.sub_bd{σ:Nat→At}{nx:Nat}{p:Nat→Prop}(h:∀n,p n→(σ n).bd nx){x:SV}(hx:x.okN p):(x.sub σ).bd nx:=by
 cases x with
 |one x=>exact S1.sub_bd h hx
 |tup l=>intro y hy;obtain⟨z,hz,rfl⟩:=List.mem_map.1 hy;exact S1.sub_bd h (hx z hz)
 |opt g x=>exact fun _=>S1.sub_bd h hx
theorem Res.sub_bd{σ:Nat→At}{nx:Nat}{p:Nat→Prop}(h:∀n,p n→(σ n).bd nx){x:Res}(hx:x.okN p):(x.sub σ).bd nx:=by
 cases x with
 |cells E l=>intro y hy;obtain⟨z,hz,rfl⟩:=List.mem_map.1 hy;exact At.sub_bd h (hx z hz)
 |lit E sz m l=>intro y hy;obtain⟨z,hz,rfl⟩:=List.mem_map.1 hy;exact At.sub_bd h (hx z hz)
 |rocells l=>intro y hy;obtain⟨z,hz,rfl⟩:=List.mem_map.1 hy;exact At.sub_bd h (hx z hz)
 |view _ _ _ _=>exact hx.elim
 |fiter _ _ _=>exact hx.elim
 |arr _ _ _=>exact hx.elim
 |_=>trivial
theorem At.okN_bd{nx:Nat}{x:At}(hx:x.okN (·<nx)):x.bd nx:=by
 cases x with
 |clo f ms=>have:ms=[]:=hx;subst this;intro m hm;cases hm
 |_=>exact hx
theorem S1.okN_bd{nx:Nat}{x:S1}(hx:x.okN (·<nx)):x.bd nx:=by
 cases x with
 |a x=>exact At.okN_bd hx
 |agg l=>exact fun y hy=>At.okN_bd (hx y hy)
theorem Res.okN_bd{nx:Nat}{x:Res}(hx:x.okN (·<nx)):x.bd nx:=by
 cases x with
 |cells E l=>exact fun y hy=>At.okN_bd (hx y hy)
 |lit E sz m l=>exact fun y hy=>At.okN_bd (hx y hy)
 |rocells l=>exact fun y hy=>At.okN_bd (hx y hy)
 |view _ _ _ _=>exact hx.elim
 |fiter _ _ _=>exact hx.elim
 |arr _ _ _=>exact hx.elim
 |_=>trivial
theorem At.okN_mono{p q:Nat→Prop}(h:∀n,p n→q n){x:At}(hx:x.okN p):x.okN q:=by
 cases x<;>first|exact h _ hx|exact hx
theorem S1.okN_mono{p q:Nat→Prop}(h:∀n,p n→q n){x:S1}(hx:x.okN p):x.okN q:=by
 cases x with
 |a x=>exact At.okN_mono h hx
 |agg l=>exact fun y hy=>At.okN_mono h (hx y hy)
def roM(S:St)(m:Nat)(k:Kd)(l:List k.ty):Prop:=match S.find m with
 |some (.ro k' l')=>Yn k' k l'=some l
 |some (.row _ k' l')=>Yn k' k l'=some l
 |some (.lit _ z e cs)=>l.flatMap k.enc=cs∧l.length=e
 |some (.view m0 sz lo hi)=>sz=k.sz∧(match S.find m0 with
  |some (.ro k' l')=>(match Yn k' k l' with
   |some L=>lo≤hi∧hi≤L.length∧l=(L.take hi).drop lo
   |none=>False)
  |some (.row _ k' l')=>(match Yn k' k l' with
   |some L=>lo≤hi∧hi≤L.length∧l=(L.take hi).drop lo
   |none=>False)
  |_=>False)
 |_=>False
def roA(S:St)(k:Kd)(l:List k.ty):At→Prop
 |.ref m=>roM S m k l
 |.raw (.slice none 0 0)=>l=[]
 |_=>False
def F6(S:St):List At→List (List UInt8×List Ln)→Prop
 | [],[]=>True
 |.str s::x::cs,(s',ls)::l=>s=s'∧roA S .line ls x∧F6 S cs l
 |_,_=>False
def Zfu(S:St)(m:Nat)(l:List (List UInt8×List Ln)):Prop:=match S.find m with
 |some (.rou l')=>l'=l
 |some (.urow _ _ l')=>l'=l
 |some (.lit _ z e cs)=>z=2∧F6 S cs l∧l.length=e
 |_=>False
def En(σ:Nat→At)(S:St)(l:List At):At→Prop
 |.ref m=>(match S.find m with
  |some (.cells _ l')=>l'=l.map (At.sub σ)
  |some (.rocells l')=>l'=l.map (At.sub σ)
  |_=>False)
 |.loc m o=>(match S.find m with
  |some (.cells _ l')=>o+l.length≤l'.length∧(l'.drop o).take l.length=l.map (At.sub σ)
  |some (.rocells l')=>o+l.length≤l'.length∧(l'.drop o).take l.length=l.map (At.sub σ)
  |_=>False)
 |_=>False
def Zhp(S:St)(m:Nat)(r:Res):Prop:=match S.find m with
 |some (.smap P K E k f q)=>Res.rosmap P K E k f q=r
 |some (.rosmap P K E k f q)=>Res.rosmap P K E k f q=r
 |_=>False
def roR:List (Nat×Res)→List (Nat×Res)
 | []=>[]
 |(n,.cells _ l)::R=>(n,.rocells l)::roR R
 |(n,.row _ k l)::R=>(n,.ro k l)::roR R
 |(n,.lit _ _ _ _)::R=>roR R
 |(n,.smap P K E k f q)::R=>(n,.rosmap P K E k f q)::roR R
 |(n,.urow _ _ l)::R=>(n,.rou l)::roR R
 |(n,.fmap _)::R=>roR R
 |(n,.fiter _ _ _)::R=>roR R
 |p::R=>p::roR R
def Zak(P:Program)(R:List (Nat×Res))(nx f:Nat)(ms:List Nat)(g:List S1→Option SV):Prop:=
 Xr P f=true∧∃nt x rl,Body P f nt x rl∧∀aq r,g aq=some r→T5 aq∧r.bd 0∧aq.length+ms.length≤nt∧
  ∀w,T ⟨P,w,[],nt,[]⟩ x (Qu ⟨P,w,[],nt,[]⟩ rl (Ze0 r)) ⟨Y1 0 (aq++ms.map fun m=>.a (.loc m 0)),roR R,nx⟩
def fnM(P':Program)(S:St)(P:Program)(g:List S1→Option SV):At→Prop
 |.ref m=>S.find m=some (.fn P g)
 |.clo f ms=>P=P'∧(∀m∈ms,m<S.nx)∧Zak P S.res S.nx f ms g
 |.raw (.func (.func f) a b)=>P=P'∧(a= #[]∧b= #[])∧Zak P S.res S.nx f [] g
 |_=>False
def Kz(S:St)(r:Res):At→Prop
 |.ref m=>S.find m=some r
 |_=>False
def mtR(P':Program)(S Sd:St)(σ:Nat→At)(n:Nat):Res→Prop
 |.ro k l=>roA Sd k l (σ n)
 |.rocells l=>En σ Sd l (σ n)
 |.rou l=>(match σ n with|.ref m=>Zfu Sd m l|.raw (.slice none 0 0)=>l=[]|_=>False)
 |.rosmap P K E k f q=>(match σ n with|.ref m=>Zhp Sd m (.rosmap P K E k f q)|_=>False)
 |.fn P g=>fnM P' Sd P g (σ n)
 |.cells E l=>Kz S (.cells E (l.map (At.sub σ))) (σ n)
 |.lit E sz e l=>Kz S (.lit E sz e (l.map (At.sub σ))) (σ n)
 |.row E k l=>Kz S (.row E k l) (σ n)
 |.smap P K E k f q=>Kz S (.smap P K E k f q) (σ n)
 |.urow b E l=>Kz S (.urow b E l) (σ n)
 |.fmap l=>Kz S (.fmap l) (σ n)
 |_=>False
def Zbj(P':Program)(S Sd:St)(σ:Nat→At):List (Nat×Res)→Prop
 | []=>True
 |(n,r)::l=>mtR P' S Sd σ n r∧Zbj P' S Sd σ l
def I0:At→Nat
 |.ref m=>m
 |_=>0
def Res.own:Res→Bool
 |.cells _ _=>true
 |.lit _ _ _ _=>true
 |.row _ _ _=>true
 |.smap _ _ _ _ _ _=>true
 |.urow _ _ _=>true
 |.fmap _=>true
 |.fiter _ _ _=>true
 |_=>false
def Res.outOk:Res→Bool
 |.cells _ _=>true
 |.lit _ _ _ _=>true
 |.row _ _ _=>true
 |.smap _ _ _ _ _ _=>true
 |.fmap _=>true
 |_=>false
def Vb(σ:Nat→At):List (Nat×Res)→List Nat
 | []=>[]
 |(n,r)::l=>bif r.own then(match σ n with|.ref m=>m::Vb σ l|_=>Vb σ l)else Vb σ l
theorem C9{P':Program}{S Sd:St}{σ:Nat→At}:∀ {R:List (Nat×Res)} {n:Nat} {r:Res},Zbj P' S Sd σ R→(n,r)∈R→mtR P' S Sd σ n r
 |(m,s)::R,n,r,h,hm=>by
  rcases List.mem_cons.1 hm with e|hm
  ·cases e;exact h.1
  ·exact C9 h.2 hm
theorem O8{σ:Nat→At}:∀ {R:List (Nat×Res)} {n m:Nat} {r:Res},(n,r)∈R→r.own=true→σ n= .ref m→m∈Vb σ R
 |(q,s)::R,n,m,r,hm,ho,hs=>by
  rcases List.mem_cons.1 hm with e|hm
  ·cases e;simp[Vb,ho,hs]
  ·have:=O8 (σ:=σ) hm ho hs
   simp only[Vb]
   cases s.own
   ·simpa using this
   ·simp only[cond_true];split<;>simp[this]
theorem Ka{σ:Nat→At}{p q:Nat×Res}{m:Nat}:∀ {R:List (Nat×Res)},(Vb σ R).Nodup→p∈R→q∈R→p.2.own=true→q.2.own=true→σ p.1= .ref m→σ q.1= .ref m→p=q:=by
 intro R
 induction R with
 |nil=>intro _ hp;cases hp
 |cons z R ih=>
  obtain⟨n,s⟩:=z
  intro hnd hp hq op oq sp sq
  have tl:(Vb σ R).Nodup:=by
   simp only[Vb]at hnd
   cases hs:s.own
   ·rw[hs]at hnd;exact hnd
   ·rw[hs]at hnd
    simp only[cond_true]at hnd
    split at hnd
    ·exact(List.nodup_cons.1 hnd).2
    ·exact hnd
  have hd:∀ {r:Nat×Res},r∈R→r.2.own=true→σ r.1= .ref m→s.own=true→σ n= .ref m→False:=fun {r} hr o1 s1 o2 s2=>by
   simp only[Vb,o2,s2,cond_true]at hnd
   exact(List.nodup_cons.1 hnd).1 (O8 (n:=r.1) (r:=r.2) hr o1 s1)
  rcases List.mem_cons.1 hp with e1|hp
  ·rcases List.mem_cons.1 hq with e2|hq
   ·rw[e1,e2]
   ·subst e1;exact(hd hq oq sq op sp).elim
  ·rcases List.mem_cons.1 hq with e2|hq
   ·subst e2;exact(hd hp op sp oq sq).elim
   ·exact ih tl hp hq op oq sp sq
def RoO(w:World)(O:List Nat)(v:Value)(k:Kd)(l:List k.ty):Prop:=
 ∃a cap,(v= .slice a l.length cap∧l.length≤cap)∧(a=none→l=[])∧∀ad:Addr,a=some ad→(l≠[]→ad.spot=none)∧∀(i:Nat) (x:k.ty),l[i]? =some x→∀(j:Nat) (u:At),(k.enc x)[j]? =some u→
  w.cell? ⟨ad.block,ad.off+(i*k.sz+j),none⟩=some (u.den Xx)∧ad.block∉O
theorem RoO.nil(w:World)(O:List Nat)(k:Kd):RoO w O (.slice none 0 0) k []:=⟨none,0,⟨rfl,Nat.le_refl _⟩,fun _=>rfl,fun ad had=>by cases had⟩
theorem RoO.holds{w:World}{O:List Nat}{ρ:Env}{n:Nat}{k:Kd}{l:List k.ty}(h:RoO w O (ρ n) k l):(Res.ro k l).holds ρ O n w:=by
 obtain⟨a,cap,h1,h2,h3⟩:=h
 refine⟨a,cap,h1,h2,fun ad had=>⟨(h3 ad had).1,fun i x hx j u hu=> ?_⟩⟩
 rw[k.enc_at x Xx ρ hu]
 exact(h3 ad had).2 i x hx j u hu
theorem RoO.lns{w:World}{O:List Nat}{v:Value}{l:List Ln}(h:RoO w O v .line l):∃a cap,v= .slice a l.length cap∧l.length≤cap∧U4 w O 0 a l:=by
 obtain⟨a,cap,h1,h2,h3⟩:=h
 exact⟨a,cap,h1.1,h1.2,h2,fun ad had=>⟨(h3 ad had).1,fun j y hy q u hu=>let⟨g1,g2⟩:=(h3 ad had).2 j y hy q u hu;⟨g1,g2,Nat.zero_le _⟩⟩⟩
theorem RoO.cast{w:World}{O:List Nat}{v:Value}{k' k:Kd}{l':List k'.ty}{l:List k.ty}(h:Yn k' k l'=some l)(hr:RoO w O v k' l'):RoO w O v k l:=by
 cases k'<;>cases k<;>simp only[Yn,reduceCtorEq,Option.some.injEq]at h<;>(try(subst h;exact hr))
 rename_i a b
 split at h
 ·rename_i e;cases e;cases h;exact hr
 ·cases h
theorem RoO.view{w:World}{O:List Nat}{v v':Value}{k:Kd}{L:List k.ty}{lo hi:Nat}(h:RoO w O v k L)(h1:lo≤hi)(h2:hi≤L.length){ad ad':Option Addr}{len cap:Nat}(hv:v= .slice ad len cap)(hv':v'= .slice ad' (hi-lo) (cap-lo))
 (hsp:lo<hi→∀x,ad'=some x→x.spot=none)(ha:lo<cap→ad'=ad.map (·.add (lo*k.sz))):RoO w O v' k ((L.take hi).drop lo):=by
 obtain⟨a,cap2,⟨g1,g2⟩,g3,g4⟩:=h
 rw[hv]at g1;cases g1
 have hlen:((L.take hi).drop lo).length=hi-lo:=by simp;omega
 have hlt:∀i x,((L.take hi).drop lo)[i]? =some x→i<hi-lo:=fun i x hx=>by have:=(List.getElem?_eq_some_iff.1 hx).1;omega
 refine⟨ad',cap-lo,⟨by rw[hlen];exact hv',by omega⟩,fun hn=> ?_,fun x hx=>⟨fun hne=>hsp (by have:=List.length_pos_iff.2 hne;omega) x hx,fun i y hy j u hu=> ?_⟩⟩
 ·apply List.eq_nil_of_length_eq_zero
  rw[hlen]
  by_cases hc:lo<cap
  ·have:=ha hc
   rw[hn]at this
   cases ad with
   |none=>have:=g3 rfl;rw[this]at h2;simp at h2;omega
   |some z=>cases this
  ·omega
 ·have hi1:=hlt i y hy
  have hc:lo<cap:=by omega
  have hax:=ha hc
  cases ad with
  |none=>rw[hx]at hax;cases hax
  |some z=>
   rw[hx]at hax
   obtain⟨s1,s2⟩:=g4 z rfl
   have s1:=s1 (fun e=>by rw[e]at h2;simp at h2;omega)
   obtain⟨zb,zo,zs⟩:=z
   simp only at s1;subst s1
   simp only[Option.map_some,Option.some.injEq,Addr.add_lit]at hax
   subst hax
   have hL:L[lo+i]? =some y:=by
    rw[List.getElem?_drop,List.getElem?_take]at hy
    split at hy
    ·exact hy
    ·cases hy
   have:=s2 (lo+i) y hL j u hu
   simp only at this ⊢
   rw[show zo+lo*k.sz+(i*k.sz+j)=zo+((lo+i)*k.sz+j) by rw[Nat.add_mul];omega]
   exact this
section
variable {c:Cx} {S:St} {ρ:Env} {w:World} {ds O:List Nat}
theorem Uo(hm:Mem c ρ S.res S.nx w)(hO:∀b∈O,∃m r,(m,r)∈S.res∧m∈ds∧r.block ρ m=some b){m b:Nat}{r:Res}(h:(m,r)∈del S.res ds)(hb:r.block ρ m=some b):b∉O:=fun hbO=>by
 obtain⟨m',r',h1,h2,h3⟩:=hO b hbO
 exact Yf hm.keys hm.nodup h1 h2 h3 (List.mem_filterMap.2 ⟨(m,r),h,hb⟩)
theorem V3(hO:∀b∈O,∃m r,(m,r)∈S.res∧m∈ds∧r.block ρ m=some b){b:Nat}(h:b∉Zp ρ S.res):b∉O:=fun hbO=>by
 obtain⟨m',r',h1,h2,h3⟩:=hO b hbO
 exact h (List.mem_filterMap.2 ⟨_,h1,h3⟩)
theorem Yq{R:List (Nat×Res)}{p:Nat×Res}(h:p∈del R ds):p∈R:=(List.mem_filter.1 h).1
theorem Zho(hm:Mem c ρ S.res S.nx w)(hO:∀b∈O,∃m r,(m,r)∈S.res∧m∈ds∧r.block ρ m=some b){m:Nat}{k:Kd}{l:List k.ty}(h:(m,Res.ro k l)∈del S.res ds):RoO w O (ρ m) k l:=by
 obtain⟨a,cap,h1,h2,h3⟩:=hm.res _ _ (Yq h)
 refine⟨a,cap,h1,h2,fun ad had=>⟨(h3 ad had).1,fun i x hx j u hu=> ?_⟩⟩
 obtain⟨g1,g2⟩:=(h3 ad had).2 i x hx j u hu
 rw[k.enc_at x ρ Xx hu]
 exact⟨g1,V3 hO g2⟩
theorem Em(hm:Mem c ρ S.res S.nx w)(hO:∀b∈O,∃m r,(m,r)∈S.res∧m∈ds∧r.block ρ m=some b){m E:Nat}{k:Kd}{l:List k.ty}(h:(m,Res.row E k l)∈del S.res ds):RoO w O (ρ m) k l:=by
 have hr:=Res.row_own (hm.res _ _ (Yq h))
 have hro:=Pj hr
 rcases hr.2 with⟨hv,hn⟩|⟨g,cap,cur,hv,_,hh,hn,_⟩
 ·have:l=[]:=List.eq_nil_of_length_eq_zero hn
  subst this
  rw[hv];exact RoO.nil w O k
 ·obtain⟨a,cap2,h1,h2,h3⟩:=hro
  refine⟨a,cap2,h1,h2,fun ad had=>⟨(h3 ad had).1,fun i x hx j u hu=>⟨(h3 ad had).2 i x hx j u hu,?_⟩⟩⟩
  rw[hv]at h1
  have:a=some ⟨g,0,none⟩:=by have:=h1.1;injection this with e1 _ _;exact e1.symm
  rw[this]at had;cases had
  exact Uo hm hO h (by simp[Res.block,hv,Value.ownBlock])
theorem roO_lit(hm:Mem c ρ S.res S.nx w)(hO:∀b∈O,∃m r,(m,r)∈S.res∧m∈ds∧r.block ρ m=some b){m E z e:Nat}{k:Kd}{cs:List At}{l:List k.ty}(h:(m,Res.lit E z e cs)∈del S.res ds)(hl:l.flatMap k.enc=cs)(he:l.length=e):RoO w O (ρ m) k l:=by
 have hr:=hm.res _ _ (Yq h)
 obtain⟨a,cap2,h1,h2,h3⟩:=Res.lit_ro hr hl he
 obtain⟨b,hv,_⟩:=hr
 refine⟨a,cap2,h1,h2,fun ad had=>⟨(h3 ad had).1,fun i x hx j u hu=>⟨(h3 ad had).2 i x hx j u hu,?_⟩⟩⟩
 rw[hv]at h1
 have:a=some ⟨b,0,none⟩:=by have:=h1.1;injection this with e1 _ _;exact e1.symm
 rw[this]at had;cases had
 exact Uo hm hO h (by simp[Res.block,hv,Value.ownBlock])
theorem roM_O(hm:Mem c ρ S.res S.nx w)(hO:∀b∈O,∃m r,(m,r)∈S.res∧m∈ds∧r.block ρ m=some b){m:Nat}{k:Kd}{l:List k.ty}(h:roM ⟨S.slots,del S.res ds,S.nx⟩ m k l):RoO w O (ρ m) k l:=by
 unfold roM at h
 split at h
 ·rename_i hf;exact(Zho hm hO (Yp hf)).cast h
 ·rename_i hf;exact(Em hm hO (Yp hf)).cast h
 ·rename_i hf;exact roO_lit hm hO (Yp hf) h.1 h.2
 ·rename_i m0 sz lo hi hf
  obtain⟨rfl,h⟩:=h
  obtain⟨ad,len,cap,ad',v1,v2,v3,v4,v5⟩:=hm.res _ _ (Yq (Yp hf))
  split at h
  ·rename_i hf0
   split at h
   ·rename_i L hL
    obtain⟨g1,g2,rfl⟩:=h
    exact((Zho hm hO (Yp hf0)).cast hL).view g1 g2 v1 v2 v4 v5
   ·exact h.elim
  ·rename_i hf0
   split at h
   ·rename_i L hL
    obtain⟨g1,g2,rfl⟩:=h
    exact((Em hm hO (Yp hf0)).cast hL).view g1 g2 v1 v2 v4 v5
   ·exact h.elim
  ·exact h.elim
 ·exact h.elim
theorem roA_O(hm:Mem c ρ S.res S.nx w)(hO:∀b∈O,∃m r,(m,r)∈S.res∧m∈ds∧r.block ρ m=some b){k:Kd}{l:List k.ty}{x:At}(h:roA ⟨S.slots,del S.res ds,S.nx⟩ k l x):RoO w O (x.den ρ) k l:=by
 unfold roA at h
 split at h
 ·exact roM_O hm hO h
 ·subst h;exact RoO.nil w O k
 ·exact h.elim
theorem Cw{S:St}:∀ {cs:List At} {l:List (List UInt8×List Ln)} {i:Nat} {x:List UInt8×List Ln},F6 S cs l→l[i]? =some x→∃y,cs[i*2]? =some (.str x.1)∧cs[i*2+1]? =some y∧roA S .line x.2 y
 |.str s::y::cs,(s',ls)::l,0,x,h,hx=>by
  simp at hx;subst hx
  exact⟨y,by rw[h.1];rfl,rfl,h.2.1⟩
 |.str s::y::cs,(s',ls)::l,i+1,x,h,hx=>by
  obtain⟨z,h1,h2,h3⟩:=Cw h.2.2 (by simpa using hx)
  refine⟨z,?_,?_,h3⟩
  ·rw[show(i+1)*2=i*2+2 by omega];exact h1
  ·rw[show(i+1)*2+1=(i*2+1)+2 by omega];exact h2
 | [],[],_,_,_,hx=>by simp at hx
theorem Zhq(hm:Mem c ρ S.res S.nx w)(hO:∀b∈O,∃m r,(m,r)∈S.res∧m∈ds∧r.block ρ m=some b){m:Nat}{l:List (List UInt8×List Ln)}(h:Zfu ⟨S.slots,del S.res ds,S.nx⟩ m l){ρ':Env}{n:Nat}(hn:ρ' n=ρ m):(Res.rou l).holds ρ' O n w:=by
 have sub:∀ {base:Nat} {a1:Option Addr} {ls:List Ln},U4 w (Zp ρ S.res) base a1 ls→U4 w O 0 a1 ls:=fun h=>⟨h.1,fun ad1 had1=>⟨(h.2 ad1 had1).1,fun j y hy q u hu=>let⟨h1,h2,h3⟩:=(h.2 ad1 had1).2 j y hy q u hu;⟨h1,V3 hO h2,Nat.zero_le _⟩⟩⟩
 unfold Zfu at h
 split at h
 ·rename_i hf
  subst h
  obtain⟨a,cap,h1,h2,h3⟩:=hm.res _ _ (Yq (Yp hf))
  refine⟨a,cap,by rw[hn];exact h1,h2,fun ad had=>⟨(h3 ad had).1,fun i x hx=> ?_⟩⟩
  obtain⟨g1,a1,cap1,g2,g3⟩:=(h3 ad had).2 i x hx
  exact⟨⟨g1.1,V3 hO g1.2⟩,a1,cap1,⟨⟨g2.1.1,V3 hO g2.1.2⟩,g2.2⟩,sub g3⟩
 ·rename_i base E l' hf
  subst h
  obtain⟨us,hlen,hown,h3⟩:=hm.res _ _ (Yq (Yp hf))
  have hro:=Pj (E:=E) (k:=.unt) (l:=us) hown
  obtain⟨a,cap,h1,h2,h4⟩:=hro
  refine⟨a,cap,by rw[hn,←hlen];exact h1,fun hn=>List.eq_nil_of_length_eq_zero (by rw[←hlen,h2 hn];rfl),fun ad had=>⟨fun hne=>(h4 ad had).1 (fun e=>hne (List.eq_nil_of_length_eq_zero (by rw[←hlen,e];rfl))),fun i x hx=> ?_⟩⟩
  have hi:i<us.length:=by rw[hlen];exact(List.getElem?_eq_some_iff.1 hx).1
  obtain⟨u,hu⟩:∃u,us[i]? =some u:=⟨us[i],by simp[hi]⟩
  obtain⟨g1,g2,g3⟩:=h3 i u x hu hx
  have hbO:ad.block∉O:=by
   rcases hown.2 with⟨hv,_⟩|⟨g,cp,cur,hv,_⟩
   ·rw[hv]at h1;have:=h1.1;injection this with e1 _ _;rw[had]at e1;cases e1
   ·rw[hv]at h1
    have:a=some ⟨g,0,none⟩:=by have:=h1.1;injection this with e1 _ _;exact e1.symm
    rw[this]at had;cases had
    exact Uo hm hO (Yp hf) (by simp[Res.block,hv,Value.ownBlock])
  have c0:=(h4 ad had).2 i u hu 0 (.str u.name) rfl
  have c1:=(h4 ad had).2 i u hu 1 (.raw (.slice u.la u.ln u.lc)) rfl
  simp only[Kd.sz,Nat.add_zero,At.den]at c0 c1
  rw[g1]at c0
  rw[g2.1]at c1
  exact⟨⟨c0,hbO⟩,u.la,u.lc,⟨⟨c1,hbO⟩,by rw[←g2.1];exact g2.2⟩,sub g3⟩
 ·rename_i E z e cs hf
  obtain⟨rfl,h1,h2⟩:=h
  obtain⟨b,hv,hlen,hb⟩:=hm.res _ _ (Yq (Yp hf))
  refine⟨some ⟨b,0,none⟩,e,by rw[hn,hv,h2];exact⟨rfl,Nat.le_refl _⟩,(fun h=>by cases h),fun ad had=> ?_⟩
  cases had
  refine⟨fun _=>rfl,fun i x hx=> ?_⟩
  obtain⟨y,g1,g2,g3⟩:=Cw h1 hx
  have hbO:b∉O:=Uo hm hO (Yp hf) (by simp[Res.block,hv,Value.ownBlock])
  obtain⟨a1,cap1,k1,k2,k3⟩:=(roA_O hm hO g3).lns
  refine⟨⟨?_,hbO⟩,a1,cap1,⟨⟨?_,hbO⟩,k2⟩,k3⟩
  ·rw[cell_of_row w b _ _ E (0,0) hb];simp[g1,At.den]
  ·rw[cell_of_row w b _ _ E (0,0) hb];simp[g2,k1]
 ·exact h.elim
theorem roR_mem(hm:Mem c ρ S.res S.nx w)(hO:∀b∈O,∃m r,(m,r)∈S.res∧m∈ds∧r.block ρ m=some b){w':World}(hk:Rb O w w')(P:Program)(nt:Nat):Mem ⟨P,w',[],nt,[]⟩ ρ (roR (del S.res ds)) S.nx w':=by
 have hnone:∀R:List (Nat×Res),Zp ρ (roR R)=[]:=by
  intro R
  induction R with
  |nil=>rfl
  |cons p R ih=>
   obtain⟨n,r⟩:=p
   cases r<;>simp only[roR]<;>first|exact ih|(unfold Zp at ih ⊢;rw[List.filterMap_cons];simpa[Res.block]using ih)
 have hfrom:∀(R:List (Nat×Res)) (n:Nat) (r':Res),(n,r')∈roR R→∃r,(n,r)∈R∧(n,r')∈roR [(n,r)]:=by
  intro R
  induction R with
  |nil=>intro n r' h;cases h
  |cons p R ih=>
   intro n r' h
   obtain⟨m,s⟩:=p
   have tail:(n,r')∈roR R→∃r,(n,r)∈(m,s)::R∧(n,r')∈roR [(n,r)]:=fun h=>by
    obtain⟨r,h1,h2⟩:=ih n r' h
    exact⟨r,List.mem_cons_of_mem _ h1,h2⟩
   cases s<;>simp only[roR]at h<;>first|exact tail h|exact(List.mem_cons.1 h).elim (fun e=>by cases e;exact⟨_,List.mem_cons_self ..,by simp[roR]⟩) tail
 have hkeys:∀R:List (Nat×Res),List.Sublist ((roR R).map Prod.fst) (R.map Prod.fst):=by
  intro R
  induction R with
  |nil=>exact List.Sublist.refl _
  |cons p R ih=>
   obtain⟨m,s⟩:=p
   cases s<;>simp only[roR,List.map_cons]<;>first|exact ih.cons_cons _|exact ih.cons _
 have hblk:∀ {b:Nat} {o:Obj},w.heap[b]? =some o→b∉O→w'.heap[b]? =some o:=fun h1 h2=>hk _ _ h1 h2
 have hcell:∀ {a:Addr} {v:Value},w.cell? a=some v→a.block∉O→w'.cell? a=some v:=fun h1 h2=>Pe hk h1 h2
 refine⟨rfl,rfl,rfl,Nat.le_refl _,fun _ _ _=>rfl,hm.one,List.Nodup.sublist (hkeys _) (Ms hm.keys),?_,?_,by rw[hnone];exact List.nodup_nil,fun b hb=>by rw[hnone]at hb;cases hb⟩
 ·intro n r' hr'
  rw[hnone]
  obtain⟨r,h1,h2⟩:=hfrom _ n r' hr'
  have hh:=hm.res _ _ (Yq h1)
  have same:∀ {r:Res},r.holds ρ (Zp ρ S.res) n w→(n,r)∈S.res→(∀E l,r≠ .cells E l)→(∀E k l,r≠ .row E k l)→(∀E z e l,r≠ .lit E z e l)→(∀P K E k f q,r≠ .smap P K E k f q)→(∀b E l,r≠ .urow b E l)→(∀l,r≠ .fmap l)→(∀m q s,r≠ .fiter m q s)→r.holds ρ [] n w':=by
   intro r h hin n1 n2 n3 n4 n5 n6 n7
   refine Res.carry (nx:=S.nx) (ρ:=ρ) (O:=Zp ρ S.res) (D:=O) (fun _ _=>rfl) (hm.bdr _ _ hin).1 (hm.bdr _ _ hin).2 hk (fun b hb=> ?_) (fun b hb=> ?_) (fun b hb=>nomatch hb) h
   ·obtain⟨m',r',g1,g2,g3⟩:=hO b hb
    exact List.mem_filterMap.2 ⟨_,g1,g3⟩
   ·cases r<;>simp only[Res.block,reduceCtorEq]at hb
    ·exact absurd rfl (n1 _ _)
    ·exact absurd rfl (n2 _ _ _)
    ·exact absurd rfl (n3 _ _ _ _)
    ·exact absurd rfl (n4 _ _ _ _ _ _)
    ·exact absurd rfl (n5 _ _ _)
    ·exact absurd rfl (n6 _)
    ·exact absurd rfl (n7 _ _ _)
  cases r with
  |cells E l=>
   simp only[roR,List.mem_singleton,Prod.mk.injEq,true_and]at h2
   subst h2
   obtain⟨b,hv,hb⟩:=hh
   have hbO:b∉O:=Uo hm hO h1 (by simp[Res.block,hv])
   refine⟨⟨b,0,none⟩,hv,fun j u hu=>⟨?_,by simp⟩⟩
   rw[cell_of_row w' b _ _ E (0,0) (hblk hb hbO)]
   simp[hu]
  |row E k l=>
   simp only[roR,List.mem_singleton,Prod.mk.injEq,true_and]at h2
   subst h2
   obtain⟨a,cap,g1,g2,g3⟩:=Em hm hO h1
   exact RoO.holds ⟨a,cap,g1,g2,fun ad had=>⟨(g3 ad had).1,fun i x hx j u hu=>let⟨q1,q2⟩:=(g3 ad had).2 i x hx j u hu;⟨hcell q1 q2,by simp⟩⟩⟩
  |lit E z e l=>simp[roR]at h2
  |fmap l=>simp[roR]at h2
  |fiter m q seen=>simp[roR]at h2
  |smap P K E k f q=>
   simp only[roR,List.mem_singleton,Prod.mk.injEq,true_and]at h2
   subst h2
   obtain⟨b,es,clock,g1,g2,g3⟩:=hh
   exact⟨b,es,clock,g1,⟨hblk g2 (Uo hm hO h1 (by simp[Res.block,g1])),by simp⟩,g3⟩
  |urow base E l=>
   simp only[roR,List.mem_singleton,Prod.mk.injEq,true_and]at h2
   subst h2
   have hfind:Zo (del S.res ds) n=some (.urow base E l):=by
    have hkk:=Ms (ds:=ds) hm.keys
    clear hr' hfrom hnone hkeys
    generalize del S.res ds=R at h1 hkk
    induction R with
    |nil=>cases h1
    |cons p R ih=>
     obtain⟨m,s⟩:=p
     simp only[List.map_cons,List.nodup_cons]at hkk
     rcases List.mem_cons.1 h1 with e|h1
     ·cases e;simp[Zo]
     ·simp only[Zo]
      rw[if_neg (fun e=>hkk.1 (by rw[e];exact List.mem_map.2 ⟨_,h1,rfl⟩))]
      exact ih h1 hkk.2
   have:=Zhq hm hO (m:=n) (l:=l) (by unfold Zfu;simp[St.find,hfind]) (ρ':=ρ) (n:=n) rfl
   obtain⟨a,cap,g1,g2,g3⟩:=this
   refine⟨a,cap,g1,g2,fun ad had=>⟨(g3 ad had).1,fun i x hx=> ?_⟩⟩
   obtain⟨q1,a1,cap1,q2,q3⟩:=(g3 ad had).2 i x hx
   exact⟨⟨hcell q1.1 q1.2,by simp⟩,a1,cap1,⟨⟨hcell q2.1.1 q2.1.2,by simp⟩,q2.2⟩,⟨q3.1,fun ad1 had1=>⟨(q3.2 ad1 had1).1,fun j y hy q u hu=>let⟨z1,z2,z3⟩:=(q3.2 ad1 had1).2 j y hy q u hu;⟨hcell z1 z2,by simp,z3⟩⟩⟩⟩
  |_=>
   simp only[roR,List.mem_singleton,Prod.mk.injEq,true_and]at h2
   subst h2
   exact same hh (Yq h1) (by simp) (by simp) (by simp) (by simp) (by simp) (by simp) (by simp)
 ·intro n r' hr'
  obtain⟨r,h1,h2⟩:=hfrom _ n r' hr'
  have hb:=hm.bdr _ _ (Yq h1)
  refine⟨hb.1,?_⟩
  cases r<;>simp only[roR,List.mem_singleton,List.not_mem_nil,Prod.mk.injEq,true_and]at h2<;>(try(subst h2;first|exact hb.2|trivial))
end
@[reducible] def Bnd:=List (Nat×At)
def U5:At→At→Bnd→Bnd
 |.ref n,x,b=>(n,x)::b
 |.loc n 0,.loc m 0,b=>(n,.ref m)::b
 |.loc n 0,x,b=>(n,x)::b
 |_,_,b=>b
def Ug:List At→List At→Bnd→Bnd
 |x::l,y::m,b=>Ug l m (U5 x y b)
 |_,_,b=>b
def S6:S1→S1→Bnd→Bnd
 |.a x,.a y,b=>U5 x y b
 |.agg l,.agg m,b=>Ug l m b
 |_,_,b=>b
def Vo:List S1→List S1→Bnd→Bnd
 |x::l,y::m,b=>Vo l m (S6 x y b)
 |_,_,b=>b
def R4:SV→SV→Bnd→Bnd
 |.one x,.one y,b=>S6 x y b
 |.tup l,.tup m,b=>Vo l m b
 |.opt _ x,.opt _ y,b=>S6 x y b
 |_,_,b=>b
def X7(S:St)(r:Res)(x:Option At)(b:Bnd):Bnd:=
 match r,x with
 |.cells _ cs,some (.ref m)=>(match S.find m with
  |some (.cells _ cs')=>Ug cs cs' b
  |_=>b)
 |.lit _ _ _ cs,some (.ref m)=>(match S.find m with
  |some (.lit _ _ _ cs')=>Ug cs cs' b
  |_=>b)
 |.rocells cs,some (.ref m)=>(match S.find m with
  |some (.cells _ cs')=>Ug cs cs' b
  |some (.rocells cs')=>Ug cs cs' b
  |_=>b)
 |.rocells cs,some (.loc m o)=>(match S.find m with
  |some (.cells _ cs')=>Ug cs (cs'.drop o) b
  |some (.rocells cs')=>Ug cs (cs'.drop o) b
  |_=>b)
 |_,_=>b
def Ti(S:St):List (Nat×Res)→Bnd→Bnd
 | [],b=>b
 |(n,r)::l,b=>Ti S l (X7 S r (Zo b n) b)
def J2(S:St):Nat→List Nat→Bnd→Bnd
 |_,[],b=>b
 |i,k::l,b=>J2 S (i+1) l (match S.get i with
  |some (.one (.a x))=>(k,x)::b
  |_=>b)
def sg(b:Bnd)(n:Nat):At:=match Zo b n with
 |some (.raw v)=>if v.oneCell'=true then .raw v else .raw Yv
 |some x=>x
 |none=>.raw Yv
theorem Zhs(b:Bnd)(n:Nat){ρ:Env}(h:∀n,(ρ n).oneCell'=true):((sg b n).den ρ).oneCell'=true:=by
 unfold sg
 split
 ·split
  ·assumption
  ·rfl
 ·rename_i x hx hl
  cases x with
  |raw v=>exact absurd rfl (hx v)
  |ref m=>exact h m
  |loc m o=>exact Cz _ _
  |elt m sz i j=>exact D6 _ _
  |_=>rfl
 ·rfl
def Zw(p:Nat→Prop):List S1→Prop
 | []=>True
 |x::l=>x.okN p∧Zw p l
def Zv(p:Nat→Prop):List (Nat×Res)→Prop
 | []=>True
 |(n,r)::l=>(p n∧r.okN p)∧Zv p l
def Zj:List (Nat×Res)→Bool
 | []=>true
 |(_,r)::l=>r.outOk&&Zj l
def Ze(R:List (Nat×Res)):List Nat→Prop
 | []=>True
 |k::l=>(match Zo R k with|some r=>r.own=true|none=>False)∧Ze R l
theorem Jx{p:Nat→Prop}:∀ {l:List S1},Zw p l→∀x∈l,x.okN p
 |y::l,h,x,hx=>by
  rcases List.mem_cons.1 hx with rfl|hx
  ·exact h.1
  ·exact Jx h.2 x hx
theorem Xo{p:Nat→Prop}:∀ {l:List (Nat×Res)},Zv p l→∀n r,(n,r)∈l→p n∧r.okN p
 |(m,s)::l,h,n,r,hx=>by
  rcases List.mem_cons.1 hx with e|hx
  ·cases e;exact h.1
  ·exact Xo h.2 n r hx
theorem Rd:∀ {l:List (Nat×Res)},Zj l=true→∀n r,(n,r)∈l→r.outOk=true
 |(m,s)::l,h,n,r,hx=>by
  simp only[Zj,Bool.and_eq_true]at h
  rcases List.mem_cons.1 hx with e|hx
  ·cases e;exact h.1
  ·exact Rd h.2 n r hx
theorem Tl{R:List (Nat×Res)}:∀ {l:List Nat},Ze R l→∀n∈l,∃r,(n,r)∈R∧r.own=true
 |k::l,h,n,hn=>by
  rcases List.mem_cons.1 hn with rfl|hn
  ·have:=h.1
   split at this
   ·rename_i r hr;exact⟨r,Yp hr,this⟩
   ·exact this.elim
  ·exact Tl h.2 n hn
theorem Zfm{r:Res}(h:r.outOk=true):r.own=true:=by cases r<;>simp_all[Res.outOk,Res.own]
def Zu(args:List S1)(R:List (Nat×Res))(nx:Nat)(keep:List Nat)(v:SV)(R':List (Nat×Res))(nx':Nat):Prop:=
 Zw (fun n=>n<nx) args∧Zv (fun n=>n<nx) R∧(R.map Prod.fst).Nodup∧Ze R keep∧v.okN (fun n=>(n∈keep∨nx≤n)∧n<nx')∧Zv (fun n=>(n∈keep∨nx≤n)∧n<nx') R'∧(R'.map Prod.fst).Nodup∧Zj R'=true∧nx≤nx'
structure GC (P:Program) (f:Nat) (args:List S1) (R:List (Nat×Res)) (nx:Nat) (keep:List Nat) (v:SV) (R':List (Nat×Res)) (nx':Nat):Prop where
 wf:Zu args R nx keep v R' nx'
 run:∀ρ w,Mem ⟨P,w,Zp ρ R,0,[]⟩ ρ R nx w→Calls P f (args.map (S1.den ρ)).toArray w fun e w'=>∃ρ',(∀n∈keep,ρ' n=ρ n)∧e= .returned (v.den ρ')∧Mem ⟨P,w,Zp ρ R,0,[]⟩ ρ' R' nx' w'
def Wb(G:Nat)(H:Nat→Option Obj)(w:World)(X:List Nat):Prop:=G≤w.heap.size∧(∀b,b<G→w.heap[b]? =H b)∧∀b∈X,G≤b
theorem Wb.zero(H:Nat→Option Obj)(w:World)(X:List Nat):Wb 0 H w X:=⟨Nat.zero_le _,fun b hb=>by omega,fun b _=>Nat.zero_le _⟩
structure GCp (G:Nat) (H:Nat→Option Obj) (P:Program) (f:Nat) (args:List S1) (R:List (Nat×Res)) (nx:Nat) (keep:List Nat) (v:SV) (R':List (Nat×Res)) (nx':Nat):Prop where
 wf:Zu args R nx keep v R' nx'
 run:∀ρ w,Mem ⟨P,w,Zp ρ R,0,[]⟩ ρ R nx w→Wb G H w (Zp ρ R)→Calls P f (args.map (S1.den ρ)).toArray w fun e w'=>∃ρ',(∀n∈keep,ρ' n=ρ n)∧e= .returned (v.den ρ')∧Mem ⟨P,w,Zp ρ R,0,[]⟩ ρ' R' nx' w'
theorem GC.gcp{G:Nat}{H:Nat→Option Obj}{P:Program}{f:Nat}{args:List S1}{R:List (Nat×Res)}{nx:Nat}{keep:List Nat}{v:SV}{R':List (Nat×Res)}{nx':Nat}(h:GC P f args R nx keep v R' nx'):GCp G H P f args R nx keep v R' nx':=
 ⟨h.wf,fun ρ w hm _=>h.run ρ w hm⟩
theorem GCp.gc{H:Nat→Option Obj}{P:Program}{f:Nat}{args:List S1}{R:List (Nat×Res)}{nx:Nat}{keep:List Nat}{v:SV}{R':List (Nat×Res)}{nx':Nat}(h:GCp 0 H P f args R nx keep v R' nx'):GC P f args R nx keep v R' nx':=
 ⟨h.wf,fun ρ w hm=>h.run ρ w hm (Wb.zero H w _)⟩
theorem Mem.cx{P:Program}{w0 w:World}{X:List Nat}{nt nt':Nat}{fr fr':List Value}{ρ:Env}{R:List (Nat×Res)}{nx:Nat}(h:Mem ⟨P,w0,X,nt,fr⟩ ρ R nx w):Mem ⟨P,w0,X,nt',fr'⟩ ρ R nx w:=
 ⟨h.os,h.tape,h.output,h.size,h.block,h.one,h.keys,h.res,h.bdr,h.nodup,h.lt⟩
theorem Zdv{σ:Nat→At}{ρ ρ':Env}{O O':List Nat}{n m:Nat}{w:World}{r:Res}{p:Nat→Prop}(hσ:∀n,p n→(σ n).den ρ=ρ' n)(hn:ρ' n=ρ m)(hok:r.okN p)(ho:r.own=true)(hO:∀b∈O',b∈O)
 (h:(r.sub σ).holds ρ O m w):r.holds ρ' O' n w:=by
 cases r<;>simp only[Res.own,Bool.false_eq_true]at ho
 case cells E l=>
  obtain⟨b,h1,h2⟩:=h
  exact⟨b,by rw[hn];exact h1,by rw[←To hσ hok];exact h2⟩
 case lit E sz e l=>
  obtain⟨b,h1,h2,h3⟩:=h
  exact⟨b,by rw[hn];exact h1,by simpa using h2,by rw[←To hσ hok];exact h3⟩
 case row E k l=>
  simp only[Res.sub,Res.holds]at h ⊢
  rw[hn,k.encs_den l ρ ρ'];exact h
 case smap P K E k f q=>
  simp only[Res.sub,Res.holds]at h ⊢
  rw[hn];exact h
 case urow base E l=>
  obtain⟨us,h1,h2,h3⟩:=h
  exact⟨us,h1,by rw[hn];exact h2,fun i u x hu hx=>⟨(h3 i u x hu hx).1,(h3 i u x hu hx).2.1,(h3 i u x hu hx).2.2.sub hO⟩⟩
 case fmap l=>
  obtain⟨b,h1,h2⟩:=h
  exact⟨b,by rw[hn];exact h1,h2⟩
 case fiter m q seen=>exact hok.elim
theorem Lj{σ:Nat→At}{ρ ρ':Env}{n m:Nat}{r:Res}(hn:ρ' n=ρ m):(r.sub σ).block ρ m=r.block ρ' n:=by
 cases r<;>simp only[Res.sub,Res.block,hn]
theorem Qp{ρ:Env}{n b:Nat}{r:Res}(h:r.block ρ n=some b):r.own=true:=by
 cases r<;>simp_all[Res.block,Res.own]
def frS:Nat→List Nat→List (Nat×SV)
 |_,[]=>[]
 |i,k::l=>(i,.one (.a (.ref k)))::frS (i+1) l
def Is(S:St)(τ:Nat→At):Nat→List Nat→Prop
 |_,[]=>True
 |i,k::l=>(match τ k with|.ref m=>S.get i=some (.one (.a (.ref m)))|_=>False)∧Is S τ (i+1) l
def Pw(S:St)(τ:Nat→At)(r:Res):At→Prop
 |.ref m=>S.find m=some (r.sub τ)
 |.raw (.slice none 0 0)=>(match r with|.row _ _ l=>l=[]|_=>False)
 |_=>False
def Ij(S:St)(τ:Nat→At):List (Nat×Res)→Prop
 | []=>True
 |(n,r)::l=>Pw S τ r (τ n)∧Ij S τ l
theorem Lo{S:St}{τ:Nat→At}:∀ {l:List (Nat×Res)},Ij S τ l→∀n r,(n,r)∈l→Pw S τ r (τ n)
 |(m,s)::l,h,n,r,hx=>by
  rcases List.mem_cons.1 hx with e|hx
  ·cases e;exact h.1
  ·exact Lo h.2 n r hx
def endP(keep:List Nat)(v:SV)(R':List (Nat×Res))(u:SV)(S:St)(τ:Nat→At):Prop:=
 u=v.sub τ∧Is S τ 1000000 keep∧Ij S τ R'∧(Vb τ R').Nodup
def D9(keep:List Nat)(v:SV)(R':List (Nat×Res))(u:SV)(S:St):Prop:=
 endP keep v R' u S (sg (Ti S R' (R4 v u (J2 S 1000000 keep []))))
theorem Zde:∀ {l:List Nat} {i t:Nat} {v:SV},Zo (frS i l) t=some v→∃j k,t=i+j∧l[j]? =some k∧v= .one (.a (.ref k))
 |k::l,i,t,v,h=>by
  rcases look_cons h with⟨rfl,rfl⟩|⟨_,h⟩
  ·exact⟨0,k,rfl,rfl,rfl⟩
  ·obtain⟨j,q,h1,h2,h3⟩:=Zde h
   exact⟨j+1,q,by omega,h2,h3⟩
theorem Gn{S:St}{τ:Nat→At}:∀ {l:List Nat} {i j k:Nat},Is S τ i l→l[j]? =some k→∃m,τ k= .ref m∧S.get (i+j)=some (.one (.a (.ref m)))
 |q::l,i,0,k,h,hj=>by
  simp at hj;subst hj
  have:=h.1
  split at this
  ·rename_i m hm;exact⟨m,hm,this⟩
  ·exact this.elim
 |q::l,i,j+1,k,h,hj=>by
  obtain⟨m,h1,h2⟩:=Gn h.2 (by simpa using hj)
  exact⟨m,h1,by rw[←h2];congr 1;omega⟩
theorem look_append{α:Type}{l m:List (Nat×α)}{t:Nat}{v:α}(h:Zo (l++m) t=some v):Zo l t=some v∨Zo m t=some v:=by
 induction l with
 |nil=>exact .inr h
 |cons p l ih=>
  rcases look_cons h with⟨rfl,rfl⟩|⟨hne,h⟩
  ·left;simp[Zo]
  ·rcases ih h with h1|h1
   ·left;simp only[Zo];rw[if_neg hne];exact h1
   ·exact .inr h1
theorem Body.callsF{P:Program}{f nt:Nat}{x:IC}{rl:List RV}(hF:Body P f nt x rl){w:World}{X:List Nat}{fr:List Value}{args:Array Value}{S:St}{ρ:Env}{R:SV→St→Prop}{Post:Ending→World→Prop}
 (hlen:args.size≤nt)(hs:∀t v,S.get t=some v→(if t<BIG then args[t]? else fr[t-BIG]?)=some (v.den ρ)∧v.bd S.nx)(hm:Mem ⟨P,w,X,nt,fr⟩ ρ S.res S.nx w)(hT:T ⟨P,w,X,nt,fr⟩ x (Qu ⟨P,w,X,nt,fr⟩ rl R) S)
 (hpost:∀v S' ρ' w',R v S'→v.bd S'.nx→Mem ⟨P,w,X,nt,fr⟩ ρ' S'.res S'.nx w'→(∀t u,S'.get t=some u→BIG≤t→fr[t-BIG]? =some (u.den ρ'))→Post (.returned (v.den ρ')) w'):Calls P f args w Post:=by
 obtain⟨fn,code,h1,h2,h3,h4,h5⟩:=hF.ok
 refine calls_of_wp h1 h2 ?_
 have hh:S.holds ⟨P,w,X,nt,fr⟩ ρ {tmps:=args++Array.replicate (fn.ntmps-args.size) undef,defers:=[]} w:=by
  refine⟨rfl,by simp[h3];omega,hF.lown,fun t v hv=> ?_,fun t v hv=>(hs t v hv).2,hm⟩
  have:=(hs t v hv).1
  unfold Np
  split
  rotate_left
  ·rename_i hb;rwa [if_neg hb]at this
  rename_i hb
  rw[if_pos hb]at this
  have hlt:t<args.size:=(Array.getElem?_eq_some_iff.1 this).1
  rw[Array.getElem?_append_left hlt];exact this
 refine wp_mono (hT ρ _ w hh code h4) fun e a' w' hl=> ?_
 obtain⟨S',ρ',g1,g2⟩:=hl
 have fin:(match rvs S' rl with|some vs=>R (I6 vs) S'|none=>False)→a'.defers=[]∧∃v,(results fn a'.tmps).run P w'= .ok v w'∧Post (.returned v) w':=by
  intro h
  split at h
  ·rename_i vs hvs
   obtain⟨r1,r2⟩:=Nm g1 h5 hvs
   refine⟨g1.nodef,_,r1,hpost _ _ _ _ h r2 g1.mem fun t u hu hb=> ?_⟩
   have:=g1.slot t u hu
   unfold Np at this
   rwa [if_neg (by omega)]at this
  ·exact h.elim
 cases e with
 |normal=>exact fin g2
 |ret=>exact fin g2
 |_=>exact g2.elim
theorem Body.gcp{G:Nat}{H:Nat→Option Obj}{P:Program}{f nt:Nat}{x:IC}{rl:List RV}(hF:Body P f nt x rl){args:List S1}{R:List (Nat×Res)}{nx:Nat}{keep:List Nat}{v:SV}{R':List (Nat×Res)}{nx':Nat}
 (hlen:args.length≤nt)(hwf:Zu args R nx keep v R' nx')
 (hT:∀w X fr,Wb G H w X→T ⟨P,w,X,nt,fr⟩ x (Qu ⟨P,w,X,nt,fr⟩ rl (D9 keep v R')) ⟨Y1 0 args++frS 1000000 keep,R,nx⟩):GCp G H P f args R nx keep v R' nx':=by
 refine⟨hwf,fun ρ w hm hglob=> ?_⟩
 obtain⟨w1,w2,w3,w4,w5,w6,w7,w8,w9⟩:=hwf
 refine hF.callsF (S:=⟨Y1 0 args++frS 1000000 keep,R,nx⟩) (ρ:=ρ) (X:=Zp ρ R) (fr:=keep.map ρ) (R:=D9 keep v R') (by simpa using hlen) (fun t u hu=> ?_) hm.cx (hT _ _ _ hglob) fun u S' ρ' w' hend hub hm' hfr=> ?_
 ·rcases look_append hu with hu|hu
  ·obtain⟨j,h1,h2,h3⟩:=T7 (ρ:=ρ) (nx:=nx) (fun v hv=>S1.okN_bd (Jx w1 v hv)) hu
   simp only[Nat.zero_add]at h1
   subst h1
   have hjl:t<BIG:=by
    have:=(List.getElem?_eq_some_iff.1 h2).1
    have h4:=hF.lown
    simp only[List.length_map]at this
    omega
   exact⟨by rw[if_pos hjl];simpa using h2,h3⟩
  ·obtain⟨j,k,h1,h2,rfl⟩:=Zde hu
   obtain⟨r,h3,_⟩:=Tl w4 k (List.mem_of_getElem? h2)
   refine⟨?_,(Xo w2 k r h3).1⟩
   have hb:¬t<BIG:=by show¬t<1000000;omega
   rw[if_neg hb]
   have:t-BIG=j:=by show t-1000000=j;omega
   rw[this,List.getElem?_map,h2];rfl
 ·obtain⟨e1,e2,e3,e4⟩:=hend
  generalize hτ:sg (Ti S' R' (R4 v u (J2 S' 1000000 keep [])))=τ at e1 e2 e3 e4
  have hone:∀n,((τ n).den ρ').oneCell'=true:=fun n=>by rw[←hτ];exact Zhs _ n hm'.one
  have hT:∀n,True→(τ n).den ρ'=(fun n=>(τ n).den ρ') n:=fun n _=>rfl
  have hok:∀n r,(n,r)∈R'→r.okN fun _=>True:=fun n r hr=>by
   have:=(Xo w6 n r hr).2
   have hout:=Rd w8 n r hr
   cases r<;>simp only[Res.outOk,Bool.false_eq_true]at hout<;>first|trivial|exact fun y hy=>At.okN_mono (fun _ _=>trivial) (this y hy)
  have hown:∀n r b,(n,r)∈R'→r.block (fun n=>(τ n).den ρ') n=some b→∃m,τ n= .ref m∧(m,r.sub τ)∈S'.res∧(r.sub τ).block ρ' m=some b:=fun n r b hr hb=>by
   have h1:=Lo e3 n r hr
   unfold Pw at h1
   split at h1
   ·rename_i m hm2
    refine⟨m,hm2,Zg h1,?_⟩
    rw[Lj (ρ':=fun n=>(τ n).den ρ') (n:=n) (by simp only[hm2,At.den])]
    exact hb
   ·rename_i hm2
    split at h1
    ·simp only[Res.block,hm2,At.den,Value.ownBlock]at hb;cases hb
    ·exact h1.elim
   ·exact h1.elim
  have hsub:∀b∈Zp (fun n=>(τ n).den ρ') R',b∈Zp ρ' S'.res:=fun b hb=>by
   obtain⟨p,hp,hpb⟩:=List.mem_filterMap.1 hb
   obtain⟨m,h1,h2,h3⟩:=hown p.1 p.2 b hp hpb
   exact List.mem_filterMap.2 ⟨_,h2,h3⟩
  refine⟨fun n=>(τ n).den ρ',fun n hn=> ?_,?_,hm'.os,hm'.tape,hm'.output,hm'.size,hm'.block,hone,w7,fun n r hr=> ?_,fun n r hr=> ?_,?_,fun b hb=>hm'.lt b (hsub b hb)⟩
  ·obtain⟨j,hj⟩:=List.getElem?_of_mem hn
   obtain⟨m,h1,h2⟩:=Gn e2 hj
   have:=hfr _ _ h2 (by show 1000000≤1000000+j;omega)
   have h4:1000000+j-BIG=j:=by show 1000000+j-1000000=j;omega
   rw[h4,List.getElem?_map,hj]at this
   simp only[Option.map_some,Option.some.injEq,SV.den,S1.den,At.den]at this
   simp only[h1,At.den]
   exact this.symm
  ·rw[e1]
   congr 1
   refine SV.sub_den (p:=fun n=>(n∈keep∨nx≤n)∧n<nx') (fun n _=>rfl) w5
  ·have h1:=Lo e3 n r hr
   unfold Pw at h1
   split at h1
   ·rename_i m hm2
    exact Zdv (p:=fun _=>True) hT (by simp only[hm2,At.den]) (hok n r hr) (Zfm (Rd w8 n r hr)) hsub (hm'.res _ _ (Zg h1))
   ·rename_i hm2
    split at h1
    ·rename_i E k l
     subst h1
     simp only[Res.holds,hm2,At.den]
     exact World.ownsRow_nil w' 0 E k.sz
    ·exact h1.elim
   ·exact h1.elim
  ·obtain⟨h1,h2⟩:=Xo w6 n r hr
   refine⟨h1.2,?_⟩
   have hout:=Rd w8 n r hr
   cases r<;>simp only[Res.outOk,Bool.false_eq_true]at hout<;>first|trivial|exact fun y hy=>At.okN_bd (At.okN_mono (fun _ h=>h.2) (h2 y hy))
  ·have key:∀(l:List (Nat×Res)),(∀p∈l,p∈R')→(l.map Prod.fst).Nodup→(Zp (fun n=>(τ n).den ρ') l).Nodup:=by
    intro l
    induction l with
    |nil=>intro _ _;exact List.nodup_nil
    |cons p l ih=>
     intro hin hnd
     simp only[List.map_cons,List.nodup_cons]at hnd
     have ih':=ih (fun q hq=>hin q (by simp[hq])) hnd.2
     unfold Zp
     rw[List.filterMap_cons]
     split
     ·exact ih'
     ·rename_i b hb
      refine List.nodup_cons.2 ⟨fun hmem2=> ?_,ih'⟩
      obtain⟨q,hq,hqb⟩:=List.mem_filterMap.1 hmem2
      obtain⟨m1,a1,a2,a3⟩:=hown p.1 p.2 b (hin p (by simp)) hb
      obtain⟨m2,b1,b2,b3⟩:=hown q.1 q.2 b (hin q (by simp[hq])) hqb
      have hne:m2≠m1:=fun e=>by
       have:=Ka e4 (hin p (by simp)) (hin q (by simp[hq])) (Qp hb) (Qp hqb) a1 (e▸b1)
       exact hnd.1 (by rw[this];exact List.mem_map.2 ⟨q,hq,rfl⟩)
      have h5:=Yf (ds:=[m1]) hm'.keys hm'.nodup a2 (by simp) a3
      exact h5 (List.mem_filterMap.2 ⟨_,List.mem_filter.2 ⟨b2,by simp[hne]⟩,b3⟩)
   exact key R' (fun _ h=>h) w7
theorem Body.gc{P:Program}{f nt:Nat}{x:IC}{rl:List RV}(hF:Body P f nt x rl){args:List S1}{R:List (Nat×Res)}{nx:Nat}{keep:List Nat}{v:SV}{R':List (Nat×Res)}{nx':Nat}
 (hlen:args.length≤nt)(hwf:Zu args R nx keep v R' nx')
 (hT:∀w X fr,T ⟨P,w,X,nt,fr⟩ x (Qu ⟨P,w,X,nt,fr⟩ rl (D9 keep v R')) ⟨Y1 0 args++frS 1000000 keep,R,nx⟩):GC P f args R nx keep v R' nx':=
 GCp.gc (H:=fun _=>none) (hF.gcp hlen hwf fun w X fr _=>hT w X fr)
theorem GCp.plain{G:Nat}{H:Nat→Option Obj}{P:Program}{f:Nat}{args:List S1}{v:SV}(hb:∀x∈args,x.bd 0)(hv:v.bd 0)(hwf:Zu args [] 0 [] v [] 0)
 (h:∀w,Wb G H w []→Calls P f (args.map (S1.den Xx)).toArray w fun e w'=>e= .returned (v.den Xx)∧Below w.heap.size w w'):GCp G H P f args [] 0 [] v [] 0:=
 ⟨hwf,fun ρ w hm hg=>by
   rw[Oi (ρ:=ρ) hb]
   exact(h w hg).mono fun e w' ⟨he,hbl⟩=>⟨ρ,(fun n hn=>nomatch hn),by rw[he,SV.den_same (nx:=0) (ρ:=Xx) (ρ':=ρ) (fun n hn=>by omega) hv],hm.below hbl⟩⟩
end Vc
end Go.Proofs.YtbmecnjmbhokgaaGreatDoor
