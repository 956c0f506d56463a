/- The generator is sound; triples over code; loops, calls, ends. -/
import Derived.Test.YtddmlennnmpnhaaGreatDoorQc
namespace Go.Proofs.YtddmlennnmpnhaaGreatDoor
namespace Vc
open Go.RowKit
set_option linter.unusedVariables false
set_option linter.unusedSimpArgs false
theorem Bl{ds:List Nat}{n:Nat}(hn:n∉ds):∀(R:List (Nat×Res)),Zo (del R ds) n=Zo R n
 | []=>rfl
 |(m,r)::R=>by
  have ih:=Bl hn R
  by_cases hm:m∈ds
  ·have:del ((m,r)::R) ds=del R ds:=by unfold del;rw[List.filter_cons_of_neg (by simpa using hm)]
   rw[this,ih]
   simp only[Zo]
   rw[if_neg (fun e=>hn (by rw[←e];exact hm))]
  ·have:del ((m,r)::R) ds=(m,r)::del R ds:=by unfold del;rw[List.filter_cons_of_pos (by simpa using hm)]
   rw[this]
   simp only[Zo,ih]
theorem Iq:∀(k:Kd) (l:List k.ty),Yo k k l=some l:=by
 intro k l;cases k<;>simp[Yo]
theorem del_upd(R:List (Nat×Res))(m:Nat)(r:Res):del (upd R m r) [m]=del R [m]:=by
 simp[upd,del,List.filter_filter]
theorem bsl_run{c:Cx}{S:St}{ρ:Env}{a:Act}{w:World}(hh:S.holds c ρ a w){t e m:Nat}{parts:Array (Nat×Operand)}{i:TypeInfo}{z:Value}{ps:List (Nat×Nat×Opd)}
 (ht:c.P.underlying t=some (.slice e))(hi:c.P.info? e=some i)(hz:i.zero=some z)(hm:m*i.size≤1024∧0<m*i.size∧z.cells.size=i.size∧okV z=true)
 (hps:Sm ((List.range m).map fun q=>(q*i.size,i.size)) parts.toList=some ps){p:Prop}{l:List At}(h:W1 S ps ((List.replicate m (z.cells.toList.map atV)).flatten)=some (p,l))(hp:p):
 (Instr.buildSlice t m (parts.map fun(i,x)=>(i,a.eval x))).run c.P w= .ok (.slice (some ⟨w.heap.size,0,none⟩) m m) (w.alloc (.cells (l.map (At.den ρ)).toArray e))∧(∀u∈l,u.bd S.nx)∧l.length=m*i.size:=by
 have hbd:∀u∈(List.replicate m (z.cells.toList.map atV)).flatten,u.bd S.nx:=fun u hu=>by
  obtain⟨y,hy,huy⟩:=List.mem_flatten.1 hu
  rw[List.mem_replicate]at hy
  rw[hy.2]at huy
  obtain⟨x,hx,rfl⟩:=List.mem_map.1 huy
  exact Ii _ _ (List.all_eq_true.1 hm.2.2.2 x hx)
 have hpos:0<i.size:=Nat.pos_of_mul_pos_left hm.2.1
 have hplace:∀(k:Nat),((List.range m).map fun q=>(q*i.size,i.size))[k]? =if k<m then some (k*i.size,i.size)else none:=by
  intro k
  rw[List.getElem?_map]
  by_cases hk:k<m
  ·simp[hk]
  ·simp[hk]
 have hfill:=Pq (fun k=>some (k*i.size,i.size)) hh _ (fun k q hq=>by rw[hplace]at hq;split at hq<;>first|exact hq|cases hq) parts.toList ps _ l p hps h hp hbd
 have hrd:∀ {ps:List (Nat×Nat×Opd)} {l l':List At} {p:Prop},W1 S ps l=some (p,l')→l'.length=l.length:=by
  intro ps
  induction ps with
  |nil=>intro l l' p h;cases h;rfl
  |cons x ps ih=>
   intro l l' p h
   obtain⟨o,z,x⟩:=x
   simp only[W1]at h
   split at h
   ·split at h
    ·rename_i hl
     split at h
     ·rename_i hr
      cases h
      rw[ih hr,Px _ _ _ (by rw[hl.1];exact hl.2)]
     ·cases h
    ·cases h
   ·cases h
 have hlen:l.length=m*i.size:=by
  rw[hrd h]
  simp[hm.2.2.1]
 refine⟨?_,hfill.2,hlen⟩
 have hzero:((List.replicate m (z.cells.toList.map atV)).flatten.map (At.den ρ)).toArray=(Array.range (m*i.size)).map (z.cells[·%z.cells.size]!):=by
  apply Array.ext_getElem?
  intro q
  have hd:((List.replicate m (z.cells.toList.map atV)).flatten.map (At.den ρ))=(List.replicate m z.cells.toList).flatten:=by
   rw[List.map_flatten,List.map_replicate,Jq]
  rw[List.getElem?_toArray,hd]
  have key:∀m q,q<m*i.size→(List.replicate m z.cells.toList).flatten[q]? =some z.cells[q%z.cells.size]! :=by
   intro m
   induction m with
   |zero=>intro q hq;simp at hq
   |succ m ih=>
    intro q hq
    rw[List.replicate_succ,List.flatten_cons]
    by_cases hqs:q<i.size
    ·rw[List.getElem?_append_left (by simpa[hm.2.2.1]using hqs)]
     rw[Nat.mod_eq_of_lt (by rw[hm.2.2.1];exact hqs)]
     have:q<z.cells.size:=by rw[hm.2.2.1];exact hqs
     simp[this]
    ·rw[List.getElem?_append_right (by simp[hm.2.2.1];omega)]
     rw[Nat.succ_mul]at hq
     have hl:z.cells.toList.length=i.size:=by simp[hm.2.2.1]
     rw[hl,ih (q-i.size) (by omega)]
     congr 2
     rw[hm.2.2.1]
     exact(Nat.mod_eq_sub_mod (by omega)).symm
  by_cases hq:q<m*i.size
  ·rw[key m q hq]
   simp[hq]
  ·rw[List.getElem?_eq_none (by simp[hm.2.2.1];omega)]
   simp[hq]
 rw[hzero]at hfill
 unfold Instr.buildSlice
 have hne:m*i.size≠0:=by omega
 have hle:¬(m*i.size>2^24):=by omega
 have e2:(parts.map fun(i,x)=>(i,a.eval x)).toList=parts.toList.map fun x=>(x.1,a.eval x.2):=by simp
 simp only[Sem.run_bind,run_underlying ht,Result.andThen_ok,sizeOf,typeInfo,program,Sem.run,hi,Sem.run_pure,hle,if_false,hne,Wt hi hz]
 have hf:=hfill.1
 rw[e2]
 rw[hf]
 simp only[newRow,newObj,Sem.run_bind,Sem.run,Result.andThen_ok,Sem.run_pure,World.alloc]
theorem Zr{P:Program}{o:Oper}{a:Act}{w w':World}{v:Value}{next:Act→World→Prop}{Q:Exit→Act→World→Prop}(h:(execOp a.eval o).run P w= .ok (.value v) w')(hn:next (a.put o.dst v) w'):o.wp P a w next Q:=by
 unfold Oper.wp;rw[h];exact hn
theorem Sq{P:Program}{o:Oper}{a:Act}{w w':World}{next:Act→World→Prop}{Q:Exit→Act→World→Prop}(h:(execOp a.eval o).run P w= .ok .skip w')(hn:next (a.put o.dst undef) w'):o.wp P a w next Q:=by
 unfold Oper.wp;rw[h];exact hn
theorem Y3{P:Program}{w w':World}{s:Sem Value}{v:Value}(h:s.run P w= .ok v w'):(do pure (.value (←s)):Sem Next).run P w= .ok (.value v) w':=by
 rw[Sem.run_bind,h,Result.andThen_ok,Sem.run_pure]
theorem Ff{ρ:Env}{vs:List S1}(hb:∀v∈vs,v.bd 0):vs.map (S1.den ρ)=vs.map (S1.den fun _=>Yz):=
 List.map_congr_left fun v hv=>S1.den_same (nx:=0) (ρ:=fun _=>Yz) (fun n hn=>by omega) (hb v hv)
theorem R6(ρ:Env):noV.den ρ=undef:=rfl
theorem Qj(n:Nat):noV.bd n:=fun h=>by cases h
theorem slA_run{P:Program}{t e n:Nat}{j:TypeInfo}(ht:P.underlying t=some (.array n e))(hj:P.info? e=some j)(w:World)(b o:Nat):
 (Instr.sliceAt t (.pointer (some ⟨b,o,none⟩)) none none none).run P w= .ok (.slice (some ⟨b,o,none⟩) n n) w:=by
 unfold Instr.sliceAt
 simp only[Sem.run_bind,run_underlying ht,Result.andThen_ok,Ya]
 simp[Instr.sliceBounds,Sem.run_bind,Sem.run_pure,sizeOf,typeInfo,hj,program,Sem.run,Addr.add_lit]
theorem Mem.newArr{c:Cx}{ρ:Env}{R:List (Nat×Res)}{nx:Nat}{w:World}(h:Mem c ρ R nx w){m E o n b:Nat}{l:List At}(hm:(m,Res.cells E l)∈R)(hv:ρ m= .pointer (some ⟨b,0,none⟩)):
 Mem c (Z9 ρ nx (.slice (some ⟨b,o,none⟩) n n)) ((nx,.arr m o n)::R) (nx+1) w:=by
 have hlt:=(h.bdr m _ hm).1
 have:=Mem.step (ρ':=Z9 ρ nx (.slice (some ⟨b,o,none⟩) n n)) (nx':=nx+1) (w':=w) (ds:=[]) (m:=nx) (r:=.arr m o n) (D:=[]) h
  (Zi ρ nx _) (by omega) (Y0 h.one rfl) rfl rfl rfl (Nat.le_refl _) (fun _ _ hb _=>hb) (by simp) (by omega) (.inr (Nat.le_refl _)) (show m<nx+1 by omega) (fun b hb=>by cases hb)
  (fun O' _ _=>⟨b,by rw[Zi ρ nx _ m hlt];exact hv,by rw[Zm]⟩)
 rwa [Xj]at this
theorem Zgz{c:Cx}{S:St}{ρ:Env}{a:Act}{w:World}(hh:S.holds c ρ a w){o:Oper}{i:I}(hc:Re c.P o=some i)(hd:∀t,o.dst=some t→t<c.nt){K:St→Prop}(hs:st c S o.dst i K)
 {next:Act→World→Prop}{Q:Exit→Act→World→Prop}(hn:∀S' ρ' a' w',Ext S ρ S' ρ'→K S'→S'.holds c ρ' a' w'→next a' w'):o.wp c.P a w next Q:=by
 have hcc:=Zfm hc
 unfold Re at hc
 split at hc
 ·cases hc;cases hs
 ·cases hc;cases hs
 · -- pick
   rename_i cc x y ho
   cases hc
   simp only[st]at hs
   split at hs
   ·rename_i p g hrd
    obtain⟨hp,h1,h2⟩:=hs
    obtain⟨e1,_⟩:=Zd hh hrd hp
    cases g
    ·have h2':=h2 rfl
     split at h2'
     ·rename_i q v hrd2
      obtain⟨e2,hb⟩:=Zd hh hrd2 h2'.1
      refine Zr (w':=w) (v:=v.den ρ) ?_ (hn _ _ _ _ (by refine⟨?_,?_⟩<;>first|exact Zi _ _ _|exact fun _ _=>rfl|simp[St.new,Yg]) h2'.2 (hh.put_same hd (v:=.one v) hb))
      have e1':a.eval cc= .bool false:=e1
      unfold execOp;simp only[ho,e1',asBool,Sem.run_bind,Sem.run_pure,Result.andThen_ok,Bool.false_eq_true,if_false,e2]
     ·exact h2'.elim
    ·have h1':=h1 rfl
     split at h1'
     ·rename_i q v hrd2
      obtain⟨e2,hb⟩:=Zd hh hrd2 h1'.1
      refine Zr (w':=w) (v:=v.den ρ) ?_ (hn _ _ _ _ (by refine⟨?_,?_⟩<;>first|exact Zi _ _ _|exact fun _ _=>rfl|simp[St.new,Yg]) h1'.2 (hh.put_same hd (v:=.one v) hb))
      have e1':a.eval cc= .bool true:=e1
      unfold execOp;simp only[ho,e1',asBool,Sem.run_bind,Sem.run_pure,Result.andThen_ok,if_true,e2]
     ·exact h1'.elim
   ·exact hs.elim
 ·(repeat' split at hc)<;>first|(cases hc;done)|(cases hc;cases hs)
 ·cases hc;cases hs
 · -- convert
   rename_i sT dT x ho
   split at hc
   ·cases hc;cases hs
   ·rename_i e hsT hdT
    split at hc
    ·rename_i heT
     cases hc
     simp only[st]at hs
     split at hs
     ·rename_i p l hrd
      obtain⟨e1,hb⟩:=Zd hh hrd hs.1
      obtain⟨v,w',g1,g2⟩:=hh.mem.newBytes l hsT hdT heT
      have hput:=hh.put (Zi ρ S.nx v) (Nat.le_succ _) g2 hd (v:=.one (.a (.ref S.nx))) (Nat.lt_succ_self _)
      have hden:(SV.one (.a (.ref S.nx))).den (Z9 ρ S.nx v)=v:=by simp only[SV.den,S1.den,At.den,Zm]
      rw[hden]at hput
      refine Zr ?_ (hn _ _ _ _ (by refine⟨?_,?_⟩<;>first|exact Zi _ _ _|exact fun _ _=>rfl|simp[St.new,Yg]) hs.2 hput)
      unfold execOp;simp only[ho]
      refine Y3 ?_
      rw[e1];exact g1
     ·exact hs.elim
    ·cases hc
   ·rename_i e hsT hdT
    split at hc
    ·rename_i heT
     cases hc
     have conv:∀ {v:Value} {l:List UInt8},a.eval x=v→(∃y n cap,v= .slice y n cap)→(Conv.bytesToString v).run c.P w= .ok (.string ⟨l.toArray⟩) w→K (S.put o.dst (.one (.a (.str l))))→o.wp c.P a w next Q:=by
      intro v l e1 hsl hrun hK
      refine Zr (w':=w) (v:=.string ⟨l.toArray⟩) ?_ (hn _ ρ _ _ (by refine⟨?_,?_⟩<;>first|exact Zi _ _ _|exact fun _ _=>rfl|simp[St.new,Yg]) hK (hh.put_same hd (v:=.one (.a (.str l))) trivial))
      unfold execOp;simp only[ho]
      refine Y3 ?_
      rw[e1]
      obtain⟨y,n,cap,rfl⟩:=hsl
      unfold convert
      simp only[Sem.run_bind,run_underlying hsT,run_underlying hdT,run_underlying heT,Result.andThen_ok]
      exact hrun
     simp only[st]at hs
     split at hs
     ·rename_i p hrd
      obtain⟨e1,_⟩:=Zd hh hrd hs.1
      exact conv e1 ⟨none,0,0,rfl⟩ (by unfold Conv.bytesToString;simp only[Sem.run_pure];rfl) hs.2
     ·rename_i p u _ hrd
      split at hs
      ·rename_i r l' ds happ
       obtain⟨hp,hr,hK⟩:=hs
       obtain⟨e1,_⟩:=Zd hh hrd hp
       obtain⟨ad,cap,hu,_⟩:=Ws hh rfl happ hr
       exact conv e1 ⟨ad,_,cap,hu⟩ (hh.b2s happ hr) hK
      ·exact hs.elim
     ·exact hs.elim
    ·cases hc
   ·cases hc;cases hs
   ·rename_i e0 e hsT hdT
    split at hc
    ·rename_i hsd
     subst hsd
     split at hc
     ·rename_i heT
      cases hc
      simp only[st]at hs
      split at hs
      ·rename_i p m hrd
       split at hs
       ·rename_i E0 e1 l hf
        split at hs
        ·rename_i xs hx
         obtain⟨e1,hb⟩:=Zd hh hrd hs.1
         obtain⟨w',g1,g2⟩:=hh.frz hf hx hdT heT
         have hput:=hh.put (fun _ _=>rfl) (Nat.le_refl _) g2 hd (v:=.one (.a (.ref m))) hb
         refine Zr ?_ (hn _ _ _ _ (by refine⟨?_,?_⟩<;>first|exact Zi _ _ _|exact fun _ _=>rfl|simp[St.new,Yg]) hs.2 hput)
         unfold execOp;simp only[ho]
         refine Y3 ?_
         have e1':a.eval x=ρ m:=e1
         rw[e1'];exact g1
        ·exact hs.elim
       ·exact hs.elim
      ·exact hs.elim
     ·cases hc
    ·cases hc
   ·cases hc
 · -- load
   rename_i t x ho
   split at hc
   ·rename_i dd j ht hi
    cases hc
    simp only[st]at hs
    split at hs
    ·rename_i p m sz ii jj hrd
     split at hs
     ·rename_i l hf
      split at hs
      ·rename_i hsz
       subst hsz
       have fin:∀ {a1:Addr} {n cap:Nat} {v:SV} {w:World},ρ m= .slice (some a1) n cap→a.eval x= .pointer (some ⟨a1.block,a1.off+(ii*2+jj),none⟩)→(loadVar t ⟨a1.block,a1.off+(ii*2+jj),none⟩).run c.P w= .ok (v.den ρ) w→(execOp a.eval o).run c.P w= .ok (.value (v.den ρ)) w:=by
        intro a1 n cap v w h1 h2 h3
        unfold execOp;simp only[ho]
        refine Y3 ?_
        rw[h2]
        simp only[Instr.loadAt,Sem.run_bind,Ya,Result.andThen_ok]
        exact h3
       split at hs
       ·rename_i hagg hsz
        obtain⟨hp,hlt,hK⟩:=hs
        obtain⟨e1,_⟩:=Zd hh hrd hp
        obtain⟨ad,cap,a1,cap1,g1,g2,g3,g4,g5⟩:=hh.mem.rou_cell (Zg hf) hlt
        have hm:=hh.mem.nameLines g4 g5
        have hput:=hh.put (Zi ρ S.nx _) (Nat.le_succ _) hm hd (v:=.one (.agg [.str (l.getD ii ([],[])).1,.ref S.nx])) (by intro u hu;simp only[List.mem_cons,List.not_mem_nil,or_false]at hu;rcases hu with rfl|rfl<;>simp[At.bd])
        have hden:(SV.one (.agg [.str (l.getD ii ([],[])).1,.ref S.nx])).den (Z9 ρ S.nx (.slice a1 (l.getD ii ([],[])).2.length cap1))= .agg #[.string ⟨(l.getD ii ([],[])).1.toArray⟩,.slice a1 (l.getD ii ([],[])).2.length cap1]:=by
         simp only[SV.den,S1.den,List.map_cons,List.map_nil,At.den,Zm]
        rw[hden]at hput
        refine Zr ?_ (hn _ _ _ _ (by refine⟨?_,?_⟩<;>first|exact Zi _ _ _|exact fun _ _=>rfl|simp[St.new,Yg]) hK hput)
        unfold execOp;simp only[ho]
        refine Y3 ?_
        rw[e1]
        simp only[S1.den,At.den,g1,V0,Instr.loadAt,Sem.run_bind,Ya,Result.andThen_ok]
        refine T8 ht hi hagg (cs:=[.string ⟨(l.getD ii ([],[])).1.toArray⟩,.slice a1 (l.getD ii ([],[])).2.length cap1]) hsz fun q v hq=> ?_
        rw[Addr.add_lit]
        match q,hq with
        |0,hq=>cases hq;exact g2
        |1,hq=>cases hq;exact g3
        |q+2,hq=>simp at hq
       ·rename_i hagg hsz
        obtain⟨hp,hlt,hK⟩:=hs
        obtain⟨e1,_⟩:=Zd hh hrd hp
        obtain⟨ad,cap,a1,cap1,g1,g2,g3,g4,g5⟩:=hh.mem.rou_cell (Zg hf) hlt
        refine Zr ?_ (hn _ _ _ _ (by refine⟨?_,?_⟩<;>first|exact Zi _ _ _|exact fun _ _=>rfl|simp[St.new,Yg]) hK (hh.put_same hd (v:=.one (.a (.str (l.getD ii ([],[])).1))) trivial))
        unfold execOp;simp only[ho]
        refine Y3 ?_
        rw[e1]
        simp only[S1.den,At.den,g1,V0,Instr.loadAt,Sem.run_bind,Ya,Result.andThen_ok]
        exact Wr ht hagg g2
       ·rename_i hagg hsz
        obtain⟨hp,hlt,hK⟩:=hs
        obtain⟨e1,_⟩:=Zd hh hrd hp
        obtain⟨ad,cap,a1,cap1,g1,g2,g3,g4,g5⟩:=hh.mem.rou_cell (Zg hf) hlt
        have hm:=hh.mem.nameLines g4 g5
        have hput:=hh.put (Zi ρ S.nx _) (Nat.le_succ _) hm hd (v:=.one (.a (.ref S.nx))) (Nat.lt_succ_self _)
        have hden:(SV.one (.a (.ref S.nx))).den (Z9 ρ S.nx (.slice a1 (l.getD ii ([],[])).2.length cap1))= .slice a1 (l.getD ii ([],[])).2.length cap1:=by simp only[SV.den,S1.den,At.den,Zm]
        rw[hden]at hput
        refine Zr ?_ (hn _ _ _ _ (by refine⟨?_,?_⟩<;>first|exact Zi _ _ _|exact fun _ _=>rfl|simp[St.new,Yg]) hK hput)
        unfold execOp;simp only[ho]
        refine Y3 ?_
        rw[e1]
        simp only[S1.den,At.den,g1,V0,Instr.loadAt,Sem.run_bind,Ya,Result.andThen_ok]
        exact Wr ht hagg g3
       ·exact hs.elim
      ·exact hs.elim
     ·exact hs.elim
    ·exact hs.elim
   ·cases hc
 ·split at hc
  ·split at hc
   ·split at hc
    ·split at hc<;>cases hc;cases hs
    ·cases hc
   ·cases hc
  ·cases hc
 ·split at hc
  ·split at hc<;>cases hc;cases hs
  ·split at hc<;>cases hc;cases hs
  ·cases hc
 ·split at hc<;>cases hc;cases hs
 ·split at hc
  ·split at hc
   ·split at hc<;>cases hc;cases hs
   ·cases hc
  ·cases hc
 ·cases hc;cases hs
 ·split at hc
  ·split at hc
   ·split at hc
    ·split at hc<;>cases hc;cases hs
    ·cases hc
   ·cases hc
  ·split at hc
   ·split at hc
    ·split at hc<;>cases hc;cases hs
    ·cases hc
   ·cases hc
  ·cases hc
 · -- alloc
   rename_i E ho
   split at hc
   ·rename_i j hi
    split at hc
    ·rename_i z hz
     split at hc
     ·rename_i hok
      cases hc
      simp only[st]at hs
      have hbd:∀u∈z.cells.toList.map atV,u.bd S.nx:=fun u hu=>by
       obtain⟨x,hx,rfl⟩:=List.mem_map.1 hu
       exact Ii _ _ (List.all_eq_true.1 hok x hx)
      have hm:=hh.mem.newCells E hbd
      have hput:=hh.put (Zi ρ S.nx _) (Nat.le_succ _) hm hd (v:=.one (.a (.loc S.nx 0))) (Nat.lt_succ_self _)
      have hden:(SV.one (.a (.loc S.nx 0))).den (Z9 ρ S.nx (.pointer (some ⟨w.heap.size,0,none⟩)))= .pointer (some ⟨w.heap.size,0,none⟩):=by
       simp only[SV.den,S1.den,At.den,Zm,Wk]
      rw[hden]at hput
      refine Zr ?_ (hn _ _ _ _ (by refine⟨?_,?_⟩<;>first|exact Zi _ _ _|exact fun _ _=>rfl|simp[St.new,Yg]) hs hput)
      unfold execOp;simp only[ho]
      refine Y3 ?_
      unfold Instr.alloc
      simp only[Sem.run_bind,Wt hi hz,Result.andThen_ok,newVar,newRow,newObj,Sem.run,Sem.run_pure,Jq]
      rfl
     ·cases hc
    ·cases hc
   ·cases hc
 · -- box
   rename_i E x ho
   cases hc
   simp only[st]at hs
   split at hs
   ·rename_i p v hrd
    obtain⟨e1,hb⟩:=Zd hh hrd hs.1
    have hm:=hh.mem.newCells E (On hb)
    have hput:=hh.put (Zi ρ S.nx _) (Nat.le_succ _) hm hd (v:=.one (.a (.loc S.nx 0))) (Nat.lt_succ_self _)
    have hden:(SV.one (.a (.loc S.nx 0))).den (Z9 ρ S.nx (.pointer (some ⟨w.heap.size,0,none⟩)))= .pointer (some ⟨w.heap.size,0,none⟩):=by
     simp only[SV.den,S1.den,At.den,Zm,Wk]
    rw[hden]at hput
    refine Zr ?_ (hn _ _ _ _ (by refine⟨?_,?_⟩<;>first|exact Zi _ _ _|exact fun _ _=>rfl|simp[St.new,Yg]) hs.2 hput)
    unfold execOp;simp only[ho]
    refine Y3 ?_
    unfold Instr.box
    simp only[Sem.run_bind,Result.andThen_ok,newVar,newRow,newObj,Sem.run,Sem.run_pure,e1,Sx hh.mem.one hb]
    rfl
   ·exact hs.elim
 · -- store
   rename_i t x v ho
   split at hc
   ·rename_i j hi
    cases hc
    have fin:∀ {R':List (Nat×Res)} {w':World},(Instr.storeAt t (a.eval x) (a.eval v)).run c.P w= .ok () w'→Mem c ρ R' S.nx w'→K (St.put ⟨S.slots,R',S.nx⟩ o.dst noV)→o.wp c.P a w next Q:=by
     intro R' w' hrun hm hK
     refine Sq (w':=w') ?_ (hn _ ρ _ _ (by refine⟨?_,?_⟩<;>first|exact Zi _ _ _|exact fun _ _=>rfl|simp[St.new,Yg]) hK (by have:=hh.put (fun _ _=>rfl) (Nat.le_refl _) hm hd (Qj _);rwa [R6]at this))
     unfold execOp;simp only[ho,Sem.run_bind,hrun,Result.andThen_ok,Sem.run_pure]
    simp only[st]at hs
    split at hs
    ·rename_i p m oo q u h1 h2
     split at hs
     ·rename_i E l hf
      obtain⟨hp,hq,hlen,hK⟩:=hs
      obtain⟨e1,_⟩:=Zd hh h1 hp
      obtain⟨e2,hb⟩:=Zd hh h2 hq
      obtain⟨w',g1,g2⟩:=hh.cellsStore hf hi hb hlen
      exact fin (by rw[e1,e2];exact g1) g2 hK
     ·exact hs.elim
    ·rename_i p m sz ii jj q u h1 h2
     split at hs
     ·rename_i E k l hf
      split at hs
      ·rename_i hsz
       subst hsz
       split at hs
       ·rename_i y hy
        obtain⟨hp,hq,hlt,hlen,henc,hK⟩:=hs
        obtain⟨e1,_⟩:=Zd hh h1 hp
        obtain⟨e2,hb⟩:=Zd hh h2 hq
        obtain⟨w',g1,g2⟩:=hh.rowStore hf hi hb hlt hlen henc
        exact fin (by rw[e1,e2];exact g1) g2 hK
       ·exact hs.elim
      ·exact hs.elim
     ·rename_i E z e l hf
      split at hs
      ·rename_i hsz
       subst hsz
       obtain⟨hp,hq,hlen,hK⟩:=hs
       obtain⟨e1,_⟩:=Zd hh h1 hp
       obtain⟨e2,hb⟩:=Zd hh h2 hq
       obtain⟨w',g1,g2⟩:=hh.litStore (q:=0) hf hi hb hlen
       exact fin (by rw[e1,e2];exact g1) g2 hK
      ·exact hs.elim
     ·exact hs.elim
    ·exact hs.elim
   ·cases hc
 · -- buildSlice
   rename_i t m parts ho
   split at hc
   ·rename_i e ht
    split at hc
    ·rename_i j hi
     split at hc
     ·rename_i z hz
      split at hc
      ·rename_i h0
       cases hc
       simp only[st]at hs
       have hm:=hh.mem.newLit e j.size 0 (l:=[]) (fun u hu=>nomatch hu) (by simp)
       have hput:=hh.put (Zi ρ S.nx _) (Nat.le_succ _) hm hd (v:=.one (.a (.ref S.nx))) (Nat.lt_succ_self _)
       have hden:(SV.one (.a (.ref S.nx))).den (Z9 ρ S.nx (.slice (some ⟨w.heap.size,0,none⟩) 0 0))= .slice (some ⟨w.heap.size,0,none⟩) 0 0:=by
        simp only[SV.den,S1.den,At.den,Zm]
       rw[hden]at hput
       refine Zr ?_ (hn _ _ _ _ (by refine⟨?_,?_⟩<;>first|exact Zi _ _ _|exact fun _ _=>rfl|simp[St.new,Yg]) hs hput)
       unfold execOp;simp only[ho]
       refine Y3 ?_
       have e2:(parts.map fun(i,x)=>(i,a.eval x)).toList=[]:=by simp[h0.2]
       obtain⟨rfl,_⟩:=h0
       unfold Instr.buildSlice
       simp only[Sem.run_bind,run_underlying ht,Result.andThen_ok,sizeOf,typeInfo,program,Sem.run,hi,Sem.run_pure,Nat.zero_mul,if_true,e2]
       simp[Instr.fill,newRow,newObj,Sem.run_bind,Sem.run,Sem.run_pure,World.alloc_eq,Array.range_zero']
      rename_i h0
      split at hc
      ·rename_i hm'
       split at hc
       ·rename_i ps hps
        cases hc
        simp only[st]at hs
        split at hs
        ·rename_i p l hrd
         obtain⟨g1,g2,g3⟩:=bsl_run hh ht hi hz hm' hps hrd hs.1
         have hm:=hh.mem.newLit e j.size m g2 g3
         have hput:=hh.put (Zi ρ S.nx _) (Nat.le_succ _) hm hd (v:=.one (.a (.ref S.nx))) (Nat.lt_succ_self _)
         have hden:(SV.one (.a (.ref S.nx))).den (Z9 ρ S.nx (.slice (some ⟨w.heap.size,0,none⟩) m m))= .slice (some ⟨w.heap.size,0,none⟩) m m:=by
          simp only[SV.den,S1.den,At.den,Zm]
         rw[hden]at hput
         refine Zr ?_ (hn _ _ _ _ (by refine⟨?_,?_⟩<;>first|exact Zi _ _ _|exact fun _ _=>rfl|simp[St.new,Yg]) hs.2 hput)
         unfold execOp;simp only[ho]
         exact Y3 g1
        ·exact hs.elim
       ·cases hc
      ·cases hc
     ·cases hc
    ·cases hc
   ·cases hc
 · -- call
   rename_i cl ho
   split at hc
   ·rename_i f hcal
    split at hc
    ·rename_i fn hfn
     split at hc
     ·cases hc
     ·rename_i hnot
      cases hc
      simp only[st]at hs
      split at hs
      ·rename_i p vs hrd
       obtain⟨hp,hcall⟩:=hs
       have hargs:=Ue hh hrd hp
       have hrun:(execOp a.eval o).run c.P w= .ok (.enter f (vs.map (S1.den ρ)).toArray) w:=by
        have hargs':cl.args.map a.eval=(vs.map (S1.den ρ)).toArray:=by
         rw[←hargs,←Array.toList_map]
        simp only[Bool.or_eq_true,not_or,Bool.not_eq_true]at hnot
        unfold execOp
        simp only[ho,resolve,hcal,Act.eval,Deferred.ofValue,Sem.run_bind,Sem.run_pure,Result.andThen_ok,invoke,callFunc,program,Sem.run,hfn,hnot.1,hnot.2]
        simp[Sem.run_pure,hargs']
       unfold Oper.wp
       rw[hrun]
       refine(hcall ρ a w hh).mono ?_
       rintro e w' ⟨v,ρ',S',hext,rfl,hvb,hS',hK⟩
       exact hn _ _ _ _ (hext.put _ _) hK (hS'.put_same hd hvb)
      ·exact hs.elim
    ·cases hc
   · -- a function value
     rename_i t hcal
     cases hc
     have enter:∀ {f:Nat} {first args:Array Value},a.eval (.tmp t)= .func (.func f) #[] first→Xu c.P f=true→cl.args.map a.eval=args→(execOp a.eval o).run c.P w= .ok (.enter f (args++first)) w:=by
      intro f first args h1 h2 h3
      unfold Xu at h2
      split at h2
      ·rename_i fn hfn
       simp only[Bool.not_eq_true',Bool.or_eq_false_iff]at h2
       unfold execOp
       simp only[ho,resolve,hcal,h1,h3,Deferred.ofValue,Sem.run_bind,Sem.run_pure,Result.andThen_ok,invoke,callFunc,program,Sem.run,hfn,h2.1,h2.2,Array.empty_append]
       simp[Sem.run_pure]
      ·cases h2
     simp only[st]at hs
     split at hs
     ·rename_i p f ms q vs hrx hrd
      obtain⟨hp,hq,hent,hcall⟩:=hs
      obtain⟨e1,_⟩:=Zd hh hrx hp
      have hargs:=Ue hh hrd hq
      have hargs':cl.args.map a.eval=(vs.map (S1.den ρ)).toArray:=by
       rw[←hargs,←Array.toList_map]
      have hrun:=enter e1 hent hargs'
      unfold Oper.wp
      rw[hrun]
      have e2:(vs.map (S1.den ρ)).toArray++(ms.map fun m=>Wk (ρ m) 0).toArray=((vs++ms.map fun m=>S1.a (.loc m 0)).map (S1.den ρ)).toArray:=by
       simp only[List.map_append,List.map_map,List.append_toArray];rfl
      rw[e2]
      refine(hcall ρ a w hh).mono ?_
      rintro e w' ⟨v,ρ',S',hext,rfl,hvb,hS',hK⟩
      exact hn _ _ _ _ (hext.put _ _) hK (hS'.put_same hd hvb)
     ·rename_i p m q vs hrx hrd
      split at hs
      ·rename_i P g hf
       split at hs
       ·rename_i r hr
        obtain⟨hp,hq,rfl,hb,hrb,hK⟩:=hs
        obtain⟨e1,_⟩:=Zd hh hrx hp
        have hargs:=Ue hh hrd hq
        have hargs':cl.args.map a.eval=(vs.map (S1.den fun _=>Yz)).toArray:=by
         rw[←Ff (Ng hb),←hargs,←Array.toList_map]
        obtain⟨f,cap,⟨g1,g2⟩,g3⟩:=hh.mem.res m _ (Zg hf) w (fun b o hbo _=>hbo)
        have hrun:=enter (by rw[e1];exact g1) g2 hargs'
        unfold Oper.wp
        rw[hrun]
        refine(g3 vs r hr).mono ?_
        rintro e w' ⟨rfl,hbl⟩
        have hput:=(hh.below hbl).put_same hd (v:=r) (SV.bd_mono (Nat.zero_le _) hrb)
        rw[SV.den_same (nx:=0) (ρ:=fun _=>Yz) (ρ':=ρ) (fun n hn=>by omega) hrb]at hput
        exact hn _ _ _ _ (by refine⟨?_,?_⟩<;>first|exact Zi _ _ _|exact fun _ _=>rfl|simp[St.new,Yg]) hK hput
       ·exact hs.elim
      ·exact hs.elim
     ·exact hs.elim
   ·split at hc
    ·split at hc<;>cases hc<;>cases hs
    ·cases hc
   ·split at hc
    ·rename_i hcal _ _ x y t u hx ht'
     split at hc
     ·rename_i htu
      subst htu
      split at hc
      ·rename_i E ht
       split at hc
       ·rename_i j hi
        split at hc
        ·rename_i z hz
         split at hc
         ·rename_i hzz
          cases hc
          have ea:cl.args= #[x,y]:=by rw[←hx]
          have et:cl.argTypes= #[t,t]:=by rw[←ht']
          simp only[st]at hs
          split at hs
          ·rename_i p m q uu h1 h2
           split at hs
           ·rename_i E' k l hf
            split at hs
            ·rename_i hE
             obtain⟨rfl,hsz⟩:=hE
             split at hs
             ·rename_i r l' ds happ
              obtain⟨hp,hq,hr,hdm,hby,hK⟩:=hs
              obtain⟨e1,_⟩:=Zd hh h1 hp
              obtain⟨e2,_⟩:=Zd hh h2 hq
              obtain⟨v,w',g1,g2⟩:=hh.append (ty:=o.type) hf ht hi hz hzz.1 hsz happ hr hby
              have hput:=hh.put (Zi ρ S.nx v) (Nat.le_succ _) g2 hd (v:=.one (.a (.ref S.nx))) (Nat.lt_succ_self _)
              have hden:(SV.one (.a (.ref S.nx))).den (Z9 ρ S.nx v)=v:=by simp only[SV.den,S1.den,At.den,Zm]
              rw[hden]at hput
              refine Zr ?_ (hn _ _ _ _ (by refine⟨?_,?_⟩<;>first|exact Zi _ _ _|exact fun _ _=>rfl|simp[St.new,Yg]) hK hput)
              unfold execOp
              simp only[ho,resolve,hcal,ea,et,Sem.run_bind,Sem.run_pure,Result.andThen_ok,invoke,builtin,List.map_toArray,List.map_cons,List.map_nil,e1,e2,g1]
             ·exact hs.elim
            ·exact hs.elim
           ·rename_i E' z0 hf
            split at hs
            ·rename_i hE
             obtain⟨rfl,hz0⟩:=hE
             split at hs
             ·rename_i k l' happ
              obtain⟨hsz,hp,hq,hby,hK⟩:=hs
              obtain⟨e1,_⟩:=Zd hh h1 hp
              obtain⟨e2,_⟩:=Zd hh h2 hq
              have hh2:=hh.litRow hf k [] rfl rfl (by rw[hz0];exact hsz) (by decide)
              have hf2:(St.mk S.slots (upd S.res m (.row E' k [])) S.nx).find m=some (.row E' k []):=by simp[St.find,upd,Zo]
              have happ2:Y1 (St.mk S.slots (upd S.res m (.row E' k [])) S.nx) E' j.size k uu=some (True,l',[]):=by
               unfold Sw at happ
               split at happ
               ·rename_i m2 _
                have hfind:m2≠m→(St.mk S.slots (upd S.res m (.row E' k [])) S.nx).find m2=S.find m2:=fun hne=>by
                 simp only[St.find,upd,Zo]
                 rw[if_neg (fun e=>hne e.symm),Bl (by simpa using hne)]
                have hne:∀ {r},S.find m2=some r→(∀a b c d,r≠ .lit a b c d)→m2≠m:=fun hr hnl e=>by
                 rw[e,hf]at hr;cases hr;exact hnl _ _ _ _ rfl
                split at happ
                ·rename_i k2 l2 hf3
                 cases happ
                 simp only[Y1,hfind (hne hf3 (by simp)),hf3,Iq]
                ·rename_i E3 k2 l2 hf3
                 cases happ
                 simp only[Y1,hfind (hne hf3 (by simp)),hf3,Iq]
                ·cases happ
               ·cases happ
              obtain⟨v,w',g1,g2⟩:=hh2.append (ty:=o.type) hf2 ht hi hz hzz.1 hsz happ2 trivial (by simpa using hby)
              simp only[del_upd,List.nil_append]at g2
              have hput:=hh.put (Zi ρ S.nx v) (Nat.le_succ _) g2 hd (v:=.one (.a (.ref S.nx))) (Nat.lt_succ_self _)
              have hden:(SV.one (.a (.ref S.nx))).den (Z9 ρ S.nx v)=v:=by simp only[SV.den,S1.den,At.den,Zm]
              rw[hden]at hput
              refine Zr ?_ (hn _ _ _ _ (by refine⟨?_,?_⟩<;>first|exact Zi _ _ _|exact fun _ _=>rfl|simp[St.new,Yg]) hK hput)
              unfold execOp
              simp only[ho,resolve,hcal,ea,et,Sem.run_bind,Sem.run_pure,Result.andThen_ok,invoke,builtin,List.map_toArray,List.map_cons,List.map_nil,e1,e2,g1]
             ·split at hs
              ·rename_i l' ds happ
               obtain⟨hsz,hp,hq,hby,hK⟩:=hs
               obtain⟨e1,_⟩:=Zd hh h1 hp
               obtain⟨e2,_⟩:=Zd hh h2 hq
               obtain⟨v,w',g1,g2⟩:=hh.appUnits (ty:=o.type) (l:=[]) (us0:=[]) (Zg hf) rfl rfl (by have:=hh.lit0 (m:=m) (E:=E') (by rw[hf,hz0,hsz]);exact this) (fun i u x hu=>by simp at hu) ht hi hz hzz.1 hsz happ (by simpa using hby)
               simp only[List.nil_append]at g2
               have hput:=hh.put (Zi ρ S.nx v) (Nat.le_succ _) g2 hd (v:=.one (.a (.ref S.nx))) (Nat.lt_succ_self _)
               have hden:(SV.one (.a (.ref S.nx))).den (Z9 ρ S.nx v)=v:=by simp only[SV.den,S1.den,At.den,Zm]
               rw[hden]at hput
               refine Zr ?_ (hn _ _ _ _ (by refine⟨?_,?_⟩<;>first|exact Zi _ _ _|exact fun _ _=>rfl|simp[St.new,Yg]) hK hput)
               unfold execOp
               simp only[ho,resolve,hcal,ea,et,Sem.run_bind,Sem.run_pure,Result.andThen_ok,invoke,builtin,List.map_toArray,List.map_cons,List.map_nil,e1,e2,g1]
              ·exact hs.elim
            ·exact hs.elim
           ·rename_i base E' l hf
            split at hs
            ·rename_i hE
             obtain⟨rfl,hsz⟩:=hE
             split at hs
             ·rename_i l' ds happ
              obtain⟨hp,hq,hby,hK⟩:=hs
              obtain⟨e1,_⟩:=Zd hh h1 hp
              obtain⟨e2,_⟩:=Zd hh h2 hq
              obtain⟨us0,k1,k2,k3⟩:=hh.mem.urow_own (Zg hf)
              obtain⟨v,w',g1,g2⟩:=hh.appUnits (ty:=o.type) (Zg hf) rfl k1 k2 k3 ht hi hz hzz.1 hsz happ hby
              have hput:=hh.put (Zi ρ S.nx v) (Nat.le_succ _) g2 hd (v:=.one (.a (.ref S.nx))) (Nat.lt_succ_self _)
              have hden:(SV.one (.a (.ref S.nx))).den (Z9 ρ S.nx v)=v:=by simp only[SV.den,S1.den,At.den,Zm]
              rw[hden]at hput
              refine Zr ?_ (hn _ _ _ _ (by refine⟨?_,?_⟩<;>first|exact Zi _ _ _|exact fun _ _=>rfl|simp[St.new,Yg]) hK hput)
              unfold execOp
              simp only[ho,resolve,hcal,ea,et,Sem.run_bind,Sem.run_pure,Result.andThen_ok,invoke,builtin,List.map_toArray,List.map_cons,List.map_nil,e1,e2,g1]
             ·split at hs
              ·rename_i s0 ls0 q0 r0 happ
               obtain⟨hp,hq,⟨hbase,hrm⟩,hby,hK⟩:=hs
               obtain⟨e1,_⟩:=Zd hh h1 hp
               obtain⟨e2,_⟩:=Zd hh h2 hq
               obtain⟨v,w',g1,g2⟩:=hh.appUnitR (ty:=o.type) (Zg hf) hbase ht hi hz hzz.1 hsz happ hrm hby
               have hput:=hh.put (Zi ρ S.nx v) (Nat.le_succ _) g2 hd (v:=.one (.a (.ref S.nx))) (Nat.lt_succ_self _)
               have hden:(SV.one (.a (.ref S.nx))).den (Z9 ρ S.nx v)=v:=by simp only[SV.den,S1.den,At.den,Zm]
               rw[hden]at hput
               refine Zr ?_ (hn _ _ _ _ (by refine⟨?_,?_⟩<;>first|exact Zi _ _ _|exact fun _ _=>rfl|simp[St.new,Yg]) hK hput)
               unfold execOp
               simp only[ho,resolve,hcal,ea,et,Sem.run_bind,Sem.run_pure,Result.andThen_ok,invoke,builtin,List.map_toArray,List.map_cons,List.map_nil,e1,e2,g1]
              ·exact hs.elim
            ·exact hs.elim
           ·rename_i m1 o1 n1 hf
            split at hs
            ·rename_i hsz
             split at hs
             ·rename_i EA l hf1
              split at hs
              ·rename_i xs r l' ds hx happ
               obtain⟨hp,hq,hr,hon,h0,hby,hK⟩:=hs
               obtain⟨e1,_⟩:=Zd hh h1 hp
               obtain⟨e2,_⟩:=Zd hh h2 hq
               obtain⟨v,w',g1,g2⟩:=hh.appendArr (ty:=o.type) hf hf1 hx hon ht hi hz hzz.1 hsz happ hr h0 hby
               have hput:=hh.put (Zi ρ S.nx v) (Nat.le_succ _) g2 hd (v:=.one (.a (.ref S.nx))) (Nat.lt_succ_self _)
               have hden:(SV.one (.a (.ref S.nx))).den (Z9 ρ S.nx v)=v:=by simp only[SV.den,S1.den,At.den,Zm]
               rw[hden]at hput
               refine Zr ?_ (hn _ _ _ _ (by refine⟨?_,?_⟩<;>first|exact Zi _ _ _|exact fun _ _=>rfl|simp[St.new,Yg]) hK hput)
               unfold execOp
               simp only[ho,resolve,hcal,ea,et,Sem.run_bind,Sem.run_pure,Result.andThen_ok,invoke,builtin,List.map_toArray,List.map_cons,List.map_nil,e1,e2,g1]
              ·exact hs.elim
             ·exact hs.elim
            ·exact hs.elim
           ·exact hs.elim
          ·rename_i p q uu h1 h2
           split at hs
           ·rename_i k hk
            split at hs
            ·rename_i hsz
             split at hs
             ·rename_i r l' ds happ
              obtain⟨hp,hq,hr,hby,hK⟩:=hs
              obtain⟨e1,_⟩:=Zd hh h1 hp
              obtain⟨e2,_⟩:=Zd hh h2 hq
              obtain⟨v,w',g1,g2⟩:=hh.append0 (ty:=o.type) ht hi hz hzz.1 hsz happ hr hby
              have hput:=hh.put (Zi ρ S.nx v) (Nat.le_succ _) g2 hd (v:=.one (.a (.ref S.nx))) (Nat.lt_succ_self _)
              have hden:(SV.one (.a (.ref S.nx))).den (Z9 ρ S.nx v)=v:=by simp only[SV.den,S1.den,At.den,Zm]
              rw[hden]at hput
              refine Zr ?_ (hn _ _ _ _ (by refine⟨?_,?_⟩<;>first|exact Zi _ _ _|exact fun _ _=>rfl|simp[St.new,Yg]) hK hput)
              have e1':a.eval x=_:=e1
              have e2':a.eval y=_:=e2
              unfold execOp
              simp only[ho,resolve,hcal,ea,et,Sem.run_bind,Sem.run_pure,Result.andThen_ok,invoke,builtin,List.map_toArray,List.map_cons,List.map_nil,e1',e2']
              simp only[S1.den,At.den]at g1 ⊢
              rw[g1]
              rfl
             ·exact hs.elim
            ·exact hs.elim
           ·exact hs.elim
          ·exact hs.elim
         ·cases hc
        ·cases hc
       ·cases hc
      ·cases hc
     ·rename_i htu
      split at hc
      ·rename_i E htT htU
       split at hc
       ·rename_i j hi
        split at hc
        ·rename_i n0 hz
         split at hc
         ·rename_i hzz
          obtain⟨rfl,hz1,hz2⟩:=hzz
          cases hc
          have ea:cl.args= #[x,y]:=by rw[←hx]
          have et:cl.argTypes= #[t,u]:=by rw[←ht']
          simp only[st]at hs
          split at hs
          ·rename_i p m q s h1 h2
           split at hs
           ·rename_i E' l hf
            split at hs
            ·rename_i hE
             subst hE
             obtain⟨hp,hq,hby,hK⟩:=hs
             obtain⟨e1,_⟩:=Zd hh h1 hp
             obtain⟨e2,_⟩:=Zd hh h2 hq
             obtain⟨v,w',g1,g2⟩:=hh.appendS (ty:=o.type) hf s htT htU hi hz hz1 hz2 hby
             have hput:=hh.put (Zi ρ S.nx v) (Nat.le_succ _) g2 hd (v:=.one (.a (.ref S.nx))) (Nat.lt_succ_self _)
             have hden:(SV.one (.a (.ref S.nx))).den (Z9 ρ S.nx v)=v:=by simp only[SV.den,S1.den,At.den,Zm]
             rw[hden]at hput
             refine Zr ?_ (hn _ _ _ _ (by refine⟨?_,?_⟩<;>first|exact Zi _ _ _|exact fun _ _=>rfl|simp[St.new,Yg]) hK hput)
             have e1':a.eval x=_:=e1
             have e2':a.eval y=_:=e2
             unfold execOp
             simp only[ho,resolve,hcal,ea,et,Sem.run_bind,Sem.run_pure,Result.andThen_ok,invoke,builtin,List.map_toArray,List.map_cons,List.map_nil,e1',e2']
             simp only[S1.den,At.den]at g1 ⊢
             rw[g1]
             rfl
            ·exact hs.elim
           ·exact hs.elim
          ·rename_i p q s h1 h2
           obtain⟨hp,hq,hby,hK⟩:=hs
           obtain⟨e1,_⟩:=Zd hh h1 hp
           obtain⟨e2,_⟩:=Zd hh h2 hq
           obtain⟨v,w',g1,g2⟩:=hh.appendS0 (ty:=o.type) s htT htU hi hz hz1 hz2 hby
           have hput:=hh.put (Zi ρ S.nx v) (Nat.le_succ _) g2 hd (v:=.one (.a (.ref S.nx))) (Nat.lt_succ_self _)
           have hden:(SV.one (.a (.ref S.nx))).den (Z9 ρ S.nx v)=v:=by simp only[SV.den,S1.den,At.den,Zm]
           rw[hden]at hput
           refine Zr ?_ (hn _ _ _ _ (by refine⟨?_,?_⟩<;>first|exact Zi _ _ _|exact fun _ _=>rfl|simp[St.new,Yg]) hK hput)
           have e1':a.eval x=_:=e1
           have e2':a.eval y=_:=e2
           unfold execOp
           simp only[ho,resolve,hcal,ea,et,Sem.run_bind,Sem.run_pure,Result.andThen_ok,invoke,builtin,List.map_toArray,List.map_cons,List.map_nil,e1',e2']
           simp only[S1.den,At.den]at g1 ⊢
           rw[g1]
           rfl
          ·exact hs.elim
         ·cases hc
        ·cases hc
       ·cases hc
      ·split at hc<;>cases hc;cases hs
      ·cases hc
    ·cases hc
   ·rename_i hcal
    split at hc
    ·rename_i x y T r hx ht'
     split at hc
     ·rename_i e ht
      split at hc
      ·rename_i j hi
       cases hc
       have ea:cl.args= #[x,y]:=by rw[←hx]
       have et:cl.argTypes[0]? =some T:=by rw[←Array.getElem?_toList,ht'];rfl
       simp only[st]at hs
       split at hs
       ·rename_i p m q uu h1 h2
        split at hs
        ·rename_i m0 lo hi' hcd
         split at hs
         ·rename_i E' k l hf
          split at hs
          ·rename_i hE
           obtain⟨rfl,hsz⟩:=hE
           split at hs
           ·rename_i rr l' ds happ
            obtain⟨hp,hq,hr,hle,hK⟩:=hs
            obtain⟨e1,_⟩:=Zd hh h1 hp
            obtain⟨e2,_⟩:=Zd hh h2 hq
            obtain⟨w',g1,g2⟩:=hh.copyRow (ty:=o.type) hcd hf hsz hle et ht hi rfl happ hr
            have hput:=hh.put (fun _ _=>rfl) (Nat.le_refl _) g2 hd (v:=.one (.a (.int .i64 ((min l'.length (hi'-lo):Nat):Int)))) trivial
            refine Zr ?_ (hn _ _ _ _ (by refine⟨?_,?_⟩<;>first|exact Zi _ _ _|exact fun _ _=>rfl|simp[St.new,Yg]) hK hput)
            have e1':a.eval x=_:=e1
            have e2':a.eval y=_:=e2
            unfold execOp
            simp only[ho,resolve,hcal,ea,Sem.run_bind,Sem.run_pure,Result.andThen_ok,invoke,builtin,List.map_toArray,List.map_cons,List.map_nil,e1',e2']
            simp only[S1.den,At.den,SV.den]at g1 ⊢
            rw[g1]
            rfl
           ·exact hs.elim
          ·exact hs.elim
         ·exact hs.elim
        ·exact hs.elim
       ·exact hs.elim
      ·cases hc
     ·cases hc
    ·cases hc
   ·cases hc
 · -- a part of a slice
   rename_i t x lo hi mx ho
   split at hc
   ·cases hc;cases hs
   ·rename_i e ht
    split at hc
    ·rename_i j hj
     cases hc
     simp only[st]at hs
     split at hs
     ·rename_i p m hrx
      split at hs
      ·rename_i g m0 a0 b0 hsrc
       split at hs
       ·rename_i q l r h hl hh2
        obtain⟨hp,hg,hq,hr,h0,h1,h2,hK⟩:=hs
        obtain⟨e1,_⟩:=Zd hh hrx hp
        have bd:∀ {dflt:Int} {y:Option Operand} {q:Prop} {n:Int},F7 S dflt (y.map opd)=some (q,n)→q→(y=none∧n=dflt)∨∃z k,y=some z∧a.eval z= .int k n:=by
         intro dflt y q n hy hq
         cases y with
         |none=>simp only[Option.map_none,F7]at hy;cases hy;exact .inl ⟨rfl,rfl⟩
         |some z=>
          simp only[Option.map_some,F7]at hy
          split at hy
          ·rename_i p1 k n1 hrd
           cases hy
           obtain⟨e2,_⟩:=Zd hh hrd hq
           exact .inr ⟨z,k,rfl,e2⟩
          ·cases hy
        have hlt:((l.toNat:Nat):Int)=l:=Int.toNat_of_nonneg h0
        have hht:((h.toNat:Nat):Int)=h:=Int.toNat_of_nonneg (by omega)
        obtain⟨v,g1,g2⟩:=hh.newView ht hj hsrc hg (lo.map a.eval) (hi.map a.eval) l.toNat h.toNat
         (by rcases bd hl hq with⟨rfl,rfl⟩|⟨z,k,rfl,hz⟩
             ·exact .inl ⟨rfl,rfl⟩
             ·exact .inr ⟨k,by simp only[Option.map_some,hz,hlt]⟩)
         (by rcases bd hh2 hr with⟨rfl,rfl⟩|⟨z,k,rfl,hz⟩
             ·exact .inl ⟨rfl,by simp⟩
             ·exact .inr ⟨k,by simp only[Option.map_some,hz,hht]⟩) (by omega) (by omega)
        have hput:=hh.put (Zi ρ S.nx v) (Nat.le_succ _) g2 hd (v:=.one (.a (.ref S.nx))) (Nat.lt_succ_self _)
        have hden:(SV.one (.a (.ref S.nx))).den (Z9 ρ S.nx v)=v:=by simp only[SV.den,S1.den,At.den,Zm]
        rw[hden]at hput
        refine Zr ?_ (hn _ _ _ _ (by refine⟨?_,?_⟩<;>first|exact Zi _ _ _|exact fun _ _=>rfl|simp[St.new,Yg]) hK hput)
        unfold execOp;simp only[ho]
        refine Y3 ?_
        rw[e1]
        unfold Instr.sliceAt
        simp only[Sem.run_bind,run_underlying ht,Result.andThen_ok]
        exact g1
       ·exact hs.elim
      ·exact hs.elim
     ·exact hs.elim
    ·cases hc
   ·rename_i n e ht
    split at hc
    ·rename_i j hj
     split at hc
     ·rename_i hsz
      cases hc
      simp only[st]at hs
      split at hs
      ·rename_i p m oo hrx
       split at hs
       ·rename_i E l hf
        obtain⟨hp,hK⟩:=hs
        obtain⟨e1,_⟩:=Zd hh hrx hp
        obtain⟨b,hv,hb⟩:=hh.mem.res m _ (Zg hf)
        have g2:=hh.mem.newArr (Zg hf) (o:=oo) (n:=n) hv
        have hput:=hh.put (Zi ρ S.nx _) (Nat.le_succ _) g2 hd (v:=.one (.a (.ref S.nx))) (Nat.lt_succ_self _)
        have hden:(SV.one (.a (.ref S.nx))).den (Z9 ρ S.nx (.slice (some ⟨b,oo,none⟩) n n))= .slice (some ⟨b,oo,none⟩) n n:=by simp only[SV.den,S1.den,At.den,Zm]
        rw[hden]at hput
        refine Zr ?_ (hn _ _ _ _ (by refine⟨?_,?_⟩<;>first|exact Zi _ _ _|exact fun _ _=>rfl|simp[St.new,Yg]) hK hput)
        unfold execOp;simp only[ho]
        refine Y3 ?_
        rw[e1]
        simp only[S1.den,At.den,hv,Wk,Nat.zero_add]
        exact slA_run ht hj w b oo
       ·exact hs.elim
      ·exact hs.elim
     ·cases hc
    ·cases hc
   ·cases hc
 · -- a new slice
   rename_i t x y ho
   split at hc
   ·rename_i e ht
    split at hc
    ·rename_i k j hk hj
     split at hc
     ·rename_i hsz
      cases hc
      simp only[st]at hs
      split at hs
      ·rename_i p kl n q kc n' h1 h2
       obtain⟨hp,hq,rfl,h0,hb,hmax,hK⟩:=hs
       obtain⟨e1,_⟩:=Zd hh h1 hp
       obtain⟨e2,_⟩:=Zd hh h2 hq
       obtain⟨n,rfl⟩:=Int.eq_ofNat_of_zero_le h0
       have hb':j.bytes*n≤281474976710656:=by
        have:((j.bytes*n:Nat):Int)≤281474976710656:=by rw[Int.natCast_mul];exact hb
        omega
       obtain⟨v,w',g1,g2⟩:=hh.mem.newMade ht hk hj hsz.1 hsz.2 kl kc n hb' (by omega)
       simp only[Int.toNat_natCast]at hK
       have hput:=hh.put (Zi ρ S.nx v) (Nat.le_succ _) g2 hd (v:=.one (.a (.ref S.nx))) (Nat.lt_succ_self _)
       have hden:(SV.one (.a (.ref S.nx))).den (Z9 ρ S.nx v)=v:=by simp only[SV.den,S1.den,At.den,Zm]
       rw[hden]at hput
       refine Zr ?_ (hn _ _ _ _ (by refine⟨?_,?_⟩<;>first|exact Zi _ _ _|exact fun _ _=>rfl|simp[St.new,Yg]) hK hput)
       unfold execOp;simp only[ho]
       refine Y3 ?_
       have e1':a.eval x= .int kl (n:Int):=e1
       have e2':a.eval y= .int kc (n:Int):=e2
       rw[e1',e2']
       exact g1
      ·exact hs.elim
     ·cases hc
    ·cases hc
   ·cases hc
 · -- a function with what it captures
   split at hc
   ·split at hc
    ·cases hc;cases hs
    ·cases hc
   ·cases hc
 · -- a new map
   rename_i t r ho
   split at hc
   ·rename_i M E ht
    split at hc
    ·rename_i k hk
     cases hc
     simp only[st]at hs
     obtain⟨_,hK⟩:=hs
     have hm:=hh.mem.newMap c.P M E k
     have hput:=hh.put (Zi ρ S.nx _) (Nat.le_succ _) hm hd (v:=.one (.a (.ref S.nx))) (Nat.lt_succ_self _)
     have hden:(SV.one (.a (.ref S.nx))).den (Z9 ρ S.nx (.map (some w.heap.size)))= .map (some w.heap.size):=by simp only[SV.den,S1.den,At.den,Zm]
     rw[hden]at hput
     refine Zr ?_ (hn _ _ _ _ (by refine⟨?_,?_⟩<;>first|exact Zi _ _ _|exact fun _ _=>rfl|simp[St.new,Yg]) hK hput)
     unfold execOp;simp only[ho]
     refine Y3 ?_
     simp[Instr.makeMap,newObj,Sem.run_bind,Sem.run,Sem.run_pure,World.alloc_eq]
    ·cases hc
   ·cases hc
 · -- a Zo into a map
   split at hc
   ·split at hc
    ·cases hc;cases hs
    ·cases hc
   ·cases hc
 · -- a store into a map
   rename_i t x i' v ho
   split at hc
   ·rename_i M E ht
    split at hc
    ·rename_i k hk
     cases hc
     simp only[st]at hs
     split at hs
     ·rename_i p m q s r u h1 h2 h3
      split at hs
      ·rename_i P' M' E' k' f n hf
       split at hs
       ·rename_i hME
        obtain⟨rfl,rfl⟩:=hME
        split at hs
        ·rename_i y hy
         obtain⟨hp,hq,hr,⟨rfl,rfl⟩,hsl,hnn,hwf,hK⟩:=hs
         obtain⟨e1,_⟩:=Zd hh h1 hp
         obtain⟨e2,_⟩:=Zd hh h2 hq
         obtain⟨e3,_⟩:=Zd hh h3 hr
         obtain⟨w',g1,g2⟩:=hh.mem.updMap (Zg hf) hk ht s hsl hnn hwf
         refine Sq (w':=w') ?_ (hn _ ρ _ _ (by refine⟨?_,?_⟩<;>first|exact Zi _ _ _|exact fun _ _=>rfl|simp[St.new,Yg]) hK (by have:=hh.put (fun _ _=>rfl) (Nat.le_refl _) g2 hd (Qj _);rwa [R6]at this))
         unfold execOp;simp only[ho]
         have e3':a.eval v=valK k' y:=by rw[e3];exact unK_den ρ hy
         have e1':a.eval x=ρ m:=e1
         have e2':a.eval i'= .string ⟨s.toArray⟩:=e2
         simp only[e1',e2',e3',Sem.run_bind,g1,Result.andThen_ok,Sem.run_pure]
        ·exact hs.elim
       ·exact hs.elim
      ·exact hs.elim
     ·exact hs.elim
    ·cases hc
   ·cases hc
 ·cases hc;cases hs
 ·cases hc
theorem Zg0{c:Cx}{S:St}{ρ:Env}{a:Act}{w:World}(hh:S.holds c ρ a w){o:Oper}{i:I}(hc:Gy c.P o=some i)(hd:∀t,o.dst=some t→t<c.nt){K:St→Prop}(hs:st c S o.dst i K)
 {next:Act→World→Prop}{Q:Exit→Act→World→Prop}(hn:∀S' ρ' a' w',Ext S ρ S' ρ'→K S'→S'.holds c ρ' a' w'→next a' w'):o.wp c.P a w next Q:=by
 unfold Gy at hc
 split at hc
 · -- a new map
   rename_i t ho
   split at hc
   ·cases hc
    simp only[st]at hs
    have hm:=hh.mem.newFm
    have hput:=hh.put (Zi ρ S.nx _) (Nat.le_succ _) hm hd (v:=.one (.a (.ref S.nx))) (Nat.lt_succ_self _)
    have hden:(SV.one (.a (.ref S.nx))).den (Z9 ρ S.nx (.map (some w.heap.size)))= .map (some w.heap.size):=by simp only[SV.den,S1.den,At.den,Zm]
    rw[hden]at hput
    refine Zr ?_ (hn _ _ _ _ (by refine⟨?_,?_⟩<;>first|exact Zi _ _ _|exact fun _ _=>rfl|simp[St.new,Yg]) hs hput)
    unfold execOp;simp only[ho]
    refine Y3 ?_
    simp[Instr.makeMap,newObj,Sem.run_bind,Sem.run,Sem.run_pure,World.alloc_eq]
   ·cases hc
 · -- a Zo
   rename_i t x y ok ho
   split at hc
   ·rename_i hsk
    cases hc
    simp only[st]at hs
    split at hs
    ·rename_i p m q s h1 h2
     split at hs
     ·rename_i l hf
      split at hs
      ·rename_i f hlk
       obtain⟨hp,hq,hsl,hK⟩:=hs
       obtain⟨e1,_⟩:=Zd hh h1 hp
       obtain⟨e2,_⟩:=Zd hh h2 hq
       obtain⟨b,hv,hb,hl,hdd⟩:=hh.mem.res m _ (Zg hf)
       have hrun:=fm_look hsk hb hl hdd hlk ok hsl
       have hput:=hh.put (fun _ _=>rfl) (Nat.le_refl _) hh.mem hd (v:=if ok then .tup [.a (.clo f []),.a (.bool true)]else .one (.a (.clo f []))) (by cases ok<;>simp[SV.bd,S1.bd,At.bd])
       refine Zr ?_ (hn _ ρ _ _ (by refine⟨?_,?_⟩<;>first|exact fun _ _=>rfl|simp[Yg]) hK hput)
       unfold execOp;simp only[ho]
       refine Y3 ?_
       have e1':a.eval x= .map (some b):=e1.trans hv
       have e2':a.eval y= .string ⟨s.toArray⟩:=e2
       rw[e1',e2',hrun]
       cases ok<;>rfl
      ·exact hs.elim
     ·exact hs.elim
    ·exact hs.elim
   ·cases hc
 · -- a store
   rename_i t x y v ho
   split at hc
   ·rename_i hsk
    cases hc
    simp only[st]at hs
    split at hs
    ·rename_i p m q s r u h1 h2 h3
     split at hs
     ·rename_i l g f hf hfn
      obtain⟨hp,hq,hr,hgg,hnew,hsl,hK⟩:=hs
      obtain⟨e1,_⟩:=Zd hh h1 hp
      obtain⟨e2,_⟩:=Zd hh h2 hq
      obtain⟨e3,_⟩:=Zd hh h3 hr
      obtain⟨w',g1,g2⟩:=hh.mem.updFm (Zg hf) hsk s f hsl hnew
      have hput:=hh.put (fun _ _=>rfl) (Nat.le_refl _) g2 hd (v:=noV) (Qj _)
      refine Sq (w':=w') ?_ (hn _ ρ _ _ (by refine⟨?_,?_⟩<;>first|exact fun _ _=>rfl|simp[Yg]) hK (by rw[R6]at hput;exact hput))
      unfold execOp;simp only[ho]
      have e1':a.eval x=ρ m:=e1
      have e2':a.eval y= .string ⟨s.toArray⟩:=e2
      have e3':a.eval v= .func (.func f) #[] #[]:=e3.trans (C4 hfn hgg ρ)
      simp only[e1',e2',e3',Sem.run_bind,g1,Result.andThen_ok,Sem.run_pure]
     ·exact hs.elim
    ·exact hs.elim
   ·cases hc
 · -- a loop over a map begins
   rename_i t x ho
   split at hc
   ·rename_i hsk
    cases hc
    simp only[st]at hs
    split at hs
    ·rename_i p m h1
     split at hs
     ·rename_i l hf
      obtain⟨hp,hK⟩:=hs
      obtain⟨e1,_⟩:=Zd hh h1 hp
      obtain⟨v,w',g1,g2⟩:=hh.mem.rngFm (Zg hf) hsk
      have hput:=hh.put (Zi ρ S.nx v) (Nat.le_succ _) g2 hd (v:=.one (.a (.ref S.nx))) (Nat.lt_succ_self _)
      have hden:(SV.one (.a (.ref S.nx))).den (Z9 ρ S.nx v)=v:=by simp only[SV.den,S1.den,At.den,Zm]
      rw[hden]at hput
      refine Zr ?_ (hn _ _ _ _ (by refine⟨?_,?_⟩<;>first|exact Zi _ _ _|exact fun _ _=>rfl|simp[St.new,Yg]) hK hput)
      unfold execOp;simp only[ho]
      refine Y3 ?_
      have e1':a.eval x=ρ m:=e1
      rw[e1']
      exact g1
     ·exact hs.elim
    ·exact hs.elim
   ·cases hc
 · -- a store of a map's first entries
   rename_i t x y v ho
   split at hc
   ·rename_i hsk
    cases hc
    simp only[st]at hs
    split at hs
    ·rename_i p m q s r u h1 h2 h3
     split at hs
     ·rename_i l g f hf hfn
      obtain⟨hp,hq,hr,hgg,hnew,hsl,hK⟩:=hs
      obtain⟨e1,_⟩:=Zd hh h1 hp
      obtain⟨e2,_⟩:=Zd hh h2 hq
      obtain⟨e3,_⟩:=Zd hh h3 hr
      obtain⟨w',g1,g2⟩:=hh.mem.updFm (Zg hf) hsk s f hsl hnew
      have hput:=hh.put (fun _ _=>rfl) (Nat.le_refl _) g2 hd (v:=noV) (Qj _)
      refine Sq (w':=w') ?_ (hn _ ρ _ _ (by refine⟨?_,?_⟩<;>first|exact fun _ _=>rfl|simp[Yg]) hK (by rw[R6]at hput;exact hput))
      unfold execOp;simp only[ho]
      have e1':a.eval x=ρ m:=e1
      have e2':a.eval y= .string ⟨s.toArray⟩:=e2
      have e3':a.eval v= .func (.func f) #[] #[]:=e3.trans (C4 hfn hgg ρ)
      simp only[e1',e2',e3',Sem.run_bind,g1,Result.andThen_ok,Sem.run_pure]
     ·exact hs.elim
    ·exact hs.elim
   ·cases hc
 · -- its next round
   rename_i x ho
   cases hc
   simp only[st]at hs
   split at hs
   ·rename_i p n h1
    split at hs
    ·rename_i m q seen hfn
     split at hs
     ·rename_i l hf
      obtain⟨hp,rfl,hK0,hK1⟩:=hs
      obtain⟨e1,_⟩:=Zd hh h1 hp
      have e1':a.eval x=ρ n:=e1
      rcases hh.mem.nxtFm (P:=c.P) (Zg hfn) (Zg hf) o.type with⟨g0,g1⟩|⟨i,s,f,g1,g2,w',g3,g4⟩
      ·have hput:=hh.put (fun _ _=>rfl) (Nat.le_refl _) hh.mem hd (v:=.tup [.a (.bool false)]) (by simp[SV.bd,S1.bd,At.bd])
       refine Zr ?_ (hn _ ρ _ _ (by refine⟨?_,?_⟩<;>first|exact fun _ _=>rfl|simp[Yg]) (hK0 g0) hput)
       unfold execOp;simp only[ho]
       refine Y3 ?_
       rw[e1',g1]
       rfl
      ·have hput:=hh.put (fun _ _=>rfl) (Nat.le_refl _) g4 hd (v:=.tup [.a (.bool true),.a (.str s),.a (.clo f [])]) (by simp[SV.bd,S1.bd,At.bd])
       refine Zr (w':=w') ?_ (hn _ ρ _ _ (by refine⟨?_,?_⟩<;>first|exact fun _ _=>rfl|simp[Yg]) (hK1 i s f g1 g2) hput)
       unfold execOp;simp only[ho]
       refine Y3 ?_
       rw[e1',g3]
       rfl
     ·exact hs.elim
    ·exact hs.elim
   ·exact hs.elim
 · -- the entry that was handed out
   rename_i x ho
   cases hc
   simp only[st]at hs
   split at hs
   ·rename_i p n h1
    split at hs
    ·rename_i m q seen hfn
     split at hs
     ·rename_i l hf
      split at hs
      ·rename_i i hlast
       split at hs
       ·rename_i s f hg
        obtain⟨hp,rfl,hK⟩:=hs
        obtain⟨e1,_⟩:=Zd hh h1 hp
        obtain⟨b,hv,hb,_,_⟩:=hh.mem.res m _ (Zg hf)
        obtain⟨bi,bm,g1,g2,g3⟩:=hh.mem.res n _ (Zg hfn)
        rw[hv]at g2
        cases g2
        have e1':a.eval x= .pointer (some ⟨bi,0,none⟩):=e1.trans g1
        have hput:=hh.put (fun _ _=>rfl) (Nat.le_refl _) hh.mem hd (v:=.tup [.a (.str s),.a (.clo f [])]) (by simp[SV.bd,S1.bd,At.bd])
        refine Zr ?_ (hn _ ρ _ _ (by refine⟨?_,?_⟩<;>first|exact fun _ _=>rfl|simp[Yg]) hK hput)
        unfold execOp;simp only[ho]
        refine Y3 ?_
        rw[e1',Zh9 g3 hb hlast hg]
        rfl
       ·exact hs.elim
      ·exact hs.elim
     ·exact hs.elim
    ·exact hs.elim
   ·exact hs.elim
 ·cases hc
theorem U4{c:Cx}{S:St}{ρ:Env}{a:Act}{w:World}(hh:S.holds c ρ a w){o:Oper}{i:I}(hc:Nw c.P o=some i)(hd:∀t,o.dst=some t→t<c.nt){K:St→Prop}(hs:st c S o.dst i K)
 {next:Act→World→Prop}{Q:Exit→Act→World→Prop}(hn:∀S' ρ' a' w',Ext S ρ S' ρ'→K S'→S'.holds c ρ' a' w'→next a' w'):o.wp c.P a w next Q:=by
 rcases compI_cases hc with h|h
 ·exact Zgz hh h hd hs hn
 ·exact Zg0 hh h hd hs hn
theorem Sy{c:Cx}{S:St}{ρ:Env}{a:Act}{w:World}(hh:S.holds c ρ a w){ops:Array Oper}{o:Oper}{j t:Nat}{want b:Bool}(hg:o.guard=some (j,want))(hj:(ops[j]?).bind (·.dst)=some t)(hlow:t<BIG)
 (h:gdc S (t,want)=some b):Region.wanted o (yielded ops a.tmps)=b:=by
 have hy:∀v:Value,a.tmps[t]? =some v→yielded ops a.tmps j=match v with|.bool b=>some b|_=>none:=by
  intro v hv
  unfold yielded
  rw[hj,Option.bind_some,hv]
  cases v<;>rfl
 unfold Region.wanted
 simp only[hg]
 unfold gdc at h
 split at h
 ·rename_i b' hget
  cases h
  rw[hy _ (by have:=hh.slot _ _ hget;rwa [Uf hlow]at this)]
  simp only[SV.den,S1.den,At.den]
  cases b'<;>cases want<;>rfl
 ·rename_i g b' hget
  cases h
  rw[hy _ (by have:=hh.slot _ _ hget;rwa [Uf hlow]at this)]
  simp only[SV.den,S1.den,At.den]
  cases g<;>cases b'<;>cases want<;>rfl
 ·cases h
theorem Uc{P:Program}{nt:Nat}{ops:Array Oper}{o:Oper}{x:In}(h:Xs P nt ops o=some x):
 Nw P o=some x.i∧x.d=o.dst∧(∀t,o.dst=some t→t<nt)∧(match x.g with|none=>o.guard=none|some (t,b)=>t<BIG∧∃j,o.guard=some (j,b)∧(ops[j]?).bind (·.dst)=some t):=by
 unfold Xs at h
 split at h
 ·cases h
 ·rename_i i hi
  split at h
  ·rename_i hd
   have hd':∀t,o.dst=some t→t<nt:=by
    intro t ht;rw[ht]at hd;simpa[dstOk]using hd
   split at h
   ·rename_i hg
    cases h
    exact⟨hi,rfl,hd',hg⟩
   ·rename_i j b hg
    split at h
    ·rename_i t ht
     split at h
     ·rename_i hlow
      cases h
      exact⟨hi,rfl,hd',hlow,j,hg,ht⟩
     ·cases h
    ·cases h
  ·cases h
theorem M7{c:Cx}{ops:Array Oper}{Q:Exit→Act→World→Prop}:∀(ol:List Oper) (il:List In),ol.mapM (Xs c.P c.nt ops)=some il→∀(K:St→Prop),∀S ρ a w,(∀S' ρ' a' w',Ext S ρ S' ρ'→K S'→S'.holds c ρ' a' w'→Q .normal a' w')→ex c il S K→S.holds c ρ a w→wpList c.P ops Q ol a w
 | [],il,hm,K,S,ρ,a,w,hK,hx,hh=>by
   rw[List.mapM_nil]at hm
   cases hm
   exact hK _ _ _ _ Ext.rfl hx hh
 |o::ol,il,hm,K,S,ρ,a,w,hK,hx,hh=>by
  rw[List.mapM_cons]at hm
  cases h1:Xs c.P c.nt ops o with
  |none=>simp[h1]at hm
  |some x=>
   cases h2:ol.mapM (Xs c.P c.nt ops)with
   |none=>simp[h1,h2]at hm
   |some il'=>
    simp[h1,h2]at hm
    subst hm
    obtain⟨hc,hdst,hd,hg⟩:=Uc h1
    obtain⟨g,d,i⟩:=x
    simp only at hc hdst hg
    subst hdst
    have ih:∀S' ρ' a' w',Ext S ρ S' ρ'→ex c il' S' K→S'.holds c ρ' a' w'→wpList c.P ops Q ol a' w':=fun S' ρ' a' w' he h1 h3=>M7 ol il' h2 K S' ρ' a' w' (fun S2 ρ2 a2 w2 he2 h5 h6=>hK S2 ρ2 a2 w2 (he.trans he2) h5 h6) h1 h3
    unfold wpList
    cases g with
    |none=>
     simp only at hg
     have hw:Region.wanted o (yielded ops a.tmps)=true:=by simp[Region.wanted,hg]
     rw[if_pos hw]
     refine .inl ?_
     unfold ex at hx
     split at hx
     ·rename_i p v hev
      obtain⟨g1,g2⟩:=Wd hh hc hev hx.1
      exact Zr g1 (ih _ _ _ _ (Ext.rfl.put _ _) hx.2 (hh.put_same hd g2))
     ·exact U4 hh hc hd hx ih
    |some g=>
     obtain⟨t,want⟩:=g
     obtain⟨hlow,j,hgd,hj⟩:=hg
     unfold ex at hx
     split at hx
     ·exact hx.elim
     ·rename_i b hgdc
      have hw:=Sy hh hgd hj hlow hgdc
      split at hx
      ·rename_i p v hev
       cases b with
       |true=>
        rw[if_pos hw]
        obtain⟨g1,g2⟩:=Wd hh hc hev (hx.1 rfl)
        exact .inl (Zr g1 (ih _ ρ _ _ (Ext.rfl.put _ _) hx.2 (hh.put_same hd (v:=.opt true v) fun _=>g2)))
       |false=>
        rw[if_neg (by rw[hw];decide)]
        exact ih _ _ _ _ (Ext.rfl.put _ _) hx.2 (hh.put_same hd (v:=.opt false v) fun h=>by cases h)
      ·have plain:(b=true→st c S o.dst i fun S'=>ex c il' S' K)∧(b=false→ex c il' (S.put o.dst noV) K)→(if Region.wanted o (yielded ops a.tmps)then o.wp c.P a w (wpList c.P ops Q ol) Q∨(o.asks c.P a w∧LetsOut Q)else wpList c.P ops Q ol (a.put o.dst undef) w):=by
        intro hx
        cases b with
        |true=>
         rw[if_pos hw]
         exact .inl (U4 hh hc hd (hx.1 rfl) ih)
        |false=>
         rw[if_neg (by rw[hw];decide)]
         exact ih _ ρ _ _ (Ext.rfl.put _ _) (hx.2 rfl) (by have:=hh.put_same hd (Qj S.nx);rwa [R6]at this)
       cases i with
       |call f args=>
        simp only[gst]at hx
        split at hx
        ·rename_i p vs hrd
         obtain⟨hp,hg⟩:=hx
         obtain⟨h1,h2⟩:=hg ρ a w hh
         cases b with
         |true=>
          rw[if_pos hw]
          refine .inl (U4 (K:=fun S'=>ex c il' S' K) hh hc hd ?_ ih)
          simp only[st,hrd]
          refine⟨hp rfl,fun ρ2 a2 w2 hh2=> ?_⟩
          exact(hg ρ2 a2 w2 hh2).1 rfl
         |false=>
          rw[if_neg (by rw[hw];decide)]
          obtain⟨v,hvb,hvd,hK2⟩:=h2 rfl
          have:=hh.put_same hd hvb
          rw[hvd]at this
          exact ih _ ρ _ _ (Ext.rfl.put _ _) hK2 this
        ·exact hx.elim
       |_=>exact plain hx
end Vc
end Go.Proofs.YtddmlennnmpnhaaGreatDoor
