/- A part of the proofs of this seat's laws: steps on the way, joined. It has no conditions of its own. -/
import Derived.Test.YtddmlennnmpnhaaGreatDoorQg
namespace Go.Proofs.YtddmlennnmpnhaaGreatDoor
namespace Vc
open Go.RowKit
set_option linter.unusedVariables false
set_option linter.unusedSimpArgs false
def Fb(P':Program)(S:St)(σ:Nat→At)(args args':List S1)(R:List (Nat×Res)):Prop:=
 args'=args.map (S1.sub σ)∧Zbo P' S ⟨S.slots,del S.res (Vd σ R),S.nx⟩ σ R∧(Vd σ R).Nodup
def Rx(σ:Nat→At)(nx snx:Nat)(n:Nat):At:=if n<nx then σ n else .ref (snx+(n-nx))
def La(σ:Nat→At):List (Nat×Res)→List (Nat×Res)
 | []=>[]
 |(n,r)::l=>(Hd (σ n),r.sub σ)::La σ l
def Ek(S:St)(σ:Nat→At)(R R':List (Nat×Res))(nx nx':Nat):St:=⟨S.slots,La (Rx σ nx S.nx) R'++del S.res (Vd σ R),S.nx+(nx'-nx)⟩
theorem Zal.at{c:Cx}{S:St}{ρ:Env}{w:World}{ds O:List Nat}(hm:Mem c ρ S.res S.nx w)(hO:∀b∈O,∃m r,(m,r)∈S.res∧m∈ds∧r.block ρ m=some b){P:Program}{f:Nat}{ms:List Nat}{g:List S1→Option SV}
 (h:Zal P (del S.res ds) S.nx f ms g)(hms:∀m∈ms,m<S.nx){w':World}(hk:Rg O w w'):FnAt P w' (.func (.func f) #[] (ms.map fun m=>Wk (ρ m) 0).toArray) g:=by
 obtain⟨h1,nt,x,rl,hF,h2⟩:=h
 refine⟨f,_,⟨rfl,h1⟩,fun aq r hr=> ?_⟩
 obtain⟨g1,g2,g3,g4⟩:=h2 aq r hr
 have hb:=Ng g1
 have e1:(aq.map (S1.den fun _=>Yz)).toArray++(ms.map fun m=>Wk (ρ m) 0).toArray=((aq++ms.map fun m=>S1.a (.loc m 0)).map (S1.den ρ)).toArray:=by
  rw[←Ff (ρ:=ρ) hb]
  simp only[List.map_append,List.map_map,List.append_toArray];rfl
 rw[e1]
 refine hF.calls (S:=⟨Y2 0 (aq++ms.map fun m=>S1.a (.loc m 0)),roR (del S.res ds),S.nx⟩) (ρ:=ρ) (X:=[]) (fr:=[]) (R:=Zfs r) (by simpa using g3) (fun t v hv=> ?_) (roR_mem hm hO hk P nt).cx (g4 w') fun v S' ρ' w'' hv _ hm'=>⟨?_,hm'.toBelow⟩
 ·obtain⟨j,k1,k2,k3⟩:=Si (ρ:=ρ) (nx:=S.nx) (fun v hv=>by
   rcases List.mem_append.1 hv with hv|hv
   ·exact S1.bd_mono (Nat.zero_le _) (hb v hv)
   ·obtain⟨m,hm,rfl⟩:=List.mem_map.1 hv;exact hms m hm) hv
  simp only[Nat.zero_add]at k1
  subst k1
  have hjl:t<BIG:=by
   have:=(List.getElem?_eq_some_iff.1 k2).1
   have h4:=hF.lown
   simp only[List.length_map,List.length_append]at this
   omega
  exact⟨by rw[if_pos hjl];simpa using k2,k3⟩
 ·rw[show v=r from hv,SV.den_same (nx:=0) (ρ:=fun _=>Yz) (fun n hn=>by omega) g2]
theorem romM_O{c:Cx}{S:St}{ρ:Env}{w:World}{ds O:List Nat}(hm:Mem c ρ S.res S.nx w)(hO:∀b∈O,∃m r,(m,r)∈S.res∧m∈ds∧r.block ρ m=some b){m n:Nat}{P:Program}{K E:TypeId}{k:Kd}{f:List UInt8→Option k.ty}{q:Nat}
 (h:Ziy ⟨S.slots,del S.res ds,S.nx⟩ m (.rosmap P K E k f q)){ρ':Env}(hn:ρ' n=ρ m):(Res.rosmap P K E k f q).holds ρ' O n w:=by
 unfold Ziy at h
 split at h
 ·rename_i hf
  cases h
  obtain⟨b,es,clock,h1,h2,h3⟩:=hm.res _ _ (Yq (Yp hf))
  exact⟨b,es,clock,by rw[hn];exact h1,⟨h2,Uy hm hO (Yp hf) (by simp[Res.block,h1])⟩,h3⟩
 ·rename_i hf
  cases h
  obtain⟨b,es,clock,h1,h2,h3⟩:=hm.res _ _ (Yq (Yp hf))
  exact⟨b,es,clock,by rw[hn];exact h1,⟨h2.1,Ud hO h2.2⟩,h3⟩
 ·exact h.elim
theorem rocM_O{c:Cx}{S:St}{ρ:Env}{w:World}{ds O:List Nat}(hm:Mem c ρ S.res S.nx w)(hO:∀b∈O,∃m r,(m,r)∈S.res∧m∈ds∧r.block ρ m=some b){σ:Nat→At}{n:Nat}{l:List At}
 (h:Dc σ ⟨S.slots,del S.res ds,S.nx⟩ l (σ n))(hok:∀x∈l,x.okN fun _=>True):(Res.rocells l).holds (fun n=>(σ n).den ρ) O n w:=by
 have hsub:∀ {u:At},u∈l→(u.sub σ).den ρ=u.den fun n=>(σ n).den ρ:=fun hu=>At.sub_den (p:=fun _=>True) (fun n _=>rfl) (hok _ hu)
 unfold Dc at h
 split at h
 ·rename_i m hσ
  split at h
  ·rename_i E l' hf
   subst h
   obtain⟨b,hv,hb⟩:=hm.res _ _ (Yq (Yp hf))
   refine⟨⟨b,0,none⟩,by simp only[hσ,At.den,hv],fun j u hu=>⟨?_,Uy hm hO (Yp hf) (by simp[Res.block,hv])⟩⟩
   rw[cell_of_row w b _ _ E (0,0) hb,←hsub (List.mem_of_getElem? hu)]
   simp[hu]
  ·rename_i l' hf
   subst h
   obtain⟨a,hv,hc⟩:=hm.res _ _ (Yq (Yp hf))
   refine⟨a,by simp only[hσ,At.den,hv],fun j u hu=> ?_⟩
   obtain⟨g1,g2⟩:=hc j (u.sub σ) (by simp[hu])
   exact⟨by rw[g1,hsub (List.mem_of_getElem? hu)],Ud hO g2⟩
  ·exact h.elim
 ·rename_i m o hσ
  have hget:∀ {l':List At},(l'.drop o).take l.length=l.map (At.sub σ)→∀ {j:Nat} {u:At},l[j]? =some u→l'[o+j]? =some (u.sub σ):=by
   intro l' h2 j u hu
   have:=congrArg (fun z:List At=>z[j]?) h2
   simp only[List.getElem?_take,List.getElem?_drop,List.getElem?_map,hu,Option.map_some]at this
   rwa [if_pos (List.getElem?_eq_some_iff.1 hu).1]at this
  split at h
  ·rename_i E l' hf
   obtain⟨b,hv,hb⟩:=hm.res _ _ (Yq (Yp hf))
   refine⟨⟨b,o,none⟩,by simp only[hσ,At.den,hv,Wk,Nat.zero_add],fun j u hu=>⟨?_,Uy hm hO (Yp hf) (by simp[Res.block,hv])⟩⟩
   rw[cell_of_row w b _ _ E (0,0) hb,←hsub (List.mem_of_getElem? hu)]
   simp[hget h.2 hu]
  ·rename_i l' hf
   obtain⟨a,hv,hc⟩:=hm.res _ _ (Yq (Yp hf))
   refine⟨⟨a.block,a.off+o,none⟩,by simp only[hσ,At.den,hv,Wk],fun j u hu=> ?_⟩
   obtain⟨g1,g2⟩:=hc (o+j) _ (hget h.2 hu)
   exact⟨by simp only[Nat.add_assoc];rw[g1,hsub (List.mem_of_getElem? hu)],Ud hO g2⟩
  ·exact h.elim
 ·exact h.elim
theorem Zf9{c:Cx}{S:St}{ρ:Env}{w:World}{ds O:List Nat}(hm:Mem c ρ S.res S.nx w)(hO:∀b∈O,∃m r,(m,r)∈S.res∧m∈ds∧r.block ρ m=some b){σ:Nat→At}{n:Nat}{r:Res}
 (h:mtR c.P S ⟨S.slots,del S.res ds,S.nx⟩ σ n r)(hok:r.okN fun _=>True):r.holds (fun n=>(σ n).den ρ) O n w∧(r.own=true→∃m,σ n= .ref m∧(m,r.sub σ)∈S.res):=by
 have hOs:∀b∈O,b∈Zp ρ S.res:=fun b hb=>by
  obtain⟨m',r',h1,h2,h3⟩:=hO b hb
  exact List.mem_filterMap.2 ⟨_,h1,h3⟩
 have own:∀ {r':Res},r'=r.sub σ→r.own=true→Jh S r' (σ n)→r.holds (fun n=>(σ n).den ρ) O n w∧(r.own=true→∃m,σ n= .ref m∧(m,r.sub σ)∈S.res):=by
  intro r' e ho h
  subst e
  unfold Jh at h
  split at h
  ·rename_i m hσ
   exact⟨Zer (p:=fun _=>True) (fun n _=>rfl) (by simp only[hσ,At.den]) hok ho hOs (hm.res _ _ (Zg h)),fun _=>⟨m,hσ,Zg h⟩⟩
  ·exact h.elim
 cases r with
 |cells E l=>exact own rfl rfl h
 |lit E sz e l=>exact own rfl rfl h
 |row E k l=>exact own rfl rfl h
 |smap P K E k f q=>exact own rfl rfl h
 |urow b E l=>exact own rfl rfl h
 |fmap l=>exact own rfl rfl h
 |ro k l=>exact⟨RoO.holds (ρ:=fun n=>(σ n).den ρ) (roA_O hm hO h),fun h=>by cases h⟩
 |rocells l=>exact⟨rocM_O hm hO h hok,fun h=>by cases h⟩
 |rou l=>
  refine⟨?_,fun h=>by cases h⟩
  simp only[mtR]at h
  split at h
  ·rename_i m hσ;exact Ziz hm hO h (by simp only[hσ,At.den])
  ·rename_i hσ
   subst h
   exact⟨none,0,by simp only[hσ,At.den];exact⟨rfl,Nat.le_refl _⟩,fun _=>rfl,fun ad had=>by cases had⟩
  ·exact h.elim
 |rosmap P K E k f q=>
  refine⟨?_,fun h=>by cases h⟩
  simp only[mtR]at h
  split at h
  ·rename_i m hσ;exact romM_O hm hO h (by simp only[hσ,At.den])
  ·exact h.elim
 |fn P g=>
  refine⟨?_,fun h=>by cases h⟩
  simp only[mtR]at h
  unfold fnM at h
  split at h
  ·rename_i m hσ
   have hr:=hm.res _ _ (Yq (Yp h))
   intro w' hk
   simp only[hσ,At.den]
   exact hr w' fun b o hbo hb=>hk b o hbo (Ud hO hb)
  ·rename_i f ms hσ
   obtain⟨rfl,h1,h2⟩:=h
   intro w' hk
   simp only[hσ,At.den]
   exact h2.at hm hO h1 hk
  ·rename_i f _ _ hσ
   obtain⟨rfl,⟨rfl,rfl⟩,h2⟩:=h
   intro w' hk
   simp only[hσ,At.den]
   exact h2.at hm hO (fun m hm=>nomatch hm) hk
  ·exact h.elim
 |fact _=>exact h.elim
 |view _ _ _ _=>exact h.elim
 |fiter _ _ _=>exact h.elim
 |arr _ _ _=>exact h.elim
theorem Zir{p:Nat→Prop}{r:Res}(h:r.okN p):r.okN fun _=>True:=by
 cases r<;>first|trivial|exact h.elim|exact fun y hy=>At.okN_mono (fun _ _=>trivial) (h y hy)
theorem O3{σ:Nat→At}:∀ {l:List (Nat×Res)} {p:Nat×Res},p∈La σ l→∃n r,(n,r)∈l∧p=(Hd (σ n),r.sub σ)
 |(m,s)::l,p,h=>by
  rcases List.mem_cons.1 h with e|h
  ·exact⟨m,s,List.mem_cons_self ..,e⟩
  ·obtain⟨n,r,h1,h2⟩:=O3 h
   exact⟨n,r,List.mem_cons_of_mem _ h1,h2⟩
theorem Za.gcpσ{G:Nat}{H:Nat→Option Obj}{c:Cx}(hglob:Wb G H c.w0 c.X){f:Nat}{args args':List S1}{S:St}{K:SV→St→Prop}{R:List (Nat×Res)}{nx:Nat}{keep:List Nat}{v:SV}{R':List (Nat×Res)}{nx':Nat}(h:GCp G H c.P f args R nx keep v R' nx')(b0:Bnd)
 (hv:Fb c.P S (sg b0) args args' R)(hK:K (v.sub (Rx (sg b0) nx S.nx)) (Ek S (sg b0) R R' nx nx')):Za c f args' S K:=by
 intro ρ a w hh
 obtain⟨⟨w1,w2,w3,w4,w5,w6,w7,w8,w9⟩,hrun⟩:=h
 obtain⟨rfl,hmt,hnd⟩:=hv
 have hone:∀n,((sg b0 n).den ρ).oneCell'=true:=fun n=>Zi2 b0 n hh.mem.one
 generalize hσ:sg b0=σ at hmt hnd hK hone
 generalize hds:Vd σ R=ds at hmt hnd
 have hm:=hh.mem
 have hR:∀n r O,(∀b∈O,∃m r,(m,r)∈S.res∧m∈ds∧r.block ρ m=some b)→(n,r)∈R→r.holds (fun n=>(σ n).den ρ) O n w∧(r.own=true→∃m,σ n= .ref m∧(m,r.sub σ)∈S.res):=fun n r O hO hr=>
  Zf9 hm hO (Bt hmt hr) (Zir (Xp w2 n r hr).2)
 have hownR:∀n r b,(n,r)∈R→r.block (fun n=>(σ n).den ρ) n=some b→∃m,σ n= .ref m∧m∈ds∧(m,r.sub σ)∈S.res∧(r.sub σ).block ρ m=some b:=fun n r b hr hb=>by
  have ho:=Qz hb
  obtain⟨m,h1,h2⟩:=(hR n r [] (fun b hb=>nomatch hb) hr).2 ho
  exact⟨m,h1,by rw[←hds];exact Nl hr ho h1,h2,by rw[Lw (ρ':=fun n=>(σ n).den ρ) (n:=n) (by simp only[h1,At.den])];exact hb⟩
 have hOc:∀b∈Zp (fun n=>(σ n).den ρ) R,∃m r,(m,r)∈S.res∧m∈ds∧r.block ρ m=some b:=fun b hb=>by
  obtain⟨p,hp,hpb⟩:=List.mem_filterMap.1 hb
  obtain⟨m,h1,h2,h3,h4⟩:=hownR p.1 p.2 b hp hpb
  exact⟨m,_,h3,h2,h4⟩
 have hOcS:∀b∈Zp (fun n=>(σ n).den ρ) R,b∈Zp ρ S.res:=fun b hb=>by
  obtain⟨m,r,h1,_,h3⟩:=hOc b hb
  exact List.mem_filterMap.2 ⟨_,h1,h3⟩
 have hndo:∀(l:List (Nat×Res)),(∀p∈l,p∈R)→(l.map Prod.fst).Nodup→(Zp (fun n=>(σ n).den ρ) l).Nodup:=by
  intro l
  induction l with
  |nil=>intro _ _;exact List.nodup_nil
  |cons p l ih=>
   intro hin hkk
   simp only[List.map_cons,List.nodup_cons]at hkk
   have ih':=ih (fun q hq=>hin q (by simp[hq])) hkk.2
   unfold Zp
   rw[List.filterMap_cons]
   split
   ·exact ih'
   ·rename_i b hb
    refine List.nodup_cons.2 ⟨fun hmem2=> ?_,ih'⟩
    obtain⟨q,hq,hqb⟩:=List.mem_filterMap.1 hmem2
    obtain⟨m1,a1,a2,a3,a4⟩:=hownR p.1 p.2 b (hin p (by simp)) hb
    obtain⟨m2,b1,b2,b3,b4⟩:=hownR q.1 q.2 b (hin q (by simp[hq])) hqb
    have hne:m2≠m1:=fun e=>by
     have:=Kr (R:=R) (by rw[hds];exact hnd) (hin p (by simp)) (hin q (by simp[hq])) (Qz hb) (Qz hqb) a1 (e▸b1)
     exact hkk.1 (by rw[this];exact List.mem_map.2 ⟨q,hq,rfl⟩)
    have h5:=Yh (ds:=[m1]) hm.keys hm.nodup a3 (by simp) a4
    exact h5 (List.mem_filterMap.2 ⟨_,List.mem_filter.2 ⟨b3,by simp[hne]⟩,b4⟩)
 have hmc:Mem ⟨c.P,w,Zp (fun n=>(σ n).den ρ) R,0,[]⟩ (fun n=>(σ n).den ρ) R nx w:=
  ⟨rfl,rfl,rfl,Nat.le_refl _,fun _ _ _=>rfl,hone,w3,fun n r hr=>(hR n r _ hOc hr).1,fun n r hr=>⟨(Xp w2 n r hr).1,Res.okN_bd (Xp w2 n r hr).2⟩,hndo R (fun _ h=>h) w3,
    fun b hb=>⟨(hm.lt b (hOcS b hb)).1,.inr hb⟩⟩
 have hargs:(args.map (S1.sub σ)).map (S1.den ρ)=args.map (S1.den fun n=>(σ n).den ρ):=by
  rw[List.map_map]
  refine List.map_congr_left fun x hx=>S1.sub_den (p:=fun _=>True) (fun n _=>rfl) (S1.okN_mono (fun _ _=>trivial) (Ic w1 x hx))
 have hK':=hK
 rw[hargs]
 have hglob':Wb G H w (Zp (fun n=>(σ n).den ρ) R):=by
  obtain⟨k1,k2,k3⟩:=hglob
  refine⟨Nat.le_trans k1 hm.size,fun b hb=> ?_,fun b hb=> ?_⟩
  ·rw[hm.block b (by omega) (fun hX=>by have:=k3 b hX;omega)];exact k2 b hb
  ·rcases(hm.lt b (hOcS b hb)).2 with h1|h1
   ·omega
   ·exact k3 b h1
 refine(hrun _ w hmc hglob').mono ?_
 rintro e w' ⟨ρ',hkeep,rfl,hm'⟩
 let ρ2:Env:=fun m=>if m<S.nx then ρ m else ρ' (nx+(m-S.nx))
 have hs2:Qv S.nx ρ ρ2:=fun m hlt=>if_pos hlt
 have hσk:∀n∈keep,∃m,σ n= .ref m∧m∈ds∧m<S.nx:=fun n hn=>by
  obtain⟨r,h1,h2⟩:=Tv w4 n hn
  obtain⟨m,h3,h4⟩:=(hR n r [] (fun b hb=>nomatch hb) h1).2 h2
  exact⟨m,h3,by rw[←hds];exact Nl h1 h2 h3,(hm.bdr _ _ h4).1⟩
 have hσ':∀n,((n∈keep∨nx≤n)∧n<nx')→∃m,Rx σ nx S.nx n= .ref m∧ρ2 m=ρ' n∧m<S.nx+(nx'-nx)∧((m∈ds∧m<S.nx∧n∈keep)∨(m=S.nx+(n-nx)∧nx≤n)):=fun n hn=>by
  by_cases hlt:n<nx
  ·have hk:n∈keep:=hn.1.resolve_right (by omega)
   obtain⟨m,h1,h2,h3⟩:=hσk n hk
   refine⟨m,by unfold Rx;rw[if_pos hlt,h1],?_,by omega,.inl ⟨h2,h3,hk⟩⟩
   rw[hs2 m h3,hkeep n hk,h1];rfl
  ·refine⟨S.nx+(n-nx),by unfold Rx;rw[if_neg hlt],?_,by omega,.inr ⟨rfl,by omega⟩⟩
   show(if S.nx+(n-nx)<S.nx then _ else _)=_
   rw[if_neg (by omega)]
   congr 1;omega
 have hden:∀n,((n∈keep∨nx≤n)∧n<nx')→(Rx σ nx S.nx n).den ρ2=ρ' n:=fun n hn=>by
  obtain⟨m,h1,h2,_⟩:=hσ' n hn
  rw[h1];exact h2
 have hbd:∀n,((n∈keep∨nx≤n)∧n<nx')→(Rx σ nx S.nx n).bd (S.nx+(nx'-nx)):=fun n hn=>by
  obtain⟨m,h1,_,h3,_⟩:=hσ' n hn
  rw[h1];exact h3
 have hD:∀b∈Zp (fun n=>(σ n).den ρ) R,b∈Zp ρ S.res:=hOcS
 have hkeeps:Rg (Zp (fun n=>(σ n).den ρ) R) w w':=fun b o hb hbn=>by
  have:=hm'.block b (Array.getElem?_eq_some_iff.1 hb).1 hbn
  rw[this];exact hb
 have hdelmem:∀n r,(n,r)∈del S.res ds→(n,r)∈S.res∧n∉ds:=fun n r h=>by
  have:=List.mem_filter.1 h
  exact⟨this.1,by simpa using this.2⟩
 have hown1:∀l:List (Nat×Res),(∀p∈l,p∈R')→Zp ρ2 (La (Rx σ nx S.nx) l)=Zp ρ' l:=by
  intro l
  induction l with
  |nil=>intro _;rfl
  |cons p l ih=>
   intro hin
   obtain⟨n,r⟩:=p
   obtain⟨m,h1,h2,_⟩:=hσ' n (Xp w6 n r (hin _ (by simp))).1
   have e1:(r.sub (Rx σ nx S.nx)).block ρ2 (Hd (Rx σ nx S.nx n))=r.block ρ' n:=by
    rw[h1];exact Lw (by rw[←h2];rfl)
   have e2:=ih fun q hq=>hin q (by simp[hq])
   unfold Zp at e2 ⊢
   simp only[La,List.filterMap_cons,e1,e2]
 have hown2:Zp ρ2 (del S.res ds)=Zp ρ (del S.res ds):=Rk hs2 fun n r hr=>(hm.bdr n r (hdelmem n r hr).1).1
 have hownT:Zp ρ2 (La (Rx σ nx S.nx) R'++del S.res ds)=Zp ρ' R'++Zp ρ (del S.res ds):=by
  have:∀A B:List (Nat×Res),Zp ρ2 (A++B)=Zp ρ2 A++Zp ρ2 B:=fun A B=>by unfold Zp;exact List.filterMap_append
  rw[this,hown1 R' (fun _ h=>h),hown2]
 have hlt':∀b∈Zp ρ' R',b<w'.heap.size∧(w.heap.size≤b∨b∈Zp (fun n=>(σ n).den ρ) R):=fun b hb=>hm'.lt b hb
 have hdel:∀b∈Zp ρ (del S.res ds),b<w.heap.size∧b∉Zp (fun n=>(σ n).den ρ) R:=fun b hb=>by
  refine⟨(hm.lt b (X6 b hb)).1,fun hbR=> ?_⟩
  obtain⟨m,r,h1,h2,h3⟩:=hOc b hbR
  exact Yh hm.keys hm.nodup h1 h2 h3 hb
 have hO2:∀b∈Zp ρ2 (La (Rx σ nx S.nx) R'++del S.res ds),b∈Zp ρ S.res∨w.heap.size≤b:=fun b hb=>by
  rw[hownT]at hb
  rcases List.mem_append.1 hb with hb|hb
  ·rcases(hlt' b hb).2 with h1|h1
   ·exact .inr h1
   ·exact .inl (hOcS b h1)
  ·exact .inl (X6 b hb)
 have hvd:(v.sub (Rx σ nx S.nx)).den ρ2=v.den ρ':=SV.sub_den hden w5
 have hout:Mem c ρ2 (La (Rx σ nx S.nx) R'++del S.res ds) (S.nx+(nx'-nx)) w':=by
  refine⟨hm'.os.trans hm.os,hm'.tape.trans hm.tape,hm'.output.trans hm.output,Nat.le_trans hm.size hm'.size,?_,fun n=> ?_,?_,?_,?_,?_,?_⟩
  ·intro b hb hbX
   have h0:=hm.block b hb hbX
   have hbs:b<w.heap.size:=Nat.lt_of_lt_of_le hb hm.size
   rw[←h0]
   refine hm'.block b hbs fun hbR=> ?_
   rcases(hm.lt b (hOcS b hbR)).2 with h1|h1
   ·omega
   ·exact hbX h1
  ·show(if n<S.nx then ρ n else _).oneCell'=true
   split
   ·exact hm.one n
   ·exact hm'.one _
  ·rw[List.map_append]
   refine List.nodup_append.2 ⟨?_,M3 hm.keys,?_⟩
   ·have key:∀l:List (Nat×Res),(∀p∈l,p∈R')→(l.map Prod.fst).Nodup→((La (Rx σ nx S.nx) l).map Prod.fst).Nodup:=by
     intro l
     induction l with
     |nil=>intro _ _;exact List.nodup_nil
     |cons p l ih=>
      intro hin hkk
      obtain⟨n,r⟩:=p
      simp only[List.map_cons,List.nodup_cons]at hkk
      simp only[La,List.map_cons,List.nodup_cons]
      refine⟨fun hmem=> ?_,ih (fun q hq=>hin q (by simp[hq])) hkk.2⟩
      obtain⟨q,hq,hqe⟩:=List.mem_map.1 hmem
      obtain⟨n2,r2,g1,rfl⟩:=O3 hq
      obtain⟨m1,a1,_,_,a4⟩:=hσ' n (Xp w6 n r (hin _ (by simp))).1
      obtain⟨m2,b1,_,_,b4⟩:=hσ' n2 (Xp w6 n2 r2 (hin _ (by simp[g1]))).1
      simp only[a1,b1,Hd]at hqe
      subst hqe
      have hnn:n2=n:=by
       rcases a4 with⟨a5,a6,a7⟩|⟨a5,a6⟩<;>rcases b4 with⟨b5,b6,b7⟩|⟨b5,b6⟩
       ·obtain⟨s1,t1,t2⟩:=Tv w4 n a7
        obtain⟨s2,u1,u2⟩:=Tv w4 n2 b7
        obtain⟨q1,q2,_⟩:=hσk n a7
        obtain⟨q3,q4,_⟩:=hσk n2 b7
        have o1:n<nx:=(Xp w2 n s1 t1).1
        have o2:n2<nx:=(Xp w2 n2 s2 u1).1
        unfold Rx at a1 b1
        rw[if_pos o1]at a1
        rw[if_pos o2]at b1
        have:=Kr (R:=R) (p:=(n2,s2)) (q:=(n,s1)) (by rw[hds];exact hnd) u1 t1 u2 t2 b1 a1
        exact congrArg Prod.fst this
       ·omega
       ·omega
       ·omega
      subst hnn
      exact hkk.1 (List.mem_map.2 ⟨_,g1,rfl⟩)
    exact key R' (fun _ h=>h) w7
   ·intro x hx y hy hxy
    subst hxy
    obtain⟨p,hp,rfl⟩:=List.mem_map.1 hx
    obtain⟨n,r,g1,rfl⟩:=O3 hp
    obtain⟨q,hq,hqe⟩:=List.mem_map.1 hy
    obtain⟨m1,a1,_,_,a4⟩:=hσ' n (Xp w6 n r g1).1
    simp only[a1,Hd]at hqe
    have hq2:=hdelmem q.1 q.2 hq
    rcases a4 with⟨a5,_⟩|⟨a5,_⟩
    ·rw[hqe]at hq2;exact hq2.2 a5
    ·have:=(hm.bdr _ _ hq2.1).1;omega
  ·intro n r hr
   rcases List.mem_append.1 hr with hr|hr
   ·obtain⟨n0,r0,g1,e⟩:=O3 hr
    cases e
    obtain⟨hq1,hq2⟩:=Xp w6 n0 r0 g1
    obtain⟨m1,a1,a2,_,_⟩:=hσ' n0 hq1
    have hh0:=hm'.res n0 r0 g1
    have hok:=Rj w8 n0 r0 g1
    simp only[a1,Hd]
    cases r0<;>simp only[Res.outOk,Bool.false_eq_true]at hok
    case cells E l=>
     obtain⟨b,k1,k2⟩:=hh0
     exact⟨b,by rw[a2];exact k1,by rw[Tx hden hq2];exact k2⟩
    case lit E sz e l=>
     obtain⟨b,k1,k2,k3⟩:=hh0
     exact⟨b,by rw[a2];exact k1,by simpa using k2,by rw[Tx hden hq2];exact k3⟩
    case row E k l=>
     simp only[Res.sub,Res.holds]at hh0 ⊢
     rw[a2,Kd.encs_den _ _ ρ' ρ2];exact hh0
    case smap P K E k f q=>
     simp only[Res.sub,Res.holds]at hh0 ⊢
     rw[a2];exact hh0
    case fmap l=>
     simp only[Res.sub,Res.holds]at hh0 ⊢
     rw[a2];exact hh0
   ·obtain⟨h1,h2⟩:=hdelmem n r hr
    refine Res.carry hs2 (hm.bdr n r h1).1 (hm.bdr n r h1).2 hkeeps hD (fun b hb hbD=> ?_) hO2 (hm.res n r h1)
    exact(hdel b (List.mem_filterMap.2 ⟨(n,r),hr,hb⟩)).2 hbD
  ·intro n r hr
   rcases List.mem_append.1 hr with hr|hr
   ·obtain⟨n0,r0,g1,e⟩:=O3 hr
    cases e
    obtain⟨hq1,hq2⟩:=Xp w6 n0 r0 g1
    obtain⟨m1,a1,a2,a3,_⟩:=hσ' n0 hq1
    exact⟨by simp only[a1,Hd];exact a3,Res.sub_bd hbd hq2⟩
   ·have:=hm.bdr n r (hdelmem n r hr).1
    exact⟨by omega,Res.bd_mono (by omega) this.2⟩
  ·rw[hownT]
   refine List.nodup_append.2 ⟨hm'.nodup,G1 hm.nodup,fun x hx y hy hxy=> ?_⟩
   subst hxy
   have h1:=hdel x hy
   rcases(hlt' x hx).2 with h2|h2
   ·omega
   ·exact h1.2 h2
  ·intro b hb
   rw[hownT]at hb
   rcases List.mem_append.1 hb with hb|hb
   ·refine⟨(hlt' b hb).1,?_⟩
    rcases(hlt' b hb).2 with h2|h2
    ·exact .inl (Nat.le_trans hm.size h2)
    ·exact(hm.lt b (hOcS b h2)).2
   ·have:=hm.lt b (X6 b hb)
    exact⟨Nat.lt_of_lt_of_le this.1 hm'.size,this.2⟩
 refine⟨v.sub (Rx σ nx S.nx),ρ2,Ek S σ R R' nx nx',⟨hs2,by unfold Ek;simp⟩,by rw[hvd],SV.sub_bd hbd w5,?_,hK⟩
 unfold Ek
 rw[hds]
 exact hh.res hs2 (by omega) hout
theorem Za.gcσ{c:Cx}{f:Nat}{args args':List S1}{S:St}{K:SV→St→Prop}{R:List (Nat×Res)}{nx:Nat}{keep:List Nat}{v:SV}{R':List (Nat×Res)}{nx':Nat}(h:GC c.P f args R nx keep v R' nx')(b0:Bnd)
 (hv:Fb c.P S (sg b0) args args' R)(hK:K (v.sub (Rx (sg b0) nx S.nx)) (Ek S (sg b0) R R' nx nx')):Za c f args' S K:=
 Za.gcpσ (Wb.zero (fun _=>none) _ _) h.gcp b0 hv hK
theorem Za.gcp{G:Nat}{H:Nat→Option Obj}{c:Cx}(hglob:Wb G H c.w0 c.X){f:Nat}{args args':List S1}{S:St}{K:SV→St→Prop}{R:List (Nat×Res)}{nx:Nat}{keep:List Nat}{v:SV}{R':List (Nat×Res)}{nx':Nat}(h:GCp G H c.P f args R nx keep v R' nx')
 (hv:Fb c.P S (sg (Tt S R (Vo args args' []))) args args' R)(hK:K (v.sub (Rx (sg (Tt S R (Vo args args' []))) nx S.nx)) (Ek S (sg (Tt S R (Vo args args' []))) R R' nx nx')):Za c f args' S K:=
 Za.gcpσ hglob h _ hv hK
theorem Za.gc{c:Cx}{f:Nat}{args args':List S1}{S:St}{K:SV→St→Prop}{R:List (Nat×Res)}{nx:Nat}{keep:List Nat}{v:SV}{R':List (Nat×Res)}{nx':Nat}(h:GC c.P f args R nx keep v R' nx')
 (hv:Fb c.P S (sg (Tt S R (Vo args args' []))) args args' R)(hK:K (v.sub (Rx (sg (Tt S R (Vo args args' []))) nx S.nx)) (Ek S (sg (Tt S R (Vo args args' []))) R R' nx nx')):Za c f args' S K:=
 Za.gcσ h _ hv hK
theorem tf{a:Bool}(h:a=true)(h':a=false):False:=by rw[h]at h';cases h'
theorem lemL:type_of%(And.intro @List.set_cons_zero.{0}<|And.intro @List.set_cons_succ.{0}<|And.intro @List.set_nil.{0}<|And.intro @forall_eq_or_imp.{1}<|And.intro @forall_eq.{1}<|And.intro @List.mem_singleton.{0}<|And.intro @List.map_cons.{0,0}<|And.intro @List.map_nil.{0,0}<|And.intro @Nat.sub_self<|And.intro @Option.getD_some.{0}<|And.intro @Option.getD_none.{0}<|And.intro @Option.isSome_some.{0}<|And.intro @Option.isSome_none.{0}<|And.intro @List.nodup_nil.{0}<|And.intro @List.nodup_cons.{0}<|And.intro @List.mem_cons.{0}<|And.intro @List.not_mem_nil.{0}<|And.intro @Nat.zero_add<|And.intro @Nat.add_zero<|And.intro @Nat.zero_mul<|And.intro @Nat.le_refl<|And.intro @List.length_cons.{0}<|And.intro @List.length_nil.{0}<|And.intro @List.getElem?_cons_zero.{0}<|And.intro @List.getElem?_cons_succ.{0}<|And.intro @List.getElem?_nil.{0}<|And.intro @List.drop_zero.{0}<|And.intro @List.drop_succ_cons.{0}<|And.intro @List.drop_nil.{0}<|And.intro @List.take_zero.{0}<|And.intro @List.take_succ_cons.{0}<|And.intro @List.take_nil.{0}<|And.intro @List.nil_append.{0}<|And.intro @List.cons_append.{0}<|And.intro @List.append_nil.{0}<|And.intro @List.filter_cons.{0}<|And.intro @List.filter_nil.{0}<|And.intro @List.contains_cons.{0}<|And.intro @List.contains_nil.{0}<|And.intro @List.elem_cons.{0}<|And.intro @List.elem_nil.{0}<|And.intro @Bool.not_true<|And.intro @Bool.not_false<|And.intro @Bool.or_false<|And.intro @Bool.false_or<|And.intro @Bool.true_or<|And.intro @Bool.or_true<|And.intro @Bool.and_true<|And.intro @Bool.true_and<|And.intro @Bool.and_false<|And.intro @Bool.false_and<|And.intro @Bool.false_eq_true<|And.intro @Bool.true_eq_false<|And.intro @beq_self_eq_true.{0}<|And.intro @cond_true.{1}<|And.intro @cond_false.{1}<|And.intro @true_and<|And.intro @and_true<|And.intro @false_and<|And.intro @and_false<|And.intro @true_implies<|And.intro @false_implies<|And.intro @and_self<|And.intro @decide_true<|And.intro @decide_false<|And.intro @not_false_eq_true<|And.intro @not_true_eq_false<|And.intro @ne_eq.{1}<|And.intro @imp_self<|And.intro @Bool.cond_true_left<|And.intro @Bool.cond_false_right<|And.intro @Bool.cond_true_right<|And.intro @Bool.cond_false_left<|And.intro @Bool.not_eq_true'<|And.intro @Bool.not_eq_false'<|And.intro @Bool.or_eq_true<|And.intro @Bool.and_eq_true<|And.intro @Bool.or_eq_false_iff<|And.intro @Bool.and_eq_false_imp<|And.intro @decide_eq_true_eq<|And.intro @decide_eq_false_iff_not<|And.intro @Bool.not_not<|And.intro @bne_self_eq_false.{0}<|And.intro @false_or<|And.intro @or_false<|And.intro @true_or<|And.intro @or_true<|And.intro @not_or<|And.intro @exists_eq_left.{1}<| @exists_eq_left'.{1}):=
 And.intro @List.set_cons_zero.{0}<|And.intro @List.set_cons_succ.{0}<|And.intro @List.set_nil.{0}<|And.intro @forall_eq_or_imp.{1}<|And.intro @forall_eq.{1}<|And.intro @List.mem_singleton.{0}<|And.intro @List.map_cons.{0,0}<|And.intro @List.map_nil.{0,0}<|And.intro @Nat.sub_self<|And.intro @Option.getD_some.{0}<|And.intro @Option.getD_none.{0}<|And.intro @Option.isSome_some.{0}<|And.intro @Option.isSome_none.{0}<|And.intro @List.nodup_nil.{0}<|And.intro @List.nodup_cons.{0}<|And.intro @List.mem_cons.{0}<|And.intro @List.not_mem_nil.{0}<|And.intro @Nat.zero_add<|And.intro @Nat.add_zero<|And.intro @Nat.zero_mul<|And.intro @Nat.le_refl<|And.intro @List.length_cons.{0}<|And.intro @List.length_nil.{0}<|And.intro @List.getElem?_cons_zero.{0}<|And.intro @List.getElem?_cons_succ.{0}<|And.intro @List.getElem?_nil.{0}<|And.intro @List.drop_zero.{0}<|And.intro @List.drop_succ_cons.{0}<|And.intro @List.drop_nil.{0}<|And.intro @List.take_zero.{0}<|And.intro @List.take_succ_cons.{0}<|And.intro @List.take_nil.{0}<|And.intro @List.nil_append.{0}<|And.intro @List.cons_append.{0}<|And.intro @List.append_nil.{0}<|And.intro @List.filter_cons.{0}<|And.intro @List.filter_nil.{0}<|And.intro @List.contains_cons.{0}<|And.intro @List.contains_nil.{0}<|And.intro @List.elem_cons.{0}<|And.intro @List.elem_nil.{0}<|And.intro @Bool.not_true<|And.intro @Bool.not_false<|And.intro @Bool.or_false<|And.intro @Bool.false_or<|And.intro @Bool.true_or<|And.intro @Bool.or_true<|And.intro @Bool.and_true<|And.intro @Bool.true_and<|And.intro @Bool.and_false<|And.intro @Bool.false_and<|And.intro @Bool.false_eq_true<|And.intro @Bool.true_eq_false<|And.intro @beq_self_eq_true.{0}<|And.intro @cond_true.{1}<|And.intro @cond_false.{1}<|And.intro @true_and<|And.intro @and_true<|And.intro @false_and<|And.intro @and_false<|And.intro @true_implies<|And.intro @false_implies<|And.intro @and_self<|And.intro @decide_true<|And.intro @decide_false<|And.intro @not_false_eq_true<|And.intro @not_true_eq_false<|And.intro @ne_eq.{1}<|And.intro @imp_self<|And.intro @Bool.cond_true_left<|And.intro @Bool.cond_false_right<|And.intro @Bool.cond_true_right<|And.intro @Bool.cond_false_left<|And.intro @Bool.not_eq_true'<|And.intro @Bool.not_eq_false'<|And.intro @Bool.or_eq_true<|And.intro @Bool.and_eq_true<|And.intro @Bool.or_eq_false_iff<|And.intro @Bool.and_eq_false_imp<|And.intro @decide_eq_true_eq<|And.intro @decide_eq_false_iff_not<|And.intro @Bool.not_not<|And.intro @bne_self_eq_false.{0}<|And.intro @false_or<|And.intro @or_false<|And.intro @true_or<|And.intro @or_true<|And.intro @not_or<|And.intro @exists_eq_left.{1}<| @exists_eq_left'.{1}
set_option maxRecDepth 100000 in
theorem lemB:type_of%(And.intro @Zh7<|And.intro @Zd9<|And.intro @Zea<|And.intro @Vc.exK.eq_1<|And.intro @Cv<|And.intro @Cw<|And.intro @I1<|And.intro @I2<|And.intro @Ef<|And.intro @Vc.exDK.eq_1<|And.intro @Lk.eq_1<|And.intro @Lk.eq_2<|And.intro @I5.eq_1<|And.intro @I5.eq_2<|And.intro @Vg.eq_1<|And.intro @Vg.eq_2<|And.intro @Vg.eq_3<|And.intro @Vg.eq_4<|And.intro @Vg.eq_5<|And.intro @Vg.eq_6<|And.intro @Vg.eq_7<|And.intro @Vg.eq_8<|And.intro @Vg.eq_9<|And.intro @Vg.eq_10<|And.intro @Vg.eq_11<|And.intro @Vg.eq_12<|And.intro @Vg.eq_13<|And.intro @Vg.eq_14<|And.intro @Vg.eq_15<|And.intro @Vg.eq_16<|And.intro @Vc.wkR.eq_1<|And.intro @Vc.wkR.eq_2<|And.intro @Vc.wkR.eq_3<|And.intro @Vc.wkR.eq_4<|And.intro @Zeb<|And.intro @Cy<|And.intro @Cz<|And.intro @Zec<|And.intro @C0<|And.intro @C1<|And.intro @Vc.exqK.eq_1<|And.intro @Ib.eq_1<|And.intro @Vc.putK.eq_1<|And.intro @Vc.ev.eq_1<|And.intro @Vc.ev.eq_2<|And.intro @Vc.ev.eq_3<|And.intro @Vc.ev.eq_4<|And.intro @Vc.ev.eq_5<|And.intro @Vc.ev.eq_6<|And.intro @Vc.ev.eq_7<|And.intro @Vc.ev.eq_8<|And.intro @Vc.ev.eq_9<|And.intro @Vc.ev.eq_10<|And.intro @Vc.ev.eq_11<|And.intro @Vc.ev.eq_12<|And.intro @Vc.ev.eq_13<|And.intro @Vc.ev.eq_14<|And.intro @Vc.ev.eq_15<|And.intro @Vc.ev.eq_16<|And.intro @Vc.ev.eq_17<|And.intro @Vc.ev.eq_18<|And.intro @Vc.ev.eq_19<|And.intro @Vc.ev.eq_20<|And.intro @Vc.ev.eq_21<|And.intro @Vc.ev.eq_22<|And.intro @Vc.ev.eq_23<|And.intro @Vc.ev.eq_24<|And.intro @Vc.ev.eq_25<|And.intro @Vc.ev.eq_26<|And.intro @Vc.ev.eq_27<|And.intro @Vc.ev.eq_28<|And.intro @Vc.ev.eq_29<|And.intro @Vc.ev.eq_30<|And.intro @Vc.ev.eq_31<|And.intro @Vc.st.eq_1<|And.intro @Vc.st.eq_2<|And.intro @Vc.st.eq_3<|And.intro @Vc.st.eq_4<|And.intro @Vc.st.eq_5<|And.intro @Vc.st.eq_6<|And.intro @Vc.st.eq_7<|And.intro @Vc.st.eq_8<|And.intro @Vc.st.eq_9<|And.intro @Vc.st.eq_10<|And.intro @Vc.st.eq_11<|And.intro @Vc.st.eq_12<|And.intro @Vc.st.eq_13<|And.intro @Vc.st.eq_14<|And.intro @Vc.st.eq_15<|And.intro @Vc.st.eq_16<|And.intro @Vc.st.eq_17<|And.intro @Vc.st.eq_18<|And.intro @Vc.st.eq_19<|And.intro @Vc.st.eq_20<|And.intro @Vc.st.eq_21<|And.intro @Vc.st.eq_22<|And.intro @Vc.st.eq_23<|And.intro @Vc.st.eq_24<|And.intro @Vc.st.eq_25<|And.intro @Vc.st.eq_26<|And.intro @Vc.st.eq_27<|And.intro @Zht.eq_1<|And.intro @Jf.eq_1<|And.intro @Jf.eq_2<|And.intro @Jf.eq_3<|And.intro @Vc.stq.eq_1<|And.intro @Vc.stq.eq_2<|And.intro @Vc.stq.eq_3<|And.intro @Vc.stq.eq_4<|And.intro @Vc.gst.eq_1<|And.intro @Vc.gst.eq_2<|And.intro @Za6.eq_1<|And.intro @Za6.eq_2<|And.intro @St.rd.eq_1<|And.intro @St.rd.eq_2<|And.intro @St.rd.eq_3<|And.intro @St.get.eq_1<|And.intro @St.put.eq_1<|And.intro @St.put.eq_2<|And.intro @St.find.eq_1<|And.intro @Zo.eq_1<|And.intro @Zo.eq_2<|And.intro @St.new.eq_1<|And.intro @Vc.gdc.eq_1<|And.intro @Vh.eq_1<|And.intro @Qy.eq_1<|And.intro @Qy.eq_2<|And.intro @Qy.eq_3<|And.intro @Qy.eq_4<|And.intro @Qy.eq_5<|And.intro @Xf.eq_1<|And.intro @Xf.eq_2<|And.intro @Xf.eq_3<|And.intro @Xf.eq_4<|And.intro @Xf.eq_5<|And.intro @Xf.eq_6<|And.intro @Xf.eq_7<|And.intro @Xf.eq_8<|And.intro @Xf.eq_9<|And.intro @Xf.eq_10<|And.intro @Xf.eq_11<|And.intro @Xf.eq_12<|And.intro @Xf.eq_13<|And.intro @Xf.eq_14<|And.intro @Xf.eq_15<|And.intro @Xf.eq_16<|And.intro @Q7.eq_1<|And.intro @Q7.eq_2<|And.intro @Q7.eq_3<|And.intro @Q7.eq_4<|And.intro @Q7.eq_5<|And.intro @Gd.eq_1<|And.intro @Gd.eq_2<|And.intro @Gd.eq_3<|And.intro @Gd.eq_4<|And.intro @Uw.eq_1<|And.intro @Uw.eq_2<|And.intro @Uw.eq_3<|And.intro @Uw.eq_4<|And.intro @W1.eq_1<|And.intro @W1.eq_2<|And.intro @Rl.eq_1<|And.intro @Rl.eq_2<|And.intro @We.eq_1<|And.intro @Vc.S1.cells.eq_1<|And.intro @Vc.S1.cells.eq_2<|And.intro @Vc.upd.eq_1<|And.intro @Vc.del.eq_1<|And.intro @Y1.eq_1<|And.intro @Y1.eq_2<|And.intro @Vc.noV.eq_1<|And.intro @Kd.enc.eq_1<|And.intro @Kd.enc.eq_2<|And.intro @Kd.enc.eq_3<|And.intro @Kd.enc.eq_4<|And.intro @Kd.enc.eq_5<|And.intro @Kd.enc.eq_6<|And.intro @Kd.enc.eq_7<|And.intro @Kd.dec.eq_1<|And.intro @Kd.dec.eq_2<|And.intro @Kd.dec.eq_3<|And.intro @Kd.dec.eq_4<|And.intro @Kd.dec.eq_5<|And.intro @Kd.dec.eq_6<|And.intro @Kd.dec.eq_7<|And.intro @Kd.dec.eq_8<|And.intro @Ins.cells.eq_1<|And.intro @Ln.cells.eq_1<|And.intro @Yo.eq_1<|And.intro @Yo.eq_2<|And.intro @Yo.eq_3<|And.intro @Yo.eq_4<|And.intro @Yo.eq_5<|And.intro @Yo.eq_6<|And.intro @Yo.eq_7<|And.intro @Yo.eq_8<|And.intro @Is.eq_1<|And.intro @Lo.eq_1<|And.intro @Lo.eq_2<|And.intro @N7.eq_1<|And.intro @N7.eq_2<|And.intro @Q6.eq_1<|And.intro @Q6.eq_2<|And.intro @Q6.eq_3<|And.intro @Vc.rvs.eq_1<|And.intro @Vc.rvs.eq_2<|And.intro @Vc.rvs.eq_3<|And.intro @Hj.eq_1<|And.intro @Hj.eq_2<|And.intro @Y2.eq_1<|And.intro @Y2.eq_2<|And.intro @Mz.eq_1<|And.intro @Mz.eq_2<|And.intro @Mz.eq_3<|And.intro @Rc.eq_1<|And.intro @Rc.eq_2<|And.intro @Rc.eq_3<|And.intro @Np.eq_1<|And.intro @Np.eq_2<|And.intro @Np.eq_3<|And.intro @Kc.eq_1<|And.intro @Kc.eq_2<|And.intro @Kc.eq_3<|And.intro @Jj.eq_1<|And.intro @Jj.eq_2<|And.intro @Jj.eq_3<|And.intro @Ji.eq_1<|And.intro @Ji.eq_2<|And.intro @Ji.eq_3<|And.intro @P8.eq_1<|And.intro @P8.eq_2<|And.intro @P8.eq_3<|And.intro @Zfs.eq_1<|And.intro @N9.eq_1<|And.intro @N9.eq_2<|And.intro @Jp.eq_1<|And.intro @Jp.eq_2<|And.intro @Sw.eq_1<|And.intro @Sw.eq_2<|And.intro @Sp.eq_1<|And.intro @Sp.eq_2<|And.intro @Ja.eq_1<|And.intro @Ja.eq_2<|And.intro @Vc.kdL.eq_1<|And.intro @Vc.kdL.eq_2<|And.intro @Vc.kdL.eq_3<|And.intro @Vc.kdL.eq_4<|And.intro @Vc.kdL.eq_5<|And.intro @Vc.kdL.eq_6<|And.intro @Vc.kdL.eq_7<|And.intro @Zig.eq_1<|And.intro @Zig.eq_2<|And.intro @Qg.eq_1<|And.intro @Qg.eq_2<|And.intro @Qg.eq_3<|And.intro @Je.eq_1<|And.intro @Je.eq_2<|And.intro @Je.eq_3<|And.intro @Je.eq_4<|And.intro @Sf.eq_1<|And.intro @Sf.eq_2<|And.intro @SV.bd.eq_1<|And.intro @SV.bd.eq_2<|And.intro @SV.bd.eq_3<|And.intro @Vc.S1.bd.eq_1<|And.intro @Vc.S1.bd.eq_2<|And.intro @At.bd.eq_1<|And.intro @At.bd.eq_2<|And.intro @At.bd.eq_3<|And.intro @At.bd.eq_4<|And.intro @At.bd.eq_5<|And.intro @At.bd.eq_6<|And.intro @Value.oneCell'.eq_1<|And.intro @Value.oneCell'.eq_2<|And.intro @Value.oneCell'.eq_3<|And.intro @Vc.lenOf.eq_1<|And.intro @H5.eq_1<|And.intro @F7.eq_1<|And.intro @F7.eq_2<|And.intro @Up.eq_1<|And.intro @Up.eq_2<|And.intro @Up.eq_3<|And.intro @Vc.atK.eq_1<|And.intro @Vc.atK.eq_2<|And.intro @Vc.atK.eq_3<|And.intro @Mh.eq_1<|And.intro @Vc.unK.eq_1<|And.intro @Vc.unK.eq_2<|And.intro @Vc.unK.eq_3<|And.intro @Vc.wfK.eq_1<|And.intro @Vc.wfK.eq_2<|And.intro @Vc.wfK.eq_3<|And.intro @Tf.eq_1<|And.intro @Tf.eq_2<|And.intro @Tf.eq_3<|And.intro @Tf.eq_4<|And.intro @Uo.eq_1<|And.intro @Uo.eq_2<|And.intro @Rd.eq_1<|And.intro @Rd.eq_2<|And.intro @Rd.eq_3<|And.intro @Vo.eq_1<|And.intro @Vo.eq_2<|And.intro @Qe.eq_1<|And.intro @Qe.eq_2<|And.intro @Qe.eq_3<|And.intro @Qe.eq_4<|And.intro @Tt.eq_1<|And.intro @Tt.eq_2<|And.intro @X5.eq_1<|And.intro @X5.eq_2<|And.intro @X5.eq_3<|And.intro @X5.eq_4<|And.intro @X5.eq_5<|And.intro @Ij.eq_1<|And.intro @Ij.eq_2<|And.intro @Vc.sg.eq_1<|And.intro @Rx.eq_1<|And.intro @La.eq_1<|And.intro @La.eq_2<|And.intro @Ek.eq_1<|And.intro @Hd.eq_1<|And.intro @Hd.eq_2<|And.intro @Vd.eq_1<|And.intro @Vd.eq_2<|And.intro @Res.own.eq_1<|And.intro @Res.own.eq_2<|And.intro @Res.own.eq_3<|And.intro @Res.own.eq_4<|And.intro @Res.own.eq_5<|And.intro @Res.own.eq_6<|And.intro @Res.own.eq_7<|And.intro @Res.own.eq_8<|And.intro @At.sub.eq_1<|And.intro @At.sub.eq_2<|And.intro @At.sub.eq_3<|And.intro @At.sub.eq_4<|And.intro @Vc.S1.sub.eq_1<|And.intro @Vc.S1.sub.eq_2<|And.intro @SV.sub.eq_1<|And.intro @SV.sub.eq_2<|And.intro @SV.sub.eq_3<|And.intro @Res.sub.eq_1<|And.intro @Res.sub.eq_2<|And.intro @Res.sub.eq_3<|And.intro @Res.sub.eq_4<|And.intro @Ct.eq_1<|And.intro @Vc.endP.eq_1<|And.intro @I6.eq_1<|And.intro @I6.eq_2<|And.intro @I0.eq_1<|And.intro @I0.eq_2<|And.intro @P6.eq_1<|And.intro @P6.eq_2<|And.intro @P6.eq_3<|And.intro @P6.eq_4<|And.intro @Vc.frS.eq_1<|And.intro @Vc.frS.eq_2<|And.intro @Kd.sz.eq_1<|And.intro @Kd.sz.eq_2<|And.intro @Kd.sz.eq_3<|And.intro @Kd.sz.eq_4<|And.intro @Kd.sz.eq_5<|And.intro @Vc.flk.eq_1<|And.intro @Vc.flk.eq_2<|And.intro @Ej.eq_1<|And.intro @Ej.eq_2<| @Ej.eq_3):=
 ⟨@Zh7,@Zd9,@Zea,@Vc.exK.eq_1,@Cv,@Cw,@I1,@I2,@Ef,@Vc.exDK.eq_1,@Lk.eq_1,@Lk.eq_2,@I5.eq_1,@I5.eq_2,@Vg.eq_1,@Vg.eq_2,@Vg.eq_3,@Vg.eq_4,@Vg.eq_5,@Vg.eq_6,@Vg.eq_7,@Vg.eq_8,@Vg.eq_9,@Vg.eq_10,@Vg.eq_11,@Vg.eq_12,@Vg.eq_13,@Vg.eq_14,@Vg.eq_15,@Vg.eq_16,@Vc.wkR.eq_1,@Vc.wkR.eq_2,@Vc.wkR.eq_3,@Vc.wkR.eq_4,@Zeb,@Cy,@Cz,@Zec,@C0,@C1,@Vc.exqK.eq_1,@Ib.eq_1,@Vc.putK.eq_1,@Vc.ev.eq_1,@Vc.ev.eq_2,@Vc.ev.eq_3,@Vc.ev.eq_4,@Vc.ev.eq_5,@Vc.ev.eq_6,@Vc.ev.eq_7,@Vc.ev.eq_8,@Vc.ev.eq_9,@Vc.ev.eq_10,@Vc.ev.eq_11,@Vc.ev.eq_12,@Vc.ev.eq_13,@Vc.ev.eq_14,@Vc.ev.eq_15,@Vc.ev.eq_16,@Vc.ev.eq_17,@Vc.ev.eq_18,@Vc.ev.eq_19,@Vc.ev.eq_20,@Vc.ev.eq_21,@Vc.ev.eq_22,@Vc.ev.eq_23,@Vc.ev.eq_24,@Vc.ev.eq_25,@Vc.ev.eq_26,@Vc.ev.eq_27,@Vc.ev.eq_28,@Vc.ev.eq_29,@Vc.ev.eq_30,@Vc.ev.eq_31,@Vc.st.eq_1,@Vc.st.eq_2,@Vc.st.eq_3,@Vc.st.eq_4,@Vc.st.eq_5,@Vc.st.eq_6,@Vc.st.eq_7,@Vc.st.eq_8,@Vc.st.eq_9,@Vc.st.eq_10,@Vc.st.eq_11,@Vc.st.eq_12,@Vc.st.eq_13,@Vc.st.eq_14,@Vc.st.eq_15,@Vc.st.eq_16,@Vc.st.eq_17,@Vc.st.eq_18,@Vc.st.eq_19,@Vc.st.eq_20,@Vc.st.eq_21,@Vc.st.eq_22,@Vc.st.eq_23,@Vc.st.eq_24,@Vc.st.eq_25,@Vc.st.eq_26,@Vc.st.eq_27,@Zht.eq_1,@Jf.eq_1,@Jf.eq_2,@Jf.eq_3,@Vc.stq.eq_1,@Vc.stq.eq_2,@Vc.stq.eq_3,@Vc.stq.eq_4,@Vc.gst.eq_1,@Vc.gst.eq_2,@Za6.eq_1,@Za6.eq_2,@St.rd.eq_1,@St.rd.eq_2,@St.rd.eq_3,@St.get.eq_1,@St.put.eq_1,@St.put.eq_2,@St.find.eq_1,@Zo.eq_1,@Zo.eq_2,@St.new.eq_1,@Vc.gdc.eq_1,@Vh.eq_1,@Qy.eq_1,@Qy.eq_2,@Qy.eq_3,@Qy.eq_4,@Qy.eq_5,@Xf.eq_1,@Xf.eq_2,@Xf.eq_3,@Xf.eq_4,@Xf.eq_5,@Xf.eq_6,@Xf.eq_7,@Xf.eq_8,@Xf.eq_9,@Xf.eq_10,@Xf.eq_11,@Xf.eq_12,@Xf.eq_13,@Xf.eq_14,@Xf.eq_15,@Xf.eq_16,@Q7.eq_1,@Q7.eq_2,@Q7.eq_3,@Q7.eq_4,@Q7.eq_5,@Gd.eq_1,@Gd.eq_2,@Gd.eq_3,@Gd.eq_4,@Uw.eq_1,@Uw.eq_2,@Uw.eq_3,@Uw.eq_4,@W1.eq_1,@W1.eq_2,@Rl.eq_1,@Rl.eq_2,@We.eq_1,@Vc.S1.cells.eq_1,@Vc.S1.cells.eq_2,@Vc.upd.eq_1,@Vc.del.eq_1,@Y1.eq_1,@Y1.eq_2,@Vc.noV.eq_1,@Kd.enc.eq_1,@Kd.enc.eq_2,@Kd.enc.eq_3,@Kd.enc.eq_4,@Kd.enc.eq_5,@Kd.enc.eq_6,@Kd.enc.eq_7,@Kd.dec.eq_1,@Kd.dec.eq_2,@Kd.dec.eq_3,@Kd.dec.eq_4,@Kd.dec.eq_5,@Kd.dec.eq_6,@Kd.dec.eq_7,@Kd.dec.eq_8,@Ins.cells.eq_1,@Ln.cells.eq_1,@Yo.eq_1,@Yo.eq_2,@Yo.eq_3,@Yo.eq_4,@Yo.eq_5,@Yo.eq_6,@Yo.eq_7,@Yo.eq_8,@Is.eq_1,@Lo.eq_1,@Lo.eq_2,@N7.eq_1,@N7.eq_2,@Q6.eq_1,@Q6.eq_2,@Q6.eq_3,@Vc.rvs.eq_1,@Vc.rvs.eq_2,@Vc.rvs.eq_3,@Hj.eq_1,@Hj.eq_2,@Y2.eq_1,@Y2.eq_2,@Mz.eq_1,@Mz.eq_2,@Mz.eq_3,@Rc.eq_1,@Rc.eq_2,@Rc.eq_3,@Np.eq_1,@Np.eq_2,@Np.eq_3,@Kc.eq_1,@Kc.eq_2,@Kc.eq_3,@Jj.eq_1,@Jj.eq_2,@Jj.eq_3,@Ji.eq_1,@Ji.eq_2,@Ji.eq_3,@P8.eq_1,@P8.eq_2,@P8.eq_3,@Zfs.eq_1,@N9.eq_1,@N9.eq_2,@Jp.eq_1,@Jp.eq_2,@Sw.eq_1,@Sw.eq_2,@Sp.eq_1,@Sp.eq_2,@Ja.eq_1,@Ja.eq_2,@Vc.kdL.eq_1,@Vc.kdL.eq_2,@Vc.kdL.eq_3,@Vc.kdL.eq_4,@Vc.kdL.eq_5,@Vc.kdL.eq_6,@Vc.kdL.eq_7,@Zig.eq_1,@Zig.eq_2,@Qg.eq_1,@Qg.eq_2,@Qg.eq_3,@Je.eq_1,@Je.eq_2,@Je.eq_3,@Je.eq_4,@Sf.eq_1,@Sf.eq_2,@SV.bd.eq_1,@SV.bd.eq_2,@SV.bd.eq_3,@Vc.S1.bd.eq_1,@Vc.S1.bd.eq_2,@At.bd.eq_1,@At.bd.eq_2,@At.bd.eq_3,@At.bd.eq_4,@At.bd.eq_5,@At.bd.eq_6,@Value.oneCell'.eq_1,@Value.oneCell'.eq_2,@Value.oneCell'.eq_3,@Vc.lenOf.eq_1,@H5.eq_1,@F7.eq_1,@F7.eq_2,@Up.eq_1,@Up.eq_2,@Up.eq_3,@Vc.atK.eq_1,@Vc.atK.eq_2,@Vc.atK.eq_3,@Mh.eq_1,@Vc.unK.eq_1,@Vc.unK.eq_2,@Vc.unK.eq_3,@Vc.wfK.eq_1,@Vc.wfK.eq_2,@Vc.wfK.eq_3,@Tf.eq_1,@Tf.eq_2,@Tf.eq_3,@Tf.eq_4,@Uo.eq_1,@Uo.eq_2,@Rd.eq_1,@Rd.eq_2,@Rd.eq_3,@Vo.eq_1,@Vo.eq_2,@Qe.eq_1,@Qe.eq_2,@Qe.eq_3,@Qe.eq_4,@Tt.eq_1,@Tt.eq_2,@X5.eq_1,@X5.eq_2,@X5.eq_3,@X5.eq_4,@X5.eq_5,@Ij.eq_1,@Ij.eq_2,@Vc.sg.eq_1,@Rx.eq_1,@La.eq_1,@La.eq_2,@Ek.eq_1,@Hd.eq_1,@Hd.eq_2,@Vd.eq_1,@Vd.eq_2,@Res.own.eq_1,@Res.own.eq_2,@Res.own.eq_3,@Res.own.eq_4,@Res.own.eq_5,@Res.own.eq_6,@Res.own.eq_7,@Res.own.eq_8,@At.sub.eq_1,@At.sub.eq_2,@At.sub.eq_3,@At.sub.eq_4,@Vc.S1.sub.eq_1,@Vc.S1.sub.eq_2,@SV.sub.eq_1,@SV.sub.eq_2,@SV.sub.eq_3,@Res.sub.eq_1,@Res.sub.eq_2,@Res.sub.eq_3,@Res.sub.eq_4,@Ct.eq_1,@Vc.endP.eq_1,@I6.eq_1,@I6.eq_2,@I0.eq_1,@I0.eq_2,@P6.eq_1,@P6.eq_2,@P6.eq_3,@P6.eq_4,@Vc.frS.eq_1,@Vc.frS.eq_2,@Kd.sz.eq_1,@Kd.sz.eq_2,@Kd.sz.eq_3,@Kd.sz.eq_4,@Kd.sz.eq_5,@Vc.flk.eq_1,@Vc.flk.eq_2,@Ej.eq_1,@Ej.eq_2,@Ej.eq_3⟩
theorem Zb:type_of%(And.intro @Fb.eq_1<|And.intro @Zbo.eq_1<|And.intro @Zbo.eq_2<|And.intro @Vc.mtR.eq_1<|And.intro @Vc.mtR.eq_2<|And.intro @Vc.mtR.eq_3<|And.intro @Vc.mtR.eq_4<|And.intro @Vc.mtR.eq_5<|And.intro @Vc.mtR.eq_6<|And.intro @Vc.mtR.eq_7<|And.intro @Vc.mtR.eq_8<|And.intro @Vc.mtR.eq_9<|And.intro @Vc.mtR.eq_10<|And.intro @Vc.mtR.eq_11<|And.intro @Vc.mtR.eq_12<|And.intro @Vc.roA.eq_1<|And.intro @Vc.roA.eq_2<|And.intro @Vc.roA.eq_3<|And.intro @Vc.roM.eq_1<|And.intro @Dc.eq_1<|And.intro @Dc.eq_2<|And.intro @Dc.eq_3<|And.intro @Ziy.eq_1<|And.intro @Zgl.eq_1<|And.intro @Er.eq_1<|And.intro @Er.eq_2<|And.intro @Er.eq_3<|And.intro @Jh.eq_1<|And.intro @Jh.eq_2<|And.intro @Vc.fnM.eq_1<|And.intro @Vc.fnM.eq_2<|And.intro @Vc.fnM.eq_3<|And.intro @Vc.fnM.eq_4<|And.intro @Yo.eq_1<|And.intro @Yo.eq_2<|And.intro @Yo.eq_3<|And.intro @Yo.eq_4<|And.intro @Yo.eq_5<|And.intro @Yo.eq_6<|And.intro @Yo.eq_7<|And.intro @Yo.eq_8<|And.intro @St.find.eq_1<|And.intro @Zo.eq_1<|And.intro @Zo.eq_2<|And.intro @Vc.del.eq_1<|And.intro @Vd.eq_1<|And.intro @Vd.eq_2<|And.intro @Res.own.eq_1<|And.intro @Res.own.eq_2<|And.intro @Res.own.eq_3<|And.intro @Res.own.eq_4<|And.intro @Res.own.eq_5<|And.intro @Res.own.eq_6<|And.intro @Res.own.eq_7<|And.intro @Res.own.eq_8<|And.intro @Vc.sg.eq_1<|And.intro @Tf.eq_1<|And.intro @Tf.eq_2<|And.intro @Tf.eq_3<|And.intro @Tf.eq_4<|And.intro @Uo.eq_1<|And.intro @Uo.eq_2<|And.intro @Rd.eq_1<|And.intro @Rd.eq_2<|And.intro @Rd.eq_3<|And.intro @Vo.eq_1<|And.intro @Vo.eq_2<|And.intro @Tt.eq_1<|And.intro @Tt.eq_2<|And.intro @X5.eq_1<|And.intro @X5.eq_2<|And.intro @X5.eq_3<|And.intro @X5.eq_4<|And.intro @X5.eq_5<|And.intro @At.sub.eq_1<|And.intro @At.sub.eq_2<|And.intro @At.sub.eq_3<|And.intro @At.sub.eq_4<|And.intro @Vc.S1.sub.eq_1<|And.intro @Vc.S1.sub.eq_2<|And.intro @Res.sub.eq_1<|And.intro @Res.sub.eq_2<|And.intro @Res.sub.eq_3<|And.intro @Res.sub.eq_4<|And.intro @Kd.enc.eq_1<|And.intro @Kd.enc.eq_2<|And.intro @Kd.enc.eq_3<|And.intro @Kd.enc.eq_4<|And.intro @Kd.enc.eq_5<|And.intro @Kd.enc.eq_6<|And.intro @Kd.enc.eq_7<|And.intro @Ins.cells.eq_1<|And.intro @Ln.cells.eq_1<|And.intro @Value.oneCell'.eq_1<|And.intro @Value.oneCell'.eq_2<|And.intro @Value.oneCell'.eq_3<| @Yz.eq_1):=
 ⟨@Fb.eq_1,@Zbo.eq_1,@Zbo.eq_2,@Vc.mtR.eq_1,@Vc.mtR.eq_2,@Vc.mtR.eq_3,@Vc.mtR.eq_4,@Vc.mtR.eq_5,@Vc.mtR.eq_6,@Vc.mtR.eq_7,@Vc.mtR.eq_8,@Vc.mtR.eq_9,@Vc.mtR.eq_10,@Vc.mtR.eq_11,@Vc.mtR.eq_12,@Vc.roA.eq_1,@Vc.roA.eq_2,@Vc.roA.eq_3,@Vc.roM.eq_1,@Dc.eq_1,@Dc.eq_2,@Dc.eq_3,@Ziy.eq_1,@Zgl.eq_1,@Er.eq_1,@Er.eq_2,@Er.eq_3,@Jh.eq_1,@Jh.eq_2,@Vc.fnM.eq_1,@Vc.fnM.eq_2,@Vc.fnM.eq_3,@Vc.fnM.eq_4,@Yo.eq_1,@Yo.eq_2,@Yo.eq_3,@Yo.eq_4,@Yo.eq_5,@Yo.eq_6,@Yo.eq_7,@Yo.eq_8,@St.find.eq_1,@Zo.eq_1,@Zo.eq_2,@Vc.del.eq_1,@Vd.eq_1,@Vd.eq_2,@Res.own.eq_1,@Res.own.eq_2,@Res.own.eq_3,@Res.own.eq_4,@Res.own.eq_5,@Res.own.eq_6,@Res.own.eq_7,@Res.own.eq_8,@Vc.sg.eq_1,@Tf.eq_1,@Tf.eq_2,@Tf.eq_3,@Tf.eq_4,@Uo.eq_1,@Uo.eq_2,@Rd.eq_1,@Rd.eq_2,@Rd.eq_3,@Vo.eq_1,@Vo.eq_2,@Tt.eq_1,@Tt.eq_2,@X5.eq_1,@X5.eq_2,@X5.eq_3,@X5.eq_4,@X5.eq_5,@At.sub.eq_1,@At.sub.eq_2,@At.sub.eq_3,@At.sub.eq_4,@Vc.S1.sub.eq_1,@Vc.S1.sub.eq_2,@Res.sub.eq_1,@Res.sub.eq_2,@Res.sub.eq_3,@Res.sub.eq_4,@Kd.enc.eq_1,@Kd.enc.eq_2,@Kd.enc.eq_3,@Kd.enc.eq_4,@Kd.enc.eq_5,@Kd.enc.eq_6,@Kd.enc.eq_7,@Ins.cells.eq_1,@Ln.cells.eq_1,@Value.oneCell'.eq_1,@Value.oneCell'.eq_2,@Value.oneCell'.eq_3,@Yz.eq_1⟩
theorem Zt:type_of%(And.intro @Tz.eq_1<|And.intro @Tz.eq_2<|And.intro @O9.eq_1<|And.intro @O9.eq_2<|And.intro @Vc.bnd.eq_1<|And.intro @Vc.bnd.eq_2<|And.intro @St.get.eq_1<|And.intro @St.find.eq_1<|And.intro @Zo.eq_1<|And.intro @Zo.eq_2<|And.intro @SV.ren.eq_1<|And.intro @SV.ren.eq_2<|And.intro @SV.ren.eq_3<|And.intro @Vc.S1.ren.eq_1<|And.intro @Vc.S1.ren.eq_2<|And.intro @At.ren.eq_1<|And.intro @At.ren.eq_2<|And.intro @At.ren.eq_3<|And.intro @At.ren.eq_4<|And.intro @At.ren.eq_5<|And.intro @Res.ren.eq_1<|And.intro @Res.ren.eq_2<|And.intro @Res.ren.eq_3<|And.intro @Res.ren.eq_4<|And.intro @Res.ren.eq_5<|And.intro @Res.ren.eq_6<|And.intro @Res.ren.eq_7<|And.intro @SV.bd.eq_1<|And.intro @SV.bd.eq_2<|And.intro @SV.bd.eq_3<|And.intro @Vc.S1.bd.eq_1<|And.intro @Vc.S1.bd.eq_2<|And.intro @At.bd.eq_1<|And.intro @At.bd.eq_2<|And.intro @At.bd.eq_3<|And.intro @At.bd.eq_4<|And.intro @At.bd.eq_5<|And.intro @At.bd.eq_6<|And.intro @Res.bd.eq_1<|And.intro @Res.bd.eq_2<|And.intro @Res.bd.eq_3<|And.intro @Res.bd.eq_4<|And.intro @Res.bd.eq_5<|And.intro @Res.bd.eq_6<|And.intro @Res.bd.eq_7<|And.intro @Vc.upd.eq_1<|And.intro @Vc.del.eq_1<|And.intro @Kd.enc.eq_1<|And.intro @Kd.enc.eq_2<|And.intro @Kd.enc.eq_3<|And.intro @Kd.enc.eq_4<|And.intro @Kd.enc.eq_5<|And.intro @Kd.enc.eq_6<|And.intro @Kd.enc.eq_7<|And.intro @Value.oneCell'.eq_1<|And.intro @Value.oneCell'.eq_2<| @Value.oneCell'.eq_3):=
 ⟨@Tz.eq_1,@Tz.eq_2,@O9.eq_1,@O9.eq_2,@Vc.bnd.eq_1,@Vc.bnd.eq_2,@St.get.eq_1,@St.find.eq_1,@Zo.eq_1,@Zo.eq_2,@SV.ren.eq_1,@SV.ren.eq_2,@SV.ren.eq_3,@Vc.S1.ren.eq_1,@Vc.S1.ren.eq_2,@At.ren.eq_1,@At.ren.eq_2,@At.ren.eq_3,@At.ren.eq_4,@At.ren.eq_5,@Res.ren.eq_1,@Res.ren.eq_2,@Res.ren.eq_3,@Res.ren.eq_4,@Res.ren.eq_5,@Res.ren.eq_6,@Res.ren.eq_7,@SV.bd.eq_1,@SV.bd.eq_2,@SV.bd.eq_3,@Vc.S1.bd.eq_1,@Vc.S1.bd.eq_2,@At.bd.eq_1,@At.bd.eq_2,@At.bd.eq_3,@At.bd.eq_4,@At.bd.eq_5,@At.bd.eq_6,@Res.bd.eq_1,@Res.bd.eq_2,@Res.bd.eq_3,@Res.bd.eq_4,@Res.bd.eq_5,@Res.bd.eq_6,@Res.bd.eq_7,@Vc.upd.eq_1,@Vc.del.eq_1,@Kd.enc.eq_1,@Kd.enc.eq_2,@Kd.enc.eq_3,@Kd.enc.eq_4,@Kd.enc.eq_5,@Kd.enc.eq_6,@Kd.enc.eq_7,@Value.oneCell'.eq_1,@Value.oneCell'.eq_2,@Value.oneCell'.eq_3⟩
theorem Ent.mk1{c:Cx}{S S2:St}(σ:Nat→Nat)(h:Tz σ S S2.slots∧O9 σ S S2.nx S2.res∧bnd S2.nx S2.slots∧(S2.res.map fun p=>σ p.1).Nodup):Ent c S S2:=Ent.mk σ h.1 h.2.1 h.2.2.1 h.2.2.2
class Stp (c:Cx) (x:IC) (Q:Exit→St→Prop) (S:St) (G:outParam Prop):Prop where
 h:G→T c x Q S
class Mix (P:Program):Prop where
 m:P.follows .mixedOrders=true
section
variable {c:Cx} {Q:Exit→St→Prop} {S:St}
instance {x y:IC}:Stp c (.seq x y) Q S (T c x (Lo (T c y Q) Q) S):=⟨T.seq⟩
instance {id:Nat} {x:IC}:Stp c (.block id x) Q S (T c x (N7 id Q) S):=⟨T.block⟩
instance {l:List In} {y:IC}:Stp c (.seq (.reg l) y) Q S (ex c l S (T c y Q)):=⟨T.regs⟩
instance {o:Opd} {x y:IC}:Stp c (.cond o x y) Q S (Is S o (T c x Q S) (T c y Q S)):=⟨T.cond⟩
instance {l:List In}:Stp c (.reg l) Q S (ex c l S (Q .normal)):=⟨T.reg⟩
instance:Stp c .ret Q S (Q .ret S):=⟨T.ret⟩
instance {id:Nat}:Stp c (.exit id) Q S (Q (.exit id) S):=⟨T.exit⟩
instance:Stp c .skip Q S (Q .normal S):=⟨T.skip⟩
instance [Mix c.P] {l:List In} {y:IC}:Stp c (.seq (.dreg l) y) Q S (exq c l S (T c y Q)):=⟨T.dregs Mix.m⟩
instance [Mix c.P] {l:List In}:Stp c (.dreg l) Q S (exq c l S (Q .normal)):=⟨T.dreg Mix.m⟩
instance [Mix c.P] {a b:List In} {y:IC}:Stp c (.seq (.dregt a b) y) Q S (exh a S fun S'=>ex c b S' (T c y Q)):=⟨T.dregts Mix.m⟩
instance [Mix c.P] {a b:List In}:Stp c (.dregt a b) Q S (exh a S fun S'=>ex c b S' (Q .normal)):=⟨T.dregt Mix.m⟩
instance [Mix c.P] {t:DT} {y:IC}:Stp c (.seq (.dany t) y) Q S (exD c S.res t S (T c y Q)):=⟨T.danys Mix.m⟩
instance [Mix c.P] {t:DT}:Stp c (.dany t) Q S (exD c S.res t S (Q .normal)):=⟨T.dany Mix.m⟩
end
class Cl (g:Prop) (P:outParam Program) (f:outParam Nat) (args:outParam (List S1)) (S:outParam St) (K:outParam (SV→Prop)):Prop where
 h:∀ {ps:List Pat} {r:SV},RdC P f ps r→pm S args ps∧r.bd 0→K r→g
section
variable {c:Cx} {f:Nat} {args:List S1} {S:St}
instance {K:SV→St→Prop}:Cl (Za c f args S K) c.P f args S (fun r=>K r S):=⟨fun h hv hK=>Za.rd h hv hK⟩
instance {K:SV→Prop}:Cl (Zn c f args S K) c.P f args S K:=⟨fun h hv hK=>Zn.rd h hv hK⟩
def oneK(K:S1→Prop):SV→Prop
 |.one r=>K r
 |_=>False
theorem Bz{K:S1→Prop}{r:S1}:oneK K (.one r)=K r:=rfl
instance {b:Bool} {K:SV→St→Prop}:Cl (Ze c b f args S K) c.P f args S (oneK fun r=>K (.opt b r) S):=⟨fun {ps r} h hv hK=>by
 cases r with
 |one r=>exact Ze.rd h hv hK
 |_=>exact hK.elim⟩
instance {b:Bool} {K:SV→Prop}:Cl (Zh c b f args S K) c.P f args S (oneK fun r=>K (.opt b r)):=⟨fun {ps r} h hv hK=>by
 cases r with
 |one r=>exact Zh.rd h hv hK
 |_=>exact hK.elim⟩
end
theorem rq{g:Prop}{P:Program}{f:Nat}{args:List S1}{S:St}{K:SV→Prop}[k:Cl g P f args S K]{ps:List Pat}{r:SV}(h:RdC P f ps r)(hv:pm S args ps∧r.bd 0)(hK:K r):g:=k.h h hv hK
theorem tg{a:Bool}{p:Prop}(h:a=true)(h':a=false):p:=(tf h h').elim
theorem wrapL:IntKind.i64.wrap 0=0∧IntKind.i64.wrap 1=1∧IntKind.i64.wrap 2=2∧IntKind.i64.wrap 3=3:=⟨rfl,rfl,rfl,rfl⟩
theorem Zc:type_of%(And.intro @lemB<|And.intro @lemL<|And.intro @wrapL @Bz):=⟨@lemB,@lemL,@wrapL,@Bz⟩
theorem Zz:type_of%(And.intro @Zt<|And.intro @Zb<|And.intro @pm.eq_1<|And.intro @pm.eq_2<|And.intro @pm1.eq_1<|And.intro @pm1.eq_2<|And.intro @pm1.eq_3<|And.intro @Sf.eq_1<|And.intro @Sf.eq_2<|And.intro @Q4.eq_1<|And.intro @Q4.eq_2<|And.intro @Q4.eq_3 @At.bd.eq_1):=⟨@Zt,@Zb,@pm.eq_1,@pm.eq_2,@pm1.eq_1,@pm1.eq_2,@pm1.eq_3,@Sf.eq_1,@Sf.eq_2,@Q4.eq_1,@Q4.eq_2,@Q4.eq_3,@At.bd.eq_1⟩
abbrev i1(d:Nat)(x:I):In:=⟨none,some d,x⟩
abbrev i0(x:I):In:=⟨none,none,x⟩
abbrev i2(t:Nat)(b:Bool)(d:Nat)(x:I):In:=⟨some (t,b),some d,x⟩
abbrev mv(d s:Nat):In:=⟨none,some d,.mv (.t s)⟩
abbrev kI(n:Int):Opd:=.k (.a (.int .i64 n))
abbrev kB(b:Bool):Opd:=.k (.a (.bool b))
abbrev tk(d:Nat)(x:I)(b:Bool)(r:DT):DT:=.take ⟨none,some d,x⟩ b r
abbrev al(d:Nat)(x:I)(b:Bool)(r s:DT):DT:=.alt ⟨none,some d,x⟩ b r s
abbrev tm(d s:Nat)(b:Bool)(r:DT):DT:=.take ⟨none,some d,.mv (.t s)⟩ b r
end Vc
end Go.Proofs.YtddmlennnmpnhaaGreatDoor
