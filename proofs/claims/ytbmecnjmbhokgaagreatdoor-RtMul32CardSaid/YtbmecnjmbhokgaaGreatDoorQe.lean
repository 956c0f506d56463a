/- A part of the proofs of this seat's laws: steps on the way, joined. It has no conditions of its own. -/
import Derived.Test.YtbmecnjmbhokgaaGreatDoorQd
import Derived.Test.YtbmecnjmbhokgaaGreatDoorChecked
import Derived.KernelRfl
import Derived.Lib.ItoaNum
import Derived.Lib.ItoaLen
import Derived.Lib.ItoaMem
import Derived.Lib.Join
import Derived.Lib.LaidTab
import Derived.Shelf.Strings.Builder1
import Derived.Shelf.Strings.Builder2
import Derived.Shelf.Strings.Trim
import Derived.Shelf.Small.Utf8
import Derived.Shelf.Small.Strs
import Derived.Shelf.Small.Wraps
import Derived.Shelf.Strconv.Atoi
import Derived.Shelf.Strconv.Itoa0
import Derived.Shelf.Strconv.Itoa1
import Derived.Shelf.LaysM
import Derived.Shelf.Strconv.Itoa2
import Derived.Shelf.Strconv.Itoa3
import Derived.Shelf.Strings.Search1
import Derived.Shelf.Strings.Search2
import Derived.Shelf.Strings.Search3
import Derived.Shelf.Strings.Cut
import Derived.Shelf.Strings.Count
import Derived.Shelf.Strings.Shaped
import Derived.Shelf.Sort.Plain
import Derived.Shelf.Strings.Prefix
import Derived.Shelf.Strings.Split
import Derived.Shelf.Strings.Replace
import Derived.Shelf.Strings.Runes
import Derived.Shelf.Strings.AsciiSet
import Derived.Shelf.Unicode.DecodeSlow
import Derived.Shelf.Slices.In.SortNone
import Derived.Test.YtbmecnjmbhokgaaGreatDoorProg
import Derived.Shelf.Strings.SlTrimAscii
import Derived.Lib.AtoiErrMem
import Derived.LaidMore
import Derived.Stop.Joined
import Derived.Stop.LaidErr
import Derived.SevenTiedAt
import Derived.Shelf.Vars
namespace Go.Proofs.YtbmecnjmbhokgaaGreatDoor
namespace Vc
open Go.RowKit
set_option linter.unusedVariables false
set_option linter.unusedSimpArgs false
def Gm(P':Program)(S:St)(σ:Nat→At)(args args':List S1)(R:List (Nat×Res)):Prop:=
 args'=args.map (S1.sub σ)∧Zbj P' S ⟨S.slots,del S.res (Vb σ R),S.nx⟩ σ R∧(Vb σ R).Nodup
def Ro(σ:Nat→At)(nx snx:Nat)(n:Nat):At:=if n<nx then σ n else .ref (snx+(n-nx))
def Mz(σ:Nat→At):List (Nat×Res)→List (Nat×Res)
 | []=>[]
 |(n,r)::l=>(I0 (σ n),r.sub σ)::Mz σ l
def F0(S:St)(σ:Nat→At)(R R':List (Nat×Res))(nx nx':Nat):St:=⟨S.slots,Mz (Ro σ nx S.nx) R'++del S.res (Vb σ R),S.nx+(nx'-nx)⟩
theorem Zak.at{c:Cx}{S:St}{ρ:Env}{w:World}{ds O:List Nat}(hm:Mem c ρ S.res S.nx w)(hO:∀b∈O,∃m r,(m,r)∈S.res∧m∈ds∧r.block ρ m=some b){P:Program}{f:Nat}{ms:List Nat}{g:List S1→Option SV}
 (h:Zak P (del S.res ds) S.nx f ms g)(hms:∀m∈ms,m<S.nx){w':World}(hk:Rb O w w'):FnAt P w' (.func (.func f) #[] (ms.map fun m=>Wl (ρ m) 0).toArray) g:=by
 obtain⟨h1,nt,x,rl,hF,h2⟩:=h
 refine⟨f,_,⟨rfl,h1⟩,fun aq r hr=> ?_⟩
 obtain⟨g1,g2,g3,g4⟩:=h2 aq r hr
 have hb:=O5 g1
 have e1:(aq.map (S1.den fun _=>Yv)).toArray++(ms.map fun m=>Wl (ρ m) 0).toArray=((aq++ms.map fun m=>S1.a (.loc m 0)).map (S1.den ρ)).toArray:=by
  rw[←Gr (ρ:=ρ) hb]
  simp only[List.map_append,List.map_map,List.append_toArray];rfl
 rw[e1]
 refine hF.calls (S:=⟨Y1 0 (aq++ms.map fun m=>S1.a (.loc m 0)),roR (del S.res ds),S.nx⟩) (ρ:=ρ) (X:=[]) (fr:=[]) (R:=Ze0 r) (by simpa using g3) (fun t v hv=> ?_) (roR_mem hm hO hk P nt).cx (g4 w') fun v S' ρ' w'' hv _ hm'=>⟨?_,hm'.toBelow⟩
 ·obtain⟨j,k1,k2,k3⟩:=T7 (ρ:=ρ) (nx:=S.nx) (fun v hv=>by
   rcases List.mem_append.1 hv with hv|hv
   ·exact S1.bd_mono (Nat.zero_le _) (hb v hv)
   ·obtain⟨m,hm,rfl⟩:=List.mem_map.1 hv;exact hms m hm) hv
  simp only[Nat.zero_add]at k1
  subst k1
  have hjl:t<BIG:=by
   have:=(List.getElem?_eq_some_iff.1 k2).1
   have h4:=hF.lown
   simp only[List.length_map,List.length_append]at this
   omega
  exact⟨by rw[if_pos hjl];simpa using k2,k3⟩
 ·rw[show v=r from hv,SV.den_same (nx:=0) (ρ:=fun _=>Yv) (fun n hn=>by omega) g2]
theorem romM_O{c:Cx}{S:St}{ρ:Env}{w:World}{ds O:List Nat}(hm:Mem c ρ S.res S.nx w)(hO:∀b∈O,∃m r,(m,r)∈S.res∧m∈ds∧r.block ρ m=some b){m n:Nat}{P:Program}{K E:TypeId}{k:Kd}{f:List UInt8→Option k.ty}{q:Nat}
 (h:Zhp ⟨S.slots,del S.res ds,S.nx⟩ m (.rosmap P K E k f q)){ρ':Env}(hn:ρ' n=ρ m):(Res.rosmap P K E k f q).holds ρ' O n w:=by
 unfold Zhp at h
 split at h
 ·rename_i hf
  cases h
  obtain⟨b,es,clock,h1,h2,h3⟩:=hm.res _ _ (Yq (Yp hf))
  exact⟨b,es,clock,by rw[hn];exact h1,⟨h2,Uo hm hO (Yp hf) (by simp[Res.block,h1])⟩,h3⟩
 ·rename_i hf
  cases h
  obtain⟨b,es,clock,h1,h2,h3⟩:=hm.res _ _ (Yq (Yp hf))
  exact⟨b,es,clock,by rw[hn];exact h1,⟨h2.1,V3 hO h2.2⟩,h3⟩
 ·exact h.elim
theorem rocM_O{c:Cx}{S:St}{ρ:Env}{w:World}{ds O:List Nat}(hm:Mem c ρ S.res S.nx w)(hO:∀b∈O,∃m r,(m,r)∈S.res∧m∈ds∧r.block ρ m=some b){σ:Nat→At}{n:Nat}{l:List At}
 (h:En σ ⟨S.slots,del S.res ds,S.nx⟩ l (σ n))(hok:∀x∈l,x.okN fun _=>True):(Res.rocells l).holds (fun n=>(σ n).den ρ) O n w:=by
 have hsub:∀ {u:At},u∈l→(u.sub σ).den ρ=u.den fun n=>(σ n).den ρ:=fun hu=>At.sub_den (p:=fun _=>True) (fun n _=>rfl) (hok _ hu)
 unfold En at h
 split at h
 ·rename_i m hσ
  split at h
  ·rename_i E l' hf
   subst h
   obtain⟨b,hv,hb⟩:=hm.res _ _ (Yq (Yp hf))
   refine⟨⟨b,0,none⟩,by simp only[hσ,At.den,hv],fun j u hu=>⟨?_,Uo hm hO (Yp hf) (by simp[Res.block,hv])⟩⟩
   rw[cell_of_row w b _ _ E (0,0) hb,←hsub (List.mem_of_getElem? hu)]
   simp[hu]
  ·rename_i l' hf
   subst h
   obtain⟨a,hv,hc⟩:=hm.res _ _ (Yq (Yp hf))
   refine⟨a,by simp only[hσ,At.den,hv],fun j u hu=> ?_⟩
   obtain⟨g1,g2⟩:=hc j (u.sub σ) (by simp[hu])
   exact⟨by rw[g1,hsub (List.mem_of_getElem? hu)],V3 hO g2⟩
  ·exact h.elim
 ·rename_i m o hσ
  have hget:∀ {l':List At},(l'.drop o).take l.length=l.map (At.sub σ)→∀ {j:Nat} {u:At},l[j]? =some u→l'[o+j]? =some (u.sub σ):=by
   intro l' h2 j u hu
   have:=congrArg (fun z:List At=>z[j]?) h2
   simp only[List.getElem?_take,List.getElem?_drop,List.getElem?_map,hu,Option.map_some]at this
   rwa [if_pos (List.getElem?_eq_some_iff.1 hu).1]at this
  split at h
  ·rename_i E l' hf
   obtain⟨b,hv,hb⟩:=hm.res _ _ (Yq (Yp hf))
   refine⟨⟨b,o,none⟩,by simp only[hσ,At.den,hv,Wl,Nat.zero_add],fun j u hu=>⟨?_,Uo hm hO (Yp hf) (by simp[Res.block,hv])⟩⟩
   rw[cell_of_row w b _ _ E (0,0) hb,←hsub (List.mem_of_getElem? hu)]
   simp[hget h.2 hu]
  ·rename_i l' hf
   obtain⟨a,hv,hc⟩:=hm.res _ _ (Yq (Yp hf))
   refine⟨⟨a.block,a.off+o,none⟩,by simp only[hσ,At.den,hv,Wl],fun j u hu=> ?_⟩
   obtain⟨g1,g2⟩:=hc (o+j) _ (hget h.2 hu)
   exact⟨by simp only[Nat.add_assoc];rw[g1,hsub (List.mem_of_getElem? hu)],V3 hO g2⟩
  ·exact h.elim
 ·exact h.elim
theorem Zfi{c:Cx}{S:St}{ρ:Env}{w:World}{ds O:List Nat}(hm:Mem c ρ S.res S.nx w)(hO:∀b∈O,∃m r,(m,r)∈S.res∧m∈ds∧r.block ρ m=some b){σ:Nat→At}{n:Nat}{r:Res}
 (h:mtR c.P S ⟨S.slots,del S.res ds,S.nx⟩ σ n r)(hok:r.okN fun _=>True):r.holds (fun n=>(σ n).den ρ) O n w∧(r.own=true→∃m,σ n= .ref m∧(m,r.sub σ)∈S.res):=by
 have hOs:∀b∈O,b∈Zp ρ S.res:=fun b hb=>by
  obtain⟨m',r',h1,h2,h3⟩:=hO b hb
  exact List.mem_filterMap.2 ⟨_,h1,h3⟩
 have own:∀ {r':Res},r'=r.sub σ→r.own=true→Kz S r' (σ n)→r.holds (fun n=>(σ n).den ρ) O n w∧(r.own=true→∃m,σ n= .ref m∧(m,r.sub σ)∈S.res):=by
  intro r' e ho h
  subst e
  unfold Kz at h
  split at h
  ·rename_i m hσ
   exact⟨Zdv (p:=fun _=>True) (fun n _=>rfl) (by simp only[hσ,At.den]) hok ho hOs (hm.res _ _ (Zg h)),fun _=>⟨m,hσ,Zg h⟩⟩
  ·exact h.elim
 cases r with
 |cells E l=>exact own rfl rfl h
 |lit E sz e l=>exact own rfl rfl h
 |row E k l=>exact own rfl rfl h
 |smap P K E k f q=>exact own rfl rfl h
 |urow b E l=>exact own rfl rfl h
 |fmap l=>exact own rfl rfl h
 |ro k l=>exact⟨RoO.holds (ρ:=fun n=>(σ n).den ρ) (roA_O hm hO h),fun h=>by cases h⟩
 |rocells l=>exact⟨rocM_O hm hO h hok,fun h=>by cases h⟩
 |rou l=>
  refine⟨?_,fun h=>by cases h⟩
  simp only[mtR]at h
  split at h
  ·rename_i m hσ;exact Zhq hm hO h (by simp only[hσ,At.den])
  ·rename_i hσ
   subst h
   exact⟨none,0,by simp only[hσ,At.den];exact⟨rfl,Nat.le_refl _⟩,fun _=>rfl,fun ad had=>by cases had⟩
  ·exact h.elim
 |rosmap P K E k f q=>
  refine⟨?_,fun h=>by cases h⟩
  simp only[mtR]at h
  split at h
  ·rename_i m hσ;exact romM_O hm hO h (by simp only[hσ,At.den])
  ·exact h.elim
 |fn P g=>
  refine⟨?_,fun h=>by cases h⟩
  simp only[mtR]at h
  unfold fnM at h
  split at h
  ·rename_i m hσ
   have hr:=hm.res _ _ (Yq (Yp h))
   intro w' hk
   simp only[hσ,At.den]
   exact hr w' fun b o hbo hb=>hk b o hbo (V3 hO hb)
  ·rename_i f ms hσ
   obtain⟨rfl,h1,h2⟩:=h
   intro w' hk
   simp only[hσ,At.den]
   exact h2.at hm hO h1 hk
  ·rename_i f _ _ hσ
   obtain⟨rfl,⟨rfl,rfl⟩,h2⟩:=h
   intro w' hk
   simp only[hσ,At.den]
   exact h2.at hm hO (fun m hm=>nomatch hm) hk
  ·exact h.elim
 |fact _=>exact h.elim
 |view _ _ _ _=>exact h.elim
 |fiter _ _ _=>exact h.elim
 |arr _ _ _=>exact h.elim
theorem Zhl{p:Nat→Prop}{r:Res}(h:r.okN p):r.okN fun _=>True:=by
 cases r<;>first|trivial|exact h.elim|exact fun y hy=>At.okN_mono (fun _ _=>trivial) (h y hy)
theorem On{σ:Nat→At}:∀ {l:List (Nat×Res)} {p:Nat×Res},p∈Mz σ l→∃n r,(n,r)∈l∧p=(I0 (σ n),r.sub σ)
 |(m,s)::l,p,h=>by
  rcases List.mem_cons.1 h with e|h
  ·exact⟨m,s,List.mem_cons_self ..,e⟩
  ·obtain⟨n,r,h1,h2⟩:=On h
   exact⟨n,r,List.mem_cons_of_mem _ h1,h2⟩
theorem Za.gcpσ{G:Nat}{H:Nat→Option Obj}{c:Cx}(hglob:Wb G H c.w0 c.X){f:Nat}{args args':List S1}{S:St}{K:SV→St→Prop}{R:List (Nat×Res)}{nx:Nat}{keep:List Nat}{v:SV}{R':List (Nat×Res)}{nx':Nat}(h:GCp G H c.P f args R nx keep v R' nx')(b0:Bnd)
 (hv:Gm c.P S (sg b0) args args' R)(hK:K (v.sub (Ro (sg b0) nx S.nx)) (F0 S (sg b0) R R' nx nx')):Za c f args' S K:=by
 intro ρ a w hh
 obtain⟨⟨w1,w2,w3,w4,w5,w6,w7,w8,w9⟩,hrun⟩:=h
 obtain⟨rfl,hmt,hnd⟩:=hv
 have hone:∀n,((sg b0 n).den ρ).oneCell'=true:=fun n=>Zhs b0 n hh.mem.one
 generalize hσ:sg b0=σ at hmt hnd hK hone
 generalize hds:Vb σ R=ds at hmt hnd
 have hm:=hh.mem
 have hR:∀n r O,(∀b∈O,∃m r,(m,r)∈S.res∧m∈ds∧r.block ρ m=some b)→(n,r)∈R→r.holds (fun n=>(σ n).den ρ) O n w∧(r.own=true→∃m,σ n= .ref m∧(m,r.sub σ)∈S.res):=fun n r O hO hr=>
  Zfi hm hO (C9 hmt hr) (Zhl (Xo w2 n r hr).2)
 have hownR:∀n r b,(n,r)∈R→r.block (fun n=>(σ n).den ρ) n=some b→∃m,σ n= .ref m∧m∈ds∧(m,r.sub σ)∈S.res∧(r.sub σ).block ρ m=some b:=fun n r b hr hb=>by
  have ho:=Qp hb
  obtain⟨m,h1,h2⟩:=(hR n r [] (fun b hb=>nomatch hb) hr).2 ho
  exact⟨m,h1,by rw[←hds];exact O8 hr ho h1,h2,by rw[Lj (ρ':=fun n=>(σ n).den ρ) (n:=n) (by simp only[h1,At.den])];exact hb⟩
 have hOc:∀b∈Zp (fun n=>(σ n).den ρ) R,∃m r,(m,r)∈S.res∧m∈ds∧r.block ρ m=some b:=fun b hb=>by
  obtain⟨p,hp,hpb⟩:=List.mem_filterMap.1 hb
  obtain⟨m,h1,h2,h3,h4⟩:=hownR p.1 p.2 b hp hpb
  exact⟨m,_,h3,h2,h4⟩
 have hOcS:∀b∈Zp (fun n=>(σ n).den ρ) R,b∈Zp ρ S.res:=fun b hb=>by
  obtain⟨m,r,h1,_,h3⟩:=hOc b hb
  exact List.mem_filterMap.2 ⟨_,h1,h3⟩
 have hndo:∀(l:List (Nat×Res)),(∀p∈l,p∈R)→(l.map Prod.fst).Nodup→(Zp (fun n=>(σ n).den ρ) l).Nodup:=by
  intro l
  induction l with
  |nil=>intro _ _;exact List.nodup_nil
  |cons p l ih=>
   intro hin hkk
   simp only[List.map_cons,List.nodup_cons]at hkk
   have ih':=ih (fun q hq=>hin q (by simp[hq])) hkk.2
   unfold Zp
   rw[List.filterMap_cons]
   split
   ·exact ih'
   ·rename_i b hb
    refine List.nodup_cons.2 ⟨fun hmem2=> ?_,ih'⟩
    obtain⟨q,hq,hqb⟩:=List.mem_filterMap.1 hmem2
    obtain⟨m1,a1,a2,a3,a4⟩:=hownR p.1 p.2 b (hin p (by simp)) hb
    obtain⟨m2,b1,b2,b3,b4⟩:=hownR q.1 q.2 b (hin q (by simp[hq])) hqb
    have hne:m2≠m1:=fun e=>by
     have:=Ka (R:=R) (by rw[hds];exact hnd) (hin p (by simp)) (hin q (by simp[hq])) (Qp hb) (Qp hqb) a1 (e▸b1)
     exact hkk.1 (by rw[this];exact List.mem_map.2 ⟨q,hq,rfl⟩)
    have h5:=Yf (ds:=[m1]) hm.keys hm.nodup a3 (by simp) a4
    exact h5 (List.mem_filterMap.2 ⟨_,List.mem_filter.2 ⟨b3,by simp[hne]⟩,b4⟩)
 have hmc:Mem ⟨c.P,w,Zp (fun n=>(σ n).den ρ) R,0,[]⟩ (fun n=>(σ n).den ρ) R nx w:=
  ⟨rfl,rfl,rfl,Nat.le_refl _,fun _ _ _=>rfl,hone,w3,fun n r hr=>(hR n r _ hOc hr).1,fun n r hr=>⟨(Xo w2 n r hr).1,Res.okN_bd (Xo w2 n r hr).2⟩,hndo R (fun _ h=>h) w3,
    fun b hb=>⟨(hm.lt b (hOcS b hb)).1,.inr hb⟩⟩
 have hargs:(args.map (S1.sub σ)).map (S1.den ρ)=args.map (S1.den fun n=>(σ n).den ρ):=by
  rw[List.map_map]
  refine List.map_congr_left fun x hx=>S1.sub_den (p:=fun _=>True) (fun n _=>rfl) (S1.okN_mono (fun _ _=>trivial) (Jx w1 x hx))
 have hK':=hK
 rw[hargs]
 have hglob':Wb G H w (Zp (fun n=>(σ n).den ρ) R):=by
  obtain⟨k1,k2,k3⟩:=hglob
  refine⟨Nat.le_trans k1 hm.size,fun b hb=> ?_,fun b hb=> ?_⟩
  ·rw[hm.block b (by omega) (fun hX=>by have:=k3 b hX;omega)];exact k2 b hb
  ·rcases(hm.lt b (hOcS b hb)).2 with h1|h1
   ·omega
   ·exact k3 b h1
 refine(hrun _ w hmc hglob').mono ?_
 rintro e w' ⟨ρ',hkeep,rfl,hm'⟩
 let ρ2:Env:=fun m=>if m<S.nx then ρ m else ρ' (nx+(m-S.nx))
 have hs2:Ql S.nx ρ ρ2:=fun m hlt=>if_pos hlt
 have hσk:∀n∈keep,∃m,σ n= .ref m∧m∈ds∧m<S.nx:=fun n hn=>by
  obtain⟨r,h1,h2⟩:=Tl w4 n hn
  obtain⟨m,h3,h4⟩:=(hR n r [] (fun b hb=>nomatch hb) h1).2 h2
  exact⟨m,h3,by rw[←hds];exact O8 h1 h2 h3,(hm.bdr _ _ h4).1⟩
 have hσ':∀n,((n∈keep∨nx≤n)∧n<nx')→∃m,Ro σ nx S.nx n= .ref m∧ρ2 m=ρ' n∧m<S.nx+(nx'-nx)∧((m∈ds∧m<S.nx∧n∈keep)∨(m=S.nx+(n-nx)∧nx≤n)):=fun n hn=>by
  by_cases hlt:n<nx
  ·have hk:n∈keep:=hn.1.resolve_right (by omega)
   obtain⟨m,h1,h2,h3⟩:=hσk n hk
   refine⟨m,by unfold Ro;rw[if_pos hlt,h1],?_,by omega,.inl ⟨h2,h3,hk⟩⟩
   rw[hs2 m h3,hkeep n hk,h1];rfl
  ·refine⟨S.nx+(n-nx),by unfold Ro;rw[if_neg hlt],?_,by omega,.inr ⟨rfl,by omega⟩⟩
   show(if S.nx+(n-nx)<S.nx then _ else _)=_
   rw[if_neg (by omega)]
   congr 1;omega
 have hden:∀n,((n∈keep∨nx≤n)∧n<nx')→(Ro σ nx S.nx n).den ρ2=ρ' n:=fun n hn=>by
  obtain⟨m,h1,h2,_⟩:=hσ' n hn
  rw[h1];exact h2
 have hbd:∀n,((n∈keep∨nx≤n)∧n<nx')→(Ro σ nx S.nx n).bd (S.nx+(nx'-nx)):=fun n hn=>by
  obtain⟨m,h1,_,h3,_⟩:=hσ' n hn
  rw[h1];exact h3
 have hD:∀b∈Zp (fun n=>(σ n).den ρ) R,b∈Zp ρ S.res:=hOcS
 have hkeeps:Rb (Zp (fun n=>(σ n).den ρ) R) w w':=fun b o hb hbn=>by
  have:=hm'.block b (Array.getElem?_eq_some_iff.1 hb).1 hbn
  rw[this];exact hb
 have hdelmem:∀n r,(n,r)∈del S.res ds→(n,r)∈S.res∧n∉ds:=fun n r h=>by
  have:=List.mem_filter.1 h
  exact⟨this.1,by simpa using this.2⟩
 have hown1:∀l:List (Nat×Res),(∀p∈l,p∈R')→Zp ρ2 (Mz (Ro σ nx S.nx) l)=Zp ρ' l:=by
  intro l
  induction l with
  |nil=>intro _;rfl
  |cons p l ih=>
   intro hin
   obtain⟨n,r⟩:=p
   obtain⟨m,h1,h2,_⟩:=hσ' n (Xo w6 n r (hin _ (by simp))).1
   have e1:(r.sub (Ro σ nx S.nx)).block ρ2 (I0 (Ro σ nx S.nx n))=r.block ρ' n:=by
    rw[h1];exact Lj (by rw[←h2];rfl)
   have e2:=ih fun q hq=>hin q (by simp[hq])
   unfold Zp at e2 ⊢
   simp only[Mz,List.filterMap_cons,e1,e2]
 have hown2:Zp ρ2 (del S.res ds)=Zp ρ (del S.res ds):=Re hs2 fun n r hr=>(hm.bdr n r (hdelmem n r hr).1).1
 have hownT:Zp ρ2 (Mz (Ro σ nx S.nx) R'++del S.res ds)=Zp ρ' R'++Zp ρ (del S.res ds):=by
  have:∀A B:List (Nat×Res),Zp ρ2 (A++B)=Zp ρ2 A++Zp ρ2 B:=fun A B=>by unfold Zp;exact List.filterMap_append
  rw[this,hown1 R' (fun _ h=>h),hown2]
 have hlt':∀b∈Zp ρ' R',b<w'.heap.size∧(w.heap.size≤b∨b∈Zp (fun n=>(σ n).den ρ) R):=fun b hb=>hm'.lt b hb
 have hdel:∀b∈Zp ρ (del S.res ds),b<w.heap.size∧b∉Zp (fun n=>(σ n).den ρ) R:=fun b hb=>by
  refine⟨(hm.lt b (X8 b hb)).1,fun hbR=> ?_⟩
  obtain⟨m,r,h1,h2,h3⟩:=hOc b hbR
  exact Yf hm.keys hm.nodup h1 h2 h3 hb
 have hO2:∀b∈Zp ρ2 (Mz (Ro σ nx S.nx) R'++del S.res ds),b∈Zp ρ S.res∨w.heap.size≤b:=fun b hb=>by
  rw[hownT]at hb
  rcases List.mem_append.1 hb with hb|hb
  ·rcases(hlt' b hb).2 with h1|h1
   ·exact .inr h1
   ·exact .inl (hOcS b h1)
  ·exact .inl (X8 b hb)
 have hvd:(v.sub (Ro σ nx S.nx)).den ρ2=v.den ρ':=SV.sub_den hden w5
 have hout:Mem c ρ2 (Mz (Ro σ nx S.nx) R'++del S.res ds) (S.nx+(nx'-nx)) w':=by
  refine⟨hm'.os.trans hm.os,hm'.tape.trans hm.tape,hm'.output.trans hm.output,Nat.le_trans hm.size hm'.size,?_,fun n=> ?_,?_,?_,?_,?_,?_⟩
  ·intro b hb hbX
   have h0:=hm.block b hb hbX
   have hbs:b<w.heap.size:=Nat.lt_of_lt_of_le hb hm.size
   rw[←h0]
   refine hm'.block b hbs fun hbR=> ?_
   rcases(hm.lt b (hOcS b hbR)).2 with h1|h1
   ·omega
   ·exact hbX h1
  ·show(if n<S.nx then ρ n else _).oneCell'=true
   split
   ·exact hm.one n
   ·exact hm'.one _
  ·rw[List.map_append]
   refine List.nodup_append.2 ⟨?_,Ms hm.keys,?_⟩
   ·have key:∀l:List (Nat×Res),(∀p∈l,p∈R')→(l.map Prod.fst).Nodup→((Mz (Ro σ nx S.nx) l).map Prod.fst).Nodup:=by
     intro l
     induction l with
     |nil=>intro _ _;exact List.nodup_nil
     |cons p l ih=>
      intro hin hkk
      obtain⟨n,r⟩:=p
      simp only[List.map_cons,List.nodup_cons]at hkk
      simp only[Mz,List.map_cons,List.nodup_cons]
      refine⟨fun hmem=> ?_,ih (fun q hq=>hin q (by simp[hq])) hkk.2⟩
      obtain⟨q,hq,hqe⟩:=List.mem_map.1 hmem
      obtain⟨n2,r2,g1,rfl⟩:=On hq
      obtain⟨m1,a1,_,_,a4⟩:=hσ' n (Xo w6 n r (hin _ (by simp))).1
      obtain⟨m2,b1,_,_,b4⟩:=hσ' n2 (Xo w6 n2 r2 (hin _ (by simp[g1]))).1
      simp only[a1,b1,I0]at hqe
      subst hqe
      have hnn:n2=n:=by
       rcases a4 with⟨a5,a6,a7⟩|⟨a5,a6⟩<;>rcases b4 with⟨b5,b6,b7⟩|⟨b5,b6⟩
       ·obtain⟨s1,t1,t2⟩:=Tl w4 n a7
        obtain⟨s2,u1,u2⟩:=Tl w4 n2 b7
        obtain⟨q1,q2,_⟩:=hσk n a7
        obtain⟨q3,q4,_⟩:=hσk n2 b7
        have o1:n<nx:=(Xo w2 n s1 t1).1
        have o2:n2<nx:=(Xo w2 n2 s2 u1).1
        unfold Ro at a1 b1
        rw[if_pos o1]at a1
        rw[if_pos o2]at b1
        have:=Ka (R:=R) (p:=(n2,s2)) (q:=(n,s1)) (by rw[hds];exact hnd) u1 t1 u2 t2 b1 a1
        exact congrArg Prod.fst this
       ·omega
       ·omega
       ·omega
      subst hnn
      exact hkk.1 (List.mem_map.2 ⟨_,g1,rfl⟩)
    exact key R' (fun _ h=>h) w7
   ·intro x hx y hy hxy
    subst hxy
    obtain⟨p,hp,rfl⟩:=List.mem_map.1 hx
    obtain⟨n,r,g1,rfl⟩:=On hp
    obtain⟨q,hq,hqe⟩:=List.mem_map.1 hy
    obtain⟨m1,a1,_,_,a4⟩:=hσ' n (Xo w6 n r g1).1
    simp only[a1,I0]at hqe
    have hq2:=hdelmem q.1 q.2 hq
    rcases a4 with⟨a5,_⟩|⟨a5,_⟩
    ·rw[hqe]at hq2;exact hq2.2 a5
    ·have:=(hm.bdr _ _ hq2.1).1;omega
  ·intro n r hr
   rcases List.mem_append.1 hr with hr|hr
   ·obtain⟨n0,r0,g1,e⟩:=On hr
    cases e
    obtain⟨hq1,hq2⟩:=Xo w6 n0 r0 g1
    obtain⟨m1,a1,a2,_,_⟩:=hσ' n0 hq1
    have hh0:=hm'.res n0 r0 g1
    have hok:=Rd w8 n0 r0 g1
    simp only[a1,I0]
    cases r0<;>simp only[Res.outOk,Bool.false_eq_true]at hok
    case cells E l=>
     obtain⟨b,k1,k2⟩:=hh0
     exact⟨b,by rw[a2];exact k1,by rw[To hden hq2];exact k2⟩
    case lit E sz e l=>
     obtain⟨b,k1,k2,k3⟩:=hh0
     exact⟨b,by rw[a2];exact k1,by simpa using k2,by rw[To hden hq2];exact k3⟩
    case row E k l=>
     simp only[Res.sub,Res.holds]at hh0 ⊢
     rw[a2,Kd.encs_den _ _ ρ' ρ2];exact hh0
    case smap P K E k f q=>
     simp only[Res.sub,Res.holds]at hh0 ⊢
     rw[a2];exact hh0
    case fmap l=>
     simp only[Res.sub,Res.holds]at hh0 ⊢
     rw[a2];exact hh0
   ·obtain⟨h1,h2⟩:=hdelmem n r hr
    refine Res.carry hs2 (hm.bdr n r h1).1 (hm.bdr n r h1).2 hkeeps hD (fun b hb hbD=> ?_) hO2 (hm.res n r h1)
    exact(hdel b (List.mem_filterMap.2 ⟨(n,r),hr,hb⟩)).2 hbD
  ·intro n r hr
   rcases List.mem_append.1 hr with hr|hr
   ·obtain⟨n0,r0,g1,e⟩:=On hr
    cases e
    obtain⟨hq1,hq2⟩:=Xo w6 n0 r0 g1
    obtain⟨m1,a1,a2,a3,_⟩:=hσ' n0 hq1
    exact⟨by simp only[a1,I0];exact a3,Res.sub_bd hbd hq2⟩
   ·have:=hm.bdr n r (hdelmem n r hr).1
    exact⟨by omega,Res.bd_mono (by omega) this.2⟩
  ·rw[hownT]
   refine List.nodup_append.2 ⟨hm'.nodup,Gd hm.nodup,fun x hx y hy hxy=> ?_⟩
   subst hxy
   have h1:=hdel x hy
   rcases(hlt' x hx).2 with h2|h2
   ·omega
   ·exact h1.2 h2
  ·intro b hb
   rw[hownT]at hb
   rcases List.mem_append.1 hb with hb|hb
   ·refine⟨(hlt' b hb).1,?_⟩
    rcases(hlt' b hb).2 with h2|h2
    ·exact .inl (Nat.le_trans hm.size h2)
    ·exact(hm.lt b (hOcS b h2)).2
   ·have:=hm.lt b (X8 b hb)
    exact⟨Nat.lt_of_lt_of_le this.1 hm'.size,this.2⟩
 refine⟨v.sub (Ro σ nx S.nx),ρ2,F0 S σ R R' nx nx',⟨hs2,by unfold F0;simp⟩,by rw[hvd],SV.sub_bd hbd w5,?_,hK⟩
 unfold F0
 rw[hds]
 exact hh.res hs2 (by omega) hout
theorem Za.gcσ{c:Cx}{f:Nat}{args args':List S1}{S:St}{K:SV→St→Prop}{R:List (Nat×Res)}{nx:Nat}{keep:List Nat}{v:SV}{R':List (Nat×Res)}{nx':Nat}(h:GC c.P f args R nx keep v R' nx')(b0:Bnd)
 (hv:Gm c.P S (sg b0) args args' R)(hK:K (v.sub (Ro (sg b0) nx S.nx)) (F0 S (sg b0) R R' nx nx')):Za c f args' S K:=
 Za.gcpσ (Wb.zero (fun _=>none) _ _) h.gcp b0 hv hK
theorem Za.gcp{G:Nat}{H:Nat→Option Obj}{c:Cx}(hglob:Wb G H c.w0 c.X){f:Nat}{args args':List S1}{S:St}{K:SV→St→Prop}{R:List (Nat×Res)}{nx:Nat}{keep:List Nat}{v:SV}{R':List (Nat×Res)}{nx':Nat}(h:GCp G H c.P f args R nx keep v R' nx')
 (hv:Gm c.P S (sg (Ti S R (Vo args args' []))) args args' R)(hK:K (v.sub (Ro (sg (Ti S R (Vo args args' []))) nx S.nx)) (F0 S (sg (Ti S R (Vo args args' []))) R R' nx nx')):Za c f args' S K:=
 Za.gcpσ hglob h _ hv hK
theorem Za.gc{c:Cx}{f:Nat}{args args':List S1}{S:St}{K:SV→St→Prop}{R:List (Nat×Res)}{nx:Nat}{keep:List Nat}{v:SV}{R':List (Nat×Res)}{nx':Nat}(h:GC c.P f args R nx keep v R' nx')
 (hv:Gm c.P S (sg (Ti S R (Vo args args' []))) args args' R)(hK:K (v.sub (Ro (sg (Ti S R (Vo args args' []))) nx S.nx)) (F0 S (sg (Ti S R (Vo args args' []))) R R' nx nx')):Za c f args' S K:=
 Za.gcσ h _ hv hK
theorem tf{a:Bool}(h:a=true)(h':a=false):False:=by rw[h]at h';cases h'
theorem lemL:type_of%(And.intro @List.set_cons_zero.{0}<|And.intro @List.set_cons_succ.{0}<|And.intro @List.set_nil.{0}<|And.intro @forall_eq_or_imp.{1}<|And.intro @forall_eq.{1}<|And.intro @List.mem_singleton.{0}<|And.intro @List.map_cons.{0,0}<|And.intro @List.map_nil.{0,0}<|And.intro @Nat.sub_self<|And.intro @Option.getD_some.{0}<|And.intro @Option.getD_none.{0}<|And.intro @Option.isSome_some.{0}<|And.intro @Option.isSome_none.{0}<|And.intro @List.nodup_nil.{0}<|And.intro @List.nodup_cons.{0}<|And.intro @List.mem_cons.{0}<|And.intro @List.not_mem_nil.{0}<|And.intro @Nat.zero_add<|And.intro @Nat.add_zero<|And.intro @Nat.zero_mul<|And.intro @Nat.le_refl<|And.intro @List.length_cons.{0}<|And.intro @List.length_nil.{0}<|And.intro @List.getElem?_cons_zero.{0}<|And.intro @List.getElem?_cons_succ.{0}<|And.intro @List.getElem?_nil.{0}<|And.intro @List.drop_zero.{0}<|And.intro @List.drop_succ_cons.{0}<|And.intro @List.drop_nil.{0}<|And.intro @List.take_zero.{0}<|And.intro @List.take_succ_cons.{0}<|And.intro @List.take_nil.{0}<|And.intro @List.nil_append.{0}<|And.intro @List.cons_append.{0}<|And.intro @List.append_nil.{0}<|And.intro @List.filter_cons.{0}<|And.intro @List.filter_nil.{0}<|And.intro @List.contains_cons.{0}<|And.intro @List.contains_nil.{0}<|And.intro @List.elem_cons.{0}<|And.intro @List.elem_nil.{0}<|And.intro @Bool.not_true<|And.intro @Bool.not_false<|And.intro @Bool.or_false<|And.intro @Bool.false_or<|And.intro @Bool.true_or<|And.intro @Bool.or_true<|And.intro @Bool.and_true<|And.intro @Bool.true_and<|And.intro @Bool.and_false<|And.intro @Bool.false_and<|And.intro @Bool.false_eq_true<|And.intro @Bool.true_eq_false<|And.intro @beq_self_eq_true.{0}<|And.intro @cond_true.{1}<|And.intro @cond_false.{1}<|And.intro @true_and<|And.intro @and_true<|And.intro @false_and<|And.intro @and_false<|And.intro @true_implies<|And.intro @false_implies<|And.intro @and_self<|And.intro @decide_true<|And.intro @decide_false<|And.intro @not_false_eq_true<|And.intro @not_true_eq_false<|And.intro @ne_eq.{1}<|And.intro @imp_self<|And.intro @Bool.cond_true_left<|And.intro @Bool.cond_false_right<|And.intro @Bool.cond_true_right<|And.intro @Bool.cond_false_left<|And.intro @Bool.not_eq_true'<|And.intro @Bool.not_eq_false'<|And.intro @Bool.or_eq_true<|And.intro @Bool.and_eq_true<|And.intro @Bool.or_eq_false_iff<|And.intro @Bool.and_eq_false_imp<|And.intro @decide_eq_true_eq<|And.intro @decide_eq_false_iff_not<|And.intro @Bool.not_not<|And.intro @bne_self_eq_false.{0}<|And.intro @false_or<|And.intro @or_false<|And.intro @true_or<|And.intro @or_true<|And.intro @not_or<|And.intro @exists_eq_left.{1}<| @exists_eq_left'.{1}):=
 And.intro @List.set_cons_zero.{0}<|And.intro @List.set_cons_succ.{0}<|And.intro @List.set_nil.{0}<|And.intro @forall_eq_or_imp.{1}<|And.intro @forall_eq.{1}<|And.intro @List.mem_singleton.{0}<|And.intro @List.map_cons.{0,0}<|And.intro @List.map_nil.{0,0}<|And.intro @Nat.sub_self<|And.intro @Option.getD_some.{0}<|And.intro @Option.getD_none.{0}<|And.intro @Option.isSome_some.{0}<|And.intro @Option.isSome_none.{0}<|And.intro @List.nodup_nil.{0}<|And.intro @List.nodup_cons.{0}<|And.intro @List.mem_cons.{0}<|And.intro @List.not_mem_nil.{0}<|And.intro @Nat.zero_add<|And.intro @Nat.add_zero<|And.intro @Nat.zero_mul<|And.intro @Nat.le_refl<|And.intro @List.length_cons.{0}<|And.intro @List.length_nil.{0}<|And.intro @List.getElem?_cons_zero.{0}<|And.intro @List.getElem?_cons_succ.{0}<|And.intro @List.getElem?_nil.{0}<|And.intro @List.drop_zero.{0}<|And.intro @List.drop_succ_cons.{0}<|And.intro @List.drop_nil.{0}<|And.intro @List.take_zero.{0}<|And.intro @List.take_succ_cons.{0}<|And.intro @List.take_nil.{0}<|And.intro @List.nil_append.{0}<|And.intro @List.cons_append.{0}<|And.intro @List.append_nil.{0}<|And.intro @List.filter_cons.{0}<|And.intro @List.filter_nil.{0}<|And.intro @List.contains_cons.{0}<|And.intro @List.contains_nil.{0}<|And.intro @List.elem_cons.{0}<|And.intro @List.elem_nil.{0}<|And.intro @Bool.not_true<|And.intro @Bool.not_false<|And.intro @Bool.or_false<|And.intro @Bool.false_or<|And.intro @Bool.true_or<|And.intro @Bool.or_true<|And.intro @Bool.and_true<|And.intro @Bool.true_and<|And.intro @Bool.and_false<|And.intro @Bool.false_and<|And.intro @Bool.false_eq_true<|And.intro @Bool.true_eq_false<|And.intro @beq_self_eq_true.{0}<|And.intro @cond_true.{1}<|And.intro @cond_false.{1}<|And.intro @true_and<|And.intro @and_true<|And.intro @false_and<|And.intro @and_false<|And.intro @true_implies<|And.intro @false_implies<|And.intro @and_self<|And.intro @decide_true<|And.intro @decide_false<|And.intro @not_false_eq_true<|And.intro @not_true_eq_false<|And.intro @ne_eq.{1}<|And.intro @imp_self<|And.intro @Bool.cond_true_left<|And.intro @Bool.cond_false_right<|And.intro @Bool.cond_true_right<|And.intro @Bool.cond_false_left<|And.intro @Bool.not_eq_true'<|And.intro @Bool.not_eq_false'<|And.intro @Bool.or_eq_true<|And.intro @Bool.and_eq_true<|And.intro @Bool.or_eq_false_iff<|And.intro @Bool.and_eq_false_imp<|And.intro @decide_eq_true_eq<|And.intro @decide_eq_false_iff_not<|And.intro @Bool.not_not<|And.intro @bne_self_eq_false.{0}<|And.intro @false_or<|And.intro @or_false<|And.intro @true_or<|And.intro @or_true<|And.intro @not_or<|And.intro @exists_eq_left.{1}<| @exists_eq_left'.{1}
set_option maxRecDepth 100000 in
theorem lemB:type_of%(And.intro @Zg2<|And.intro @Zc9<|And.intro @Zda<|And.intro @Vc.exK.eq_1<|And.intro @Cb<|And.intro @Cc<|And.intro @Ik<|And.intro @Il<|And.intro @Fv<|And.intro @Vc.exDK.eq_1<|And.intro @M8.eq_1<|And.intro @M8.eq_2<|And.intro @Ir.eq_1<|And.intro @Ir.eq_2<|And.intro @Vg.eq_1<|And.intro @Vg.eq_2<|And.intro @Vg.eq_3<|And.intro @Vg.eq_4<|And.intro @Vg.eq_5<|And.intro @Vg.eq_6<|And.intro @Vg.eq_7<|And.intro @Vg.eq_8<|And.intro @Vg.eq_9<|And.intro @Vg.eq_10<|And.intro @Vg.eq_11<|And.intro @Vg.eq_12<|And.intro @Vg.eq_13<|And.intro @Vg.eq_14<|And.intro @Vg.eq_15<|And.intro @Vg.eq_16<|And.intro @Vc.wkR.eq_1<|And.intro @Vc.wkR.eq_2<|And.intro @Vc.wkR.eq_3<|And.intro @Vc.wkR.eq_4<|And.intro @Zdb<|And.intro @Cd<|And.intro @Ce<|And.intro @Zdc<|And.intro @Cf<|And.intro @Cg<|And.intro @Vc.exqK.eq_1<|And.intro @Jw.eq_1<|And.intro @Vc.putK.eq_1<|And.intro @Vc.ev.eq_1<|And.intro @Vc.ev.eq_2<|And.intro @Vc.ev.eq_3<|And.intro @Vc.ev.eq_4<|And.intro @Vc.ev.eq_5<|And.intro @Vc.ev.eq_6<|And.intro @Vc.ev.eq_7<|And.intro @Vc.ev.eq_8<|And.intro @Vc.ev.eq_9<|And.intro @Vc.ev.eq_10<|And.intro @Vc.ev.eq_11<|And.intro @Vc.ev.eq_12<|And.intro @Vc.ev.eq_13<|And.intro @Vc.ev.eq_14<|And.intro @Vc.ev.eq_15<|And.intro @Vc.ev.eq_16<|And.intro @Vc.ev.eq_17<|And.intro @Vc.ev.eq_18<|And.intro @Vc.ev.eq_19<|And.intro @Vc.ev.eq_20<|And.intro @Vc.ev.eq_21<|And.intro @Vc.ev.eq_22<|And.intro @Vc.ev.eq_23<|And.intro @Vc.ev.eq_24<|And.intro @Vc.ev.eq_25<|And.intro @Vc.ev.eq_26<|And.intro @Vc.ev.eq_27<|And.intro @Vc.ev.eq_28<|And.intro @Vc.ev.eq_29<|And.intro @Vc.ev.eq_30<|And.intro @Vc.ev.eq_31<|And.intro @Vc.st.eq_1<|And.intro @Vc.st.eq_2<|And.intro @Vc.st.eq_3<|And.intro @Vc.st.eq_4<|And.intro @Vc.st.eq_5<|And.intro @Vc.st.eq_6<|And.intro @Vc.st.eq_7<|And.intro @Vc.st.eq_8<|And.intro @Vc.st.eq_9<|And.intro @Vc.st.eq_10<|And.intro @Vc.st.eq_11<|And.intro @Vc.st.eq_12<|And.intro @Vc.st.eq_13<|And.intro @Vc.st.eq_14<|And.intro @Vc.st.eq_15<|And.intro @Vc.st.eq_16<|And.intro @Vc.st.eq_17<|And.intro @Vc.st.eq_18<|And.intro @Vc.st.eq_19<|And.intro @Vc.st.eq_20<|And.intro @Vc.st.eq_21<|And.intro @Vc.st.eq_22<|And.intro @Vc.st.eq_23<|And.intro @Vc.st.eq_24<|And.intro @Vc.st.eq_25<|And.intro @Vc.st.eq_26<|And.intro @Vc.st.eq_27<|And.intro @Zgt.eq_1<|And.intro @Kx.eq_1<|And.intro @Kx.eq_2<|And.intro @Kx.eq_3<|And.intro @Vc.stq.eq_1<|And.intro @Vc.stq.eq_2<|And.intro @Vc.stq.eq_3<|And.intro @Vc.stq.eq_4<|And.intro @Vc.gst.eq_1<|And.intro @Vc.gst.eq_2<|And.intro @Za2.eq_1<|And.intro @Za2.eq_2<|And.intro @St.rd.eq_1<|And.intro @St.rd.eq_2<|And.intro @St.rd.eq_3<|And.intro @St.get.eq_1<|And.intro @St.put.eq_1<|And.intro @St.put.eq_2<|And.intro @St.find.eq_1<|And.intro @Zo.eq_1<|And.intro @Zo.eq_2<|And.intro @St.new.eq_1<|And.intro @Vc.gdc.eq_1<|And.intro @Vh.eq_1<|And.intro @Qo.eq_1<|And.intro @Qo.eq_2<|And.intro @Qo.eq_3<|And.intro @Qo.eq_4<|And.intro @Qo.eq_5<|And.intro @Xg.eq_1<|And.intro @Xg.eq_2<|And.intro @Xg.eq_3<|And.intro @Xg.eq_4<|And.intro @Xg.eq_5<|And.intro @Xg.eq_6<|And.intro @Xg.eq_7<|And.intro @Xg.eq_8<|And.intro @Xg.eq_9<|And.intro @Xg.eq_10<|And.intro @Xg.eq_11<|And.intro @Xg.eq_12<|And.intro @Xg.eq_13<|And.intro @Xg.eq_14<|And.intro @Xg.eq_15<|And.intro @Xg.eq_16<|And.intro @Qv.eq_1<|And.intro @Qv.eq_2<|And.intro @Qv.eq_3<|And.intro @Qv.eq_4<|And.intro @Qv.eq_5<|And.intro @Hp.eq_1<|And.intro @Hp.eq_2<|And.intro @Hp.eq_3<|And.intro @Hp.eq_4<|And.intro @Um.eq_1<|And.intro @Um.eq_2<|And.intro @Um.eq_3<|And.intro @Um.eq_4<|And.intro @Wz.eq_1<|And.intro @Wz.eq_2<|And.intro @Rf.eq_1<|And.intro @Rf.eq_2<|And.intro @Wg.eq_1<|And.intro @Vc.S1.cells.eq_1<|And.intro @Vc.S1.cells.eq_2<|And.intro @Vc.upd.eq_1<|And.intro @Vc.del.eq_1<|And.intro @Yz.eq_1<|And.intro @Yz.eq_2<|And.intro @Vc.noV.eq_1<|And.intro @Kd.enc.eq_1<|And.intro @Kd.enc.eq_2<|And.intro @Kd.enc.eq_3<|And.intro @Kd.enc.eq_4<|And.intro @Kd.enc.eq_5<|And.intro @Kd.enc.eq_6<|And.intro @Kd.enc.eq_7<|And.intro @Kd.dec.eq_1<|And.intro @Kd.dec.eq_2<|And.intro @Kd.dec.eq_3<|And.intro @Kd.dec.eq_4<|And.intro @Kd.dec.eq_5<|And.intro @Kd.dec.eq_6<|And.intro @Kd.dec.eq_7<|And.intro @Kd.dec.eq_8<|And.intro @Ins.cells.eq_1<|And.intro @Ln.cells.eq_1<|And.intro @Yn.eq_1<|And.intro @Yn.eq_2<|And.intro @Yn.eq_3<|And.intro @Yn.eq_4<|And.intro @Yn.eq_5<|And.intro @Yn.eq_6<|And.intro @Yn.eq_7<|And.intro @Yn.eq_8<|And.intro @Ia.eq_1<|And.intro @Lb.eq_1<|And.intro @Lb.eq_2<|And.intro @Nw.eq_1<|And.intro @Nw.eq_2<|And.intro @Qu.eq_1<|And.intro @Qu.eq_2<|And.intro @Qu.eq_3<|And.intro @Vc.rvs.eq_1<|And.intro @Vc.rvs.eq_2<|And.intro @Vc.rvs.eq_3<|And.intro @I6.eq_1<|And.intro @I6.eq_2<|And.intro @Y1.eq_1<|And.intro @Y1.eq_2<|And.intro @Mp.eq_1<|And.intro @Mp.eq_2<|And.intro @Mp.eq_3<|And.intro @S5.eq_1<|And.intro @S5.eq_2<|And.intro @S5.eq_3<|And.intro @Nb.eq_1<|And.intro @Nb.eq_2<|And.intro @Nb.eq_3<|And.intro @Lv.eq_1<|And.intro @Lv.eq_2<|And.intro @Lv.eq_3<|And.intro @K1.eq_1<|And.intro @K1.eq_2<|And.intro @K1.eq_3<|And.intro @K0.eq_1<|And.intro @K0.eq_2<|And.intro @K0.eq_3<|And.intro @Py.eq_1<|And.intro @Py.eq_2<|And.intro @Py.eq_3<|And.intro @Ze0.eq_1<|And.intro @N0.eq_1<|And.intro @N0.eq_2<|And.intro @Jd.eq_1<|And.intro @Jd.eq_2<|And.intro @Sk.eq_1<|And.intro @Sk.eq_2<|And.intro @Sc.eq_1<|And.intro @Sc.eq_2<|And.intro @Kt.eq_1<|And.intro @Kt.eq_2<|And.intro @Vc.kdL.eq_1<|And.intro @Vc.kdL.eq_2<|And.intro @Vc.kdL.eq_3<|And.intro @Vc.kdL.eq_4<|And.intro @Vc.kdL.eq_5<|And.intro @Vc.kdL.eq_6<|And.intro @Vc.kdL.eq_7<|And.intro @Zg9.eq_1<|And.intro @Zg9.eq_2<|And.intro @R6.eq_1<|And.intro @R6.eq_2<|And.intro @R6.eq_3<|And.intro @Kw.eq_1<|And.intro @Kw.eq_2<|And.intro @Kw.eq_3<|And.intro @Kw.eq_4<|And.intro @T5.eq_1<|And.intro @T5.eq_2<|And.intro @SV.bd.eq_1<|And.intro @SV.bd.eq_2<|And.intro @SV.bd.eq_3<|And.intro @Vc.S1.bd.eq_1<|And.intro @Vc.S1.bd.eq_2<|And.intro @At.bd.eq_1<|And.intro @At.bd.eq_2<|And.intro @At.bd.eq_3<|And.intro @At.bd.eq_4<|And.intro @At.bd.eq_5<|And.intro @At.bd.eq_6<|And.intro @Value.oneCell'.eq_1<|And.intro @Value.oneCell'.eq_2<|And.intro @Value.oneCell'.eq_3<|And.intro @Vc.lenOf.eq_1<|And.intro @Hi.eq_1<|And.intro @Fk.eq_1<|And.intro @Fk.eq_2<|And.intro @Uh.eq_1<|And.intro @Uh.eq_2<|And.intro @Uh.eq_3<|And.intro @Vc.atK.eq_1<|And.intro @Vc.atK.eq_2<|And.intro @Vc.atK.eq_3<|And.intro @N8.eq_1<|And.intro @Vc.unK.eq_1<|And.intro @Vc.unK.eq_2<|And.intro @Vc.unK.eq_3<|And.intro @Vc.wfK.eq_1<|And.intro @Vc.wfK.eq_2<|And.intro @Vc.wfK.eq_3<|And.intro @U5.eq_1<|And.intro @U5.eq_2<|And.intro @U5.eq_3<|And.intro @U5.eq_4<|And.intro @Ug.eq_1<|And.intro @Ug.eq_2<|And.intro @S6.eq_1<|And.intro @S6.eq_2<|And.intro @S6.eq_3<|And.intro @Vo.eq_1<|And.intro @Vo.eq_2<|And.intro @R4.eq_1<|And.intro @R4.eq_2<|And.intro @R4.eq_3<|And.intro @R4.eq_4<|And.intro @Ti.eq_1<|And.intro @Ti.eq_2<|And.intro @X7.eq_1<|And.intro @X7.eq_2<|And.intro @X7.eq_3<|And.intro @X7.eq_4<|And.intro @X7.eq_5<|And.intro @J2.eq_1<|And.intro @J2.eq_2<|And.intro @Vc.sg.eq_1<|And.intro @Ro.eq_1<|And.intro @Mz.eq_1<|And.intro @Mz.eq_2<|And.intro @F0.eq_1<|And.intro @I0.eq_1<|And.intro @I0.eq_2<|And.intro @Vb.eq_1<|And.intro @Vb.eq_2<|And.intro @Res.own.eq_1<|And.intro @Res.own.eq_2<|And.intro @Res.own.eq_3<|And.intro @Res.own.eq_4<|And.intro @Res.own.eq_5<|And.intro @Res.own.eq_6<|And.intro @Res.own.eq_7<|And.intro @Res.own.eq_8<|And.intro @At.sub.eq_1<|And.intro @At.sub.eq_2<|And.intro @At.sub.eq_3<|And.intro @At.sub.eq_4<|And.intro @Vc.S1.sub.eq_1<|And.intro @Vc.S1.sub.eq_2<|And.intro @SV.sub.eq_1<|And.intro @SV.sub.eq_2<|And.intro @SV.sub.eq_3<|And.intro @Res.sub.eq_1<|And.intro @Res.sub.eq_2<|And.intro @Res.sub.eq_3<|And.intro @Res.sub.eq_4<|And.intro @D9.eq_1<|And.intro @Vc.endP.eq_1<|And.intro @Is.eq_1<|And.intro @Is.eq_2<|And.intro @Ij.eq_1<|And.intro @Ij.eq_2<|And.intro @Pw.eq_1<|And.intro @Pw.eq_2<|And.intro @Pw.eq_3<|And.intro @Pw.eq_4<|And.intro @Vc.frS.eq_1<|And.intro @Vc.frS.eq_2<|And.intro @Kd.sz.eq_1<|And.intro @Kd.sz.eq_2<|And.intro @Kd.sz.eq_3<|And.intro @Kd.sz.eq_4<|And.intro @Kd.sz.eq_5<|And.intro @Vc.flk.eq_1<|And.intro @Vc.flk.eq_2<|And.intro @Fz.eq_1<|And.intro @Fz.eq_2<| @Fz.eq_3):=
 ⟨@Zg2,@Zc9,@Zda,@Vc.exK.eq_1,@Cb,@Cc,@Ik,@Il,@Fv,@Vc.exDK.eq_1,@M8.eq_1,@M8.eq_2,@Ir.eq_1,@Ir.eq_2,@Vg.eq_1,@Vg.eq_2,@Vg.eq_3,@Vg.eq_4,@Vg.eq_5,@Vg.eq_6,@Vg.eq_7,@Vg.eq_8,@Vg.eq_9,@Vg.eq_10,@Vg.eq_11,@Vg.eq_12,@Vg.eq_13,@Vg.eq_14,@Vg.eq_15,@Vg.eq_16,@Vc.wkR.eq_1,@Vc.wkR.eq_2,@Vc.wkR.eq_3,@Vc.wkR.eq_4,@Zdb,@Cd,@Ce,@Zdc,@Cf,@Cg,@Vc.exqK.eq_1,@Jw.eq_1,@Vc.putK.eq_1,@Vc.ev.eq_1,@Vc.ev.eq_2,@Vc.ev.eq_3,@Vc.ev.eq_4,@Vc.ev.eq_5,@Vc.ev.eq_6,@Vc.ev.eq_7,@Vc.ev.eq_8,@Vc.ev.eq_9,@Vc.ev.eq_10,@Vc.ev.eq_11,@Vc.ev.eq_12,@Vc.ev.eq_13,@Vc.ev.eq_14,@Vc.ev.eq_15,@Vc.ev.eq_16,@Vc.ev.eq_17,@Vc.ev.eq_18,@Vc.ev.eq_19,@Vc.ev.eq_20,@Vc.ev.eq_21,@Vc.ev.eq_22,@Vc.ev.eq_23,@Vc.ev.eq_24,@Vc.ev.eq_25,@Vc.ev.eq_26,@Vc.ev.eq_27,@Vc.ev.eq_28,@Vc.ev.eq_29,@Vc.ev.eq_30,@Vc.ev.eq_31,@Vc.st.eq_1,@Vc.st.eq_2,@Vc.st.eq_3,@Vc.st.eq_4,@Vc.st.eq_5,@Vc.st.eq_6,@Vc.st.eq_7,@Vc.st.eq_8,@Vc.st.eq_9,@Vc.st.eq_10,@Vc.st.eq_11,@Vc.st.eq_12,@Vc.st.eq_13,@Vc.st.eq_14,@Vc.st.eq_15,@Vc.st.eq_16,@Vc.st.eq_17,@Vc.st.eq_18,@Vc.st.eq_19,@Vc.st.eq_20,@Vc.st.eq_21,@Vc.st.eq_22,@Vc.st.eq_23,@Vc.st.eq_24,@Vc.st.eq_25,@Vc.st.eq_26,@Vc.st.eq_27,@Zgt.eq_1,@Kx.eq_1,@Kx.eq_2,@Kx.eq_3,@Vc.stq.eq_1,@Vc.stq.eq_2,@Vc.stq.eq_3,@Vc.stq.eq_4,@Vc.gst.eq_1,@Vc.gst.eq_2,@Za2.eq_1,@Za2.eq_2,@St.rd.eq_1,@St.rd.eq_2,@St.rd.eq_3,@St.get.eq_1,@St.put.eq_1,@St.put.eq_2,@St.find.eq_1,@Zo.eq_1,@Zo.eq_2,@St.new.eq_1,@Vc.gdc.eq_1,@Vh.eq_1,@Qo.eq_1,@Qo.eq_2,@Qo.eq_3,@Qo.eq_4,@Qo.eq_5,@Xg.eq_1,@Xg.eq_2,@Xg.eq_3,@Xg.eq_4,@Xg.eq_5,@Xg.eq_6,@Xg.eq_7,@Xg.eq_8,@Xg.eq_9,@Xg.eq_10,@Xg.eq_11,@Xg.eq_12,@Xg.eq_13,@Xg.eq_14,@Xg.eq_15,@Xg.eq_16,@Qv.eq_1,@Qv.eq_2,@Qv.eq_3,@Qv.eq_4,@Qv.eq_5,@Hp.eq_1,@Hp.eq_2,@Hp.eq_3,@Hp.eq_4,@Um.eq_1,@Um.eq_2,@Um.eq_3,@Um.eq_4,@Wz.eq_1,@Wz.eq_2,@Rf.eq_1,@Rf.eq_2,@Wg.eq_1,@Vc.S1.cells.eq_1,@Vc.S1.cells.eq_2,@Vc.upd.eq_1,@Vc.del.eq_1,@Yz.eq_1,@Yz.eq_2,@Vc.noV.eq_1,@Kd.enc.eq_1,@Kd.enc.eq_2,@Kd.enc.eq_3,@Kd.enc.eq_4,@Kd.enc.eq_5,@Kd.enc.eq_6,@Kd.enc.eq_7,@Kd.dec.eq_1,@Kd.dec.eq_2,@Kd.dec.eq_3,@Kd.dec.eq_4,@Kd.dec.eq_5,@Kd.dec.eq_6,@Kd.dec.eq_7,@Kd.dec.eq_8,@Ins.cells.eq_1,@Ln.cells.eq_1,@Yn.eq_1,@Yn.eq_2,@Yn.eq_3,@Yn.eq_4,@Yn.eq_5,@Yn.eq_6,@Yn.eq_7,@Yn.eq_8,@Ia.eq_1,@Lb.eq_1,@Lb.eq_2,@Nw.eq_1,@Nw.eq_2,@Qu.eq_1,@Qu.eq_2,@Qu.eq_3,@Vc.rvs.eq_1,@Vc.rvs.eq_2,@Vc.rvs.eq_3,@I6.eq_1,@I6.eq_2,@Y1.eq_1,@Y1.eq_2,@Mp.eq_1,@Mp.eq_2,@Mp.eq_3,@S5.eq_1,@S5.eq_2,@S5.eq_3,@Nb.eq_1,@Nb.eq_2,@Nb.eq_3,@Lv.eq_1,@Lv.eq_2,@Lv.eq_3,@K1.eq_1,@K1.eq_2,@K1.eq_3,@K0.eq_1,@K0.eq_2,@K0.eq_3,@Py.eq_1,@Py.eq_2,@Py.eq_3,@Ze0.eq_1,@N0.eq_1,@N0.eq_2,@Jd.eq_1,@Jd.eq_2,@Sk.eq_1,@Sk.eq_2,@Sc.eq_1,@Sc.eq_2,@Kt.eq_1,@Kt.eq_2,@Vc.kdL.eq_1,@Vc.kdL.eq_2,@Vc.kdL.eq_3,@Vc.kdL.eq_4,@Vc.kdL.eq_5,@Vc.kdL.eq_6,@Vc.kdL.eq_7,@Zg9.eq_1,@Zg9.eq_2,@R6.eq_1,@R6.eq_2,@R6.eq_3,@Kw.eq_1,@Kw.eq_2,@Kw.eq_3,@Kw.eq_4,@T5.eq_1,@T5.eq_2,@SV.bd.eq_1,@SV.bd.eq_2,@SV.bd.eq_3,@Vc.S1.bd.eq_1,@Vc.S1.bd.eq_2,@At.bd.eq_1,@At.bd.eq_2,@At.bd.eq_3,@At.bd.eq_4,@At.bd.eq_5,@At.bd.eq_6,@Value.oneCell'.eq_1,@Value.oneCell'.eq_2,@Value.oneCell'.eq_3,@Vc.lenOf.eq_1,@Hi.eq_1,@Fk.eq_1,@Fk.eq_2,@Uh.eq_1,@Uh.eq_2,@Uh.eq_3,@Vc.atK.eq_1,@Vc.atK.eq_2,@Vc.atK.eq_3,@N8.eq_1,@Vc.unK.eq_1,@Vc.unK.eq_2,@Vc.unK.eq_3,@Vc.wfK.eq_1,@Vc.wfK.eq_2,@Vc.wfK.eq_3,@U5.eq_1,@U5.eq_2,@U5.eq_3,@U5.eq_4,@Ug.eq_1,@Ug.eq_2,@S6.eq_1,@S6.eq_2,@S6.eq_3,@Vo.eq_1,@Vo.eq_2,@R4.eq_1,@R4.eq_2,@R4.eq_3,@R4.eq_4,@Ti.eq_1,@Ti.eq_2,@X7.eq_1,@X7.eq_2,@X7.eq_3,@X7.eq_4,@X7.eq_5,@J2.eq_1,@J2.eq_2,@Vc.sg.eq_1,@Ro.eq_1,@Mz.eq_1,@Mz.eq_2,@F0.eq_1,@I0.eq_1,@I0.eq_2,@Vb.eq_1,@Vb.eq_2,@Res.own.eq_1,@Res.own.eq_2,@Res.own.eq_3,@Res.own.eq_4,@Res.own.eq_5,@Res.own.eq_6,@Res.own.eq_7,@Res.own.eq_8,@At.sub.eq_1,@At.sub.eq_2,@At.sub.eq_3,@At.sub.eq_4,@Vc.S1.sub.eq_1,@Vc.S1.sub.eq_2,@SV.sub.eq_1,@SV.sub.eq_2,@SV.sub.eq_3,@Res.sub.eq_1,@Res.sub.eq_2,@Res.sub.eq_3,@Res.sub.eq_4,@D9.eq_1,@Vc.endP.eq_1,@Is.eq_1,@Is.eq_2,@Ij.eq_1,@Ij.eq_2,@Pw.eq_1,@Pw.eq_2,@Pw.eq_3,@Pw.eq_4,@Vc.frS.eq_1,@Vc.frS.eq_2,@Kd.sz.eq_1,@Kd.sz.eq_2,@Kd.sz.eq_3,@Kd.sz.eq_4,@Kd.sz.eq_5,@Vc.flk.eq_1,@Vc.flk.eq_2,@Fz.eq_1,@Fz.eq_2,@Fz.eq_3⟩
theorem Zb:type_of%(And.intro @Gm.eq_1<|And.intro @Zbj.eq_1<|And.intro @Zbj.eq_2<|And.intro @Vc.mtR.eq_1<|And.intro @Vc.mtR.eq_2<|And.intro @Vc.mtR.eq_3<|And.intro @Vc.mtR.eq_4<|And.intro @Vc.mtR.eq_5<|And.intro @Vc.mtR.eq_6<|And.intro @Vc.mtR.eq_7<|And.intro @Vc.mtR.eq_8<|And.intro @Vc.mtR.eq_9<|And.intro @Vc.mtR.eq_10<|And.intro @Vc.mtR.eq_11<|And.intro @Vc.mtR.eq_12<|And.intro @Vc.roA.eq_1<|And.intro @Vc.roA.eq_2<|And.intro @Vc.roA.eq_3<|And.intro @Vc.roM.eq_1<|And.intro @En.eq_1<|And.intro @En.eq_2<|And.intro @En.eq_3<|And.intro @Zhp.eq_1<|And.intro @Zfu.eq_1<|And.intro @F6.eq_1<|And.intro @F6.eq_2<|And.intro @F6.eq_3<|And.intro @Kz.eq_1<|And.intro @Kz.eq_2<|And.intro @Vc.fnM.eq_1<|And.intro @Vc.fnM.eq_2<|And.intro @Vc.fnM.eq_3<|And.intro @Vc.fnM.eq_4<|And.intro @Yn.eq_1<|And.intro @Yn.eq_2<|And.intro @Yn.eq_3<|And.intro @Yn.eq_4<|And.intro @Yn.eq_5<|And.intro @Yn.eq_6<|And.intro @Yn.eq_7<|And.intro @Yn.eq_8<|And.intro @St.find.eq_1<|And.intro @Zo.eq_1<|And.intro @Zo.eq_2<|And.intro @Vc.del.eq_1<|And.intro @Vb.eq_1<|And.intro @Vb.eq_2<|And.intro @Res.own.eq_1<|And.intro @Res.own.eq_2<|And.intro @Res.own.eq_3<|And.intro @Res.own.eq_4<|And.intro @Res.own.eq_5<|And.intro @Res.own.eq_6<|And.intro @Res.own.eq_7<|And.intro @Res.own.eq_8<|And.intro @Vc.sg.eq_1<|And.intro @U5.eq_1<|And.intro @U5.eq_2<|And.intro @U5.eq_3<|And.intro @U5.eq_4<|And.intro @Ug.eq_1<|And.intro @Ug.eq_2<|And.intro @S6.eq_1<|And.intro @S6.eq_2<|And.intro @S6.eq_3<|And.intro @Vo.eq_1<|And.intro @Vo.eq_2<|And.intro @Ti.eq_1<|And.intro @Ti.eq_2<|And.intro @X7.eq_1<|And.intro @X7.eq_2<|And.intro @X7.eq_3<|And.intro @X7.eq_4<|And.intro @X7.eq_5<|And.intro @At.sub.eq_1<|And.intro @At.sub.eq_2<|And.intro @At.sub.eq_3<|And.intro @At.sub.eq_4<|And.intro @Vc.S1.sub.eq_1<|And.intro @Vc.S1.sub.eq_2<|And.intro @Res.sub.eq_1<|And.intro @Res.sub.eq_2<|And.intro @Res.sub.eq_3<|And.intro @Res.sub.eq_4<|And.intro @Kd.enc.eq_1<|And.intro @Kd.enc.eq_2<|And.intro @Kd.enc.eq_3<|And.intro @Kd.enc.eq_4<|And.intro @Kd.enc.eq_5<|And.intro @Kd.enc.eq_6<|And.intro @Kd.enc.eq_7<|And.intro @Ins.cells.eq_1<|And.intro @Ln.cells.eq_1<|And.intro @Value.oneCell'.eq_1<|And.intro @Value.oneCell'.eq_2<|And.intro @Value.oneCell'.eq_3<| @Yv.eq_1):=
 ⟨@Gm.eq_1,@Zbj.eq_1,@Zbj.eq_2,@Vc.mtR.eq_1,@Vc.mtR.eq_2,@Vc.mtR.eq_3,@Vc.mtR.eq_4,@Vc.mtR.eq_5,@Vc.mtR.eq_6,@Vc.mtR.eq_7,@Vc.mtR.eq_8,@Vc.mtR.eq_9,@Vc.mtR.eq_10,@Vc.mtR.eq_11,@Vc.mtR.eq_12,@Vc.roA.eq_1,@Vc.roA.eq_2,@Vc.roA.eq_3,@Vc.roM.eq_1,@En.eq_1,@En.eq_2,@En.eq_3,@Zhp.eq_1,@Zfu.eq_1,@F6.eq_1,@F6.eq_2,@F6.eq_3,@Kz.eq_1,@Kz.eq_2,@Vc.fnM.eq_1,@Vc.fnM.eq_2,@Vc.fnM.eq_3,@Vc.fnM.eq_4,@Yn.eq_1,@Yn.eq_2,@Yn.eq_3,@Yn.eq_4,@Yn.eq_5,@Yn.eq_6,@Yn.eq_7,@Yn.eq_8,@St.find.eq_1,@Zo.eq_1,@Zo.eq_2,@Vc.del.eq_1,@Vb.eq_1,@Vb.eq_2,@Res.own.eq_1,@Res.own.eq_2,@Res.own.eq_3,@Res.own.eq_4,@Res.own.eq_5,@Res.own.eq_6,@Res.own.eq_7,@Res.own.eq_8,@Vc.sg.eq_1,@U5.eq_1,@U5.eq_2,@U5.eq_3,@U5.eq_4,@Ug.eq_1,@Ug.eq_2,@S6.eq_1,@S6.eq_2,@S6.eq_3,@Vo.eq_1,@Vo.eq_2,@Ti.eq_1,@Ti.eq_2,@X7.eq_1,@X7.eq_2,@X7.eq_3,@X7.eq_4,@X7.eq_5,@At.sub.eq_1,@At.sub.eq_2,@At.sub.eq_3,@At.sub.eq_4,@Vc.S1.sub.eq_1,@Vc.S1.sub.eq_2,@Res.sub.eq_1,@Res.sub.eq_2,@Res.sub.eq_3,@Res.sub.eq_4,@Kd.enc.eq_1,@Kd.enc.eq_2,@Kd.enc.eq_3,@Kd.enc.eq_4,@Kd.enc.eq_5,@Kd.enc.eq_6,@Kd.enc.eq_7,@Ins.cells.eq_1,@Ln.cells.eq_1,@Value.oneCell'.eq_1,@Value.oneCell'.eq_2,@Value.oneCell'.eq_3,@Yv.eq_1⟩
theorem Zy:type_of%(And.intro @Tq.eq_1<|And.intro @Tq.eq_2<|And.intro @Ow.eq_1<|And.intro @Ow.eq_2<|And.intro @Vc.bnd.eq_1<|And.intro @Vc.bnd.eq_2<|And.intro @St.get.eq_1<|And.intro @St.find.eq_1<|And.intro @Zo.eq_1<|And.intro @Zo.eq_2<|And.intro @SV.ren.eq_1<|And.intro @SV.ren.eq_2<|And.intro @SV.ren.eq_3<|And.intro @Vc.S1.ren.eq_1<|And.intro @Vc.S1.ren.eq_2<|And.intro @At.ren.eq_1<|And.intro @At.ren.eq_2<|And.intro @At.ren.eq_3<|And.intro @At.ren.eq_4<|And.intro @At.ren.eq_5<|And.intro @Res.ren.eq_1<|And.intro @Res.ren.eq_2<|And.intro @Res.ren.eq_3<|And.intro @Res.ren.eq_4<|And.intro @Res.ren.eq_5<|And.intro @Res.ren.eq_6<|And.intro @Res.ren.eq_7<|And.intro @SV.bd.eq_1<|And.intro @SV.bd.eq_2<|And.intro @SV.bd.eq_3<|And.intro @Vc.S1.bd.eq_1<|And.intro @Vc.S1.bd.eq_2<|And.intro @At.bd.eq_1<|And.intro @At.bd.eq_2<|And.intro @At.bd.eq_3<|And.intro @At.bd.eq_4<|And.intro @At.bd.eq_5<|And.intro @At.bd.eq_6<|And.intro @Res.bd.eq_1<|And.intro @Res.bd.eq_2<|And.intro @Res.bd.eq_3<|And.intro @Res.bd.eq_4<|And.intro @Res.bd.eq_5<|And.intro @Res.bd.eq_6<|And.intro @Res.bd.eq_7<|And.intro @Vc.upd.eq_1<|And.intro @Vc.del.eq_1<|And.intro @Kd.enc.eq_1<|And.intro @Kd.enc.eq_2<|And.intro @Kd.enc.eq_3<|And.intro @Kd.enc.eq_4<|And.intro @Kd.enc.eq_5<|And.intro @Kd.enc.eq_6<|And.intro @Kd.enc.eq_7<|And.intro @Value.oneCell'.eq_1<|And.intro @Value.oneCell'.eq_2<| @Value.oneCell'.eq_3):=
 ⟨@Tq.eq_1,@Tq.eq_2,@Ow.eq_1,@Ow.eq_2,@Vc.bnd.eq_1,@Vc.bnd.eq_2,@St.get.eq_1,@St.find.eq_1,@Zo.eq_1,@Zo.eq_2,@SV.ren.eq_1,@SV.ren.eq_2,@SV.ren.eq_3,@Vc.S1.ren.eq_1,@Vc.S1.ren.eq_2,@At.ren.eq_1,@At.ren.eq_2,@At.ren.eq_3,@At.ren.eq_4,@At.ren.eq_5,@Res.ren.eq_1,@Res.ren.eq_2,@Res.ren.eq_3,@Res.ren.eq_4,@Res.ren.eq_5,@Res.ren.eq_6,@Res.ren.eq_7,@SV.bd.eq_1,@SV.bd.eq_2,@SV.bd.eq_3,@Vc.S1.bd.eq_1,@Vc.S1.bd.eq_2,@At.bd.eq_1,@At.bd.eq_2,@At.bd.eq_3,@At.bd.eq_4,@At.bd.eq_5,@At.bd.eq_6,@Res.bd.eq_1,@Res.bd.eq_2,@Res.bd.eq_3,@Res.bd.eq_4,@Res.bd.eq_5,@Res.bd.eq_6,@Res.bd.eq_7,@Vc.upd.eq_1,@Vc.del.eq_1,@Kd.enc.eq_1,@Kd.enc.eq_2,@Kd.enc.eq_3,@Kd.enc.eq_4,@Kd.enc.eq_5,@Kd.enc.eq_6,@Kd.enc.eq_7,@Value.oneCell'.eq_1,@Value.oneCell'.eq_2,@Value.oneCell'.eq_3⟩
theorem Ent.mk1{c:Cx}{S S2:St}(σ:Nat→Nat)(h:Tq σ S S2.slots∧Ow σ S S2.nx S2.res∧bnd S2.nx S2.slots∧(S2.res.map fun p=>σ p.1).Nodup):Ent c S S2:=Ent.mk σ h.1 h.2.1 h.2.2.1 h.2.2.2
class Stp (c:Cx) (x:IC) (Q:Exit→St→Prop) (S:St) (G:outParam Prop):Prop where
 h:G→T c x Q S
class Mix (P:Program):Prop where
 m:P.follows .mixedOrders=true
section
variable {c:Cx} {Q:Exit→St→Prop} {S:St}
instance {x y:IC}:Stp c (.seq x y) Q S (T c x (Lb (T c y Q) Q) S):=⟨T.seq⟩
instance {id:Nat} {x:IC}:Stp c (.block id x) Q S (T c x (Nw id Q) S):=⟨T.block⟩
instance {l:List In} {y:IC}:Stp c (.seq (.reg l) y) Q S (ex c l S (T c y Q)):=⟨T.regs⟩
instance {o:Opd} {x y:IC}:Stp c (.cond o x y) Q S (Ia S o (T c x Q S) (T c y Q S)):=⟨T.cond⟩
instance {l:List In}:Stp c (.reg l) Q S (ex c l S (Q .normal)):=⟨T.reg⟩
instance:Stp c .ret Q S (Q .ret S):=⟨T.ret⟩
instance {id:Nat}:Stp c (.exit id) Q S (Q (.exit id) S):=⟨T.exit⟩
instance:Stp c .skip Q S (Q .normal S):=⟨T.skip⟩
instance [Mix c.P] {l:List In} {y:IC}:Stp c (.seq (.dreg l) y) Q S (exq c l S (T c y Q)):=⟨T.dregs Mix.m⟩
instance [Mix c.P] {l:List In}:Stp c (.dreg l) Q S (exq c l S (Q .normal)):=⟨T.dreg Mix.m⟩
instance [Mix c.P] {a b:List In} {y:IC}:Stp c (.seq (.dregt a b) y) Q S (exh a S fun S'=>ex c b S' (T c y Q)):=⟨T.dregts Mix.m⟩
instance [Mix c.P] {a b:List In}:Stp c (.dregt a b) Q S (exh a S fun S'=>ex c b S' (Q .normal)):=⟨T.dregt Mix.m⟩
instance [Mix c.P] {t:DT} {y:IC}:Stp c (.seq (.dany t) y) Q S (exD c S.res t S (T c y Q)):=⟨T.danys Mix.m⟩
instance [Mix c.P] {t:DT}:Stp c (.dany t) Q S (exD c S.res t S (Q .normal)):=⟨T.dany Mix.m⟩
end
class Cl (g:Prop) (P:outParam Program) (f:outParam Nat) (args:outParam (List S1)) (S:outParam St) (K:outParam (SV→Prop)):Prop where
 h:∀ {ps:List Pat} {r:SV},RdC P f ps r→pm S args ps∧r.bd 0→K r→g
section
variable {c:Cx} {f:Nat} {args:List S1} {S:St}
instance {K:SV→St→Prop}:Cl (Za c f args S K) c.P f args S (fun r=>K r S):=⟨fun h hv hK=>Za.rd h hv hK⟩
instance {K:SV→Prop}:Cl (Zn c f args S K) c.P f args S K:=⟨fun h hv hK=>Zn.rd h hv hK⟩
def oneK(K:S1→Prop):SV→Prop
 |.one r=>K r
 |_=>False
theorem Bg{K:S1→Prop}{r:S1}:oneK K (.one r)=K r:=rfl
instance {b:Bool} {K:SV→St→Prop}:Cl (Zf c b f args S K) c.P f args S (oneK fun r=>K (.opt b r) S):=⟨fun {ps r} h hv hK=>by
 cases r with
 |one r=>exact Zf.rd h hv hK
 |_=>exact hK.elim⟩
instance {b:Bool} {K:SV→Prop}:Cl (Zi c b f args S K) c.P f args S (oneK fun r=>K (.opt b r)):=⟨fun {ps r} h hv hK=>by
 cases r with
 |one r=>exact Zi.rd h hv hK
 |_=>exact hK.elim⟩
end
theorem rq{g:Prop}{P:Program}{f:Nat}{args:List S1}{S:St}{K:SV→Prop}[k:Cl g P f args S K]{ps:List Pat}{r:SV}(h:RdC P f ps r)(hv:pm S args ps∧r.bd 0)(hK:K r):g:=k.h h hv hK
theorem tg{a:Bool}{p:Prop}(h:a=true)(h':a=false):p:=(tf h h').elim
theorem wrapL:IntKind.i64.wrap 0=0∧IntKind.i64.wrap 1=1∧IntKind.i64.wrap 2=2∧IntKind.i64.wrap 3=3:=⟨rfl,rfl,rfl,rfl⟩
theorem Zd:type_of%(And.intro @lemB<|And.intro @lemL<|And.intro @wrapL @Bg):=⟨@lemB,@lemL,@wrapL,@Bg⟩
theorem Zz:type_of%(And.intro @Zy<|And.intro @Zb<|And.intro @pm.eq_1<|And.intro @pm.eq_2<|And.intro @pm1.eq_1<|And.intro @pm1.eq_2<|And.intro @pm1.eq_3<|And.intro @T5.eq_1<|And.intro @T5.eq_2<|And.intro @Qs.eq_1<|And.intro @Qs.eq_2<|And.intro @Qs.eq_3 @At.bd.eq_1):=⟨@Zy,@Zb,@pm.eq_1,@pm.eq_2,@pm1.eq_1,@pm1.eq_2,@pm1.eq_3,@T5.eq_1,@T5.eq_2,@Qs.eq_1,@Qs.eq_2,@Qs.eq_3,@At.bd.eq_1⟩
abbrev i1(d:Nat)(x:I):In:=⟨none,some d,x⟩
abbrev i0(x:I):In:=⟨none,none,x⟩
abbrev i2(t:Nat)(b:Bool)(d:Nat)(x:I):In:=⟨some (t,b),some d,x⟩
abbrev mv(d s:Nat):In:=⟨none,some d,.mv (.t s)⟩
abbrev kI(n:Int):Opd:=.k (.a (.int .i64 n))
abbrev kB(b:Bool):Opd:=.k (.a (.bool b))
abbrev tk(d:Nat)(x:I)(b:Bool)(r:DT):DT:=.take ⟨none,some d,x⟩ b r
abbrev al(d:Nat)(x:I)(b:Bool)(r s:DT):DT:=.alt ⟨none,some d,x⟩ b r s
abbrev tm(d s:Nat)(b:Bool)(r:DT):DT:=.take ⟨none,some d,.mv (.t s)⟩ b r
end Vc
end Go.Proofs.YtbmecnjmbhokgaaGreatDoor
namespace Go.Proofs.YtbmecnjmbhokgaaGreatDoor
open Vc
namespace Jm
abbrev r0:List In:=[i1 2 (.alloc 145 [.bool false,.bool false,.bool false,.bool false])]
abbrev r1:List In:=[mv 4 0,
i1 5 (.bin .eql (.t 4) (kI 0)),
mv 6 5,
i2 6 false 7 (.mv (.t 0)),
i2 6 false 8 (.bin .eql (.t 7) (kI 27)),
i1 9 (.pick (.t 6) (kB true) (.t 8)),
mv 3 9]
abbrev r2:List In:=[i1 10 (.build [.bool false,.bool false,.bool false,.bool false] [(3,1,(kB true))]),
i0 (.store 4 (.t 2) (.t 10))]
abbrev r3:List In:=[mv 12 0,
i1 13 (.bin .eql (.t 12) (kI 1)),
mv 14 13,
i2 14 false 15 (.mv (.t 0)),
i2 14 false 16 (.bin .geq (.t 15) (kI 5)),
i2 14 false 17 (.mv (.t 16)),
i2 17 true 18 (.mv (.t 0)),
i2 17 true 19 (.bin .leq (.t 18) (kI 13)),
i2 14 false 20 (.pick (.t 17) (.t 19) (kB false)),
i1 21 (.pick (.t 14) (kB true) (.t 20)),
mv 11 21]
abbrev r4:List In:=[i1 22 (.build [.bool false,.bool false,.bool false,.bool false] [(0,1,(kB true)),(1,1,(kB true)),(3,1,(kB true))]),
i0 (.store 4 (.t 2) (.t 22))]
abbrev r5:List In:=[mv 24 0,
i1 25 (.bin .eql (.t 24) (kI 2)),
mv 23 25]
abbrev r6:List In:=[i1 26 (.build [.bool false,.bool false,.bool false,.bool false] [(0,1,(kB true)),(2,1,(kB true)),(3,1,(kB true))]),
i0 (.store 4 (.t 2) (.t 26))]
abbrev r7:List In:=[mv 28 0,
i1 29 (.bin .eql (.t 28) (kI 3)),
mv 30 29,
i2 30 false 31 (.mv (.t 0)),
i2 30 false 32 (.bin .eql (.t 31) (kI 4)),
i1 33 (.pick (.t 30) (kB true) (.t 32)),
mv 27 33]
abbrev r8:List In:=[i1 34 (.build [.bool false,.bool false,.bool false,.bool false] [(0,1,(kB true)),(1,1,(kB true)),(2,1,(kB true)),(3,1,(kB true))]),
i0 (.store 4 (.t 2) (.t 34))]
abbrev r9:List In:=[mv 36 0,
i1 37 (.bin .geq (.t 36) (kI 14)),
mv 38 37,
i2 38 true 39 (.mv (.t 0)),
i2 38 true 40 (.bin .leq (.t 39) (kI 18)),
i1 41 (.pick (.t 38) (.t 40) (kB false)),
mv 42 41,
i2 42 false 43 (.mv (.t 0)),
i2 42 false 44 (.bin .eql (.t 43) (kI 29)),
i1 45 (.pick (.t 42) (kB true) (.t 44)),
mv 46 45,
i2 46 false 47 (.mv (.t 0)),
i2 46 false 48 (.bin .eql (.t 47) (kI 31)),
i1 49 (.pick (.t 46) (kB true) (.t 48)),
mv 35 49]
abbrev r10:List In:=[i1 50 (.build [.bool false,.bool false,.bool false,.bool false] [(0,1,(kB true)),(3,1,(kB true))]),
i0 (.store 4 (.t 2) (.t 50))]
abbrev r11:List In:=[mv 52 0,
i1 53 (.bin .eql (.t 52) (kI 28)),
mv 54 53,
i2 54 false 55 (.mv (.t 0)),
i2 54 false 56 (.bin .eql (.t 55) (kI 30)),
i1 57 (.pick (.t 54) (kB true) (.t 56)),
mv 51 57]
abbrev r12:List In:=[i1 58 (.build [.bool false,.bool false,.bool false,.bool false] [(1,1,(kB true)),(3,1,(kB true))]),
i0 (.store 4 (.t 2) (.t 58))]
abbrev r13:List In:=[mv 60 0,
i1 61 (.bin .geq (.t 60) (kI 19)),
mv 62 61,
i2 62 true 63 (.mv (.t 0)),
i2 62 true 64 (.bin .leq (.t 63) (kI 26)),
i1 65 (.pick (.t 62) (.t 64) (kB false)),
mv 66 65,
i2 66 false 67 (.mv (.t 0)),
i2 66 false 68 (.bin .eql (.t 67) (kI 32)),
i1 69 (.pick (.t 66) (kB true) (.t 68)),
mv 59 69]
abbrev r14:List In:=[i1 70 (.build [.bool false,.bool false,.bool false,.bool false] [(2,1,(kB true)),(3,1,(kB true))]),
i0 (.store 4 (.t 2) (.t 70))]
abbrev r15:List In:=[i1 71 (.build [.bool false,.bool false,.bool false,.bool false] []),
i0 (.store 4 (.t 2) (.t 71))]
abbrev code:IC:=.seq (.reg r0) (.seq (.block 0 (.seq (.reg r1) (.cond (.t 3) (.seq (.reg r2) .ret) (.seq (.reg r3) (.cond (.t 11) (.seq (.reg r4) .ret) (.seq (.reg r5) (.cond (.t 23) (.seq (.reg r6) .ret) (.seq (.reg r7) (.cond (.t 27) (.seq (.reg r8) .ret) (.seq (.reg r9) (.cond (.t 35) (.seq (.reg r10) .ret) (.seq (.reg r11) (.cond (.t 51) (.seq (.reg r12) .ret) (.seq (.reg r13) (.cond (.t 59) (.seq (.reg r14) .ret) .skip))))))))))))))) (.seq (.reg r15) .ret))
abbrev res:List RV:=[.cell 2 4 true]
theorem fn:Body Tryz.prog 84 72 code res:=⟨by decide,Tryz.f84,_,Tryz.func84,rfl,rfl,by kernel_rfl,by kernel_rfl⟩
end Jm
namespace Q3
abbrev r0:List In:=[i1 2 (.mv (kB false)),
i1 3 (.mv (kB false)),
i1 4 (.mv (kB false)),
i1 5 (.mv (kI 0))]
abbrev r1:List In:=[mv 7 0,
i1 8 (.call 84 [.t 7]),
i1 6 (.alloc 145 [.bool false,.bool false,.bool false,.bool false]),
i0 (.store 4 (.t 6) (.t 8))]
abbrev r2:List In:=[i1 9 (.faddr 3 (.t 6)),
i1 10 (.load 1 false (.t 9)),
i1 11 (.un .not (.t 10))]
abbrev r3:List In:=[i1 2 (.mv (kB false)),
i1 3 (.mv (kB false)),
i1 4 (.mv (kB false)),
i1 5 (.mv (kI 1))]
abbrev r4:List In:=[i1 12 (.faddr 0 (.t 6)),
i1 13 (.load 1 false (.t 12)),
i1 14 (.faddr 1 (.t 6)),
i1 15 (.load 1 false (.t 14)),
i1 16 (.faddr 2 (.t 6)),
i1 17 (.load 1 false (.t 16)),
mv 2 13,
mv 3 15,
mv 4 17,
i1 5 (.mv (kI 0))]
abbrev code:IC:=.seq (.reg r0) (.seq (.reg r1) (.seq (.seq (.reg r2) (.cond (.t 11) (.seq (.reg r3) .ret) .skip)) (.seq (.dreg r4) .ret)))
abbrev res:List RV:=[.tmp 2,.tmp 3,.tmp 4,.tmp 5]
theorem fn:Body Tryz.prog 111 18 code res:=⟨by decide,Tryz.f111,_,Tryz.func111,rfl,rfl,by kernel_rfl,by kernel_rfl⟩
end Q3
namespace Mj
abbrev r0:List In:=[i1 2 (.mv (kI 0)),
i1 3 (.mv (kI 0))]
abbrev r1:List In:=[mv 5 0,
i1 6 (.call 84 [.t 5]),
i1 4 (.alloc 145 [.bool false,.bool false,.bool false,.bool false]),
i0 (.store 4 (.t 4) (.t 6))]
abbrev r2:List In:=[i1 8 (.faddr 3 (.t 4)),
i1 9 (.load 1 false (.t 8)),
i1 10 (.un .not (.t 9)),
mv 7 10]
abbrev r3:List In:=[i1 2 (.mv (kI 0)),
i1 3 (.mv (kI 1))]
abbrev r4:List In:=[i1 12 (.faddr 2 (.t 4)),
i1 13 (.load 1 false (.t 12)),
mv 11 13]
abbrev r5:List In:=[i1 2 (.mv (kI 2)),
i1 3 (.mv (kI 0))]
abbrev r6:List In:=[i1 2 (.mv (kI 1)),
i1 3 (.mv (kI 0))]
abbrev code:IC:=.seq (.reg r0) (.seq (.reg r1) (.seq (.block 0 (.seq (.reg r2) (.cond (.t 7) (.seq (.reg r3) .ret) (.seq (.reg r4) (.cond (.t 11) (.seq (.reg r5) .ret) .skip))))) (.seq (.reg r6) .ret)))
abbrev res:List RV:=[.tmp 2,.tmp 3]
theorem fn:Body Tryz.prog 81 14 code res:=⟨by decide,Tryz.f81,_,Tryz.func81,rfl,rfl,by kernel_rfl,by kernel_rfl⟩
end Mj
namespace Ng
abbrev r0:List In:=[i1 1 (.box 70 (.t 0)),
i1 2 (.mv (kI 0))]
abbrev r1:List In:=[i1 4 (.faddr 0 (.t 1)),
i1 5 (.load 1 false (.t 4)),
i1 6 (.call 84 [.t 5]),
i1 3 (.alloc 145 [.bool false,.bool false,.bool false,.bool false]),
i0 (.store 4 (.t 3) (.t 6))]
abbrev r2:List In:=[i1 8 (.faddr 3 (.t 3)),
i1 9 (.load 1 false (.t 8)),
i1 10 (.un .not (.t 9)),
mv 7 10]
abbrev r3:List In:=[i1 2 (.mv (kI 1))]
abbrev r4:List In:=[i1 12 (.faddr 0 (.t 3)),
i1 13 (.load 1 false (.t 12)),
mv 14 13,
i2 14 true 15 (.faddr 1 (.t 1)),
i2 14 true 16 (.load 1 false (.t 15)),
i2 14 true 17 (.call 115 [.t 16]),
i2 14 true 18 (.un .not (.t 17)),
i1 19 (.pick (.t 14) (.t 18) (kB false)),
mv 11 19]
abbrev r5:List In:=[i1 20 (.faddr 1 (.t 3)),
i1 21 (.load 1 false (.t 20)),
mv 22 21,
i2 22 true 23 (.faddr 2 (.t 1)),
i2 22 true 24 (.load 1 false (.t 23)),
i2 22 true 25 (.call 115 [.t 24]),
i2 22 true 26 (.un .not (.t 25)),
i1 27 (.pick (.t 22) (.t 26) (kB false)),
mv 11 27]
abbrev r6:List In:=[i1 28 (.faddr 2 (.t 3)),
i1 29 (.load 1 false (.t 28)),
mv 30 29,
i2 30 true 31 (.faddr 3 (.t 1)),
i2 30 true 32 (.load 1 false (.t 31)),
i2 30 true 33 (.call 116 [.t 32]),
i2 30 true 34 (.un .not (.t 33)),
i1 35 (.pick (.t 30) (.t 34) (kB false)),
mv 11 35]
abbrev r7:List In:=[i1 2 (.mv (kI 3))]
abbrev r8:List In:=[i1 2 (.mv (kI 0))]
abbrev code:IC:=.seq (.reg r0) (.seq (.reg r1) (.seq (.block 0 (.seq (.reg r2) (.cond (.t 7) (.seq (.reg r3) .ret) (.seq (.seq (.reg r4) (.cond (.t 11) .skip (.seq (.reg r5) (.cond (.t 11) .skip (.reg r6))))) (.cond (.t 11) (.seq (.reg r7) .ret) .skip))))) (.seq (.reg r8) .ret)))
abbrev res:List RV:=[.tmp 2]
theorem fn:Body Tryz.prog 83 36 code res:=⟨by decide,Tryz.f83,_,Tryz.func83,rfl,rfl,by kernel_rfl,by kernel_rfl⟩
end Ng
namespace Qf
abbrev r0:List In:=[i1 2 (.mv (kB false))]
abbrev r1:List In:=[mv 3 0,
i1 4 (.bin .geq (.t 3) (kI 0)),
mv 5 4,
i2 5 true 6 (.mv (.t 0)),
i2 5 true 7 (.bin .leq (.t 6) (kI 7)),
i1 8 (.pick (.t 5) (.t 7) (kB false)),
mv 2 8]
abbrev code:IC:=.seq (.reg r0) (.seq (.reg r1) .ret)
abbrev res:List RV:=[.tmp 2]
theorem fn:Body Tryz.prog 115 9 code res:=⟨by decide,Tryz.f115,_,Tryz.func115,rfl,rfl,by kernel_rfl,by kernel_rfl⟩
end Qf
namespace P2
abbrev r0:List In:=[i1 2 (.mv (kB false))]
abbrev r1:List In:=[mv 3 0,
i1 4 (.bin .geq (.t 3) (kI 0)),
mv 5 4,
i2 5 true 6 (.mv (.t 0)),
i2 5 true 7 (.bin .leq (.t 6) (kI 65535)),
i1 8 (.pick (.t 5) (.t 7) (kB false)),
mv 2 8]
abbrev code:IC:=.seq (.reg r0) (.seq (.reg r1) .ret)
abbrev res:List RV:=[.tmp 2]
theorem fn:Body Tryz.prog 116 9 code res:=⟨by decide,Tryz.f116,_,Tryz.func116,rfl,rfl,by kernel_rfl,by kernel_rfl⟩
end P2
namespace P1
abbrev r0:List In:=[i1 2 (.mv (.k (.a (.raw (.slice none 0 0))))),
i1 3 (.alloc 80 [.int .i64 0,.int .i64 0])]
abbrev r1:List In:=[i1 4 (.mv (.k (.a (.raw (.slice none 0 0)))))]
abbrev r2:List In:=[mv 10 0,
i1 11 (.len (.t 10)),
i1 12 (.mv (kI 0))]
abbrev r3:List In:=[i1 13 (.bin .lss (.t 12) (.t 11))]
abbrev r4:List In:=[mv 14 12,
i1 15 (.iaddr 4 (.t 10) (.t 12)),
i1 16 (.load 4 true (.t 15)),
i1 6 (.alloc 70 [.int .i64 0,.int .i64 0,.int .i64 0,.int .i64 0]),
mv 5 14,
i0 (.store 4 (.t 6) (.t 16))]
abbrev r5:List In:=[i1 17 (.load 4 true (.t 6)),
i1 18 (.call 83 [.t 17]),
mv 7 18]
abbrev r6:List In:=[mv 19 7,
i1 20 (.bin .neq (.t 19) (kI 0))]
abbrev r7:List In:=[mv 21 7,
mv 22 5,
i1 23 (.build [.int .i64 0,.int .i64 0] [(0,1,(.t 21)),(1,1,(.t 22))]),
i1 2 (.mv (.k (.a (.raw (.slice none 0 0))))),
i0 (.store 2 (.t 3) (.t 23))]
abbrev r8:List In:=[i1 24 (.faddr 0 (.t 6)),
i1 25 (.load 1 false (.t 24)),
i1 26 (.call 84 [.t 25]),
i1 8 (.alloc 145 [.bool false,.bool false,.bool false,.bool false]),
i0 (.store 4 (.t 8) (.t 26))]
abbrev r9:List In:=[i1 27 (.faddr 0 (.t 6)),
i1 28 (.load 1 false (.t 27)),
i1 29 (.bin .shl (.t 28) (.k (.a (.int .u64 10)))),
mv 9 29]
abbrev r10:List In:=[i1 30 (.faddr 0 (.t 8)),
i1 31 (.load 1 false (.t 30))]
abbrev r11:List In:=[mv 32 9,
i1 33 (.faddr 1 (.t 6)),
i1 34 (.load 1 false (.t 33)),
i1 35 (.bin .shl (.t 34) (.k (.a (.int .u64 7)))),
i1 36 (.bin .or (.t 32) (.t 35)),
mv 9 36]
abbrev r12:List In:=[i1 37 (.faddr 1 (.t 8)),
i1 38 (.load 1 false (.t 37))]
abbrev r13:List In:=[mv 39 9,
i1 40 (.faddr 2 (.t 6)),
i1 41 (.load 1 false (.t 40)),
i1 42 (.bin .shl (.t 41) (.k (.a (.int .u64 4)))),
i1 43 (.bin .or (.t 39) (.t 42)),
mv 9 43]
abbrev r14:List In:=[mv 44 4,
mv 45 9,
i1 46 (.bsl 3 1 1 [.int .i64 0] [(0,1,(.t 45))]),
i1 47 (.app 42 3 1 8 (.t 44) (.t 46)),
mv 4 47]
abbrev r15:List In:=[i1 48 (.faddr 2 (.t 8)),
i1 49 (.load 1 false (.t 48))]
abbrev r16:List In:=[mv 50 4,
i1 51 (.faddr 3 (.t 6)),
i1 52 (.load 1 false (.t 51)),
i1 53 (.bsl 3 1 1 [.int .i64 0] [(0,1,(.t 52))]),
i1 54 (.app 42 3 1 8 (.t 50) (.t 53)),
mv 4 54]
abbrev r17:List In:=[mv 55 4,
i1 56 (.len (.t 55)),
i1 57 (.bin .gtr (.t 56) (kI 65536))]
abbrev r18:List In:=[mv 58 5,
i1 59 (.build [.int .i64 0,.int .i64 0] [(0,1,(kI 4)),(1,1,(.t 58))]),
i1 2 (.mv (.k (.a (.raw (.slice none 0 0))))),
i0 (.store 2 (.t 3) (.t 59))]
abbrev r19:List In:=[i1 60 (.bin .add (.t 12) (kI 1)),
mv 12 60]
abbrev r20:List In:=[mv 61 4,
i1 62 (.build [.int .i64 0,.int .i64 0] []),
mv 2 61,
i0 (.store 2 (.t 3) (.t 62))]
abbrev code:IC:=.seq (.reg r0) (.seq (.reg r1) (.seq (.seq (.reg r2) (.block 0 (.loop (.seq (.reg r3) (.seq (.cond (.t 13) .skip (.exit 0)) (.seq (.block 1 (.seq (.reg r4) (.seq (.seq (.reg r5) (.seq (.reg r6) (.cond (.t 20) (.seq (.reg r7) .ret) .skip))) (.seq (.reg r8) (.seq (.reg r9) (.seq (.seq (.reg r10) (.cond (.t 31) (.reg r11) .skip)) (.seq (.seq (.reg r12) (.cond (.t 38) (.reg r13) .skip)) (.seq (.reg r14) (.seq (.seq (.reg r15) (.cond (.t 49) (.reg r16) .skip)) (.seq (.reg r17) (.cond (.t 57) (.seq (.reg r18) .ret) .skip))))))))))) (.reg r19))))))) (.seq (.reg r20) .ret)))
abbrev res:List RV:=[.tmp 2,.cell 3 2 true]
theorem fn:Body Tryz.prog 71 63 code res:=⟨by decide,Tryz.f71,_,Tryz.func71,rfl,rfl,by kernel_rfl,by kernel_rfl⟩
end P1
namespace Kj
abbrev r0:List In:=[i1 4 (.alloc 70 [.int .i64 0,.int .i64 0,.int .i64 0,.int .i64 0]),
i1 5 (.mv (kI 0))]
abbrev r1:List In:=[mv 9 1,
i1 10 (.bin .lss (.t 9) (kI 0)),
mv 11 10,
i2 11 false 12 (.mv (.t 1)),
i2 11 false 13 (.mv (.t 0)),
i2 11 false 14 (.len (.t 13)),
i2 11 false 15 (.bin .geq (.t 12) (.t 14)),
i1 16 (.pick (.t 11) (kB true) (.t 15)),
mv 17 16,
i2 17 false 18 (.mv (.t 0)),
i2 17 false 19 (.mv (.t 1)),
i2 17 false 20 (.iaddr 1 (.t 18) (.t 19)),
i2 17 false 21 (.load 1 false (.t 20)),
i2 17 false 22 (.call 116 [.t 21]),
i2 17 false 23 (.un .not (.t 22)),
i1 24 (.pick (.t 17) (kB true) (.t 23))]
abbrev r2:List In:=[i1 25 (.build [.int .i64 0,.int .i64 0,.int .i64 0,.int .i64 0] []),
i0 (.store 4 (.t 4) (.t 25)),
i1 5 (.mv (kI 0))]
abbrev r3:List In:=[mv 26 0,
mv 27 1,
i1 28 (.iaddr 1 (.t 26) (.t 27)),
i1 29 (.load 1 false (.t 28)),
mv 6 29]
abbrev r4:List In:=[mv 30 6,
i1 31 (.bin .shr (.t 30) (.k (.a (.int .u64 10)))),
mv 32 6,
i1 33 (.bin .shr (.t 32) (.k (.a (.int .u64 7)))),
i1 34 (.bin .and (.t 33) (kI 7)),
mv 35 6,
i1 36 (.bin .shr (.t 35) (.k (.a (.int .u64 4)))),
i1 37 (.bin .and (.t 36) (kI 7)),
i1 38 (.build [.int .i64 0,.int .i64 0,.int .i64 0,.int .i64 0] [(0,1,(.t 31)),(1,1,(.t 34)),(2,1,(.t 37))]),
i1 7 (.alloc 70 [.int .i64 0,.int .i64 0,.int .i64 0,.int .i64 0]),
i0 (.store 4 (.t 7) (.t 38))]
abbrev r5:List In:=[i1 39 (.faddr 0 (.t 7)),
i1 40 (.load 1 false (.t 39)),
i1 41 (.call 84 [.t 40]),
i1 8 (.alloc 145 [.bool false,.bool false,.bool false,.bool false]),
i0 (.store 4 (.t 8) (.t 41))]
abbrev r6:List In:=[i1 42 (.faddr 3 (.t 8)),
i1 43 (.load 1 false (.t 42)),
i1 44 (.un .not (.t 43)),
mv 45 44,
i2 45 false 46 (.mv (.t 6)),
i2 45 false 47 (.bin .and (.t 46) (kI 15)),
i2 45 false 48 (.bin .neq (.t 47) (kI 0)),
i1 49 (.pick (.t 45) (kB true) (.t 48)),
mv 50 49,
i2 50 false 51 (.faddr 0 (.t 8)),
i2 50 false 52 (.load 1 false (.t 51)),
i2 50 false 53 (.un .not (.t 52)),
i2 50 false 54 (.mv (.t 53)),
i2 54 true 55 (.faddr 1 (.t 7)),
i2 54 true 56 (.load 1 false (.t 55)),
i2 54 true 57 (.bin .neq (.t 56) (kI 0)),
i2 50 false 58 (.pick (.t 54) (.t 57) (kB false)),
i1 59 (.pick (.t 50) (kB true) (.t 58)),
mv 60 59,
i2 60 false 61 (.faddr 1 (.t 8)),
i2 60 false 62 (.load 1 false (.t 61)),
i2 60 false 63 (.un .not (.t 62)),
i2 60 false 64 (.mv (.t 63)),
i2 64 true 65 (.faddr 2 (.t 7)),
i2 64 true 66 (.load 1 false (.t 65)),
i2 64 true 67 (.bin .neq (.t 66) (kI 0)),
i2 60 false 68 (.pick (.t 64) (.t 67) (kB false)),
i1 69 (.pick (.t 60) (kB true) (.t 68))]
abbrev r7:List In:=[i1 70 (.build [.int .i64 0,.int .i64 0,.int .i64 0,.int .i64 0] []),
i0 (.store 4 (.t 4) (.t 70)),
i1 5 (.mv (kI 0))]
abbrev r8:List In:=[i1 71 (.faddr 2 (.t 8)),
i1 72 (.load 1 false (.t 71)),
i1 73 (.un .not (.t 72))]
abbrev r9:List In:=[i1 74 (.load 4 true (.t 7)),
i0 (.store 4 (.t 4) (.t 74)),
i1 5 (.mv (kI 1))]
abbrev r10:List In:=[mv 75 1,
i1 76 (.bin .add (.t 75) (kI 1)),
mv 77 0,
i1 78 (.len (.t 77)),
i1 79 (.bin .geq (.t 76) (.t 78)),
mv 80 79,
i2 80 false 81 (.mv (.t 0)),
i2 80 false 82 (.mv (.t 1)),
i2 80 false 83 (.bin .add (.t 82) (kI 1)),
i2 80 false 84 (.iaddr 1 (.t 81) (.t 83)),
i2 80 false 85 (.load 1 false (.t 84)),
i2 80 false 86 (.call 116 [.t 85]),
i2 80 false 87 (.un .not (.t 86)),
i1 88 (.pick (.t 80) (kB true) (.t 87))]
abbrev r11:List In:=[i1 89 (.build [.int .i64 0,.int .i64 0,.int .i64 0,.int .i64 0] []),
i0 (.store 4 (.t 4) (.t 89)),
i1 5 (.mv (kI 0))]
abbrev r12:List In:=[mv 90 0,
mv 91 1,
i1 92 (.bin .add (.t 91) (kI 1)),
i1 93 (.iaddr 1 (.t 90) (.t 92)),
i1 94 (.load 1 false (.t 93)),
i1 95 (.faddr 3 (.t 7)),
i0 (.store 1 (.t 95) (.t 94))]
abbrev r13:List In:=[i1 96 (.load 4 true (.t 7)),
i0 (.store 4 (.t 4) (.t 96)),
i1 5 (.mv (kI 2))]
abbrev code:IC:=.seq (.reg r0) (.seq (.seq (.reg r1) (.cond (.t 24) (.seq (.reg r2) .ret) .skip)) (.seq (.reg r3) (.seq (.reg r4) (.seq (.reg r5) (.seq (.seq (.reg r6) (.cond (.t 69) (.seq (.reg r7) .ret) .skip)) (.seq (.seq (.reg r8) (.cond (.t 73) (.seq (.reg r9) .ret) .skip)) (.seq (.seq (.reg r10) (.cond (.t 88) (.seq (.reg r11) .ret) .skip)) (.seq (.reg r12) (.seq (.reg r13) .ret)))))))))
abbrev res:List RV:=[.cell 4 4 true,.tmp 5]
theorem fn:Body Tryz.prog 118 97 code res:=⟨by decide,Tryz.f118,_,Tryz.func118,rfl,rfl,by kernel_rfl,by kernel_rfl⟩
end Kj
end Go.Proofs.YtbmecnjmbhokgaaGreatDoor
namespace Go.Proofs.YtbmecnjmbhokgaaGreatDoor
open Go.RowKit Vc
set_option linter.unusedVariables false
set_option linter.unusedSimpArgs false
attribute [local irreducible] T Za Zn Ent RdC RwC Yj Zf Zi
theorem mix:Tryz.prog.follows .mixedOrders=true:=by kernel_rfl
instance:Mix Tryz.prog:=⟨mix⟩
def R7(n:Int):Bool:=decide (n=1∨(5≤n∧n≤13)∨n=2∨n=3∨n=4∨(14≤n∧n≤18)∨n=29∨n=31)
def R8(n:Int):Bool:=decide (n=1∨(5≤n∧n≤13)∨n=3∨n=4∨n=28∨n=30)
def V7(n:Int):Bool:=decide (n=2∨n=3∨n=4∨(19≤n∧n≤26)∨n=32)
def U8(n:Int):Bool:=decide (0≤n∧n≤32)
theorem Vq(n:Int):RdC Tryz.prog 84 [.v (.a (.int .i64 n))] (.one (.agg [.bool (R7 n),.bool (R8 n),.bool (V7 n),.bool (U8 n)])):=by
 refine Jm.fn.rd (by simp) (by simp[Zz]) (by simp[Zz]) fun w=> ?_
 repeat'(first|(first|refine Stp.h ?_)<;>try simp only[Zd,simprocAttr,↓reduceIte,reduceCtorEq,implies_true]|(with_reducible first|assumption|refine And.intro ?_ ?_)|(intro h;first|omega|exact tg h ‹_›|exact tg ‹_› h|skip))
 all_goals simp only[R7,R8,V7,U8,SV.one.injEq,S1.agg.injEq,List.cons.injEq,At.bool.injEq,true_eq_decide_iff,false_eq_decide_iff,and_true]
 all_goals omega
def reg(n:Int):Bool:=decide (0≤n)&&decide (n≤7)
def Qd(n:Int):Bool:=decide (0≤n)&&decide (n≤65535)
theorem M3(n:Int):RdC Tryz.prog 115 [.v (.a (.int .i64 n))] (.one (.a (.bool (reg n)))):=by
 refine Qf.fn.rd (by simp) (by simp[Zz]) (by simp[Zz]) fun w=> ?_
 repeat'(first|(first|refine Stp.h ?_)<;>try simp only[Zd,simprocAttr,↓reduceIte,reduceCtorEq,implies_true]|(with_reducible first|assumption|refine And.intro ?_ ?_)|(intro h;first|omega|exact tg h ‹_›|exact tg ‹_› h|skip))
 rfl
theorem Vd(n:Int):RdC Tryz.prog 116 [.v (.a (.int .i64 n))] (.one (.a (.bool (Qd n)))):=by
 refine P2.fn.rd (by simp) (by simp[Zz]) (by simp[Zz]) fun w=> ?_
 repeat'(first|(first|refine Stp.h ?_)<;>try simp only[Zd,simprocAttr,↓reduceIte,reduceCtorEq,implies_true]|(with_reducible first|assumption|refine And.intro ?_ ?_)|(intro h;first|omega|exact tg h ‹_›|exact tg ‹_› h|skip))
 rfl
theorem Dn(n:Int)(h:U8 n=true):RdC Tryz.prog 111 [.v (.a (.int .i64 n))] (.tup [.a (.bool (R7 n)),.a (.bool (R8 n)),.a (.bool (V7 n)),.a (.int .i64 0)]):=by
 refine Q3.fn.rd (by simp) (by simp[Zz]) (by simp[Zz]) fun w=> ?_
 repeat'(first|(first|refine Stp.h ?_|((with_reducible first|apply Za.rd (Vq _)|apply Zf.rd (Vq _));focus((repeat'(first|exact rfl|exact trivial|refine And.intro ?_ ?_|(simp[Zz];done)));done)))<;>try simp only[Zd,simprocAttr,↓reduceIte,reduceCtorEq,implies_true,h]|(with_reducible first|assumption|refine And.intro ?_ ?_)|(intro h;first|omega|exact tg h ‹_›|exact tg ‹_› h|skip))
theorem Uses_no(n:Int)(h:U8 n=false):RdC Tryz.prog 111 [.v (.a (.int .i64 n))] (.tup [.a (.bool false),.a (.bool false),.a (.bool false),.a (.int .i64 1)]):=by
 refine Q3.fn.rd (by simp) (by simp[Zz]) (by simp[Zz]) fun w=> ?_
 repeat'(first|(first|refine Stp.h ?_|((with_reducible first|apply Za.rd (Vq _)|apply Zf.rd (Vq _));focus((repeat'(first|exact rfl|exact trivial|refine And.intro ?_ ?_|(simp[Zz];done)));done)))<;>try simp only[Zd,simprocAttr,↓reduceIte,reduceCtorEq,implies_true,h]|(with_reducible first|assumption|refine And.intro ?_ ?_)|(intro h;first|omega|exact tg h ‹_›|exact tg ‹_› h|skip))
def Wv(x:Ins):Int:=if U8 x.op=false then 1 else if(R7 x.op&& !reg x.d)||((R8 x.op&& !reg x.s)||(V7 x.op&& !Qd x.imm))then 3 else 0
set_option maxHeartbeats 1000000 in
theorem O4(x:Ins):RdC Tryz.prog 83 [.v (.agg x.cells)] (.one (.a (.int .i64 (Wv x)))):=by
 refine Ng.fn.rd (by simp) (by simp[Qs,S1.bd,At.bd,Ins.cells]) (by simp[Zz]) fun w=> ?_
 repeat'(first|(first|refine Stp.h ?_|((with_reducible first|apply Za.rd (Vq _)|apply Zf.rd (Vq _));focus((repeat'(first|exact rfl|exact trivial|refine And.intro ?_ ?_|(simp[Zz];done)));done))|((with_reducible first|apply Za.rd (M3 _)|apply Zf.rd (M3 _));focus((repeat'(first|exact rfl|exact trivial|refine And.intro ?_ ?_|(simp[Zz];done)));done))|((with_reducible first|apply Za.rd (Vd _)|apply Zf.rd (Vd _));focus((repeat'(first|exact rfl|exact trivial|refine And.intro ?_ ?_|(simp[Zz];done)));done)))<;>try simp only[Zd,simprocAttr,↓reduceIte,reduceCtorEq,implies_true]|(with_reducible first|assumption|refine And.intro ?_ ?_)|(intro h;first|omega|exact tg h ‹_›|exact tg ‹_› h|skip))
 all_goals simp_all[Wv]
def Iv(n:Int):Int:=if V7 n then 2 else 1
theorem Dh(n:Int)(h:U8 n=true):RdC Tryz.prog 81 [.v (.a (.int .i64 n))] (.tup [.a (.int .i64 (Iv n)),.a (.int .i64 0)]):=by
 refine Mj.fn.rd (by simp) (by simp[Zz]) (by simp[Zz]) fun w=> ?_
 repeat'(first|(first|refine Stp.h ?_|((with_reducible first|apply Za.rd (Vq _)|apply Zf.rd (Vq _));focus((repeat'(first|exact rfl|exact trivial|refine And.intro ?_ ?_|(simp[Zz];done)));done)))<;>try simp only[Zd,simprocAttr,↓reduceIte,reduceCtorEq,implies_true,h]|(with_reducible first|assumption|refine And.intro ?_ ?_)|(intro h;first|omega|exact tg h ‹_›|exact tg ‹_› h|skip))
 all_goals simp_all[Iv]
def Vt:Ins:=⟨0,0,0,0⟩
end Go.Proofs.YtbmecnjmbhokgaaGreatDoor
namespace Go.Proofs.YtbmecnjmbhokgaaGreatDoor
open Vc
namespace Ke
abbrev r0:List In:=[i1 2 (.mv (kB false))]
abbrev r1:List In:=[mv 6 0,
i1 7 (.slen (.t 6)),
i1 8 (.bin .lss (.t 7) (kI 1)),
mv 9 8,
i2 9 false 10 (.mv (.t 0)),
i2 9 false 11 (.slen (.t 10)),
i2 9 false 12 (.bin .gtr (.t 11) (kI 32)),
i1 13 (.pick (.t 9) (kB true) (.t 12))]
abbrev r2:List In:=[i1 2 (.mv (kB false))]
abbrev r3:List In:=[mv 14 0,
i1 15 (.slen (.t 14)),
i1 16 (.mv (kI 0))]
abbrev r4:List In:=[i1 17 (.bin .lss (.t 16) (.t 15))]
abbrev r5:List In:=[mv 18 16,
mv 3 18]
abbrev r6:List In:=[mv 19 0,
mv 20 3,
i1 21 (.sidx (.t 19) (.t 20)),
mv 4 21]
abbrev r7:List In:=[mv 22 4,
i1 23 (.bin .geq (.t 22) (.k (.a (.int .u8 97)))),
mv 24 23,
i2 24 true 25 (.mv (.t 4)),
i2 24 true 26 (.bin .leq (.t 25) (.k (.a (.int .u8 122)))),
i1 27 (.pick (.t 24) (.t 26) (kB false)),
mv 28 27,
i2 28 false 29 (.mv (.t 4)),
i2 28 false 30 (.bin .eql (.t 29) (.k (.a (.int .u8 95)))),
i1 31 (.pick (.t 28) (kB true) (.t 30)),
mv 32 31,
i2 32 false 33 (.mv (.t 4)),
i2 32 false 34 (.bin .eql (.t 33) (.k (.a (.int .u8 46)))),
i2 32 false 35 (.mv (.t 34)),
i2 35 true 36 (.mv (.t 3)),
i2 35 true 37 (.bin .eql (.t 36) (kI 0)),
i2 32 false 38 (.pick (.t 35) (.t 37) (kB false)),
i1 39 (.pick (.t 32) (kB true) (.t 38)),
mv 5 39]
abbrev r8:List In:=[mv 40 5,
i1 41 (.un .not (.t 40)),
mv 42 41,
i2 42 true 43 (.mv (.t 3)),
i2 42 true 44 (.bin .eql (.t 43) (kI 0)),
i2 42 true 45 (.mv (.t 44)),
i2 45 false 46 (.mv (.t 4)),
i2 45 false 47 (.bin .lss (.t 46) (.k (.a (.int .u8 48)))),
i2 42 true 48 (.pick (.t 45) (kB true) (.t 47)),
i2 42 true 49 (.mv (.t 48)),
i2 49 false 50 (.mv (.t 4)),
i2 49 false 51 (.bin .gtr (.t 50) (.k (.a (.int .u8 57)))),
i2 42 true 52 (.pick (.t 49) (kB true) (.t 51)),
i1 53 (.pick (.t 42) (.t 52) (kB false))]
abbrev r9:List In:=[i1 2 (.mv (kB false))]
abbrev r10:List In:=[i1 54 (.bin .add (.t 16) (kI 1)),
mv 16 54]
abbrev r11:List In:=[mv 55 0,
i1 56 (.bin .neq (.t 55) (.k (.a (.str [46])))),
mv 2 56]
abbrev code:IC:=.seq (.reg r0) (.seq (.seq (.reg r1) (.cond (.t 13) (.seq (.reg r2) .ret) .skip)) (.seq (.seq (.reg r3) (.block 0 (.loop (.seq (.reg r4) (.seq (.cond (.t 17) .skip (.exit 0)) (.seq (.block 1 (.seq (.reg r5) (.seq (.reg r6) (.seq (.reg r7) (.seq (.reg r8) (.cond (.t 53) (.seq (.reg r9) .ret) .skip)))))) (.reg r10))))))) (.seq (.reg r11) .ret)))
abbrev res:List RV:=[.tmp 2]
theorem fn:Body Tryz.prog 109 57 code res:=⟨by decide,Tryz.f109,_,Tryz.func109,rfl,rfl,by kernel_rfl,by kernel_rfl⟩
end Ke
namespace Mi
abbrev r0:List In:=[i1 2 (.mv (kB false))]
abbrev r1:List In:=[mv 8 0,
i1 9 (.call 111 [.t 8]),
mv 7 9,
i1 10 (.ext 0 (.t 7)),
i1 11 (.ext 1 (.t 7)),
i1 12 (.ext 2 (.t 7)),
i1 13 (.ext 3 (.t 7)),
mv 3 10,
mv 4 11,
mv 5 12,
mv 6 13]
abbrev r2:List In:=[mv 14 6,
i1 15 (.bin .eql (.t 14) (kI 0)),
mv 16 15,
i2 16 true 17 (.mv (.t 5)),
i1 18 (.pick (.t 16) (.t 17) (kB false)),
mv 19 18,
i2 19 true 20 (.mv (.t 0)),
i2 19 true 21 (.bin .neq (.t 20) (kI 32)),
i1 22 (.pick (.t 19) (.t 21) (kB false)),
mv 2 22]
abbrev code:IC:=.seq (.reg r0) (.seq (.reg r1) (.seq (.reg r2) .ret))
abbrev res:List RV:=[.tmp 2]
theorem fn:Body Tryz.prog 114 23 code res:=⟨by decide,Tryz.f114,_,Tryz.func114,rfl,rfl,by kernel_rfl,by kernel_rfl⟩
end Mi
namespace Kg
abbrev r0:List In:=[i1 1 (.box 72 (.t 0)),
i1 2 (.mv (kI 0))]
abbrev r1:List In:=[i1 4 (.faddr 0 (.t 1)),
i1 5 (.load 1 false (.t 4)),
i1 6 (.bin .neq (.t 5) (.k (.a (.str []))))]
abbrev r2:List In:=[i1 7 (.faddr 0 (.t 1)),
i1 8 (.load 1 false (.t 7)),
i1 9 (.call 109 [.t 8]),
i1 10 (.un .not (.t 9))]
abbrev r3:List In:=[i1 2 (.mv (kI 7))]
abbrev r4:List In:=[i1 11 (.faddr 5 (.t 1)),
i1 12 (.load 1 false (.t 11)),
i1 13 (.bin .neq (.t 12) (.k (.a (.str [])))),
mv 14 13,
i2 14 false 15 (.faddr 1 (.t 1)),
i2 14 false 16 (.load 4 true (.t 15)),
i2 14 false 17 (.build [.int .i64 0,.int .i64 0,.int .i64 0,.int .i64 0] []),
i2 14 false 18 (.aeq true [.int,.int,.int,.int] (.t 16) (.t 17)),
i1 19 (.pick (.t 14) (kB true) (.t 18))]
abbrev r5:List In:=[i1 2 (.mv (kI 8))]
abbrev r6:List In:=[i1 2 (.mv (kI 0))]
abbrev r7:List In:=[i1 20 (.faddr 1 (.t 1)),
i1 21 (.load 4 true (.t 20)),
i1 22 (.call 83 [.t 21]),
mv 3 22]
abbrev r8:List In:=[mv 23 3,
i1 24 (.bin .neq (.t 23) (kI 0))]
abbrev r9:List In:=[mv 25 3,
mv 2 25]
abbrev r10:List In:=[i1 27 (.faddr 5 (.t 1)),
i1 28 (.load 1 false (.t 27)),
i1 29 (.bin .eql (.t 28) (.k (.a (.str [])))),
mv 26 29]
abbrev r11:List In:=[i1 2 (.mv (kI 0))]
abbrev r12:List In:=[i1 31 (.faddr 5 (.t 1)),
i1 32 (.load 1 false (.t 31)),
i1 33 (.call 109 [.t 32]),
i1 34 (.un .not (.t 33)),
mv 30 34]
abbrev r13:List In:=[i1 2 (.mv (kI 7))]
abbrev r14:List In:=[i1 36 (.faddr 1 (.t 1)),
i1 37 (.faddr 0 (.t 36)),
i1 38 (.load 1 false (.t 37)),
i1 39 (.call 114 [.t 38]),
i1 40 (.un .not (.t 39)),
mv 41 40,
i2 41 false 42 (.faddr 1 (.t 1)),
i2 41 false 43 (.faddr 3 (.t 42)),
i2 41 false 44 (.load 1 false (.t 43)),
i2 41 false 45 (.bin .neq (.t 44) (kI 0)),
i1 46 (.pick (.t 41) (kB true) (.t 45)),
mv 35 46]
abbrev r15:List In:=[i1 2 (.mv (kI 8))]
abbrev r16:List In:=[i1 2 (.mv (kI 0))]
abbrev code:IC:=.seq (.reg r0) (.seq (.seq (.reg r1) (.cond (.t 6) (.seq (.seq (.reg r2) (.cond (.t 10) (.seq (.reg r3) .ret) .skip)) (.seq (.seq (.reg r4) (.cond (.t 19) (.seq (.reg r5) .ret) .skip)) (.seq (.reg r6) .ret))) .skip)) (.seq (.seq (.reg r7) (.seq (.reg r8) (.cond (.t 24) (.seq (.reg r9) .ret) .skip))) (.seq (.block 0 (.seq (.reg r10) (.cond (.t 26) (.seq (.reg r11) .ret) (.seq (.reg r12) (.cond (.t 30) (.seq (.reg r13) .ret) (.seq (.reg r14) (.cond (.t 35) (.seq (.reg r15) .ret) .skip))))))) (.seq (.reg r16) .ret))))
abbrev res:List RV:=[.tmp 2]
theorem fn:Body Tryz.prog 80 47 code res:=⟨by decide,Tryz.f80,_,Tryz.func80,rfl,rfl,by kernel_rfl,by kernel_rfl⟩
end Kg
end Go.Proofs.YtbmecnjmbhokgaaGreatDoor
namespace Go.Proofs.YtbmecnjmbhokgaaGreatDoor
open Go.RowKit Vc
set_option linter.unusedVariables false
set_option linter.unusedSimpArgs false
attribute [local irreducible] T Za Zn Ent RdC RwC Yj Zf Zi
def Ht(i:Nat)(c:Int):Bool:=(decide (97≤c)&&decide (c≤122))||(decide (c=95)||((decide (c=46)&&decide (i=0))||(decide (0<i)&&(decide (48≤c)&&decide (c≤57)))))
def Xk(s:List UInt8):Bool:=(decide (1≤s.length)&&decide (s.length≤32))&&(decide (s≠[46])&&(List.range s.length).all fun i=>Ht i (Wc s i))
theorem Zbk{s:List UInt8}{k:Nat}(hk:k<s.length)(h:Ht k (Wc s k)=false):Xk s=false:=by
 unfold Xk
 have:((List.range s.length).all fun i=>Ht i (Wc s i))=false:=by
  rw[List.all_eq_false]
  exact⟨k,by simpa using hk,by simp[h]⟩
 simp[this]
theorem Bc{s:List UInt8}(h1:1≤s.length)(h2:s.length≤32)(h:∀i,i<s.length→Ht i (Wc s i)=true):Xk s=decide (s≠[46]):=by
 unfold Xk
 have:((List.range s.length).all fun i=>Ht i (Wc s i))=true:=by
  rw[List.all_eq_true]
  exact fun i hi=>h i (by simpa using hi)
 simp[this,h1,h2]
theorem Bd{s:List UInt8}(h:32<s.length):Xk s=false:=by
 unfold Xk;simp;omega
theorem Zbl:Xk []=false:=by decide
set_option maxHeartbeats 1000000 in
theorem Sh(s:List UInt8):RdC Tryz.prog 109 [.v (.a (.str s))] (.one (.a (.bool (Xk s)))):=by
 refine Ke.fn.rd (by simp) (by simp[Zz]) (by simp[Zz]) fun w=> ?_
 by_cases hl:1≤s.length∧s.length≤32
 ·have h1:¬(s.length:Int)<1:=by omega
  have h2:¬(32:Int)<s.length:=by omega
  repeat'(first|(first|refine Stp.h ?_)<;>try simp only[Zd,simprocAttr,↓reduceIte,reduceCtorEq,implies_true,h1,h2]|(with_reducible first|assumption|refine And.intro ?_ ?_)|(intro h;first|omega|exact tg h ‹_›|exact tg ‹_› h|skip))
  all_goals first|omega|skip
  refine T.loop (ι:= {k:Nat//k≤s.length∧∀i,i<k→Ht i (Wc s i)=true})
   (fun x=>⟨[(16,.one (.a (.int .i64 (x.1:Int)))),(15,.one (.a (.int .i64 s.length))),(0,.one (.a (.str s)))],[],0⟩)
   (fun x=>s.length-x.1) ⟨0,by simp,by simp⟩ (Ent.mk1 (id) (by simp[Zy])) ?_
  rintro⟨k,hk,hrun⟩
  by_cases hlt:k<s.length
  ·have hw:IntKind.i64.wrap ((k:Int)+1)=((k+1:Nat):Int):=Zx (by omega)
   have ht:((k:Int)).toNat=k:=by omega
   generalize hc:Wc s k=c
   cases hok:Ht k c with
   |false=>
    have hn:=Zbk hlt (hc▸hok)
    simp only[Ht,Bool.or_eq_false_iff,Bool.and_eq_false_iff,decide_eq_false_iff_not]at hok
    repeat'(first|(first|refine Stp.h ?_)<;>try simp only[Zd,simprocAttr,↓reduceIte,reduceCtorEq,implies_true,hw,ht,hc,Int.ofNat_lt]|(with_reducible first|assumption|refine And.intro ?_ ?_)|(intro h;first|omega|exact tg h ‹_›|exact tg ‹_› h|skip))
    all_goals first|omega|exact congrArg _ (congrArg _ (congrArg _ hn.symm))|skip
   |true=>
    have hall:∀i,i<k+1→Ht i (Wc s i)=true:=fun i hi=>by
     by_cases hik:i<k
     ·exact hrun i hik
     ·have:i=k:=by omega
      subst this;rw[hc];exact hok
    simp only[Ht,Bool.or_eq_true,Bool.and_eq_true,decide_eq_true_eq]at hok
    repeat'(first|(first|refine Stp.h ?_)<;>try simp only[Zd,simprocAttr,↓reduceIte,reduceCtorEq,implies_true,hw,ht,hc,Int.ofNat_lt]|(with_reducible first|assumption|refine And.intro ?_ ?_)|(intro h;first|omega|exact tg h ‹_›|exact tg ‹_› h|skip))
    all_goals first|omega|exact⟨⟨k+1,hlt,hall⟩,(Ent.mk1 (id) (by simp[Zy])),by simp only;omega⟩|skip
  ·have hk2:k=s.length:=by omega
   subst hk2
   have hg:=Bc hl.1 hl.2 hrun
   repeat'(first|(first|refine Stp.h ?_)<;>try simp only[Zd,simprocAttr,↓reduceIte,reduceCtorEq,implies_true,Int.ofNat_lt,hg]|(with_reducible first|assumption|refine And.intro ?_ ?_)|(intro h;first|omega|exact tg h ‹_›|exact tg ‹_› h|skip))
   all_goals first|omega|simp|skip
 ·by_cases h0:s=[]
  ·subst h0
   have:=Zbl
   repeat'(first|(first|refine Stp.h ?_)<;>try simp only[Zd,simprocAttr,↓reduceIte,reduceCtorEq,implies_true,this]|(with_reducible first|assumption|refine And.intro ?_ ?_)|(intro h;first|omega|exact tg h ‹_›|exact tg ‹_› h|skip))
   all_goals first|omega|simp|skip
  ·have hpos:1≤s.length:=by cases s with|nil=>exact absurd rfl h0|cons _ _=>simp
   have hn:=Bd (s:=s) (by omega)
   have h1:¬(s.length:Int)<1:=by omega
   have h2:(32:Int)<s.length:=by omega
   repeat'(first|(first|refine Stp.h ?_)<;>try simp only[Zd,simprocAttr,↓reduceIte,reduceCtorEq,implies_true,h1,h2,hn]|(with_reducible first|assumption|refine And.intro ?_ ?_)|(intro h;first|omega|exact tg h ‹_›|exact tg ‹_› h|skip))
def Ur(n:Int):Bool:=V7 n&& !decide (n=32)
theorem Rg(n:Int):RdC Tryz.prog 114 [.v (.a (.int .i64 n))] (.one (.a (.bool (Ur n)))):=by
 refine Mi.fn.rd (by simp) (by simp[Zz]) (by simp[Zz]) fun w=> ?_
 cases hk:U8 n with
 |true=>
  repeat'(first|(first|refine Stp.h ?_|(refine rq (Dn n hk) ?_ ?_;focus simp[Zz];done))<;>try simp only[Zd,simprocAttr,↓reduceIte,reduceCtorEq,implies_true,Ur]|(with_reducible first|assumption|refine And.intro ?_ ?_)|(intro h;first|omega|exact tg h ‹_›|exact tg ‹_› h|skip))
 |false=>
  have hi:V7 n=false:=by
   simp only[U8,V7,decide_eq_false_iff_not]at hk ⊢;omega
  repeat'(first|(first|refine Stp.h ?_|(refine rq (Uses_no n hk) ?_ ?_;focus simp[Zz];done))<;>try simp only[Zd,simprocAttr,↓reduceIte,reduceCtorEq,implies_true,Ur,hi]|(with_reducible first|assumption|refine And.intro ?_ ?_)|(intro h;first|omega|exact tg h ‹_›|exact tg ‹_› h|skip))
def Uw(x:Ln):Int:=
 if x.label≠[]then(if Xk x.label=false then 7 else if x.ref≠[]∨x.ins≠Vt then 8 else 0)
 else if Wv x.ins≠0 then Wv x.ins else if x.ref=[]then 0 else if Xk x.ref=false then 7 else if Ur x.ins.op=false∨x.ins.imm≠0 then 8 else 0
def ln0:Ln:=⟨[],Vt,[]⟩
theorem ins_no(x:Ins):x=Vt↔x.op=0∧x.d=0∧x.s=0∧x.imm=0:=by
 cases x;simp[Vt]
set_option maxHeartbeats 2000000 in
theorem Xv(x:Ln):RdC Tryz.prog 80 [.v (.agg x.cells)] (.one (.a (.int .i64 (Uw x)))):=by
 refine Kg.fn.rd (by simp) (by simp[Qs,S1.bd,At.bd,Ln.cells]) (by simp[Zz]) fun w=> ?_
 by_cases hlb:x.label=[]
 ·repeat'(first|(first|refine Stp.h ?_|((with_reducible first|apply Za.rd (Sh _)|apply Zf.rd (Sh _));focus((repeat'(first|exact rfl|exact trivial|refine And.intro ?_ ?_|(simp[Zz];done)));done))|(refine rq (O4 x.ins) ?_ ?_;focus simp[Zz];done)|((with_reducible first|apply Za.rd (Rg _)|apply Zf.rd (Rg _));focus((repeat'(first|exact rfl|exact trivial|refine And.intro ?_ ?_|(simp[Zz];done)));done)))<;>try simp only[Zd,simprocAttr,↓reduceIte,reduceCtorEq,implies_true,hlb]|(with_reducible first|assumption|refine And.intro ?_ ?_)|(intro h;first|omega|exact tg h ‹_›|exact tg ‹_› h|skip))
  all_goals simp_all[Uw]
 ·repeat'(first|(first|refine Stp.h ?_|((with_reducible first|apply Za.rd (Sh _)|apply Zf.rd (Sh _));focus((repeat'(first|exact rfl|exact trivial|refine And.intro ?_ ?_|(simp[Zz];done)));done))|(refine rq (O4 x.ins) ?_ ?_;focus simp[Zz];done)|((with_reducible first|apply Za.rd (Rg _)|apply Zf.rd (Rg _));focus((repeat'(first|exact rfl|exact trivial|refine And.intro ?_ ?_|(simp[Zz];done)));done)))<;>try simp only[Zd,simprocAttr,↓reduceIte,reduceCtorEq,implies_true,hlb]|(with_reducible first|assumption|refine And.intro ?_ ?_)|(intro h;first|omega|exact tg h ‹_›|exact tg ‹_› h|skip))
  all_goals simp_all[Uw,ins_no]
def Og(x:Ln):Int:=if x.label≠[]then 0 else if V7 x.ins.op then 2 else 1
end Go.Proofs.YtbmecnjmbhokgaaGreatDoor
namespace Go.Proofs.YtbmecnjmbhokgaaGreatDoor
open Vc
namespace Vu
abbrev r0:List In:=[i1 0 (.mv (.k (.a (.raw (.slice none 0 0)))))]
abbrev r1:List In:=[i1 1 (.bsl 9 1 33 [.str [],.str [],.str [],.str [],.str [],.str [],.str [],.str [],.str [],.str [],.str [],.str [],.str [],.str [],.str [],.str [],.str [],.str [],.str [],.str [],.str [],.str [],.str [],.str [],.str [],.str [],.str [],.str [],.str [],.str [],.str [],.str [],.str []] [(0,1,(.k (.a (.str [104,97,108,116])))),(1,1,(.k (.a (.str [109,111,118])))),(2,1,(.k (.a (.str [108,100,105])))),(3,1,(.k (.a (.str [108,100])))),(4,1,(.k (.a (.str [115,116])))),(5,1,(.k (.a (.str [97,100,100])))),(6,1,(.k (.a (.str [97,100,99])))),(7,1,(.k (.a (.str [115,117,98])))),(8,1,(.k (.a (.str [115,98,99])))),(9,1,(.k (.a (.str [97,110,100])))),(10,1,(.k (.a (.str [111,114])))),(11,1,(.k (.a (.str [120,111,114])))),(12,1,(.k (.a (.str [99,109,112])))),(13,1,(.k (.a (.str [99,112,99])))),(14,1,(.k (.a (.str [115,104,108])))),(15,1,(.k (.a (.str [114,111,108])))),(16,1,(.k (.a (.str [115,104,114])))),(17,1,(.k (.a (.str [115,97,114])))),(18,1,(.k (.a (.str [114,111,114])))),(19,1,(.k (.a (.str [106,109,112])))),(20,1,(.k (.a (.str [106,122])))),(21,1,(.k (.a (.str [106,110,122])))),(22,1,(.k (.a (.str [106,99])))),(23,1,(.k (.a (.str [106,110,99])))),(24,1,(.k (.a (.str [106,108,116])))),(25,1,(.k (.a (.str [106,103,101])))),(26,1,(.k (.a (.str [99,97,108,108])))),(27,1,(.k (.a (.str [114,101,116])))),(28,1,(.k (.a (.str [112,117,115,104])))),(29,1,(.k (.a (.str [112,111,112])))),(30,1,(.k (.a (.str [111,117,116])))),(31,1,(.k (.a (.str [105,110])))),(32,1,(.k (.a (.str [116,114,97,112]))))]),
mv 0 1]
abbrev code:IC:=.seq (.reg r0) (.seq (.reg r1) .ret)
abbrev res:List RV:=[.tmp 0]
theorem fn:Body Tryz.prog 110 2 code res:=⟨by decide,Tryz.f110,_,Tryz.func110,rfl,rfl,by kernel_rfl,by kernel_rfl⟩
end Vu
end Go.Proofs.YtbmecnjmbhokgaaGreatDoor
namespace Go.Proofs.YtbmecnjmbhokgaaGreatDoor
open Go Go.RowKit Vc
set_option linter.unusedVariables false
set_option linter.unusedSimpArgs false
attribute [local irreducible] T Za Zn Ent RdC RwC Yj Zf Zi
def Iz:List (List UInt8):=[[104,97,108,116],[109,111,118],[108,100,105],[108,100],[115,116],[97,100,100],[97,100,99],[115,117,98],[115,98,99],[97,110,100],[111,114],[120,111,114],[99,109,112],[99,112,99],[115,104,108],[114,111,108],[115,104,114],[115,97,114],[114,111,114],[106,109,112],[106,122],[106,110,122],[106,99],[106,110,99],[106,108,116],[106,103,101],[99,97,108,108],[114,101,116],[112,117,115,104],[112,111,112],[111,117,116],[105,110],[116,114,97,112]]
theorem Ec:GC Tryz.prog 110 [] [] 0 [] (.one (.a (.ref 0))) [(0,.row 9 .str Iz)] 1:=by
 refine Vu.fn.gc (by simp) (by simp[Zu,Zw,Zv,Zj,Ze,Vc.S1.okN,At.okN,SV.okN,Res.okN,Res.outOk,Zo,Res.own,Value.oneCell']) fun w X fr=> ?_
 refine T.regs ?_
 simp only[Zd,simprocAttr,↓reduceIte,reduceCtorEq,implies_true,Vu.r0]
 refine T.regs ?_
 simp only[Zd,simprocAttr,↓reduceIte,reduceCtorEq,implies_true,Vu.r1]
 refine T.weak (Ent.litRow (m:=0) .str Iz rfl rfl rfl rfl (by decide)) ?_
 simp only[Zd,simprocAttr,↓reduceIte,reduceCtorEq,implies_true]
 repeat'(first|(first|refine Stp.h ?_)<;>try simp only[Zd,simprocAttr,↓reduceIte,reduceCtorEq,implies_true]|(with_reducible first|assumption|refine And.intro ?_ ?_)|(intro h;first|omega|exact tg h ‹_›|exact tg ‹_› h|skip))
end Go.Proofs.YtbmecnjmbhokgaaGreatDoor
namespace Go.Proofs.YtbmecnjmbhokgaaGreatDoor
open Go.RowKit Vc
set_option linter.unusedVariables false
set_option linter.unusedSimpArgs false
def trimB(s:List UInt8):List UInt8:=Lib.trimS s [32,9]
def T6:List (List UInt8)→List UInt8→Nat→Int
 | [],_,_=> -1
 |x::l,w,k=>if x=w then(k:Int)else T6 l w (k+1)
def kindS(w:List UInt8):Int:=T6 Iz w 0
def N9(s:List UInt8)(most:Nat):Option Nat:=match I2 s with
 |some v=>if v≤most then some v else none
 |none=>none
def El:List UInt8→Option Nat
 |b::s=>if b=114 then N9 s 7 else none
 | []=>none
def Rw(rest:List UInt8):List (List UInt8):=if trimB rest=[]then[]else(splitS 44 (trimB rest)).map trimB
def P0(has:Bool)(ps:List (List UInt8)):Except Int (Nat×List (List UInt8)):=
 if has=false then .ok (0,ps)else match ps with
 | []=>.error 5
 |p::ps=>match El p with
  |some n=>.ok (n,ps)
  |none=>.error 2
def Qw(op:Int)(ps:List (List UInt8)):Except Int (Nat×List UInt8×List (List UInt8)):=
 if V7 op=false then .ok (0,[],ps)else match ps with
 | []=>.error 5
 |p::ps=>match N9 p 65535 with
  |some n=>.ok (n,[],ps)
  |none=>if Xk p=true∧Ur op=true then .ok (0,p,ps)else .error 2
def insV(op:Int)(ps:List (List UInt8)):Except Int Ln:=
 match P0 (R7 op) ps with
 |.error e=>.error e
 |.ok (d,ps)=>match P0 (R8 op) ps with
  |.error e=>.error e
  |.ok (s,ps)=>match Qw op ps with
   |.error e=>.error e
   |.ok (i,r,ps)=>if ps=[]then .ok ⟨[],⟨op,d,s,i⟩,r⟩else .error 5
def Nl(s:List UInt8):Except Int (Option Ln):=
 let t:=trimB (upToS 59 s).1
 if t=[]then .ok none
 else if t.getLast? =some 58 then(if Xk t.dropLast=true then .ok (some ⟨t.dropLast,Vt,[]⟩)else .error 7)
 else if kindS (upToS 32 t).1<0 then .error 1
 else match insV (kindS (upToS 32 t).1) (Rw (upToS 32 t).2.1)with
  |.error e=>.error e
  |.ok l=>.ok (some l)
def Pz:List (List UInt8)→Nat→List Ln→List Ln×Int×Int
 | [],_,acc=>(acc,0,0)
 |s::l,k,acc=>match Nl s with
  |.error e=>([],e,k)
  |.ok none=>Pz l (k+1) acc
  |.ok (some x)=>Pz l (k+1) (acc++[x])
def Kq(t:List UInt8):List Ln×Int×Int:=
 if 1048576<t.length then([],4,0)else if 40000<(F5 t).length then([],5,0)else Pz (F5 t) 0 []
end Go.Proofs.YtbmecnjmbhokgaaGreatDoor
namespace Go.Proofs.YtbmecnjmbhokgaaGreatDoor
open Go.RowKit
set_option linter.unusedVariables false
set_option linter.unusedSimpArgs false
namespace Vc
theorem Ck{w:World}{g n:Nat}(k:Nat)(hk:k≠g):(w.freeze ⟨g,0,none⟩ n).heap[k]? =w.heap[k]? :=by
 unfold World.freeze
 split
 ·rfl
 ·rename_i h
  rw[Array.getElem?_modify,if_neg (fun e=>hk e.symm)]
theorem Cn(w:World)(g n:Nat):(w.freeze ⟨g,0,none⟩ n).os=w.os∧(w.freeze ⟨g,0,none⟩ n).tape=w.tape∧(w.freeze ⟨g,0,none⟩ n).output=w.output:=by
 unfold World.freeze
 split<;>exact⟨rfl,rfl,rfl⟩
theorem Co(w:World)(g n:Nat):(w.freeze ⟨g,0,none⟩ n).heap.size=w.heap.size:=by
 unfold World.freeze
 split
 ·rfl
 ·exact Array.size_modify ..
theorem Zck(ρ:Env)(l:List (List UInt8)):((l.flatMap (Kd.enc .str)).map (At.den ρ))=l.map fun y=>Value.string ⟨y.toArray⟩:=by
 induction l with
 |nil=>rfl
 |cons x l ih=>simp only[List.flatMap_cons,List.map_append,List.map_cons,ih];rfl
end Vc
end Go.Proofs.YtbmecnjmbhokgaaGreatDoor
namespace Go.Proofs
open Go.Shelf
def Tryz.lays160_ren:Go.Shelf.Ren:=⟨fun|160=>107|232=>154|231=>153|227=>155|234=>157|233=>156|236=>159|235=>158|228=>180|271=>182|151=>181|197=>177|120=>195|152=>194|260=>189|137=>206|119=>207|224=>192|225=>191|217=>190|266=>204|n=>n,fun|9=>9|4=>4|3=>3|5=>5|117=>206|116=>205|0=>0|124=>209|21=>21|105=>223|46=>86|119=>240|139=>243|138=>242|n=>n,fun|3=>1|4=>2|n=>n⟩
theorem Tryz.lays160:Go.Proofs.Lays.n160 Tryz.prog Tryz.lays160_ren:= {
 mixed:=by kernel_rfl
 f119:=Tryz.func207.trans (congrArg some (by kernel_rfl))
 f120:=Tryz.func195.trans (congrArg some (by kernel_rfl))
 f137:=Tryz.func206.trans (congrArg some (by kernel_rfl))
 f151:=Tryz.func181.trans (congrArg some (by kernel_rfl))
 f152:=Tryz.func194.trans (congrArg some (by kernel_rfl))
 f160:=Tryz.func107.trans (congrArg some (by kernel_rfl))
 f197:=Tryz.func177.trans (congrArg some (by kernel_rfl))
 f217:=Tryz.func190.trans (congrArg some (by kernel_rfl))
 f224:=Tryz.func192.trans (congrArg some (by kernel_rfl))
 f225:=Tryz.func191.trans (congrArg some (by kernel_rfl))
 f227:=Tryz.func155.trans (congrArg some (by kernel_rfl))
 f228:=Tryz.func180.trans (congrArg some (by kernel_rfl))
 f231:=Tryz.func153.trans (congrArg some (by kernel_rfl))
 f232:=Tryz.func154.trans (congrArg some (by kernel_rfl))
 f233:=Tryz.func156.trans (congrArg some (by kernel_rfl))
 f234:=Tryz.func157.trans (congrArg some (by kernel_rfl))
 f235:=Tryz.func158.trans (congrArg some (by kernel_rfl))
 f236:=Tryz.func159.trans (congrArg some (by kernel_rfl))
 f260:=Tryz.func189.trans (congrArg some (by kernel_rfl))
 f266:=Tryz.func204.trans (congrArg some (by kernel_rfl))
 f271:=Tryz.func182.trans (congrArg some (by kernel_rfl))
 t0:=Tryz.underlying0
 a0:=Tryz.isAgg0
 z0:=Tryz.sizeOf0
 v0:=Tryz.zeroValue0
 t3:=Tryz.underlying3
 a3:=Tryz.isAgg3
 z3:=Tryz.sizeOf3
 v3:=Tryz.zeroValue3
 t4:=Tryz.underlying4
 a4:=Tryz.isAgg4
 z4:=Tryz.sizeOf4
 v4:=Tryz.zeroValue4
 t5:=Tryz.underlying5
 a5:=Tryz.isAgg5
 z5:=Tryz.sizeOf5
 v5:=Tryz.zeroValue5
 t9:=Tryz.underlying9
 a9:=Tryz.isAgg9
 z9:=Tryz.sizeOf9
 v9:=Tryz.zeroValue9
 t21:=Tryz.underlying21
 a21:=Tryz.isAgg21
 z21:=Tryz.sizeOf21
 v21:=Tryz.zeroValue21
 t46:=Tryz.underlying86
 a46:=Tryz.isAgg86
 z46:=Tryz.sizeOf86
 v46:=Tryz.zeroValue86
 t105:=Tryz.underlying223
 a105:=Tryz.isAgg223
 z105:=Tryz.sizeOf223
 v105:=Tryz.zeroValue223
 t116:=Tryz.underlying205
 a116:=Tryz.isAgg205
 z116:=Tryz.sizeOf205
 t117:=Tryz.underlying206
 a117:=Tryz.isAgg206
 z117:=Tryz.sizeOf206
 v117:=Tryz.zeroValue206
 t119:=Tryz.underlying240
 a119:=Tryz.isAgg240
 z119:=Tryz.sizeOf240
 t124:=Tryz.underlying209
 a124:=Tryz.isAgg209
 z124:=Tryz.sizeOf209
 v124:=Tryz.zeroValue209
 t138:=Tryz.underlying242
 a138:=Tryz.isAgg242
 z138:=Tryz.sizeOf242
 v138:=Tryz.zeroValue242
 t139:=Tryz.underlying243
 a139:=Tryz.isAgg243
 z139:=Tryz.sizeOf243
 v139:=Tryz.zeroValue243
 g3:=by kernel_rfl
 g4:=by kernel_rfl}
open Go.RowKit in
def Tryz.lays103_ren:Go.Shelf.Ren:=⟨fun|103=>161|210=>183|206=>196|n=>n,fun|9=>9|4=>4|24=>170|3=>3|n=>n,fun|n=>n⟩
theorem Tryz.lays103:Go.Proofs.Lays.n103 Tryz.prog Tryz.lays103_ren:= {
 mixed:=by kernel_rfl
 f103:=Tryz.func161.trans (congrArg some (by kernel_rfl))
 f206:=Tryz.func196.trans (congrArg some (by kernel_rfl))
 f210:=Tryz.func183.trans (congrArg some (by kernel_rfl))
 t3:=Tryz.underlying3
 a3:=Tryz.isAgg3
 z3:=Tryz.sizeOf3
 v3:=Tryz.zeroValue3
 t4:=Tryz.underlying4
 a4:=Tryz.isAgg4
 z4:=Tryz.sizeOf4
 v4:=Tryz.zeroValue4
 t9:=Tryz.underlying9
 a9:=Tryz.isAgg9
 z9:=Tryz.sizeOf9
 v9:=Tryz.zeroValue9
 t24:=Tryz.underlying170
 a24:=Tryz.isAgg170
 z24:=Tryz.sizeOf170
 v24:=Tryz.zeroValue170}
open Go.RowKit in
theorem Tryz.strings_CutPrefix(s p:ByteArray)(w:World):
 Calls Tryz.prog 161 #[.string s,.string p] w fun e w'=>e= .returned (.tuple #[.string ⟨(Lib.trimPrefix s.data.toList p.data.toList).toArray⟩,.bool (Lib.hasPrefix s.data.toList p.data.toList)])∧w'=w:=Any.strings_CutPrefix Tryz.lays103 s p w
def Tryz.lays104_ren:Go.Shelf.Ren:=⟨fun|104=>108|211=>160|207=>147|n=>n,fun|9=>9|4=>4|24=>170|3=>3|n=>n,fun|n=>n⟩
theorem Tryz.lays104:Go.Proofs.Lays.n104 Tryz.prog Tryz.lays104_ren:= {
 mixed:=by kernel_rfl
 f104:=Tryz.func108.trans (congrArg some (by kernel_rfl))
 f207:=Tryz.func147.trans (congrArg some (by kernel_rfl))
 f211:=Tryz.func160.trans (congrArg some (by kernel_rfl))
 t3:=Tryz.underlying3
 a3:=Tryz.isAgg3
 z3:=Tryz.sizeOf3
 v3:=Tryz.zeroValue3
 t4:=Tryz.underlying4
 a4:=Tryz.isAgg4
 z4:=Tryz.sizeOf4
 v4:=Tryz.zeroValue4
 t9:=Tryz.underlying9
 a9:=Tryz.isAgg9
 z9:=Tryz.sizeOf9
 v9:=Tryz.zeroValue9
 t24:=Tryz.underlying170
 a24:=Tryz.isAgg170
 z24:=Tryz.sizeOf170
 v24:=Tryz.zeroValue170}
open Go.RowKit in
theorem Tryz.strings_CutSuffix(s p:ByteArray)(w:World)(hs:s.size≤9223372036854775807):
 Calls Tryz.prog 108 #[.string s,.string p] w fun e w'=>e= .returned (.tuple #[.string ⟨(Lib.trimSuffix s.data.toList p.data.toList).toArray⟩,.bool (Lib.hasSuffix s.data.toList p.data.toList)])∧w'=w:=Any.strings_CutSuffix Tryz.lays104 s p w hs
def Tryz.lays172_ren:Go.Shelf.Ren:=⟨fun|172=>162|244=>184|245=>185|247=>197|279=>198|280=>199|281=>200|282=>201|287=>208|316=>209|171=>167|205=>210|321=>216|322=>217|243=>187|246=>203|283=>212|284=>213|285=>214|286=>215|129=>146|317=>218|318=>219|319=>220|320=>221|337=>222|338=>223|n=>n,fun|9=>9|3=>3|75=>161|76=>163|4=>4|5=>5|167=>233|37=>45|0=>0|85=>234|2=>2|168=>236|53=>22|175=>247|46=>86|210=>251|127=>165|145=>261|143=>259|21=>21|171=>254|173=>256|212=>263|51=>87|20=>20|213=>264|232=>265|233=>266|80=>134|n=>n,fun|15=>3|16=>4|17=>5|18=>6|19=>7|n=>n⟩
theorem Tryz.lays172:Go.Proofs.Lays.n172 Tryz.prog Tryz.lays172_ren:= {
 mixed:=by kernel_rfl
 f129:=Tryz.func146.trans (congrArg some (by kernel_rfl))
 f171:=Tryz.func167.trans (congrArg some (by kernel_rfl))
 f172:=Tryz.func162.trans (congrArg some (by kernel_rfl))
 f205:=Tryz.func210.trans (congrArg some (by kernel_rfl))
 f243:=Tryz.func187.trans (congrArg some (by kernel_rfl))
 f244:=Tryz.func184.trans (congrArg some (by kernel_rfl))
 f245:=Tryz.func185.trans (congrArg some (by kernel_rfl))
 f246:=Tryz.func203.trans (congrArg some (by kernel_rfl))
 f247:=Tryz.func197.trans (congrArg some (by kernel_rfl))
 f279:=Tryz.func198.trans (congrArg some (by kernel_rfl))
 f280:=Tryz.func199.trans (congrArg some (by kernel_rfl))
 f281:=Tryz.func200.trans (congrArg some (by kernel_rfl))
 f282:=Tryz.func201.trans (congrArg some (by kernel_rfl))
 f283:=Tryz.func212.trans (congrArg some (by kernel_rfl))
 f284:=Tryz.func213.trans (congrArg some (by kernel_rfl))
 f285:=Tryz.func214.trans (congrArg some (by kernel_rfl))
 f286:=Tryz.func215.trans (congrArg some (by kernel_rfl))
 f287:=Tryz.func208.trans (congrArg some (by kernel_rfl))
 f316:=Tryz.func209.trans (congrArg some (by kernel_rfl))
 f317:=Tryz.func218.trans (congrArg some (by kernel_rfl))
 f318:=Tryz.func219.trans (congrArg some (by kernel_rfl))
 f319:=Tryz.func220.trans (congrArg some (by kernel_rfl))
 f320:=Tryz.func221.trans (congrArg some (by kernel_rfl))
 f321:=Tryz.func216.trans (congrArg some (by kernel_rfl))
 f322:=Tryz.func217.trans (congrArg some (by kernel_rfl))
 f337:=Tryz.func222.trans (congrArg some (by kernel_rfl))
 f338:=Tryz.func223.trans (congrArg some (by kernel_rfl))
 t0:=Tryz.underlying0
 a0:=Tryz.isAgg0
 z0:=Tryz.sizeOf0
 v0:=Tryz.zeroValue0
 t2:=Tryz.underlying2
 a2:=Tryz.isAgg2
 z2:=Tryz.sizeOf2
 v2:=Tryz.zeroValue2
 t3:=Tryz.underlying3
 a3:=Tryz.isAgg3
 z3:=Tryz.sizeOf3
 v3:=Tryz.zeroValue3
 t4:=Tryz.underlying4
 a4:=Tryz.isAgg4
 z4:=Tryz.sizeOf4
 v4:=Tryz.zeroValue4
 t5:=Tryz.underlying5
 a5:=Tryz.isAgg5
 z5:=Tryz.sizeOf5
 v5:=Tryz.zeroValue5
 t9:=Tryz.underlying9
 a9:=Tryz.isAgg9
 z9:=Tryz.sizeOf9
 v9:=Tryz.zeroValue9
 t20:=Tryz.underlying20
 a20:=Tryz.isAgg20
 z20:=Tryz.sizeOf20
 v20:=Tryz.zeroValue20
 t21:=Tryz.underlying21
 a21:=Tryz.isAgg21
 z21:=Tryz.sizeOf21
 v21:=Tryz.zeroValue21
 t37:=Tryz.underlying45
 a37:=Tryz.isAgg45
 z37:=Tryz.sizeOf45
 v37:=Tryz.zeroValue45
 t46:=Tryz.underlying86
 a46:=Tryz.isAgg86
 z46:=Tryz.sizeOf86
 v46:=Tryz.zeroValue86
 t51:=Tryz.underlying87
 a51:=Tryz.isAgg87
 z51:=Tryz.sizeOf87
 v51:=Tryz.zeroValue87
 t53:=Tryz.underlying22
 a53:=Tryz.isAgg22
 z53:=Tryz.sizeOf22
 v53:=Tryz.zeroValue22
 t75:=Tryz.underlying161
 a75:=Tryz.isAgg161
 z75:=Tryz.sizeOf161
 v75:=Tryz.zeroValue161
 t76:=Tryz.underlying163
 a76:=Tryz.isAgg163
 z76:=Tryz.sizeOf163
 v76:=Tryz.zeroValue163
 t85:=Tryz.underlying234
 a85:=Tryz.isAgg234
 z85:=Tryz.sizeOf234
 v85:=Tryz.zeroValue234
 t127:=Tryz.underlying165
 a127:=Tryz.isAgg165
 z127:=Tryz.sizeOf165
 v127:=Tryz.zeroValue165
 t143:=Tryz.underlying259
 a143:=Tryz.isAgg259
 z143:=Tryz.sizeOf259
 v143:=Tryz.zeroValue259
 t145:=Tryz.underlying261
 a145:=Tryz.isAgg261
 z145:=Tryz.sizeOf261
 v145:=Tryz.zeroValue261
 t167:=Tryz.underlying233
 a167:=Tryz.isAgg233
 z167:=Tryz.sizeOf233
 v167:=Tryz.zeroValue233
 t168:=Tryz.underlying236
 a168:=Tryz.isAgg236
 z168:=Tryz.sizeOf236
 v168:=Tryz.zeroValue236
 t171:=Tryz.underlying254
 a171:=Tryz.isAgg254
 z171:=Tryz.sizeOf254
 v171:=Tryz.zeroValue254
 t173:=Tryz.underlying256
 a173:=Tryz.isAgg256
 z173:=Tryz.sizeOf256
 v173:=Tryz.zeroValue256
 t175:=Tryz.underlying247
 a175:=Tryz.isAgg247
 z175:=Tryz.sizeOf247
 v175:=Tryz.zeroValue247
 t210:=Tryz.underlying251
 a210:=Tryz.isAgg251
 z210:=Tryz.sizeOf251
 v210:=Tryz.zeroValue251
 t212:=Tryz.underlying263
 a212:=Tryz.isAgg263
 z212:=Tryz.sizeOf263
 v212:=Tryz.zeroValue263
 t213:=Tryz.underlying264
 a213:=Tryz.isAgg264
 z213:=Tryz.sizeOf264
 t232:=Tryz.underlying265
 a232:=Tryz.isAgg265
 z232:=Tryz.sizeOf265
 v232:=Tryz.zeroValue265
 t233:=Tryz.underlying266
 a233:=Tryz.isAgg266
 z233:=Tryz.sizeOf266
 v233:=Tryz.zeroValue266
 g15:=by kernel_rfl
 g16:=by kernel_rfl
 g17:=by kernel_rfl
 g18:=by kernel_rfl
 g19:=by kernel_rfl}
open Go.RowKit in
theorem Tryz.strconv_Atoi(s:ByteArray)(n:Int)(hl:s.size≤18)(h:Lib.atoi s.data.toList=some n)(w:World):
 Calls Tryz.prog 162 #[.string s] w fun e w'=>e= .returned (.tuple #[.int .i64 n,.nilIface])∧∃t,w'=Lib.bytesWorld w 5 t:=Any.strconv_Atoi Tryz.lays172 s n hl h w
def Tryz.lays145_ren:Go.Shelf.Ren:=⟨fun|145=>106|220=>152|219=>179|217=>190|225=>191|224=>192|267=>193|266=>204|314=>205|n=>n,fun|9=>9|4=>4|59=>167|3=>3|5=>5|46=>86|146=>244|51=>87|n=>n,fun|1=>0|n=>n⟩
theorem Tryz.lays145:Go.Proofs.Lays.n145 Tryz.prog Tryz.lays145_ren:= {
 mixed:=by kernel_rfl
 f145:=Tryz.func106.trans (congrArg some (by kernel_rfl))
 f217:=Tryz.func190.trans (congrArg some (by kernel_rfl))
 f219:=Tryz.func179.trans (congrArg some (by kernel_rfl))
 f220:=Tryz.func152.trans (congrArg some (by kernel_rfl))
 f224:=Tryz.func192.trans (congrArg some (by kernel_rfl))
 f225:=Tryz.func191.trans (congrArg some (by kernel_rfl))
 f266:=Tryz.func204.trans (congrArg some (by kernel_rfl))
 f267:=Tryz.func193.trans (congrArg some (by kernel_rfl))
 f314:=Tryz.func205.trans (congrArg some (by kernel_rfl))
 t3:=Tryz.underlying3
 a3:=Tryz.isAgg3
 z3:=Tryz.sizeOf3
 v3:=Tryz.zeroValue3
 t4:=Tryz.underlying4
 a4:=Tryz.isAgg4
 z4:=Tryz.sizeOf4
 v4:=Tryz.zeroValue4
 t5:=Tryz.underlying5
 a5:=Tryz.isAgg5
 z5:=Tryz.sizeOf5
 v5:=Tryz.zeroValue5
 t9:=Tryz.underlying9
 a9:=Tryz.isAgg9
 z9:=Tryz.sizeOf9
 v9:=Tryz.zeroValue9
 t46:=Tryz.underlying86
 a46:=Tryz.isAgg86
 z46:=Tryz.sizeOf86
 v46:=Tryz.zeroValue86
 t51:=Tryz.underlying87
 a51:=Tryz.isAgg87
 z51:=Tryz.sizeOf87
 v51:=Tryz.zeroValue87
 t59:=Tryz.underlying167
 a59:=Tryz.isAgg167
 z59:=Tryz.sizeOf167
 v59:=Tryz.zeroValue167
 t146:=Tryz.underlying244
 a146:=Tryz.isAgg244
 z146:=Tryz.sizeOf244
 v146:=Tryz.zeroValue244
 g1:=by kernel_rfl}
open Go.RowKit Go.Lib in
theorem Tryz.strings_Cut(s sep:ByteArray)(m:Int)(w:World)(hs:s.size<4294967281)(hm:w.cell? ⟨0,0,none⟩=some (.int .i64 m)):
 Calls Tryz.prog 106 #[.string s,.string sep] w fun e w'=>e= .returned (.tuple #[.string ⟨(Lib.cut s.data.toList sep.data.toList).1.toArray⟩,.string ⟨(Lib.cut s.data.toList sep.data.toList).2.1.toArray⟩,.bool (Lib.cut s.data.toList sep.data.toList).2.2])∧∃n,w'=w.drewN n:=Any.strings_Cut Tryz.lays145 s sep m w hs hm
def Tryz.lays146_ren:Go.Shelf.Ren:=⟨fun|146=>78|221=>105|268=>149|138=>150|143=>151|195=>176|197=>177|218=>178|219=>179|260=>189|217=>190|225=>191|224=>192|267=>193|266=>204|314=>205|n=>n,fun|9=>9|31=>95|3=>3|4=>4|0=>0|105=>223|21=>21|5=>5|46=>86|119=>240|139=>243|138=>242|146=>244|51=>87|n=>n,fun|1=>0|3=>1|4=>2|n=>n⟩
theorem Tryz.lays146:Go.Proofs.Lays.n146 Tryz.prog Tryz.lays146_ren:= {
 mixed:=by kernel_rfl
 f138:=Tryz.func150.trans (congrArg some (by kernel_rfl))
 f143:=Tryz.func151.trans (congrArg some (by kernel_rfl))
 f146:=Tryz.func78.trans (congrArg some (by kernel_rfl))
 f195:=Tryz.func176.trans (congrArg some (by kernel_rfl))
 f197:=Tryz.func177.trans (congrArg some (by kernel_rfl))
 f217:=Tryz.func190.trans (congrArg some (by kernel_rfl))
 f218:=Tryz.func178.trans (congrArg some (by kernel_rfl))
 f219:=Tryz.func179.trans (congrArg some (by kernel_rfl))
 f221:=Tryz.func105.trans (congrArg some (by kernel_rfl))
 f224:=Tryz.func192.trans (congrArg some (by kernel_rfl))
 f225:=Tryz.func191.trans (congrArg some (by kernel_rfl))
 f260:=Tryz.func189.trans (congrArg some (by kernel_rfl))
 f266:=Tryz.func204.trans (congrArg some (by kernel_rfl))
 f267:=Tryz.func193.trans (congrArg some (by kernel_rfl))
 f268:=Tryz.func149.trans (congrArg some (by kernel_rfl))
 f314:=Tryz.func205.trans (congrArg some (by kernel_rfl))
 t0:=Tryz.underlying0
 a0:=Tryz.isAgg0
 z0:=Tryz.sizeOf0
 v0:=Tryz.zeroValue0
 t3:=Tryz.underlying3
 a3:=Tryz.isAgg3
 z3:=Tryz.sizeOf3
 v3:=Tryz.zeroValue3
 t4:=Tryz.underlying4
 a4:=Tryz.isAgg4
 z4:=Tryz.sizeOf4
 v4:=Tryz.zeroValue4
 t5:=Tryz.underlying5
 a5:=Tryz.isAgg5
 z5:=Tryz.sizeOf5
 v5:=Tryz.zeroValue5
 t9:=Tryz.underlying9
 a9:=Tryz.isAgg9
 z9:=Tryz.sizeOf9
 v9:=Tryz.zeroValue9
 t21:=Tryz.underlying21
 a21:=Tryz.isAgg21
 z21:=Tryz.sizeOf21
 v21:=Tryz.zeroValue21
 t31:=Tryz.underlying95
 a31:=Tryz.isAgg95
 z31:=Tryz.sizeOf95
 v31:=Tryz.zeroValue95
 t46:=Tryz.underlying86
 a46:=Tryz.isAgg86
 z46:=Tryz.sizeOf86
 v46:=Tryz.zeroValue86
 t51:=Tryz.underlying87
 a51:=Tryz.isAgg87
 z51:=Tryz.sizeOf87
 v51:=Tryz.zeroValue87
 t105:=Tryz.underlying223
 a105:=Tryz.isAgg223
 z105:=Tryz.sizeOf223
 v105:=Tryz.zeroValue223
 t119:=Tryz.underlying240
 a119:=Tryz.isAgg240
 z119:=Tryz.sizeOf240
 t138:=Tryz.underlying242
 a138:=Tryz.isAgg242
 z138:=Tryz.sizeOf242
 v138:=Tryz.zeroValue242
 t139:=Tryz.underlying243
 a139:=Tryz.isAgg243
 z139:=Tryz.sizeOf243
 v139:=Tryz.zeroValue243
 t146:=Tryz.underlying244
 a146:=Tryz.isAgg244
 z146:=Tryz.sizeOf244
 v146:=Tryz.zeroValue244
 g1:=by kernel_rfl
 g3:=by kernel_rfl
 g4:=by kernel_rfl}
open Go.RowKit Go.Lib in
theorem Tryz.strings_Split(s sep:ByteArray)(m:Int)(w:World)(hs:s.size<4294967281)(hm:w.cell? ⟨0,0,none⟩=some (.int .i64 m))(h1:1≤sep.size):
 Calls Tryz.prog 78 #[.string s,.string sep] w fun e w'=>
  e= .returned (.slice (some ⟨w.heap.size,0,none⟩) (Lib.countB s sep+1) (Lib.countB s sep+1))∧w'=w.alloc (.cells ((Lib.splitB sep 0 (Lib.countB s sep) s).map Value.string).toArray 9):=Any.strings_Split Tryz.lays146 (by kernel_rfl) s sep m w hs hm h1
end Go.Proofs
namespace Go.Proofs.YtbmecnjmbhokgaaGreatDoor
open Vc
namespace Q0
abbrev r0:List In:=[i1 4 (.mv (kI 0)),
i1 5 (.mv (kB false))]
abbrev r1:List In:=[mv 8 0,
i1 9 (.bin .eql (.t 8) (.k (.a (.str [])))),
mv 10 9,
i2 10 false 11 (.mv (.t 0)),
i2 10 false 12 (.slen (.t 11)),
i2 10 false 13 (.bin .gtr (.t 12) (kI 5)),
i1 14 (.pick (.t 10) (kB true) (.t 13)),
mv 15 14,
i2 15 false 16 (.mv (.t 0)),
i2 15 false 17 (.call 107 [.t 16,(.k (.a (.str [48,49,50,51,52,53,54,55,56,57])))]),
i2 15 false 18 (.bin .neq (.t 17) (.k (.a (.str [])))),
i1 19 (.pick (.t 15) (kB true) (.t 18)),
mv 20 19,
i2 20 false 21 (.mv (.t 0)),
i2 20 false 22 (.slen (.t 21)),
i2 20 false 23 (.bin .gtr (.t 22) (kI 1)),
i2 20 false 24 (.mv (.t 23)),
i2 24 true 25 (.mv (.t 0)),
i2 24 true 26 (.sidx (.t 25) (kI 0)),
i2 24 true 27 (.bin .eql (.t 26) (.k (.a (.int .u8 48)))),
i2 20 false 28 (.pick (.t 24) (.t 27) (kB false)),
i1 29 (.pick (.t 20) (kB true) (.t 28))]
abbrev r2:List In:=[i1 4 (.mv (kI 0)),
i1 5 (.mv (kB false))]
abbrev r3:List In:=[mv 31 0,
i1 32 (.call 162 [.t 31]),
mv 30 32,
i1 33 (.ext 0 (.t 30)),
i1 34 (.ext 1 (.t 30)),
mv 6 33,
mv 7 34]
abbrev r4:List In:=[mv 35 6,
mv 36 6,
mv 37 1,
i1 38 (.bin .leq (.t 36) (.t 37)),
mv 4 35,
mv 5 38]
abbrev code:IC:=.seq (.reg r0) (.seq (.seq (.reg r1) (.cond (.t 29) (.seq (.reg r2) .ret) .skip)) (.seq (.reg r3) (.seq (.reg r4) .ret)))
abbrev res:List RV:=[.tmp 4,.tmp 5]
theorem fn:Body Tryz.prog 113 39 code res:=⟨by decide,Tryz.f113,_,Tryz.func113,rfl,rfl,by kernel_rfl,by kernel_rfl⟩
end Q0
namespace W2
abbrev r0:List In:=[i1 2 (.mv (kI 0)),
i1 3 (.mv (kB false))]
abbrev r1:List In:=[mv 7 0,
i1 8 (.call 161 [.t 7,(.k (.a (.str [114])))]),
mv 6 8,
i1 9 (.ext 0 (.t 6)),
i1 10 (.ext 1 (.t 6)),
mv 4 9,
mv 5 10]
abbrev r2:List In:=[mv 11 5,
i1 12 (.un .not (.t 11))]
abbrev r3:List In:=[i1 2 (.mv (kI 0)),
i1 3 (.mv (kB false))]
abbrev r4:List In:=[mv 13 4,
i1 14 (.call 113 [.t 13,kI 7]),
i1 15 (.ext 0 (.t 14)),
i1 16 (.ext 1 (.t 14)),
mv 2 15,
mv 3 16]
abbrev code:IC:=.seq (.reg r0) (.seq (.reg r1) (.seq (.seq (.reg r2) (.cond (.t 12) (.seq (.reg r3) .ret) .skip)) (.seq (.reg r4) .ret)))
abbrev res:List RV:=[.tmp 2,.tmp 3]
theorem fn:Body Tryz.prog 112 17 code res:=⟨by decide,Tryz.f112,_,Tryz.func112,rfl,rfl,by kernel_rfl,by kernel_rfl⟩
end W2
namespace W1
abbrev r0:List In:=[i1 2 (.alloc 72 [.str [],.int .i64 0,.int .i64 0,.int .i64 0,.int .i64 0,.str []]),
i1 3 (.mv (kB false)),
i1 4 (.mv (kI 0))]
abbrev r1:List In:=[mv 24 0,
i1 25 (.call 106 [.t 24,(.k (.a (.str [59])))]),
mv 23 25,
i1 26 (.ext 0 (.t 23)),
i1 27 (.ext 1 (.t 23)),
i1 28 (.ext 2 (.t 23)),
mv 0 26]
abbrev r2:List In:=[mv 29 0,
i1 30 (.call 107 [.t 29,(.k (.a (.str [32,9])))]),
mv 0 30]
abbrev r3:List In:=[mv 31 0,
i1 32 (.bin .eql (.t 31) (.k (.a (.str []))))]
abbrev r4:List In:=[i1 33 (.load 6 true (.t 2)),
i0 (.store 6 (.t 2) (.t 33)),
i1 3 (.mv (kB false)),
i1 4 (.mv (kI 0))]
abbrev r5:List In:=[mv 35 0,
i1 36 (.call 108 [.t 35,(.k (.a (.str [58])))]),
mv 34 36,
i1 37 (.ext 0 (.t 34)),
i1 38 (.ext 1 (.t 34)),
mv 5 37,
mv 6 38]
abbrev r6:List In:=[mv 39 6]
abbrev r7:List In:=[mv 40 5,
i1 41 (.call 109 [.t 40]),
i1 42 (.un .not (.t 41))]
abbrev r8:List In:=[i1 43 (.load 6 true (.t 2)),
i0 (.store 6 (.t 2) (.t 43)),
i1 3 (.mv (kB false)),
i1 4 (.mv (kI 7))]
abbrev r9:List In:=[mv 44 5,
i1 45 (.build [.str [],.int .i64 0,.int .i64 0,.int .i64 0,.int .i64 0,.str []] [(0,1,(.t 44))]),
i0 (.store 6 (.t 2) (.t 45)),
i1 3 (.mv (kB true)),
i1 4 (.mv (kI 0))]
abbrev r10:List In:=[mv 47 0,
i1 48 (.call 106 [.t 47,(.k (.a (.str [32])))]),
mv 46 48,
i1 49 (.ext 0 (.t 46)),
i1 50 (.ext 1 (.t 46)),
i1 51 (.ext 2 (.t 46)),
mv 7 49,
mv 8 50,
mv 9 51]
abbrev r11:List In:=[i1 52 (.call 110 []),
mv 53 7,
i1 54 (.call 101 [.t 52,.t 53]),
mv 10 54]
abbrev r12:List In:=[mv 55 10,
i1 56 (.bin .lss (.t 55) (kI 0))]
abbrev r13:List In:=[i1 57 (.load 6 true (.t 2)),
i0 (.store 6 (.t 2) (.t 57)),
i1 3 (.mv (kB false)),
i1 4 (.mv (kI 1))]
abbrev r14:List In:=[i1 11 (.mv (.k (.a (.raw (.slice none 0 0)))))]
abbrev r15:List In:=[mv 58 8,
i1 59 (.call 107 [.t 58,(.k (.a (.str [32,9])))]),
mv 8 59]
abbrev r16:List In:=[mv 60 8,
i1 61 (.bin .neq (.t 60) (.k (.a (.str []))))]
abbrev r17:List In:=[mv 62 8,
i1 63 (.call 78 [.t 62,(.k (.a (.str [44])))]),
mv 11 63]
abbrev r18:List In:=[mv 64 10,
i1 65 (.faddr 1 (.t 2)),
i1 66 (.faddr 0 (.t 65)),
i0 (.store 1 (.t 66) (.t 64))]
abbrev r19:List In:=[mv 68 10,
i1 69 (.call 111 [.t 68]),
mv 67 69,
i1 70 (.ext 0 (.t 67)),
i1 71 (.ext 1 (.t 67)),
i1 72 (.ext 2 (.t 67)),
i1 73 (.ext 3 (.t 67)),
mv 12 70,
mv 13 71,
mv 14 72,
mv 15 73]
abbrev r20:List In:=[mv 74 12,
i1 75 (.faddr 1 (.t 2)),
i1 76 (.faddr 1 (.t 75)),
i1 77 (.build [.bool false,.raw (.pointer none)] [(0,1,(.t 74)),(1,1,(.t 76))]),
mv 78 13,
i1 79 (.faddr 1 (.t 2)),
i1 80 (.faddr 2 (.t 79)),
i1 81 (.build [.bool false,.raw (.pointer none)] [(0,1,(.t 78)),(1,1,(.t 80))]),
i1 82 (.bsl 175 2 2 [.bool false,.raw (.pointer none),.bool false,.raw (.pointer none)] [(0,2,(.t 77)),(2,2,(.t 81))]),
i1 83 (.len (.t 82)),
i1 84 (.mv (kI 0))]
abbrev r21:List In:=[i1 85 (.bin .lss (.t 84) (.t 83))]
abbrev r22:List In:=[i1 86 (.iaddr 2 (.t 82) (.t 84)),
i1 87 (.load 2 true (.t 86)),
i1 17 (.alloc 175 [.bool false,.raw (.pointer none)]),
i0 (.store 2 (.t 17) (.t 87))]
abbrev r23:List In:=[i1 88 (.faddr 0 (.t 17)),
i1 89 (.load 1 false (.t 88)),
i1 90 (.un .not (.t 89))]
abbrev r24:List In:=[mv 91 11,
i1 92 (.len (.t 91)),
i1 93 (.bin .eql (.t 92) (kI 0))]
abbrev r25:List In:=[i1 94 (.build [.str [],.int .i64 0,.int .i64 0,.int .i64 0,.int .i64 0,.str []] []),
i0 (.store 6 (.t 2) (.t 94)),
i1 3 (.mv (kB false)),
i1 4 (.mv (kI 5))]
abbrev r26:List In:=[mv 96 11,
i1 97 (.iaddr 1 (.t 96) (kI 0)),
i1 98 (.load 1 false (.t 97)),
i1 99 (.call 107 [.t 98,(.k (.a (.str [32,9])))]),
i1 100 (.call 112 [.t 99]),
mv 95 100,
i1 101 (.ext 0 (.t 95)),
i1 102 (.ext 1 (.t 95)),
mv 18 101,
mv 19 102]
abbrev r27:List In:=[mv 103 19,
i1 104 (.un .not (.t 103))]
abbrev r28:List In:=[i1 105 (.build [.str [],.int .i64 0,.int .i64 0,.int .i64 0,.int .i64 0,.str []] []),
i0 (.store 6 (.t 2) (.t 105)),
i1 3 (.mv (kB false)),
i1 4 (.mv (kI 2))]
abbrev r29:DT:=(tm 108 18 false
 (tm 109 11 false
 (al 106 (.faddr 1 (.t 17)) false
 (al 107 (.load 1 false (.t 106)) false
 (al 110 (.sl 1 (.t 109) (some (kI 1)) none) false
 (al 111 (.nchk (.t 107)) false
 (.alt (i0 (.store 1 (.t 111) (.t 108))) false
 (tm 11 110 false
 .done)
 .stop)
 .stop)
 (al 111 (.nchk (.t 107)) false
 (al 110 (.sl 1 (.t 109) (some (kI 1)) none) false
 (.alt (i0 (.store 1 (.t 111) (.t 108))) false
 (tm 11 110 false
 .done)
 .stop)
 (.alt (i0 (.store 1 (.t 111) (.t 108))) false
 (al 110 (.sl 1 (.t 109) (some (kI 1)) none) false
 (tm 11 110 false
 .done)
 .stop)
 .stop))
 .stop))
 (al 110 (.sl 1 (.t 109) (some (kI 1)) none) false
 (al 107 (.load 1 false (.t 106)) false
 (al 111 (.nchk (.t 107)) false
 (.alt (i0 (.store 1 (.t 111) (.t 108))) false
 (tm 11 110 false
 .done)
 .stop)
 .stop)
 .stop)
 .stop))
 (al 110 (.sl 1 (.t 109) (some (kI 1)) none) false
 (al 106 (.faddr 1 (.t 17)) false
 (al 107 (.load 1 false (.t 106)) false
 (al 111 (.nchk (.t 107)) false
 (.alt (i0 (.store 1 (.t 111) (.t 108))) false
 (tm 11 110 false
 .done)
 .stop)
 .stop)
 .stop)
 .stop)
 .stop))))
abbrev r30:List In:=[i1 112 (.bin .add (.t 84) (kI 1)),
mv 84 112]
abbrev c34:IC:=.seq (.reg r21) (.seq (.cond (.t 85) .skip (.exit 0)) (.seq (.block 1 (.seq (.reg r22) (.seq (.seq (.reg r23) (.cond (.t 90) (.exit 1) .skip)) (.seq (.seq (.reg r24) (.cond (.t 93) (.seq (.reg r25) .ret) .skip)) (.seq (.reg r26) (.seq (.seq (.reg r27) (.cond (.t 104) (.seq (.reg r28) .ret) .skip)) (.dany r29))))))) (.reg r30)))
abbrev r31:List In:=[mv 113 14]
abbrev r32:List In:=[mv 114 11,
i1 115 (.len (.t 114)),
i1 116 (.bin .eql (.t 115) (kI 0))]
abbrev r33:List In:=[i1 117 (.build [.str [],.int .i64 0,.int .i64 0,.int .i64 0,.int .i64 0,.str []] []),
i0 (.store 6 (.t 2) (.t 117)),
i1 3 (.mv (kB false)),
i1 4 (.mv (kI 5))]
abbrev r34:List In:=[mv 118 11,
i1 119 (.iaddr 1 (.t 118) (kI 0)),
i1 120 (.load 1 false (.t 119)),
i1 121 (.call 107 [.t 120,(.k (.a (.str [32,9])))]),
mv 20 121]
abbrev r35:List In:=[mv 123 20,
i1 124 (.call 113 [.t 123,kI 65535]),
mv 122 124,
i1 125 (.ext 0 (.t 122)),
i1 126 (.ext 1 (.t 122)),
mv 21 125,
mv 22 126]
abbrev r36:List In:=[mv 129 22,
mv 128 129]
abbrev r37:List In:=[mv 130 21,
i1 131 (.faddr 1 (.t 2)),
i1 132 (.faddr 3 (.t 131)),
i0 (.store 1 (.t 132) (.t 130))]
abbrev r38:List In:=[mv 134 20,
i1 135 (.call 109 [.t 134]),
mv 136 135,
i2 136 true 137 (.mv (.t 10)),
i2 136 true 138 (.call 114 [.t 137]),
i1 139 (.pick (.t 136) (.t 138) (kB false)),
mv 133 139]
abbrev r39:List In:=[mv 140 20,
i1 141 (.faddr 5 (.t 2)),
i0 (.store 1 (.t 141) (.t 140))]
abbrev r40:List In:=[i1 127 (.build [.str [],.int .i64 0,.int .i64 0,.int .i64 0,.int .i64 0,.str []] []),
i0 (.store 6 (.t 2) (.t 127)),
i1 3 (.mv (kB false)),
i1 4 (.mv (kI 2))]
abbrev r41:List In:=[mv 142 11,
i1 143 (.sl 1 (.t 142) (some (kI 1)) none),
mv 11 143]
abbrev r42:List In:=[mv 144 11,
i1 145 (.len (.t 144)),
i1 146 (.bin .gtr (.t 145) (kI 0))]
abbrev r43:List In:=[i1 147 (.build [.str [],.int .i64 0,.int .i64 0,.int .i64 0,.int .i64 0,.str []] []),
i0 (.store 6 (.t 2) (.t 147)),
i1 3 (.mv (kB false)),
i1 4 (.mv (kI 5))]
abbrev r44:List In:=[i1 148 (.load 6 true (.t 2)),
i0 (.store 6 (.t 2) (.t 148)),
i1 3 (.mv (kB true)),
i1 4 (.mv (kI 0))]
abbrev c58:IC:=.seq (.seq (.reg r31) (.cond (.t 113) (.seq (.seq (.reg r32) (.cond (.t 116) (.seq (.reg r33) .ret) .skip)) (.seq (.reg r34) (.seq (.reg r35) (.seq (.block 2 (.seq (.reg r36) (.cond (.t 128) (.reg r37) (.seq (.reg r38) (.cond (.t 133) (.reg r39) (.seq (.reg r40) .ret)))))) (.reg r41))))) .skip)) (.seq (.seq (.reg r42) (.cond (.t 146) (.seq (.reg r43) .ret) .skip)) (.seq (.reg r44) .ret))
abbrev code:IC:=.seq (.reg r0) (.seq (.reg r1) (.seq (.reg r2) (.seq (.seq (.reg r3) (.cond (.t 32) (.seq (.reg r4) .ret) .skip)) (.seq (.seq (.reg r5) (.seq (.reg r6) (.cond (.t 39) (.seq (.seq (.reg r7) (.cond (.t 42) (.seq (.reg r8) .ret) .skip)) (.seq (.reg r9) .ret)) .skip))) (.seq (.reg r10) (.seq (.reg r11) (.seq (.seq (.reg r12) (.cond (.t 56) (.seq (.reg r13) .ret) .skip)) (.seq (.reg r14) (.seq (.seq (.reg r15) (.seq (.reg r16) (.cond (.t 61) (.reg r17) .skip))) (.seq (.reg r18) (.seq (.reg r19) (.seq (.seq (.reg r20) (.block 0 (.loop c34))) c58))))))))))))
abbrev res:List RV:=[.cell 2 6 true,.tmp 3,.tmp 4]
theorem fn:Body Tryz.prog 79 149 code res:=⟨by decide,Tryz.f79,_,Tryz.func79,rfl,rfl,by kernel_rfl,by kernel_rfl⟩
end W1
namespace Sp
abbrev r0:List In:=[i1 2 (.mv (.k (.a (.raw (.slice none 0 0))))),
i1 3 (.alloc 80 [.int .i64 0,.int .i64 0])]
abbrev r1:List In:=[mv 11 0,
i1 12 (.slen (.t 11)),
i1 13 (.bin .gtr (.t 12) (kI 1048576))]
abbrev r2:List In:=[i1 14 (.build [.int .i64 0,.int .i64 0] [(0,1,(kI 4))]),
i1 2 (.mv (.k (.a (.raw (.slice none 0 0))))),
i0 (.store 2 (.t 3) (.t 14))]
abbrev r3:List In:=[mv 15 0,
i1 16 (.call 78 [.t 15,(.k (.a (.str [10])))]),
mv 4 16]
abbrev r4:List In:=[mv 17 4,
mv 18 4,
i1 19 (.len (.t 18)),
i1 20 (.bin .sub (.t 19) (kI 1)),
i1 21 (.iaddr 1 (.t 17) (.t 20)),
i1 22 (.load 1 false (.t 21)),
i1 23 (.bin .eql (.t 22) (.k (.a (.str []))))]
abbrev r5:List In:=[mv 24 4,
mv 25 4,
i1 26 (.len (.t 25)),
i1 27 (.bin .sub (.t 26) (kI 1)),
i1 28 (.sl 1 (.t 24) none (some (.t 27))),
mv 4 28]
abbrev r6:List In:=[mv 29 4,
i1 30 (.len (.t 29)),
i1 31 (.bin .gtr (.t 30) (kI 40000))]
abbrev r7:List In:=[i1 32 (.build [.int .i64 0,.int .i64 0] [(0,1,(kI 5))]),
i1 2 (.mv (.k (.a (.raw (.slice none 0 0))))),
i0 (.store 2 (.t 3) (.t 32))]
abbrev r8:List In:=[i1 5 (.mv (.k (.a (.raw (.slice none 0 0)))))]
abbrev r9:List In:=[mv 33 4,
i1 34 (.len (.t 33)),
i1 35 (.mv (kI 0))]
abbrev r10:List In:=[i1 36 (.bin .lss (.t 35) (.t 34))]
abbrev r11:List In:=[mv 37 35,
i1 38 (.iaddr 1 (.t 33) (.t 35)),
i1 39 (.load 1 false (.t 38)),
mv 6 37,
mv 7 39]
abbrev r12:List In:=[mv 41 7,
i1 42 (.call 79 [.t 41]),
mv 40 42,
i1 43 (.ext 0 (.t 40)),
i1 44 (.ext 1 (.t 40)),
i1 45 (.ext 2 (.t 40)),
i1 8 (.alloc 72 [.str [],.int .i64 0,.int .i64 0,.int .i64 0,.int .i64 0,.str []]),
i0 (.store 6 (.t 8) (.t 43)),
mv 9 44,
mv 10 45]
abbrev r13:List In:=[mv 46 10,
i1 47 (.bin .neq (.t 46) (kI 0))]
abbrev r14:List In:=[mv 48 10,
mv 49 6,
i1 50 (.build [.int .i64 0,.int .i64 0] [(0,1,(.t 48)),(1,1,(.t 49))]),
i1 2 (.mv (.k (.a (.raw (.slice none 0 0))))),
i0 (.store 2 (.t 3) (.t 50))]
abbrev r15:List In:=[mv 51 9]
abbrev r16:List In:=[mv 52 5,
i1 53 (.load 6 true (.t 8)),
i1 54 (.bsl 72 6 1 [.str [],.int .i64 0,.int .i64 0,.int .i64 0,.int .i64 0,.str []] [(0,6,(.t 53))]),
i1 55 (.app 73 72 6 64 (.t 52) (.t 54)),
mv 5 55]
abbrev r17:List In:=[i1 56 (.bin .add (.t 35) (kI 1)),
mv 35 56]
abbrev c20:IC:=.seq (.reg r10) (.seq (.cond (.t 36) .skip (.exit 0)) (.seq (.block 1 (.seq (.reg r11) (.seq (.reg r12) (.seq (.seq (.reg r13) (.cond (.t 47) (.seq (.reg r14) .ret) .skip)) (.seq (.reg r15) (.cond (.t 51) (.reg r16) .skip)))))) (.reg r17)))
abbrev r18:List In:=[mv 57 5,
i1 58 (.build [.int .i64 0,.int .i64 0] []),
mv 2 57,
i0 (.store 2 (.t 3) (.t 58))]
abbrev code:IC:=.seq (.reg r0) (.seq (.seq (.reg r1) (.cond (.t 13) (.seq (.reg r2) .ret) .skip)) (.seq (.reg r3) (.seq (.seq (.reg r4) (.cond (.t 23) (.reg r5) .skip)) (.seq (.seq (.reg r6) (.cond (.t 31) (.seq (.reg r7) .ret) .skip)) (.seq (.reg r8) (.seq (.seq (.reg r9) (.block 0 (.loop c20))) (.seq (.reg r18) .ret)))))))
abbrev res:List RV:=[.tmp 2,.cell 3 2 true]
theorem fn:Body Tryz.prog 60 59 code res:=⟨by decide,Tryz.f60,_,Tryz.func60,rfl,rfl,by kernel_rfl,by kernel_rfl⟩
end Sp
namespace Wn
abbrev r0:List In:=[i1 4 (.mv (kI 0))]
abbrev r1:List In:=[mv 6 0,
i1 7 (.len (.t 6)),
i1 8 (.mv (kI 0))]
abbrev r2:List In:=[i1 9 (.bin .lss (.t 8) (.t 7))]
abbrev r3:List In:=[mv 10 8,
mv 5 10]
abbrev r4:List In:=[mv 11 1,
mv 12 0,
mv 13 5,
i1 14 (.iaddr 1 (.t 12) (.t 13)),
i1 15 (.load 1 false (.t 14)),
i1 16 (.bin .eql (.t 11) (.t 15))]
abbrev r5:List In:=[mv 17 5,
mv 4 17]
abbrev r6:List In:=[i1 18 (.bin .add (.t 8) (kI 1)),
mv 8 18]
abbrev r7:List In:=[i1 4 (.mv (kI (-1)))]
abbrev code:IC:=.seq (.reg r0) (.seq (.seq (.reg r1) (.block 0 (.loop (.seq (.reg r2) (.seq (.cond (.t 9) .skip (.exit 0)) (.seq (.block 1 (.seq (.reg r3) (.seq (.reg r4) (.cond (.t 16) (.seq (.reg r5) .ret) .skip)))) (.reg r6))))))) (.seq (.reg r7) .ret))
abbrev res:List RV:=[.tmp 4]
theorem fn:Body Tryz.prog 101 19 code res:=⟨by decide,Tryz.f101,_,Tryz.func101,rfl,rfl,by kernel_rfl,by kernel_rfl⟩
end Wn
end Go.Proofs.YtbmecnjmbhokgaaGreatDoor
namespace Go.Proofs.YtbmecnjmbhokgaaGreatDoor
open Go Go.RowKit Vc
set_option linter.unusedVariables false
set_option linter.unusedSimpArgs false
attribute [local irreducible] T Za Zn Ent RdC RwC Yj Zf Zi
@[reducible] def Yo(G:Nat)(H:Nat→Option Obj):Prop:=∀w X,Wb G H w X→∃m,w.cell? ⟨0,0,none⟩=some (.int .i64 m)
theorem Ju(G:Nat)(H:Nat→Option Obj)(s cs:List UInt8)(hs:s.length≤9223372036854775807)(hcl:cs.length≤100)(hc:cs.all (fun b=>decide (b.toNat<128))=true):
 GCp G H Tryz.prog 107 [.a (.str s),.a (.str cs)] [] 0 [] (.one (.a (.str (Lib.trimS s cs)))) [] 0:=
 GCp.plain (by simp[S1.bd,At.bd]) (by simp[SV.bd,S1.bd,At.bd]) (by simp[Zu,Zw,Zv,Zj,Ze,Vc.S1.okN,At.okN,SV.okN,Res.okN,Res.outOk,Zo,Res.own,Value.oneCell']) fun w hg=>
  Any.strings_Trim_laid Tryz.lays160 (by kernel_rfl) ⟨s.toArray⟩ ⟨cs.toArray⟩ w (by simpa[ByteArray.size]using hs) (by simp[ByteArray.size];omega) (ascii_of_all (by simpa using hc))
theorem Ry(G:Nat)(H:Nat→Option Obj)(s p:List UInt8):
 GCp G H Tryz.prog 161 [.a (.str s),.a (.str p)] [] 0 [] (.tup [.a (.str (Lib.trimPrefix s p)),.a (.bool (Lib.hasPrefix s p))]) [] 0:=
 GCp.plain (by simp[S1.bd,At.bd]) (by simp[SV.bd,S1.bd,At.bd]) (by simp[Zu,Zw,Zv,Zj,Ze,Vc.S1.okN,At.okN,SV.okN,Res.okN,Res.outOk,Zo,Res.own,Value.oneCell']) fun w hg=>
  (Tryz.strings_CutPrefix ⟨s.toArray⟩ ⟨p.toArray⟩ w).mono fun e w' ⟨he,hw⟩=>⟨he,hw▸Below.refl _ _⟩
theorem Hr(G:Nat)(H:Nat→Option Obj)(s p:List UInt8)(hs:s.length≤9223372036854775807):
 GCp G H Tryz.prog 108 [.a (.str s),.a (.str p)] [] 0 [] (.tup [.a (.str (Lib.trimSuffix s p)),.a (.bool (Lib.hasSuffix s p))]) [] 0:=
 GCp.plain (by simp[S1.bd,At.bd]) (by simp[SV.bd,S1.bd,At.bd]) (by simp[Zu,Zw,Zv,Zj,Ze,Vc.S1.okN,At.okN,SV.okN,Res.okN,Res.outOk,Zo,Res.own,Value.oneCell']) fun w hg=>
  (Tryz.strings_CutSuffix ⟨s.toArray⟩ ⟨p.toArray⟩ w (by simpa[ByteArray.size]using hs)).mono fun e w' ⟨he,hw⟩=>⟨he,hw▸Below.refl _ _⟩
theorem Zcr{G:Nat}{H:Nat→Option Obj}(hM:Yo G H)(s:List UInt8)(c:UInt8)(hs:s.length<4294967281):
 GCp G H Tryz.prog 106 [.a (.str s),.a (.str [c])] [] 0 [] (.tup [.a (.str (upToS c s).1),.a (.str (upToS c s).2.1),.a (.bool (upToS c s).2.2)]) [] 0:=
 GCp.plain (by simp[S1.bd,At.bd]) (by simp[SV.bd,S1.bd,At.bd]) (by simp[Zu,Zw,Zv,Zj,Ze,Vc.S1.okN,At.okN,SV.okN,Res.okN,Res.outOk,Zo,Res.own,Value.oneCell']) fun w hg=>by
  obtain⟨m,hm⟩:=hM w _ hg
  have:=Tryz.strings_Cut ⟨s.toArray⟩ ⟨[c].toArray⟩ m w (by simpa[ByteArray.size]using hs) hm
  simp only[List.toList_toArray,Mr]at this
  exact this.mono fun e w' ⟨he,n,hw⟩=>⟨he,hw▸⟨rfl,rfl,rfl,Nat.le_refl _,fun _ _=>rfl⟩⟩
theorem Zgd(G:Nat)(H:Nat→Option Obj)(s:List UInt8)(n:Int)(hs:s.length≤18)(hn:Lib.atoi s=some n):
 GCp G H Tryz.prog 162 [.a (.str s)] [] 0 [] (.tup [.a (.int .i64 n),.a (.raw .nilIface)]) [] 0:=
 GCp.plain (by simp[S1.bd,At.bd]) (by simp[SV.bd,S1.bd,At.bd,Value.oneCell']) (by simp[Zu,Zw,Zv,Zj,Ze,Vc.S1.okN,At.okN,SV.okN,Res.okN,Res.outOk,Zo,Res.own,Value.oneCell']) fun w hg=>
  (Tryz.strconv_Atoi ⟨s.toArray⟩ n (by simpa[ByteArray.size]using hs) hn w).mono fun e w' ⟨he,t,hw⟩=>⟨he,hw▸Lib.bytesWorld_below w _ t⟩
theorem H5{G:Nat}{H:Nat→Option Obj}(hM:Yo G H)(s:List UInt8)(c:UInt8)(hs:s.length≤2000000):
 GCp G H Tryz.prog 78 [.a (.str s),.a (.str [c])] [] 0 [] (.one (.a (.ref 0))) [(0,.row 9 .str (splitS c s))] 1:=by
 refine⟨(by simp[Zu,Zw,Zv,Zj,Ze,Vc.S1.okN,At.okN,SV.okN,Res.okN,Res.outOk,Zo,Res.own,Value.oneCell']),fun ρ w hm hg=> ?_⟩
 obtain⟨m,hmx⟩:=hM w _ hg
 have hcnt:Lib.countB ⟨s.toArray⟩ ⟨[c].toArray⟩=s.count c:=by simpa[Lib.countB]using Lib.count_one c s
 have hsp:(Lib.splitB ⟨[c].toArray⟩ 0 (s.count c) ⟨s.toArray⟩).map (·.data.toList)=splitS c s:=by
  rw[Lib.splitB_data]
  exact Zcj c _ s rfl
 have hl:=Oa c s
 have:=Tryz.strings_Split ⟨s.toArray⟩ ⟨[c].toArray⟩ m w (by simp[ByteArray.size];omega) hmx (by simp[ByteArray.size])
 refine this.mono fun e w' ⟨he,hw⟩=> ?_
 rw[hcnt]at he hw
 have hB:Below w.heap.size w w':=hw▸(Below.refl _ w).alloc (Nat.le_refl _) _
 have hcells:(Lib.splitB ⟨[c].toArray⟩ 0 (s.count c) ⟨s.toArray⟩).map Value.string=(splitS c s).map fun y=>Value.string ⟨y.toArray⟩:=by
  rw[←hsp,List.map_map]
  rfl
 have hcl:=List.count_le_length (a:=c) (l:=s)
 have hown:P4 w.heap.size w' (.slice (some ⟨w.heap.size,0,none⟩) (s.count c+1) (s.count c+1)) 9 .str (splitS c s):=by
  unfold P4
  rw[Zck,hl]
  refine⟨by simp[hl,Kd.sz],.inr ⟨w.heap.size,s.count c+1,((splitS c s).map fun y=>Value.string ⟨y.toArray⟩).toArray,rfl,Nat.le_refl _,?_,Nat.le_refl _,by simp only[maxLen];omega,?_,?_⟩⟩
  ·rw[hw,hcells];exact heap_alloc_new w _
  ·simp[hl,Kd.sz]
  ·simp[Kd.sz,hl]
   exact List.take_of_length_le (by simp[hl])
 refine⟨Z9 ρ 0 (.slice (some ⟨w.heap.size,0,none⟩) (s.count c+1) (s.count c+1)),(fun n hn=>nomatch hn),by rw[he];simp[SV.den,S1.den,At.den,Zl],?_⟩
 exact hm.addRow hB hown
end Go.Proofs.YtbmecnjmbhokgaaGreatDoor
namespace Go.Proofs.YtbmecnjmbhokgaaGreatDoor
open Go Go.ChangeShapes Go.WideShapes Go.ChangeAt Go.WideMaps Go.WideElems Go.RowKit Vc
set_option linter.unusedVariables false
theorem Ya{H:Type}{enc:TypeId×Value→H}{a:Assume}{C:Checked}{os:Os}{f:FuncId}{fn:Func}{s:ChangeSpec}{conds:List PathCond}{apart fresh handsOn again:Bool}{X:World→Array Value→Prop}
 (hX:∀(w w':World) (args:Array Value),w.heap=w'.heap→X w args→X w' args)
 (own:ownKnob C.prog.godebug=none)(started:os.Started)(noInit:C.prog.inits.idxOf? f=none)(hfn:C.prog.funcs[f]? =some fn)
 (witness:∃(w:World) (tape:Tape) (i:Input),w.os=os∧(w.forCall tape i).Shaped C.prog∧i.vars=[]∧Input.okWide C.prog (w.forCall tape i) .any w.heap.size f i∧
   ((s.pre enc C.prog fn conds apart (w.forCall tape i).memory i.args∧X (w.forCall tape i).memory i.args)∧sizedMet enc C.prog fn (OpenSpec.ofChange s) apart (w.forCall tape i).memory i.args)∧a.holds C.prog (lone (Frame.enter C.prog f i.args .normal) [] (w.forCall tape i)))
 (contract:∀(W:World) (base:Nat) (args:Array Value) (ds gs:List (DataW H)) (before:List MemPlace),
   (∀(j:Nat) t v,fn.params[j]? =some t→args[j]? =some v→Value.okWide C.prog W .any base t v)→
   DataW.Whole enc C.prog fn.params.toList s.vars apart W args.toList ds gs before→
   conds.all (PathCond.test C.prog ⟨fn.params.toList,ds,s.plain.varTypes C.prog,gs⟩)=true→
   (DataW.weightsEach C.prog (fn.params.toList++s.plain.varTypes C.prog) (ds++gs)).all (·≤reachBytes)=true→X W args→W.ShapedOpen C.prog→
   a.holds C.prog (lone (Frame.enter C.prog f args .normal) [] W)→
   Calls C.prog f args W fun e W'=>∃v,e= .returned v∧s.post enc C.prog fn apart fresh handsOn again W args v W'):
 ReturnsInHanded a C os f .any (fun w args=>(s.pre enc C.prog fn conds apart w args∧X w args)∧sizedMet enc C.prog fn (OpenSpec.ofChange s) apart w args) (s.post enc C.prog fn apart fresh handsOn again):=by
 refine returnsInHanded_of_calls own started noInit witness ?_
 intro w tape i _ hsh _ hok hpre hholds
 obtain⟨_,_,_,fn',hfn',_,_,_,_,hval⟩:=hok
 have e:fn'=fn:=Option.some.inj (hfn'.symm.trans hfn)
 subst e
 obtain⟨⟨⟨ds,gs,before,hw,hc⟩,hx⟩,hz⟩:=hpre
 have hw':=DataW.Whole.of_heap (w':=w.forCall tape i) (by rfl) hw
 refine(contract (w.forCall tape i) w.heap.size i.args ds gs before hval hw' hc (hz.weights hw) (hX _ _ _ (by rfl) hx) hsh hholds).mono fun e W' ⟨v,he,hp⟩=> ?_
 subst he
 exact ChangeSpec.post_blind hp
theorem Rc{W:World}(h:W.ShapedOpen Tryz.prog):Yo W.heap.size (fun b=>W.heap[b]?):=by
 intro w X hg
 obtain⟨m,hm⟩:=Go.Proofs.cell_of_shapedOpen_int (zero:= #[.int .i64 0]) (g:=0) (t:=3) h (of_decide_eq_true (by kernel_rfl)) (by kernel_rfl) rfl (by kernel_rfl) (by kernel_rfl) Tryz.underlying3
 refine⟨m,?_⟩
 rcases Nat.lt_or_ge 0 W.heap.size with hlt|hge
 ·have:=hg.2.1 _ hlt
  simp only[World.cell?]at hm ⊢
  rw[this];exact hm
 ·exfalso
  simp only[World.cell?,Array.getElem?_eq_none hge]at hm
  cases hm
theorem We(W:World):Wb W.heap.size (fun b=>W.heap[b]?) W []:=⟨Nat.le_refl _,fun b hb=>rfl,fun b hb=>nomatch hb⟩
end Go.Proofs.YtbmecnjmbhokgaaGreatDoor
namespace Go.Proofs.YtbmecnjmbhokgaaGreatDoor
namespace Vc
open Go.RowKit
set_option linter.unusedVariables false
set_option linter.unusedSimpArgs false
theorem Mem.viewRow{c:Cx}{ρ:Env}{R:List (Nat×Res)}{nx:Nat}{w:World}(h:Mem c ρ R nx w){m v E n sz:Nat}{k:Kd}{l:List k.ty}(hm:(m,Res.row E k l)∈R)(hv:(v,Res.view m sz 0 n)∈R)(hsz:sz=k.sz)(hn:n≤l.length)(h0:0<l.length):
 Mem c ρ ((v,.row E k (l.take n))::del R [m,v]) nx w:=by
 obtain⟨hxl,hrow⟩:=h.res m _ hm
 obtain⟨ad,len,cap,ad',v1,v2,v3,v4,v5⟩:=h.res v _ hv
 rcases hrow with⟨_,hz⟩|⟨b,cp,cur,hv1,hlo,hb,hnc,hcap,hcur,htake⟩
 ·omega
 rw[hv1]at v1;cases v1
 have e:=v5 (by omega)
 have hval:ρ v= .slice (some ⟨b,0,Option.none⟩) n cap:=by rw[v2,e];simp[Addr.add_lit]
 refine Mem.step (ds:=[m,v]) (D:=[]) h (fun _ _=>rfl) (Nat.le_refl _) h.one rfl rfl rfl (Nat.le_refl _) (fun _ _ hb _=>hb) (by simp) (h.bdr _ _ hv).1 (.inl (by simp)) trivial (fun b' hb'=> ?_) fun O' _ _=> ?_
 ·have hbm:(Res.row E k l).block ρ m=some b:=by simp[Res.block,hv1,Value.ownBlock]
  have hbv:b'=b:=by simp only[Res.block,hval,Value.ownBlock,Option.some.injEq]at hb';exact hb'.symm
  subst hbv
  exact⟨(h.lt _ (List.mem_filterMap.2 ⟨(m,_),hm,hbm⟩)).1,.inr ⟨m,_,hm,by simp,hbm⟩⟩
 ·have hlen:(l.take n).length=n:=by rw[List.length_take];omega
  have hz:∀x,((fun x=>(k.enc x).map (At.den ρ)) x).length=k.sz:=fun x=>by rw[List.length_map,k.enc_length]
  have ht:((l.take n).flatMap k.enc).map (At.den ρ)=((l.flatMap k.enc).map (At.den ρ)).take (n*k.sz):=by
   have:=Lp (fun x=>(k.enc x).map (At.den ρ)) k.sz hz l n
   rw[List.map_flatMap,List.map_flatMap];exact this
  refine⟨by rw[List.length_map];exact k.encs_length _,.inr ⟨b,cap,cur,by rw[hlen];exact hval,hlo,hb,by rw[hlen];omega,hcap,hcur,?_⟩⟩
  rw[hlen,ht,←htake,List.take_take,Nat.min_eq_left (Nat.mul_le_mul_right _ hn)]
theorem Ent.viewRow{c:Cx}{S:St}(m v n:Nat){E sz:Nat}{k:Kd}{l:List k.ty}(hm:S.find m=some (.row E k l))(hv:S.find v=some (.view m sz 0 n))(hsz:sz=k.sz)(hn:n≤l.length)(h0:0<l.length):
 Ent c S ⟨S.slots,(v,.row E k (l.take n))::del S.res [m,v],S.nx⟩:=fun ρ a w hh=>⟨ρ,hh.nodef,hh.sz,hh.lown,hh.slot,hh.bds,hh.mem.viewRow (Zg hm) (Zg hv) hsz hn h0⟩
end Vc
end Go.Proofs.YtbmecnjmbhokgaaGreatDoor
