/- That the small instructions do what the program's operations do: those that only read. -/
import Derived.Test.YtddmlennnmpnhaaGreatDoorQa
namespace Go.Proofs.YtddmlennnmpnhaaGreatDoor
namespace Vc
open Go.RowKit
set_option linter.unusedVariables false
set_option linter.unusedSimpArgs false
theorem Mem.row_cell{c:Cx}{ρ:Env}{R:List (Nat×Res)}{nx:Nat}{w:World}(h:Mem c ρ R nx w){m E:Nat}{k:Kd}{l:List k.ty}(hm:(m,Res.row E k l)∈R)
 {i j:Nat}{u:At}(hi:i<l.length)(hu:(k.enc (l.getD i k.dflt))[j]? =some u):
 ∃g cap,ρ m= .slice (some ⟨g,0,none⟩) l.length cap∧w.cell? ⟨g,i*k.sz+j,none⟩=some (u.den ρ):=by
 have hr:=h.res m _ hm
 simp only[Res.holds]at hr
 obtain⟨h1,h2⟩:=hr
 have hj:j<k.sz:=by rw[←k.enc_length (l.getD i k.dflt)];exact(List.getElem?_eq_some_iff.1 hu).1
 have hx:l[i]? =some (l.getD i k.dflt):=by simp[List.getD,hi]
 have hc:((l.flatMap k.enc).map (At.den ρ))[i*k.sz+j]? =some (u.den ρ):=by
  rw[List.getElem?_map,k.encs_get l i j _ hx hj,hu];rfl
 rcases h2 with⟨_,h2⟩|⟨g,cap,cur,hv,hg,hh,hn,hcap,hcur,htake⟩
 ·omega
 ·refine⟨g,cap,hv,?_⟩
  rw[cell_of_row w g _ cur E (0,0) hh]
  rw[←htake,List.getElem?_take]at hc
  split at hc
  ·simpa using hc
  ·cases hc
theorem Mem.ro_cell{c:Cx}{ρ:Env}{R:List (Nat×Res)}{nx:Nat}{w:World}(h:Mem c ρ R nx w){m:Nat}{k:Kd}{l:List k.ty}(hm:(m,Res.ro k l)∈R)
 {i j:Nat}{u:At}(hi:i<l.length)(hu:(k.enc (l.getD i k.dflt))[j]? =some u):
 ∃ad cap,ρ m= .slice (some ad) l.length cap∧w.cell? ⟨ad.block,ad.off+(i*k.sz+j),none⟩=some (u.den ρ):=by
 obtain⟨a,cap,ha,hnil,hc⟩:=h.res m _ hm
 cases a with
 |none=>have:=hnil rfl;rw[this]at hi;simp at hi
 |some ad=>exact⟨ad,cap,ha.1,((hc ad rfl).2 i (l.getD i k.dflt) (by simp[List.getD,hi]) j u hu).1⟩
theorem Wr{P:Program}{w:World}{t:TypeId}{d:TypeDesc}(ht:P.underlying t=some d)(hd:Wj d=false){a:Addr}{v:Value}(h:w.cell? a=some v):
 (loadVar t a).run P w= .ok v w:=by
 unfold loadVar isAgg
 cases d<;>simp[Wj]at hd<;>simp[run_underlying ht,Sem.run_bind,Sem.run_pure]<;>simp[load,Sem.run,h]
theorem T8{P:Program}{w:World}{t:TypeId}{d:TypeDesc}{i:TypeInfo}(ht:P.underlying t=some d)(hi:P.info? t=some i)(hd:Wj d=true){a:Addr}{cs:List Value}(hn:i.size=cs.length)
 (h:∀j v,cs[j]? =some v→w.cell? (a.add j)=some v):(loadVar t a).run P w= .ok (.agg cs.toArray) w:=by
 have hl:=run_loadCells_list (P:=P) w a cs h
 unfold loadVar isAgg
 cases d<;>simp[Wj]at hd<;>simp[run_underlying ht,Sem.run_bind,Sem.run_pure,sizeOf,typeInfo,hi,hn,hl,program,Sem.run]
theorem Ti{c:Cx}{P:Program}{ρ:Env}{w:World}{t:TypeId}{d:TypeDesc}{i:TypeInfo}(ht:P.underlying t=some d)(hi:P.info? t=some i){l:List At}{o nx:Nat}{v:SV}
 (h:Vh l o i.size (Wj d)=some v)(hb:∀u∈l,u.bd nx){a:Addr}(ha:a.spot=none)(hc:∀j u,l[o+j]? =some u→w.cell? ⟨a.block,a.off+j,none⟩=some (u.den ρ)):
 (loadVar t a).run P w= .ok (v.den ρ) w∧v.bd nx:=by
 obtain⟨ab,ao,aq⟩:=a
 simp only at ha;subst ha
 unfold Vh at h
 by_cases hd:Wj d=true
 ·rw[if_pos hd]at h
  split at h
  ·rename_i hle
   cases h
   have hlen:((l.drop o).take i.size).length=i.size:=by simp;omega
   refine⟨?_,fun u hu=>hb u (List.mem_of_mem_drop (List.mem_of_mem_take hu))⟩
   refine T8 ht hi hd (cs:=((l.drop o).take i.size).map (At.den ρ)) (by rw[List.length_map,hlen]) fun j x hj=> ?_
   rw[List.getElem?_map,List.getElem?_take]at hj
   split at hj
   ·rw[List.getElem?_drop]at hj
    cases hu:l[o+j]? with
    |none=>rw[hu]at hj;cases hj
    |some u=>
     rw[hu]at hj;cases hj
     have:=hc j u hu
     rw[Addr.add_lit];exact this
   ·cases hj
  ·cases h
 ·have hd':Wj d=false:=by simpa using hd
  rw[if_neg hd]at h
  cases hu:l[o]? with
  |none=>rw[hu]at h;cases h
  |some u=>
   rw[hu]at h;cases h
   exact⟨Wr ht hd' (by simpa[SV.den,S1.den]using hc 0 u hu),hb u (List.mem_of_getElem? hu)⟩
theorem Ya{P:Program}{w:World}(a:Addr):(Instr.sureAddr (.pointer (some a))).run P w= .ok a w:=rfl
theorem Zg{S:St}{m:Nat}{r:Res}(h:S.find m=some r):(m,r)∈S.res:=Yp h
theorem Zbn{c:Cx}{S:St}{ρ:Env}{a:Act}{w:World}(hh:S.holds c ρ a w){t:TypeId}{X:Operand}{d:TypeDesc}{i:TypeInfo}(ht:c.P.underlying t=some d)(hi:c.P.info? t=some i)
 {p:Prop}{v:SV}(h:ev S (.load i.size (Wj d) (opd X))=some (p,v))(hp:p):(Instr.loadAt t (a.eval X)).run c.P w= .ok (v.den ρ) w∧v.bd S.nx:=by
 simp only[ev]at h
 split at h
 ·rename_i q m o hrd
  split at h
  ·rename_i E l hf
   split at h
   ·rename_i v' hld
    cases h
    obtain⟨h1,_⟩:=Zd hh hrd hp
    obtain⟨b,hb1,hb2⟩:=hh.mem.res m _ (Zg hf)
    rw[h1]
    simp only[S1.den,At.den,hb1,Wk,Instr.loadAt,Sem.run_bind,Ya,Result.andThen_ok,Nat.zero_add]
    refine Ti (c:=c) ht hi hld (hh.mem.bdr m _ (Zg hf)).2 rfl fun j u hu=> ?_
    rw[cell_of_row w b _ _ E (0,0) hb2]
    simp[hu]
   ·cases h
  ·rename_i l hf
   split at h
   ·rename_i v' hld
    cases h
    obtain⟨h1,_⟩:=Zd hh hrd hp
    obtain⟨ad,hb1,hb2⟩:=hh.mem.res m _ (Zg hf)
    rw[h1]
    simp only[S1.den,At.den,hb1,Wk,Instr.loadAt,Sem.run_bind,Ya,Result.andThen_ok,Nat.zero_add]
    refine Ti (c:=c) ht hi hld (hh.mem.bdr m _ (Zg hf)).2 rfl fun j u hu=> ?_
    have:=(hb2 (o+j) u hu).1
    rw[Nat.add_assoc];exact this
   ·cases h
  ·cases h
 ·rename_i q m sz i' j hrd
  split at h
  ·rename_i k l hf
   split at h
   ·rename_i hsz
    subst hsz
    split at h
    ·rename_i v' hld
     cases h
     obtain⟨h1,_⟩:=Zd hh hrd hp.1
     have hne:∃u,(k.enc (l.getD i' k.dflt))[0]? =some u:=⟨_,List.getElem?_eq_getElem (by rw[k.enc_length];exact k.sz_pos)⟩
     obtain⟨u0,hu0⟩:=hne
     obtain⟨ad,cap,hv,_⟩:=hh.mem.ro_cell (Zg hf) hp.2 hu0
     rw[h1]
     simp only[S1.den,At.den,hv,V0,Instr.loadAt,Sem.run_bind,Ya,Result.andThen_ok]
     refine Ti (c:=c) ht hi hld (k.enc_bd _ _) rfl fun q u hu=> ?_
     obtain⟨ad',cap',hv',hc'⟩:=hh.mem.ro_cell (Zg hf) hp.2 hu
     rw[hv]at hv';cases hv'
     rw[show ad.off+(i'*k.sz+j)+q=ad.off+(i'*k.sz+(j+q)) by omega]
     exact hc'
    ·cases h
   ·cases h
  ·rename_i E k l hf
   split at h
   ·rename_i hsz
    subst hsz
    split at h
    ·rename_i v' hld
     cases h
     obtain⟨h1,_⟩:=Zd hh hrd hp.1
     have hne:∃u,(k.enc (l.getD i' k.dflt))[0]? =some u:=⟨_,List.getElem?_eq_getElem (by rw[k.enc_length];exact k.sz_pos)⟩
     obtain⟨u0,hu0⟩:=hne
     obtain⟨g,cap,hv,_⟩:=hh.mem.row_cell (Zg hf) hp.2 hu0
     rw[h1]
     simp only[S1.den,At.den,hv,V0,Instr.loadAt,Sem.run_bind,Ya,Result.andThen_ok,Nat.zero_add]
     refine Ti (c:=c) ht hi hld (k.enc_bd _ _) rfl fun q u hu=> ?_
     obtain⟨g',cap',hv',hc'⟩:=hh.mem.row_cell (Zg hf) hp.2 hu
     rw[hv]at hv';cases hv'
     rw[show i'*k.sz+j+q=i'*k.sz+(j+q) by omega]
     exact hc'
    ·cases h
   ·cases h
  ·rename_i E z e l hf
   split at h
   ·rename_i v' hld
    cases h
    obtain⟨h1,_⟩:=Zd hh hrd hp
    obtain⟨b,hb1,hb2,hb3⟩:=hh.mem.res m _ (Zg hf)
    rw[h1]
    simp only[S1.den,At.den,hb1,V0,Instr.loadAt,Sem.run_bind,Ya,Result.andThen_ok,Nat.zero_add]
    refine Ti (c:=c) ht hi hld (hh.mem.bdr m _ (Zg hf)).2 rfl fun q u hu=> ?_
    rw[cell_of_row w b _ _ E (0,0) hb3]
    simp[hu]
   ·cases h
  ·cases h
 ·cases h
theorem Ox{c:Cx}{S:St}{ρ:Env}{a:Act}{w:World}(hh:S.holds c ρ a w){sz m e:Nat}(h:lenOf S sz m=some e):
 ∃ad cap,ρ m= .slice ad e cap∧e≤cap∧(0<e→∀x,ad=some x→x.spot=none)∧(ad=none→e=0):=by
 unfold lenOf at h
 split at h
 ·rename_i k l hf
  split at h
  ·cases h
   obtain⟨a',cap,ha,hnil,hc⟩:=hh.mem.res m _ (Zg hf)
   exact⟨a',cap,ha.1,ha.2,fun h0 x hx=>(hc x hx).1 (fun e=>by rw[e]at h0;simp at h0),fun h=>by rw[hnil h];rfl⟩
  ·cases h
 ·rename_i E k l hf
  split at h
  ·cases h
   obtain⟨_,hr⟩:=hh.mem.res m _ (Zg hf)
   rcases hr with⟨hv,hn⟩|⟨g,cap,cur,hv,_,_,hn,_⟩
   ·exact⟨none,0,by rw[hv,hn],by omega,(fun _ x hx=>by cases hx),fun _=>hn⟩
   ·exact⟨_,cap,hv,hn,fun _ x hx=>by cases hx;rfl,fun h=>by cases h⟩
  ·cases h
 ·rename_i E z e' l hf
  split at h
  ·cases h
   obtain⟨b,hv,_⟩:=hh.mem.res m _ (Zg hf)
   exact⟨_,_,hv,Nat.le_refl _,fun _ x hx=>by cases hx;rfl,fun h=>by cases h⟩
  ·cases h
 ·cases h
theorem Zia{P:Program}(neg:Bool)(op:BinOp)(hop:op=(if neg then .neq else .eql)){t:TypeId}{ps rs:Array TypeId}{va:Bool}(ht:P.underlying t=some (.func ps rs va))(w:World)(X Y:Operand):
 (do eqGuard op t X Y .nilFunc .nilFunc;binOp op t .nilFunc .nilFunc:Sem Value).run P w= .ok (.bool (!neg)) w:=by
 have h:∀n,(Op.equalIn (n+1) t .nilFunc .nilFunc).run P w= .ok true w:=fun n=>by
  unfold Op.equalIn
  rw[Sem.run_bind,run_underlying ht,Result.andThen_ok]
  simp[Sem.run_pure]
 have h1:(Op.equal t .nilFunc .nilFunc).run P w= .ok true w:=h 9999
 rw[Sem.run_bind,Rf _ _ _ _ _ _ (by simp) (by simp),Sem.run_pure,Result.andThen_ok]
 subst hop
 cases neg<;>simp only[binOp,Bool.false_eq_true,if_false,if_true]<;>rw[Sem.run_bind,h1,Result.andThen_ok,Sem.run_pure]<;>rfl
theorem H7{P:Program}(neg:Bool)(op:BinOp)(hop:op=(if neg then .neq else .eql)){t e:TypeId}(ht:P.underlying t=some (.slice e))(w:World)(X Y:Operand)(b:Option Addr)(n cp:Nat):
 (do eqGuard op t X Y (.slice b n cp) (.slice none 0 0);binOp op t (.slice b n cp) (.slice none 0 0):Sem Value).run P w= .ok (.bool (if b.isNone then !neg else neg)) w:=by
 have h:∀k,(Op.equalIn (k+1) t (.slice b n cp) (.slice none 0 0)).run P w= .ok b.isNone w:=fun k=>by
  unfold Op.equalIn
  rw[Sem.run_bind,run_underlying ht,Result.andThen_ok]
  cases b<;>simp[Sem.run_pure]
 have h1:(Op.equal t (.slice b n cp) (.slice none 0 0)).run P w= .ok b.isNone w:=h 9999
 rw[Sem.run_bind,Rf _ _ _ _ _ _ (by simp) (by simp),Sem.run_pure,Result.andThen_ok]
 subst hop
 cases neg<;>simp only[binOp,Bool.false_eq_true,if_false,if_true]<;>rw[Sem.run_bind,h1,Result.andThen_ok,Sem.run_pure]<;>cases b<;>rfl
theorem Za7{c:Cx}{S:St}{ρ:Env}{a:Act}{w:World}(hh:S.holds c ρ a w){t e:TypeId}{n:Nat}{X Y:Operand}{i:TypeInfo}(ht:c.P.underlying t=some (.array n e))(hi:c.P.info? e=some i)
 {p:Prop}{v:SV}(h:ev S (.iarr n i.size (opd X) (opd Y))=some (p,v))(hp:p):(Instr.indexAt t (a.eval X) (a.eval Y)).run c.P w= .ok (v.den ρ) w∧v.bd S.nx:=by
 have hel:c.P.elem t=e:=by simp[Program.elem,ht]
 have hal:c.P.arrayLen t=n:=by simp[Program.arrayLen,ht]
 have main:∀(b o:Nat) (kk:IntKind) (z:Int),0≤z∧z<n→(Instr.indexAt t (.pointer (some ⟨b,o,none⟩)) (.int kk z)).run c.P w= .ok (.pointer (some ⟨b,o+z.toNat*i.size,none⟩)) w:=by
  intro b o kk z hz
  rw[run_indexAt_array (P:=c.P) (w:=w) t ⟨b,o,none⟩ kk z (by rw[hel,hal];exact ht),hal,if_pos hz,hel]
  simp[sizeOf,typeInfo,hi,program,Sem.run_bind,Sem.run_pure,Sem.run,Addr.add_lit]
 simp only[ev]at h
 split at h
 ·rename_i q1 m o q2 kk z hrx hry
  split at h
  ·rename_i E l hfm
   cases h
   obtain⟨h1,hb⟩:=Zd hh hrx hp.1
   obtain⟨h2,_⟩:=Zd hh hry hp.2.1
   obtain⟨b,hv,_⟩:=hh.mem.res m _ (Zg hfm)
   refine⟨?_,hb⟩
   rw[h1,h2]
   simp only[S1.den,At.den,SV.den,hv,Wk]
   rw[main _ _ _ _ hp.2.2,Nat.add_assoc]
  ·rename_i l hfm
   cases h
   obtain⟨h1,hb⟩:=Zd hh hrx hp.1
   obtain⟨h2,_⟩:=Zd hh hry hp.2.1
   obtain⟨b,hv,_⟩:=hh.mem.res m _ (Zg hfm)
   refine⟨?_,hb⟩
   rw[h1,h2]
   simp only[S1.den,At.den,SV.den,hv,Wk]
   rw[main _ _ _ _ hp.2.2,Nat.add_assoc]
  ·cases h
 ·cases h
theorem Zas{c:Cx}{S:St}{ρ:Env}{a:Act}{w:World}(hh:S.holds c ρ a w){t u ty e:TypeId}{k:IntKind}{X Y:Operand}{i:TypeInfo}(ht:c.P.underlying t=some (.slice e))(hu:c.P.underlying u=some (.int k))(hi:c.P.info? e=some i)
 {p:Prop}{v:SV}(h:ev S (.app0 (opd X) (opd Y))=some (p,v))(hp:p):(Builtin.append_ #[t,u] ty #[a.eval X,a.eval Y]).run c.P w= .ok (v.den ρ) w∧v.bd S.nx:=by
 have hl:∀(b:Option Addr) (n cp:Nat) (kk:IntKind),n≤cp→(Builtin.append_ #[t,u] ty #[.slice b n cp,.int kk 0]).run c.P w= .ok (.slice b n cp) w:=by
  intro b n cp kk hn
  cases b<;>simp[Builtin.append_,run_underlying ht,run_underlying hu,Sem.run_bind,Sem.run_pure,sizeOf,typeInfo,program,Sem.run,hi,asInt,asIntOf,hn,storeCells,IntKind.wrap,IntKind.signed,IntKind.bits]
 simp only[ev]at h
 split at h
 ·rename_i q1 m q2 kk z hrx hry
  split at h
  ·rename_i E k l hfm
   cases h
   obtain⟨h1,hb⟩:=Zd hh hrx hp.1
   obtain⟨h2,_⟩:=Zd hh hry hp.2.1
   obtain⟨_,hr⟩:=hh.mem.res m _ (Zg hfm)
   rw[h1,h2,hp.2.2]
   refine⟨?_,hb⟩
   simp only[S1.den,At.den,SV.den]
   rcases hr with⟨hv,hn⟩|⟨g,cap,cur,hv,_,_,hnc,_⟩
   ·rw[hv];exact hl _ _ _ _ (Nat.le_refl _)
   ·rw[hv];exact hl _ _ _ _ hnc
  ·cases h
 ·cases h
theorem C9{c:Cx}{S:St}{ρ:Env}{a:Act}{w:World}(hh:S.holds c ρ a w){t e:TypeId}{X Y:Operand}{i:TypeInfo}(ht:c.P.underlying t=some (.slice e))(hi:c.P.info? e=some i)
 {p:Prop}{v:SV}(h:ev S (.iaddr i.size (opd X) (opd Y))=some (p,v))(hp:p):(Instr.indexAt t (a.eval X) (a.eval Y)).run c.P w= .ok (v.den ρ) w∧v.bd S.nx:=by
 have main:∀(ad:Addr) (len cap:Nat) (kk:IntKind) (n:Int),ad.spot=none→0≤n∧n<len→(Instr.indexAt t (.slice (some ad) len cap) (.int kk n)).run c.P w= .ok (.pointer (some ⟨ad.block,ad.off+n.toNat*i.size,none⟩)) w:=by
  intro ad len cap kk n had hn
  obtain⟨ab,ao,aq⟩:=ad
  simp only at had;subst had
  have hel:c.P.elem t=e:=by simp[Program.elem,ht]
  rw[run_indexAt_slice (P:=c.P) (w:=w) t ⟨ab,ao,none⟩ len cap kk n (by rw[hel];exact ht),if_pos hn,hel]
  simp[sizeOf,typeInfo,hi,program,Sem.run_bind,Sem.run_pure,Sem.run,Addr.add_lit]
 simp only[ev]at h
 split at h
 ·rename_i q1 m q2 kk n hrx hry
  split at h
  ·rename_i k l hf
   split at h
   ·rename_i hsz
    cases h
    obtain⟨h1,_⟩:=Zd hh hrx hp.1
    obtain⟨h2,_⟩:=Zd hh hry hp.2.1
    have hl:n.toNat<l.length:=by have:=hp.2.2;omega
    obtain⟨a',cap,ha,hnil,hc⟩:=hh.mem.res m _ (Zg hf)
    cases a' with
    |none=>have:=hnil rfl;rw[this]at hl;simp at hl
    |some ad=>
     refine⟨?_,(hh.mem.bdr m _ (Zg hf)).1⟩
     rw[h1,h2]
     simp only[S1.den,At.den,ha.1,SV.den,V0,Nat.add_zero]
     exact main ad _ cap kk n ((hc ad rfl).1 (fun e=>by rw[e]at hl;simp at hl)) hp.2.2
   ·cases h
  ·rename_i E k l hf
   split at h
   ·rename_i hsz
    cases h
    obtain⟨h1,_⟩:=Zd hh hrx hp.1
    obtain⟨h2,_⟩:=Zd hh hry hp.2.1
    have hl:n.toNat<l.length:=by have:=hp.2.2;omega
    obtain⟨_,hr⟩:=hh.mem.res m _ (Zg hf)
    rcases hr with⟨_,hr⟩|⟨g,cap,cur,hv,_⟩
    ·omega
    ·refine⟨?_,(hh.mem.bdr m _ (Zg hf)).1⟩
     rw[h1,h2]
     simp only[S1.den,At.den,hv,SV.den,V0,Nat.add_zero]
     exact main ⟨g,0,none⟩ _ cap kk n rfl hp.2.2
   ·cases h
  ·rename_i E z e' l hf
   split at h
   ·rename_i hsz
    cases h
    obtain⟨h1,_⟩:=Zd hh hrx hp.1
    obtain⟨h2,_⟩:=Zd hh hry hp.2.1
    obtain⟨b,hv,_⟩:=hh.mem.res m _ (Zg hf)
    refine⟨?_,(hh.mem.bdr m _ (Zg hf)).1⟩
    rw[h1,h2]
    simp only[S1.den,At.den,hv,SV.den,V0,Nat.add_zero]
    exact main ⟨b,0,none⟩ _ _ kk n rfl hp.2.2
   ·cases h
  ·rename_i l hf
   split at h
   ·rename_i hsz
    cases h
    obtain⟨h1,_⟩:=Zd hh hrx hp.1
    obtain⟨h2,_⟩:=Zd hh hry hp.2.1
    have hl:n.toNat<l.length:=by have:=hp.2.2;omega
    obtain⟨a',cap,ha,hnil,hc⟩:=hh.mem.res m _ (Zg hf)
    cases a' with
    |none=>have:=hnil rfl;rw[this]at hl;simp at hl
    |some ad=>
     refine⟨?_,(hh.mem.bdr m _ (Zg hf)).1⟩
     rw[h1,h2]
     simp only[S1.den,At.den,ha.1,SV.den,V0,Nat.add_zero]
     exact main ad _ cap kk n ((hc ad rfl).1 (fun e=>by rw[e]at hl;simp at hl)) hp.2.2
   ·cases h
  ·rename_i m' z lo hi2 hf
   split at h
   ·rename_i hsz
    split at h
    ·rename_i e2 he
     cases h
     obtain⟨h1,_⟩:=Zd hh hrx hp.1
     obtain⟨h2,_⟩:=Zd hh hry hp.2.1
     obtain⟨ad,cap,g1,g2,g3,g4⟩:=Ox hh he
     obtain⟨ad1,len1,cap1,ad',v1,v2,v3,v4⟩:=hh.mem.res m _ (Zg hf)
     rw[g1]at v1;cases v1
     have hlt:lo<cap:=by have:=hp.2.2;omega
     have hcap:=v4.2 hlt
     cases ad with
     |none=>have:=g4 rfl;have:=hp.2.2;omega
     |some ad=>
      refine⟨?_,(hh.mem.bdr m _ (Zg hf)).2⟩
      rw[h1,h2]
      simp only[S1.den,At.den,v2,hcap,SV.den,g1,V0,Nat.add_zero,Option.map_some]
      have hsp:=g3 (by have:=hp.2.2;omega) ad rfl
      obtain⟨ab,ao,aq⟩:=ad
      simp only at hsp;subst hsp
      subst hsz
      rw[Addr.add_lit]
      have:=main ⟨ab,ao+lo*i.size,none⟩ (hi2-lo) (cap-lo) kk n rfl (by have:=hp.2.2;omega)
      rw[this]
      simp only[Nat.add_mul,Nat.add_assoc]
    ·cases h
   ·cases h
  ·cases h
 ·cases h
theorem At.den_one{ρ:Env}(h:∀n,(ρ n).oneCell'=true){nx:Nat}{x:At}(hx:x.bd nx):(x.den ρ).oneCell'=true:=by
 cases x with
 |raw v=>exact hx
 |ref n=>exact h n
 |loc n o=>simp only[At.den];unfold Wk;split<;>rfl
 |elt n sz i j=>simp only[At.den];unfold V0;split<;>rfl
 |_=>rfl
theorem Zfl{v:Value}(h:v.oneCell'=true):v.cells= #[v]:=by
 cases v<;>first|rfl|simp[Value.oneCell']at h
theorem Sx{ρ:Env}(h:∀n,(ρ n).oneCell'=true){nx:Nat}{v:S1}(hv:v.bd nx):(v.den ρ).cells=(v.cells.map (At.den ρ)).toArray:=by
 cases v with
 |agg l=>rfl
 |a x=>simp only[S1.den,S1.cells,List.map_cons,List.map_nil];rw[Zfl (At.den_one h hv)]
theorem On{nx:Nat}{v:S1}(hv:v.bd nx):∀u∈v.cells,u.bd nx:=by
 cases v with
 |agg l=>exact hv
 |a x=>intro u hu;simp only[S1.cells,List.mem_singleton]at hu;subst hu;exact hv
theorem Pq{ρ:Env}(place:Nat→Option (Nat×Nat)){c:Cx}{S:St}{a:Act}{w:World}(hh:S.holds c ρ a w)(pl:List (Nat×Nat))(hpl:∀(i:Nat) q,pl[i]? =some q→place i=some q):
 ∀(parts:List (Nat×Operand)) (ps:List (Nat×Nat×Opd)) (l l':List At) (p:Prop),Sm pl parts=some ps→W1 S ps l=some (p,l')→p→(∀u∈l,u.bd S.nx)→
  Instr.fill place (l.map (At.den ρ)).toArray (parts.map fun x=>(x.1,a.eval x.2))=some (l'.map (At.den ρ)).toArray∧(∀u∈l',u.bd S.nx):=by
 have put:∀(us:List Value) (l:List Value) (o:Nat),o+us.length≤l.length→
  us.toArray.zipIdx.foldl (fun cs (x:Value×Nat)=>cs.setIfInBounds (o+x.2) x.1) l.toArray=(l.take o++us++l.drop (o+us.length)).toArray:=by
  intro us l o ho
  have key:∀(us:List Value) (k:Nat) (l:List Value),o+k+us.length≤l.length→
   (us.zipIdx k).foldl (fun(cs:Array Value) (x:Value×Nat)=>cs.setIfInBounds (o+x.2) x.1) l.toArray=(l.take (o+k)++us++l.drop (o+k+us.length)).toArray:=by
   intro us
   induction us with
   |nil=>intro k l hl;simp
   |cons u us ih=>
    intro k l hl
    simp only[List.length_cons]at hl
    rw[List.zipIdx_cons,List.foldl_cons]
    have hs:l.toArray.setIfInBounds (o+k) u=(l.set (o+k) u).toArray:=by simp
    simp only[hs]
    rw[ih (k+1) (l.set (o+k) u) (by simp;omega)]
    congr 1
    have e1:(l.set (o+k) u).take (o+(k+1))=l.take (o+k)++[u]:=by
     rw[show o+(k+1)=(o+k)+1 by omega,List.take_succ_eq_append_getElem (by simp;omega)]
     simp[List.take_set_of_le]
    have e2:(l.set (o+k) u).drop (o+(k+1)+us.length)=l.drop (o+k+(us.length+1)):=by
     rw[List.drop_set_of_lt (by omega)]
     congr 1;omega
    rw[e1,e2]
    simp
  have:=key us 0 l (by omega)
  simp only[Nat.add_zero]at this
  rw[←this]
  simp
 intro parts
 induction parts with
 |nil=>
  intro ps l l' p h1 h2 hp hb
  cases h1
  cases h2
  exact⟨rfl,hb⟩
 |cons x parts ih=>
  intro ps l l' p h1 h2 hp hb
  obtain⟨i,x⟩:=x
  simp only[Sm]at h1
  split at h1
  ·rename_i o z r' hi hr
   cases h1
   simp only[W1]at h2
   split at h2
   ·rename_i q v hrd
    split at h2
    ·rename_i hlen
     split at h2
     ·rename_i q' l'' hrest
      cases h2
      obtain⟨e1,e2⟩:=Zd hh hrd hp.1
      have hvc:=Sx hh.mem.one e2
      have hz:(v.cells.map (At.den ρ)).length=z:=by rw[List.length_map];exact hlen.1
      have hfit:o+(v.cells.map (At.den ρ)).length≤(l.map (At.den ρ)).length:=by rw[List.length_map,List.length_map,hlen.1];exact hlen.2
      have hput:(l.map (At.den ρ)).take o++v.cells.map (At.den ρ)++(l.map (At.den ρ)).drop (o+(v.cells.map (At.den ρ)).length)=(We l o v.cells).map (At.den ρ):=by
       simp[We,List.map_take,List.map_drop]
      have hb':∀u∈We l o v.cells,u.bd S.nx:=by
       intro u hu
       simp only[We,List.mem_append]at hu
       rcases hu with(hu|hu)|hu
       ·exact hb u (List.mem_of_mem_take hu)
       ·exact On e2 u hu
       ·exact hb u (List.mem_of_mem_drop hu)
      obtain⟨g1,g2⟩:=ih _ _ _ _ hr hrest hp.2 hb'
      refine⟨?_,g2⟩
      simp only[List.map_cons,Instr.fill,hpl _ _ hi,e1,hvc]
      rw[if_neg (by simp[hlen.1,hlen.2])]
      rw[←g1,←hput,←put _ _ _ hfit]
     ·cases h2
    ·cases h2
   ·cases h2
  ·cases h1
theorem F8{x:At}(h:x.bd 0)(n:Nat):x.bd n:=At.bd_mono (Nat.zero_le n) h
theorem Vb{P:Program}{w:World}{s:Sem Value}{v:Value}(h:s.run P w= .ok v w):(do pure (.value (←s)):Sem Next).run P w= .ok (.value v) w:=by
 rw[Sem.run_bind,h,Result.andThen_ok,Sem.run_pure]
theorem Br{g:Bool}{x y z:At}(h:Uw g x y=some z)(ρ:Env):z.den ρ=(if g then x.den ρ else y.den ρ)∧z.bd 0:=by
 cases x<;>cases y<;>simp only[Uw,reduceCtorEq]at h
 case int.int k a k' b=>
  split at h
  ·rename_i hk;subst hk;cases h
   cases g<;>exact⟨rfl,trivial⟩
  ·cases h
 all_goals cases h;cases g<;>exact⟨rfl,trivial⟩
theorem Zdk{P:Program}{op:UnOp}{x z:At}(h:Gd op x=some z)(ρ:Env)(w:World):(Op.unary op (x.den ρ)).run P w= .ok (z.den ρ) w∧z.bd 0:=by
 cases op<;>cases x<;>simp only[Gd,reduceCtorEq]at h<;>cases h<;>refine⟨?_,trivial⟩<;>
  simp[Op.unary,At.den,Op.intArith,Op.intBits,Mr,Sem.run_pure]
theorem Zbv{P:Program}{ρ:Env}{nx:Nat}{t:TypeId}{d:TypeDesc}{i:TypeInfo}(ht:P.underlying t=some d)(hi:P.info? t=some i){l:List At}{off:Nat}{v:SV}(w:World)
 (h:Vh l off i.size (Wj d)=some v)(hb:∀u∈l,u.bd nx):(part t (l.map (At.den ρ)).toArray off).run P w= .ok (v.den ρ) w∧v.bd nx:=by
 unfold Vh at h
 by_cases hd:Wj d=true
 ·rw[if_pos hd]at h
  split at h
  ·rename_i hle
   cases h
   refine⟨?_,fun u hu=>hb u (List.mem_of_mem_drop (List.mem_of_mem_take hu))⟩
   have hx:(l.map (At.den ρ)).toArray.extract off (off+i.size)=(((l.drop off).take i.size).map (At.den ρ)).toArray:=by
    simp[List.map_take,List.map_drop]
   unfold part isAgg
   cases d<;>simp[Wj]at hd<;>simp[run_underlying ht,Sem.run_bind,Sem.run_pure,sizeOf,typeInfo,hi,program,Sem.run,SV.den,S1.den]<;>simp[List.map_take,List.map_drop]
  ·cases h
 ·have hd':Wj d=false:=by simpa using hd
  rw[if_neg hd]at h
  cases hu:l[off]? with
  |none=>rw[hu]at h;cases h
  |some u=>
   rw[hu]at h;cases h
   refine⟨?_,hb u (List.mem_of_getElem? hu)⟩
   unfold part isAgg
   cases d<;>simp[Wj]at hd'<;>simp[run_underlying ht,Sem.run_bind,Sem.run_pure,hu,SV.den,S1.den]
theorem H4{P:Program}{w:World}:∀ {fs:List Field} {pl:List (Nat×Nat)},(fs.mapM fun f=>(P.info? f.type).map fun i=>(f.offset,i.size))=some pl→
 (fs.mapM fun f=>(do pure (f.offset,←sizeOf f.type):Sem (Nat×Nat))).run P w= .ok pl w
 | [],pl,h=>by simp at h;subst h;simp[Sem.run_pure]
 |f::fs,pl,h=>by
  rw[List.mapM_cons]at h
  cases hi:P.info? f.type with
  |none=>simp[hi]at h
  |some i=>
   simp only[hi,Option.map_some,Option.bind_eq_bind,Option.bind_some]at h
   cases hr:(fs.mapM fun f=>(P.info? f.type).map fun i=>(f.offset,i.size))with
   |none=>simp[hr]at h
   |some pl'=>
    simp[hr]at h
    subst h
    have ih:=H4 (P:=P) (w:=w) hr
    rw[List.mapM_cons]
    simp only[Sem.run_bind,Result.andThen_ok,sizeOf,typeInfo,program,Sem.run,hi,Sem.run_pure]at ih ⊢
    rw[ih]
    rfl
theorem Wt{P:Program}{t:TypeId}{i:TypeInfo}{z:Value}(hi:P.info? t=some i)(hz:i.zero=some z)(w:World):(zeroValue t).run P w= .ok z w:=by
 simp[zeroValue,typeInfo,hi,hz,program,Sem.run_bind,Sem.run,Sem.run_pure]
theorem Jq(ρ:Env)(l:List Value):(l.map atV).map (At.den ρ)=l:=by
 rw[List.map_map]
 conv=>rhs;rw[←List.map_id l]
 exact List.map_congr_left fun x _=>F6 ρ x
theorem Cd{c:Cx}{S:St}{ρ:Env}{a:Act}{w:World}(hh:S.holds c ρ a w){t:TypeId}{parts:Array (Nat×Operand)}{fs:Array Field}{i:TypeInfo}{z:Value}{pl:List (Nat×Nat)}{ps:List (Nat×Nat×Opd)}
 (ht:c.P.underlying t=some (.struct fs))(hi:c.P.info? t=some i)(hz:i.zero=some z)(hpl:sizes c.P fs=some pl)(hps:Sm pl parts.toList=some ps)(hzo:okV z=true)
 {p:Prop}{l:List At}(h:W1 S ps (z.cells.toList.map atV)=some (p,l))(hp:p):(Instr.build t (parts.map fun(i,x)=>(i,a.eval x))).run c.P w= .ok (.agg (l.map (At.den ρ)).toArray) w∧∀u∈l,u.bd S.nx:=by
 have hbd:∀u∈z.cells.toList.map atV,u.bd S.nx:=fun u hu=>by
  obtain⟨x,hx,rfl⟩:=List.mem_map.1 hu
  exact Ii _ _ (List.all_eq_true.1 hzo x hx)
 have hfill:=Pq (fun k=>pl[k]?) hh pl (fun _ _ h=>h) parts.toList ps _ l p hps h hp hbd
 rw[Jq]at hfill
 refine⟨?_,hfill.2⟩
 have hsz:=H4 (P:=c.P) (w:=w) (show fs.toList.mapM _=some pl from hpl)
 have harr:(fs.mapM fun f=>(do pure (f.offset,←sizeOf f.type):Sem (Nat×Nat))).run c.P w= .ok pl.toArray w:=by
  rw[Array.mapM_eq_mapM_toList]
  simp only[map_eq_pure_bind,Sem.run_bind,hsz,Result.andThen_ok,Sem.run_pure]
 unfold Instr.build
 simp only[Sem.run_bind,Wt hi hz,Result.andThen_ok,run_underlying ht]
 rw[harr]
 simp only[Result.andThen_ok]
 have hf:=hfill.1
 have e1:(fun(k:Nat)=>pl.toArray[k]?)=fun(k:Nat)=>pl[k]? :=by funext k;simp
 have e2:(parts.map fun(i,x)=>(i,a.eval x)).toList=parts.toList.map fun x=>(x.1,a.eval x.2):=by simp
 rw[e1,e2]
 have e3:z.cells.toList.toArray=z.cells:=by simp
 rw[e3]at hf
 rw[hf]
 simp[Sem.run_pure]
theorem Ea{c:Cx}{S:St}{ρ:Env}{a:Act}{w:World}(hh:S.holds c ρ a w){t e n:Nat}{parts:Array (Nat×Operand)}{i j:TypeInfo}{z:Value}{ps:List (Nat×Nat×Opd)}
 (ht:c.P.underlying t=some (.array n e))(hi:c.P.info? t=some i)(hz:i.zero=some z)(hj:c.P.info? e=some j)(hps:Sm ((List.range n).map fun q=>(q*j.size,j.size)) parts.toList=some ps)(hzo:okV z=true)
 {p:Prop}{l:List At}(h:W1 S ps (z.cells.toList.map atV)=some (p,l))(hp:p):(Instr.build t (parts.map fun(i,x)=>(i,a.eval x))).run c.P w= .ok (.agg (l.map (At.den ρ)).toArray) w∧∀u∈l,u.bd S.nx:=by
 have hbd:∀u∈z.cells.toList.map atV,u.bd S.nx:=fun u hu=>by
  obtain⟨x,hx,rfl⟩:=List.mem_map.1 hu
  exact Ii _ _ (List.all_eq_true.1 hzo x hx)
 have hfill:=Pq (fun q=>some (q*j.size,j.size)) hh _ (fun q v hq=>by
  simp only[List.getElem?_map,Option.map_eq_some_iff]at hq
  obtain⟨x,hx,rfl⟩:=hq
  have hx2:=(List.getElem?_eq_some_iff.1 hx).2
  rw[List.getElem_range]at hx2
  rw[hx2]) parts.toList ps _ l p hps h hp hbd
 rw[Jq]at hfill
 refine⟨?_,hfill.2⟩
 unfold Instr.build
 simp only[Sem.run_bind,Wt hi hz,Result.andThen_ok,run_underlying ht,sizeOf,typeInfo,program,Sem.run,hj,Sem.run_pure]
 have hf:=hfill.1
 have e2:(parts.map fun(i,x)=>(i,a.eval x)).toList=parts.toList.map fun x=>(x.1,a.eval x.2):=by simp
 rw[e2]
 have e3:z.cells.toList.toArray=z.cells:=by simp
 rw[e3]at hf
 rw[hf]
 simp[Sem.run_pure]
theorem Gi{c:Cx}{S:St}{ρ:Env}{a:Act}{w:World}(hh:S.holds c ρ a w){t:TypeId}{fs:Array Field}{f:Nat}{fl:Field}{i:TypeInfo}{X:Operand}
 (ht:c.P.underlying t=some (.struct fs))(hf:fs[f]? =some fl)(hi:c.P.info? fl.type=some i)(hne:i.size≠0)
 {p:Prop}{v:SV}(h:ev S (.faddr fl.offset (opd X))=some (p,v))(hp:p):(Instr.fieldAt t (a.eval X) f).run c.P w= .ok (v.den ρ) w∧v.bd S.nx:=by
 have main:∀(b o:Nat),(Instr.fieldAt t (.pointer (some ⟨b,o,none⟩)) f).run c.P w= .ok (.pointer (some ⟨b,o+fl.offset,none⟩)) w:=by
  intro b o
  unfold Instr.fieldAt
  simp only[Sem.run_bind,run_underlying ht,Result.andThen_ok,hf,Ya,fieldPlace,sizeOf,typeInfo,program,Sem.run,hi,Sem.run_pure,hne,if_false,Addr.add_lit]
 simp only[ev]at h
 split at h
 ·rename_i q m o hrd
  split at h
  ·rename_i E l hfm
   cases h
   obtain⟨h1,hb⟩:=Zd hh hrd hp
   obtain⟨b,hv,_⟩:=hh.mem.res m _ (Zg hfm)
   refine⟨?_,hb⟩
   rw[h1]
   simp only[S1.den,At.den,SV.den,hv,Wk]
   rw[main,Nat.add_assoc]
  ·rename_i l hfm
   cases h
   obtain⟨h1,hb⟩:=Zd hh hrd hp
   obtain⟨b,hv,_⟩:=hh.mem.res m _ (Zg hfm)
   refine⟨?_,hb⟩
   rw[h1]
   simp only[S1.den,At.den,SV.den,hv,Wk]
   rw[main,Nat.add_assoc]
  ·cases h
 ·rename_i q m sz i' j hrd
  split at h
  ·rename_i k l hfm
   cases h
   obtain⟨h1,hb⟩:=Zd hh hrd hp.1
   obtain⟨u0,hu0⟩:∃u,(k.enc (l.getD i' k.dflt))[0]? =some u:=⟨_,List.getElem?_eq_getElem (by rw[k.enc_length];exact k.sz_pos)⟩
   obtain⟨ad,cap,hv,_⟩:=hh.mem.ro_cell (Zg hfm) hp.2 hu0
   refine⟨?_,hb⟩
   rw[h1]
   simp only[S1.den,At.den,SV.den,hv,V0]
   rw[main]
   simp only[Nat.add_assoc]
  ·rename_i E k l hfm
   cases h
   obtain⟨h1,hb⟩:=Zd hh hrd hp.1
   obtain⟨u0,hu0⟩:∃u,(k.enc (l.getD i' k.dflt))[0]? =some u:=⟨_,List.getElem?_eq_getElem (by rw[k.enc_length];exact k.sz_pos)⟩
   obtain⟨g,cap,hv,_⟩:=hh.mem.row_cell (Zg hfm) hp.2 hu0
   refine⟨?_,hb⟩
   rw[h1]
   simp only[S1.den,At.den,SV.den,hv,V0]
   rw[main]
   simp only[Nat.add_assoc]
  ·rename_i E z e l hfm
   cases h
   obtain⟨h1,hb⟩:=Zd hh hrd hp
   obtain⟨b,hv,_⟩:=hh.mem.res m _ (Zg hfm)
   refine⟨?_,hb⟩
   rw[h1]
   simp only[S1.den,At.den,SV.den,hv,V0]
   rw[main]
   simp only[Nat.add_assoc]
  ·rename_i l hfm
   cases h
   obtain⟨h1,hb⟩:=Zd hh hrd hp.1
   obtain⟨a',cap,ha,hnil,hc⟩:=hh.mem.res m _ (Zg hfm)
   cases a' with
   |none=>have:=hnil rfl;have:=hp.2;simp_all
   |some ad=>
    refine⟨?_,hb⟩
    rw[h1]
    simp only[S1.den,At.den,SV.den,ha.1,V0]
    rw[main]
    simp only[Nat.add_assoc]
  ·cases h
 ·cases h
theorem Zdb{c:Cx}{S:St}{ρ:Env}{a:Act}{w:World}(hh:S.holds c ρ a w){t ty:TypeId}{X:Operand}
 (ht:c.P.underlying t=some .string){p:Prop}{v:SV}(h:ev S (.slen (opd X))=some (p,v))(hp:p):
 (Builtin.len_ #[t] ty #[a.eval X]).run c.P w= .ok (v.den ρ) w∧v.bd S.nx:=by
 simp only[ev]at h
 split at h
 ·rename_i q s hrd
  cases h
  obtain⟨h1,hb⟩:=Zd hh hrd hp
  refine⟨?_,trivial⟩
  rw[h1]
  have hz:(ByteArray.mk s.toArray).size=s.length:=by show s.toArray.size=_;simp
  simp only[S1.den,At.den,SV.den]
  unfold Builtin.len_
  simp only[Sem.run_bind,run_underlying ht,Result.andThen_ok,Sem.run_pure,goInt,hz,List.getElem?_toArray,List.getElem?_cons_zero]
 ·cases h
theorem Zf2{c:Cx}{S:St}{ρ:Env}{a:Act}{w:World}(hh:S.holds c ρ a w){t ty e:TypeId}{X:Operand}
 (ht:c.P.underlying t=some (.slice e)){p:Prop}{v:SV}(h:ev S (.len (opd X))=some (p,v))(hp:p):
 (Builtin.len_ #[t] ty #[a.eval X]).run c.P w= .ok (v.den ρ) w∧v.bd S.nx:=by
 have hl:∀(b:Option Addr) (n cp:Nat),(Builtin.len_ #[t] ty #[.slice b n cp]).run c.P w= .ok (.int .i64 n) w:=by
  intro b n cp
  simp[Builtin.len_,run_underlying ht,Sem.run_bind,Sem.run_pure,goInt]
 simp only[ev]at h
 split at h
 ·rename_i q m hrd
  split at h
  ·rename_i k l hfm
   cases h
   obtain⟨h1,hb⟩:=Zd hh hrd hp
   obtain⟨ad,cap,hv,_⟩:=hh.mem.res m _ (Zg hfm)
   rw[h1]
   simp only[S1.den,At.den,hv.1]
   exact⟨hl _ _ _,trivial⟩
  ·rename_i E k l hfm
   cases h
   obtain⟨h1,hb⟩:=Zd hh hrd hp
   obtain⟨_,hr⟩:=hh.mem.res m _ (Zg hfm)
   rw[h1]
   simp only[S1.den,At.den]
   rcases hr with⟨hv,hn⟩|⟨g,cap,cur,hv,_⟩
   ·rw[hv,hn];exact⟨hl _ _ _,trivial⟩
   ·rw[hv];exact⟨hl _ _ _,trivial⟩
  ·rename_i E z e l hfm
   cases h
   obtain⟨h1,hb⟩:=Zd hh hrd hp
   obtain⟨b,hv,_⟩:=hh.mem.res m _ (Zg hfm)
   rw[h1]
   simp only[S1.den,At.den,hv]
   exact⟨hl _ _ _,trivial⟩
  ·rename_i l hfm
   cases h
   obtain⟨h1,hb⟩:=Zd hh hrd hp
   obtain⟨ad,cap,hv,_⟩:=hh.mem.res m _ (Zg hfm)
   rw[h1]
   simp only[S1.den,At.den,hv.1]
   exact⟨hl _ _ _,trivial⟩
  ·rename_i base E l hfm
   cases h
   obtain⟨h1,hb⟩:=Zd hh hrd hp
   obtain⟨us,hlen,⟨_,hr⟩,_⟩:=hh.mem.res m _ (Zg hfm)
   rw[h1]
   simp only[S1.den,At.den,SV.den]
   rw[←hlen]
   rcases hr with⟨hv,hn⟩|⟨g,cap,cur,hv,_⟩
   ·rw[hv,hn];exact⟨hl _ _ _,trivial⟩
   ·rw[hv];exact⟨hl _ _ _,trivial⟩
  ·rename_i m' z lo hi hfm
   cases h
   obtain⟨h1,hb⟩:=Zd hh hrd hp
   obtain⟨ad1,len1,cap1,ad',v1,v2,v3,v4⟩:=hh.mem.res m _ (Zg hfm)
   rw[h1]
   simp only[S1.den,At.den,v2]
   exact⟨hl _ _ _,trivial⟩
  ·cases h
 ·rename_i q hrd
  cases h
  obtain⟨h1,hb⟩:=Zd hh hrd hp
  rw[h1]
  exact⟨hl _ _ _,trivial⟩
 ·cases h
theorem Eg(s:List UInt8)(l h:Nat)(hl:h≤s.length):(ByteArray.mk s.toArray).extract l h=ByteArray.mk ((s.take h).drop l).toArray:=by
 apply ByteArray.ext
 rw[ByteArray.data_extract]
 simp[List.extract_eq_take_drop,List.drop_take]
theorem ssl_run{P:Program}{t:TypeId}(ht:P.underlying t=some .string)(s:List UInt8)(lo hi:Option Value)(l h:Int)(kl kh:IntKind)(w:World)
 (hlo:lo=some (.int kl l)∨lo=none∧l=0)(hhi:hi=some (.int kh h)∨hi=none∧h=s.length)(h0:0≤l)(h1:l≤h)(h2:h≤s.length):
 (Instr.sliceAt t (.string ⟨s.toArray⟩) lo hi none).run P w= .ok (.string ⟨((s.take h.toNat).drop l.toNat).toArray⟩) w:=by
 have hz:(ByteArray.mk s.toArray).size=s.length:=by show s.toArray.size=_;simp
 unfold Instr.sliceAt
 simp only[Sem.run_bind,run_underlying ht,Result.andThen_ok]
 unfold Instr.slice
 simp only[Sem.run_bind,run_underlying ht,Result.andThen_ok,Option.isSome_none,Bool.false_eq_true,if_false,hz]
 have hbd:∀(k:IntKind) (i:Int) (y:Nat) (c:BoundsCode),0≤i∧i≤y→(Instr.sliceBound (.int k i) y c).run P w= .ok i.toNat w:=by
  intro k i y c hi
  unfold Instr.sliceBound
  simp only[Sem.run_bind,asIntOf,Sem.run_pure,Result.andThen_ok,hi,and_self,if_true]
 have hb:(Instr.sliceBounds false s.length s.length lo hi none).run P w= .ok (l.toNat,h.toNat,s.length) w:=by
  unfold Instr.sliceBounds
  rcases hlo with rfl|⟨rfl,rfl⟩<;>rcases hhi with rfl|⟨rfl,rfl⟩<;>
   simp only[Sem.run_bind,Sem.run_pure,Result.andThen_ok,Bool.false_eq_true,if_false,Option.isSome_none]
  ·rw[hbd kh h _ _ (by omega),Result.andThen_ok,hbd kl l _ _ (by omega),Result.andThen_ok]
  ·rw[hbd kl l _ _ (by omega),Result.andThen_ok,Int.toNat_natCast]
  ·rw[hbd kh h _ _ (by omega),Result.andThen_ok];rfl
  ·rw[Int.toNat_natCast];rfl
 rw[hb]
 simp only[Result.andThen_ok,Sem.run_pure,Eg s _ _ (show h.toNat≤s.length by omega)]
theorem Zi4{P:Program}{t:TypeId}(ht:P.underlying t=some .string)(s:List UInt8)(k:IntKind)(n:Int)(w:World)(h0:0≤n∧n<s.length):
 (Instr.index t (.string ⟨s.toArray⟩) (.int k n)).run P w= .ok (.int .u8 (Wc s n.toNat)) w:=by
 unfold Instr.index
 have hn:n.toNat<s.length:=by omega
 have hg:(ByteArray.mk s.toArray)[n.toNat]? =some s[n.toNat]:=by
  show(if h:n.toNat<(ByteArray.mk s.toArray).size then some ((ByteArray.mk s.toArray)[n.toNat]'h)else none)=_
  have hz:(ByteArray.mk s.toArray).size=s.length:=by show s.toArray.size=_;simp
  rw[dif_pos (by rw[hz];exact hn)]
  rfl
 simp only[Sem.run_bind,asIntOf,Sem.run_pure,Result.andThen_ok,run_underlying ht,h0.1,if_true,hg]
 simp[Wc,List.getD,hn]
def Qt(P:Program)(ρ:Env)(t:TypeId)(l:List At)(v:Value):Prop:=
 match P.underlying t with
 |some (.struct _)=>v= .agg (l.map (At.den ρ)).toArray
 |_=>∃x,l=[x]∧v=x.den ρ
theorem Ou:∀ {ks:List EK} {l m:List At} {b:Bool},Qg ks l m=some b→l.length=ks.length∧m.length=ks.length
 | [],[],[],b,h=>⟨rfl,rfl⟩
 |k::ks,x::l,y::m,b,h=>by
  simp only[Qg]at h
  split at h
  ·rename_i h1 h2
   have:=Ou h2
   simp[this]
  ·cases h
 | [],[],_::_,_,h=>by cases h
 | [],_::_,_,_,h=>by cases h
 |_::_,[],_,_,h=>by cases h
 |_::_,_::_,[],_,h=>by cases h
theorem K3:∀ {ks r:List EK} {l m:List At} {b:Bool},Qg (ks++r) l m=some b→∃b1 b2,Qg ks (l.take ks.length) (m.take ks.length)=some b1∧Qg r (l.drop ks.length) (m.drop ks.length)=some b2∧b=(b1&&b2)
 | [],r,l,m,b,h=>⟨true,b,by simp[Qg],by simpa using h,by simp⟩
 |k::ks,r,[],m,b,h=>by cases h
 |k::ks,r,x::l,[],b,h=>by cases h
 |k::ks,r,x::l,y::m,b,h=>by
  simp only[List.cons_append,Qg]at h
  split at h
  ·rename_i a c h1 h2
   cases h
   obtain⟨b1,b2,e1,e2,e3⟩:=K3 h2
   refine⟨a&&b1,b2,?_,by simpa using e2,by rw[e3,Bool.and_assoc]⟩
   simp only[List.length_cons,List.take_succ_cons,Qg,h1,e1]
  ·cases h
theorem B4{P:Program}{ρ:Env}{n:Nat}{t:TypeId}{ks:List EK}{i:TypeInfo}(hk:I3 P (n+1) t=some ks)(hi:P.info? t=some i)(hs:i.size=ks.length)(L:List At)(o:Nat)(hL:o+ks.length≤L.length)(w:World):
 ∃v,(part t (L.map (At.den ρ)).toArray o).run P w= .ok v w∧Qt P ρ t ((L.drop o).take ks.length) v:=by
 have single:∀ {d:TypeDesc},P.underlying t=some d→Wj d=false→ks.length=1→∃v,(part t (L.map (At.den ρ)).toArray o).run P w= .ok v w∧∃x,(L.drop o).take ks.length=[x]∧v=x.den ρ:=by
  intro d hd ha h1
  have hlt:o<L.length:=by omega
  refine⟨L[o].den ρ,?_,L[o],?_,rfl⟩
  ·unfold part isAgg
   cases d<;>simp[Wj]at ha<;>simp[run_underlying hd,Sem.run_bind,Sem.run_pure,hlt]
  ·rw[h1,List.drop_eq_getElem_cons hlt];rfl
 simp only[I3]at hk
 split at hk
 ·rename_i k hu
  cases hk
  obtain⟨v,h1,h2⟩:=single hu rfl rfl
  exact⟨v,h1,by unfold Qt;rw[hu];exact h2⟩
 ·rename_i hu
  cases hk
  obtain⟨v,h1,h2⟩:=single hu rfl rfl
  exact⟨v,h1,by unfold Qt;rw[hu];exact h2⟩
 ·rename_i hu
  cases hk
  obtain⟨v,h1,h2⟩:=single hu rfl rfl
  exact⟨v,h1,by unfold Qt;rw[hu];exact h2⟩
 ·rename_i fs hu
  refine⟨.agg (((L.drop o).take ks.length).map (At.den ρ)).toArray,?_,by unfold Qt;rw[hu]⟩
  unfold part isAgg
  simp[run_underlying hu,Sem.run_bind,Sem.run_pure,sizeOf,typeInfo,hi,program,Sem.run,hs,List.map_take,List.map_drop]
 ·cases hk
theorem G4{P:Program}{ρ:Env}:∀(n:Nat) (t:TypeId) (ks:List EK),I3 P n t=some ks→∀(m:Nat),n≤m→∀(l1 l2:List At) (b:Bool),Qg ks l1 l2=some b→∀(v1 v2:Value),Qt P ρ t l1 v1→Qt P ρ t l2 v2→∀w,
 (Op.equalIn m t v1 v2).run P w= .ok b w
 |0,t,ks,h,_,_,_,_,_,_,_,_,_,_,_=>by cases h
 |n+1,t,ks,h,0,hm,_,_,_,_,_,_,_,_,_=>by omega
 |n+1,t,ks,h,m+1,hm,l1,l2,b,he,v1,v2,h1,h2,w=>by
  simp only[I3]at h
  split at h
  ·rename_i k hu
   cases h
   unfold Qt at h1 h2
   rw[hu]at h1 h2
   obtain⟨x,rfl,rfl⟩:=h1
   obtain⟨y,rfl,rfl⟩:=h2
   simp only[Qg]at he
   cases x<;>cases y<;>simp only[Je]at he<;>(try cases he)
   rename_i k1 a k2 c
   by_cases hkk:k1=k2
   ·subst hkk
    simp only[if_true]at he
    cases he
    simp only[At.den]
    rw[run_equalIn_int w m t k1 k a c hu]
    congr 1
    rw[Bool.eq_iff_iff];simp
   ·simp only[hkk,if_false]at he;cases he
  ·rename_i hu
   cases h
   unfold Qt at h1 h2
   rw[hu]at h1 h2
   obtain⟨x,rfl,rfl⟩:=h1
   obtain⟨y,rfl,rfl⟩:=h2
   simp only[Qg]at he
   cases x<;>cases y<;>simp only[Je]at he<;>(try cases he)
   simp only[At.den]
   rw[run_equalIn_string w m t _ _ hu,Ko,Ko]
   congr 1
   rw[Bool.eq_iff_iff];simp
  ·rename_i hu
   cases h
   unfold Qt at h1 h2
   rw[hu]at h1 h2
   obtain⟨x,rfl,rfl⟩:=h1
   obtain⟨y,rfl,rfl⟩:=h2
   simp only[Qg]at he
   cases x<;>cases y<;>simp only[Je]at he<;>(try cases he)
   simp only[At.den]
   rw[run_equalIn_bool' w m t _ _ hu]
   simp
  ·rename_i fs hu
   split at h
   ·cases h
   ·rename_i hst
    unfold Qt at h1 h2
    rw[hu]at h1 h2
    subst h1;subst h2
    have hfo:P.fieldsOf t=fs:=by simp[Program.fieldsOf,hu]
    rw[run_equalIn_struct w m t _ _ (by rw[hfo];exact hu) (by simpa using hst),hfo]
    have key:∀(fl:List Field) (o:Nat) (ks':List EK) (b':Bool),Ei P (I3 P n) fl o=some ks'→Qg ks' (l1.drop o) (l2.drop o)=some b'→
     (Op.eqFields m (l1.map (At.den ρ)).toArray (l2.map (At.den ρ)).toArray fl).run P w= .ok b' w:=by
     intro fl
     induction fl with
     |nil=>
      intro o ks' b' hf hq
      cases hf
      have:b'=true:=by
       cases hd:l1.drop o<;>cases hd2:l2.drop o<;>rw[hd,hd2]at hq<;>first|(cases hq;rfl)|cases hq
      subst this
      simp[Op.eqFields,Sem.run_pure]
     |cons f fl ih=>
      intro o ks' b' hf hq
      simp only[Ei]at hf
      split at hf
      ·cases hf
      ·rename_i hcond
       split at hf
       ·rename_i kf i hk hi
        split at hf
        ·rename_i hsz'
         obtain⟨hsz,hkpos⟩:=hsz'
         split at hf
         ·rename_i r hr
          cases hf
          obtain⟨b1,b2,e1,e2,rfl⟩:=K3 hq
          have hname:f.name≠ "_" :=fun e=>hcond (.inl e)
          have hoff:f.offset=o:=Classical.byContradiction fun e=>hcond (.inr e)
          have hl1:=(Ou hq).1
          have hl2:=(Ou hq).2
          simp only[List.length_append,List.length_drop]at hl1 hl2
          cases n with
          |zero=>cases hk
          |succ n'=>
           have hle1:o+kf.length≤l1.length:=by omega
           have hle2:o+kf.length≤l2.length:=by omega
           have fin:o+kf.length≤l1.length→o+kf.length≤l2.length→(Op.eqFields m (l1.map (At.den ρ)).toArray (l2.map (At.den ρ)).toArray (f::fl)).run P w= .ok (b1&&b2) w:=by
            intro a1 a2
            obtain⟨x1,p1,q1⟩:=B4 (ρ:=ρ) hk hi hsz l1 o a1 w
            obtain⟨x2,p2,q2⟩:=B4 (ρ:=ρ) hk hi hsz l2 o a2 w
            have hr1:=G4 (n'+1) f.type kf hk m (by omega) _ _ _ e1 x1 x2 q1 q2 w
            have hrest:=ih (o+kf.length) r b2 hr (by rw[List.drop_drop]at e2;rw[List.drop_drop]at e2;exact e2)
            unfold Op.eqFields
            rw[if_pos hname]
            simp only[hoff,Sem.run_bind,p1,p2,Result.andThen_ok,hr1]
            cases b1
            ·simp[Sem.run_pure]
            ·simp[hrest]
           exact fin hle1 hle2
         ·cases hf
        ·cases hf
       ·cases hf
    have:=key fs.toList 0 ks b h (by simpa using he)
    exact this
  ·cases h
theorem Ue{c:Cx}{S:St}{ρ:Env}{a:Act}{w:World}(hh:S.holds c ρ a w):∀ {xs:List Operand} {p:Prop} {vs:List S1},Rl S (xs.map opd)=some (p,vs)→p→xs.map a.eval=vs.map (S1.den ρ)
 | [],p,vs,h,hp=>by cases h;rfl
 |x::xs,p,vs,h,hp=>by
  simp only[List.map_cons,Rl]at h
  split at h
  ·rename_i q v r l h1 h2
   cases h
   obtain⟨e1,_⟩:=Zd hh h1 hp.1
   have e2:=Ue hh h2 hp.2
   simp only[List.map_cons,e1,e2]
  ·cases h
theorem B9{c:Cx}{S:St}{ρ:Env}{a:Act}{w:World}(hh:S.holds c ρ a w):∀ {xs:List Operand} {p:Prop} {vs:List S1},Rl S (xs.map opd)=some (p,vs)→p→∀v∈vs,v.bd S.nx
 | [],p,vs,h,hp=>by cases h;intro v hv;cases hv
 |x::xs,p,vs,h,hp=>by
  simp only[List.map_cons,Rl]at h
  split at h
  ·rename_i q v r l h1 h2
   cases h
   intro u hu
   rcases List.mem_cons.1 hu with rfl|hu
   ·exact(Zd hh h1 hp.1).2
   ·exact B9 hh h2 hp.2 u hu
  ·cases h
theorem mapKd_spec{P:Program}{E:TypeId}{k:Kd}(h:Bm P E=some k):
 (∃q i,k= .int q∧P.underlying E=some (.int q)∧P.info? E=some i∧i.zero=some (.int q 0))∨(∃i,k= .bool∧P.underlying E=some .bool∧P.info? E=some i∧i.zero=some (.bool false)):=by
 unfold Bm at h
 split at h
 ·rename_i q q' n h1 h2
  split at h
  ·rename_i hq
   obtain⟨rfl,rfl⟩:=hq
   cases h
   obtain⟨i,hi,hz⟩:=Option.bind_eq_some_iff.1 h2
   exact .inl ⟨_,i,rfl,h1,hi,hz⟩
  ·cases h
 ·rename_i b h1 h2
  split at h
  ·rename_i hb
   subst hb
   cases h
   obtain⟨i,hi,hz⟩:=Option.bind_eq_some_iff.1 h2
   exact .inr ⟨i,rfl,h1,hi,hz⟩
  ·cases h
 ·cases h
theorem K5{P:Program}{K E:TypeId}{k:Kd}(h:Mg P K E=some k):P.underlying K=some .string∧
 ((∃q i,k= .int q∧P.underlying E=some (.int q)∧P.info? E=some i∧i.zero=some (.int q 0))∨(∃i,k= .bool∧P.underlying E=some .bool∧P.info? E=some i∧i.zero=some (.bool false))):=by
 unfold Mg at h
 split at h
 ·rename_i hK
  exact⟨hK,mapKd_spec h⟩
 ·cases h
theorem Ha{P:Program}{t K E:TypeId}{k:Kd}{f:List UInt8→Option k.ty}{n:Nat}{es:Array MapEntry}{clock b:Nat}{w:World}(ρ:Env)(hk:Mg P K E=some k)(ht:P.underlying t=some (.map K E))
 (hb:w.heap[b]? =some (.map es clock))(hm:Zhf P K E k f n es clock)(s:List UInt8)(hs:s.length≤9223372036854775807)(ok:Bool):
 (Instr.lookup t (.map (some b)) (.string ⟨s.toArray⟩) ok).run P w= .ok ((Mh ok k (f s)).den ρ) w:=by
 obtain⟨hK,hE⟩:=K5 hk
 obtain⟨F,_,hat⟩:=hm
 have hkey:keyOf P K (.string ⟨s.toArray⟩)=some (.string s):=WideMaps.keyOf_string_mk hK (s:=⟨s.toArray⟩) hs
 have hat:=hat s
 rcases hE with⟨q,i,rfl,h1,h2,h3⟩|⟨i,rfl,h1,h2,h3⟩
 ·rcases Maps.fit_look ok (Maps.string_keyed hK) ht (Wt h2 h3 w) hb F hkey with⟨hrun,_,ha⟩|⟨e0,y,_,_,hrun,hR,ha,_⟩
  ·have h0:f s=none:=by
    cases hf:f s with
    |none=>rfl
    |some x=>
     have e1:=(hat .nil).symm.trans (ha .nil)
     rw[hf]at e1
     cases e1
   rw[hrun,h0]
   cases ok<;>rfl
  ·obtain⟨a,hv,rfl,_⟩:=plainElem_int_inv h1 hR
   have e1:=(hat .nil).symm.trans (ha .nil)
   rw[hrun,hv]
   cases hf:f s with
   |none=>rw[hf]at e1;cases e1
   |some x=>
    rw[hf]at e1
    simp only[litK,DataW.lit.injEq,Lit.int.injEq,true_and]at e1
    subst e1
    cases ok<;>rfl
 ·rcases Maps.fit_look ok (Maps.string_keyed hK) ht (Wt h2 h3 w) hb F hkey with⟨hrun,_,ha⟩|⟨e0,y,_,_,hrun,hR,ha,_⟩
  ·have h0:f s=none:=by
    cases hf:f s with
    |none=>rfl
    |some x=>
     have e1:=(hat .nil).symm.trans (ha .nil)
     rw[hf]at e1
     cases e1
   rw[hrun,h0]
   cases ok<;>rfl
  ·have e1:=(hat .nil).symm.trans (ha .nil)
   have hv:∃a,e0.val= .bool a∧y.1= .lit (.bool a):=by
    unfold plainElem at hR
    rw[h1]at hR
    cases hx:e0.val<;>rw[hx]at hR<;>simp at hR
    subst hR
    exact⟨_,rfl,rfl⟩
   obtain⟨a,hv,hy⟩:=hv
   rw[hrun,hv]
   rw[hy]at e1
   cases hf:f s with
   |none=>rw[hf]at e1;cases e1
   |some x=>
    rw[hf]at e1
    simp only[litK,DataW.lit.injEq,Lit.bool.injEq]at e1
    subst e1
    cases ok<;>rfl
theorem Fg(ok:Bool){k:Kd}(o:Option k.ty)(nx:Nat):(Mh ok k o).bd nx:=by
 cases ok<;>cases k<;>simp[Mh,SV.bd,S1.bd,At.bd,atK]
theorem Io(ρ:Env):∀ {vs:List S1} {ms:List Nat},Up vs=some ms→vs.map (S1.den ρ)=ms.map fun m=>Wk (ρ m) 0
 | [],ms,h=>by simp only[Up,Option.some.injEq]at h;subst h;rfl
 |v::vs,ms,h=>by
  unfold Up at h
  split at h
  ·rename_i e;cases e
  ·rename_i m r e
   cases e
   split at h
   ·rename_i l hl
    cases h
    simp only[List.map_cons,Io ρ hl];rfl
   ·cases h
  ·cases h
theorem Ip:∀ {vs:List S1} {ms:List Nat},Up vs=some ms→∀m∈ms,S1.a (.loc m 0)∈vs
 | [],ms,h,m,hm=>by simp only[Up,Option.some.injEq]at h;subst h;cases hm
 |v::vs,ms,h,m,hm=>by
  unfold Up at h
  split at h
  ·rename_i e;cases e
  ·rename_i m' r e
   cases e
   split at h
   ·rename_i l hl
    cases h
    rcases List.mem_cons.1 hm with rfl|hm
    ·exact List.mem_cons_self ..
    ·exact List.mem_cons_of_mem _ (Ip hl m hm)
   ·cases h
  ·cases h
theorem Zfu{c:Cx}{S:St}{ρ:Env}{a:Act}{w:World}(hh:S.holds c ρ a w){o:Oper}{i:I}(hc:Re c.P o=some i){p:Prop}{v:SV}(he:ev S i=some (p,v))(hp:p):
 (execOp a.eval o).run c.P w= .ok (.value (v.den ρ)) w∧v.bd S.nx:=by
 unfold Re at hc
 unfold execOp
 split at hc
 · -- move
   rename_i x ho
   cases hc
   simp only[ho]
   simp only[ev]at he
   split at he
   ·rename_i q u hrd
    cases he
    obtain⟨h1,h2⟩:=Zd hh hrd hp
    exact⟨by simp only[Sem.run_pure,h1];rfl,h2⟩
   ·split at he
    ·rename_i t ht
     split at he
     ·rename_i l hg
      cases he
      cases x with
      |tmp t'=>
       simp only[opd]at ht
       split at ht
       rotate_left
       ·cases ht
       rename_i hlow
       simp only[Opd.t.injEq]at ht
       subst ht
       have h1:=hh.slot _ _ hg
       rw[Uf hlow]at h1
       have h2:=hh.bds _ _ hg
       refine⟨?_,h2⟩
       have:a.eval (.tmp t')= .tuple (l.map (S1.den ρ)).toArray:=by simp[Act.eval,Array.getD_eq_getD_getElem?,h1,SV.den]
       simp only[Sem.run_pure,this];rfl
      |const v'=>simp only[opd]at ht;split at ht<;>cases ht
      |global g=>cases ht
      |func f=>cases ht
     ·cases he
    ·cases he
 · -- assign
   rename_i x ho
   cases hc
   simp only[ho]
   simp only[ev]at he
   split at he
   ·rename_i q u hrd
    cases he
    obtain⟨h1,h2⟩:=Zd hh hrd hp
    exact⟨by simp only[Sem.run_pure,h1];rfl,h2⟩
   ·split at he
    ·rename_i t ht
     split at he
     ·rename_i l hg
      cases he
      cases x with
      |tmp t'=>
       simp only[opd]at ht
       split at ht
       rotate_left
       ·cases ht
       rename_i hlow
       simp only[Opd.t.injEq]at ht
       subst ht
       have h1:=hh.slot _ _ hg
       rw[Uf hlow]at h1
       have h2:=hh.bds _ _ hg
       refine⟨?_,h2⟩
       have:a.eval (.tmp t')= .tuple (l.map (S1.den ρ)).toArray:=by simp[Act.eval,Array.getD_eq_getD_getElem?,h1,SV.den]
       simp only[Sem.run_pure,this];rfl
      |const v'=>simp only[opd]at ht;split at ht<;>cases ht
      |global g=>cases ht
      |func f=>cases ht
     ·cases he
    ·cases he
 · -- pick
   rename_i cc x y ho
   cases hc
   simp only[ho]
   simp only[ev]at he
   split at he
   ·rename_i pc g px u py v' h1 h2 h3
    split at he
    ·rename_i z hm
     cases he
     obtain⟨e1,_⟩:=Zd hh h1 hp.1
     obtain⟨hz,hb⟩:=Br hm ρ
     refine⟨?_,F8 hb _⟩
     have e1':a.eval cc= .bool g:=e1
     have hz':(SV.one (.a z)).den ρ=(if g then u.den ρ else v'.den ρ):=hz
     rw[hz']
     simp only[Sem.run_bind,e1',asBool,Sem.run_pure,Result.andThen_ok]
     cases g
     ·obtain⟨e3,_⟩:=Zd hh h3 (hp.2.2 rfl)
      rw[e3];rfl
     ·obtain⟨e2,_⟩:=Zd hh h2 (hp.2.1 rfl)
      rw[e2];rfl
    ·cases he
   ·cases he
 · -- binOp
   rename_i op t x y yt ho
   simp only[ho]
   have bin:∀ {v:SV},ev S (.bin op (opd x) (opd y))=some (p,v)→((do pure (.value (←(do eqGuard op t x y (a.eval x) (a.eval y);binOp op t (a.eval x) (a.eval y):Sem Value))):Sem Next)).run c.P w= .ok (.value (v.den ρ)) w∧v.bd S.nx:=by
    intro v he
    simp only[ev]at he
    split at he
    ·rename_i p1 u p2 u' h1 h2
     split at he
     ·rename_i r z hb
      cases he
      obtain⟨e1,_⟩:=Zd hh h1 hp.1
      obtain⟨e2,_⟩:=Zd hh h2 hp.2.1
      rw[e1,e2]
      obtain⟨g1,g2⟩:=Cc (P:=c.P) (t:=t) (X:=x) (Y:=y) hb hp.2.2 w ρ
      exact⟨Vb g1,F8 g2 _⟩
     ·cases he
    ·cases he
   split at hc
   ·rename_i ht
    have beq:∀neg,op=(if neg then .neq else .eql)→∀ {v:SV},ev S (.beq neg (opd x) (opd y))=some (p,v)→((do pure (.value (←(do eqGuard op t x y (a.eval x) (a.eval y);binOp op t (a.eval x) (a.eval y):Sem Value))):Sem Next)).run c.P w= .ok (.value (v.den ρ)) w∧v.bd S.nx:=by
     intro neg hop v he
     simp only[ev]at he
     split at he
     ·rename_i p1 u p2 u' h1 h2
      cases he
      obtain⟨e1,_⟩:=Zd hh h1 hp.1
      obtain⟨e2,_⟩:=Zd hh h2 hp.2
      rw[e1,e2]
      have:=F9 (P:=c.P) (neg:=neg) ht u u' w x y
      rw[←hop]at this
      exact⟨Vb this,trivial⟩
     ·cases he
    split at hc
    ·cases hc;exact beq false rfl he
    ·cases hc;exact beq true rfl he
    ·cases hc
   ·cases hc;exact bin he
   ·cases hc;exact bin he
   ·rename_i et ht
    have snl:∀neg,op=(if neg then .neq else .eql)→∀ {v:SV},ev S (.snil neg (opd x) (opd y))=some (p,v)→((do pure (.value (←(do eqGuard op t x y (a.eval x) (a.eval y);binOp op t (a.eval x) (a.eval y):Sem Value))):Sem Next)).run c.P w= .ok (.value (v.den ρ)) w∧v.bd S.nx:=by
     intro neg hop v he
     simp only[ev]at he
     split at he
     ·rename_i p1 m p2 h1 h2
      split at he
      ·rename_i E k l hf
       cases he
       obtain⟨e1,_⟩:=Zd hh h1 hp.1
       obtain⟨e2,_⟩:=Zd hh h2 hp.2.1
       rw[e1,e2]
       refine⟨Vb ?_,trivial⟩
       simp only[S1.den,At.den,SV.den]
       obtain⟨_,hr⟩:=hh.mem.res m _ (Zg hf)
       rcases hr with⟨_,hn⟩|⟨g,cap,cur,hv,_⟩
       ·have:=hp.2.2;omega
       ·rw[hv];exact H7 neg op hop ht w x y _ _ _
      ·rename_i k l hf
       cases he
       obtain⟨e1,_⟩:=Zd hh h1 hp.1
       obtain⟨e2,_⟩:=Zd hh h2 hp.2.1
       rw[e1,e2]
       refine⟨Vb ?_,trivial⟩
       simp only[S1.den,At.den,SV.den]
       obtain⟨ad,cap,hv,hnil,_⟩:=hh.mem.res m _ (Zg hf)
       rw[hv.1]
       cases ad with
       |none=>have:=hnil rfl;have h3:=hp.2.2;rw[this]at h3;simp at h3
       |some ad=>exact H7 neg op hop ht w x y _ _ _
      ·cases he
     ·rename_i p1 p2 h1 h2
      cases he
      obtain⟨e1,_⟩:=Zd hh h1 hp.1
      obtain⟨e2,_⟩:=Zd hh h2 hp.2
      rw[e1,e2]
      refine⟨Vb ?_,trivial⟩
      simp only[S1.den,At.den,SV.den]
      exact H7 neg op hop ht w x y none 0 0
     ·cases he
    split at hc
    ·cases hc;exact snl false rfl he
    ·cases hc;exact snl true rfl he
    ·cases hc
   ·rename_i ht
    have fnl:∀neg,op=(if neg then .neq else .eql)→∀ {v:SV},ev S (.fnil neg (opd x) (opd y))=some (p,v)→((do pure (.value (←(do eqGuard op t x y (a.eval x) (a.eval y);binOp op t (a.eval x) (a.eval y):Sem Value))):Sem Next)).run c.P w= .ok (.value (v.den ρ)) w∧v.bd S.nx:=by
     intro neg hop v he
     simp only[ev]at he
     split at he
     ·rename_i p1 p2 h1 h2
      cases he
      obtain⟨e1,_⟩:=Zd hh h1 hp.1
      obtain⟨e2,_⟩:=Zd hh h2 hp.2
      rw[e1,e2]
      refine⟨Vb ?_,trivial⟩
      simp only[S1.den,At.den,SV.den]
      exact Zia neg op hop ht w x y
     ·cases he
    split at hc
    ·cases hc;exact fnl false rfl he
    ·cases hc;exact fnl true rfl he
    ·cases hc
   ·rename_i fs ht
    split at hc
    ·cases hc
    ·rename_i hguard
     have hm:c.P.eqGuardType c.P.depth t=false:=by simpa using hguard
     split at hc
     ·rename_i ks hks
      have aeq:∀neg,op=(if neg then .neq else .eql)→∀ {v:SV},ev S (.aeq neg ks (opd x) (opd y))=some (p,v)→((do pure (.value (←(do eqGuard op t x y (a.eval x) (a.eval y);binOp op t (a.eval x) (a.eval y):Sem Value))):Sem Next)).run c.P w= .ok (.value (v.den ρ)) w∧v.bd S.nx:=by
       intro neg hop v he
       simp only[ev]at he
       split at he
       ·rename_i p1 u p2 u' h1 h2
        split at he
        ·rename_i b hb
         cases he
         obtain⟨e1,_⟩:=Zd hh h1 hp.1
         obtain⟨e2,_⟩:=Zd hh h2 hp.2
         have hr:=G4 (ρ:=ρ) 6 t ks hks 10000 (by decide) u u' b hb (.agg (u.map (At.den ρ)).toArray) (.agg (u'.map (At.den ρ)).toArray) (by unfold Qt;rw[ht]) (by unfold Qt;rw[ht]) w
         refine⟨Vb ?_,trivial⟩
         rw[e1,e2,Sem.run_bind]
         simp only[S1.den]
         rw[run_eqGuard_agg w op t x y _ _ hm,Result.andThen_ok]
         subst hop
         cases neg
         ·simp only[Bool.false_eq_true,if_false];rw[run_eql_struct,hr];rfl
         ·simp only[if_true];rw[run_neq_struct,hr];rfl
        ·cases he
       ·cases he
      split at hc
      ·cases hc;exact aeq false rfl he
      ·cases hc;exact aeq true rfl he
      ·cases hc
     ·cases hc
   ·cases hc
 · -- unOp
   rename_i op t x ho
   cases hc
   simp only[ho]
   simp only[ev]at he
   split at he
   ·rename_i q u hrd
    split at he
    ·rename_i z hz
     cases he
     obtain⟨e1,_⟩:=Zd hh hrd hp
     rw[e1]
     obtain⟨g1,g2⟩:=Zdk (P:=c.P) hz ρ w
     exact⟨Vb g1,F8 g2 _⟩
    ·cases he
   ·cases he
 · -- convert
   rename_i s d x ho
   simp only[ho]
   split at hc
   ·rename_i ds k hs hd
    cases hc
    simp only[ev]at he
    split at he
    ·rename_i q k' n hrd
     cases he
     obtain⟨e1,_⟩:=Zd hh hrd hp
     rw[e1]
     refine⟨Vb ?_,trivial⟩
     have hk:c.P.intKind d=k:=by simp[Program.intKind,hd]
     have:=run_convert_int (P:=c.P) (w:=w) s d k' n (by rw[hs];rfl) (by rw[hk];exact hd)
     rw[hk]at this
     exact this
    ·cases he
   ·split at hc
    ·cases hc;cases he
    ·cases hc
   ·split at hc
    ·cases hc;cases he
    ·cases hc
   ·rename_i q0 hs hd
    cases hc
    simp only[ev]at he
    split at he
    ·rename_i q k' n hrd
     cases he
     obtain⟨hq,h0,h1⟩:=hp
     obtain⟨e1,_⟩:=Zd hh hrd hq
     rw[e1]
     refine⟨Vb ?_,trivial⟩
     have hv:Utf8.encode n=⟨#[UInt8.ofNat n.toNat]⟩:=by
      have h2:Utf8.valid n=true:=by unfold Utf8.valid;simp;omega
      have h3:n.toNat<128:=by omega
      unfold Utf8.encode
      simp only[h2,if_true]
      rw[if_pos h3]
     unfold convert
     simp only[Sem.run_bind,run_underlying hs,run_underlying hd,Result.andThen_ok,S1.den,At.den,Conv.intToString,Sem.run_pure,hv,toB,SV.den]
    ·cases he
   ·split at hc
    ·split at hc
     ·cases hc;cases he
     ·cases hc
    ·cases hc
   ·cases hc
 · -- load
   rename_i t x ho
   simp only[ho]
   split at hc
   ·rename_i d j ht hi
    cases hc
    obtain⟨g1,g2⟩:=Zbn hh ht hi he hp
    exact⟨Vb g1,g2⟩
   ·cases hc
 · -- fieldAddr
   rename_i t x f ho
   simp only[ho]
   split at hc
   ·rename_i fs ht
    split at hc
    ·rename_i fl hf
     split at hc
     ·rename_i j hi
      split at hc
      ·cases hc
      ·rename_i hne
       cases hc
       obtain⟨g1,g2⟩:=Gi hh ht hf hi hne he hp
       exact⟨Vb g1,g2⟩
     ·cases hc
    ·cases hc
   ·cases hc
 · -- indexAddr
   rename_i t x y ho
   simp only[ho]
   split at hc
   ·rename_i e ht
    split at hc
    ·rename_i j hi
     cases hc
     obtain⟨g1,g2⟩:=C9 hh ht hi he hp
     exact⟨Vb g1,g2⟩
    ·cases hc
   ·rename_i n e ht
    split at hc
    ·rename_i j hi
     cases hc
     obtain⟨g1,g2⟩:=Za7 hh ht hi he hp
     exact⟨Vb g1,g2⟩
    ·cases hc
   ·cases hc
 · -- index
   rename_i t x y ho
   simp only[ho]
   split at hc
   ·rename_i ht
    cases hc
    simp only[ev]at he
    split at he
    ·rename_i p1 s p2 k n h1 h2
     cases he
     obtain⟨e1,_⟩:=Zd hh h1 hp.1
     obtain⟨e2,_⟩:=Zd hh h2 hp.2.1
     rw[e1,e2]
     exact⟨Vb (Zi4 ht s k n w hp.2.2),trivial⟩
    ·cases he
   ·cases hc
 · -- field
   rename_i t x f ho
   simp only[ho]
   split at hc
   ·rename_i fs ht
    split at hc
    ·rename_i fl hf
     split at hc
     ·rename_i d j hd hi
      cases hc
      simp only[ev]at he
      split at he
      ·rename_i q l hrd
       split at he
       ·rename_i v' hld
        cases he
        obtain⟨e1,e2⟩:=Zd hh hrd hp
        obtain⟨g1,g2⟩:=Zbv (P:=c.P) (ρ:=ρ) hd hi w hld e2
        rw[e1]
        refine⟨Vb ?_,g2⟩
        unfold Instr.field
        simp only[Sem.run_bind,run_underlying ht,Result.andThen_ok,hf,S1.den,asAgg,Sem.run_pure]
        exact g1
       ·cases he
      ·cases he
     ·cases hc
    ·cases hc
   ·cases hc
 · -- extract
   rename_i x ix ho
   cases hc
   simp only[ho]
   simp only[ev]at he
   split at he
   ·rename_i t ht
    split at he
    ·rename_i l hg
     split at he
     ·rename_i u hu
      cases he
      cases x with
      |tmp t'=>
       simp only[opd]at ht
       split at ht
       rotate_left
       ·cases ht
       rename_i hlow
       simp only[Opd.t.injEq]at ht
       subst ht
       have h1:=hh.slot _ _ hg
       rw[Uf hlow]at h1
       have h2:=hh.bds _ _ hg
       refine⟨?_,h2 u (List.mem_of_getElem? hu)⟩
       refine Vb ?_
       have:a.eval (.tmp t')= .tuple (l.map (S1.den ρ)).toArray:=by simp[Act.eval,Array.getD_eq_getD_getElem?,h1,SV.den]
       rw[this]
       simp[Instr.extract,hu,Sem.run_pure,SV.den]
      |const v'=>simp only[opd]at ht;split at ht<;>cases ht
      |global g=>cases ht
      |func f=>cases ht
     ·cases he
    ·cases he
   ·cases he
 · -- build
   rename_i t parts ho
   simp only[ho]
   split at hc
   ·rename_i fs j ht hi
    split at hc
    ·rename_i z pl hz hpl
     split at hc
     ·rename_i ps hps
      split at hc
      ·rename_i hok
       cases hc
       simp only[ev]at he
       split at he
       ·rename_i q l hrd
        cases he
        obtain⟨g1,g2⟩:=Cd hh ht hi hz hpl hps hok hrd hp
        exact⟨Vb g1,g2⟩
       ·cases he
      ·cases hc
     ·cases hc
    ·cases hc
   ·rename_i n e j ht hi
    split at hc
    ·rename_i z jj hz hj
     split at hc
     ·rename_i ps hps
      split at hc
      ·rename_i hok
       cases hc
       simp only[ev]at he
       split at he
       ·rename_i q l hrd
        cases he
        obtain⟨g1,g2⟩:=Ea hh ht hi hz hj hps hok hrd hp
        exact⟨Vb g1,g2⟩
       ·cases he
      ·cases hc
     ·cases hc
    ·cases hc
   ·cases hc
 ·(repeat' split at hc)<;>first|(cases hc;done)|(cases hc;cases he)
 ·(repeat' split at hc)<;>first|(cases hc;done)|(cases hc;cases he)
 ·(repeat' split at hc)<;>first|(cases hc;done)|(cases hc;cases he)
 ·(repeat' split at hc)<;>first|(cases hc;done)|(cases hc;cases he)
 · -- call
   rename_i cl ho
   simp only[ho]
   split at hc
   ·split at hc
    ·split at hc
     ·cases hc
     ·cases hc;cases he
    ·cases hc
   ·cases hc;cases he
   ·rename_i hcal
    split at hc
    ·rename_i x t hx ht'
     have ea:cl.args= #[x]:=by rw[←hx]
     have et:cl.argTypes= #[t]:=by rw[←ht']
     have step:∀ {v:Value},(Builtin.len_ #[t] o.type #[a.eval x]).run c.P w= .ok v w→((do let d ←resolve a.eval cl o.type;invoke d.target d.args:Sem Next)).run c.P w= .ok (.value v) w:=by
      intro v hv
      simp only[resolve,hcal,ea,et,Sem.run_bind,Sem.run_pure,Result.andThen_ok,invoke,builtin,List.map_toArray,List.map_cons,List.map_nil,hv]
     split at hc
     ·rename_i ht
      cases hc
      obtain⟨g1,g2⟩:=Zdb (ty:=o.type) hh ht he hp
      exact⟨step g1,g2⟩
     ·rename_i e ht
      cases hc
      obtain⟨g1,g2⟩:=Zf2 (ty:=o.type) hh ht he hp
      exact⟨step g1,g2⟩
     ·cases hc
    ·cases hc
   ·rename_i hcal
    split at hc
    ·rename_i x y t u hx ht'
     have ea:cl.args= #[x,y]:=by rw[←hx]
     have et:cl.argTypes= #[t,u]:=by rw[←ht']
     split at hc
     ·(repeat' split at hc)<;>first|(cases hc;done)|(cases hc;cases he)
     ·split at hc
      ·(repeat' split at hc)<;>first|(cases hc;done)|(cases hc;cases he)
      ·rename_i e k ht hu
       split at hc
       ·rename_i i hi
        cases hc
        obtain⟨g1,g2⟩:=Zas (ty:=o.type) hh ht hu hi he hp
        refine⟨?_,g2⟩
        simp only[resolve,hcal,ea,et,Sem.run_bind,Sem.run_pure,Result.andThen_ok,invoke,builtin,List.map_toArray,List.map_cons,List.map_nil,g1]
       ·cases hc
      ·cases hc
    ·cases hc
   ·(repeat' split at hc)<;>first|(cases hc;done)|(cases hc;cases he)
   ·cases hc
 · -- slice of a string
   rename_i t x lo hi mx ho
   simp only[ho]
   split at hc
   ·rename_i ht
    cases hc
    simp only[ev]at he
    split at he
    ·rename_i p1 s p2 kl l p3 kh h h1 h2 h3
     cases he
     obtain⟨e1,_⟩:=Zd hh h1 hp.1
     rw[e1]
     refine⟨Vb ?_,trivial⟩
     simp only[S1.den,At.den]
     refine ssl_run ht s _ _ l h kl kh w ?_ ?_ hp.2.2.2.1 hp.2.2.2.2.1 hp.2.2.2.2.2
     ·cases lo with
      |none=>right;simp only[Option.map_none]at h2;cases h2;exact⟨rfl,rfl⟩
      |some q=>left;simp only[Option.map_some]at h2 ⊢;obtain⟨e2,_⟩:=Zd hh h2 hp.2.1;rw[e2];rfl
     ·cases hi with
      |none=>right;simp only[Option.map_none,h1]at h3;cases h3;exact⟨rfl,rfl⟩
      |some q=>left;simp only[Option.map_some]at h3 ⊢;obtain⟨e3,_⟩:=Zd hh h3 hp.2.2.1;rw[e3];rfl
    ·cases he
   ·split at hc
    ·cases hc;cases he
    ·cases hc
   ·(repeat' split at hc)<;>first|(cases hc;done)|(cases hc;cases he)
   ·cases hc
 · -- a new slice
   (repeat' split at hc)<;>first|(cases hc;done)|(cases hc;cases he)
 · -- a function with what it captures
   rename_i fn first captured ho
   simp only[ho]
   split at hc
   ·split at hc
    ·rename_i h0
     cases hc
     simp only[ev]at he
     split at he
     ·rename_i q vs hrd
      split at he
      ·rename_i ms hms
       cases he
       have hargs:=Ue hh hrd hp
       have hb:=B9 hh hrd hp
       refine⟨Vb ?_,fun m hm=> ?_⟩
       ·have e1:first= #[]:=Array.eq_empty_of_size_eq_zero h0
        have e2:captured.map a.eval=(vs.map (S1.den ρ)).toArray:=by rw[←hargs,←Array.toList_map]
        subst e1
        unfold Instr.makeFunc
        rw[e2,Io ρ hms,Sem.run_pure]
        simp[SV.den,S1.den,At.den]
       ·exact hb _ (Ip hms m hm)
      ·cases he
     ·cases he
    ·cases hc
   ·cases hc
 · -- a new map
   split at hc
   ·split at hc
    ·cases hc;cases he
    ·cases hc
   ·cases hc
 · -- a Zo into a map
   rename_i t x y ok ho
   simp only[ho]
   split at hc
   ·rename_i K E ht
    split at hc
    ·rename_i k hk
     cases hc
     simp only[ev]at he
     split at he
     ·rename_i p1 m p2 s h1 h2
      split at he
      ·rename_i P' K' E' k' f n hf
       split at he
       ·rename_i hKE
        obtain⟨rfl,rfl⟩:=hKE
        cases he
        obtain⟨hp1,hp2,⟨rfl,rfl⟩,hs⟩:=hp
        obtain⟨e1,_⟩:=Zd hh h1 hp1
        obtain⟨e2,_⟩:=Zd hh h2 hp2
        obtain⟨b,es,clock,g1,g2,g3⟩:=hh.mem.res _ _ (Zg hf)
        rw[e1,e2]
        simp only[S1.den,At.den,g1]
        exact⟨Vb (Ha ρ hk ht g2 g3 s hs ok),Fg ok _ _⟩
       ·cases he
      ·rename_i P' K' E' k' f n hf
       split at he
       ·rename_i hKE
        obtain⟨rfl,rfl⟩:=hKE
        cases he
        obtain⟨hp1,hp2,⟨rfl,rfl⟩,hs⟩:=hp
        obtain⟨e1,_⟩:=Zd hh h1 hp1
        obtain⟨e2,_⟩:=Zd hh h2 hp2
        obtain⟨b,es,clock,g1,g2,g3⟩:=hh.mem.res _ _ (Zg hf)
        rw[e1,e2]
        simp only[S1.den,At.den,g1]
        exact⟨Vb (Ha ρ hk ht g2.1 g3 s hs ok),Fg ok _ _⟩
       ·cases he
      ·cases he
     ·cases he
    ·cases hc
   ·cases hc
 · -- a store into a map
   split at hc
   ·split at hc
    ·cases hc;cases he
    ·cases hc
   ·cases hc
 · -- nilCheck
   rename_i x ho
   simp only[ho]
   cases hc
   simp only[ev]at he
   split at he
   ·rename_i q m o' hrd
    split at he
    ·rename_i E l hfm
     cases he
     obtain⟨h1,hb⟩:=Zd hh hrd hp
     obtain⟨b,hv,_⟩:=hh.mem.res m _ (Zg hfm)
     refine⟨?_,hb⟩
     simp only[SV.den,S1.den,At.den,hv,Wk]at h1 ⊢
     rw[h1]
     rfl
    ·rename_i l hfm
     cases he
     obtain⟨h1,hb⟩:=Zd hh hrd hp
     obtain⟨b,hv,_⟩:=hh.mem.res m _ (Zg hfm)
     refine⟨?_,hb⟩
     simp only[SV.den,S1.den,At.den,hv,Wk]at h1 ⊢
     rw[h1]
     rfl
    ·cases he
   ·cases he
 ·cases hc
theorem ev_isX{S:St}{i:I}(h:i.isX=true):ev S i=none:=by cases i<;>first|rfl|cases h
theorem Wd{c:Cx}{S:St}{ρ:Env}{a:Act}{w:World}(hh:S.holds c ρ a w){o:Oper}{i:I}(hc:Nw c.P o=some i){p:Prop}{v:SV}(he:ev S i=some (p,v))(hp:p):
 (execOp a.eval o).run c.P w= .ok (.value (v.den ρ)) w∧v.bd S.nx:=by
 rcases compI_cases hc with h|h
 ·exact Zfu hh h he hp
 ·rw[ev_isX (Gz h)]at he;cases he
end Vc
end Go.Proofs.YtddmlennnmpnhaaGreatDoor
