/- A part of the proofs of this seat's laws: steps on the way, joined. It has no conditions of its own. -/
import Derived.Lib.SlTrimSet
import Derived.Lib.Atoi
import Derived.Lib.IndexMore
import Derived.Lib.Split
import Derived.Lib.SplitLaws
import Derived.Test.YtddmlennnmpnhaaGreatDoorQf
namespace Go.Proofs.YtddmlennnmpnhaaGreatDoor
open Go
set_option linter.unusedVariables false
set_option linter.unusedSimpArgs false
theorem Tl{α:Type}(p:α→Bool):∀l:List α,l.dropWhile p=[]↔∀b∈l,p b=true
 | []=>by simp
 |b::l=>by
  rw[List.dropWhile_cons]
  split
  ·rename_i h
   rw[Tl p l]
   simp[h]
  ·rename_i h
   simp[h]
theorem Zha(l cs:List UInt8):Lib.trimS l cs=[]↔∀b∈l,cs.contains b=true:=by
 unfold Lib.trimS Lib.trimLeftS Lib.trimRightS
 rw[Tl]
 constructor
 ·intro h
  have h2:l.reverse.dropWhile (cs.contains ·)=[]:=by
   cases hd:l.reverse.dropWhile (cs.contains ·)with
   |nil=>rfl
   |cons x r=>
    have h1:=h x (by rw[hd];simp)
    have:=List.head_dropWhile_not (fun x=>cs.contains x) (l:=l.reverse) (by rw[hd];simp)
    simp only[hd,List.head_cons]at this
    rw[h1]at this
    cases this
  rw[Tl]at h2
  intro b hb
  exact h2 b (by simpa using hb)
 ·intro h
  have:l.reverse.dropWhile (cs.contains ·)=[]:=by
   rw[Tl]
   intro b hb
   exact h b (by simpa using hb)
  rw[this]
  simp
def upToS(c:UInt8):List UInt8→List UInt8×List UInt8×Bool
 | []=>([],[],false)
 |b::r=>if b=c then([],r,true)else(b::(upToS c r).1,(upToS c r).2)
theorem M2(c:UInt8):∀s:List UInt8,Lib.cut s [c]=upToS c s
 | []=>by simp[Lib.cut,Lib.index,upToS]
 |b::r=>by
  have ih:=M2 c r
  unfold Lib.cut at ih ⊢
  rw[Lib.index_one]at ih ⊢
  unfold Lib.indexByte upToS
  by_cases hb:b=c
  ·subst hb
   simp
  ·have hbc:(b==c)=false:=by simpa using hb
   simp only[hbc,hb,Bool.false_eq_true,if_false]
   rcases Int.lt_or_le (Lib.indexByte r c) 0 with h|h
   ·have h1:Lib.indexByte r c= -1:=by have:=Lib.indexByte_ge r c;omega
    rw[if_neg (by omega)]at ih
    rw[←ih]
    simp[h1]
   ·rw[if_pos h]at ih
    have h1:(Lib.indexByte r c== -1)=false:=by rw[beq_eq_false_iff_ne];omega
    rw[h1,←ih]
    simp only[Bool.false_eq_true,if_false]
    rw[if_pos (by omega)]
    have h2:(Lib.indexByte r c+1).toNat=(Lib.indexByte r c).toNat+1:=by omega
    rw[h2]
    simp[List.take_succ_cons,Nat.add_right_comm]
def splitS(c:UInt8):List UInt8→List (List UInt8)
 | []=>[[]]
 |b::r=>if b=c then[]::splitS c r else match splitS c r with
  | []=>[[b]]
  |p::ps=>(b::p)::ps
theorem O6(c b:UInt8)(r:List UInt8):splitS c (b::r)=if b=c then[]::splitS c r else match splitS c r with
 | []=>[[b]]
 |p::ps=>(b::p)::ps:=rfl
theorem Ge(c b:UInt8)(r:List UInt8):upToS c (b::r)=if b=c then([],r,true)else(b::(upToS c r).1,(upToS c r).2):=rfl
theorem R9(c:UInt8):∀s:List UInt8,splitS c s=(upToS c s).1::(if(upToS c s).2.2=true then splitS c (upToS c s).2.1 else[])
 | []=>by simp[splitS,upToS]
 |b::r=>by
  have ih:=R9 c r
  rw[O6,Ge]
  by_cases hb:b=c
  ·simp[hb]
  ·rw[if_neg hb,if_neg hb,ih]
theorem Oo(c:UInt8):∀s:List UInt8,(splitS c s).length=s.count c+1
 | []=>by simp[splitS]
 |b::r=>by
  have ih:=Oo c r
  rw[O6]
  by_cases hb:b=c
  ·simp[hb,ih]
  ·rw[if_neg hb]
   rw[List.count_cons_of_ne (fun e=>hb e)]
   split
   ·rename_i h;rw[h]at ih;simp at ih
   ·rename_i h;rw[h]at ih;simpa using ih
theorem Zdd(c:UInt8):∀(k:Nat) (s:List UInt8),s.count c=k→Lib.splitK [c] 0 k s=splitS c s:=by
 intro k
 induction k with
 |zero=>
  intro s hs
  have hl:=Oo c s
  rw[hs]at hl
  have hu:=R9 c s
  have hno:(upToS c s).2.2=false:=by
   cases ht:(upToS c s).2.2 with
   |false=>rfl
   |true=>
    rw[hu,if_pos ht]at hl
    have:=Oo c (upToS c s).2.1
    simp only[List.length_cons]at hl
    omega
  rw[hu,if_neg (by simp[hno])]
  unfold Lib.splitK
  have hc:=M2 c s
  unfold Lib.cut at hc
  split at hc
  ·rw[←hc]at hno;simp at hno
  ·rw[←hc]
 |succ k ih=>
  intro s hs
  have hl:=Oo c s
  rw[hs]at hl
  have hu:=R9 c s
  have hyes:(upToS c s).2.2=true:=by
   cases ht:(upToS c s).2.2 with
   |true=>rfl
   |false=>rw[hu,if_neg (by simp[ht])]at hl;simp at hl
  have hcnt:(upToS c s).2.1.count c=k:=by
   rw[hu,if_pos hyes,List.length_cons,Oo]at hl
   omega
  rw[hu,if_pos hyes,←ih _ hcnt]
  have e:Lib.splitK [c] 0 (k+1) s=if Lib.index s [c]== -1 then[s]else s.take ((Lib.index s [c]).toNat+0)::Lib.splitK [c] 0 k (s.drop ((Lib.index s [c]).toNat+[c].length)):=rfl
  rw[e]
  have hc:=M2 c s
  unfold Lib.cut at hc
  split at hc
  ·rename_i hi
   have hne:¬(Lib.index s [c]== -1)=true:=by simp;omega
   rw[if_neg hne,←hc]
   simp
  ·rw[←hc]at hyes;simp at hyes
def Iw:List UInt8:=[48,49,50,51,52,53,54,55,56,57]
set_option maxRecDepth 100000 in
theorem Zhy:∀n:Nat,n<256→(Iw.contains (UInt8.ofNat n)=true↔(48≤n∧n≤57)):=by decide
theorem Zhx(b:UInt8):Iw.contains b=true↔(48≤b.toNat∧b.toNat≤57):=by
 have:=Zhy b.toNat (by have:=b.toNat_lt;omega)
 have e:UInt8.ofNat b.toNat=b:=by simp
 rwa [e]at this
theorem M5(b:UInt8):Iw.contains b=true↔∃d,Lib.digitVal b=some d:=by
 rw[Zhx]
 unfold Lib.digitVal
 constructor
 ·intro h;exact⟨_,if_pos h⟩
 ·rintro⟨d,h⟩
  split at h
  ·assumption
  ·cases h
theorem K2:∀(l:List UInt8) (acc:Nat),(∀b∈l,Iw.contains b=true)→∃v,Lib.decFrom acc l=some v
 | [],acc,_=>⟨acc,rfl⟩
 |b::l,acc,h=>by
  obtain⟨d,hd⟩:=(M5 b).1 (h b (List.mem_cons_self ..))
  obtain⟨v,hv⟩:=K2 l (acc*10+d) fun y hy=>h y (List.mem_cons_of_mem _ hy)
  exact⟨v,by simp only[Lib.decFrom,hd];exact hv⟩
theorem Zd0{s:List UInt8}(hne:s≠[]):Lib.trimS s Iw=[]↔∃v,Lib.decNat s=some v:=by
 rw[Zha]
 have he:s.isEmpty=false:=by cases s with|nil=>exact absurd rfl hne|cons _ _=>rfl
 unfold Lib.decNat
 rw[he]
 constructor
 ·intro h;exact K2 s 0 h
 ·rintro⟨v,hv⟩ b hb
  obtain⟨k,hk⟩:=List.getElem?_of_mem hb
  exact(M5 b).2 (Lib.digit_of_decFrom s 0 v hv k b hk)
def Hf(s:List UInt8):Option Nat:=if s=[]∨5<s.length∨(1<s.length∧s.getD 0 0=48)then none else Lib.decNat s
theorem numV_lt{s:List UInt8}{v:Nat}(h:Hf s=some v):v<1000000:=by
 unfold Hf at h
 split at h
 ·cases h
 ·rename_i hn
  simp only[not_or]at hn
  obtain⟨_,hd⟩:=Lib.decNat_some h
  have:=Lib.decFrom_lt s 0 v hd
  have h5:s.length≤5:=by omega
  have:(10:Nat)^s.length≤10^5:=Nat.pow_le_pow_right (by decide) h5
  omega
theorem Zgy(c:UInt8)(s:List UInt8):splitS c s≠[]:=by rw[R9];simp
def Ep(t:List UInt8):List (List UInt8):=if(splitS 10 t).getLast? =some []then(splitS 10 t).dropLast else splitS 10 t
end Go.Proofs.YtddmlennnmpnhaaGreatDoor
namespace Go.Proofs.YtddmlennnmpnhaaGreatDoor
namespace Vc
open Go.RowKit
set_option linter.unusedVariables false
set_option linter.unusedSimpArgs false
def At.okN(p:Nat→Prop):At→Prop
 |.ref n=>p n
 |.loc n _=>p n
 |.elt n _ _ _=>p n
 |.clo _ ms=>ms=[]
 |.raw v=>v.oneCell'=true
 |_=>True
def S1.okN(p:Nat→Prop):S1→Prop
 |.a x=>x.okN p
 |.agg l=>∀x∈l,x.okN p
def SV.okN(p:Nat→Prop):SV→Prop
 |.one x=>x.okN p
 |.tup l=>∀x∈l,x.okN p
 |.opt _ x=>x.okN p
def Res.okN(p:Nat→Prop):Res→Prop
 |.cells _ l=>∀x∈l,x.okN p
 |.lit _ _ _ l=>∀x∈l,x.okN p
 |.rocells l=>∀x∈l,x.okN p
 |.view _ _ _ _=>False
 |.fiter _ _ _=>False
 |.arr _ _ _=>False
 |_=>True
def At.sub(σ:Nat→At):At→At
 |.ref n=>σ n
 |.loc n o=>match σ n with
  |.ref m=>.loc m o
  |.loc m o'=>.loc m (o'+o)
  |.elt m sz i j=>.elt m sz i (j+o)
  |.raw v=>.raw (Wk v o)
  |_=>.raw Yz
 |.elt n sz i j=>match σ n with
  |.ref m=>.elt m sz i j
  |.raw v=>.raw (V0 v (i*sz+j))
  |_=>.raw Yz
 |x=>x
def S1.sub(σ:Nat→At):S1→S1
 |.a x=>.a (x.sub σ)
 |.agg l=>.agg (l.map (At.sub σ))
def SV.sub(σ:Nat→At):SV→SV
 |.one x=>.one (x.sub σ)
 |.tup l=>.tup (l.map (S1.sub σ))
 |.opt g x=>.opt g (x.sub σ)
def Res.sub(σ:Nat→At):Res→Res
 |.cells E l=>.cells E (l.map (At.sub σ))
 |.lit E sz m l=>.lit E sz m (l.map (At.sub σ))
 |.rocells l=>.rocells (l.map (At.sub σ))
 |r=>r
theorem Zf7(v:Value)(a b:Nat):Wk (Wk v a) b=Wk v (a+b):=by
 unfold Wk
 split<;>simp_all[Yz]
 ·rename_i h;split at h<;>simp_all[Yz]<;>(try omega)
  subst h;simp;omega
 ·rename_i h
  split at h
  ·exact absurd rfl (h _)
  ·rfl
theorem Zf6(v:Value)(a b:Nat):Wk (V0 v a) b=V0 v (a+b):=by
 cases v with
 |slice a' l c=>
  cases a' with
  |none=>rfl
  |some x=>simp only[V0,Wk,Nat.add_assoc]
 |_=>rfl
theorem Zfr(v:Value)(a b:Nat):V0 (Wk v a) b=Yz:=by
 unfold Wk
 split<;>rfl
theorem Zfq(v:Value)(a b:Nat):V0 (V0 v a) b=Yz:=by
 cases v with
 |slice a' l c=>cases a'<;>rfl
 |_=>rfl
theorem At.sub_den{σ:Nat→At}{ρ ρ':Env}{p:Nat→Prop}(h:∀n,p n→(σ n).den ρ=ρ' n){x:At}(hx:x.okN p):(x.sub σ).den ρ=x.den ρ':=by
 cases x with
 |ref n=>exact h n hx
 |loc n o=>
  have hn:=h n hx
  simp only[At.sub,At.den,←hn]
  cases hσ:σ n with
  |ref m=>rfl
  |loc m o'=>simp only[At.den,Zf7]
  |elt m sz i j=>simp only[At.den,Zf6,Nat.add_assoc]
  |raw v=>rfl
  |_=>rfl
 |elt n sz i j=>
  have hn:=h n hx
  simp only[At.sub,At.den,←hn]
  cases hσ:σ n with
  |ref m=>rfl
  |loc m o'=>simp only[At.den,Zfr]
  |elt m sz i j=>simp only[At.den,Zfq]
  |raw v=>rfl
  |_=>rfl
 |clo f ms=>have:ms=[]:=hx;subst this;rfl
 |_=>rfl
theorem Tx{σ:Nat→At}{ρ ρ':Env}{p:Nat→Prop}(h:∀n,p n→(σ n).den ρ=ρ' n){l:List At}(hl:∀x∈l,x.okN p):(l.map (At.sub σ)).map (At.den ρ)=l.map (At.den ρ'):=by
 rw[List.map_map];exact List.map_congr_left fun x hx=>At.sub_den h (hl x hx)
theorem S1.sub_den{σ:Nat→At}{ρ ρ':Env}{p:Nat→Prop}(h:∀n,p n→(σ n).den ρ=ρ' n){x:S1}(hx:x.okN p):(x.sub σ).den ρ=x.den ρ':=by
 cases x with
 |a x=>exact At.sub_den h hx
 |agg l=>simp only[S1.sub,S1.den,Tx h hx]
theorem SV.sub_den{σ:Nat→At}{ρ ρ':Env}{p:Nat→Prop}(h:∀n,p n→(σ n).den ρ=ρ' n){x:SV}(hx:x.okN p):(x.sub σ).den ρ=x.den ρ':=by
 cases x with
 |one x=>exact S1.sub_den h hx
 |tup l=>simp only[SV.sub,SV.den,List.map_map];congr 2;exact List.map_congr_left fun x hx'=>S1.sub_den h (hx x hx')
 |opt g x=>simp only[SV.sub,SV.den,S1.sub_den h hx]
theorem Bi(v:Value)(o:Nat):(Wk v o).oneCell'=true:=by unfold Wk;split<;>rfl
theorem Cq(v:Value)(o:Nat):(V0 v o).oneCell'=true:=by unfold V0;split<;>rfl
theorem At.sub_bd{σ:Nat→At}{nx:Nat}{p:Nat→Prop}(h:∀n,p n→(σ n).bd nx){x:At}(hx:x.okN p):(x.sub σ).bd nx:=by
 cases x with
 |ref n=>exact h n hx
 |loc n o=>
  have hn:=h n hx
  simp only[At.sub]
  cases hσ:σ n<;>rw[hσ]at hn<;>first|exact hn|exact Bi _ _|rfl
 |elt n sz i j=>
  have hn:=h n hx
  simp only[At.sub]
  cases hσ:σ n<;>rw[hσ]at hn<;>first|exact hn|exact Cq _ _|rfl
 |clo f ms=>have:ms=[]:=hx;subst this;intro m hm;cases hm
 |raw v=>exact hx
 |_=>trivial
theorem S1.sub_bd{σ:Nat→At}{nx:Nat}{p:Nat→Prop}(h:∀n,p n→(σ n).bd nx){x:S1}(hx:x.okN p):(x.sub σ).bd nx:=by
 cases x with
 |a x=>exact At.sub_bd h hx
 |agg l=>intro y hy;obtain⟨z,hz,rfl⟩:=List.mem_map.1 hy;exact At.sub_bd h (hx z hz)
theorem SV.sub_bd{σ:Nat→At}{nx:Nat}{p:Nat→Prop}(h:∀n,p n→(σ n).bd nx){x:SV}(hx:x.okN p):(x.sub σ).bd nx:=by
 cases x with
 |one x=>exact S1.sub_bd h hx
 |tup l=>intro y hy;obtain⟨z,hz,rfl⟩:=List.mem_map.1 hy;exact S1.sub_bd h (hx z hz)
 |opt g x=>exact fun _=>S1.sub_bd h hx
theorem Res.sub_bd{σ:Nat→At}{nx:Nat}{p:Nat→Prop}(h:∀n,p n→(σ n).bd nx){x:Res}(hx:x.okN p):(x.sub σ).bd nx:=by
 cases x with
 |cells E l=>intro y hy;obtain⟨z,hz,rfl⟩:=List.mem_map.1 hy;exact At.sub_bd h (hx z hz)
 |lit E sz m l=>intro y hy;obtain⟨z,hz,rfl⟩:=List.mem_map.1 hy;exact At.sub_bd h (hx z hz)
 |rocells l=>intro y hy;obtain⟨z,hz,rfl⟩:=List.mem_map.1 hy;exact At.sub_bd h (hx z hz)
 |view _ _ _ _=>exact hx.elim
 |fiter _ _ _=>exact hx.elim
 |arr _ _ _=>exact hx.elim
 |_=>trivial
theorem At.okN_bd{nx:Nat}{x:At}(hx:x.okN (·<nx)):x.bd nx:=by
 cases x with
 |clo f ms=>have:ms=[]:=hx;subst this;intro m hm;cases hm
 |_=>exact hx
theorem S1.okN_bd{nx:Nat}{x:S1}(hx:x.okN (·<nx)):x.bd nx:=by
 cases x with
 |a x=>exact At.okN_bd hx
 |agg l=>exact fun y hy=>At.okN_bd (hx y hy)
theorem Res.okN_bd{nx:Nat}{x:Res}(hx:x.okN (·<nx)):x.bd nx:=by
 cases x with
 |cells E l=>exact fun y hy=>At.okN_bd (hx y hy)
 |lit E sz m l=>exact fun y hy=>At.okN_bd (hx y hy)
 |rocells l=>exact fun y hy=>At.okN_bd (hx y hy)
 |view _ _ _ _=>exact hx.elim
 |fiter _ _ _=>exact hx.elim
 |arr _ _ _=>exact hx.elim
 |_=>trivial
theorem At.okN_mono{p q:Nat→Prop}(h:∀n,p n→q n){x:At}(hx:x.okN p):x.okN q:=by
 cases x<;>first|exact h _ hx|exact hx
theorem S1.okN_mono{p q:Nat→Prop}(h:∀n,p n→q n){x:S1}(hx:x.okN p):x.okN q:=by
 cases x with
 |a x=>exact At.okN_mono h hx
 |agg l=>exact fun y hy=>At.okN_mono h (hx y hy)
def roM(S:St)(m:Nat)(k:Kd)(l:List k.ty):Prop:=match S.find m with
 |some (.ro k' l')=>Yo k' k l'=some l
 |some (.row _ k' l')=>Yo k' k l'=some l
 |some (.lit _ z e cs)=>l.flatMap k.enc=cs∧l.length=e
 |some (.view m0 sz lo hi)=>sz=k.sz∧(match S.find m0 with
  |some (.ro k' l')=>(match Yo k' k l' with
   |some L=>lo≤hi∧hi≤L.length∧l=(L.take hi).drop lo
   |none=>False)
  |some (.row _ k' l')=>(match Yo k' k l' with
   |some L=>lo≤hi∧hi≤L.length∧l=(L.take hi).drop lo
   |none=>False)
  |_=>False)
 |_=>False
def roA(S:St)(k:Kd)(l:List k.ty):At→Prop
 |.ref m=>roM S m k l
 |.raw (.slice none 0 0)=>l=[]
 |_=>False
def Er(S:St):List At→List (List UInt8×List Ln)→Prop
 | [],[]=>True
 |.str s::x::cs,(s',ls)::l=>s=s'∧roA S .line ls x∧Er S cs l
 |_,_=>False
def Zgl(S:St)(m:Nat)(l:List (List UInt8×List Ln)):Prop:=match S.find m with
 |some (.rou l')=>l'=l
 |some (.urow _ _ l')=>l'=l
 |some (.lit _ z e cs)=>z=2∧Er S cs l∧l.length=e
 |_=>False
def Dc(σ:Nat→At)(S:St)(l:List At):At→Prop
 |.ref m=>(match S.find m with
  |some (.cells _ l')=>l'=l.map (At.sub σ)
  |some (.rocells l')=>l'=l.map (At.sub σ)
  |_=>False)
 |.loc m o=>(match S.find m with
  |some (.cells _ l')=>o+l.length≤l'.length∧(l'.drop o).take l.length=l.map (At.sub σ)
  |some (.rocells l')=>o+l.length≤l'.length∧(l'.drop o).take l.length=l.map (At.sub σ)
  |_=>False)
 |_=>False
def Ziy(S:St)(m:Nat)(r:Res):Prop:=match S.find m with
 |some (.smap P K E k f q)=>Res.rosmap P K E k f q=r
 |some (.rosmap P K E k f q)=>Res.rosmap P K E k f q=r
 |_=>False
def roR:List (Nat×Res)→List (Nat×Res)
 | []=>[]
 |(n,.cells _ l)::R=>(n,.rocells l)::roR R
 |(n,.row _ k l)::R=>(n,.ro k l)::roR R
 |(n,.lit _ _ _ _)::R=>roR R
 |(n,.smap P K E k f q)::R=>(n,.rosmap P K E k f q)::roR R
 |(n,.urow _ _ l)::R=>(n,.rou l)::roR R
 |(n,.fmap _)::R=>roR R
 |(n,.fiter _ _ _)::R=>roR R
 |p::R=>p::roR R
def Zal(P:Program)(R:List (Nat×Res))(nx f:Nat)(ms:List Nat)(g:List S1→Option SV):Prop:=
 Xu P f=true∧∃nt x rl,Body P f nt x rl∧∀aq r,g aq=some r→Sf aq∧r.bd 0∧aq.length+ms.length≤nt∧
  ∀w,T ⟨P,w,[],nt,[]⟩ x (Q6 ⟨P,w,[],nt,[]⟩ rl (Zfs r)) ⟨Y2 0 (aq++ms.map fun m=>.a (.loc m 0)),roR R,nx⟩
def fnM(P':Program)(S:St)(P:Program)(g:List S1→Option SV):At→Prop
 |.ref m=>S.find m=some (.fn P g)
 |.clo f ms=>P=P'∧(∀m∈ms,m<S.nx)∧Zal P S.res S.nx f ms g
 |.raw (.func (.func f) a b)=>P=P'∧(a= #[]∧b= #[])∧Zal P S.res S.nx f [] g
 |_=>False
def Jh(S:St)(r:Res):At→Prop
 |.ref m=>S.find m=some r
 |_=>False
def mtR(P':Program)(S Sd:St)(σ:Nat→At)(n:Nat):Res→Prop
 |.ro k l=>roA Sd k l (σ n)
 |.rocells l=>Dc σ Sd l (σ n)
 |.rou l=>(match σ n with|.ref m=>Zgl Sd m l|.raw (.slice none 0 0)=>l=[]|_=>False)
 |.rosmap P K E k f q=>(match σ n with|.ref m=>Ziy Sd m (.rosmap P K E k f q)|_=>False)
 |.fn P g=>fnM P' Sd P g (σ n)
 |.cells E l=>Jh S (.cells E (l.map (At.sub σ))) (σ n)
 |.lit E sz e l=>Jh S (.lit E sz e (l.map (At.sub σ))) (σ n)
 |.row E k l=>Jh S (.row E k l) (σ n)
 |.smap P K E k f q=>Jh S (.smap P K E k f q) (σ n)
 |.urow b E l=>Jh S (.urow b E l) (σ n)
 |.fmap l=>Jh S (.fmap l) (σ n)
 |_=>False
def Zbo(P':Program)(S Sd:St)(σ:Nat→At):List (Nat×Res)→Prop
 | []=>True
 |(n,r)::l=>mtR P' S Sd σ n r∧Zbo P' S Sd σ l
def Hd:At→Nat
 |.ref m=>m
 |_=>0
def Res.own:Res→Bool
 |.cells _ _=>true
 |.lit _ _ _ _=>true
 |.row _ _ _=>true
 |.smap _ _ _ _ _ _=>true
 |.urow _ _ _=>true
 |.fmap _=>true
 |.fiter _ _ _=>true
 |_=>false
def Res.outOk:Res→Bool
 |.cells _ _=>true
 |.lit _ _ _ _=>true
 |.row _ _ _=>true
 |.smap _ _ _ _ _ _=>true
 |.fmap _=>true
 |_=>false
def Vd(σ:Nat→At):List (Nat×Res)→List Nat
 | []=>[]
 |(n,r)::l=>bif r.own then(match σ n with|.ref m=>m::Vd σ l|_=>Vd σ l)else Vd σ l
theorem Bt{P':Program}{S Sd:St}{σ:Nat→At}:∀ {R:List (Nat×Res)} {n:Nat} {r:Res},Zbo P' S Sd σ R→(n,r)∈R→mtR P' S Sd σ n r
 |(m,s)::R,n,r,h,hm=>by
  rcases List.mem_cons.1 hm with e|hm
  ·cases e;exact h.1
  ·exact Bt h.2 hm
theorem Nl{σ:Nat→At}:∀ {R:List (Nat×Res)} {n m:Nat} {r:Res},(n,r)∈R→r.own=true→σ n= .ref m→m∈Vd σ R
 |(q,s)::R,n,m,r,hm,ho,hs=>by
  rcases List.mem_cons.1 hm with e|hm
  ·cases e;simp[Vd,ho,hs]
  ·have:=Nl (σ:=σ) hm ho hs
   simp only[Vd]
   cases s.own
   ·simpa using this
   ·simp only[cond_true];split<;>simp[this]
theorem Kr{σ:Nat→At}{p q:Nat×Res}{m:Nat}:∀ {R:List (Nat×Res)},(Vd σ R).Nodup→p∈R→q∈R→p.2.own=true→q.2.own=true→σ p.1= .ref m→σ q.1= .ref m→p=q:=by
 intro R
 induction R with
 |nil=>intro _ hp;cases hp
 |cons z R ih=>
  obtain⟨n,s⟩:=z
  intro hnd hp hq op oq sp sq
  have tl:(Vd σ R).Nodup:=by
   simp only[Vd]at hnd
   cases hs:s.own
   ·rw[hs]at hnd;exact hnd
   ·rw[hs]at hnd
    simp only[cond_true]at hnd
    split at hnd
    ·exact(List.nodup_cons.1 hnd).2
    ·exact hnd
  have hd:∀ {r:Nat×Res},r∈R→r.2.own=true→σ r.1= .ref m→s.own=true→σ n= .ref m→False:=fun {r} hr o1 s1 o2 s2=>by
   simp only[Vd,o2,s2,cond_true]at hnd
   exact(List.nodup_cons.1 hnd).1 (Nl (n:=r.1) (r:=r.2) hr o1 s1)
  rcases List.mem_cons.1 hp with e1|hp
  ·rcases List.mem_cons.1 hq with e2|hq
   ·rw[e1,e2]
   ·subst e1;exact(hd hq oq sq op sp).elim
  ·rcases List.mem_cons.1 hq with e2|hq
   ·subst e2;exact(hd hp op sp oq sq).elim
   ·exact ih tl hp hq op oq sp sq
def RoO(w:World)(O:List Nat)(v:Value)(k:Kd)(l:List k.ty):Prop:=
 ∃a cap,(v= .slice a l.length cap∧l.length≤cap)∧(a=none→l=[])∧∀ad:Addr,a=some ad→(l≠[]→ad.spot=none)∧∀(i:Nat) (x:k.ty),l[i]? =some x→∀(j:Nat) (u:At),(k.enc x)[j]? =some u→
  w.cell? ⟨ad.block,ad.off+(i*k.sz+j),none⟩=some (u.den X1)∧ad.block∉O
theorem RoO.nil(w:World)(O:List Nat)(k:Kd):RoO w O (.slice none 0 0) k []:=⟨none,0,⟨rfl,Nat.le_refl _⟩,fun _=>rfl,fun ad had=>by cases had⟩
theorem RoO.holds{w:World}{O:List Nat}{ρ:Env}{n:Nat}{k:Kd}{l:List k.ty}(h:RoO w O (ρ n) k l):(Res.ro k l).holds ρ O n w:=by
 obtain⟨a,cap,h1,h2,h3⟩:=h
 refine⟨a,cap,h1,h2,fun ad had=>⟨(h3 ad had).1,fun i x hx j u hu=> ?_⟩⟩
 rw[k.enc_at x X1 ρ hu]
 exact(h3 ad had).2 i x hx j u hu
theorem RoO.lns{w:World}{O:List Nat}{v:Value}{l:List Ln}(h:RoO w O v .line l):∃a cap,v= .slice a l.length cap∧l.length≤cap∧Te w O 0 a l:=by
 obtain⟨a,cap,h1,h2,h3⟩:=h
 exact⟨a,cap,h1.1,h1.2,h2,fun ad had=>⟨(h3 ad had).1,fun j y hy q u hu=>let⟨g1,g2⟩:=(h3 ad had).2 j y hy q u hu;⟨g1,g2,Nat.zero_le _⟩⟩⟩
theorem RoO.cast{w:World}{O:List Nat}{v:Value}{k' k:Kd}{l':List k'.ty}{l:List k.ty}(h:Yo k' k l'=some l)(hr:RoO w O v k' l'):RoO w O v k l:=by
 cases k'<;>cases k<;>simp only[Yo,reduceCtorEq,Option.some.injEq]at h<;>(try(subst h;exact hr))
 rename_i a b
 split at h
 ·rename_i e;cases e;cases h;exact hr
 ·cases h
theorem RoO.view{w:World}{O:List Nat}{v v':Value}{k:Kd}{L:List k.ty}{lo hi:Nat}(h:RoO w O v k L)(h1:lo≤hi)(h2:hi≤L.length){ad ad':Option Addr}{len cap:Nat}(hv:v= .slice ad len cap)(hv':v'= .slice ad' (hi-lo) (cap-lo))
 (hsp:lo<hi→∀x,ad'=some x→x.spot=none)(ha:lo<cap→ad'=ad.map (·.add (lo*k.sz))):RoO w O v' k ((L.take hi).drop lo):=by
 obtain⟨a,cap2,⟨g1,g2⟩,g3,g4⟩:=h
 rw[hv]at g1;cases g1
 have hlen:((L.take hi).drop lo).length=hi-lo:=by simp;omega
 have hlt:∀i x,((L.take hi).drop lo)[i]? =some x→i<hi-lo:=fun i x hx=>by have:=(List.getElem?_eq_some_iff.1 hx).1;omega
 refine⟨ad',cap-lo,⟨by rw[hlen];exact hv',by omega⟩,fun hn=> ?_,fun x hx=>⟨fun hne=>hsp (by have:=List.length_pos_iff.2 hne;omega) x hx,fun i y hy j u hu=> ?_⟩⟩
 ·apply List.eq_nil_of_length_eq_zero
  rw[hlen]
  by_cases hc:lo<cap
  ·have:=ha hc
   rw[hn]at this
   cases ad with
   |none=>have:=g3 rfl;rw[this]at h2;simp at h2;omega
   |some z=>cases this
  ·omega
 ·have hi1:=hlt i y hy
  have hc:lo<cap:=by omega
  have hax:=ha hc
  cases ad with
  |none=>rw[hx]at hax;cases hax
  |some z=>
   rw[hx]at hax
   obtain⟨s1,s2⟩:=g4 z rfl
   have s1:=s1 (fun e=>by rw[e]at h2;simp at h2;omega)
   obtain⟨zb,zo,zs⟩:=z
   simp only at s1;subst s1
   simp only[Option.map_some,Option.some.injEq,Addr.add_lit]at hax
   subst hax
   have hL:L[lo+i]? =some y:=by
    rw[List.getElem?_drop,List.getElem?_take]at hy
    split at hy
    ·exact hy
    ·cases hy
   have:=s2 (lo+i) y hL j u hu
   simp only at this ⊢
   rw[show zo+lo*k.sz+(i*k.sz+j)=zo+((lo+i)*k.sz+j) by rw[Nat.add_mul];omega]
   exact this
section
variable {c:Cx} {S:St} {ρ:Env} {w:World} {ds O:List Nat}
theorem Uy(hm:Mem c ρ S.res S.nx w)(hO:∀b∈O,∃m r,(m,r)∈S.res∧m∈ds∧r.block ρ m=some b){m b:Nat}{r:Res}(h:(m,r)∈del S.res ds)(hb:r.block ρ m=some b):b∉O:=fun hbO=>by
 obtain⟨m',r',h1,h2,h3⟩:=hO b hbO
 exact Yh hm.keys hm.nodup h1 h2 h3 (List.mem_filterMap.2 ⟨(m,r),h,hb⟩)
theorem Ud(hO:∀b∈O,∃m r,(m,r)∈S.res∧m∈ds∧r.block ρ m=some b){b:Nat}(h:b∉Zp ρ S.res):b∉O:=fun hbO=>by
 obtain⟨m',r',h1,h2,h3⟩:=hO b hbO
 exact h (List.mem_filterMap.2 ⟨_,h1,h3⟩)
theorem Yq{R:List (Nat×Res)}{p:Nat×Res}(h:p∈del R ds):p∈R:=(List.mem_filter.1 h).1
theorem Zix(hm:Mem c ρ S.res S.nx w)(hO:∀b∈O,∃m r,(m,r)∈S.res∧m∈ds∧r.block ρ m=some b){m:Nat}{k:Kd}{l:List k.ty}(h:(m,Res.ro k l)∈del S.res ds):RoO w O (ρ m) k l:=by
 obtain⟨a,cap,h1,h2,h3⟩:=hm.res _ _ (Yq h)
 refine⟨a,cap,h1,h2,fun ad had=>⟨(h3 ad had).1,fun i x hx j u hu=> ?_⟩⟩
 obtain⟨g1,g2⟩:=(h3 ad had).2 i x hx j u hu
 rw[k.enc_at x ρ X1 hu]
 exact⟨g1,Ud hO g2⟩
theorem Db(hm:Mem c ρ S.res S.nx w)(hO:∀b∈O,∃m r,(m,r)∈S.res∧m∈ds∧r.block ρ m=some b){m E:Nat}{k:Kd}{l:List k.ty}(h:(m,Res.row E k l)∈del S.res ds):RoO w O (ρ m) k l:=by
 have hr:=Res.row_own (hm.res _ _ (Yq h))
 have hro:=Pv hr
 rcases hr.2 with⟨hv,hn⟩|⟨g,cap,cur,hv,_,hh,hn,_⟩
 ·have:l=[]:=List.eq_nil_of_length_eq_zero hn
  subst this
  rw[hv];exact RoO.nil w O k
 ·obtain⟨a,cap2,h1,h2,h3⟩:=hro
  refine⟨a,cap2,h1,h2,fun ad had=>⟨(h3 ad had).1,fun i x hx j u hu=>⟨(h3 ad had).2 i x hx j u hu,?_⟩⟩⟩
  rw[hv]at h1
  have:a=some ⟨g,0,none⟩:=by have:=h1.1;injection this with e1 _ _;exact e1.symm
  rw[this]at had;cases had
  exact Uy hm hO h (by simp[Res.block,hv,Value.ownBlock])
theorem roO_lit(hm:Mem c ρ S.res S.nx w)(hO:∀b∈O,∃m r,(m,r)∈S.res∧m∈ds∧r.block ρ m=some b){m E z e:Nat}{k:Kd}{cs:List At}{l:List k.ty}(h:(m,Res.lit E z e cs)∈del S.res ds)(hl:l.flatMap k.enc=cs)(he:l.length=e):RoO w O (ρ m) k l:=by
 have hr:=hm.res _ _ (Yq h)
 obtain⟨a,cap2,h1,h2,h3⟩:=Res.lit_ro hr hl he
 obtain⟨b,hv,_⟩:=hr
 refine⟨a,cap2,h1,h2,fun ad had=>⟨(h3 ad had).1,fun i x hx j u hu=>⟨(h3 ad had).2 i x hx j u hu,?_⟩⟩⟩
 rw[hv]at h1
 have:a=some ⟨b,0,none⟩:=by have:=h1.1;injection this with e1 _ _;exact e1.symm
 rw[this]at had;cases had
 exact Uy hm hO h (by simp[Res.block,hv,Value.ownBlock])
theorem roM_O(hm:Mem c ρ S.res S.nx w)(hO:∀b∈O,∃m r,(m,r)∈S.res∧m∈ds∧r.block ρ m=some b){m:Nat}{k:Kd}{l:List k.ty}(h:roM ⟨S.slots,del S.res ds,S.nx⟩ m k l):RoO w O (ρ m) k l:=by
 unfold roM at h
 split at h
 ·rename_i hf;exact(Zix hm hO (Yp hf)).cast h
 ·rename_i hf;exact(Db hm hO (Yp hf)).cast h
 ·rename_i hf;exact roO_lit hm hO (Yp hf) h.1 h.2
 ·rename_i m0 sz lo hi hf
  obtain⟨rfl,h⟩:=h
  obtain⟨ad,len,cap,ad',v1,v2,v3,v4,v5⟩:=hm.res _ _ (Yq (Yp hf))
  split at h
  ·rename_i hf0
   split at h
   ·rename_i L hL
    obtain⟨g1,g2,rfl⟩:=h
    exact((Zix hm hO (Yp hf0)).cast hL).view g1 g2 v1 v2 v4 v5
   ·exact h.elim
  ·rename_i hf0
   split at h
   ·rename_i L hL
    obtain⟨g1,g2,rfl⟩:=h
    exact((Db hm hO (Yp hf0)).cast hL).view g1 g2 v1 v2 v4 v5
   ·exact h.elim
  ·exact h.elim
 ·exact h.elim
theorem roA_O(hm:Mem c ρ S.res S.nx w)(hO:∀b∈O,∃m r,(m,r)∈S.res∧m∈ds∧r.block ρ m=some b){k:Kd}{l:List k.ty}{x:At}(h:roA ⟨S.slots,del S.res ds,S.nx⟩ k l x):RoO w O (x.den ρ) k l:=by
 unfold roA at h
 split at h
 ·exact roM_O hm hO h
 ·subst h;exact RoO.nil w O k
 ·exact h.elim
theorem Bg{S:St}:∀ {cs:List At} {l:List (List UInt8×List Ln)} {i:Nat} {x:List UInt8×List Ln},Er S cs l→l[i]? =some x→∃y,cs[i*2]? =some (.str x.1)∧cs[i*2+1]? =some y∧roA S .line x.2 y
 |.str s::y::cs,(s',ls)::l,0,x,h,hx=>by
  simp at hx;subst hx
  exact⟨y,by rw[h.1];rfl,rfl,h.2.1⟩
 |.str s::y::cs,(s',ls)::l,i+1,x,h,hx=>by
  obtain⟨z,h1,h2,h3⟩:=Bg h.2.2 (by simpa using hx)
  refine⟨z,?_,?_,h3⟩
  ·rw[show(i+1)*2=i*2+2 by omega];exact h1
  ·rw[show(i+1)*2+1=(i*2+1)+2 by omega];exact h2
 | [],[],_,_,_,hx=>by simp at hx
theorem Ziz(hm:Mem c ρ S.res S.nx w)(hO:∀b∈O,∃m r,(m,r)∈S.res∧m∈ds∧r.block ρ m=some b){m:Nat}{l:List (List UInt8×List Ln)}(h:Zgl ⟨S.slots,del S.res ds,S.nx⟩ m l){ρ':Env}{n:Nat}(hn:ρ' n=ρ m):(Res.rou l).holds ρ' O n w:=by
 have sub:∀ {base:Nat} {a1:Option Addr} {ls:List Ln},Te w (Zp ρ S.res) base a1 ls→Te w O 0 a1 ls:=fun h=>⟨h.1,fun ad1 had1=>⟨(h.2 ad1 had1).1,fun j y hy q u hu=>let⟨h1,h2,h3⟩:=(h.2 ad1 had1).2 j y hy q u hu;⟨h1,Ud hO h2,Nat.zero_le _⟩⟩⟩
 unfold Zgl at h
 split at h
 ·rename_i hf
  subst h
  obtain⟨a,cap,h1,h2,h3⟩:=hm.res _ _ (Yq (Yp hf))
  refine⟨a,cap,by rw[hn];exact h1,h2,fun ad had=>⟨(h3 ad had).1,fun i x hx=> ?_⟩⟩
  obtain⟨g1,a1,cap1,g2,g3⟩:=(h3 ad had).2 i x hx
  exact⟨⟨g1.1,Ud hO g1.2⟩,a1,cap1,⟨⟨g2.1.1,Ud hO g2.1.2⟩,g2.2⟩,sub g3⟩
 ·rename_i base E l' hf
  subst h
  obtain⟨us,hlen,hown,h3⟩:=hm.res _ _ (Yq (Yp hf))
  have hro:=Pv (E:=E) (k:=.unt) (l:=us) hown
  obtain⟨a,cap,h1,h2,h4⟩:=hro
  refine⟨a,cap,by rw[hn,←hlen];exact h1,fun hn=>List.eq_nil_of_length_eq_zero (by rw[←hlen,h2 hn];rfl),fun ad had=>⟨fun hne=>(h4 ad had).1 (fun e=>hne (List.eq_nil_of_length_eq_zero (by rw[←hlen,e];rfl))),fun i x hx=> ?_⟩⟩
  have hi:i<us.length:=by rw[hlen];exact(List.getElem?_eq_some_iff.1 hx).1
  obtain⟨u,hu⟩:∃u,us[i]? =some u:=⟨us[i],by simp[hi]⟩
  obtain⟨g1,g2,g3⟩:=h3 i u x hu hx
  have hbO:ad.block∉O:=by
   rcases hown.2 with⟨hv,_⟩|⟨g,cp,cur,hv,_⟩
   ·rw[hv]at h1;have:=h1.1;injection this with e1 _ _;rw[had]at e1;cases e1
   ·rw[hv]at h1
    have:a=some ⟨g,0,none⟩:=by have:=h1.1;injection this with e1 _ _;exact e1.symm
    rw[this]at had;cases had
    exact Uy hm hO (Yp hf) (by simp[Res.block,hv,Value.ownBlock])
  have c0:=(h4 ad had).2 i u hu 0 (.str u.name) rfl
  have c1:=(h4 ad had).2 i u hu 1 (.raw (.slice u.la u.ln u.lc)) rfl
  simp only[Kd.sz,Nat.add_zero,At.den]at c0 c1
  rw[g1]at c0
  rw[g2.1]at c1
  exact⟨⟨c0,hbO⟩,u.la,u.lc,⟨⟨c1,hbO⟩,by rw[←g2.1];exact g2.2⟩,sub g3⟩
 ·rename_i E z e cs hf
  obtain⟨rfl,h1,h2⟩:=h
  obtain⟨b,hv,hlen,hb⟩:=hm.res _ _ (Yq (Yp hf))
  refine⟨some ⟨b,0,none⟩,e,by rw[hn,hv,h2];exact⟨rfl,Nat.le_refl _⟩,(fun h=>by cases h),fun ad had=> ?_⟩
  cases had
  refine⟨fun _=>rfl,fun i x hx=> ?_⟩
  obtain⟨y,g1,g2,g3⟩:=Bg h1 hx
  have hbO:b∉O:=Uy hm hO (Yp hf) (by simp[Res.block,hv,Value.ownBlock])
  obtain⟨a1,cap1,k1,k2,k3⟩:=(roA_O hm hO g3).lns
  refine⟨⟨?_,hbO⟩,a1,cap1,⟨⟨?_,hbO⟩,k2⟩,k3⟩
  ·rw[cell_of_row w b _ _ E (0,0) hb];simp[g1,At.den]
  ·rw[cell_of_row w b _ _ E (0,0) hb];simp[g2,k1]
 ·exact h.elim
theorem roR_mem(hm:Mem c ρ S.res S.nx w)(hO:∀b∈O,∃m r,(m,r)∈S.res∧m∈ds∧r.block ρ m=some b){w':World}(hk:Rg O w w')(P:Program)(nt:Nat):Mem ⟨P,w',[],nt,[]⟩ ρ (roR (del S.res ds)) S.nx w':=by
 have hnone:∀R:List (Nat×Res),Zp ρ (roR R)=[]:=by
  intro R
  induction R with
  |nil=>rfl
  |cons p R ih=>
   obtain⟨n,r⟩:=p
   cases r<;>simp only[roR]<;>first|exact ih|(unfold Zp at ih ⊢;rw[List.filterMap_cons];simpa[Res.block]using ih)
 have hfrom:∀(R:List (Nat×Res)) (n:Nat) (r':Res),(n,r')∈roR R→∃r,(n,r)∈R∧(n,r')∈roR [(n,r)]:=by
  intro R
  induction R with
  |nil=>intro n r' h;cases h
  |cons p R ih=>
   intro n r' h
   obtain⟨m,s⟩:=p
   have tail:(n,r')∈roR R→∃r,(n,r)∈(m,s)::R∧(n,r')∈roR [(n,r)]:=fun h=>by
    obtain⟨r,h1,h2⟩:=ih n r' h
    exact⟨r,List.mem_cons_of_mem _ h1,h2⟩
   cases s<;>simp only[roR]at h<;>first|exact tail h|exact(List.mem_cons.1 h).elim (fun e=>by cases e;exact⟨_,List.mem_cons_self ..,by simp[roR]⟩) tail
 have hkeys:∀R:List (Nat×Res),List.Sublist ((roR R).map Prod.fst) (R.map Prod.fst):=by
  intro R
  induction R with
  |nil=>exact List.Sublist.refl _
  |cons p R ih=>
   obtain⟨m,s⟩:=p
   cases s<;>simp only[roR,List.map_cons]<;>first|exact ih.cons_cons _|exact ih.cons _
 have hblk:∀ {b:Nat} {o:Obj},w.heap[b]? =some o→b∉O→w'.heap[b]? =some o:=fun h1 h2=>hk _ _ h1 h2
 have hcell:∀ {a:Addr} {v:Value},w.cell? a=some v→a.block∉O→w'.cell? a=some v:=fun h1 h2=>Po hk h1 h2
 refine⟨rfl,rfl,rfl,Nat.le_refl _,fun _ _ _=>rfl,hm.one,List.Nodup.sublist (hkeys _) (M3 hm.keys),?_,?_,by rw[hnone];exact List.nodup_nil,fun b hb=>by rw[hnone]at hb;cases hb⟩
 ·intro n r' hr'
  rw[hnone]
  obtain⟨r,h1,h2⟩:=hfrom _ n r' hr'
  have hh:=hm.res _ _ (Yq h1)
  have same:∀ {r:Res},r.holds ρ (Zp ρ S.res) n w→(n,r)∈S.res→(∀E l,r≠ .cells E l)→(∀E k l,r≠ .row E k l)→(∀E z e l,r≠ .lit E z e l)→(∀P K E k f q,r≠ .smap P K E k f q)→(∀b E l,r≠ .urow b E l)→(∀l,r≠ .fmap l)→(∀m q s,r≠ .fiter m q s)→r.holds ρ [] n w':=by
   intro r h hin n1 n2 n3 n4 n5 n6 n7
   refine Res.carry (nx:=S.nx) (ρ:=ρ) (O:=Zp ρ S.res) (D:=O) (fun _ _=>rfl) (hm.bdr _ _ hin).1 (hm.bdr _ _ hin).2 hk (fun b hb=> ?_) (fun b hb=> ?_) (fun b hb=>nomatch hb) h
   ·obtain⟨m',r',g1,g2,g3⟩:=hO b hb
    exact List.mem_filterMap.2 ⟨_,g1,g3⟩
   ·cases r<;>simp only[Res.block,reduceCtorEq]at hb
    ·exact absurd rfl (n1 _ _)
    ·exact absurd rfl (n2 _ _ _)
    ·exact absurd rfl (n3 _ _ _ _)
    ·exact absurd rfl (n4 _ _ _ _ _ _)
    ·exact absurd rfl (n5 _ _ _)
    ·exact absurd rfl (n6 _)
    ·exact absurd rfl (n7 _ _ _)
  cases r with
  |cells E l=>
   simp only[roR,List.mem_singleton,Prod.mk.injEq,true_and]at h2
   subst h2
   obtain⟨b,hv,hb⟩:=hh
   have hbO:b∉O:=Uy hm hO h1 (by simp[Res.block,hv])
   refine⟨⟨b,0,none⟩,hv,fun j u hu=>⟨?_,by simp⟩⟩
   rw[cell_of_row w' b _ _ E (0,0) (hblk hb hbO)]
   simp[hu]
  |row E k l=>
   simp only[roR,List.mem_singleton,Prod.mk.injEq,true_and]at h2
   subst h2
   obtain⟨a,cap,g1,g2,g3⟩:=Db hm hO h1
   exact RoO.holds ⟨a,cap,g1,g2,fun ad had=>⟨(g3 ad had).1,fun i x hx j u hu=>let⟨q1,q2⟩:=(g3 ad had).2 i x hx j u hu;⟨hcell q1 q2,by simp⟩⟩⟩
  |lit E z e l=>simp[roR]at h2
  |fmap l=>simp[roR]at h2
  |fiter m q seen=>simp[roR]at h2
  |smap P K E k f q=>
   simp only[roR,List.mem_singleton,Prod.mk.injEq,true_and]at h2
   subst h2
   obtain⟨b,es,clock,g1,g2,g3⟩:=hh
   exact⟨b,es,clock,g1,⟨hblk g2 (Uy hm hO h1 (by simp[Res.block,g1])),by simp⟩,g3⟩
  |urow base E l=>
   simp only[roR,List.mem_singleton,Prod.mk.injEq,true_and]at h2
   subst h2
   have hfind:Zo (del S.res ds) n=some (.urow base E l):=by
    have hkk:=M3 (ds:=ds) hm.keys
    clear hr' hfrom hnone hkeys
    generalize del S.res ds=R at h1 hkk
    induction R with
    |nil=>cases h1
    |cons p R ih=>
     obtain⟨m,s⟩:=p
     simp only[List.map_cons,List.nodup_cons]at hkk
     rcases List.mem_cons.1 h1 with e|h1
     ·cases e;simp[Zo]
     ·simp only[Zo]
      rw[if_neg (fun e=>hkk.1 (by rw[e];exact List.mem_map.2 ⟨_,h1,rfl⟩))]
      exact ih h1 hkk.2
   have:=Ziz hm hO (m:=n) (l:=l) (by unfold Zgl;simp[St.find,hfind]) (ρ':=ρ) (n:=n) rfl
   obtain⟨a,cap,g1,g2,g3⟩:=this
   refine⟨a,cap,g1,g2,fun ad had=>⟨(g3 ad had).1,fun i x hx=> ?_⟩⟩
   obtain⟨q1,a1,cap1,q2,q3⟩:=(g3 ad had).2 i x hx
   exact⟨⟨hcell q1.1 q1.2,by simp⟩,a1,cap1,⟨⟨hcell q2.1.1 q2.1.2,by simp⟩,q2.2⟩,⟨q3.1,fun ad1 had1=>⟨(q3.2 ad1 had1).1,fun j y hy q u hu=>let⟨z1,z2,z3⟩:=(q3.2 ad1 had1).2 j y hy q u hu;⟨hcell z1 z2,by simp,z3⟩⟩⟩⟩
  |_=>
   simp only[roR,List.mem_singleton,Prod.mk.injEq,true_and]at h2
   subst h2
   exact same hh (Yq h1) (by simp) (by simp) (by simp) (by simp) (by simp) (by simp) (by simp)
 ·intro n r' hr'
  obtain⟨r,h1,h2⟩:=hfrom _ n r' hr'
  have hb:=hm.bdr _ _ (Yq h1)
  refine⟨hb.1,?_⟩
  cases r<;>simp only[roR,List.mem_singleton,List.not_mem_nil,Prod.mk.injEq,true_and]at h2<;>(try(subst h2;first|exact hb.2|trivial))
end
@[reducible] def Bnd:=List (Nat×At)
def Tf:At→At→Bnd→Bnd
 |.ref n,x,b=>(n,x)::b
 |.loc n 0,.loc m 0,b=>(n,.ref m)::b
 |.loc n 0,x,b=>(n,x)::b
 |_,_,b=>b
def Uo:List At→List At→Bnd→Bnd
 |x::l,y::m,b=>Uo l m (Tf x y b)
 |_,_,b=>b
def Rd:S1→S1→Bnd→Bnd
 |.a x,.a y,b=>Tf x y b
 |.agg l,.agg m,b=>Uo l m b
 |_,_,b=>b
def Vo:List S1→List S1→Bnd→Bnd
 |x::l,y::m,b=>Vo l m (Rd x y b)
 |_,_,b=>b
def Qe:SV→SV→Bnd→Bnd
 |.one x,.one y,b=>Rd x y b
 |.tup l,.tup m,b=>Vo l m b
 |.opt _ x,.opt _ y,b=>Rd x y b
 |_,_,b=>b
def X5(S:St)(r:Res)(x:Option At)(b:Bnd):Bnd:=
 match r,x with
 |.cells _ cs,some (.ref m)=>(match S.find m with
  |some (.cells _ cs')=>Uo cs cs' b
  |_=>b)
 |.lit _ _ _ cs,some (.ref m)=>(match S.find m with
  |some (.lit _ _ _ cs')=>Uo cs cs' b
  |_=>b)
 |.rocells cs,some (.ref m)=>(match S.find m with
  |some (.cells _ cs')=>Uo cs cs' b
  |some (.rocells cs')=>Uo cs cs' b
  |_=>b)
 |.rocells cs,some (.loc m o)=>(match S.find m with
  |some (.cells _ cs')=>Uo cs (cs'.drop o) b
  |some (.rocells cs')=>Uo cs (cs'.drop o) b
  |_=>b)
 |_,_=>b
def Tt(S:St):List (Nat×Res)→Bnd→Bnd
 | [],b=>b
 |(n,r)::l,b=>Tt S l (X5 S r (Zo b n) b)
def Ij(S:St):Nat→List Nat→Bnd→Bnd
 |_,[],b=>b
 |i,k::l,b=>Ij S (i+1) l (match S.get i with
  |some (.one (.a x))=>(k,x)::b
  |_=>b)
def sg(b:Bnd)(n:Nat):At:=match Zo b n with
 |some (.raw v)=>if v.oneCell'=true then .raw v else .raw Yz
 |some x=>x
 |none=>.raw Yz
theorem Zi2(b:Bnd)(n:Nat){ρ:Env}(h:∀n,(ρ n).oneCell'=true):((sg b n).den ρ).oneCell'=true:=by
 unfold sg
 split
 ·split
  ·assumption
  ·rfl
 ·rename_i x hx hl
  cases x with
  |raw v=>exact absurd rfl (hx v)
  |ref m=>exact h m
  |loc m o=>exact Bi _ _
  |elt m sz i j=>exact Cq _ _
  |_=>rfl
 ·rfl
def Zw(p:Nat→Prop):List S1→Prop
 | []=>True
 |x::l=>x.okN p∧Zw p l
def Zv(p:Nat→Prop):List (Nat×Res)→Prop
 | []=>True
 |(n,r)::l=>(p n∧r.okN p)∧Zv p l
def Zj:List (Nat×Res)→Bool
 | []=>true
 |(_,r)::l=>r.outOk&&Zj l
def Zf(R:List (Nat×Res)):List Nat→Prop
 | []=>True
 |k::l=>(match Zo R k with|some r=>r.own=true|none=>False)∧Zf R l
theorem Ic{p:Nat→Prop}:∀ {l:List S1},Zw p l→∀x∈l,x.okN p
 |y::l,h,x,hx=>by
  rcases List.mem_cons.1 hx with rfl|hx
  ·exact h.1
  ·exact Ic h.2 x hx
theorem Xp{p:Nat→Prop}:∀ {l:List (Nat×Res)},Zv p l→∀n r,(n,r)∈l→p n∧r.okN p
 |(m,s)::l,h,n,r,hx=>by
  rcases List.mem_cons.1 hx with e|hx
  ·cases e;exact h.1
  ·exact Xp h.2 n r hx
theorem Rj:∀ {l:List (Nat×Res)},Zj l=true→∀n r,(n,r)∈l→r.outOk=true
 |(m,s)::l,h,n,r,hx=>by
  simp only[Zj,Bool.and_eq_true]at h
  rcases List.mem_cons.1 hx with e|hx
  ·cases e;exact h.1
  ·exact Rj h.2 n r hx
theorem Tv{R:List (Nat×Res)}:∀ {l:List Nat},Zf R l→∀n∈l,∃r,(n,r)∈R∧r.own=true
 |k::l,h,n,hn=>by
  rcases List.mem_cons.1 hn with rfl|hn
  ·have:=h.1
   split at this
   ·rename_i r hr;exact⟨r,Yp hr,this⟩
   ·exact this.elim
  ·exact Tv h.2 n hn
theorem Zgd{r:Res}(h:r.outOk=true):r.own=true:=by cases r<;>simp_all[Res.outOk,Res.own]
def Zu(args:List S1)(R:List (Nat×Res))(nx:Nat)(keep:List Nat)(v:SV)(R':List (Nat×Res))(nx':Nat):Prop:=
 Zw (fun n=>n<nx) args∧Zv (fun n=>n<nx) R∧(R.map Prod.fst).Nodup∧Zf R keep∧v.okN (fun n=>(n∈keep∨nx≤n)∧n<nx')∧Zv (fun n=>(n∈keep∨nx≤n)∧n<nx') R'∧(R'.map Prod.fst).Nodup∧Zj R'=true∧nx≤nx'
structure GC (P:Program) (f:Nat) (args:List S1) (R:List (Nat×Res)) (nx:Nat) (keep:List Nat) (v:SV) (R':List (Nat×Res)) (nx':Nat):Prop where
 wf:Zu args R nx keep v R' nx'
 run:∀ρ w,Mem ⟨P,w,Zp ρ R,0,[]⟩ ρ R nx w→Calls P f (args.map (S1.den ρ)).toArray w fun e w'=>∃ρ',(∀n∈keep,ρ' n=ρ n)∧e= .returned (v.den ρ')∧Mem ⟨P,w,Zp ρ R,0,[]⟩ ρ' R' nx' w'
def Wb(G:Nat)(H:Nat→Option Obj)(w:World)(X:List Nat):Prop:=G≤w.heap.size∧(∀b,b<G→w.heap[b]? =H b)∧∀b∈X,G≤b
theorem Wb.zero(H:Nat→Option Obj)(w:World)(X:List Nat):Wb 0 H w X:=⟨Nat.zero_le _,fun b hb=>by omega,fun b _=>Nat.zero_le _⟩
structure GCp (G:Nat) (H:Nat→Option Obj) (P:Program) (f:Nat) (args:List S1) (R:List (Nat×Res)) (nx:Nat) (keep:List Nat) (v:SV) (R':List (Nat×Res)) (nx':Nat):Prop where
 wf:Zu args R nx keep v R' nx'
 run:∀ρ w,Mem ⟨P,w,Zp ρ R,0,[]⟩ ρ R nx w→Wb G H w (Zp ρ R)→Calls P f (args.map (S1.den ρ)).toArray w fun e w'=>∃ρ',(∀n∈keep,ρ' n=ρ n)∧e= .returned (v.den ρ')∧Mem ⟨P,w,Zp ρ R,0,[]⟩ ρ' R' nx' w'
theorem GC.gcp{G:Nat}{H:Nat→Option Obj}{P:Program}{f:Nat}{args:List S1}{R:List (Nat×Res)}{nx:Nat}{keep:List Nat}{v:SV}{R':List (Nat×Res)}{nx':Nat}(h:GC P f args R nx keep v R' nx'):GCp G H P f args R nx keep v R' nx':=
 ⟨h.wf,fun ρ w hm _=>h.run ρ w hm⟩
theorem GCp.gc{H:Nat→Option Obj}{P:Program}{f:Nat}{args:List S1}{R:List (Nat×Res)}{nx:Nat}{keep:List Nat}{v:SV}{R':List (Nat×Res)}{nx':Nat}(h:GCp 0 H P f args R nx keep v R' nx'):GC P f args R nx keep v R' nx':=
 ⟨h.wf,fun ρ w hm=>h.run ρ w hm (Wb.zero H w _)⟩
theorem Mem.cx{P:Program}{w0 w:World}{X:List Nat}{nt nt':Nat}{fr fr':List Value}{ρ:Env}{R:List (Nat×Res)}{nx:Nat}(h:Mem ⟨P,w0,X,nt,fr⟩ ρ R nx w):Mem ⟨P,w0,X,nt',fr'⟩ ρ R nx w:=
 ⟨h.os,h.tape,h.output,h.size,h.block,h.one,h.keys,h.res,h.bdr,h.nodup,h.lt⟩
theorem Zer{σ:Nat→At}{ρ ρ':Env}{O O':List Nat}{n m:Nat}{w:World}{r:Res}{p:Nat→Prop}(hσ:∀n,p n→(σ n).den ρ=ρ' n)(hn:ρ' n=ρ m)(hok:r.okN p)(ho:r.own=true)(hO:∀b∈O',b∈O)
 (h:(r.sub σ).holds ρ O m w):r.holds ρ' O' n w:=by
 cases r<;>simp only[Res.own,Bool.false_eq_true]at ho
 case cells E l=>
  obtain⟨b,h1,h2⟩:=h
  exact⟨b,by rw[hn];exact h1,by rw[←Tx hσ hok];exact h2⟩
 case lit E sz e l=>
  obtain⟨b,h1,h2,h3⟩:=h
  exact⟨b,by rw[hn];exact h1,by simpa using h2,by rw[←Tx hσ hok];exact h3⟩
 case row E k l=>
  simp only[Res.sub,Res.holds]at h ⊢
  rw[hn,k.encs_den l ρ ρ'];exact h
 case smap P K E k f q=>
  simp only[Res.sub,Res.holds]at h ⊢
  rw[hn];exact h
 case urow base E l=>
  obtain⟨us,h1,h2,h3⟩:=h
  exact⟨us,h1,by rw[hn];exact h2,fun i u x hu hx=>⟨(h3 i u x hu hx).1,(h3 i u x hu hx).2.1,(h3 i u x hu hx).2.2.sub hO⟩⟩
 case fmap l=>
  obtain⟨b,h1,h2⟩:=h
  exact⟨b,by rw[hn];exact h1,h2⟩
 case fiter m q seen=>exact hok.elim
theorem Lw{σ:Nat→At}{ρ ρ':Env}{n m:Nat}{r:Res}(hn:ρ' n=ρ m):(r.sub σ).block ρ m=r.block ρ' n:=by
 cases r<;>simp only[Res.sub,Res.block,hn]
theorem Qz{ρ:Env}{n b:Nat}{r:Res}(h:r.block ρ n=some b):r.own=true:=by
 cases r<;>simp_all[Res.block,Res.own]
def frS:Nat→List Nat→List (Nat×SV)
 |_,[]=>[]
 |i,k::l=>(i,.one (.a (.ref k)))::frS (i+1) l
def I6(S:St)(τ:Nat→At):Nat→List Nat→Prop
 |_,[]=>True
 |i,k::l=>(match τ k with|.ref m=>S.get i=some (.one (.a (.ref m)))|_=>False)∧I6 S τ (i+1) l
def P6(S:St)(τ:Nat→At)(r:Res):At→Prop
 |.ref m=>S.find m=some (r.sub τ)
 |.raw (.slice none 0 0)=>(match r with|.row _ _ l=>l=[]|_=>False)
 |_=>False
def I0(S:St)(τ:Nat→At):List (Nat×Res)→Prop
 | []=>True
 |(n,r)::l=>P6 S τ r (τ n)∧I0 S τ l
theorem L5{S:St}{τ:Nat→At}:∀ {l:List (Nat×Res)},I0 S τ l→∀n r,(n,r)∈l→P6 S τ r (τ n)
 |(m,s)::l,h,n,r,hx=>by
  rcases List.mem_cons.1 hx with e|hx
  ·cases e;exact h.1
  ·exact L5 h.2 n r hx
def endP(keep:List Nat)(v:SV)(R':List (Nat×Res))(u:SV)(S:St)(τ:Nat→At):Prop:=
 u=v.sub τ∧I6 S τ 1000000 keep∧I0 S τ R'∧(Vd τ R').Nodup
def Ct(keep:List Nat)(v:SV)(R':List (Nat×Res))(u:SV)(S:St):Prop:=
 endP keep v R' u S (sg (Tt S R' (Qe v u (Ij S 1000000 keep []))))
theorem Zee:∀ {l:List Nat} {i t:Nat} {v:SV},Zo (frS i l) t=some v→∃j k,t=i+j∧l[j]? =some k∧v= .one (.a (.ref k))
 |k::l,i,t,v,h=>by
  rcases look_cons h with⟨rfl,rfl⟩|⟨_,h⟩
  ·exact⟨0,k,rfl,rfl,rfl⟩
  ·obtain⟨j,q,h1,h2,h3⟩:=Zee h
   exact⟨j+1,q,by omega,h2,h3⟩
theorem Fc{S:St}{τ:Nat→At}:∀ {l:List Nat} {i j k:Nat},I6 S τ i l→l[j]? =some k→∃m,τ k= .ref m∧S.get (i+j)=some (.one (.a (.ref m)))
 |q::l,i,0,k,h,hj=>by
  simp at hj;subst hj
  have:=h.1
  split at this
  ·rename_i m hm;exact⟨m,hm,this⟩
  ·exact this.elim
 |q::l,i,j+1,k,h,hj=>by
  obtain⟨m,h1,h2⟩:=Fc h.2 (by simpa using hj)
  exact⟨m,h1,by rw[←h2];congr 1;omega⟩
theorem look_append{α:Type}{l m:List (Nat×α)}{t:Nat}{v:α}(h:Zo (l++m) t=some v):Zo l t=some v∨Zo m t=some v:=by
 induction l with
 |nil=>exact .inr h
 |cons p l ih=>
  rcases look_cons h with⟨rfl,rfl⟩|⟨hne,h⟩
  ·left;simp[Zo]
  ·rcases ih h with h1|h1
   ·left;simp only[Zo];rw[if_neg hne];exact h1
   ·exact .inr h1
theorem Body.callsF{P:Program}{f nt:Nat}{x:IC}{rl:List RV}(hF:Body P f nt x rl){w:World}{X:List Nat}{fr:List Value}{args:Array Value}{S:St}{ρ:Env}{R:SV→St→Prop}{Post:Ending→World→Prop}
 (hlen:args.size≤nt)(hs:∀t v,S.get t=some v→(if t<BIG then args[t]? else fr[t-BIG]?)=some (v.den ρ)∧v.bd S.nx)(hm:Mem ⟨P,w,X,nt,fr⟩ ρ S.res S.nx w)(hT:T ⟨P,w,X,nt,fr⟩ x (Q6 ⟨P,w,X,nt,fr⟩ rl R) S)
 (hpost:∀v S' ρ' w',R v S'→v.bd S'.nx→Mem ⟨P,w,X,nt,fr⟩ ρ' S'.res S'.nx w'→(∀t u,S'.get t=some u→BIG≤t→fr[t-BIG]? =some (u.den ρ'))→Post (.returned (v.den ρ')) w'):Calls P f args w Post:=by
 obtain⟨fn,code,h1,h2,h3,h4,h5⟩:=hF.ok
 refine calls_of_wp h1 h2 ?_
 have hh:S.holds ⟨P,w,X,nt,fr⟩ ρ {tmps:=args++Array.replicate (fn.ntmps-args.size) undef,defers:=[]} w:=by
  refine⟨rfl,by simp[h3];omega,hF.lown,fun t v hv=> ?_,fun t v hv=>(hs t v hv).2,hm⟩
  have:=(hs t v hv).1
  unfold N1
  split
  rotate_left
  ·rename_i hb;rwa [if_neg hb]at this
  rename_i hb
  rw[if_pos hb]at this
  have hlt:t<args.size:=(Array.getElem?_eq_some_iff.1 this).1
  rw[Array.getElem?_append_left hlt];exact this
 refine wp_mono (hT ρ _ w hh code h4) fun e a' w' hl=> ?_
 obtain⟨S',ρ',g1,g2⟩:=hl
 have fin:(match rvs S' rl with|some vs=>R (Hj vs) S'|none=>False)→a'.defers=[]∧∃v,(results fn a'.tmps).run P w'= .ok v w'∧Post (.returned v) w':=by
  intro h
  split at h
  ·rename_i vs hvs
   obtain⟨r1,r2⟩:=Nz g1 h5 hvs
   refine⟨g1.nodef,_,r1,hpost _ _ _ _ h r2 g1.mem fun t u hu hb=> ?_⟩
   have:=g1.slot t u hu
   unfold N1 at this
   rwa [if_neg (by omega)]at this
  ·exact h.elim
 cases e with
 |normal=>exact fin g2
 |ret=>exact fin g2
 |_=>exact g2.elim
theorem Body.gcp{G:Nat}{H:Nat→Option Obj}{P:Program}{f nt:Nat}{x:IC}{rl:List RV}(hF:Body P f nt x rl){args:List S1}{R:List (Nat×Res)}{nx:Nat}{keep:List Nat}{v:SV}{R':List (Nat×Res)}{nx':Nat}
 (hlen:args.length≤nt)(hwf:Zu args R nx keep v R' nx')
 (hT:∀w X fr,Wb G H w X→T ⟨P,w,X,nt,fr⟩ x (Q6 ⟨P,w,X,nt,fr⟩ rl (Ct keep v R')) ⟨Y2 0 args++frS 1000000 keep,R,nx⟩):GCp G H P f args R nx keep v R' nx':=by
 refine⟨hwf,fun ρ w hm hglob=> ?_⟩
 obtain⟨w1,w2,w3,w4,w5,w6,w7,w8,w9⟩:=hwf
 refine hF.callsF (S:=⟨Y2 0 args++frS 1000000 keep,R,nx⟩) (ρ:=ρ) (X:=Zp ρ R) (fr:=keep.map ρ) (R:=Ct keep v R') (by simpa using hlen) (fun t u hu=> ?_) hm.cx (hT _ _ _ hglob) fun u S' ρ' w' hend hub hm' hfr=> ?_
 ·rcases look_append hu with hu|hu
  ·obtain⟨j,h1,h2,h3⟩:=Si (ρ:=ρ) (nx:=nx) (fun v hv=>S1.okN_bd (Ic w1 v hv)) hu
   simp only[Nat.zero_add]at h1
   subst h1
   have hjl:t<BIG:=by
    have:=(List.getElem?_eq_some_iff.1 h2).1
    have h4:=hF.lown
    simp only[List.length_map]at this
    omega
   exact⟨by rw[if_pos hjl];simpa using h2,h3⟩
  ·obtain⟨j,k,h1,h2,rfl⟩:=Zee hu
   obtain⟨r,h3,_⟩:=Tv w4 k (List.mem_of_getElem? h2)
   refine⟨?_,(Xp w2 k r h3).1⟩
   have hb:¬t<BIG:=by show¬t<1000000;omega
   rw[if_neg hb]
   have:t-BIG=j:=by show t-1000000=j;omega
   rw[this,List.getElem?_map,h2];rfl
 ·obtain⟨e1,e2,e3,e4⟩:=hend
  generalize hτ:sg (Tt S' R' (Qe v u (Ij S' 1000000 keep [])))=τ at e1 e2 e3 e4
  have hone:∀n,((τ n).den ρ').oneCell'=true:=fun n=>by rw[←hτ];exact Zi2 _ n hm'.one
  have hT:∀n,True→(τ n).den ρ'=(fun n=>(τ n).den ρ') n:=fun n _=>rfl
  have hok:∀n r,(n,r)∈R'→r.okN fun _=>True:=fun n r hr=>by
   have:=(Xp w6 n r hr).2
   have hout:=Rj w8 n r hr
   cases r<;>simp only[Res.outOk,Bool.false_eq_true]at hout<;>first|trivial|exact fun y hy=>At.okN_mono (fun _ _=>trivial) (this y hy)
  have hown:∀n r b,(n,r)∈R'→r.block (fun n=>(τ n).den ρ') n=some b→∃m,τ n= .ref m∧(m,r.sub τ)∈S'.res∧(r.sub τ).block ρ' m=some b:=fun n r b hr hb=>by
   have h1:=L5 e3 n r hr
   unfold P6 at h1
   split at h1
   ·rename_i m hm2
    refine⟨m,hm2,Zg h1,?_⟩
    rw[Lw (ρ':=fun n=>(τ n).den ρ') (n:=n) (by simp only[hm2,At.den])]
    exact hb
   ·rename_i hm2
    split at h1
    ·simp only[Res.block,hm2,At.den,Value.ownBlock]at hb;cases hb
    ·exact h1.elim
   ·exact h1.elim
  have hsub:∀b∈Zp (fun n=>(τ n).den ρ') R',b∈Zp ρ' S'.res:=fun b hb=>by
   obtain⟨p,hp,hpb⟩:=List.mem_filterMap.1 hb
   obtain⟨m,h1,h2,h3⟩:=hown p.1 p.2 b hp hpb
   exact List.mem_filterMap.2 ⟨_,h2,h3⟩
  refine⟨fun n=>(τ n).den ρ',fun n hn=> ?_,?_,hm'.os,hm'.tape,hm'.output,hm'.size,hm'.block,hone,w7,fun n r hr=> ?_,fun n r hr=> ?_,?_,fun b hb=>hm'.lt b (hsub b hb)⟩
  ·obtain⟨j,hj⟩:=List.getElem?_of_mem hn
   obtain⟨m,h1,h2⟩:=Fc e2 hj
   have:=hfr _ _ h2 (by show 1000000≤1000000+j;omega)
   have h4:1000000+j-BIG=j:=by show 1000000+j-1000000=j;omega
   rw[h4,List.getElem?_map,hj]at this
   simp only[Option.map_some,Option.some.injEq,SV.den,S1.den,At.den]at this
   simp only[h1,At.den]
   exact this.symm
  ·rw[e1]
   congr 1
   refine SV.sub_den (p:=fun n=>(n∈keep∨nx≤n)∧n<nx') (fun n _=>rfl) w5
  ·have h1:=L5 e3 n r hr
   unfold P6 at h1
   split at h1
   ·rename_i m hm2
    exact Zer (p:=fun _=>True) hT (by simp only[hm2,At.den]) (hok n r hr) (Zgd (Rj w8 n r hr)) hsub (hm'.res _ _ (Zg h1))
   ·rename_i hm2
    split at h1
    ·rename_i E k l
     subst h1
     simp only[Res.holds,hm2,At.den]
     exact World.ownsRow_nil w' 0 E k.sz
    ·exact h1.elim
   ·exact h1.elim
  ·obtain⟨h1,h2⟩:=Xp w6 n r hr
   refine⟨h1.2,?_⟩
   have hout:=Rj w8 n r hr
   cases r<;>simp only[Res.outOk,Bool.false_eq_true]at hout<;>first|trivial|exact fun y hy=>At.okN_bd (At.okN_mono (fun _ h=>h.2) (h2 y hy))
  ·have key:∀(l:List (Nat×Res)),(∀p∈l,p∈R')→(l.map Prod.fst).Nodup→(Zp (fun n=>(τ n).den ρ') l).Nodup:=by
    intro l
    induction l with
    |nil=>intro _ _;exact List.nodup_nil
    |cons p l ih=>
     intro hin hnd
     simp only[List.map_cons,List.nodup_cons]at hnd
     have ih':=ih (fun q hq=>hin q (by simp[hq])) hnd.2
     unfold Zp
     rw[List.filterMap_cons]
     split
     ·exact ih'
     ·rename_i b hb
      refine List.nodup_cons.2 ⟨fun hmem2=> ?_,ih'⟩
      obtain⟨q,hq,hqb⟩:=List.mem_filterMap.1 hmem2
      obtain⟨m1,a1,a2,a3⟩:=hown p.1 p.2 b (hin p (by simp)) hb
      obtain⟨m2,b1,b2,b3⟩:=hown q.1 q.2 b (hin q (by simp[hq])) hqb
      have hne:m2≠m1:=fun e=>by
       have:=Kr e4 (hin p (by simp)) (hin q (by simp[hq])) (Qz hb) (Qz hqb) a1 (e▸b1)
       exact hnd.1 (by rw[this];exact List.mem_map.2 ⟨q,hq,rfl⟩)
      have h5:=Yh (ds:=[m1]) hm'.keys hm'.nodup a2 (by simp) a3
      exact h5 (List.mem_filterMap.2 ⟨_,List.mem_filter.2 ⟨b2,by simp[hne]⟩,b3⟩)
   exact key R' (fun _ h=>h) w7
theorem Body.gc{P:Program}{f nt:Nat}{x:IC}{rl:List RV}(hF:Body P f nt x rl){args:List S1}{R:List (Nat×Res)}{nx:Nat}{keep:List Nat}{v:SV}{R':List (Nat×Res)}{nx':Nat}
 (hlen:args.length≤nt)(hwf:Zu args R nx keep v R' nx')
 (hT:∀w X fr,T ⟨P,w,X,nt,fr⟩ x (Q6 ⟨P,w,X,nt,fr⟩ rl (Ct keep v R')) ⟨Y2 0 args++frS 1000000 keep,R,nx⟩):GC P f args R nx keep v R' nx':=
 GCp.gc (H:=fun _=>none) (hF.gcp hlen hwf fun w X fr _=>hT w X fr)
theorem GCp.plain{G:Nat}{H:Nat→Option Obj}{P:Program}{f:Nat}{args:List S1}{v:SV}(hb:∀x∈args,x.bd 0)(hv:v.bd 0)(hwf:Zu args [] 0 [] v [] 0)
 (h:∀w,Wb G H w []→Calls P f (args.map (S1.den X1)).toArray w fun e w'=>e= .returned (v.den X1)∧Below w.heap.size w w'):GCp G H P f args [] 0 [] v [] 0:=
 ⟨hwf,fun ρ w hm hg=>by
   rw[Oz (ρ:=ρ) hb]
   exact(h w hg).mono fun e w' ⟨he,hbl⟩=>⟨ρ,(fun n hn=>nomatch hn),by rw[he,SV.den_same (nx:=0) (ρ:=X1) (ρ':=ρ) (fun n hn=>by omega) hv],hm.below hbl⟩⟩
end Vc
end Go.Proofs.YtddmlennnmpnhaaGreatDoor
