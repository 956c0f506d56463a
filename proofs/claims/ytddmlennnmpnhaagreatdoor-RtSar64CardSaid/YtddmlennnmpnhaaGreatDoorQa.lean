/- A part of the proofs of this seat's laws: steps on the way, joined. It has no conditions of its own. -/
import Derived.WalkKit
import Derived.WalkSpells
import Derived.WalkLawsBesides
import Derived.Deep.Quiet
import Derived.Calls
import Derived.Below
import Derived.StringKeys
import Derived.Maps.Own
import Derived.Maps.Views
namespace Go.Proofs.YtddmlennnmpnhaaGreatDoor
namespace Vc
open Go.RowKit
set_option linter.unusedVariables false
set_option linter.unusedSimpArgs false
inductive At where
 |int (k:IntKind) (n:Int)
 |bool (b:Bool)
 |str (s:List UInt8)
 |raw (v:Value)
 |ref (n:Nat)
 |loc (n off:Nat)
 |elt (n sz i j:Nat)
 |clo (f:Nat) (ms:List Nat)
@[reducible] def Env:=Nat→Value
def Yz:Value:=.pointer none
def Wk:Value→Nat→Value
 |.pointer (some a),k=>.pointer (some ⟨a.block,a.off+k,none⟩)
 |_,_=>Yz
def V0:Value→Nat→Value
 |.slice (some a) _ _,k=>.pointer (some ⟨a.block,a.off+k,none⟩)
 |_,_=>Yz
def At.den(ρ:Env):At→Value
 |.int k n=>.int k n
 |.bool b=>.bool b
 |.str s=>.string ⟨s.toArray⟩
 |.raw v=>v
 |.ref n=>ρ n
 |.loc n o=>Wk (ρ n) o
 |.elt n sz i j=>V0 (ρ n) (i*sz+j)
 |.clo f ms=>.func (.func f) #[] (ms.map fun m=>Wk (ρ m) 0).toArray
def At.bd(nx:Nat):At→Prop
 |.ref n=>n<nx
 |.loc n _=>n<nx
 |.elt n _ _ _=>n<nx
 |.clo _ ms=>∀m∈ms,m<nx
 |.raw v=>v.oneCell'=true
 |_=>True
inductive S1 where
 |a (x:At)
 |agg (l:List At)
def S1.den(ρ:Env):S1→Value
 |.a x=>x.den ρ
 |.agg l=>.agg (l.map (At.den ρ)).toArray
def S1.bd(nx:Nat):S1→Prop
 |.a x=>x.bd nx
 |.agg l=>∀x∈l,x.bd nx
inductive SV where
 |one (x:S1)
 |tup (l:List S1)
 |opt (g:Bool) (x:S1)
def SV.den(ρ:Env):SV→Value
 |.one x=>x.den ρ
 |.tup l=>.tuple (l.map (S1.den ρ)).toArray
 |.opt g x=>if g=true then x.den ρ else undef
def SV.bd(nx:Nat):SV→Prop
 |.one x=>x.bd nx
 |.tup l=>∀x∈l,x.bd nx
 |.opt g x=>g=true→x.bd nx
def Qv(nx:Nat)(ρ ρ':Env):Prop:=∀n,n<nx→ρ' n=ρ n
theorem At.den_same{nx:Nat}{ρ ρ':Env}(h:Qv nx ρ ρ'){x:At}(hx:x.bd nx):x.den ρ'=x.den ρ:=by
 cases x with
 |clo f ms=>
  simp only[At.bd]at hx
  simp only[At.den]
  rw[List.map_congr_left fun m hm=>by rw[h m (hx m hm)]]
 |_=>simp only[At.bd]at hx<;>simp only[At.den]<;>(try rw[h _ hx])
theorem Vi{nx:Nat}{ρ ρ':Env}(h:Qv nx ρ ρ'){l:List At}(hl:∀x∈l,x.bd nx):l.map (At.den ρ')=l.map (At.den ρ):=
 List.map_congr_left fun x hx=>At.den_same h (hl x hx)
theorem S1.den_same{nx:Nat}{ρ ρ':Env}(h:Qv nx ρ ρ'){x:S1}(hx:x.bd nx):x.den ρ'=x.den ρ:=by
 cases x with
 |a x=>exact At.den_same h hx
 |agg l=>simp only[S1.den];rw[Vi h hx]
theorem SV.den_same{nx:Nat}{ρ ρ':Env}(h:Qv nx ρ ρ'){x:SV}(hx:x.bd nx):x.den ρ'=x.den ρ:=by
 cases x with
 |one x=>exact S1.den_same h hx
 |tup l=>simp only[SV.den];rw[List.map_congr_left fun x hx'=>S1.den_same h (hx x hx')]
 |opt g x=>
  simp only[SV.den]
  split
  ·rename_i hg;rw[S1.den_same h (hx hg)]
  ·rfl
theorem At.bd_mono{nx nx':Nat}(h:nx≤nx'){x:At}(hx:x.bd nx):x.bd nx':=by
 cases x<;>simp only[At.bd]at hx ⊢ <;>first|omega|exact hx|exact fun m hm=>Nat.lt_of_lt_of_le (hx m hm) h
theorem S1.bd_mono{nx nx':Nat}(h:nx≤nx'){x:S1}(hx:x.bd nx):x.bd nx':=by
 cases x with
 |a x=>exact At.bd_mono h hx
 |agg l=>exact fun y hy=>At.bd_mono h (hx y hy)
theorem SV.bd_mono{nx nx':Nat}(h:nx≤nx'){x:SV}(hx:x.bd nx):x.bd nx':=by
 cases x with
 |one x=>exact S1.bd_mono h hx
 |tup l=>exact fun y hy=>S1.bd_mono h (hx y hy)
 |opt g x=>exact fun hg=>S1.bd_mono h (hx hg)
structure Ins where
 op:Int
 d:Int
 s:Int
 imm:Int
 deriving DecidableEq
structure Ln where
 label:List UInt8
 ins:Ins
 ref:List UInt8
structure Spot where
 name:List UInt8
 at_:Int
structure Unt where
 name:List UInt8
 la:Option Addr
 ln:Nat
 lc:Nat
inductive Kd where
 |int (k:IntKind)
 |bool
 |str
 |ins
 |line
 |spot
 |unt
@[reducible] def Kd.ty:Kd→Type
  |.int _=>Int
  |.bool=>Bool
  |.str=>List UInt8
  |.ins=>Ins
  |.line=>Ln
  |.spot=>Spot
  |.unt=>Unt
@[reducible] def Kd.sz:Kd→Nat
  |.ins=>4
  |.line=>6
  |.spot=>2
  |.unt=>2
  |_=>1
def Ins.cells(x:Ins):List At:=[.int .i64 x.op,.int .i64 x.d,.int .i64 x.s,.int .i64 x.imm]
def Ln.cells(x:Ln):List At:=[.str x.label,.int .i64 x.ins.op,.int .i64 x.ins.d,.int .i64 x.ins.s,.int .i64 x.ins.imm,.str x.ref]
def Kd.enc:(k:Kd)→k.ty→List At
 |.int k,n=>[.int k n]
 |.bool,b=>[.bool b]
 |.str,s=>[.str s]
 |.ins,x=>x.cells
 |.line,x=>x.cells
 |.spot,x=>[.str x.name,.int .i64 x.at_]
 |.unt,x=>[.str x.name,.raw (.slice x.la x.ln x.lc)]
def Kd.dec:(k:Kd)→List At→Option k.ty
 |.int _,[.int _ n]=>some n
 |.bool,[.bool b]=>some b
 |.str,[.str s]=>some s
 |.ins,[.int _ a,.int _ b,.int _ c,.int _ d]=>some ⟨a,b,c,d⟩
 |.line,[.str l,.int _ a,.int _ b,.int _ c,.int _ d,.str r]=>some ⟨l,⟨a,b,c,d⟩,r⟩
 |.spot,[.str s,.int _ n]=>some ⟨s,n⟩
 |.unt,[.str s,.raw (.slice a n c)]=>some ⟨s,a,n,c⟩
 |_,_=>none
def Kd.dflt:(k:Kd)→k.ty
 |.int _=>(0:Int)
 |.bool=>false
 |.str=>([]:List UInt8)
 |.ins=>(⟨0,0,0,0⟩:Ins)
 |.line=>(⟨[],⟨0,0,0,0⟩,[]⟩:Ln)
 |.spot=>(⟨[],0⟩:Spot)
 |.unt=>(⟨[],none,0,0⟩:Unt)
theorem Kd.enc_length(k:Kd)(x:k.ty):(k.enc x).length=k.sz:=by cases k<;>rfl
theorem Kd.sz_pos(k:Kd):0<k.sz:=by cases k<;>simp[Kd.sz]
theorem Kd.enc_den(k:Kd)(x:k.ty)(ρ ρ':Env):(k.enc x).map (At.den ρ')=(k.enc x).map (At.den ρ):=by cases k<;>rfl
theorem Kd.enc_at(k:Kd)(x:k.ty)(ρ ρ':Env){j:Nat}{u:At}(h:(k.enc x)[j]? =some u):u.den ρ'=u.den ρ:=by
 have:=congrArg (fun l:List Value=>l[j]?) (k.enc_den x ρ ρ')
 simpa[h]using this
theorem Kd.encs_den(k:Kd)(l:List k.ty)(ρ ρ':Env):(l.flatMap k.enc).map (At.den ρ')=(l.flatMap k.enc).map (At.den ρ):=by
 induction l with
 |nil=>rfl
 |cons x l ih=>simp only[List.flatMap_cons,List.map_append,ih,k.enc_den x ρ ρ']
theorem Kd.encs_length(k:Kd)(l:List k.ty):(l.flatMap k.enc).length=l.length*k.sz:=by
 induction l with
 |nil=>simp
 |cons x l ih=>simp only[List.flatMap_cons,List.length_append,ih,k.enc_length,List.length_cons,Nat.succ_mul];omega
theorem Kd.enc_bd(k:Kd)(x:k.ty)(nx:Nat):∀u∈k.enc x,u.bd nx:=by
 cases k<;>simp[Kd.enc,Ins.cells,Ln.cells,At.bd,Value.oneCell']
theorem Kd.encs_get(k:Kd):∀(l:List k.ty) (i j:Nat) (x:k.ty),l[i]? =some x→j<k.sz→(l.flatMap k.enc)[i*k.sz+j]? =(k.enc x)[j]?
 | [],_,_,_,h,_=>by simp at h
 |y::l,0,j,x,h,hj=>by
  simp at h;subst h
  simp only[List.flatMap_cons,Nat.zero_mul,Nat.zero_add]
  rw[List.getElem?_append_left (by rw[k.enc_length];exact hj)]
 |y::l,i+1,j,x,h,hj=>by
  have:=Kd.encs_get k l i j x (by simpa using h) hj
  simp only[List.flatMap_cons,Nat.succ_mul]
  rw[List.getElem?_append_right (by rw[k.enc_length];omega),k.enc_length,←this]
  congr 1;omega
def litK:(k:Kd)→k.ty→DataW Unit
 |.int q,n=>.lit (.int q n)
 |.bool,b=>.lit (.bool b)
 |_,_=>.nil
def valK:(k:Kd)→k.ty→Value
 |.int q,n=>.int q n
 |.bool,b=>.bool b
 |_,_=>undef
def Zhf(P:Program)(K E:TypeId)(k:Kd)(f:List UInt8→Option k.ty)(n:Nat)(es:Array MapEntry)(clock:Nat):Prop:=
 WideElems.Fit P K (plainElem (H:=Unit) P E) es clock∧es.size≤n∧
  ∀(s:List UInt8) (z:DataW Unit),(DataW.map ((es.toList.map (WideElems.rg P K (plainElem (H:=Unit) P E))).foldr DataW.insert [])).atKey (.string s) z=match f s with|some x=>litK k x|none=>z
def Xu(P:Program)(f:Nat):Bool:=
 match P.funcs[f]? with
 |some fn=> !(fn.name== "runtime.NumGoroutine" ||fn.body.isNone)
 |none=>false
def FnAt(P:Program)(w:World)(v:Value)(g:List S1→Option SV):Prop:=
 ∃f cap,(v= .func (.func f) #[] cap∧Xu P f=true)∧∀aq r,g aq=some r→Calls P f ((aq.map (S1.den fun _=>Yz)).toArray++cap) w fun e w'=>e= .returned (r.den fun _=>Yz)∧Below w.heap.size w w'
def Te(w:World)(O:List Nat)(base:Nat)(a1:Option Addr)(ls:List Ln):Prop:=
 (a1=none→ls=[])∧∀ad1:Addr,a1=some ad1→(ls≠[]→ad1.spot=none)∧
   ∀(j:Nat) (y:Ln),ls[j]? =some y→∀(q:Nat) (u:At),(Kd.line.enc y)[q]? =some u→w.cell? ⟨ad1.block,ad1.off+(j*6+q),none⟩=some (u.den fun _=>Yz)∧ad1.block∉O∧base≤ad1.block
def Yt(l:List (List UInt8×Nat)):Array MapEntry:=(l.zipIdx.map fun p=>(⟨.string ⟨p.1.1.toArray⟩,.func (.func p.1.2) #[] #[],p.2⟩:MapEntry)).toArray
inductive Res:Type where
 |cells (E:TypeId) (l:List At)
 |row (E:TypeId) (k:Kd) (l:List k.ty)
 |lit (E:TypeId) (sz m:Nat) (l:List At)
 |rocells (l:List At)
 |ro (k:Kd) (l:List k.ty)
 |fact (Φ:World→Prop)
 |smap (P:Program) (K E:TypeId) (k:Kd) (f:List UInt8→Option k.ty) (n:Nat)
 |rosmap (P:Program) (K E:TypeId) (k:Kd) (f:List UInt8→Option k.ty) (n:Nat)
 |rou (l:List (List UInt8×List Ln))
 |urow (base:Nat) (E:TypeId) (l:List (List UInt8×List Ln))
 |fn (P:Program) (g:List S1→Option SV)
 |view (m sz lo hi:Nat)
 |fmap (l:List (List UInt8×Nat))
 |fiter (m n:Nat) (seen:List Nat)
 |arr (m o n:Nat)
def Res.block(ρ:Env)(n:Nat):Res→Option Nat
 |.cells _ _=>match ρ n with|.pointer (some a)=>some a.block|_=>none
 |.row _ _ _=>(ρ n).ownBlock
 |.lit _ _ _ _=>(ρ n).ownBlock
 |.smap _ _ _ _ _ _=>match ρ n with|.map (some b)=>some b|_=>none
 |.urow _ _ _=>(ρ n).ownBlock
 |.fmap _=>match ρ n with|.map (some b)=>some b|_=>none
 |.fiter _ _ _=>match ρ n with|.pointer (some a)=>some a.block|_=>none
 |_=>none
def Zp(ρ:Env)(R:List (Nat×Res)):List Nat:=R.filterMap fun p=>p.2.block ρ p.1
def Rg(O:List Nat)(w w':World):Prop:=∀b o,w.heap[b]? =some o→b∉O→w'.heap[b]? =some o
def Res.holds(ρ:Env)(O:List Nat)(n:Nat)(w:World):Res→Prop
 |.cells E l=>∃b,ρ n= .pointer (some ⟨b,0,none⟩)∧w.heap[b]? =some (.cells (l.map (At.den ρ)).toArray E (0,0))
 |.row E k l=>w.ownsRow 0 E k.sz (ρ n) l.length ((l.flatMap k.enc).map (At.den ρ))
 |.lit E sz m l=>∃b,ρ n= .slice (some ⟨b,0,none⟩) m m∧l.length=m*sz∧w.heap[b]? =some (.cells (l.map (At.den ρ)).toArray E (0,0))
 |.rocells l=>∃a:Addr,ρ n= .pointer (some a)∧∀(j:Nat) (u:At),l[j]? =some u→w.cell? ⟨a.block,a.off+j,none⟩=some (u.den ρ)∧a.block∉O
 |.ro k l=>∃a cap,(ρ n= .slice a l.length cap∧l.length≤cap)∧(a=none→l=[])∧∀ad:Addr,a=some ad→(l≠[]→ad.spot=none)∧∀(i:Nat) (x:k.ty),l[i]? =some x→∀(j:Nat) (u:At),(k.enc x)[j]? =some u→
    w.cell? ⟨ad.block,ad.off+(i*k.sz+j),none⟩=some (u.den ρ)∧ad.block∉O
 |.fact Φ=>∀w',Rg O w w'→Φ w'
 |.smap P K E k f m=>∃b es clock,ρ n= .map (some b)∧w.heap[b]? =some (.map es clock)∧Zhf P K E k f m es clock
 |.rosmap P K E k f m=>∃b es clock,ρ n= .map (some b)∧(w.heap[b]? =some (.map es clock)∧b∉O)∧Zhf P K E k f m es clock
 |.rou l=>∃a cap,(ρ n= .slice a l.length cap∧l.length≤cap)∧(a=none→l=[])∧∀ad:Addr,a=some ad→(l≠[]→ad.spot=none)∧∀(i:Nat) (x:List UInt8×List Ln),l[i]? =some x→
    (w.cell? ⟨ad.block,ad.off+i*2,none⟩=some (.string ⟨x.1.toArray⟩)∧ad.block∉O)∧
    ∃a1 cap1,((w.cell? ⟨ad.block,ad.off+(i*2+1),none⟩=some (.slice a1 x.2.length cap1)∧ad.block∉O)∧x.2.length≤cap1)∧Te w O 0 a1 x.2
 |.urow base E l=>∃us:List Unt,us.length=l.length∧w.ownsRow 0 E Kd.unt.sz (ρ n) us.length ((us.flatMap Kd.unt.enc).map (At.den fun _=>Yz))∧
    ∀(i:Nat) (u:Unt) (x:List UInt8×List Ln),us[i]? =some u→l[i]? =some x→u.name=x.1∧(u.ln=x.2.length∧u.ln≤u.lc)∧Te w O base u.la x.2
 |.fn P g=>∀w',Rg O w w'→FnAt P w' (ρ n) g
 |.view m sz lo hi=>∃ad len cap ad',ρ m= .slice ad len cap∧ρ n= .slice ad' (hi-lo) (cap-lo)∧(lo≤hi∧hi≤cap)∧(lo<hi→∀x,ad'=some x→x.spot=none)∧(lo<cap→ad'=ad.map (·.add (lo*sz)))
 |.fmap l=>∃b,ρ n= .map (some b)∧w.heap[b]? =some (.map (Yt l) l.length)∧(∀p∈l,p.1.length≤1000)∧(l.map Prod.fst).Nodup
 |.arr m o q=>∃b,ρ m= .pointer (some ⟨b,0,none⟩)∧ρ n= .slice (some ⟨b,o,none⟩) q q
 |.fiter m q seen=>∃bi bm,ρ n= .pointer (some ⟨bi,0,none⟩)∧ρ m= .map (some bm)∧w.heap[bi]? =some (.mapIter (some bm) q seen.toArray q)
def Res.bd(nx:Nat):Res→Prop
 |.cells _ l=>∀x∈l,x.bd nx
 |.lit _ _ _ l=>∀x∈l,x.bd nx
 |.rocells l=>∀x∈l,x.bd nx
 |.view m _ _ _=>m<nx
 |.fiter m _ _=>m<nx
 |.arr m _ _=>m<nx
 |_=>True
theorem Res.bd_mono{nx nx':Nat}(h:nx≤nx'){r:Res}(hr:r.bd nx):r.bd nx':=by
 cases r<;>first|exact fun y hy=>At.bd_mono h (hr y hy)|trivial|exact Nat.lt_of_lt_of_le hr h
theorem Xm{w:World}{a:Addr}{v:Value}(h:w.cell? a=some v):a.block<w.heap.size:=World.block_lt_of_cell? w a h
theorem Po{O:List Nat}{w w':World}(hk:Rg O w w'){a:Addr}{v:Value}(h:w.cell? a=some v)(ha:a.block∉O):w'.cell? a=some v:=by
 have hlt:=Xm h
 have he:w.heap[a.block]? =some w.heap[a.block]:=by simp[hlt]
 have:=hk _ _ he ha
 rw[World.cell?_of_block (w:=w) (by rw[this,he])]
 exact h
theorem Res.block_same{nx:Nat}{ρ ρ':Env}(h:Qv nx ρ ρ'){n:Nat}(hn:n<nx)(r:Res):r.block ρ' n=r.block ρ n:=by
 cases r<;>simp only[Res.block,h n hn]
theorem Te.carry{O O' D:List Nat}{w w':World}{base:Nat}{a1:Option Addr}{ls:List Ln}(hk:Rg D w w')(hD:∀b∈D,b∈O)(hO:∀b∈O',b∈O∨w.heap.size≤b)(h:Te w O base a1 ls):Te w' O' base a1 ls:=by
 refine⟨h.1,fun ad1 had1=>⟨(h.2 ad1 had1).1,fun j y hy q u hu=> ?_⟩⟩
 obtain⟨h1,h2,h3⟩:=(h.2 ad1 had1).2 j y hy q u hu
 refine⟨Po hk h1 (fun hd=>h2 (hD _ hd)),fun hm=> ?_,h3⟩
 rcases hO _ hm with h4|h4
 ·exact h2 h4
 ·have:=Xm h1
  simp only at this
  omega
theorem Res.carry{nx:Nat}{ρ ρ':Env}{O O' D:List Nat}{n:Nat}{w w':World}{r:Res}(hs:Qv nx ρ ρ')(hn:n<nx)(hb:r.bd nx)
 (hk:Rg D w w')(hD:∀b∈D,b∈O)(hr:∀b,r.block ρ n=some b→b∉D)
 (hO:∀b∈O',b∈O∨w.heap.size≤b)(h:r.holds ρ O n w):r.holds ρ' O' n w':=by
 have hne:∀b o,w.heap[b]? =some o→b∉O→b∉O':=fun b o hbo hbO hbO'=>by
  rcases hO b hbO' with h1|h1
  ·exact hbO h1
  ·have:=(Array.getElem?_eq_some_iff.1 hbo).1;omega
 have hcell:∀(a:Addr) (v:Value),w.cell? a=some v→a.block∉O→w'.cell? a=some v∧a.block∉O':=fun a v hc ha=>by
  have hlt:=Xm hc
  exact⟨Po hk hc (fun hd=>ha (hD _ hd)),hne a.block w.heap[a.block] (by simp[hlt]) ha⟩
 cases r with
 |cells E l=>
  obtain⟨b,hb1,hb2⟩:=h
  refine⟨b,by rw[hs n hn];exact hb1,?_⟩
  rw[Vi hs hb]
  exact hk b _ hb2 (hr b (by simp[Res.block,hb1]))
 |row E k l=>
  simp only[Res.holds]at h ⊢
  rw[hs n hn,k.encs_den l ρ ρ']
  obtain⟨h1,h2⟩:=h
  refine⟨h1,?_⟩
  rcases h2 with h2|⟨g,cap,cur,hv,hg,hh,r⟩
  ·exact Or.inl h2
  ·exact Or.inr ⟨g,cap,cur,hv,hg,hk g _ hh (hr g (by simp[Res.block,hv,Value.ownBlock])),r⟩
 |lit E sz m l=>
  obtain⟨b,hb1,hb2,hb3⟩:=h
  refine⟨b,by rw[hs n hn];exact hb1,hb2,?_⟩
  rw[Vi hs hb]
  exact hk b _ hb3 (hr b (by simp[Res.block,hb1,Value.ownBlock]))
 |rocells l=>
  obtain⟨a,ha,hc⟩:=h
  refine⟨a,by rw[hs n hn];exact ha,fun j u hu=> ?_⟩
  rw[At.den_same hs (hb u (List.mem_of_getElem? hu))]
  exact hcell _ _ (hc j u hu).1 (hc j u hu).2
 |ro k l=>
  obtain⟨a,cap,ha,hnil,hc⟩:=h
  refine⟨a,cap,by rw[hs n hn];exact ha,hnil,fun ad had=>⟨(hc ad had).1,fun i x hx j u hu=> ?_⟩⟩
  rw[k.enc_at x ρ ρ' hu]
  exact hcell _ _ ((hc ad had).2 i x hx j u hu).1 ((hc ad had).2 i x hx j u hu).2
 |fact Φ=>
  intro w'' hk''
  exact h w'' fun b o hbo hbO=>hk'' b o (hk b o hbo (fun hd=>hbO (hD _ hd))) (hne b o hbo hbO)
 |smap P K E k f m=>
  obtain⟨b,es,clock,hb1,hb2,hm⟩:=h
  exact⟨b,es,clock,by rw[hs n hn];exact hb1,hk b _ hb2 (hr b (by simp[Res.block,hb1])),hm⟩
 |rosmap P K E k f m=>
  obtain⟨b,es,clock,hb1,⟨hb2,hb3⟩,hm⟩:=h
  exact⟨b,es,clock,by rw[hs n hn];exact hb1,⟨hk b _ hb2 (fun hd=>hb3 (hD _ hd)),hne b _ hb2 hb3⟩,hm⟩
 |rou l=>
  obtain⟨a,cap,ha,hnil,hc⟩:=h
  refine⟨a,cap,by rw[hs n hn];exact ha,hnil,fun ad had=>⟨(hc ad had).1,fun i x hx=> ?_⟩⟩
  obtain⟨h1,a1,cap1,h2,h3⟩:=(hc ad had).2 i x hx
  exact⟨hcell _ _ h1.1 h1.2,a1,cap1,⟨hcell _ _ h2.1.1 h2.1.2,h2.2⟩,h3.carry hk hD hO⟩
 |urow base E l=>
  obtain⟨us,hlen,⟨h1,h2⟩,h3⟩:=h
  refine⟨us,hlen,?_,fun i u x hu hx=>⟨(h3 i u x hu hx).1,(h3 i u x hu hx).2.1,(h3 i u x hu hx).2.2.carry hk hD hO⟩⟩
  rw[hs n hn]
  refine⟨h1,?_⟩
  rcases h2 with h2|⟨g,cap,cur,hv,hg,hh,r⟩
  ·exact Or.inl h2
  ·exact Or.inr ⟨g,cap,cur,hv,hg,hk g _ hh (hr g (by simp[Res.block,hv,Value.ownBlock])),r⟩
 |fn P g=>
  intro w'' hk''
  rw[hs n hn]
  exact h w'' fun b o hbo hbO=>hk'' b o (hk b o hbo (fun hd=>hbO (hD _ hd))) (hne b o hbo hbO)
 |view m sz lo hi=>
  obtain⟨ad,len,cap,ad',h1,h2,h3⟩:=h
  exact⟨ad,len,cap,ad',by rw[hs m hb];exact h1,by rw[hs n hn];exact h2,h3⟩
 |fmap l=>
  obtain⟨b,h1,h2,h3⟩:=h
  exact⟨b,by rw[hs n hn];exact h1,hk b _ h2 (hr b (by simp[Res.block,h1])),h3⟩
 |arr m o q=>
  obtain⟨b,h1,h2⟩:=h
  exact⟨b,by rw[hs m hb];exact h1,by rw[hs n hn];exact h2⟩
 |fiter m q seen=>
  obtain⟨bi,bm,h1,h2,h3⟩:=h
  exact⟨bi,bm,by rw[hs n hn];exact h1,by rw[hs m hb];exact h2,hk bi _ h3 (hr bi (by simp[Res.block,h1]))⟩
structure Cx where
 P:Program
 w0:World
 X:List Nat
 nt:Nat
 fr:List Value
structure Mem (c:Cx) (ρ:Env) (R:List (Nat×Res)) (nx:Nat) (w:World):Prop where
 os:w.os=c.w0.os
 tape:w.tape=c.w0.tape
 output:w.output=c.w0.output
 size:c.w0.heap.size≤w.heap.size
 block:∀b,b<c.w0.heap.size→b∉c.X→w.heap[b]? =c.w0.heap[b]?
 one:∀n,(ρ n).oneCell'=true
 keys:(R.map Prod.fst).Nodup
 res:∀n r,(n,r)∈R→r.holds ρ (Zp ρ R) n w
 bdr:∀n r,(n,r)∈R→n<nx∧r.bd nx
 nodup:(Zp ρ R).Nodup
 lt:∀b∈Zp ρ R,b<w.heap.size∧(c.w0.heap.size≤b∨b∈c.X)
def del(R:List (Nat×Res))(ds:List Nat):List (Nat×Res):=R.filter fun p=> !ds.contains p.1
theorem X6{ρ:Env}{R:List (Nat×Res)}{ds:List Nat}:∀b∈Zp ρ (del R ds),b∈Zp ρ R:=by
 intro b hb
 obtain⟨p,hp,hpb⟩:=List.mem_filterMap.1 hb
 exact List.mem_filterMap.2 ⟨p,(List.mem_filter.1 hp).1,hpb⟩
theorem Rk{nx:Nat}{ρ ρ':Env}(hs:Qv nx ρ ρ'){R:List (Nat×Res)}(hb:∀n r,(n,r)∈R→n<nx):Zp ρ' R=Zp ρ R:=by
 unfold Zp
 induction R with
 |nil=>rfl
 |cons p R ih=>
  have h1:=Res.block_same hs (hb p.1 p.2 (by simp)) p.2
  have h2:=ih fun n r h=>hb n r (by simp[h])
  simp only[List.filterMap_cons,h1,h2]
theorem Yh{ρ:Env}:∀ {R:List (Nat×Res)} {ds:List Nat} {n:Nat} {r:Res} {b:Nat},(R.map Prod.fst).Nodup→(Zp ρ R).Nodup→(n,r)∈R→n∈ds→r.block ρ n=some b→b∉Zp ρ (del R ds):=by
 intro R ds n r b hkk hnd hm hds hb hmem
 obtain⟨p,hp,hpb⟩:=List.mem_filterMap.1 hmem
 have hpR:=(List.mem_filter.1 hp).1
 have hpd:p.1∉ds:=by have:=(List.mem_filter.1 hp).2;simpa using this
 have hne:p≠(n,r):=fun e=>hpd (by rw[e];exact hds)
 clear hmem hp
 induction R with
 |nil=>cases hm
 |cons q R ih=>
  unfold Zp at hnd
  rw[List.filterMap_cons]at hnd
  have hin:∀ {s:Nat×Res},s∈R→s.2.block ρ s.1=some b→b∈R.filterMap fun p=>p.2.block ρ p.1:=fun hs hsb=>List.mem_filterMap.2 ⟨_,hs,hsb⟩
  rcases List.mem_cons.1 hm with hm1|hm1<;>rcases List.mem_cons.1 hpR with hp1|hp1
  ·exact hne (hp1.trans hm1.symm)
  ·subst hm1
   simp only[hb,List.nodup_cons]at hnd
   exact hnd.1 (hin hp1 hpb)
  ·subst hp1
   simp only[hpb,List.nodup_cons]at hnd
   exact hnd.1 (hin (s:=(n,r)) hm1 hb)
  ·refine ih (List.nodup_cons.1 (by simpa using hkk)).2 ?_ hm1 hp1
   split at hnd
   ·exact hnd
   ·exact(List.nodup_cons.1 hnd).2
theorem G1{ρ:Env}{R:List (Nat×Res)}{ds:List Nat}(h:(Zp ρ R).Nodup):(Zp ρ (del R ds)).Nodup:=by
 unfold Zp del at*
 exact List.Nodup.sublist (List.Sublist.filterMap _ List.filter_sublist) h
theorem M3{R:List (Nat×Res)}{ds:List Nat}(h:(R.map Prod.fst).Nodup):((del R ds).map Prod.fst).Nodup:=
 List.Nodup.sublist (List.Sublist.map _ List.filter_sublist) h
theorem Mem.step{c:Cx}{ρ ρ':Env}{R:List (Nat×Res)}{nx nx':Nat}{w w':World}{ds:List Nat}{m:Nat}{r:Res}(h:Mem c ρ R nx w)
 (hs:Qv nx ρ ρ')(hnx:nx≤nx')(hone:∀n,(ρ' n).oneCell'=true)
 (hos:w'.os=w.os)(htape:w'.tape=w.tape)(hout:w'.output=w.output)(hsize:w.heap.size≤w'.heap.size)
 {D:List Nat}(hk:Rg D w w')(hD:∀b∈D,∃n s,(n,s)∈R∧n∈ds∧s.block ρ n=some b)
 (hm:m<nx')(hmR:m∈ds∨nx≤m)(hb:r.bd nx')
 (hblk:∀b,r.block ρ' m=some b→b<w'.heap.size∧(w.heap.size≤b∨∃n s,(n,s)∈R∧n∈ds∧s.block ρ n=some b))
 (hr:∀O',(∀b∈O',b∈Zp ρ (del R ds)∨r.block ρ' m=some b)→(∀b∈Zp ρ (del R ds),b∈O')→r.holds ρ' O' m w'):Mem c ρ' ((m,r)::del R ds) nx' w':=by
 have hDO:∀b∈D,b∈Zp ρ R:=fun b hb=>by
  obtain⟨n,s,h1,_,h3⟩:=hD b hb
  exact List.mem_filterMap.2 ⟨(n,s),h1,h3⟩
 have hsub:∀n s,(n,s)∈del R ds→(n,s)∈R∧n∉ds:=fun n s hns=>by
  have:=List.mem_filter.1 hns
  exact⟨this.1,by simpa using this.2⟩
 have hown:Zp ρ' (del R ds)=Zp ρ (del R ds):=Rk hs fun n s hns=>(h.bdr n s (hsub n s hns).1).1
 have hO':∀b∈Zp ρ' ((m,r)::del R ds),b∈Zp ρ R∨w.heap.size≤b:=by
  intro b hb
  unfold Zp at hb
  rw[List.filterMap_cons]at hb
  have rest:b∈Zp ρ' (del R ds)→b∈Zp ρ R:=fun hb=>by rw[hown]at hb;exact X6 b hb
  split at hb
  ·exact .inl (rest hb)
  ·rename_i b' hb'
   rcases List.mem_cons.1 hb with rfl|hb
   ·rcases(hblk b hb').2 with h1|⟨n,s,h1,_,h3⟩
    ·exact .inr h1
    ·exact .inl (List.mem_filterMap.2 ⟨(n,s),h1,h3⟩)
   ·exact .inl (rest hb)
 have hlt:∀b∈Zp ρ (del R ds),b<w.heap.size∧(c.w0.heap.size≤b∨b∈c.X):=fun b hb=>h.lt b (X6 b hb)
 refine⟨hos.trans h.os,htape.trans h.tape,hout.trans h.output,Nat.le_trans h.size hsize,?_,hone,?_,?_,?_,?_,?_⟩
 ·intro b hb hbX
  have h0:=h.block b hb hbX
  have hbs:b<w.heap.size:=Nat.lt_of_lt_of_le hb h.size
  have he:w.heap[b]? =some w.heap[b]:=by simp[hbs]
  rw[←h0,he]
  refine hk b _ he fun hbD=> ?_
  rcases(h.lt b (hDO b hbD)).2 with h1|h1
  ·omega
  ·exact hbX h1
 ·simp only[List.map_cons,List.nodup_cons]
  refine⟨fun hmem=> ?_,M3 h.keys⟩
  obtain⟨p,hp,hpm⟩:=List.mem_map.1 hmem
  obtain⟨h1,h2⟩:=hsub p.1 p.2 hp
  rcases hmR with h3|h3
  ·rw[hpm]at h2;exact h2 h3
  ·have:=(h.bdr _ _ h1).1;omega
 ·intro n s hns
  rcases List.mem_cons.1 hns with e|hns
  ·cases e
   refine hr _ (fun b hb=> ?_) fun b hb=> ?_
   ·unfold Zp at hb
    rw[List.filterMap_cons]at hb
    split at hb
    ·left;rw[←hown];exact hb
    ·rename_i b' hb'
     rcases List.mem_cons.1 hb with rfl|hb
     ·exact .inr hb'
     ·left;rw[←hown];exact hb
   rw[←hown]at hb
   unfold Zp at hb ⊢
   rw[List.filterMap_cons]
   split
   ·exact hb
   ·exact List.mem_cons_of_mem _ hb
  ·obtain⟨h1,h2⟩:=hsub n s hns
   refine Res.carry hs (h.bdr n s h1).1 (h.bdr n s h1).2 hk hDO (fun b hb hbD=> ?_) hO' (h.res n s h1)
   obtain⟨n',s',g1,g2,g3⟩:=hD b hbD
   exact Yh h.keys h.nodup g1 g2 g3 (List.mem_filterMap.2 ⟨(n,s),hns,hb⟩)
 ·intro n s hns
  rcases List.mem_cons.1 hns with e|hns
  ·cases e;exact⟨hm,hb⟩
  ·have:=h.bdr n s (hsub n s hns).1
   exact⟨Nat.lt_of_lt_of_le this.1 hnx,Res.bd_mono hnx this.2⟩
 ·unfold Zp
  rw[List.filterMap_cons]
  have hnd:(Zp ρ' (del R ds)).Nodup:=by rw[hown];exact G1 h.nodup
  split
  ·exact hnd
  ·rename_i b hb
   refine List.nodup_cons.2 ⟨fun hmem=> ?_,hnd⟩
   have hmem':b∈Zp ρ (del R ds):=by rw[←hown];exact hmem
   rcases(hblk b hb).2 with h1|⟨n,s,h1,h2,h3⟩
   ·have:=(hlt b hmem').1;omega
   ·exact Yh h.keys h.nodup h1 h2 h3 hmem'
 ·intro b hb
  unfold Zp at hb
  rw[List.filterMap_cons]at hb
  have rest:b∈Zp ρ' (del R ds)→b<w'.heap.size∧(c.w0.heap.size≤b∨b∈c.X):=fun hb=>by
   rw[hown]at hb
   exact⟨Nat.lt_of_lt_of_le (hlt b hb).1 hsize,(hlt b hb).2⟩
  split at hb
  ·exact rest hb
  ·rename_i b' hb'
   rcases List.mem_cons.1 hb with rfl|hb
   ·refine⟨(hblk b hb').1,?_⟩
    rcases(hblk b hb').2 with h1|⟨n,s,h1,_,h3⟩
    ·exact .inl (Nat.le_trans h.size h1)
    ·exact(h.lt b (List.mem_filterMap.2 ⟨(n,s),h1,h3⟩)).2
   ·exact rest hb
inductive Opd where
 |t (n:Nat)
 |k (x:S1)
 |bad
inductive EK where
 |int
 |str
 |bool
 deriving DecidableEq
inductive I where
 |mv (x:Opd)
 |pick (c x y:Opd)
 |bin (op:BinOp) (x y:Opd)
 |un (op:UnOp) (x:Opd)
 |conv (k:IntKind) (x:Opd)
 |load (n:Nat) (agg:Bool) (x:Opd)
 |faddr (off:Nat) (x:Opd)
 |iaddr (sz:Nat) (x i:Opd)
 |sidx (x i:Opd)
 |fld (off n:Nat) (agg:Bool) (x:Opd)
 |ext (i:Nat) (x:Opd)
 |build (z:List At) (parts:List (Nat×Nat×Opd))
 |len (x:Opd)
 |slen (x:Opd)
 |ssl (x:Opd) (lo hi:Option Opd)
 |aeq (neg:Bool) (ks:List EK) (x y:Opd)
 |beq (neg:Bool) (x y:Opd)
 |alloc (E:Nat) (z:List At)
 |box (E:Nat) (x:Opd)
 |store (n:Nat) (x v:Opd)
 |call (f:Nat) (args:List Opd)
 |bsl (E sz m:Nat) (z:List At) (parts:List (Nat×Nat×Opd))
 |app (T E sz bytes:Nat) (x y:Opd)
 |bsl0 (E sz:Nat)
 |s2b (x:Opd)
 |sl (sz:Nat) (x:Opd) (lo hi:Option Opd)
 |mks (E:Nat) (k:Kd) (bytes:Nat) (x y:Opd)
 |isnil (neg:Bool) (x:Opd)
 |mkf (f:Nat) (caps:List Opd)
 |callv (x:Opd) (args:List Opd)
 |mkmap (P:Program) (K E:TypeId) (k:Kd)
 |mlook (P:Program) (K E:TypeId) (k:Kd) (ok:Bool) (x i:Opd)
 |mupd (P:Program) (K E:TypeId) (k:Kd) (x i v:Opd)
 |b2s (x:Opd)
 |r2s (x:Opd)
 |apps (T E:Nat) (x y:Opd)
 |nchk (x:Opd)
 |frz (x:Opd)
 |fmk
 |fupd (x i v:Opd)
 |flook (ok:Bool) (x i:Opd)
 |frng (x:Opd)
 |fnxt (x:Opd)
 |fent (x:Opd)
 |iarr (n sz:Nat) (x i:Opd)
 |fnil (neg:Bool) (x y:Opd)
 |app0 (x y:Opd)
 |cpy (E sz:Nat) (x y:Opd)
 |snil (neg:Bool) (x y:Opd)
 |slA (n:Nat) (x:Opd)
structure In where
 g:Option (Nat×Bool)
 d:Option Nat
 i:I
structure St where
 slots:List (Nat×SV)
 res:List (Nat×Res)
 nx:Nat
def Zo{α:Type}:List (Nat×α)→Nat→Option α
 | [],_=>none
 |(m,x)::l,n=>if m=n then some x else Zo l n
theorem Yp{α:Type}{l:List (Nat×α)}{n:Nat}{x:α}(h:Zo l n=some x):(n,x)∈l:=by
 induction l with
 |nil=>cases h
 |cons p l ih=>
  simp only[Zo]at h
  split at h
  ·rename_i e;cases h;rw[←e];simp
  ·exact List.mem_cons_of_mem _ (ih h)
def St.get(S:St)(t:Nat):Option SV:=Zo S.slots t
def St.find(S:St)(n:Nat):Option Res:=Zo S.res n
def St.put(S:St)(d:Option Nat)(v:SV):St:=
 match d with
 |some d=>⟨(d,v)::S.slots,S.res,S.nx⟩
 |none=>S
@[reducible] def BIG:Nat:=1000000
def N1(c:Cx)(a:Act)(t:Nat):Option Value:=if t<BIG then a.tmps[t]? else c.fr[t-BIG]?
theorem Uf{c:Cx}{a:Act}{t:Nat}(h:t<BIG):N1 c a t=a.tmps[t]? :=if_pos h
structure St.holds (S:St) (c:Cx) (ρ:Env) (a:Act) (w:World):Prop where
 nodef:a.defers=[]
 sz:a.tmps.size=c.nt
 lown:c.nt≤BIG
 slot:∀t v,S.get t=some v→N1 c a t=some (v.den ρ)
 bds:∀t v,S.get t=some v→v.bd S.nx
 mem:Mem c ρ S.res S.nx w
def St.rd(S:St):Opd→Option (Prop×S1)
 |.bad=>none
 |.k x=>some (True,x)
 |.t n=>match S.get n with
  |some (.one v)=>some (True,v)
  |some (.opt g v)=>some (g=true,v)
  |_=>none
def atV:Value→At
 |.int k n=>.int k n
 |.bool b=>.bool b
 |.string s=>.str s.data.toList
 |v=>.raw v
def ofV:Value→S1
 |.agg cs=>.agg (cs.toList.map atV)
 |v=>.a (atV v)
theorem F6(ρ:Env)(v:Value):(atV v).den ρ=v:=by
 cases v<;>simp[atV,At.den]
theorem Ii(nx:Nat)(v:Value)(h:v.oneCell'=true):(atV v).bd nx:=by
 cases v<;>simp_all[atV,At.bd,Value.oneCell']
theorem ofV_den(ρ:Env)(v:Value):(ofV v).den ρ=v:=by
 cases v<;>simp only[ofV,S1.den,F6]
 rename_i cs
 have:(cs.toList.map atV).map (At.den ρ)=cs.toList:=by
  rw[List.map_map]
  conv=>rhs;rw[←List.map_id cs.toList]
  exact List.map_congr_left fun x _=>F6 ρ x
 rw[this]
def okV(v:Value):Bool:=v.cells.toList.all fun x=>x.oneCell'
theorem ofV_bd(nx:Nat)(v:Value)(h:okV v=true):(ofV v).bd nx:=by
 have h':∀x∈v.cells.toList,(atV x).bd nx:=fun x hx=>Ii nx x (List.all_eq_true.1 h x hx)
 cases v
 case agg cs=>
  intro y hy
  obtain⟨x,hx,rfl⟩:=List.mem_map.1 hy
  exact h' x hx
 all_goals exact h' _ (List.mem_singleton.2 rfl)
def opd:Operand→Opd
 |.tmp t=>if t<BIG then .t t else .bad
 |.const v=>if okV v then .k (ofV v)else .bad
 |.global g=>.k (.a (.raw (.pointer (some ⟨g,0,none⟩))))
 |.func f=>.k (.a (.raw (.func (.func f) #[] #[])))
theorem Zd{c:Cx}{S:St}{ρ:Env}{a:Act}{w:World}(hh:S.holds c ρ a w){x:Operand}{p:Prop}{v:S1}(h:S.rd (opd x)=some (p,v))(hp:p):
 a.eval x=v.den ρ∧v.bd S.nx:=by
 cases x with
 |tmp t=>
  by_cases hlow':¬t<BIG
  ·simp only[opd,if_neg hlow',St.rd]at h;cases h
  have hlow:t<BIG:=Nat.lt_of_not_le fun h'=>hlow' (Nat.not_lt.2 h')
  have hsl:∀v,N1 c a t=some v→a.tmps[t]? =some v:=fun v hv=>by rw[Uf hlow]at hv;exact hv
  simp only[opd,if_pos hlow,St.rd]at h
  cases hg:S.get t with
  |none=>rw[hg]at h;cases h
  |some sv=>
   rw[hg]at h
   have h1:=hsl _ (hh.slot t sv hg)
   have h2:=hh.bds t sv hg
   cases sv with
   |one u=>
    cases h
    exact⟨by simp[Act.eval,Array.getD_eq_getD_getElem?,h1,SV.den],h2⟩
   |tup l=>cases h
   |opt g u=>
    cases h
    exact⟨by simp[Act.eval,Array.getD_eq_getD_getElem?,h1,SV.den,hp],h2 hp⟩
 |const v'=>
  simp only[opd]at h
  split at h
  ·rename_i hok
   cases h;exact⟨(ofV_den ρ v').symm,ofV_bd _ _ hok⟩
  ·cases h
 |global g=>cases h;exact⟨rfl,rfl⟩
 |func f=>cases h;exact⟨rfl,rfl⟩
def Mx(k:IntKind)(x y:Int):Int:=k.wrap (BitVec.ofInt k.bits x&&& BitVec.ofInt k.bits y).toNat
def orI(k:IntKind)(x y:Int):Int:=k.wrap (BitVec.ofInt k.bits x|||BitVec.ofInt k.bits y).toNat
def Mr(k:IntKind)(x y:Int):Int:=k.wrap (BitVec.ofInt k.bits x^^^BitVec.ofInt k.bits y).toNat
def andnI(k:IntKind)(x y:Int):Int:=k.wrap (BitVec.ofInt k.bits x&&& ~~~BitVec.ofInt k.bits y).toNat
def Sn(k:IntKind)(x y:Int):Int:=k.wrap (x*2^min y.toNat k.bits)
def P0(k:IntKind)(x y:Int):Int:=x/2^min y.toNat k.bits
def Xf(op:BinOp)(k:IntKind)(x y:Int):Option (Prop×At):=
 match op with
 |.add=>some (True,.int k (k.wrap (x+y)))
 |.sub=>some (True,.int k (k.wrap (x-y)))
 |.mul=>some (True,.int k (k.wrap (x*y)))
 |.quo=>some (y≠0,.int k (k.wrap (x.tdiv y)))
 |.rem=>some (y≠0,.int k (x.tmod y))
 |.and=>some (True,.int k (Mx k x y))
 |.or=>some (True,.int k (orI k x y))
 |.xor=>some (True,.int k (Mr k x y))
 |.andNot=>some (True,.int k (andnI k x y))
 |.eql=>some (True,.bool (decide (x=y)))
 |.neq=>some (True,.bool (!decide (x=y)))
 |.lss=>some (True,.bool (decide (x<y)))
 |.leq=>some (True,.bool (decide (x≤y)))
 |.gtr=>some (True,.bool (decide (y<x)))
 |.geq=>some (True,.bool (decide (y≤x)))
 |_=>none
def Q7(op:BinOp)(x y:List UInt8):Option (Prop×At):=
 match op with
 |.add=>some (x.length+y.length≤9223372036854775807,.str (x++y))
 |.eql=>some (True,.bool (decide (x=y)))
 |.neq=>some (True,.bool (!decide (x=y)))
 |.lss=>some (True,.bool (Op.bytesLess x y))
 |_=>none
def Qy(op:BinOp)(x y:At):Option (Prop×At):=
 match x,y with
 |.int k a,.int yk b=>
  match op with
  |.shl=>some (0≤b,.int k (Sn k a b))
  |.shr=>some (0≤b,.int k (P0 k a b))
  |op=>if k=yk then Xf op k a b else none
 |.str a,.str b=>Q7 op a b
 |_,_=>none
def Gd(op:UnOp)(x:At):Option At:=
 match op,x with
 |.not,.bool b=>some (.bool (!b))
 |.neg,.int k n=>some (.int k (k.wrap (0-n)))
 |.xor,.int k n=>some (.int k (Mr k (if k.signed then-1 else k.max) n))
 |_,_=>none
def Uw(g:Bool)(x y:At):Option At:=
 match x,y with
 |.int k a,.int k' b=>if k=k' then some (.int k (bif g then a else b))else none
 |.bool a,.bool b=>some (.bool (bif g then a else b))
 |.str a,.str b=>some (.str (bif g then a else b))
 |_,_=>none
theorem Ko(l:List UInt8):(ByteArray.mk l.toArray).toList=l:=by rw[ByteArray.toList_eq]
theorem Bb{P:Program}{op:BinOp}{k:IntKind}{x y:Int}{p:Prop}{z:At}{t:TypeId}(h:Xf op k x y=some (p,z))(hp:p)(w:World)(ρ:Env):
 (binOp op t (.int k x) (.int k y)).run P w= .ok (z.den ρ) w∧z.bd 0:=by
 cases op<;>simp only[Xf,Option.some.injEq,Prod.mk.injEq,reduceCtorEq]at h<;>(try(obtain⟨rfl,rfl⟩:=h))<;>
  first
  |(refine⟨?_,trivial⟩;simp[binOp,Op.intArith,At.den,Sem.run_pure];done)
  |(refine⟨?_,trivial⟩;simp[binOp,Op.intDiv,At.den,Sem.run_pure,hp];done)
  |(refine⟨?_,trivial⟩;simp[binOp,Op.intBits,At.den,Sem.run_pure,Mx,orI,Mr,andnI];done)
  |(refine⟨?_,trivial⟩;simp[binOp,Op.intCmp,At.den,Sem.run_pure,bne];done)
  |(refine⟨?_,trivial⟩;simp[binOp,Op.intCmp,At.den,Sem.run_pure];rw[Bool.eq_iff_iff];simp;done)
theorem A6{P:Program}{op:BinOp}{x y:List UInt8}{p:Prop}{z:At}{t:TypeId}(h:Q7 op x y=some (p,z))(hp:p)(w:World)(ρ:Env):
 (binOp op t (.string ⟨x.toArray⟩) (.string ⟨y.toArray⟩)).run P w= .ok (z.den ρ) w∧z.bd 0:=by
 have hb:∀op,binOp op t (.string ⟨x.toArray⟩) (.string ⟨y.toArray⟩)=Op.stringOp op ⟨x.toArray⟩ ⟨y.toArray⟩:=fun op=>by cases op<;>rfl
 cases op<;>simp only[Q7,Option.some.injEq,Prod.mk.injEq,reduceCtorEq]at h<;>(try(obtain⟨rfl,rfl⟩:=h))<;>rw[hb]
 case add=>
  refine⟨?_,trivial⟩
  rw[run_string_add_if]
  have h1:(ByteArray.mk x.toArray).size=x.length:=by simp[ByteArray.size]
  have h2:(ByteArray.mk y.toArray).size=y.length:=by simp[ByteArray.size]
  rw[h1,h2,if_neg (by omega)]
  simp only[At.den]
  have:(ByteArray.mk x.toArray)++(ByteArray.mk y.toArray)=ByteArray.mk (x++y).toArray:=by
   apply ByteArray.ext
   rw[ByteArray.data_append]
   simp
  rw[this]
 all_goals
  refine⟨?_,trivial⟩
  simp[Op.stringOp,At.den,Sem.run_pure,Ko]
 all_goals rw[Bool.eq_iff_iff];simp
theorem Rf(op:BinOp)(t:TypeId)(x y:Operand)(a b:Value)(h:∀cs,a≠ .agg cs)(h2:a≠ .nilIface):eqGuard op t x y a b=pure ():=by
 unfold eqGuard
 cases op<;>first|rfl|(cases a<;>first|rfl|(exact absurd rfl (h _))|(exact absurd rfl h2))
theorem Cc{P:Program}{op:BinOp}{x y:At}{p:Prop}{z:At}{t:TypeId}{X Y:Operand}(h:Qy op x y=some (p,z))(hp:p)(w:World)(ρ:Env):
 (do eqGuard op t X Y (x.den ρ) (y.den ρ);binOp op t (x.den ρ) (y.den ρ):Sem Value).run P w= .ok (z.den ρ) w∧z.bd 0:=by
 cases x<;>cases y<;>simp only[Qy,reduceCtorEq]at h
 case int.int k a yk b=>
  rw[Sem.run_bind,At.den,Rf _ _ _ _ _ _ (by simp) (by simp),Sem.run_pure,Result.andThen_ok]
  cases op
  case shl=>
   cases h
   refine⟨?_,trivial⟩
   simp only[At.den,binOp,Op.shift,Int.not_lt.mpr hp,if_false]
   simp[Sn,Sem.run_pure]
  case shr=>
   cases h
   refine⟨?_,trivial⟩
   have hpos:(0:Int)≤2^min b.toNat k.bits:=Int.le_of_lt (Int.pow_pos (by decide))
   simp only[At.den,binOp,Op.shift,Int.not_lt.mpr hp,if_false]
   simp[P0,Sem.run_pure,Int.fdiv_eq_ediv_of_nonneg _ hpos]
  all_goals
   simp only at h
   split at h
   ·rename_i hk
    subst hk
    exact Bb h hp w ρ
   ·cases h
 case str.str a b=>
  rw[Sem.run_bind,At.den,Rf _ _ _ _ _ _ (by simp) (by simp),Sem.run_pure,Result.andThen_ok]
  exact A6 h hp w ρ
theorem F9{P:Program}{neg:Bool}{t:TypeId}(ht:P.underlying t=some .bool)(a b:Bool)(w:World)(X Y:Operand):
 (do eqGuard (if neg then .neq else .eql) t X Y (.bool a) (.bool b);binOp (if neg then .neq else .eql) t (.bool a) (.bool b):Sem Value).run P w= .ok (.bool (if neg then a !=b else a==b)) w:=by
 have h:∀n,(Op.equalIn (n+1) t (.bool a) (.bool b)).run P w= .ok (a==b) w:=fun n=>by
  unfold Op.equalIn
  rw[Sem.run_bind,run_underlying ht,Result.andThen_ok]
  simp[Sem.run_pure]
 have h1:(Op.equal t (.bool a) (.bool b)).run P w= .ok (a==b) w:=h 9999
 rw[Sem.run_bind,Rf _ _ _ _ _ _ (by simp) (by simp),Sem.run_pure,Result.andThen_ok]
 cases neg<;>simp only[binOp,Bool.false_eq_true,if_false,if_true]<;>rw[Sem.run_bind,h1,Result.andThen_ok,Sem.run_pure]
 rfl
def Wj:TypeDesc→Bool
 |.struct _=>true
 |.array _ _=>true
 |_=>false
def sizes(P:Program)(fs:Array Field):Option (List (Nat×Nat)):=fs.toList.mapM fun f=>(P.info? f.type).map fun i=>(f.offset,i.size)
def Sm(pl:List (Nat×Nat)):List (Nat×Operand)→Option (List (Nat×Nat×Opd))
 | []=>some []
 |(i,x)::r=>match pl[i]?,Sm pl r with
  |some (o,z),some r'=>some ((o,z,opd x)::r')
  |_,_=>none
def Ei(P:Program)(g:TypeId→Option (List EK)):List Field→Nat→Option (List EK)
 | [],_=>some []
 |f::fs,o=>if f.name= "_" ∨f.offset≠o then none else match g f.type,P.info? f.type with
  |some ks,some i=>if i.size=ks.length∧0<ks.length then(match Ei P g fs (o+ks.length)with
   |some r=>some (ks++r)
   |none=>none)else none
  |_,_=>none
def I3(P:Program):Nat→TypeId→Option (List EK)
 |0,_=>none
 |n+1,t=>match P.underlying t with
  |some (.int _)=>some [.int]
  |some .string=>some [.str]
  |some .bool=>some [.bool]
  |some (.struct fs)=>if P.stoodInHeld t=true then none else Ei P (I3 P n) fs.toList 0
  |_=>none
def Bm(P:Program)(E:TypeId):Option Kd:=
 match P.underlying E,(P.info? E).bind (·.zero)with
 |some (.int q),some (.int q' n)=>if q'=q∧n=0 then some (.int q)else none
 |some .bool,some (.bool b)=>if b=false then some .bool else none
 |_,_=>none
def Mg(P:Program)(K E:TypeId):Option Kd:=
 match P.underlying K with
 |some .string=>Bm P E
 |_=>none
def Re(P:Program)(o:Oper):Option I:=
 match o.op with
 |.move x=>some (.mv (opd x))
 |.assign x=>some (.mv (opd x))
 |.pick c x y=>some (.pick (opd c) (opd x) (opd y))
 |.binOp op t x y _=>
  match P.underlying t with
  |some .bool=>(match op with|.eql=>some (.beq false (opd x) (opd y))|.neq=>some (.beq true (opd x) (opd y))|_=>none)
  |some (.int _)=>some (.bin op (opd x) (opd y))
  |some .string=>some (.bin op (opd x) (opd y))
  |some (.slice _)=>(match op with|.eql=>some (.snil false (opd x) (opd y))|.neq=>some (.snil true (opd x) (opd y))|_=>none)
  |some (.func _ _ _)=>(match op with|.eql=>some (.fnil false (opd x) (opd y))|.neq=>some (.fnil true (opd x) (opd y))|_=>none)
  |some (.struct _)=>if P.eqGuardType P.depth t=true then none else(match I3 P 6 t with
   |some ks=>(match op with|.eql=>some (.aeq false ks (opd x) (opd y))|.neq=>some (.aeq true ks (opd x) (opd y))|_=>none)
   |none=>none)
  |_=>none
 |.unOp op _ x=>some (.un op (opd x))
 |.convert s d x=>
  match P.underlying s,P.underlying d with
  |some _,some (.int k)=>some (.conv k (opd x))
  |some .string,some (.slice e)=>(match P.underlying e with
   |some (.int .u8)=>some (.s2b (opd x))
   |_=>none)
  |some (.slice e),some .string=>(match P.underlying e with
   |some (.int .u8)=>some (.b2s (opd x))
   |_=>none)
  |some (.int _),some .string=>some (.r2s (opd x))
  |some (.slice _),some (.slice e)=>if s=d then(match P.underlying e with
   |some (.int .u8)=>some (.frz (opd x))
   |_=>none)else none
  |_,_=>none
 |.load t x=>
  match P.underlying t,P.info? t with
  |some d,some i=>some (.load i.size (Wj d) (opd x))
  |_,_=>none
 |.fieldAddr t x f=>
  match P.underlying t with
  |some (.struct fs)=>(match fs[f]? with
   |some fl=>(match P.info? fl.type with
    |some i=>if i.size=0 then none else some (.faddr fl.offset (opd x))
    |none=>none)
   |none=>none)
  |_=>none
 |.indexAddr t x i=>
  match P.underlying t with
  |some (.slice e)=>(match P.info? e with
   |some j=>some (.iaddr j.size (opd x) (opd i))
   |none=>none)
  |some (.array n e)=>(match P.info? e with
   |some j=>some (.iarr n j.size (opd x) (opd i))
   |none=>none)
  |_=>none
 |.index t x i=>
  match P.underlying t with
  |some .string=>some (.sidx (opd x) (opd i))
  |_=>none
 |.field t x f=>
  match P.underlying t with
  |some (.struct fs)=>(match fs[f]? with
   |some fl=>(match P.underlying fl.type,P.info? fl.type with
    |some d,some i=>some (.fld fl.offset i.size (Wj d) (opd x))
    |_,_=>none)
   |none=>none)
  |_=>none
 |.extract x i=>some (.ext i (opd x))
 |.build t parts=>
  match P.underlying t,P.info? t with
  |some (.struct fs),some i=>(match i.zero,sizes P fs with
   |some z,some pl=>(match Sm pl parts.toList with
    |some ps=>if okV z then some (.build (z.cells.toList.map atV) ps)else none
    |none=>none)
   |_,_=>none)
  |some (.array n e),some i=>(match i.zero,P.info? e with
   |some z,some j=>(match Sm ((List.range n).map fun q=>(q*j.size,j.size)) parts.toList with
    |some ps=>if okV z then some (.build (z.cells.toList.map atV) ps)else none
    |none=>none)
   |_,_=>none)
  |_,_=>none
 |.alloc E=>
  match P.info? E with
  |some i=>(match i.zero with
   |some z=>if okV z then some (.alloc E (z.cells.toList.map atV))else none
   |none=>none)
  |none=>none
 |.box E x=>some (.box E (opd x))
 |.store t x v=>
  match P.info? t with
  |some i=>some (.store i.size (opd x) (opd v))
  |none=>none
 |.buildSlice t m parts=>
  match P.underlying t with
  |some (.slice e)=>(match P.info? e with
   |some i=>(match i.zero with
    |some z=>
     if m=0∧parts.toList=[]then some (.bsl0 e i.size)
     else if m*i.size≤1024∧0<m*i.size∧z.cells.size=i.size∧okV z=true then
      (match Sm ((List.range m).map fun q=>(q*i.size,i.size)) parts.toList with
      |some ps=>some (.bsl e i.size m ((List.replicate m (z.cells.toList.map atV)).flatten) ps)
      |none=>none)
     else none
    |none=>none)
   |none=>none)
  |_=>none
 |.call cl=>
  match cl.callee with
  |.value (.func f)=>(match P.funcs[f]? with
   |some fn=>if fn.name== "runtime.NumGoroutine" ||fn.body.isNone then none else some (.call f (cl.args.toList.map opd))
   |none=>none)
  |.value (.tmp t)=>some (.callv (opd (.tmp t)) (cl.args.toList.map opd))
  |.builtin .len=>(match cl.args.toList,cl.argTypes.toList with
   | [x],[t]=>(match P.underlying t with
     |some .string=>some (.slen (opd x))
     |some (.slice _)=>some (.len (opd x))
     |_=>none)
   |_,_=>none)
  |.builtin .append=>(match cl.args.toList,cl.argTypes.toList with
   | [x,y],[t,u]=>if t=u then(match P.underlying t with
     |some (.slice e)=>(match P.info? e with
      |some i=>(match i.zero with
       |some z=>if z.cells.size=i.size∧0<i.size∧okV z=true then some (.app t e i.size i.bytes (opd x) (opd y))else none
       |none=>none)
      |none=>none)
     |_=>none)else(match P.underlying t,P.underlying u with
     |some (.slice e),some .string=>(match P.info? e with
      |some i=>(match i.zero with
       |some (.int .u8 n)=>if n=0∧i.size=1∧i.bytes=1 then some (.apps t e (opd x) (opd y))else none
       |_=>none)
      |none=>none)
     |some (.slice e),some (.int _)=>(match P.info? e with
      |some _=>some (.app0 (opd x) (opd y))
      |none=>none)
     |_,_=>none)
   |_,_=>none)
  |.builtin .copy=>(match cl.args.toList,cl.argTypes.toList with
   | [x,y],t::_=>(match P.underlying t with
     |some (.slice e)=>(match P.info? e with
      |some i=>some (.cpy e i.size (opd x) (opd y))
      |none=>none)
     |_=>none)
   |_,_=>none)
  |_=>none
 |.slice t x lo hi mx=>
  match P.underlying t,mx with
  |some .string,none=>some (.ssl (opd x) (lo.map opd) (hi.map opd))
  |some (.slice e),none=>(match P.info? e with
   |some j=>some (.sl j.size (opd x) (lo.map opd) (hi.map opd))
   |none=>none)
  |some (.array n e),none=>(match lo,hi,P.info? e with
   |none,none,some j=>if j.size=1 then some (.slA n (opd x))else none
   |_,_,_=>none)
  |_,_=>none
 |.makeSlice t x y=>
  match P.underlying t with
  |some (.slice e)=>(match Bm P e,P.info? e with
   |some k,some i=>if i.size=1∧k.sz=1 then some (.mks e k i.bytes (opd x) (opd y))else none
   |_,_=>none)
  |_=>none
 |.makeFunc fn first captured=>
  match fn with
  |.func f=>if first.size=0 then some (.mkf f (captured.toList.map opd))else none
  |_=>none
 |.makeMap t r=>
  match r,P.underlying t with
  |none,some (.map K E)=>(match Mg P K E with
   |some k=>some (.mkmap P K E k)
   |none=>none)
  |_,_=>none
 |.lookup t x i ok=>
  match P.underlying t with
  |some (.map K E)=>(match Mg P K E with
   |some k=>some (.mlook P K E k ok (opd x) (opd i))
   |none=>none)
  |_=>none
 |.mapUpdate t x i v=>
  match P.underlying t with
  |some (.map K E)=>(match Mg P K E with
   |some k=>some (.mupd P K E k (opd x) (opd i) (opd v))
   |none=>none)
  |_=>none
 |.nilCheck x=>some (.nchk (opd x))
 |_=>none
def Rt(P:Program)(t:TypeId):Bool:=match P.underlying t with
 |some (.map K _)=>(match P.underlying K with
  |some .string=>true
  |_=>false)
 |_=>false
def Gy(P:Program)(o:Oper):Option I:=
 match o.op with
 |.makeMap t none=>if Rt P t=true then some .fmk else none
 |.lookup t x i ok=>if Rt P t=true then some (.flook ok (opd x) (opd i))else none
 |.mapUpdate t x i v=>if Rt P t=true then some (.fupd (opd x) (opd i) (opd v))else none
 |.range t x=>if Rt P t=true then some (.frng (opd x))else none
 |.insert t x i v=>if Rt P t=true then some (.fupd (opd x) (opd i) (opd v))else none
 |.next x false=>some (.fnxt (opd x))
 |.entry x=>some (.fent (opd x))
 |_=>none
def Nw(P:Program)(o:Oper):Option I:=match Re P o with
 |some i=>some i
 |none=>Gy P o
def I.isX:I→Bool
 |.fmk=>true
 |.fupd _ _ _=>true
 |.flook _ _ _=>true
 |.frng _=>true
 |.fnxt _=>true
 |.fent _=>true
 |_=>false
theorem Gz{P:Program}{o:Oper}{i:I}(h:Gy P o=some i):i.isX=true:=by
 unfold Gy at h
 split at h<;>(repeat' split at h)<;>cases h<;>rfl
theorem compI_cases{P:Program}{o:Oper}{i:I}(h:Nw P o=some i):Re P o=some i∨Gy P o=some i:=by
 unfold Nw at h
 split at h
 ·rename_i hh;cases h;exact .inl hh
 ·exact .inr h
theorem Ec{P:Program}{o:Oper}{i:I}(h:Nw P o=some i)(hx:i.isX=false):Re P o=some i:=by
 rcases compI_cases h with h|h
 ·exact h
 ·rw[Gz h]at hx;cases hx
theorem Zfm{P:Program}{o:Oper}{i:I}(h:Re P o=some i):Nw P o=some i:=by unfold Nw;rw[h]
def dstOk(nt:Nat):Option Nat→Bool
 |some d=>decide (d<nt)
 |none=>true
def Xs(P:Program)(nt:Nat)(ops:Array Oper)(o:Oper):Option In:=
 match Nw P o with
 |none=>none
 |some i=>
  if dstOk nt o.dst=true then
   match o.guard with
   |none=>some ⟨none,o.dst,i⟩
   |some (j,b)=>(match(ops[j]?).bind (·.dst)with
    |some t=>if t<BIG then some ⟨some (t,b),o.dst,i⟩else none
    |none=>none)
  else none
def Vh(l:List At)(o n:Nat)(agg:Bool):Option SV:=
 if agg then(if o+n≤l.length then some (.one (.agg ((l.drop o).take n)))else none)
 else match l[o]? with
  |some u=>some (.one (.a u))
  |none=>none
def Wc(s:List UInt8)(i:Nat):Int:=((s.getD i 0).toNat:Int)
def Jf:List At→Option (List (Kd.ty (.int .i64)))
 | []=>some []
 |.int .i64 n::l=>(match Jf l with
  |some r=>some (n::r)
  |none=>none)
 |_=>none
def u8s:List At→Option (List (Kd.ty (.int .u8)))
 | []=>some []
 |.int .u8 n::l=>(match u8s l with
  |some r=>some (n::r)
  |none=>none)
 |_::_=>none
def toB(n:Int):UInt8:=UInt8.ofNat n.toNat
def bytesI(s:List UInt8):List (Kd.ty (.int .u8)):=s.map fun b=>((b.toNat:Nat):Int)
def We(l:List At)(o:Nat)(us:List At):List At:=l.take o++us++l.drop (o+us.length)
def S1.cells:S1→List At
 |.a x=>[x]
 |.agg l=>l
def W1(S:St):List (Nat×Nat×Opd)→List At→Option (Prop×List At)
 | [],l=>some (True,l)
 |(o,z,x)::r,l=>match S.rd x with
  |some (p,v)=>if v.cells.length=z∧o+z≤l.length then(match W1 S r (We l o v.cells)with
   |some (q,l')=>some (p∧q,l')
   |none=>none)else none
  |none=>none
def Je:EK→At→At→Option Bool
 |.int,.int k a,.int k' b=>if k=k' then some (decide (a=b))else none
 |.str,.str a,.str b=>some (decide (a=b))
 |.bool,.bool a,.bool b=>some (a==b)
 |_,_,_=>none
def Qg:List EK→List At→List At→Option Bool
 | [],[],[]=>some true
 |k::ks,x::l,y::m=>match Je k x y,Qg ks l m with
  |some a,some b=>some (a&&b)
  |_,_=>none
 |_,_,_=>none
def Rl(S:St):List Opd→Option (Prop×List S1)
 | []=>some (True,[])
 |x::r=>match S.rd x,Rl S r with
  |some (p,v),some (q,l)=>some (p∧q,v::l)
  |_,_=>none
def Up:List S1→Option (List Nat)
 | []=>some []
 |.a (.loc m 0)::r=>(match Up r with
  |some l=>some (m::l)
  |none=>none)
 |_=>none
def atK:(k:Kd)→k.ty→At
 |.int q,n=>.int q n
 |.bool,b=>.bool b
 |_,_=>.bool false
def Mh(ok:Bool)(k:Kd)(o:Option k.ty):SV:=if ok then .tup [.a (atK k (o.getD k.dflt)),.a (.bool o.isSome)]else .one (.a (atK k (o.getD k.dflt)))
def lenOf(S:St)(sz m:Nat):Option Nat:=
 match S.find m with
 |some (.ro k l)=>if sz=k.sz then some l.length else none
 |some (.row _ k l)=>if sz=k.sz then some l.length else none
 |some (.lit _ z e _)=>if sz=z then some e else none
 |_=>none
def ev(S:St):I→Option (Prop×SV)
 |.mv x=>match S.rd x with
  |some (p,v)=>some (p,.one v)
  |none=>match x with
   |.t t=>(match S.get t with
    |some (.tup l)=>some (True,.tup l)
    |_=>none)
   |_=>none
 |.pick c x y=>match S.rd c,S.rd x,S.rd y with
  |some (pc,.a (.bool g)),some (px,.a u),some (py,.a v)=>(match Uw g u v with
   |some z=>some (pc∧(g=true→px)∧(g=false→py),.one (.a z))
   |none=>none)
  |_,_,_=>none
 |.bin op x y=>match S.rd x,S.rd y with
  |some (p,.a u),some (q,.a v)=>(match Qy op u v with
   |some (r,z)=>some (p∧q∧r,.one (.a z))
   |none=>none)
  |_,_=>none
 |.beq neg x y=>match S.rd x,S.rd y with
  |some (p,.a (.bool u)),some (q,.a (.bool v))=>some (p∧q,.one (.a (.bool (if neg then u !=v else u==v))))
  |_,_=>none
 |.aeq neg ks x y=>match S.rd x,S.rd y with
  |some (p,.agg u),some (q,.agg v)=>(match Qg ks u v with
   |some b=>some (p∧q,.one (.a (.bool (if neg then !b else b))))
   |none=>none)
  |_,_=>none
 |.un op x=>match S.rd x with
  |some (p,.a u)=>(match Gd op u with
   |some z=>some (p,.one (.a z))
   |none=>none)
  |_=>none
 |.conv k x=>match S.rd x with
  |some (p,.a (.int _ n))=>some (p,.one (.a (.int k (k.wrap n))))
  |_=>none
 |.load n agg x=>match S.rd x with
  |some (p,.a (.loc m o))=>(match S.find m with
   |some (.cells _ l)=>(match Vh l o n agg with
    |some v=>some (p,v)
    |none=>none)
   |some (.rocells l)=>(match Vh l o n agg with
    |some v=>some (p,v)
    |none=>none)
   |_=>none)
  |some (p,.a (.elt m sz i j))=>(match S.find m with
   |some (.ro k l)=>if sz=k.sz then(match Vh (k.enc (l.getD i k.dflt)) j n agg with
    |some v=>some (p∧i<l.length,v)
    |none=>none)else none
   |some (.row _ k l)=>if sz=k.sz then(match Vh (k.enc (l.getD i k.dflt)) j n agg with
    |some v=>some (p∧i<l.length,v)
    |none=>none)else none
   |some (.lit _ _ _ l)=>(match Vh l (i*sz+j) n agg with
    |some v=>some (p,v)
    |none=>none)
   |_=>none)
  |_=>none
 |.nchk x=>match S.rd x with
  |some (p,.a (.loc m o))=>(match S.find m with
   |some (.cells _ _)=>some (p,.one (.a (.loc m o)))
   |some (.rocells _)=>some (p,.one (.a (.loc m o)))
   |_=>none)
  |_=>none
 |.faddr off x=>match S.rd x with
  |some (p,.a (.loc m o))=>(match S.find m with
   |some (.cells _ _)=>some (p,.one (.a (.loc m (o+off))))
   |some (.rocells _)=>some (p,.one (.a (.loc m (o+off))))
   |_=>none)
  |some (p,.a (.elt m sz i j))=>(match S.find m with
   |some (.ro _ l)=>some (p∧i<l.length,.one (.a (.elt m sz i (j+off))))
   |some (.row _ _ l)=>some (p∧i<l.length,.one (.a (.elt m sz i (j+off))))
   |some (.lit _ _ e _)=>some (p,.one (.a (.elt m sz i (j+off))))
   |some (.rou l)=>some (p∧i<l.length,.one (.a (.elt m sz i (j+off))))
   |_=>none)
  |_=>none
 |.iaddr sz x i=>match S.rd x,S.rd i with
  |some (p,.a (.ref m)),some (q,.a (.int _ n))=>(match S.find m with
   |some (.ro k l)=>if sz=k.sz then some (p∧q∧0≤n∧n<l.length,.one (.a (.elt m sz n.toNat 0)))else none
   |some (.row _ k l)=>if sz=k.sz then some (p∧q∧0≤n∧n<l.length,.one (.a (.elt m sz n.toNat 0)))else none
   |some (.lit _ z e _)=>if sz=z then some (p∧q∧0≤n∧n<e,.one (.a (.elt m sz n.toNat 0)))else none
   |some (.rou l)=>if sz=2 then some (p∧q∧0≤n∧n<l.length,.one (.a (.elt m sz n.toNat 0)))else none
   |some (.view m' z lo hi)=>if sz=z then(match lenOf S sz m' with
    |some e=>some (p∧q∧0≤n∧n<(hi:Int)-lo∧hi≤e,.one (.a (.elt m' sz (lo+n.toNat) 0)))
    |none=>none)else none
   |_=>none)
  |_,_=>none
 |.sidx x i=>match S.rd x,S.rd i with
  |some (p,.a (.str s)),some (q,.a (.int _ n))=>some (p∧q∧0≤n∧n<s.length,.one (.a (.int .u8 (Wc s n.toNat))))
  |_,_=>none
 |.fld off n agg x=>match S.rd x with
  |some (p,.agg l)=>(match Vh l off n agg with
   |some v=>some (p,v)
   |none=>none)
  |_=>none
 |.ext i x=>match x with
  |.t t=>(match S.get t with
   |some (.tup l)=>(match l[i]? with
    |some v=>some (True,.one v)
    |none=>none)
   |_=>none)
  |_=>none
 |.build z ps=>match W1 S ps z with
  |some (p,l)=>some (p,.one (.agg l))
  |none=>none
 |.slen x=>match S.rd x with
  |some (p,.a (.str s))=>some (p,.one (.a (.int .i64 s.length)))
  |_=>none
 |.len x=>match S.rd x with
  |some (p,.a (.ref m))=>(match S.find m with
   |some (.ro k l)=>some (p,.one (.a (.int .i64 l.length)))
   |some (.row _ k l)=>some (p,.one (.a (.int .i64 l.length)))
   |some (.lit _ _ e _)=>some (p,.one (.a (.int .i64 e)))
   |some (.rou l)=>some (p,.one (.a (.int .i64 l.length)))
   |some (.urow _ _ l)=>some (p,.one (.a (.int .i64 l.length)))
   |some (.view _ _ lo hi)=>some (p,.one (.a (.int .i64 ((hi-lo:Nat):Int))))
   |_=>none)
  |some (p,.a (.raw (.slice none 0 0)))=>some (p,.one (.a (.int .i64 0)))
  |_=>none
 |.ssl x lo hi=>
  match S.rd x,(match lo with|some l=>S.rd l|none=>some (True,.a (.int .i64 0))),(match hi with|some h=>S.rd h|none=>(match S.rd x with|some (_,.a (.str s))=>some (True,.a (.int .i64 s.length))|_=>none))with
  |some (p,.a (.str s)),some (q,.a (.int _ l)),some (r,.a (.int _ h))=>some (p∧q∧r∧0≤l∧l≤h∧h≤s.length,.one (.a (.str ((s.take h.toNat).drop l.toNat))))
  |_,_,_=>none
 |.r2s x=>match S.rd x with
  |some (p,.a (.int _ n))=>some (p∧0≤n∧n<128,.one (.a (.str [toB n])))
  |_=>none
 |.iarr n sz x i=>match S.rd x,S.rd i with
  |some (p,.a (.loc m o)),some (q,.a (.int _ z))=>(match S.find m with
   |some (.cells _ _)=>some (p∧q∧0≤z∧z<n,.one (.a (.loc m (o+z.toNat*sz))))
   |some (.rocells _)=>some (p∧q∧0≤z∧z<n,.one (.a (.loc m (o+z.toNat*sz))))
   |_=>none)
  |_,_=>none
 |.fnil neg x y=>match S.rd x,S.rd y with
  |some (p,.a (.raw .nilFunc)),some (q,.a (.raw .nilFunc))=>some (p∧q,.one (.a (.bool (!neg))))
  |_,_=>none
 |.snil neg x y=>match S.rd x,S.rd y with
  |some (p,.a (.ref m)),some (q,.a (.raw (.slice none 0 0)))=>(match S.find m with
   |some (.row _ _ l)=>some (p∧q∧0<l.length,.one (.a (.bool neg)))
   |some (.ro _ l)=>some (p∧q∧0<l.length,.one (.a (.bool neg)))
   |_=>none)
  |some (p,.a (.raw (.slice none 0 0))),some (q,.a (.raw (.slice none 0 0)))=>some (p∧q,.one (.a (.bool (!neg))))
  |_,_=>none
 |.app0 x y=>match S.rd x,S.rd y with
  |some (p,.a (.ref m)),some (q,.a (.int _ n))=>(match S.find m with
   |some (.row _ _ _)=>some (p∧q∧n=0,.one (.a (.ref m)))
   |_=>none)
  |_,_=>none
 |.mkf f caps=>match Rl S caps with
  |some (p,vs)=>(match Up vs with
   |some ms=>some (p,.one (.a (.clo f ms)))
   |none=>none)
  |none=>none
 |.mlook P K E k ok x i=>match S.rd x,S.rd i with
  |some (p,.a (.ref m)),some (q,.a (.str s))=>(match S.find m with
   |some (.smap P' K' E' k' f n)=>if K'=K∧E'=E then some (p∧q∧(P'=P∧k'=k)∧s.length≤9223372036854775807,Mh ok k' (f s))else none
   |some (.rosmap P' K' E' k' f n)=>if K'=K∧E'=E then some (p∧q∧(P'=P∧k'=k)∧s.length≤9223372036854775807,Mh ok k' (f s))else none
   |_=>none)
  |_,_=>none
 |_=>none
end Vc
end Go.Proofs.YtddmlennnmpnhaaGreatDoor
