/- A part of the proofs of this seat's laws: steps on the way, joined. It has no conditions of its own. -/
import Derived.WalkKit
import Derived.WalkSpells
import Derived.WalkLawsBesides
import Derived.Deep.Quiet
import Derived.Calls
import Derived.Below
import Derived.StringKeys
import Derived.Maps.Own
import Derived.Maps.Views
namespace Go.Proofs.YtbmecnjmbhokgaaGreatDoor
namespace Vc
open Go.RowKit
set_option linter.unusedVariables false
set_option linter.unusedSimpArgs false
inductive At where
 |int (k:IntKind) (n:Int)
 |bool (b:Bool)
 |str (s:List UInt8)
 |raw (v:Value)
 |ref (n:Nat)
 |loc (n off:Nat)
 |elt (n sz i j:Nat)
 |clo (f:Nat) (ms:List Nat)
@[reducible] def Env:=Nat→Value
def Yv:Value:=.pointer none
def Wl:Value→Nat→Value
 |.pointer (some a),k=>.pointer (some ⟨a.block,a.off+k,none⟩)
 |_,_=>Yv
def Vx:Value→Nat→Value
 |.slice (some a) _ _,k=>.pointer (some ⟨a.block,a.off+k,none⟩)
 |_,_=>Yv
def At.den(ρ:Env):At→Value
 |.int k n=>.int k n
 |.bool b=>.bool b
 |.str s=>.string ⟨s.toArray⟩
 |.raw v=>v
 |.ref n=>ρ n
 |.loc n o=>Wl (ρ n) o
 |.elt n sz i j=>Vx (ρ n) (i*sz+j)
 |.clo f ms=>.func (.func f) #[] (ms.map fun m=>Wl (ρ m) 0).toArray
def At.bd(nx:Nat):At→Prop
 |.ref n=>n<nx
 |.loc n _=>n<nx
 |.elt n _ _ _=>n<nx
 |.clo _ ms=>∀m∈ms,m<nx
 |.raw v=>v.oneCell'=true
 |_=>True
inductive S1 where
 |a (x:At)
 |agg (l:List At)
def S1.den(ρ:Env):S1→Value
 |.a x=>x.den ρ
 |.agg l=>.agg (l.map (At.den ρ)).toArray
def S1.bd(nx:Nat):S1→Prop
 |.a x=>x.bd nx
 |.agg l=>∀x∈l,x.bd nx
inductive SV where
 |one (x:S1)
 |tup (l:List S1)
 |opt (g:Bool) (x:S1)
def SV.den(ρ:Env):SV→Value
 |.one x=>x.den ρ
 |.tup l=>.tuple (l.map (S1.den ρ)).toArray
 |.opt g x=>if g=true then x.den ρ else undef
def SV.bd(nx:Nat):SV→Prop
 |.one x=>x.bd nx
 |.tup l=>∀x∈l,x.bd nx
 |.opt g x=>g=true→x.bd nx
def Ql(nx:Nat)(ρ ρ':Env):Prop:=∀n,n<nx→ρ' n=ρ n
theorem At.den_same{nx:Nat}{ρ ρ':Env}(h:Ql nx ρ ρ'){x:At}(hx:x.bd nx):x.den ρ'=x.den ρ:=by
 cases x with
 |clo f ms=>
  simp only[At.bd]at hx
  simp only[At.den]
  rw[List.map_congr_left fun m hm=>by rw[h m (hx m hm)]]
 |_=>simp only[At.bd]at hx<;>simp only[At.den]<;>(try rw[h _ hx])
theorem Vi{nx:Nat}{ρ ρ':Env}(h:Ql nx ρ ρ'){l:List At}(hl:∀x∈l,x.bd nx):l.map (At.den ρ')=l.map (At.den ρ):=
 List.map_congr_left fun x hx=>At.den_same h (hl x hx)
theorem S1.den_same{nx:Nat}{ρ ρ':Env}(h:Ql nx ρ ρ'){x:S1}(hx:x.bd nx):x.den ρ'=x.den ρ:=by
 cases x with
 |a x=>exact At.den_same h hx
 |agg l=>simp only[S1.den];rw[Vi h hx]
theorem SV.den_same{nx:Nat}{ρ ρ':Env}(h:Ql nx ρ ρ'){x:SV}(hx:x.bd nx):x.den ρ'=x.den ρ:=by
 cases x with
 |one x=>exact S1.den_same h hx
 |tup l=>simp only[SV.den];rw[List.map_congr_left fun x hx'=>S1.den_same h (hx x hx')]
 |opt g x=>
  simp only[SV.den]
  split
  ·rename_i hg;rw[S1.den_same h (hx hg)]
  ·rfl
theorem At.bd_mono{nx nx':Nat}(h:nx≤nx'){x:At}(hx:x.bd nx):x.bd nx':=by
 cases x<;>simp only[At.bd]at hx ⊢ <;>first|omega|exact hx|exact fun m hm=>Nat.lt_of_lt_of_le (hx m hm) h
theorem S1.bd_mono{nx nx':Nat}(h:nx≤nx'){x:S1}(hx:x.bd nx):x.bd nx':=by
 cases x with
 |a x=>exact At.bd_mono h hx
 |agg l=>exact fun y hy=>At.bd_mono h (hx y hy)
theorem SV.bd_mono{nx nx':Nat}(h:nx≤nx'){x:SV}(hx:x.bd nx):x.bd nx':=by
 cases x with
 |one x=>exact S1.bd_mono h hx
 |tup l=>exact fun y hy=>S1.bd_mono h (hx y hy)
 |opt g x=>exact fun hg=>S1.bd_mono h (hx hg)
structure Ins where
 op:Int
 d:Int
 s:Int
 imm:Int
 deriving DecidableEq
structure Ln where
 label:List UInt8
 ins:Ins
 ref:List UInt8
structure Spot where
 name:List UInt8
 at_:Int
structure Unt where
 name:List UInt8
 la:Option Addr
 ln:Nat
 lc:Nat
inductive Kd where
 |int (k:IntKind)
 |bool
 |str
 |ins
 |line
 |spot
 |unt
@[reducible] def Kd.ty:Kd→Type
  |.int _=>Int
  |.bool=>Bool
  |.str=>List UInt8
  |.ins=>Ins
  |.line=>Ln
  |.spot=>Spot
  |.unt=>Unt
@[reducible] def Kd.sz:Kd→Nat
  |.ins=>4
  |.line=>6
  |.spot=>2
  |.unt=>2
  |_=>1
def Ins.cells(x:Ins):List At:=[.int .i64 x.op,.int .i64 x.d,.int .i64 x.s,.int .i64 x.imm]
def Ln.cells(x:Ln):List At:=[.str x.label,.int .i64 x.ins.op,.int .i64 x.ins.d,.int .i64 x.ins.s,.int .i64 x.ins.imm,.str x.ref]
def Kd.enc:(k:Kd)→k.ty→List At
 |.int k,n=>[.int k n]
 |.bool,b=>[.bool b]
 |.str,s=>[.str s]
 |.ins,x=>x.cells
 |.line,x=>x.cells
 |.spot,x=>[.str x.name,.int .i64 x.at_]
 |.unt,x=>[.str x.name,.raw (.slice x.la x.ln x.lc)]
def Kd.dec:(k:Kd)→List At→Option k.ty
 |.int _,[.int _ n]=>some n
 |.bool,[.bool b]=>some b
 |.str,[.str s]=>some s
 |.ins,[.int _ a,.int _ b,.int _ c,.int _ d]=>some ⟨a,b,c,d⟩
 |.line,[.str l,.int _ a,.int _ b,.int _ c,.int _ d,.str r]=>some ⟨l,⟨a,b,c,d⟩,r⟩
 |.spot,[.str s,.int _ n]=>some ⟨s,n⟩
 |.unt,[.str s,.raw (.slice a n c)]=>some ⟨s,a,n,c⟩
 |_,_=>none
def Kd.dflt:(k:Kd)→k.ty
 |.int _=>(0:Int)
 |.bool=>false
 |.str=>([]:List UInt8)
 |.ins=>(⟨0,0,0,0⟩:Ins)
 |.line=>(⟨[],⟨0,0,0,0⟩,[]⟩:Ln)
 |.spot=>(⟨[],0⟩:Spot)
 |.unt=>(⟨[],none,0,0⟩:Unt)
theorem Kd.enc_length(k:Kd)(x:k.ty):(k.enc x).length=k.sz:=by cases k<;>rfl
theorem Kd.sz_pos(k:Kd):0<k.sz:=by cases k<;>simp[Kd.sz]
theorem Kd.enc_den(k:Kd)(x:k.ty)(ρ ρ':Env):(k.enc x).map (At.den ρ')=(k.enc x).map (At.den ρ):=by cases k<;>rfl
theorem Kd.enc_at(k:Kd)(x:k.ty)(ρ ρ':Env){j:Nat}{u:At}(h:(k.enc x)[j]? =some u):u.den ρ'=u.den ρ:=by
 have:=congrArg (fun l:List Value=>l[j]?) (k.enc_den x ρ ρ')
 simpa[h]using this
theorem Kd.encs_den(k:Kd)(l:List k.ty)(ρ ρ':Env):(l.flatMap k.enc).map (At.den ρ')=(l.flatMap k.enc).map (At.den ρ):=by
 induction l with
 |nil=>rfl
 |cons x l ih=>simp only[List.flatMap_cons,List.map_append,ih,k.enc_den x ρ ρ']
theorem Kd.encs_length(k:Kd)(l:List k.ty):(l.flatMap k.enc).length=l.length*k.sz:=by
 induction l with
 |nil=>simp
 |cons x l ih=>simp only[List.flatMap_cons,List.length_append,ih,k.enc_length,List.length_cons,Nat.succ_mul];omega
theorem Kd.enc_bd(k:Kd)(x:k.ty)(nx:Nat):∀u∈k.enc x,u.bd nx:=by
 cases k<;>simp[Kd.enc,Ins.cells,Ln.cells,At.bd,Value.oneCell']
theorem Kd.encs_get(k:Kd):∀(l:List k.ty) (i j:Nat) (x:k.ty),l[i]? =some x→j<k.sz→(l.flatMap k.enc)[i*k.sz+j]? =(k.enc x)[j]?
 | [],_,_,_,h,_=>by simp at h
 |y::l,0,j,x,h,hj=>by
  simp at h;subst h
  simp only[List.flatMap_cons,Nat.zero_mul,Nat.zero_add]
  rw[List.getElem?_append_left (by rw[k.enc_length];exact hj)]
 |y::l,i+1,j,x,h,hj=>by
  have:=Kd.encs_get k l i j x (by simpa using h) hj
  simp only[List.flatMap_cons,Nat.succ_mul]
  rw[List.getElem?_append_right (by rw[k.enc_length];omega),k.enc_length,←this]
  congr 1;omega
def litK:(k:Kd)→k.ty→DataW Unit
 |.int q,n=>.lit (.int q n)
 |.bool,b=>.lit (.bool b)
 |_,_=>.nil
def valK:(k:Kd)→k.ty→Value
 |.int q,n=>.int q n
 |.bool,b=>.bool b
 |_,_=>undef
def Zgh(P:Program)(K E:TypeId)(k:Kd)(f:List UInt8→Option k.ty)(n:Nat)(es:Array MapEntry)(clock:Nat):Prop:=
 WideElems.Fit P K (plainElem (H:=Unit) P E) es clock∧es.size≤n∧
  ∀(s:List UInt8) (z:DataW Unit),(DataW.map ((es.toList.map (WideElems.rg P K (plainElem (H:=Unit) P E))).foldr DataW.insert [])).atKey (.string s) z=match f s with|some x=>litK k x|none=>z
def Xr(P:Program)(f:Nat):Bool:=
 match P.funcs[f]? with
 |some fn=> !(fn.name== "runtime.NumGoroutine" ||fn.body.isNone)
 |none=>false
def FnAt(P:Program)(w:World)(v:Value)(g:List S1→Option SV):Prop:=
 ∃f cap,(v= .func (.func f) #[] cap∧Xr P f=true)∧∀aq r,g aq=some r→Calls P f ((aq.map (S1.den fun _=>Yv)).toArray++cap) w fun e w'=>e= .returned (r.den fun _=>Yv)∧Below w.heap.size w w'
def U4(w:World)(O:List Nat)(base:Nat)(a1:Option Addr)(ls:List Ln):Prop:=
 (a1=none→ls=[])∧∀ad1:Addr,a1=some ad1→(ls≠[]→ad1.spot=none)∧
   ∀(j:Nat) (y:Ln),ls[j]? =some y→∀(q:Nat) (u:At),(Kd.line.enc y)[q]? =some u→w.cell? ⟨ad1.block,ad1.off+(j*6+q),none⟩=some (u.den fun _=>Yv)∧ad1.block∉O∧base≤ad1.block
def Ys(l:List (List UInt8×Nat)):Array MapEntry:=(l.zipIdx.map fun p=>(⟨.string ⟨p.1.1.toArray⟩,.func (.func p.1.2) #[] #[],p.2⟩:MapEntry)).toArray
inductive Res:Type where
 |cells (E:TypeId) (l:List At)
 |row (E:TypeId) (k:Kd) (l:List k.ty)
 |lit (E:TypeId) (sz m:Nat) (l:List At)
 |rocells (l:List At)
 |ro (k:Kd) (l:List k.ty)
 |fact (Φ:World→Prop)
 |smap (P:Program) (K E:TypeId) (k:Kd) (f:List UInt8→Option k.ty) (n:Nat)
 |rosmap (P:Program) (K E:TypeId) (k:Kd) (f:List UInt8→Option k.ty) (n:Nat)
 |rou (l:List (List UInt8×List Ln))
 |urow (base:Nat) (E:TypeId) (l:List (List UInt8×List Ln))
 |fn (P:Program) (g:List S1→Option SV)
 |view (m sz lo hi:Nat)
 |fmap (l:List (List UInt8×Nat))
 |fiter (m n:Nat) (seen:List Nat)
 |arr (m o n:Nat)
def Res.block(ρ:Env)(n:Nat):Res→Option Nat
 |.cells _ _=>match ρ n with|.pointer (some a)=>some a.block|_=>none
 |.row _ _ _=>(ρ n).ownBlock
 |.lit _ _ _ _=>(ρ n).ownBlock
 |.smap _ _ _ _ _ _=>match ρ n with|.map (some b)=>some b|_=>none
 |.urow _ _ _=>(ρ n).ownBlock
 |.fmap _=>match ρ n with|.map (some b)=>some b|_=>none
 |.fiter _ _ _=>match ρ n with|.pointer (some a)=>some a.block|_=>none
 |_=>none
def Zp(ρ:Env)(R:List (Nat×Res)):List Nat:=R.filterMap fun p=>p.2.block ρ p.1
def Rb(O:List Nat)(w w':World):Prop:=∀b o,w.heap[b]? =some o→b∉O→w'.heap[b]? =some o
def Res.holds(ρ:Env)(O:List Nat)(n:Nat)(w:World):Res→Prop
 |.cells E l=>∃b,ρ n= .pointer (some ⟨b,0,none⟩)∧w.heap[b]? =some (.cells (l.map (At.den ρ)).toArray E (0,0))
 |.row E k l=>w.ownsRow 0 E k.sz (ρ n) l.length ((l.flatMap k.enc).map (At.den ρ))
 |.lit E sz m l=>∃b,ρ n= .slice (some ⟨b,0,none⟩) m m∧l.length=m*sz∧w.heap[b]? =some (.cells (l.map (At.den ρ)).toArray E (0,0))
 |.rocells l=>∃a:Addr,ρ n= .pointer (some a)∧∀(j:Nat) (u:At),l[j]? =some u→w.cell? ⟨a.block,a.off+j,none⟩=some (u.den ρ)∧a.block∉O
 |.ro k l=>∃a cap,(ρ n= .slice a l.length cap∧l.length≤cap)∧(a=none→l=[])∧∀ad:Addr,a=some ad→(l≠[]→ad.spot=none)∧∀(i:Nat) (x:k.ty),l[i]? =some x→∀(j:Nat) (u:At),(k.enc x)[j]? =some u→
    w.cell? ⟨ad.block,ad.off+(i*k.sz+j),none⟩=some (u.den ρ)∧ad.block∉O
 |.fact Φ=>∀w',Rb O w w'→Φ w'
 |.smap P K E k f m=>∃b es clock,ρ n= .map (some b)∧w.heap[b]? =some (.map es clock)∧Zgh P K E k f m es clock
 |.rosmap P K E k f m=>∃b es clock,ρ n= .map (some b)∧(w.heap[b]? =some (.map es clock)∧b∉O)∧Zgh P K E k f m es clock
 |.rou l=>∃a cap,(ρ n= .slice a l.length cap∧l.length≤cap)∧(a=none→l=[])∧∀ad:Addr,a=some ad→(l≠[]→ad.spot=none)∧∀(i:Nat) (x:List UInt8×List Ln),l[i]? =some x→
    (w.cell? ⟨ad.block,ad.off+i*2,none⟩=some (.string ⟨x.1.toArray⟩)∧ad.block∉O)∧
    ∃a1 cap1,((w.cell? ⟨ad.block,ad.off+(i*2+1),none⟩=some (.slice a1 x.2.length cap1)∧ad.block∉O)∧x.2.length≤cap1)∧U4 w O 0 a1 x.2
 |.urow base E l=>∃us:List Unt,us.length=l.length∧w.ownsRow 0 E Kd.unt.sz (ρ n) us.length ((us.flatMap Kd.unt.enc).map (At.den fun _=>Yv))∧
    ∀(i:Nat) (u:Unt) (x:List UInt8×List Ln),us[i]? =some u→l[i]? =some x→u.name=x.1∧(u.ln=x.2.length∧u.ln≤u.lc)∧U4 w O base u.la x.2
 |.fn P g=>∀w',Rb O w w'→FnAt P w' (ρ n) g
 |.view m sz lo hi=>∃ad len cap ad',ρ m= .slice ad len cap∧ρ n= .slice ad' (hi-lo) (cap-lo)∧(lo≤hi∧hi≤cap)∧(lo<hi→∀x,ad'=some x→x.spot=none)∧(lo<cap→ad'=ad.map (·.add (lo*sz)))
 |.fmap l=>∃b,ρ n= .map (some b)∧w.heap[b]? =some (.map (Ys l) l.length)∧(∀p∈l,p.1.length≤1000)∧(l.map Prod.fst).Nodup
 |.arr m o q=>∃b,ρ m= .pointer (some ⟨b,0,none⟩)∧ρ n= .slice (some ⟨b,o,none⟩) q q
 |.fiter m q seen=>∃bi bm,ρ n= .pointer (some ⟨bi,0,none⟩)∧ρ m= .map (some bm)∧w.heap[bi]? =some (.mapIter (some bm) q seen.toArray q)
def Res.bd(nx:Nat):Res→Prop
 |.cells _ l=>∀x∈l,x.bd nx
 |.lit _ _ _ l=>∀x∈l,x.bd nx
 |.rocells l=>∀x∈l,x.bd nx
 |.view m _ _ _=>m<nx
 |.fiter m _ _=>m<nx
 |.arr m _ _=>m<nx
 |_=>True
theorem Res.bd_mono{nx nx':Nat}(h:nx≤nx'){r:Res}(hr:r.bd nx):r.bd nx':=by
 cases r<;>first|exact fun y hy=>At.bd_mono h (hr y hy)|trivial|exact Nat.lt_of_lt_of_le hr h
theorem Xl{w:World}{a:Addr}{v:Value}(h:w.cell? a=some v):a.block<w.heap.size:=World.block_lt_of_cell? w a h
theorem Pe{O:List Nat}{w w':World}(hk:Rb O w w'){a:Addr}{v:Value}(h:w.cell? a=some v)(ha:a.block∉O):w'.cell? a=some v:=by
 have hlt:=Xl h
 have he:w.heap[a.block]? =some w.heap[a.block]:=by simp[hlt]
 have:=hk _ _ he ha
 rw[World.cell?_of_block (w:=w) (by rw[this,he])]
 exact h
theorem Res.block_same{nx:Nat}{ρ ρ':Env}(h:Ql nx ρ ρ'){n:Nat}(hn:n<nx)(r:Res):r.block ρ' n=r.block ρ n:=by
 cases r<;>simp only[Res.block,h n hn]
theorem U4.carry{O O' D:List Nat}{w w':World}{base:Nat}{a1:Option Addr}{ls:List Ln}(hk:Rb D w w')(hD:∀b∈D,b∈O)(hO:∀b∈O',b∈O∨w.heap.size≤b)(h:U4 w O base a1 ls):U4 w' O' base a1 ls:=by
 refine⟨h.1,fun ad1 had1=>⟨(h.2 ad1 had1).1,fun j y hy q u hu=> ?_⟩⟩
 obtain⟨h1,h2,h3⟩:=(h.2 ad1 had1).2 j y hy q u hu
 refine⟨Pe hk h1 (fun hd=>h2 (hD _ hd)),fun hm=> ?_,h3⟩
 rcases hO _ hm with h4|h4
 ·exact h2 h4
 ·have:=Xl h1
  simp only at this
  omega
theorem Res.carry{nx:Nat}{ρ ρ':Env}{O O' D:List Nat}{n:Nat}{w w':World}{r:Res}(hs:Ql nx ρ ρ')(hn:n<nx)(hb:r.bd nx)
 (hk:Rb D w w')(hD:∀b∈D,b∈O)(hr:∀b,r.block ρ n=some b→b∉D)
 (hO:∀b∈O',b∈O∨w.heap.size≤b)(h:r.holds ρ O n w):r.holds ρ' O' n w':=by
 have hne:∀b o,w.heap[b]? =some o→b∉O→b∉O':=fun b o hbo hbO hbO'=>by
  rcases hO b hbO' with h1|h1
  ·exact hbO h1
  ·have:=(Array.getElem?_eq_some_iff.1 hbo).1;omega
 have hcell:∀(a:Addr) (v:Value),w.cell? a=some v→a.block∉O→w'.cell? a=some v∧a.block∉O':=fun a v hc ha=>by
  have hlt:=Xl hc
  exact⟨Pe hk hc (fun hd=>ha (hD _ hd)),hne a.block w.heap[a.block] (by simp[hlt]) ha⟩
 cases r with
 |cells E l=>
  obtain⟨b,hb1,hb2⟩:=h
  refine⟨b,by rw[hs n hn];exact hb1,?_⟩
  rw[Vi hs hb]
  exact hk b _ hb2 (hr b (by simp[Res.block,hb1]))
 |row E k l=>
  simp only[Res.holds]at h ⊢
  rw[hs n hn,k.encs_den l ρ ρ']
  obtain⟨h1,h2⟩:=h
  refine⟨h1,?_⟩
  rcases h2 with h2|⟨g,cap,cur,hv,hg,hh,r⟩
  ·exact Or.inl h2
  ·exact Or.inr ⟨g,cap,cur,hv,hg,hk g _ hh (hr g (by simp[Res.block,hv,Value.ownBlock])),r⟩
 |lit E sz m l=>
  obtain⟨b,hb1,hb2,hb3⟩:=h
  refine⟨b,by rw[hs n hn];exact hb1,hb2,?_⟩
  rw[Vi hs hb]
  exact hk b _ hb3 (hr b (by simp[Res.block,hb1,Value.ownBlock]))
 |rocells l=>
  obtain⟨a,ha,hc⟩:=h
  refine⟨a,by rw[hs n hn];exact ha,fun j u hu=> ?_⟩
  rw[At.den_same hs (hb u (List.mem_of_getElem? hu))]
  exact hcell _ _ (hc j u hu).1 (hc j u hu).2
 |ro k l=>
  obtain⟨a,cap,ha,hnil,hc⟩:=h
  refine⟨a,cap,by rw[hs n hn];exact ha,hnil,fun ad had=>⟨(hc ad had).1,fun i x hx j u hu=> ?_⟩⟩
  rw[k.enc_at x ρ ρ' hu]
  exact hcell _ _ ((hc ad had).2 i x hx j u hu).1 ((hc ad had).2 i x hx j u hu).2
 |fact Φ=>
  intro w'' hk''
  exact h w'' fun b o hbo hbO=>hk'' b o (hk b o hbo (fun hd=>hbO (hD _ hd))) (hne b o hbo hbO)
 |smap P K E k f m=>
  obtain⟨b,es,clock,hb1,hb2,hm⟩:=h
  exact⟨b,es,clock,by rw[hs n hn];exact hb1,hk b _ hb2 (hr b (by simp[Res.block,hb1])),hm⟩
 |rosmap P K E k f m=>
  obtain⟨b,es,clock,hb1,⟨hb2,hb3⟩,hm⟩:=h
  exact⟨b,es,clock,by rw[hs n hn];exact hb1,⟨hk b _ hb2 (fun hd=>hb3 (hD _ hd)),hne b _ hb2 hb3⟩,hm⟩
 |rou l=>
  obtain⟨a,cap,ha,hnil,hc⟩:=h
  refine⟨a,cap,by rw[hs n hn];exact ha,hnil,fun ad had=>⟨(hc ad had).1,fun i x hx=> ?_⟩⟩
  obtain⟨h1,a1,cap1,h2,h3⟩:=(hc ad had).2 i x hx
  exact⟨hcell _ _ h1.1 h1.2,a1,cap1,⟨hcell _ _ h2.1.1 h2.1.2,h2.2⟩,h3.carry hk hD hO⟩
 |urow base E l=>
  obtain⟨us,hlen,⟨h1,h2⟩,h3⟩:=h
  refine⟨us,hlen,?_,fun i u x hu hx=>⟨(h3 i u x hu hx).1,(h3 i u x hu hx).2.1,(h3 i u x hu hx).2.2.carry hk hD hO⟩⟩
  rw[hs n hn]
  refine⟨h1,?_⟩
  rcases h2 with h2|⟨g,cap,cur,hv,hg,hh,r⟩
  ·exact Or.inl h2
  ·exact Or.inr ⟨g,cap,cur,hv,hg,hk g _ hh (hr g (by simp[Res.block,hv,Value.ownBlock])),r⟩
 |fn P g=>
  intro w'' hk''
  rw[hs n hn]
  exact h w'' fun b o hbo hbO=>hk'' b o (hk b o hbo (fun hd=>hbO (hD _ hd))) (hne b o hbo hbO)
 |view m sz lo hi=>
  obtain⟨ad,len,cap,ad',h1,h2,h3⟩:=h
  exact⟨ad,len,cap,ad',by rw[hs m hb];exact h1,by rw[hs n hn];exact h2,h3⟩
 |fmap l=>
  obtain⟨b,h1,h2,h3⟩:=h
  exact⟨b,by rw[hs n hn];exact h1,hk b _ h2 (hr b (by simp[Res.block,h1])),h3⟩
 |arr m o q=>
  obtain⟨b,h1,h2⟩:=h
  exact⟨b,by rw[hs m hb];exact h1,by rw[hs n hn];exact h2⟩
 |fiter m q seen=>
  obtain⟨bi,bm,h1,h2,h3⟩:=h
  exact⟨bi,bm,by rw[hs n hn];exact h1,by rw[hs m hb];exact h2,hk bi _ h3 (hr bi (by simp[Res.block,h1]))⟩
structure Cx where
 P:Program
 w0:World
 X:List Nat
 nt:Nat
 fr:List Value
structure Mem (c:Cx) (ρ:Env) (R:List (Nat×Res)) (nx:Nat) (w:World):Prop where
 os:w.os=c.w0.os
 tape:w.tape=c.w0.tape
 output:w.output=c.w0.output
 size:c.w0.heap.size≤w.heap.size
 block:∀b,b<c.w0.heap.size→b∉c.X→w.heap[b]? =c.w0.heap[b]?
 one:∀n,(ρ n).oneCell'=true
 keys:(R.map Prod.fst).Nodup
 res:∀n r,(n,r)∈R→r.holds ρ (Zp ρ R) n w
 bdr:∀n r,(n,r)∈R→n<nx∧r.bd nx
 nodup:(Zp ρ R).Nodup
 lt:∀b∈Zp ρ R,b<w.heap.size∧(c.w0.heap.size≤b∨b∈c.X)
def del(R:List (Nat×Res))(ds:List Nat):List (Nat×Res):=R.filter fun p=> !ds.contains p.1
theorem X8{ρ:Env}{R:List (Nat×Res)}{ds:List Nat}:∀b∈Zp ρ (del R ds),b∈Zp ρ R:=by
 intro b hb
 obtain⟨p,hp,hpb⟩:=List.mem_filterMap.1 hb
 exact List.mem_filterMap.2 ⟨p,(List.mem_filter.1 hp).1,hpb⟩
theorem Re{nx:Nat}{ρ ρ':Env}(hs:Ql nx ρ ρ'){R:List (Nat×Res)}(hb:∀n r,(n,r)∈R→n<nx):Zp ρ' R=Zp ρ R:=by
 unfold Zp
 induction R with
 |nil=>rfl
 |cons p R ih=>
  have h1:=Res.block_same hs (hb p.1 p.2 (by simp)) p.2
  have h2:=ih fun n r h=>hb n r (by simp[h])
  simp only[List.filterMap_cons,h1,h2]
theorem Yf{ρ:Env}:∀ {R:List (Nat×Res)} {ds:List Nat} {n:Nat} {r:Res} {b:Nat},(R.map Prod.fst).Nodup→(Zp ρ R).Nodup→(n,r)∈R→n∈ds→r.block ρ n=some b→b∉Zp ρ (del R ds):=by
 intro R ds n r b hkk hnd hm hds hb hmem
 obtain⟨p,hp,hpb⟩:=List.mem_filterMap.1 hmem
 have hpR:=(List.mem_filter.1 hp).1
 have hpd:p.1∉ds:=by have:=(List.mem_filter.1 hp).2;simpa using this
 have hne:p≠(n,r):=fun e=>hpd (by rw[e];exact hds)
 clear hmem hp
 induction R with
 |nil=>cases hm
 |cons q R ih=>
  unfold Zp at hnd
  rw[List.filterMap_cons]at hnd
  have hin:∀ {s:Nat×Res},s∈R→s.2.block ρ s.1=some b→b∈R.filterMap fun p=>p.2.block ρ p.1:=fun hs hsb=>List.mem_filterMap.2 ⟨_,hs,hsb⟩
  rcases List.mem_cons.1 hm with hm1|hm1<;>rcases List.mem_cons.1 hpR with hp1|hp1
  ·exact hne (hp1.trans hm1.symm)
  ·subst hm1
   simp only[hb,List.nodup_cons]at hnd
   exact hnd.1 (hin hp1 hpb)
  ·subst hp1
   simp only[hpb,List.nodup_cons]at hnd
   exact hnd.1 (hin (s:=(n,r)) hm1 hb)
  ·refine ih (List.nodup_cons.1 (by simpa using hkk)).2 ?_ hm1 hp1
   split at hnd
   ·exact hnd
   ·exact(List.nodup_cons.1 hnd).2
theorem Gd{ρ:Env}{R:List (Nat×Res)}{ds:List Nat}(h:(Zp ρ R).Nodup):(Zp ρ (del R ds)).Nodup:=by
 unfold Zp del at*
 exact List.Nodup.sublist (List.Sublist.filterMap _ List.filter_sublist) h
theorem Ms{R:List (Nat×Res)}{ds:List Nat}(h:(R.map Prod.fst).Nodup):((del R ds).map Prod.fst).Nodup:=
 List.Nodup.sublist (List.Sublist.map _ List.filter_sublist) h
theorem Mem.step{c:Cx}{ρ ρ':Env}{R:List (Nat×Res)}{nx nx':Nat}{w w':World}{ds:List Nat}{m:Nat}{r:Res}(h:Mem c ρ R nx w)
 (hs:Ql nx ρ ρ')(hnx:nx≤nx')(hone:∀n,(ρ' n).oneCell'=true)
 (hos:w'.os=w.os)(htape:w'.tape=w.tape)(hout:w'.output=w.output)(hsize:w.heap.size≤w'.heap.size)
 {D:List Nat}(hk:Rb D w w')(hD:∀b∈D,∃n s,(n,s)∈R∧n∈ds∧s.block ρ n=some b)
 (hm:m<nx')(hmR:m∈ds∨nx≤m)(hb:r.bd nx')
 (hblk:∀b,r.block ρ' m=some b→b<w'.heap.size∧(w.heap.size≤b∨∃n s,(n,s)∈R∧n∈ds∧s.block ρ n=some b))
 (hr:∀O',(∀b∈O',b∈Zp ρ (del R ds)∨r.block ρ' m=some b)→(∀b∈Zp ρ (del R ds),b∈O')→r.holds ρ' O' m w'):Mem c ρ' ((m,r)::del R ds) nx' w':=by
 have hDO:∀b∈D,b∈Zp ρ R:=fun b hb=>by
  obtain⟨n,s,h1,_,h3⟩:=hD b hb
  exact List.mem_filterMap.2 ⟨(n,s),h1,h3⟩
 have hsub:∀n s,(n,s)∈del R ds→(n,s)∈R∧n∉ds:=fun n s hns=>by
  have:=List.mem_filter.1 hns
  exact⟨this.1,by simpa using this.2⟩
 have hown:Zp ρ' (del R ds)=Zp ρ (del R ds):=Re hs fun n s hns=>(h.bdr n s (hsub n s hns).1).1
 have hO':∀b∈Zp ρ' ((m,r)::del R ds),b∈Zp ρ R∨w.heap.size≤b:=by
  intro b hb
  unfold Zp at hb
  rw[List.filterMap_cons]at hb
  have rest:b∈Zp ρ' (del R ds)→b∈Zp ρ R:=fun hb=>by rw[hown]at hb;exact X8 b hb
  split at hb
  ·exact .inl (rest hb)
  ·rename_i b' hb'
   rcases List.mem_cons.1 hb with rfl|hb
   ·rcases(hblk b hb').2 with h1|⟨n,s,h1,_,h3⟩
    ·exact .inr h1
    ·exact .inl (List.mem_filterMap.2 ⟨(n,s),h1,h3⟩)
   ·exact .inl (rest hb)
 have hlt:∀b∈Zp ρ (del R ds),b<w.heap.size∧(c.w0.heap.size≤b∨b∈c.X):=fun b hb=>h.lt b (X8 b hb)
 refine⟨hos.trans h.os,htape.trans h.tape,hout.trans h.output,Nat.le_trans h.size hsize,?_,hone,?_,?_,?_,?_,?_⟩
 ·intro b hb hbX
  have h0:=h.block b hb hbX
  have hbs:b<w.heap.size:=Nat.lt_of_lt_of_le hb h.size
  have he:w.heap[b]? =some w.heap[b]:=by simp[hbs]
  rw[←h0,he]
  refine hk b _ he fun hbD=> ?_
  rcases(h.lt b (hDO b hbD)).2 with h1|h1
  ·omega
  ·exact hbX h1
 ·simp only[List.map_cons,List.nodup_cons]
  refine⟨fun hmem=> ?_,Ms h.keys⟩
  obtain⟨p,hp,hpm⟩:=List.mem_map.1 hmem
  obtain⟨h1,h2⟩:=hsub p.1 p.2 hp
  rcases hmR with h3|h3
  ·rw[hpm]at h2;exact h2 h3
  ·have:=(h.bdr _ _ h1).1;omega
 ·intro n s hns
  rcases List.mem_cons.1 hns with e|hns
  ·cases e
   refine hr _ (fun b hb=> ?_) fun b hb=> ?_
   ·unfold Zp at hb
    rw[List.filterMap_cons]at hb
    split at hb
    ·left;rw[←hown];exact hb
    ·rename_i b' hb'
     rcases List.mem_cons.1 hb with rfl|hb
     ·exact .inr hb'
     ·left;rw[←hown];exact hb
   rw[←hown]at hb
   unfold Zp at hb ⊢
   rw[List.filterMap_cons]
   split
   ·exact hb
   ·exact List.mem_cons_of_mem _ hb
  ·obtain⟨h1,h2⟩:=hsub n s hns
   refine Res.carry hs (h.bdr n s h1).1 (h.bdr n s h1).2 hk hDO (fun b hb hbD=> ?_) hO' (h.res n s h1)
   obtain⟨n',s',g1,g2,g3⟩:=hD b hbD
   exact Yf h.keys h.nodup g1 g2 g3 (List.mem_filterMap.2 ⟨(n,s),hns,hb⟩)
 ·intro n s hns
  rcases List.mem_cons.1 hns with e|hns
  ·cases e;exact⟨hm,hb⟩
  ·have:=h.bdr n s (hsub n s hns).1
   exact⟨Nat.lt_of_lt_of_le this.1 hnx,Res.bd_mono hnx this.2⟩
 ·unfold Zp
  rw[List.filterMap_cons]
  have hnd:(Zp ρ' (del R ds)).Nodup:=by rw[hown];exact Gd h.nodup
  split
  ·exact hnd
  ·rename_i b hb
   refine List.nodup_cons.2 ⟨fun hmem=> ?_,hnd⟩
   have hmem':b∈Zp ρ (del R ds):=by rw[←hown];exact hmem
   rcases(hblk b hb).2 with h1|⟨n,s,h1,h2,h3⟩
   ·have:=(hlt b hmem').1;omega
   ·exact Yf h.keys h.nodup h1 h2 h3 hmem'
 ·intro b hb
  unfold Zp at hb
  rw[List.filterMap_cons]at hb
  have rest:b∈Zp ρ' (del R ds)→b<w'.heap.size∧(c.w0.heap.size≤b∨b∈c.X):=fun hb=>by
   rw[hown]at hb
   exact⟨Nat.lt_of_lt_of_le (hlt b hb).1 hsize,(hlt b hb).2⟩
  split at hb
  ·exact rest hb
  ·rename_i b' hb'
   rcases List.mem_cons.1 hb with rfl|hb
   ·refine⟨(hblk b hb').1,?_⟩
    rcases(hblk b hb').2 with h1|⟨n,s,h1,_,h3⟩
    ·exact .inl (Nat.le_trans h.size h1)
    ·exact(h.lt b (List.mem_filterMap.2 ⟨(n,s),h1,h3⟩)).2
   ·exact rest hb
inductive Opd where
 |t (n:Nat)
 |k (x:S1)
 |bad
inductive EK where
 |int
 |str
 |bool
 deriving DecidableEq
inductive I where
 |mv (x:Opd)
 |pick (c x y:Opd)
 |bin (op:BinOp) (x y:Opd)
 |un (op:UnOp) (x:Opd)
 |conv (k:IntKind) (x:Opd)
 |load (n:Nat) (agg:Bool) (x:Opd)
 |faddr (off:Nat) (x:Opd)
 |iaddr (sz:Nat) (x i:Opd)
 |sidx (x i:Opd)
 |fld (off n:Nat) (agg:Bool) (x:Opd)
 |ext (i:Nat) (x:Opd)
 |build (z:List At) (parts:List (Nat×Nat×Opd))
 |len (x:Opd)
 |slen (x:Opd)
 |ssl (x:Opd) (lo hi:Option Opd)
 |aeq (neg:Bool) (ks:List EK) (x y:Opd)
 |beq (neg:Bool) (x y:Opd)
 |alloc (E:Nat) (z:List At)
 |box (E:Nat) (x:Opd)
 |store (n:Nat) (x v:Opd)
 |call (f:Nat) (args:List Opd)
 |bsl (E sz m:Nat) (z:List At) (parts:List (Nat×Nat×Opd))
 |app (T E sz bytes:Nat) (x y:Opd)
 |bsl0 (E sz:Nat)
 |s2b (x:Opd)
 |sl (sz:Nat) (x:Opd) (lo hi:Option Opd)
 |mks (E:Nat) (k:Kd) (bytes:Nat) (x y:Opd)
 |isnil (neg:Bool) (x:Opd)
 |mkf (f:Nat) (caps:List Opd)
 |callv (x:Opd) (args:List Opd)
 |mkmap (P:Program) (K E:TypeId) (k:Kd)
 |mlook (P:Program) (K E:TypeId) (k:Kd) (ok:Bool) (x i:Opd)
 |mupd (P:Program) (K E:TypeId) (k:Kd) (x i v:Opd)
 |b2s (x:Opd)
 |r2s (x:Opd)
 |apps (T E:Nat) (x y:Opd)
 |nchk (x:Opd)
 |frz (x:Opd)
 |fmk
 |fupd (x i v:Opd)
 |flook (ok:Bool) (x i:Opd)
 |frng (x:Opd)
 |fnxt (x:Opd)
 |fent (x:Opd)
 |iarr (n sz:Nat) (x i:Opd)
 |fnil (neg:Bool) (x y:Opd)
 |app0 (x y:Opd)
 |cpy (E sz:Nat) (x y:Opd)
 |snil (neg:Bool) (x y:Opd)
 |slA (n:Nat) (x:Opd)
structure In where
 g:Option (Nat×Bool)
 d:Option Nat
 i:I
structure St where
 slots:List (Nat×SV)
 res:List (Nat×Res)
 nx:Nat
def Zo{α:Type}:List (Nat×α)→Nat→Option α
 | [],_=>none
 |(m,x)::l,n=>if m=n then some x else Zo l n
theorem Yp{α:Type}{l:List (Nat×α)}{n:Nat}{x:α}(h:Zo l n=some x):(n,x)∈l:=by
 induction l with
 |nil=>cases h
 |cons p l ih=>
  simp only[Zo]at h
  split at h
  ·rename_i e;cases h;rw[←e];simp
  ·exact List.mem_cons_of_mem _ (ih h)
def St.get(S:St)(t:Nat):Option SV:=Zo S.slots t
def St.find(S:St)(n:Nat):Option Res:=Zo S.res n
def St.put(S:St)(d:Option Nat)(v:SV):St:=
 match d with
 |some d=>⟨(d,v)::S.slots,S.res,S.nx⟩
 |none=>S
@[reducible] def BIG:Nat:=1000000
def Np(c:Cx)(a:Act)(t:Nat):Option Value:=if t<BIG then a.tmps[t]? else c.fr[t-BIG]?
theorem V5{c:Cx}{a:Act}{t:Nat}(h:t<BIG):Np c a t=a.tmps[t]? :=if_pos h
structure St.holds (S:St) (c:Cx) (ρ:Env) (a:Act) (w:World):Prop where
 nodef:a.defers=[]
 sz:a.tmps.size=c.nt
 lown:c.nt≤BIG
 slot:∀t v,S.get t=some v→Np c a t=some (v.den ρ)
 bds:∀t v,S.get t=some v→v.bd S.nx
 mem:Mem c ρ S.res S.nx w
def St.rd(S:St):Opd→Option (Prop×S1)
 |.bad=>none
 |.k x=>some (True,x)
 |.t n=>match S.get n with
  |some (.one v)=>some (True,v)
  |some (.opt g v)=>some (g=true,v)
  |_=>none
def atV:Value→At
 |.int k n=>.int k n
 |.bool b=>.bool b
 |.string s=>.str s.data.toList
 |v=>.raw v
def ofV:Value→S1
 |.agg cs=>.agg (cs.toList.map atV)
 |v=>.a (atV v)
theorem Fj(ρ:Env)(v:Value):(atV v).den ρ=v:=by
 cases v<;>simp[atV,At.den]
theorem J1(nx:Nat)(v:Value)(h:v.oneCell'=true):(atV v).bd nx:=by
 cases v<;>simp_all[atV,At.bd,Value.oneCell']
theorem ofV_den(ρ:Env)(v:Value):(ofV v).den ρ=v:=by
 cases v<;>simp only[ofV,S1.den,Fj]
 rename_i cs
 have:(cs.toList.map atV).map (At.den ρ)=cs.toList:=by
  rw[List.map_map]
  conv=>rhs;rw[←List.map_id cs.toList]
  exact List.map_congr_left fun x _=>Fj ρ x
 rw[this]
def okV(v:Value):Bool:=v.cells.toList.all fun x=>x.oneCell'
theorem ofV_bd(nx:Nat)(v:Value)(h:okV v=true):(ofV v).bd nx:=by
 have h':∀x∈v.cells.toList,(atV x).bd nx:=fun x hx=>J1 nx x (List.all_eq_true.1 h x hx)
 cases v
 case agg cs=>
  intro y hy
  obtain⟨x,hx,rfl⟩:=List.mem_map.1 hy
  exact h' x hx
 all_goals exact h' _ (List.mem_singleton.2 rfl)
def opd:Operand→Opd
 |.tmp t=>if t<BIG then .t t else .bad
 |.const v=>if okV v then .k (ofV v)else .bad
 |.global g=>.k (.a (.raw (.pointer (some ⟨g,0,none⟩))))
 |.func f=>.k (.a (.raw (.func (.func f) #[] #[])))
theorem Zc{c:Cx}{S:St}{ρ:Env}{a:Act}{w:World}(hh:S.holds c ρ a w){x:Operand}{p:Prop}{v:S1}(h:S.rd (opd x)=some (p,v))(hp:p):
 a.eval x=v.den ρ∧v.bd S.nx:=by
 cases x with
 |tmp t=>
  by_cases hlow':¬t<BIG
  ·simp only[opd,if_neg hlow',St.rd]at h;cases h
  have hlow:t<BIG:=Nat.lt_of_not_le fun h'=>hlow' (Nat.not_lt.2 h')
  have hsl:∀v,Np c a t=some v→a.tmps[t]? =some v:=fun v hv=>by rw[V5 hlow]at hv;exact hv
  simp only[opd,if_pos hlow,St.rd]at h
  cases hg:S.get t with
  |none=>rw[hg]at h;cases h
  |some sv=>
   rw[hg]at h
   have h1:=hsl _ (hh.slot t sv hg)
   have h2:=hh.bds t sv hg
   cases sv with
   |one u=>
    cases h
    exact⟨by simp[Act.eval,Array.getD_eq_getD_getElem?,h1,SV.den],h2⟩
   |tup l=>cases h
   |opt g u=>
    cases h
    exact⟨by simp[Act.eval,Array.getD_eq_getD_getElem?,h1,SV.den,hp],h2 hp⟩
 |const v'=>
  simp only[opd]at h
  split at h
  ·rename_i hok
   cases h;exact⟨(ofV_den ρ v').symm,ofV_bd _ _ hok⟩
  ·cases h
 |global g=>cases h;exact⟨rfl,rfl⟩
 |func f=>cases h;exact⟨rfl,rfl⟩
def Mn(k:IntKind)(x y:Int):Int:=k.wrap (BitVec.ofInt k.bits x&&& BitVec.ofInt k.bits y).toNat
def orI(k:IntKind)(x y:Int):Int:=k.wrap (BitVec.ofInt k.bits x|||BitVec.ofInt k.bits y).toNat
def Mh(k:IntKind)(x y:Int):Int:=k.wrap (BitVec.ofInt k.bits x^^^BitVec.ofInt k.bits y).toNat
def andnI(k:IntKind)(x y:Int):Int:=k.wrap (BitVec.ofInt k.bits x&&& ~~~BitVec.ofInt k.bits y).toNat
def Po(k:IntKind)(x y:Int):Int:=k.wrap (x*2^min y.toNat k.bits)
def Hz(k:IntKind)(x y:Int):Int:=x/2^min y.toNat k.bits
def Xg(op:BinOp)(k:IntKind)(x y:Int):Option (Prop×At):=
 match op with
 |.add=>some (True,.int k (k.wrap (x+y)))
 |.sub=>some (True,.int k (k.wrap (x-y)))
 |.mul=>some (True,.int k (k.wrap (x*y)))
 |.quo=>some (y≠0,.int k (k.wrap (x.tdiv y)))
 |.rem=>some (y≠0,.int k (x.tmod y))
 |.and=>some (True,.int k (Mn k x y))
 |.or=>some (True,.int k (orI k x y))
 |.xor=>some (True,.int k (Mh k x y))
 |.andNot=>some (True,.int k (andnI k x y))
 |.eql=>some (True,.bool (decide (x=y)))
 |.neq=>some (True,.bool (!decide (x=y)))
 |.lss=>some (True,.bool (decide (x<y)))
 |.leq=>some (True,.bool (decide (x≤y)))
 |.gtr=>some (True,.bool (decide (y<x)))
 |.geq=>some (True,.bool (decide (y≤x)))
 |_=>none
def Qv(op:BinOp)(x y:List UInt8):Option (Prop×At):=
 match op with
 |.add=>some (x.length+y.length≤9223372036854775807,.str (x++y))
 |.eql=>some (True,.bool (decide (x=y)))
 |.neq=>some (True,.bool (!decide (x=y)))
 |.lss=>some (True,.bool (Op.bytesLess x y))
 |_=>none
def Qo(op:BinOp)(x y:At):Option (Prop×At):=
 match x,y with
 |.int k a,.int yk b=>
  match op with
  |.shl=>some (0≤b,.int k (Po k a b))
  |.shr=>some (0≤b,.int k (Hz k a b))
  |op=>if k=yk then Xg op k a b else none
 |.str a,.str b=>Qv op a b
 |_,_=>none
def Hp(op:UnOp)(x:At):Option At:=
 match op,x with
 |.not,.bool b=>some (.bool (!b))
 |.neg,.int k n=>some (.int k (k.wrap (0-n)))
 |.xor,.int k n=>some (.int k (Mh k (if k.signed then-1 else k.max) n))
 |_,_=>none
def Um(g:Bool)(x y:At):Option At:=
 match x,y with
 |.int k a,.int k' b=>if k=k' then some (.int k (bif g then a else b))else none
 |.bool a,.bool b=>some (.bool (bif g then a else b))
 |.str a,.str b=>some (.str (bif g then a else b))
 |_,_=>none
theorem L7(l:List UInt8):(ByteArray.mk l.toArray).toList=l:=by rw[ByteArray.toList_eq]
theorem Cr{P:Program}{op:BinOp}{k:IntKind}{x y:Int}{p:Prop}{z:At}{t:TypeId}(h:Xg op k x y=some (p,z))(hp:p)(w:World)(ρ:Env):
 (binOp op t (.int k x) (.int k y)).run P w= .ok (z.den ρ) w∧z.bd 0:=by
 cases op<;>simp only[Xg,Option.some.injEq,Prod.mk.injEq,reduceCtorEq]at h<;>(try(obtain⟨rfl,rfl⟩:=h))<;>
  first
  |(refine⟨?_,trivial⟩;simp[binOp,Op.intArith,At.den,Sem.run_pure];done)
  |(refine⟨?_,trivial⟩;simp[binOp,Op.intDiv,At.den,Sem.run_pure,hp];done)
  |(refine⟨?_,trivial⟩;simp[binOp,Op.intBits,At.den,Sem.run_pure,Mn,orI,Mh,andnI];done)
  |(refine⟨?_,trivial⟩;simp[binOp,Op.intCmp,At.den,Sem.run_pure,bne];done)
  |(refine⟨?_,trivial⟩;simp[binOp,Op.intCmp,At.den,Sem.run_pure];rw[Bool.eq_iff_iff];simp;done)
theorem A4{P:Program}{op:BinOp}{x y:List UInt8}{p:Prop}{z:At}{t:TypeId}(h:Qv op x y=some (p,z))(hp:p)(w:World)(ρ:Env):
 (binOp op t (.string ⟨x.toArray⟩) (.string ⟨y.toArray⟩)).run P w= .ok (z.den ρ) w∧z.bd 0:=by
 have hb:∀op,binOp op t (.string ⟨x.toArray⟩) (.string ⟨y.toArray⟩)=Op.stringOp op ⟨x.toArray⟩ ⟨y.toArray⟩:=fun op=>by cases op<;>rfl
 cases op<;>simp only[Qv,Option.some.injEq,Prod.mk.injEq,reduceCtorEq]at h<;>(try(obtain⟨rfl,rfl⟩:=h))<;>rw[hb]
 case add=>
  refine⟨?_,trivial⟩
  rw[run_string_add_if]
  have h1:(ByteArray.mk x.toArray).size=x.length:=by simp[ByteArray.size]
  have h2:(ByteArray.mk y.toArray).size=y.length:=by simp[ByteArray.size]
  rw[h1,h2,if_neg (by omega)]
  simp only[At.den]
  have:(ByteArray.mk x.toArray)++(ByteArray.mk y.toArray)=ByteArray.mk (x++y).toArray:=by
   apply ByteArray.ext
   rw[ByteArray.data_append]
   simp
  rw[this]
 all_goals
  refine⟨?_,trivial⟩
  simp[Op.stringOp,At.den,Sem.run_pure,L7]
 all_goals rw[Bool.eq_iff_iff];simp
theorem S8(op:BinOp)(t:TypeId)(x y:Operand)(a b:Value)(h:∀cs,a≠ .agg cs)(h2:a≠ .nilIface):eqGuard op t x y a b=pure ():=by
 unfold eqGuard
 cases op<;>first|rfl|(cases a<;>first|rfl|(exact absurd rfl (h _))|(exact absurd rfl h2))
theorem Dr{P:Program}{op:BinOp}{x y:At}{p:Prop}{z:At}{t:TypeId}{X Y:Operand}(h:Qo op x y=some (p,z))(hp:p)(w:World)(ρ:Env):
 (do eqGuard op t X Y (x.den ρ) (y.den ρ);binOp op t (x.den ρ) (y.den ρ):Sem Value).run P w= .ok (z.den ρ) w∧z.bd 0:=by
 cases x<;>cases y<;>simp only[Qo,reduceCtorEq]at h
 case int.int k a yk b=>
  rw[Sem.run_bind,At.den,S8 _ _ _ _ _ _ (by simp) (by simp),Sem.run_pure,Result.andThen_ok]
  cases op
  case shl=>
   cases h
   refine⟨?_,trivial⟩
   simp only[At.den,binOp,Op.shift,Int.not_lt.mpr hp,if_false]
   simp[Po,Sem.run_pure]
  case shr=>
   cases h
   refine⟨?_,trivial⟩
   have hpos:(0:Int)≤2^min b.toNat k.bits:=Int.le_of_lt (Int.pow_pos (by decide))
   simp only[At.den,binOp,Op.shift,Int.not_lt.mpr hp,if_false]
   simp[Hz,Sem.run_pure,Int.fdiv_eq_ediv_of_nonneg _ hpos]
  all_goals
   simp only at h
   split at h
   ·rename_i hk
    subst hk
    exact Cr h hp w ρ
   ·cases h
 case str.str a b=>
  rw[Sem.run_bind,At.den,S8 _ _ _ _ _ _ (by simp) (by simp),Sem.run_pure,Result.andThen_ok]
  exact A4 h hp w ρ
theorem Fo{P:Program}{neg:Bool}{t:TypeId}(ht:P.underlying t=some .bool)(a b:Bool)(w:World)(X Y:Operand):
 (do eqGuard (if neg then .neq else .eql) t X Y (.bool a) (.bool b);binOp (if neg then .neq else .eql) t (.bool a) (.bool b):Sem Value).run P w= .ok (.bool (if neg then a !=b else a==b)) w:=by
 have h:∀n,(Op.equalIn (n+1) t (.bool a) (.bool b)).run P w= .ok (a==b) w:=fun n=>by
  unfold Op.equalIn
  rw[Sem.run_bind,run_underlying ht,Result.andThen_ok]
  simp[Sem.run_pure]
 have h1:(Op.equal t (.bool a) (.bool b)).run P w= .ok (a==b) w:=h 9999
 rw[Sem.run_bind,S8 _ _ _ _ _ _ (by simp) (by simp),Sem.run_pure,Result.andThen_ok]
 cases neg<;>simp only[binOp,Bool.false_eq_true,if_false,if_true]<;>rw[Sem.run_bind,h1,Result.andThen_ok,Sem.run_pure]
 rfl
def Wk:TypeDesc→Bool
 |.struct _=>true
 |.array _ _=>true
 |_=>false
def sizes(P:Program)(fs:Array Field):Option (List (Nat×Nat)):=fs.toList.mapM fun f=>(P.info? f.type).map fun i=>(f.offset,i.size)
def Sa(pl:List (Nat×Nat)):List (Nat×Operand)→Option (List (Nat×Nat×Opd))
 | []=>some []
 |(i,x)::r=>match pl[i]?,Sa pl r with
  |some (o,z),some r'=>some ((o,z,opd x)::r')
  |_,_=>none
def Fy(P:Program)(g:TypeId→Option (List EK)):List Field→Nat→Option (List EK)
 | [],_=>some []
 |f::fs,o=>if f.name= "_" ∨f.offset≠o then none else match g f.type,P.info? f.type with
  |some ks,some i=>if i.size=ks.length∧0<ks.length then(match Fy P g fs (o+ks.length)with
   |some r=>some (ks++r)
   |none=>none)else none
  |_,_=>none
def Io(P:Program):Nat→TypeId→Option (List EK)
 |0,_=>none
 |n+1,t=>match P.underlying t with
  |some (.int _)=>some [.int]
  |some .string=>some [.str]
  |some .bool=>some [.bool]
  |some (.struct fs)=>if P.stoodInHeld t=true then none else Fy P (Io P n) fs.toList 0
  |_=>none
def C3(P:Program)(E:TypeId):Option Kd:=
 match P.underlying E,(P.info? E).bind (·.zero)with
 |some (.int q),some (.int q' n)=>if q'=q∧n=0 then some (.int q)else none
 |some .bool,some (.bool b)=>if b=false then some .bool else none
 |_,_=>none
def N7(P:Program)(K E:TypeId):Option Kd:=
 match P.underlying K with
 |some .string=>C3 P E
 |_=>none
def S7(P:Program)(o:Oper):Option I:=
 match o.op with
 |.move x=>some (.mv (opd x))
 |.assign x=>some (.mv (opd x))
 |.pick c x y=>some (.pick (opd c) (opd x) (opd y))
 |.binOp op t x y _=>
  match P.underlying t with
  |some .bool=>(match op with|.eql=>some (.beq false (opd x) (opd y))|.neq=>some (.beq true (opd x) (opd y))|_=>none)
  |some (.int _)=>some (.bin op (opd x) (opd y))
  |some .string=>some (.bin op (opd x) (opd y))
  |some (.slice _)=>(match op with|.eql=>some (.snil false (opd x) (opd y))|.neq=>some (.snil true (opd x) (opd y))|_=>none)
  |some (.func _ _ _)=>(match op with|.eql=>some (.fnil false (opd x) (opd y))|.neq=>some (.fnil true (opd x) (opd y))|_=>none)
  |some (.struct _)=>if P.eqGuardType P.depth t=true then none else(match Io P 6 t with
   |some ks=>(match op with|.eql=>some (.aeq false ks (opd x) (opd y))|.neq=>some (.aeq true ks (opd x) (opd y))|_=>none)
   |none=>none)
  |_=>none
 |.unOp op _ x=>some (.un op (opd x))
 |.convert s d x=>
  match P.underlying s,P.underlying d with
  |some _,some (.int k)=>some (.conv k (opd x))
  |some .string,some (.slice e)=>(match P.underlying e with
   |some (.int .u8)=>some (.s2b (opd x))
   |_=>none)
  |some (.slice e),some .string=>(match P.underlying e with
   |some (.int .u8)=>some (.b2s (opd x))
   |_=>none)
  |some (.int _),some .string=>some (.r2s (opd x))
  |some (.slice _),some (.slice e)=>if s=d then(match P.underlying e with
   |some (.int .u8)=>some (.frz (opd x))
   |_=>none)else none
  |_,_=>none
 |.load t x=>
  match P.underlying t,P.info? t with
  |some d,some i=>some (.load i.size (Wk d) (opd x))
  |_,_=>none
 |.fieldAddr t x f=>
  match P.underlying t with
  |some (.struct fs)=>(match fs[f]? with
   |some fl=>(match P.info? fl.type with
    |some i=>if i.size=0 then none else some (.faddr fl.offset (opd x))
    |none=>none)
   |none=>none)
  |_=>none
 |.indexAddr t x i=>
  match P.underlying t with
  |some (.slice e)=>(match P.info? e with
   |some j=>some (.iaddr j.size (opd x) (opd i))
   |none=>none)
  |some (.array n e)=>(match P.info? e with
   |some j=>some (.iarr n j.size (opd x) (opd i))
   |none=>none)
  |_=>none
 |.index t x i=>
  match P.underlying t with
  |some .string=>some (.sidx (opd x) (opd i))
  |_=>none
 |.field t x f=>
  match P.underlying t with
  |some (.struct fs)=>(match fs[f]? with
   |some fl=>(match P.underlying fl.type,P.info? fl.type with
    |some d,some i=>some (.fld fl.offset i.size (Wk d) (opd x))
    |_,_=>none)
   |none=>none)
  |_=>none
 |.extract x i=>some (.ext i (opd x))
 |.build t parts=>
  match P.underlying t,P.info? t with
  |some (.struct fs),some i=>(match i.zero,sizes P fs with
   |some z,some pl=>(match Sa pl parts.toList with
    |some ps=>if okV z then some (.build (z.cells.toList.map atV) ps)else none
    |none=>none)
   |_,_=>none)
  |some (.array n e),some i=>(match i.zero,P.info? e with
   |some z,some j=>(match Sa ((List.range n).map fun q=>(q*j.size,j.size)) parts.toList with
    |some ps=>if okV z then some (.build (z.cells.toList.map atV) ps)else none
    |none=>none)
   |_,_=>none)
  |_,_=>none
 |.alloc E=>
  match P.info? E with
  |some i=>(match i.zero with
   |some z=>if okV z then some (.alloc E (z.cells.toList.map atV))else none
   |none=>none)
  |none=>none
 |.box E x=>some (.box E (opd x))
 |.store t x v=>
  match P.info? t with
  |some i=>some (.store i.size (opd x) (opd v))
  |none=>none
 |.buildSlice t m parts=>
  match P.underlying t with
  |some (.slice e)=>(match P.info? e with
   |some i=>(match i.zero with
    |some z=>
     if m=0∧parts.toList=[]then some (.bsl0 e i.size)
     else if m*i.size≤1024∧0<m*i.size∧z.cells.size=i.size∧okV z=true then
      (match Sa ((List.range m).map fun q=>(q*i.size,i.size)) parts.toList with
      |some ps=>some (.bsl e i.size m ((List.replicate m (z.cells.toList.map atV)).flatten) ps)
      |none=>none)
     else none
    |none=>none)
   |none=>none)
  |_=>none
 |.call cl=>
  match cl.callee with
  |.value (.func f)=>(match P.funcs[f]? with
   |some fn=>if fn.name== "runtime.NumGoroutine" ||fn.body.isNone then none else some (.call f (cl.args.toList.map opd))
   |none=>none)
  |.value (.tmp t)=>some (.callv (opd (.tmp t)) (cl.args.toList.map opd))
  |.builtin .len=>(match cl.args.toList,cl.argTypes.toList with
   | [x],[t]=>(match P.underlying t with
     |some .string=>some (.slen (opd x))
     |some (.slice _)=>some (.len (opd x))
     |_=>none)
   |_,_=>none)
  |.builtin .append=>(match cl.args.toList,cl.argTypes.toList with
   | [x,y],[t,u]=>if t=u then(match P.underlying t with
     |some (.slice e)=>(match P.info? e with
      |some i=>(match i.zero with
       |some z=>if z.cells.size=i.size∧0<i.size∧okV z=true then some (.app t e i.size i.bytes (opd x) (opd y))else none
       |none=>none)
      |none=>none)
     |_=>none)else(match P.underlying t,P.underlying u with
     |some (.slice e),some .string=>(match P.info? e with
      |some i=>(match i.zero with
       |some (.int .u8 n)=>if n=0∧i.size=1∧i.bytes=1 then some (.apps t e (opd x) (opd y))else none
       |_=>none)
      |none=>none)
     |some (.slice e),some (.int _)=>(match P.info? e with
      |some _=>some (.app0 (opd x) (opd y))
      |none=>none)
     |_,_=>none)
   |_,_=>none)
  |.builtin .copy=>(match cl.args.toList,cl.argTypes.toList with
   | [x,y],t::_=>(match P.underlying t with
     |some (.slice e)=>(match P.info? e with
      |some i=>some (.cpy e i.size (opd x) (opd y))
      |none=>none)
     |_=>none)
   |_,_=>none)
  |_=>none
 |.slice t x lo hi mx=>
  match P.underlying t,mx with
  |some .string,none=>some (.ssl (opd x) (lo.map opd) (hi.map opd))
  |some (.slice e),none=>(match P.info? e with
   |some j=>some (.sl j.size (opd x) (lo.map opd) (hi.map opd))
   |none=>none)
  |some (.array n e),none=>(match lo,hi,P.info? e with
   |none,none,some j=>if j.size=1 then some (.slA n (opd x))else none
   |_,_,_=>none)
  |_,_=>none
 |.makeSlice t x y=>
  match P.underlying t with
  |some (.slice e)=>(match C3 P e,P.info? e with
   |some k,some i=>if i.size=1∧k.sz=1 then some (.mks e k i.bytes (opd x) (opd y))else none
   |_,_=>none)
  |_=>none
 |.makeFunc fn first captured=>
  match fn with
  |.func f=>if first.size=0 then some (.mkf f (captured.toList.map opd))else none
  |_=>none
 |.makeMap t r=>
  match r,P.underlying t with
  |none,some (.map K E)=>(match N7 P K E with
   |some k=>some (.mkmap P K E k)
   |none=>none)
  |_,_=>none
 |.lookup t x i ok=>
  match P.underlying t with
  |some (.map K E)=>(match N7 P K E with
   |some k=>some (.mlook P K E k ok (opd x) (opd i))
   |none=>none)
  |_=>none
 |.mapUpdate t x i v=>
  match P.underlying t with
  |some (.map K E)=>(match N7 P K E with
   |some k=>some (.mupd P K E k (opd x) (opd i) (opd v))
   |none=>none)
  |_=>none
 |.nilCheck x=>some (.nchk (opd x))
 |_=>none
def Rm(P:Program)(t:TypeId):Bool:=match P.underlying t with
 |some (.map K _)=>(match P.underlying K with
  |some .string=>true
  |_=>false)
 |_=>false
def Ga(P:Program)(o:Oper):Option I:=
 match o.op with
 |.makeMap t none=>if Rm P t=true then some .fmk else none
 |.lookup t x i ok=>if Rm P t=true then some (.flook ok (opd x) (opd i))else none
 |.mapUpdate t x i v=>if Rm P t=true then some (.fupd (opd x) (opd i) (opd v))else none
 |.range t x=>if Rm P t=true then some (.frng (opd x))else none
 |.insert t x i v=>if Rm P t=true then some (.fupd (opd x) (opd i) (opd v))else none
 |.next x false=>some (.fnxt (opd x))
 |.entry x=>some (.fent (opd x))
 |_=>none
def Nj(P:Program)(o:Oper):Option I:=match S7 P o with
 |some i=>some i
 |none=>Ga P o
def I.isX:I→Bool
 |.fmk=>true
 |.fupd _ _ _=>true
 |.flook _ _ _=>true
 |.frng _=>true
 |.fnxt _=>true
 |.fent _=>true
 |_=>false
theorem Gb{P:Program}{o:Oper}{i:I}(h:Ga P o=some i):i.isX=true:=by
 unfold Ga at h
 split at h<;>(repeat' split at h)<;>cases h<;>rfl
theorem compI_cases{P:Program}{o:Oper}{i:I}(h:Nj P o=some i):S7 P o=some i∨Ga P o=some i:=by
 unfold Nj at h
 split at h
 ·rename_i hh;cases h;exact .inl hh
 ·exact .inr h
theorem Fs{P:Program}{o:Oper}{i:I}(h:Nj P o=some i)(hx:i.isX=false):S7 P o=some i:=by
 rcases compI_cases h with h|h
 ·exact h
 ·rw[Gb h]at hx;cases hx
theorem Zeu{P:Program}{o:Oper}{i:I}(h:S7 P o=some i):Nj P o=some i:=by unfold Nj;rw[h]
def dstOk(nt:Nat):Option Nat→Bool
 |some d=>decide (d<nt)
 |none=>true
def Xq(P:Program)(nt:Nat)(ops:Array Oper)(o:Oper):Option In:=
 match Nj P o with
 |none=>none
 |some i=>
  if dstOk nt o.dst=true then
   match o.guard with
   |none=>some ⟨none,o.dst,i⟩
   |some (j,b)=>(match(ops[j]?).bind (·.dst)with
    |some t=>if t<BIG then some ⟨some (t,b),o.dst,i⟩else none
    |none=>none)
  else none
def Vh(l:List At)(o n:Nat)(agg:Bool):Option SV:=
 if agg then(if o+n≤l.length then some (.one (.agg ((l.drop o).take n)))else none)
 else match l[o]? with
  |some u=>some (.one (.a u))
  |none=>none
def Wc(s:List UInt8)(i:Nat):Int:=((s.getD i 0).toNat:Int)
def Kx:List At→Option (List (Kd.ty (.int .i64)))
 | []=>some []
 |.int .i64 n::l=>(match Kx l with
  |some r=>some (n::r)
  |none=>none)
 |_=>none
def u8s:List At→Option (List (Kd.ty (.int .u8)))
 | []=>some []
 |.int .u8 n::l=>(match u8s l with
  |some r=>some (n::r)
  |none=>none)
 |_::_=>none
def toB(n:Int):UInt8:=UInt8.ofNat n.toNat
def bytesI(s:List UInt8):List (Kd.ty (.int .u8)):=s.map fun b=>((b.toNat:Nat):Int)
def Wg(l:List At)(o:Nat)(us:List At):List At:=l.take o++us++l.drop (o+us.length)
def S1.cells:S1→List At
 |.a x=>[x]
 |.agg l=>l
def Wz(S:St):List (Nat×Nat×Opd)→List At→Option (Prop×List At)
 | [],l=>some (True,l)
 |(o,z,x)::r,l=>match S.rd x with
  |some (p,v)=>if v.cells.length=z∧o+z≤l.length then(match Wz S r (Wg l o v.cells)with
   |some (q,l')=>some (p∧q,l')
   |none=>none)else none
  |none=>none
def Kw:EK→At→At→Option Bool
 |.int,.int k a,.int k' b=>if k=k' then some (decide (a=b))else none
 |.str,.str a,.str b=>some (decide (a=b))
 |.bool,.bool a,.bool b=>some (a==b)
 |_,_,_=>none
def R6:List EK→List At→List At→Option Bool
 | [],[],[]=>some true
 |k::ks,x::l,y::m=>match Kw k x y,R6 ks l m with
  |some a,some b=>some (a&&b)
  |_,_=>none
 |_,_,_=>none
def Rf(S:St):List Opd→Option (Prop×List S1)
 | []=>some (True,[])
 |x::r=>match S.rd x,Rf S r with
  |some (p,v),some (q,l)=>some (p∧q,v::l)
  |_,_=>none
def Uh:List S1→Option (List Nat)
 | []=>some []
 |.a (.loc m 0)::r=>(match Uh r with
  |some l=>some (m::l)
  |none=>none)
 |_=>none
def atK:(k:Kd)→k.ty→At
 |.int q,n=>.int q n
 |.bool,b=>.bool b
 |_,_=>.bool false
def N8(ok:Bool)(k:Kd)(o:Option k.ty):SV:=if ok then .tup [.a (atK k (o.getD k.dflt)),.a (.bool o.isSome)]else .one (.a (atK k (o.getD k.dflt)))
def lenOf(S:St)(sz m:Nat):Option Nat:=
 match S.find m with
 |some (.ro k l)=>if sz=k.sz then some l.length else none
 |some (.row _ k l)=>if sz=k.sz then some l.length else none
 |some (.lit _ z e _)=>if sz=z then some e else none
 |_=>none
def ev(S:St):I→Option (Prop×SV)
 |.mv x=>match S.rd x with
  |some (p,v)=>some (p,.one v)
  |none=>match x with
   |.t t=>(match S.get t with
    |some (.tup l)=>some (True,.tup l)
    |_=>none)
   |_=>none
 |.pick c x y=>match S.rd c,S.rd x,S.rd y with
  |some (pc,.a (.bool g)),some (px,.a u),some (py,.a v)=>(match Um g u v with
   |some z=>some (pc∧(g=true→px)∧(g=false→py),.one (.a z))
   |none=>none)
  |_,_,_=>none
 |.bin op x y=>match S.rd x,S.rd y with
  |some (p,.a u),some (q,.a v)=>(match Qo op u v with
   |some (r,z)=>some (p∧q∧r,.one (.a z))
   |none=>none)
  |_,_=>none
 |.beq neg x y=>match S.rd x,S.rd y with
  |some (p,.a (.bool u)),some (q,.a (.bool v))=>some (p∧q,.one (.a (.bool (if neg then u !=v else u==v))))
  |_,_=>none
 |.aeq neg ks x y=>match S.rd x,S.rd y with
  |some (p,.agg u),some (q,.agg v)=>(match R6 ks u v with
   |some b=>some (p∧q,.one (.a (.bool (if neg then !b else b))))
   |none=>none)
  |_,_=>none
 |.un op x=>match S.rd x with
  |some (p,.a u)=>(match Hp op u with
   |some z=>some (p,.one (.a z))
   |none=>none)
  |_=>none
 |.conv k x=>match S.rd x with
  |some (p,.a (.int _ n))=>some (p,.one (.a (.int k (k.wrap n))))
  |_=>none
 |.load n agg x=>match S.rd x with
  |some (p,.a (.loc m o))=>(match S.find m with
   |some (.cells _ l)=>(match Vh l o n agg with
    |some v=>some (p,v)
    |none=>none)
   |some (.rocells l)=>(match Vh l o n agg with
    |some v=>some (p,v)
    |none=>none)
   |_=>none)
  |some (p,.a (.elt m sz i j))=>(match S.find m with
   |some (.ro k l)=>if sz=k.sz then(match Vh (k.enc (l.getD i k.dflt)) j n agg with
    |some v=>some (p∧i<l.length,v)
    |none=>none)else none
   |some (.row _ k l)=>if sz=k.sz then(match Vh (k.enc (l.getD i k.dflt)) j n agg with
    |some v=>some (p∧i<l.length,v)
    |none=>none)else none
   |some (.lit _ _ _ l)=>(match Vh l (i*sz+j) n agg with
    |some v=>some (p,v)
    |none=>none)
   |_=>none)
  |_=>none
 |.nchk x=>match S.rd x with
  |some (p,.a (.loc m o))=>(match S.find m with
   |some (.cells _ _)=>some (p,.one (.a (.loc m o)))
   |some (.rocells _)=>some (p,.one (.a (.loc m o)))
   |_=>none)
  |_=>none
 |.faddr off x=>match S.rd x with
  |some (p,.a (.loc m o))=>(match S.find m with
   |some (.cells _ _)=>some (p,.one (.a (.loc m (o+off))))
   |some (.rocells _)=>some (p,.one (.a (.loc m (o+off))))
   |_=>none)
  |some (p,.a (.elt m sz i j))=>(match S.find m with
   |some (.ro _ l)=>some (p∧i<l.length,.one (.a (.elt m sz i (j+off))))
   |some (.row _ _ l)=>some (p∧i<l.length,.one (.a (.elt m sz i (j+off))))
   |some (.lit _ _ e _)=>some (p,.one (.a (.elt m sz i (j+off))))
   |some (.rou l)=>some (p∧i<l.length,.one (.a (.elt m sz i (j+off))))
   |_=>none)
  |_=>none
 |.iaddr sz x i=>match S.rd x,S.rd i with
  |some (p,.a (.ref m)),some (q,.a (.int _ n))=>(match S.find m with
   |some (.ro k l)=>if sz=k.sz then some (p∧q∧0≤n∧n<l.length,.one (.a (.elt m sz n.toNat 0)))else none
   |some (.row _ k l)=>if sz=k.sz then some (p∧q∧0≤n∧n<l.length,.one (.a (.elt m sz n.toNat 0)))else none
   |some (.lit _ z e _)=>if sz=z then some (p∧q∧0≤n∧n<e,.one (.a (.elt m sz n.toNat 0)))else none
   |some (.rou l)=>if sz=2 then some (p∧q∧0≤n∧n<l.length,.one (.a (.elt m sz n.toNat 0)))else none
   |some (.view m' z lo hi)=>if sz=z then(match lenOf S sz m' with
    |some e=>some (p∧q∧0≤n∧n<(hi:Int)-lo∧hi≤e,.one (.a (.elt m' sz (lo+n.toNat) 0)))
    |none=>none)else none
   |_=>none)
  |_,_=>none
 |.sidx x i=>match S.rd x,S.rd i with
  |some (p,.a (.str s)),some (q,.a (.int _ n))=>some (p∧q∧0≤n∧n<s.length,.one (.a (.int .u8 (Wc s n.toNat))))
  |_,_=>none
 |.fld off n agg x=>match S.rd x with
  |some (p,.agg l)=>(match Vh l off n agg with
   |some v=>some (p,v)
   |none=>none)
  |_=>none
 |.ext i x=>match x with
  |.t t=>(match S.get t with
   |some (.tup l)=>(match l[i]? with
    |some v=>some (True,.one v)
    |none=>none)
   |_=>none)
  |_=>none
 |.build z ps=>match Wz S ps z with
  |some (p,l)=>some (p,.one (.agg l))
  |none=>none
 |.slen x=>match S.rd x with
  |some (p,.a (.str s))=>some (p,.one (.a (.int .i64 s.length)))
  |_=>none
 |.len x=>match S.rd x with
  |some (p,.a (.ref m))=>(match S.find m with
   |some (.ro k l)=>some (p,.one (.a (.int .i64 l.length)))
   |some (.row _ k l)=>some (p,.one (.a (.int .i64 l.length)))
   |some (.lit _ _ e _)=>some (p,.one (.a (.int .i64 e)))
   |some (.rou l)=>some (p,.one (.a (.int .i64 l.length)))
   |some (.urow _ _ l)=>some (p,.one (.a (.int .i64 l.length)))
   |some (.view _ _ lo hi)=>some (p,.one (.a (.int .i64 ((hi-lo:Nat):Int))))
   |_=>none)
  |some (p,.a (.raw (.slice none 0 0)))=>some (p,.one (.a (.int .i64 0)))
  |_=>none
 |.ssl x lo hi=>
  match S.rd x,(match lo with|some l=>S.rd l|none=>some (True,.a (.int .i64 0))),(match hi with|some h=>S.rd h|none=>(match S.rd x with|some (_,.a (.str s))=>some (True,.a (.int .i64 s.length))|_=>none))with
  |some (p,.a (.str s)),some (q,.a (.int _ l)),some (r,.a (.int _ h))=>some (p∧q∧r∧0≤l∧l≤h∧h≤s.length,.one (.a (.str ((s.take h.toNat).drop l.toNat))))
  |_,_,_=>none
 |.r2s x=>match S.rd x with
  |some (p,.a (.int _ n))=>some (p∧0≤n∧n<128,.one (.a (.str [toB n])))
  |_=>none
 |.iarr n sz x i=>match S.rd x,S.rd i with
  |some (p,.a (.loc m o)),some (q,.a (.int _ z))=>(match S.find m with
   |some (.cells _ _)=>some (p∧q∧0≤z∧z<n,.one (.a (.loc m (o+z.toNat*sz))))
   |some (.rocells _)=>some (p∧q∧0≤z∧z<n,.one (.a (.loc m (o+z.toNat*sz))))
   |_=>none)
  |_,_=>none
 |.fnil neg x y=>match S.rd x,S.rd y with
  |some (p,.a (.raw .nilFunc)),some (q,.a (.raw .nilFunc))=>some (p∧q,.one (.a (.bool (!neg))))
  |_,_=>none
 |.snil neg x y=>match S.rd x,S.rd y with
  |some (p,.a (.ref m)),some (q,.a (.raw (.slice none 0 0)))=>(match S.find m with
   |some (.row _ _ l)=>some (p∧q∧0<l.length,.one (.a (.bool neg)))
   |some (.ro _ l)=>some (p∧q∧0<l.length,.one (.a (.bool neg)))
   |_=>none)
  |some (p,.a (.raw (.slice none 0 0))),some (q,.a (.raw (.slice none 0 0)))=>some (p∧q,.one (.a (.bool (!neg))))
  |_,_=>none
 |.app0 x y=>match S.rd x,S.rd y with
  |some (p,.a (.ref m)),some (q,.a (.int _ n))=>(match S.find m with
   |some (.row _ _ _)=>some (p∧q∧n=0,.one (.a (.ref m)))
   |_=>none)
  |_,_=>none
 |.mkf f caps=>match Rf S caps with
  |some (p,vs)=>(match Uh vs with
   |some ms=>some (p,.one (.a (.clo f ms)))
   |none=>none)
  |none=>none
 |.mlook P K E k ok x i=>match S.rd x,S.rd i with
  |some (p,.a (.ref m)),some (q,.a (.str s))=>(match S.find m with
   |some (.smap P' K' E' k' f n)=>if K'=K∧E'=E then some (p∧q∧(P'=P∧k'=k)∧s.length≤9223372036854775807,N8 ok k' (f s))else none
   |some (.rosmap P' K' E' k' f n)=>if K'=K∧E'=E then some (p∧q∧(P'=P∧k'=k)∧s.length≤9223372036854775807,N8 ok k' (f s))else none
   |_=>none)
  |_,_=>none
 |_=>none
theorem Mem.row_cell{c:Cx}{ρ:Env}{R:List (Nat×Res)}{nx:Nat}{w:World}(h:Mem c ρ R nx w){m E:Nat}{k:Kd}{l:List k.ty}(hm:(m,Res.row E k l)∈R)
 {i j:Nat}{u:At}(hi:i<l.length)(hu:(k.enc (l.getD i k.dflt))[j]? =some u):
 ∃g cap,ρ m= .slice (some ⟨g,0,none⟩) l.length cap∧w.cell? ⟨g,i*k.sz+j,none⟩=some (u.den ρ):=by
 have hr:=h.res m _ hm
 simp only[Res.holds]at hr
 obtain⟨h1,h2⟩:=hr
 have hj:j<k.sz:=by rw[←k.enc_length (l.getD i k.dflt)];exact(List.getElem?_eq_some_iff.1 hu).1
 have hx:l[i]? =some (l.getD i k.dflt):=by simp[List.getD,hi]
 have hc:((l.flatMap k.enc).map (At.den ρ))[i*k.sz+j]? =some (u.den ρ):=by
  rw[List.getElem?_map,k.encs_get l i j _ hx hj,hu];rfl
 rcases h2 with⟨_,h2⟩|⟨g,cap,cur,hv,hg,hh,hn,hcap,hcur,htake⟩
 ·omega
 ·refine⟨g,cap,hv,?_⟩
  rw[cell_of_row w g _ cur E (0,0) hh]
  rw[←htake,List.getElem?_take]at hc
  split at hc
  ·simpa using hc
  ·cases hc
theorem Mem.ro_cell{c:Cx}{ρ:Env}{R:List (Nat×Res)}{nx:Nat}{w:World}(h:Mem c ρ R nx w){m:Nat}{k:Kd}{l:List k.ty}(hm:(m,Res.ro k l)∈R)
 {i j:Nat}{u:At}(hi:i<l.length)(hu:(k.enc (l.getD i k.dflt))[j]? =some u):
 ∃ad cap,ρ m= .slice (some ad) l.length cap∧w.cell? ⟨ad.block,ad.off+(i*k.sz+j),none⟩=some (u.den ρ):=by
 obtain⟨a,cap,ha,hnil,hc⟩:=h.res m _ hm
 cases a with
 |none=>have:=hnil rfl;rw[this]at hi;simp at hi
 |some ad=>exact⟨ad,cap,ha.1,((hc ad rfl).2 i (l.getD i k.dflt) (by simp[List.getD,hi]) j u hu).1⟩
theorem Wp{P:Program}{w:World}{t:TypeId}{d:TypeDesc}(ht:P.underlying t=some d)(hd:Wk d=false){a:Addr}{v:Value}(h:w.cell? a=some v):
 (loadVar t a).run P w= .ok v w:=by
 unfold loadVar isAgg
 cases d<;>simp[Wk]at hd<;>simp[run_underlying ht,Sem.run_bind,Sem.run_pure]<;>simp[load,Sem.run,h]
theorem Ty{P:Program}{w:World}{t:TypeId}{d:TypeDesc}{i:TypeInfo}(ht:P.underlying t=some d)(hi:P.info? t=some i)(hd:Wk d=true){a:Addr}{cs:List Value}(hn:i.size=cs.length)
 (h:∀j v,cs[j]? =some v→w.cell? (a.add j)=some v):(loadVar t a).run P w= .ok (.agg cs.toArray) w:=by
 have hl:=run_loadCells_list (P:=P) w a cs h
 unfold loadVar isAgg
 cases d<;>simp[Wk]at hd<;>simp[run_underlying ht,Sem.run_bind,Sem.run_pure,sizeOf,typeInfo,hi,hn,hl,program,Sem.run]
theorem U9{c:Cx}{P:Program}{ρ:Env}{w:World}{t:TypeId}{d:TypeDesc}{i:TypeInfo}(ht:P.underlying t=some d)(hi:P.info? t=some i){l:List At}{o nx:Nat}{v:SV}
 (h:Vh l o i.size (Wk d)=some v)(hb:∀u∈l,u.bd nx){a:Addr}(ha:a.spot=none)(hc:∀j u,l[o+j]? =some u→w.cell? ⟨a.block,a.off+j,none⟩=some (u.den ρ)):
 (loadVar t a).run P w= .ok (v.den ρ) w∧v.bd nx:=by
 obtain⟨ab,ao,aq⟩:=a
 simp only at ha;subst ha
 unfold Vh at h
 by_cases hd:Wk d=true
 ·rw[if_pos hd]at h
  split at h
  ·rename_i hle
   cases h
   have hlen:((l.drop o).take i.size).length=i.size:=by simp;omega
   refine⟨?_,fun u hu=>hb u (List.mem_of_mem_drop (List.mem_of_mem_take hu))⟩
   refine Ty ht hi hd (cs:=((l.drop o).take i.size).map (At.den ρ)) (by rw[List.length_map,hlen]) fun j x hj=> ?_
   rw[List.getElem?_map,List.getElem?_take]at hj
   split at hj
   ·rw[List.getElem?_drop]at hj
    cases hu:l[o+j]? with
    |none=>rw[hu]at hj;cases hj
    |some u=>
     rw[hu]at hj;cases hj
     have:=hc j u hu
     rw[Addr.add_lit];exact this
   ·cases hj
  ·cases h
 ·have hd':Wk d=false:=by simpa using hd
  rw[if_neg hd]at h
  cases hu:l[o]? with
  |none=>rw[hu]at h;cases h
  |some u=>
   rw[hu]at h;cases h
   exact⟨Wp ht hd' (by simpa[SV.den,S1.den]using hc 0 u hu),hb u (List.mem_of_getElem? hu)⟩
theorem Yb{P:Program}{w:World}(a:Addr):(Instr.sureAddr (.pointer (some a))).run P w= .ok a w:=rfl
theorem Zg{S:St}{m:Nat}{r:Res}(h:S.find m=some r):(m,r)∈S.res:=Yp h
theorem Zbi{c:Cx}{S:St}{ρ:Env}{a:Act}{w:World}(hh:S.holds c ρ a w){t:TypeId}{X:Operand}{d:TypeDesc}{i:TypeInfo}(ht:c.P.underlying t=some d)(hi:c.P.info? t=some i)
 {p:Prop}{v:SV}(h:ev S (.load i.size (Wk d) (opd X))=some (p,v))(hp:p):(Instr.loadAt t (a.eval X)).run c.P w= .ok (v.den ρ) w∧v.bd S.nx:=by
 simp only[ev]at h
 split at h
 ·rename_i q m o hrd
  split at h
  ·rename_i E l hf
   split at h
   ·rename_i v' hld
    cases h
    obtain⟨h1,_⟩:=Zc hh hrd hp
    obtain⟨b,hb1,hb2⟩:=hh.mem.res m _ (Zg hf)
    rw[h1]
    simp only[S1.den,At.den,hb1,Wl,Instr.loadAt,Sem.run_bind,Yb,Result.andThen_ok,Nat.zero_add]
    refine U9 (c:=c) ht hi hld (hh.mem.bdr m _ (Zg hf)).2 rfl fun j u hu=> ?_
    rw[cell_of_row w b _ _ E (0,0) hb2]
    simp[hu]
   ·cases h
  ·rename_i l hf
   split at h
   ·rename_i v' hld
    cases h
    obtain⟨h1,_⟩:=Zc hh hrd hp
    obtain⟨ad,hb1,hb2⟩:=hh.mem.res m _ (Zg hf)
    rw[h1]
    simp only[S1.den,At.den,hb1,Wl,Instr.loadAt,Sem.run_bind,Yb,Result.andThen_ok,Nat.zero_add]
    refine U9 (c:=c) ht hi hld (hh.mem.bdr m _ (Zg hf)).2 rfl fun j u hu=> ?_
    have:=(hb2 (o+j) u hu).1
    rw[Nat.add_assoc];exact this
   ·cases h
  ·cases h
 ·rename_i q m sz i' j hrd
  split at h
  ·rename_i k l hf
   split at h
   ·rename_i hsz
    subst hsz
    split at h
    ·rename_i v' hld
     cases h
     obtain⟨h1,_⟩:=Zc hh hrd hp.1
     have hne:∃u,(k.enc (l.getD i' k.dflt))[0]? =some u:=⟨_,List.getElem?_eq_getElem (by rw[k.enc_length];exact k.sz_pos)⟩
     obtain⟨u0,hu0⟩:=hne
     obtain⟨ad,cap,hv,_⟩:=hh.mem.ro_cell (Zg hf) hp.2 hu0
     rw[h1]
     simp only[S1.den,At.den,hv,Vx,Instr.loadAt,Sem.run_bind,Yb,Result.andThen_ok]
     refine U9 (c:=c) ht hi hld (k.enc_bd _ _) rfl fun q u hu=> ?_
     obtain⟨ad',cap',hv',hc'⟩:=hh.mem.ro_cell (Zg hf) hp.2 hu
     rw[hv]at hv';cases hv'
     rw[show ad.off+(i'*k.sz+j)+q=ad.off+(i'*k.sz+(j+q)) by omega]
     exact hc'
    ·cases h
   ·cases h
  ·rename_i E k l hf
   split at h
   ·rename_i hsz
    subst hsz
    split at h
    ·rename_i v' hld
     cases h
     obtain⟨h1,_⟩:=Zc hh hrd hp.1
     have hne:∃u,(k.enc (l.getD i' k.dflt))[0]? =some u:=⟨_,List.getElem?_eq_getElem (by rw[k.enc_length];exact k.sz_pos)⟩
     obtain⟨u0,hu0⟩:=hne
     obtain⟨g,cap,hv,_⟩:=hh.mem.row_cell (Zg hf) hp.2 hu0
     rw[h1]
     simp only[S1.den,At.den,hv,Vx,Instr.loadAt,Sem.run_bind,Yb,Result.andThen_ok,Nat.zero_add]
     refine U9 (c:=c) ht hi hld (k.enc_bd _ _) rfl fun q u hu=> ?_
     obtain⟨g',cap',hv',hc'⟩:=hh.mem.row_cell (Zg hf) hp.2 hu
     rw[hv]at hv';cases hv'
     rw[show i'*k.sz+j+q=i'*k.sz+(j+q) by omega]
     exact hc'
    ·cases h
   ·cases h
  ·rename_i E z e l hf
   split at h
   ·rename_i v' hld
    cases h
    obtain⟨h1,_⟩:=Zc hh hrd hp
    obtain⟨b,hb1,hb2,hb3⟩:=hh.mem.res m _ (Zg hf)
    rw[h1]
    simp only[S1.den,At.den,hb1,Vx,Instr.loadAt,Sem.run_bind,Yb,Result.andThen_ok,Nat.zero_add]
    refine U9 (c:=c) ht hi hld (hh.mem.bdr m _ (Zg hf)).2 rfl fun q u hu=> ?_
    rw[cell_of_row w b _ _ E (0,0) hb3]
    simp[hu]
   ·cases h
  ·cases h
 ·cases h
theorem Of{c:Cx}{S:St}{ρ:Env}{a:Act}{w:World}(hh:S.holds c ρ a w){sz m e:Nat}(h:lenOf S sz m=some e):
 ∃ad cap,ρ m= .slice ad e cap∧e≤cap∧(0<e→∀x,ad=some x→x.spot=none)∧(ad=none→e=0):=by
 unfold lenOf at h
 split at h
 ·rename_i k l hf
  split at h
  ·cases h
   obtain⟨a',cap,ha,hnil,hc⟩:=hh.mem.res m _ (Zg hf)
   exact⟨a',cap,ha.1,ha.2,fun h0 x hx=>(hc x hx).1 (fun e=>by rw[e]at h0;simp at h0),fun h=>by rw[hnil h];rfl⟩
  ·cases h
 ·rename_i E k l hf
  split at h
  ·cases h
   obtain⟨_,hr⟩:=hh.mem.res m _ (Zg hf)
   rcases hr with⟨hv,hn⟩|⟨g,cap,cur,hv,_,_,hn,_⟩
   ·exact⟨none,0,by rw[hv,hn],by omega,(fun _ x hx=>by cases hx),fun _=>hn⟩
   ·exact⟨_,cap,hv,hn,fun _ x hx=>by cases hx;rfl,fun h=>by cases h⟩
  ·cases h
 ·rename_i E z e' l hf
  split at h
  ·cases h
   obtain⟨b,hv,_⟩:=hh.mem.res m _ (Zg hf)
   exact⟨_,_,hv,Nat.le_refl _,fun _ x hx=>by cases hx;rfl,fun h=>by cases h⟩
  ·cases h
 ·cases h
theorem Zg5{P:Program}(neg:Bool)(op:BinOp)(hop:op=(if neg then .neq else .eql)){t:TypeId}{ps rs:Array TypeId}{va:Bool}(ht:P.underlying t=some (.func ps rs va))(w:World)(X Y:Operand):
 (do eqGuard op t X Y .nilFunc .nilFunc;binOp op t .nilFunc .nilFunc:Sem Value).run P w= .ok (.bool (!neg)) w:=by
 have h:∀n,(Op.equalIn (n+1) t .nilFunc .nilFunc).run P w= .ok true w:=fun n=>by
  unfold Op.equalIn
  rw[Sem.run_bind,run_underlying ht,Result.andThen_ok]
  simp[Sem.run_pure]
 have h1:(Op.equal t .nilFunc .nilFunc).run P w= .ok true w:=h 9999
 rw[Sem.run_bind,S8 _ _ _ _ _ _ (by simp) (by simp),Sem.run_pure,Result.andThen_ok]
 subst hop
 cases neg<;>simp only[binOp,Bool.false_eq_true,if_false,if_true]<;>rw[Sem.run_bind,h1,Result.andThen_ok,Sem.run_pure]<;>rfl
theorem Hk{P:Program}(neg:Bool)(op:BinOp)(hop:op=(if neg then .neq else .eql)){t e:TypeId}(ht:P.underlying t=some (.slice e))(w:World)(X Y:Operand)(b:Option Addr)(n cp:Nat):
 (do eqGuard op t X Y (.slice b n cp) (.slice none 0 0);binOp op t (.slice b n cp) (.slice none 0 0):Sem Value).run P w= .ok (.bool (if b.isNone then !neg else neg)) w:=by
 have h:∀k,(Op.equalIn (k+1) t (.slice b n cp) (.slice none 0 0)).run P w= .ok b.isNone w:=fun k=>by
  unfold Op.equalIn
  rw[Sem.run_bind,run_underlying ht,Result.andThen_ok]
  cases b<;>simp[Sem.run_pure]
 have h1:(Op.equal t (.slice b n cp) (.slice none 0 0)).run P w= .ok b.isNone w:=h 9999
 rw[Sem.run_bind,S8 _ _ _ _ _ _ (by simp) (by simp),Sem.run_pure,Result.andThen_ok]
 subst hop
 cases neg<;>simp only[binOp,Bool.false_eq_true,if_false,if_true]<;>rw[Sem.run_bind,h1,Result.andThen_ok,Sem.run_pure]<;>cases b<;>rfl
theorem Za3{c:Cx}{S:St}{ρ:Env}{a:Act}{w:World}(hh:S.holds c ρ a w){t e:TypeId}{n:Nat}{X Y:Operand}{i:TypeInfo}(ht:c.P.underlying t=some (.array n e))(hi:c.P.info? e=some i)
 {p:Prop}{v:SV}(h:ev S (.iarr n i.size (opd X) (opd Y))=some (p,v))(hp:p):(Instr.indexAt t (a.eval X) (a.eval Y)).run c.P w= .ok (v.den ρ) w∧v.bd S.nx:=by
 have hel:c.P.elem t=e:=by simp[Program.elem,ht]
 have hal:c.P.arrayLen t=n:=by simp[Program.arrayLen,ht]
 have main:∀(b o:Nat) (kk:IntKind) (z:Int),0≤z∧z<n→(Instr.indexAt t (.pointer (some ⟨b,o,none⟩)) (.int kk z)).run c.P w= .ok (.pointer (some ⟨b,o+z.toNat*i.size,none⟩)) w:=by
  intro b o kk z hz
  rw[run_indexAt_array (P:=c.P) (w:=w) t ⟨b,o,none⟩ kk z (by rw[hel,hal];exact ht),hal,if_pos hz,hel]
  simp[sizeOf,typeInfo,hi,program,Sem.run_bind,Sem.run_pure,Sem.run,Addr.add_lit]
 simp only[ev]at h
 split at h
 ·rename_i q1 m o q2 kk z hrx hry
  split at h
  ·rename_i E l hfm
   cases h
   obtain⟨h1,hb⟩:=Zc hh hrx hp.1
   obtain⟨h2,_⟩:=Zc hh hry hp.2.1
   obtain⟨b,hv,_⟩:=hh.mem.res m _ (Zg hfm)
   refine⟨?_,hb⟩
   rw[h1,h2]
   simp only[S1.den,At.den,SV.den,hv,Wl]
   rw[main _ _ _ _ hp.2.2,Nat.add_assoc]
  ·rename_i l hfm
   cases h
   obtain⟨h1,hb⟩:=Zc hh hrx hp.1
   obtain⟨h2,_⟩:=Zc hh hry hp.2.1
   obtain⟨b,hv,_⟩:=hh.mem.res m _ (Zg hfm)
   refine⟨?_,hb⟩
   rw[h1,h2]
   simp only[S1.den,At.den,SV.den,hv,Wl]
   rw[main _ _ _ _ hp.2.2,Nat.add_assoc]
  ·cases h
 ·cases h
theorem Zap{c:Cx}{S:St}{ρ:Env}{a:Act}{w:World}(hh:S.holds c ρ a w){t u ty e:TypeId}{k:IntKind}{X Y:Operand}{i:TypeInfo}(ht:c.P.underlying t=some (.slice e))(hu:c.P.underlying u=some (.int k))(hi:c.P.info? e=some i)
 {p:Prop}{v:SV}(h:ev S (.app0 (opd X) (opd Y))=some (p,v))(hp:p):(Builtin.append_ #[t,u] ty #[a.eval X,a.eval Y]).run c.P w= .ok (v.den ρ) w∧v.bd S.nx:=by
 have hl:∀(b:Option Addr) (n cp:Nat) (kk:IntKind),n≤cp→(Builtin.append_ #[t,u] ty #[.slice b n cp,.int kk 0]).run c.P w= .ok (.slice b n cp) w:=by
  intro b n cp kk hn
  cases b<;>simp[Builtin.append_,run_underlying ht,run_underlying hu,Sem.run_bind,Sem.run_pure,sizeOf,typeInfo,program,Sem.run,hi,asInt,asIntOf,hn,storeCells,IntKind.wrap,IntKind.signed,IntKind.bits]
 simp only[ev]at h
 split at h
 ·rename_i q1 m q2 kk z hrx hry
  split at h
  ·rename_i E k l hfm
   cases h
   obtain⟨h1,hb⟩:=Zc hh hrx hp.1
   obtain⟨h2,_⟩:=Zc hh hry hp.2.1
   obtain⟨_,hr⟩:=hh.mem.res m _ (Zg hfm)
   rw[h1,h2,hp.2.2]
   refine⟨?_,hb⟩
   simp only[S1.den,At.den,SV.den]
   rcases hr with⟨hv,hn⟩|⟨g,cap,cur,hv,_,_,hnc,_⟩
   ·rw[hv];exact hl _ _ _ _ (Nat.le_refl _)
   ·rw[hv];exact hl _ _ _ _ hnc
  ·cases h
 ·cases h
theorem Cp{c:Cx}{S:St}{ρ:Env}{a:Act}{w:World}(hh:S.holds c ρ a w){t e:TypeId}{X Y:Operand}{i:TypeInfo}(ht:c.P.underlying t=some (.slice e))(hi:c.P.info? e=some i)
 {p:Prop}{v:SV}(h:ev S (.iaddr i.size (opd X) (opd Y))=some (p,v))(hp:p):(Instr.indexAt t (a.eval X) (a.eval Y)).run c.P w= .ok (v.den ρ) w∧v.bd S.nx:=by
 have main:∀(ad:Addr) (len cap:Nat) (kk:IntKind) (n:Int),ad.spot=none→0≤n∧n<len→(Instr.indexAt t (.slice (some ad) len cap) (.int kk n)).run c.P w= .ok (.pointer (some ⟨ad.block,ad.off+n.toNat*i.size,none⟩)) w:=by
  intro ad len cap kk n had hn
  obtain⟨ab,ao,aq⟩:=ad
  simp only at had;subst had
  have hel:c.P.elem t=e:=by simp[Program.elem,ht]
  rw[run_indexAt_slice (P:=c.P) (w:=w) t ⟨ab,ao,none⟩ len cap kk n (by rw[hel];exact ht),if_pos hn,hel]
  simp[sizeOf,typeInfo,hi,program,Sem.run_bind,Sem.run_pure,Sem.run,Addr.add_lit]
 simp only[ev]at h
 split at h
 ·rename_i q1 m q2 kk n hrx hry
  split at h
  ·rename_i k l hf
   split at h
   ·rename_i hsz
    cases h
    obtain⟨h1,_⟩:=Zc hh hrx hp.1
    obtain⟨h2,_⟩:=Zc hh hry hp.2.1
    have hl:n.toNat<l.length:=by have:=hp.2.2;omega
    obtain⟨a',cap,ha,hnil,hc⟩:=hh.mem.res m _ (Zg hf)
    cases a' with
    |none=>have:=hnil rfl;rw[this]at hl;simp at hl
    |some ad=>
     refine⟨?_,(hh.mem.bdr m _ (Zg hf)).1⟩
     rw[h1,h2]
     simp only[S1.den,At.den,ha.1,SV.den,Vx,Nat.add_zero]
     exact main ad _ cap kk n ((hc ad rfl).1 (fun e=>by rw[e]at hl;simp at hl)) hp.2.2
   ·cases h
  ·rename_i E k l hf
   split at h
   ·rename_i hsz
    cases h
    obtain⟨h1,_⟩:=Zc hh hrx hp.1
    obtain⟨h2,_⟩:=Zc hh hry hp.2.1
    have hl:n.toNat<l.length:=by have:=hp.2.2;omega
    obtain⟨_,hr⟩:=hh.mem.res m _ (Zg hf)
    rcases hr with⟨_,hr⟩|⟨g,cap,cur,hv,_⟩
    ·omega
    ·refine⟨?_,(hh.mem.bdr m _ (Zg hf)).1⟩
     rw[h1,h2]
     simp only[S1.den,At.den,hv,SV.den,Vx,Nat.add_zero]
     exact main ⟨g,0,none⟩ _ cap kk n rfl hp.2.2
   ·cases h
  ·rename_i E z e' l hf
   split at h
   ·rename_i hsz
    cases h
    obtain⟨h1,_⟩:=Zc hh hrx hp.1
    obtain⟨h2,_⟩:=Zc hh hry hp.2.1
    obtain⟨b,hv,_⟩:=hh.mem.res m _ (Zg hf)
    refine⟨?_,(hh.mem.bdr m _ (Zg hf)).1⟩
    rw[h1,h2]
    simp only[S1.den,At.den,hv,SV.den,Vx,Nat.add_zero]
    exact main ⟨b,0,none⟩ _ _ kk n rfl hp.2.2
   ·cases h
  ·rename_i l hf
   split at h
   ·rename_i hsz
    cases h
    obtain⟨h1,_⟩:=Zc hh hrx hp.1
    obtain⟨h2,_⟩:=Zc hh hry hp.2.1
    have hl:n.toNat<l.length:=by have:=hp.2.2;omega
    obtain⟨a',cap,ha,hnil,hc⟩:=hh.mem.res m _ (Zg hf)
    cases a' with
    |none=>have:=hnil rfl;rw[this]at hl;simp at hl
    |some ad=>
     refine⟨?_,(hh.mem.bdr m _ (Zg hf)).1⟩
     rw[h1,h2]
     simp only[S1.den,At.den,ha.1,SV.den,Vx,Nat.add_zero]
     exact main ad _ cap kk n ((hc ad rfl).1 (fun e=>by rw[e]at hl;simp at hl)) hp.2.2
   ·cases h
  ·rename_i m' z lo hi2 hf
   split at h
   ·rename_i hsz
    split at h
    ·rename_i e2 he
     cases h
     obtain⟨h1,_⟩:=Zc hh hrx hp.1
     obtain⟨h2,_⟩:=Zc hh hry hp.2.1
     obtain⟨ad,cap,g1,g2,g3,g4⟩:=Of hh he
     obtain⟨ad1,len1,cap1,ad',v1,v2,v3,v4⟩:=hh.mem.res m _ (Zg hf)
     rw[g1]at v1;cases v1
     have hlt:lo<cap:=by have:=hp.2.2;omega
     have hcap:=v4.2 hlt
     cases ad with
     |none=>have:=g4 rfl;have:=hp.2.2;omega
     |some ad=>
      refine⟨?_,(hh.mem.bdr m _ (Zg hf)).2⟩
      rw[h1,h2]
      simp only[S1.den,At.den,v2,hcap,SV.den,g1,Vx,Nat.add_zero,Option.map_some]
      have hsp:=g3 (by have:=hp.2.2;omega) ad rfl
      obtain⟨ab,ao,aq⟩:=ad
      simp only at hsp;subst hsp
      subst hsz
      rw[Addr.add_lit]
      have:=main ⟨ab,ao+lo*i.size,none⟩ (hi2-lo) (cap-lo) kk n rfl (by have:=hp.2.2;omega)
      rw[this]
      simp only[Nat.add_mul,Nat.add_assoc]
    ·cases h
   ·cases h
  ·cases h
 ·cases h
theorem At.den_one{ρ:Env}(h:∀n,(ρ n).oneCell'=true){nx:Nat}{x:At}(hx:x.bd nx):(x.den ρ).oneCell'=true:=by
 cases x with
 |raw v=>exact hx
 |ref n=>exact h n
 |loc n o=>simp only[At.den];unfold Wl;split<;>rfl
 |elt n sz i j=>simp only[At.den];unfold Vx;split<;>rfl
 |_=>rfl
theorem Zet{v:Value}(h:v.oneCell'=true):v.cells= #[v]:=by
 cases v<;>first|rfl|simp[Value.oneCell']at h
theorem Sl{ρ:Env}(h:∀n,(ρ n).oneCell'=true){nx:Nat}{v:S1}(hv:v.bd nx):(v.den ρ).cells=(v.cells.map (At.den ρ)).toArray:=by
 cases v with
 |agg l=>rfl
 |a x=>simp only[S1.den,S1.cells,List.map_cons,List.map_nil];rw[Zet (At.den_one h hv)]
theorem P9{nx:Nat}{v:S1}(hv:v.bd nx):∀u∈v.cells,u.bd nx:=by
 cases v with
 |agg l=>exact hv
 |a x=>intro u hu;simp only[S1.cells,List.mem_singleton]at hu;subst hu;exact hv
theorem Ph{ρ:Env}(place:Nat→Option (Nat×Nat)){c:Cx}{S:St}{a:Act}{w:World}(hh:S.holds c ρ a w)(pl:List (Nat×Nat))(hpl:∀(i:Nat) q,pl[i]? =some q→place i=some q):
 ∀(parts:List (Nat×Operand)) (ps:List (Nat×Nat×Opd)) (l l':List At) (p:Prop),Sa pl parts=some ps→Wz S ps l=some (p,l')→p→(∀u∈l,u.bd S.nx)→
  Instr.fill place (l.map (At.den ρ)).toArray (parts.map fun x=>(x.1,a.eval x.2))=some (l'.map (At.den ρ)).toArray∧(∀u∈l',u.bd S.nx):=by
 have put:∀(us:List Value) (l:List Value) (o:Nat),o+us.length≤l.length→
  us.toArray.zipIdx.foldl (fun cs (x:Value×Nat)=>cs.setIfInBounds (o+x.2) x.1) l.toArray=(l.take o++us++l.drop (o+us.length)).toArray:=by
  intro us l o ho
  have key:∀(us:List Value) (k:Nat) (l:List Value),o+k+us.length≤l.length→
   (us.zipIdx k).foldl (fun(cs:Array Value) (x:Value×Nat)=>cs.setIfInBounds (o+x.2) x.1) l.toArray=(l.take (o+k)++us++l.drop (o+k+us.length)).toArray:=by
   intro us
   induction us with
   |nil=>intro k l hl;simp
   |cons u us ih=>
    intro k l hl
    simp only[List.length_cons]at hl
    rw[List.zipIdx_cons,List.foldl_cons]
    have hs:l.toArray.setIfInBounds (o+k) u=(l.set (o+k) u).toArray:=by simp
    simp only[hs]
    rw[ih (k+1) (l.set (o+k) u) (by simp;omega)]
    congr 1
    have e1:(l.set (o+k) u).take (o+(k+1))=l.take (o+k)++[u]:=by
     rw[show o+(k+1)=(o+k)+1 by omega,List.take_succ_eq_append_getElem (by simp;omega)]
     simp[List.take_set_of_le]
    have e2:(l.set (o+k) u).drop (o+(k+1)+us.length)=l.drop (o+k+(us.length+1)):=by
     rw[List.drop_set_of_lt (by omega)]
     congr 1;omega
    rw[e1,e2]
    simp
  have:=key us 0 l (by omega)
  simp only[Nat.add_zero]at this
  rw[←this]
  simp
 intro parts
 induction parts with
 |nil=>
  intro ps l l' p h1 h2 hp hb
  cases h1
  cases h2
  exact⟨rfl,hb⟩
 |cons x parts ih=>
  intro ps l l' p h1 h2 hp hb
  obtain⟨i,x⟩:=x
  simp only[Sa]at h1
  split at h1
  ·rename_i o z r' hi hr
   cases h1
   simp only[Wz]at h2
   split at h2
   ·rename_i q v hrd
    split at h2
    ·rename_i hlen
     split at h2
     ·rename_i q' l'' hrest
      cases h2
      obtain⟨e1,e2⟩:=Zc hh hrd hp.1
      have hvc:=Sl hh.mem.one e2
      have hz:(v.cells.map (At.den ρ)).length=z:=by rw[List.length_map];exact hlen.1
      have hfit:o+(v.cells.map (At.den ρ)).length≤(l.map (At.den ρ)).length:=by rw[List.length_map,List.length_map,hlen.1];exact hlen.2
      have hput:(l.map (At.den ρ)).take o++v.cells.map (At.den ρ)++(l.map (At.den ρ)).drop (o+(v.cells.map (At.den ρ)).length)=(Wg l o v.cells).map (At.den ρ):=by
       simp[Wg,List.map_take,List.map_drop]
      have hb':∀u∈Wg l o v.cells,u.bd S.nx:=by
       intro u hu
       simp only[Wg,List.mem_append]at hu
       rcases hu with(hu|hu)|hu
       ·exact hb u (List.mem_of_mem_take hu)
       ·exact P9 e2 u hu
       ·exact hb u (List.mem_of_mem_drop hu)
      obtain⟨g1,g2⟩:=ih _ _ _ _ hr hrest hp.2 hb'
      refine⟨?_,g2⟩
      simp only[List.map_cons,Instr.fill,hpl _ _ hi,e1,hvc]
      rw[if_neg (by simp[hlen.1,hlen.2])]
      rw[←g1,←hput,←put _ _ _ hfit]
     ·cases h2
    ·cases h2
   ·cases h2
  ·cases h1
theorem Fm{x:At}(h:x.bd 0)(n:Nat):x.bd n:=At.bd_mono (Nat.zero_le n) h
theorem Va{P:Program}{w:World}{s:Sem Value}{v:Value}(h:s.run P w= .ok v w):(do pure (.value (←s)):Sem Next).run P w= .ok (.value v) w:=by
 rw[Sem.run_bind,h,Result.andThen_ok,Sem.run_pure]
theorem C8{g:Bool}{x y z:At}(h:Um g x y=some z)(ρ:Env):z.den ρ=(if g then x.den ρ else y.den ρ)∧z.bd 0:=by
 cases x<;>cases y<;>simp only[Um,reduceCtorEq]at h
 case int.int k a k' b=>
  split at h
  ·rename_i hk;subst hk;cases h
   cases g<;>exact⟨rfl,trivial⟩
  ·cases h
 all_goals cases h;cases g<;>exact⟨rfl,trivial⟩
theorem Zcn{P:Program}{op:UnOp}{x z:At}(h:Hp op x=some z)(ρ:Env)(w:World):(Op.unary op (x.den ρ)).run P w= .ok (z.den ρ) w∧z.bd 0:=by
 cases op<;>cases x<;>simp only[Hp,reduceCtorEq]at h<;>cases h<;>refine⟨?_,trivial⟩<;>
  simp[Op.unary,At.den,Op.intArith,Op.intBits,Mh,Sem.run_pure]
theorem Zbp{P:Program}{ρ:Env}{nx:Nat}{t:TypeId}{d:TypeDesc}{i:TypeInfo}(ht:P.underlying t=some d)(hi:P.info? t=some i){l:List At}{off:Nat}{v:SV}(w:World)
 (h:Vh l off i.size (Wk d)=some v)(hb:∀u∈l,u.bd nx):(part t (l.map (At.den ρ)).toArray off).run P w= .ok (v.den ρ) w∧v.bd nx:=by
 unfold Vh at h
 by_cases hd:Wk d=true
 ·rw[if_pos hd]at h
  split at h
  ·rename_i hle
   cases h
   refine⟨?_,fun u hu=>hb u (List.mem_of_mem_drop (List.mem_of_mem_take hu))⟩
   have hx:(l.map (At.den ρ)).toArray.extract off (off+i.size)=(((l.drop off).take i.size).map (At.den ρ)).toArray:=by
    simp[List.map_take,List.map_drop]
   unfold part isAgg
   cases d<;>simp[Wk]at hd<;>simp[run_underlying ht,Sem.run_bind,Sem.run_pure,sizeOf,typeInfo,hi,program,Sem.run,SV.den,S1.den]<;>simp[List.map_take,List.map_drop]
  ·cases h
 ·have hd':Wk d=false:=by simpa using hd
  rw[if_neg hd]at h
  cases hu:l[off]? with
  |none=>rw[hu]at h;cases h
  |some u=>
   rw[hu]at h;cases h
   refine⟨?_,hb u (List.mem_of_getElem? hu)⟩
   unfold part isAgg
   cases d<;>simp[Wk]at hd'<;>simp[run_underlying ht,Sem.run_bind,Sem.run_pure,hu,SV.den,S1.den]
theorem Hh{P:Program}{w:World}:∀ {fs:List Field} {pl:List (Nat×Nat)},(fs.mapM fun f=>(P.info? f.type).map fun i=>(f.offset,i.size))=some pl→
 (fs.mapM fun f=>(do pure (f.offset,←sizeOf f.type):Sem (Nat×Nat))).run P w= .ok pl w
 | [],pl,h=>by simp at h;subst h;simp[Sem.run_pure]
 |f::fs,pl,h=>by
  rw[List.mapM_cons]at h
  cases hi:P.info? f.type with
  |none=>simp[hi]at h
  |some i=>
   simp only[hi,Option.map_some,Option.bind_eq_bind,Option.bind_some]at h
   cases hr:(fs.mapM fun f=>(P.info? f.type).map fun i=>(f.offset,i.size))with
   |none=>simp[hr]at h
   |some pl'=>
    simp[hr]at h
    subst h
    have ih:=Hh (P:=P) (w:=w) hr
    rw[List.mapM_cons]
    simp only[Sem.run_bind,Result.andThen_ok,sizeOf,typeInfo,program,Sem.run,hi,Sem.run_pure]at ih ⊢
    rw[ih]
    rfl
theorem Wr{P:Program}{t:TypeId}{i:TypeInfo}{z:Value}(hi:P.info? t=some i)(hz:i.zero=some z)(w:World):(zeroValue t).run P w= .ok z w:=by
 simp[zeroValue,typeInfo,hi,hz,program,Sem.run_bind,Sem.run,Sem.run_pure]
theorem Je(ρ:Env)(l:List Value):(l.map atV).map (At.den ρ)=l:=by
 rw[List.map_map]
 conv=>rhs;rw[←List.map_id l]
 exact List.map_congr_left fun x _=>Fj ρ x
theorem Ds{c:Cx}{S:St}{ρ:Env}{a:Act}{w:World}(hh:S.holds c ρ a w){t:TypeId}{parts:Array (Nat×Operand)}{fs:Array Field}{i:TypeInfo}{z:Value}{pl:List (Nat×Nat)}{ps:List (Nat×Nat×Opd)}
 (ht:c.P.underlying t=some (.struct fs))(hi:c.P.info? t=some i)(hz:i.zero=some z)(hpl:sizes c.P fs=some pl)(hps:Sa pl parts.toList=some ps)(hzo:okV z=true)
 {p:Prop}{l:List At}(h:Wz S ps (z.cells.toList.map atV)=some (p,l))(hp:p):(Instr.build t (parts.map fun(i,x)=>(i,a.eval x))).run c.P w= .ok (.agg (l.map (At.den ρ)).toArray) w∧∀u∈l,u.bd S.nx:=by
 have hbd:∀u∈z.cells.toList.map atV,u.bd S.nx:=fun u hu=>by
  obtain⟨x,hx,rfl⟩:=List.mem_map.1 hu
  exact J1 _ _ (List.all_eq_true.1 hzo x hx)
 have hfill:=Ph (fun k=>pl[k]?) hh pl (fun _ _ h=>h) parts.toList ps _ l p hps h hp hbd
 rw[Je]at hfill
 refine⟨?_,hfill.2⟩
 have hsz:=Hh (P:=c.P) (w:=w) (show fs.toList.mapM _=some pl from hpl)
 have harr:(fs.mapM fun f=>(do pure (f.offset,←sizeOf f.type):Sem (Nat×Nat))).run c.P w= .ok pl.toArray w:=by
  rw[Array.mapM_eq_mapM_toList]
  simp only[map_eq_pure_bind,Sem.run_bind,hsz,Result.andThen_ok,Sem.run_pure]
 unfold Instr.build
 simp only[Sem.run_bind,Wr hi hz,Result.andThen_ok,run_underlying ht]
 rw[harr]
 simp only[Result.andThen_ok]
 have hf:=hfill.1
 have e1:(fun(k:Nat)=>pl.toArray[k]?)=fun(k:Nat)=>pl[k]? :=by funext k;simp
 have e2:(parts.map fun(i,x)=>(i,a.eval x)).toList=parts.toList.map fun x=>(x.1,a.eval x.2):=by simp
 rw[e1,e2]
 have e3:z.cells.toList.toArray=z.cells:=by simp
 rw[e3]at hf
 rw[hf]
 simp[Sem.run_pure]
theorem Fp{c:Cx}{S:St}{ρ:Env}{a:Act}{w:World}(hh:S.holds c ρ a w){t e n:Nat}{parts:Array (Nat×Operand)}{i j:TypeInfo}{z:Value}{ps:List (Nat×Nat×Opd)}
 (ht:c.P.underlying t=some (.array n e))(hi:c.P.info? t=some i)(hz:i.zero=some z)(hj:c.P.info? e=some j)(hps:Sa ((List.range n).map fun q=>(q*j.size,j.size)) parts.toList=some ps)(hzo:okV z=true)
 {p:Prop}{l:List At}(h:Wz S ps (z.cells.toList.map atV)=some (p,l))(hp:p):(Instr.build t (parts.map fun(i,x)=>(i,a.eval x))).run c.P w= .ok (.agg (l.map (At.den ρ)).toArray) w∧∀u∈l,u.bd S.nx:=by
 have hbd:∀u∈z.cells.toList.map atV,u.bd S.nx:=fun u hu=>by
  obtain⟨x,hx,rfl⟩:=List.mem_map.1 hu
  exact J1 _ _ (List.all_eq_true.1 hzo x hx)
 have hfill:=Ph (fun q=>some (q*j.size,j.size)) hh _ (fun q v hq=>by
  simp only[List.getElem?_map,Option.map_eq_some_iff]at hq
  obtain⟨x,hx,rfl⟩:=hq
  have hx2:=(List.getElem?_eq_some_iff.1 hx).2
  rw[List.getElem_range]at hx2
  rw[hx2]) parts.toList ps _ l p hps h hp hbd
 rw[Je]at hfill
 refine⟨?_,hfill.2⟩
 unfold Instr.build
 simp only[Sem.run_bind,Wr hi hz,Result.andThen_ok,run_underlying ht,sizeOf,typeInfo,program,Sem.run,hj,Sem.run_pure]
 have hf:=hfill.1
 have e2:(parts.map fun(i,x)=>(i,a.eval x)).toList=parts.toList.map fun x=>(x.1,a.eval x.2):=by simp
 rw[e2]
 have e3:z.cells.toList.toArray=z.cells:=by simp
 rw[e3]at hf
 rw[hf]
 simp[Sem.run_pure]
theorem Hu{c:Cx}{S:St}{ρ:Env}{a:Act}{w:World}(hh:S.holds c ρ a w){t:TypeId}{fs:Array Field}{f:Nat}{fl:Field}{i:TypeInfo}{X:Operand}
 (ht:c.P.underlying t=some (.struct fs))(hf:fs[f]? =some fl)(hi:c.P.info? fl.type=some i)(hne:i.size≠0)
 {p:Prop}{v:SV}(h:ev S (.faddr fl.offset (opd X))=some (p,v))(hp:p):(Instr.fieldAt t (a.eval X) f).run c.P w= .ok (v.den ρ) w∧v.bd S.nx:=by
 have main:∀(b o:Nat),(Instr.fieldAt t (.pointer (some ⟨b,o,none⟩)) f).run c.P w= .ok (.pointer (some ⟨b,o+fl.offset,none⟩)) w:=by
  intro b o
  unfold Instr.fieldAt
  simp only[Sem.run_bind,run_underlying ht,Result.andThen_ok,hf,Yb,fieldPlace,sizeOf,typeInfo,program,Sem.run,hi,Sem.run_pure,hne,if_false,Addr.add_lit]
 simp only[ev]at h
 split at h
 ·rename_i q m o hrd
  split at h
  ·rename_i E l hfm
   cases h
   obtain⟨h1,hb⟩:=Zc hh hrd hp
   obtain⟨b,hv,_⟩:=hh.mem.res m _ (Zg hfm)
   refine⟨?_,hb⟩
   rw[h1]
   simp only[S1.den,At.den,SV.den,hv,Wl]
   rw[main,Nat.add_assoc]
  ·rename_i l hfm
   cases h
   obtain⟨h1,hb⟩:=Zc hh hrd hp
   obtain⟨b,hv,_⟩:=hh.mem.res m _ (Zg hfm)
   refine⟨?_,hb⟩
   rw[h1]
   simp only[S1.den,At.den,SV.den,hv,Wl]
   rw[main,Nat.add_assoc]
  ·cases h
 ·rename_i q m sz i' j hrd
  split at h
  ·rename_i k l hfm
   cases h
   obtain⟨h1,hb⟩:=Zc hh hrd hp.1
   obtain⟨u0,hu0⟩:∃u,(k.enc (l.getD i' k.dflt))[0]? =some u:=⟨_,List.getElem?_eq_getElem (by rw[k.enc_length];exact k.sz_pos)⟩
   obtain⟨ad,cap,hv,_⟩:=hh.mem.ro_cell (Zg hfm) hp.2 hu0
   refine⟨?_,hb⟩
   rw[h1]
   simp only[S1.den,At.den,SV.den,hv,Vx]
   rw[main]
   simp only[Nat.add_assoc]
  ·rename_i E k l hfm
   cases h
   obtain⟨h1,hb⟩:=Zc hh hrd hp.1
   obtain⟨u0,hu0⟩:∃u,(k.enc (l.getD i' k.dflt))[0]? =some u:=⟨_,List.getElem?_eq_getElem (by rw[k.enc_length];exact k.sz_pos)⟩
   obtain⟨g,cap,hv,_⟩:=hh.mem.row_cell (Zg hfm) hp.2 hu0
   refine⟨?_,hb⟩
   rw[h1]
   simp only[S1.den,At.den,SV.den,hv,Vx]
   rw[main]
   simp only[Nat.add_assoc]
  ·rename_i E z e l hfm
   cases h
   obtain⟨h1,hb⟩:=Zc hh hrd hp
   obtain⟨b,hv,_⟩:=hh.mem.res m _ (Zg hfm)
   refine⟨?_,hb⟩
   rw[h1]
   simp only[S1.den,At.den,SV.den,hv,Vx]
   rw[main]
   simp only[Nat.add_assoc]
  ·rename_i l hfm
   cases h
   obtain⟨h1,hb⟩:=Zc hh hrd hp.1
   obtain⟨a',cap,ha,hnil,hc⟩:=hh.mem.res m _ (Zg hfm)
   cases a' with
   |none=>have:=hnil rfl;have:=hp.2;simp_all
   |some ad=>
    refine⟨?_,hb⟩
    rw[h1]
    simp only[S1.den,At.den,SV.den,ha.1,Vx]
    rw[main]
    simp only[Nat.add_assoc]
  ·cases h
 ·cases h
theorem Zch{c:Cx}{S:St}{ρ:Env}{a:Act}{w:World}(hh:S.holds c ρ a w){t ty:TypeId}{X:Operand}
 (ht:c.P.underlying t=some .string){p:Prop}{v:SV}(h:ev S (.slen (opd X))=some (p,v))(hp:p):
 (Builtin.len_ #[t] ty #[a.eval X]).run c.P w= .ok (v.den ρ) w∧v.bd S.nx:=by
 simp only[ev]at h
 split at h
 ·rename_i q s hrd
  cases h
  obtain⟨h1,hb⟩:=Zc hh hrd hp
  refine⟨?_,trivial⟩
  rw[h1]
  have hz:(ByteArray.mk s.toArray).size=s.length:=by show s.toArray.size=_;simp
  simp only[S1.den,At.den,SV.den]
  unfold Builtin.len_
  simp only[Sem.run_bind,run_underlying ht,Result.andThen_ok,Sem.run_pure,goInt,hz,List.getElem?_toArray,List.getElem?_cons_zero]
 ·cases h
theorem Zfb{c:Cx}{S:St}{ρ:Env}{a:Act}{w:World}(hh:S.holds c ρ a w){t ty e:TypeId}{X:Operand}
 (ht:c.P.underlying t=some (.slice e)){p:Prop}{v:SV}(h:ev S (.len (opd X))=some (p,v))(hp:p):
 (Builtin.len_ #[t] ty #[a.eval X]).run c.P w= .ok (v.den ρ) w∧v.bd S.nx:=by
 have hl:∀(b:Option Addr) (n cp:Nat),(Builtin.len_ #[t] ty #[.slice b n cp]).run c.P w= .ok (.int .i64 n) w:=by
  intro b n cp
  simp[Builtin.len_,run_underlying ht,Sem.run_bind,Sem.run_pure,goInt]
 simp only[ev]at h
 split at h
 ·rename_i q m hrd
  split at h
  ·rename_i k l hfm
   cases h
   obtain⟨h1,hb⟩:=Zc hh hrd hp
   obtain⟨ad,cap,hv,_⟩:=hh.mem.res m _ (Zg hfm)
   rw[h1]
   simp only[S1.den,At.den,hv.1]
   exact⟨hl _ _ _,trivial⟩
  ·rename_i E k l hfm
   cases h
   obtain⟨h1,hb⟩:=Zc hh hrd hp
   obtain⟨_,hr⟩:=hh.mem.res m _ (Zg hfm)
   rw[h1]
   simp only[S1.den,At.den]
   rcases hr with⟨hv,hn⟩|⟨g,cap,cur,hv,_⟩
   ·rw[hv,hn];exact⟨hl _ _ _,trivial⟩
   ·rw[hv];exact⟨hl _ _ _,trivial⟩
  ·rename_i E z e l hfm
   cases h
   obtain⟨h1,hb⟩:=Zc hh hrd hp
   obtain⟨b,hv,_⟩:=hh.mem.res m _ (Zg hfm)
   rw[h1]
   simp only[S1.den,At.den,hv]
   exact⟨hl _ _ _,trivial⟩
  ·rename_i l hfm
   cases h
   obtain⟨h1,hb⟩:=Zc hh hrd hp
   obtain⟨ad,cap,hv,_⟩:=hh.mem.res m _ (Zg hfm)
   rw[h1]
   simp only[S1.den,At.den,hv.1]
   exact⟨hl _ _ _,trivial⟩
  ·rename_i base E l hfm
   cases h
   obtain⟨h1,hb⟩:=Zc hh hrd hp
   obtain⟨us,hlen,⟨_,hr⟩,_⟩:=hh.mem.res m _ (Zg hfm)
   rw[h1]
   simp only[S1.den,At.den,SV.den]
   rw[←hlen]
   rcases hr with⟨hv,hn⟩|⟨g,cap,cur,hv,_⟩
   ·rw[hv,hn];exact⟨hl _ _ _,trivial⟩
   ·rw[hv];exact⟨hl _ _ _,trivial⟩
  ·rename_i m' z lo hi hfm
   cases h
   obtain⟨h1,hb⟩:=Zc hh hrd hp
   obtain⟨ad1,len1,cap1,ad',v1,v2,v3,v4⟩:=hh.mem.res m _ (Zg hfm)
   rw[h1]
   simp only[S1.den,At.den,v2]
   exact⟨hl _ _ _,trivial⟩
  ·cases h
 ·rename_i q hrd
  cases h
  obtain⟨h1,hb⟩:=Zc hh hrd hp
  rw[h1]
  exact⟨hl _ _ _,trivial⟩
 ·cases h
theorem Fw(s:List UInt8)(l h:Nat)(hl:h≤s.length):(ByteArray.mk s.toArray).extract l h=ByteArray.mk ((s.take h).drop l).toArray:=by
 apply ByteArray.ext
 rw[ByteArray.data_extract]
 simp[List.extract_eq_take_drop,List.drop_take]
theorem ssl_run{P:Program}{t:TypeId}(ht:P.underlying t=some .string)(s:List UInt8)(lo hi:Option Value)(l h:Int)(kl kh:IntKind)(w:World)
 (hlo:lo=some (.int kl l)∨lo=none∧l=0)(hhi:hi=some (.int kh h)∨hi=none∧h=s.length)(h0:0≤l)(h1:l≤h)(h2:h≤s.length):
 (Instr.sliceAt t (.string ⟨s.toArray⟩) lo hi none).run P w= .ok (.string ⟨((s.take h.toNat).drop l.toNat).toArray⟩) w:=by
 have hz:(ByteArray.mk s.toArray).size=s.length:=by show s.toArray.size=_;simp
 unfold Instr.sliceAt
 simp only[Sem.run_bind,run_underlying ht,Result.andThen_ok]
 unfold Instr.slice
 simp only[Sem.run_bind,run_underlying ht,Result.andThen_ok,Option.isSome_none,Bool.false_eq_true,if_false,hz]
 have hbd:∀(k:IntKind) (i:Int) (y:Nat) (c:BoundsCode),0≤i∧i≤y→(Instr.sliceBound (.int k i) y c).run P w= .ok i.toNat w:=by
  intro k i y c hi
  unfold Instr.sliceBound
  simp only[Sem.run_bind,asIntOf,Sem.run_pure,Result.andThen_ok,hi,and_self,if_true]
 have hb:(Instr.sliceBounds false s.length s.length lo hi none).run P w= .ok (l.toNat,h.toNat,s.length) w:=by
  unfold Instr.sliceBounds
  rcases hlo with rfl|⟨rfl,rfl⟩<;>rcases hhi with rfl|⟨rfl,rfl⟩<;>
   simp only[Sem.run_bind,Sem.run_pure,Result.andThen_ok,Bool.false_eq_true,if_false,Option.isSome_none]
  ·rw[hbd kh h _ _ (by omega),Result.andThen_ok,hbd kl l _ _ (by omega),Result.andThen_ok]
  ·rw[hbd kl l _ _ (by omega),Result.andThen_ok,Int.toNat_natCast]
  ·rw[hbd kh h _ _ (by omega),Result.andThen_ok];rfl
  ·rw[Int.toNat_natCast];rfl
 rw[hb]
 simp only[Result.andThen_ok,Sem.run_pure,Fw s _ _ (show h.toNat≤s.length by omega)]
theorem Zhu{P:Program}{t:TypeId}(ht:P.underlying t=some .string)(s:List UInt8)(k:IntKind)(n:Int)(w:World)(h0:0≤n∧n<s.length):
 (Instr.index t (.string ⟨s.toArray⟩) (.int k n)).run P w= .ok (.int .u8 (Wc s n.toNat)) w:=by
 unfold Instr.index
 have hn:n.toNat<s.length:=by omega
 have hg:(ByteArray.mk s.toArray)[n.toNat]? =some s[n.toNat]:=by
  show(if h:n.toNat<(ByteArray.mk s.toArray).size then some ((ByteArray.mk s.toArray)[n.toNat]'h)else none)=_
  have hz:(ByteArray.mk s.toArray).size=s.length:=by show s.toArray.size=_;simp
  rw[dif_pos (by rw[hz];exact hn)]
  rfl
 simp only[Sem.run_bind,asIntOf,Sem.run_pure,Result.andThen_ok,run_underlying ht,h0.1,if_true,hg]
 simp[Wc,List.getD,hn]
def Qj(P:Program)(ρ:Env)(t:TypeId)(l:List At)(v:Value):Prop:=
 match P.underlying t with
 |some (.struct _)=>v= .agg (l.map (At.den ρ)).toArray
 |_=>∃x,l=[x]∧v=x.den ρ
theorem Od:∀ {ks:List EK} {l m:List At} {b:Bool},R6 ks l m=some b→l.length=ks.length∧m.length=ks.length
 | [],[],[],b,h=>⟨rfl,rfl⟩
 |k::ks,x::l,y::m,b,h=>by
  simp only[R6]at h
  split at h
  ·rename_i h1 h2
   have:=Od h2
   simp[this]
  ·cases h
 | [],[],_::_,_,h=>by cases h
 | [],_::_,_,_,h=>by cases h
 |_::_,[],_,_,h=>by cases h
 |_::_,_::_,[],_,h=>by cases h
theorem Kn:∀ {ks r:List EK} {l m:List At} {b:Bool},R6 (ks++r) l m=some b→∃b1 b2,R6 ks (l.take ks.length) (m.take ks.length)=some b1∧R6 r (l.drop ks.length) (m.drop ks.length)=some b2∧b=(b1&&b2)
 | [],r,l,m,b,h=>⟨true,b,by simp[R6],by simpa using h,by simp⟩
 |k::ks,r,[],m,b,h=>by cases h
 |k::ks,r,x::l,[],b,h=>by cases h
 |k::ks,r,x::l,y::m,b,h=>by
  simp only[List.cons_append,R6]at h
  split at h
  ·rename_i a c h1 h2
   cases h
   obtain⟨b1,b2,e1,e2,e3⟩:=Kn h2
   refine⟨a&&b1,b2,?_,by simpa using e2,by rw[e3,Bool.and_assoc]⟩
   simp only[List.length_cons,List.take_succ_cons,R6,h1,e1]
  ·cases h
theorem Bk{P:Program}{ρ:Env}{n:Nat}{t:TypeId}{ks:List EK}{i:TypeInfo}(hk:Io P (n+1) t=some ks)(hi:P.info? t=some i)(hs:i.size=ks.length)(L:List At)(o:Nat)(hL:o+ks.length≤L.length)(w:World):
 ∃v,(part t (L.map (At.den ρ)).toArray o).run P w= .ok v w∧Qj P ρ t ((L.drop o).take ks.length) v:=by
 have single:∀ {d:TypeDesc},P.underlying t=some d→Wk d=false→ks.length=1→∃v,(part t (L.map (At.den ρ)).toArray o).run P w= .ok v w∧∃x,(L.drop o).take ks.length=[x]∧v=x.den ρ:=by
  intro d hd ha h1
  have hlt:o<L.length:=by omega
  refine⟨L[o].den ρ,?_,L[o],?_,rfl⟩
  ·unfold part isAgg
   cases d<;>simp[Wk]at ha<;>simp[run_underlying hd,Sem.run_bind,Sem.run_pure,hlt]
  ·rw[h1,List.drop_eq_getElem_cons hlt];rfl
 simp only[Io]at hk
 split at hk
 ·rename_i k hu
  cases hk
  obtain⟨v,h1,h2⟩:=single hu rfl rfl
  exact⟨v,h1,by unfold Qj;rw[hu];exact h2⟩
 ·rename_i hu
  cases hk
  obtain⟨v,h1,h2⟩:=single hu rfl rfl
  exact⟨v,h1,by unfold Qj;rw[hu];exact h2⟩
 ·rename_i hu
  cases hk
  obtain⟨v,h1,h2⟩:=single hu rfl rfl
  exact⟨v,h1,by unfold Qj;rw[hu];exact h2⟩
 ·rename_i fs hu
  refine⟨.agg (((L.drop o).take ks.length).map (At.den ρ)).toArray,?_,by unfold Qj;rw[hu]⟩
  unfold part isAgg
  simp[run_underlying hu,Sem.run_bind,Sem.run_pure,sizeOf,typeInfo,hi,program,Sem.run,hs,List.map_take,List.map_drop]
 ·cases hk
theorem Gg{P:Program}{ρ:Env}:∀(n:Nat) (t:TypeId) (ks:List EK),Io P n t=some ks→∀(m:Nat),n≤m→∀(l1 l2:List At) (b:Bool),R6 ks l1 l2=some b→∀(v1 v2:Value),Qj P ρ t l1 v1→Qj P ρ t l2 v2→∀w,
 (Op.equalIn m t v1 v2).run P w= .ok b w
 |0,t,ks,h,_,_,_,_,_,_,_,_,_,_,_=>by cases h
 |n+1,t,ks,h,0,hm,_,_,_,_,_,_,_,_,_=>by omega
 |n+1,t,ks,h,m+1,hm,l1,l2,b,he,v1,v2,h1,h2,w=>by
  simp only[Io]at h
  split at h
  ·rename_i k hu
   cases h
   unfold Qj at h1 h2
   rw[hu]at h1 h2
   obtain⟨x,rfl,rfl⟩:=h1
   obtain⟨y,rfl,rfl⟩:=h2
   simp only[R6]at he
   cases x<;>cases y<;>simp only[Kw]at he<;>(try cases he)
   rename_i k1 a k2 c
   by_cases hkk:k1=k2
   ·subst hkk
    simp only[if_true]at he
    cases he
    simp only[At.den]
    rw[run_equalIn_int w m t k1 k a c hu]
    congr 1
    rw[Bool.eq_iff_iff];simp
   ·simp only[hkk,if_false]at he;cases he
  ·rename_i hu
   cases h
   unfold Qj at h1 h2
   rw[hu]at h1 h2
   obtain⟨x,rfl,rfl⟩:=h1
   obtain⟨y,rfl,rfl⟩:=h2
   simp only[R6]at he
   cases x<;>cases y<;>simp only[Kw]at he<;>(try cases he)
   simp only[At.den]
   rw[run_equalIn_string w m t _ _ hu,L7,L7]
   congr 1
   rw[Bool.eq_iff_iff];simp
  ·rename_i hu
   cases h
   unfold Qj at h1 h2
   rw[hu]at h1 h2
   obtain⟨x,rfl,rfl⟩:=h1
   obtain⟨y,rfl,rfl⟩:=h2
   simp only[R6]at he
   cases x<;>cases y<;>simp only[Kw]at he<;>(try cases he)
   simp only[At.den]
   rw[run_equalIn_bool' w m t _ _ hu]
   simp
  ·rename_i fs hu
   split at h
   ·cases h
   ·rename_i hst
    unfold Qj at h1 h2
    rw[hu]at h1 h2
    subst h1;subst h2
    have hfo:P.fieldsOf t=fs:=by simp[Program.fieldsOf,hu]
    rw[run_equalIn_struct w m t _ _ (by rw[hfo];exact hu) (by simpa using hst),hfo]
    have key:∀(fl:List Field) (o:Nat) (ks':List EK) (b':Bool),Fy P (Io P n) fl o=some ks'→R6 ks' (l1.drop o) (l2.drop o)=some b'→
     (Op.eqFields m (l1.map (At.den ρ)).toArray (l2.map (At.den ρ)).toArray fl).run P w= .ok b' w:=by
     intro fl
     induction fl with
     |nil=>
      intro o ks' b' hf hq
      cases hf
      have:b'=true:=by
       cases hd:l1.drop o<;>cases hd2:l2.drop o<;>rw[hd,hd2]at hq<;>first|(cases hq;rfl)|cases hq
      subst this
      simp[Op.eqFields,Sem.run_pure]
     |cons f fl ih=>
      intro o ks' b' hf hq
      simp only[Fy]at hf
      split at hf
      ·cases hf
      ·rename_i hcond
       split at hf
       ·rename_i kf i hk hi
        split at hf
        ·rename_i hsz'
         obtain⟨hsz,hkpos⟩:=hsz'
         split at hf
         ·rename_i r hr
          cases hf
          obtain⟨b1,b2,e1,e2,rfl⟩:=Kn hq
          have hname:f.name≠ "_" :=fun e=>hcond (.inl e)
          have hoff:f.offset=o:=Classical.byContradiction fun e=>hcond (.inr e)
          have hl1:=(Od hq).1
          have hl2:=(Od hq).2
          simp only[List.length_append,List.length_drop]at hl1 hl2
          cases n with
          |zero=>cases hk
          |succ n'=>
           have hle1:o+kf.length≤l1.length:=by omega
           have hle2:o+kf.length≤l2.length:=by omega
           have fin:o+kf.length≤l1.length→o+kf.length≤l2.length→(Op.eqFields m (l1.map (At.den ρ)).toArray (l2.map (At.den ρ)).toArray (f::fl)).run P w= .ok (b1&&b2) w:=by
            intro a1 a2
            obtain⟨x1,p1,q1⟩:=Bk (ρ:=ρ) hk hi hsz l1 o a1 w
            obtain⟨x2,p2,q2⟩:=Bk (ρ:=ρ) hk hi hsz l2 o a2 w
            have hr1:=Gg (n'+1) f.type kf hk m (by omega) _ _ _ e1 x1 x2 q1 q2 w
            have hrest:=ih (o+kf.length) r b2 hr (by rw[List.drop_drop]at e2;rw[List.drop_drop]at e2;exact e2)
            unfold Op.eqFields
            rw[if_pos hname]
            simp only[hoff,Sem.run_bind,p1,p2,Result.andThen_ok,hr1]
            cases b1
            ·simp[Sem.run_pure]
            ·simp[hrest]
           exact fin hle1 hle2
         ·cases hf
        ·cases hf
       ·cases hf
    have:=key fs.toList 0 ks b h (by simpa using he)
    exact this
  ·cases h
theorem V4{c:Cx}{S:St}{ρ:Env}{a:Act}{w:World}(hh:S.holds c ρ a w):∀ {xs:List Operand} {p:Prop} {vs:List S1},Rf S (xs.map opd)=some (p,vs)→p→xs.map a.eval=vs.map (S1.den ρ)
 | [],p,vs,h,hp=>by cases h;rfl
 |x::xs,p,vs,h,hp=>by
  simp only[List.map_cons,Rf]at h
  split at h
  ·rename_i q v r l h1 h2
   cases h
   obtain⟨e1,_⟩:=Zc hh h1 hp.1
   have e2:=V4 hh h2 hp.2
   simp only[List.map_cons,e1,e2]
  ·cases h
theorem Bp{c:Cx}{S:St}{ρ:Env}{a:Act}{w:World}(hh:S.holds c ρ a w):∀ {xs:List Operand} {p:Prop} {vs:List S1},Rf S (xs.map opd)=some (p,vs)→p→∀v∈vs,v.bd S.nx
 | [],p,vs,h,hp=>by cases h;intro v hv;cases hv
 |x::xs,p,vs,h,hp=>by
  simp only[List.map_cons,Rf]at h
  split at h
  ·rename_i q v r l h1 h2
   cases h
   intro u hu
   rcases List.mem_cons.1 hu with rfl|hu
   ·exact(Zc hh h1 hp.1).2
   ·exact Bp hh h2 hp.2 u hu
  ·cases h
theorem mapKd_spec{P:Program}{E:TypeId}{k:Kd}(h:C3 P E=some k):
 (∃q i,k= .int q∧P.underlying E=some (.int q)∧P.info? E=some i∧i.zero=some (.int q 0))∨(∃i,k= .bool∧P.underlying E=some .bool∧P.info? E=some i∧i.zero=some (.bool false)):=by
 unfold C3 at h
 split at h
 ·rename_i q q' n h1 h2
  split at h
  ·rename_i hq
   obtain⟨rfl,rfl⟩:=hq
   cases h
   obtain⟨i,hi,hz⟩:=Option.bind_eq_some_iff.1 h2
   exact .inl ⟨_,i,rfl,h1,hi,hz⟩
  ·cases h
 ·rename_i b h1 h2
  split at h
  ·rename_i hb
   subst hb
   cases h
   obtain⟨i,hi,hz⟩:=Option.bind_eq_some_iff.1 h2
   exact .inr ⟨i,rfl,h1,hi,hz⟩
  ·cases h
 ·cases h
theorem Kp{P:Program}{K E:TypeId}{k:Kd}(h:N7 P K E=some k):P.underlying K=some .string∧
 ((∃q i,k= .int q∧P.underlying E=some (.int q)∧P.info? E=some i∧i.zero=some (.int q 0))∨(∃i,k= .bool∧P.underlying E=some .bool∧P.info? E=some i∧i.zero=some (.bool false))):=by
 unfold N7 at h
 split at h
 ·rename_i hK
  exact⟨hK,mapKd_spec h⟩
 ·cases h
theorem Ix{P:Program}{t K E:TypeId}{k:Kd}{f:List UInt8→Option k.ty}{n:Nat}{es:Array MapEntry}{clock b:Nat}{w:World}(ρ:Env)(hk:N7 P K E=some k)(ht:P.underlying t=some (.map K E))
 (hb:w.heap[b]? =some (.map es clock))(hm:Zgh P K E k f n es clock)(s:List UInt8)(hs:s.length≤9223372036854775807)(ok:Bool):
 (Instr.lookup t (.map (some b)) (.string ⟨s.toArray⟩) ok).run P w= .ok ((N8 ok k (f s)).den ρ) w:=by
 obtain⟨hK,hE⟩:=Kp hk
 obtain⟨F,_,hat⟩:=hm
 have hkey:keyOf P K (.string ⟨s.toArray⟩)=some (.string s):=WideMaps.keyOf_string_mk hK (s:=⟨s.toArray⟩) hs
 have hat:=hat s
 rcases hE with⟨q,i,rfl,h1,h2,h3⟩|⟨i,rfl,h1,h2,h3⟩
 ·rcases Maps.fit_look ok (Maps.string_keyed hK) ht (Wr h2 h3 w) hb F hkey with⟨hrun,_,ha⟩|⟨e0,y,_,_,hrun,hR,ha,_⟩
  ·have h0:f s=none:=by
    cases hf:f s with
    |none=>rfl
    |some x=>
     have e1:=(hat .nil).symm.trans (ha .nil)
     rw[hf]at e1
     cases e1
   rw[hrun,h0]
   cases ok<;>rfl
  ·obtain⟨a,hv,rfl,_⟩:=plainElem_int_inv h1 hR
   have e1:=(hat .nil).symm.trans (ha .nil)
   rw[hrun,hv]
   cases hf:f s with
   |none=>rw[hf]at e1;cases e1
   |some x=>
    rw[hf]at e1
    simp only[litK,DataW.lit.injEq,Lit.int.injEq,true_and]at e1
    subst e1
    cases ok<;>rfl
 ·rcases Maps.fit_look ok (Maps.string_keyed hK) ht (Wr h2 h3 w) hb F hkey with⟨hrun,_,ha⟩|⟨e0,y,_,_,hrun,hR,ha,_⟩
  ·have h0:f s=none:=by
    cases hf:f s with
    |none=>rfl
    |some x=>
     have e1:=(hat .nil).symm.trans (ha .nil)
     rw[hf]at e1
     cases e1
   rw[hrun,h0]
   cases ok<;>rfl
  ·have e1:=(hat .nil).symm.trans (ha .nil)
   have hv:∃a,e0.val= .bool a∧y.1= .lit (.bool a):=by
    unfold plainElem at hR
    rw[h1]at hR
    cases hx:e0.val<;>rw[hx]at hR<;>simp at hR
    subst hR
    exact⟨_,rfl,rfl⟩
   obtain⟨a,hv,hy⟩:=hv
   rw[hrun,hv]
   rw[hy]at e1
   cases hf:f s with
   |none=>rw[hf]at e1;cases e1
   |some x=>
    rw[hf]at e1
    simp only[litK,DataW.lit.injEq,Lit.bool.injEq]at e1
    subst e1
    cases ok<;>rfl
theorem Gs(ok:Bool){k:Kd}(o:Option k.ty)(nx:Nat):(N8 ok k o).bd nx:=by
 cases ok<;>cases k<;>simp[N8,SV.bd,S1.bd,At.bd,atK]
theorem J6(ρ:Env):∀ {vs:List S1} {ms:List Nat},Uh vs=some ms→vs.map (S1.den ρ)=ms.map fun m=>Wl (ρ m) 0
 | [],ms,h=>by simp only[Uh,Option.some.injEq]at h;subst h;rfl
 |v::vs,ms,h=>by
  unfold Uh at h
  split at h
  ·rename_i e;cases e
  ·rename_i m r e
   cases e
   split at h
   ·rename_i l hl
    cases h
    simp only[List.map_cons,J6 ρ hl];rfl
   ·cases h
  ·cases h
theorem J7:∀ {vs:List S1} {ms:List Nat},Uh vs=some ms→∀m∈ms,S1.a (.loc m 0)∈vs
 | [],ms,h,m,hm=>by simp only[Uh,Option.some.injEq]at h;subst h;cases hm
 |v::vs,ms,h,m,hm=>by
  unfold Uh at h
  split at h
  ·rename_i e;cases e
  ·rename_i m' r e
   cases e
   split at h
   ·rename_i l hl
    cases h
    rcases List.mem_cons.1 hm with rfl|hm
    ·exact List.mem_cons_self ..
    ·exact List.mem_cons_of_mem _ (J7 hl m hm)
   ·cases h
  ·cases h
theorem Ze2{c:Cx}{S:St}{ρ:Env}{a:Act}{w:World}(hh:S.holds c ρ a w){o:Oper}{i:I}(hc:S7 c.P o=some i){p:Prop}{v:SV}(he:ev S i=some (p,v))(hp:p):
 (execOp a.eval o).run c.P w= .ok (.value (v.den ρ)) w∧v.bd S.nx:=by
 unfold S7 at hc
 unfold execOp
 split at hc
 · -- move
   rename_i x ho
   cases hc
   simp only[ho]
   simp only[ev]at he
   split at he
   ·rename_i q u hrd
    cases he
    obtain⟨h1,h2⟩:=Zc hh hrd hp
    exact⟨by simp only[Sem.run_pure,h1];rfl,h2⟩
   ·split at he
    ·rename_i t ht
     split at he
     ·rename_i l hg
      cases he
      cases x with
      |tmp t'=>
       simp only[opd]at ht
       split at ht
       rotate_left
       ·cases ht
       rename_i hlow
       simp only[Opd.t.injEq]at ht
       subst ht
       have h1:=hh.slot _ _ hg
       rw[V5 hlow]at h1
       have h2:=hh.bds _ _ hg
       refine⟨?_,h2⟩
       have:a.eval (.tmp t')= .tuple (l.map (S1.den ρ)).toArray:=by simp[Act.eval,Array.getD_eq_getD_getElem?,h1,SV.den]
       simp only[Sem.run_pure,this];rfl
      |const v'=>simp only[opd]at ht;split at ht<;>cases ht
      |global g=>cases ht
      |func f=>cases ht
     ·cases he
    ·cases he
 · -- assign
   rename_i x ho
   cases hc
   simp only[ho]
   simp only[ev]at he
   split at he
   ·rename_i q u hrd
    cases he
    obtain⟨h1,h2⟩:=Zc hh hrd hp
    exact⟨by simp only[Sem.run_pure,h1];rfl,h2⟩
   ·split at he
    ·rename_i t ht
     split at he
     ·rename_i l hg
      cases he
      cases x with
      |tmp t'=>
       simp only[opd]at ht
       split at ht
       rotate_left
       ·cases ht
       rename_i hlow
       simp only[Opd.t.injEq]at ht
       subst ht
       have h1:=hh.slot _ _ hg
       rw[V5 hlow]at h1
       have h2:=hh.bds _ _ hg
       refine⟨?_,h2⟩
       have:a.eval (.tmp t')= .tuple (l.map (S1.den ρ)).toArray:=by simp[Act.eval,Array.getD_eq_getD_getElem?,h1,SV.den]
       simp only[Sem.run_pure,this];rfl
      |const v'=>simp only[opd]at ht;split at ht<;>cases ht
      |global g=>cases ht
      |func f=>cases ht
     ·cases he
    ·cases he
 · -- pick
   rename_i cc x y ho
   cases hc
   simp only[ho]
   simp only[ev]at he
   split at he
   ·rename_i pc g px u py v' h1 h2 h3
    split at he
    ·rename_i z hm
     cases he
     obtain⟨e1,_⟩:=Zc hh h1 hp.1
     obtain⟨hz,hb⟩:=C8 hm ρ
     refine⟨?_,Fm hb _⟩
     have e1':a.eval cc= .bool g:=e1
     have hz':(SV.one (.a z)).den ρ=(if g then u.den ρ else v'.den ρ):=hz
     rw[hz']
     simp only[Sem.run_bind,e1',asBool,Sem.run_pure,Result.andThen_ok]
     cases g
     ·obtain⟨e3,_⟩:=Zc hh h3 (hp.2.2 rfl)
      rw[e3];rfl
     ·obtain⟨e2,_⟩:=Zc hh h2 (hp.2.1 rfl)
      rw[e2];rfl
    ·cases he
   ·cases he
 · -- binOp
   rename_i op t x y yt ho
   simp only[ho]
   have bin:∀ {v:SV},ev S (.bin op (opd x) (opd y))=some (p,v)→((do pure (.value (←(do eqGuard op t x y (a.eval x) (a.eval y);binOp op t (a.eval x) (a.eval y):Sem Value))):Sem Next)).run c.P w= .ok (.value (v.den ρ)) w∧v.bd S.nx:=by
    intro v he
    simp only[ev]at he
    split at he
    ·rename_i p1 u p2 u' h1 h2
     split at he
     ·rename_i r z hb
      cases he
      obtain⟨e1,_⟩:=Zc hh h1 hp.1
      obtain⟨e2,_⟩:=Zc hh h2 hp.2.1
      rw[e1,e2]
      obtain⟨g1,g2⟩:=Dr (P:=c.P) (t:=t) (X:=x) (Y:=y) hb hp.2.2 w ρ
      exact⟨Va g1,Fm g2 _⟩
     ·cases he
    ·cases he
   split at hc
   ·rename_i ht
    have beq:∀neg,op=(if neg then .neq else .eql)→∀ {v:SV},ev S (.beq neg (opd x) (opd y))=some (p,v)→((do pure (.value (←(do eqGuard op t x y (a.eval x) (a.eval y);binOp op t (a.eval x) (a.eval y):Sem Value))):Sem Next)).run c.P w= .ok (.value (v.den ρ)) w∧v.bd S.nx:=by
     intro neg hop v he
     simp only[ev]at he
     split at he
     ·rename_i p1 u p2 u' h1 h2
      cases he
      obtain⟨e1,_⟩:=Zc hh h1 hp.1
      obtain⟨e2,_⟩:=Zc hh h2 hp.2
      rw[e1,e2]
      have:=Fo (P:=c.P) (neg:=neg) ht u u' w x y
      rw[←hop]at this
      exact⟨Va this,trivial⟩
     ·cases he
    split at hc
    ·cases hc;exact beq false rfl he
    ·cases hc;exact beq true rfl he
    ·cases hc
   ·cases hc;exact bin he
   ·cases hc;exact bin he
   ·rename_i et ht
    have snl:∀neg,op=(if neg then .neq else .eql)→∀ {v:SV},ev S (.snil neg (opd x) (opd y))=some (p,v)→((do pure (.value (←(do eqGuard op t x y (a.eval x) (a.eval y);binOp op t (a.eval x) (a.eval y):Sem Value))):Sem Next)).run c.P w= .ok (.value (v.den ρ)) w∧v.bd S.nx:=by
     intro neg hop v he
     simp only[ev]at he
     split at he
     ·rename_i p1 m p2 h1 h2
      split at he
      ·rename_i E k l hf
       cases he
       obtain⟨e1,_⟩:=Zc hh h1 hp.1
       obtain⟨e2,_⟩:=Zc hh h2 hp.2.1
       rw[e1,e2]
       refine⟨Va ?_,trivial⟩
       simp only[S1.den,At.den,SV.den]
       obtain⟨_,hr⟩:=hh.mem.res m _ (Zg hf)
       rcases hr with⟨_,hn⟩|⟨g,cap,cur,hv,_⟩
       ·have:=hp.2.2;omega
       ·rw[hv];exact Hk neg op hop ht w x y _ _ _
      ·rename_i k l hf
       cases he
       obtain⟨e1,_⟩:=Zc hh h1 hp.1
       obtain⟨e2,_⟩:=Zc hh h2 hp.2.1
       rw[e1,e2]
       refine⟨Va ?_,trivial⟩
       simp only[S1.den,At.den,SV.den]
       obtain⟨ad,cap,hv,hnil,_⟩:=hh.mem.res m _ (Zg hf)
       rw[hv.1]
       cases ad with
       |none=>have:=hnil rfl;have h3:=hp.2.2;rw[this]at h3;simp at h3
       |some ad=>exact Hk neg op hop ht w x y _ _ _
      ·cases he
     ·rename_i p1 p2 h1 h2
      cases he
      obtain⟨e1,_⟩:=Zc hh h1 hp.1
      obtain⟨e2,_⟩:=Zc hh h2 hp.2
      rw[e1,e2]
      refine⟨Va ?_,trivial⟩
      simp only[S1.den,At.den,SV.den]
      exact Hk neg op hop ht w x y none 0 0
     ·cases he
    split at hc
    ·cases hc;exact snl false rfl he
    ·cases hc;exact snl true rfl he
    ·cases hc
   ·rename_i ht
    have fnl:∀neg,op=(if neg then .neq else .eql)→∀ {v:SV},ev S (.fnil neg (opd x) (opd y))=some (p,v)→((do pure (.value (←(do eqGuard op t x y (a.eval x) (a.eval y);binOp op t (a.eval x) (a.eval y):Sem Value))):Sem Next)).run c.P w= .ok (.value (v.den ρ)) w∧v.bd S.nx:=by
     intro neg hop v he
     simp only[ev]at he
     split at he
     ·rename_i p1 p2 h1 h2
      cases he
      obtain⟨e1,_⟩:=Zc hh h1 hp.1
      obtain⟨e2,_⟩:=Zc hh h2 hp.2
      rw[e1,e2]
      refine⟨Va ?_,trivial⟩
      simp only[S1.den,At.den,SV.den]
      exact Zg5 neg op hop ht w x y
     ·cases he
    split at hc
    ·cases hc;exact fnl false rfl he
    ·cases hc;exact fnl true rfl he
    ·cases hc
   ·rename_i fs ht
    split at hc
    ·cases hc
    ·rename_i hguard
     have hm:c.P.eqGuardType c.P.depth t=false:=by simpa using hguard
     split at hc
     ·rename_i ks hks
      have aeq:∀neg,op=(if neg then .neq else .eql)→∀ {v:SV},ev S (.aeq neg ks (opd x) (opd y))=some (p,v)→((do pure (.value (←(do eqGuard op t x y (a.eval x) (a.eval y);binOp op t (a.eval x) (a.eval y):Sem Value))):Sem Next)).run c.P w= .ok (.value (v.den ρ)) w∧v.bd S.nx:=by
       intro neg hop v he
       simp only[ev]at he
       split at he
       ·rename_i p1 u p2 u' h1 h2
        split at he
        ·rename_i b hb
         cases he
         obtain⟨e1,_⟩:=Zc hh h1 hp.1
         obtain⟨e2,_⟩:=Zc hh h2 hp.2
         have hr:=Gg (ρ:=ρ) 6 t ks hks 10000 (by decide) u u' b hb (.agg (u.map (At.den ρ)).toArray) (.agg (u'.map (At.den ρ)).toArray) (by unfold Qj;rw[ht]) (by unfold Qj;rw[ht]) w
         refine⟨Va ?_,trivial⟩
         rw[e1,e2,Sem.run_bind]
         simp only[S1.den]
         rw[run_eqGuard_agg w op t x y _ _ hm,Result.andThen_ok]
         subst hop
         cases neg
         ·simp only[Bool.false_eq_true,if_false];rw[run_eql_struct,hr];rfl
         ·simp only[if_true];rw[run_neq_struct,hr];rfl
        ·cases he
       ·cases he
      split at hc
      ·cases hc;exact aeq false rfl he
      ·cases hc;exact aeq true rfl he
      ·cases hc
     ·cases hc
   ·cases hc
 · -- unOp
   rename_i op t x ho
   cases hc
   simp only[ho]
   simp only[ev]at he
   split at he
   ·rename_i q u hrd
    split at he
    ·rename_i z hz
     cases he
     obtain⟨e1,_⟩:=Zc hh hrd hp
     rw[e1]
     obtain⟨g1,g2⟩:=Zcn (P:=c.P) hz ρ w
     exact⟨Va g1,Fm g2 _⟩
    ·cases he
   ·cases he
 · -- convert
   rename_i s d x ho
   simp only[ho]
   split at hc
   ·rename_i ds k hs hd
    cases hc
    simp only[ev]at he
    split at he
    ·rename_i q k' n hrd
     cases he
     obtain⟨e1,_⟩:=Zc hh hrd hp
     rw[e1]
     refine⟨Va ?_,trivial⟩
     have hk:c.P.intKind d=k:=by simp[Program.intKind,hd]
     have:=run_convert_int (P:=c.P) (w:=w) s d k' n (by rw[hs];rfl) (by rw[hk];exact hd)
     rw[hk]at this
     exact this
    ·cases he
   ·split at hc
    ·cases hc;cases he
    ·cases hc
   ·split at hc
    ·cases hc;cases he
    ·cases hc
   ·rename_i q0 hs hd
    cases hc
    simp only[ev]at he
    split at he
    ·rename_i q k' n hrd
     cases he
     obtain⟨hq,h0,h1⟩:=hp
     obtain⟨e1,_⟩:=Zc hh hrd hq
     rw[e1]
     refine⟨Va ?_,trivial⟩
     have hv:Utf8.encode n=⟨#[UInt8.ofNat n.toNat]⟩:=by
      have h2:Utf8.valid n=true:=by unfold Utf8.valid;simp;omega
      have h3:n.toNat<128:=by omega
      unfold Utf8.encode
      simp only[h2,if_true]
      rw[if_pos h3]
     unfold convert
     simp only[Sem.run_bind,run_underlying hs,run_underlying hd,Result.andThen_ok,S1.den,At.den,Conv.intToString,Sem.run_pure,hv,toB,SV.den]
    ·cases he
   ·split at hc
    ·split at hc
     ·cases hc;cases he
     ·cases hc
    ·cases hc
   ·cases hc
 · -- load
   rename_i t x ho
   simp only[ho]
   split at hc
   ·rename_i d j ht hi
    cases hc
    obtain⟨g1,g2⟩:=Zbi hh ht hi he hp
    exact⟨Va g1,g2⟩
   ·cases hc
 · -- fieldAddr
   rename_i t x f ho
   simp only[ho]
   split at hc
   ·rename_i fs ht
    split at hc
    ·rename_i fl hf
     split at hc
     ·rename_i j hi
      split at hc
      ·cases hc
      ·rename_i hne
       cases hc
       obtain⟨g1,g2⟩:=Hu hh ht hf hi hne he hp
       exact⟨Va g1,g2⟩
     ·cases hc
    ·cases hc
   ·cases hc
 · -- indexAddr
   rename_i t x y ho
   simp only[ho]
   split at hc
   ·rename_i e ht
    split at hc
    ·rename_i j hi
     cases hc
     obtain⟨g1,g2⟩:=Cp hh ht hi he hp
     exact⟨Va g1,g2⟩
    ·cases hc
   ·rename_i n e ht
    split at hc
    ·rename_i j hi
     cases hc
     obtain⟨g1,g2⟩:=Za3 hh ht hi he hp
     exact⟨Va g1,g2⟩
    ·cases hc
   ·cases hc
 · -- index
   rename_i t x y ho
   simp only[ho]
   split at hc
   ·rename_i ht
    cases hc
    simp only[ev]at he
    split at he
    ·rename_i p1 s p2 k n h1 h2
     cases he
     obtain⟨e1,_⟩:=Zc hh h1 hp.1
     obtain⟨e2,_⟩:=Zc hh h2 hp.2.1
     rw[e1,e2]
     exact⟨Va (Zhu ht s k n w hp.2.2),trivial⟩
    ·cases he
   ·cases hc
 · -- field
   rename_i t x f ho
   simp only[ho]
   split at hc
   ·rename_i fs ht
    split at hc
    ·rename_i fl hf
     split at hc
     ·rename_i d j hd hi
      cases hc
      simp only[ev]at he
      split at he
      ·rename_i q l hrd
       split at he
       ·rename_i v' hld
        cases he
        obtain⟨e1,e2⟩:=Zc hh hrd hp
        obtain⟨g1,g2⟩:=Zbp (P:=c.P) (ρ:=ρ) hd hi w hld e2
        rw[e1]
        refine⟨Va ?_,g2⟩
        unfold Instr.field
        simp only[Sem.run_bind,run_underlying ht,Result.andThen_ok,hf,S1.den,asAgg,Sem.run_pure]
        exact g1
       ·cases he
      ·cases he
     ·cases hc
    ·cases hc
   ·cases hc
 · -- extract
   rename_i x ix ho
   cases hc
   simp only[ho]
   simp only[ev]at he
   split at he
   ·rename_i t ht
    split at he
    ·rename_i l hg
     split at he
     ·rename_i u hu
      cases he
      cases x with
      |tmp t'=>
       simp only[opd]at ht
       split at ht
       rotate_left
       ·cases ht
       rename_i hlow
       simp only[Opd.t.injEq]at ht
       subst ht
       have h1:=hh.slot _ _ hg
       rw[V5 hlow]at h1
       have h2:=hh.bds _ _ hg
       refine⟨?_,h2 u (List.mem_of_getElem? hu)⟩
       refine Va ?_
       have:a.eval (.tmp t')= .tuple (l.map (S1.den ρ)).toArray:=by simp[Act.eval,Array.getD_eq_getD_getElem?,h1,SV.den]
       rw[this]
       simp[Instr.extract,hu,Sem.run_pure,SV.den]
      |const v'=>simp only[opd]at ht;split at ht<;>cases ht
      |global g=>cases ht
      |func f=>cases ht
     ·cases he
    ·cases he
   ·cases he
 · -- build
   rename_i t parts ho
   simp only[ho]
   split at hc
   ·rename_i fs j ht hi
    split at hc
    ·rename_i z pl hz hpl
     split at hc
     ·rename_i ps hps
      split at hc
      ·rename_i hok
       cases hc
       simp only[ev]at he
       split at he
       ·rename_i q l hrd
        cases he
        obtain⟨g1,g2⟩:=Ds hh ht hi hz hpl hps hok hrd hp
        exact⟨Va g1,g2⟩
       ·cases he
      ·cases hc
     ·cases hc
    ·cases hc
   ·rename_i n e j ht hi
    split at hc
    ·rename_i z jj hz hj
     split at hc
     ·rename_i ps hps
      split at hc
      ·rename_i hok
       cases hc
       simp only[ev]at he
       split at he
       ·rename_i q l hrd
        cases he
        obtain⟨g1,g2⟩:=Fp hh ht hi hz hj hps hok hrd hp
        exact⟨Va g1,g2⟩
       ·cases he
      ·cases hc
     ·cases hc
    ·cases hc
   ·cases hc
 ·(repeat' split at hc)<;>first|(cases hc;done)|(cases hc;cases he)
 ·(repeat' split at hc)<;>first|(cases hc;done)|(cases hc;cases he)
 ·(repeat' split at hc)<;>first|(cases hc;done)|(cases hc;cases he)
 ·(repeat' split at hc)<;>first|(cases hc;done)|(cases hc;cases he)
 · -- call
   rename_i cl ho
   simp only[ho]
   split at hc
   ·split at hc
    ·split at hc
     ·cases hc
     ·cases hc;cases he
    ·cases hc
   ·cases hc;cases he
   ·rename_i hcal
    split at hc
    ·rename_i x t hx ht'
     have ea:cl.args= #[x]:=by rw[←hx]
     have et:cl.argTypes= #[t]:=by rw[←ht']
     have step:∀ {v:Value},(Builtin.len_ #[t] o.type #[a.eval x]).run c.P w= .ok v w→((do let d ←resolve a.eval cl o.type;invoke d.target d.args:Sem Next)).run c.P w= .ok (.value v) w:=by
      intro v hv
      simp only[resolve,hcal,ea,et,Sem.run_bind,Sem.run_pure,Result.andThen_ok,invoke,builtin,List.map_toArray,List.map_cons,List.map_nil,hv]
     split at hc
     ·rename_i ht
      cases hc
      obtain⟨g1,g2⟩:=Zch (ty:=o.type) hh ht he hp
      exact⟨step g1,g2⟩
     ·rename_i e ht
      cases hc
      obtain⟨g1,g2⟩:=Zfb (ty:=o.type) hh ht he hp
      exact⟨step g1,g2⟩
     ·cases hc
    ·cases hc
   ·rename_i hcal
    split at hc
    ·rename_i x y t u hx ht'
     have ea:cl.args= #[x,y]:=by rw[←hx]
     have et:cl.argTypes= #[t,u]:=by rw[←ht']
     split at hc
     ·(repeat' split at hc)<;>first|(cases hc;done)|(cases hc;cases he)
     ·split at hc
      ·(repeat' split at hc)<;>first|(cases hc;done)|(cases hc;cases he)
      ·rename_i e k ht hu
       split at hc
       ·rename_i i hi
        cases hc
        obtain⟨g1,g2⟩:=Zap (ty:=o.type) hh ht hu hi he hp
        refine⟨?_,g2⟩
        simp only[resolve,hcal,ea,et,Sem.run_bind,Sem.run_pure,Result.andThen_ok,invoke,builtin,List.map_toArray,List.map_cons,List.map_nil,g1]
       ·cases hc
      ·cases hc
    ·cases hc
   ·(repeat' split at hc)<;>first|(cases hc;done)|(cases hc;cases he)
   ·cases hc
 · -- slice of a string
   rename_i t x lo hi mx ho
   simp only[ho]
   split at hc
   ·rename_i ht
    cases hc
    simp only[ev]at he
    split at he
    ·rename_i p1 s p2 kl l p3 kh h h1 h2 h3
     cases he
     obtain⟨e1,_⟩:=Zc hh h1 hp.1
     rw[e1]
     refine⟨Va ?_,trivial⟩
     simp only[S1.den,At.den]
     refine ssl_run ht s _ _ l h kl kh w ?_ ?_ hp.2.2.2.1 hp.2.2.2.2.1 hp.2.2.2.2.2
     ·cases lo with
      |none=>right;simp only[Option.map_none]at h2;cases h2;exact⟨rfl,rfl⟩
      |some q=>left;simp only[Option.map_some]at h2 ⊢;obtain⟨e2,_⟩:=Zc hh h2 hp.2.1;rw[e2];rfl
     ·cases hi with
      |none=>right;simp only[Option.map_none,h1]at h3;cases h3;exact⟨rfl,rfl⟩
      |some q=>left;simp only[Option.map_some]at h3 ⊢;obtain⟨e3,_⟩:=Zc hh h3 hp.2.2.1;rw[e3];rfl
    ·cases he
   ·split at hc
    ·cases hc;cases he
    ·cases hc
   ·(repeat' split at hc)<;>first|(cases hc;done)|(cases hc;cases he)
   ·cases hc
 · -- a new slice
   (repeat' split at hc)<;>first|(cases hc;done)|(cases hc;cases he)
 · -- a function with what it captures
   rename_i fn first captured ho
   simp only[ho]
   split at hc
   ·split at hc
    ·rename_i h0
     cases hc
     simp only[ev]at he
     split at he
     ·rename_i q vs hrd
      split at he
      ·rename_i ms hms
       cases he
       have hargs:=V4 hh hrd hp
       have hb:=Bp hh hrd hp
       refine⟨Va ?_,fun m hm=> ?_⟩
       ·have e1:first= #[]:=Array.eq_empty_of_size_eq_zero h0
        have e2:captured.map a.eval=(vs.map (S1.den ρ)).toArray:=by rw[←hargs,←Array.toList_map]
        subst e1
        unfold Instr.makeFunc
        rw[e2,J6 ρ hms,Sem.run_pure]
        simp[SV.den,S1.den,At.den]
       ·exact hb _ (J7 hms m hm)
      ·cases he
     ·cases he
    ·cases hc
   ·cases hc
 · -- a new map
   split at hc
   ·split at hc
    ·cases hc;cases he
    ·cases hc
   ·cases hc
 · -- a Zo into a map
   rename_i t x y ok ho
   simp only[ho]
   split at hc
   ·rename_i K E ht
    split at hc
    ·rename_i k hk
     cases hc
     simp only[ev]at he
     split at he
     ·rename_i p1 m p2 s h1 h2
      split at he
      ·rename_i P' K' E' k' f n hf
       split at he
       ·rename_i hKE
        obtain⟨rfl,rfl⟩:=hKE
        cases he
        obtain⟨hp1,hp2,⟨rfl,rfl⟩,hs⟩:=hp
        obtain⟨e1,_⟩:=Zc hh h1 hp1
        obtain⟨e2,_⟩:=Zc hh h2 hp2
        obtain⟨b,es,clock,g1,g2,g3⟩:=hh.mem.res _ _ (Zg hf)
        rw[e1,e2]
        simp only[S1.den,At.den,g1]
        exact⟨Va (Ix ρ hk ht g2 g3 s hs ok),Gs ok _ _⟩
       ·cases he
      ·rename_i P' K' E' k' f n hf
       split at he
       ·rename_i hKE
        obtain⟨rfl,rfl⟩:=hKE
        cases he
        obtain⟨hp1,hp2,⟨rfl,rfl⟩,hs⟩:=hp
        obtain⟨e1,_⟩:=Zc hh h1 hp1
        obtain⟨e2,_⟩:=Zc hh h2 hp2
        obtain⟨b,es,clock,g1,g2,g3⟩:=hh.mem.res _ _ (Zg hf)
        rw[e1,e2]
        simp only[S1.den,At.den,g1]
        exact⟨Va (Ix ρ hk ht g2.1 g3 s hs ok),Gs ok _ _⟩
       ·cases he
      ·cases he
     ·cases he
    ·cases hc
   ·cases hc
 · -- a store into a map
   split at hc
   ·split at hc
    ·cases hc;cases he
    ·cases hc
   ·cases hc
 · -- nilCheck
   rename_i x ho
   simp only[ho]
   cases hc
   simp only[ev]at he
   split at he
   ·rename_i q m o' hrd
    split at he
    ·rename_i E l hfm
     cases he
     obtain⟨h1,hb⟩:=Zc hh hrd hp
     obtain⟨b,hv,_⟩:=hh.mem.res m _ (Zg hfm)
     refine⟨?_,hb⟩
     simp only[SV.den,S1.den,At.den,hv,Wl]at h1 ⊢
     rw[h1]
     rfl
    ·rename_i l hfm
     cases he
     obtain⟨h1,hb⟩:=Zc hh hrd hp
     obtain⟨b,hv,_⟩:=hh.mem.res m _ (Zg hfm)
     refine⟨?_,hb⟩
     simp only[SV.den,S1.den,At.den,hv,Wl]at h1 ⊢
     rw[h1]
     rfl
    ·cases he
   ·cases he
 ·cases hc
theorem ev_isX{S:St}{i:I}(h:i.isX=true):ev S i=none:=by cases i<;>first|rfl|cases h
theorem Wd{c:Cx}{S:St}{ρ:Env}{a:Act}{w:World}(hh:S.holds c ρ a w){o:Oper}{i:I}(hc:Nj c.P o=some i){p:Prop}{v:SV}(he:ev S i=some (p,v))(hp:p):
 (execOp a.eval o).run c.P w= .ok (.value (v.den ρ)) w∧v.bd S.nx:=by
 rcases compI_cases hc with h|h
 ·exact Ze2 hh h he hp
 ·rw[ev_isX (Gb h)]at he;cases he
end Vc
end Go.Proofs.YtbmecnjmbhokgaaGreatDoor
