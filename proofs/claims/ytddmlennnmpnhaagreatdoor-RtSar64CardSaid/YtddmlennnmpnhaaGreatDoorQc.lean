/- Lists of small instructions, also those that write: what they ask and what is then; that this is the program's own walk. -/
import Derived.Test.YtddmlennnmpnhaaGreatDoorQb
import Derived.Laws.OwnMore
import Derived.Laws.BytesString
import Derived.Lib.AppendStr
import Derived.Laws.IdiomRangeMap
namespace Go.Proofs.YtddmlennnmpnhaaGreatDoor
namespace Vc
open Go.RowKit
set_option linter.unusedVariables false
set_option linter.unusedSimpArgs false
def gdc(S:St)(g:Nat×Bool):Option Bool:=
 match S.get g.1 with
 |some (.one (.a (.bool b)))=>some (bif g.2 then b else !b)
 |some (.opt h (.a (.bool b)))=>some (h&&(bif g.2 then b else !b))
 |_=>none
def noV:SV:=.opt false (.a (.bool false))
structure Ext (S:St) (ρ:Env) (S':St) (ρ':Env):Prop where
 same:Qv S.nx ρ ρ'
 le:S.nx≤S'.nx
theorem Yg(S:St)(d:Option Nat)(v:SV):(S.put d v).nx=S.nx:=by cases d<;>rfl
theorem Ext.put{S S':St}{ρ ρ':Env}(h:Ext S ρ S' ρ')(d:Option Nat)(v:SV):Ext S ρ (S'.put d v) ρ':=⟨h.same,by rw[Yg];exact h.le⟩
theorem Ext.rfl{S:St}{ρ:Env}:Ext S ρ S ρ:=⟨fun _ _=>_root_.rfl,Nat.le_refl _⟩
theorem Ext.trans{S S' S2:St}{ρ ρ' ρ2:Env}(h:Ext S ρ S' ρ')(h':Ext S' ρ' S2 ρ2):Ext S ρ S2 ρ2:=
 ⟨fun n hn=>(h'.same n (Nat.lt_of_lt_of_le hn h.le)).trans (h.same n hn),Nat.le_trans h.le h'.le⟩
def Za(c:Cx)(f:Nat)(args:List S1)(S:St)(K:SV→St→Prop):Prop:=
 ∀ρ a w,S.holds c ρ a w→Calls c.P f (args.map (S1.den ρ)).toArray w fun e w'=>∃v ρ' S',Ext S ρ S' ρ'∧e= .returned (SV.den ρ' v)∧v.bd S'.nx∧S'.holds c ρ' a w'∧K v S'
def Ze(c:Cx)(b:Bool)(f:Nat)(args:List S1)(S:St)(K:SV→St→Prop):Prop:=
 ∀ρ a w,S.holds c ρ a w→(b=true→Calls c.P f (args.map (S1.den ρ)).toArray w fun e w'=>∃v ρ' S',Ext S ρ S' ρ'∧e= .returned (SV.den ρ' v)∧v.bd S'.nx∧S'.holds c ρ' a w'∧K v S')∧
  (b=false→∃v:SV,v.bd S.nx∧v.den ρ=undef∧K v S)
def Ib(K:St→Prop)(d:Option Nat)(v:SV)(S':St):Prop:=K (S'.put d v)
def upd(R:List (Nat×Res))(m:Nat)(r:Res):List (Nat×Res):=(m,r)::del R [m]
def Yo:(k k':Kd)→List k.ty→Option (List k'.ty)
 |.int a,.int b,l=>if a=b then some l else none
 |.bool,.bool,l=>some l
 |.str,.str,l=>some l
 |.ins,.ins,l=>some l
 |.line,.line,l=>some l
 |.spot,.spot,l=>some l
 |.unt,.unt,l=>some l
 |_,_,_=>none
def St.new(S:St)(r:Res)(d:Option Nat)(v:SV):St:=St.put ⟨S.slots,(S.nx,r)::S.res,S.nx+1⟩ d v
def Y1(S:St)(E sz:Nat)(k:Kd):S1→Option (Prop×List k.ty×List Nat)
 |.a (.ref m)=>match S.find m with
  |some (.lit _ z 1 l)=>if z=sz then(match k.dec l with
   |some y=>some (k.enc y=l,[y],[m])
   |none=>none)else none
  |some (.ro k' l)=>(match Yo k' k l with
   |some l'=>some (True,l',[])
   |none=>none)
  |some (.row _ k' l)=>(match Yo k' k l with
   |some l'=>some (True,l',[])
   |none=>none)
  |_=>none
 |_=>none
def Sw(S:St):S1→Option (Sigma fun k:Kd=>List k.ty)
 |.a (.ref m)=>match S.find m with
  |some (.ro k l)=>some ⟨k,l⟩
  |some (.row _ k l)=>some ⟨k,l⟩
  |_=>none
 |_=>none
def kdL:List At→Option Kd
 | [.int k _]=>some (.int k)
 | [.bool _]=>some .bool
 | [.str _]=>some .str
 | [.str _,.int _ _]=>some .spot
 | [.int _ _,.int _ _,.int _ _,.int _ _]=>some .ins
 | [.str _,.int _ _,.int _ _,.int _ _,.int _ _,.str _]=>some .line
 |_=>none
def Zig(S:St):S1→Option Kd
 |.a (.ref m)=>match S.find m with
  |some (.ro k _)=>some k
  |some (.row _ k _)=>some k
  |some (.lit _ _ 1 l)=>kdL l
  |_=>none
 |_=>none
def Sp(S:St):S1→Option (List (List UInt8×List Ln)×List Nat)
 |.a (.ref m)=>match S.find m with
  |some (.rou l)=>some (l,[])
  |some (.lit _ 2 1 [.str s,.ref r])=>(match S.find r with
   |some (.ro .line ls)=>some ([(s,ls)],[m])
   |_=>none)
  |_=>none
 |_=>none
def Ja(S:St):S1→Option (List UInt8×List Ln×Nat×Nat)
 |.a (.ref q)=>match S.find q with
  |some (.lit _ 2 1 [.str s,.ref r])=>(match S.find r with
   |some (.row _ .line ls)=>some (s,ls,q,r)
   |_=>none)
  |_=>none
 |_=>none
def unK:(k:Kd)→At→Option k.ty
 |.int q,.int q' n=>if q'=q then some n else none
 |.bool,.bool b=>some b
 |_,_=>none
def wfK:(k:Kd)→k.ty→Prop
 |.int .i64,n=> -9223372036854775808≤n∧n≤9223372036854775807
 |.bool,_=>True
 |_,_=>False
def Sf:List S1→Prop
 | []=>True
 |x::l=>x.bd 0∧Sf l
theorem Ng:∀ {l:List S1},Sf l→∀x∈l,x.bd 0
 |y::l,h,x,hx=>by
  rcases List.mem_cons.1 hx with rfl|hx
  ·exact h.1
  ·exact Ng h.2 x hx
def H5(S:St)(sz m:Nat):Option (Prop×Nat×Nat×Nat):=
 match S.find m with
 |some (.view m' z lo hi)=>if sz=z then(match lenOf S sz m' with
  |some e=>some (hi≤e,m',lo,hi)
  |none=>none)else none
 |_=>match lenOf S sz m with
  |some e=>some (True,m,0,e)
  |none=>none
def F7(S:St)(dflt:Int):Option Opd→Option (Prop×Int)
 |none=>some (True,dflt)
 |some x=>match S.rd x with
  |some (p,.a (.int _ n))=>some (p,n)
  |_=>none
def Ej:At→Option (Prop×Nat)
 |.clo f []=>some (True,f)
 |.raw (.func (.func f) a b)=>some (a= #[]∧b= #[],f)
 |_=>none
theorem C4{u:At}{g:Prop}{f:Nat}(h:Ej u=some (g,f))(hg:g)(ρ:Env):u.den ρ= .func (.func f) #[] #[]:=by
 unfold Ej at h
 split at h
 ·cases h;rfl
 ·cases h;obtain⟨rfl,rfl⟩:=hg;rfl
 ·cases h
def flk:List (List UInt8×Nat)→List UInt8→Option Nat
 | [],_=>none
 |(t,f)::l,s=>if t=s then some f else flk l s
def Zht(S:St)(sz m:Nat):Option (Nat×Nat×Nat):=
 match S.find m with
 |some (.view m0 z lo hi)=>if z=sz then some (m0,lo,hi)else none
 |some (.row _ _ l)=>some (m,0,l.length)
 |_=>none
def cpyL{α:Type}(l:List α)(lo hi:Nat)(l':List α):List α:=l.take lo++l'.take (hi-lo)++l.drop (lo+min l'.length (hi-lo))
def st(c:Cx)(S:St)(d:Option Nat):I→(St→Prop)→Prop
 |.cpy E sz x y,K=>match S.rd x,S.rd y with
  |some (p,.a (.ref m)),some (q,u)=>(match Zht S sz m with
   |some (m0,lo,hi)=>(match S.find m0 with
    |some (.row E' k l)=>if E'=E∧sz=k.sz then(match Y1 S E sz k u with
     |some (r,l',_)=>p∧q∧r∧hi≤l.length∧K (St.put ⟨S.slots,upd S.res m0 (.row E k (cpyL l lo hi l')),S.nx⟩ d (.one (.a (.int .i64 ((min l'.length (hi-lo):Nat):Int)))))
     |none=>False)else False
    |_=>False)
   |none=>False)
  |_,_=>False
 |.sl sz x lo hi,K=>match S.rd x with
  |some (p,.a (.ref m))=>(match H5 S sz m with
   |some (g,m0,a,b)=>(match F7 S 0 lo,F7 S ((b-a:Nat):Int) hi with
    |some (q,l),some (r,h)=>p∧g∧q∧r∧0≤l∧l≤h∧h+a≤b∧K (S.new (.view m0 sz (a+l.toNat) (a+h.toNat)) d (.one (.a (.ref S.nx))))
    |_,_=>False)
   |none=>False)
  |_=>False
 |.mks E k bytes x y,K=>match S.rd x,S.rd y with
  |some (p,.a (.int _ n)),some (q,.a (.int _ n'))=>p∧q∧n=n'∧0≤n∧(bytes:Int)*n≤281474976710656∧n≤4611686018427387904∧K (S.new (.row E k (List.replicate n.toNat k.dflt)) d (.one (.a (.ref S.nx))))
  |_,_=>False
 |.load n agg x,K=>match S.rd x with
  |some (p,.a (.elt m sz i j))=>(match S.find m with
   |some (.rou l)=>if sz=2 then(match agg,n,j with
    |true,2,0=>p∧i<l.length∧K (S.new (.ro .line (l.getD i ([],[])).2) d (.one (.agg [.str (l.getD i ([],[])).1,.ref S.nx])))
    |false,1,0=>p∧i<l.length∧K (S.put d (.one (.a (.str (l.getD i ([],[])).1))))
    |false,1,1=>p∧i<l.length∧K (S.new (.ro .line (l.getD i ([],[])).2) d (.one (.a (.ref S.nx))))
    |_,_,_=>False)else False
   |_=>False)
  |_=>False
 |.pick cc x y,K=>match S.rd cc with
  |some (p,.a (.bool g))=>p∧(g=true→match S.rd x with
    |some (q,v)=>q∧K (S.put d (.one v))
    |none=>False)∧(g=false→match S.rd y with
    |some (q,v)=>q∧K (S.put d (.one v))
    |none=>False)
  |_=>False
 |.alloc E z,K=>K (S.new (.cells E z) d (.one (.a (.loc S.nx 0))))
 |.box E x,K=>match S.rd x with
  |some (p,v)=>p∧K (S.new (.cells E v.cells) d (.one (.a (.loc S.nx 0))))
  |none=>False
 |.store n x v,K=>match S.rd x,S.rd v with
  |some (p,.a (.loc m o)),some (q,u)=>(match S.find m with
   |some (.cells E l)=>p∧q∧(u.cells.length=n∧o+n≤l.length)∧K (St.put ⟨S.slots,upd S.res m (.cells E (We l o u.cells)),S.nx⟩ d noV)
   |_=>False)
  |some (p,.a (.elt m sz i j)),some (q,u)=>(match S.find m with
   |some (.row E k l)=>if sz=k.sz then(match k.dec (We (k.enc (l.getD i k.dflt)) j u.cells)with
    |some y=>p∧q∧i<l.length∧(u.cells.length=n∧j+n≤k.sz)∧k.enc y=We (k.enc (l.getD i k.dflt)) j u.cells∧K (St.put ⟨S.slots,upd S.res m (.row E k (l.set i y)),S.nx⟩ d noV)
    |none=>False)else False
   |some (.lit E z e l)=>if sz=z then p∧q∧(u.cells.length=n∧i*z+j+n≤l.length)∧K (St.put ⟨S.slots,upd S.res m (.lit E z e (We l (i*z+j) u.cells)),S.nx⟩ d noV)else False
   |_=>False)
  |_,_=>False
 |.call f args,K=>match Rl S args with
  |some (p,vs)=>p∧Za c f vs S (Ib K d)
  |none=>False
 |.bsl E sz m z ps,K=>match W1 S ps z with
  |some (p,l)=>p∧K (S.new (.lit E sz m l) d (.one (.a (.ref S.nx))))
  |none=>False
 |.app T E sz bytes x y,K=>match S.rd x,S.rd y with
  |some (p,.a (.ref m)),some (q,u)=>(match S.find m with
   |some (.row E' k l)=>if E'=E∧sz=k.sz then(match Y1 S E sz k u with
    |some (r,l',ds)=>p∧q∧r∧ds.contains m=false∧((l.length+l'.length)*bytes≤140737488355328∧l.length+l'.length≤4611686018427387904)∧
      K (St.put ⟨S.slots,(S.nx,.row E k (l++l'))::del S.res (m::ds),S.nx+1⟩ d (.one (.a (.ref S.nx))))
    |none=>False)else False
   |some (.lit E' z 0 [])=>if E'=E∧z=sz then(match Sw S u with
    |some ⟨k,l'⟩=>sz=k.sz∧p∧q∧(l'.length*bytes≤140737488355328∧l'.length≤4611686018427387904)∧
      K (St.put ⟨S.slots,(S.nx,.row E k l')::del S.res [m],S.nx+1⟩ d (.one (.a (.ref S.nx))))
    |none=>(match Sp S u with
     |some (l',ds)=>sz=2∧p∧q∧(l'.length*bytes≤140737488355328∧l'.length≤4611686018427387904)∧
       K (St.put ⟨S.slots,(S.nx,.urow 0 E l')::del S.res (m::ds),S.nx+1⟩ d (.one (.a (.ref S.nx))))
     |none=>False))else False
   |some (.urow b E' l)=>if E'=E∧sz=2 then(match Sp S u with
    |some (l',ds)=>p∧q∧((l.length+l'.length)*bytes≤140737488355328∧l.length+l'.length≤4611686018427387904)∧
      K (St.put ⟨S.slots,(S.nx,.urow 0 E (l++l'))::del S.res (m::ds),S.nx+1⟩ d (.one (.a (.ref S.nx))))
    |none=>(match Ja S u with
     |some (s,ls,q',r)=>p∧q∧((b=0∨b=c.w0.heap.size∧c.X=[])∧¬r=m)∧((l.length+1)*bytes≤140737488355328∧l.length+1≤4611686018427387904)∧
       K (St.put ⟨S.slots,(S.nx,.urow b E (l++[(s,ls)]))::del S.res [m,q',r],S.nx+1⟩ d (.one (.a (.ref S.nx))))
     |none=>False))else False
   |some (.arr m1 o n)=>if sz=1 then(match S.find m1 with
    |some (.cells _ l)=>(match Jf ((l.drop o).take n),Y1 S E sz (.int .i64) u with
     |some xs,some (r,l',ds)=>p∧q∧r∧o+n≤l.length∧0<l'.length∧((n+l'.length)*bytes≤140737488355328∧n+l'.length≤4611686018427387904)∧
       K (St.put ⟨S.slots,(S.nx,.row E (.int .i64) (xs++l'))::del S.res (m::ds),S.nx+1⟩ d (.one (.a (.ref S.nx))))
     |_,_=>False)
    |_=>False)else False
   |_=>False)
  |some (p,.a (.raw (.slice none 0 0))),some (q,u)=>(match Zig S u with
   |some k=>if sz=k.sz then(match Y1 S E sz k u with
    |some (r,l',ds)=>p∧q∧r∧(l'.length*bytes≤140737488355328∧l'.length≤4611686018427387904)∧
      K (St.put ⟨S.slots,(S.nx,.row E k l')::del S.res ds,S.nx+1⟩ d (.one (.a (.ref S.nx))))
    |none=>False)else False
   |none=>False)
  |_,_=>False
 |.apps T E x y,K=>match S.rd x,S.rd y with
  |some (p,.a (.ref m)),some (q,.a (.str s))=>(match S.find m with
   |some (.row E' (.int .u8) l)=>if E'=E then p∧q∧l.length+s.length≤140737488355328∧
     K (St.put ⟨S.slots,(S.nx,.row E (.int .u8) (l++bytesI s))::del S.res [m],S.nx+1⟩ d (.one (.a (.ref S.nx))))else False
   |_=>False)
  |some (p,.a (.raw (.slice none 0 0))),some (q,.a (.str s))=>p∧q∧s.length≤140737488355328∧
    K (St.put ⟨S.slots,(S.nx,.row E (.int .u8) (bytesI s))::S.res,S.nx+1⟩ d (.one (.a (.ref S.nx))))
  |_,_=>False
 |.b2s x,K=>match S.rd x with
  |some (p,.a (.raw (.slice none 0 0)))=>p∧K (S.put d (.one (.a (.str []))))
  |some (p,u)=>(match Y1 S 0 1 (.int .u8) u with
   |some (r,l',ds)=>p∧r∧K (S.put d (.one (.a (.str (l'.map toB)))))
   |none=>False)
  |none=>False
 |.frz x,K=>match S.rd x with
  |some (p,.a (.ref m))=>(match S.find m with
   |some (.lit _ 1 _ l)=>(match u8s l with
    |some xs=>p∧K (St.put ⟨S.slots,(m,.ro (.int .u8) xs)::del S.res [m],S.nx⟩ d (.one (.a (.ref m))))
    |none=>False)
   |_=>False)
  |_=>False
 |.slA n x,K=>match S.rd x with
  |some (p,.a (.loc m o))=>(match S.find m with
   |some (.cells _ _)=>p∧K (S.new (.arr m o n) d (.one (.a (.ref S.nx))))
   |_=>False)
  |_=>False
 |.bsl0 E sz,K=>K (S.new (.lit E sz 0 []) d (.one (.a (.ref S.nx))))
 |.s2b x,K=>match S.rd x with
  |some (p,.a (.str s))=>p∧K (S.new (.ro (.int .u8) (s.map fun b=>((b.toNat:Nat):Int))) d (.one (.a (.ref S.nx))))
  |_=>False
 |.mkmap P M E k,K=>P=c.P∧K (S.new (.smap P M E k (fun _=>none) 0) d (.one (.a (.ref S.nx))))
 |.mupd P M E k x i v,K=>match S.rd x,S.rd i,S.rd v with
  |some (p,.a (.ref m)),some (q,.a (.str s)),some (r,.a u)=>(match S.find m with
   |some (.smap P' M' E' k' f n)=>if M'=M∧E'=E then(match unK k' u with
    |some y=>p∧q∧r∧(P'=P∧k'=k)∧s.length≤9223372036854775807∧n<9223372036854775807∧wfK k' y∧K (St.put ⟨S.slots,upd S.res m (.smap P' M' E' k' (fun t=>if t=s then some y else f t) (n+1)),S.nx⟩ d noV)
    |none=>False)else False
   |_=>False)
  |_,_,_=>False
 |.fmk,K=>K (S.new (.fmap []) d (.one (.a (.ref S.nx))))
 |.fupd x i v,K=>match S.rd x,S.rd i,S.rd v with
  |some (p,.a (.ref m)),some (q,.a (.str s)),some (r,.a u)=>(match S.find m,Ej u with
   |some (.fmap l),some (g,f)=>p∧q∧r∧g∧(l.map Prod.fst).contains s=false∧s.length≤1000∧K (St.put ⟨S.slots,upd S.res m (.fmap (l++[(s,f)])),S.nx⟩ d noV)
   |_,_=>False)
  |_,_,_=>False
 |.flook ok x i,K=>match S.rd x,S.rd i with
  |some (p,.a (.ref m)),some (q,.a (.str s))=>(match S.find m with
   |some (.fmap l)=>(match flk l s with
    |some f=>p∧q∧s.length≤1000∧K (S.put d (if ok then .tup [.a (.clo f []),.a (.bool true)]else .one (.a (.clo f []))))
    |none=>False)
   |_=>False)
  |_,_=>False
 |.frng x,K=>match S.rd x with
  |some (p,.a (.ref m))=>(match S.find m with
   |some (.fmap l)=>p∧K (S.new (.fiter m l.length []) d (.one (.a (.ref S.nx))))
   |_=>False)
  |_=>False
 |.fnxt x,K=>match S.rd x with
  |some (p,.a (.ref n))=>(match S.find n with
   |some (.fiter m q seen)=>(match S.find m with
    |some (.fmap l)=>p∧q=l.length∧((∀i,i<l.length→i∈seen)→K (S.put d (.tup [.a (.bool false)])))∧
      ∀i s f,l[i]? =some (s,f)→i∉seen→K (St.put ⟨S.slots,upd S.res n (.fiter m q (seen++[i])),S.nx⟩ d (.tup [.a (.bool true),.a (.str s),.a (.clo f [])]))
    |_=>False)
   |_=>False)
  |_=>False
 |.fent x,K=>match S.rd x with
  |some (p,.a (.ref n))=>(match S.find n with
   |some (.fiter m q seen)=>(match S.find m with
    |some (.fmap l)=>(match seen.getLast? with
     |some i=>(match l[i]? with
      |some (s,f)=>p∧q=l.length∧K (S.put d (.tup [.a (.str s),.a (.clo f [])]))
      |none=>False)
     |none=>False)
    |_=>False)
   |_=>False)
  |_=>False
 |.callv x args,K=>match S.rd x,Rl S args with
  |some (p,.a (.clo f ms)),some (q,vs)=>p∧q∧Xu c.P f=true∧Za c f (vs++ms.map fun m=>.a (.loc m 0)) S (Ib K d)
  |some (p,.a (.ref m)),some (q,vs)=>(match S.find m with
   |some (.fn P g)=>(match g vs with
    |some r=>p∧q∧P=c.P∧Sf vs∧r.bd 0∧K (S.put d r)
    |none=>False)
   |_=>False)
  |_,_=>False
 |_,_=>False
def gst(c:Cx)(b:Bool)(S:St)(d:Option Nat)(i:I)(K:St→Prop):Prop:=
 match i with
 |.call f args=>(match Rl S args with
  |some (p,vs)=>(b=true→p)∧Ze c b f vs S (Ib K d)
  |none=>False)
 |i=>(b=true→st c S d i K)∧(b=false→K (S.put d noV))
def ex(c:Cx):List In→St→(St→Prop)→Prop
 | [],S,K=>K S
 |⟨none,d,i⟩::r,S,K=>match ev S i with
  |some (p,v)=>p∧ex c r (S.put d v) K
  |none=>st c S d i fun S'=>ex c r S' K
 |⟨some g,d,i⟩::r,S,K=>match gdc S g with
  |none=>False
  |some b=>match ev S i with
   |some (p,.one v)=>(b=true→p)∧ex c r (S.put d (.opt b v)) K
   |_=>gst c b S d i fun S'=>ex c r S' K
def exK(c:Cx)(r:List In)(K:St→Prop)(S:St):Prop:=ex c r S K
theorem Zh7(c:Cx)(S:St)(K:St→Prop):ex c [] S K=K S:=rfl
theorem Zd9(c:Cx)(d:Option Nat)(i:I)(r:List In)(S:St)(K:St→Prop):ex c (⟨none,d,i⟩::r) S K=(match ev S i with
 |some (p,v)=>p∧ex c r (S.put d v) K
 |none=>st c S d i (exK c r K)):=rfl
theorem Zea(c:Cx)(g:Nat×Bool)(d:Option Nat)(i:I)(r:List In)(S:St)(K:St→Prop):ex c (⟨some g,d,i⟩::r) S K=(match gdc S g with
 |none=>False
 |some b=>match ev S i with
  |some (p,.one v)=>(b=true→p)∧ex c r (S.put d (.opt b v)) K
  |_=>gst c b S d i (exK c r K)):=rfl
theorem look_cons{α:Type}{l:List (Nat×α)}{d t:Nat}{v x:α}(h:Zo ((d,v)::l) t=some x):d=t∧x=v∨d≠t∧Zo l t=some x:=by
 simp only[Zo]at h
 split at h
 ·rename_i e;cases h;exact .inl ⟨e,rfl⟩
 ·rename_i e;exact .inr ⟨e,h⟩
theorem Zgw{c:Cx}{a:Act}(hlow:c.nt≤BIG){d t:Nat}(hd:d<c.nt)(v:Value):N1 c (a.put (some d) v) t=if d=t∧a.tmps.size=c.nt then some v else if d=t then N1 c (a.put (some d) v) t else N1 c a t:=by
 unfold N1
 split
 ·rename_i hlt
  split
  ·rename_i he
   obtain⟨rfl,hsz⟩:=he
   simp only[Act.put]
   rw[Array.getElem?_setIfInBounds_self]
   simp[hsz,hd]
  ·split
   ·rfl
   ·rename_i hne
    simp only[Act.put]
    rw[Array.getElem?_setIfInBounds_ne hne]
 ·rename_i hge
  have hne:¬d=t:=by omega
  rw[if_neg (by rintro⟨h,_⟩;exact hne h),if_neg hne]
theorem St.holds.put{S:St}{c:Cx}{ρ:Env}{a:Act}{w:World}(h:S.holds c ρ a w){ρ':Env}{R:List (Nat×Res)}{nx:Nat}{w':World}(hs:Qv S.nx ρ ρ')(hnx:S.nx≤nx)
 (hm:Mem c ρ' R nx w'){d:Option Nat}(hd:∀t,d=some t→t<c.nt){v:SV}(hv:v.bd nx):(St.put ⟨S.slots,R,nx⟩ d v).holds c ρ' (a.put d (v.den ρ')) w':=by
 cases d with
 |none=>
  refine⟨h.nodef,h.sz,h.lown,fun t u hu=> ?_,fun t u hu=>SV.bd_mono hnx (h.bds t u hu),hm⟩
  rw[SV.den_same hs (h.bds t u hu)]
  exact h.slot t u hu
 |some d=>
  have hd':=hd d rfl
  refine⟨h.nodef,by simpa[Act.put]using h.sz,h.lown,fun t u hu=> ?_,fun t u hu=> ?_,hm⟩
  ·rw[Zgw h.lown hd']
   rcases look_cons hu with⟨rfl,rfl⟩|⟨hne,hu'⟩
   ·rw[if_pos ⟨rfl,h.sz⟩]
   ·rw[if_neg (by rintro⟨e,_⟩;exact hne e),if_neg hne,SV.den_same hs (h.bds t u hu')]
    exact h.slot t u hu'
  ·rcases look_cons hu with⟨rfl,rfl⟩|⟨hne,hu'⟩
   ·exact hv
   ·exact SV.bd_mono hnx (h.bds t u hu')
theorem St.holds.put_same{S:St}{c:Cx}{ρ:Env}{a:Act}{w:World}(h:S.holds c ρ a w){d:Option Nat}(hd:∀t,d=some t→t<c.nt){v:SV}(hv:v.bd S.nx):(S.put d v).holds c ρ (a.put d (v.den ρ)) w:=by
 have:=h.put (fun _ _=>rfl) (Nat.le_refl _) h.mem hd hv
 cases d<;>exact this
def Z9(ρ:Env)(m:Nat)(v:Value):Env:=fun n=>if n=m then v else ρ n
theorem Zi(ρ:Env)(nx:Nat)(v:Value):Qv nx ρ (Z9 ρ nx v):=fun n hn=>if_neg (by omega)
theorem Zm(ρ:Env)(m:Nat)(v:Value):Z9 ρ m v m=v:=if_pos rfl
theorem Y0{ρ:Env}(h:∀n,(ρ n).oneCell'=true){m:Nat}{v:Value}(hv:v.oneCell'=true):∀n,(Z9 ρ m v n).oneCell'=true:=by
 intro n;unfold Z9;split
 ·exact hv
 ·exact h n
theorem Xj(R:List (Nat×Res)):del R []=R:=by
 unfold del;simp
theorem Tw(w:World)(o:Obj):Rg [] w (w.alloc o):=fun b o' h _=>by
 have:=(Array.getElem?_eq_some_iff.1 h).1
 rw[Below.heap_alloc w o b this];exact h
theorem Mem.newCells{c:Cx}{ρ:Env}{R:List (Nat×Res)}{nx:Nat}{w:World}(h:Mem c ρ R nx w)(E:Nat){l:List At}(hl:∀u∈l,u.bd nx):
 Mem c (Z9 ρ nx (.pointer (some ⟨w.heap.size,0,none⟩))) ((nx,.cells E l)::R) (nx+1) (w.alloc (.cells (l.map (At.den ρ)).toArray E)):=by
 have:=Mem.step (ρ':=Z9 ρ nx (.pointer (some ⟨w.heap.size,0,none⟩))) (nx':=nx+1) (w':=w.alloc (.cells (l.map (At.den ρ)).toArray E)) (ds:=[]) (m:=nx) (r:=.cells E l) (D:=[]) h
  (Zi ρ nx _) (by omega) (Y0 h.one rfl) rfl rfl rfl (by simp) (Tw w _) (by simp) (by omega) (.inr (Nat.le_refl _)) (fun u hu=>At.bd_mono (by omega) (hl u hu))
  (fun b hb=>by simp only[Res.block,Zm,Option.some.injEq]at hb;subst hb;exact⟨by simp,.inl (Nat.le_refl _)⟩)
  (fun O' _ _=>⟨w.heap.size,Zm _ _ _,by rw[Vi (Zi ρ nx _) hl];exact heap_alloc_new w _⟩)
 rwa [Xj]at this
theorem Mem.newLit{c:Cx}{ρ:Env}{R:List (Nat×Res)}{nx:Nat}{w:World}(h:Mem c ρ R nx w)(E sz m:Nat){l:List At}(hl:∀u∈l,u.bd nx)(hlen:l.length=m*sz):
 Mem c (Z9 ρ nx (.slice (some ⟨w.heap.size,0,none⟩) m m)) ((nx,.lit E sz m l)::R) (nx+1) (w.alloc (.cells (l.map (At.den ρ)).toArray E)):=by
 have:=Mem.step (ρ':=Z9 ρ nx (.slice (some ⟨w.heap.size,0,none⟩) m m)) (nx':=nx+1) (w':=w.alloc (.cells (l.map (At.den ρ)).toArray E)) (ds:=[]) (m:=nx) (r:=.lit E sz m l) (D:=[]) h
  (Zi ρ nx _) (by omega) (Y0 h.one rfl) rfl rfl rfl (by simp) (Tw w _) (by simp) (by omega) (.inr (Nat.le_refl _)) (fun u hu=>At.bd_mono (by omega) (hl u hu))
  (fun b hb=>by simp only[Res.block,Zm,Value.ownBlock,Option.some.injEq]at hb;subst hb;exact⟨by simp,.inl (Nat.le_refl _)⟩)
  (fun O' _ _=>⟨w.heap.size,Zm _ _ _,hlen,by rw[Vi (Zi ρ nx _) hl];exact heap_alloc_new w _⟩)
 rwa [Xj]at this
theorem En{w w':World}{g:Nat}(h:∀b,b≠g→w'.heap[b]? =w.heap[b]?):Rg [g] w w':=fun b o hb hne=>by
 rw[h b (by simpa using hne)];exact hb
theorem Mem.rewrite{c:Cx}{ρ:Env}{R:List (Nat×Res)}{nx:Nat}{w w':World}(h:Mem c ρ R nx w){m:Nat}{r r':Res}{g:Nat}(hm:(m,r)∈R)(hg:r.block ρ m=some g)(hg':r'.block ρ m=some g)
 (hos:w'.os=w.os)(htape:w'.tape=w.tape)(hout:w'.output=w.output)(hsize:w'.heap.size=w.heap.size)(hk:∀b,b≠g→w'.heap[b]? =w.heap[b]?)(hb:r'.bd nx)
 (hr:∀O',r'.holds ρ O' m w'):Mem c ρ (upd R m r') nx w':=by
 refine Mem.step (ds:=[m]) (D:=[g]) h (fun _ _=>rfl) (Nat.le_refl _) h.one hos htape hout (by omega) (En hk) (fun b hb=> ?_) (h.bdr _ _ hm).1 (.inl (by simp)) hb (fun b hb=> ?_) fun O' _ _=>hr O'
 ·simp only[List.mem_singleton]at hb;subst hb;exact⟨m,r,hm,by simp,hg⟩
 ·rw[hg']at hb;cases hb
  exact⟨by rw[hsize];exact(h.lt _ (List.mem_filterMap.2 ⟨(m,r),hm,hg⟩)).1,.inr ⟨m,r,hm,by simp,hg⟩⟩
theorem Pz{P:Program}{w:World}{t:TypeId}{i:TypeInfo}(hi:P.info? t=some i){g o E:Nat}{cur:Array Value}(hg:w.heap[g]? =some (.cells cur E (0,0))){v:Value}(hv:v.cells.size=i.size)
 (h1:∀u∈v.cells.toList,u.oneCell'=true)(hfit:o+v.cells.size≤cur.size):
 (storeVar t ⟨g,o,none⟩ v).run P w= .ok () (w.setRow g (cur.toList.take o++v.cells.toList++cur.toList.drop (o+v.cells.size)).toArray):=by
 have hst:=run_storeCells_at P g o E v.cells.toList 0 cur w hg (by simpa using hfit) h1
 unfold storeVar
 simp only[Sem.run_bind,sizeOf,typeInfo,program,Sem.run,hi,Sem.run_pure,Result.andThen_ok,hv,ne_eq,not_true,if_false]
 simpa[hv]using hst
theorem Fk(ρ:Env)(l:List At)(o:Nat)(us:List At):((l.map (At.den ρ)).toArray.toList.take o++us.map (At.den ρ)++(l.map (At.den ρ)).toArray.toList.drop (o+(us.map (At.den ρ)).length))=(We l o us).map (At.den ρ):=by
 simp[We,List.map_take,List.map_drop]
theorem Px(l:List At)(o:Nat)(us:List At)(h:o+us.length≤l.length):(We l o us).length=l.length:=by
 simp[We];omega
theorem B7{nx:Nat}{l us:List At}{o:Nat}(hl:∀u∈l,u.bd nx)(hu:∀u∈us,u.bd nx):∀u∈We l o us,u.bd nx:=by
 intro u h
 simp only[We,List.mem_append]at h
 rcases h with(h|h)|h
 ·exact hl u (List.mem_of_mem_take h)
 ·exact hu u h
 ·exact hl u (List.mem_of_mem_drop h)
theorem Qf{ρ:Env}(h:∀n,(ρ n).oneCell'=true){nx:Nat}{v:S1}(hv:v.bd nx):∀u∈(v.den ρ).cells.toList,u.oneCell'=true:=by
 rw[Sx h hv]
 intro u hu
 simp only[List.mem_map]at hu
 obtain⟨x,hx,rfl⟩:=hu
 exact At.den_one h (On hv x hx)
theorem St.holds.cellsStore{S:St}{c:Cx}{ρ:Env}{a:Act}{w:World}(h:S.holds c ρ a w){m E o:Nat}{l:List At}(hf:S.find m=some (.cells E l)){t:TypeId}{i:TypeInfo}(hi:c.P.info? t=some i)
 {u:S1}(hu:u.bd S.nx)(hn:u.cells.length=i.size∧o+i.size≤l.length):
 ∃w',(Instr.storeAt t ((At.loc m o).den ρ) (u.den ρ)).run c.P w= .ok () w'∧Mem c ρ (upd S.res m (.cells E (We l o u.cells))) S.nx w':=by
 have hm:=Zg hf
 obtain⟨b,hv,hb⟩:=h.mem.res m _ hm
 have hcd:=Sx h.mem.one hu
 have hcs:(u.den ρ).cells.size=i.size:=by rw[hcd];simpa using hn.1
 refine⟨w.setRow b (We l o u.cells |>.map (At.den ρ)).toArray,?_,?_⟩
 ·have:=Pz (P:=c.P) (o:=o) hi hb hcs (Qf h.mem.one hu) (by rw[hcs];simpa using hn.2)
  simp only[At.den,hv,Wk,Instr.storeAt,Sem.run_bind,Ya,Result.andThen_ok,Nat.zero_add]
  rw[this,hcd]
  have e:=Fk ρ l o u.cells
  simp only[List.size_toArray,List.length_map]at e ⊢
  rw[e]
 ·refine h.mem.rewrite (r':=.cells E (We l o u.cells)) (g:=b) hm (by simp[Res.block,hv]) (by simp[Res.block,hv]) rfl rfl rfl (by simp[World.setRow]) (fun k hk=>setRow_other w b k _ hk) (B7 (h.mem.bdr _ _ hm).2 (On hu)) fun O'=> ?_
  exact⟨b,hv,setRow_heap w b _ _ E _ hb⟩
theorem St.holds.litStore{S:St}{c:Cx}{ρ:Env}{a:Act}{w:World}(h:S.holds c ρ a w){m E z e q:Nat}{l:List At}(hf:S.find m=some (.lit E z e l)){t:TypeId}{i:TypeInfo}(hi:c.P.info? t=some i)
 {u:S1}(hu:u.bd S.nx){k j:Nat}(hn:u.cells.length=i.size∧k*z+j+i.size≤l.length):
 ∃w',(Instr.storeAt t ((At.elt m z k j).den ρ) (u.den ρ)).run c.P w= .ok () w'∧Mem c ρ (upd S.res m (.lit E z e (We l (k*z+j) u.cells))) S.nx w':=by
 have hm:=Zg hf
 obtain⟨b,hv,hlen,hb⟩:=h.mem.res m _ hm
 have hcd:=Sx h.mem.one hu
 have hcs:(u.den ρ).cells.size=i.size:=by rw[hcd];simpa using hn.1
 refine⟨w.setRow b (We l (k*z+j) u.cells |>.map (At.den ρ)).toArray,?_,?_⟩
 ·have:=Pz (P:=c.P) (o:=k*z+j) hi hb hcs (Qf h.mem.one hu) (by rw[hcs];simpa using hn.2)
  simp only[At.den,hv,V0,Instr.storeAt,Sem.run_bind,Ya,Result.andThen_ok,Nat.zero_add]
  rw[this,hcd]
  have e:=Fk ρ l (k*z+j) u.cells
  simp only[List.size_toArray,List.length_map]at e ⊢
  rw[e]
 ·refine h.mem.rewrite (r':=.lit E z e (We l (k*z+j) u.cells)) (g:=b) hm (by simp[Res.block,hv,Value.ownBlock]) (by simp[Res.block,hv,Value.ownBlock]) rfl rfl rfl (by simp[World.setRow]) (fun k hk=>setRow_other w b k _ hk) (B7 (h.mem.bdr _ _ hm).2 (On hu)) fun O'=> ?_
  exact⟨b,hv,by rw[Px _ _ _ (by rw[hn.1];exact hn.2)];exact hlen,setRow_heap w b _ _ E _ hb⟩
theorem C3(k:Kd)(f:k.ty→List Value)(hf:∀x,(f x).length=k.sz):∀(l:List k.ty) (i:Nat) (y:k.ty),i<l.length→(l.set i y).flatMap f=(l.flatMap f).take (i*k.sz)++f y++(l.flatMap f).drop (i*k.sz+k.sz)
 | [],i,y,h=>by simp at h
 |x::l,0,y,h=>by
  simp only[List.set_cons_zero,List.flatMap_cons,Nat.zero_mul,List.take_zero,List.nil_append,Nat.zero_add]
  rw[List.drop_append_of_le_length (by rw[hf];exact Nat.le_refl _),List.drop_of_length_le (by rw[hf];exact Nat.le_refl _),List.nil_append]
 |x::l,i+1,y,h=>by
  have ih:=C3 k f hf l i y (by simpa using h)
  simp only[List.set_cons_succ,List.flatMap_cons,ih]
  have e1:(i+1)*k.sz=(f x).length+i*k.sz:=by rw[hf,Nat.succ_mul];omega
  rw[e1,List.take_length_add_append,Nat.add_assoc,List.drop_length_add_append]
  simp
theorem Zgx(cur us:List Value)(A j sz N:Nat)(h1:A+sz≤N)(h2:N≤cur.length)(h3:j+us.length≤sz):
 (cur.take (A+j)++us++cur.drop (A+j+us.length)).take N=(cur.take N).take A++(((cur.drop A).take sz).take j++us++((cur.drop A).take sz).drop (j+us.length))++(cur.take N).drop (A+sz):=by
 apply List.ext_getElem?
 intro p
 simp only[List.getElem?_append,List.getElem?_take,List.getElem?_drop,List.length_take,List.length_append,List.length_drop]
 by_cases c1:p<A
 ·repeat (first|rw[if_pos (by omega)]|rw[if_neg (by omega)])
 ·by_cases c2:p<A+j
  ·repeat (first|rw[if_pos (by omega)]|rw[if_neg (by omega)])
   congr 1;omega
  ·by_cases c3:p<A+j+us.length
   ·repeat (first|rw[if_pos (by omega)]|rw[if_neg (by omega)])
    congr 1;omega
   ·by_cases c4:p<A+sz
    ·repeat (first|rw[if_pos (by omega)]|rw[if_neg (by omega)])
     congr 1;omega
    ·by_cases c5:p<N
     ·repeat (first|rw[if_pos (by omega)]|rw[if_neg (by omega)])
      congr 1;omega
     ·repeat (first|rw[if_pos (by omega)]|rw[if_neg (by omega)])
theorem St.holds.rowStore{S:St}{c:Cx}{ρ:Env}{a:Act}{w:World}(h:S.holds c ρ a w){m E:Nat}{k:Kd}{l:List k.ty}(hf:S.find m=some (.row E k l)){t:TypeId}{i:TypeInfo}(hi:c.P.info? t=some i)
 {u:S1}(hu:u.bd S.nx){q j:Nat}(hq:q<l.length)(hn:u.cells.length=i.size∧j+i.size≤k.sz){y:k.ty}(hy:k.enc y=We (k.enc (l.getD q k.dflt)) j u.cells):
 ∃w',(Instr.storeAt t ((At.elt m k.sz q j).den ρ) (u.den ρ)).run c.P w= .ok () w'∧Mem c ρ (upd S.res m (.row E k (l.set q y))) S.nx w':=by
 have hm:=Zg hf
 obtain⟨hxl,hrow⟩:=h.mem.res m _ hm
 rcases hrow with⟨_,hr⟩|⟨b,cap,cur,hv,_,hb,hnc,hcap,hcur,htake⟩
 ·omega
 have hcd:=Sx h.mem.one hu
 have hcs:(u.den ρ).cells.size=i.size:=by rw[hcd];simpa using hn.1
 have hle:q*k.sz+k.sz≤l.length*k.sz:=by rw[←Nat.succ_mul];exact Nat.mul_le_mul_right _ hq
 have hlc:l.length*k.sz≤cap*k.sz:=Nat.mul_le_mul_right _ hnc
 have hfit:q*k.sz+j+(u.den ρ).cells.size≤cur.size:=by rw[hcs,hcur];omega
 have hst:=Pz (P:=c.P) (o:=q*k.sz+j) hi hb hcs (Qf h.mem.one hu) hfit
 refine⟨w.setRow b (cur.toList.take (q*k.sz+j)++(u.den ρ).cells.toList++cur.toList.drop (q*k.sz+j+(u.den ρ).cells.size)).toArray,?_,?_⟩
 ·simp only[At.den,hv,V0,Instr.storeAt,Sem.run_bind,Ya,Result.andThen_ok,Nat.zero_add]
  exact hst
 ·refine h.mem.rewrite (r':=.row E k (l.set q y)) (g:=b) hm (by simp[Res.block,hv,Value.ownBlock]) (by simp[Res.block,hv,Value.ownBlock]) rfl rfl rfl (by simp[World.setRow]) (fun k hk=>setRow_other w b k _ hk) trivial fun O'=> ?_
  simp only[Res.holds]
  have hln:((l.set q y).flatMap k.enc).length=(l.set q y).length*k.sz:=k.encs_length _
  refine⟨by rw[List.length_map];exact hln,.inr ⟨b,cap,_,by rw[List.length_set];exact hv,Nat.zero_le _,setRow_heap w b _ _ E _ hb,by rw[List.length_set];exact hnc,hcap,?_,?_⟩⟩
  ·have h1:=cur.length_toList
   have h2:=(u.den ρ).cells.length_toList
   simp only[List.size_toArray,List.length_append,List.length_take,List.length_drop]
   omega
  ·rw[List.length_set]
   have hmap:∀l:List k.ty,(l.flatMap k.enc).map (At.den ρ)=l.flatMap fun x=>(k.enc x).map (At.den ρ):=fun l=>by rw[List.map_flatMap]
   rw[hmap]at htake ⊢
   rw[C3 k _ (fun x=>by rw[List.length_map,k.enc_length]) l q y hq,hy]
   have hx:l[q]? =some (l.getD q k.dflt):=by simp[List.getD,hq]
   have hcdl:(u.den ρ).cells.toList=u.cells.map (At.den ρ):=by rw[hcd]
   have hsz:(u.den ρ).cells.size=u.cells.length:=by rw[hcd];simp
   have hputl:(We (k.enc (l.getD q k.dflt)) j u.cells).length=k.sz:=by rw[Px _ _ _ (by rw[k.enc_length,hn.1];exact hn.2),k.enc_length]
   have hold:((k.enc (l.getD q k.dflt)).map (At.den ρ))=(cur.toList.drop (q*k.sz)).take k.sz:=by
    apply List.ext_getElem?
    intro p
    by_cases hp:p<k.sz
    ·have h1:=k.encs_get l q p _ hx hp
     have h2:=congrArg (fun z:List Value=>z[q*k.sz+p]?) htake
     simp only[List.getElem?_take]at h2
     rw[if_pos (by omega),←hmap,List.getElem?_map,h1]at h2
     rw[List.getElem?_map,List.getElem?_take,if_pos hp,List.getElem?_drop,h2]
    ·rw[List.getElem?_map,List.getElem?_eq_none (by rw[k.enc_length];omega),List.getElem?_take,if_neg hp];rfl
   rw[hcdl,hsz]
   simp only[We,List.map_append,List.map_take,List.map_drop,hold,←htake]
   have hul:u.cells.length=(u.cells.map (At.den ρ)).length:=by rw[List.length_map]
   rw[hul]
   exact Zgx cur.toList (u.cells.map (At.den ρ)) (q*k.sz) j k.sz (l.length*k.sz) hle (by have:=cur.length_toList;omega) (by rw[←hul,hn.1];exact hn.2)
theorem Cf:∀ {k k':Kd} {l:List k.ty} {l':List k'.ty},Yo k k' l=some l'→k.sz=k'.sz∧l'.length=l.length∧∃h:l.length=l'.length,(∀ρ,(l'.flatMap k'.enc).map (At.den ρ)=(l.flatMap k.enc).map (At.den ρ)):=by
 intro k k' l l' h
 cases k<;>cases k'<;>simp only[Yo,reduceCtorEq,Option.some.injEq]at h<;>(try(subst h;exact⟨rfl,rfl,rfl,fun _=>rfl⟩))
 rename_i a b
 split at h
 ·rename_i e;cases e;cases h;exact⟨rfl,rfl,rfl,fun _=>rfl⟩
 ·cases h
theorem Ws{S:St}{c:Cx}{ρ:Env}{a:Act}{w:World}(h:S.holds c ρ a w){E sz:Nat}{k:Kd}(hsz:sz=k.sz){u:S1}{p:Prop}{l':List k.ty}{ds:List Nat}
 (ha:Y1 S E sz k u=some (p,l',ds))(hp:p):
 ∃ad cap,u.den ρ= .slice ad l'.length cap∧(ad=none→l'=[])∧∀b,ad=some b→∀j x,((l'.flatMap k.enc).map (At.den ρ))[j]? =some x→w.cell? (b.add j)=some x:=by
 unfold Y1 at ha
 split at ha
 ·rename_i m
  split at ha
  ·rename_i E2 z l hf
   split at ha
   ·rename_i hz
    split at ha
    ·rename_i y hd
     cases ha
     obtain⟨b,hv,hlen,hb⟩:=h.mem.res m _ (Zg hf)
     refine⟨some ⟨b,0,none⟩,1,hv,(fun h=>by cases h),fun b' hb' j x hx=> ?_⟩
     cases hb'
     rw[Addr.add_lit,cell_of_row w b _ _ E2 (0,0) hb]
     have hp':k.enc y=l:=hp
     simp only[List.flatMap_cons,List.flatMap_nil,List.append_nil,hp']at hx
     simpa using hx
    ·cases ha
   ·cases ha
  ·rename_i k' l hf
   split at ha
   ·rename_i l2 hc
    cases ha
    obtain⟨e1,e2,_,e3⟩:=Cf hc
    obtain⟨ad,cap,hv,hnil,hcells⟩:=h.mem.res m _ (Zg hf)
    refine⟨ad,cap,by rw[e2];exact hv.1,fun hn=>by have:=hnil hn;rw[this]at e2;exact List.eq_nil_of_length_eq_zero (by simpa using e2),fun b hb j x hx=> ?_⟩
    rw[e3]at hx
    have hj:j<l.length*k'.sz:=by
     have:=(List.getElem?_eq_some_iff.1 hx).1
     rw[List.length_map,k'.encs_length]at this;exact this
    obtain⟨hsp,hcell⟩:=hcells b hb
    have hsp:=hsp (fun e=>by rw[e]at hj;simp at hj)
    obtain⟨bb,bo,bs⟩:=b
    simp only at hsp;subst hsp
    have hpos:=k'.sz_pos
    have hq:j/k'.sz<l.length:=(Nat.div_lt_iff_lt_mul hpos).2 hj
    have hr:j%k'.sz<k'.sz:=Nat.mod_lt _ hpos
    have hjj:j/k'.sz*k'.sz+j%k'.sz=j:=by rw[Nat.mul_comm];exact Nat.div_add_mod j k'.sz
    have hx1:l[j/k'.sz]? =some l[j/k'.sz]:=by simp[hq]
    have hg:=k'.encs_get l (j/k'.sz) (j%k'.sz) _ hx1 hr
    rw[hjj]at hg
    rw[List.getElem?_map,hg]at hx
    cases hu:(k'.enc l[j/k'.sz])[j%k'.sz]? with
    |none=>rw[hu]at hx;cases hx
    |some q=>
     rw[hu]at hx
     cases hx
     have:=(hcell _ _ hx1 _ _ hu).1
     rw[hjj]at this
     rw[Addr.add_lit];exact this
   ·cases ha
  ·rename_i E' k' l hf
   split at ha
   ·rename_i l2 hc
    cases ha
    obtain⟨e1,e2,_,e3⟩:=Cf hc
    obtain⟨hl,hr⟩:=h.mem.res m _ (Zg hf)
    rcases hr with⟨hv,hn⟩|⟨g,cap,cur,hv,_,hh,hn,hcap,hcur,htake⟩
    ·refine⟨none,0,by rw[e2,hn];exact hv,fun _=>List.eq_nil_of_length_eq_zero (by omega),fun b hb=>by cases hb⟩
    ·refine⟨some ⟨g,0,none⟩,cap,by rw[e2];exact hv,(fun h=>by cases h),fun b hb j x hx=> ?_⟩
     cases hb
     rw[Addr.add_lit,cell_of_row w g _ cur E' (0,0) hh]
     rw[e3,←htake,List.getElem?_take]at hx
     split at hx
     ·simpa using hx
     ·cases hx
   ·cases ha
  ·cases ha
 ·cases ha
theorem At.den_one0{ρ:Env}{x:At}(hx:x.bd 0):(x.den ρ).oneCell'=true:=by
 cases x with
 |raw v=>exact hx
 |ref n=>exact absurd hx (Nat.not_lt_zero _)
 |loc n o=>exact absurd hx (Nat.not_lt_zero _)
 |elt n sz i j=>exact absurd hx (Nat.not_lt_zero _)
 |_=>rfl
theorem Kd.encs_one(k:Kd)(l:List k.ty)(ρ:Env):∀u∈(l.flatMap k.enc).map (At.den ρ),u.oneCell'=true:=by
 intro u hu
 obtain⟨x,hx,rfl⟩:=List.mem_map.1 hu
 obtain⟨y,_,hy⟩:=List.mem_flatMap.1 hx
 exact At.den_one0 (k.enc_bd y 0 x hy)
theorem Zdc(cur us:List Value)(A N:Nat)(h2:N≤cur.length)(h3:A+us.length≤N):
 (cur.take A++us++cur.drop (A+us.length)).take N=(cur.take N).take A++us++(cur.take N).drop (A+us.length):=by
 apply List.ext_getElem?
 intro p
 simp only[List.getElem?_append,List.getElem?_take,List.getElem?_drop,List.length_take,List.length_append,List.length_drop]
 by_cases c1:p<A
 ·repeat (first|rw[if_pos (by omega)]|rw[if_neg (by omega)])
 ·by_cases c3:p<A+us.length
  ·repeat (first|rw[if_pos (by omega)]|rw[if_neg (by omega)])
   congr 1;omega
  ·by_cases c5:p<N
   ·repeat (first|rw[if_pos (by omega)]|rw[if_neg (by omega)])
    congr 1;omega
   ·repeat (first|rw[if_pos (by omega)]|rw[if_neg (by omega)])
theorem L7{α:Type}(f:α→List Value)(z:Nat)(hf:∀x,(f x).length=z):∀(l:List α) (n:Nat),(l.take n).flatMap f=(l.flatMap f).take (n*z)
 | [],n=>by simp
 |x::l,0=>by simp
 |x::l,n+1=>by
  have e:(n+1)*z=(f x).length+n*z:=by rw[hf,Nat.succ_mul];omega
  simp only[List.take_succ_cons,List.flatMap_cons,L7 f z hf l n,e,List.take_length_add_append]
theorem Fa{α:Type}(f:α→List Value)(z:Nat)(hf:∀x,(f x).length=z):∀(l:List α) (n:Nat),(l.drop n).flatMap f=(l.flatMap f).drop (n*z)
 | [],n=>by simp
 |x::l,0=>by simp
 |x::l,n+1=>by
  have e:(n+1)*z=(f x).length+n*z:=by rw[hf,Nat.succ_mul];omega
  simp only[List.drop_succ_cons,List.flatMap_cons,Fa f z hf l n,e,List.drop_length_add_append]
theorem Cp{P:Program}{w w':World}{ts:Array TypeId}{T ty e:TypeId}{i:TypeInfo}(hts:ts[0]? =some T)(ht:P.underlying T=some (.slice e))(hi:P.info? e=some i){dd sd:Option Addr}{dl dc sl sc n:Nat}{cs:Array Value}
 (hn:min sl dl=n)(h1:(Builtin.firstCells i.size n (.slice sd sl sc)).run P w= .ok cs w)(h2:∀a,dd=some a→(storeCells a cs.toList).run P w= .ok () w')(h3:dd=none→w'=w):
 (Builtin.copy_ ts ty #[.slice dd dl dc,.slice sd sl sc]).run P w= .ok (.int .i64 (n:Int)) w':=by
 have hn':Nat.min sl dl=n:=hn
 cases dd with
 |none=>
  rw[h3 rfl]
  simp[Builtin.copy_,hts,run_underlying ht,sizeOf,typeInfo,hi,program,Sem.run,Sem.run_bind,Sem.run_pure,Builtin.lenOf,hn',h1,goInt]
 |some a=>
  have:=h2 a rfl
  simp[Builtin.copy_,hts,run_underlying ht,sizeOf,typeInfo,hi,program,Sem.run,Sem.run_bind,Sem.run_pure,Builtin.lenOf,hn',h1,goInt,this]
theorem St.holds.copyRow{S:St}{c:Cx}{ρ:Env}{a:Act}{w:World}(h:S.holds c ρ a w){m m0 E sz lo hi:Nat}{k:Kd}{l:List k.ty}(hd:Zht S sz m=some (m0,lo,hi))(hf:S.find m0=some (.row E k l))(hsz:sz=k.sz)(hle:hi≤l.length)
 {ts:Array TypeId}{T ty e:TypeId}{i:TypeInfo}(hts:ts[0]? =some T)(ht:c.P.underlying T=some (.slice e))(hi2:c.P.info? e=some i)(his:i.size=sz){u:S1}{p:Prop}{l':List k.ty}{ds:List Nat}(ha:Y1 S E sz k u=some (p,l',ds))(hp:p):
 ∃w',(Builtin.copy_ ts ty #[ρ m,u.den ρ]).run c.P w= .ok (.int .i64 ((min l'.length (hi-lo):Nat):Int)) w'∧Mem c ρ (upd S.res m0 (.row E k (cpyL l lo hi l'))) S.nx w':=by
 subst hsz
 have hm:=Zg hf
 obtain⟨hxl,hrow⟩:=h.mem.res m0 _ hm
 obtain⟨ad,cap,hu,hnil,hcell⟩:=Ws h rfl ha hp
 obtain⟨dd,dc,hdv,hlohi,hdst⟩:∃dd dc,ρ m= .slice dd (hi-lo) dc∧lo≤hi∧(lo<hi→∀b n cp,ρ m0= .slice (some ⟨b,0,none⟩) n cp→dd=some ⟨b,lo*k.sz,none⟩):=by
  unfold Zht at hd
  split at hd
  ·rename_i m1 z lo' hi' hfm
   split at hd
   ·rename_i hz
    subst hz
    cases hd
    obtain⟨a1,n1,c1,a2,h1,h2,h3,h4,h5⟩:=h.mem.res m _ (Zg hfm)
    refine⟨a2,_,h2,h3.1,fun hlt b n cp hb=> ?_⟩
    rw[h5 (by omega)]
    rw[hb]at h1;cases h1
    simp[Addr.add_lit]
   ·cases hd
  ·rename_i E1 k1 l1 hfm
   cases hd
   rw[hf]at hfm;cases hfm
   rcases hrow with⟨hv,hn⟩|⟨b,cp,cur,hv,_⟩
   ·exact⟨none,0,by rw[hv,hn],Nat.zero_le _,fun hlt=>by omega⟩
   ·refine⟨_,_,by rw[hv];rfl,Nat.zero_le _,fun _ b' n cp' hb=> ?_⟩
    rw[hv]at hb;cases hb
    simp
  ·cases hd
 by_cases h0:min l'.length (hi-lo)=0
 ·have hL:cpyL l lo hi l'=l:=by
   unfold cpyL
   have e1:l'.take (hi-lo)=[]:=List.eq_nil_of_length_eq_zero (by rw[List.length_take,Nat.min_comm];exact h0)
   rw[h0,e1,List.append_nil,Nat.add_zero,List.take_append_drop]
  rw[hL,h0]
  refine⟨w,?_,?_⟩
  ·rw[hdv,hu]
   refine Cp (cs:= #[]) hts ht hi2 h0 ?_ (fun a _=>rfl) (fun _=>rfl)
   cases ad with
   |none=>exact run_firstCells_none w _ _ _ _
   |some b=>exact run_firstCells_some w i.size 0 b _ _ [] (by simp) (fun j v hj=>by simp at hj)
  ·refine Mem.step (ds:=[m0]) (D:=[]) h.mem (fun _ _=>rfl) (Nat.le_refl _) h.mem.one rfl rfl rfl (Nat.le_refl _) (fun _ _ hb _=>hb) (by simp) (h.mem.bdr _ _ hm).1 (.inl (by simp)) trivial (fun b hb=> ?_) fun O' _ _=>⟨hxl,hrow⟩
   exact⟨(h.mem.lt _ (List.mem_filterMap.2 ⟨(m0,_),hm,hb⟩)).1,.inr ⟨m0,_,hm,by simp,hb⟩⟩
 ·have hlt:lo<hi:=by omega
  have hl0:l'.length≠0:=by omega
  rcases hrow with⟨_,hn⟩|⟨b,cp,cur,hv,_,hb,hnc,hcap,hcur,htake⟩
  ·omega
  cases ad with
  |none=>rw[hnil rfl]at hl0;simp at hl0
  |some sa=>
  have hdd:=hdst hlt _ _ _ hv
  subst hdd
  generalize hN:min l'.length (hi-lo)=N at*
  have hcs:(((l'.take N).flatMap k.enc).map (At.den ρ)).length=N*i.size:=by
   rw[List.length_map,k.encs_length,List.length_take,his];congr 1;omega
  have hpreT:∀(l':List k.ty) N,((l'.take N).flatMap k.enc).map (At.den ρ)=((l'.flatMap k.enc).map (At.den ρ)).take (N*k.sz):=fun l' N=>by
   have:=L7 (fun x=>(k.enc x).map (At.den ρ)) k.sz (fun x=>by rw[List.length_map,k.enc_length]) l' N
   rw[List.map_flatMap,List.map_flatMap];exact this
  have hpreD:∀(l':List k.ty) N,((l'.drop N).flatMap k.enc).map (At.den ρ)=((l'.flatMap k.enc).map (At.den ρ)).drop (N*k.sz):=fun l' N=>by
   have:=Fa (fun x=>(k.enc x).map (At.den ρ)) k.sz (fun x=>by rw[List.length_map,k.enc_length]) l' N
   rw[List.map_flatMap,List.map_flatMap];exact this
  have hpre:=hpreT l' N
  have hfirst:=run_firstCells_some (P:=c.P) w i.size N sa l'.length cap _ hcs (fun j v hj=>by
   rw[hpre,List.getElem?_take]at hj
   split at hj
   ·exact hcell sa rfl j v hj
   ·cases hj)
  have hone:=k.encs_one (l'.take N) ρ
  have hfit:lo*k.sz+0+(((l'.take N).flatMap k.enc).map (At.den ρ)).length≤cur.size:=by
   rw[hcs,hcur,his,Nat.add_zero,←Nat.add_mul]
   exact Nat.mul_le_mul_right _ (by omega)
  have hst:=run_storeCells_at c.P b (lo*k.sz) E (((l'.take N).flatMap k.enc).map (At.den ρ)) 0 cur w hb hfit (fun v hv=>hone v hv)
  rw[Nat.add_zero]at hst
  refine⟨w.setRow b (cur.toList.take (lo*k.sz)++((l'.take N).flatMap k.enc).map (At.den ρ)++cur.toList.drop (lo*k.sz+(((l'.take N).flatMap k.enc).map (At.den ρ)).length)).toArray,?_,?_⟩
  ·rw[hdv,hu]
   exact Cp hts ht hi2 hN hfirst (fun a ha=>by cases ha;exact hst) (fun h=>by cases h)
  ·refine h.mem.rewrite (r':=.row E k (cpyL l lo hi l')) (g:=b) hm (by simp[Res.block,hv,Value.ownBlock]) (by simp[Res.block,hv,Value.ownBlock]) rfl rfl rfl (by simp[World.setRow]) (fun k hk=>setRow_other w b k _ hk) trivial fun O'=> ?_
   have hlen:(cpyL l lo hi l').length=l.length:=by
    unfold cpyL
    simp only[List.length_append,List.length_take,List.length_drop]
    omega
   have hcl:=cur.length_toList
   have hcz:=hcs
   rw[his]at hcz
   have hlN:lo+N≤l.length:=by omega
   have hmul:lo*k.sz+N*k.sz≤l.length*k.sz:=by rw[←Nat.add_mul];exact Nat.mul_le_mul_right _ hlN
   have hmul2:l.length*k.sz≤cp*k.sz:=Nat.mul_le_mul_right _ hnc
   simp only[Res.holds]
   refine⟨by rw[List.length_map];exact k.encs_length _,.inr ⟨b,cp,_,by rw[hlen];exact hv,Nat.zero_le _,setRow_heap w b _ _ E _ hb,by rw[hlen];exact hnc,hcap,?_,?_⟩⟩
   ·simp only[List.size_toArray,List.length_append,List.length_take,List.length_drop]
    rw[List.length_map]at hcz
    rw[List.length_map,hcz,hcl,hcur]
    omega
   ·rw[hlen]
    have e1:l'.take (hi-lo)=l'.take N:=by
     rw[←hN]
     rcases Nat.le_total l'.length (hi-lo)with h|h
     ·rw[Nat.min_eq_left h,List.take_of_length_le h,List.take_length]
     ·rw[Nat.min_eq_right h]
    have e2:cpyL l lo hi l'=l.take lo++l'.take N++l.drop (lo+N):=by unfold cpyL;rw[e1,hN]
    rw[e2,List.flatMap_append,List.flatMap_append,List.map_append,List.map_append,hpreT l lo,hpreD l (lo+N),←htake]
    have hsp:=Zdc cur.toList (((l'.take N).flatMap k.enc).map (At.den ρ)) (lo*k.sz) (l.length*k.sz) (by omega) (by rw[hcz];exact hmul)
    rw[hcz]at hsp ⊢
    rw[List.toList_toArray,hsp,Nat.add_mul]
theorem Pm{P:Program}{w:World}{ρ:Env}{vm:Value}{E:Nat}{k:Kd}{l l':List k.ty}{T ty:TypeId}{i:TypeInfo}{z:Value}{ad:Option Addr}{cap:Nat}
 (ht:P.underlying T=some (.slice E))(hi:P.info? E=some i)(hz:i.zero=some z)(hzs:z.cells.size=i.size)(hsz:i.size=k.sz)
 (hown:w.ownsRow 0 E k.sz vm l.length ((l.flatMap k.enc).map (At.den ρ)))(hnil:ad=none→l'=[])
 (hcell:∀b,ad=some b→∀j x,((l'.flatMap k.enc).map (At.den ρ))[j]? =some x→w.cell? (b.add j)=some x)
 (hby:(l.length+l'.length)*i.bytes≤140737488355328∧l.length+l'.length≤4611686018427387904):
 ∃v w',(Builtin.append_ #[T,T] ty #[vm,.slice ad l'.length cap]).run P w= .ok v w'∧w'.ownsRow 0 E k.sz v (l.length+l'.length) ((l.flatMap k.enc).map (At.den ρ)++(l'.flatMap k.enc).map (At.den ρ))∧w.grownBy w' vm.ownBlock∧
  (∀g,v.ownBlock=some g→w.heap.size≤g∨vm.ownBlock=some g):=by
 have hlen:((l'.flatMap k.enc).map (At.den ρ)).length=l'.length*k.sz:=by rw[List.length_map,k.encs_length]
 have hmax:l.length+l'.length≤maxLen:=by have:=hby.2;simp only[maxLen];omega
 cases ad with
 |none=>
  have hl':=hnil rfl
  subst hl'
  refine⟨vm,w,?_,by simpa using hown,⟨rfl,rfl,rfl,Nat.le_refl _,fun _ _ _=>rfl⟩,fun g hg=>.inr hg⟩
  rcases hown.2 with⟨hv,hn⟩|⟨g,cp,cur,hv,_,hh,hnc,_⟩
  ·rw[hv]
   simp[Builtin.append_,run_underlying ht,sizeOf,typeInfo,hi,Builtin.lenOf,Builtin.firstCells,Sem.run_bind,Sem.run_pure,program,Sem.run]
  ·rw[hv]
   simp[Builtin.append_,run_underlying ht,sizeOf,typeInfo,hi,Builtin.lenOf,Builtin.firstCells,Sem.run_bind,Sem.run_pure,program,Sem.run,hnc,storeCells]
 |some b=>
  have hl1:((l.flatMap k.enc).map (At.den ρ)).length=l.length*i.size:=by rw[hown.1,hsz]
  have hl2:((l'.flatMap k.enc).map (At.den ρ)).length=l'.length*i.size:=by rw[hlen,hsz]
  have hnews:=hcell b rfl
  have hone:=k.encs_one l' ρ
  have h63:l.length+l'.length≤9223372036854775807:=by simp only[maxLen]at hmax;omega
  have hall:((l.flatMap k.enc).map (At.den ρ)++(l'.flatMap k.enc).map (At.den ρ)).length=(l.length+l'.length)*i.size:=by rw[List.length_append,hl1,hl2,Nat.add_mul]
  have grew:∀(old:Nat),(w.drew.alloc (.cells (((l.flatMap k.enc).map (At.den ρ)).toArray++((l'.flatMap k.enc).map (At.den ρ)).toArray++Builtin.zeroCells z.cells (grownCap w (l.length+l'.length) old E-(l.length+l'.length))) E)).ownsRow 0 E k.sz
        (.slice (some ⟨w.heap.size,0,none⟩) (l.length+l'.length) (grownCap w (l.length+l'.length) old E)) (l.length+l'.length) ((l.flatMap k.enc).map (At.den ρ)++(l'.flatMap k.enc).map (At.den ρ))∧
   ∀row,w.grownBy (w.drew.alloc (.cells (((l.flatMap k.enc).map (At.den ρ)).toArray++((l'.flatMap k.enc).map (At.den ρ)).toArray++Builtin.zeroCells z.cells (grownCap w (l.length+l'.length) old E-(l.length+l'.length))) E)) row:=by
   intro old
   have hge:=grownCap_ge w (l.length+l'.length) old E
   have hcm:=grownCap_le_maxLen w (l.length+l'.length) old E hmax
   refine⟨⟨by rw[hall,hsz],.inr ⟨w.heap.size,_,_,rfl,Nat.zero_le _,heap_alloc_new w.drew _,hge,hcm,?_,?_⟩⟩,fun row=>⟨rfl,rfl,rfl,by simp,fun q hq _=>Below.heap_alloc w.drew _ q hq⟩⟩
   ·simp only[Array.size_append,List.size_toArray,size_zeroCells,hzs,hl1,hl2]
    rw[←Nat.add_mul,←Nat.add_mul,hsz]
    congr 1;omega
   ·simp only[Array.toList_append]
    rw[←hsz,←hall]
    exact List.take_left
  rcases hown.2 with⟨hv,hn⟩|⟨g,cp,cur,hv,_,hh,hnc,hcap,hcur,htake⟩
  ·have hle:l=[]:=List.eq_nil_of_length_eq_zero hn
   subst hle
   rw[hv]
   by_cases h0:l'.length=0
   ·have hle:l'=[]:=List.eq_nil_of_length_eq_zero h0
    subst hle
    refine⟨.slice none 0 0,w,?_,World.ownsRow_nil w 0 E k.sz,⟨rfl,rfl,rfl,Nat.le_refl _,fun _ _ _=>rfl⟩,fun g hg=>.inr hg⟩
    simp[Builtin.append_,run_underlying ht,sizeOf,typeInfo,hi,Builtin.lenOf,Builtin.firstCells,loadCells,loadCellsFrom,Sem.run_bind,Sem.run_pure,program,Sem.run]
   ·have hr:=run_append_nil (P:=P) w T ty E i z ht hi hz b l'.length cap _ hl2 hnews (by omega) (by simp only[List.length_nil]at h63;omega) (by have:=hby.1;simp only[List.length_nil,Nat.zero_add]at this;omega)
    obtain⟨g1,g2⟩:=grew 0
    simp only[List.flatMap_nil,List.map_nil,List.length_nil,Nat.zero_add,List.nil_append,Array.empty_append]at g1 g2 ⊢
    refine⟨_,_,hr,g1,g2 _,fun g hg=>.inl ?_⟩
    simp only[Value.ownBlock,Option.some.injEq]at hg;omega
  ·rw[hv]
   by_cases hroom:l.length+l'.length≤cp
   ·have hfit:l.length*i.size+((l'.flatMap k.enc).map (At.den ρ)).length≤cur.size:=by rw[hl2,hcur,←Nat.add_mul,hsz];exact Nat.mul_le_mul_right _ hroom
    have hr:=run_append_room (P:=P) w T ty E i ht hi g l.length cp cur hh b l'.length cap _ hl2 hnews hone hroom hfit
    refine⟨_,_,hr,⟨by rw[hall,hsz],.inr ⟨g,cp,_,rfl,Nat.zero_le _,setRow_heap w g cur _ E _ hh,hroom,hcap,?_,?_⟩⟩,⟨rfl,rfl,rfl,by simp[World.setRow],fun q _ hq=>setRow_other w g q _ (fun e=>hq (by simp[Value.ownBlock,e]))⟩,fun g' hg'=>.inr hg'⟩
    ·simp only[List.size_toArray,List.length_append,List.length_take,List.length_drop,Array.length_toList]
     omega
    ·rw[←hsz]at htake
     rw[htake,←hsz,←hall]
     exact List.take_left
   ·have holds:∀j u,((l.flatMap k.enc).map (At.den ρ))[j]? =some u→w.cell? ((⟨g,0,none⟩:Addr).add j)=some u:=by
     intro j u hu
     rw[Addr.add_lit,cell_of_row w g _ cur E (0,0) hh]
     rw[←htake,List.getElem?_take]at hu
     split at hu
     ·simpa using hu
     ·cases hu
    have hr:=run_append_grow (P:=P) w T ty E i z ht hi hz ⟨g,0,none⟩ l.length cp _ hl1 holds b l'.length cap _ hl2 hnews (by omega) (by omega) (growslice_fits (by omega) hby.1)
    obtain⟨g1,g2⟩:=grew cp
    refine⟨_,_,hr,g1,g2 _,fun g' hg'=>.inl ?_⟩
    simp only[Value.ownBlock,Option.some.injEq]at hg';omega
theorem St.holds.append{S:St}{c:Cx}{ρ:Env}{a:Act}{w:World}(h:S.holds c ρ a w){m E:Nat}{k:Kd}{l:List k.ty}(hf:S.find m=some (.row E k l)){T ty:TypeId}{i:TypeInfo}{z:Value}
 (ht:c.P.underlying T=some (.slice E))(hi:c.P.info? E=some i)(hz:i.zero=some z)(hzs:z.cells.size=i.size)(hsz:i.size=k.sz)
 {u:S1}{p:Prop}{l':List k.ty}{ds:List Nat}(ha:Y1 S E i.size k u=some (p,l',ds))(hp:p)
 (hby:(l.length+l'.length)*i.bytes≤140737488355328∧l.length+l'.length≤4611686018427387904):
 ∃v w',(Builtin.append_ #[T,T] ty #[(S1.a (.ref m)).den ρ,u.den ρ]).run c.P w= .ok v w'∧
  Mem c (Z9 ρ S.nx v) ((S.nx,.row E k (l++l'))::del S.res (m::ds)) (S.nx+1) w':=by
 have hm:=Zg hf
 obtain⟨ad,cap,hu,hnil,hcell⟩:=Ws h hsz ha hp
 have hr:=h.mem.res m _ hm
 have hown:w.ownsRow 0 E k.sz (ρ m) l.length ((l.flatMap k.enc).map (At.den ρ)):=hr
 have hlen:((l'.flatMap k.enc).map (At.den ρ)).length=l'.length*k.sz:=by rw[List.length_map,k.encs_length]
 have hmax:l.length+l'.length≤maxLen:=by have:=hby.2;simp only[maxLen];omega
 have key:=Pm (ty:=ty) (cap:=cap) ht hi hz hzs hsz hown hnil hcell hby
 obtain⟨v,w',hrun,hown',hgrown,hblk⟩:=key
 refine⟨v,w',by rw[hu];exact hrun,?_⟩
 have hvone:v.oneCell'=true:=by rcases hown'.2 with⟨hv,_⟩|⟨g,cp,cur,hv,_⟩<;>rw[hv]<;>rfl
 have hds:∀d∈ds,d<S.nx:=by
  unfold Y1 at ha
  split at ha
  ·split at ha
   ·rename_i hf2
    split at ha
    ·split at ha
     ·cases ha;intro d hd;simp only[List.mem_singleton]at hd;subst hd;exact(h.mem.bdr _ _ (Zg hf2)).1
     ·cases ha
    ·cases ha
   ·split at ha
    ·cases ha;intro d hd;cases hd
    ·cases ha
   ·split at ha
    ·cases ha;intro d hd;cases hd
    ·cases ha
   ·cases ha
  ·cases ha
 have hblock:∀g,(ρ m).ownBlock=some g→(Res.row E k l).block ρ m=some g:=fun g hg=>hg
 refine Mem.step (D:=(ρ m).ownBlock.toList) h.mem (Zi ρ S.nx v) (by omega) (Y0 h.mem.one hvone) hgrown.os hgrown.tape hgrown.output hgrown.size ?_ ?_ (by omega) (.inr (Nat.le_refl _)) trivial ?_ ?_
 ·intro b o hb hbD
  rw[hgrown.block b (Array.getElem?_eq_some_iff.1 hb).1 (fun e=>hbD (by rw[←e];simp))]
  exact hb
 ·intro b hb
  have hb':(ρ m).ownBlock=some b:=by simpa using hb
  exact⟨m,_,hm,by simp,hb'⟩
 ·intro b hb
  simp only[Res.block,Zm]at hb
  refine⟨(World.ownsRow.lt hown' b hb).2,?_⟩
  rcases hblk b hb with h1|h1
  ·exact .inl h1
  ·exact .inr ⟨m,_,hm,by simp,h1⟩
 ·intro O' _ _
  simp only[Res.holds,Zm,List.length_append,List.flatMap_append,List.map_append]
  rw[k.encs_den l ρ (Z9 ρ S.nx v),k.encs_den l' ρ (Z9 ρ S.nx v)]
  exact hown'
theorem St.holds.append0{S:St}{c:Cx}{ρ:Env}{a:Act}{w:World}(h:S.holds c ρ a w){E:Nat}{k:Kd}{T ty:TypeId}{i:TypeInfo}{z:Value}
 (ht:c.P.underlying T=some (.slice E))(hi:c.P.info? E=some i)(hz:i.zero=some z)(hzs:z.cells.size=i.size)(hsz:i.size=k.sz)
 {u:S1}{p:Prop}{l':List k.ty}{ds:List Nat}(ha:Y1 S E i.size k u=some (p,l',ds))(hp:p)
 (hby:l'.length*i.bytes≤140737488355328∧l'.length≤4611686018427387904):
 ∃v w',(Builtin.append_ #[T,T] ty #[.slice none 0 0,u.den ρ]).run c.P w= .ok v w'∧Mem c (Z9 ρ S.nx v) ((S.nx,.row E k l')::del S.res ds) (S.nx+1) w':=by
 obtain⟨ad,cap,hu,hnil,hcell⟩:=Ws h hsz ha hp
 obtain⟨v,w',hrun,hown',hgrown,hblk⟩:=Pm (ρ:=ρ) (l:=[]) (vm:=.slice none 0 0) (ty:=ty) (cap:=cap) ht hi hz hzs hsz (World.ownsRow_nil w 0 E k.sz) hnil hcell (by simpa using hby)
 refine⟨v,w',by rw[hu];exact hrun,?_⟩
 have hvone:v.oneCell'=true:=by rcases hown'.2 with⟨hv,_⟩|⟨g,cp,cur,hv,_⟩<;>rw[hv]<;>rfl
 refine Mem.step (D:=[]) h.mem (Zi ρ S.nx v) (by omega) (Y0 h.mem.one hvone) hgrown.os hgrown.tape hgrown.output hgrown.size ?_ (by simp) (by omega) (.inr (Nat.le_refl _)) trivial ?_ ?_
 ·intro b o hb _
  rw[hgrown.block b (Array.getElem?_eq_some_iff.1 hb).1 (fun e=>by cases e)]
  exact hb
 ·intro b hb
  simp only[Res.block,Zm]at hb
  refine⟨(World.ownsRow.lt hown' b hb).2,?_⟩
  rcases hblk b hb with h1|h1
  ·exact .inl h1
  ·cases h1
 ·intro O' _ _
  simp only[Res.holds,Zm]
  rw[k.encs_den l' (Z9 ρ S.nx v) ρ]at hown'
  simpa using hown'
theorem Zeg:∀ {l:List At} {xs:List (Kd.ty (.int .i64))},Jf l=some xs→l=xs.map (At.int .i64)
 | [],xs,h=>by cases h;rfl
 |x::l,xs,h=>by
  unfold Jf at h
  split at h
  ·rename_i hx;cases hx
  ·rename_i n l' hx
   cases hx
   split at h
   ·rename_i r hr
    cases h
    rw[Zeg hr];rfl
   ·cases h
  ·cases h
theorem Zfx(xs:List (Kd.ty (.int .i64))):xs.flatMap (Kd.int .i64).enc=xs.map (At.int .i64):=by
 induction xs with
 |nil=>rfl
 |cons x xs ih=>simp only[List.flatMap_cons,List.map_cons,ih];rfl
theorem St.holds.appendArr{S:St}{c:Cx}{ρ:Env}{a:Act}{w:World}(h:S.holds c ρ a w){q m o n E EA:Nat}{l:List At}{xs:List (Kd.ty (.int .i64))}(hq:S.find q=some (.arr m o n))(hm:S.find m=some (.cells EA l))(hx:Jf ((l.drop o).take n)=some xs)(hon:o+n≤l.length)
 {T ty:TypeId}{i:TypeInfo}{z:Value}(ht:c.P.underlying T=some (.slice E))(hi:c.P.info? E=some i)(hz:i.zero=some z)(hzs:z.cells.size=i.size)(hsz:i.size=1)
 {u:S1}{p:Prop}{l':List (Kd.ty (.int .i64))}{ds:List Nat}(ha:Y1 S E i.size (.int .i64) u=some (p,l',ds))(hp:p)(h0:0<l'.length)
 (hby:(n+l'.length)*i.bytes≤140737488355328∧n+l'.length≤4611686018427387904):
 ∃v w',(Builtin.append_ #[T,T] ty #[(S1.a (.ref q)).den ρ,u.den ρ]).run c.P w= .ok v w'∧Mem c (Z9 ρ S.nx v) ((S.nx,.row E (.int .i64) (xs++l'))::del S.res (q::ds)) (S.nx+1) w':=by
 obtain⟨ad,cap,hu,hnil,hcell⟩:=Ws h hsz ha hp
 obtain⟨b,hv1,hv2⟩:=h.mem.res q _ (Zg hq)
 obtain⟨b',hv3,hb⟩:=h.mem.res m _ (Zg hm)
 rw[hv1]at hv3;cases hv3
 have hxs:=Zeg hx
 have hxl:xs.length=n:=by
  have:=congrArg List.length hxs
  simp only[List.length_take,List.length_drop,List.length_map]at this
  omega
 cases ad with
 |none=>rw[hnil rfl]at h0;simp at h0
 |some sa=>
 have hl1:(xs.map fun x=>(At.int .i64 x).den ρ).length=n*i.size:=by rw[List.length_map,hxl,hsz,Nat.mul_one]
 have hl2:((l'.flatMap (Kd.int .i64).enc).map (At.den ρ)).length=l'.length*i.size:=by rw[List.length_map,Kd.encs_length,hsz]
 have holds:∀j v,(xs.map fun x=>(At.int .i64 x).den ρ)[j]? =some v→w.cell? ((⟨b,o,none⟩:Addr).add j)=some v:=by
  intro j v hj
  rw[Addr.add_lit,cell_of_row w b _ _ EA (0,0) hb]
  have hj2:j<n:=by
   have:=(List.getElem?_eq_some_iff.1 hj).1
   rw[List.length_map,hxl]at this;exact this
  have h3:=congrArg (fun z:List At=>(z.map (At.den ρ))[j]?) hxs
  simp only[List.map_map,List.getElem?_map,List.getElem?_take,List.getElem?_drop]at h3
  rw[if_pos hj2]at h3
  rw[List.getElem?_map]at hj
  have h4:(xs[j]?).map ((At.den ρ)∘(At.int .i64))=some v:=hj
  rw[h4]at h3
  simpa using h3
 have hmax:n+l'.length≤maxLen:=by have:=hby.2;simp only[maxLen];omega
 have hr:=run_append_grow (P:=c.P) w T ty E i z ht hi hz ⟨b,o,none⟩ n n _ hl1 holds sa l'.length cap _ hl2 (hcell sa rfl) (by omega) (by omega) (growslice_fits (by omega) hby.1)
 have hge:=grownCap_ge w (n+l'.length) n E
 have hcm:=grownCap_le_maxLen w (n+l'.length) n E hmax
 refine⟨_,_,by rw[hu];simp only[S1.den,At.den,hv2];exact hr,?_⟩
 refine Mem.step (D:=[]) h.mem (Zi ρ S.nx _) (by omega) (Y0 h.mem.one rfl) rfl rfl rfl (by simp) ?_ (by simp) (by omega) (.inr (Nat.le_refl _)) trivial ?_ ?_
 ·intro b o hb _
  rw[Below.heap_alloc w.drew _ b (Array.getElem?_eq_some_iff.1 hb).1]
  exact hb
 ·intro b' hb'
  simp only[Res.block,Zm,Value.ownBlock,Option.some.injEq]at hb'
  subst hb'
  exact⟨by simp[World.alloc],.inl (Nat.le_refl _)⟩
 ·intro O' _ _
  have e1:(((xs++l').flatMap (Kd.int .i64).enc).map (At.den (Z9 ρ S.nx (.slice (some ⟨w.heap.size,0,none⟩) (n+l'.length) (grownCap w (n+l'.length) n E)))))=(xs.map fun x=>(At.int .i64 x).den ρ)++(l'.flatMap (Kd.int .i64).enc).map (At.den ρ):=by
   rw[List.flatMap_append,List.map_append,Kd.encs_den _ l' ρ (Z9 ρ S.nx _)]
   congr 1
   rw[Zfx,List.map_map];rfl
  simp only[Res.holds,Zm]
  rw[e1]
  have hlen:(xs++l').length=n+l'.length:=by rw[List.length_append,hxl]
  rw[hlen]
  have hk1:(Kd.int IntKind.i64).sz=1:=rfl
  refine⟨by rw[List.length_append,hl1,hl2,hsz,hk1];omega,.inr ⟨w.heap.size,_,_,rfl,Nat.zero_le _,heap_alloc_new w.drew _,hge,hcm,?_,?_⟩⟩
  ·simp only[Array.size_append,List.size_toArray,size_zeroCells,hzs,hl1,hl2,hsz,hk1]
   omega
  ·simp only[Array.toList_append,hk1,Nat.mul_one]
   have:n+l'.length=((xs.map fun x=>(At.int .i64 x).den ρ)++(l'.flatMap (Kd.int .i64).enc).map (At.den ρ)).length:=by rw[List.length_append,hl1,hl2,hsz];omega
   rw[this]
   exact List.take_left
theorem K0{P:Program}{w:World}{vm:Value}{E:Nat}{T U ty:TypeId}{i:TypeInfo}{n:Nat}{xs:List Value}(s:List UInt8)
 (ht:P.underlying T=some (.slice E))(hu:P.underlying U=some .string)(hi:P.info? E=some i)(hz:i.zero=some (.int .u8 0))(h1:i.size=1)(h2:i.bytes=1)
 (hown:w.ownsRow 0 E 1 vm n xs)(hby:n+s.length≤140737488355328):
 ∃v w',(Builtin.append_ #[T,U] ty #[vm,.string ⟨s.toArray⟩]).run P w= .ok v w'∧w'.ownsRow 0 E 1 v (n+s.length) (xs++s.map fun b=>Value.int .u8 b.toNat)∧w.grownBy w' vm.ownBlock∧
  (∀g,v.ownBlock=some g→w.heap.size≤g∨vm.ownBlock=some g):=by
 have hsz:(ByteArray.mk s.toArray).size=s.length:=by show s.toArray.size=_;simp
 have hst:Lib.strCells ⟨s.toArray⟩=s.map fun b=>Value.int .u8 b.toNat:=by simp[Lib.strCells]
 have hmax:n+(ByteArray.mk s.toArray).size≤maxLen:=by rw[hsz];simp only[maxLen];omega
 obtain⟨v,w',hrun,g1,g2,_⟩:=Lib.run_append_own_string (P:=P) w 0 T U ty E i ht hu hi hz h1 h2 vm n xs hown ⟨s.toArray⟩ hmax (by rw[hsz];omega) (Nat.zero_le _)
 rw[hsz,hst]at g1
 refine⟨v,w',hrun,g1,g2,fun g hg=> ?_⟩
 rcases hown.2 with⟨rfl,rfl⟩|⟨g0,cap,cur,rfl,_,hg0,hnc,hcm,hcs,htake⟩
 ·obtain⟨v2,w2,hrun2,k1,_,_⟩:=Lib.run_append_own_string (P:=P) w w.heap.size T U ty E i ht hu hi hz h1 h2 (.slice none 0 0) 0 [] (World.ownsRow_nil w _ E 1) ⟨s.toArray⟩ hmax (by rw[hsz];omega) (Nat.le_refl _)
  rw[hrun]at hrun2
  cases hrun2
  exact .inl (World.ownsRow.lt k1 g hg).1
 ·by_cases hroom:n+(ByteArray.mk s.toArray).size≤cap
  ·have hr:=Lib.run_append_room_string (P:=P) w T U ty E i ht hu hi h1 g0 n cap cur hg0 ⟨s.toArray⟩ hroom (by rw[Nat.mul_one]at hcs;omega)
   rw[hrun]at hr
   cases hr
   exact .inr hg
  ·have hxl:xs.length=n:=by simpa using hown.1
   have hr:=Lib.run_append_grow_string (P:=P) w T U ty E i (.int .u8 0) ht hu hi hz ⟨g0,0,none⟩ n cap xs (by rw[h1];simpa using hxl) (fun j u hu=>by
    rw[Addr.add_lit,cell_of_row w g0 _ cur E (0,0) hg0]
    rw[←htake,List.getElem?_take]at hu
    split at hu
    ·simpa using hu
    ·cases hu) ⟨s.toArray⟩ (by omega) (by rw[hsz];omega) (by rw[h2];exact growslice_fits (by omega) (by rw[hsz];omega))
   rw[hrun]at hr
   cases hr
   simp only[Value.ownBlock,Option.some.injEq]at hg
   exact .inl (by omega)
theorem Pn(ρ:Env)(s:List UInt8):((bytesI s).flatMap (Kd.int .u8).enc).map (At.den ρ)=s.map fun b=>Value.int .u8 b.toNat:=by
 unfold bytesI
 induction s with
 |nil=>rfl
 |cons x s ih=>simp only[List.map_cons,List.flatMap_cons,List.map_append,ih];rfl
theorem St.holds.appendS{S:St}{c:Cx}{ρ:Env}{a:Act}{w:World}(h:S.holds c ρ a w){m E:Nat}{l:List (Kd.ty (.int .u8))}(hf:S.find m=some (.row E (.int .u8) l)){T U ty:TypeId}{i:TypeInfo}(s:List UInt8)
 (ht:c.P.underlying T=some (.slice E))(hu:c.P.underlying U=some .string)(hi:c.P.info? E=some i)(hz:i.zero=some (.int .u8 0))(h1:i.size=1)(h2:i.bytes=1)(hby:l.length+s.length≤140737488355328):
 ∃v w',(Builtin.append_ #[T,U] ty #[ρ m,.string ⟨s.toArray⟩]).run c.P w= .ok v w'∧Mem c (Z9 ρ S.nx v) ((S.nx,.row E (.int .u8) (l++bytesI s))::del S.res [m]) (S.nx+1) w':=by
 have hm:=Zg hf
 have hown:w.ownsRow 0 E 1 (ρ m) l.length ((l.flatMap (Kd.int .u8).enc).map (At.den ρ)):=h.mem.res m _ hm
 obtain⟨v,w',hrun,hown',hgrown,hblk⟩:=K0 (ty:=ty) s ht hu hi hz h1 h2 hown hby
 refine⟨v,w',hrun,?_⟩
 have hvone:v.oneCell'=true:=by rcases hown'.2 with⟨hv,_⟩|⟨g,cp,cur,hv,_⟩<;>rw[hv]<;>rfl
 refine Mem.step (D:=(ρ m).ownBlock.toList) h.mem (Zi ρ S.nx v) (by omega) (Y0 h.mem.one hvone) hgrown.os hgrown.tape hgrown.output hgrown.size ?_ ?_ (by omega) (.inr (Nat.le_refl _)) trivial ?_ ?_
 ·intro b o hb hbD
  rw[hgrown.block b (Array.getElem?_eq_some_iff.1 hb).1 (fun e=>hbD (by rw[←e];simp))]
  exact hb
 ·intro b hb
  have hb':(ρ m).ownBlock=some b:=by simpa using hb
  exact⟨m,_,hm,by simp,hb'⟩
 ·intro b hb
  simp only[Res.block,Zm]at hb
  refine⟨(World.ownsRow.lt hown' b hb).2,?_⟩
  rcases hblk b hb with h1|h1
  ·exact .inl h1
  ·exact .inr ⟨m,_,hm,by simp,h1⟩
 ·intro O' _ _
  simp only[Res.holds,Zm,List.length_append,List.flatMap_append,List.map_append]
  rw[Pn,Kd.encs_den (.int .u8) l ρ (Z9 ρ S.nx v)]
  have hbl:(bytesI s).length=s.length:=by simp[bytesI]
  rw[hbl]
  exact hown'
theorem St.holds.appendS0{S:St}{c:Cx}{ρ:Env}{a:Act}{w:World}(h:S.holds c ρ a w){E:Nat}{T U ty:TypeId}{i:TypeInfo}(s:List UInt8)
 (ht:c.P.underlying T=some (.slice E))(hu:c.P.underlying U=some .string)(hi:c.P.info? E=some i)(hz:i.zero=some (.int .u8 0))(h1:i.size=1)(h2:i.bytes=1)(hby:s.length≤140737488355328):
 ∃v w',(Builtin.append_ #[T,U] ty #[.slice none 0 0,.string ⟨s.toArray⟩]).run c.P w= .ok v w'∧Mem c (Z9 ρ S.nx v) ((S.nx,.row E (.int .u8) (bytesI s))::S.res) (S.nx+1) w':=by
 obtain⟨v,w',hrun,hown',hgrown,hblk⟩:=K0 (ty:=ty) (vm:=.slice none 0 0) s ht hu hi hz h1 h2 (World.ownsRow_nil w 0 E 1) (by omega)
 refine⟨v,w',hrun,?_⟩
 have hvone:v.oneCell'=true:=by rcases hown'.2 with⟨hv,_⟩|⟨g,cp,cur,hv,_⟩<;>rw[hv]<;>rfl
 have:=Mem.step (ρ':=Z9 ρ S.nx v) (nx':=S.nx+1) (w':=w') (ds:=[]) (m:=S.nx) (r:=.row E (.int .u8) (bytesI s)) (D:=[]) h.mem (Zi ρ S.nx v) (by omega) (Y0 h.mem.one hvone) hgrown.os hgrown.tape hgrown.output hgrown.size
  (fun b o hb _=>by rw[hgrown.block b (Array.getElem?_eq_some_iff.1 hb).1 (fun e=>by cases e)];exact hb) (by simp) (by omega) (.inr (Nat.le_refl _)) trivial
  (fun b hb=>by
    simp only[Res.block,Zm]at hb
    refine⟨(World.ownsRow.lt hown' b hb).2,?_⟩
    rcases hblk b hb with h1|h1
    ·exact .inl h1
    ·cases h1)
  (fun O' _ _=>by
    simp only[Res.holds,Zm]
    rw[Pn]
    have hbl:(bytesI s).length=s.length:=by simp[bytesI]
    rw[hbl]
    simpa using hown')
 rwa [Xj]at this
theorem St.holds.b2s{S:St}{c:Cx}{ρ:Env}{a:Act}{w:World}(h:S.holds c ρ a w){u:S1}{p:Prop}{l:List (Kd.ty (.int .u8))}{ds:List Nat}(ha:Y1 S 0 1 (.int .u8) u=some (p,l,ds))(hp:p):
 (Conv.bytesToString (u.den ρ)).run c.P w= .ok (.string ⟨(l.map toB).toArray⟩) w:=by
 obtain⟨ad,cap,hu,hnil,hcell⟩:=Ws h rfl ha hp
 rw[hu]
 cases ad with
 |none=>
  have:=hnil rfl
  subst this
  unfold Conv.bytesToString
  simp only[Sem.run_pure]
  rfl
 |some b=>
  have hc:((l.flatMap (Kd.int .u8).enc).map (At.den ρ))=l.map (Value.int .u8):=by
   clear hcell hnil hu ha
   induction l with
   |nil=>rfl
   |cons x l ih=>simp only[List.flatMap_cons,List.map_append,List.map_cons,ih];rfl
  have hl:=run_loadCells_list (P:=c.P) w b (l.map (Value.int .u8)) (fun j v hv=>hcell b rfl j v (by rw[hc];exact hv))
  rw[List.length_map]at hl
  rw[run_bytesToString w b l.length cap l hl]
  have key:∀(l:List Int) (r:ByteArray),l.foldl (fun r n=>r.push (UInt8.ofNat n.toNat)) r=⟨r.data++(l.map toB).toArray⟩:=by
   intro l
   induction l with
   |nil=>intro r;simp
   |cons x l ih=>
    intro r
    rw[List.foldl_cons,ih]
    apply ByteArray.ext
    simp[ByteArray.push,toB]
  rw[key]
  simp
theorem Zjm:∀ {l:List At} {xs:List (Kd.ty (.int .u8))},u8s l=some xs→l=xs.map (At.int .u8)
 | [],xs,h=>by cases h;rfl
 |x::l,xs,h=>by
  unfold u8s at h
  split at h
  ·rename_i e;cases e
  ·rename_i n l' e
   cases e
   split at h
   ·rename_i r hr
    cases h
    rw[Zjm hr];rfl
   ·cases h
  ·cases h
theorem Zfw{w:World}{g o n:Nat}{c:Array Value}{E:TypeId}(h:w.heap[g]? =some (.cells c E (0,0))):∃fz,(w.freeze ⟨g,o,none⟩ n).heap[g]? =some (.cells c E fz):=by
 unfold World.freeze
 split
 ·exact⟨_,h⟩
 ·simp only[Array.getElem?_modify,h,if_true,Option.map_some]
  exact⟨_,rfl⟩
theorem Za5{w:World}{g o n:Nat}(k:Nat)(hk:k≠g):(w.freeze ⟨g,o,none⟩ n).heap[k]? =w.heap[k]? :=by
 unfold World.freeze
 split
 ·rfl
 ·rw[Array.getElem?_modify,if_neg (fun e=>hk e.symm)]
theorem C6(w:World)(g o n:Nat):(w.freeze ⟨g,o,none⟩ n).os=w.os∧(w.freeze ⟨g,o,none⟩ n).tape=w.tape∧(w.freeze ⟨g,o,none⟩ n).output=w.output∧(w.freeze ⟨g,o,none⟩ n).heap.size=w.heap.size:=by
 unfold World.freeze
 split
 ·exact⟨rfl,rfl,rfl,rfl⟩
 ·exact⟨rfl,rfl,rfl,Array.size_modify ..⟩
theorem St.holds.frz{S:St}{c:Cx}{ρ:Env}{a:Act}{w:World}(h:S.holds c ρ a w){m E e:Nat}{l:List At}(hf:S.find m=some (.lit E 1 e l)){xs:List (Kd.ty (.int .u8))}(hx:u8s l=some xs){T e':TypeId}
 (ht:c.P.underlying T=some (.slice e'))(he:c.P.underlying e'=some (.int .u8)):
 ∃w',(convert T T (ρ m)).run c.P w= .ok (ρ m) w'∧Mem c ρ ((m,.ro (.int .u8) xs)::del S.res [m]) S.nx w':=by
 have hm:=Zg hf
 obtain⟨b,hv,hlen,hb⟩:=h.mem.res m _ hm
 have hxl:=Zjm hx
 subst hxl
 have hbm:(Res.lit E 1 e (xs.map (At.int .u8))).block ρ m=some b:=by simp[Res.block,hv,Value.ownBlock]
 obtain⟨f1,f2,f3,f4⟩:=C6 w b e 1
 have hel:xs.length=e:=by simpa using hlen
 refine⟨w.freeze ⟨b,e,none⟩ 1,?_,Mem.step (D:=[b]) h.mem (fun _ _=>rfl) (Nat.le_refl _) h.mem.one f1 f2 f3 (by omega) (fun k o hk hkD=> ?_) (fun k hk=> ?_) (h.mem.bdr _ _ hm).1 (.inl (by simp)) trivial (fun k hk=>by cases hk) fun O' hO _=> ?_⟩
 ·rw[hv]
  have hshape:w.shape? b=some (E,e):=by simp[World.shape?,hb,hel]
  unfold convert markStringish
  simp[Sem.run_bind,run_underlying ht,run_underlying he,Result.andThen_ok,hshape,Sem.run_pure]
 ·rw[Za5 k (by simpa using hkD)];exact hk
 ·simp only[List.mem_singleton]at hk;subst hk;exact⟨m,_,hm,by simp,hbm⟩
 ·obtain⟨fz,hfz⟩:=Zfw (o:=e) (n:=1) hb
  refine⟨some ⟨b,0,none⟩,e,⟨by rw[hv,hel],by omega⟩,(fun h=>by cases h),fun ad had=> ?_⟩
  cases had
  refine⟨fun _=>rfl,fun i x hx j u hu=> ?_⟩
  have hj:j=0:=by have:=(List.getElem?_eq_some_iff.1 hu).1;simp[Kd.enc]at this;exact this
  subst hj
  simp only[Kd.enc,List.getElem?_cons_zero,Option.some.injEq]at hu
  subst hu
  refine⟨?_,fun hmem=> ?_⟩
  ·simp only[Kd.sz,Nat.mul_one,Nat.add_zero,Nat.zero_add]
   rw[show(w.freeze ⟨b,e,none⟩ 1).cell? ⟨b,i,none⟩=((xs.map (At.int .u8)).map (At.den ρ)).toArray[i]? by simp[World.cell?,hfz]]
   simp[List.getElem?_map,hx]
  ·rcases hO _ hmem with h1|h1
   ·exact Yh (ds:=[m]) h.mem.keys h.mem.nodup hm (by simp) hbm h1
   ·cases h1
theorem Mem.litRow{c:Cx}{ρ:Env}{R:List (Nat×Res)}{nx:Nat}{w:World}(h:Mem c ρ R nx w){m E z e:Nat}{l:List At}(hm:(m,Res.lit E z e l)∈R)(k:Kd)(xs:List k.ty)(hl:xs.flatMap k.enc=l)(he:xs.length=e)(hz:z=k.sz)(hmax:e≤4611686018427387904):
 Mem c ρ (upd R m (.row E k xs)) nx w:=by
 subst hz
 obtain⟨b,hv,hlen,hb⟩:=h.res m _ hm
 refine h.rewrite (g:=b) hm (by simp[Res.block,hv,Value.ownBlock]) (by simp[Res.block,hv,Value.ownBlock]) rfl rfl rfl rfl (fun _ _=>rfl) trivial fun O'=> ?_
 subst hl
 refine⟨by rw[List.length_map,k.encs_length],.inr ⟨b,e,_,by rw[hv,he],Nat.zero_le _,hb,by omega,by simp only[maxLen];omega,?_,?_⟩⟩
 ·simpa using hlen
 ·rw[he,←hlen]
  have:((xs.flatMap k.enc).map (At.den ρ)).toArray.toList=(xs.flatMap k.enc).map (At.den ρ):=rfl
  rw[this]
  exact List.take_of_length_le (by simp)
theorem St.holds.litRow{S:St}{c:Cx}{ρ:Env}{a:Act}{w:World}(h:S.holds c ρ a w){m E z e:Nat}{l:List At}(hf:S.find m=some (.lit E z e l))(k:Kd)(xs:List k.ty)(hl:xs.flatMap k.enc=l)(he:xs.length=e)(hz:z=k.sz)(hmax:e≤4611686018427387904):
 (St.mk S.slots (upd S.res m (.row E k xs)) S.nx).holds c ρ a w:=
 ⟨h.nodef,h.sz,h.lown,h.slot,h.bds,h.mem.litRow (Zg hf) k xs hl he hz hmax⟩
theorem Mem.newBytes{c:Cx}{ρ:Env}{R:List (Nat×Res)}{nx:Nat}{w:World}(h:Mem c ρ R nx w){src dst e:TypeId}(s:List UInt8)(hs:c.P.underlying src=some .string)(hd:c.P.underlying dst=some (.slice e))(he:c.P.underlying e=some (.int .u8)):
 ∃v w',(convert src dst (.string ⟨s.toArray⟩)).run c.P w= .ok v w'∧Mem c (Z9 ρ nx v) ((nx,.ro (.int .u8) (s.map fun b=>((b.toNat:Nat):Int)))::R) (nx+1) w':=by
 refine⟨_,_,run_bytes_of_string w src dst e ⟨s.toArray⟩ hs hd he,?_⟩
 have hsz:(ByteArray.mk s.toArray).size=s.length:=by show s.toArray.size=_;simp
 rw[hsz]
 generalize hB:bytesRow (ByteArray.mk s.toArray) (grownCap w s.length 0 e)=B
 have hcell:∀i,i<s.length→B[i]? =some (.int .u8 ((s.getD i 0).toNat:Int)):=by
  intro i hi
  rw[←hB]
  simp only[bytesRow]
  rw[Array.getElem?_append_left (by simp;exact hi)]
  simp[hi,List.getD]
 have hold:∀b o,w.heap[b]? =some o→(w.drew.alloc (.cells B e (B.size,B.size+1))).heap[b]? =some o:=fun b o hb=>by
  rw[Below.heap_alloc w.drew _ b (Array.getElem?_eq_some_iff.1 hb).1];exact hb
 have:=Mem.step (ρ':=Z9 ρ nx (.slice (some ⟨w.heap.size,0,none⟩) s.length (grownCap w s.length 0 e))) (nx':=nx+1) (w':=w.drew.alloc (.cells B e (B.size,B.size+1))) (ds:=[]) (m:=nx) (r:=.ro (.int .u8) (s.map fun b=>((b.toNat:Nat):Int))) (D:=[]) h
  (Zi ρ nx _) (by omega) (Y0 h.one rfl) rfl rfl rfl (by simp) (fun b o hb _=>hold b o hb) (by simp) (by omega) (.inr (Nat.le_refl _)) trivial
  (fun b hb=>by cases hb)
  (fun O' hO _=>by
    refine⟨some ⟨w.heap.size,0,none⟩,grownCap w s.length 0 e,?_,(fun h=>by cases h),fun ad had=> ?_⟩
    ·rw[Zm];exact⟨by simp,by simpa using grownCap_ge w s.length 0 e⟩
    ·cases had
     refine⟨fun _=>rfl,fun i x hx j u hu=> ?_⟩
     have hi:i<s.length:=by have:=(List.getElem?_eq_some_iff.1 hx).1;simpa using this
     have hj:j=0:=by have:=(List.getElem?_eq_some_iff.1 hu).1;simp[Kd.enc]at this;exact this
     subst hj
     simp only[Kd.enc,List.getElem?_cons_zero,Option.some.injEq]at hu
     subst hu
     have hx':x=((s.getD i 0).toNat:Int):=by
      simp[List.getElem?_map,hi]at hx
      simp[List.getD,hi,←hx]
     refine⟨?_,fun hm=> ?_⟩
     ·simp only[Kd.sz,Nat.mul_one,Nat.add_zero,Nat.zero_add,At.den,hx']
      unfold World.cell?
      have:(w.drew.alloc (.cells B e (B.size,B.size+1))).heap[w.heap.size]? =some (.cells B e (B.size,B.size+1)):=heap_alloc_new w.drew _
      rw[this]
      simp[hcell i hi]
     ·rcases hO _ hm with h1|h1
      ·rw[Xj]at h1
       exact Nat.lt_irrefl _ (h.lt _ h1).1
      ·cases h1)
 rwa [Xj]at this
theorem Mem.grow{c:Cx}{ρ:Env}{R:List (Nat×Res)}{nx:Nat}{w w':World}(h:Mem c ρ R nx w)(hos:w'.os=w.os)(htape:w'.tape=w.tape)(hout:w'.output=w.output)(hsize:w.heap.size≤w'.heap.size)
 (hk:Rg [] w w'):Mem c ρ R nx w':=by
 refine⟨hos.trans h.os,htape.trans h.tape,hout.trans h.output,Nat.le_trans h.size hsize,?_,h.one,h.keys,?_,h.bdr,h.nodup,fun b hb=>⟨Nat.lt_of_lt_of_le (h.lt b hb).1 hsize,(h.lt b hb).2⟩⟩
 ·intro b hb hbX
  have hlt:b<w.heap.size:=Nat.lt_of_lt_of_le hb h.size
  rw[←h.block b hb hbX,hk b w.heap[b] (by simp[hlt]) (by simp)]
  simp[hlt]
 ·intro n r hr
  exact Res.carry (nx:=nx) (O:=Zp ρ R) (D:=[]) (fun _ _=>rfl) (h.bdr n r hr).1 (h.bdr n r hr).2 hk (by simp) (by simp) (fun b hb=>.inl hb) (h.res n r hr)
theorem Mem.below{c:Cx}{ρ:Env}{R:List (Nat×Res)}{nx:Nat}{w w':World}(h:Mem c ρ R nx w)(hb:Below w.heap.size w w'):Mem c ρ R nx w':=
 h.grow hb.os hb.tape hb.output hb.size fun b o ho _=>by rw[hb.block b (Array.getElem?_eq_some_iff.1 ho).1];exact ho
theorem St.holds.below{S:St}{c:Cx}{ρ:Env}{a:Act}{w w':World}(h:S.holds c ρ a w)(hb:Below w.heap.size w w'):S.holds c ρ a w':=
 ⟨h.nodef,h.sz,h.lown,h.slot,h.bds,h.mem.below hb⟩
theorem Mem.newMap{c:Cx}{ρ:Env}{R:List (Nat×Res)}{nx:Nat}{w:World}(h:Mem c ρ R nx w)(P:Program)(M E:TypeId)(k:Kd):
 Mem c (Z9 ρ nx (.map (some w.heap.size))) ((nx,.smap P M E k (fun _=>none) 0)::R) (nx+1) (w.alloc (.map #[] 0)):=by
 have:=Mem.step (ρ':=Z9 ρ nx (.map (some w.heap.size))) (nx':=nx+1) (w':=w.alloc (.map #[] 0)) (ds:=[]) (m:=nx) (r:=.smap P M E k (fun _=>none) 0) (D:=[]) h
  (Zi ρ nx _) (by omega) (Y0 h.one rfl) rfl rfl rfl (by simp) (Tw w _) (by simp) (by omega) (.inr (Nat.le_refl _)) trivial
  (fun b hb=>by simp only[Res.block,Zm,Option.some.injEq]at hb;subst hb;exact⟨by simp,.inl (Nat.le_refl _)⟩)
  (fun O' _ _=>⟨w.heap.size,#[],0,Zm _ _ _,heap_alloc_new w _,⟨by simp,MapKept.stamped_empty 0,by simp⟩,Nat.le_refl _,fun s z=>rfl⟩)
 rwa [Xj]at this
theorem unK_den(ρ:Env){k:Kd}{u:At}{y:k.ty}(h:unK k u=some y):u.den ρ=valK k y:=by
 unfold unK at h
 split at h
 ·split at h
  ·rename_i e;subst e;cases h;rfl
  ·cases h
 ·cases h;rfl
 ·cases h
theorem Mem.updMap{c:Cx}{ρ:Env}{R:List (Nat×Res)}{nx:Nat}{w:World}(h:Mem c ρ R nx w){m:Nat}{P:Program}{t M E:TypeId}{k:Kd}{f:List UInt8→Option k.ty}{n:Nat}(hm:(m,Res.smap P M E k f n)∈R)
 (hk:Mg P M E=some k)(ht:P.underlying t=some (.map M E))(s:List UInt8)(hs:s.length≤9223372036854775807)(hn:n<9223372036854775807){y:k.ty}(hy:wfK k y):
 ∃w',(Instr.mapUpdate t (ρ m) (.string ⟨s.toArray⟩) (valK k y)).run P w= .ok () w'∧Mem c ρ (upd R m (.smap P M E k (fun t=>if t=s then some y else f t) (n+1))) nx w':=by
 obtain⟨b,es,clock,hv,hb,F,hsz,hat⟩:=h.res m _ hm
 obtain⟨hM,hE⟩:=K5 hk
 have hkey:keyOf P M (.string ⟨s.toArray⟩)=some (.string s):=WideMaps.keyOf_string_mk hM (s:=⟨s.toArray⟩) hs
 have hR:plainElem (H:=Unit) P E (valK k y)=some (litK k y,[]):=by
  rcases hE with⟨q,i,rfl,h1,_,_⟩|⟨i,rfl,h1,_,_⟩
  ·have hw:(Lit.int q y).wf=true:=by
    cases q<;>simp only[wfK]at hy
    simp only[Lit.wf,Bool.and_eq_true,decide_eq_true_eq]
    exact hy
   exact plainElem_int h1 hw
  ·exact plainElem_bool h1 y
 have hroom:es.size<maxLen:=by unfold maxLen;omega
 obtain⟨es',clock',hrun,F',hput,_⟩:=Maps.fit_store (R':=plainElem (H:=Unit) P E) (Maps.string_keyed hM) ht hb F hroom (fun _ _ _ _ hz=>hz) hkey hR
 refine⟨_,by rw[hv];exact hrun,?_⟩
 refine h.rewrite (g:=b) hm (by simp[Res.block,hv]) (by simp[Res.block,hv]) rfl rfl rfl (by simp[ChangeMaps.setBlock]) (fun b' hb'=>ChangeMaps.heap_setBlock_other hb _ hb') trivial fun O'=> ?_
 refine⟨b,es',clock',hv,ChangeMaps.heap_setBlock_same hb _,F',?_,fun s' z=> ?_⟩
 ·have e1:es'.size=((es'.toList.map (WideElems.rg P M (plainElem (H:=Unit) P E))).foldr DataW.insert []).length:=by rw[length_sorted];simp
  rw[e1,hput]
  unfold ChangeMaps.putKey
  rw[length_insert]
  have e2:=List.length_filter_le (ChangeMaps.notKey (.string s)) ((es.toList.map (WideElems.rg P M (plainElem (H:=Unit) P E))).foldr DataW.insert [])
  rw[length_sorted]at e2
  simp at e2
  omega
 ·rw[hput,←DataW.put_eq]
  by_cases he:s'=s
  ·subst he
   rw[Maps.atKey_put_same ⟨_,rfl⟩ (show WideAt.IsKeyLit (.string s') by simp[WideAt.IsKeyLit])]
   simp
  ·rw[Maps.atKey_put_other (by simpa using he),hat s' z]
   simp only[if_neg he]
theorem Mem.newMade{c:Cx}{ρ:Env}{R:List (Nat×Res)}{nx:Nat}{w:World}(h:Mem c ρ R nx w){t e:TypeId}{k:Kd}{i:TypeInfo}(ht:c.P.underlying t=some (.slice e))(hk:Bm c.P e=some k)(hi:c.P.info? e=some i)(hs:i.size=1)(hks:k.sz=1)
 (kl kc:IntKind)(n:Nat)(hb:i.bytes*n≤281474976710656)(hn:n≤4611686018427387904):
 ∃v w',(Instr.makeSlice t (.int kl (n:Int)) (.int kc (n:Int))).run c.P w= .ok v w'∧Mem c (Z9 ρ nx v) ((nx,.row e k (List.replicate n k.dflt))::R) (nx+1) w':=by
 have hmade:∀(z:Value),(madeCells #[z] (n*1)).toList=List.replicate n z:=by
  intro z
  apply List.ext_getElem
  ·simp[madeCells]
  ·intro q h1 h2
   simp[madeCells,Nat.mod_one]
 have key:∀z,i.zero=some z→z.cells= #[(match k.enc k.dflt with| [x]=>x.den (fun _=>Yz)|_=>undef)]→∃v w',(Instr.makeSlice t (.int kl (n:Int)) (.int kc (n:Int))).run c.P w= .ok v w'∧Mem c (Z9 ρ nx v) ((nx,.row e k (List.replicate n k.dflt))::R) (nx+1) w':=by
  intro z hz hzc
  obtain⟨w',g1,g2,g3⟩:=run_make_full (P:=c.P) w 0 t e i z 1 ht hi hz hs kl kc n hb (by unfold maxLen;omega) (Nat.zero_le _)
  refine⟨_,w',g1,?_⟩
  have:=Mem.step (ρ':=Z9 ρ nx (.slice (some ⟨w.heap.size,0,none⟩) n n)) (nx':=nx+1) (w':=w') (ds:=[]) (m:=nx) (r:=.row e k (List.replicate n k.dflt)) (D:=[]) h
   (Zi ρ nx _) (by omega) (Y0 h.one rfl) g3.os g3.tape g3.output g3.size (fun b o hb _=>by rw[g3.block b (Array.getElem?_eq_some_iff.1 hb).1 (by simp)];exact hb) (by simp) (by omega) (.inr (Nat.le_refl _)) trivial
   (fun b hbk=>by
     simp only[Res.block,Zm,Value.ownBlock,Option.some.injEq]at hbk
     subst hbk
     exact⟨(World.ownsRow.lt g2 _ rfl).2,.inl (Nat.le_refl _)⟩)
   (fun O' _ _=>by
     simp only[Res.holds,Zm,List.length_replicate]
     rw[hks]
     rw[hzc,hmade]at g2
     have e1:((List.replicate n k.dflt).flatMap k.enc).map (At.den (Z9 ρ nx (.slice (some ⟨w.heap.size,0,none⟩) n n)))=List.replicate n (match k.enc k.dflt with| [x]=>x.den (fun _=>Yz)|_=>undef):=by
      rw[k.encs_den _ (fun _=>Yz)]
      have hl:(k.enc k.dflt).length=1:=by rw[k.enc_length,hks]
      match hx:k.enc k.dflt,hl with
      | [x],_=>
        have:∀m,((List.replicate m k.dflt).flatMap k.enc).map (At.den fun _=>Yz)=List.replicate m (x.den fun _=>Yz):=by
         intro m
         induction m with
         |zero=>rfl
         |succ m ih=>simp only[List.replicate_succ,List.flatMap_cons,List.map_append,ih,hx,List.map_cons,List.map_nil,List.singleton_append]
        exact this n
     rw[e1];exact g2)
  rwa [Xj]at this
 rcases mapKd_spec hk with⟨q,i',rfl,h1,h2,h3⟩|⟨i',rfl,h1,h2,h3⟩
 ·rw[hi]at h2;cases h2;exact key _ h3 rfl
 ·rw[hi]at h2;cases h2;exact key _ h3 rfl
theorem H2(w:World){b b':Nat}(o:Obj)(h:b'≠b):(ChangeMaps.setBlock w b o).heap[b']? =w.heap[b']? :=by simp[ChangeMaps.setBlock,Array.getElem?_setIfInBounds_ne (Ne.symm h)]
theorem Gn{w:World}{b:Nat}{o':Obj}(h:w.heap[b]? =some o')(o:Obj):(ChangeMaps.setBlock w b o).heap[b]? =some o:=by
 have:=(Array.getElem?_eq_some_iff.1 h).1
 simp[ChangeMaps.setBlock,this]
theorem Cu(l:List (List UInt8×Nat))(s:List UInt8)(f:Nat):Yt (l++[(s,f)])=(Yt l).push ⟨.string ⟨s.toArray⟩,.func (.func f) #[] #[],l.length⟩:=by
 unfold Yt
 rw[List.zipIdx_append]
 simp
theorem Mb{l:List (List UInt8×Nat)}{i:Nat}{e:MapEntry}(h:(Yt l).toList[i]? =some e):∃s f,l[i]? =some (s,f)∧e=⟨.string ⟨s.toArray⟩,.func (.func f) #[] #[],i⟩:=by
 unfold Yt at h
 simp only[List.getElem?_map,List.getElem?_zipIdx,Option.map_map]at h
 cases hl:l[i]? with
 |none=>simp[hl]at h
 |some p=>simp[hl]at h;exact⟨p.1,p.2,rfl,h.symm⟩
theorem Mc{l:List (List UInt8×Nat)}{e:MapEntry}(h:e∈(Yt l).toList):∃i s f,l[i]? =some (s,f)∧e=⟨.string ⟨s.toArray⟩,.func (.func f) #[] #[],i⟩:=by
 obtain⟨i,hi⟩:=List.getElem?_of_mem h
 obtain⟨s,f,h1,h2⟩:=Mb hi
 exact⟨i,s,f,h1,h2⟩
theorem Gx{s t:List UInt8}(h:(Value.string ⟨s.toArray⟩)= .string ⟨t.toArray⟩):s=t:=by
 simpa using h
theorem O8{P:Program}{t:TypeId}(h:Rt P t=true):∃K E,P.underlying t=some (.map K E)∧P.underlying K=some .string:=by
 unfold Rt at h
 split at h
 ·rename_i K E ht
  split at h
  ·rename_i hK;exact⟨K,E,ht,hK⟩
  ·cases h
 ·cases h
theorem G3{P:Program}{K:TypeId}(hK:P.underlying K=some .string){l:List (List UInt8×Nat)}(hl:∀p∈l,p.1.length≤1000):∀e∈(Yt l).toList,∃x,keyOf P K e.key=some x:=by
 intro e he
 obtain⟨i,s,f,h1,rfl⟩:=Mc he
 exact⟨_,WideMaps.keyOf_string_mk hK (s:=⟨s.toArray⟩) (by have h2:s.length≤1000:=hl (s,f) (List.mem_of_getElem? h1);simp only[ByteArray.size,List.size_toArray,maxLen];omega)⟩
theorem fm_upd{P:Program}{t:TypeId}{w:World}{b:Nat}{l:List (List UInt8×Nat)}{s:List UInt8}{f:Nat}(ht:Rt P t=true)(hb:w.heap[b]? =some (.map (Yt l) l.length))(hl:∀p∈l,p.1.length≤1000)(hs:s.length≤1000)(hn:s∉l.map Prod.fst):
 (Instr.mapUpdate t (.map (some b)) (.string ⟨s.toArray⟩) (.func (.func f) #[] #[])).run P w= .ok () (ChangeMaps.setBlock w b (.map (Yt (l++[(s,f)])) (l.length+1))):=by
 obtain⟨K,E,ht,hK⟩:=O8 ht
 have hkey:keyOf P K (.string ⟨s.toArray⟩)=some (.string s):=WideMaps.keyOf_string_mk hK (s:=⟨s.toArray⟩) (by simp only[ByteArray.size,List.size_toArray,maxLen];omega)
 rcases(Maps.string_keyed hK).find w hkey (Yt l).toList (G3 hK hl)with⟨h1,_⟩|⟨j,e,_,h2,h3⟩
 ·rw[Cu]
  simp[Instr.mapUpdate,run_underlying ht,MapKept.run_getObj_map hb,(Maps.string_keyed hK).check w _ hkey,h1,MapKept.run_setObj_map _ hb,Result.andThen,ChangeMaps.setBlock]
 ·exfalso
  obtain⟨s',f',g1,rfl⟩:=Mb h2
  have:=Gx h3
  subst this
  exact hn (List.mem_map.2 ⟨_,List.mem_of_getElem? g1,rfl⟩)
theorem Zed:∀ {l:List (List UInt8×Nat)} {s:List UInt8} {f:Nat},flk l s=some f→(s,f)∈l
 |(t,g)::l,s,f,h=>by
  unfold flk at h
  split at h
  ·rename_i e;subst e;cases h;exact List.mem_cons_self ..
  ·exact List.mem_cons_of_mem _ (Zed h)
theorem Fh:∀ {l:List (List UInt8×Nat)} {s:List UInt8} {f g:Nat},(l.map Prod.fst).Nodup→(s,f)∈l→(s,g)∈l→f=g
 |p::l,s,f,g,hn,h1,h2=>by
  simp only[List.map_cons,List.nodup_cons]at hn
  rcases List.mem_cons.1 h1 with e1|e1
  ·rcases List.mem_cons.1 h2 with e2|e2
   ·rw[←e1]at e2;cases e2;rfl
   ·exact absurd (show p.1∈l.map Prod.fst from List.mem_map.2 ⟨(s,g),e2,by rw[←e1]⟩) hn.1
  ·rcases List.mem_cons.1 h2 with e2|e2
   ·exact absurd (show p.1∈l.map Prod.fst from List.mem_map.2 ⟨(s,f),e1,by rw[←e2]⟩) hn.1
   ·exact Fh hn.2 e1 e2
theorem fm_look{P:Program}{t:TypeId}{w:World}{b:Nat}{l:List (List UInt8×Nat)}{s:List UInt8}{f:Nat}(ht:Rt P t=true)(hb:w.heap[b]? =some (.map (Yt l) l.length))(hl:∀p∈l,p.1.length≤1000)(hn:(l.map Prod.fst).Nodup)(hf:flk l s=some f)(ok:Bool)(hs:s.length≤1000):
 (Instr.lookup t (.map (some b)) (.string ⟨s.toArray⟩) ok).run P w= .ok (if ok then .tuple #[.func (.func f) #[] #[],.bool true]else .func (.func f) #[] #[]) w:=by
 obtain⟨K,E,ht,hK⟩:=O8 ht
 have hkey:keyOf P K (.string ⟨s.toArray⟩)=some (.string s):=WideMaps.keyOf_string_mk hK (s:=⟨s.toArray⟩) (by simp only[ByteArray.size,List.size_toArray,maxLen];omega)
 have hmem:=Zed hf
 rcases(Maps.string_keyed hK).find w hkey (Yt l).toList (G3 hK hl)with⟨_,h2⟩|⟨j,e,h1,h2,h3⟩
 ·exfalso
  obtain⟨i,hi⟩:=List.getElem?_of_mem hmem
  have:(Yt l).toList[i]? =some ⟨.string ⟨s.toArray⟩,.func (.func f) #[] #[],i⟩:=by
   unfold Yt;simp[List.getElem?_zipIdx,hi]
  exact h2 _ (List.mem_of_getElem? this) rfl
 ·obtain⟨s',f',g1,rfl⟩:=Mb h2
  have e:=Gx h3
  subst e
  have:=Fh hn (List.mem_of_getElem? g1) hmem
  subst this
  simp[Instr.lookup,run_underlying ht,MapKept.run_getObj_map hb,(Maps.string_keyed hK).check w _ hkey,h1,Result.andThen]
theorem Zf1{l:List (List UInt8×Nat)}{seen:List Nat}{e:MapEntry}(h:e∈(leftOf (Yt l) seen.toArray).toList):∃i s f,l[i]? =some (s,f)∧i∉seen∧e=⟨.string ⟨s.toArray⟩,.func (.func f) #[] #[],i⟩:=by
 unfold leftOf at h
 simp only[Array.toList_filter,List.mem_filter]at h
 obtain⟨i,s,f,h1,rfl⟩:=Mc h.1
 exact⟨i,s,f,h1,by simpa using h.2,rfl⟩
theorem Zf0{l:List (List UInt8×Nat)}{seen:List Nat}(h:(leftOf (Yt l) seen.toArray).size=0):∀i,i<l.length→i∈seen:=by
 intro i hi
 by_cases hm:i∈seen
 ·exact hm
 ·exfalso
  have hg:(Yt l).toList[i]? =some ⟨.string ⟨l[i].1.toArray⟩,.func (.func l[i].2) #[] #[],i⟩:=by
   unfold Yt;simp[List.getElem?_zipIdx,hi]
  have:(⟨.string ⟨l[i].1.toArray⟩,.func (.func l[i].2) #[] #[],i⟩:MapEntry)∈(leftOf (Yt l) seen.toArray).toList:=by
   unfold leftOf
   simp only[Array.toList_filter,List.mem_filter]
   exact⟨List.mem_of_getElem? hg,by simpa using hm⟩
  have e:(leftOf (Yt l) seen.toArray).toList=[]:=by simpa using h
  rw[e]at this;cases this
theorem fm_next{P:Program}(ty:TypeId){w:World}{bi bm:Nat}{l:List (List UInt8×Nat)}{seen:List Nat}(hi:w.heap[bi]? =some (.mapIter (some bm) l.length seen.toArray l.length))(hb:w.heap[bm]? =some (.map (Yt l) l.length)):
 ((∀i,i<l.length→i∈seen)∧(Instr.next (.pointer (some ⟨bi,0,none⟩)) false ty).run P w= .ok (.tuple #[.bool false]) w)∨
 ∃i s f,l[i]? =some (s,f)∧i∉seen∧∃w1:World,(w1=w∨w1=w.drew)∧
  (Instr.next (.pointer (some ⟨bi,0,none⟩)) false ty).run P w= .ok (.tuple #[.bool true,.string ⟨s.toArray⟩,.func (.func f) #[] #[]]) (ChangeMaps.setBlock w1 bi (.mapIter (some bm) l.length (seen++[i]).toArray l.length)):=by
 have hold:∀x∈(Yt l).toList,x.born<l.length:=fun x hx=>by
  obtain⟨i,s,f,h1,rfl⟩:=Mc hx
  exact(List.getElem?_eq_some_iff.1 h1).1
 simp only[Instr.next,getObj,Sem.run_bind,Sem.run,hi,hb,Result.andThen,next_test_false seen.toArray (Yt l) l.length l.length hold (Nat.le_refl _),Bool.false_eq_true,if_false]
 have hsp:=fun e he=>Zf1 (l:=l) (seen:=seen) (e:=e) he
 have hnn:=Zf0 (l:=l) (seen:=seen)
 unfold leftOf at hsp hnn
 have hmem:∀x∈(Array.filter (fun e=> !seen.toArray.contains e.born) (Yt l)).toList,x.born<l.length:=fun x hx=>hold x (by simp at hx ⊢;exact hx.1)
 generalize Array.filter (fun e=> !seen.toArray.contains e.born) (Yt l)=L at hmem hsp hnn ⊢
 have e1:L.filter (fun x=>decide (x.born<l.length))=L:=Array.filter_eq_self.2 (fun x hx=>by simpa using hmem x (by simpa using hx))
 have e2:L.filter (fun x=>decide (x.born≥l.length))= #[]:=by
  rw[Array.filter_eq_empty_iff]
  intro x hx
  have:=hmem x (by simpa using hx)
  simp
  omega
 simp only[e1,e2,Array.append_empty]
 by_cases h0:L.size=0
 ·left
  have:L= #[]:=Array.eq_empty_of_size_eq_zero h0
  refine⟨hnn h0,?_⟩
  subst this
  simp[choose,Sem.run,Question.forced]
 ·right
  have hne:L.isEmpty=false:=by simp[Array.isEmpty,h0]
  simp only[hne,Bool.false_eq_true,if_false,Array.empty_append,Array.size_map]
  have hch:∃(j:Nat) (w1:World),j<L.size∧(w1=w∨w1=w.drew)∧(choose (Question.mapNext L.size)).run P w= .ok j w1:=by
   by_cases hf:L.size≤1
   ·exact⟨0,w,by omega,.inl rfl,by simp[choose,Sem.run,Question.forced,hf]⟩
   ·exact⟨_,w.drew,Nat.mod_lt _ (by omega),.inr rfl,by
     simp only[choose,Sem.run,Question.forced,decide_eq_true_eq,hf,if_false,Question.cut]
     rfl⟩
  obtain⟨j,w1,hj,hal,hrun⟩:=hch
  obtain⟨i,s,f,g1,g2,g3⟩:=hsp L[j] (by simp)
  have hh1:w1.heap=w.heap:=by rcases hal with rfl|rfl<;>rfl
  refine⟨i,s,f,g1,g2,w1,hal,?_⟩
  have hset:∀o:Obj,(setObj bi o).run P w1= .ok () (ChangeMaps.setBlock w1 bi o):=fun o=>by
   simp only[setObj,Sem.run,hh1,hi]
   show Result.ok () ({w1 with heap:=w.heap.setIfInBounds bi o}:World)=_
   rw[←hh1]
   rfl
  simp only[hrun,Array.getElem?_map,Array.getElem?_eq_getElem hj,Option.map_some,Sem.run_bind,hset,Result.andThen,g3]
  simp[Sem.run_pure]
theorem Zh9{P:Program}{w:World}{bi bm:Nat}{l:List (List UInt8×Nat)}{seen:List Nat}(hi:w.heap[bi]? =some (.mapIter (some bm) l.length seen.toArray l.length))(hb:w.heap[bm]? =some (.map (Yt l) l.length))
 {i:Nat}{s:List UInt8}{f:Nat}(hl:seen.getLast? =some i)(hg:l[i]? =some (s,f)):(Instr.entry (.pointer (some ⟨bi,0,none⟩))).run P w= .ok (.tuple #[.string ⟨s.toArray⟩,.func (.func f) #[] #[]]) w:=by
 have hback:seen.toArray.back? =some i:=by rw[←hl];simp
 have hget:(Yt l).toList[i]? =some ⟨.string ⟨s.toArray⟩,.func (.func f) #[] #[],i⟩:=by
  unfold Yt;simp[List.getElem?_zipIdx,hg]
 have hn:((Yt l).toList.map (·.born)).Nodup:=by
  have:(Yt l).toList.map (·.born)=List.range l.length:=by
   unfold Yt
   simp only[List.map_map]
   apply List.ext_getElem?
   intro q
   simp only[List.getElem?_map,List.getElem?_zipIdx,Option.map_map]
   by_cases hq:q<l.length
   ·simp[hq]
   ·simp[hq]
  rw[this];exact List.nodup_range
 have hfind:(Yt l).find? (·.born==i)=some ⟨.string ⟨s.toArray⟩,.func (.func f) #[] #[],i⟩:=by
  rw[←Array.find?_toList];exact find_born ⟨.string ⟨s.toArray⟩,.func (.func f) #[] #[],i⟩ (Yt l).toList hn (List.mem_of_getElem? hget)
 simp only[Instr.entry,getObj,Sem.run_bind,Sem.run,hi,hb,Result.andThen,hback,bne_self_eq_false,Bool.false_eq_true,if_false,hfind]
 rfl
theorem Mem.newFm{c:Cx}{ρ:Env}{R:List (Nat×Res)}{nx:Nat}{w:World}(h:Mem c ρ R nx w):
 Mem c (Z9 ρ nx (.map (some w.heap.size))) ((nx,.fmap [])::R) (nx+1) (w.alloc (.map #[] 0)):=by
 have:=Mem.step (ρ':=Z9 ρ nx (.map (some w.heap.size))) (nx':=nx+1) (w':=w.alloc (.map #[] 0)) (ds:=[]) (m:=nx) (r:=.fmap []) (D:=[]) h
  (Zi ρ nx _) (by omega) (Y0 h.one rfl) rfl rfl rfl (by simp) (Tw w _) (by simp) (by omega) (.inr (Nat.le_refl _)) trivial
  (fun b hb=>by simp only[Res.block,Zm,Option.some.injEq]at hb;subst hb;exact⟨by simp,.inl (Nat.le_refl _)⟩)
  (fun O' _ _=>⟨w.heap.size,Zm _ _ _,heap_alloc_new w _,by simp,by simp⟩)
 rwa [Xj]at this
theorem Mem.updFm{c:Cx}{ρ:Env}{R:List (Nat×Res)}{nx:Nat}{w:World}(h:Mem c ρ R nx w){m:Nat}{P:Program}{t:TypeId}{l:List (List UInt8×Nat)}(hm:(m,Res.fmap l)∈R)(ht:Rt P t=true)
 (s:List UInt8)(f:Nat)(hs:s.length≤1000)(hn:(l.map Prod.fst).contains s=false):
 ∃w',(Instr.mapUpdate t (ρ m) (.string ⟨s.toArray⟩) (.func (.func f) #[] #[])).run P w= .ok () w'∧Mem c ρ (upd R m (.fmap (l++[(s,f)]))) nx w':=by
 obtain⟨b,hv,hb,hl,hd⟩:=h.res m _ hm
 have hn':s∉l.map Prod.fst:=by simpa using hn
 refine⟨_,by rw[hv];exact fm_upd ht hb hl hs hn',?_⟩
 refine h.rewrite (g:=b) hm (by simp[Res.block,hv]) (by simp[Res.block,hv]) rfl rfl rfl (by simp[ChangeMaps.setBlock]) (fun b' hb'=>ChangeMaps.heap_setBlock_other hb _ hb') trivial fun O'=> ?_
 refine⟨b,hv,by rw[List.length_append];exact ChangeMaps.heap_setBlock_same hb _,fun p hp=> ?_,?_⟩
 ·rcases List.mem_append.1 hp with hp|hp
  ·exact hl p hp
  ·simp only[List.mem_singleton]at hp;subst hp;exact hs
 ·rw[List.map_append,List.nodup_append]
  exact⟨hd,by simp,fun a ha b hb e=>by simp at hb;subst hb;exact hn' (e▸ha)⟩
theorem Mem.rngFm{c:Cx}{ρ:Env}{R:List (Nat×Res)}{nx:Nat}{w:World}(h:Mem c ρ R nx w){m:Nat}{P:Program}{t:TypeId}{l:List (List UInt8×Nat)}(hm:(m,Res.fmap l)∈R)(ht:Rt P t=true):
 ∃v w',(Instr.range t (ρ m)).run P w= .ok v w'∧Mem c (Z9 ρ nx v) ((nx,.fiter m l.length [])::R) (nx+1) w':=by
 obtain⟨b,hv,hb,hl,hd⟩:=h.res m _ hm
 obtain⟨K,E,ht,hK⟩:=O8 ht
 have hmn:=(h.bdr m _ hm).1
 refine⟨.pointer (some ⟨w.heap.size,0,none⟩),_,by rw[hv];exact run_range_map w t K E b _ _ ht hb,?_⟩
 have:=Mem.step (ρ':=Z9 ρ nx (.pointer (some ⟨w.heap.size,0,none⟩))) (nx':=nx+1) (w':=w.alloc (.mapIter (some b) l.length #[] l.length)) (ds:=[]) (m:=nx) (r:=.fiter m l.length []) (D:=[]) h
  (Zi ρ nx _) (by omega) (Y0 h.one rfl) rfl rfl rfl (by simp) (Tw w _) (by simp) (by omega) (.inr (Nat.le_refl _)) (show m<nx+1 by omega)
  (fun b hb=>by simp only[Res.block,Zm,Option.some.injEq]at hb;subst hb;exact⟨by simp,.inl (Nat.le_refl _)⟩)
  (fun O' _ _=>⟨w.heap.size,b,Zm _ _ _,by rw[Zi ρ nx _ m hmn];exact hv,heap_alloc_new w _⟩)
 rwa [Xj]at this
theorem Mem.nxtFm{c:Cx}{ρ:Env}{R:List (Nat×Res)}{nx:Nat}{w:World}(h:Mem c ρ R nx w){n m:Nat}{P:Program}{l:List (List UInt8×Nat)}{seen:List Nat}(hn:(n,Res.fiter m l.length seen)∈R)(hm:(m,Res.fmap l)∈R)(ty:TypeId):
 ((∀i,i<l.length→i∈seen)∧(Instr.next (ρ n) false ty).run P w= .ok (.tuple #[.bool false]) w)∨
 ∃i s f,l[i]? =some (s,f)∧i∉seen∧∃w',(Instr.next (ρ n) false ty).run P w= .ok (.tuple #[.bool true,.string ⟨s.toArray⟩,.func (.func f) #[] #[]]) w'∧Mem c ρ (upd R n (.fiter m l.length (seen++[i]))) nx w':=by
 obtain⟨b,hv,hb,hl,hd⟩:=h.res m _ hm
 obtain⟨bi,bm,h1,h2,h3⟩:=h.res n _ hn
 rw[hv]at h2
 cases h2
 rw[h1]
 rcases fm_next (P:=P) ty h3 hb with g|⟨i,s,f,g1,g2,w1,g3,g4⟩
 ·exact .inl g
 ·refine .inr ⟨i,s,f,g1,g2,_,g4,?_⟩
  have hm1:Mem c ρ R nx w1:=by
   rcases g3 with rfl|rfl
   ·exact h
   ·exact h.grow rfl rfl rfl (Nat.le_refl _) (fun b o hb _=>hb)
  have h3':w1.heap[bi]? =some (.mapIter (some b) l.length seen.toArray l.length):=by rcases g3 with rfl|rfl<;>exact h3
  refine hm1.rewrite (g:=bi) hn (by simp[Res.block,h1]) (by simp[Res.block,h1]) rfl rfl rfl (by simp[ChangeMaps.setBlock]) (fun b' hb'=>H2 w1 _ hb') (hm1.bdr _ _ hn).2 fun O'=> ?_
  exact⟨bi,b,h1,hv,Gn h3' _⟩
theorem Mem.named{c:Cx}{ρ:Env}{R:List (Nat×Res)}{nx:Nat}{w:World}(h:Mem c ρ R nx w){v:Value}(hv:v.oneCell'=true){r:Res}(hb:r.bd (nx+1))(hbl:r.block (Z9 ρ nx v) nx=none)
 (hr:∀O',(∀b∈O',b∈Zp ρ R)→r.holds (Z9 ρ nx v) O' nx w):Mem c (Z9 ρ nx v) ((nx,r)::R) (nx+1) w:=by
 have:=Mem.step (ρ':=Z9 ρ nx v) (nx':=nx+1) (w':=w) (ds:=[]) (m:=nx) (r:=r) (D:=[]) h
  (Zi ρ nx _) (by omega) (Y0 h.one hv) rfl rfl rfl (Nat.le_refl _) (fun b o hb _=>hb) (by simp) (by omega) (.inr (Nat.le_refl _)) hb
  (fun b hb=>by rw[hbl]at hb;cases hb)
  (fun O' hO _=>hr O' fun b hb=>by
    rcases hO b hb with h1|h1
    ·rw[Xj]at h1;exact h1
    ·rw[hbl]at h1;cases h1)
 rwa [Xj]at this
theorem H6{c:Cx}{S:St}{ρ:Env}{a:Act}{w:World}(hh:S.holds c ρ a w){sz m m0 lo hi:Nat}{g:Prop}(h:H5 S sz m=some (g,m0,lo,hi))(hg:g):
 ∃ad len cap ad',ρ m0= .slice ad len cap∧ρ m= .slice ad' (hi-lo) (cap-lo)∧hi≤cap∧lo≤hi∧m0<S.nx∧(lo<cap→ad'=ad.map (·.add (lo*sz)))∧(ad=none→hi=0)∧(lo<hi→∀x,ad'=some x→x.spot=none):=by
 unfold H5 at h
 split at h
 ·rename_i m' z lo' hi' hf
  split at h
  ·rename_i hz
   split at h
   ·rename_i e he
    cases h
    obtain⟨ad,cap,g1,g2,g3,g4⟩:=Ox hh he
    obtain⟨ad1,len1,cap1,ad',v1,v2,v3,v4⟩:=hh.mem.res m _ (Zg hf)
    rw[g1]at v1;cases v1
    exact⟨ad,e,cap,ad',g1,v2,by omega,v3.1,(hh.mem.bdr m _ (Zg hf)).2,by rw[hz];exact v4.2,(fun h=>by have:=g4 h;omega),v4.1⟩
   ·cases h
  ·cases h
 ·split at h
  ·rename_i e he
   cases h
   obtain⟨ad,cap,g1,g2,g3,g4⟩:=Ox hh he
   have hmn:m<S.nx:=by
    unfold lenOf at he
    split at he
    ·rename_i hf;exact(hh.mem.bdr m _ (Zg hf)).1
    ·rename_i hf;exact(hh.mem.bdr m _ (Zg hf)).1
    ·rename_i hf;exact(hh.mem.bdr m _ (Zg hf)).1
    ·cases he
   refine⟨ad,hi,cap,ad,g1,by simpa using g1,g2,Nat.zero_le _,hmn,fun _=> ?_,g4,g3⟩
   cases ad with
   |none=>rfl
   |some x=>simp[Addr.add]
  ·cases h
theorem Gw{P:Program}(k:IntKind)(n:Int)(y:Nat)(code:BoundsCode)(w:World)(h:0≤n∧n≤y):(Instr.sliceBound (.int k n) y code).run P w= .ok n.toNat w:=by
 unfold Instr.sliceBound
 simp only[asIntOf,Sem.run_bind,Sem.run_pure,Result.andThen_ok,h,and_self,if_true]
theorem sl_run{P:Program}{t e:TypeId}{i:TypeInfo}(ht:P.underlying t=some (.slice e))(hj:P.info? e=some i)(a:Option Addr)(len cap:Nat)(lo hi:Option Value)(l h:Nat)(w:World)
 (hlo:(lo=none∧l=0)∨∃k,lo=some (.int k (l:Int)))(hhi:(hi=none∧h=len)∨∃k,hi=some (.int k (h:Int)))(h1:l≤h)(h2:h≤cap):
 (Instr.slice t (.slice a len cap) lo hi none).run P w= .ok (.slice (if cap=l then a else a.map (·.add (l*i.size))) (h-l) (cap-l)) w:=by
 have hb:∀(y:Nat) (code:BoundsCode),h≤y→∀k,(Instr.sliceBound (.int k (h:Int)) y code).run P w= .ok h w:=fun y code hy k=>by
  rw[Gw k _ y code w (by omega)];simp
 have lb:∀(y:Nat) (code:BoundsCode),l≤y→∀k,(Instr.sliceBound (.int k (l:Int)) y code).run P w= .ok l w:=fun y code hy k=>by
  rw[Gw k _ y code w (by omega)];simp
 have hbounds:(Instr.sliceBounds true len cap lo hi none).run P w= .ok (l,h,cap) w:=by
  unfold Instr.sliceBounds
  rcases hlo with⟨rfl,rfl⟩|⟨k1,rfl⟩<;>rcases hhi with⟨rfl,rfl⟩|⟨k2,rfl⟩
  ·simp[Sem.run_bind,Sem.run_pure]
  ·simp[Sem.run_bind,Sem.run_pure,hb cap _ h2]
  ·simp[Sem.run_bind,Sem.run_pure,lb _ _ h1]
  ·simp[Sem.run_bind,Sem.run_pure,hb cap _ h2,lb _ _ h1]
 unfold Instr.slice
 simp only[Sem.run_bind,run_underlying ht,Result.andThen_ok,hbounds,sizeOf,typeInfo,program,Sem.run,hj,Sem.run_pure]
theorem St.holds.newView{S:St}{c:Cx}{ρ:Env}{a:Act}{w:World}(hh:S.holds c ρ a w){t e:TypeId}{i:TypeInfo}(ht:c.P.underlying t=some (.slice e))(hi:c.P.info? e=some i){m m0 lo hi':Nat}{g:Prop}
 (h:H5 S i.size m=some (g,m0,lo,hi'))(hg:g)(lv hv:Option Value)(l q:Nat)(hl:(lv=none∧l=0)∨∃k,lv=some (.int k (l:Int)))(hq:(hv=none∧q=hi'-lo)∨∃k,hv=some (.int k (q:Int)))(h1:l≤q)(h2:q+lo≤hi'):
 ∃v,(Instr.slice t (ρ m) lv hv none).run c.P w= .ok v w∧Mem c (Z9 ρ S.nx v) ((S.nx,.view m0 i.size (lo+l) (lo+q))::S.res) (S.nx+1) w:=by
 obtain⟨ad,len,cap,ad',g1,g2,g3,g4,g5,g6,g8,g9⟩:=H6 hh h hg
 rw[g2]
 refine⟨_,sl_run ht hi ad' (hi'-lo) (cap-lo) lv hv l q w hl hq h1 (by omega),?_⟩
 refine hh.mem.named rfl (show m0<S.nx+1 by omega) rfl fun O' _=> ?_
 refine⟨ad,len,cap,_,by rw[Zi ρ S.nx _ m0 g5];exact g1,by rw[Zm];congr 1<;>omega,by omega,fun hlo x hx=> ?_,fun hlt=> ?_⟩
 ·split at hx
  ·exact g9 (by omega) x hx
  ·cases ad' with
   |none=>cases hx
   |some y=>
    have hy:=g9 (by omega) y rfl
    obtain⟨yb,yo,ys⟩:=y
    simp only at hy;subst hy
    simp only[Option.map_some,Option.some.injEq,Addr.add_lit]at hx
    subst hx;rfl
 rw[if_neg (by omega),g6 (by omega)]
 cases ad with
 |none=>rfl
 |some x=>simp only[Option.map_some,Addr.add_add,Nat.add_mul]
theorem Mem.rou_cell{c:Cx}{ρ:Env}{R:List (Nat×Res)}{nx:Nat}{w:World}(h:Mem c ρ R nx w){m:Nat}{l:List (List UInt8×List Ln)}(hm:(m,Res.rou l)∈R){i:Nat}(hi:i<l.length):
 ∃ad cap a1 cap1,ρ m= .slice (some ad) l.length cap∧w.cell? ⟨ad.block,ad.off+i*2,none⟩=some (.string ⟨(l.getD i ([],[])).1.toArray⟩)∧w.cell? ⟨ad.block,ad.off+(i*2+1),none⟩=some (.slice a1 (l.getD i ([],[])).2.length cap1)∧
  (l.getD i ([],[])).2.length≤cap1∧Te w (Zp ρ R) 0 a1 (l.getD i ([],[])).2:=by
 obtain⟨a',cap,ha,hnil,hc⟩:=h.res m _ hm
 cases a' with
 |none=>have:=hnil rfl;rw[this]at hi;simp at hi
 |some ad=>
  obtain⟨h1,a1,cap1,h2,h3⟩:=(hc ad rfl).2 i (l.getD i ([],[])) (by simp[List.getD,hi])
  exact⟨ad,cap,a1,cap1,ha.1,h1.1,h2.1.1,h2.2,h3⟩
theorem Mem.nameLines{c:Cx}{ρ:Env}{R:List (Nat×Res)}{nx:Nat}{w:World}(h:Mem c ρ R nx w){a1:Option Addr}{ls:List Ln}{cap1:Nat}(hcap:ls.length≤cap1)(hl:Te w (Zp ρ R) 0 a1 ls):
 Mem c (Z9 ρ nx (.slice a1 ls.length cap1)) ((nx,.ro .line ls)::R) (nx+1) w:=by
 refine h.named rfl trivial rfl fun O' hO=> ?_
 refine⟨a1,cap1,⟨Zm _ _ _,hcap⟩,hl.1,fun ad had=>⟨(hl.2 ad had).1,fun i x hx j u hu=> ?_⟩⟩
 obtain⟨h1,h2,_⟩:=(hl.2 ad had).2 i x hx j u hu
 exact⟨by rw[Kd.enc_at .line x (fun _=>Yz) _ hu];exact h1,fun hm=>h2 (hO _ hm)⟩
def Zhk(w:World)(O:List Nat)(ρ:Env)(v:Value)(l:List (List UInt8×List Ln))(us:List Unt)(ad:Option Addr)(cap:Nat):Prop:=
 us.length=l.length∧v= .slice ad us.length cap∧(ad=none→us=[])∧(∀b,ad=some b→∀j x,((us.flatMap Kd.unt.enc).map (At.den ρ))[j]? =some x→w.cell? (b.add j)=some x)∧
  ∀(i:Nat) (u:Unt) (x:List UInt8×List Ln),us[i]? =some u→l[i]? =some x→u.name=x.1∧(u.ln=x.2.length∧u.ln≤u.lc)∧Te w O 0 u.la x.2
theorem rou_src{c:Cx}{ρ:Env}{R:List (Nat×Res)}{nx:Nat}{w:World}(h:Mem c ρ R nx w){m:Nat}{l:List (List UInt8×List Ln)}(hm:(m,Res.rou l)∈R):∃us ad cap,Zhk w (Zp ρ R) ρ (ρ m) l us ad cap:=by
 obtain⟨ad,cap,ha,hnil,hc⟩:=h.res m _ hm
 cases ad with
 |none=>
  have:=hnil rfl
  subst this
  exact⟨[],none,cap,rfl,ha.1,fun _=>rfl,(fun b hb=>by cases hb),(fun i u x hu=>by simp at hu)⟩
 |some b=>
  have hex:∀i:Nat,∃u:Unt,∀x,l[i]? =some x→(w.cell? ⟨b.block,b.off+i*2,none⟩=some (.string ⟨u.name.toArray⟩)∧w.cell? ⟨b.block,b.off+(i*2+1),none⟩=some (.slice u.la u.ln u.lc))∧u.name=x.1∧(u.ln=x.2.length∧u.ln≤u.lc)∧Te w (Zp ρ R) 0 u.la x.2:=fun i=>by
   cases hx:l[i]? with
   |none=>exact⟨⟨[],none,0,0⟩,fun x hx'=>by cases hx'⟩
   |some x=>
    obtain⟨h1,a1,cap1,h2,h3⟩:=(hc b rfl).2 i x hx
    exact⟨⟨x.1,a1,x.2.length,cap1⟩,fun x' hx'=>by cases hx';exact⟨⟨h1.1,h2.1.1⟩,rfl,⟨rfl,h2.2⟩,h3⟩⟩
  obtain⟨f,hf⟩:=Classical.axiomOfChoice hex
  refine⟨(List.range l.length).map f,some b,cap,by simp,by rw[List.length_map,List.length_range];exact ha.1,(fun h=>by cases h),fun b' hb' j x hx=> ?_,fun i u x hu hx=> ?_⟩
  ·cases hb'
   have hj:j<l.length*2:=by
    have:=(List.getElem?_eq_some_iff.1 hx).1
    rw[List.length_map,Kd.encs_length]at this
    simpa using this
   have hq:j/2<l.length:=by omega
   have hsp:=(hc b rfl).1 (fun e=>by rw[e]at hq;simp at hq)
   have hu:((List.range l.length).map f)[j/2]? =some (f (j/2)):=by simp[hq]
   have hg:=Kd.encs_get .unt _ (j/2) (j%2) _ hu (Nat.mod_lt _ (by decide))
   rw[show j/2*Kd.unt.sz+j%2=j from by show j/2*2+j%2=j;omega]at hg
   rw[List.getElem?_map,hg]at hx
   obtain⟨⟨k1,k2⟩,_⟩:=hf (j/2) _ (List.getElem?_eq_getElem hq)
   obtain⟨bb,bo,bs⟩:=b
   simp only at hsp;subst hsp
   rw[Addr.add_lit]
   rcases Nat.mod_two_eq_zero_or_one j with e|e
   ·rw[e]at hx
    simp only[Kd.enc,List.getElem?_cons_zero,Option.map_some,Option.some.injEq,At.den]at hx
    rw[←hx,show j=j/2*2 from by omega]
    simpa using k1
   ·rw[e]at hx
    simp only[Kd.enc,List.getElem?_cons_succ,List.getElem?_cons_zero,Option.map_some,Option.some.injEq,At.den]at hx
    rw[←hx,show bo+j=bo+(j/2*2+1)from by omega]
    exact k2
  ·have hi:i<l.length:=(List.getElem?_eq_some_iff.1 hx).1
   have:u=f i:=by simpa[hi,eq_comm]using hu
   subst this
   exact(hf i x hx).2
theorem Zac{S:St}{c:Cx}{ρ:Env}{a:Act}{w:World}(h:S.holds c ρ a w){u:S1}{l:List (List UInt8×List Ln)}{ds:List Nat}(hu:Sp S u=some (l,ds)):∃us ad cap,Zhk w (Zp ρ S.res) ρ (u.den ρ) l us ad cap:=by
 unfold Sp at hu
 split at hu
 ·rename_i m
  split at hu
  ·rename_i l0 hf
   cases hu
   exact rou_src h.mem (Zg hf)
  ·rename_i E s r hf
   split at hu
   ·rename_i ls hf2
    cases hu
    obtain⟨b,hv,hlen,hb⟩:=h.mem.res m _ (Zg hf)
    obtain⟨ad,cap,ha,hnil,hc⟩:=h.mem.res r _ (Zg hf2)
    refine⟨[⟨s,ad,ls.length,cap⟩],some ⟨b,0,none⟩,1,rfl,hv,(fun h=>by cases h),fun b' hb' j x hx=> ?_,fun i u x hu hx=> ?_⟩
    ·cases hb'
     rw[Addr.add_lit,cell_of_row w b _ _ E (0,0) hb,Nat.zero_add]
     simp only[List.flatMap_cons,List.flatMap_nil,List.append_nil,Kd.enc,List.map_cons,List.map_nil,At.den,←ha.1]at hx ⊢
     simpa using hx
    ·cases i with
     |succ i=>simp at hu
     |zero=>
      simp only[List.getElem?_cons_zero,Option.some.injEq]at hu hx
      subst hu;subst hx
      exact⟨rfl,⟨rfl,ha.2⟩,hnil,fun ad1 had1=>⟨(hc ad1 had1).1,fun j y hy q u hu=>by
       obtain⟨g1,g2⟩:=(hc ad1 had1).2 j y hy q u hu
       rw[Kd.enc_at .line y ρ (fun _=>Yz) hu]
       exact⟨g1,g2,Nat.zero_le _⟩⟩⟩
   ·cases hu
  ·cases hu
 ·cases hu
theorem St.holds.appUnits{S:St}{c:Cx}{ρ:Env}{a:Act}{w:World}(h:S.holds c ρ a w){m E:Nat}{r0:Res}(hm:(m,r0)∈S.res)(hr0:r0.block ρ m=(ρ m).ownBlock){l:List (List UInt8×List Ln)}{us0:List Unt}(h0:us0.length=l.length)
 (hown:w.ownsRow 0 E Kd.unt.sz (ρ m) us0.length ((us0.flatMap Kd.unt.enc).map (At.den ρ)))
 (hl0:∀(i:Nat) (u:Unt) (x:List UInt8×List Ln),us0[i]? =some u→l[i]? =some x→u.name=x.1∧(u.ln=x.2.length∧u.ln≤u.lc)∧Te w (Zp ρ S.res) 0 u.la x.2)
 {T ty:TypeId}{i:TypeInfo}{z:Value}
 (ht:c.P.underlying T=some (.slice E))(hi:c.P.info? E=some i)(hz:i.zero=some z)(hzs:z.cells.size=i.size)(hsz:i.size=2)
 {u:S1}{l':List (List UInt8×List Ln)}{ds:List Nat}(ha:Sp S u=some (l',ds))
 (hby:(l.length+l'.length)*i.bytes≤140737488355328∧l.length+l'.length≤4611686018427387904):
 ∃v w',(Builtin.append_ #[T,T] ty #[(S1.a (.ref m)).den ρ,u.den ρ]).run c.P w= .ok v w'∧
  Mem c (Z9 ρ S.nx v) ((S.nx,.urow 0 E (l++l'))::del S.res (m::ds)) (S.nx+1) w':=by
 obtain⟨us,ad,cap,hlen,hu,hnil,hcell,hl1⟩:=Zac h ha
 have key:=Pm (ty:=ty) (cap:=cap) (k:=.unt) (l':=us) ht hi hz hzs hsz hown hnil hcell (by rw[h0,hlen];exact hby)
 obtain⟨v,w',hrun,hown',hgrown,hblk⟩:=key
 refine⟨v,w',by rw[hu];exact hrun,?_⟩
 have hvone:v.oneCell'=true:=by rcases hown'.2 with⟨hv,_⟩|⟨g,cp,cur,hv,_⟩<;>rw[hv]<;>rfl
 have hk:Rg (ρ m).ownBlock.toList w w':=by
  intro b o hb hbD
  rw[hgrown.block b (Array.getElem?_eq_some_iff.1 hb).1 (fun e=>hbD (by rw[←e];simp))]
  exact hb
 have hDm:∀b∈(ρ m).ownBlock.toList,r0.block ρ m=some b:=fun b hb=>by
  have hb':(ρ m).ownBlock=some b:=by simpa using hb
  rw[hr0];exact hb'
 refine Mem.step (D:=(ρ m).ownBlock.toList) h.mem (Zi ρ S.nx v) (by omega) (Y0 h.mem.one hvone) hgrown.os hgrown.tape hgrown.output hgrown.size hk (fun b hb=>⟨m,_,hm,by simp,hDm b hb⟩) (by omega) (.inr (Nat.le_refl _)) trivial ?_ ?_
 ·intro b hb
  simp only[Res.block,Zm]at hb
  refine⟨(World.ownsRow.lt hown' b hb).2,?_⟩
  rcases hblk b hb with h1|h1
  ·exact .inl h1
  ·exact .inr ⟨m,_,hm,by simp,by rw[hr0];exact h1⟩
 ·intro O' hO' _
  have hD:∀b∈(ρ m).ownBlock.toList,b∈Zp ρ S.res:=fun b hb=>List.mem_filterMap.2 ⟨(m,r0),hm,hDm b hb⟩
  have hOO:∀b∈O',b∈Zp ρ S.res∨w.heap.size≤b:=fun b hb=>by
   rcases hO' b hb with h1|h1
   ·exact .inl (X6 b h1)
   ·simp only[Res.block,Zm]at h1
    rcases hblk b h1 with h2|h2
    ·exact .inr h2
    ·exact .inl (hD b (by simp[h2]))
  refine⟨us0++us,by simp[h0,hlen],?_,fun i u x hu hx=> ?_⟩
  ·simp only[Zm,List.length_append,List.flatMap_append,List.map_append]
   rw[Kd.encs_den .unt us0 ρ (fun _=>Yz),Kd.encs_den .unt us ρ (fun _=>Yz)]at*
   exact hown'
  ·by_cases hlt:i<us0.length
   ·rw[List.getElem?_append_left hlt]at hu
    rw[List.getElem?_append_left (by omega)]at hx
    obtain⟨g1,g2,g3⟩:=hl0 i u x hu hx
    exact⟨g1,g2,g3.carry hk hD hOO⟩
   ·rw[List.getElem?_append_right (by omega)]at hu
    rw[List.getElem?_append_right (by omega),←h0]at hx
    obtain⟨g1,g2,g3⟩:=hl1 _ u x hu hx
    exact⟨g1,g2,g3.carry hk hD hOO⟩
theorem Zdl{S:St}{u:S1}{s:List UInt8}{ls:List Ln}{q r:Nat}(h:Ja S u=some (s,ls,q,r)):u= .a (.ref q)∧∃E3 E2,S.find q=some (.lit E3 2 1 [.str s,.ref r])∧S.find r=some (.row E2 .line ls):=by
 unfold Ja at h
 split at h
 ·rename_i q0
  split at h
  ·rename_i E s0 r0 hf
   split at h
   ·rename_i E2 ls0 hf2
    cases h
    exact⟨rfl,E,E2,hf,hf2⟩
   ·cases h
  ·cases h
 ·cases h
theorem St.holds.appUnitR{S:St}{c:Cx}{ρ:Env}{a:Act}{w:World}(h:S.holds c ρ a w){m E base:Nat}{l:List (List UInt8×List Ln)}(hm:(m,.urow base E l)∈S.res)(hbase:base=0∨base=c.w0.heap.size∧c.X=[])
 {T ty:TypeId}{i:TypeInfo}{z:Value}
 (ht:c.P.underlying T=some (.slice E))(hi:c.P.info? E=some i)(hz:i.zero=some z)(hzs:z.cells.size=i.size)(hsz:i.size=2)
 {u:S1}{s:List UInt8}{ls:List Ln}{q r:Nat}(ha:Ja S u=some (s,ls,q,r))(hrm:¬r=m)
 (hby:(l.length+1)*i.bytes≤140737488355328∧l.length+1≤4611686018427387904):
 ∃v w',(Builtin.append_ #[T,T] ty #[(S1.a (.ref m)).den ρ,u.den ρ]).run c.P w= .ok v w'∧
  Mem c (Z9 ρ S.nx v) ((S.nx,.urow base E (l++[(s,ls)]))::del S.res [m,q,r]) (S.nx+1) w':=by
 obtain⟨hue,E3,E2,hq,hr⟩:=Zdl ha
 subst hue
 obtain⟨us0,h0,hown,hl0⟩:=h.mem.res m _ hm
 obtain⟨bq,hvq,hlenq,hbq⟩:=h.mem.res q _ (Zg hq)
 have hrow:w.ownsRow 0 E2 Kd.line.sz (ρ r) ls.length ((ls.flatMap Kd.line.enc).map (At.den ρ)):=h.mem.res r _ (Zg hr)
 obtain⟨ad,cap,hra,hrnil,hrc⟩:∃a cap,(ρ r= .slice a ls.length cap∧ls.length≤cap)∧(a=none→ls=[])∧∀ad:Addr,a=some ad→(ls≠[]→ad.spot=none)∧∀(j:Nat) (y:Ln),ls[j]? =some y→∀(q:Nat) (u:At),(Kd.line.enc y)[q]? =some u→
  w.cell? ⟨ad.block,ad.off+(j*6+q),none⟩=some (u.den fun _=>Yz)∧(ad.block∈Zp ρ S.res∧Res.block ρ r (.row E2 .line ls)=some ad.block):=by
  rcases hrow.2 with⟨hv,hn⟩|⟨g,cap,cur,hv,_,hh,hn,hcap,hcur,htake⟩
  ·have:ls=[]:=List.eq_nil_of_length_eq_zero hn
   subst this
   exact⟨none,0,⟨hv,Nat.le_refl _⟩,fun _=>rfl,fun ad had=>by cases had⟩
  ·refine⟨some ⟨g,0,none⟩,cap,⟨hv,hn⟩,(fun h=>by cases h),fun ad had=> ?_⟩
   cases had
   have hblk:Res.block ρ r (.row E2 .line ls)=some g:=by simp[Res.block,hv,Value.ownBlock]
   refine⟨fun _=>rfl,fun j y hy q1 u hu=>⟨?_,List.mem_filterMap.2 ⟨(r,_),Zg hr,hblk⟩,hblk⟩⟩
   have hj:q1<Kd.line.sz:=by rw[←Kd.enc_length .line y];exact(List.getElem?_eq_some_iff.1 hu).1
   have hc:((ls.flatMap Kd.line.enc).map (At.den ρ))[j*Kd.line.sz+q1]? =some (u.den ρ):=by rw[List.getElem?_map,Kd.line.encs_get ls j q1 y hy hj,hu];rfl
   have e6:Kd.line.sz=6:=rfl
   rw[e6]at hc
   rw[cell_of_row w g _ cur E2 (0,0) hh,Nat.zero_add]
   rw[←htake,List.getElem?_take]at hc
   have hud:u.den (fun _=>Yz)=u.den ρ:=Kd.enc_at .line y ρ (fun _=>Yz) hu
   rw[hud]
   split at hc
   ·simpa using hc
   ·cases hc
 have hown2:w.ownsRow 0 E Kd.unt.sz (ρ m) us0.length ((us0.flatMap Kd.unt.enc).map (At.den ρ)):=by rw[Kd.encs_den .unt us0 (fun _=>Yz) ρ];exact hown
 have hlen:us0.length=l.length:=h0
 have hu:(S1.a (.ref q)).den ρ= .slice (some ⟨bq,0,none⟩) 1 1:=hvq
 have key:=Pm (ty:=ty) (cap:=1) (k:=.unt) (l':=[⟨s,ad,ls.length,cap⟩]) (ad:=some ⟨bq,0,none⟩) ht hi hz hzs hsz hown2 (fun h=>by cases h) (fun b' hb' j x hx=>by
  cases hb'
  rw[Addr.add_lit,cell_of_row w bq _ _ E3 (0,0) hbq,Nat.zero_add]
  simp only[List.flatMap_cons,List.flatMap_nil,List.append_nil,Kd.enc,List.map_cons,List.map_nil,At.den,←hra.1]at hx ⊢
  simpa using hx) (by rw[hlen];exact hby)
 obtain⟨v,w',hrun,hown',hgrown,hblk⟩:=key
 refine⟨v,w',by rw[hu];exact hrun,?_⟩
 have hvone:v.oneCell'=true:=by rcases hown'.2 with⟨hv,_⟩|⟨g,cp,cur,hv,_⟩<;>rw[hv]<;>rfl
 have hk:Rg (ρ m).ownBlock.toList w w':=by
  intro b o hb hbD
  rw[hgrown.block b (Array.getElem?_eq_some_iff.1 hb).1 (fun e=>hbD (by rw[←e];simp))]
  exact hb
 have hDm:∀b∈(ρ m).ownBlock.toList,Res.block ρ m (.urow base E l)=some b:=fun b hb=>by
  have hb':(ρ m).ownBlock=some b:=by simpa using hb
  exact hb'
 have hD:∀b∈(ρ m).ownBlock.toList,b∈Zp ρ S.res:=fun b hb=>List.mem_filterMap.2 ⟨(m,_),hm,hDm b hb⟩
 refine Mem.step (D:=(ρ m).ownBlock.toList) h.mem (Zi ρ S.nx v) (by omega) (Y0 h.mem.one hvone) hgrown.os hgrown.tape hgrown.output hgrown.size hk (fun b hb=>⟨m,_,hm,by simp,hDm b hb⟩) (by omega) (.inr (Nat.le_refl _)) trivial ?_ ?_
 ·intro b hb
  simp only[Res.block,Zm]at hb
  refine⟨(World.ownsRow.lt hown' b hb).2,?_⟩
  rcases hblk b hb with h1|h1
  ·exact .inl h1
  ·exact .inr ⟨m,_,hm,by simp,h1⟩
 ·intro O' hO' _
  have hOO:∀b∈O',b∈Zp ρ S.res∨w.heap.size≤b:=fun b hb=>by
   rcases hO' b hb with h1|h1
   ·exact .inl (X6 b h1)
   ·simp only[Res.block,Zm]at h1
    rcases hblk b h1 with h2|h2
    ·exact .inr h2
    ·exact .inl (hD b (by simp[h2]))
  have hrO:∀b,b∈Zp ρ S.res→Res.block ρ r (.row E2 .line ls)=some b→b∉O':=fun b hb hbr hbO=>by
   have hnr:=Yh (ds:=[m,q,r]) h.mem.keys h.mem.nodup (Zg hr) (by simp) hbr
   rcases hO' b hbO with h1|h1
   ·exact hnr h1
   ·simp only[Res.block,Zm]at h1
    rcases hblk b h1 with h2|h2
    ·have:=(h.mem.lt b hb).1;omega
    ·have hnr2:=Yh (ds:=[r]) h.mem.keys h.mem.nodup (Zg hr) (by simp) hbr
     exact hnr2 (List.mem_filterMap.2 ⟨(m,_),List.mem_filter.2 ⟨hm,by simpa using fun e:m=r=>hrm e.symm⟩,h2⟩)
  refine⟨us0++[⟨s,ad,ls.length,cap⟩],by simp[hlen],?_,fun i u x hu hx=> ?_⟩
  ·simp only[Zm,List.length_append,List.flatMap_append,List.map_append]
   rw[Kd.encs_den .unt us0 ρ (fun _=>Yz),Kd.encs_den .unt [⟨s,ad,ls.length,cap⟩] ρ (fun _=>Yz)]
   exact hown'
  ·by_cases hlt:i<us0.length
   ·rw[List.getElem?_append_left hlt]at hu
    rw[List.getElem?_append_left (by omega)]at hx
    obtain⟨g1,g2,g3⟩:=hl0 i u x hu hx
    exact⟨g1,g2,g3.carry hk hD hOO⟩
   ·rw[List.getElem?_append_right (by omega)]at hu
    rw[List.getElem?_append_right (by omega),←hlen]at hx
    cases hi0:i-us0.length with
    |succ i'=>rw[hi0]at hu;simp at hu
    |zero=>
     rw[hi0]at hu hx
     simp only[List.getElem?_cons_zero,Option.some.injEq]at hu hx
     subst hu;subst hx
     refine⟨rfl,⟨rfl,hra.2⟩,hrnil,fun ad1 had1=>⟨(hrc ad1 had1).1,fun j y hy q' u hu=> ?_⟩⟩
     obtain⟨g1,g2,g3⟩:=(hrc ad1 had1).2 j y hy q' u hu
     refine⟨Po hk g1 fun hb=> ?_,hrO _ g2 g3,?_⟩
     ·have hnr2:=Yh (ds:=[r]) h.mem.keys h.mem.nodup (Zg hr) (by simp) g3
      exact hnr2 (List.mem_filterMap.2 ⟨(m,_),List.mem_filter.2 ⟨hm,by simpa using fun e:m=r=>hrm e.symm⟩,hDm _ hb⟩)
     ·rcases hbase with hbase|⟨hbase,hX⟩
      ·rw[hbase];exact Nat.zero_le _
      rw[hbase]
      rcases(h.mem.lt _ g2).2 with h1|h1
      ·exact h1
      ·rw[hX]at h1;cases h1
theorem St.holds.lit0{S:St}{c:Cx}{ρ:Env}{a:Act}{w:World}(h:S.holds c ρ a w){m E:Nat}(hf:S.find m=some (.lit E 2 0 [])):w.ownsRow 0 E Kd.unt.sz (ρ m) 0 []:=by
 have:=(h.mem.litRow (Zg hf) .unt [] rfl rfl rfl (by decide)).res m (.row E .unt []) (by simp[upd])
 exact this
theorem Mem.urow_own{c:Cx}{ρ:Env}{R:List (Nat×Res)}{nx:Nat}{w:World}(h:Mem c ρ R nx w){m base E:Nat}{l:List (List UInt8×List Ln)}(hm:(m,Res.urow base E l)∈R):∃us:List Unt,us.length=l.length∧w.ownsRow 0 E Kd.unt.sz (ρ m) us.length ((us.flatMap Kd.unt.enc).map (At.den ρ))∧
 ∀(i:Nat) (u:Unt) (x:List UInt8×List Ln),us[i]? =some u→l[i]? =some x→u.name=x.1∧(u.ln=x.2.length∧u.ln≤u.lc)∧Te w (Zp ρ R) 0 u.la x.2:=by
 obtain⟨us,h1,h2,h3⟩:=h.res m _ hm
 refine⟨us,h1,by rw[Kd.encs_den .unt us (fun _=>Yz) ρ];exact h2,fun i u x hu hx=> ?_⟩
 obtain⟨g1,g2,g3⟩:=h3 i u x hu hx
 exact⟨g1,g2,g3.1,fun ad1 had1=>⟨(g3.2 ad1 had1).1,fun j y hy q v hv=>let⟨k1,k2,_⟩:=(g3.2 ad1 had1).2 j y hy q v hv;⟨k1,k2,Nat.zero_le _⟩⟩⟩
end Vc
end Go.Proofs.YtddmlennnmpnhaaGreatDoor
