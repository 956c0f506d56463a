/- A part of the proofs of this seat's laws: steps on the way, joined. It has no conditions of its own. -/
import Derived.Test.YtddmlennnmpnhaaGreatDoorQl
import Derived.Test.YtddmlennnmpnhaaGreatDoorQj
import Derived.Test.YtddmlennnmpnhaaGreatDoorQk
namespace Go.Proofs.YtddmlennnmpnhaaGreatDoor
open Go Go.RowKit Vc
set_option linter.unusedVariables false
set_option linter.unusedSimpArgs false
attribute [local irreducible] T Za Zn Ent RdC RwC Yd Ze Zh
def mcs(f:Nat→Int)(t:List At):List At:=((List.range 8).map fun i=>At.int .i64 (f i))++t
def Q9(f:Nat→Int)(o:Nat)(x:Int):Nat→Int:=fun i=>if i=o then x else f i
theorem Eu{f:Nat→Int}{t:List At}{o:Nat}(h:o<8):(mcs f t)[o]? =some (.int .i64 (f o)):=by
 unfold mcs;rw[List.getElem?_append_left (by simpa using h)];simp[h]
theorem Et{f:Nat→Int}{t:List At}{o:Nat}(h:8≤o):(mcs f t)[o]? =t[o-8]? :=by
 unfold mcs;rw[List.getElem?_append_right (by simpa using h)];simp
theorem Jr{f:Nat→Int}{t:List At}:(mcs f t).length=8+t.length:=by simp[mcs]
theorem Bq{f:Nat→Int}{t:List At}{o:Nat}(h:8≤o):(mcs f t).take o=mcs f (t.take (o-8)):=by
 unfold mcs;rw[List.take_append,List.take_of_length_le (by simpa using h)];simp
theorem Hb{f:Nat→Int}{t:List At}{o:Nat}(h:8≤o):(mcs f t).drop o=t.drop (o-8):=by
 unfold mcs;rw[List.drop_append,List.drop_of_length_le (by simpa using h)];simp
theorem Zel{f:Nat→Int}{a b:List At}:mcs f a++b=mcs f (a++b):=by simp[mcs]
theorem Ew{f:Nat→Int}{t:List At}{o:Nat}{x:Int}(h:o<8):(mcs f t).take o++[.int .i64 x]++(mcs f t).drop (o+1)=mcs (Q9 f o x) t:=by
 have e:mcs (Q9 f o x) t=(mcs f t).set o (.int .i64 x):=by
  apply List.ext_getElem?
  intro i
  rw[List.getElem?_set]
  by_cases hi:i<8
  ·rw[Eu hi]
   by_cases he:o=i
   ·subst he;rw[if_pos rfl,if_pos (by rw[Jr];omega)];simp[Q9]
   ·rw[if_neg he,Eu hi];simp[Q9,Ne.symm he]
  ·rw[Et (by omega),if_neg (by omega),Et (by omega)]
 rw[e,List.set_eq_take_append_cons_drop,if_pos (by rw[Jr];omega)];simp
theorem Bp{f:Nat→Int}{t:List At}{x:Int}:(mcs f t).take 7++[.int .i64 x]++t=mcs (Q9 f 7 x) t:=by
 have h:=Ew (f:=f) (t:=t) (o:=7) (x:=x) (by decide)
 rw[Hb (by decide)]at h
 exact h
theorem Ex{f:Nat→Int}{t:List At}{σ:Nat→At}:(mcs f t).map (At.sub σ)=mcs f (t.map (At.sub σ)):=by
 unfold mcs;rw[List.map_append,List.map_map];rfl
theorem Ev{f:Nat→Int}{t:List At}{σ:Nat→Nat}:(mcs f t).map (At.ren σ)=mcs f (t.map (At.ren σ)):=by
 unfold mcs;rw[List.map_append,List.map_map];rfl
theorem Bo{f g:Nat→Int}{t u:List At}{b:Bnd}:Uo (mcs f t) (mcs g u) b=Uo t u b:=by rfl
theorem X0{f:Nat→Int}{t:List At}{q:At→Prop}(hq:∀i,q (.int .i64 i)):(∀x,x∈mcs f t→q x)↔∀x∈t,q x:=by
 unfold mcs
 refine⟨fun h x hx=>h x (List.mem_append_right _ hx),fun h x hx=> ?_⟩
 rcases List.mem_append.1 hx with hx|hx
 ·obtain⟨i,_,rfl⟩:=List.mem_map.1 hx;exact hq _
 ·exact h x hx
structure Fl where
 c:Bool
 z:Bool
 n:Bool
 v:Bool
def z14:List At:=mcs (fun _=>0) [.bool false,.bool false,.bool false,.bool false,.int .i64 0,.raw (.slice none 0 0)]
def TL(x:Fl)(at_ how trap rd st:Int):List At:=
 .bool x.c:: .bool x.z:: .bool x.n:: .bool x.v:: .int .i64 at_:: .ref 1:: .ref 2:: .raw (.slice none 0 0):: .int .i64 how:: .int .i64 trap:: .raw (.slice none 0 0):: .int .i64 rd:: .int .i64 st::z14
theorem Zfa:z14.length=14:=rfl
theorem U6{q:At→Prop}(h1:∀i,q (.int .i64 i))(h2:q (.bool false))(h3:q (.raw (.slice none 0 0))):(∀x,x∈z14→q x)↔True:=by
 rw[z14,X0 h1]
 refine⟨fun _=>trivial,fun _ x hx=> ?_⟩
 simp only[List.mem_cons,List.not_mem_nil,or_false]at hx
 rcases hx with rfl|rfl|rfl|rfl|rfl|rfl
 ·exact h2
 ·exact h2
 ·exact h2
 ·exact h2
 ·exact h1 0
 ·exact h3
theorem Zfc{σ:Nat→At}:z14.map (At.sub σ)=z14:=by rw[z14,Ex];rfl
theorem Zfb{σ:Nat→Nat}:z14.map (At.ren σ)=z14:=by rw[z14,Ev];rfl
theorem Zai{b:Bnd}:Uo z14 z14 b=b:=rfl
theorem c8:((8:Nat):Int)=8:=rfl
theorem Z5:type_of%(And.intro @Eu<|And.intro @Et<|And.intro @Jr<|And.intro @Bq<|And.intro @Hb<|And.intro @Zel<|And.intro @Ew<|And.intro @Bp<|And.intro @Ex<|And.intro @Ev<|And.intro @Bo<|And.intro @X0<|And.intro @Zfa<|And.intro @U6<|And.intro @Zfc<|And.intro @Zfb<|And.intro @Zai<|And.intro @TL.eq_1<|And.intro Nat.zero_add<|And.intro Nat.add_zero<|And.intro Nat.mul_one<|And.intro Nat.sub_zero c8):=
 ⟨@Eu,@Et,@Jr,@Bq,@Hb,@Zel,@Ew,@Bp,@Ex,@Ev,@Bo,@X0,@Zfa,@U6,@Zfc,@Zfb,@Zai,@TL.eq_1,Nat.zero_add,Nat.add_zero,Nat.mul_one,Nat.sub_zero,c8⟩
@[reducible] def MR(f:Nat→Int)(x:Fl)(at_ how trap rd st:Int)(mem code:List Int):List (Nat×Res):=
  [(0,.cells 152 (mcs f (TL x at_ how trap rd st))),(1,.row 3 (.int .i64) mem),(2,.row 3 (.int .i64) code)]
section
variable (f:Nat→Int) (x:Fl) (at_ how trap rd st:Int) (mem code:List Int) (hm:mem.length=65536)
include hm
theorem Zek(p:Int):GC Tryz.prog 120 [.a (.loc 0 0),.a (.int .i64 p)] (MR f x at_ how trap rd st mem code) 3 [0,1,2] (.one (.a (.int .i64 (mem.getD (p%65536).toNat 0)))) (MR f x at_ how trap rd st mem code) 3:=by
 have ha:=Int.emod_nonneg p (show(65536:Int)≠0 by decide)
 have ha2:=Int.emod_lt_of_pos p (show(0:Int)<65536 by decide)
 have e1:=Wo p
 generalize hq:p%65536=q at*
 have hl:q<(mem.length:Int):=by omega
 have hl2:q.toNat<mem.length:=by omega
 have d0:(Kd.int .i64).dflt=(0:Int):=rfl
 refine S4.fn.gc (by simp) (by simp[Zu,Zw,Zv,Zj,Zf,Vc.S1.okN,At.okN,SV.okN,Res.okN,Res.outOk,Zo,Res.own,Value.oneCell',MR,X0,TL,U6]) fun w X fr=> ?_
 repeat'(first|(first|refine Stp.h ?_)<;>try simp only[Zc,simprocAttr,↓reduceIte,reduceCtorEq,implies_true,Z5,e1,hl,hl2,ha,d0]|(with_reducible first|assumption|refine And.intro ?_ ?_)|(intro h;first|omega|exact tg h ‹_›|exact tg ‹_› h|skip))
theorem A5(p v:Int):GC Tryz.prog 121 [.a (.loc 0 0),.a (.int .i64 p),.a (.int .i64 v)] (MR f x at_ how trap rd st mem code) 3 [0,1,2] (.tup []) (MR f x at_ how trap rd st (mem.set (p%65536).toNat (v%65536)) code) 3:=by
 have ha:=Int.emod_nonneg p (show(65536:Int)≠0 by decide)
 have ha2:=Int.emod_lt_of_pos p (show(0:Int)<65536 by decide)
 have e1:=Wo p
 have e2:=Wo v
 generalize hq:p%65536=q at*
 have hl:q<(mem.length:Int):=by omega
 have hl2:q.toNat<mem.length:=by omega
 have d0:(Kd.int .i64).dflt=(0:Int):=rfl
 refine Sb.fn.gc (by simp) (by simp[Zu,Zw,Zv,Zj,Zf,Vc.S1.okN,At.okN,SV.okN,Res.okN,Res.outOk,Zo,Res.own,Value.oneCell',MR,X0,TL,U6]) fun w X fr=> ?_
 repeat'(first|(first|refine Stp.h ?_)<;>try simp only[Zc,simprocAttr,↓reduceIte,reduceCtorEq,implies_true,Z5,e1,e2,hl,hl2,ha,d0]|(with_reducible first|assumption|refine And.intro ?_ ?_)|(intro h;first|omega|exact tg h ‹_›|exact tg ‹_› h|skip))
theorem Zes(h7:0≤f 7∧f 7≤65535)(v:Int):GC Tryz.prog 125 [.a (.loc 0 0),.a (.int .i64 v)] (MR f x at_ how trap rd st mem code) 3 [0,1,2] (.tup []) (MR (Q9 f 7 ((f 7-1)%65536)) x at_ how trap rd st (mem.set ((f 7-1)%65536).toNat (v%65536)) code) 3:=by
 have w1:IntKind.i64.wrap (f 7-1)=f 7-1:=Zk (by omega) (by omega)
 have e1:=Wo (f 7-1)
 have e3:Q9 f 7 ((f 7-1)%65536) 7=(f 7-1)%65536:=rfl
 have hS:=A5 (Q9 f 7 ((f 7-1)%65536)) x at_ how trap rd st mem code hm ((f 7-1)%65536) v
 have e2:((f 7-1)%65536)%65536=(f 7-1)%65536:=by omega
 rw[e2]at hS
 generalize (f 7-1)%65536=q at*
 refine S5.fn.gc (by simp) (by simp[Zu,Zw,Zv,Zj,Zf,Vc.S1.okN,At.okN,SV.okN,Res.okN,Res.outOk,Zo,Res.own,Value.oneCell',MR,X0,TL,U6]) fun w X fr=> ?_
 repeat'(first|(first|refine Stp.h ?_|(refine Za.gc hS ?_ ?_;focus simp[Zb,Z5];done))<;>try simp only[Zc,simprocAttr,↓reduceIte,reduceCtorEq,implies_true,Z5,w1,e1,e3,Int.reduceToNat]|(with_reducible first|assumption|refine And.intro ?_ ?_)|(intro h;first|omega|exact tg h ‹_›|exact tg ‹_› h|skip))
theorem pop_gc(h7:0≤f 7∧f 7≤65535):GC Tryz.prog 126 [.a (.loc 0 0)] (MR f x at_ how trap rd st mem code) 3 [0,1,2] (.one (.a (.int .i64 (mem.getD (f 7).toNat 0)))) (MR (Q9 f 7 ((f 7+1)%65536)) x at_ how trap rd st mem code) 3:=by
 have w1:IntKind.i64.wrap (f 7+1)=f 7+1:=Zk (by omega) (by omega)
 have e1:=Wo (f 7+1)
 have hS:=Zek f x at_ how trap rd st mem code hm (f 7)
 have e2:(f 7)%65536=f 7:=by omega
 rw[e2]at hS
 generalize (f 7+1)%65536=q at*
 refine Ry.fn.gc (by simp) (by simp[Zu,Zw,Zv,Zj,Zf,Vc.S1.okN,At.okN,SV.okN,Res.okN,Res.outOk,Zo,Res.own,Value.oneCell',MR,X0,TL,U6]) fun w X fr=> ?_
 repeat'(first|(first|refine Stp.h ?_|(refine Za.gc hS ?_ ?_;focus simp[Zb,Z5];done))<;>try simp only[Zc,simprocAttr,↓reduceIte,reduceCtorEq,implies_true,Z5,w1,e1,Int.reduceToNat]|(with_reducible first|assumption|refine And.intro ?_ ?_)|(intro h;first|omega|exact tg h ‹_›|exact tg ‹_› h|skip))
omit hm in
theorem A2(r:Int)(cy:Bool):GC Tryz.prog 166 [.a (.loc 0 0),.a (.int .i64 r),.a (.bool cy)] (MR f x at_ how trap rd st mem code) 3 [0,1,2] (.one (.a (.int .i64 (r%65536)))) (MR f ⟨cy,decide (r%65536=0),decide (32767<r%65536),false⟩ at_ how trap rd st mem code) 3:=by
 have e1:=Wo r
 generalize r%65536=q at*
 refine Sa.fn.gc (by simp) (by simp[Zu,Zw,Zv,Zj,Zf,Vc.S1.okN,At.okN,SV.okN,Res.okN,Res.outOk,Zo,Res.own,Value.oneCell',MR,X0,TL,U6]) fun w X fr=> ?_
 repeat'(first|(first|refine Stp.h ?_)<;>try simp only[Zc,simprocAttr,↓reduceIte,reduceCtorEq,implies_true,Z5,e1]|(with_reducible first|assumption|refine And.intro ?_ ?_)|(intro h;first|omega|exact tg h ‹_›|exact tg ‹_› h|skip))
end
def Rp(r:Int)(cy:Bool):Fl:=⟨cy,decide (r=0),decide (32767<r),false⟩
def Fq(a b:Int)(ci:Bool):Fl:=⟨decide (65535<a+b+cI ci),decide (T9 a b ci=0),decide (32767<T9 a b ci),Zdi a b (T9 a b ci)⟩
def Nx(a b:Int)(bi:Bool):Fl:=⟨!decide (65535<a+(65535-b)+cI (!bi)),decide (Sk a b bi=0),decide (32767<Sk a b bi),Zdi a (65535-b) (Sk a b bi)⟩
def twoR(op a b:Int)(x:Fl):Int:=
 if op=5 then T9 a b false else if op=6 then T9 a b x.c else if op=7∨op=12 then Sk a b false else if op=8∨op=13 then Sk a b x.c else
 if op=9 then Mx .i64 a b%65536 else if op=10 then orI .i64 a b%65536 else Mr .i64 a b%65536
def twoF(op a b:Int)(x:Fl):Fl:=
 if op=5 then Fq a b false else if op=6 then Fq a b x.c else if op=7∨op=12 then Nx a b false else if op=8 then Nx a b x.c else if op=13 then {Nx a b x.c with z:=(Nx a b x.c).z&&x.z}else
 if op=9 then Rp (Mx .i64 a b%65536) false else if op=10 then Rp (orI .i64 a b%65536) false else Rp (Mr .i64 a b%65536) false
section
variable (f:Nat→Int) (x:Fl) (at_ how trap rd st:Int) (mem code:List Int)
set_option maxHeartbeats 16000000 in
theorem Zjl(op a b:Int)(hop:op=5∨op=6∨op=7∨op=8∨op=12∨op=13∨op=10∨op=11)(ha:0≤a∧a≤65535)(hb:0≤b∧b≤65535):
 GC Tryz.prog 122 [.a (.loc 0 0),.a (.int .i64 op),.a (.int .i64 a),.a (.int .i64 b)] (MR f x at_ how trap rd st mem code) 3 [0,1,2] (.one (.a (.int .i64 (twoR op a b x)))) (MR f (twoF op a b x) at_ how trap rd st mem code) 3:=by
 have hS:∀ci,RdC Tryz.prog 164 [.v (.a (.int .i64 a)),.v (.a (.int .i64 b)),.v (.a (.bool ci))] (.tup [.a (.int .i64 (T9 a b ci)),.agg [.bool (Fq a b ci).c,.bool (Fq a b ci).z,.bool (Fq a b ci).n,.bool (Fq a b ci).v]]):=fun ci=>by
  have:=Zds a b ci
  have e1:a%65536=a:=by omega
  have e2:b%65536=b:=by omega
  rw[e1,e2]at this
  exact this
 have hD:∀bi,RdC Tryz.prog 165 [.v (.a (.int .i64 a)),.v (.a (.int .i64 b)),.v (.a (.bool bi))] (.tup [.a (.int .i64 (Sk a b bi)),.agg [.bool (Nx a b bi).c,.bool (Nx a b bi).z,.bool (Nx a b bi).n,.bool (Nx a b bi).v]]):=fun bi=>Jy a b bi ha hb
 have key:∀r,GC Tryz.prog 166 [.a (.loc 0 0),.a (.int .i64 r),.a (.bool false)] (MR f x at_ how trap rd st mem code) 3 [0,1,2] (.one (.a (.int .i64 (r%65536)))) (MR f (Rp (r%65536) false) at_ how trap rd st mem code) 3:=fun r=>A2 f x at_ how trap rd st mem code r false
 have hO:=key (orI .i64 a b)
 have hX:=key (Mr .i64 a b)
 refine Rz.fn.gc (by simp) (by simp[Zu,Zw,Zv,Zj,Zf,Vc.S1.okN,At.okN,SV.okN,Res.okN,Res.outOk,Zo,Res.own,Value.oneCell',MR,X0,TL,U6]) fun w X fr=> ?_
 rcases hop with rfl|rfl|rfl|rfl|rfl|rfl|rfl|rfl<;>simp only[twoR,twoF,Int.reduceEq,↓reduceIte,or_false,or_true,false_or,true_or]<;>
 (repeat'(first|(first|refine Stp.h ?_|((with_reducible first|apply Za.rd (hS _)|apply Ze.rd (hS _));focus((repeat'(first|exact rfl|exact trivial|refine And.intro ?_ ?_|(simp[Zz];done)));done))|((with_reducible first|apply Za.rd (hD _)|apply Ze.rd (hD _));focus((repeat'(first|exact rfl|exact trivial|refine And.intro ?_ ?_|(simp[Zz];done)));done))|(refine Za.gc hO ?_ ?_;focus simp[Zb,Z5];done)|(refine Za.gc hX ?_ ?_;focus simp[Zb,Z5];done))<;>try simp only[Zc,simprocAttr,↓reduceIte,reduceCtorEq,implies_true,Z5]|(with_reducible first|assumption|refine And.intro ?_ ?_)|(intro h;first|omega|exact tg h ‹_›|exact tg ‹_› h|skip)))
theorem El(op:Int)(hop:op=19∨op=20∨op=21∨op=22∨op=23):GC Tryz.prog 124 [.a (.loc 0 0),.a (.int .i64 op)] (MR f x at_ how trap rd st mem code) 3 [0,1,2] (.one (.a (.bool (if op=20 then x.z else if op=21 then !x.z else if op=22 then x.c else if op=23 then !x.c else true)))) (MR f x at_ how trap rd st mem code) 3:=by
 refine S0.fn.gc (by simp) (by simp[Zu,Zw,Zv,Zj,Zf,Vc.S1.okN,At.okN,SV.okN,Res.okN,Res.outOk,Zo,Res.own,Value.oneCell',MR,X0,TL,U6]) fun w X fr=> ?_
 rcases hop with rfl|rfl|rfl|rfl|rfl<;>simp only[Int.reduceEq,↓reduceIte]<;>
 (repeat'(first|(first|refine Stp.h ?_)<;>try simp only[Zc,simprocAttr,↓reduceIte,reduceCtorEq,implies_true,Z5]|(with_reducible first|assumption|refine And.intro ?_ ?_)|(intro h;first|omega|exact tg h ‹_›|exact tg ‹_› h|skip)))
def shR(op a:Int)(c:Bool):Int:=
 if op=14 then(2*a)%65536 else if op=15 then(2*a+cI c)%65536 else if op=16 then a/2 else if op=17 then a/2+32768*cI (decide (32767<a))else a/2+32768*cI c
def shF(op a:Int)(c:Bool):Fl:=Rp (shR op a c) (if op=14∨op=15 then decide (32767<a)else decide (a%2=1))
theorem B1(a:Int)(h:0≤a∧a≤65535):orI .i64 (2*a) 1=2*a+1:=by
 obtain⟨n,rfl⟩:=Int.eq_ofNat_of_zero_le h.1
 show IntKind.i64.wrap ((BitVec.ofInt 64 (2*(n:Int))|||BitVec.ofInt 64 1).toNat:Nat)=_
 rw[Xa,Xa 1]
 have e1:(2*(n:Int)%18446744073709551616).toNat=2*n:=by omega
 have e2:((1:Int)%18446744073709551616).toNat=1:=by decide
 rw[e1,e2,BitVec.toNat_or,BitVec.toNat_ofNat,BitVec.toNat_ofNat,Nat.mod_eq_of_lt (by omega),Nat.mod_eq_of_lt (by decide)]
 have e3:2*n|||1=2*n+1:=by
  have:=Nat.two_pow_add_eq_or_of_lt (i:=1) (b:=1) (by decide) n
  rw[Nat.pow_one]at this;exact this.symm
 rw[e3]
 exact Zk (by omega) (by omega) |>.trans (by omega)
theorem orI_top(a:Int)(h:0≤a∧a≤32767):orI .i64 a 32768=a+32768:=by
 obtain⟨n,rfl⟩:=Int.eq_ofNat_of_zero_le h.1
 show IntKind.i64.wrap ((BitVec.ofInt 64 (n:Int)|||BitVec.ofInt 64 32768).toNat:Nat)=_
 rw[Xa,Xa 32768]
 have e1:((n:Int)%18446744073709551616).toNat=n:=by omega
 have e2:((32768:Int)%18446744073709551616).toNat=32768:=by decide
 rw[e1,e2,BitVec.toNat_or,BitVec.toNat_ofNat,BitVec.toNat_ofNat,Nat.mod_eq_of_lt (by omega),Nat.mod_eq_of_lt (by decide)]
 have e3:n|||32768=n+32768:=by
  have h2:32768+n=32768|||n:=Nat.two_pow_add_eq_or_of_lt (i:=15) (b:=n) (by omega) 1
  rw[Nat.or_comm,←h2];omega
 rw[e3]
 exact Zk (by omega) (by omega) |>.trans (by omega)
theorem B2(a:Int)(h:0≤a∧a≤131070):orI .i64 a 0=a:=by
 obtain⟨n,rfl⟩:=Int.eq_ofNat_of_zero_le h.1
 show IntKind.i64.wrap ((BitVec.ofInt 64 (n:Int)|||BitVec.ofInt 64 0).toNat:Nat)=_
 rw[Xa,Xa 0]
 have e1:((n:Int)%18446744073709551616).toNat=n:=by omega
 rw[e1,BitVec.toNat_or,BitVec.toNat_ofNat,Nat.mod_eq_of_lt (by omega)]
 have e3:n|||(BitVec.ofNat 64 ((0:Int)%18446744073709551616).toNat).toNat=n:=Nat.or_zero n
 rw[e3]
 exact Zk (by omega) (by omega)
theorem and_one(a:Int)(h:0≤a∧a≤65535):Mx .i64 a 1=a%2:=Ie a 1 1 h.1 (by omega) (by decide) (by decide)
set_option maxHeartbeats 16000000 in
theorem Zc8(op a:Int)(hop:op=14∨op=15∨op=16∨op=17∨op=18)(ha:0≤a∧a≤65535):
 GC Tryz.prog 123 [.a (.loc 0 0),.a (.int .i64 op),.a (.int .i64 a)] (MR f x at_ how trap rd st mem code) 3 [0,1,2] (.one (.a (.int .i64 (shR op a x.c)))) (MR f (shF op a x.c) at_ how trap rd st mem code) 3:=by
 have w1:Sn .i64 a 1=2*a:=by
  show IntKind.i64.wrap (a*2^1)=_
  rw[Zk (by omega) (by omega)];omega
 have w2:P0 .i64 a 1=a/2:=rfl
 have o1:=B1 a ha
 have o2:=B2 (2*a) (by omega)
 have o3:=B2 (a/2) (by omega)
 have o4:=orI_top (a/2) (by omega)
 have a1:=and_one a ha
 have key:∀(r r':Int) (cy:Bool),r%65536=r'→GC Tryz.prog 166 [.a (.loc 0 0),.a (.int .i64 r),.a (.bool cy)] (MR f x at_ how trap rd st mem code) 3 [0,1,2] (.one (.a (.int .i64 r'))) (MR f (Rp r' cy) at_ how trap rd st mem code) 3:=fun r r' cy h=>by
  subst h;exact A2 f x at_ how trap rd st mem code r cy
 have k1:∀ {r:Int},0≤r→r≤65535→r%65536=r:=fun h1 h2=>by omega
 obtain⟨xc,xz,xn,xv⟩:=x
 refine U7.fn.gc (by simp) (by simp[Zu,Zw,Zv,Zj,Zf,Vc.S1.okN,At.okN,SV.okN,Res.okN,Res.outOk,Zo,Res.own,Value.oneCell',MR,X0,TL,U6]) fun w X fr=> ?_
 rcases hop with rfl|rfl|rfl|rfl|rfl<;>simp only[shR,shF,Int.reduceEq,↓reduceIte,or_false,or_true,true_or]
 ·have hK:=key (2*a) _ (decide (32767<a)) rfl
  repeat'(first|(first|refine Stp.h ?_|(refine Za.gc hK ?_ ?_;focus simp[Zb,Z5];done))<;>try simp only[Zc,simprocAttr,↓reduceIte,reduceCtorEq,implies_true,Z5,w1,o2,Int.reduceToNat]|(with_reducible first|assumption|refine And.intro ?_ ?_)|(intro h;first|omega|exact tg h ‹_›|exact tg ‹_› h|skip))
 ·cases xc
  ·have hK:=key (2*a) ((2*a+cI false)%65536) (decide (32767<a)) (by simp[cI])
   repeat'(first|(first|refine Stp.h ?_|(refine Za.gc hK ?_ ?_;focus simp[Zb,Z5];done))<;>try simp only[Zc,simprocAttr,↓reduceIte,reduceCtorEq,implies_true,Z5,w1,o2,Int.reduceToNat]|(with_reducible first|assumption|refine And.intro ?_ ?_)|(intro h;first|omega|exact tg h ‹_›|exact tg ‹_› h|skip))
  ·have hK:=key (2*a+1) ((2*a+cI true)%65536) (decide (32767<a)) (by simp[cI])
   repeat'(first|(first|refine Stp.h ?_|(refine Za.gc hK ?_ ?_;focus simp[Zb,Z5];done))<;>try simp only[Zc,simprocAttr,↓reduceIte,reduceCtorEq,implies_true,Z5,w1,o1,Int.reduceToNat]|(with_reducible first|assumption|refine And.intro ?_ ?_)|(intro h;first|omega|exact tg h ‹_›|exact tg ‹_› h|skip))
 ·have hK:=key (a/2) (a/2) (decide (a%2=1)) (by omega)
  repeat'(first|(first|refine Stp.h ?_|(refine Za.gc hK ?_ ?_;focus simp[Zb,Z5];done))<;>try simp only[Zc,simprocAttr,↓reduceIte,reduceCtorEq,implies_true,Z5,w2,o3,a1,Int.reduceToNat]|(with_reducible first|assumption|refine And.intro ?_ ?_)|(intro h;first|omega|exact tg h ‹_›|exact tg ‹_› h|skip))
 ·by_cases hb:32767<a
  ·have hK:=key (a/2+32768) (a/2+32768*cI (decide (32767<a))) (decide (a%2=1)) (by simp[cI,hb];omega)
   repeat'(first|(first|refine Stp.h ?_|(refine Za.gc hK ?_ ?_;focus simp[Zb,Z5];done))<;>try simp only[Zc,simprocAttr,↓reduceIte,reduceCtorEq,implies_true,Z5,w2,o4,a1,hb,decide_true,Int.reduceToNat]|(with_reducible first|assumption|refine And.intro ?_ ?_)|(intro h;first|omega|exact tg h ‹_›|exact tg ‹_› h|skip))
   all_goals simp[hb]
  ·have hK:=key (a/2) (a/2+32768*cI (decide (32767<a))) (decide (a%2=1)) (by simp[cI,hb];omega)
   repeat'(first|(first|refine Stp.h ?_|(refine Za.gc hK ?_ ?_;focus simp[Zb,Z5];done))<;>try simp only[Zc,simprocAttr,↓reduceIte,reduceCtorEq,implies_true,Z5,w2,o3,a1,hb,decide_false,Int.reduceToNat]|(with_reducible first|assumption|refine And.intro ?_ ?_)|(intro h;first|omega|exact tg h ‹_›|exact tg ‹_› h|skip))
   all_goals simp[hb]
 ·cases xc
  ·have hK:=key (a/2) (a/2+32768*cI false) (decide (a%2=1)) (by simp[cI];omega)
   repeat'(first|(first|refine Stp.h ?_|(refine Za.gc hK ?_ ?_;focus simp[Zb,Z5];done))<;>try simp only[Zc,simprocAttr,↓reduceIte,reduceCtorEq,implies_true,Z5,w2,o3,a1,Int.reduceToNat]|(with_reducible first|assumption|refine And.intro ?_ ?_)|(intro h;first|omega|exact tg h ‹_›|exact tg ‹_› h|skip))
  ·have hK:=key (a/2+32768) (a/2+32768*cI true) (decide (a%2=1)) (by simp[cI];omega)
   repeat'(first|(first|refine Stp.h ?_|(refine Za.gc hK ?_ ?_;focus simp[Zb,Z5];done))<;>try simp only[Zc,simprocAttr,↓reduceIte,reduceCtorEq,implies_true,Z5,w2,o4,a1,Int.reduceToNat]|(with_reducible first|assumption|refine And.intro ?_ ?_)|(intro h;first|omega|exact tg h ‹_›|exact tg ‹_› h|skip))
end
def w32(n:Int):Prop:=0≤n∧n<4294967296
def wOk(l:List Int):Prop:=∀j,w32 (l.getD j 0)
def nv:List Int→Int
 | []=>0
 |a::r=>a+4294967296*nv r
def wds(x:Nat):List Int:=if h:x=0 then[]else((x%4294967296:Nat):Int)::wds (x/4294967296)
termination_by x
decreasing_by omega
theorem Yc:wds 0=[]:=by rw[wds];simp
theorem Wl{x:Nat}(h:x≠0):wds x=((x%4294967296:Nat):Int)::wds (x/4294967296):=by rw[wds,dif_neg h]
theorem Ru{a:Int}{l:List Int}:wOk (a::l)↔w32 a∧wOk l:=by
 refine⟨fun h=>⟨h 0,fun j=>h (j+1)⟩,fun h j=> ?_⟩
 cases j with
 |zero=>exact h.1
 |succ j=>exact h.2 j
theorem Jv:wOk []:=fun j=>by simp[w32]
theorem Rv:∀(n x:Nat),x≤n→wOk (wds x)
 |0,x,h=>by obtain rfl:x=0:=by omega
            rw[Yc];exact Jv
 |n+1,x,h=>by
  by_cases hx:x=0
  ·subst hx;rw[Yc];exact Jv
  ·rw[Wl hx,Ru]
   exact⟨by unfold w32;omega,Rv n _ (by omega)⟩
theorem Ri:∀(n x:Nat),x≤n→nv (wds x)=x
 |0,x,h=>by obtain rfl:x=0:=by omega
            rw[Yc];rfl
 |n+1,x,h=>by
  by_cases hx:x=0
  ·subst hx;rw[Yc];rfl
  ·rw[Wl hx,nv,Ri n _ (by omega)];omega
theorem nv_nn:∀(l:List Int),wOk l→0≤nv l
 | [],_=>Int.le_refl _
 |a::l,h=>by
  have h1:=(Ru.1 h).1
  have h2:=nv_nn l (Ru.1 h).2
  unfold w32 at h1
  simp only[nv];omega
theorem W3:∀(n x:Nat),x<4294967296^n→(wds x).length≤n
 |0,x,h=>by obtain rfl:x=0:=by simpa using h
            rw[Yc];simp
 |n+1,x,h=>by
  by_cases hx:x=0
  ·subst hx;rw[Yc];simp
  ·rw[Wl hx,List.length_cons]
   have:=W3 n (x/4294967296) (by rw[Nat.pow_succ]at h;exact Nat.div_lt_of_lt_mul (by rw[Nat.mul_comm];exact h))
   omega
theorem Ze7{x:Nat}:wds x=[]↔x=0:=by
 refine⟨fun h=> ?_,fun h=>by rw[h,Yc]⟩
 by_cases hx:x=0
 ·exact hx
 ·rw[Wl hx]at h;cases h
theorem Vu{x:Nat}:(wds x).length=0↔x=0:=by rw[List.length_eq_zero_iff,Ze7]
def W2(l:List Int):Nat→Nat
 |0=>0
 |n+1=>if l.getD n 0=0 then W2 l n else n+1
theorem Zaa(l:List Int):∀n,W2 l n≤n
 |0=>Nat.le_refl _
 |n+1=>by unfold W2;split;exact Nat.le_succ_of_le (Zaa l n);exact Nat.le_refl _
theorem Ga(a:Int)(l:List Int):∀n,W2 (a::l) (n+1)=if W2 l n=0 then(if a=0 then 0 else 1)else W2 l n+1
 |0=>by simp[W2]
 |n+1=>by
  have e1:W2 (a::l) (n+1+1)=if l.getD n 0=0 then W2 (a::l) (n+1)else n+1+1:=rfl
  have e2:W2 l (n+1)=if l.getD n 0=0 then W2 l n else n+1:=rfl
  rw[e1,e2]
  by_cases h:l.getD n 0=0
  ·rw[if_pos h,if_pos h,Ga a l n]
  ·rw[if_neg h,if_neg h];simp
theorem Zab:∀(l:List Int),wOk l→l.take (W2 l l.length)=wds (nv l).toNat
 | [],_=>by simp[W2,nv,Yc]
 |a::l,h=>by
  obtain⟨h1,h2⟩:=Ru.1 h
  have ih:=Zab l h2
  have hn:=nv_nn l h2
  unfold w32 at h1
  rw[List.length_cons,Ga]
  have hd:(a+4294967296*nv l).toNat/4294967296=(nv l).toNat:=by omega
  have hm:(((a+4294967296*nv l).toNat%4294967296:Nat):Int)=a:=by omega
  by_cases h0:W2 l l.length=0
  ·rw[h0,List.take_zero]at ih
   have hz:(nv l).toNat=0:=Ze7.1 ih.symm
   rw[if_pos h0]
   by_cases ha:a=0
   ·rw[if_pos ha,List.take_zero]
    have:(nv (a::l)).toNat=0:=by simp only[nv];omega
    rw[this,Yc]
   ·rw[if_neg ha]
    have hx:(nv (a::l)).toNat≠0:=by simp only[nv];omega
    rw[Wl hx]
    simp only[nv]
    rw[hd,hm,hz,Yc];rfl
  ·rw[if_neg h0,List.take_succ_cons,ih]
   have hz:(nv l).toNat≠0:=fun e=>by
    rw[e,Yc]at ih
    have:=congrArg List.length ih
    simp only[List.length_take,List.length_nil]at this
    have:=Zaa l l.length
    omega
   have hx:(nv (a::l)).toNat≠0:=by simp only[nv];omega
   rw[Wl hx]
   simp only[nv]
   rw[hd,hm]
set_option maxHeartbeats 4000000 in
theorem Zdj(l:List Int)(hl:wOk l)(h0:0<l.length∧l.length≤1000)(w:World)(X:List Nat)(fr:List Value):T ⟨Tryz.prog,w,X,21,fr⟩ Yy.code (Q6 ⟨Tryz.prog,w,X,21,fr⟩ [RV.tmp 2] (Ct [] (.one (.a (.ref 1))) [(1,.row 90 (.int .u32) (wds (nv l).toNat))])) ⟨[(0,.one (.a (.ref 0)))],[(0,.row 90 (.int .u32) l)],1⟩:=by
 repeat'(first|(first|refine Stp.h ?_)<;>try simp only[Zc,simprocAttr,↓reduceIte,reduceCtorEq,implies_true]|(with_reducible first|assumption|refine And.intro ?_ ?_)|(intro h;first|omega|exact tg h ‹_›|exact tg ‹_› h|skip))
 all_goals first|omega|skip
 refine T.loop (ι:= {t:Nat//t≤l.length∧W2 l t=W2 l l.length}) (fun y=>⟨[(3,.one (.a (.int .i64 (y.1:Int)))),(0,.one (.a (.ref 0)))],[(0,.row 90 (.int .u32) l)],1⟩) (fun y=>y.1) ⟨l.length,Nat.le_refl _,rfl⟩ (Ent.mk1 (id) (by simp[Zt])) ?_
 rintro⟨t,ht1,ht2⟩
 simp only
 have fin:W2 l t=t→t=W2 l l.length:=fun h=>by omega
 have last:∀t,t≤l.length→t=W2 l l.length→T ⟨Tryz.prog,w,X,21,fr⟩ Yy.c6 (Q6 ⟨Tryz.prog,w,X,21,fr⟩ [RV.tmp 2] (Ct [] (.one (.a (.ref 1))) [(1,.row 90 (.int .u32) (wds (nv l).toNat))])) ⟨[(3,.one (.a (.int .i64 (t:Int)))),(0,.one (.a (.ref 0)))],[(0,.row 90 (.int .u32) l)],1⟩:=fun t h1 h2=>by
  show T _ (.seq (.reg Yy.r4) .ret) _ _
  have htn:((t:Int)).toNat=t:=by omega
  have tz:(0:Int).toNat=0:=rfl
  have t0:(0:Int)≤t:=by omega
  refine T.cut (ι:=Unit) (fun _=>⟨[(2,.one (.a (.ref 1)))],[(1,.view 0 1 0 t),(0,.row 90 (.int .u32) l)],2⟩) ?_ fun _=> ?_
  ·repeat'(first|(first|refine Stp.h ?_)<;>try simp only[Zc,simprocAttr,↓reduceIte,reduceCtorEq,implies_true,htn,tz,t0,h1,Nat.zero_add,Nat.add_zero]|(with_reducible first|assumption|refine And.intro ?_ ?_)|(intro h;first|omega|exact tg h ‹_›|exact tg ‹_› h|skip))
   all_goals first|omega|exact⟨(),(Ent.mk1 (id) (by simp[Zt]))⟩|skip
  ·refine T.weak (Ent.viewRow 0 1 t rfl rfl rfl h1 h0.1) ?_
   rw[h2,Zab l hl]
   repeat'(first|(first|refine Stp.h ?_)<;>try simp only[Zc,simprocAttr,↓reduceIte,reduceCtorEq,implies_true]|(with_reducible first|assumption|refine And.intro ?_ ?_)|(intro h;first|omega|exact tg h ‹_›|exact tg ‹_› h|skip))
 rcases t with _|t
 ·have hp:¬(0:Int)<((0:Nat):Int):=by omega
  repeat'(first|(first|refine Stp.h ?_)<;>try simp only[Zc,simprocAttr,↓reduceIte,reduceCtorEq,implies_true,hp,decide_false]|(with_reducible first|assumption|refine And.intro ?_ ?_)|(intro h;first|omega|exact tg h ‹_›|exact tg ‹_› h|skip))
  all_goals first|omega|exact T.weak (Ent.mk1 (id) (by simp[Zt])) (last 0 (Nat.zero_le _) (fin rfl))|skip
 ·have hw1:IntKind.i64.wrap (((t+1:Nat):Int)-1)=(t:Int):=by rw[Zk (by omega) (by omega)];omega
  have hp:(0:Int)<((t+1:Nat):Int):=by omega
  have htn:((t:Nat):Int).toNat=t:=by omega
  have htl:(t:Int)<l.length:=by omega
  have htl2:t<l.length:=by omega
  have d0:(Kd.int .u32).dflt=(0:Int):=rfl
  by_cases hz:l.getD t 0=0
  ·have ht3:W2 l t=W2 l l.length:=by rw[←ht2,W2,if_pos hz]
   repeat'(first|(first|refine Stp.h ?_)<;>try simp only[Zc,simprocAttr,↓reduceIte,reduceCtorEq,implies_true,hw1,hp,htn,htl,htl2,d0,hz,decide_true,Int.ofNat_lt]|(with_reducible first|assumption|refine And.intro ?_ ?_)|(intro h;first|omega|exact tg h ‹_›|exact tg ‹_› h|skip))
   all_goals first|omega|exact⟨⟨t,by omega,ht3⟩,(Ent.mk1 (id) (by simp[Zt])),by simp only;omega⟩|skip
  ·have ht3:W2 l (t+1)=t+1:=by rw[W2,if_neg hz]
   repeat'(first|(first|refine Stp.h ?_)<;>try simp only[Zc,simprocAttr,↓reduceIte,reduceCtorEq,implies_true,hw1,hp,htn,htl,htl2,d0,hz,decide_true,decide_false,Int.ofNat_lt]|(with_reducible first|assumption|refine And.intro ?_ ?_)|(intro h;first|omega|exact tg h ‹_›|exact tg ‹_› h|skip))
   all_goals first|omega|exact T.weak (Ent.mk1 (id) (by simp[Zt])) (last (t+1) ht1 (fin ht3))|skip
theorem Qa(l:List Int)(hl:wOk l)(h0:0<l.length∧l.length≤1000):GC Tryz.prog 53 [.a (.ref 0)] [(0,.row 90 (.int .u32) l)] 1 [] (.one (.a (.ref 1))) [(1,.row 90 (.int .u32) (wds (nv l).toNat))] 2:=by
 refine Yy.fn.gc (by simp) (by simp[Zu,Zw,Zv,Zj,Zf,Vc.S1.okN,At.okN,SV.okN,Res.okN,Res.outOk,Zo,Res.own,Value.oneCell']) fun w X fr=> ?_
 exact T.weak (Ent.mk1 id (by simp[Zt,Y2,Vc.frS])) (Zdj l hl h0 w X fr)
theorem Zjk(a b:Int)(ha:w32 a)(hb:w32 b):GC Tryz.prog 53 [.a (.ref 0)] [(0,.lit 90 1 2 [.int .u32 a,.int .u32 b])] 1 [] (.one (.a (.ref 1))) [(1,.row 90 (.int .u32) (wds (a+4294967296*b).toNat))] 2:=by
 have h:nv [a,b]=a+4294967296*b:=by simp[nv]
 have ho:wOk [a,b]:=Ru.2 ⟨ha,Ru.2 ⟨hb,Jv⟩⟩
 have key:=Zdj [a,b] ho ⟨by simp,by simp⟩
 rw[h]at key
 refine Yy.fn.gc (by simp) (by simp[Zu,Zw,Zv,Zj,Zf,Vc.S1.okN,At.okN,SV.okN,Res.okN,Res.outOk,Zo,Res.own,Value.oneCell']) fun w X fr=> ?_
 refine T.weak (Ent.litRow (m:=0) (E:=90) (z:=1) (e:=2) (l:=[.int .u32 a,.int .u32 b]) (.int .u32) [a,b] rfl rfl rfl rfl (by decide)) ?_
 exact T.weak (Ent.mk1 id (by simp[Zt,Y2,Vc.frS])) (key w X fr)
theorem Lr(x:Nat)(hx:x<18446744073709551616):GC Tryz.prog 40 [.a (.int .u64 (x:Int))] [] 0 [] (.one (.a (.ref 0))) [(0,.row 90 (.int .u32) (wds x))] 1:=by
 have w1:IntKind.u32.wrap (x:Int)=(x:Int)%4294967296:=by rw[IntKind.wrap_u32]
 have w2:P0 .u64 (x:Int) 32=(x:Int)/4294967296:=rfl
 have w3:IntKind.u32.wrap ((x:Int)/4294967296)=(x:Int)/4294967296:=by rw[IntKind.wrap_u32];omega
 have hT:=Zjk ((x:Int)%4294967296) ((x:Int)/4294967296) (by unfold w32;omega) (by unfold w32;omega)
 have e:((x:Int)%4294967296+4294967296*((x:Int)/4294967296)).toNat=x:=by omega
 rw[e]at hT
 refine Tq.fn.gc (by simp) (by simp[Zu,Zw,Zv,Zj,Zf,Vc.S1.okN,At.okN,SV.okN,Res.okN,Res.outOk,Zo,Res.own,Value.oneCell']) fun w X fr=> ?_
 repeat'(first|(first|refine Stp.h ?_|(refine Za.gc hT ?_ ?_;focus simp[Zb];done))<;>try simp only[Zc,simprocAttr,↓reduceIte,reduceCtorEq,implies_true,w1,w2,w3,Int.reduceToNat]|(with_reducible first|assumption|refine And.intro ?_ ?_)|(intro h;first|omega|exact tg h ‹_›|exact tg ‹_› h|skip))
theorem Ze3(l:List Int)(hl:l.length≤1000):GC Tryz.prog 54 [.a (.ref 0)] [(0,.ro (.int .u32) l)] 1 [] (.one (.a (.ref 1))) [(1,.row 90 (.int .u32) l)] 2:=by
 have h1:l.length*4≤140737488355328:=by omega
 have h2:l.length≤4611686018427387904:=by omega
 refine Sc.fn.gc (by simp) (by simp[Zu,Zw,Zv,Zj,Zf,Vc.S1.okN,At.okN,SV.okN,Res.okN,Res.outOk,Zo,Res.own,Value.oneCell']) fun w X fr=> ?_
 repeat'(first|(first|refine Stp.h ?_)<;>try simp only[Zc,simprocAttr,↓reduceIte,reduceCtorEq,implies_true,h1,h2]|(with_reducible first|assumption|refine And.intro ?_ ?_)|(intro h;first|omega|exact tg h ‹_›|exact tg ‹_› h|skip))
theorem wds_cases(x:Nat)(hx:x<18446744073709551616):(x=0∧wds x=[])∨(0<x∧x<4294967296∧wds x=[(x:Int)])∨(4294967296≤x∧wds x=[((x%4294967296:Nat):Int),((x/4294967296:Nat):Int)]):=by
 by_cases h0:x=0
 ·left;subst h0;exact⟨rfl,Yc⟩
 ·right
  rw[Wl h0]
  by_cases h1:x<4294967296
  ·left
   have e:x/4294967296=0:=by omega
   rw[e,Yc,Nat.mod_eq_of_lt h1];exact⟨by omega,h1,rfl⟩
  ·right
   have e:x/4294967296≠0:=by omega
   have e2:x/4294967296/4294967296=0:=by omega
   rw[Wl e,e2,Yc,Nat.mod_eq_of_lt (show x/4294967296<4294967296 by omega)];exact⟨by omega,rfl⟩
theorem Zeq(a b:Int)(ha:w32 a)(hb:w32 b):orI .u64 a (b*4294967296)=a+4294967296*b:=by
 unfold w32 at ha hb
 obtain⟨n,rfl⟩:=Int.eq_ofNat_of_zero_le ha.1
 obtain⟨m,rfl⟩:=Int.eq_ofNat_of_zero_le hb.1
 show IntKind.u64.wrap ((BitVec.ofInt 64 (n:Int)|||BitVec.ofInt 64 ((m:Int)*4294967296)).toNat:Nat)=_
 rw[Xa,Xa ((m:Int)*4294967296)]
 have e1:((n:Int)%18446744073709551616).toNat=n:=by omega
 have e2:((m:Int)*4294967296%18446744073709551616).toNat=4294967296*m:=by omega
 rw[e1,e2,BitVec.toNat_or,BitVec.toNat_ofNat,BitVec.toNat_ofNat,Nat.mod_eq_of_lt (by omega),Nat.mod_eq_of_lt (by omega)]
 have h2:4294967296*m+n=4294967296*m|||n:=Nat.two_pow_add_eq_or_of_lt (i:=32) (b:=n) (by omega) m
 rw[Nat.or_comm,←h2]
 rw[IntWalk.u64_in _ (by omega)];omega
theorem Fj(x:Nat)(hx:x<18446744073709551616):RdC Tryz.prog 55 [.ro (.int .u32) (wds x)] (.one (.a (.int .u64 (x:Int)))):=by
 refine Tn.fn.rd (by simp) (by simp[Zz]) (by simp[Zz]) fun w=> ?_
 have d0:(Kd.int .u32).dflt=(0:Int):=rfl
 have c1:((1:Nat):Int)=1:=rfl
 have c0:((0:Nat):Int)=0:=rfl
 have c2:((2:Nat):Int)=2:=rfl
 rcases wds_cases x hx with⟨rfl,e⟩|⟨h0,h1,e⟩|⟨h1,e⟩<;>rw[e]
 ·repeat'(first|(first|refine Stp.h ?_)<;>try simp only[Zc,simprocAttr,↓reduceIte,reduceCtorEq,implies_true,List.length_nil,c0]|(with_reducible first|assumption|refine And.intro ?_ ?_)|(intro h;first|omega|exact tg h ‹_›|exact tg ‹_› h|skip))
 ·have w1:IntKind.u64.wrap (x:Int)=x:=by rw[IntWalk.u64_in _ (by omega)]
  repeat'(first|(first|refine Stp.h ?_)<;>try simp only[Zc,simprocAttr,↓reduceIte,reduceCtorEq,implies_true,w1,Int.reduceToNat,List.length_cons,List.length_nil,List.getD_cons_zero,Nat.zero_add,c1,d0]|(with_reducible first|assumption|refine And.intro ?_ ?_)|(intro h;first|omega|exact tg h ‹_›|exact tg ‹_› h|skip))
 ·have hl:((x%4294967296:Nat):Int)<4294967296:=by omega
  have hh:((x/4294967296:Nat):Int)<4294967296:=by omega
  have w1:IntKind.u64.wrap ((x%4294967296:Nat):Int)=((x%4294967296:Nat):Int):=by rw[IntWalk.u64_in _ (by omega)]
  have w2:IntKind.u64.wrap ((x/4294967296:Nat):Int)=((x/4294967296:Nat):Int):=by rw[IntWalk.u64_in _ (by omega)]
  have w3:Sn .u64 ((x/4294967296:Nat):Int) 32=((x/4294967296:Nat):Int)*4294967296:=by
   show IntKind.u64.wrap (((x/4294967296:Nat):Int)*2^32)=_
   rw[IntWalk.u64_in _ (by omega)];rfl
  have w4:=Zeq ((x%4294967296:Nat):Int) ((x/4294967296:Nat):Int) ⟨by omega,hl⟩ ⟨by omega,hh⟩
  have w5:((x%4294967296:Nat):Int)+4294967296*((x/4294967296:Nat):Int)=x:=by omega
  rw[w5]at w4
  generalize ((x%4294967296:Nat):Int)=a at*
  generalize ((x/4294967296:Nat):Int)=b at*
  repeat'(first|(first|refine Stp.h ?_)<;>try simp only[Zc,simprocAttr,↓reduceIte,reduceCtorEq,implies_true,w1,w2,w3,w4,Int.reduceToNat,List.length_cons,List.length_nil,List.getD_cons_zero,List.getD_cons_succ,Nat.zero_add,c1,c2,d0]|(with_reducible first|assumption|refine And.intro ?_ ?_)|(intro h;first|omega|exact tg h ‹_›|exact tg ‹_› h|skip))
def p32:Nat→Int
 |0=>1
 |n+1=>4294967296*p32 n
theorem Js:∀n,0<p32 n
 |0=>by decide
 |n+1=>by have:=Js n;simp only[p32];omega
theorem B3:∀ {m n:Nat},m≤n→p32 m≤p32 n
 |m,0,h=>by obtain rfl:m=0:=by omega
            exact Int.le_refl _
 |m,n+1,h=>by
  rcases Nat.lt_or_ge m (n+1)with h1|h1
  ·have:=B3 (show m≤n by omega)
   have:=Js n
   simp only[p32];omega
  ·obtain rfl:m=n+1:=by omega
   exact Int.le_refl _
def lowV(g:Nat→Int):Nat→Int
 |0=>0
 |t+1=>lowV g t+p32 t*g t
theorem I9(g:Nat→Int):∀t,lowV g (t+1)=g 0+4294967296*lowV (fun j=>g (j+1)) t
 |0=>by simp[lowV,p32]
 |t+1=>by
  rw[lowV,I9 g t,lowV,p32,Int.mul_add,Int.mul_assoc];omega
theorem Ps:∀l:List Int,nv l=lowV (fun j=>l.getD j 0) l.length
 | []=>rfl
 |a::l=>by rw[nv,Ps l,List.length_cons,I9];rfl
theorem Rh{g:Nat→Int}(h:∀j,w32 (g j)):∀t,0≤lowV g t∧lowV g t<p32 t
 |0=>by simp[lowV,p32]
 |t+1=>by
  have ih:=Rh h t
  have h1:=h t
  have hp:=Js t
  unfold w32 at h1
  simp only[lowV,p32]
  have e1:0≤p32 t*g t:=Int.mul_nonneg (by omega) h1.1
  have e2:p32 t*g t≤p32 t*4294967295:=Int.mul_le_mul_of_nonneg_left (by omega) (by omega)
  omega
def Eb(l m:List Int):Nat→Int
 |0=>0
 |t+1=>if l.getD t 0=m.getD t 0 then Eb l m t else if l.getD t 0<m.getD t 0 then-1 else 1
def sgI(a b:Int):Int:=if a<b then-1 else if a=b then 0 else 1
theorem Zev{a b:Int}(h:a<b):sgI a b= -1:=if_pos h
theorem Zeu{a b:Int}(h:b<a):sgI a b=1:=by unfold sgI;rw[if_neg (by omega),if_neg (by omega)]
theorem sg_add(a b q:Int):sgI (a+q) (b+q)=sgI a b:=by
 rcases Int.lt_trichotomy a b with h|h|h
 ·rw[Zev h,Zev (by omega)]
 ·rw[h];unfold sgI;rw[if_neg (by omega),if_pos rfl,if_neg (by omega),if_pos rfl]
 ·rw[Zeu h,Zeu (by omega)]
theorem Cj{l m:List Int}(hl:wOk l)(hm:wOk m):∀t,Eb l m t=sgI (lowV (fun j=>l.getD j 0) t) (lowV (fun j=>m.getD j 0) t)
 |0=>rfl
 |t+1=>by
  have ih:=Cj hl hm t
  have r1:=Rh hl t
  have r2:=Rh hm t
  have hp:=Js t
  simp only[Eb,lowV]
  by_cases he:l.getD t 0=m.getD t 0
  ·rw[if_pos he,ih,he,sg_add]
  ·rw[if_neg he]
   by_cases hlt:l.getD t 0<m.getD t 0
   ·rw[if_pos hlt]
    have:p32 t*(l.getD t 0+1)≤p32 t*m.getD t 0:=Int.mul_le_mul_of_nonneg_left (by omega) (by omega)
    rw[Int.mul_add]at this
    rw[Zev (by omega)]
   ·rw[if_neg hlt]
    have:p32 t*(m.getD t 0+1)≤p32 t*l.getD t 0:=Int.mul_le_mul_of_nonneg_left (by omega) (by omega)
    rw[Int.mul_add]at this
    rw[Zeu (by omega)]
theorem Ze8:∀(n x:Nat),x≤n→x≠0→p32 ((wds x).length-1)≤x
 |0,x,h,h0=>by omega
 |n+1,x,h,h0=>by
  rw[Wl h0,List.length_cons,Nat.add_sub_cancel]
  by_cases hq:x/4294967296=0
  ·rw[hq,Yc];simp[p32];omega
  ·have ih:=Ze8 n (x/4294967296) (by omega) hq
   have hl:(wds (x/4294967296)).length≠0:=fun e=>hq (Vu.1 e)
   obtain⟨k,hk⟩:∃k,(wds (x/4294967296)).length=k+1:=⟨_,(Nat.succ_pred_eq_of_ne_zero hl).symm⟩
   rw[hk]at ih ⊢
   rw[Nat.add_sub_cancel]at ih
   simp only[p32];omega
theorem Lq{x y:Nat}(h:(wds x).length<(wds y).length):x<y:=by
 have hy:y≠0:=fun e=>by rw[e,Yc]at h;simp at h
 have h1:=Ze8 y y (Nat.le_refl _) hy
 have h2:=(Rh (g:=fun j=>(wds x).getD j 0) (Rv x x (Nat.le_refl _)) (wds x).length).2
 rw[←Ps,Ri x x (Nat.le_refl _)]at h2
 have h3:=B3 (show(wds x).length≤(wds y).length-1 by omega)
 omega
def cmpI(x y:Nat):Int:=if x<y then-1 else if x=y then 0 else 1
set_option maxHeartbeats 4000000 in
theorem M1(x y:Nat)(hx:(wds x).length≤1000)(hy:(wds y).length≤1000):RdC Tryz.prog 39 [.ro (.int .u32) (wds x),.ro (.int .u32) (wds y)] (.one (.a (.int .i64 (cmpI x y)))):=by
 refine S7.fn.rd (by simp) (by simp[Zz]) (by simp[Zz]) fun w=> ?_
 have d0:(Kd.int .u32).dflt=(0:Int):=rfl
 have kx:=Rv x x (Nat.le_refl _)
 have ky:=Rv y y (Nat.le_refl _)
 have vx:=Ri x x (Nat.le_refl _)
 have vy:=Ri y y (Nat.le_refl _)
 have lxy:(wds x).length<(wds y).length→x<y:=Lq
 have lyx:(wds y).length<(wds x).length→y<x:=Lq
 rw[Ps]at vx vy
 generalize wds x=l at*
 generalize wds y=m at*
 have hc:=Cj kx ky l.length
 by_cases hlen:l.length=m.length
 ·have hr:Eb l m l.length=cmpI x y:=by
   rw[hc,vx,hlen,vy]
   unfold cmpI
   rcases Nat.lt_trichotomy x y with h|h|h
   ·rw[if_pos h,Zev (by omega)]
   ·subst h;rw[if_neg (by omega),if_pos rfl];unfold sgI;rw[if_neg (by omega),if_pos rfl]
   ·rw[if_neg (by omega),if_neg (by omega),Zeu (by omega)]
  have hw0:IntKind.i64.wrap ((l.length:Int)-1)=(l.length:Int)-1:=Zk (by omega) (by omega)
  have hl2:((l.length:Nat):Int)=(m.length:Int):=by omega
  have hw2:IntKind.i64.wrap ((m.length:Int)-1)=(m.length:Int)-1:=Zk (by omega) (by omega)
  rw[←hr]
  repeat'(first|(first|refine Stp.h ?_)<;>try simp only[Zc,simprocAttr,↓reduceIte,reduceCtorEq,implies_true,hl2,hw0,decide_true,Bool.not_true]|(with_reducible first|assumption|refine And.intro ?_ ?_)|(intro h;first|omega|exact tg h ‹_›|exact tg ‹_› h|skip))
  all_goals first|omega|skip
  refine T.loop (ι:= {t:Nat//t≤l.length∧Eb l m t=Eb l m l.length}) (fun q=>⟨[(5,.one (.a (.int .i64 ((q.1:Int)-1)))),(0,.one (.a (.ref 0))),(1,.one (.a (.ref 1)))],[(0,.ro (.int .u32) l),(1,.ro (.int .u32) m)],2⟩) (fun q=>q.1) ⟨l.length,Nat.le_refl _,rfl⟩ (Ent.mk1 (id) (by simp[Zt,hlen,hw2])) ?_
  rintro⟨t,ht1,ht2⟩
  simp only
  rcases t with _|t
  ·have hp:¬(0:Int)≤((0:Nat):Int)-1:=by omega
   have hz:Eb l m l.length=0:=ht2.symm
   rw[hz]
   repeat'(first|(first|refine Stp.h ?_)<;>try simp only[Zc,simprocAttr,↓reduceIte,reduceCtorEq,implies_true,hp]|(with_reducible first|assumption|refine And.intro ?_ ?_)|(intro h;first|omega|exact tg h ‹_›|exact tg ‹_› h|skip))
  ·have hp:(0:Int)≤((t+1:Nat):Int)-1:=by omega
   have ht:((t+1:Nat):Int)-1=(t:Int):=by omega
   have hw1:IntKind.i64.wrap ((t:Int)-1)=(t:Int)-1:=Zk (by omega) (by omega)
   have htn:((t:Nat):Int).toNat=t:=by omega
   have t0:(0:Int)≤t:=by omega
   have htl:(t:Int)<l.length:=by omega
   have htl2:t<l.length:=by omega
   have htm:(t:Int)<m.length:=by omega
   have htm2:t<m.length:=by omega
   rw[ht]
   have e3:Eb l m (t+1)=if l.getD t 0=m.getD t 0 then Eb l m t else if l.getD t 0<m.getD t 0 then-1 else 1:=rfl
   rw[e3]at ht2
   by_cases hz:l.getD t 0=m.getD t 0
   ·rw[if_pos hz]at ht2
    repeat'(first|(first|refine Stp.h ?_)<;>try simp only[Zc,simprocAttr,↓reduceIte,reduceCtorEq,implies_true,hw1,t0,htn,htl,htl2,htm,htm2,d0,hz,decide_true,Bool.not_true]|(with_reducible first|assumption|refine And.intro ?_ ?_)|(intro h;first|omega|exact tg h ‹_›|exact tg ‹_› h|skip))
    all_goals first|omega|exact⟨⟨t,by omega,ht2⟩,(Ent.mk1 (id) (by simp[Zt])),by simp only;omega⟩|skip
   ·rw[if_neg hz]at ht2
    rw[←ht2]
    by_cases hlt:l.getD t 0<m.getD t 0
    ·rw[if_pos hlt]
     repeat'(first|(first|refine Stp.h ?_)<;>try simp only[Zc,simprocAttr,↓reduceIte,reduceCtorEq,implies_true,t0,htn,htl,htl2,htm,htm2,d0,hz,hlt,decide_true,decide_false,Bool.not_false]|(with_reducible first|assumption|refine And.intro ?_ ?_)|(intro h;first|omega|exact tg h ‹_›|exact tg ‹_› h|skip))
     all_goals first|omega|skip
    ·rw[if_neg hlt]
     repeat'(first|(first|refine Stp.h ?_)<;>try simp only[Zc,simprocAttr,↓reduceIte,reduceCtorEq,implies_true,t0,htn,htl,htl2,htm,htm2,d0,hz,hlt,decide_true,decide_false,Bool.not_false]|(with_reducible first|assumption|refine And.intro ?_ ?_)|(intro h;first|omega|exact tg h ‹_›|exact tg ‹_› h|skip))
     all_goals first|omega|skip
 ·have hl2:¬((l.length:Nat):Int)=(m.length:Int):=by omega
  by_cases hlt:l.length<m.length
  ·have hr:cmpI x y= -1:=if_pos (lxy hlt)
   have hli:(l.length:Int)<m.length:=by omega
   rw[hr]
   repeat'(first|(first|refine Stp.h ?_)<;>try simp only[Zc,simprocAttr,↓reduceIte,reduceCtorEq,implies_true,hl2,hli,decide_false,decide_true,Bool.not_false]|(with_reducible first|assumption|refine And.intro ?_ ?_)|(intro h;first|omega|exact tg h ‹_›|exact tg ‹_› h|skip))
   all_goals first|omega|skip
  ·have hyx:=lyx (by omega)
   have hr:cmpI x y=1:=by unfold cmpI;rw[if_neg (by omega),if_neg (by omega)]
   have hli:¬(l.length:Int)<m.length:=by omega
   rw[hr]
   repeat'(first|(first|refine Stp.h ?_)<;>try simp only[Zc,simprocAttr,↓reduceIte,reduceCtorEq,implies_true,hl2,hli,decide_false,decide_true,Bool.not_false]|(with_reducible first|assumption|refine And.intro ?_ ?_)|(intro h;first|omega|exact tg h ‹_›|exact tg ‹_› h|skip))
   all_goals first|omega|skip
end Go.Proofs.YtddmlennnmpnhaaGreatDoor
