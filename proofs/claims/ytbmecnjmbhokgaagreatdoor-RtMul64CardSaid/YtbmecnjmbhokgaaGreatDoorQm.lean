/- A part of the proofs of this seat's laws: steps on the way, joined. It has no conditions of its own. -/
import Derived.Test.YtbmecnjmbhokgaaGreatDoorQl
import Derived.Test.YtbmecnjmbhokgaaGreatDoorQj
import Derived.Test.YtbmecnjmbhokgaaGreatDoorQk
import Derived.Test.YtbmecnjmbhokgaaGreatDoorQh
import Derived.Test.YtbmecnjmbhokgaaGreatDoorChecked
import Derived.KernelRfl
namespace Go.Proofs.YtbmecnjmbhokgaaGreatDoor
open Go Go.RowKit Vc
set_option linter.unusedVariables false
set_option linter.unusedSimpArgs false
attribute [local irreducible] T Za Zn Ent RdC RwC Ye Zf Zh
def mcs(f:Nat→Int)(t:List At):List At:=((List.range 8).map fun i=>At.int .i64 (f i))++t
def Q7(f:Nat→Int)(o:Nat)(x:Int):Nat→Int:=fun i=>if i=o then x else f i
theorem Ep{f:Nat→Int}{t:List At}{o:Nat}(h:o<8):(mcs f t)[o]? =some (.int .i64 (f o)):=by
 unfold mcs;rw[List.getElem?_append_left (by simpa using h)];simp[h]
theorem Eo{f:Nat→Int}{t:List At}{o:Nat}(h:8≤o):(mcs f t)[o]? =t[o-8]? :=by
 unfold mcs;rw[List.getElem?_append_right (by simpa using h)];simp
theorem Jr{f:Nat→Int}{t:List At}:(mcs f t).length=8+t.length:=by simp[mcs]
theorem Bn{f:Nat→Int}{t:List At}{o:Nat}(h:8≤o):(mcs f t).take o=mcs f (t.take (o-8)):=by
 unfold mcs;rw[List.take_append,List.take_of_length_le (by simpa using h)];simp
theorem Hc{f:Nat→Int}{t:List At}{o:Nat}(h:8≤o):(mcs f t).drop o=t.drop (o-8):=by
 unfold mcs;rw[List.drop_append,List.drop_of_length_le (by simpa using h)];simp
theorem Zee{f:Nat→Int}{a b:List At}:mcs f a++b=mcs f (a++b):=by simp[mcs]
theorem Es{f:Nat→Int}{t:List At}{o:Nat}{x:Int}(h:o<8):(mcs f t).take o++[.int .i64 x]++(mcs f t).drop (o+1)=mcs (Q7 f o x) t:=by
 have e:mcs (Q7 f o x) t=(mcs f t).set o (.int .i64 x):=by
  apply List.ext_getElem?
  intro i
  rw[List.getElem?_set]
  by_cases hi:i<8
  ·rw[Ep hi]
   by_cases he:o=i
   ·subst he;rw[if_pos rfl,if_pos (by rw[Jr];omega)];simp[Q7]
   ·rw[if_neg he,Ep hi];simp[Q7,Ne.symm he]
  ·rw[Eo (by omega),if_neg (by omega),Eo (by omega)]
 rw[e,List.set_eq_take_append_cons_drop,if_pos (by rw[Jr];omega)];simp
theorem Bm{f:Nat→Int}{t:List At}{x:Int}:(mcs f t).take 7++[.int .i64 x]++t=mcs (Q7 f 7 x) t:=by
 have h:=Es (f:=f) (t:=t) (o:=7) (x:=x) (by decide)
 rw[Hc (by decide)]at h
 exact h
theorem Et{f:Nat→Int}{t:List At}{σ:Nat→At}:(mcs f t).map (At.sub σ)=mcs f (t.map (At.sub σ)):=by
 unfold mcs;rw[List.map_append,List.map_map];rfl
theorem Er{f:Nat→Int}{t:List At}{σ:Nat→Nat}:(mcs f t).map (At.ren σ)=mcs f (t.map (At.ren σ)):=by
 unfold mcs;rw[List.map_append,List.map_map];rfl
theorem Bl{f g:Nat→Int}{t u:List At}{b:Bnd}:Un (mcs f t) (mcs g u) b=Un t u b:=by rfl
theorem Xz{f:Nat→Int}{t:List At}{q:At→Prop}(hq:∀i,q (.int .i64 i)):(∀x,x∈mcs f t→q x)↔∀x∈t,q x:=by
 unfold mcs
 refine⟨fun h x hx=>h x (List.mem_append_right _ hx),fun h x hx=> ?_⟩
 rcases List.mem_append.1 hx with hx|hx
 ·obtain⟨i,_,rfl⟩:=List.mem_map.1 hx;exact hq _
 ·exact h x hx
structure Fl where
 c:Bool
 z:Bool
 n:Bool
 v:Bool
def z14:List At:=mcs (fun _=>0) [.bool false,.bool false,.bool false,.bool false,.int .i64 0,.raw (.slice none 0 0)]
def TL(x:Fl)(at_ how trap rd st:Int):List At:=
 .bool x.c:: .bool x.z:: .bool x.n:: .bool x.v:: .int .i64 at_:: .ref 1:: .ref 2:: .raw (.slice none 0 0):: .int .i64 how:: .int .i64 trap:: .raw (.slice none 0 0):: .int .i64 rd:: .int .i64 st::z14
theorem Ze7:z14.length=14:=rfl
theorem U3{q:At→Prop}(h1:∀i,q (.int .i64 i))(h2:q (.bool false))(h3:q (.raw (.slice none 0 0))):(∀x,x∈z14→q x)↔True:=by
 rw[z14,Xz h1]
 refine⟨fun _=>trivial,fun _ x hx=> ?_⟩
 simp only[List.mem_cons,List.not_mem_nil,or_false]at hx
 rcases hx with rfl|rfl|rfl|rfl|rfl|rfl
 ·exact h2
 ·exact h2
 ·exact h2
 ·exact h2
 ·exact h1 0
 ·exact h3
theorem Ze9{σ:Nat→At}:z14.map (At.sub σ)=z14:=by rw[z14,Et];rfl
theorem Ze8{σ:Nat→Nat}:z14.map (At.ren σ)=z14:=by rw[z14,Er];rfl
theorem Zay{b:Bnd}:Un z14 z14 b=b:=rfl
theorem c8:((8:Nat):Int)=8:=rfl
theorem Z5:type_of%(And.intro @Ep<|And.intro @Eo<|And.intro @Jr<|And.intro @Bn<|And.intro @Hc<|And.intro @Zee<|And.intro @Es<|And.intro @Bm<|And.intro @Et<|And.intro @Er<|And.intro @Bl<|And.intro @Xz<|And.intro @Ze7<|And.intro @U3<|And.intro @Ze9<|And.intro @Ze8<|And.intro @Zay<|And.intro @TL.eq_1<|And.intro Nat.zero_add<|And.intro Nat.add_zero<|And.intro Nat.mul_one<|And.intro Nat.sub_zero c8):=
 ⟨@Ep,@Eo,@Jr,@Bn,@Hc,@Zee,@Es,@Bm,@Et,@Er,@Bl,@Xz,@Ze7,@U3,@Ze9,@Ze8,@Zay,@TL.eq_1,Nat.zero_add,Nat.add_zero,Nat.mul_one,Nat.sub_zero,c8⟩
@[reducible] def MR(f:Nat→Int)(x:Fl)(at_ how trap rd st:Int)(mem code:List Int):List (Nat×Res):=
  [(0,.cells 151 (mcs f (TL x at_ how trap rd st))),(1,.row 3 (.int .i64) mem),(2,.row 3 (.int .i64) code)]
section
variable (f:Nat→Int) (x:Fl) (at_ how trap rd st:Int) (mem code:List Int) (hm:mem.length=65536)
include hm
theorem Zec(p:Int):GC Tryz.prog 119 [.a (.loc 0 0),.a (.int .i64 p)] (MR f x at_ how trap rd st mem code) 3 [0,1,2] (.one (.a (.int .i64 (mem.getD (p%65536).toNat 0)))) (MR f x at_ how trap rd st mem code) 3:=by
 have ha:=Int.emod_nonneg p (show(65536:Int)≠0 by decide)
 have ha2:=Int.emod_lt_of_pos p (show(0:Int)<65536 by decide)
 have e1:=Wr p
 generalize hq:p%65536=q at*
 have hl:q<(mem.length:Int):=by omega
 have hl2:q.toNat<mem.length:=by omega
 have d0:(Kd.int .i64).dflt=(0:Int):=rfl
 refine Sz.fn.gc (by simp) (by simp[Zu,Zw,Zv,Zj,Ze,Vc.S1.okN,At.okN,SV.okN,Res.okN,Res.outOk,Zo,Res.own,Value.oneCell',MR,Xz,TL,U3]) fun w X fr=> ?_
 repeat'(first|(first|refine Stp.h ?_)<;>try simp only[Zc,simprocAttr,↓reduceIte,reduceCtorEq,implies_true,Z5,e1,hl,hl2,ha,d0]|(with_reducible first|assumption|refine And.intro ?_ ?_)|(intro h;first|omega|exact tg h ‹_›|exact tg ‹_› h|skip))
theorem Zal(p v:Int):GC Tryz.prog 120 [.a (.loc 0 0),.a (.int .i64 p),.a (.int .i64 v)] (MR f x at_ how trap rd st mem code) 3 [0,1,2] (.tup []) (MR f x at_ how trap rd st (mem.set (p%65536).toNat (v%65536)) code) 3:=by
 have ha:=Int.emod_nonneg p (show(65536:Int)≠0 by decide)
 have ha2:=Int.emod_lt_of_pos p (show(0:Int)<65536 by decide)
 have e1:=Wr p
 have e2:=Wr v
 generalize hq:p%65536=q at*
 have hl:q<(mem.length:Int):=by omega
 have hl2:q.toNat<mem.length:=by omega
 have d0:(Kd.int .i64).dflt=(0:Int):=rfl
 refine Sa.fn.gc (by simp) (by simp[Zu,Zw,Zv,Zj,Ze,Vc.S1.okN,At.okN,SV.okN,Res.okN,Res.outOk,Zo,Res.own,Value.oneCell',MR,Xz,TL,U3]) fun w X fr=> ?_
 repeat'(first|(first|refine Stp.h ?_)<;>try simp only[Zc,simprocAttr,↓reduceIte,reduceCtorEq,implies_true,Z5,e1,e2,hl,hl2,ha,d0]|(with_reducible first|assumption|refine And.intro ?_ ?_)|(intro h;first|omega|exact tg h ‹_›|exact tg ‹_› h|skip))
theorem Zep(h7:0≤f 7∧f 7≤65535)(v:Int):GC Tryz.prog 124 [.a (.loc 0 0),.a (.int .i64 v)] (MR f x at_ how trap rd st mem code) 3 [0,1,2] (.tup []) (MR (Q7 f 7 ((f 7-1)%65536)) x at_ how trap rd st (mem.set ((f 7-1)%65536).toNat (v%65536)) code) 3:=by
 have w1:IntKind.i64.wrap (f 7-1)=f 7-1:=Zk (by omega) (by omega)
 have e1:=Wr (f 7-1)
 have e3:Q7 f 7 ((f 7-1)%65536) 7=(f 7-1)%65536:=rfl
 have hS:=Zal (Q7 f 7 ((f 7-1)%65536)) x at_ how trap rd st mem code hm ((f 7-1)%65536) v
 have e2:((f 7-1)%65536)%65536=(f 7-1)%65536:=by omega
 rw[e2]at hS
 generalize (f 7-1)%65536=q at*
 refine S0.fn.gc (by simp) (by simp[Zu,Zw,Zv,Zj,Ze,Vc.S1.okN,At.okN,SV.okN,Res.okN,Res.outOk,Zo,Res.own,Value.oneCell',MR,Xz,TL,U3]) fun w X fr=> ?_
 repeat'(first|(first|refine Stp.h ?_|(refine Za.gc hS ?_ ?_;focus simp[Zb,Z5];done))<;>try simp only[Zc,simprocAttr,↓reduceIte,reduceCtorEq,implies_true,Z5,w1,e1,e3,Int.reduceToNat]|(with_reducible first|assumption|refine And.intro ?_ ?_)|(intro h;first|omega|exact tg h ‹_›|exact tg ‹_› h|skip))
theorem pop_gc(h7:0≤f 7∧f 7≤65535):GC Tryz.prog 125 [.a (.loc 0 0)] (MR f x at_ how trap rd st mem code) 3 [0,1,2] (.one (.a (.int .i64 (mem.getD (f 7).toNat 0)))) (MR (Q7 f 7 ((f 7+1)%65536)) x at_ how trap rd st mem code) 3:=by
 have w1:IntKind.i64.wrap (f 7+1)=f 7+1:=Zk (by omega) (by omega)
 have e1:=Wr (f 7+1)
 have hS:=Zec f x at_ how trap rd st mem code hm (f 7)
 have e2:(f 7)%65536=f 7:=by omega
 rw[e2]at hS
 generalize (f 7+1)%65536=q at*
 refine Ry.fn.gc (by simp) (by simp[Zu,Zw,Zv,Zj,Ze,Vc.S1.okN,At.okN,SV.okN,Res.okN,Res.outOk,Zo,Res.own,Value.oneCell',MR,Xz,TL,U3]) fun w X fr=> ?_
 repeat'(first|(first|refine Stp.h ?_|(refine Za.gc hS ?_ ?_;focus simp[Zb,Z5];done))<;>try simp only[Zc,simprocAttr,↓reduceIte,reduceCtorEq,implies_true,Z5,w1,e1,Int.reduceToNat]|(with_reducible first|assumption|refine And.intro ?_ ?_)|(intro h;first|omega|exact tg h ‹_›|exact tg ‹_› h|skip))
omit hm in
theorem Zai(r:Int)(cy:Bool):GC Tryz.prog 165 [.a (.loc 0 0),.a (.int .i64 r),.a (.bool cy)] (MR f x at_ how trap rd st mem code) 3 [0,1,2] (.one (.a (.int .i64 (r%65536)))) (MR f ⟨cy,decide (r%65536=0),decide (32767<r%65536),false⟩ at_ how trap rd st mem code) 3:=by
 have e1:=Wr r
 generalize r%65536=q at*
 refine T9.fn.gc (by simp) (by simp[Zu,Zw,Zv,Zj,Ze,Vc.S1.okN,At.okN,SV.okN,Res.okN,Res.outOk,Zo,Res.own,Value.oneCell',MR,Xz,TL,U3]) fun w X fr=> ?_
 repeat'(first|(first|refine Stp.h ?_)<;>try simp only[Zc,simprocAttr,↓reduceIte,reduceCtorEq,implies_true,Z5,e1]|(with_reducible first|assumption|refine And.intro ?_ ?_)|(intro h;first|omega|exact tg h ‹_›|exact tg ‹_› h|skip))
end
def Rq(r:Int)(cy:Bool):Fl:=⟨cy,decide (r=0),decide (32767<r),false⟩
def Fh(a b:Int)(ci:Bool):Fl:=⟨decide (65535<a+b+cI ci),decide (T8 a b ci=0),decide (32767<T8 a b ci),Zc9 a b (T8 a b ci)⟩
def Nx(a b:Int)(bi:Bool):Fl:=⟨!decide (65535<a+(65535-b)+cI (!bi)),decide (Sh a b bi=0),decide (32767<Sh a b bi),Zc9 a (65535-b) (Sh a b bi)⟩
def twoR(op a b:Int)(x:Fl):Int:=
 if op=5 then T8 a b false else if op=6 then T8 a b x.c else if op=7∨op=12 then Sh a b false else if op=8∨op=13 then Sh a b x.c else
 if op=9 then My .i64 a b%65536 else if op=10 then orI .i64 a b%65536 else Ms .i64 a b%65536
def twoF(op a b:Int)(x:Fl):Fl:=
 if op=5 then Fh a b false else if op=6 then Fh a b x.c else if op=7∨op=12 then Nx a b false else if op=8 then Nx a b x.c else if op=13 then {Nx a b x.c with z:=(Nx a b x.c).z&&x.z}else
 if op=9 then Rq (My .i64 a b%65536) false else if op=10 then Rq (orI .i64 a b%65536) false else Rq (Ms .i64 a b%65536) false
section
variable (f:Nat→Int) (x:Fl) (at_ how trap rd st:Int) (mem code:List Int)
set_option maxHeartbeats 16000000 in
theorem Zi9(op a b:Int)(hop:op=5∨op=6∨op=7∨op=8∨op=12∨op=13∨op=10∨op=11)(ha:0≤a∧a≤65535)(hb:0≤b∧b≤65535):
 GC Tryz.prog 121 [.a (.loc 0 0),.a (.int .i64 op),.a (.int .i64 a),.a (.int .i64 b)] (MR f x at_ how trap rd st mem code) 3 [0,1,2] (.one (.a (.int .i64 (twoR op a b x)))) (MR f (twoF op a b x) at_ how trap rd st mem code) 3:=by
 have hS:∀ci,RdC Tryz.prog 163 [.v (.a (.int .i64 a)),.v (.a (.int .i64 b)),.v (.a (.bool ci))] (.tup [.a (.int .i64 (T8 a b ci)),.agg [.bool (Fh a b ci).c,.bool (Fh a b ci).z,.bool (Fh a b ci).n,.bool (Fh a b ci).v]]):=fun ci=>by
  have:=Zdk a b ci
  have e1:a%65536=a:=by omega
  have e2:b%65536=b:=by omega
  rw[e1,e2]at this
  exact this
 have hD:∀bi,RdC Tryz.prog 164 [.v (.a (.int .i64 a)),.v (.a (.int .i64 b)),.v (.a (.bool bi))] (.tup [.a (.int .i64 (Sh a b bi)),.agg [.bool (Nx a b bi).c,.bool (Nx a b bi).z,.bool (Nx a b bi).n,.bool (Nx a b bi).v]]):=fun bi=>Jy a b bi ha hb
 have key:∀r,GC Tryz.prog 165 [.a (.loc 0 0),.a (.int .i64 r),.a (.bool false)] (MR f x at_ how trap rd st mem code) 3 [0,1,2] (.one (.a (.int .i64 (r%65536)))) (MR f (Rq (r%65536) false) at_ how trap rd st mem code) 3:=fun r=>Zai f x at_ how trap rd st mem code r false
 have hO:=key (orI .i64 a b)
 have hX:=key (Ms .i64 a b)
 refine Rz.fn.gc (by simp) (by simp[Zu,Zw,Zv,Zj,Ze,Vc.S1.okN,At.okN,SV.okN,Res.okN,Res.outOk,Zo,Res.own,Value.oneCell',MR,Xz,TL,U3]) fun w X fr=> ?_
 rcases hop with rfl|rfl|rfl|rfl|rfl|rfl|rfl|rfl<;>simp only[twoR,twoF,Int.reduceEq,↓reduceIte,or_false,or_true,false_or,true_or]<;>
 (repeat'(first|(first|refine Stp.h ?_|((with_reducible first|apply Za.rd (hS _)|apply Zf.rd (hS _));focus((repeat'(first|exact rfl|exact trivial|refine And.intro ?_ ?_|(simp[Zz];done)));done))|((with_reducible first|apply Za.rd (hD _)|apply Zf.rd (hD _));focus((repeat'(first|exact rfl|exact trivial|refine And.intro ?_ ?_|(simp[Zz];done)));done))|(refine Za.gc hO ?_ ?_;focus simp[Zb,Z5];done)|(refine Za.gc hX ?_ ?_;focus simp[Zb,Z5];done))<;>try simp only[Zc,simprocAttr,↓reduceIte,reduceCtorEq,implies_true,Z5]|(with_reducible first|assumption|refine And.intro ?_ ?_)|(intro h;first|omega|exact tg h ‹_›|exact tg ‹_› h|skip)))
theorem Ej(op:Int)(hop:op=19∨op=20∨op=21∨op=22∨op=23):GC Tryz.prog 123 [.a (.loc 0 0),.a (.int .i64 op)] (MR f x at_ how trap rd st mem code) 3 [0,1,2] (.one (.a (.bool (if op=20 then x.z else if op=21 then !x.z else if op=22 then x.c else if op=23 then !x.c else true)))) (MR f x at_ how trap rd st mem code) 3:=by
 refine Sy.fn.gc (by simp) (by simp[Zu,Zw,Zv,Zj,Ze,Vc.S1.okN,At.okN,SV.okN,Res.okN,Res.outOk,Zo,Res.own,Value.oneCell',MR,Xz,TL,U3]) fun w X fr=> ?_
 rcases hop with rfl|rfl|rfl|rfl|rfl<;>simp only[Int.reduceEq,↓reduceIte]<;>
 (repeat'(first|(first|refine Stp.h ?_)<;>try simp only[Zc,simprocAttr,↓reduceIte,reduceCtorEq,implies_true,Z5]|(with_reducible first|assumption|refine And.intro ?_ ?_)|(intro h;first|omega|exact tg h ‹_›|exact tg ‹_› h|skip)))
def shR(op a:Int)(c:Bool):Int:=
 if op=14 then(2*a)%65536 else if op=15 then(2*a+cI c)%65536 else if op=16 then a/2 else if op=17 then a/2+32768*cI (decide (32767<a))else a/2+32768*cI c
def shF(op a:Int)(c:Bool):Fl:=Rq (shR op a c) (if op=14∨op=15 then decide (32767<a)else decide (a%2=1))
theorem Bx(a:Int)(h:0≤a∧a≤65535):orI .i64 (2*a) 1=2*a+1:=by
 obtain⟨n,rfl⟩:=Int.eq_ofNat_of_zero_le h.1
 show IntKind.i64.wrap ((BitVec.ofInt 64 (2*(n:Int))|||BitVec.ofInt 64 1).toNat:Nat)=_
 rw[Xb,Xb 1]
 have e1:(2*(n:Int)%18446744073709551616).toNat=2*n:=by omega
 have e2:((1:Int)%18446744073709551616).toNat=1:=by decide
 rw[e1,e2,BitVec.toNat_or,BitVec.toNat_ofNat,BitVec.toNat_ofNat,Nat.mod_eq_of_lt (by omega),Nat.mod_eq_of_lt (by decide)]
 have e3:2*n|||1=2*n+1:=by
  have:=Nat.two_pow_add_eq_or_of_lt (i:=1) (b:=1) (by decide) n
  rw[Nat.pow_one]at this;exact this.symm
 rw[e3]
 exact Zk (by omega) (by omega) |>.trans (by omega)
theorem orI_top(a:Int)(h:0≤a∧a≤32767):orI .i64 a 32768=a+32768:=by
 obtain⟨n,rfl⟩:=Int.eq_ofNat_of_zero_le h.1
 show IntKind.i64.wrap ((BitVec.ofInt 64 (n:Int)|||BitVec.ofInt 64 32768).toNat:Nat)=_
 rw[Xb,Xb 32768]
 have e1:((n:Int)%18446744073709551616).toNat=n:=by omega
 have e2:((32768:Int)%18446744073709551616).toNat=32768:=by decide
 rw[e1,e2,BitVec.toNat_or,BitVec.toNat_ofNat,BitVec.toNat_ofNat,Nat.mod_eq_of_lt (by omega),Nat.mod_eq_of_lt (by decide)]
 have e3:n|||32768=n+32768:=by
  have h2:32768+n=32768|||n:=Nat.two_pow_add_eq_or_of_lt (i:=15) (b:=n) (by omega) 1
  rw[Nat.or_comm,←h2];omega
 rw[e3]
 exact Zk (by omega) (by omega) |>.trans (by omega)
theorem Bz(a:Int)(h:0≤a∧a≤131070):orI .i64 a 0=a:=by
 obtain⟨n,rfl⟩:=Int.eq_ofNat_of_zero_le h.1
 show IntKind.i64.wrap ((BitVec.ofInt 64 (n:Int)|||BitVec.ofInt 64 0).toNat:Nat)=_
 rw[Xb,Xb 0]
 have e1:((n:Int)%18446744073709551616).toNat=n:=by omega
 rw[e1,BitVec.toNat_or,BitVec.toNat_ofNat,Nat.mod_eq_of_lt (by omega)]
 have e3:n|||(BitVec.ofNat 64 ((0:Int)%18446744073709551616).toNat).toNat=n:=Nat.or_zero n
 rw[e3]
 exact Zk (by omega) (by omega)
theorem and_one(a:Int)(h:0≤a∧a≤65535):My .i64 a 1=a%2:=Ic a 1 1 h.1 (by omega) (by decide) (by decide)
set_option maxHeartbeats 16000000 in
theorem Zc1(op a:Int)(hop:op=14∨op=15∨op=16∨op=17∨op=18)(ha:0≤a∧a≤65535):
 GC Tryz.prog 122 [.a (.loc 0 0),.a (.int .i64 op),.a (.int .i64 a)] (MR f x at_ how trap rd st mem code) 3 [0,1,2] (.one (.a (.int .i64 (shR op a x.c)))) (MR f (shF op a x.c) at_ how trap rd st mem code) 3:=by
 have w1:Rp .i64 a 1=2*a:=by
  show IntKind.i64.wrap (a*2^1)=_
  rw[Zk (by omega) (by omega)];omega
 have w2:Pz .i64 a 1=a/2:=rfl
 have o1:=Bx a ha
 have o2:=Bz (2*a) (by omega)
 have o3:=Bz (a/2) (by omega)
 have o4:=orI_top (a/2) (by omega)
 have a1:=and_one a ha
 have key:∀(r r':Int) (cy:Bool),r%65536=r'→GC Tryz.prog 165 [.a (.loc 0 0),.a (.int .i64 r),.a (.bool cy)] (MR f x at_ how trap rd st mem code) 3 [0,1,2] (.one (.a (.int .i64 r'))) (MR f (Rq r' cy) at_ how trap rd st mem code) 3:=fun r r' cy h=>by
  subst h;exact Zai f x at_ how trap rd st mem code r cy
 have k1:∀ {r:Int},0≤r→r≤65535→r%65536=r:=fun h1 h2=>by omega
 obtain⟨xc,xz,xn,xv⟩:=x
 refine U4.fn.gc (by simp) (by simp[Zu,Zw,Zv,Zj,Ze,Vc.S1.okN,At.okN,SV.okN,Res.okN,Res.outOk,Zo,Res.own,Value.oneCell',MR,Xz,TL,U3]) fun w X fr=> ?_
 rcases hop with rfl|rfl|rfl|rfl|rfl<;>simp only[shR,shF,Int.reduceEq,↓reduceIte,or_false,or_true,true_or]
 ·have hK:=key (2*a) _ (decide (32767<a)) rfl
  repeat'(first|(first|refine Stp.h ?_|(refine Za.gc hK ?_ ?_;focus simp[Zb,Z5];done))<;>try simp only[Zc,simprocAttr,↓reduceIte,reduceCtorEq,implies_true,Z5,w1,o2,Int.reduceToNat]|(with_reducible first|assumption|refine And.intro ?_ ?_)|(intro h;first|omega|exact tg h ‹_›|exact tg ‹_› h|skip))
 ·cases xc
  ·have hK:=key (2*a) ((2*a+cI false)%65536) (decide (32767<a)) (by simp[cI])
   repeat'(first|(first|refine Stp.h ?_|(refine Za.gc hK ?_ ?_;focus simp[Zb,Z5];done))<;>try simp only[Zc,simprocAttr,↓reduceIte,reduceCtorEq,implies_true,Z5,w1,o2,Int.reduceToNat]|(with_reducible first|assumption|refine And.intro ?_ ?_)|(intro h;first|omega|exact tg h ‹_›|exact tg ‹_› h|skip))
  ·have hK:=key (2*a+1) ((2*a+cI true)%65536) (decide (32767<a)) (by simp[cI])
   repeat'(first|(first|refine Stp.h ?_|(refine Za.gc hK ?_ ?_;focus simp[Zb,Z5];done))<;>try simp only[Zc,simprocAttr,↓reduceIte,reduceCtorEq,implies_true,Z5,w1,o1,Int.reduceToNat]|(with_reducible first|assumption|refine And.intro ?_ ?_)|(intro h;first|omega|exact tg h ‹_›|exact tg ‹_› h|skip))
 ·have hK:=key (a/2) (a/2) (decide (a%2=1)) (by omega)
  repeat'(first|(first|refine Stp.h ?_|(refine Za.gc hK ?_ ?_;focus simp[Zb,Z5];done))<;>try simp only[Zc,simprocAttr,↓reduceIte,reduceCtorEq,implies_true,Z5,w2,o3,a1,Int.reduceToNat]|(with_reducible first|assumption|refine And.intro ?_ ?_)|(intro h;first|omega|exact tg h ‹_›|exact tg ‹_› h|skip))
 ·by_cases hb:32767<a
  ·have hK:=key (a/2+32768) (a/2+32768*cI (decide (32767<a))) (decide (a%2=1)) (by simp[cI,hb];omega)
   repeat'(first|(first|refine Stp.h ?_|(refine Za.gc hK ?_ ?_;focus simp[Zb,Z5];done))<;>try simp only[Zc,simprocAttr,↓reduceIte,reduceCtorEq,implies_true,Z5,w2,o4,a1,hb,decide_true,Int.reduceToNat]|(with_reducible first|assumption|refine And.intro ?_ ?_)|(intro h;first|omega|exact tg h ‹_›|exact tg ‹_› h|skip))
   all_goals simp[hb]
  ·have hK:=key (a/2) (a/2+32768*cI (decide (32767<a))) (decide (a%2=1)) (by simp[cI,hb];omega)
   repeat'(first|(first|refine Stp.h ?_|(refine Za.gc hK ?_ ?_;focus simp[Zb,Z5];done))<;>try simp only[Zc,simprocAttr,↓reduceIte,reduceCtorEq,implies_true,Z5,w2,o3,a1,hb,decide_false,Int.reduceToNat]|(with_reducible first|assumption|refine And.intro ?_ ?_)|(intro h;first|omega|exact tg h ‹_›|exact tg ‹_› h|skip))
   all_goals simp[hb]
 ·cases xc
  ·have hK:=key (a/2) (a/2+32768*cI false) (decide (a%2=1)) (by simp[cI];omega)
   repeat'(first|(first|refine Stp.h ?_|(refine Za.gc hK ?_ ?_;focus simp[Zb,Z5];done))<;>try simp only[Zc,simprocAttr,↓reduceIte,reduceCtorEq,implies_true,Z5,w2,o3,a1,Int.reduceToNat]|(with_reducible first|assumption|refine And.intro ?_ ?_)|(intro h;first|omega|exact tg h ‹_›|exact tg ‹_› h|skip))
  ·have hK:=key (a/2+32768) (a/2+32768*cI true) (decide (a%2=1)) (by simp[cI];omega)
   repeat'(first|(first|refine Stp.h ?_|(refine Za.gc hK ?_ ?_;focus simp[Zb,Z5];done))<;>try simp only[Zc,simprocAttr,↓reduceIte,reduceCtorEq,implies_true,Z5,w2,o4,a1,Int.reduceToNat]|(with_reducible first|assumption|refine And.intro ?_ ?_)|(intro h;first|omega|exact tg h ‹_›|exact tg ‹_› h|skip))
end
def w32(n:Int):Prop:=0≤n∧n<4294967296
def wOk(l:List Int):Prop:=∀j,w32 (l.getD j 0)
def nv:List Int→Int
 | []=>0
 |a::r=>a+4294967296*nv r
def wds(x:Nat):List Int:=if h:x=0 then[]else((x%4294967296:Nat):Int)::wds (x/4294967296)
termination_by x
decreasing_by omega
theorem Yd:wds 0=[]:=by rw[wds];simp
theorem Vp{x:Nat}(h:x≠0):wds x=((x%4294967296:Nat):Int)::wds (x/4294967296):=by rw[wds,dif_neg h]
theorem Q8{a:Int}{l:List Int}:wOk (a::l)↔w32 a∧wOk l:=by
 refine⟨fun h=>⟨h 0,fun j=>h (j+1)⟩,fun h j=> ?_⟩
 cases j with
 |zero=>exact h.1
 |succ j=>exact h.2 j
theorem Do:wOk []:=fun j=>by simp[w32]
theorem Rv:∀(n x:Nat),x≤n→wOk (wds x)
 |0,x,h=>by obtain rfl:x=0:=by omega
            rw[Yd];exact Do
 |n+1,x,h=>by
  by_cases hx:x=0
  ·subst hx;rw[Yd];exact Do
  ·rw[Vp hx,Q8]
   exact⟨by unfold w32;omega,Rv n _ (by omega)⟩
theorem Ri:∀(n x:Nat),x≤n→nv (wds x)=x
 |0,x,h=>by obtain rfl:x=0:=by omega
            rw[Yd];rfl
 |n+1,x,h=>by
  by_cases hx:x=0
  ·subst hx;rw[Yd];rfl
  ·rw[Vp hx,nv,Ri n _ (by omega)];omega
theorem nv_nn:∀(l:List Int),wOk l→0≤nv l
 | [],_=>Int.le_refl _
 |a::l,h=>by
  have h1:=(Q8.1 h).1
  have h2:=nv_nn l (Q8.1 h).2
  unfold w32 at h1
  simp only[nv];omega
theorem We:∀(n x:Nat),x<4294967296^n→(wds x).length≤n
 |0,x,h=>by obtain rfl:x=0:=by simpa using h
            rw[Yd];simp
 |n+1,x,h=>by
  by_cases hx:x=0
  ·subst hx;rw[Yd];simp
  ·rw[Vp hx,List.length_cons]
   have:=We n (x/4294967296) (by rw[Nat.pow_succ]at h;exact Nat.div_lt_of_lt_mul (by rw[Nat.mul_comm];exact h))
   omega
theorem Ze4{x:Nat}:wds x=[]↔x=0:=by
 refine⟨fun h=> ?_,fun h=>by rw[h,Yd]⟩
 by_cases hx:x=0
 ·exact hx
 ·rw[Vp hx]at h;cases h
theorem Vg{x:Nat}:(wds x).length=0↔x=0:=by rw[List.length_eq_zero_iff,Ze4]
def W5(l:List Int):Nat→Nat
 |0=>0
 |n+1=>if l.getD n 0=0 then W5 l n else n+1
theorem Zar(l:List Int):∀n,W5 l n≤n
 |0=>Nat.le_refl _
 |n+1=>by unfold W5;split;exact Nat.le_succ_of_le (Zar l n);exact Nat.le_refl _
theorem H4(a:Int)(l:List Int):∀n,W5 (a::l) (n+1)=if W5 l n=0 then(if a=0 then 0 else 1)else W5 l n+1
 |0=>by simp[W5]
 |n+1=>by
  have e1:W5 (a::l) (n+1+1)=if l.getD n 0=0 then W5 (a::l) (n+1)else n+1+1:=rfl
  have e2:W5 l (n+1)=if l.getD n 0=0 then W5 l n else n+1:=rfl
  rw[e1,e2]
  by_cases h:l.getD n 0=0
  ·rw[if_pos h,if_pos h,H4 a l n]
  ·rw[if_neg h,if_neg h];simp
theorem Zas:∀(l:List Int),wOk l→l.take (W5 l l.length)=wds (nv l).toNat
 | [],_=>by simp[W5,nv,Yd]
 |a::l,h=>by
  obtain⟨h1,h2⟩:=Q8.1 h
  have ih:=Zas l h2
  have hn:=nv_nn l h2
  unfold w32 at h1
  rw[List.length_cons,H4]
  have hd:(a+4294967296*nv l).toNat/4294967296=(nv l).toNat:=by omega
  have hm:(((a+4294967296*nv l).toNat%4294967296:Nat):Int)=a:=by omega
  by_cases h0:W5 l l.length=0
  ·rw[h0,List.take_zero]at ih
   have hz:(nv l).toNat=0:=Ze4.1 ih.symm
   rw[if_pos h0]
   by_cases ha:a=0
   ·rw[if_pos ha,List.take_zero]
    have:(nv (a::l)).toNat=0:=by simp only[nv];omega
    rw[this,Yd]
   ·rw[if_neg ha]
    have hx:(nv (a::l)).toNat≠0:=by simp only[nv];omega
    rw[Vp hx]
    simp only[nv]
    rw[hd,hm,hz,Yd];rfl
  ·rw[if_neg h0,List.take_succ_cons,ih]
   have hz:(nv l).toNat≠0:=fun e=>by
    rw[e,Yd]at ih
    have:=congrArg List.length ih
    simp only[List.length_take,List.length_nil]at this
    have:=Zar l l.length
    omega
   have hx:(nv (a::l)).toNat≠0:=by simp only[nv];omega
   rw[Vp hx]
   simp only[nv]
   rw[hd,hm]
set_option maxHeartbeats 4000000 in
theorem Zi8(l:List Int)(hl:wOk l)(h0:0<l.length∧l.length≤1000)(w:World)(X:List Nat)(fr:List Value):T ⟨Tryz.prog,w,X,21,fr⟩ Xa.code (Q4 ⟨Tryz.prog,w,X,21,fr⟩ [RV.tmp 2] (Cq [] (.one (.a (.ref 1))) [(1,.row 87 (.int .u32) (wds (nv l).toNat))])) ⟨[(0,.one (.a (.ref 0)))],[(0,.row 87 (.int .u32) l)],1⟩:=by
 repeat'(first|(first|refine Stp.h ?_)<;>try simp only[Zc,simprocAttr,↓reduceIte,reduceCtorEq,implies_true]|(with_reducible first|assumption|refine And.intro ?_ ?_)|(intro h;first|omega|exact tg h ‹_›|exact tg ‹_› h|skip))
 all_goals first|omega|skip
 refine T.loop (ι:= {t:Nat//t≤l.length∧W5 l t=W5 l l.length}) (fun y=>⟨[(3,.one (.a (.int .i64 (y.1:Int)))),(0,.one (.a (.ref 0)))],[(0,.row 87 (.int .u32) l)],1⟩) (fun y=>y.1) ⟨l.length,Nat.le_refl _,rfl⟩ (Ent.mk1 (id) (by simp[Zx])) ?_
 rintro⟨t,ht1,ht2⟩
 simp only
 have fin:W5 l t=t→t=W5 l l.length:=fun h=>by omega
 have last:∀t,t≤l.length→t=W5 l l.length→T ⟨Tryz.prog,w,X,21,fr⟩ Xa.c6 (Q4 ⟨Tryz.prog,w,X,21,fr⟩ [RV.tmp 2] (Cq [] (.one (.a (.ref 1))) [(1,.row 87 (.int .u32) (wds (nv l).toNat))])) ⟨[(3,.one (.a (.int .i64 (t:Int)))),(0,.one (.a (.ref 0)))],[(0,.row 87 (.int .u32) l)],1⟩:=fun t h1 h2=>by
  show T _ (.seq (.reg Xa.r4) .ret) _ _
  have htn:((t:Int)).toNat=t:=by omega
  have tz:(0:Int).toNat=0:=rfl
  have t0:(0:Int)≤t:=by omega
  refine T.cut (ι:=Unit) (fun _=>⟨[(2,.one (.a (.ref 1)))],[(1,.view 0 1 0 t),(0,.row 87 (.int .u32) l)],2⟩) ?_ fun _=> ?_
  ·repeat'(first|(first|refine Stp.h ?_)<;>try simp only[Zc,simprocAttr,↓reduceIte,reduceCtorEq,implies_true,htn,tz,t0,h1,Nat.zero_add,Nat.add_zero]|(with_reducible first|assumption|refine And.intro ?_ ?_)|(intro h;first|omega|exact tg h ‹_›|exact tg ‹_› h|skip))
   all_goals first|omega|exact⟨(),(Ent.mk1 (id) (by simp[Zx]))⟩|skip
  ·refine T.weak (Ent.viewRow 0 1 t rfl rfl rfl h1 h0.1) ?_
   rw[h2,Zas l hl]
   repeat'(first|(first|refine Stp.h ?_)<;>try simp only[Zc,simprocAttr,↓reduceIte,reduceCtorEq,implies_true]|(with_reducible first|assumption|refine And.intro ?_ ?_)|(intro h;first|omega|exact tg h ‹_›|exact tg ‹_› h|skip))
 rcases t with _|t
 ·have hp:¬(0:Int)<((0:Nat):Int):=by omega
  repeat'(first|(first|refine Stp.h ?_)<;>try simp only[Zc,simprocAttr,↓reduceIte,reduceCtorEq,implies_true,hp,decide_false]|(with_reducible first|assumption|refine And.intro ?_ ?_)|(intro h;first|omega|exact tg h ‹_›|exact tg ‹_› h|skip))
  all_goals first|omega|exact T.weak (Ent.mk1 (id) (by simp[Zx])) (last 0 (Nat.zero_le _) (fin rfl))|skip
 ·have hw1:IntKind.i64.wrap (((t+1:Nat):Int)-1)=(t:Int):=by rw[Zk (by omega) (by omega)];omega
  have hp:(0:Int)<((t+1:Nat):Int):=by omega
  have htn:((t:Nat):Int).toNat=t:=by omega
  have htl:(t:Int)<l.length:=by omega
  have htl2:t<l.length:=by omega
  have d0:(Kd.int .u32).dflt=(0:Int):=rfl
  by_cases hz:l.getD t 0=0
  ·have ht3:W5 l t=W5 l l.length:=by rw[←ht2,W5,if_pos hz]
   repeat'(first|(first|refine Stp.h ?_)<;>try simp only[Zc,simprocAttr,↓reduceIte,reduceCtorEq,implies_true,hw1,hp,htn,htl,htl2,d0,hz,decide_true,Int.ofNat_lt]|(with_reducible first|assumption|refine And.intro ?_ ?_)|(intro h;first|omega|exact tg h ‹_›|exact tg ‹_› h|skip))
   all_goals first|omega|exact⟨⟨t,by omega,ht3⟩,(Ent.mk1 (id) (by simp[Zx])),by simp only;omega⟩|skip
  ·have ht3:W5 l (t+1)=t+1:=by rw[W5,if_neg hz]
   repeat'(first|(first|refine Stp.h ?_)<;>try simp only[Zc,simprocAttr,↓reduceIte,reduceCtorEq,implies_true,hw1,hp,htn,htl,htl2,d0,hz,decide_true,decide_false,Int.ofNat_lt]|(with_reducible first|assumption|refine And.intro ?_ ?_)|(intro h;first|omega|exact tg h ‹_›|exact tg ‹_› h|skip))
   all_goals first|omega|exact T.weak (Ent.mk1 (id) (by simp[Zx])) (last (t+1) ht1 (fin ht3))|skip
theorem P2(l:List Int)(hl:wOk l)(h0:0<l.length∧l.length≤1000):GC Tryz.prog 50 [.a (.ref 0)] [(0,.row 87 (.int .u32) l)] 1 [] (.one (.a (.ref 1))) [(1,.row 87 (.int .u32) (wds (nv l).toNat))] 2:=by
 refine Xa.fn.gc (by simp) (by simp[Zu,Zw,Zv,Zj,Ze,Vc.S1.okN,At.okN,SV.okN,Res.okN,Res.outOk,Zo,Res.own,Value.oneCell']) fun w X fr=> ?_
 exact T.weak (Ent.mk1 id (by simp[Zx,Y4,Vc.frS])) (Zi8 l hl h0 w X fr)
theorem Zi7(a b:Int)(ha:w32 a)(hb:w32 b):GC Tryz.prog 50 [.a (.ref 0)] [(0,.lit 87 1 2 [.int .u32 a,.int .u32 b])] 1 [] (.one (.a (.ref 1))) [(1,.row 87 (.int .u32) (wds (a+4294967296*b).toNat))] 2:=by
 have h:nv [a,b]=a+4294967296*b:=by simp[nv]
 have ho:wOk [a,b]:=Q8.2 ⟨ha,Q8.2 ⟨hb,Do⟩⟩
 have key:=Zi8 [a,b] ho ⟨by simp,by simp⟩
 rw[h]at key
 refine Xa.fn.gc (by simp) (by simp[Zu,Zw,Zv,Zj,Ze,Vc.S1.okN,At.okN,SV.okN,Res.okN,Res.outOk,Zo,Res.own,Value.oneCell']) fun w X fr=> ?_
 refine T.weak (Ent.litRow (m:=0) (E:=87) (z:=1) (e:=2) (l:=[.int .u32 a,.int .u32 b]) (.int .u32) [a,b] rfl rfl rfl rfl (by decide)) ?_
 exact T.weak (Ent.mk1 id (by simp[Zx,Y4,Vc.frS])) (key w X fr)
theorem Lp(x:Nat)(hx:x<18446744073709551616):GC Tryz.prog 37 [.a (.int .u64 (x:Int))] [] 0 [] (.one (.a (.ref 0))) [(0,.row 87 (.int .u32) (wds x))] 1:=by
 have w1:IntKind.u32.wrap (x:Int)=(x:Int)%4294967296:=by rw[IntKind.wrap_u32]
 have w2:Pz .u64 (x:Int) 32=(x:Int)/4294967296:=rfl
 have w3:IntKind.u32.wrap ((x:Int)/4294967296)=(x:Int)/4294967296:=by rw[IntKind.wrap_u32];omega
 have hT:=Zi7 ((x:Int)%4294967296) ((x:Int)/4294967296) (by unfold w32;omega) (by unfold w32;omega)
 have e:((x:Int)%4294967296+4294967296*((x:Int)/4294967296)).toNat=x:=by omega
 rw[e]at hT
 refine To.fn.gc (by simp) (by simp[Zu,Zw,Zv,Zj,Ze,Vc.S1.okN,At.okN,SV.okN,Res.okN,Res.outOk,Zo,Res.own,Value.oneCell']) fun w X fr=> ?_
 repeat'(first|(first|refine Stp.h ?_|(refine Za.gc hT ?_ ?_;focus simp[Zb];done))<;>try simp only[Zc,simprocAttr,↓reduceIte,reduceCtorEq,implies_true,w1,w2,w3,Int.reduceToNat]|(with_reducible first|assumption|refine And.intro ?_ ?_)|(intro h;first|omega|exact tg h ‹_›|exact tg ‹_› h|skip))
theorem Ze0(l:List Int)(hl:l.length≤1000):GC Tryz.prog 51 [.a (.ref 0)] [(0,.ro (.int .u32) l)] 1 [] (.one (.a (.ref 1))) [(1,.row 87 (.int .u32) l)] 2:=by
 have h1:l.length*4≤140737488355328:=by omega
 have h2:l.length≤4611686018427387904:=by omega
 refine Sb.fn.gc (by simp) (by simp[Zu,Zw,Zv,Zj,Ze,Vc.S1.okN,At.okN,SV.okN,Res.okN,Res.outOk,Zo,Res.own,Value.oneCell']) fun w X fr=> ?_
 repeat'(first|(first|refine Stp.h ?_)<;>try simp only[Zc,simprocAttr,↓reduceIte,reduceCtorEq,implies_true,h1,h2]|(with_reducible first|assumption|refine And.intro ?_ ?_)|(intro h;first|omega|exact tg h ‹_›|exact tg ‹_› h|skip))
theorem wds_cases(x:Nat)(hx:x<18446744073709551616):(x=0∧wds x=[])∨(0<x∧x<4294967296∧wds x=[(x:Int)])∨(4294967296≤x∧wds x=[((x%4294967296:Nat):Int),((x/4294967296:Nat):Int)]):=by
 by_cases h0:x=0
 ·left;subst h0;exact⟨rfl,Yd⟩
 ·right
  rw[Vp h0]
  by_cases h1:x<4294967296
  ·left
   have e:x/4294967296=0:=by omega
   rw[e,Yd,Nat.mod_eq_of_lt h1];exact⟨by omega,h1,rfl⟩
  ·right
   have e:x/4294967296≠0:=by omega
   have e2:x/4294967296/4294967296=0:=by omega
   rw[Vp e,e2,Yd,Nat.mod_eq_of_lt (show x/4294967296<4294967296 by omega)];exact⟨by omega,rfl⟩
theorem Zen(a b:Int)(ha:w32 a)(hb:w32 b):orI .u64 a (b*4294967296)=a+4294967296*b:=by
 unfold w32 at ha hb
 obtain⟨n,rfl⟩:=Int.eq_ofNat_of_zero_le ha.1
 obtain⟨m,rfl⟩:=Int.eq_ofNat_of_zero_le hb.1
 show IntKind.u64.wrap ((BitVec.ofInt 64 (n:Int)|||BitVec.ofInt 64 ((m:Int)*4294967296)).toNat:Nat)=_
 rw[Xb,Xb ((m:Int)*4294967296)]
 have e1:((n:Int)%18446744073709551616).toNat=n:=by omega
 have e2:((m:Int)*4294967296%18446744073709551616).toNat=4294967296*m:=by omega
 rw[e1,e2,BitVec.toNat_or,BitVec.toNat_ofNat,BitVec.toNat_ofNat,Nat.mod_eq_of_lt (by omega),Nat.mod_eq_of_lt (by omega)]
 have h2:4294967296*m+n=4294967296*m|||n:=Nat.two_pow_add_eq_or_of_lt (i:=32) (b:=n) (by omega) m
 rw[Nat.or_comm,←h2]
 rw[IntWalk.u64_in _ (by omega)];omega
theorem Fd(x:Nat)(hx:x<18446744073709551616):RdC Tryz.prog 52 [.ro (.int .u32) (wds x)] (.one (.a (.int .u64 (x:Int)))):=by
 refine Tl.fn.rd (by simp) (by simp[Zz]) (by simp[Zz]) fun w=> ?_
 have d0:(Kd.int .u32).dflt=(0:Int):=rfl
 have c1:((1:Nat):Int)=1:=rfl
 have c0:((0:Nat):Int)=0:=rfl
 have c2:((2:Nat):Int)=2:=rfl
 rcases wds_cases x hx with⟨rfl,e⟩|⟨h0,h1,e⟩|⟨h1,e⟩<;>rw[e]
 ·repeat'(first|(first|refine Stp.h ?_)<;>try simp only[Zc,simprocAttr,↓reduceIte,reduceCtorEq,implies_true,List.length_nil,c0]|(with_reducible first|assumption|refine And.intro ?_ ?_)|(intro h;first|omega|exact tg h ‹_›|exact tg ‹_› h|skip))
 ·have w1:IntKind.u64.wrap (x:Int)=x:=by rw[IntWalk.u64_in _ (by omega)]
  repeat'(first|(first|refine Stp.h ?_)<;>try simp only[Zc,simprocAttr,↓reduceIte,reduceCtorEq,implies_true,w1,Int.reduceToNat,List.length_cons,List.length_nil,List.getD_cons_zero,Nat.zero_add,c1,d0]|(with_reducible first|assumption|refine And.intro ?_ ?_)|(intro h;first|omega|exact tg h ‹_›|exact tg ‹_› h|skip))
 ·have hl:((x%4294967296:Nat):Int)<4294967296:=by omega
  have hh:((x/4294967296:Nat):Int)<4294967296:=by omega
  have w1:IntKind.u64.wrap ((x%4294967296:Nat):Int)=((x%4294967296:Nat):Int):=by rw[IntWalk.u64_in _ (by omega)]
  have w2:IntKind.u64.wrap ((x/4294967296:Nat):Int)=((x/4294967296:Nat):Int):=by rw[IntWalk.u64_in _ (by omega)]
  have w3:Rp .u64 ((x/4294967296:Nat):Int) 32=((x/4294967296:Nat):Int)*4294967296:=by
   show IntKind.u64.wrap (((x/4294967296:Nat):Int)*2^32)=_
   rw[IntWalk.u64_in _ (by omega)];rfl
  have w4:=Zen ((x%4294967296:Nat):Int) ((x/4294967296:Nat):Int) ⟨by omega,hl⟩ ⟨by omega,hh⟩
  have w5:((x%4294967296:Nat):Int)+4294967296*((x/4294967296:Nat):Int)=x:=by omega
  rw[w5]at w4
  generalize ((x%4294967296:Nat):Int)=a at*
  generalize ((x/4294967296:Nat):Int)=b at*
  repeat'(first|(first|refine Stp.h ?_)<;>try simp only[Zc,simprocAttr,↓reduceIte,reduceCtorEq,implies_true,w1,w2,w3,w4,Int.reduceToNat,List.length_cons,List.length_nil,List.getD_cons_zero,List.getD_cons_succ,Nat.zero_add,c1,c2,d0]|(with_reducible first|assumption|refine And.intro ?_ ?_)|(intro h;first|omega|exact tg h ‹_›|exact tg ‹_› h|skip))
def p32:Nat→Int
 |0=>1
 |n+1=>4294967296*p32 n
theorem Js:∀n,0<p32 n
 |0=>by decide
 |n+1=>by have:=Js n;simp only[p32];omega
theorem B1:∀ {m n:Nat},m≤n→p32 m≤p32 n
 |m,0,h=>by obtain rfl:m=0:=by omega
            exact Int.le_refl _
 |m,n+1,h=>by
  rcases Nat.lt_or_ge m (n+1)with h1|h1
  ·have:=B1 (show m≤n by omega)
   have:=Js n
   simp only[p32];omega
  ·obtain rfl:m=n+1:=by omega
   exact Int.le_refl _
def lowV(g:Nat→Int):Nat→Int
 |0=>0
 |t+1=>lowV g t+p32 t*g t
theorem Ha(g:Nat→Int):∀t,lowV g (t+1)=g 0+4294967296*lowV (fun j=>g (j+1)) t
 |0=>by simp[lowV,p32]
 |t+1=>by
  rw[lowV,Ha g t,lowV,p32,Int.mul_add,Int.mul_assoc];omega
theorem Ps:∀l:List Int,nv l=lowV (fun j=>l.getD j 0) l.length
 | []=>rfl
 |a::l=>by rw[nv,Ps l,List.length_cons,Ha];rfl
theorem Rh{g:Nat→Int}(h:∀j,w32 (g j)):∀t,0≤lowV g t∧lowV g t<p32 t
 |0=>by simp[lowV,p32]
 |t+1=>by
  have ih:=Rh h t
  have h1:=h t
  have hp:=Js t
  unfold w32 at h1
  simp only[lowV,p32]
  have e1:0≤p32 t*g t:=Int.mul_nonneg (by omega) h1.1
  have e2:p32 t*g t≤p32 t*4294967295:=Int.mul_le_mul_of_nonneg_left (by omega) (by omega)
  omega
def F8(l m:List Int):Nat→Int
 |0=>0
 |t+1=>if l.getD t 0=m.getD t 0 then F8 l m t else if l.getD t 0<m.getD t 0 then-1 else 1
def sgI(a b:Int):Int:=if a<b then-1 else if a=b then 0 else 1
theorem Zes{a b:Int}(h:a<b):sgI a b= -1:=if_pos h
theorem Zer{a b:Int}(h:b<a):sgI a b=1:=by unfold sgI;rw[if_neg (by omega),if_neg (by omega)]
theorem sg_add(a b q:Int):sgI (a+q) (b+q)=sgI a b:=by
 rcases Int.lt_trichotomy a b with h|h|h
 ·rw[Zes h,Zes (by omega)]
 ·rw[h];unfold sgI;rw[if_neg (by omega),if_pos rfl,if_neg (by omega),if_pos rfl]
 ·rw[Zer h,Zer (by omega)]
theorem Ce{l m:List Int}(hl:wOk l)(hm:wOk m):∀t,F8 l m t=sgI (lowV (fun j=>l.getD j 0) t) (lowV (fun j=>m.getD j 0) t)
 |0=>rfl
 |t+1=>by
  have ih:=Ce hl hm t
  have r1:=Rh hl t
  have r2:=Rh hm t
  have hp:=Js t
  simp only[F8,lowV]
  by_cases he:l.getD t 0=m.getD t 0
  ·rw[if_pos he,ih,he,sg_add]
  ·rw[if_neg he]
   by_cases hlt:l.getD t 0<m.getD t 0
   ·rw[if_pos hlt]
    have:p32 t*(l.getD t 0+1)≤p32 t*m.getD t 0:=Int.mul_le_mul_of_nonneg_left (by omega) (by omega)
    rw[Int.mul_add]at this
    rw[Zes (by omega)]
   ·rw[if_neg hlt]
    have:p32 t*(m.getD t 0+1)≤p32 t*l.getD t 0:=Int.mul_le_mul_of_nonneg_left (by omega) (by omega)
    rw[Int.mul_add]at this
    rw[Zer (by omega)]
theorem Ze5:∀(n x:Nat),x≤n→x≠0→p32 ((wds x).length-1)≤x
 |0,x,h,h0=>by omega
 |n+1,x,h,h0=>by
  rw[Vp h0,List.length_cons,Nat.add_sub_cancel]
  by_cases hq:x/4294967296=0
  ·rw[hq,Yd];simp[p32];omega
  ·have ih:=Ze5 n (x/4294967296) (by omega) hq
   have hl:(wds (x/4294967296)).length≠0:=fun e=>hq (Vg.1 e)
   obtain⟨k,hk⟩:∃k,(wds (x/4294967296)).length=k+1:=⟨_,(Nat.succ_pred_eq_of_ne_zero hl).symm⟩
   rw[hk]at ih ⊢
   rw[Nat.add_sub_cancel]at ih
   simp only[p32];omega
theorem Lo{x y:Nat}(h:(wds x).length<(wds y).length):x<y:=by
 have hy:y≠0:=fun e=>by rw[e,Yd]at h;simp at h
 have h1:=Ze5 y y (Nat.le_refl _) hy
 have h2:=(Rh (g:=fun j=>(wds x).getD j 0) (Rv x x (Nat.le_refl _)) (wds x).length).2
 rw[←Ps,Ri x x (Nat.le_refl _)]at h2
 have h3:=B1 (show(wds x).length≤(wds y).length-1 by omega)
 omega
def cmpI(x y:Nat):Int:=if x<y then-1 else if x=y then 0 else 1
set_option maxHeartbeats 4000000 in
theorem Jn(x y:Nat)(hx:(wds x).length≤1000)(hy:(wds y).length≤1000):RdC Tryz.prog 36 [.ro (.int .u32) (wds x),.ro (.int .u32) (wds y)] (.one (.a (.int .i64 (cmpI x y)))):=by
 refine S4.fn.rd (by simp) (by simp[Zz]) (by simp[Zz]) fun w=> ?_
 have d0:(Kd.int .u32).dflt=(0:Int):=rfl
 have kx:=Rv x x (Nat.le_refl _)
 have ky:=Rv y y (Nat.le_refl _)
 have vx:=Ri x x (Nat.le_refl _)
 have vy:=Ri y y (Nat.le_refl _)
 have lxy:(wds x).length<(wds y).length→x<y:=Lo
 have lyx:(wds y).length<(wds x).length→y<x:=Lo
 rw[Ps]at vx vy
 generalize wds x=l at*
 generalize wds y=m at*
 have hc:=Ce kx ky l.length
 by_cases hlen:l.length=m.length
 ·have hr:F8 l m l.length=cmpI x y:=by
   rw[hc,vx,hlen,vy]
   unfold cmpI
   rcases Nat.lt_trichotomy x y with h|h|h
   ·rw[if_pos h,Zes (by omega)]
   ·subst h;rw[if_neg (by omega),if_pos rfl];unfold sgI;rw[if_neg (by omega),if_pos rfl]
   ·rw[if_neg (by omega),if_neg (by omega),Zer (by omega)]
  have hw0:IntKind.i64.wrap ((l.length:Int)-1)=(l.length:Int)-1:=Zk (by omega) (by omega)
  have hl2:((l.length:Nat):Int)=(m.length:Int):=by omega
  have hw2:IntKind.i64.wrap ((m.length:Int)-1)=(m.length:Int)-1:=Zk (by omega) (by omega)
  rw[←hr]
  repeat'(first|(first|refine Stp.h ?_)<;>try simp only[Zc,simprocAttr,↓reduceIte,reduceCtorEq,implies_true,hl2,hw0,decide_true,Bool.not_true]|(with_reducible first|assumption|refine And.intro ?_ ?_)|(intro h;first|omega|exact tg h ‹_›|exact tg ‹_› h|skip))
  all_goals first|omega|skip
  refine T.loop (ι:= {t:Nat//t≤l.length∧F8 l m t=F8 l m l.length}) (fun q=>⟨[(5,.one (.a (.int .i64 ((q.1:Int)-1)))),(0,.one (.a (.ref 0))),(1,.one (.a (.ref 1)))],[(0,.ro (.int .u32) l),(1,.ro (.int .u32) m)],2⟩) (fun q=>q.1) ⟨l.length,Nat.le_refl _,rfl⟩ (Ent.mk1 (id) (by simp[Zx,hlen,hw2])) ?_
  rintro⟨t,ht1,ht2⟩
  simp only
  rcases t with _|t
  ·have hp:¬(0:Int)≤((0:Nat):Int)-1:=by omega
   have hz:F8 l m l.length=0:=ht2.symm
   rw[hz]
   repeat'(first|(first|refine Stp.h ?_)<;>try simp only[Zc,simprocAttr,↓reduceIte,reduceCtorEq,implies_true,hp]|(with_reducible first|assumption|refine And.intro ?_ ?_)|(intro h;first|omega|exact tg h ‹_›|exact tg ‹_› h|skip))
  ·have hp:(0:Int)≤((t+1:Nat):Int)-1:=by omega
   have ht:((t+1:Nat):Int)-1=(t:Int):=by omega
   have hw1:IntKind.i64.wrap ((t:Int)-1)=(t:Int)-1:=Zk (by omega) (by omega)
   have htn:((t:Nat):Int).toNat=t:=by omega
   have t0:(0:Int)≤t:=by omega
   have htl:(t:Int)<l.length:=by omega
   have htl2:t<l.length:=by omega
   have htm:(t:Int)<m.length:=by omega
   have htm2:t<m.length:=by omega
   rw[ht]
   have e3:F8 l m (t+1)=if l.getD t 0=m.getD t 0 then F8 l m t else if l.getD t 0<m.getD t 0 then-1 else 1:=rfl
   rw[e3]at ht2
   by_cases hz:l.getD t 0=m.getD t 0
   ·rw[if_pos hz]at ht2
    repeat'(first|(first|refine Stp.h ?_)<;>try simp only[Zc,simprocAttr,↓reduceIte,reduceCtorEq,implies_true,hw1,t0,htn,htl,htl2,htm,htm2,d0,hz,decide_true,Bool.not_true]|(with_reducible first|assumption|refine And.intro ?_ ?_)|(intro h;first|omega|exact tg h ‹_›|exact tg ‹_› h|skip))
    all_goals first|omega|exact⟨⟨t,by omega,ht2⟩,(Ent.mk1 (id) (by simp[Zx])),by simp only;omega⟩|skip
   ·rw[if_neg hz]at ht2
    rw[←ht2]
    by_cases hlt:l.getD t 0<m.getD t 0
    ·rw[if_pos hlt]
     repeat'(first|(first|refine Stp.h ?_)<;>try simp only[Zc,simprocAttr,↓reduceIte,reduceCtorEq,implies_true,t0,htn,htl,htl2,htm,htm2,d0,hz,hlt,decide_true,decide_false,Bool.not_false]|(with_reducible first|assumption|refine And.intro ?_ ?_)|(intro h;first|omega|exact tg h ‹_›|exact tg ‹_› h|skip))
     all_goals first|omega|skip
    ·rw[if_neg hlt]
     repeat'(first|(first|refine Stp.h ?_)<;>try simp only[Zc,simprocAttr,↓reduceIte,reduceCtorEq,implies_true,t0,htn,htl,htl2,htm,htm2,d0,hz,hlt,decide_true,decide_false,Bool.not_false]|(with_reducible first|assumption|refine And.intro ?_ ?_)|(intro h;first|omega|exact tg h ‹_›|exact tg ‹_› h|skip))
     all_goals first|omega|skip
 ·have hl2:¬((l.length:Nat):Int)=(m.length:Int):=by omega
  by_cases hlt:l.length<m.length
  ·have hr:cmpI x y= -1:=if_pos (lxy hlt)
   have hli:(l.length:Int)<m.length:=by omega
   rw[hr]
   repeat'(first|(first|refine Stp.h ?_)<;>try simp only[Zc,simprocAttr,↓reduceIte,reduceCtorEq,implies_true,hl2,hli,decide_false,decide_true,Bool.not_false]|(with_reducible first|assumption|refine And.intro ?_ ?_)|(intro h;first|omega|exact tg h ‹_›|exact tg ‹_› h|skip))
   all_goals first|omega|skip
  ·have hyx:=lyx (by omega)
   have hr:cmpI x y=1:=by unfold cmpI;rw[if_neg (by omega),if_neg (by omega)]
   have hli:¬(l.length:Int)<m.length:=by omega
   rw[hr]
   repeat'(first|(first|refine Stp.h ?_)<;>try simp only[Zc,simprocAttr,↓reduceIte,reduceCtorEq,implies_true,hl2,hli,decide_false,decide_true,Bool.not_false]|(with_reducible first|assumption|refine And.intro ?_ ?_)|(intro h;first|omega|exact tg h ‹_›|exact tg ‹_› h|skip))
   all_goals first|omega|skip
end Go.Proofs.YtbmecnjmbhokgaaGreatDoor
namespace Go.Proofs.YtbmecnjmbhokgaaGreatDoor
open Vc
namespace Xf
abbrev r0:List In:=[i1 14 (.alloc 52 [.int .i64 0,.int .i64 0,.raw (.slice none 0 0),.int .i64 0,.int .i64 0,.int .i64 0,.int .i64 0,.int .i64 0,.int .i64 0,.int .i64 0,.int .i64 0,.int .i64 0,.int .i64 0,.bool false,.bool false,.bool false,.bool false,.int .i64 0,.raw (.slice none 0 0)]), i1 15 (.mv (.k (.a (.raw (.slice none 0 0))))), i1 16 (.mv (kB false))]
abbrev r1:List In:=[i1 25 (.call 42 []), i1 26 (.build [.str [],.int .i64 0,.int .i64 0,.int .i64 0,.int .i64 0,.str []] [(0,1,(.k (.a (.str [109,97,105,110]))))]), i1 27 (.build [.int .i64 0,.int .i64 0,.int .i64 0,.int .i64 0] [(0,1,(kI 26))]), mv 28 0, i1 29 (.build [.str [],.int .i64 0,.int .i64 0,.int .i64 0,.int .i64 0,.str []] [(1,4,(.t 27)),(5,1,(.t 28))]), i1 30 (.build [.int .i64 0,.int .i64 0,.int .i64 0,.int .i64 0] [(0,1,(kI 0))]), i1 31 (.build [.str [],.int .i64 0,.int .i64 0,.int .i64 0,.int .i64 0,.str []] [(1,4,(.t 30))]), i1 32 (.bsl 72 6 3 [.str [],.int .i64 0,.int .i64 0,.int .i64 0,.int .i64 0,.str [],.str [],.int .i64 0,.int .i64 0,.int .i64 0,.int .i64 0,.str [],.str [],.int .i64 0,.int .i64 0,.int .i64 0,.int .i64 0,.str []] [(0,6,(.t 26)),(6,6,(.t 29)),(12,6,(.t 31))]), i1 33 (.build [.str [],.raw (.slice none 0 0)] [(1,1,(.t 32))]), i1 34 (.bsl 75 2 1 [.str [],.raw (.slice none 0 0)] [(0,2,(.t 33))]), i1 35 (.app 67 75 2 40 (.t 25) (.t 34)), mv 17 35]
abbrev r2:List In:=[mv 37 17, i1 38 (.call 43 [.t 37,(.k (.a (.str [109,97,105,110])))]), mv 36 38, i1 39 (.ext 0 (.t 36)), i1 40 (.ext 1 (.t 36)), i1 18 (.alloc 78 [.raw (.slice none 0 0),.raw (.slice none 0 0),.raw (.slice none 0 0)]), i1 19 (.alloc 80 [.int .i64 0,.int .i64 0]), i0 (.store 3 (.t 18) (.t 39)), i0 (.store 2 (.t 19) (.t 40))]
abbrev r3:List In:=[i1 41 (.mks 3 (.int .i64) 8 (kI 65536) (kI 65536)), mv 20 41]
abbrev r4:List In:=[mv 42 20, i1 43 (.len (.t 42)), i1 44 (.mv (kI 0))]
abbrev r5:List In:=[i1 45 (.bin .lss (.t 44) (.t 43))]
abbrev r6:List In:=[mv 46 44, mv 21 46]
abbrev r7:List In:=[mv 47 20, mv 48 21, mv 49 6, i1 50 (.iaddr 1 (.t 47) (.t 48)), i0 (.store 1 (.t 50) (.t 49))]
abbrev r8:List In:=[i1 51 (.bin .add (.t 44) (kI 1)), mv 44 51]
abbrev r9:List In:=[mv 52 20, mv 53 3, i1 54 (.sl 1 (.t 52) (some (.t 53)) none), mv 55 1, i1 56 (.cpy 3 1 (.t 54) (.t 55))]
abbrev r10:List In:=[mv 57 20, mv 58 4, i1 59 (.sl 1 (.t 57) (some (.t 58)) none), mv 60 2, i1 61 (.cpy 3 1 (.t 59) (.t 60))]
abbrev r11:List In:=[mv 62 3, mv 63 4, mv 64 6, mv 65 6, mv 66 6, mv 67 6, mv 68 6, mv 69 5, i1 70 (.build [.int .i64 0,.int .i64 0,.int .i64 0,.int .i64 0,.int .i64 0,.int .i64 0,.int .i64 0,.int .i64 0] [(0,1,(.t 62)),(1,1,(.t 63)),(2,1,(.t 64)),(3,1,(.t 65)),(4,1,(.t 66)),(5,1,(.t 67)),(6,1,(.t 68)),(7,1,(.t 69))]), mv 71 20, i1 72 (.build [.int .i64 0,.int .i64 0,.int .i64 0,.int .i64 0,.int .i64 0,.int .i64 0,.int .i64 0,.int .i64 0,.bool false,.bool false,.bool false,.bool false,.int .i64 0,.raw (.slice none 0 0)] [(0,8,(.t 70)),(13,1,(.t 71))]), i1 22 (.alloc 50 [.int .i64 0,.int .i64 0,.int .i64 0,.int .i64 0,.int .i64 0,.int .i64 0,.int .i64 0,.int .i64 0,.bool false,.bool false,.bool false,.bool false,.int .i64 0,.raw (.slice none 0 0)]), i0 (.store 14 (.t 22) (.t 72))]
abbrev r12:List In:=[i1 74 (.faddr 0 (.t 18)), i1 75 (.load 1 false (.t 74)), i1 76 (.load 14 true (.t 22)), i1 77 (.call 44 [.t 75,.t 76,(.k (.a (.raw (.slice none 0 0)))),kI 1000000]), mv 73 77, i1 78 (.ext 0 (.t 73)), i1 79 (.ext 1 (.t 73)), i1 23 (.alloc 52 [.int .i64 0,.int .i64 0,.raw (.slice none 0 0),.int .i64 0,.int .i64 0,.int .i64 0,.int .i64 0,.int .i64 0,.int .i64 0,.int .i64 0,.int .i64 0,.int .i64 0,.int .i64 0,.bool false,.bool false,.bool false,.bool false,.int .i64 0,.raw (.slice none 0 0)]), i0 (.store 19 (.t 23) (.t 78)), mv 24 79]
abbrev r13:List In:=[i1 80 (.load 19 true (.t 23)), mv 81 20, i1 82 (.faddr 0 (.t 19)), i1 83 (.load 1 false (.t 82)), i1 84 (.bin .eql (.t 83) (kI 0)), mv 85 84, i2 85 true 86 (.mv (.t 24)), i2 85 true 87 (.bin .eql (.t 86) (kI 0)), i1 88 (.pick (.t 85) (.t 87) (kB false)), i0 (.store 19 (.t 14) (.t 80)), mv 15 81, mv 16 88]
abbrev code:IC:=.seq (.reg r0) (.seq (.reg r1) (.seq (.reg r2) (.seq (.reg r3) (.seq (.seq (.reg r4) (.block 0 (.loop (.seq (.reg r5) (.seq (.cond (.t 45) .skip (.exit 0)) (.seq (.block 1 (.seq (.reg r6) (.reg r7))) (.reg r8))))))) (.seq (.reg r9) (.seq (.reg r10) (.seq (.reg r11) (.seq (.reg r12) (.seq (.reg r13) .ret)))))))))
abbrev res:List RV:=[.cell 14 19 true,.tmp 15,.tmp 16]
theorem fn:Body Tryz.prog 29 89 code res:=⟨by decide,Tryz.f29,_,Tryz.func29,rfl,rfl,by kernel_rfl,by kernel_rfl⟩
end Xf
namespace Xx
abbrev r0:List In:=[i1 22 (.mv (kB false))]
abbrev r1:List In:=[mv 34 8, i1 35 (.bin .lss (.t 34) (kI 0)), mv 36 35, i2 36 false 37 (.mv (.t 8)), i2 36 false 38 (.bin .gtr (.t 37) (kI 65535)), i1 39 (.pick (.t 36) (kB true) (.t 38)), mv 40 39, i2 40 false 41 (.mv (.t 7)), i2 40 false 42 (.bin .lss (.t 41) (kI 64)), i1 43 (.pick (.t 40) (kB true) (.t 42)), mv 44 43, i2 44 false 45 (.mv (.t 7)), i2 44 false 46 (.bin .gtr (.t 45) (kI 65535)), i1 47 (.pick (.t 44) (kB true) (.t 46)), mv 48 47, i2 48 false 49 (.mv (.t 5)), i2 48 false 50 (.mv (.t 1)), i2 48 false 51 (.mv (.t 6)), i2 48 false 52 (.mv (.t 2)), i2 48 false 53 (.call 27 [.t 49,.t 50,.t 51,.t 52]), i2 48 false 54 (.un .not (.t 53)), i1 55 (.pick (.t 48) (kB true) (.t 54)), mv 56 55, i2 56 false 57 (.mv (.t 5)), i2 56 false 58 (.mv (.t 1)), i2 56 false 59 (.mv (.t 7)), i2 56 false 60 (.bin .sub (.t 59) (kI 64)), i2 56 false 61 (.call 27 [.t 57,.t 58,.t 60,kI 64]), i2 56 false 62 (.un .not (.t 61)), i1 63 (.pick (.t 56) (kB true) (.t 62)), mv 64 63, i2 64 false 65 (.mv (.t 6)), i2 64 false 66 (.mv (.t 2)), i2 64 false 67 (.mv (.t 7)), i2 64 false 68 (.bin .sub (.t 67) (kI 64)), i2 64 false 69 (.call 27 [.t 65,.t 66,.t 68,kI 64]), i2 64 false 70 (.un .not (.t 69)), i1 71 (.pick (.t 64) (kB true) (.t 70))]
abbrev r2:List In:=[i1 22 (.mv (kB true))]
abbrev r3:List In:=[mv 73 3, mv 74 1, i1 75 (.bin .mul (kI 16) (.t 74)), i1 76 (.call 28 [.t 73,.t 75]), mv 72 76, i1 77 (.ext 0 (.t 72)), i1 78 (.ext 1 (.t 72)), mv 23 77, mv 24 78]
abbrev r4:List In:=[mv 80 4, mv 81 2, i1 82 (.bin .mul (kI 16) (.t 81)), i1 83 (.call 28 [.t 80,.t 82]), mv 79 83, i1 84 (.ext 0 (.t 79)), i1 85 (.ext 1 (.t 79)), mv 25 84, mv 26 85]
abbrev r5:List In:=[mv 87 0, mv 88 23, mv 89 25, mv 90 5, mv 91 6, mv 92 7, mv 93 8, i1 94 (.call 29 [.t 87,.t 88,.t 89,.t 90,.t 91,.t 92,.t 93]), mv 86 94, i1 95 (.ext 0 (.t 86)), i1 96 (.ext 1 (.t 86)), i1 97 (.ext 2 (.t 86)), i1 27 (.alloc 52 [.int .i64 0,.int .i64 0,.raw (.slice none 0 0),.int .i64 0,.int .i64 0,.int .i64 0,.int .i64 0,.int .i64 0,.int .i64 0,.int .i64 0,.int .i64 0,.int .i64 0,.int .i64 0,.bool false,.bool false,.bool false,.bool false,.int .i64 0,.raw (.slice none 0 0)]), i0 (.store 19 (.t 27) (.t 95)), mv 28 96, mv 29 97]
abbrev r6:List In:=[mv 98 29, i1 99 (.un .not (.t 98))]
abbrev r7:List In:=[i1 22 (.mv (kB false))]
abbrev r8:List In:=[mv 100 10]
abbrev r9:List In:=[i1 101 (.faddr 0 (.t 27)), i1 102 (.load 1 false (.t 101)), i1 103 (.bin .eql (.t 102) (kI 2)), mv 104 103, i2 104 true 105 (.faddr 1 (.t 27)), i2 104 true 106 (.load 1 false (.t 105)), i2 104 true 107 (.bin .eql (.t 106) (kI 1)), i1 108 (.pick (.t 104) (.t 107) (kB false)), mv 22 108]
abbrev r10:List In:=[i1 109 (.faddr 0 (.t 27)), i1 110 (.load 1 false (.t 109)), i1 111 (.bin .neq (.t 110) (kI 1)), mv 112 111, i2 112 false 113 (.faddr 4 (.t 27)), i2 112 false 114 (.load 1 false (.t 113)), i2 112 false 115 (.bin .gtr (.t 114) (kI 20000)), i1 116 (.pick (.t 112) (kB true) (.t 115)), mv 117 116, i2 117 false 118 (.faddr 5 (.t 27)), i2 117 false 119 (.faddr 0 (.t 118)), i2 117 false 120 (.iarr 8 1 (.t 119) (kI 7)), i2 117 false 121 (.load 1 false (.t 120)), i2 117 false 122 (.mv (.t 7)), i2 117 false 123 (.bin .neq (.t 121) (.t 122)), i1 124 (.pick (.t 117) (kB true) (.t 123)), mv 125 124, i2 125 false 126 (.faddr 2 (.t 27)), i2 125 false 127 (.load 1 false (.t 126)), i2 125 false 128 (.len (.t 127)), i2 125 false 129 (.bin .neq (.t 128) (kI 0)), i1 130 (.pick (.t 125) (kB true) (.t 129)), mv 131 130, i2 131 false 132 (.faddr 3 (.t 27)), i2 131 false 133 (.load 1 false (.t 132)), i2 131 false 134 (.bin .neq (.t 133) (kI 0)), i1 135 (.pick (.t 131) (kB true) (.t 134))]
abbrev r11:List In:=[i1 22 (.mv (kB false))]
abbrev r12:List In:=[mv 137 9, mv 138 1, i1 139 (.bin .mul (kI 16) (.t 138)), i1 140 (.call 28 [.t 137,.t 139]), mv 136 140, i1 141 (.ext 0 (.t 136)), i1 142 (.ext 1 (.t 136)), mv 30 141, mv 31 142]
abbrev r13:List In:=[mv 143 28, mv 144 5, i1 145 (.sl 1 (.t 143) (some (.t 144)) none), mv 146 30, i1 147 (.cpy 3 1 (.t 145) (.t 146))]
abbrev r14:List In:=[mv 148 28, i1 149 (.len (.t 148)), i1 150 (.mv (kI 0))]
abbrev r15:List In:=[i1 151 (.bin .lss (.t 150) (.t 149))]
abbrev r16:List In:=[mv 152 150, mv 32 152]
abbrev r17:List In:=[i1 33 (.mv (kI 0))]
abbrev r18:List In:=[mv 153 32, i1 154 (.faddr 5 (.t 27)), i1 155 (.faddr 13 (.t 154)), i1 156 (.load 1 false (.t 155)), i1 157 (.len (.t 156)), i1 158 (.bin .lss (.t 153) (.t 157))]
abbrev r19:List In:=[i1 159 (.faddr 5 (.t 27)), i1 160 (.faddr 13 (.t 159)), i1 161 (.load 1 false (.t 160)), mv 162 32, i1 163 (.iaddr 1 (.t 161) (.t 162)), i1 164 (.load 1 false (.t 163)), mv 33 164]
abbrev r20:List In:=[mv 165 33, mv 166 28, mv 167 32, i1 168 (.iaddr 1 (.t 166) (.t 167)), i1 169 (.load 1 false (.t 168)), i1 170 (.bin .neq (.t 165) (.t 169)), mv 171 170, i2 171 true 172 (.mv (.t 32)), i2 171 true 173 (.mv (.t 7)), i2 171 true 174 (.bin .sub (.t 173) (kI 64)), i2 171 true 175 (.bin .lss (.t 172) (.t 174)), i2 171 true 176 (.mv (.t 175)), i2 176 false 177 (.mv (.t 32)), i2 176 false 178 (.mv (.t 7)), i2 176 false 179 (.bin .geq (.t 177) (.t 178)), i2 171 true 180 (.pick (.t 176) (kB true) (.t 179)), i1 181 (.pick (.t 171) (.t 180) (kB false))]
abbrev r21:List In:=[i1 22 (.mv (kB false))]
abbrev r22:List In:=[i1 182 (.bin .add (.t 150) (kI 1)), mv 150 182]
abbrev r23:List In:=[i1 22 (.mv (kB true))]
abbrev code:IC:=.seq (.reg r0) (.seq (.seq (.reg r1) (.cond (.t 71) (.seq (.reg r2) .ret) .skip)) (.seq (.reg r3) (.seq (.reg r4) (.seq (.reg r5) (.seq (.seq (.reg r6) (.cond (.t 99) (.seq (.reg r7) .ret) .skip)) (.seq (.seq (.reg r8) (.cond (.t 100) (.seq (.reg r9) .ret) .skip)) (.seq (.seq (.reg r10) (.cond (.t 135) (.seq (.reg r11) .ret) .skip)) (.seq (.reg r12) (.seq (.reg r13) (.seq (.seq (.reg r14) (.block 0 (.loop (.seq (.reg r15) (.seq (.cond (.t 151) .skip (.exit 0)) (.seq (.block 1 (.seq (.reg r16) (.seq (.reg r17) (.seq (.seq (.reg r18) (.cond (.t 158) (.reg r19) .skip)) (.seq (.reg r20) (.cond (.t 181) (.seq (.reg r21) .ret) .skip)))))) (.reg r22))))))) (.seq (.reg r23) .ret)))))))))))
abbrev res:List RV:=[.tmp 22]
theorem fn:Body Tryz.prog 16 183 code res:=⟨by decide,Tryz.f16,_,Tryz.func16,rfl,rfl,by kernel_rfl,by kernel_rfl⟩
end Xx
namespace U7
abbrev r0:List In:=[i1 8 (.mv (kB false))]
abbrev r1:List In:=[mv 9 0, i1 10 (.bin .geq (.t 9) (kI 0)), mv 11 10, i2 11 true 12 (.mv (.t 2)), i2 11 true 13 (.bin .geq (.t 12) (kI 0)), i1 14 (.pick (.t 11) (.t 13) (kB false)), mv 15 14, i2 15 true 16 (.mv (.t 0)), i2 15 true 17 (.mv (.t 1)), i2 15 true 18 (.bin .sub (kI 65536) (.t 17)), i2 15 true 19 (.bin .leq (.t 16) (.t 18)), i1 20 (.pick (.t 15) (.t 19) (kB false)), mv 21 20, i2 21 true 22 (.mv (.t 2)), i2 21 true 23 (.mv (.t 3)), i2 21 true 24 (.bin .sub (kI 65536) (.t 23)), i2 21 true 25 (.bin .leq (.t 22) (.t 24)), i1 26 (.pick (.t 21) (.t 25) (kB false)), mv 27 26, i2 27 true 28 (.mv (.t 0)), i2 27 true 29 (.mv (.t 1)), i2 27 true 30 (.bin .add (.t 28) (.t 29)), i2 27 true 31 (.mv (.t 2)), i2 27 true 32 (.bin .leq (.t 30) (.t 31)), i2 27 true 33 (.mv (.t 32)), i2 33 false 34 (.mv (.t 2)), i2 33 false 35 (.mv (.t 3)), i2 33 false 36 (.bin .add (.t 34) (.t 35)), i2 33 false 37 (.mv (.t 0)), i2 33 false 38 (.bin .leq (.t 36) (.t 37)), i2 27 true 39 (.pick (.t 33) (kB true) (.t 38)), i1 40 (.pick (.t 27) (.t 39) (kB false)), mv 8 40]
abbrev code:IC:=.seq (.reg r0) (.seq (.reg r1) .ret)
abbrev res:List RV:=[.tmp 8]
theorem fn:Body Tryz.prog 27 41 code res:=⟨by decide,Tryz.f27,_,Tryz.func27,rfl,rfl,by kernel_rfl,by kernel_rfl⟩
end U7
namespace Y1
abbrev r0:List In:=[i1 10 (.mv (.k (.a (.int .u64 0)))), i1 11 (.mv (kI 0))]
abbrev r1:List In:=[mv 16 3, i1 17 (.call 17 [.t 16]), i1 18 (.un .not (.t 17))]
abbrev r2:List In:=[i1 10 (.mv (.k (.a (.int .u64 0)))), i1 11 (.mv (kI 1))]
abbrev r3:List In:=[mv 19 1, mv 20 3, mv 21 4, i1 22 (.call 18 [.t 19,.t 20,.t 21]), mv 23 2, mv 24 3, mv 25 4, i1 26 (.call 18 [.t 23,.t 24,.t 25]), mv 12 22, mv 13 26]
abbrev r4:List In:=[i1 27 (.alloc 33 [.bool false,.raw (.slice none 0 0)]), mv 14 27]
abbrev r5:List In:=[mv 28 0]
abbrev r6:List In:=[i1 30 (.bin .eql (.t 28) (.k (.a (.int .u8 43)))), mv 29 30]
abbrev r7:List In:=[mv 31 14, mv 32 12, mv 33 13, i1 34 (.call 19 [.t 31,.t 32,.t 33])]
abbrev r8:List In:=[i1 36 (.bin .eql (.t 28) (.k (.a (.int .u8 45)))), mv 35 36]
abbrev r9:List In:=[mv 37 14, mv 38 12, mv 39 13, i1 40 (.call 20 [.t 37,.t 38,.t 39])]
abbrev r10:List In:=[i1 42 (.bin .eql (.t 28) (.k (.a (.int .u8 42)))), mv 41 42]
abbrev r11:List In:=[mv 43 14, mv 44 12, mv 45 13, i1 46 (.call 21 [.t 43,.t 44,.t 45])]
abbrev r12:List In:=[i1 48 (.bin .eql (.t 28) (.k (.a (.int .u8 47)))), mv 47 48]
abbrev r13:List In:=[i1 49 (.bin .eql (.t 28) (.k (.a (.int .u8 37)))), mv 47 49]
abbrev r14:List In:=[mv 50 13, i1 51 (.call 22 [.t 50]), i1 52 (.bin .eql (.t 51) (kI 0))]
abbrev r15:List In:=[i1 10 (.mv (.k (.a (.int .u64 0)))), i1 11 (.mv (kI 10))]
abbrev r16:List In:=[i1 53 (.alloc 33 [.bool false,.raw (.slice none 0 0)]), mv 15 53]
abbrev r17:List In:=[mv 54 14, mv 55 12, mv 56 13, mv 57 15, i1 58 (.call 23 [.t 54,.t 55,.t 56,.t 57])]
abbrev r18:List In:=[mv 59 0, i1 60 (.bin .eql (.t 59) (.k (.a (.int .u8 37))))]
abbrev r19:List In:=[mv 61 15, mv 14 61]
abbrev r20:List In:=[i1 63 (.bin .eql (.t 28) (.k (.a (.int .u8 60)))), mv 62 63]
abbrev r21:List In:=[mv 64 12, mv 65 13, i1 66 (.call 24 [.t 64,.t 65]), i1 67 (.bin .lss (.t 66) (kI 0))]
abbrev r22:List In:=[mv 68 14, i1 69 (.call 25 [.t 68,kI 1])]
abbrev r23:List In:=[mv 70 14, mv 71 3, i1 72 (.call 26 [.t 70,.t 71]), mv 10 72, i1 11 (.mv (kI 0))]
abbrev code:IC:=.seq (.reg r0) (.seq (.seq (.reg r1) (.cond (.t 18) (.seq (.reg r2) .ret) .skip)) (.seq (.reg r3) (.seq (.reg r4) (.seq (.seq (.reg r5) (.block 0 (.seq (.reg r6) (.cond (.t 29) (.reg r7) (.seq (.reg r8) (.cond (.t 35) (.reg r9) (.seq (.reg r10) (.cond (.t 41) (.reg r11) (.seq (.seq (.reg r12) (.cond (.t 47) .skip (.reg r13))) (.cond (.t 47) (.seq (.seq (.reg r14) (.cond (.t 52) (.seq (.reg r15) .ret) .skip)) (.seq (.reg r16) (.seq (.reg r17) (.seq (.reg r18) (.cond (.t 60) (.reg r19) .skip))))) (.seq (.reg r20) (.cond (.t 62) (.seq (.reg r21) (.cond (.t 67) (.reg r22) .skip)) .skip)))))))))))) (.seq (.reg r23) .ret)))))
abbrev res:List RV:=[.tmp 10,.tmp 11]
theorem fn:Body Tryz.prog 15 73 code res:=⟨by decide,Tryz.f15,_,Tryz.func15,rfl,rfl,by kernel_rfl,by kernel_rfl⟩
end Y1
namespace Ta
abbrev r0:List In:=[i1 2 (.mv (kB false))]
abbrev r1:List In:=[i1 5 (.bsl 3 1 4 [.int .i64 0,.int .i64 0,.int .i64 0,.int .i64 0] [(0,1,(kI 8)),(1,1,(kI 16)),(2,1,(kI 32)),(3,1,(kI 64))]), i1 6 (.len (.t 5)), i1 7 (.mv (kI 0))]
abbrev r2:List In:=[i1 8 (.bin .lss (.t 7) (.t 6))]
abbrev r3:List In:=[i1 9 (.iaddr 1 (.t 5) (.t 7)), i1 10 (.load 1 false (.t 9)), mv 4 10]
abbrev r4:List In:=[mv 11 0, mv 12 4, i1 13 (.bin .eql (.t 11) (.t 12))]
abbrev r5:List In:=[i1 2 (.mv (kB true))]
abbrev r6:List In:=[i1 14 (.bin .add (.t 7) (kI 1)), mv 7 14]
abbrev r7:List In:=[i1 2 (.mv (kB false))]
abbrev code:IC:=.seq (.reg r0) (.seq (.seq (.reg r1) (.block 0 (.loop (.seq (.reg r2) (.seq (.cond (.t 8) .skip (.exit 0)) (.seq (.block 1 (.seq (.reg r3) (.seq (.reg r4) (.cond (.t 13) (.seq (.reg r5) .ret) .skip)))) (.reg r6))))))) (.seq (.reg r7) .ret))
abbrev res:List RV:=[.tmp 2]
theorem fn:Body Tryz.prog 17 15 code res:=⟨by decide,Tryz.f17,_,Tryz.func17,rfl,rfl,by kernel_rfl,by kernel_rfl⟩
end Ta
namespace Wx
abbrev r0:List In:=[i1 6 (.mv (.k (.a (.raw (.pointer none)))))]
abbrev r1:List In:=[mv 8 0, i1 9 (.call 30 [.t 8]), mv 10 1, i1 11 (.call 26 [.t 9,.t 10]), i1 12 (.call 30 [.t 11]), mv 7 12]
abbrev r2:List In:=[mv 13 2, mv 14 13, i2 14 true 15 (.mv (.t 7)), i2 14 true 16 (.mv (.t 1)), i2 14 true 17 (.bin .sub (.t 16) (kI 1)), i2 14 true 18 (.call 31 [.t 17]), i2 14 true 19 (.call 24 [.t 15,.t 18]), i2 14 true 20 (.bin .geq (.t 19) (kI 0)), i1 21 (.pick (.t 14) (.t 20) (kB false))]
abbrev r3:List In:=[mv 22 7, mv 23 7, mv 24 1, i1 25 (.call 31 [.t 24]), i1 26 (.call 20 [.t 22,.t 23,.t 25])]
abbrev r4:List In:=[mv 27 7, mv 6 27]
abbrev code:IC:=.seq (.reg r0) (.seq (.reg r1) (.seq (.seq (.reg r2) (.cond (.t 21) (.reg r3) .skip)) (.seq (.reg r4) .ret)))
abbrev res:List RV:=[.tmp 6]
theorem fn:Body Tryz.prog 18 28 code res:=⟨by decide,Tryz.f18,_,Tryz.func18,rfl,rfl,by kernel_rfl,by kernel_rfl⟩
end Wx
namespace Wd
abbrev r0:List In:=[i1 4 (.mv (.k (.a (.int .u64 0))))]
abbrev r1:List In:=[i1 5 (.alloc 33 [.bool false,.raw (.slice none 0 0)]), mv 6 0, mv 7 1, i1 8 (.call 31 [.t 7]), i1 9 (.call 38 [.t 5,.t 6,.t 8]), i1 10 (.call 39 [.t 9]), mv 4 10]
abbrev code:IC:=.seq (.reg r0) (.seq (.reg r1) .ret)
abbrev res:List RV:=[.tmp 4]
theorem fn:Body Tryz.prog 26 11 code res:=⟨by decide,Tryz.f26,_,Tryz.func26,rfl,rfl,by kernel_rfl,by kernel_rfl⟩
end Wd
namespace U8
abbrev r0:List In:=[i1 4 (.mv (.k (.a (.raw (.slice none 0 0))))), i1 5 (.mv (kI 0))]
abbrev r1:List In:=[mv 10 1, i1 11 (.call 17 [.t 10]), i1 12 (.un .not (.t 11))]
abbrev r2:List In:=[i1 4 (.mv (.k (.a (.raw (.slice none 0 0))))), i1 5 (.mv (kI 1))]
abbrev r3:List In:=[mv 13 0, i1 14 (.call 30 [.t 13]), mv 15 1, i1 16 (.call 26 [.t 14,.t 15]), i1 17 (.call 30 [.t 16]), mv 6 17]
abbrev r4:List In:=[i1 7 (.mv (.k (.a (.raw (.slice none 0 0)))))]
abbrev r5:List In:=[i1 8 (.mv (kI 0))]
abbrev r6:List In:=[mv 18 8, i1 19 (.bin .eql (.t 18) (kI 0)), mv 20 19, i2 20 false 21 (.mv (.t 8)), i2 20 false 22 (.mv (.t 1)), i2 20 false 23 (.bin .quo (.t 22) (kI 16)), i2 20 false 24 (.bin .lss (.t 21) (.t 23)), i1 25 (.pick (.t 20) (kB true) (.t 24))]
abbrev r7:List In:=[i1 28 (.alloc 33 [.bool false,.raw (.slice none 0 0)]), mv 9 28]
abbrev r8:List In:=[mv 29 6, mv 30 6, i1 31 (.call 31 [kI 16]), mv 32 9, i1 33 (.call 40 [.t 29,.t 30,.t 31,.t 32])]
abbrev r9:List In:=[mv 34 7, mv 35 9, i1 36 (.call 41 [.t 35]), i1 37 (.bsl 3 1 1 [.int .i64 0] [(0,1,(.t 36))]), i1 38 (.app 42 3 1 8 (.t 34) (.t 37)), mv 7 38]
abbrev r10:List In:=[mv 26 8, i1 27 (.bin .add (.t 26) (kI 1)), mv 8 27]
abbrev r11:List In:=[mv 39 7, mv 4 39, i1 5 (.mv (kI 0))]
abbrev code:IC:=.seq (.reg r0) (.seq (.seq (.reg r1) (.cond (.t 12) (.seq (.reg r2) .ret) .skip)) (.seq (.reg r3) (.seq (.reg r4) (.seq (.seq (.reg r5) (.block 0 (.loop (.seq (.seq (.reg r6) (.cond (.t 25) .skip (.exit 0))) (.seq (.block 1 (.seq (.reg r7) (.seq (.reg r8) (.reg r9)))) (.reg r10)))))) (.seq (.reg r11) .ret)))))
abbrev res:List RV:=[.tmp 4,.tmp 5]
theorem fn:Body Tryz.prog 28 40 code res:=⟨by decide,Tryz.f28,_,Tryz.func28,rfl,rfl,by kernel_rfl,by kernel_rfl⟩
end U8
namespace U9
abbrev r0:List In:=[i1 2 (.mv (.k (.a (.raw (.pointer none)))))]
abbrev r1:List In:=[i1 3 (.alloc 33 [.bool false,.raw (.slice none 0 0)]), mv 4 0, i1 5 (.call 45 [.t 3,.t 4]), mv 2 5]
abbrev code:IC:=.seq (.reg r0) (.seq (.reg r1) .ret)
abbrev res:List RV:=[.tmp 2]
theorem fn:Body Tryz.prog 30 6 code res:=⟨by decide,Tryz.f30,_,Tryz.func30,rfl,rfl,by kernel_rfl,by kernel_rfl⟩
end U9
namespace Sc
abbrev r0:List In:=[i1 2 (.mv (.k (.a (.raw (.pointer none)))))]
abbrev r1:List In:=[i1 3 (.alloc 33 [.bool false,.raw (.slice none 0 0)]), i1 4 (.call 47 [kI 1]), mv 5 0, i1 6 (.conv .u64 (.t 5)), i1 7 (.call 46 [.t 3,.t 4,.t 6]), mv 2 7]
abbrev code:IC:=.seq (.reg r0) (.seq (.reg r1) .ret)
abbrev res:List RV:=[.tmp 2]
theorem fn:Body Tryz.prog 31 8 code res:=⟨by decide,Tryz.f31,_,Tryz.func31,rfl,rfl,by kernel_rfl,by kernel_rfl⟩
end Sc
end Go.Proofs.YtbmecnjmbhokgaaGreatDoor
