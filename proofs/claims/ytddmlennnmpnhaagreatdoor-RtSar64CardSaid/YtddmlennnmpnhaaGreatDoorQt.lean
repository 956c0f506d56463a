/- A part of the proofs of this seat's laws: steps on the way, joined. It has no conditions of its own. -/
import Derived.Test.YtddmlennnmpnhaaGreatDoorQi
import Derived.Test.YtddmlennnmpnhaaGreatDoorQs
import Derived.Test.YtddmlennnmpnhaaGreatDoorQh
import Derived.Test.YtddmlennnmpnhaaGreatDoorChecked
import Derived.KernelRfl
import Derived.Test.YtddmlennnmpnhaaGreatDoorQl
namespace Go.Proofs.YtddmlennnmpnhaaGreatDoor
open Go.RowKit Vc
set_option linter.unusedVariables false
set_option linter.unusedSimpArgs false
attribute [local irreducible] T Za Zn Ent RdC RwC Yd Ze Zh
def Ww:List Ln→Nat→Int→List (List UInt8)→List Spot→List Spot×Int×Int×Int
 | [],_,at_,_,acc=>(acc,at_,0,0)
 |x::l,k,at_,seen,acc=>if U5 x≠0 then([],0,U5 x,k)else
   if x.label≠[]then(if x.label∈seen then([],0,7,k)else Ww l (k+1) at_ (x.label::seen) (acc++[⟨x.label,at_⟩]))
   else if 65536<at_+Oy x then([],0,4,k)else Ww l (k+1) (at_+Oy x) seen acc
def Yb(l:List Ln)(at_:Int):List Spot×Int×Int×Int:=Ww l 0 at_ [] []
def H1(seen:List (List UInt8)):List UInt8→Option (Kd.ty .bool):=fun s=>if s∈seen then some true else none
theorem Zgv:H1 []=fun _=>none:=by funext s;simp[H1]
theorem Zc5(s:List UInt8)(seen:List (List UInt8)):(fun t=>if t=s then some true else H1 seen t)=H1 (s::seen):=by
 funext t;simp only[H1,List.mem_cons]
 by_cases h:t=s<;>simp[h]
theorem O2{s:List UInt8}(h:Xk s=true):s.length≤32:=by
 simp only[Xk,Bool.and_eq_true,decide_eq_true_eq]at h;omega
theorem P5{x:Ln}(h:U5 x=0)(hl:x.label≠[]):Xk x.label=true∧x.ref=[]∧x.ins=Vt:=by
 unfold U5 at h
 rw[if_pos hl]at h
 split at h
 ·omega
 ·rename_i hn
  split at h
  ·omega
  ·rename_i h2
   simp only[not_or,ne_eq,Decidable.not_not]at h2
   exact⟨by simpa using hn,h2⟩
theorem Mq{x:Ln}(h:U5 x=0)(hl:x.label=[]):Wx x.ins=0∧(x.ref≠[]→Xk x.ref=true∧U1 x.ins.op=true∧x.ins.imm=0):=by
 unfold U5 at h
 rw[if_neg (by simpa using hl)]at h
 split at h
 ·rename_i h1;exact absurd h h1
 ·rename_i h1
  refine⟨by simpa using h1,fun hr=> ?_⟩
  rw[if_neg hr]at h
  split at h
  ·omega
  ·rename_i hn
   split at h
   ·omega
   ·rename_i h2
    simp only[not_or,ne_eq,Decidable.not_not,Bool.not_eq_false]at h2
    exact⟨by simpa using hn,h2⟩
theorem Do{x:Ins}(h:Wx x=0):Th x.op=true:=by
 unfold Wx at h
 split at h
 ·omega
 ·rename_i hk;simpa using hk
theorem Zf8{x:Ln}(h:x.label=[]):Oy x=I8 x.ins.op:=by
 unfold Oy I8;rw[if_neg (by simpa using h)]
theorem Bk(x:Ln):0≤Oy x∧Oy x≤2:=by
 unfold Oy;repeat' split
 all_goals omega
theorem dfltB:Kd.dflt .bool=false:=rfl
set_option maxHeartbeats 2000000 in
theorem Nd(l:List Ln)(at_:Int)(hlen:l.length≤40000)(h0:0≤at_)(h1:at_≤65536):
 RwC Tryz.prog 63 [.ro .line l,.v (.a (.int .i64 at_))] 110 .spot (Yb l at_).1 [.a (.int .i64 (Yb l at_).2.1),.agg [.int .i64 (Yb l at_).2.2.1,.int .i64 (Yb l at_).2.2.2]]:=by
 refine Kv.fn.rw (by simp) (by simp[Zz]) (by simp[S1.bd,At.bd]) fun w=> ?_
 repeat'(first|(first|refine Stp.h ?_)<;>try simp only[Zc,simprocAttr,↓reduceIte,reduceCtorEq,implies_true]|(with_reducible first|assumption|refine And.intro ?_ ?_)|(intro h;first|omega|exact tg h ‹_›|exact tg ‹_› h|skip))
 refine T.weak (Ent.nilRow (t:=7) 110 .spot rfl) ?_
 simp only[Zc,simprocAttr,↓reduceIte,reduceCtorEq,implies_true]
 refine T.loop (ι:= {p:Nat×Int×List (List UInt8)×List Spot//p.1≤l.length∧Ww (l.drop p.1) p.1 p.2.1 p.2.2.1 p.2.2.2=Yb l at_∧0≤p.2.1∧p.2.1≤65536∧p.2.2.1.length≤p.1∧p.2.2.2.length≤p.1})
  (fun x=>⟨[(17,.one (.a (.int .i64 (x.1.1:Int)))),(16,.one (.a (.int .i64 l.length))),(15,.one (.a (.ref 0))),(8,.one (.a (.ref 2))),(7,.one (.a (.ref 3))),(6,.one (.a (.loc 1 0))),(1,.one (.a (.int .i64 x.1.2.1)))],
    [(3,.row 110 .spot x.1.2.2.2),(2,.smap Tryz.prog 9 4 .bool (H1 x.1.2.2.1) x.1.2.2.1.length),(1,.cells 83 [.int .i64 0,.int .i64 0]),(0,.ro .line l)],4⟩)
  (fun x=>l.length-x.1.1) ⟨(0,at_,[],[]),by simp,by simp[Yb],h0,h1,by simp,by simp⟩ (Ent.mk1 (id) (by simp[Zt,Zgv])) ?_
 rintro⟨⟨k,a,seen,acc⟩,hk,hrun,ha0,ha1,hs,hacc⟩
 simp only at hk hrun ha0 ha1 hs hacc
 by_cases hlt:k<l.length
 ·have hdrop:l.drop k=l.getD k ln0::l.drop (k+1):=by
   rw[List.drop_eq_getElem_cons hlt];simp[List.getD,hlt]
  generalize hx:l.getD k ln0=x at hdrop
  have hx':l.getD k (Kd.dflt .line)=x:=hx
  rw[hdrop]at hrun
  simp only[Ww]at hrun
  have hw:IntKind.i64.wrap ((k:Int)+1)=((k+1:Nat):Int):=Zx (by omega)
  have ht:((k:Int)).toNat=k:=by omega
  by_cases hwr:U5 x=0
  ·rw[if_neg (by simpa using hwr)]at hrun
   by_cases hlb:x.label=[]
   ·rw[if_neg (by simpa using hlb)]at hrun
    have hkn:=Do (Mq hwr hlb).1
    have hlg:=Zf8 hlb
    have hle:=Bk x
    rw[hlg]at hrun hle
    have hwa:IntKind.i64.wrap (a+I8 x.ins.op)=a+I8 x.ins.op:=Zk (by omega) (by omega)
    have hlbd:decide (x.label=[])=true:=decide_eq_true hlb
    repeat'(first|(first|refine Stp.h ?_|((with_reducible first|apply Za.rd (Xz _)|apply Ze.rd (Xz _));focus((repeat'(first|exact rfl|exact trivial|refine And.intro ?_ ?_|(simp[Zz];done)));done))|((with_reducible first|apply Za.rd (Dr _ hkn)|apply Ze.rd (Dr _ hkn));focus((repeat'(first|exact rfl|exact trivial|refine And.intro ?_ ?_|(simp[Zz];done)));done)))<;>try simp only[Zc,simprocAttr,↓reduceIte,reduceCtorEq,implies_true,hx',hw,ht,hwr,hlbd,hwa,Int.ofNat_lt]|(with_reducible first|assumption|refine And.intro ?_ ?_)|(intro h;first|omega|exact tg h ‹_›|exact tg ‹_› h|skip))
    all_goals first|omega|(rw[if_pos (by assumption)]at hrun;rw[←hrun];done)|skip
    ·rw[if_neg (by assumption)]at hrun
     exact⟨⟨(k+1,a+I8 x.ins.op,seen,acc),hlt,hrun,by simp only;omega,by simp only;omega,by simp only;omega,by simp only;omega⟩,(Ent.mk1 (id) (by simp[Zt,hw])),by simp only;omega⟩
   ·rw[if_pos hlb]at hrun
    have hnm:=O2 (P5 hwr hlb).1
    have hseen:(H1 seen x.label)=if x.label∈seen then some true else none:=rfl
    by_cases hin:x.label∈seen
    ·rw[if_pos hin]at hrun
     rw[if_pos hin]at hseen
     repeat'(first|(first|refine Stp.h ?_|((with_reducible first|apply Za.rd (Xz _)|apply Ze.rd (Xz _));focus((repeat'(first|exact rfl|exact trivial|refine And.intro ?_ ?_|(simp[Zz];done)));done)))<;>try simp only[Zc,simprocAttr,↓reduceIte,reduceCtorEq,implies_true,hx',hw,ht,hwr,hlb,hseen,Int.ofNat_lt]|(with_reducible first|assumption|refine And.intro ?_ ?_)|(intro h;first|omega|exact tg h ‹_›|exact tg ‹_› h|skip))
     all_goals first|omega|(rw[←hrun];done)|skip
    ·rw[if_neg hin]at hrun
     rw[if_neg hin]at hseen
     repeat'(first|(first|refine Stp.h ?_|((with_reducible first|apply Za.rd (Xz _)|apply Ze.rd (Xz _));focus((repeat'(first|exact rfl|exact trivial|refine And.intro ?_ ?_|(simp[Zz];done)));done)))<;>try simp only[Zc,simprocAttr,↓reduceIte,reduceCtorEq,implies_true,hx',hw,ht,hwr,hlb,hseen,Zc5,dfltB,Int.ofNat_lt]|(with_reducible first|assumption|refine And.intro ?_ ?_)|(intro h;first|omega|exact tg h ‹_›|exact tg ‹_› h|skip))
     all_goals first|omega|skip
     exact⟨⟨(k+1,a,x.label::seen,acc++[⟨x.label,a⟩]),hlt,hrun,ha0,ha1,by simp only[List.length_cons];omega,by simp only[List.length_append,List.length_cons,List.length_nil];omega⟩,(Ent.mk1 (fun n=>if n=3 then 6 else n) (by simp[Zt,hw])),by simp only;omega⟩
  ·rw[if_pos (by simpa using hwr)]at hrun
   repeat'(first|(first|refine Stp.h ?_|((with_reducible first|apply Za.rd (Xz _)|apply Ze.rd (Xz _));focus((repeat'(first|exact rfl|exact trivial|refine And.intro ?_ ?_|(simp[Zz];done)));done)))<;>try simp only[Zc,simprocAttr,↓reduceIte,reduceCtorEq,implies_true,hx',hw,ht,hwr,Int.ofNat_lt]|(with_reducible first|assumption|refine And.intro ?_ ?_)|(intro h;first|omega|exact tg h ‹_›|exact tg ‹_› h|skip))
   all_goals first|omega|(rw[←hrun];done)|skip
 ·have hk2:k=l.length:=by omega
  subst hk2
  rw[List.drop_length]at hrun
  simp only[Ww]at hrun
  repeat'(first|(first|refine Stp.h ?_)<;>try simp only[Zc,simprocAttr,↓reduceIte,reduceCtorEq,implies_true,Int.ofNat_lt]|(with_reducible first|assumption|refine And.intro ?_ ?_)|(intro h;first|omega|exact tg h ‹_›|exact tg ‹_› h|skip))
  all_goals first|omega|(rw[←hrun];done)|skip
def Ro(h:List UInt8→Int×Bool):List Ln→Nat→List Ins→List Ins×Int×Int
 | [],_,acc=>(acc,0,0)
 |x::l,k,acc=>if x.label≠[]then Ro h l (k+1) acc
   else if x.ref≠[]then(if(h x.ref).2=false then([],6,k)else Ro h l (k+1) (acc++[⟨x.ins.op,x.ins.d,x.ins.s,Mx .i64 (h x.ref).1 65535⟩]))
   else Ro h l (k+1) (acc++[x.ins])
def U3(h:List UInt8→Int×Bool)(l:List Ln):List Ins×Int×Int:=Ro h l 0 []
def Knows(g:List S1→Option SV)(h:List UInt8→Int×Bool)(l:List Ln):Prop:=
 ∀x∈l,x.label=[]→x.ref≠[]→g [.a (.str x.ref)]=some (.tup [.a (.int .i64 (h x.ref).1),.a (.bool (h x.ref).2)])
set_option maxHeartbeats 2000000 in
theorem Dv(l:List Ln)(g:List S1→Option SV)(kn:List UInt8→Int×Bool)(hg:Knows g kn l)(hlen:l.length≤40000):
 GC Tryz.prog 68 [.a (.ref 0),.a (.ref 1)] [(0,.ro .line l),(1,.fn Tryz.prog g)] 2 [] (.tup [.a (.ref 2),.agg [.int .i64 (U3 kn l).2.1,.int .i64 (U3 kn l).2.2]])
  [(2,.row 73 .ins (U3 kn l).1)] 3:=by
 refine Ns.fn.gc (by simp) (by simp[Zu,Zw,Zv,Zj,Zf,Vc.S1.okN,At.okN,SV.okN,Res.okN,Res.outOk,Zo,Res.own,Value.oneCell']) fun w X fr=> ?_
 repeat'(first|(first|refine Stp.h ?_)<;>try simp only[Zc,simprocAttr,↓reduceIte,reduceCtorEq,implies_true]|(with_reducible first|assumption|refine And.intro ?_ ?_)|(intro h;first|omega|exact tg h ‹_›|exact tg ‹_› h|skip))
 refine T.weak (Ent.nilRow (t:=6) 73 .ins rfl) ?_
 simp only[Zc,simprocAttr,↓reduceIte,reduceCtorEq,implies_true]
 refine T.loop (ι:= {p:Nat×List Ins//p.1≤l.length∧Ro kn (l.drop p.1) p.1 p.2=U3 kn l∧p.2.length≤p.1})
  (fun x=>⟨[(14,.one (.a (.int .i64 (x.1.1:Int)))),(13,.one (.a (.int .i64 l.length))),(12,.one (.a (.ref 0))),(6,.one (.a (.ref 3))),(5,.one (.a (.loc 2 0))),(1,.one (.a (.ref 1)))],
    [(3,.row 73 .ins x.1.2),(2,.cells 83 [.int .i64 0,.int .i64 0]),(0,.ro .line l),(1,.fn Tryz.prog g)],4⟩)
  (fun x=>l.length-x.1.1) ⟨(0,[]),by simp,by simp[U3],by simp⟩ (Ent.mk1 (id) (by simp[Zt])) ?_
 rintro⟨⟨k,acc⟩,hk,hrun,hacc⟩
 simp only at hk hrun hacc
 by_cases hlt:k<l.length
 ·have hdrop:l.drop k=l.getD k ln0::l.drop (k+1):=by
   rw[List.drop_eq_getElem_cons hlt];simp[List.getD,hlt]
  have hmem:l.getD k ln0∈l:=by simp[List.getD,hlt]
  generalize hx:l.getD k ln0=x at hdrop hmem
  have hx':l.getD k (Kd.dflt .line)=x:=hx
  rw[hdrop]at hrun
  simp only[Ro]at hrun
  have hw:IntKind.i64.wrap ((k:Int)+1)=((k+1:Nat):Int):=Zx (by omega)
  have ht:((k:Int)).toNat=k:=by omega
  by_cases hlb:x.label=[]
  ·rw[if_neg (by simpa using hlb)]at hrun
   have hlbd:decide (x.label=[])=true:=decide_eq_true hlb
   by_cases hrf:x.ref=[]
   ·rw[if_neg (by simpa using hrf)]at hrun
    have hrfd:decide (x.ref=[])=true:=decide_eq_true hrf
    repeat'(first|(first|refine Stp.h ?_)<;>try simp only[Zc,simprocAttr,↓reduceIte,reduceCtorEq,implies_true,hx',hw,ht,hlbd,hrfd,Int.ofNat_lt]|(with_reducible first|assumption|refine And.intro ?_ ?_)|(intro h;first|omega|exact tg h ‹_›|exact tg ‹_› h|skip))
    all_goals first|omega|skip
    exact⟨⟨(k+1,acc++[x.ins]),hlt,hrun,by simp only[List.length_append,List.length_cons,List.length_nil];omega⟩,(Ent.mk1 (fun n=>if n=3 then 7 else n) (by simp[Zt,hw])),by simp only;omega⟩
   ·rw[if_pos hrf]at hrun
    have hgx:=hg x hmem hlb hrf
    cases hkn:(kn x.ref).2 with
    |false=>
     rw[if_pos hkn]at hrun
     rw[hkn]at hgx
     repeat'(first|(first|refine Stp.h ?_)<;>try simp only[Zc,simprocAttr,↓reduceIte,reduceCtorEq,implies_true,hx',hw,ht,hlbd,hrf,hgx,Int.ofNat_lt]|(with_reducible first|assumption|refine And.intro ?_ ?_)|(intro h;first|omega|exact tg h ‹_›|exact tg ‹_› h|skip))
     all_goals first|omega|(rw[←hrun];done)|skip
    |true=>
     rw[if_neg (by simpa using hkn)]at hrun
     rw[hkn]at hgx
     repeat'(first|(first|refine Stp.h ?_)<;>try simp only[Zc,simprocAttr,↓reduceIte,reduceCtorEq,implies_true,hx',hw,ht,hlbd,hrf,hgx,Int.ofNat_lt]|(with_reducible first|assumption|refine And.intro ?_ ?_)|(intro h;first|omega|exact tg h ‹_›|exact tg ‹_› h|skip))
     all_goals first|omega|skip
     exact⟨⟨(k+1,acc++[⟨x.ins.op,x.ins.d,x.ins.s,Mx .i64 (kn x.ref).1 65535⟩]),hlt,hrun,by simp only[List.length_append,List.length_cons,List.length_nil];omega⟩,(Ent.mk1 (fun n=>if n=3 then 7 else n) (by simp[Zt,hw])),by simp only;omega⟩
  ·rw[if_pos hlb]at hrun
   repeat'(first|(first|refine Stp.h ?_)<;>try simp only[Zc,simprocAttr,↓reduceIte,reduceCtorEq,implies_true,hx',hw,ht,hlb,Int.ofNat_lt]|(with_reducible first|assumption|refine And.intro ?_ ?_)|(intro h;first|omega|exact tg h ‹_›|exact tg ‹_› h|skip))
   all_goals first|omega|skip
   exact⟨⟨(k+1,acc),hlt,hrun,by simp only;omega⟩,(Ent.mk1 (id) (by simp[Zt,hw])),by simp only;omega⟩
 ·have hk2:k=l.length:=by omega
  subst hk2
  rw[List.drop_length]at hrun
  simp only[Ro]at hrun
  repeat'(first|(first|refine Stp.h ?_)<;>try simp only[Zc,simprocAttr,↓reduceIte,reduceCtorEq,implies_true,Int.ofNat_lt]|(with_reducible first|assumption|refine And.intro ?_ ?_)|(intro h;first|omega|exact tg h ‹_›|exact tg ‹_› h|skip))
  all_goals first|omega|(rw[←hrun];done)|skip
theorem Bj{x:Ln}(h:x.label≠[]):Oy x=0:=by unfold Oy;rw[if_pos h]
end Go.Proofs.YtddmlennnmpnhaaGreatDoor
namespace Go.Proofs.YtddmlennnmpnhaaGreatDoor
open Vc
namespace Mu
abbrev r0:List In:=[i1 2 (.mv (kB false))]
abbrev r1:List In:=[mv 3 0,i1 4 (.sidx (.t 3) (kI 0)),i1 5 (.bin .eql (.t 4) (.k (.a (.int .u8 46)))),mv 2 5]
abbrev code:IC:=.seq (.reg r0) (.seq (.reg r1) .ret)
abbrev res:List RV:=[.tmp 2]
theorem fn:Body Tryz.prog 64 6 code res:=⟨by decide,Tryz.f64,_,Tryz.func64,rfl,rfl,by kernel_rfl,by kernel_rfl⟩
end Mu
namespace Oe
noncomputable abbrev r0:List In:=[i1 2 (.mv (.k (.a (.raw (.map none))))),i1 3 (.alloc 83 [.int .i64 0,.int .i64 0])]
noncomputable abbrev r1:List In:=[mv 14 0,i1 15 (.len (.t 14)),i1 16 (.bin .gtr (.t 15) (kI 400))]
noncomputable abbrev r2:List In:=[i1 17 (.build [.int .i64 0,.int .i64 0] [(0,1,(kI 5))]),i1 2 (.mv (.k (.a (.raw (.map none))))),i0 (.store 2 (.t 3) (.t 17))]
noncomputable abbrev r3:List In:=[i1 18 (.mkmap Tryz.prog 9 3 (.int .i64)),mv 4 18]
noncomputable abbrev r4:List In:=[mv 19 0,i1 20 (.len (.t 19)),i1 21 (.mv (kI 0))]
noncomputable abbrev r5:List In:=[i1 22 (.bin .lss (.t 21) (.t 20))]
noncomputable abbrev r6:List In:=[mv 23 21,i1 24 (.iaddr 2 (.t 19) (.t 21)),i1 25 (.load 2 true (.t 24)),i1 6 (.alloc 78 [.str [],.raw (.slice none 0 0)]),mv 5 23,i0 (.store 2 (.t 6) (.t 25))]
noncomputable abbrev r7:List In:=[i1 26 (.faddr 1 (.t 6)),i1 27 (.load 1 false (.t 26)),i1 28 (.len (.t 27)),i1 29 (.bin .gtr (.t 28) (kI 40000))]
noncomputable abbrev r8:List In:=[mv 30 5,i1 31 (.build [.int .i64 0,.int .i64 0] [(0,1,(kI 5)),(1,1,(.t 30))]),i1 2 (.mv (.k (.a (.raw (.map none))))),i0 (.store 2 (.t 3) (.t 31))]
noncomputable abbrev r9:List In:=[i1 33 (.faddr 1 (.t 6)),i1 34 (.load 1 false (.t 33)),i1 35 (.call 63 [.t 34,kI 0]),mv 32 35,i1 36 (.ext 0 (.t 32)),i1 37 (.ext 1 (.t 32)),i1 38 (.ext 2 (.t 32)),i1 9 (.alloc 83 [.int .i64 0,.int .i64 0]),mv 7 36,mv 8 37,i0 (.store 2 (.t 9) (.t 38))]
noncomputable abbrev r10:List In:=[i1 39 (.faddr 0 (.t 9)),i1 40 (.load 1 false (.t 39)),i1 41 (.bin .neq (.t 40) (kI 0))]
noncomputable abbrev r11:List In:=[i1 42 (.faddr 0 (.t 9)),i1 43 (.load 1 false (.t 42)),mv 44 5,i1 45 (.build [.int .i64 0,.int .i64 0] [(0,1,(.t 43)),(1,1,(.t 44))]),i1 2 (.mv (.k (.a (.raw (.map none)))))]
noncomputable abbrev r12:List In:=[i0 (.store 2 (.t 3) (.t 45))]
noncomputable abbrev r13:List In:=[mv 46 7,i1 47 (.len (.t 46)),i1 48 (.mv (kI 0))]
noncomputable abbrev r14:List In:=[i1 49 (.bin .lss (.t 48) (.t 47))]
noncomputable abbrev r15:List In:=[i1 50 (.iaddr 2 (.t 46) (.t 48)),i1 51 (.load 2 true (.t 50)),i1 11 (.alloc 110 [.str [],.int .i64 0]),i0 (.store 2 (.t 11) (.t 51))]
noncomputable abbrev r16:List In:=[i1 52 (.faddr 0 (.t 11)),i1 53 (.load 1 false (.t 52)),i1 54 (.call 64 [.t 53])]
noncomputable abbrev r17:List In:=[mv 56 4,i1 57 (.faddr 0 (.t 11)),i1 58 (.load 1 false (.t 57)),i1 59 (.mlook Tryz.prog 9 3 (.int .i64) true (.t 56) (.t 58)),mv 55 59,i1 60 (.ext 0 (.t 55)),i1 61 (.ext 1 (.t 55)),mv 12 60,mv 13 61]
noncomputable abbrev r18:List In:=[mv 62 13]
noncomputable abbrev r19:List In:=[mv 63 5,i1 64 (.build [.int .i64 0,.int .i64 0] [(0,1,(kI 7)),(1,1,(.t 63))]),i1 2 (.mv (.k (.a (.raw (.map none))))),i0 (.store 2 (.t 3) (.t 64))]
noncomputable abbrev r20:List In:=[mv 65 4,i1 66 (.faddr 0 (.t 11)),i1 67 (.load 1 false (.t 66)),mv 68 5,i0 (.mupd Tryz.prog 9 3 (.int .i64) (.t 65) (.t 67) (.t 68))]
noncomputable abbrev r21:List In:=[i1 69 (.bin .add (.t 48) (kI 1)),mv 48 69]
noncomputable abbrev r22:List In:=[i1 70 (.bin .add (.t 21) (kI 1)),mv 21 70]
noncomputable abbrev r23:List In:=[mv 71 4,i1 72 (.build [.int .i64 0,.int .i64 0] []),mv 2 71,i0 (.store 2 (.t 3) (.t 72))]
noncomputable abbrev code:IC:=.seq (.reg r0) (.seq (.seq (.reg r1) (.cond (.t 16) (.seq (.reg r2) .ret) .skip)) (.seq (.reg r3) (.seq (.seq (.reg r4) (.block 0 (.loop (.seq (.reg r5) (.seq (.cond (.t 22) .skip (.exit 0)) (.seq (.block 1 (.seq (.reg r6) (.seq (.seq (.reg r7) (.cond (.t 29) (.seq (.reg r8) .ret) .skip)) (.seq (.reg r9) (.seq (.seq (.reg r10) (.cond (.t 41) (.seq (.dregt r11 r12) .ret) .skip)) (.seq (.reg r13) (.block 2 (.loop (.seq (.reg r14) (.seq (.cond (.t 49) .skip (.exit 2)) (.seq (.block 3 (.seq (.reg r15) (.seq (.seq (.reg r16) (.cond (.t 54) (.exit 3) .skip)) (.seq (.seq (.reg r17) (.seq (.reg r18) (.cond (.t 62) (.seq (.reg r19) .ret) .skip))) (.reg r20))))) (.reg r21)))))))))))) (.reg r22))))))) (.seq (.reg r23) .ret))))
abbrev res:List RV:=[.tmp 2,.cell 3 2 true]
theorem fn:Body Tryz.prog 62 73 code res:=⟨by decide,Tryz.f62,_,Tryz.func62,rfl,rfl,by kernel_rfl,by kernel_rfl⟩
end Oe
namespace W6
noncomputable abbrev r0:List In:=[i1 4 (.alloc 81 [.raw (.slice none 0 0),.raw (.slice none 0 0),.raw (.slice none 0 0)]),i1 5 (.alloc 83 [.int .i64 0,.int .i64 0])]
noncomputable abbrev r1:List In:=[mv 34 0,i1 35 (.call 62 [.t 34]),mv 33 35,i1 36 (.ext 0 (.t 33)),i1 37 (.ext 1 (.t 33)),i1 7 (.alloc 83 [.int .i64 0,.int .i64 0]),mv 6 36,i0 (.store 2 (.t 7) (.t 37))]
noncomputable abbrev r2:List In:=[i1 38 (.faddr 0 (.t 7)),i1 39 (.load 1 false (.t 38)),i1 40 (.bin .neq (.t 39) (kI 0))]
noncomputable abbrev r3:DT:=(tk 41 (.build [.raw (.slice none 0 0),.raw (.slice none 0 0),.raw (.slice none 0 0)] []) false (al 42 (.load 2 true (.t 7)) false (.alt (i0 (.store 3 (.t 4) (.t 41))) false (.alt (i0 (.store 2 (.t 5) (.t 42))) false .done .stop) .stop) (.alt (i0 (.store 3 (.t 4) (.t 41))) false (al 42 (.load 2 true (.t 7)) false (.alt (i0 (.store 2 (.t 5) (.t 42))) false .done .stop) .stop) .stop)))
noncomputable abbrev r4:List In:=[mv 44 6,mv 45 1,i1 46 (.mlook Tryz.prog 9 3 (.int .i64) true (.t 44) (.t 45)),mv 43 46,i1 47 (.ext 0 (.t 43)),i1 48 (.ext 1 (.t 43)),mv 8 47,mv 9 48]
noncomputable abbrev r5:List In:=[mv 49 9,i1 50 (.un .not (.t 49))]
noncomputable abbrev r6:List In:=[i1 51 (.build [.raw (.slice none 0 0),.raw (.slice none 0 0),.raw (.slice none 0 0)] []),mv 52 0,i1 53 (.len (.t 52)),i1 54 (.build [.int .i64 0,.int .i64 0] [(0,1,(kI 6)),(1,1,(.t 53))]),i0 (.store 3 (.t 4) (.t 51)),i0 (.store 2 (.t 5) (.t 54))]
noncomputable abbrev r7:List In:=[i1 10 (.alloc 81 [.raw (.slice none 0 0),.raw (.slice none 0 0),.raw (.slice none 0 0)])]
noncomputable abbrev r8:List In:=[i1 55 (.mkmap Tryz.prog 9 3 (.int .i64)),i1 11 (.alloc 102 [.raw (.map none)]),i0 (.store 1 (.t 11) (.t 55))]
noncomputable abbrev r9:List In:=[i1 12 (.mv (kI 0))]
noncomputable abbrev r10:List In:=[mv 56 8,i1 57 (.bsl 3 1 1 [.int .i64 0] [(0,1,(.t 56))]),i1 58 (.faddr 1 (.t 10)),i0 (.store 1 (.t 58) (.t 57))]
noncomputable abbrev r11:List In:=[i1 13 (.mv (kI 0))]
noncomputable abbrev r12:List In:=[mv 59 13,i1 60 (.faddr 1 (.t 10)),i1 61 (.load 1 false (.t 60)),i1 62 (.len (.t 61)),i1 63 (.bin .lss (.t 59) (.t 62))]
noncomputable abbrev r13:List In:=[i1 66 (.faddr 1 (.t 10)),i1 67 (.load 1 false (.t 66)),mv 68 13,i1 69 (.iaddr 1 (.t 67) (.t 68)),i1 70 (.load 1 false (.t 69)),mv 14 70]
noncomputable abbrev r14:List In:=[mv 72 0,mv 73 14,i1 74 (.iaddr 2 (.t 72) (.t 73)),i1 75 (.faddr 1 (.t 74)),i1 76 (.load 1 false (.t 75)),mv 77 12,i1 78 (.call 63 [.t 76,.t 77]),mv 71 78,i1 79 (.ext 0 (.t 71)),i1 80 (.ext 1 (.t 71)),i1 81 (.ext 2 (.t 71)),i1 17 (.alloc 83 [.int .i64 0,.int .i64 0]),mv 15 79,mv 16 80,i0 (.store 2 (.t 17) (.t 81))]
noncomputable abbrev r15:List In:=[i1 82 (.faddr 0 (.t 17)),i1 83 (.load 1 false (.t 82)),i1 84 (.bin .neq (.t 83) (kI 0))]
noncomputable abbrev r16:DT:=(tk 85 (.build [.raw (.slice none 0 0),.raw (.slice none 0 0),.raw (.slice none 0 0)] []) false (tm 88 14 false (al 86 (.faddr 0 (.t 17)) false (al 87 (.load 1 false (.t 86)) false (tk 89 (.build [.int .i64 0,.int .i64 0] [(0,1,(.t 87)),(1,1,(.t 88))]) false (.alt (i0 (.store 3 (.t 4) (.t 85))) false (.alt (i0 (.store 2 (.t 5) (.t 89))) false .done .stop) .stop)) (.alt (i0 (.store 3 (.t 4) (.t 85))) false (al 87 (.load 1 false (.t 86)) false (tk 89 (.build [.int .i64 0,.int .i64 0] [(0,1,(.t 87)),(1,1,(.t 88))]) false (.alt (i0 (.store 2 (.t 5) (.t 89))) false .done .stop)) .stop) .stop)) (.alt (i0 (.store 3 (.t 4) (.t 85))) false (al 86 (.faddr 0 (.t 17)) false (al 87 (.load 1 false (.t 86)) false (tk 89 (.build [.int .i64 0,.int .i64 0] [(0,1,(.t 87)),(1,1,(.t 88))]) false (.alt (i0 (.store 2 (.t 5) (.t 89))) false .done .stop)) .stop) .stop) .stop))))
noncomputable abbrev r17:List In:=[mv 90 15,i1 91 (.len (.t 90)),i1 92 (.mv (kI 0))]
noncomputable abbrev r18:List In:=[i1 93 (.bin .lss (.t 92) (.t 91))]
noncomputable abbrev r19:List In:=[i1 94 (.iaddr 2 (.t 90) (.t 92)),i1 95 (.load 2 true (.t 94)),i1 19 (.alloc 110 [.str [],.int .i64 0]),i0 (.store 2 (.t 19) (.t 95))]
noncomputable abbrev r20:List In:=[i1 96 (.faddr 0 (.t 19)),i1 97 (.load 1 false (.t 96)),i1 98 (.call 64 [.t 97]),i1 99 (.un .not (.t 98))]
noncomputable abbrev r21:List In:=[i1 100 (.load 1 false (.t 11)),i1 101 (.faddr 0 (.t 19)),i1 102 (.load 1 false (.t 101)),i1 103 (.faddr 1 (.t 19)),i1 104 (.load 1 false (.t 103)),i0 (.mupd Tryz.prog 9 3 (.int .i64) (.t 100) (.t 102) (.t 104))]
noncomputable abbrev r22:List In:=[i1 105 (.faddr 2 (.t 10)),i1 106 (.load 1 false (.t 105)),i1 107 (.load 2 true (.t 19)),i1 108 (.bsl 110 2 1 [.str [],.int .i64 0] [(0,2,(.t 107))]),i1 109 (.app 79 110 2 24 (.t 106) (.t 108)),i1 110 (.faddr 2 (.t 10)),i0 (.store 1 (.t 110) (.t 109))]
noncomputable abbrev r23:List In:=[i1 111 (.bin .add (.t 92) (kI 1)),mv 92 111]
noncomputable abbrev c19:IC:=.seq (.reg r18) (.seq (.cond (.t 93) .skip (.exit 2)) (.seq (.block 3 (.seq (.reg r19) (.seq (.reg r20) (.cond (.t 99) (.seq (.reg r21) (.reg r22)) .skip)))) (.reg r23)))
noncomputable abbrev r24:List In:=[mv 112 16,mv 12 112]
noncomputable abbrev r25:List In:=[mv 113 0,mv 114 14,i1 115 (.iaddr 2 (.t 113) (.t 114)),i1 116 (.faddr 1 (.t 115)),i1 117 (.load 1 false (.t 116)),i1 118 (.len (.t 117)),i1 119 (.mv (kI 0))]
noncomputable abbrev r26:List In:=[i1 120 (.bin .lss (.t 119) (.t 118))]
noncomputable abbrev r27:List In:=[i1 121 (.iaddr 6 (.t 117) (.t 119)),i1 122 (.load 6 true (.t 121)),i1 21 (.alloc 75 [.str [],.int .i64 0,.int .i64 0,.int .i64 0,.int .i64 0,.str []]),i0 (.store 6 (.t 21) (.t 122))]
noncomputable abbrev r28:List In:=[i1 123 (.faddr 5 (.t 21)),i1 124 (.load 1 false (.t 123)),i1 125 (.bin .eql (.t 124) (.k (.a (.str []))))]
noncomputable abbrev r29:List In:=[mv 127 6,i1 128 (.faddr 5 (.t 21)),i1 129 (.load 1 false (.t 128)),i1 130 (.mlook Tryz.prog 9 3 (.int .i64) true (.t 127) (.t 129)),mv 126 130,i1 131 (.ext 0 (.t 126)),i1 132 (.ext 1 (.t 126)),mv 22 131,mv 23 132]
noncomputable abbrev r30:List In:=[i1 133 (.faddr 5 (.t 21)),i1 134 (.load 1 false (.t 133)),i1 135 (.call 64 [.t 134])]
noncomputable abbrev r31:List In:=[mv 136 14,mv 137 15,i1 138 (.mkf 66 [.t 21]),i1 139 (.call 65 [.t 137,.t 138]),mv 22 136,mv 23 139]
noncomputable abbrev r32:List In:=[mv 140 23,i1 141 (.un .not (.t 140))]
noncomputable abbrev r33:List In:=[i1 142 (.build [.raw (.slice none 0 0),.raw (.slice none 0 0),.raw (.slice none 0 0)] []),mv 143 14,i1 144 (.build [.int .i64 0,.int .i64 0] [(0,1,(kI 6)),(1,1,(.t 143))]),i0 (.store 3 (.t 4) (.t 142)),i0 (.store 2 (.t 5) (.t 144))]
noncomputable abbrev r34:List In:=[i1 145 (.faddr 1 (.t 10)),i1 146 (.load 1 false (.t 145)),mv 147 22,i1 148 (.call 67 [.t 146,.t 147]),i1 149 (.un .not (.t 148))]
noncomputable abbrev r35:List In:=[i1 150 (.faddr 1 (.t 10)),i1 151 (.load 1 false (.t 150)),mv 152 22,i1 153 (.bsl 3 1 1 [.int .i64 0] [(0,1,(.t 152))]),i1 154 (.app 43 3 1 8 (.t 151) (.t 153)),i1 155 (.faddr 1 (.t 10)),i0 (.store 1 (.t 155) (.t 154))]
noncomputable abbrev r36:List In:=[i1 156 (.bin .add (.t 119) (kI 1)),mv 119 156]
noncomputable abbrev c41:IC:=.seq (.reg r26) (.seq (.cond (.t 120) .skip (.exit 4)) (.seq (.block 5 (.seq (.reg r27) (.seq (.seq (.reg r28) (.cond (.t 125) (.exit 5) .skip)) (.seq (.reg r29) (.seq (.seq (.reg r30) (.cond (.t 135) (.reg r31) .skip)) (.seq (.seq (.reg r32) (.cond (.t 141) (.seq (.reg r33) .ret) .skip)) (.seq (.reg r34) (.cond (.t 149) (.reg r35) .skip)))))))) (.reg r36)))
noncomputable abbrev r37:List In:=[mv 64 13,i1 65 (.bin .add (.t 64) (kI 1)),mv 13 65]
noncomputable abbrev c52:IC:=.seq (.seq (.reg r12) (.cond (.t 63) .skip (.exit 0))) (.seq (.block 1 (.seq (.reg r13) (.seq (.reg r14) (.seq (.seq (.reg r15) (.cond (.t 84) (.seq (.dany r16) .ret) .skip)) (.seq (.seq (.reg r17) (.block 2 (.loop c19))) (.seq (.reg r24) (.seq (.reg r25) (.block 4 (.loop c41))))))))) (.reg r37))
noncomputable abbrev r38:List In:=[i1 12 (.mv (kI 0))]
noncomputable abbrev r39:List In:=[i1 157 (.faddr 1 (.t 10)),i1 158 (.load 1 false (.t 157)),i1 159 (.len (.t 158)),i1 160 (.mv (kI 0))]
noncomputable abbrev r40:List In:=[i1 161 (.bin .lss (.t 160) (.t 159))]
noncomputable abbrev r41:List In:=[i1 162 (.iaddr 1 (.t 158) (.t 160)),i1 163 (.load 1 false (.t 162)),mv 25 163]
noncomputable abbrev r42:List In:=[mv 165 0,mv 166 25,i1 167 (.iaddr 2 (.t 165) (.t 166)),i1 168 (.faddr 1 (.t 167)),i1 169 (.load 1 false (.t 168)),mv 170 12,i1 171 (.call 63 [.t 169,.t 170]),mv 164 171,i1 172 (.ext 0 (.t 164)),i1 173 (.ext 1 (.t 164)),i1 174 (.ext 2 (.t 164)),i1 26 (.alloc 79 [.raw (.slice none 0 0)]),i1 28 (.alloc 83 [.int .i64 0,.int .i64 0]),i0 (.store 1 (.t 26) (.t 172)),mv 27 173,i0 (.store 2 (.t 28) (.t 174))]
noncomputable abbrev r43:List In:=[mv 176 0,mv 177 25,i1 178 (.iaddr 2 (.t 176) (.t 177)),i1 179 (.faddr 1 (.t 178)),i1 180 (.load 1 false (.t 179)),i1 181 (.mkf 69 [.t 11,.t 26]),i1 182 (.call 68 [.t 180,.t 181]),mv 175 182,i1 183 (.ext 0 (.t 175)),i1 184 (.ext 1 (.t 175)),i1 30 (.alloc 83 [.int .i64 0,.int .i64 0]),mv 29 183,i0 (.store 2 (.t 30) (.t 184))]
noncomputable abbrev r44:List In:=[mv 186 29,i1 187 (.call 72 [.t 186]),mv 185 187,i1 188 (.ext 0 (.t 185)),i1 189 (.ext 1 (.t 185)),i1 32 (.alloc 83 [.int .i64 0,.int .i64 0]),mv 31 188,i0 (.store 2 (.t 32) (.t 189))]
noncomputable abbrev r45:List In:=[i1 190 (.faddr 0 (.t 10)),i1 191 (.load 1 false (.t 190)),mv 192 31,i1 193 (.app 43 3 1 8 (.t 191) (.t 192)),i1 194 (.faddr 0 (.t 10)),i0 (.store 1 (.t 194) (.t 193))]
noncomputable abbrev r46:List In:=[mv 195 27,mv 12 195]
noncomputable abbrev r47:List In:=[i1 196 (.bin .add (.t 160) (kI 1)),mv 160 196]
noncomputable abbrev c65:IC:=.seq (.reg r40) (.seq (.cond (.t 161) .skip (.exit 6)) (.seq (.block 7 (.seq (.reg r41) (.seq (.reg r42) (.seq (.reg r43) (.seq (.reg r44) (.seq (.reg r45) (.reg r46))))))) (.reg r47)))
noncomputable abbrev r48:List In:=[i1 197 (.load 3 true (.t 10)),i1 198 (.build [.int .i64 0,.int .i64 0] []),i0 (.store 3 (.t 4) (.t 197)),i0 (.store 2 (.t 5) (.t 198))]
noncomputable abbrev code:IC:=.seq (.reg r0) (.seq (.reg r1) (.seq (.seq (.reg r2) (.cond (.t 40) (.seq (.dany r3) .ret) .skip)) (.seq (.reg r4) (.seq (.seq (.reg r5) (.cond (.t 50) (.seq (.reg r6) .ret) .skip)) (.seq (.reg r7) (.seq (.reg r8) (.seq (.reg r9) (.seq (.reg r10) (.seq (.seq (.reg r11) (.block 0 (.loop c52))) (.seq (.reg r38) (.seq (.seq (.reg r39) (.block 6 (.loop c65))) (.seq (.reg r48) .ret))))))))))))
abbrev res:List RV:=[.cell 4 3 true,.cell 5 2 true]
theorem fn:Body Tryz.prog 45 199 code res:=⟨by decide,Tryz.f45,_,Tryz.func45,rfl,rfl,by kernel_rfl,by kernel_rfl⟩
end W6
namespace Qc
abbrev r0:List In:=[i1 2 (.box 110 (.t 0)),i1 3 (.mv (kB false))]
abbrev r1:List In:=[i1 4 (.faddr 0 (.t 2)),i1 5 (.load 1 false (.t 4)),i1 6 (.faddr 5 (.t 1)),i1 7 (.load 1 false (.t 6)),i1 8 (.bin .eql (.t 5) (.t 7)),mv 3 8]
abbrev code:IC:=.seq (.reg r0) (.seq (.reg r1) .ret)
abbrev res:List RV:=[.tmp 3]
theorem fn:Body Tryz.prog 66 9 code res:=⟨by decide,Tryz.f66,_,Tryz.func66,rfl,rfl,by kernel_rfl,by kernel_rfl⟩
theorem enters:Xu Tryz.prog 66=true:=by kernel_rfl
end Qc
namespace Qd
noncomputable abbrev r0:List In:=[i1 3 (.box 9 (.t 0)),i1 4 (.mv (kI 0)),i1 5 (.mv (kB false))]
noncomputable abbrev r1:List In:=[i1 7 (.load 1 false (.t 3)),i1 8 (.call 64 [.t 7]),i1 9 (.un .not (.t 8))]
noncomputable abbrev r2:List In:=[i1 10 (.load 1 false (.t 1)),i1 11 (.load 1 false (.t 3)),i1 12 (.mlook Tryz.prog 9 3 (.int .i64) false (.t 10) (.t 11)),mv 4 12,i1 5 (.mv (kB true))]
noncomputable abbrev r3:List In:=[i1 13 (.load 1 false (.t 2)),i1 14 (.mkf 71 [.t 3]),i1 15 (.call 70 [.t 13,.t 14]),mv 6 15]
noncomputable abbrev r4:List In:=[i1 16 (.load 1 false (.t 2)),mv 17 6,i1 18 (.iaddr 2 (.t 16) (.t 17)),i1 19 (.faddr 1 (.t 18)),i1 20 (.load 1 false (.t 19)),mv 4 20,i1 5 (.mv (kB true))]
noncomputable abbrev code:IC:=.seq (.reg r0) (.seq (.seq (.reg r1) (.cond (.t 9) (.seq (.reg r2) .ret) .skip)) (.seq (.reg r3) (.seq (.reg r4) .ret)))
abbrev res:List RV:=[.tmp 4,.tmp 5]
theorem fn:Body Tryz.prog 69 21 code res:=⟨by decide,Tryz.f69,_,Tryz.func69,rfl,rfl,by kernel_rfl,by kernel_rfl⟩
theorem enters:Xu Tryz.prog 69=true:=by kernel_rfl
end Qd
namespace T1
abbrev r0:List In:=[i1 2 (.box 110 (.t 0)),i1 3 (.mv (kB false))]
abbrev r1:List In:=[i1 4 (.faddr 0 (.t 2)),i1 5 (.load 1 false (.t 4)),i1 6 (.load 1 false (.t 1)),i1 7 (.bin .eql (.t 5) (.t 6)),mv 3 7]
abbrev code:IC:=.seq (.reg r0) (.seq (.reg r1) .ret)
abbrev res:List RV:=[.tmp 3]
theorem fn:Body Tryz.prog 71 8 code res:=⟨by decide,Tryz.f71,_,Tryz.func71,rfl,rfl,by kernel_rfl,by kernel_rfl⟩
theorem enters:Xu Tryz.prog 71=true:=by kernel_rfl
end T1
namespace Ye
abbrev r0:List In:=[i1 4 (.mv (kB false))]
abbrev r1:List In:=[mv 5 0,mv 6 1,i1 7 (.call 70 [.t 5,.t 6]),i1 8 (.bin .geq (.t 7) (kI 0)),mv 4 8]
abbrev code:IC:=.seq (.reg r0) (.seq (.reg r1) .ret)
abbrev res:List RV:=[.tmp 4]
theorem fn:Body Tryz.prog 65 9 code res:=⟨by decide,Tryz.f65,_,Tryz.func65,rfl,rfl,by kernel_rfl,by kernel_rfl⟩
end Ye
namespace Vm
abbrev r0:List In:=[i1 4 (.mv (kB false))]
abbrev r1:List In:=[mv 5 0,mv 6 1,i1 7 (.call 83 [.t 5,.t 6]),i1 8 (.bin .geq (.t 7) (kI 0)),mv 4 8]
abbrev code:IC:=.seq (.reg r0) (.seq (.reg r1) .ret)
abbrev res:List RV:=[.tmp 4]
theorem fn:Body Tryz.prog 67 9 code res:=⟨by decide,Tryz.f67,_,Tryz.func67,rfl,rfl,by kernel_rfl,by kernel_rfl⟩
end Vm
namespace Yj
abbrev r0:List In:=[i1 4 (.mv (kI 0))]
abbrev r1:List In:=[mv 6 0,i1 7 (.len (.t 6)),i1 8 (.mv (kI 0))]
abbrev r2:List In:=[i1 9 (.bin .lss (.t 8) (.t 7))]
abbrev r3:List In:=[mv 10 8,mv 5 10]
abbrev r4:List In:=[mv 11 1,mv 12 0,mv 13 5,i1 14 (.iaddr 2 (.t 12) (.t 13)),i1 15 (.load 2 true (.t 14)),i1 16 (.callv (.t 11) [.t 15])]
abbrev r5:List In:=[mv 17 5,mv 4 17]
abbrev r6:List In:=[i1 18 (.bin .add (.t 8) (kI 1)),mv 8 18]
abbrev r7:List In:=[i1 4 (.mv (kI (-1)))]
abbrev code:IC:=.seq (.reg r0) (.seq (.seq (.reg r1) (.block 0 (.loop (.seq (.reg r2) (.seq (.cond (.t 9) .skip (.exit 0)) (.seq (.block 1 (.seq (.reg r3) (.seq (.reg r4) (.cond (.t 16) (.seq (.reg r5) .ret) .skip)))) (.reg r6))))))) (.seq (.reg r7) .ret))
abbrev res:List RV:=[.tmp 4]
theorem fn:Body Tryz.prog 70 19 code res:=⟨by decide,Tryz.f70,_,Tryz.func70,rfl,rfl,by kernel_rfl,by kernel_rfl⟩
end Yj
namespace Un
abbrev r0:List In:=[i1 4 (.mv (kI 0))]
abbrev r1:List In:=[mv 6 0,i1 7 (.len (.t 6)),i1 8 (.mv (kI 0))]
abbrev r2:List In:=[i1 9 (.bin .lss (.t 8) (.t 7))]
abbrev r3:List In:=[mv 10 8,mv 5 10]
abbrev r4:List In:=[mv 11 1,mv 12 0,mv 13 5,i1 14 (.iaddr 1 (.t 12) (.t 13)),i1 15 (.load 1 false (.t 14)),i1 16 (.bin .eql (.t 11) (.t 15))]
abbrev r5:List In:=[mv 17 5,mv 4 17]
abbrev r6:List In:=[i1 18 (.bin .add (.t 8) (kI 1)),mv 8 18]
abbrev r7:List In:=[i1 4 (.mv (kI (-1)))]
abbrev code:IC:=.seq (.reg r0) (.seq (.seq (.reg r1) (.block 0 (.loop (.seq (.reg r2) (.seq (.cond (.t 9) .skip (.exit 0)) (.seq (.block 1 (.seq (.reg r3) (.seq (.reg r4) (.cond (.t 16) (.seq (.reg r5) .ret) .skip)))) (.reg r6))))))) (.seq (.reg r7) .ret))
abbrev res:List RV:=[.tmp 4]
theorem fn:Body Tryz.prog 83 19 code res:=⟨by decide,Tryz.f83,_,Tryz.func83,rfl,rfl,by kernel_rfl,by kernel_rfl⟩
end Un
end Go.Proofs.YtddmlennnmpnhaaGreatDoor
namespace Go.Proofs.YtddmlennnmpnhaaGreatDoor
open Go.RowKit Vc
set_option linter.unusedVariables false
set_option linter.unusedSimpArgs false
attribute [local irreducible] T Za Zn Ent RdC RwC Yd Ze Zh
def Lb(s:List UInt8):Bool:=decide (0<s.length)&&decide (Wc s 0=46)
theorem Xo(s:List UInt8)(hs:s≠[]):RdC Tryz.prog 64 [.v (.a (.str s))] (.one (.a (.bool (Lb s)))):=by
 refine Mu.fn.rd (by simp) (by simp[Zz]) (by simp[Zz]) fun w=> ?_
 have hl:0<s.length:=List.length_pos_iff.2 hs
 repeat'(first|(first|refine Stp.h ?_)<;>try simp only[Zc,simprocAttr,↓reduceIte,reduceCtorEq,implies_true,Lb,hl]|(with_reducible first|assumption|refine And.intro ?_ ?_)|(intro h;first|omega|exact tg h ‹_›|exact tg ‹_› h|skip))
 all_goals first|omega|(simp;done)|skip
def Rw{α:Type}(p:α→Bool):List α→Nat→Int
 | [],_=> -1
 |x::l,k=>if p x=true then k else Rw p l (k+1)
def O7:Spot:=⟨[],0⟩
theorem Nv(l:List Spot)(g:List S1→Option SV)(p:Spot→Bool)(hg:∀y∈l,g [.agg [.str y.name,.int .i64 y.at_]]=some (.one (.a (.bool (p y)))))(hlen:l.length≤9223372036854775807):
 GC Tryz.prog 70 [.a (.ref 0),.a (.ref 1)] [(0,.ro .spot l),(1,.fn Tryz.prog g)] 2 [] (.one (.a (.int .i64 (Rw p l 0)))) [] 2:=by
 refine Yj.fn.gc (by simp) (by simp[Zu,Zw,Zv,Zj,Zf,Vc.S1.okN,At.okN,SV.okN,Res.okN,Res.outOk,Zo,Res.own,Value.oneCell']) fun w X fr=> ?_
 repeat'(first|(first|refine Stp.h ?_)<;>try simp only[Zc,simprocAttr,↓reduceIte,reduceCtorEq,implies_true]|(with_reducible first|assumption|refine And.intro ?_ ?_)|(intro h;first|omega|exact tg h ‹_›|exact tg ‹_› h|skip))
 refine T.loop (ι:= {k:Nat//k≤l.length∧Rw p (l.drop k) k=Rw p l 0})
  (fun x=>⟨[(8,.one (.a (.int .i64 (x.1:Int)))),(7,.one (.a (.int .i64 l.length))),(1,.one (.a (.ref 1))),(0,.one (.a (.ref 0)))],[(0,.ro .spot l),(1,.fn Tryz.prog g)],2⟩)
  (fun x=>l.length-x.1) ⟨0,by simp,by simp⟩ (Ent.mk1 (id) (by simp[Zt])) ?_
 rintro⟨k,hk,hrun⟩
 by_cases hlt:k<l.length
 ·have hdrop:l.drop k=l.getD k O7::l.drop (k+1):=by
   rw[List.drop_eq_getElem_cons hlt];simp[List.getD,hlt]
  have hmem:l.getD k O7∈l:=by simp[List.getD,hlt]
  generalize hx:l.getD k O7=x at hdrop hmem
  have hx':l.getD k (Kd.dflt .spot)=x:=hx
  rw[hdrop]at hrun
  simp only[Rw]at hrun
  have hgx:=hg x hmem
  have hw:IntKind.i64.wrap ((k:Int)+1)=((k+1:Nat):Int):=Zx (by omega)
  have ht:((k:Int)).toNat=k:=by omega
  cases hp:p x with
  |true=>
   rw[if_pos hp]at hrun
   rw[hp]at hgx
   repeat'(first|(first|refine Stp.h ?_)<;>try simp only[Zc,simprocAttr,↓reduceIte,reduceCtorEq,implies_true,hx',hw,ht,hgx,Int.ofNat_lt]|(with_reducible first|assumption|refine And.intro ?_ ?_)|(intro h;first|omega|exact tg h ‹_›|exact tg ‹_› h|skip))
   all_goals first|omega|(rw[←hrun];done)|skip
  |false=>
   rw[if_neg (by simp[hp])]at hrun
   rw[hp]at hgx
   repeat'(first|(first|refine Stp.h ?_)<;>try simp only[Zc,simprocAttr,↓reduceIte,reduceCtorEq,implies_true,hx',hw,ht,hgx,Int.ofNat_lt]|(with_reducible first|assumption|refine And.intro ?_ ?_)|(intro h;first|omega|exact tg h ‹_›|exact tg ‹_› h|skip))
   all_goals first|omega|exact⟨⟨k+1,hlt,hrun⟩,(Ent.mk1 (id) (by simp[Zt,hw])),by simp only;omega⟩|skip
 ·have hk2:k=l.length:=by omega
  subst hk2
  rw[List.drop_length]at hrun
  simp only[Rw]at hrun
  repeat'(first|(first|refine Stp.h ?_)<;>try simp only[Zc,simprocAttr,↓reduceIte,reduceCtorEq,implies_true,Int.ofNat_lt]|(with_reducible first|assumption|refine And.intro ?_ ?_)|(intro h;first|omega|exact tg h ‹_›|exact tg ‹_› h|skip))
  all_goals first|omega|(rw[←hrun];done)|skip
theorem Ls(l:List Spot)(g:List S1→Option SV)(p:Spot→Bool)(hg:∀y∈l,g [.agg [.str y.name,.int .i64 y.at_]]=some (.one (.a (.bool (p y)))))(hlen:l.length≤9223372036854775807):
 GC Tryz.prog 65 [.a (.ref 0),.a (.ref 1)] [(0,.ro .spot l),(1,.fn Tryz.prog g)] 2 [] (.one (.a (.bool (decide (0≤Rw p l 0))))) [] 2:=by
 refine Ye.fn.gc (by simp) (by simp[Zu,Zw,Zv,Zj,Zf,Vc.S1.okN,At.okN,SV.okN,Res.okN,Res.outOk,Zo,Res.own,Value.oneCell']) fun w X fr=> ?_
 repeat'(first|(first|refine Stp.h ?_|(refine Za.gc (Nv l g p hg hlen) ?_ ?_;focus simp[Zb]))<;>try simp only[Zc,simprocAttr,↓reduceIte,reduceCtorEq,implies_true]|(with_reducible first|assumption|refine And.intro ?_ ?_)|(intro h;first|omega|exact tg h ‹_›|exact tg ‹_› h|skip))
theorem Zfe(l:List Int)(v:Int)(hlen:l.length≤9223372036854775807):
 RdC Tryz.prog 83 [.ro (.int .i64) l,.v (.a (.int .i64 v))] (.one (.a (.int .i64 (Rw (fun x=>decide (v=x)) l 0)))):=by
 refine Un.fn.rd (by simp) (by simp[Zz]) (by simp[Zz]) fun w=> ?_
 repeat'(first|(first|refine Stp.h ?_)<;>try simp only[Zc,simprocAttr,↓reduceIte,reduceCtorEq,implies_true]|(with_reducible first|assumption|refine And.intro ?_ ?_)|(intro h;first|omega|exact tg h ‹_›|exact tg ‹_› h|skip))
 refine T.loop (ι:= {k:Nat//k≤l.length∧Rw (fun x=>decide (v=x)) (l.drop k) k=Rw (fun x=>decide (v=x)) l 0})
  (fun x=>⟨[(8,.one (.a (.int .i64 (x.1:Int)))),(7,.one (.a (.int .i64 l.length))),(1,.one (.a (.int .i64 v))),(0,.one (.a (.ref 0)))],[(0,.ro (.int .i64) l)],1⟩)
  (fun x=>l.length-x.1) ⟨0,by simp,by simp⟩ (Ent.mk1 (id) (by simp[Zt])) ?_
 rintro⟨k,hk,hrun⟩
 by_cases hlt:k<l.length
 ·have hdrop:l.drop k=l.getD k 0::l.drop (k+1):=by
   rw[List.drop_eq_getElem_cons hlt];simp[List.getD,hlt]
  generalize hx:l.getD k 0=x at hdrop
  have hx':l.getD k (Kd.dflt (.int .i64))=x:=hx
  rw[hdrop]at hrun
  simp only[Rw,decide_eq_true_eq]at hrun
  have hw:IntKind.i64.wrap ((k:Int)+1)=((k+1:Nat):Int):=Zx (by omega)
  have ht:((k:Int)).toNat=k:=by omega
  by_cases hp:v=x
  ·rw[if_pos hp]at hrun
   have hpd:decide (v=x)=true:=decide_eq_true hp
   repeat'(first|(first|refine Stp.h ?_)<;>try simp only[Zc,simprocAttr,↓reduceIte,reduceCtorEq,implies_true,hx',hw,ht,hpd,Int.ofNat_lt]|(with_reducible first|assumption|refine And.intro ?_ ?_)|(intro h;first|omega|exact tg h ‹_›|exact tg ‹_› h|skip))
   all_goals first|omega|(rw[←hrun];done)|skip
  ·rw[if_neg hp]at hrun
   have hpd:decide (v=x)=false:=decide_eq_false hp
   repeat'(first|(first|refine Stp.h ?_)<;>try simp only[Zc,simprocAttr,↓reduceIte,reduceCtorEq,implies_true,hx',hw,ht,hpd,Int.ofNat_lt]|(with_reducible first|assumption|refine And.intro ?_ ?_)|(intro h;first|omega|exact tg h ‹_›|exact tg ‹_› h|skip))
   all_goals first|omega|exact⟨⟨k+1,hlt,hrun⟩,(Ent.mk1 (id) (by simp[Zt,hw])),by simp only;omega⟩|skip
 ·have hk2:k=l.length:=by omega
  subst hk2
  rw[List.drop_length]at hrun
  simp only[Rw]at hrun
  repeat'(first|(first|refine Stp.h ?_)<;>try simp only[Zc,simprocAttr,↓reduceIte,reduceCtorEq,implies_true,Int.ofNat_lt]|(with_reducible first|assumption|refine And.intro ?_ ?_)|(intro h;first|omega|exact tg h ‹_›|exact tg ‹_› h|skip))
  all_goals first|omega|(rw[←hrun];done)|skip
theorem I4{α:Type}(p:α→Bool):∀(l:List α) (k:Nat),decide (0≤Rw p l k)=l.any p
 | [],k=>by simp[Rw]
 |x::l,k=>by
  by_cases hp:p x=true
  ·simp[Rw,hp]
  ·simp only[Bool.not_eq_true]at hp
   simpa[Rw,hp]using I4 p l (k+1)
theorem Fv(l:List Int)(v:Int)(hlen:l.length≤9223372036854775807):
 RdC Tryz.prog 67 [.ro (.int .i64) l,.v (.a (.int .i64 v))] (.one (.a (.bool (decide (v∈l))))):=by
 refine Vm.fn.rd (by simp) (by simp[Zz]) (by simp[Zz]) fun w=> ?_
 have h1:decide (0≤Rw (fun x=>decide (v=x)) l 0)=decide (v∈l):=by
  rw[I4,Bool.eq_iff_iff];simp
 repeat'(first|(first|refine Stp.h ?_|(refine rq (Zfe l v hlen) ?_ ?_;focus simp[Zz];done))<;>try simp only[Zc,simprocAttr,↓reduceIte,reduceCtorEq,implies_true,h1]|(with_reducible first|assumption|refine And.intro ?_ ?_)|(intro h;first|omega|exact tg h ‹_›|exact tg ‹_› h|skip))
def Fits(l:List (List UInt8×List Ln)):Prop:=l.length≤9223372036854775807∧∀u∈l,u.2.length≤9223372036854775807
def Nr:List UInt8×List Ln:=([],[])
def F3(s:Spot):Prop:=(0≤s.at_∧s.at_≤65536)∧Xk s.name=true∧s.name≠[]
theorem Kn:∀(l:List Ln) (k:Nat) (a:Int) (seen:List (List UInt8)) (acc:List Spot),0≤a→a≤65536→(∀s∈acc,F3 s)→(∀s∈(Ww l k a seen acc).1,F3 s)∧(Ww l k a seen acc).1.length≤acc.length+l.length∧0≤(Ww l k a seen acc).2.1∧(Ww l k a seen acc).2.1≤65536
 | [],k,a,seen,acc,h0,h1,h=>⟨h,Nat.le_refl _,h0,h1⟩
 |x::l,k,a,seen,acc,h0,h1,h=>by
  unfold Ww
  have hle:=Bk x
  split
  ·simp
  ·rename_i hw
   have hw':U5 x=0:=by simpa using hw
   split
   ·rename_i hlb
    split
    ·simp
    ·obtain⟨g1,g2,g3⟩:=Kn l (k+1) a (x.label::seen) (acc++[⟨x.label,a⟩]) h0 h1 (fun s hs=>by
      rcases List.mem_append.1 hs with hs|hs
      ·exact h s hs
      ·simp only[List.mem_singleton]at hs;subst hs
       exact⟨⟨h0,h1⟩,(P5 hw' hlb).1,hlb⟩)
     refine⟨g1,?_,g3⟩
     simp only[List.length_append,List.length_cons,List.length_nil]at g2 ⊢;omega
   ·split
    ·simp
    ·obtain⟨g1,g2,g3⟩:=Kn l (k+1) (a+Oy x) seen acc (by omega) (by omega) h
     refine⟨g1,?_,g3⟩
     simp only[List.length_cons];omega
theorem H8(l:List Ln)(a:Int)(h0:0≤a)(h1:a≤65536):(∀s∈(Yb l a).1,F3 s)∧(Yb l a).1.length≤l.length∧0≤(Yb l a).2.1∧(Yb l a).2.1≤65536:=by
 have:=Kn l 0 a [] [] h0 h1 (by simp)
 simpa[Yb]using this
@[reducible] def Own:Type:=List UInt8→Option (Kd.ty (.int .i64))
def Sl:Own:=fun _=>none
theorem E6:(fun _=>none)=Sl:=rfl
def U0(u:Int):List Spot→Own→Option Own
 | [],f=>some f
 |s::l,f=>if Lb s.name=true then U0 u l f else if(f s.name).isSome=true then none else U0 u l fun t=>if t=s.name then some u else f t
def Ur:List (List UInt8×List Ln)→Nat→Own→Own×Int×Int
 | [],_,f=>(f,0,0)
 |u::l,k,f=>if 40000<u.2.length then(Sl,5,k)else if(Yb u.2 0).2.2.1≠0 then(Sl,(Yb u.2 0).2.2.1,k)else
   match U0 k (Yb u.2 0).1 f with
   |none=>(Sl,7,k)
   |some f'=>Ur l (k+1) f'
def Z8(l:List (List UInt8×List Ln)):Own×Int×Int:=if 400<l.length then(Sl,5,0)else Ur l 0 Sl
def chV(l:List (List UInt8×List Ln)):SV:=if(Z8 l).2.1=0 then .tup [.a (.ref 1),.agg [.int .i64 0,.int .i64 0]]else .tup [.a (.raw (.map none)),.agg [.int .i64 (Z8 l).2.1,.int .i64 (Z8 l).2.2]]
noncomputable def chR(l:List (List UInt8×List Ln)):List (Nat×Res):=if(Z8 l).2.1=0 then[(1,.smap Tryz.prog 9 3 (.int .i64) (Z8 l).1 16000000)]else[]
theorem Ch{l:List (List UInt8×List Ln)}{e k:Int}{f:Own}(h:Z8 l=(f,e,k))(he:e≠0):chV l= .tup [.a (.raw (.map none)),.agg [.int .i64 e,.int .i64 k]]∧chR l=[]:=by
 unfold chV chR;rw[h];simp[he]
theorem ch_ok{l:List (List UInt8×List Ln)}{k:Int}{f:Own}(h:Z8 l=(f,0,k)):chV l= .tup [.a (.ref 1),.agg [.int .i64 0,.int .i64 0]]∧chR l=[(1,.smap Tryz.prog 9 3 (.int .i64) f 16000000)]:=by
 unfold chV chR;rw[h];simp
set_option maxHeartbeats 4000000 in
theorem Zaw(l:List (List UInt8×List Ln))(hf:Fits l):
 GC Tryz.prog 62 [.a (.ref 0)] [(0,.rou l)] 1 [] (chV l) (chR l) 2:=by
 refine Oe.fn.gc (by simp) (by
  unfold chV chR
  by_cases h:(Z8 l).2.1=0
  ·rw[if_pos h,if_pos h];exact(by simp[Zu,Zw,Zv,Zj,Zf,Vc.S1.okN,At.okN,SV.okN,Res.okN,Res.outOk,Zo,Res.own,Value.oneCell'])
  ·rw[if_neg h,if_neg h];exact(by simp[Zu,Zw,Zv,Zj,Zf,Vc.S1.okN,At.okN,SV.okN,Res.okN,Res.outOk,Zo,Res.own,Value.oneCell'])) fun w X fr=> ?_
 by_cases hbig:400<l.length
 ·have e:Z8 l=(Sl,5,0):=if_pos hbig
  obtain⟨e1,e2⟩:=Ch e (by decide)
  rw[e1,e2]
  repeat'(first|(first|refine Stp.h ?_)<;>try simp only[Zc,simprocAttr,↓reduceIte,reduceCtorEq,implies_true]|(with_reducible first|assumption|refine And.intro ?_ ?_)|(intro h;first|omega|exact tg h ‹_›|exact tg ‹_› h|skip))
  all_goals first|omega|skip
 have e:Z8 l=Ur l 0 Sl:=if_neg hbig
 repeat'(first|(first|refine Stp.h ?_)<;>try simp only[Zc,simprocAttr,↓reduceIte,reduceCtorEq,implies_true]|(with_reducible first|assumption|refine And.intro ?_ ?_)|(intro h;first|omega|exact tg h ‹_›|exact tg ‹_› h|skip))
 all_goals first|omega|skip
 refine T.loop (ι:= {p:Nat×Own×Nat//p.1≤l.length∧Ur (l.drop p.1) p.1 p.2.1=Z8 l∧p.2.2≤40000*p.1})
  (fun x=>⟨[(21,.one (.a (.int .i64 (x.1.1:Int)))),(20,.one (.a (.int .i64 l.length))),(19,.one (.a (.ref 0))),(4,.one (.a (.ref 2))),(3,.one (.a (.loc 1 0)))],
    [(2,.smap Tryz.prog 9 3 (.int .i64) x.1.2.1 x.1.2.2),(1,.cells 83 [.int .i64 0,.int .i64 0]),(0,.rou l)],3⟩)
  (fun x=>l.length-x.1.1) ⟨(0,Sl,0),by simp,by simp[e],by simp⟩ (Ent.mk1 (id) (by simp[Zt,E6])) ?_
 rintro⟨⟨k,f,n⟩,hk,hrun,hn⟩
 simp only at hk hrun hn
 by_cases hlt:k<l.length
 ·have hdrop:l.drop k=l.getD k Nr::l.drop (k+1):=by
   rw[List.drop_eq_getElem_cons hlt];simp[List.getD,hlt]
  generalize hx:l.getD k Nr=u at hdrop
  have hx':l.getD k ([],[])=u:=hx
  rw[hdrop]at hrun
  simp only[Ur]at hrun
  have hw:IntKind.i64.wrap ((k:Int)+1)=((k+1:Nat):Int):=Zx (by omega)
  have ht:((k:Int)).toNat=k:=by omega
  by_cases hul:40000<u.2.length
  ·rw[if_pos hul]at hrun
   obtain⟨e1,e2⟩:=Ch hrun.symm (by decide)
   rw[e1,e2]
   repeat'(first|(first|refine Stp.h ?_)<;>try simp only[Zc,simprocAttr,↓reduceIte,reduceCtorEq,implies_true,hx',hw,ht,Int.ofNat_lt]|(with_reducible first|assumption|refine And.intro ?_ ?_)|(intro h;first|omega|exact tg h ‹_›|exact tg ‹_› h|skip))
   all_goals first|omega|skip
  rw[if_neg hul]at hrun
  by_cases hsp:(Yb u.2 0).2.2.1=0
  ·rw[if_neg (by simpa using hsp)]at hrun
   obtain⟨hsok,hslen,_,_⟩:=H8 u.2 0 (by omega) (by omega)
   have hSp:=Nd u.2 0 (by omega) (by omega) (by omega)
   generalize hsp1:(Yb u.2 0).1=sp at hrun hsok hslen hSp
   repeat'(first|(first|refine Stp.h ?_|(refine Za.rw hSp ?_ ?_;(focus(((repeat'(first|exact rfl|exact trivial|refine And.intro ?_ ?_|(simp[Zz];done))));done))))<;>try simp only[Zc,simprocAttr,↓reduceIte,reduceCtorEq,implies_true,hx',hw,ht,hsp,Int.ofNat_lt]|(with_reducible first|assumption|refine And.intro ?_ ?_)|(intro h;first|omega|exact tg h ‹_›|exact tg ‹_› h|skip))
   all_goals first|omega|skip
   refine T.loop (ι:= {p:Nat×Own×Nat//p.1≤sp.length∧U0 k (sp.drop p.1) p.2.1=U0 k sp f∧p.2.2≤40000*k+p.1})
    (fun x=>⟨[(48,.one (.a (.int .i64 (x.1.1:Int)))),(47,.one (.a (.int .i64 sp.length))),(46,.one (.a (.ref 3))),(21,.one (.a (.int .i64 (k:Int)))),(20,.one (.a (.int .i64 l.length))),(19,.one (.a (.ref 0))),(5,.one (.a (.int .i64 (k:Int)))),(4,.one (.a (.ref 2))),(3,.one (.a (.loc 1 0)))],
      [(3,.row 110 .spot sp),(2,.smap Tryz.prog 9 3 (.int .i64) x.1.2.1 x.1.2.2),(1,.cells 83 [.int .i64 0,.int .i64 0]),(0,.rou l)],4⟩)
    (fun x=>sp.length-x.1.1) ⟨(0,f,n),by simp,by simp,by simpa using hn⟩ (Ent.mk1 (fun n=>if n=3 then 5 else n) (by simp[Zt])) ?_
   rintro⟨⟨j,f',n'⟩,hj,hrun2,hn'⟩
   simp only at hj hrun2 hn'
   by_cases hlt2:j<sp.length
   ·have hdrop2:sp.drop j=sp.getD j O7::sp.drop (j+1):=by
     rw[List.drop_eq_getElem_cons hlt2];simp[List.getD,hlt2]
    have hmem2:sp.getD j O7∈sp:=by simp[List.getD,hlt2]
    generalize hy:sp.getD j O7=y at hdrop2 hmem2
    have hy':sp.getD j (Kd.dflt .spot)=y:=hy
    obtain⟨⟨hy0,hy1⟩,hyn,hyne⟩:=hsok y hmem2
    have hyl:=O2 hyn
    rw[hdrop2]at hrun2
    simp only[U0]at hrun2
    have hw2:IntKind.i64.wrap ((j:Int)+1)=((j+1:Nat):Int):=Zx (by omega)
    have ht2:((j:Int)).toNat=j:=by omega
    cases hown:Lb y.name with
    |true=>
     rw[if_pos hown]at hrun2
     repeat'(first|(first|refine Stp.h ?_|(refine rq (Xo y.name hyne) ?_ ?_;focus simp[Zz];done))<;>try simp only[Zc,simprocAttr,↓reduceIte,reduceCtorEq,implies_true,hy',hw2,ht2,hown,Int.ofNat_lt]|(with_reducible first|assumption|refine And.intro ?_ ?_)|(intro h;first|omega|exact tg h ‹_›|exact tg ‹_› h|skip))
     all_goals first|omega|skip
     exact⟨⟨(j+1,f',n'),hlt2,hrun2,by simp only;omega⟩,(Ent.mk1 (id) (by simp[Zt,hw2])),by simp only;omega⟩
    |false=>
     rw[if_neg (by simp[hown])]at hrun2
     cases hfy:f' y.name with
     |some v=>
      rw[if_pos (by rw[hfy];rfl)]at hrun2
      rw[←hrun2]at hrun
      simp only at hrun
      obtain⟨e1,e2⟩:=Ch hrun.symm (by decide)
      rw[e1,e2]
      repeat'(first|(first|refine Stp.h ?_|(refine rq (Xo y.name hyne) ?_ ?_;focus simp[Zz];done))<;>try simp only[Zc,simprocAttr,↓reduceIte,reduceCtorEq,implies_true,hy',hw2,ht2,hown,hfy,Int.ofNat_lt]|(with_reducible first|assumption|refine And.intro ?_ ?_)|(intro h;first|omega|exact tg h ‹_›|exact tg ‹_› h|skip))
      all_goals first|omega|skip
     |none=>
      rw[if_neg (by rw[hfy];simp)]at hrun2
      repeat'(first|(first|refine Stp.h ?_|(refine rq (Xo y.name hyne) ?_ ?_;focus simp[Zz];done))<;>try simp only[Zc,simprocAttr,↓reduceIte,reduceCtorEq,implies_true,hy',hw2,ht2,hown,hfy,Int.ofNat_lt]|(with_reducible first|assumption|refine And.intro ?_ ?_)|(intro h;first|omega|exact tg h ‹_›|exact tg ‹_› h|skip))
      all_goals first|omega|skip
      all_goals try(first|(show(-9223372036854775808:Int)≤(k:Int);omega)|(show(k:Int)≤9223372036854775807;omega))
      exact⟨⟨(j+1,fun t=>if t=y.name then some (k:Int)else f' t,n'+1),hlt2,hrun2,by simp only;omega⟩,(Ent.mk1 (id) (by simp[Zt,hw2])),by simp only;omega⟩
   ·have hj2:j=sp.length:=by omega
    subst hj2
    rw[List.drop_length]at hrun2
    simp only[U0]at hrun2
    rw[←hrun2]at hrun
    simp only at hrun
    repeat'(first|(first|refine Stp.h ?_)<;>try simp only[Zc,simprocAttr,↓reduceIte,reduceCtorEq,implies_true,hw,Int.ofNat_lt]|(with_reducible first|assumption|refine And.intro ?_ ?_)|(intro h;first|omega|exact tg h ‹_›|exact tg ‹_› h|skip))
    all_goals first|omega|skip
    exact⟨⟨(k+1,f',n'),hlt,hrun,by simp only;omega⟩,(Ent.mk1 (id) (by simp[Zt,hw])),by simp only;omega⟩
  ·rw[if_pos (by simpa using hsp)]at hrun
   obtain⟨e1,e2⟩:=Ch hrun.symm (by simpa using hsp)
   rw[e1,e2]
   repeat'(first|(first|refine Stp.h ?_|(refine Za.rw (Nd u.2 0 (by omega) (by omega) (by omega)) ?_ ?_;(focus(((repeat'(first|exact rfl|exact trivial|refine And.intro ?_ ?_|(simp[Zz];done))));done))))<;>try simp only[Zc,simprocAttr,↓reduceIte,reduceCtorEq,implies_true,hx',hw,ht,hsp,Int.ofNat_lt]|(with_reducible first|assumption|refine And.intro ?_ ?_)|(intro h;first|omega|exact tg h ‹_›|exact tg ‹_› h|skip))
   all_goals first|omega|skip
 ·have hk2:k=l.length:=by omega
  subst hk2
  rw[List.drop_length]at hrun
  simp only[Ur]at hrun
  obtain⟨e1,e2⟩:=ch_ok hrun.symm
  rw[e1,e2]
  refine T.weak (Ent.smapLe (m:=2) 16000000 rfl (by simp only;omega)) ?_
  repeat'(first|(first|refine Stp.h ?_)<;>try simp only[Zc,simprocAttr,↓reduceIte,reduceCtorEq,implies_true,Int.ofNat_lt]|(with_reducible first|assumption|refine And.intro ?_ ?_)|(intro h;first|omega|exact tg h ‹_›|exact tg ‹_› h|skip))
  all_goals first|omega|skip
end Go.Proofs.YtddmlennnmpnhaaGreatDoor
