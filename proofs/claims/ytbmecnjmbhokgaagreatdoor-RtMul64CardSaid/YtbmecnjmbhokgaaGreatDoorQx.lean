/- A part of the proofs of this seat's laws: steps on the way, joined. It has no conditions of its own. -/
import Derived.Test.YtbmecnjmbhokgaaGreatDoorQu
import Derived.Test.YtbmecnjmbhokgaaGreatDoorQv
import Derived.Test.YtbmecnjmbhokgaaGreatDoorQw
import Derived.Test.YtbmecnjmbhokgaaGreatDoorQm
import Derived.Test.YtbmecnjmbhokgaaGreatDoorQn
namespace Go.Proofs.YtbmecnjmbhokgaaGreatDoor
open Go Go.RowKit Vc
set_option linter.unusedVariables false
set_option linter.unusedSimpArgs false
attribute [local irreducible] T Za Zn RdC RwC Ye Zf Zh
def Z3(nm:List UInt8):List Ln:=[⟨Z2,Vx,[]⟩,callL nm,⟨[],Vx,[]⟩]
def flM(v:Int)(j:Nat):List Int:=List.replicate j v++List.replicate (65536-j) 0
theorem Ee(v:Int)(j:Nat)(h:j≤65536):(flM v j).length=65536:=by
 unfold flM;rw[List.length_append,List.length_replicate,List.length_replicate];omega
theorem flM_set(v:Int)(j:Nat)(h:j<65536):(flM v j).set j v=flM v (j+1):=by
 unfold flM
 rw[show 65536-j=(65536-(j+1))+1 by omega,List.replicate_succ,List.set_append_right _ _ (by rw[List.length_replicate];exact Nat.le_refl _),List.length_replicate,Nat.sub_self,List.set_cons_zero,List.replicate_succ',List.append_assoc]
 rfl
theorem Cz(v:Int):List.replicate 65536 ((Kd.int .i64).dflt)=flM v 0:=by
 unfold flM
 rw[List.replicate_zero,List.nil_append,Nat.sub_zero]
 rfl
theorem flM_all(v:Int):flM v 65536=List.replicate 65536 v:=by unfold flM;rw[Nat.sub_self];exact List.append_nil _
def memB(p q fill:Int)(x y:List Int):List Int:=cpyL (cpyL (List.replicate 65536 fill) p.toNat 65536 x) q.toNat 65536 y
theorem Zfr{c:Cx}{S S2 S3:St}(h:Ent c S S2)(h2:Ent c S2 S3):Ent c S S3:=fun ρ a w hh=>by
 obtain⟨ρ',h'⟩:=h ρ a w hh
 exact h2 ρ' a w h'
attribute [local irreducible] Ent
def Zgi:List At:=[.int .i64 0,.int .i64 0,.raw (.slice none 0 0),.int .i64 0,.int .i64 0,.int .i64 0,.int .i64 0,.int .i64 0,.int .i64 0,.int .i64 0,.int .i64 0,.int .i64 0,.int .i64 0,.bool false,.bool false,.bool false,.bool false,.int .i64 0,.raw (.slice none 0 0)]
theorem Zia(p q sp fill:Int)(t:List At):mcs (Zgj p q sp fill) t= .int .i64 p:: .int .i64 q:: .int .i64 fill:: .int .i64 fill:: .int .i64 fill:: .int .i64 fill:: .int .i64 fill:: .int .i64 sp::t:=rfl
theorem Vw(l:List Int)(lo hi:Nat)(l':List Int)(h1:lo≤hi)(h2:hi≤l.length):(cpyL l lo hi l').length=l.length:=by
 unfold cpyL
 rw[List.length_append,List.length_append,List.length_take,List.length_take,List.length_drop]
 omega
set_option maxHeartbeats 16000000 in
set_option maxRecDepth 100000 in
theorem B3{G:Nat}{H:Nat→Option Obj}(hM:Yn G H)(hH:Z4 G H)(nm:List UInt8)(hnm:nm.length≤1000)(x y:List Int)(hx:x.length≤4)(hy:y.length≤4)(p q sp fill:Int)(hp:0≤p∧p≤65536)(hq:0≤q∧q≤65536)
 (hR:(linkS (unitsTo 24++[([],Z3 nm)]) Z2).2=(0,0))(code:List Int)(hC:(linkS (unitsTo 24++[([],Z3 nm)]) Z2).1.1=code)(M:Nat→Ma)(N:Nat)(hw:Int)
 (h:Trace code M N hw)(ht:(M 0).trap=0)(hm:∀j,j<65536→wd ((M 0).mem.getD j 0))(hN:N≤1000000)(h0:0<trimN (M N).mem 65536)
 (e1:(M 0).f=Zgj p q sp fill)(e2:(M 0).x=⟨false,false,false,false⟩)(e3:(M 0).pc=0)(e4:(M 0).mem=memB p q fill x y):
 GCp G H Tryz.prog 29 [.a (.str nm),.a (.ref 0),.a (.ref 1),.a (.int .i64 p),.a (.int .i64 q),.a (.int .i64 sp),.a (.int .i64 fill)] [(0,.ro (.int .i64) x),(1,.ro (.int .i64) y)] 2 []
  (.tup [.agg (Hs hw (M N).trap N (M N).f (M N).x (M N).pc),.a (.ref 3),.a (.bool true)]) [(2,.row 3 (.int .i64) ((M N).mem.take (trimN (M N).mem 65536))),(3,.row 3 (.int .i64) (memB p q fill x y))] 4:=by
 have hU:=Zhe hM hH
 have hL:=Link_gc (unitsTo 24++[([],Z3 nm)]) Z2 (Dl 24 (Nat.le_refl _) _ (by show 3≤1000;decide)).1 (by decide)
 obtain⟨q1,q2⟩:=lk_ok (congrArg Prod.fst hR)
 rw[q1,q2]at hL
 have hRun:=Run_gc code M N hw h ht hm 1000000 ⟨by omega,by omega⟩ h0
 have hul:=Na 24
 generalize unitsTo 24=us at*
 generalize linkS (us++[([],Z3 nm)]) Z2=R at*
 have hmn:Z2=[109,97,105,110]:=rfl
 have z0:∀l:List At,l.drop 0=l:=fun l=>rfl
 have t0:∀l:List At,l.take 0=[]:=fun l=>rfl
 refine Xf.fn.gcp (by simp) (by simp[Zu,Zw,Zv,Zj,Ze,Vc.S1.okN,At.okN,SV.okN,Res.okN,Res.outOk,Zo,Res.own,Value.oneCell',Xz,Hs]) fun w X fr hglob=> ?_
 rw[hmn]at hL
 refine T.regs ?_
 simp only[Zc,simprocAttr,↓reduceIte,reduceCtorEq,implies_true,Xf.r0]
 refine T.regCut 8 ⟨[(32,.one (.a (.ref 4))),(25,.one (.a (.ref 3))),(14,.one (.a (.loc 2 0))),(1,.one (.a (.ref 0))),(2,.one (.a (.ref 1))),(3,.one (.a (.int .i64 p))),(4,.one (.a (.int .i64 q))),(5,.one (.a (.int .i64 sp))),(6,.one (.a (.int .i64 fill)))],
  [(4,.row 72 .line (Z3 nm)),(3,.urow 0 75 us),(2,.cells 52 Zgi),(0,.ro (.int .i64) x),(1,.ro (.int .i64) y)],5⟩ ?_ ?_
 ·simp only[Zc,simprocAttr,↓reduceIte,reduceCtorEq,implies_true,Xf.r1,List.take_succ_cons,List.take_zero]
  refine Za.ru hglob hU ?_
  simp only[Zc,simprocAttr,↓reduceIte,reduceCtorEq,implies_true]
  exact Zfr (Ent.litRow (m:=4) .line (Z3 nm) rfl rfl rfl rfl (by show(3:Nat)≤_;decide)) (Ent.mk1 (id) (by simp[Zx,Zgi]))
 simp only[Zc,simprocAttr,↓reduceIte,reduceCtorEq,implies_true,Xf.r1,List.drop_succ_cons,List.drop_zero]
 repeat'(first|(first|refine Stp.h ?_|(refine Za.gc hL ?_ ?_;focus simp[Zb];done))<;>try simp only[Zc,simprocAttr,↓reduceIte,reduceCtorEq,implies_true,hul,Cz,hC,-List.reduceReplicate]|(with_reducible first|assumption|refine And.intro ?_ ?_)|(intro h;first|omega|exact tg h ‹_›|exact tg ‹_› h|skip))
 all_goals first|omega|exact .inl rfl|skip
 rw[Cz fill,Ee fill 0 (by decide)]
 refine T.loop (ι:= {j:Nat//j≤65536})
  (fun j=>⟨[(44,.one (.a (.int .i64 (j.1:Int)))),(43,.one (.a (.int .i64 65536))),(20,.one (.a (.ref 12))),(19,.one (.a (.loc 11 0))),(18,.one (.a (.loc 10 0))),(14,.one (.a (.loc 2 0))),(1,.one (.a (.ref 0))),(2,.one (.a (.ref 1))),(3,.one (.a (.int .i64 p))),(4,.one (.a (.int .i64 q))),(5,.one (.a (.int .i64 sp))),(6,.one (.a (.int .i64 fill)))],
    [(12,.row 3 (.int .i64) (flM fill j.1)),(11,.cells 80 [.int .i64 0,.int .i64 0]),(10,.cells 78 [.ref 7,.ref 8,.ref 9]),(7,.row 3 (.int .i64) code),(8,.row 3 (.int .i64) R.1.2.1),(9,.row 109 .spot R.1.2.2),(2,.cells 52 Zgi),(0,.ro (.int .i64) x),(1,.ro (.int .i64) y)],13⟩) (fun j=>65536-j.1) ⟨0,by omega⟩ (Ent.mk1 (id) (by simp[Zx,Zgi])) ?_
 rintro⟨j,hj⟩
 simp only
 by_cases hlt:j<65536
 ·have hl:=Ee fill j (by omega)
  have hs:=flM_set fill j hlt
  have j1:(j:Int)<65536:=by omega
  have j0:(0:Int)≤j:=by omega
  have jt:((j:Nat):Int).toNat=j:=by omega
  have jw:IntKind.i64.wrap ((j:Int)+1)=((j+1:Nat):Int):=Zy (by omega)
  generalize flM fill j=L at*
  repeat'(first|(first|refine Stp.h ?_)<;>try simp only[Zc,simprocAttr,↓reduceIte,reduceCtorEq,implies_true,j1,j0,jt,jw,hl,hlt]|(with_reducible first|assumption|refine And.intro ?_ ?_)|(intro h;first|omega|exact tg h ‹_›|exact tg ‹_› h|skip))
  all_goals first|omega|exact⟨⟨j+1,hlt⟩,(Ent.mk1 (id) (by simp[Zx,hs,Zgi])),by simp only;omega⟩|skip
 ·obtain rfl:j=65536:=by omega
  have j1:¬((65536:Nat):Int)<65536:=by decide
  have hl:=Ee fill 65536 (Nat.le_refl _)
  have ha:=flM_all fill
  unfold memB at*
  rw[←ha]at e4 ⊢
  generalize flM fill 65536=L at*
  have t65:((65536:Nat):Int).toNat=65536:=Int.toNat_natCast _
  have hl1:(cpyL L p.toNat 65536 x).length=65536:=by rw[Vw _ _ _ _ (by omega) (by omega),hl]
  have hl2:(cpyL (cpyL L p.toNat 65536 x) q.toNat 65536 y).length=65536:=by rw[Vw _ _ _ _ (by omega) (by omega),hl1]
  obtain⟨L1,hL1⟩:∃L1,cpyL L p.toNat 65536 x=L1:=⟨_,rfl⟩
  obtain⟨L2,hL2⟩:∃L2,cpyL (cpyL L p.toNat 65536 x) q.toNat 65536 y=L2:=⟨_,rfl⟩
  rw[hL2]at e4 hl2 ⊢
  rw[hL1]at hl1 hL2
  have hp1:p≤((65536:Nat):Int):=by omega
  have hq1:q≤((65536:Nat):Int):=by omega
  rw[e1,e2,e3,e4]at hRun
  rw[Zia]at hRun
  unfold Hs Zgi at*
  have n65:((65536:Nat):Int)+((0:Nat):Int)≤((65536:Nat):Int):=by decide
  repeat'(first|(first|refine Stp.h ?_|(refine Za.gc hRun ?_ ?_;focus simp[Zb,Z5];done)|refine Zf.split ?_ ?_|refine Zh.no ?_)<;>try simp only[Zc,simprocAttr,↓reduceIte,reduceCtorEq,implies_true,j1,hl,t65,n65,hL1,hL2,hl1,hl2,hp.1,hq.1,hp1,hq1,Z5,z0,t0,Zgj,List.cons_append,List.nil_append,decide_true]|(with_reducible first|assumption|refine And.intro ?_ ?_)|(intro h;first|omega|exact tg h ‹_›|exact tg ‹_› h|skip))
  all_goals omega
end Go.Proofs.YtbmecnjmbhokgaaGreatDoor
namespace Go.Proofs.YtbmecnjmbhokgaaGreatDoor
open Go Go.RowKit Vc
set_option linter.unusedVariables false
set_option linter.unusedSimpArgs false
attribute [local irreducible] T Za Zn Ent RdC RwC Ye Zf Zh
theorem H6(l:List Int):∀n k,trimN l n≤k→k<n→l.getD k 0=0
 |0,k,_,h=>by omega
 |n+1,k,h1,h2=>by
  unfold trimN at h1
  split at h1
  ·rename_i h0
   by_cases h:k=n
   ·rw[h];exact h0
   ·exact H6 l n k h1 (by omega)
  ·omega
theorem Zg3{l:List Int}{t k:Nat}(h:k<t):(l.take t).getD k 0=l.getD k 0:=by
 rw[List.getD_eq_getElem?_getD,List.getElem?_take_of_lt h,←List.getD_eq_getElem?_getD]
def okD(n m p q sp fill:Int):Prop:=(0≤fill∧fill≤65535)∧(64≤sp∧sp≤65535)∧apB p n q m=true∧apB p n (IntKind.i64.wrap (sp-64)) 64=true∧apB q m (IntKind.i64.wrap (sp-64)) 64=true
set_option maxHeartbeats 16000000 in
set_option maxRecDepth 100000 in
theorem Zdx(G:Nat)(H:Nat→Option Obj)(nm:List UInt8)(n m a b want:Nat)(zero:Bool)(p q sp fill:Int)(hok:¬okD n m p q sp fill):
 GCp G H Tryz.prog 16 [.a (.str nm),.a (.int .i64 (n:Int)),.a (.int .i64 (m:Int)),.a (.int .u64 (a:Int)),.a (.int .u64 (b:Int)),.a (.int .i64 p),.a (.int .i64 q),.a (.int .i64 sp),.a (.int .i64 fill),.a (.int .u64 (want:Int)),.a (.bool zero)] [] 0 [] (.one (.a (.bool true))) [] 0:=by
 have hA1:=Vi p n q m
 have hA2:=Vi p n (IntKind.i64.wrap (sp-64)) 64
 have hA3:=Vi q m (IntKind.i64.wrap (sp-64)) 64
 obtain⟨b1,h1⟩:∃b,decide (fill<0)=b:=⟨_,rfl⟩
 obtain⟨b2,h2⟩:∃b,decide (65535<fill)=b:=⟨_,rfl⟩
 obtain⟨b3,h3⟩:∃b,decide (sp<64)=b:=⟨_,rfl⟩
 obtain⟨b4,h4⟩:∃b,decide (65535<sp)=b:=⟨_,rfl⟩
 obtain⟨b5,h5⟩:∃b,apB p n q m=b:=⟨_,rfl⟩
 obtain⟨b6,h6⟩:∃b,apB p n (IntKind.i64.wrap (sp-64)) 64=b:=⟨_,rfl⟩
 obtain⟨b7,h7⟩:∃b,apB q m (IntKind.i64.wrap (sp-64)) 64=b:=⟨_,rfl⟩
 rw[h5]at hA1
 rw[h6]at hA2
 rw[h7]at hA3
 have hno:b1=true∨b1=false∧b2=true∨(b1=false∧b2=false∧b3=true)∨(b1=false∧b2=false∧b3=false∧b4=true)∨(b1=false∧b2=false∧b3=false∧b4=false∧b5=false)∨(b1=false∧b2=false∧b3=false∧b4=false∧b5=true∧b6=false)∨(b1=false∧b2=false∧b3=false∧b4=false∧b5=true∧b6=true∧b7=false):=by
  rcases b1 with _|_<;>rcases b2 with _|_<;>rcases b3 with _|_<;>rcases b4 with _|_<;>rcases b5 with _|_<;>rcases b6 with _|_<;>rcases b7 with _|_<;>simp only[reduceCtorEq,false_and,and_false,or_false,false_or,true_and,and_true,or_true,true_or,and_self]
  simp only[decide_eq_false_iff_not]at h1 h2 h3 h4
  exact hok ⟨⟨by omega,by omega⟩,⟨by omega,by omega⟩,h5,h6,h7⟩
 refine Xx.fn.gcp (by simp) (by simp[Zu,Zw,Zv,Zj,Ze,Vc.S1.okN,At.okN,SV.okN,Res.okN,Res.outOk,Zo,Res.own,Value.oneCell']) fun w' X fr hglob=> ?_
 rcases hno with rfl|⟨rfl,rfl⟩|⟨rfl,rfl,rfl⟩|⟨rfl,rfl,rfl,rfl⟩|⟨rfl,rfl,rfl,rfl,rfl⟩|⟨rfl,rfl,rfl,rfl,rfl,rfl⟩|⟨rfl,rfl,rfl,rfl,rfl,rfl,rfl⟩
 all_goals
  repeat'(first|(first|refine Stp.h ?_|(refine Za.gc hA1 ?_ ?_;focus simp[Zb];done)|(refine Za.gc hA2 ?_ ?_;focus simp[Zb];done)|(refine Za.gc hA3 ?_ ?_;focus simp[Zb];done)|refine Zf.split ?_ ?_|refine Zh.no ?_)<;>try simp only[Zc,simprocAttr,↓reduceIte,reduceCtorEq,implies_true,h1,h2,h3,h4,Bool.not_true,Bool.not_false]|(with_reducible first|assumption|refine And.intro ?_ ?_)|(intro h;first|omega|exact tg h ‹_›|exact tg ‹_› h|skip))
set_option maxHeartbeats 16000000 in
set_option maxRecDepth 100000 in
theorem Ws{G:Nat}{H:Nat→Option Obj}(hM:Yn G H)(hH:Z4 G H)(nm:List UInt8)(hnm:nm.length≤1000)(n m:Nat)(hn:n=1∨n=2∨n=4)(hmm:m=1∨m=2∨m=4)(a b want:Nat)(ha:a<18446744073709551616)(hb:b<18446744073709551616)(hwt:want<18446744073709551616)
 (p q sp fill:Int)(hp64: -9223372036854775808≤p∧p≤9223372036854775807)(hq64: -9223372036854775808≤q∧q≤9223372036854775807)
 (hR:(linkS (unitsTo 24++[([],Z3 nm)]) Z2).2=(0,0))(code:List Int)(hC:(linkS (unitsTo 24++[([],Z3 nm)]) Z2).1.1=code)
 (hpl:okD n m p q sp fill→∃(M:Nat→Ma) (N:Nat),Trace code M N 1∧M 0=mk (s0 p q sp fill (memB p q fill (wsp (a%2^(16*n)) n) (wsp (b%2^(16*m)) m))) 0 0∧(∀j,j<65536→wd ((M 0).mem.getD j 0))∧N≤20000∧(M N).f 7=sp∧0<trimN (M N).mem 65536∧
   ∀k:Nat,k<65536→((k:Int)<sp-64∨sp≤k)→(M N).mem.getD k 0=(cpyL (memB p q fill (wsp (a%2^(16*n)) n) (wsp (b%2^(16*m)) m)) p.toNat 65536 (wsp (want%2^(16*n)) n)).getD k 0):
 GCp G H Tryz.prog 16 [.a (.str nm),.a (.int .i64 (n:Int)),.a (.int .i64 (m:Int)),.a (.int .u64 (a:Int)),.a (.int .u64 (b:Int)),.a (.int .i64 p),.a (.int .i64 q),.a (.int .i64 sp),.a (.int .i64 fill),.a (.int .u64 (want:Int)),.a (.bool false)] [] 0 [] (.one (.a (.bool true))) [] 0:=by
 by_cases hok:okD n m p q sp fill
 rotate_left
 ·exact Zdx G H nm n m a b want false p q sp fill hok
 ·obtain⟨M,N,hT,hM0,hwd,hN,h7',htr,hmem⟩:=hpl hok
  obtain⟨⟨f1,f2⟩,⟨s1,s2⟩,k5,k6,k7⟩:=hok
  obtain⟨p0,q0,p1,q1,-⟩:=(Mz hp64 hq64 ⟨by omega,by omega⟩ ⟨by omega,by omega⟩).1 k5
  have hP:=B3 hM hH nm hnm (wsp (a%2^(16*n)) n) (wsp (b%2^(16*m)) m) (by rw[So];omega) (by rw[So];omega) p q sp fill ⟨p0,by omega⟩ ⟨q0,by omega⟩ hR code hC M N 1 hT (by rw[hM0];rfl) hwd (by omega) htr (by rw[hM0];rfl) (by rw[hM0];rfl) (by rw[hM0];rfl) (by rw[hM0];rfl)
  have hSa:=Oi a n ha hn
  have hSb:=Oi b m hb hmm
  have hSw:=Oi want n hwt hn
  have wn:IntKind.i64.wrap (16*(n:Int))=((16*n:Nat):Int):=by rw[Zk (by omega) (by omega)];omega
  have wm:IntKind.i64.wrap (16*(m:Int))=((16*m:Nat):Int):=by rw[Zk (by omega) (by omega)];omega
  have hl0:(memB p q fill (wsp (a%2^(16*n)) n) (wsp (b%2^(16*m)) m)).length=65536:=by
   unfold memB
   rw[Vw _ _ _ _ (by omega) (by rw[Vw _ _ _ _ (by omega) (by rw[List.length_replicate];omega),List.length_replicate];omega),Vw _ _ _ _ (by omega) (by rw[List.length_replicate];omega),List.length_replicate]
  have hlN:=hT.len N (Nat.le_refl _)
  have htz:=H6 (M N).mem 65536
  have htl:(((M N).mem.take (trimN (M N).mem 65536)).length)=trimN (M N).mem 65536:=by rw[List.length_take];have:=H5 (M N).mem 65536;omega
  have htg:∀k,k<trimN (M N).mem 65536→((M N).mem.take (trimN (M N).mem 65536)).getD k 0=(M N).mem.getD k 0:=fun k hk=>Zg3 hk
  have htr2:=H5 (M N).mem 65536
  unfold Hs at hP
  have hA1:=Vi p n q m
  have hA2:=Vi p n (IntKind.i64.wrap (sp-64)) 64
  have hA3:=Vi q m (IntKind.i64.wrap (sp-64)) 64
  have h1:decide (fill<0)=false:=decide_eq_false (by omega)
  have h2:decide (65535<fill)=false:=decide_eq_false (by omega)
  have h3:decide (sp<64)=false:=decide_eq_false (by omega)
  have h4:decide (65535<sp)=false:=decide_eq_false (by omega)
  rw[k5]at hA1
  rw[k6]at hA2
  rw[k7]at hA3
  generalize (M N).mem.take (trimN (M N).mem 65536)=Tm at*
  generalize trimN (M N).mem 65536=t at*
  generalize memB p q fill (wsp (a%2^(16*n)) n) (wsp (b%2^(16*m)) m)=L at*
  generalize wsp (a%2^(16*n)) n=xs at*
  generalize wsp (b%2^(16*m)) m=ys at*
  generalize wsp (want%2^(16*n)) n=zs at*
  have t65:((65536:Nat):Int).toNat=65536:=Int.toNat_natCast _
  have n65:((65536:Nat):Int)+((0:Nat):Int)≤((65536:Nat):Int):=by decide
  have hp1:p≤((65536:Nat):Int):=by omega
  have hl3:(cpyL L p.toNat 65536 zs).length=65536:=by rw[Vw _ _ _ _ (by omega) (by omega),hl0]
  have hN2:¬(20000:Int)<(N:Int):=by omega
  have z0:∀l:List At,l.drop 0=l:=fun l=>rfl
  have t0:∀l:List At,l.take 0=[]:=fun l=>rfl
  have c1:((1:Nat):Int)=1:=rfl
  refine Xx.fn.gcp (by simp) (by simp[Zu,Zw,Zv,Zj,Ze,Vc.S1.okN,At.okN,SV.okN,Res.okN,Res.outOk,Zo,Res.own,Value.oneCell']) fun w' X fr hglob=> ?_
  repeat'(first|(first|refine Stp.h ?_|(refine Za.gc hA1 ?_ ?_;focus simp[Zb,Z5];done)|(refine Za.gc hA2 ?_ ?_;focus simp[Zb,Z5];done)|(refine Za.gc hA3 ?_ ?_;focus simp[Zb,Z5];done)|(refine Za.gc hSa ?_ ?_;focus simp[Zb,Z5];done)|(refine Za.gc hSb ?_ ?_;focus simp[Zb,Z5];done)|(refine Za.gc hSw ?_ ?_;focus simp[Zb,Z5];done)|(refine Za.gcp hglob hP ?_ ?_;focus simp[Zb,Z5];done)|refine Zf.split ?_ ?_|refine Zh.no ?_)<;>try simp only[Zc,simprocAttr,↓reduceIte,reduceCtorEq,implies_true,Int.reduceToNat,List.getElem?_cons_succ,List.getElem?_cons_zero,h1,h2,h3,h4,wn,wm,hl0,t65,n65,p0,hp1,hN2,h7',Z5,z0,t0,c1,List.cons_append,List.nil_append,Bool.not_true,Bool.not_false,decide_true,decide_false,bne_self_eq_false,ne_eq,not_true_eq_false,not_false_eq_true]|(with_reducible first|assumption|refine And.intro ?_ ?_)|(intro h;first|omega|exact tg h ‹_›|exact tg ‹_› h|skip))
  all_goals first|omega|skip
  obtain⟨L3,hL3⟩:∃L3,cpyL L p.toNat 65536 zs=L3:=⟨_,rfl⟩
  rw[hL3]at hl3 hmem ⊢
  rw[hl3]
  refine T.loop (ι:= {j:Nat//j≤65536})
   (fun j=>⟨[(150,.one (.a (.int .i64 (j.1:Int)))),(149,.one (.a (.int .i64 65536))),(28,.one (.a (.ref 3))),(27,.one (.a (.loc 4 0))),(7,.one (.a (.int .i64 sp)))],
     [(3,.row 3 (.int .i64) L3),(4,.cells 52 (.int .i64 1:: .int .i64 (M N).trap:: .raw (.slice none 0 0):: .int .i64 0:: .int .i64 N::mcs (M N).f [.bool (M N).x.c,.bool (M N).x.z,.bool (M N).x.n,.bool (M N).x.v,.int .i64 (M N).pc,.ref 2])),
       (2,.row 3 (.int .i64) Tm)],7⟩) (fun j=>65536-j.1) ⟨0,by omega⟩ (Ent.mk1 id (by simp[Zx,Z5])) ?_
  rintro⟨j,hj⟩
  simp only
  have j0:(0:Int)≤j:=by omega
  have jt:((j:Nat):Int).toNat=j:=by omega
  have d0:(Kd.int .i64).dflt=(0:Int):=rfl
  by_cases hlt:j<65536
  ·have j1:(j:Int)<65536:=by omega
   have jw:IntKind.i64.wrap ((j:Int)+1)=((j+1:Nat):Int):=Zy (by omega)
   have sw:IntKind.i64.wrap (sp-64)=sp-64:=Zk (by omega) (by omega)
   have hmj:=hmem j hlt
   have htj:=htz j
   have htk:=htg j
   obtain⟨c,hc,hc2⟩:∃c,decide ((j:Int)<(t:Int))=c∧(c=true→j<t):=⟨_,rfl,fun h=>by have:=of_decide_eq_true h;omega⟩
   obtain⟨x1,w1⟩:∃x,decide ((j:Int)<sp-64)=x:=⟨_,rfl⟩
   obtain⟨x2,w2⟩:∃x,decide (sp≤(j:Int))=x:=⟨_,rfl⟩
   obtain⟨y,hy,hyw⟩:∃y,decide ((M N).mem.getD j 0=L3.getD j 0)=y∧(y=false→x1=false∧x2=false):=⟨_,rfl,fun h=>by
    have hne:=of_decide_eq_false h
    rw[←w1,←w2]
    exact⟨decide_eq_false fun h1=>hne (hmj (.inl h1)),decide_eq_false fun h2=>hne (hmj (.inr h2))⟩⟩
   rcases c with _|_
   ·have hj1:=of_decide_eq_false hc
    rw[htj (by omega) hlt]at hy
    rcases y with _|_
    ·obtain⟨rfl,rfl⟩:=hyw rfl
     repeat'(first|(first|refine Stp.h ?_|refine Zf.split ?_ ?_|refine Zh.no ?_)<;>try simp only[Zc,simprocAttr,↓reduceIte,reduceCtorEq,implies_true,Z5,z0,t0,j0,j1,jt,jw,sw,d0,htl,hl3,hlt,hc,hy,w1,w2,Int.ofNat_lt,Bool.not_true,Bool.not_false]|(with_reducible first|assumption|refine And.intro ?_ ?_)|(intro h;first|omega|exact tg h ‹_›|exact tg ‹_› h|skip))
     all_goals first|omega|exact⟨⟨j+1,hlt⟩,(Ent.mk1 id (by simp[Zx,Z5])),by simp only;omega⟩|skip
    ·repeat'(first|(first|refine Stp.h ?_|refine Zf.split ?_ ?_|refine Zh.no ?_)<;>try simp only[Zc,simprocAttr,↓reduceIte,reduceCtorEq,implies_true,Z5,z0,t0,j0,j1,jt,jw,sw,d0,htl,hl3,hlt,hc,hy,w1,w2,Int.ofNat_lt,Bool.not_true,Bool.not_false]|(with_reducible first|assumption|refine And.intro ?_ ?_)|(intro h;first|omega|exact tg h ‹_›|exact tg ‹_› h|skip))
     all_goals first|omega|exact⟨⟨j+1,hlt⟩,(Ent.mk1 id (by simp[Zx,Z5])),by simp only;omega⟩|skip
   ·have hj1:=hc2 rfl
    rw[←htk hj1]at hy
    have ht1:(j:Int)<(t:Int):=by omega
    rcases y with _|_
    ·obtain⟨rfl,rfl⟩:=hyw rfl
     repeat'(first|(first|refine Stp.h ?_|refine Zf.split ?_ ?_|refine Zh.no ?_)<;>try simp only[Zc,simprocAttr,↓reduceIte,reduceCtorEq,implies_true,Z5,z0,t0,j0,j1,jt,jw,sw,d0,htl,hl3,hlt,hc,ht1,hj1,hy,w1,w2,Int.ofNat_lt,Bool.not_true,Bool.not_false]|(with_reducible first|assumption|refine And.intro ?_ ?_)|(intro h;first|omega|exact tg h ‹_›|exact tg ‹_› h|skip))
     all_goals first|omega|exact⟨⟨j+1,hlt⟩,(Ent.mk1 id (by simp[Zx,Z5])),by simp only;omega⟩|skip
    ·repeat'(first|(first|refine Stp.h ?_|refine Zf.split ?_ ?_|refine Zh.no ?_)<;>try simp only[Zc,simprocAttr,↓reduceIte,reduceCtorEq,implies_true,Z5,z0,t0,j0,j1,jt,jw,sw,d0,htl,hl3,hlt,hc,ht1,hj1,hy,w1,w2,Int.ofNat_lt,Bool.not_true,Bool.not_false]|(with_reducible first|assumption|refine And.intro ?_ ?_)|(intro h;first|omega|exact tg h ‹_›|exact tg ‹_› h|skip))
     all_goals first|omega|exact⟨⟨j+1,hlt⟩,(Ent.mk1 id (by simp[Zx,Z5])),by simp only;omega⟩|skip
  ·obtain rfl:j=65536:=by omega
   have j1:¬((65536:Nat):Int)<65536:=by decide
   repeat'(first|(first|refine Stp.h ?_)<;>try simp only[Zc,simprocAttr,↓reduceIte,reduceCtorEq,implies_true,j1]|(with_reducible first|assumption|refine And.intro ?_ ?_)|(intro h;first|omega|exact tg h ‹_›|exact tg ‹_› h|skip))
end Go.Proofs.YtbmecnjmbhokgaaGreatDoor
namespace Go.Proofs.YtbmecnjmbhokgaaGreatDoor
open Go Vc
set_option linter.unusedVariables false
set_option linter.unusedSimpArgs false
theorem Zax(x m i:Nat)(h:i<m):(wsp x m).getD i 0=((x/65536^i%65536:Nat):Int):=by
 simp[wsp,List.getD_eq_getElem?_getD,h]
theorem Zde(x m:Nat):∀j,wd ((wsp x m).getD j 0):=fun j=>by
 by_cases h:j<m
 ·rw[Zax _ _ _ h];have:=Nat.mod_lt (x/65536^j) (show 65536>0 by decide);unfold wd;omega
 ·rw[List.getD_eq_getElem?_getD,List.getElem?_eq_none (by rw[So];omega)];exact⟨by decide,by decide⟩
theorem Kn(g:Nat→Int)(a:Nat):∀n,val g a n=val (fun j=>g (a+j)) 0 n
 |0=>rfl
 |n+1=>by rw[V0,V0,Kn g a n,Nat.zero_add]
theorem E5:∀n,pw n=((65536^n:Nat):Int)
 |0=>rfl
 |n+1=>by rw[pw,E5 n,Nat.pow_succ,Int.natCast_mul];exact Int.mul_comm _ _
theorem Ju(x m:Nat):∀k,k≤m→val (fun j=>(wsp x m).getD j 0) 0 k=((x%65536^k:Nat):Int)
 |0,_=>by rw[Nat.pow_zero,Nat.mod_one];rfl
 |k+1,h=>by
  rw[V0,Ju x m k (by omega),Nat.zero_add,Zax _ _ _ (by omega),E5,Nat.mod_pow_succ,Int.natCast_add,Int.natCast_mul]
theorem Nj(l l':List Int)(lo hi k:Nat)(h1:lo+l'.length≤hi)(h2:hi≤l.length):(cpyL l lo hi l').getD k 0=if lo≤k∧k<lo+l'.length then l'.getD (k-lo) 0 else l.getD k 0:=by
 have e1:l'.take (hi-lo)=l':=List.take_of_length_le (by omega)
 have e2:min l'.length (hi-lo)=l'.length:=by omega
 have e3:(l.take lo).length=lo:=by rw[List.length_take];omega
 unfold cpyL
 rw[e1,e2]
 simp only[List.getD_eq_getElem?_getD]
 by_cases ha:k<lo
 ·rw[if_neg (by omega),List.append_assoc,List.getElem?_append_left (by omega),List.getElem?_take_of_lt ha]
 ·by_cases hb:k<lo+l'.length
  ·rw[if_pos ⟨by omega,hb⟩,List.append_assoc,List.getElem?_append_right (by omega),List.getElem?_append_left (by omega),e3]
  ·rw[if_neg (by omega),List.getElem?_append_right (by rw[List.length_append];omega),List.length_append,e3,List.getElem?_drop]
   congr 2;omega
theorem Kk(l:List Int)(k:Nat)(hk:l.getD k 0≠0):∀n,k<n→k<trimN l n
 |0,h=>by omega
 |n+1,h=>by
  unfold trimN
  split
  ·rename_i h0
   by_cases e:k=n
   ·exact absurd (e▸h0) hk
   ·exact Kk l k hk n (by omega)
  ·exact h
theorem Wj(n:Nat):2^(16*n)=65536^n:=by rw[Nat.pow_mul]
structure Bgn (n m a b p q T:Nat) (s:Pu):Prop where
 ok:PuOk s
 r0:aR s 0=p
 r1:aR s 1=q
 r7:aR s 7=T
 pn:p+n≤65536
 qm:q+m≤65536
 t:63≤T∧T<65535
 d1:p+n≤q∨q+m≤p
 d2:p+n≤T-63∨T+1≤p
 d3:q+m≤T-63∨T+1≤q
 v1:val (gM s) p n=((a%65536^n:Nat):Int)
 v2:val (gM s) q m=((b%65536^m:Nat):Int)
def Zdi(code:List Int)(n m a b want:Nat):Prop:=∀(s:Pu) (p q T:Nat),Bgn n m a b p q T s→
 ∃(k:Nat) (s':Pu) (d:Nat),Rout code s s' 3 0 k p n T d∧d≤63∧k≤19998∧val (gM s') p n=((want%65536^n:Nat):Int)
def Zdl(code:List Int)(n m a b:Nat):Prop:=∀(s:Pu) (p q T:Nat),Bgn n m a b p q T s→
 ∃(k:Nat) (s':Pu) (c:Int),Td code k (mk s 3 0) (mk s' c 0)∧k≤19998∧PuOk s'∧atB code c [⟨32,0,0,1⟩]=true∧(0≤c∧c≤65000)∧gM s' T=gM s T
structure Pre (n m a b P Q S:Nat) (fill:Int) (mem:List Int):Prop where
 t:64≤S∧S≤65535
 w:∀k,wd (mem.getD k 0)
 l:mem.length=65536
 o:PuOk (s0 P Q S fill mem)
 g:∀k,gM (s1 P Q S fill mem) k=if k=S-1 then 2 else mem.getD k 0
 b:Bgn n m a b P Q (S-1) (s1 P Q S fill mem)
set_option maxHeartbeats 2000000 in
theorem Zd6(n m:Nat)(hn:1≤n∧n≤4)(hm:1≤m∧m≤4)(a b:Nat)(p q sp fill:Int)
 (hp64: -9223372036854775808≤p∧p≤9223372036854775807)(hq64: -9223372036854775808≤q∧q≤9223372036854775807)(hok:okD n m p q sp fill):
 ∃P Q S:Nat,p=P∧q=Q∧sp=S∧Pre n m a b P Q S fill (memB P Q fill (wsp (a%2^(16*n)) n) (wsp (b%2^(16*m)) m)):=by
 obtain⟨⟨f1,f2⟩,⟨t1,t2⟩,k5,k6,k7⟩:=hok
 have sw:IntKind.i64.wrap (sp-64)=sp-64:=Zk (by omega) (by omega)
 rw[sw]at k6 k7
 obtain⟨p0,q0,p1,q1,d1⟩:=(Mz hp64 hq64 ⟨by omega,by omega⟩ ⟨by omega,by omega⟩).1 k5
 obtain⟨-,-,-,-,d2⟩:=(Mz hp64 ⟨by omega,by omega⟩ ⟨by omega,by omega⟩ ⟨by omega,by omega⟩).1 k6
 obtain⟨-,-,-,-,d3⟩:=(Mz hq64 ⟨by omega,by omega⟩ ⟨by omega,by omega⟩ ⟨by omega,by omega⟩).1 k7
 obtain⟨P,rfl⟩:∃P:Nat,p=P:=⟨p.toNat,by omega⟩
 obtain⟨Q,rfl⟩:∃Q:Nat,q=Q:=⟨q.toNat,by omega⟩
 obtain⟨S,rfl⟩:∃S:Nat,sp=S:=⟨sp.toNat,by omega⟩
 refine⟨P,Q,S,rfl,rfl,rfl,?_⟩
 have va:=Ju (a%2^(16*n)) n n (Nat.le_refl _)
 have vb:=Ju (b%2^(16*m)) m m (Nat.le_refl _)
 rw[Wj,Nat.mod_mod]at va vb
 have la:=So (a%65536^n) n
 have lb:=So (b%65536^m) m
 have wa:=Zde (a%65536^n) n
 have wb:=Zde (b%65536^m) m
 rw[Wj,Wj]
 generalize wsp (a%65536^n) n=xs at*
 generalize wsp (b%65536^m) m=ys at*
 have hlr:(List.replicate 65536 fill).length=65536:=List.length_replicate ..
 have hgr:∀k,wd ((List.replicate 65536 fill).getD k 0):=fun k=>by
  rw[List.getD_eq_getElem?_getD,List.getElem?_replicate]
  split
  ·exact⟨f1,f2⟩
  ·exact⟨by decide,by decide⟩
 have hg0:∀k,(memB P Q fill xs ys).getD k 0=if Q≤k∧k<Q+ys.length then ys.getD (k-Q) 0 else if P≤k∧k<P+xs.length then xs.getD (k-P) 0 else(List.replicate 65536 fill).getD k 0:=fun k=>by
  unfold memB
  simp only[Int.toNat_natCast]
  rw[Nj _ _ _ _ _ (by omega) (by rw[Vw _ _ _ _ (by omega) (by omega)];omega),Nj _ _ _ _ _ (by omega) (by omega)]
 have hl0:(memB P Q fill xs ys).length=65536:=by
  unfold memB
  simp only[Int.toNat_natCast]
  rw[Vw _ _ _ _ (by omega) (by rw[Vw _ _ _ _ (by omega) (by omega)];omega),Vw _ _ _ _ (by omega) (by omega),hlr]
 generalize List.replicate 65536 fill=L at*
 have hw0:∀k,wd ((memB P Q fill xs ys).getD k 0):=fun k=>by
  rw[hg0]
  split
  ·exact wb _
  ·split
   ·exact wa _
   ·exact hgr k
 generalize memB P Q fill xs ys=mem at*
 have hs0:=s0_ok (p:=P) (q:=Q) (sp:=S) (fill:=fill) (mem:=mem) ⟨by omega,by omega⟩ ⟨by omega,by omega⟩ ⟨by omega,by omega⟩ ⟨f1,f2⟩ hl0 hw0
 have hs1:=s1_ok hs0 ⟨by omega,by omega⟩
 have hg1:∀k,gM (s1 P Q S fill mem) k=if k=S-1 then 2 else mem.getD k 0:=fun k=>by
  unfold s1
  rw[Wm (by rw[R5,hs0.len];simp only[Int.toNat_natCast];omega)]
  rfl
 have v1:val (gM (s1 P Q S fill mem)) P n=((a%65536^n:Nat):Int):=by
  rw[←va,Kn]
  refine Zt n 0 fun i _ hi=> ?_
  show gM _ (P+i)=_
  rw[hg1,if_neg (by omega),hg0,if_neg (by omega),if_pos (by omega)]
  congr 1;omega
 have v2:val (gM (s1 P Q S fill mem)) Q m=((b%65536^m:Nat):Int):=by
  rw[←vb,Kn]
  refine Zt m 0 fun i _ hi=> ?_
  show gM _ (Q+i)=_
  rw[hg1,if_neg (by omega),hg0,if_pos (by omega)]
  congr 1;omega
 have e7:(s1 P Q S fill mem).f 7=((S:Nat):Int)-1:=rfl
 exact⟨by omega,hw0,hl0,hs0,hg1,hs1,rfl,rfl,by unfold aR;rw[e7];omega,by omega,by omega,by omega,by omega,by omega,by omega,v1,v2⟩
theorem T4{code:List Int}(hcl:code.length≤65536)(a0:atB code 0 [⟨26,0,0,3⟩]=true)(a2:atB code 2 [⟨0,0,0,0⟩]=true)(n m:Nat)(hn:1≤n∧n≤4)(hm:1≤m∧m≤4)(a b want:Nat)(p q sp fill:Int)
 (hp64: -9223372036854775808≤p∧p≤9223372036854775807)(hq64: -9223372036854775808≤q∧q≤9223372036854775807)(hok:okD n m p q sp fill)(hr:Zdi code n m a b want):
 ∃(M:Nat→Ma) (N:Nat),Trace code M N 1∧M 0=mk (s0 p q sp fill (memB p q fill (wsp (a%2^(16*n)) n) (wsp (b%2^(16*m)) m))) 0 0∧(∀j,j<65536→wd ((M 0).mem.getD j 0))∧N≤20000∧(M N).f 7=sp∧0<trimN (M N).mem 65536∧
  ∀k:Nat,k<65536→((k:Int)<sp-64∨sp≤k)→(M N).mem.getD k 0=(cpyL (memB p q fill (wsp (a%2^(16*n)) n) (wsp (b%2^(16*m)) m)) p.toNat 65536 (wsp (want%2^(16*n)) n)).getD k 0:=by
 obtain⟨P,Q,S,rfl,rfl,rfl,ht,hw0,hl0,hs0,hg1,hB⟩:=Zd6 n m hn hm a b p q sp fill hp64 hq64 hok
 have vw:=Ju (want%2^(16*n)) n n (Nat.le_refl _)
 rw[Wj,Nat.mod_mod]at vw
 have lw:=So (want%65536^n) n
 have ww:=Zde (want%65536^n) n
 rw[show wsp (want%2^(16*n)) n=wsp (want%65536^n) n by rw[Wj]]
 generalize memB P Q fill (wsp (a%2^(16*n)) n) (wsp (b%2^(16*m)) m)=mem at*
 generalize wsp (want%65536^n) n=zs at*
 have hp:=hB.pn
 obtain⟨k,s',d,hR,hd,hk,hv⟩:=hr _ _ _ _ hB
 have hR':Rout code (s1 P Q S fill mem) s' 3 0 k P n ((S:Int).toNat-1) d:=hR
 obtain⟨M,hT,hM0,hMN⟩:=play_of hcl hs0 ⟨by omega,by omega⟩ a0 a2 hR'
 have hmem:∀j,(M (k+2)).mem.getD j 0=gM s' j:=fun j=>by rw[hMN];rfl
 have e7:(s1 P Q S fill mem).f 7=((S:Nat):Int)-1:=rfl
 refine⟨M,k+2,hT,hM0,fun j _=>by rw[hM0];exact hw0 j,by omega,?_,?_,fun j hj hsp=> ?_⟩
 ·rw[hMN]
  show s'.f 7=_
  rw[hR.sp,e7];omega
 ·have h2:gM s' (S-1)=2:=by rw[hR.m (S-1) (by have:=hB.d2;omega) (by omega),hg1,if_pos rfl]
  exact Nat.lt_of_le_of_lt (Nat.zero_le _) (Kk _ (S-1) (by rw[hmem,h2];decide) 65536 (by omega))
 ·rw[hmem,Int.toNat_natCast,Nj _ _ _ _ _ (by omega) (by omega)]
  split
  ·rename_i hin
   have hin2:=Ze3 (g:=gM s') (h:=fun i=>zs.getD i 0) n P 0 hR.ok.mem ww (by rw[hv,vw]) (j-P) (by omega)
   rw[show P+(j-P)=j by omega,Nat.zero_add]at hin2
   exact hin2
  ·rw[hR.m j (by omega) (by omega),hg1,if_neg (by omega)]
end Go.Proofs.YtbmecnjmbhokgaaGreatDoor
