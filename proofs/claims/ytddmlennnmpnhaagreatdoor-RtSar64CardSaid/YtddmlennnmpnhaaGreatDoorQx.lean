/- A part of the proofs of this seat's laws: steps on the way, joined. It has no conditions of its own. -/
import Derived.Test.YtddmlennnmpnhaaGreatDoorQn
import Derived.Test.YtddmlennnmpnhaaGreatDoorQw
namespace Go.Proofs.YtddmlennnmpnhaaGreatDoor
open Go Go.RowKit Vc
set_option linter.unusedVariables false
set_option linter.unusedSimpArgs false
attribute [local irreducible] T Za Zn Ent RdC RwC Yd Ze Zh
theorem Gc(l:List Int):∀n k,trimN l n≤k→k<n→l.getD k 0=0
 |0,k,_,h=>by omega
 |n+1,k,h1,h2=>by
  unfold trimN at h1
  split at h1
  ·rename_i h0
   by_cases h:k=n
   ·rw[h];exact h0
   ·exact Gc l n k h1 (by omega)
  ·omega
theorem Zg9{l:List Int}{t k:Nat}(h:k<t):(l.take t).getD k 0=l.getD k 0:=by
 rw[List.getD_eq_getElem?_getD,List.getElem?_take_of_lt h,←List.getD_eq_getElem?_getD]
def okD(n m p q sp fill:Int):Prop:=(0≤fill∧fill≤65535)∧(64≤sp∧sp≤65535)∧apB p n q m=true∧apB p n (IntKind.i64.wrap (sp-64)) 64=true∧apB q m (IntKind.i64.wrap (sp-64)) 64=true
set_option maxHeartbeats 16000000 in
set_option maxRecDepth 100000 in
theorem Zd6(G:Nat)(H:Nat→Option Obj)(nm:List UInt8)(n m a b want:Nat)(zero:Bool)(p q sp fill:Int)(hok:¬okD n m p q sp fill):
 GCp G H Tryz.prog 16 [.a (.str nm),.a (.int .i64 (n:Int)),.a (.int .i64 (m:Int)),.a (.int .u64 (a:Int)),.a (.int .u64 (b:Int)),.a (.int .i64 p),.a (.int .i64 q),.a (.int .i64 sp),.a (.int .i64 fill),.a (.int .u64 (want:Int)),.a (.bool zero)] [] 0 [] (.one (.a (.bool true))) [] 0:=by
 have hA1:=Vf p n q m
 have hA2:=Vf p n (IntKind.i64.wrap (sp-64)) 64
 have hA3:=Vf q m (IntKind.i64.wrap (sp-64)) 64
 obtain⟨b1,h1⟩:∃b,decide (fill<0)=b:=⟨_,rfl⟩
 obtain⟨b2,h2⟩:∃b,decide (65535<fill)=b:=⟨_,rfl⟩
 obtain⟨b3,h3⟩:∃b,decide (sp<64)=b:=⟨_,rfl⟩
 obtain⟨b4,h4⟩:∃b,decide (65535<sp)=b:=⟨_,rfl⟩
 obtain⟨b5,h5⟩:∃b,apB p n q m=b:=⟨_,rfl⟩
 obtain⟨b6,h6⟩:∃b,apB p n (IntKind.i64.wrap (sp-64)) 64=b:=⟨_,rfl⟩
 obtain⟨b7,h7⟩:∃b,apB q m (IntKind.i64.wrap (sp-64)) 64=b:=⟨_,rfl⟩
 rw[h5]at hA1
 rw[h6]at hA2
 rw[h7]at hA3
 have hno:b1=true∨b1=false∧b2=true∨(b1=false∧b2=false∧b3=true)∨(b1=false∧b2=false∧b3=false∧b4=true)∨(b1=false∧b2=false∧b3=false∧b4=false∧b5=false)∨(b1=false∧b2=false∧b3=false∧b4=false∧b5=true∧b6=false)∨(b1=false∧b2=false∧b3=false∧b4=false∧b5=true∧b6=true∧b7=false):=by
  rcases b1 with _|_<;>rcases b2 with _|_<;>rcases b3 with _|_<;>rcases b4 with _|_<;>rcases b5 with _|_<;>rcases b6 with _|_<;>rcases b7 with _|_<;>simp only[reduceCtorEq,false_and,and_false,or_false,false_or,true_and,and_true,or_true,true_or,and_self]
  simp only[decide_eq_false_iff_not]at h1 h2 h3 h4
  exact hok ⟨⟨by omega,by omega⟩,⟨by omega,by omega⟩,h5,h6,h7⟩
 refine Xy.fn.gcp (by simp) (by simp[Zu,Zw,Zv,Zj,Zf,Vc.S1.okN,At.okN,SV.okN,Res.okN,Res.outOk,Zo,Res.own,Value.oneCell']) fun w' X fr hglob=> ?_
 rcases hno with rfl|⟨rfl,rfl⟩|⟨rfl,rfl,rfl⟩|⟨rfl,rfl,rfl,rfl⟩|⟨rfl,rfl,rfl,rfl,rfl⟩|⟨rfl,rfl,rfl,rfl,rfl,rfl⟩|⟨rfl,rfl,rfl,rfl,rfl,rfl,rfl⟩
 all_goals
  repeat'(first|(first|refine Stp.h ?_|(refine Za.gc hA1 ?_ ?_;focus simp[Zb];done)|(refine Za.gc hA2 ?_ ?_;focus simp[Zb];done)|(refine Za.gc hA3 ?_ ?_;focus simp[Zb];done)|refine Ze.split ?_ ?_|refine Zh.no ?_)<;>try simp only[Zc,simprocAttr,↓reduceIte,reduceCtorEq,implies_true,h1,h2,h3,h4,Bool.not_true,Bool.not_false]|(with_reducible first|assumption|refine And.intro ?_ ?_)|(intro h;first|omega|exact tg h ‹_›|exact tg ‹_› h|skip))
set_option maxHeartbeats 16000000 in
set_option maxRecDepth 100000 in
theorem Wp{G:Nat}{H:Nat→Option Obj}(hM:Yn G H)(hH:Z4 G H)(nm:List UInt8)(hnm:nm.length≤1000)(n m:Nat)(hn:n=1∨n=2∨n=4)(hmm:m=1∨m=2∨m=4)(a b want:Nat)(ha:a<18446744073709551616)(hb:b<18446744073709551616)(hwt:want<18446744073709551616)
 (p q sp fill:Int)(hp64: -9223372036854775808≤p∧p≤9223372036854775807)(hq64: -9223372036854775808≤q∧q≤9223372036854775807)
 (hR:(linkS (unitsTo 24++[([],Z3 nm)]) Z2).2=(0,0))(code:List Int)(hC:(linkS (unitsTo 24++[([],Z3 nm)]) Z2).1.1=code)
 (hpl:okD n m p q sp fill→∃(M:Nat→Ma) (N:Nat),Trace code M N 1∧M 0=mk (s0 p q sp fill (memB p q fill (wsp (a%2^(16*n)) n) (wsp (b%2^(16*m)) m))) 0 0∧(∀j,j<65536→wd ((M 0).mem.getD j 0))∧N≤20000∧(M N).f 7=sp∧0<trimN (M N).mem 65536∧
   ∀k:Nat,k<65536→((k:Int)<sp-64∨sp≤k)→(M N).mem.getD k 0=(cpyL (memB p q fill (wsp (a%2^(16*n)) n) (wsp (b%2^(16*m)) m)) p.toNat 65536 (wsp (want%2^(16*n)) n)).getD k 0):
 GCp G H Tryz.prog 16 [.a (.str nm),.a (.int .i64 (n:Int)),.a (.int .i64 (m:Int)),.a (.int .u64 (a:Int)),.a (.int .u64 (b:Int)),.a (.int .i64 p),.a (.int .i64 q),.a (.int .i64 sp),.a (.int .i64 fill),.a (.int .u64 (want:Int)),.a (.bool false)] [] 0 [] (.one (.a (.bool true))) [] 0:=by
 by_cases hok:okD n m p q sp fill
 rotate_left
 ·exact Zd6 G H nm n m a b want false p q sp fill hok
 ·obtain⟨M,N,hT,hM0,hwd,hN,h7',htr,hmem⟩:=hpl hok
  obtain⟨⟨f1,f2⟩,⟨s1,s2⟩,k5,k6,k7⟩:=hok
  obtain⟨p0,q0,p1,q1,-⟩:=(My hp64 hq64 ⟨by omega,by omega⟩ ⟨by omega,by omega⟩).1 k5
  have hP:=B5 hM hH nm hnm (wsp (a%2^(16*n)) n) (wsp (b%2^(16*m)) m) (by rw[Ss];omega) (by rw[Ss];omega) p q sp fill ⟨p0,by omega⟩ ⟨q0,by omega⟩ hR code hC M N 1 hT (by rw[hM0];rfl) hwd (by omega) htr (by rw[hM0];rfl) (by rw[hM0];rfl) (by rw[hM0];rfl) (by rw[hM0];rfl)
  have hSa:=Og a n ha hn
  have hSb:=Og b m hb hmm
  have hSw:=Og want n hwt hn
  have wn:IntKind.i64.wrap (16*(n:Int))=((16*n:Nat):Int):=by rw[Zk (by omega) (by omega)];omega
  have wm:IntKind.i64.wrap (16*(m:Int))=((16*m:Nat):Int):=by rw[Zk (by omega) (by omega)];omega
  have hl0:(memB p q fill (wsp (a%2^(16*n)) n) (wsp (b%2^(16*m)) m)).length=65536:=by
   unfold memB
   rw[Vs _ _ _ _ (by omega) (by rw[Vs _ _ _ _ (by omega) (by rw[List.length_replicate];omega),List.length_replicate];omega),Vs _ _ _ _ (by omega) (by rw[List.length_replicate];omega),List.length_replicate]
  have hlN:=hT.len N (Nat.le_refl _)
  have htz:=Gc (M N).mem 65536
  have htl:(((M N).mem.take (trimN (M N).mem 65536)).length)=trimN (M N).mem 65536:=by rw[List.length_take];have:=Gb (M N).mem 65536;omega
  have htg:∀k,k<trimN (M N).mem 65536→((M N).mem.take (trimN (M N).mem 65536)).getD k 0=(M N).mem.getD k 0:=fun k hk=>Zg9 hk
  have htr2:=Gb (M N).mem 65536
  unfold Hq at hP
  have hA1:=Vf p n q m
  have hA2:=Vf p n (IntKind.i64.wrap (sp-64)) 64
  have hA3:=Vf q m (IntKind.i64.wrap (sp-64)) 64
  have h1:decide (fill<0)=false:=decide_eq_false (by omega)
  have h2:decide (65535<fill)=false:=decide_eq_false (by omega)
  have h3:decide (sp<64)=false:=decide_eq_false (by omega)
  have h4:decide (65535<sp)=false:=decide_eq_false (by omega)
  rw[k5]at hA1
  rw[k6]at hA2
  rw[k7]at hA3
  generalize (M N).mem.take (trimN (M N).mem 65536)=Tm at*
  generalize trimN (M N).mem 65536=t at*
  generalize memB p q fill (wsp (a%2^(16*n)) n) (wsp (b%2^(16*m)) m)=L at*
  generalize wsp (a%2^(16*n)) n=xs at*
  generalize wsp (b%2^(16*m)) m=ys at*
  generalize wsp (want%2^(16*n)) n=zs at*
  have t65:((65536:Nat):Int).toNat=65536:=Int.toNat_natCast _
  have n65:((65536:Nat):Int)+((0:Nat):Int)≤((65536:Nat):Int):=by decide
  have hp1:p≤((65536:Nat):Int):=by omega
  have hl3:(cpyL L p.toNat 65536 zs).length=65536:=by rw[Vs _ _ _ _ (by omega) (by omega),hl0]
  have hN2:¬(20000:Int)<(N:Int):=by omega
  have z0:∀l:List At,l.drop 0=l:=fun l=>rfl
  have t0:∀l:List At,l.take 0=[]:=fun l=>rfl
  have c1:((1:Nat):Int)=1:=rfl
  refine Xy.fn.gcp (by simp) (by simp[Zu,Zw,Zv,Zj,Zf,Vc.S1.okN,At.okN,SV.okN,Res.okN,Res.outOk,Zo,Res.own,Value.oneCell']) fun w' X fr hglob=> ?_
  repeat'(first|(first|refine Stp.h ?_|(refine Za.gc hA1 ?_ ?_;focus simp[Zb,Z5];done)|(refine Za.gc hA2 ?_ ?_;focus simp[Zb,Z5];done)|(refine Za.gc hA3 ?_ ?_;focus simp[Zb,Z5];done)|(refine Za.gc hSa ?_ ?_;focus simp[Zb,Z5];done)|(refine Za.gc hSb ?_ ?_;focus simp[Zb,Z5];done)|(refine Za.gc hSw ?_ ?_;focus simp[Zb,Z5];done)|(refine Za.gcp hglob hP ?_ ?_;focus simp[Zb,Z5];done)|refine Ze.split ?_ ?_|refine Zh.no ?_)<;>try simp only[Zc,simprocAttr,↓reduceIte,reduceCtorEq,implies_true,Int.reduceToNat,List.getElem?_cons_succ,List.getElem?_cons_zero,h1,h2,h3,h4,wn,wm,hl0,t65,n65,p0,hp1,hN2,h7',Z5,z0,t0,c1,List.cons_append,List.nil_append,Bool.not_true,Bool.not_false,decide_true,decide_false,bne_self_eq_false,ne_eq,not_true_eq_false,not_false_eq_true]|(with_reducible first|assumption|refine And.intro ?_ ?_)|(intro h;first|omega|exact tg h ‹_›|exact tg ‹_› h|skip))
  all_goals first|omega|skip
  obtain⟨L3,hL3⟩:∃L3,cpyL L p.toNat 65536 zs=L3:=⟨_,rfl⟩
  rw[hL3]at hl3 hmem ⊢
  rw[hl3]
  refine T.loop (ι:= {j:Nat//j≤65536})
   (fun j=>⟨[(150,.one (.a (.int .i64 (j.1:Int)))),(149,.one (.a (.int .i64 65536))),(28,.one (.a (.ref 3))),(27,.one (.a (.loc 4 0))),(7,.one (.a (.int .i64 sp)))],
     [(3,.row 3 (.int .i64) L3),(4,.cells 53 (.int .i64 1:: .int .i64 (M N).trap:: .raw (.slice none 0 0):: .int .i64 0:: .int .i64 N::mcs (M N).f [.bool (M N).x.c,.bool (M N).x.z,.bool (M N).x.n,.bool (M N).x.v,.int .i64 (M N).pc,.ref 2])),
       (2,.row 3 (.int .i64) Tm)],7⟩) (fun j=>65536-j.1) ⟨0,by omega⟩ (Ent.mk1 id (by simp[Zt,Z5])) ?_
  rintro⟨j,hj⟩
  simp only
  have j0:(0:Int)≤j:=by omega
  have jt:((j:Nat):Int).toNat=j:=by omega
  have d0:(Kd.int .i64).dflt=(0:Int):=rfl
  by_cases hlt:j<65536
  ·have j1:(j:Int)<65536:=by omega
   have jw:IntKind.i64.wrap ((j:Int)+1)=((j+1:Nat):Int):=Zx (by omega)
   have sw:IntKind.i64.wrap (sp-64)=sp-64:=Zk (by omega) (by omega)
   have hmj:=hmem j hlt
   have htj:=htz j
   have htk:=htg j
   obtain⟨c,hc,hc2⟩:∃c,decide ((j:Int)<(t:Int))=c∧(c=true→j<t):=⟨_,rfl,fun h=>by have:=of_decide_eq_true h;omega⟩
   obtain⟨x1,w1⟩:∃x,decide ((j:Int)<sp-64)=x:=⟨_,rfl⟩
   obtain⟨x2,w2⟩:∃x,decide (sp≤(j:Int))=x:=⟨_,rfl⟩
   obtain⟨y,hy,hyw⟩:∃y,decide ((M N).mem.getD j 0=L3.getD j 0)=y∧(y=false→x1=false∧x2=false):=⟨_,rfl,fun h=>by
    have hne:=of_decide_eq_false h
    rw[←w1,←w2]
    exact⟨decide_eq_false fun h1=>hne (hmj (.inl h1)),decide_eq_false fun h2=>hne (hmj (.inr h2))⟩⟩
   rcases c with _|_
   ·have hj1:=of_decide_eq_false hc
    rw[htj (by omega) hlt]at hy
    rcases y with _|_
    ·obtain⟨rfl,rfl⟩:=hyw rfl
     repeat'(first|(first|refine Stp.h ?_|refine Ze.split ?_ ?_|refine Zh.no ?_)<;>try simp only[Zc,simprocAttr,↓reduceIte,reduceCtorEq,implies_true,Z5,z0,t0,j0,j1,jt,jw,sw,d0,htl,hl3,hlt,hc,hy,w1,w2,Int.ofNat_lt,Bool.not_true,Bool.not_false]|(with_reducible first|assumption|refine And.intro ?_ ?_)|(intro h;first|omega|exact tg h ‹_›|exact tg ‹_› h|skip))
     all_goals first|omega|exact⟨⟨j+1,hlt⟩,(Ent.mk1 id (by simp[Zt,Z5])),by simp only;omega⟩|skip
    ·repeat'(first|(first|refine Stp.h ?_|refine Ze.split ?_ ?_|refine Zh.no ?_)<;>try simp only[Zc,simprocAttr,↓reduceIte,reduceCtorEq,implies_true,Z5,z0,t0,j0,j1,jt,jw,sw,d0,htl,hl3,hlt,hc,hy,w1,w2,Int.ofNat_lt,Bool.not_true,Bool.not_false]|(with_reducible first|assumption|refine And.intro ?_ ?_)|(intro h;first|omega|exact tg h ‹_›|exact tg ‹_› h|skip))
     all_goals first|omega|exact⟨⟨j+1,hlt⟩,(Ent.mk1 id (by simp[Zt,Z5])),by simp only;omega⟩|skip
   ·have hj1:=hc2 rfl
    rw[←htk hj1]at hy
    have ht1:(j:Int)<(t:Int):=by omega
    rcases y with _|_
    ·obtain⟨rfl,rfl⟩:=hyw rfl
     repeat'(first|(first|refine Stp.h ?_|refine Ze.split ?_ ?_|refine Zh.no ?_)<;>try simp only[Zc,simprocAttr,↓reduceIte,reduceCtorEq,implies_true,Z5,z0,t0,j0,j1,jt,jw,sw,d0,htl,hl3,hlt,hc,ht1,hj1,hy,w1,w2,Int.ofNat_lt,Bool.not_true,Bool.not_false]|(with_reducible first|assumption|refine And.intro ?_ ?_)|(intro h;first|omega|exact tg h ‹_›|exact tg ‹_› h|skip))
     all_goals first|omega|exact⟨⟨j+1,hlt⟩,(Ent.mk1 id (by simp[Zt,Z5])),by simp only;omega⟩|skip
    ·repeat'(first|(first|refine Stp.h ?_|refine Ze.split ?_ ?_|refine Zh.no ?_)<;>try simp only[Zc,simprocAttr,↓reduceIte,reduceCtorEq,implies_true,Z5,z0,t0,j0,j1,jt,jw,sw,d0,htl,hl3,hlt,hc,ht1,hj1,hy,w1,w2,Int.ofNat_lt,Bool.not_true,Bool.not_false]|(with_reducible first|assumption|refine And.intro ?_ ?_)|(intro h;first|omega|exact tg h ‹_›|exact tg ‹_› h|skip))
     all_goals first|omega|exact⟨⟨j+1,hlt⟩,(Ent.mk1 id (by simp[Zt,Z5])),by simp only;omega⟩|skip
  ·obtain rfl:j=65536:=by omega
   have j1:¬((65536:Nat):Int)<65536:=by decide
   repeat'(first|(first|refine Stp.h ?_)<;>try simp only[Zc,simprocAttr,↓reduceIte,reduceCtorEq,implies_true,j1]|(with_reducible first|assumption|refine And.intro ?_ ?_)|(intro h;first|omega|exact tg h ‹_›|exact tg ‹_› h|skip))
end Go.Proofs.YtddmlennnmpnhaaGreatDoor
namespace Go.Proofs.YtddmlennnmpnhaaGreatDoor
open Go Vc
set_option linter.unusedVariables false
set_option linter.unusedSimpArgs false
theorem Zah(x m i:Nat)(h:i<m):(wsp x m).getD i 0=((x/65536^i%65536:Nat):Int):=by
 simp[wsp,List.getD_eq_getElem?_getD,h]
theorem Zdo(x m:Nat):∀j,wd ((wsp x m).getD j 0):=fun j=>by
 by_cases h:j<m
 ·rw[Zah _ _ _ h];have:=Nat.mod_lt (x/65536^j) (show 65536>0 by decide);unfold wd;omega
 ·rw[List.getD_eq_getElem?_getD,List.getElem?_eq_none (by rw[Ss];omega)];exact⟨by decide,by decide⟩
theorem Ks(g:Nat→Int)(a:Nat):∀n,val g a n=val (fun j=>g (a+j)) 0 n
 |0=>rfl
 |n+1=>by rw[Vw,Vw,Ks g a n,Nat.zero_add]
theorem Ql:∀n,pw n=((65536^n:Nat):Int)
 |0=>rfl
 |n+1=>by rw[pw,Ql n,Nat.pow_succ,Int.natCast_mul];exact Int.mul_comm _ _
theorem Ju(x m:Nat):∀k,k≤m→val (fun j=>(wsp x m).getD j 0) 0 k=((x%65536^k:Nat):Int)
 |0,_=>by rw[Nat.pow_zero,Nat.mod_one];rfl
 |k+1,h=>by
  rw[Vw,Ju x m k (by omega),Nat.zero_add,Zah _ _ _ (by omega),Ql,Nat.mod_pow_succ,Int.natCast_add,Int.natCast_mul]
theorem Ni(l l':List Int)(lo hi k:Nat)(h1:lo+l'.length≤hi)(h2:hi≤l.length):(cpyL l lo hi l').getD k 0=if lo≤k∧k<lo+l'.length then l'.getD (k-lo) 0 else l.getD k 0:=by
 have e1:l'.take (hi-lo)=l':=List.take_of_length_le (by omega)
 have e2:min l'.length (hi-lo)=l'.length:=by omega
 have e3:(l.take lo).length=lo:=by rw[List.length_take];omega
 unfold cpyL
 rw[e1,e2]
 simp only[List.getD_eq_getElem?_getD]
 by_cases ha:k<lo
 ·rw[if_neg (by omega),List.append_assoc,List.getElem?_append_left (by omega),List.getElem?_take_of_lt ha]
 ·by_cases hb:k<lo+l'.length
  ·rw[if_pos ⟨by omega,hb⟩,List.append_assoc,List.getElem?_append_right (by omega),List.getElem?_append_left (by omega),e3]
  ·rw[if_neg (by omega),List.getElem?_append_right (by rw[List.length_append];omega),List.length_append,e3,List.getElem?_drop]
   congr 2;omega
theorem Kp(l:List Int)(k:Nat)(hk:l.getD k 0≠0):∀n,k<n→k<trimN l n
 |0,h=>by omega
 |n+1,h=>by
  unfold trimN
  split
  ·rename_i h0
   by_cases e:k=n
   ·exact absurd (e▸h0) hk
   ·exact Kp l k hk n (by omega)
  ·exact h
theorem Xh(n:Nat):2^(16*n)=65536^n:=by rw[Nat.pow_mul]
structure Bgn (n m a b p q T:Nat) (s:Pu):Prop where
 ok:PuOk s
 r0:aR s 0=p
 r1:aR s 1=q
 r7:aR s 7=T
 pn:p+n≤65536
 qm:q+m≤65536
 t:63≤T∧T<65535
 d1:p+n≤q∨q+m≤p
 d2:p+n≤T-63∨T+1≤p
 d3:q+m≤T-63∨T+1≤q
 v1:val (gM s) p n=((a%65536^n:Nat):Int)
 v2:val (gM s) q m=((b%65536^m:Nat):Int)
def Gr(code:List Int)(n m a b want:Nat):Prop:=∀(s:Pu) (p q T:Nat),Bgn n m a b p q T s→
 ∃(k:Nat) (s':Pu) (d:Nat),Rout code s s' 3 0 k p n T d∧d≤63∧k≤19998∧val (gM s') p n=((want%65536^n:Nat):Int)
def Zhi(code:List Int)(n m a b:Nat):Prop:=∀(s:Pu) (p q T:Nat),Bgn n m a b p q T s→
 ∃(k:Nat) (s':Pu) (c:Int),Ts code k (mk s 3 0) (mk s' c 0)∧k≤19998∧PuOk s'∧atB code c [⟨32,0,0,1⟩]=true∧(0≤c∧c≤65000)∧gM s' T=gM s T
structure Pre (n m a b P Q S:Nat) (fill:Int) (mem:List Int):Prop where
 t:64≤S∧S≤65535
 w:∀k,wd (mem.getD k 0)
 l:mem.length=65536
 o:PuOk (s0 P Q S fill mem)
 g:∀k,gM (s1 P Q S fill mem) k=if k=S-1 then 2 else mem.getD k 0
 b:Bgn n m a b P Q (S-1) (s1 P Q S fill mem)
set_option maxHeartbeats 2000000 in
theorem Zef(n m:Nat)(hn:1≤n∧n≤4)(hm:1≤m∧m≤4)(a b:Nat)(p q sp fill:Int)
 (hp64: -9223372036854775808≤p∧p≤9223372036854775807)(hq64: -9223372036854775808≤q∧q≤9223372036854775807)(hok:okD n m p q sp fill):
 ∃P Q S:Nat,p=P∧q=Q∧sp=S∧Pre n m a b P Q S fill (memB P Q fill (wsp (a%2^(16*n)) n) (wsp (b%2^(16*m)) m)):=by
 obtain⟨⟨f1,f2⟩,⟨t1,t2⟩,k5,k6,k7⟩:=hok
 have sw:IntKind.i64.wrap (sp-64)=sp-64:=Zk (by omega) (by omega)
 rw[sw]at k6 k7
 obtain⟨p0,q0,p1,q1,d1⟩:=(My hp64 hq64 ⟨by omega,by omega⟩ ⟨by omega,by omega⟩).1 k5
 obtain⟨-,-,-,-,d2⟩:=(My hp64 ⟨by omega,by omega⟩ ⟨by omega,by omega⟩ ⟨by omega,by omega⟩).1 k6
 obtain⟨-,-,-,-,d3⟩:=(My hq64 ⟨by omega,by omega⟩ ⟨by omega,by omega⟩ ⟨by omega,by omega⟩).1 k7
 obtain⟨P,rfl⟩:∃P:Nat,p=P:=⟨p.toNat,by omega⟩
 obtain⟨Q,rfl⟩:∃Q:Nat,q=Q:=⟨q.toNat,by omega⟩
 obtain⟨S,rfl⟩:∃S:Nat,sp=S:=⟨sp.toNat,by omega⟩
 refine⟨P,Q,S,rfl,rfl,rfl,?_⟩
 have va:=Ju (a%2^(16*n)) n n (Nat.le_refl _)
 have vb:=Ju (b%2^(16*m)) m m (Nat.le_refl _)
 rw[Xh,Nat.mod_mod]at va vb
 have la:=Ss (a%65536^n) n
 have lb:=Ss (b%65536^m) m
 have wa:=Zdo (a%65536^n) n
 have wb:=Zdo (b%65536^m) m
 rw[Xh,Xh]
 generalize wsp (a%65536^n) n=xs at*
 generalize wsp (b%65536^m) m=ys at*
 have hlr:(List.replicate 65536 fill).length=65536:=List.length_replicate ..
 have hgr:∀k,wd ((List.replicate 65536 fill).getD k 0):=fun k=>by
  rw[List.getD_eq_getElem?_getD,List.getElem?_replicate]
  split
  ·exact⟨f1,f2⟩
  ·exact⟨by decide,by decide⟩
 have hg0:∀k,(memB P Q fill xs ys).getD k 0=if Q≤k∧k<Q+ys.length then ys.getD (k-Q) 0 else if P≤k∧k<P+xs.length then xs.getD (k-P) 0 else(List.replicate 65536 fill).getD k 0:=fun k=>by
  unfold memB
  simp only[Int.toNat_natCast]
  rw[Ni _ _ _ _ _ (by omega) (by rw[Vs _ _ _ _ (by omega) (by omega)];omega),Ni _ _ _ _ _ (by omega) (by omega)]
 have hl0:(memB P Q fill xs ys).length=65536:=by
  unfold memB
  simp only[Int.toNat_natCast]
  rw[Vs _ _ _ _ (by omega) (by rw[Vs _ _ _ _ (by omega) (by omega)];omega),Vs _ _ _ _ (by omega) (by omega),hlr]
 generalize List.replicate 65536 fill=L at*
 have hw0:∀k,wd ((memB P Q fill xs ys).getD k 0):=fun k=>by
  rw[hg0]
  split
  ·exact wb _
  ·split
   ·exact wa _
   ·exact hgr k
 generalize memB P Q fill xs ys=mem at*
 have hs0:=s0_ok (p:=P) (q:=Q) (sp:=S) (fill:=fill) (mem:=mem) ⟨by omega,by omega⟩ ⟨by omega,by omega⟩ ⟨by omega,by omega⟩ ⟨f1,f2⟩ hl0 hw0
 have hs1:=s1_ok hs0 ⟨by omega,by omega⟩
 have hg1:∀k,gM (s1 P Q S fill mem) k=if k=S-1 then 2 else mem.getD k 0:=fun k=>by
  unfold s1
  rw[W8 (by rw[R5,hs0.len];simp only[Int.toNat_natCast];omega)]
  rfl
 have v1:val (gM (s1 P Q S fill mem)) P n=((a%65536^n:Nat):Int):=by
  rw[←va,Ks]
  refine Zy n 0 fun i _ hi=> ?_
  show gM _ (P+i)=_
  rw[hg1,if_neg (by omega),hg0,if_neg (by omega),if_pos (by omega)]
  congr 1;omega
 have v2:val (gM (s1 P Q S fill mem)) Q m=((b%65536^m:Nat):Int):=by
  rw[←vb,Ks]
  refine Zy m 0 fun i _ hi=> ?_
  show gM _ (Q+i)=_
  rw[hg1,if_neg (by omega),hg0,if_pos (by omega)]
  congr 1;omega
 have e7:(s1 P Q S fill mem).f 7=((S:Nat):Int)-1:=rfl
 exact⟨by omega,hw0,hl0,hs0,hg1,hs1,rfl,rfl,by unfold aR;rw[e7];omega,by omega,by omega,by omega,by omega,by omega,by omega,v1,v2⟩
theorem T5{code:List Int}(hcl:code.length≤65536)(a0:atB code 0 [⟨26,0,0,3⟩]=true)(a2:atB code 2 [⟨0,0,0,0⟩]=true)(n m:Nat)(hn:1≤n∧n≤4)(hm:1≤m∧m≤4)(a b want:Nat)(p q sp fill:Int)
 (hp64: -9223372036854775808≤p∧p≤9223372036854775807)(hq64: -9223372036854775808≤q∧q≤9223372036854775807)(hok:okD n m p q sp fill)(hr:Gr code n m a b want):
 ∃(M:Nat→Ma) (N:Nat),Trace code M N 1∧M 0=mk (s0 p q sp fill (memB p q fill (wsp (a%2^(16*n)) n) (wsp (b%2^(16*m)) m))) 0 0∧(∀j,j<65536→wd ((M 0).mem.getD j 0))∧N≤20000∧(M N).f 7=sp∧0<trimN (M N).mem 65536∧
  ∀k:Nat,k<65536→((k:Int)<sp-64∨sp≤k)→(M N).mem.getD k 0=(cpyL (memB p q fill (wsp (a%2^(16*n)) n) (wsp (b%2^(16*m)) m)) p.toNat 65536 (wsp (want%2^(16*n)) n)).getD k 0:=by
 obtain⟨P,Q,S,rfl,rfl,rfl,ht,hw0,hl0,hs0,hg1,hB⟩:=Zef n m hn hm a b p q sp fill hp64 hq64 hok
 have vw:=Ju (want%2^(16*n)) n n (Nat.le_refl _)
 rw[Xh,Nat.mod_mod]at vw
 have lw:=Ss (want%65536^n) n
 have ww:=Zdo (want%65536^n) n
 rw[show wsp (want%2^(16*n)) n=wsp (want%65536^n) n by rw[Xh]]
 generalize memB P Q fill (wsp (a%2^(16*n)) n) (wsp (b%2^(16*m)) m)=mem at*
 generalize wsp (want%65536^n) n=zs at*
 have hp:=hB.pn
 obtain⟨k,s',d,hR,hd,hk,hv⟩:=hr _ _ _ _ hB
 have hR':Rout code (s1 P Q S fill mem) s' 3 0 k P n ((S:Int).toNat-1) d:=hR
 obtain⟨M,hT,hM0,hMN⟩:=play_of hcl hs0 ⟨by omega,by omega⟩ a0 a2 hR'
 have hmem:∀j,(M (k+2)).mem.getD j 0=gM s' j:=fun j=>by rw[hMN];rfl
 have e7:(s1 P Q S fill mem).f 7=((S:Nat):Int)-1:=rfl
 refine⟨M,k+2,hT,hM0,fun j _=>by rw[hM0];exact hw0 j,by omega,?_,?_,fun j hj hsp=> ?_⟩
 ·rw[hMN]
  show s'.f 7=_
  rw[hR.sp,e7];omega
 ·have h2:gM s' (S-1)=2:=by rw[hR.m (S-1) (by have:=hB.d2;omega) (by omega),hg1,if_pos rfl]
  exact Nat.lt_of_le_of_lt (Nat.zero_le _) (Kp _ (S-1) (by rw[hmem,h2];decide) 65536 (by omega))
 ·rw[hmem,Int.toNat_natCast,Ni _ _ _ _ _ (by omega) (by omega)]
  split
  ·rename_i hin
   have hin2:=Ze6 (g:=gM s') (h:=fun i=>zs.getD i 0) n P 0 hR.ok.mem ww (by rw[hv,vw]) (j-P) (by omega)
   rw[show P+(j-P)=j by omega,Nat.zero_add]at hin2
   exact hin2
  ·rw[hR.m j (by omega) (by omega),hg1,if_neg (by omega)]
theorem Chg.any{s s':Pu}{A n:Nat}(h:Chg s s' 0 0):Chg s s' A n:=⟨h.ok,h.f,fun b _=>h.m b (by omega)⟩
def cpI(d v:Nat):List Ins:=[Jg 4 v,Me 12 d 4]
theorem Zaz{s:Pu}(h:PuOk s){d t v:Nat}(hd:d<8∧d≠4)(ht:s.f d=(t:Int))(hv:v≤65535):PuOk (exL (cpI d v) s)∧(∀i,i≠4→(exL (cpI d v) s).f i=s.f i)∧(exL (cpI d v) s).f 4=(v:Int)∧(exL (cpI d v) s).x.z=decide (t=v)∧(exL (cpI d v) s).x.c=decide (t<v)∧(∀b,gM (exL (cpI d v) s) b=gM s b):=by
 have h3:=h.reg d hd.1
 unfold wd at h3
 simp only[cpI,Yx,Yk]
 rw[L6,Zh5 (s:=stR s 4 (v:Int)) (.inl rfl)]
 have e1:(stR s 4 (v:Int)).f d=(t:Int):=by rw[Yf,if_neg hd.2];exact ht
 have e2:(stR s 4 (v:Int)).f 4=(v:Int):=rfl
 rw[e1,e2]
 have e3:twoF 12 (t:Int) (v:Int) (stR s 4 (v:Int)).x=Nx t v false:=by simp only[twoF,Int.reduceEq,↓reduceIte,or_true]
 rw[e3]
 have k1:cI (!false)=1:=rfl
 refine⟨T7 (Yi h ⟨by omega,by omega⟩),fun i i4=>by simp only[W7,Yf,if_neg i4],rfl,?_,?_,fun b=>rfl⟩
 ·rw[Jc]
  show decide (Sk t v false=0)=_
  rw[decide_eq_decide];unfold Sk T9;rw[k1];omega
 ·rw[Jc]
  show(!decide (65535<(t:Int)+(65535-v)+cI (!false)))=_
  rw[k1]
  by_cases hlt:t<v
  ·rw[decide_eq_true hlt,decide_eq_false (by omega)];rfl
  ·rw[decide_eq_false hlt,decide_eq_true (by omega)];rfl
def itN(f:Int→Int):Nat→Int→Int
 |0,v=>v
 |t+1,v=>itN f t (f v)
def shA(n:Nat):List Ins:=[iLd 3 1 0]++cpI 3 (16*n)
def shL(n:Nat)(base:Int):Int:=base+Z1 (shA n)+2+1
def shD(n:Nat)(B:List Ins)(base:Int):Int:=shL n base+3+2+Z1 B+3+2
def shI(n:Nat)(B:List Ins)(base:Int):List Ins:=
 shA n++([⟨22,0,0,shL n base⟩]++([Gj 3 4]++(cpI 3 0++([⟨20,0,0,shD n B base⟩]++(B++(agI++([⟨19,0,0,shL n base⟩]++[⟨27,0,0,0⟩])))))))
structure ShAt (code:List Int) (n:Nat) (B:List Ins) (base:Int):Prop where
 s1:atB code base (shA n)=true
 j1:atB code (base+Z1 (shA n)) [⟨22,0,0,shL n base⟩]=true
 s2:atB code (base+Z1 (shA n)+2) [Gj 3 4]=true
 s3:atB code (shL n base) (cpI 3 0)=true
 j2:atB code (shL n base+3) [⟨20,0,0,shD n B base⟩]=true
 s4:atB code (shL n base+3+2) B=true
 s5:atB code (shL n base+3+2+Z1 B) agI=true
 j3:atB code (shL n base+3+2+Z1 B+3) [⟨19,0,0,shL n base⟩]=true
 rt:atB code (shD n B base) [⟨27,0,0,0⟩]=true
theorem ShAt.of{code:List Int}{n:Nat}{B:List Ins}{base:Int}(h:atB code base (shI n B base)=true):ShAt code n B base:=by
 unfold shI at h
 obtain⟨h1,h⟩:=Z6 _ _ _ _ h
 obtain⟨h2,h⟩:=Z6 _ _ _ _ h
 obtain⟨h3,h⟩:=Z6 _ _ _ _ h
 obtain⟨h4,h⟩:=Z6 _ _ _ _ h
 obtain⟨h5,h⟩:=Z6 _ _ _ _ h
 obtain⟨h6,h⟩:=Z6 _ _ _ _ h
 obtain⟨h7,h⟩:=Z6 _ _ _ _ h
 obtain⟨h8,h9⟩:=Z6 _ _ _ _ h
 exact⟨h1,h2,h3,h4,h5,h6,h7,h8,h9⟩
theorem Zey(code:List Int)(n:Nat)(B:List Ins)(f:Int→Int)(hBs:B.all Ob=true)(hBl:B.length≤12)(hBz:Z1 B≤100)(hAz:Z1 (shA n)≤100)(base tr:Int)(hb:0≤base∧base≤60000)(hat:ShAt code n B base)(p:Nat)
 (hB:∀s,PuOk s→aR s 0=p→Chg s (exL B s) p n∧val (gM (exL B s)) p n=f (val (gM s) p n)):
 ∀(t:Nat) (s:Pu),PuOk s→s.f 3=(t:Int)→aR s 0=p→
  ∃(k:Nat) (s':Pu),Ts code k (mk s (shL n base) tr) (mk s' (shD n B base) tr)∧k≤t*18+3∧PuOk s'∧(∀i,i≠2→i≠3→i≠4→s'.f i=s.f i)∧
   (∀b,(b<p∨p+n≤b)→gM s' b=gM s b)∧val (gM s') p n=itN f t (val (gM s) p n)
 |t,s,h,h3,h0=>by
  have y1:=Ym (shA n)
  have y2:=Ym B
  have e0:shL n base=base+Z1 (shA n)+2+1:=rfl
  have eD:shD n B base=shL n base+3+2+Z1 B+3+2:=rfl
  have z3:Z1 (cpI 3 0)=3:=rfl
  have z5:Z1 agI=3:=rfl
  obtain⟨r1,_⟩:=Xv (tr:=tr) _ _ s hat.s3 (by decide) h (by omega) (by omega)
  obtain⟨o1,f1,_,xz,_,m1⟩:=Zaz h (v:=0) (by decide) h3 (by decide)
  rw[z3]at r1
  have l1:(cpI 3 0).length=2:=rfl
  rw[l1]at r1
  generalize exL (cpI 3 0) s=s1 at*
  have r2:=Uv (tr:=tr) (.inr (.inl rfl)) hat.j2 o1 (by omega)
  match t,h3,xz with
  |0,_,xz=>
   have hg:W9 20 s1.x=true:=by simp[W9,xz]
   rw[if_pos hg]at r2
   exact⟨_,s1,r1.trans r2,by omega,o1,fun i _ i3 i4=>f1 i i4,fun b _=>m1 b,Zy _ _ fun b _ _=>m1 b⟩
  |t+1,h3,xz=>
   have hg:¬W9 20 s1.x=true:=by simp[W9,xz]
   rw[if_neg hg]at r2
   have a0:aR s1 0=p:=by rw[←h0];unfold aR;rw[f1 0 (by decide)]
   obtain⟨r3,_⟩:=Xv (tr:=tr) _ _ s1 hat.s4 hBs o1 (by omega) (by omega)
   obtain⟨c2,v2⟩:=hB s1 o1 a0
   generalize exL B s1=s2 at*
   obtain⟨r4,_⟩:=Xv (tr:=tr) _ _ s2 hat.s5 (by decide) c2.ok (by omega) (by omega)
   obtain⟨o4,p4,q4,_,m4⟩:=Zhn c2.ok (t:=t) (by rw[c2.f 3 (by decide) (by decide),f1 3 (by decide)];exact h3)
   rw[z5]at r4
   have l4:agI.length=2:=rfl
   rw[l4]at r4
   generalize exL agI s2=s3 at*
   have r5:=Uv (tr:=tr) (.inl rfl) hat.j3 o4 (by omega)
   have hg5:W9 19 s3.x=true:=by simp[W9]
   rw[if_pos hg5]at r5
   have b0:aR s3 0=p:=by rw[←a0,←c2.aR (r:=0) (by decide) (by decide)];unfold aR;rw[p4 0 (by decide) (by decide)]
   obtain⟨k,s',r6,hk,ho,hf,hm,hv⟩:=Zey code n B f hBs hBl hBz hAz base tr hb hat p hB t s3 o4 q4 b0
   refine⟨_,s',((((r1.trans r2).trans r3).trans r4).trans r5).trans r6,by omega,ho,fun i i2 i3 i4=> ?_,fun b hb=> ?_,?_⟩
   ·rw[hf i i2 i3 i4,p4 i i3 i4,c2.f i i2 i4,f1 i i4]
   ·rw[hm b hb,m4 b,c2.m b hb,m1 b]
   ·have e1:val (gM s3) p n=f (val (gM s1) p n):=by rw[←v2];exact Zy _ _ fun b _ _=>m4 b
    have e2:val (gM s1) p n=val (gM s) p n:=Zy _ _ fun b _ _=>m1 b
    rw[hv,e1,e2];rfl
theorem sh_runs(code:List Int)(n:Nat)(hn:1≤n∧n≤4)(B:List Ins)(f:Int→Int)(hBs:B.all Ob=true)(hBl:B.length≤12)(hBz:Z1 B≤100)(base tr:Int)(hb:0≤base∧base≤60000)(hat:ShAt code n B base)(s:Pu)(h:PuOk s)(p q T w:Nat)(h0:aR s 0=p)(h1:aR s 1=q)(h7:aR s 7=T)
 (hq:q+1≤65536)(hT:T<65535)(hdp:p+n≤T∨T+1≤p)(hw:gM s q=(w:Int))
 (hB:∀s,PuOk s→aR s 0=p→Chg s (exL B s) p n∧val (gM (exL B s)) p n=f (val (gM s) p n)):
 ∃(k:Nat) (s':Pu),Rout code s s' base tr k p n T 0∧k≤2000∧val (gM s') p n=itN f (min w (16*n)) (val (gM s) p n):=by
 have hAz:Z1 (shA n)≤100:=by show 5≤100;decide
 have hAs:(shA n).all Ob=true:=rfl
 have y1:Z1 (shA n)=5:=rfl
 have y2:=Ym B
 have e0:shL n base=base+Z1 (shA n)+2+1:=rfl
 have eD:shD n B base=shL n base+3+2+Z1 B+3+2:=rfl
 have hf1:=h.reg 1 (by decide)
 have hwd:=h.mem q
 have hwd2:wd (gM s q):=hwd
 unfold wd at hf1
 have hA:((aR s 1:Nat):Int)=s.f 1:=by unfold aR;omega
 obtain⟨r1,_⟩:=Xv (tr:=tr) _ _ s hat.s1 hAs h (by omega) (by omega)
 have x1:exL (shA n) s=exL (cpI 3 (16*n)) (stR s 3 (w:Int)):=by
  simp only[shA,Y5,Yx,Yk]
  rw[Sg (s:=s) (d:=3) (r:=1) (o:=0) (by omega),Nat.add_zero,h1,hw]
 rw[x1]at r1
 rw[hw]at hwd2
 have hs1:=Yi h (r:=3) hwd2
 obtain⟨o1,f1,f14,_,xc,m1⟩:=Zaz hs1 (d:=3) (t:=w) (v:=16*n) (by decide) rfl (by omega)
 generalize exL (cpI 3 (16*n)) (stR s 3 (w:Int))=s1 at*
 have l1:(shA n).length=3:=rfl
 rw[l1]at r1
 have r2:=Uv (tr:=tr) (.inr (.inr (.inr (.inl rfl)))) hat.j1 o1 (by omega)
 have mid:∃(k2:Nat) (s2:Pu),Ts code k2 (mk s (base) tr) (mk s2 (shL n base) tr)∧k2≤5∧PuOk s2∧s2.f 3=((min w (16*n):Nat):Int)∧(∀i,i≠3→i≠4→s2.f i=s.f i)∧∀b,gM s2 b=gM s b:=by
  by_cases hlt:w<16*n
  ·have hg:W9 22 s1.x=true:=by simp[W9,xc,hlt]
   rw[if_pos hg]at r2
   refine⟨_,s1,r1.trans r2,by omega,o1,?_,fun i i3 i4=> ?_,fun b=> ?_⟩
   ·rw[f1 3 (by decide),Yf,if_pos rfl];congr 1;omega
   ·rw[f1 i i4,Yf,if_neg i3]
   ·rw[m1 b];rfl
  ·have hg:¬W9 22 s1.x=true:=by simp[W9,xc,hlt]
   rw[if_neg hg]at r2
   obtain⟨r3,o3⟩:=Xv (tr:=tr) _ _ s1 hat.s2 (by decide) o1 (by omega) (by have:Z1 [Gj 3 4]=1:=rfl;omega)
   have x3:exL [Gj 3 4] s1=stR s1 3 (s1.f 4):=by simp only[Yx,Yk];exact Zh6
   rw[x3]at r3 o3
   have eL:base+Z1 (shA n)+2+Z1 [Gj 3 4]=shL n base:=by have:Z1 [Gj 3 4]=1:=rfl;omega
   rw[eL]at r3
   refine⟨_,_,(r1.trans r2).trans r3,by simp,o3,?_,fun i i3 i4=> ?_,fun b=> ?_⟩
   ·rw[Yf,if_pos rfl,f14];congr 1;omega
   ·rw[Yf,if_neg i3,f1 i i4,Yf,if_neg i3]
   ·show gM s1 b=_;rw[m1 b];rfl
 obtain⟨k2,s2,r3,hk2,o2,g3,g2,m2⟩:=mid
 have b0:aR s2 0=p:=by rw[←h0];unfold aR;rw[g2 0 (by decide) (by decide)]
 obtain⟨k3,s3,r4,hk3,o3,ff3,m3,v3⟩:=Zey code n B f hBs hBl hBz hAz base tr hb hat p hB _ s2 o2 g3 b0
 have f7:s3.f 7=s.f 7:=by rw[ff3 7 (by decide) (by decide) (by decide),g2 7 (by decide) (by decide)]
 have b7:aR s3 7=T:=by rw[←h7];unfold aR;rw[f7]
 have r5:=Hr (tr:=tr) hat.rt o3 (by omega) (by omega)
 have gT:gM s3 (aR s3 7)=gM s T:=by rw[b7,m3 T (by omega),m2 T]
 rw[gT]at r5
 have hm16:min w (16*n)≤64:=by omega
 refine⟨_,stR s3 7 (s3.f 7+1),⟨(r3.trans r4).trans r5,Yi o3 ?_,by rw[Yf,if_pos rfl,f7],fun b hb _=> ?_⟩,?_,?_⟩
 ·have:=h.reg 7 (by decide)
  unfold wd at*;unfold aR at h7;omega
 ·show gM s3 b=_;rw[m3 b hb,m2 b]
 ·have:min w (16*n)*18≤64*18:=Nat.mul_le_mul_right _ hm16
  omega
 ·have e2:val (gM s2) p n=val (gM s) p n:=Zy _ _ fun b _ _=>m2 b
  rw[←e2,←v3];exact Zy _ _ fun b _ _=>rfl
theorem it_up(P:Int)(hP:0<P):∀(t:Nat) (v:Int),0≤v→v<P→itN (fun v=>2*v%P) t v=v*2^t%P
 |0,v,h,h2=>by simp[itN,Int.emod_eq_of_lt h h2]
 |t+1,v,h,h2=>by
  rw[itN,it_up P hP t _ (Int.emod_nonneg _ (by omega)) (Int.emod_lt_of_pos _ hP),Int.mul_emod,Int.emod_emod,←Int.mul_emod,Int.pow_succ]
  congr 1
  rw[Int.mul_comm 2 v,Int.mul_assoc,Int.mul_comm 2]
theorem it_dn:∀(t:Nat) (v:Int),0≤v→itN (fun v=>v/2) t v=v/2^t
 |0,v,h=>by simp[itN]
 |t+1,v,h=>by
  rw[itN,it_dn t _ (by omega),Int.ediv_ediv_of_nonneg (by decide),Int.pow_succ,Int.mul_comm 2]
def sgP(P v:Int):Int:=if P≤2*v then v-P else v
theorem Zif(P:Int)(hP:0<P)(hE:P%2=0):∀(t:Nat) (v:Int),0≤v→v<P→(0≤itN (fun v=>(v+(if P≤2*v then P else 0))/2) t v∧itN (fun v=>(v+(if P≤2*v then P else 0))/2) t v<P)∧sgP P (itN (fun v=>(v+(if P≤2*v then P else 0))/2) t v)=sgP P v/2^t
 |0,v,h,h2=>by simp[itN,h,h2]
 |t+1,v,h,h2=>by
  have hv:0≤(v+(if P≤2*v then P else 0))/2∧(v+(if P≤2*v then P else 0))/2<P∧sgP P ((v+(if P≤2*v then P else 0))/2)=sgP P v/2:=by
   unfold sgP
   by_cases hc:P≤2*v
   ·simp only[if_pos hc]
    rw[if_pos (by omega)];omega
   ·simp only[if_neg hc]
    rw[if_neg (by omega)];omega
  obtain⟨i1,i2⟩:=Zif P hP hE t _ hv.1 hv.2.1
  rw[itN]
  refine⟨i1,?_⟩
  rw[i2,hv.2.2,Int.ediv_ediv_of_nonneg (by decide),Int.pow_succ,Int.mul_comm 2]
theorem body_up(n p:Nat)(hn:0<n)(hp:p+n≤65536)(s:Pu)(h:PuOk s)(h0:aR s 0=p):Chg s (exL (upN 14 0 0 n) s) p n∧val (gM (exL (upN 14 0 0 n) s)) p n=(fun v=>2*v%pw n) (val (gM s) p n):=by
 obtain⟨c,e⟩:=Dj 14 (.inl rfl) 0 (by decide) n 0 hn s h (by omega)
 rw[Nat.add_zero,h0]at c e
 refine⟨c,?_⟩
 simp only[↓reduceIte,Int.add_zero]at e
 have hr:=Xl (g:=gM (exL (upN 14 0 0 n) s)) n p (fun b=>c.ok.mem b)
 show _=2*_%_
 rw[←e,Int.add_mul_emod_self_left,Int.emod_eq_of_lt hr.1 hr.2]
theorem Zhr(n p:Nat)(hn:0<n)(hp:p+n≤65536)(s:Pu)(h:PuOk s)(h0:aR s 0=p):Chg s (exL (dnN 16 0 n) s) p n∧val (gM (exL (dnN 16 0 n) s)) p n=(fun v=>v/2) (val (gM s) p n):=by
 obtain⟨m,rfl⟩:∃m,n=m+1:=⟨n-1,by omega⟩
 obtain⟨c,e⟩:=Zd4 16 (.inl rfl) 0 (by decide) m s h (by omega)
 rw[h0]at c e
 refine⟨c,?_⟩
 have ht:topB 16 (gM s (p+m)) s.x.c=false:=rfl
 rw[ht,Vr,Int.mul_zero]at e
 have:=Om (exL (dnN 16 0 (m+1)) s).x.c
 show _=_/2
 omega
theorem H9{s:Pu}(h:PuOk s)(m p:Nat):32767<gM s (p+m)↔pw (m+1)≤2*val (gM s) p (m+1):=by
 have hr:=Xl (g:=gM s) m p (fun b=>h.mem b)
 have hpp:=Mk m
 have hvt:=Vw (gM s) m p
 have hw:wd (gM s (p+m)):=h.mem _
 unfold wd at hw
 rw[hvt,pw]
 constructor
 ·intro hg
  have:=Int.mul_le_mul_of_nonneg_left (show(32768:Int)≤gM s (p+m) by omega) (Int.le_of_lt hpp)
  omega
 ·intro hg
  refine Int.not_le.1 fun hle=> ?_
  have:=Int.mul_le_mul_of_nonneg_left (show gM s (p+m)≤(32767:Int) by omega) (Int.le_of_lt hpp)
  omega
theorem Zhq(n p:Nat)(hn:0<n)(hp:p+n≤65536)(s:Pu)(h:PuOk s)(h0:aR s 0=p):Chg s (exL (dnN 17 0 n) s) p n∧val (gM (exL (dnN 17 0 n) s)) p n=(fun v=>(v+(if pw n≤2*v then pw n else 0))/2) (val (gM s) p n):=by
 obtain⟨m,rfl⟩:∃m,n=m+1:=⟨n-1,by omega⟩
 obtain⟨c,e⟩:=Zd4 17 (.inr (.inl rfl)) 0 (by decide) m s h (by omega)
 rw[h0]at c e
 refine⟨c,?_⟩
 have ht:topB 17 (gM s (p+m)) s.x.c=decide (32767<gM s (p+m)):=rfl
 rw[ht]at e
 have:=Om (exL (dnN 17 0 (m+1)) s).x.c
 have hsw:decide (32767<gM s (p+m))=true↔pw (m+1)≤2*val (gM s) p (m+1):=by rw[decide_eq_true_eq];exact H9 h m p
 show _=(_+_)/2
 by_cases hc:pw (m+1)≤2*val (gM s) p (m+1)
 ·rw[hsw.2 hc,Jn,Int.mul_one]at e
  rw[if_pos hc];omega
 ·have hf:decide (32767<gM s (p+m))=false:=by
   cases hd:decide (32767<gM s (p+m))
   ·rfl
   ·exact absurd (hsw.1 hd) hc
  rw[hf,Vr,Int.mul_zero]at e
  rw[if_neg hc];omega
end Go.Proofs.YtddmlennnmpnhaaGreatDoor
