/- A part of the proofs of this seat's laws: steps on the way, joined. It has no conditions of its own. -/
import Derived.Test.YtbmecnjmbhokgaaGreatDoorQj
import Derived.Test.YtbmecnjmbhokgaaGreatDoorQe
import Derived.Test.YtbmecnjmbhokgaaGreatDoorQg
namespace Go.Proofs.YtbmecnjmbhokgaaGreatDoor
open Go Vc
set_option linter.unusedVariables false
set_option linter.unusedSimpArgs false
structure Stk (s s':Pu) (A n d:Nat):Prop where
 ok:PuOk s'
 f:∀i,i≠2→i≠4→i≠7→s'.f i=s.f i
 sp:s'.f 7=s.f 7-d
 m:∀b,b<A∨A+n≤b→gM s' b=gM s b
theorem Stk.ar{s s':Pu}{A n d:Nat}(h:Stk s s' A n d){r:Nat}(h2:r≠2)(h4:r≠4)(h7:r≠7):aR s' r=aR s r:=by unfold aR;rw[h.f r h2 h4 h7]
theorem Stk.ar7{s s':Pu}{A n d:Nat}(h:Stk s s' A n d)(h0:PuOk s)(hd:d≤aR s 7):aR s' 7=aR s 7-d:=by
 have:=h0.reg 7 (by decide)
 unfold wd at this
 unfold aR at*;rw[h.sp];omega
theorem Eh{s:Pu}(h:PuOk s){r:Nat}(hr:r<8)(h7:1≤aR s 7):Stk s (exP (Px r) s) (aR s 7-1) 1 1∧gM (exP (Px r) s) (aR s 7-1)=s.f r∧∀i,i≠7→(exP (Px r) s).f i=s.f i:=by
 have h8:=h.reg 7 (by decide)
 unfold wd at h8
 have hA:((aR s 7:Nat):Int)=s.f 7:=by unfold aR;omega
 rw[ex_push (by omega) (h.reg r hr)]
 have hl:aR s 7-1<(stR s 7 (s.f 7-1)).mem.length:=by rw[Rt,h.len];omega
 refine⟨⟨Qa (Yh h (by unfold wd;omega)) (h.reg r hr),fun i _ _ h7=>by simp only[Mx,Yg,if_neg h7],by simp[Mx,Yg],fun b hb=> ?_⟩,?_,fun i h7=>by simp only[Mx,Yg,if_neg h7]⟩
 ·rw[Wj hl,if_neg (by omega)];rfl
 ·rw[Wj hl,if_pos rfl]
def cpL(reg:Nat):Nat→List Ins
 |0=>[]
 |n+1=>[iLd 2 reg n,Px 2]++cpL reg n
theorem Jc(reg:Nat)(hr:reg<8∧reg≠2∧reg≠4∧reg≠7):∀(n:Nat) (s:Pu),PuOk s→n≤aR s 7→aR s reg+n≤65536→(aR s reg+n≤aR s 7-n∨aR s 7≤aR s reg)→
 Stk s (exL (cpL reg n) s) (aR s 7-n) n n∧val (gM (exL (cpL reg n) s)) (aR s 7-n) n=val (gM s) (aR s reg) n
 |0,s,h,_,_,_=>⟨⟨h,fun _ _ _ _=>rfl,by simp[cpL,Yl],fun _ _=>rfl⟩,rfl⟩
 |n+1,s,h,h7,hb,hd=>by
  have hf:=h.reg reg hr.1
  have h8:=h.reg 7 (by decide)
  unfold wd at hf h8
  have hA:((aR s reg:Nat):Int)=s.f reg:=by unfold aR;omega
  have hw:wd (gM s (aR s reg+n)):=h.mem _
  simp only[cpL,Yy,Yu,Yl]
  rw[S9 (s:=s) (d:=2) (r:=reg) (o:=n) (by omega)]
  have h1:PuOk (stR s 2 (gM s (aR s reg+n))):=Yh h hw
  have a7:aR (stR s 2 (gM s (aR s reg+n))) 7=aR s 7:=rfl
  obtain⟨k1,k2,k3⟩:=Eh h1 (r:=2) (by decide) (by omega)
  have e2:(stR s 2 (gM s (aR s reg+n))).f 2=gM s (aR s reg+n):=rfl
  rw[e2]at k2
  generalize hs1:exP (Px 2) (stR s 2 (gM s (aR s reg+n)))=s1 at*
  have r7:aR s1 7=aR s 7-1:=k1.ar7 h1 (by omega)
  have rr:aR s1 reg=aR s reg:=by unfold aR;rw[k3 reg hr.2.2.2,Yg,if_neg hr.2.1]
  obtain⟨c1,c2⟩:=Jc reg hr n s1 k1.ok (by omega) (by omega) (by omega)
  rw[r7,rr]at c2
  rw[r7]at c1
  rw[a7]at k1 k2
  generalize exL (cpL reg n) s1=s2 at*
  refine⟨⟨c1.ok,fun i i2 i4 i7=>(c1.f i i2 i4 i7).trans ((k3 i i7).trans (by rw[Yg,if_neg i2])),?_,fun b hb=> ?_⟩,?_⟩
  ·have e3:=k1.sp
   have e4:(stR s 2 (gM s (aR s reg+n))).f 7=s.f 7:=rfl
   rw[c1.sp,e3,e4];omega
  ·rw[c1.m b (by omega),k1.m b (by omega)];rfl
  ·have e5:gM s2 (aR s 7-(n+1)+n)=gM s (aR s reg+n):=by
    rw[show aR s 7-(n+1)+n=aR s 7-1 by omega,c1.m _ (by omega),k2]
   rw[Vv,Vv,e5]
   rw[show aR s 7-1-n=aR s 7-(n+1) by omega]at c2
   rw[c2]
   congr 1
   exact Zs _ _ fun b h1 h2=>(k1.m b (by omega)).trans rfl
def pzL:Nat→List Ins
 |0=>[]
 |n+1=>[Px 2]++pzL n
theorem Zdz:∀(n:Nat) (s:Pu),PuOk s→n≤aR s 7→s.f 2=0→
 Stk s (exL (pzL n) s) (aR s 7-n) n n∧val (gM (exL (pzL n) s)) (aR s 7-n) n=0
 |0,s,h,_,_=>⟨⟨h,fun _ _ _ _=>rfl,by simp[pzL,Yl],fun _ _=>rfl⟩,rfl⟩
 |n+1,s,h,h7,h2=>by
  simp only[pzL,Yy,Yu,Yl]
  obtain⟨k1,k2,k3⟩:=Eh h (r:=2) (by decide) (by omega)
  rw[h2]at k2
  generalize exP (Px 2) s=s1 at*
  have r7:aR s1 7=aR s 7-1:=k1.ar7 h (by omega)
  obtain⟨c1,c2⟩:=Zdz n s1 k1.ok (by omega) (by rw[k3 2 (by decide)];exact h2)
  rw[r7]at c1 c2
  generalize exL (pzL n) s1=s2 at*
  refine⟨⟨c1.ok,fun i i2 i4 i7=>(c1.f i i2 i4 i7).trans (k3 i i7),?_,fun b hb=> ?_⟩,?_⟩
  ·rw[c1.sp,k1.sp];omega
  ·rw[c1.m b (by omega),k1.m b (by omega)]
  ·have e5:gM s2 (aR s 7-(n+1)+n)=0:=by
    rw[show aR s 7-(n+1)+n=aR s 7-1 by omega,c1.m _ (by omega),k2]
   rw[show aR s 7-1-n=aR s 7-(n+1) by omega]at c2
   rw[Vv,e5,c2];simp
def zsL(reg:Nat):Nat→Nat→List Ins
 |_,0=>[]
 |i,n+1=>[iSt reg 2 i]++zsL reg (i+1) n
theorem Zek(reg:Nat)(hr:reg<8):∀(n i:Nat) (s:Pu),PuOk s→aR s reg+i+n≤65536→s.f 2=0→
 Chg s (exL (zsL reg i n) s) (aR s reg+i) n∧(exL (zsL reg i n) s).f=s.f∧(exL (zsL reg i n) s).x=s.x∧val (gM (exL (zsL reg i n) s)) (aR s reg+i) n=0
 |0,i,s,h,_,_=>⟨Chg.rfl' h _ _,rfl,rfl,rfl⟩
 |n+1,i,s,h,hb,h2=>by
  have hf:=h.reg reg hr
  unfold wd at hf
  have hA:((aR s reg:Nat):Int)=s.f reg:=by unfold aR;omega
  simp only[zsL,Yy,Yu,Yl]
  rw[Im (s:=s) (d:=reg) (r:=2) (o:=i) (by omega) (h.reg 2 (by decide)),h2]
  have hl:aR s reg+i<s.mem.length:=by rw[h.len];omega
  have h1:PuOk (stM s (aR s reg+i) 0):=Qa h ⟨by decide,by decide⟩
  have ra:aR (stM s (aR s reg+i) 0) reg=aR s reg:=rfl
  obtain⟨c1,c2,c3,c4⟩:=Zek reg hr n (i+1) (stM s (aR s reg+i) 0) h1 (by rw[ra];omega) h2
  rw[ra,show aR s reg+(i+1)=aR s reg+i+1 by omega]at c1 c4
  have g0:gM (exL (zsL reg (i+1) n) (stM s (aR s reg+i) 0)) (aR s reg+i)=0:=by
   rw[c1.m _ (by omega),Wj hl,if_pos rfl]
  generalize exL (zsL reg (i+1) n) (stM s (aR s reg+i) 0)=s2 at*
  refine⟨⟨c1.ok,fun j _ _=>by rw[c2];rfl,fun b hb=> ?_⟩,c2,c3,?_⟩
  ·rw[c1.m b (by omega),Wj hl,if_neg (by omega)]
  ·simp only[val];rw[g0,c4];simp
theorem Hc{code:List Int}{pc tr:Int}{s:Pu}(h:atB code pc [⟨27,0,0,0⟩]=true)(hs:PuOk s)(hp:0≤pc∧pc≤65535)(h7:aR s 7<65535):
 U6 code 1 (mk s pc tr) (mk (stR s 7 (s.f 7+1)) (gM s (aR s 7)) tr):=by
 obtain⟨h1,h2,_⟩:=Qn h
 have h8:=hs.reg 7 (by decide)
 unfold wd at h8
 have hA:((aR s 7:Nat):Int)=s.f 7:=by unfold aR;omega
 have key:stepS ⟨27,0,0,0⟩ (szI ⟨27,0,0,0⟩) (mk s pc tr)=(0,mk (stR s 7 (s.f 7+1)) (gM s (aR s 7)) tr):=by
  have e:(s.f 7+1)%65536=s.f 7+1:=by omega
  have hg:=hs.mem (aR s 7)
  have e2:s.mem.getD (aR s 7) 0%65536=s.mem.getD (aR s 7) 0:=by unfold wd at hg;omega
  unfold aR at e2
  simp[stepS,Xi,mk,stR,gM,aR,e]
  simpa using e2
 refine⟨⟨⟨?_,hs.len,hs.reg,?_⟩,?_⟩,?_⟩
 ·show Tj (Y4 code pc).1 (Y4 code pc).2=true
  rw[h1];exact h2
 ·show wd pc;exact hp
 ·show(stepS (Y4 code pc).1 (Y4 code pc).2 _).1=0
  rw[h1];exact congrArg Prod.fst key
 ·show(stepS (Y4 code pc).1 (Y4 code pc).2 _).2=_
  rw[h1];exact congrArg Prod.snd key
theorem Ll{code:List Int}{pc tr to_:Int}{s:Pu}(h:atB code pc [⟨26,0,0,to_⟩]=true)(hs:PuOk s)(hp:0≤pc∧pc+2≤65535)(h7:1≤aR s 7):
 U6 code 1 (mk s pc tr) (mk (stM (stR s 7 (s.f 7-1)) (aR s 7-1) (pc+2)) to_ tr):=by
 obtain⟨h1,h2,_⟩:=Qn h
 have hsz:szI ⟨26,0,0,to_⟩=2:=rfl
 rw[hsz]at h1 h2
 have him:=(F3 h2).2.2.1
 have h8:=hs.reg 7 (by decide)
 unfold wd at h8 him
 simp only at him
 have hA:((aR s 7:Nat):Int)=s.f 7:=by unfold aR;omega
 have key:stepS ⟨26,0,0,to_⟩ 2 (mk s pc tr)=(0,mk (stM (stR s 7 (s.f 7-1)) (aR s 7-1) (pc+2)) to_ tr):=by
  have e:(s.f 7-1)%65536=s.f 7-1:=by omega
  have e1:(s.f 7-1).toNat=aR s 7-1:=by unfold aR;omega
  have e2:(pc+2)%65536=pc+2:=by omega
  have e3:to_%65536=to_:=by omega
  simp[stepS,Xi,mk,stR,stM,e,e1,e2,e3]
 refine⟨⟨⟨?_,hs.len,hs.reg,?_⟩,?_⟩,?_⟩
 ·show Tj (Y4 code pc).1 (Y4 code pc).2=true
  rw[h1];exact h2
 ·show wd pc;unfold wd;omega
 ·show(stepS (Y4 code pc).1 (Y4 code pc).2 _).1=0
  rw[h1];exact congrArg Prod.fst key
 ·show(stepS (Y4 code pc).1 (Y4 code pc).2 _).2=_
  rw[h1];exact congrArg Prod.snd key
theorem dif_one(t:Nat)(h:t≤65534):T8 ((t+1:Nat):Int) 1 false=(t:Int):=by
 unfold T8 Tz
 have:cI (!false)=1:=by simp[cI]
 rw[this];omega
def agI:List Ins:=[Ky 4 1,N5 7 3 4]
theorem Zgp{s:Pu}(h:PuOk s){t:Nat}(ht:s.f 3=((t+1:Nat):Int)):PuOk (exL agI s)∧(∀i,i≠3→i≠4→(exL agI s).f i=s.f i)∧(exL agI s).f 3=t∧(exL agI s).x.z=decide (t=0)∧(∀b,gM (exL agI s) b=gM s b):=by
 have h3:=h.reg 3 (by decide)
 unfold wd at h3
 have h1:PuOk (stR s 4 1):=Yh h ⟨by decide,by decide⟩
 simp only[agI,Yu,Yl]
 rw[N3,N4 (s:=stR s 4 ((1:Nat):Int)) (by omega)]
 have e1:(stR s 4 ((1:Nat):Int)).f 3=((t+1:Nat):Int):=ht
 have e2:(stR s 4 ((1:Nat):Int)).f 4=1:=rfl
 rw[e1,e2]
 have e3:twoR 7 ((t+1:Nat):Int) 1 (stR s 4 ((1:Nat):Int)).x=(t:Int):=by
  have e0:twoR 7 ((t+1:Nat):Int) 1 (stR s 4 ((1:Nat):Int)).x=T8 ((t+1:Nat):Int) 1 false:=by simp only[twoR,Int.reduceEq,↓reduceIte,true_or]
  rw[e0]
  exact dif_one t (by omega)
 have e4:(twoF 7 ((t+1:Nat):Int) 1 (stR s 4 ((1:Nat):Int)).x).z=decide (t=0):=by
  have e5:(twoF 7 ((t+1:Nat):Int) 1 (stR s 4 ((1:Nat):Int)).x).z=decide (twoR 7 ((t+1:Nat):Int) 1 (stR s 4 ((1:Nat):Int)).x=0):=by simp only[twoF,twoR,Nk,Int.reduceEq,↓reduceIte,true_or]
  rw[e5,e3]
  by_cases h0:t=0
  ·subst h0;rfl
  ·rw[decide_eq_false h0,decide_eq_false (by omega)]
 generalize twoR 7 ((t+1:Nat):Int) 1 (stR s 4 ((1:Nat):Int)).x=R at*
 generalize twoF 7 ((t+1:Nat):Int) 1 (stR s 4 ((1:Nat):Int)).x=F at*
 refine⟨Tx (Yh h1 ?_),fun i i3 i4=>by simp only[W6,Yg,if_neg i3,if_neg i4],by rw[W6,Yg,if_pos rfl];exact e3,by rw[Ku];exact e4,fun b=>rfl⟩
 rw[e3];unfold wd;omega
def mS1(n:Nat):List Ins:=cpL 0 n++(cpL 1 n++([Ky 2 0]++(zsL 0 0 n++[Ky 3 (16*n)])))
def mS4(n:Nat):List Ins:=upN 14 7 n n++agI
def mS5(n:Nat):List Ins:=[Ky 2 (2*n),N5 5 7 2]
def mL(n:Nat)(base:Int):Int:=base+Z0 (mS1 n)
def mJ(n:Nat)(base:Int):Int:=mL n base+Z0 (dnN 16 7 n)
def mK(n:Nat)(base:Int):Int:=mJ n base+2+Z0 (twN 5 0 7 n n)
def mQ(n:Nat)(base:Int):Int:=mK n base+Z0 (mS4 n)
def Zhg(n:Nat)(base:Int):List Ins:=
 mS1 n++(dnN 16 7 n++([⟨23,0,0,mK n base⟩]++(twN 5 0 7 n n++(mS4 n++([⟨21,0,0,mL n base⟩]++(mS5 n++[⟨27,0,0,0⟩]))))))
structure MulAt (code:List Int) (n:Nat) (base:Int):Prop where
 s1:atB code base (mS1 n)=true
 s2:atB code (mL n base) (dnN 16 7 n)=true
 j1:atB code (mJ n base) [⟨23,0,0,mK n base⟩]=true
 s3:atB code (mJ n base+2) (twN 5 0 7 n n)=true
 s4:atB code (mK n base) (mS4 n)=true
 j2:atB code (mQ n base) [⟨21,0,0,mL n base⟩]=true
 s5:atB code (mQ n base+2) (mS5 n)=true
 rt:atB code (mQ n base+2+Z0 (mS5 n)) [⟨27,0,0,0⟩]=true
theorem MulAt.of{code:List Int}{n:Nat}{base:Int}(h:atB code base (Zhg n base)=true):MulAt code n base:=by
 unfold Zhg at h
 obtain⟨h1,h⟩:=Z6 _ _ _ _ h
 obtain⟨h2,h⟩:=Z6 _ _ _ _ h
 obtain⟨h3,h⟩:=Z6 _ _ _ _ h
 obtain⟨h4,h⟩:=Z6 _ _ _ _ h
 obtain⟨h5,h⟩:=Z6 _ _ _ _ h
 obtain⟨h6,h⟩:=Z6 _ _ _ _ h
 obtain⟨h7,h8⟩:=Z6 _ _ _ _ h
 exact⟨h1,h2,h3,h4,h5,h6,h7,h8⟩
theorem Zdp(n:Nat)(hn:n=1∨n=2∨n=4):(mS1 n).all Pq=true∧(dnN 16 7 n).all Pq=true∧(twN 5 0 7 n n).all Pq=true∧(mS4 n).all Pq=true∧(mS5 n).all Pq=true:=by
 rcases hn with rfl|rfl|rfl<;>exact⟨by decide,by decide,by decide,by decide,by decide⟩
theorem Zdo(n:Nat)(hn:n=1∨n=2∨n=4):(mS1 n).length≤30∧(dnN 16 7 n).length+(twN 5 0 7 n n).length+(mS4 n).length+2≤48∧(mS5 n).length=2∧Z0 (mS1 n)≤100∧Z0 (dnN 16 7 n)≤100∧Z0 (twN 5 0 7 n n)≤100∧Z0 (mS4 n)≤100∧Z0 (mS5 n)=3:=by
 rcases hn with rfl|rfl|rfl<;>decide
theorem Bb(P X Y X' Y' c c2 c3 w Pf q P':Int)(hY:Y=2*Y'+c)(hP:P'+w*c2=P+c*X)(hX:X'+w*c3=2*X)(hF:Pf+q*w=P'+X'*Y'):Pf+(q+c2+c3*Y')*w=P+X*Y:=by
 have e1:X*Y=2*(X*Y')+c*X:=by rw[hY,Int.mul_add,Int.mul_left_comm,Int.mul_comm X c]
 have e2:(X'+w*c3)*Y'=2*X*Y':=by rw[hX]
 rw[Int.add_mul,Int.mul_assoc 2 X Y',Int.mul_assoc w c3 Y']at e2
 have e3:(q+c2+c3*Y')*w=q*w+w*c2+w*(c3*Y'):=by rw[Int.add_mul,Int.add_mul,Int.mul_comm c2 w,Int.mul_comm (c3*Y') w]
 rw[e3]
 omega
theorem Ba(code:List Int)(n:Nat)(hn:n=1∨n=2∨n=4)(base tr:Int)(hb:0≤base∧base≤60000)(hat:MulAt code n base)(p u:Nat)(hp:p+n≤65536)(hu:u+2*n≤65536)(hd:p+n≤u∨u+2*n≤p):
 ∀(t:Nat) (s:Pu),PuOk s→s.f 3=((t+1:Nat):Int)→aR s 0=p→aR s 7=u→val (gM s) u n<2^(t+1)→
  ∃(k:Nat) (s':Pu) (q:Int),U6 code k (mk s (mL n base) tr) (mk s' (mQ n base+2) tr)∧k≤(t+1)*48∧PuOk s'∧(∀i,i≠2→i≠3→i≠4→s'.f i=s.f i)∧
   (∀b,(b<p∨p+n≤b)→(b<u∨u+2*n≤b)→gM s' b=gM s b)∧val (gM s') p n+q*pw n=val (gM s) p n+val (gM s) (u+n) n*val (gM s) u n
 |t,s,h,h3,h0,h7,hv=>by
  obtain⟨m1,m2,m3,m4,m5⟩:=Zdp n hn
  obtain⟨l1,l2,l3,z1,z2,z3,z4,z5⟩:=Zdo n hn
  have y1:=Z8 (mS1 n)
  have y2:=Z8 (dnN 16 7 n)
  have y3:=Z8 (twN 5 0 7 n n)
  have y4:=Z8 (mS4 n)
  have hn0:0<n:=by omega
  obtain⟨n',hn'⟩:∃m,n=m+1:=⟨n-1,by omega⟩
  have hLd:mL n base=base+Z0 (mS1 n):=rfl
  have hJd:mJ n base=mL n base+Z0 (dnN 16 7 n):=rfl
  have hKd:mK n base=mJ n base+2+Z0 (twN 5 0 7 n n):=rfl
  have hQd:mQ n base=mK n base+Z0 (mS4 n):=rfl
  obtain⟨r1,k1⟩:=Xs (tr:=tr) _ _ s hat.s2 m2 h (by omega) (by omega)
  obtain⟨c1,e1⟩:=dnN_run 16 (by omega) 7 (by decide) n' s h (by omega)
  rw[←hn',h7]at c1 e1
  generalize exL (dnN 16 7 n) s=s1 at*
  have e1':val (gM s) u n=2*val (gM s1) u n+cI s1.x.c:=by
   have:topB 16 (gM s (u+n')) s.x.c=false:=rfl
   rw[this,W4]at e1;omega
  have a0:aR s1 0=p:=by rw[c1.aR (by decide) (by decide)];exact h0
  have a7:aR s1 7=u:=by rw[c1.aR (by decide) (by decide)];exact h7
  have f3:s1.f 3=((t+1:Nat):Int):=by rw[c1.f 3 (by decide) (by decide)];exact h3
  have gX:val (gM s1) (u+n) n=val (gM s) (u+n) n:=Zs _ _ fun b h1 h2=>c1.m b (by omega)
  have gP:val (gM s1) p n=val (gM s) p n:=Zs _ _ fun b h1 h2=>c1.m b (by omega)
  have r2:=Tk (tr:=tr) (.inr (.inr (.inr (.inr rfl)))) hat.j1 c1.ok (by omega)
  have mid:∃(k2:Nat) (s2:Pu) (c2:Int),U6 code k2 (mk s1 (if W7 23 s1.x=true then mK n base else mJ n base+2) tr) (mk s2 (mK n base) tr)∧k2≤(twN 5 0 7 n n).length∧Chg s1 s2 p n∧val (gM s2) p n+pw n*c2=val (gM s1) p n+cI s1.x.c*val (gM s1) (u+n) n:=by
   cases hc:s1.x.c
   ·have hg:W7 23 s1.x=true:=by simp[W7,hc]
    rw[if_pos hg]
    exact⟨0,s1,0,rfl,Nat.zero_le _,Chg.rfl' c1.ok _ _,by rw[W4];omega⟩
   ·have hg:¬W7 23 s1.x=true:=by simp[W7,hc]
    rw[if_neg hg]
    obtain⟨r3,_⟩:=Xs (tr:=tr) _ _ s1 hat.s3 m3 c1.ok (by omega) (by omega)
    obtain⟨c2,e2⟩:=Zd6 5 (.inl rfl) 0 7 (by decide) (by decide) n n hn0 s1 c1.ok (by omega) (by omega) (by omega)
    rw[a0,a7]at e2
    rw[a0]at c2
    have e3:val (gM (exL (twN 5 0 7 n n) s1)) p n+pw n*cI (exL (twN 5 0 7 n n) s1).x.c=val (gM s1) p n+val (gM s1) (u+n) n+cI false:=e2
    rw[W4]at e3
    exact⟨_,_,cI (exL (twN 5 0 7 n n) s1).x.c,r3,Nat.le_refl _,c2,by rw[Jb,Int.one_mul];omega⟩
  obtain⟨k2,s2,c2v,r3,kk2,c2,e2⟩:=mid
  have b0:aR s2 0=p:=by rw[c2.aR (by decide) (by decide)];exact a0
  have b7:aR s2 7=u:=by rw[c2.aR (by decide) (by decide)];exact a7
  have g3:s2.f 3=((t+1:Nat):Int):=by rw[c2.f 3 (by decide) (by decide)];exact f3
  have hY:val (gM s2) u n=val (gM s1) u n:=Zs _ _ fun b h1 h2=>c2.m b (by omega)
  have hX:val (gM s2) (u+n) n=val (gM s) (u+n) n:=by rw[←gX];exact Zs _ _ fun b h1 h2=>c2.m b (by omega)
  obtain⟨r4,_⟩:=Xs (tr:=tr) _ _ s2 hat.s4 m4 c2.ok (by omega) (by omega)
  have x4:exL (mS4 n) s2=exL agI (exL (upN 14 7 n n) s2):=Yy _ _ _
  rw[x4]at r4
  obtain⟨c3,e3⟩:=E7 14 (.inl rfl) 7 (by decide) n n hn0 s2 c2.ok (by omega)
  rw[b7]at c3 e3
  generalize exL (upN 14 7 n n) s2=s3 at*
  have f33:s3.f 3=((t+1:Nat):Int):=by rw[c3.f 3 (by decide) (by decide)];exact g3
  obtain⟨o4,p4,q4,z4',m4'⟩:=Zgp c3.ok f33
  generalize exL agI s3=s4 at*
  simp only[↓reduceIte,Int.add_zero]at e3
  rw[hX]at e3
  have v4:∀a,val (gM s4) a n=val (gM s3) a n:=fun a=>Zs _ _ fun b _ _=>m4' b
  have hY4:val (gM s4) u n=val (gM s1) u n:=by rw[v4,←hY];exact Zs _ _ fun b h1 h2=>c3.m b (by omega)
  have hP4:val (gM s4) p n=val (gM s2) p n:=by rw[v4];exact Zs _ _ fun b h1 h2=>c3.m b (by omega)
  have hX4:val (gM s4) (u+n) n+pw n*cI s3.x.c=2*val (gM s) (u+n) n:=by rw[v4];exact e3
  rw[gP,gX]at e2
  rw[←hP4]at e2
  have r5:=Tk (tr:=tr) (.inr (.inr (.inl rfl))) hat.j2 o4 (by omega)
  have run4:U6 code ((dnN 16 7 n).length+1+k2+(mS4 n).length+1) (mk s (mL n base) tr) (mk s4 (if W7 21 s4.x=true then mL n base else mQ n base+2) tr):=by
   exact(((r1.trans r2).trans r3).trans r4).trans r5
  have hvn:val (gM s1) u n<2^t:=by
   have:=Nx s1.x.c
   rw[Int.pow_succ]at hv
   omega
  have hvp:=(Xd (g:=gM s1) n u (fun b=>c1.ok.mem b)).1
  have keepm:∀b,(b<p∨p+n≤b)→(b<u∨u+2*n≤b)→gM s4 b=gM s b:=fun b h1 h2=>by
   rw[m4' b,c3.m b (by omega),c2.m b (by omega),c1.m b (by omega)]
  have keepf:∀i,i≠2→i≠3→i≠4→s4.f i=s.f i:=fun i i2 i3 i4=>by
   rw[p4 i i3 i4,c3.f i i2 i4,c2.f i i2 i4,c1.f i i2 i4]
  match t,hv,h3,f3,g3,f33,q4,z4',hvn with
  |0,_,_,_,_,_,_,z4',hvn=>
   have hg:¬W7 21 s4.x=true:=by simp[W7,z4']
   rw[if_neg hg]at run4
   refine⟨_,s4,0+c2v+cI s3.x.c*val (gM s4) u n,run4,by omega,o4,keepf,keepm,?_⟩
   refine Bb _ _ _ (val (gM s4) (u+n) n) (val (gM s4) u n) (cI s1.x.c) c2v (cI s3.x.c) (pw n) _ 0 (val (gM s4) p n) (by rw[hY4];exact e1') e2 hX4 ?_
   have:val (gM s4) u n=0:=by rw[hY4];simp at hvn;omega
   rw[this];simp
  |t+1,_,_,_,_,_,q4,z4',hvn=>
   have hg:W7 21 s4.x=true:=by simp[W7,z4']
   rw[if_pos hg]at run4
   have w0:aR s4 0=p:=by unfold aR at*;rw[keepf 0 (by decide) (by decide) (by decide)];exact h0
   have w7:aR s4 7=u:=by unfold aR at*;rw[keepf 7 (by decide) (by decide) (by decide)];exact h7
   obtain⟨k,s',q,hr,hk,ho,hf,hm,hv'⟩:=Ba code n hn base tr hb hat p u hp hu hd t s4 o4 q4 w0 w7 (by rw[hY4];exact hvn)
   refine⟨_,s',q+c2v+cI s3.x.c*val (gM s4) u n,run4.trans hr,by omega,ho,fun i i2 i3 i4=>(hf i i2 i3 i4).trans (keepf i i2 i3 i4),fun b h1 h2=>(hm b h1 h2).trans (keepm b h1 h2),?_⟩
   exact Bb _ _ _ (val (gM s4) (u+n) n) (val (gM s4) u n) (cI s1.x.c) c2v (cI s3.x.c) (pw n) _ q (val (gM s4) p n) (by rw[hY4];exact e1') e2 hX4 hv'
theorem Ek:∀n,pw n=2^(16*n)
 |0=>rfl
 |n+1=>by rw[pw,Ek n,show 16*(n+1)=16*n+16 by omega,Int.pow_add,Int.mul_comm];rfl
def drI(d:Nat):List Ins:=[Ky 2 d,N5 5 7 2]
theorem Zax{s:Pu}(h:PuOk s){d:Nat}(hd:aR s 7+d≤65535):PuOk (exL (drI d) s)∧(∀i,i≠2→i≠7→(exL (drI d) s).f i=s.f i)∧(exL (drI d) s).f 7=s.f 7+d∧(∀b,gM (exL (drI d) s) b=gM s b):=by
 have h7:=h.reg 7 (by decide)
 unfold wd at h7
 have hA:((aR s 7:Nat):Int)=s.f 7:=by unfold aR;omega
 simp only[drI,Yu,Yl]
 rw[N3,N4 (s:=stR s 2 (d:Int)) (by omega)]
 have e1:(stR s 2 (d:Int)).f 7=s.f 7:=rfl
 have e2:(stR s 2 (d:Int)).f 2=(d:Int):=rfl
 rw[e1,e2]
 have e3:twoR 5 (s.f 7) (d:Int) (stR s 2 (d:Int)).x=s.f 7+d:=by
  have e0:twoR 5 (s.f 7) (d:Int) (stR s 2 (d:Int)).x=Tz (s.f 7) (d:Int) false:=by simp only[twoR,↓reduceIte]
  rw[e0];unfold Tz;rw[W4];omega
 generalize twoR 5 (s.f 7) (d:Int) (stR s 2 (d:Int)).x=R at*
 generalize twoF 5 (s.f 7) (d:Int) (stR s 2 (d:Int)).x=F at*
 refine⟨Tx (Yh (Yh h (by unfold wd;omega)) (by rw[e3];unfold wd;omega)),fun i i2 i7=>by simp only[W6,Yg,if_neg i2,if_neg i7],by rw[W6,Yg,if_pos rfl];exact e3,fun b=>rfl⟩
structure Rout (code:List Int) (s s':Pu) (base tr:Int) (k p n T d:Nat):Prop where
 run:U6 code k (mk s base tr) (mk s' (gM s T) tr)
 ok:PuOk s'
 sp:s'.f 7=s.f 7+1
 m:∀b,(b<p∨p+n≤b)→(b<T-d∨T≤b)→gM s' b=gM s b
theorem Zhh(code:List Int)(n:Nat)(hn:n=1∨n=2∨n=4)(base tr:Int)(hb:0≤base∧base≤60000)(hat:MulAt code n base)(s:Pu)(h:PuOk s)(p q T:Nat)(h0:aR s 0=p)(h1:aR s 1=q)(h7:aR s 7=T)
 (hp:p+n≤65536)(hq:q+n≤65536)(hT:2*n≤T∧T<65535)(hdp:p+n≤T-2*n∨T+1≤p)(hdq:q+n≤T-2*n∨T+1≤q):
 ∃(k:Nat) (s':Pu),Rout code s s' base tr k p n T (2*n)∧k≤4000∧val (gM s') p n=(val (gM s) p n*val (gM s) q n)%pw n:=by
 obtain⟨m1,m2,m3,m4,m5⟩:=Zdp n hn
 obtain⟨l1,l2,l3,z1,z2,z3,z4,z5⟩:=Zdo n hn
 have y1:=Z8 (mS1 n)
 have y2:=Z8 (dnN 16 7 n)
 have y3:=Z8 (twN 5 0 7 n n)
 have y4:=Z8 (mS4 n)
 have hLd:mL n base=base+Z0 (mS1 n):=rfl
 have hJd:mJ n base=mL n base+Z0 (dnN 16 7 n):=rfl
 have hKd:mK n base=mJ n base+2+Z0 (twN 5 0 7 n n):=rfl
 have hQd:mQ n base=mK n base+Z0 (mS4 n):=rfl
 obtain⟨r1,o1⟩:=Xs (tr:=tr) _ _ s hat.s1 m1 h (by omega) (by omega)
 have x1:exL (mS1 n) s=stR (exL (zsL 0 0 n) (stR (exL (cpL 1 n) (exL (cpL 0 n) s)) 2 0)) 3 ((16*n:Nat):Int):=by
  simp only[mS1,Yy,Yu,Yl,N3];rfl
 rw[x1]at r1 o1
 obtain⟨c1,v1⟩:=Jc 0 (by decide) n s h (by omega) (by omega) (by omega)
 rw[h0,h7]at v1
 rw[h7]at c1
 generalize exL (cpL 0 n) s=sA at*
 have a7:aR sA 7=T-n:=by rw[c1.ar7 h (by omega),h7]
 have a1:aR sA 1=q:=by rw[c1.ar (by decide) (by decide) (by decide)];exact h1
 have a0:aR sA 0=p:=by rw[c1.ar (by decide) (by decide) (by decide)];exact h0
 obtain⟨c2,v2⟩:=Jc 1 (by decide) n sA c1.ok (by omega) (by omega) (by omega)
 rw[a1,a7]at v2
 rw[a7]at c2
 generalize exL (cpL 1 n) sA=sB at*
 have b7:aR sB 7=T-2*n:=by rw[c2.ar7 c1.ok (by omega),a7];omega
 have b0:aR sB 0=p:=by rw[c2.ar (by decide) (by decide) (by decide)];exact a0
 have hz:=Yh c2.ok (r:=2) (v:=0) ⟨by decide,by decide⟩
 have d0:aR (stR sB 2 0) 0=p:=b0
 obtain⟨c3,f3,_,v3⟩:=Zek 0 (by decide) n 0 (stR sB 2 0) hz (by omega) rfl
 rw[d0,Nat.add_zero]at c3 v3
 generalize exL (zsL 0 0 n) (stR sB 2 0)=sC at*
 have gT:T-n-n=T-2*n:=by omega
 rw[gT]at c2 v2
 have hfC:∀i,i≠2→sC.f i=sB.f i:=fun i i2=>by rw[f3,Yg,if_neg i2]
 have hu:(T-2*n)+n=T-n:=by omega
 have w0:aR (stR sC 3 ((16*n:Nat):Int)) 0=p:=by rw[←b0];unfold aR;rw[Yg,if_neg (by decide),hfC 0 (by decide)]
 have w7:aR (stR sC 3 ((16*n:Nat):Int)) 7=T-2*n:=by rw[←b7];unfold aR;rw[Yg,if_neg (by decide),hfC 7 (by decide)]
 have gu:val (gM (stR sC 3 ((16*n:Nat):Int))) (T-2*n) n=val (gM s) q n:=by
  have e1:val (gM (stR sC 3 ((16*n:Nat):Int))) (T-2*n) n=val (gM sB) (T-2*n) n:=Zs _ _ fun b h1 h2=>c3.m b (by omega)
  have e2:val (gM sA) q n=val (gM s) q n:=Zs _ _ fun b h1 h2=>c1.m b (by omega)
  rw[e1,v2,e2]
 have gun:val (gM (stR sC 3 ((16*n:Nat):Int))) (T-2*n+n) n=val (gM s) p n:=by
  have e1:val (gM (stR sC 3 ((16*n:Nat):Int))) (T-n) n=val (gM sB) (T-n) n:=Zs _ _ fun b h1 h2=>c3.m b (by omega)
  have e2:val (gM sB) (T-n) n=val (gM sA) (T-n) n:=Zs _ _ fun b h1 h2=>c2.m b (by omega)
  rw[hu,e1,e2,v1]
 have gp:val (gM (stR sC 3 ((16*n:Nat):Int))) p n=0:=v3
 have keep1:∀b,(b<p∨p+n≤b)→(b<T-2*n∨T≤b)→gM (stR sC 3 ((16*n:Nat):Int)) b=gM s b:=fun b h1 h2=>by
  show gM sC b=_
  rw[c3.m b h1,Za1,c2.m b (by omega),c1.m b (by omega)]
 have keepf1:(stR sC 3 ((16*n:Nat):Int)).f 7=s.f 7-(2*n:Nat):=by
  have e1:(stR sC 3 ((16*n:Nat):Int)).f 7=sB.f 7:=hfC 7 (by decide)
  rw[e1,c2.sp,c1.sp];omega
 have g3:(stR sC 3 ((16*n:Nat):Int)).f 3=((16*n-1+1:Nat):Int):=by rw[Yg,if_pos rfl];omega
 generalize stR sC 3 ((16*n:Nat):Int)=s1 at*
 have hbv:val (gM s1) (T-2*n) n<2^(16*n-1+1):=by
  rw[show 16*n-1+1=16*n by omega,←Ek];exact(Xd n _ (fun b=>o1.mem b)).2
 obtain⟨k,s2,qq,r2,k2,o2,f2,mm2,e2⟩:=Ba code n hn base tr hb hat p (T-2*n) hp (by omega) (by omega) (16*n-1) s1 o1 g3 w0 w7 hbv
 rw[gu,gun,gp]at e2
 have t7:aR s2 7=T-2*n:=by rw[←w7];unfold aR;rw[f2 7 (by decide) (by decide) (by decide)]
 have dd:mS5 n=drI (2*n):=rfl
 obtain⟨r3,_⟩:=Xs (tr:=tr) _ _ s2 hat.s5 m5 o2 (by omega) (by omega)
 obtain⟨o3,f4,f5,m5'⟩:=Zax o2 (d:=2*n) (by omega)
 rw[dd]at r3
 generalize exL (drI (2*n)) s2=s3 at*
 have f7:s3.f 7=s.f 7:=by rw[f5,f2 7 (by decide) (by decide) (by decide),keepf1];omega
 have u7:aR s3 7=T:=by rw[←h7];unfold aR;rw[f7]
 have hret:=hat.rt
 rw[dd]at hret
 have z5':Z0 (drI (2*n))=3:=z5
 have r4:=Hc (tr:=tr) hret o3 (by omega) (by omega)
 have gmT:gM s3 (aR s3 7)=gM s T:=by
  rw[u7,m5',mm2 T (by omega) (by omega),keep1 T (by omega) (by omega)]
 rw[gmT]at r4
 have hlen3:(drI (2*n)).length=2:=rfl
 refine⟨_,stR s3 7 (s3.f 7+1),⟨((r1.trans r2).trans r3).trans r4,Yh o3 ?_,by rw[Yg,if_pos rfl,f7],fun b h1 h2=> ?_⟩,?_,?_⟩
 ·have:=h.reg 7 (by decide)
  unfold wd at*;unfold aR at h7;omega
 ·show gM s3 b=_
  rw[m5',mm2 b h1 (by omega),keep1 b h1 h2]
 ·rw[hlen3];omega
 ·have e3:val (gM (stR s3 7 (s3.f 7+1))) p n=val (gM s2) p n:=Zs _ _ fun b _ _=>m5' b
  rw[e3]
  have hr:=Xd (g:=gM s2) n p (fun b=>o2.mem b)
  have hpw:=Oo n
  rw[Int.zero_add]at e2
  rw[←e2,Int.add_mul_emod_self_right,Int.emod_eq_of_lt hr.1 hr.2]
def Zfs(p q sp fill:Int):Nat→Int:=fun i=>if i=0 then p else if i=1 then q else if i=7 then sp else fill
def s0(p q sp fill:Int)(mem:List Int):Pu:=⟨Zfs p q sp fill,⟨false,false,false,false⟩,mem⟩
def s1(p q sp fill:Int)(mem:List Int):Pu:=stM (stR (s0 p q sp fill mem) 7 (sp-1)) (sp.toNat-1) 2
theorem s0_ok{p q sp fill:Int}{mem:List Int}(hp:wd p)(hq:wd q)(hs:wd sp)(hf:wd fill)(hl:mem.length=65536)(hm:∀j,wd (mem.getD j 0)):PuOk (s0 p q sp fill mem):=by
 refine⟨hl,fun i _=> ?_,hm⟩
 show wd (Zfs p q sp fill i)
 unfold Zfs
 repeat' split
 all_goals assumption
theorem s1_ok{p q sp fill:Int}{mem:List Int}(h:PuOk (s0 p q sp fill mem))(hs:1≤sp∧sp≤65535):PuOk (s1 p q sp fill mem):=Qa (Yh h (by unfold wd;omega)) ⟨by decide,by decide⟩
theorem play_of{code:List Int}{p q sp fill:Int}{mem:List Int}(hc:code.length≤65536)(h:PuOk (s0 p q sp fill mem))(hs:1≤sp∧sp≤65535)(a0:atB code 0 [⟨26,0,0,3⟩]=true)(a2:atB code 2 [⟨0,0,0,0⟩]=true)
 {s':Pu}{k pp n d:Nat}(hr:Rout code (s1 p q sp fill mem) s' 3 0 k pp n (sp.toNat-1) d):
 ∃M:Nat→Ma,Trace code M (k+2) 1∧M 0=mk (s0 p q sp fill mem) 0 0∧M (k+2)=mk s' 2 0:=by
 have e7:aR (s0 p q sp fill mem) 7=sp.toNat:=rfl
 have r1:=Ll (tr:=0) a0 h (by omega) (by rw[e7];omega)
 have r2:=hr.run
 have hl:sp.toNat-1<(stR (s0 p q sp fill mem) 7 (sp-1)).mem.length:=by rw[Rt,h.len];omega
 have eT:gM (s1 p q sp fill mem) (sp.toNat-1)=2:=by unfold s1;rw[Wj hl,if_pos rfl]
 rw[eT]at r2
 have r12:=r1.trans r2
 obtain⟨h1,h2,_⟩:=Qn a2
 have g:Good code (mk s' 2 0):=⟨by show Tj (Y4 code 2).1 (Y4 code 2).2=true;rw[h1];exact h2,hr.ok.len,hr.ok.reg,⟨by show(0:Int)≤2;decide,by show(2:Int)≤65535;decide⟩⟩
 have hst:stepS (Y4 code (mk s' 2 0).pc).1 (Y4 code (mk s' 2 0).pc).2 (mk s' 2 0)=(1,mk s' 2 0):=by
  show stepS (Y4 code 2).1 (Y4 code 2).2 (mk s' 2 0)=_
  rw[h1];rfl
 obtain⟨M,g1,g2,g3⟩:=r12.trace hc g hst (.inl rfl) ⟨g.len,g.reg,g.pc⟩
 rw[show 1+k+1=k+2 by omega]at g1 g3
 exact⟨M,g1,g2,g3⟩
end Go.Proofs.YtbmecnjmbhokgaaGreatDoor
namespace Go.Proofs.YtbmecnjmbhokgaaGreatDoor
namespace Vc
open Go.RowKit
set_option linter.unusedVariables false
set_option linter.unusedSimpArgs false
theorem Gi{c:Cx}{ops:Array Oper}{Q:Exit→Act→World→Prop}:∀(ol:List Oper) (il:List In),ol.mapM (Xq c.P c.nt ops)=some il→∀(ol2:List Oper) (K:St→Prop),∀S ρ a w,(∀S' ρ' a' w',Ext S ρ S' ρ'→K S'→S'.holds c ρ' a' w'→wpList c.P ops Q ol2 a' w')→ex c il S K→S.holds c ρ a w→wpList c.P ops Q (ol++ol2) a w
 | [],il,hm,ol2,K,S,ρ,a,w,hK,hx,hh=>by
   rw[List.mapM_nil]at hm
   cases hm
   exact hK _ _ _ _ Ext.rfl hx hh
 |o::ol,il,hm,ol2,K,S,ρ,a,w,hK,hx,hh=>by
  rw[List.mapM_cons]at hm
  cases h1:Xq c.P c.nt ops o with
  |none=>simp[h1]at hm
  |some x=>
   cases h2:ol.mapM (Xq c.P c.nt ops)with
   |none=>simp[h1,h2]at hm
   |some il'=>
    simp[h1,h2]at hm
    subst hm
    obtain⟨hc,hdst,hd,hg⟩:=V2 h1
    obtain⟨g,d,i⟩:=x
    simp only at hc hdst hg
    subst hdst
    have ih:∀S' ρ' a' w',Ext S ρ S' ρ'→ex c il' S' K→S'.holds c ρ' a' w'→wpList c.P ops Q (ol++ol2) a' w':=fun S' ρ' a' w' he h1 h3=>Gi ol il' h2 ol2 K S' ρ' a' w' (fun S2 ρ2 a2 w2 he2 h5 h6=>hK S2 ρ2 a2 w2 (he.trans he2) h5 h6) h1 h3
    rw[List.cons_append]
    unfold wpList
    cases g with
    |none=>
     simp only at hg
     have hw:Region.wanted o (yielded ops a.tmps)=true:=by simp[Region.wanted,hg]
     rw[if_pos hw]
     refine .inl ?_
     unfold ex at hx
     split at hx
     ·rename_i p v hev
      obtain⟨g1,g2⟩:=Wd hh hc hev hx.1
      exact Zq g1 (ih _ _ _ _ (Ext.rfl.put _ _) hx.2 (hh.put_same hd g2))
     ·exact Uu hh hc hd hx ih
    |some g=>
     obtain⟨t,want⟩:=g
     obtain⟨hlow,j,hgd,hj⟩:=hg
     unfold ex at hx
     split at hx
     ·exact hx.elim
     ·rename_i b hgdc
      have hw:=So hh hgd hj hlow hgdc
      split at hx
      ·rename_i p v hev
       cases b with
       |true=>
        rw[if_pos hw]
        obtain⟨g1,g2⟩:=Wd hh hc hev (hx.1 rfl)
        exact .inl (Zq g1 (ih _ ρ _ _ (Ext.rfl.put _ _) hx.2 (hh.put_same hd (v:=.opt true v) fun _=>g2)))
       |false=>
        rw[if_neg (by rw[hw];decide)]
        exact ih _ _ _ _ (Ext.rfl.put _ _) hx.2 (hh.put_same hd (v:=.opt false v) fun h=>by cases h)
      ·have plain:(b=true→st c S o.dst i fun S'=>ex c il' S' K)∧(b=false→ex c il' (S.put o.dst noV) K)→(if Region.wanted o (yielded ops a.tmps)then o.wp c.P a w (wpList c.P ops Q (ol++ol2)) Q∨(o.asks c.P a w∧LetsOut Q)else wpList c.P ops Q (ol++ol2) (a.put o.dst undef) w):=by
        intro hx
        cases b with
        |true=>
         rw[if_pos hw]
         exact .inl (Uu hh hc hd (hx.1 rfl) ih)
        |false=>
         rw[if_neg (by rw[hw];decide)]
         exact ih _ ρ _ _ (Ext.rfl.put _ _) (hx.2 rfl) (by have:=hh.put_same hd (R9 S.nx);rwa [Ru]at this)
       cases i with
       |call f args=>
        simp only[gst]at hx
        split at hx
        ·rename_i p vs hrd
         obtain⟨hp,hg⟩:=hx
         obtain⟨h1,h2⟩:=hg ρ a w hh
         cases b with
         |true=>
          rw[if_pos hw]
          refine .inl (Uu (K:=fun S'=>ex c il' S' K) hh hc hd ?_ ih)
          simp only[st,hrd]
          refine⟨hp rfl,fun ρ2 a2 w2 hh2=> ?_⟩
          exact(hg ρ2 a2 w2 hh2).1 rfl
         |false=>
          rw[if_neg (by rw[hw];decide)]
          obtain⟨v,hvb,hvd,hK2⟩:=h2 rfl
          have:=hh.put_same hd hvb
          rw[hvd]at this
          exact ih _ ρ _ _ (Ext.rfl.put _ _) hK2 this
        ·exact hx.elim
       |_=>exact plain hx
theorem C4{α β:Type}{f:α→Option β}:∀ {l:List α} {l1 l2:List β},l.mapM f=some (l1++l2)→∃a b,l=a++b∧a.mapM f=some l1∧b.mapM f=some l2
 |l,[],l2,h=>⟨[],l,rfl,by rw[List.mapM_nil];rfl,h⟩
 | [],x::l1,l2,h=>by rw[List.mapM_nil]at h;cases h
 |y::l,x::l1,l2,h=>by
  rw[List.mapM_cons]at h
  cases h1:f y with
  |none=>simp[h1]at h
  |some z=>
   cases h2:l.mapM f with
   |none=>simp[h1,h2]at h
   |some zs=>
    simp[h1,h2]at h
    obtain⟨rfl,rfl⟩:=h
    obtain⟨a,b,rfl,h3,h4⟩:=C4 h2
    exact⟨y::a,b,rfl,by rw[List.mapM_cons];simp[h1,h3],h4⟩
theorem T.regCut{c:Cx}{Q:Exit→St→Prop}{S:St}{l:List In}{y:IC}(n:Nat)(F:St)(h:ex c (l.take n) S fun S'=>Ent c S' F)(h2:ex c (l.drop n) F (T c y Q)):T c (.seq (.reg l) y) Q S:=by
 refine T.seq fun ρ a w hh code hc=> ?_
 obtain⟨id,ops,rfl,hl⟩:=Dz hc
 refine wp_region_list ?_
 rw[←List.take_append_drop n l]at hl
 obtain⟨o1,o2,ho,h3,h4⟩:=C4 hl
 rw[ho]
 refine Gi o1 _ h3 o2 _ S ρ a w (fun S' ρ' a' w' _ hE hS=> ?_) h hh
 obtain⟨ρ2,hF⟩:=hE ρ' a' w' hS
 refine Mw o2 _ h4 (T c y Q) F ρ2 a' w' (fun S2 ρ3 a2 w2 _ hQ hS2=>⟨S2,ρ3,hS2,hQ⟩) h2 hF
end Vc
end Go.Proofs.YtbmecnjmbhokgaaGreatDoor
namespace Go.Proofs.YtbmecnjmbhokgaaGreatDoor
open Go Go.RowKit Vc
set_option linter.unusedVariables false
set_option linter.unusedSimpArgs false
attribute [local irreducible] T Za Zn RdC RwC Yj Zf Zi
def Z4(nm:List UInt8):List Ln:=[⟨Z3,Vt,[]⟩,callL nm,⟨[],Vt,[]⟩]
def flM(v:Int)(j:Nat):List Int:=List.replicate j v++List.replicate (65536-j) 0
theorem Fx(v:Int)(j:Nat)(h:j≤65536):(flM v j).length=65536:=by
 unfold flM;rw[List.length_append,List.length_replicate,List.length_replicate];omega
theorem flM_set(v:Int)(j:Nat)(h:j<65536):(flM v j).set j v=flM v (j+1):=by
 unfold flM
 rw[show 65536-j=(65536-(j+1))+1 by omega,List.replicate_succ,List.set_append_right _ _ (by rw[List.length_replicate];exact Nat.le_refl _),List.length_replicate,Nat.sub_self,List.set_cons_zero,List.replicate_succ',List.append_assoc]
 rfl
theorem Ch(v:Int):List.replicate 65536 ((Kd.int .i64).dflt)=flM v 0:=by
 unfold flM
 rw[List.replicate_zero,List.nil_append,Nat.sub_zero]
 rfl
theorem flM_all(v:Int):flM v 65536=List.replicate 65536 v:=by unfold flM;rw[Nat.sub_self];exact List.append_nil _
def memB(p q fill:Int)(x y:List Int):List Int:=Tw (Tw (List.replicate 65536 fill) p.toNat 65536 x) q.toNat 65536 y
theorem Ze1{c:Cx}{S S2 S3:St}(h:Ent c S S2)(h2:Ent c S2 S3):Ent c S S3:=fun ρ a w hh=>by
 obtain⟨ρ',h'⟩:=h ρ a w hh
 exact h2 ρ' a w h'
attribute [local irreducible] Ent
def Zfr:List At:=[.int .i64 0,.int .i64 0,.raw (.slice none 0 0),.int .i64 0,.int .i64 0,.int .i64 0,.int .i64 0,.int .i64 0,.int .i64 0,.int .i64 0,.int .i64 0,.int .i64 0,.int .i64 0,.bool false,.bool false,.bool false,.bool false,.int .i64 0,.raw (.slice none 0 0)]
theorem Zhf(p q sp fill:Int)(t:List At):mcs (Zfs p q sp fill) t= .int .i64 p:: .int .i64 q:: .int .i64 fill:: .int .i64 fill:: .int .i64 fill:: .int .i64 fill:: .int .i64 fill:: .int .i64 sp::t:=rfl
theorem Vs(l:List Int)(lo hi:Nat)(l':List Int)(h1:lo≤hi)(h2:hi≤l.length):(Tw l lo hi l').length=l.length:=by
 unfold Tw
 rw[List.length_append,List.length_append,List.length_take,List.length_take,List.length_drop]
 omega
set_option maxHeartbeats 16000000 in
set_option maxRecDepth 100000 in
theorem Bl{G:Nat}{H:Nat→Option Obj}(hM:Yo G H)(hH:Z5 G H)(nm:List UInt8)(hnm:nm.length≤1000)(x y:List Int)(hx:x.length≤4)(hy:y.length≤4)(p q sp fill:Int)(hp:0≤p∧p≤65536)(hq:0≤q∧q≤65536)
 (hR:(linkS (unitsTo 24++[([],Z4 nm)]) Z3).2=(0,0))(code:List Int)(hC:(linkS (unitsTo 24++[([],Z4 nm)]) Z3).1.1=code)(M:Nat→Ma)(N:Nat)(hw:Int)
 (h:Trace code M N hw)(ht:(M 0).trap=0)(hm:∀j,j<65536→wd ((M 0).mem.getD j 0))(hN:N≤1000000)(h0:0<trimN (M N).mem 65536)
 (e1:(M 0).f=Zfs p q sp fill)(e2:(M 0).x=⟨false,false,false,false⟩)(e3:(M 0).pc=0)(e4:(M 0).mem=memB p q fill x y):
 GCp G H Tryz.prog 29 [.a (.str nm),.a (.ref 0),.a (.ref 1),.a (.int .i64 p),.a (.int .i64 q),.a (.int .i64 sp),.a (.int .i64 fill)] [(0,.ro (.int .i64) x),(1,.ro (.int .i64) y)] 2 []
  (.tup [.agg (Hb hw (M N).trap N (M N).f (M N).x (M N).pc),.a (.ref 3),.a (.bool true)]) [(2,.row 3 (.int .i64) ((M N).mem.take (trimN (M N).mem 65536))),(3,.row 3 (.int .i64) (memB p q fill x y))] 4:=by
 have hU:=Zgl hM hH
 have hL:=Link_gc (unitsTo 24++[([],Z4 nm)]) Z3 (E5 24 (Nat.le_refl _) _ (by show 3≤1000;decide)).1 (by decide)
 obtain⟨q1,q2⟩:=lk_ok (congrArg Prod.fst hR)
 rw[q1,q2]at hL
 have hRun:=Run_gc code M N hw h ht hm 1000000 ⟨by omega,by omega⟩ h0
 have hul:=Oy 24
 generalize unitsTo 24=us at*
 generalize linkS (us++[([],Z4 nm)]) Z3=R at*
 have hmn:Z3=[109,97,105,110]:=rfl
 have z0:∀l:List At,l.drop 0=l:=fun l=>rfl
 have t0:∀l:List At,l.take 0=[]:=fun l=>rfl
 refine Xe.fn.gcp (by simp) (by simp[Zu,Zw,Zv,Zj,Ze,Vc.S1.okN,At.okN,SV.okN,Res.okN,Res.outOk,Zo,Res.own,Value.oneCell',Xw,Hb]) fun w X fr hglob=> ?_
 rw[hmn]at hL
 refine T.regs ?_
 simp only[Zd,simprocAttr,↓reduceIte,reduceCtorEq,implies_true,Xe.r0]
 refine T.regCut 8 ⟨[(32,.one (.a (.ref 4))),(25,.one (.a (.ref 3))),(14,.one (.a (.loc 2 0))),(1,.one (.a (.ref 0))),(2,.one (.a (.ref 1))),(3,.one (.a (.int .i64 p))),(4,.one (.a (.int .i64 q))),(5,.one (.a (.int .i64 sp))),(6,.one (.a (.int .i64 fill)))],
  [(4,.row 72 .line (Z4 nm)),(3,.urow 0 75 us),(2,.cells 52 Zfr),(0,.ro (.int .i64) x),(1,.ro (.int .i64) y)],5⟩ ?_ ?_
 ·simp only[Zd,simprocAttr,↓reduceIte,reduceCtorEq,implies_true,Xe.r1,List.take_succ_cons,List.take_zero]
  refine Za.ru hglob hU ?_
  simp only[Zd,simprocAttr,↓reduceIte,reduceCtorEq,implies_true]
  exact Ze1 (Ent.litRow (m:=4) .line (Z4 nm) rfl rfl rfl rfl (by show(3:Nat)≤_;decide)) (Ent.mk1 (id) (by simp[Zy,Zfr]))
 simp only[Zd,simprocAttr,↓reduceIte,reduceCtorEq,implies_true,Xe.r1,List.drop_succ_cons,List.drop_zero]
 repeat'(first|(first|refine Stp.h ?_|(refine Za.gc hL ?_ ?_;focus simp[Zb];done))<;>try simp only[Zd,simprocAttr,↓reduceIte,reduceCtorEq,implies_true,hul,Ch,hC,-List.reduceReplicate]|(with_reducible first|assumption|refine And.intro ?_ ?_)|(intro h;first|omega|exact tg h ‹_›|exact tg ‹_› h|skip))
 all_goals first|omega|exact .inl rfl|skip
 rw[Ch fill,Fx fill 0 (by decide)]
 refine T.loop (ι:= {j:Nat//j≤65536})
  (fun j=>⟨[(44,.one (.a (.int .i64 (j.1:Int)))),(43,.one (.a (.int .i64 65536))),(20,.one (.a (.ref 12))),(19,.one (.a (.loc 11 0))),(18,.one (.a (.loc 10 0))),(14,.one (.a (.loc 2 0))),(1,.one (.a (.ref 0))),(2,.one (.a (.ref 1))),(3,.one (.a (.int .i64 p))),(4,.one (.a (.int .i64 q))),(5,.one (.a (.int .i64 sp))),(6,.one (.a (.int .i64 fill)))],
    [(12,.row 3 (.int .i64) (flM fill j.1)),(11,.cells 80 [.int .i64 0,.int .i64 0]),(10,.cells 78 [.ref 7,.ref 8,.ref 9]),(7,.row 3 (.int .i64) code),(8,.row 3 (.int .i64) R.1.2.1),(9,.row 109 .spot R.1.2.2),(2,.cells 52 Zfr),(0,.ro (.int .i64) x),(1,.ro (.int .i64) y)],13⟩) (fun j=>65536-j.1) ⟨0,by omega⟩ (Ent.mk1 (id) (by simp[Zy,Zfr])) ?_
 rintro⟨j,hj⟩
 simp only
 by_cases hlt:j<65536
 ·have hl:=Fx fill j (by omega)
  have hs:=flM_set fill j hlt
  have j1:(j:Int)<65536:=by omega
  have j0:(0:Int)≤j:=by omega
  have jt:((j:Nat):Int).toNat=j:=by omega
  have jw:IntKind.i64.wrap ((j:Int)+1)=((j+1:Nat):Int):=Zx (by omega)
  generalize flM fill j=L at*
  repeat'(first|(first|refine Stp.h ?_)<;>try simp only[Zd,simprocAttr,↓reduceIte,reduceCtorEq,implies_true,j1,j0,jt,jw,hl,hlt]|(with_reducible first|assumption|refine And.intro ?_ ?_)|(intro h;first|omega|exact tg h ‹_›|exact tg ‹_› h|skip))
  all_goals first|omega|exact⟨⟨j+1,hlt⟩,(Ent.mk1 (id) (by simp[Zy,hs,Zfr])),by simp only;omega⟩|skip
 ·obtain rfl:j=65536:=by omega
  have j1:¬((65536:Nat):Int)<65536:=by decide
  have hl:=Fx fill 65536 (Nat.le_refl _)
  have ha:=flM_all fill
  unfold memB at*
  rw[←ha]at e4 ⊢
  generalize flM fill 65536=L at*
  have t65:((65536:Nat):Int).toNat=65536:=Int.toNat_natCast _
  have hl1:(Tw L p.toNat 65536 x).length=65536:=by rw[Vs _ _ _ _ (by omega) (by omega),hl]
  have hl2:(Tw (Tw L p.toNat 65536 x) q.toNat 65536 y).length=65536:=by rw[Vs _ _ _ _ (by omega) (by omega),hl1]
  obtain⟨L1,hL1⟩:∃L1,Tw L p.toNat 65536 x=L1:=⟨_,rfl⟩
  obtain⟨L2,hL2⟩:∃L2,Tw (Tw L p.toNat 65536 x) q.toNat 65536 y=L2:=⟨_,rfl⟩
  rw[hL2]at e4 hl2 ⊢
  rw[hL1]at hl1 hL2
  have hp1:p≤((65536:Nat):Int):=by omega
  have hq1:q≤((65536:Nat):Int):=by omega
  rw[e1,e2,e3,e4]at hRun
  rw[Zhf]at hRun
  unfold Hb Zfr at*
  have n65:((65536:Nat):Int)+((0:Nat):Int)≤((65536:Nat):Int):=by decide
  repeat'(first|(first|refine Stp.h ?_|(refine Za.gc hRun ?_ ?_;focus simp[Zb,Z2];done)|refine Zf.split ?_ ?_|refine Zi.no ?_)<;>try simp only[Zd,simprocAttr,↓reduceIte,reduceCtorEq,implies_true,j1,hl,t65,n65,hL1,hL2,hl1,hl2,hp.1,hq.1,hp1,hq1,Z2,z0,t0,Zfs,List.cons_append,List.nil_append,decide_true]|(with_reducible first|assumption|refine And.intro ?_ ?_)|(intro h;first|omega|exact tg h ‹_›|exact tg ‹_› h|skip))
  all_goals omega
end Go.Proofs.YtbmecnjmbhokgaaGreatDoor
namespace Go.Proofs.YtbmecnjmbhokgaaGreatDoor
open Go Go.RowKit Vc
set_option linter.unusedVariables false
set_option linter.unusedSimpArgs false
attribute [local irreducible] T Za Zn Ent RdC RwC Yj Zf Zi
theorem Ho(l:List Int):∀n k,trimN l n≤k→k<n→l.getD k 0=0
 |0,k,_,h=>by omega
 |n+1,k,h1,h2=>by
  unfold trimN at h1
  split at h1
  ·rename_i h0
   by_cases h:k=n
   ·rw[h];exact h0
   ·exact Ho l n k h1 (by omega)
  ·omega
theorem Zgb{l:List Int}{t k:Nat}(h:k<t):(l.take t).getD k 0=l.getD k 0:=by
 rw[List.getD_eq_getElem?_getD,List.getElem?_take_of_lt h,←List.getD_eq_getElem?_getD]
def okD(n m p q sp fill:Int):Prop:=(0≤fill∧fill≤65535)∧(64≤sp∧sp≤65535)∧apB p n q m=true∧apB p n (IntKind.i64.wrap (sp-64)) 64=true∧apB q m (IntKind.i64.wrap (sp-64)) 64=true
set_option maxHeartbeats 16000000 in
set_option maxRecDepth 100000 in
theorem Zc6(G:Nat)(H:Nat→Option Obj)(nm:List UInt8)(n m a b want:Nat)(zero:Bool)(p q sp fill:Int)(hok:¬okD n m p q sp fill):
 GCp G H Tryz.prog 16 [.a (.str nm),.a (.int .i64 (n:Int)),.a (.int .i64 (m:Int)),.a (.int .u64 (a:Int)),.a (.int .u64 (b:Int)),.a (.int .i64 p),.a (.int .i64 q),.a (.int .i64 sp),.a (.int .i64 fill),.a (.int .u64 (want:Int)),.a (.bool zero)] [] 0 [] (.one (.a (.bool true))) [] 0:=by
 have hA1:=Ve p n q m
 have hA2:=Ve p n (IntKind.i64.wrap (sp-64)) 64
 have hA3:=Ve q m (IntKind.i64.wrap (sp-64)) 64
 obtain⟨b1,h1⟩:∃b,decide (fill<0)=b:=⟨_,rfl⟩
 obtain⟨b2,h2⟩:∃b,decide (65535<fill)=b:=⟨_,rfl⟩
 obtain⟨b3,h3⟩:∃b,decide (sp<64)=b:=⟨_,rfl⟩
 obtain⟨b4,h4⟩:∃b,decide (65535<sp)=b:=⟨_,rfl⟩
 obtain⟨b5,h5⟩:∃b,apB p n q m=b:=⟨_,rfl⟩
 obtain⟨b6,h6⟩:∃b,apB p n (IntKind.i64.wrap (sp-64)) 64=b:=⟨_,rfl⟩
 obtain⟨b7,h7⟩:∃b,apB q m (IntKind.i64.wrap (sp-64)) 64=b:=⟨_,rfl⟩
 rw[h5]at hA1
 rw[h6]at hA2
 rw[h7]at hA3
 have hno:b1=true∨b1=false∧b2=true∨(b1=false∧b2=false∧b3=true)∨(b1=false∧b2=false∧b3=false∧b4=true)∨(b1=false∧b2=false∧b3=false∧b4=false∧b5=false)∨(b1=false∧b2=false∧b3=false∧b4=false∧b5=true∧b6=false)∨(b1=false∧b2=false∧b3=false∧b4=false∧b5=true∧b6=true∧b7=false):=by
  rcases b1 with _|_<;>rcases b2 with _|_<;>rcases b3 with _|_<;>rcases b4 with _|_<;>rcases b5 with _|_<;>rcases b6 with _|_<;>rcases b7 with _|_<;>simp only[reduceCtorEq,false_and,and_false,or_false,false_or,true_and,and_true,or_true,true_or,and_self]
  simp only[decide_eq_false_iff_not]at h1 h2 h3 h4
  exact hok ⟨⟨by omega,by omega⟩,⟨by omega,by omega⟩,h5,h6,h7⟩
 refine Xu.fn.gcp (by simp) (by simp[Zu,Zw,Zv,Zj,Ze,Vc.S1.okN,At.okN,SV.okN,Res.okN,Res.outOk,Zo,Res.own,Value.oneCell']) fun w' X fr hglob=> ?_
 rcases hno with rfl|⟨rfl,rfl⟩|⟨rfl,rfl,rfl⟩|⟨rfl,rfl,rfl,rfl⟩|⟨rfl,rfl,rfl,rfl,rfl⟩|⟨rfl,rfl,rfl,rfl,rfl,rfl⟩|⟨rfl,rfl,rfl,rfl,rfl,rfl,rfl⟩
 all_goals
  repeat'(first|(first|refine Stp.h ?_|(refine Za.gc hA1 ?_ ?_;focus simp[Zb];done)|(refine Za.gc hA2 ?_ ?_;focus simp[Zb];done)|(refine Za.gc hA3 ?_ ?_;focus simp[Zb];done)|refine Zf.split ?_ ?_|refine Zi.no ?_)<;>try simp only[Zd,simprocAttr,↓reduceIte,reduceCtorEq,implies_true,h1,h2,h3,h4,Bool.not_true,Bool.not_false]|(with_reducible first|assumption|refine And.intro ?_ ?_)|(intro h;first|omega|exact tg h ‹_›|exact tg ‹_› h|skip))
set_option maxHeartbeats 16000000 in
set_option maxRecDepth 100000 in
theorem W5{G:Nat}{H:Nat→Option Obj}(hM:Yo G H)(hH:Z5 G H)(nm:List UInt8)(hnm:nm.length≤1000)(n m:Nat)(hn:n=1∨n=2∨n=4)(hmm:m=1∨m=2∨m=4)(a b want:Nat)(ha:a<18446744073709551616)(hb:b<18446744073709551616)(hwt:want<18446744073709551616)
 (p q sp fill:Int)(hp64: -9223372036854775808≤p∧p≤9223372036854775807)(hq64: -9223372036854775808≤q∧q≤9223372036854775807)
 (hR:(linkS (unitsTo 24++[([],Z4 nm)]) Z3).2=(0,0))(code:List Int)(hC:(linkS (unitsTo 24++[([],Z4 nm)]) Z3).1.1=code)
 (hpl:okD n m p q sp fill→∃(M:Nat→Ma) (N:Nat),Trace code M N 1∧M 0=mk (s0 p q sp fill (memB p q fill (wsp (a%2^(16*n)) n) (wsp (b%2^(16*m)) m))) 0 0∧(∀j,j<65536→wd ((M 0).mem.getD j 0))∧N≤20000∧(M N).f 7=sp∧0<trimN (M N).mem 65536∧
   ∀k:Nat,k<65536→((k:Int)<sp-64∨sp≤k)→(M N).mem.getD k 0=(Tw (memB p q fill (wsp (a%2^(16*n)) n) (wsp (b%2^(16*m)) m)) p.toNat 65536 (wsp (want%2^(16*n)) n)).getD k 0):
 GCp G H Tryz.prog 16 [.a (.str nm),.a (.int .i64 (n:Int)),.a (.int .i64 (m:Int)),.a (.int .u64 (a:Int)),.a (.int .u64 (b:Int)),.a (.int .i64 p),.a (.int .i64 q),.a (.int .i64 sp),.a (.int .i64 fill),.a (.int .u64 (want:Int)),.a (.bool false)] [] 0 [] (.one (.a (.bool true))) [] 0:=by
 by_cases hok:okD n m p q sp fill
 rotate_left
 ·exact Zc6 G H nm n m a b want false p q sp fill hok
 ·obtain⟨M,N,hT,hM0,hwd,hN,h7',htr,hmem⟩:=hpl hok
  obtain⟨⟨f1,f2⟩,⟨s1,s2⟩,k5,k6,k7⟩:=hok
  obtain⟨p0,q0,p1,q1,-⟩:=(Mo hp64 hq64 ⟨by omega,by omega⟩ ⟨by omega,by omega⟩).1 k5
  have hP:=Bl hM hH nm hnm (wsp (a%2^(16*n)) n) (wsp (b%2^(16*m)) m) (by rw[Sf];omega) (by rw[Sf];omega) p q sp fill ⟨p0,by omega⟩ ⟨q0,by omega⟩ hR code hC M N 1 hT (by rw[hM0];rfl) hwd (by omega) htr (by rw[hM0];rfl) (by rw[hM0];rfl) (by rw[hM0];rfl) (by rw[hM0];rfl)
  have hSa:=P5 a n ha hn
  have hSb:=P5 b m hb hmm
  have hSw:=P5 want n hwt hn
  have wn:IntKind.i64.wrap (16*(n:Int))=((16*n:Nat):Int):=by rw[Zm (by omega) (by omega)];omega
  have wm:IntKind.i64.wrap (16*(m:Int))=((16*m:Nat):Int):=by rw[Zm (by omega) (by omega)];omega
  have hl0:(memB p q fill (wsp (a%2^(16*n)) n) (wsp (b%2^(16*m)) m)).length=65536:=by
   unfold memB
   rw[Vs _ _ _ _ (by omega) (by rw[Vs _ _ _ _ (by omega) (by rw[List.length_replicate];omega),List.length_replicate];omega),Vs _ _ _ _ (by omega) (by rw[List.length_replicate];omega),List.length_replicate]
  have hlN:=hT.len N (Nat.le_refl _)
  have htz:=Ho (M N).mem 65536
  have htl:(((M N).mem.take (trimN (M N).mem 65536)).length)=trimN (M N).mem 65536:=by rw[List.length_take];have:=Hn (M N).mem 65536;omega
  have htg:∀k,k<trimN (M N).mem 65536→((M N).mem.take (trimN (M N).mem 65536)).getD k 0=(M N).mem.getD k 0:=fun k hk=>Zgb hk
  have htr2:=Hn (M N).mem 65536
  unfold Hb at hP
  have hA1:=Ve p n q m
  have hA2:=Ve p n (IntKind.i64.wrap (sp-64)) 64
  have hA3:=Ve q m (IntKind.i64.wrap (sp-64)) 64
  have h1:decide (fill<0)=false:=decide_eq_false (by omega)
  have h2:decide (65535<fill)=false:=decide_eq_false (by omega)
  have h3:decide (sp<64)=false:=decide_eq_false (by omega)
  have h4:decide (65535<sp)=false:=decide_eq_false (by omega)
  rw[k5]at hA1
  rw[k6]at hA2
  rw[k7]at hA3
  generalize (M N).mem.take (trimN (M N).mem 65536)=Tm at*
  generalize trimN (M N).mem 65536=t at*
  generalize memB p q fill (wsp (a%2^(16*n)) n) (wsp (b%2^(16*m)) m)=L at*
  generalize wsp (a%2^(16*n)) n=xs at*
  generalize wsp (b%2^(16*m)) m=ys at*
  generalize wsp (want%2^(16*n)) n=zs at*
  have t65:((65536:Nat):Int).toNat=65536:=Int.toNat_natCast _
  have n65:((65536:Nat):Int)+((0:Nat):Int)≤((65536:Nat):Int):=by decide
  have hp1:p≤((65536:Nat):Int):=by omega
  have hl3:(Tw L p.toNat 65536 zs).length=65536:=by rw[Vs _ _ _ _ (by omega) (by omega),hl0]
  have hN2:¬(20000:Int)<(N:Int):=by omega
  have z0:∀l:List At,l.drop 0=l:=fun l=>rfl
  have t0:∀l:List At,l.take 0=[]:=fun l=>rfl
  have c1:((1:Nat):Int)=1:=rfl
  refine Xu.fn.gcp (by simp) (by simp[Zu,Zw,Zv,Zj,Ze,Vc.S1.okN,At.okN,SV.okN,Res.okN,Res.outOk,Zo,Res.own,Value.oneCell']) fun w' X fr hglob=> ?_
  repeat'(first|(first|refine Stp.h ?_|(refine Za.gc hA1 ?_ ?_;focus simp[Zb,Z2];done)|(refine Za.gc hA2 ?_ ?_;focus simp[Zb,Z2];done)|(refine Za.gc hA3 ?_ ?_;focus simp[Zb,Z2];done)|(refine Za.gc hSa ?_ ?_;focus simp[Zb,Z2];done)|(refine Za.gc hSb ?_ ?_;focus simp[Zb,Z2];done)|(refine Za.gc hSw ?_ ?_;focus simp[Zb,Z2];done)|(refine Za.gcp hglob hP ?_ ?_;focus simp[Zb,Z2];done)|refine Zf.split ?_ ?_|refine Zi.no ?_)<;>try simp only[Zd,simprocAttr,↓reduceIte,reduceCtorEq,implies_true,Int.reduceToNat,List.getElem?_cons_succ,List.getElem?_cons_zero,h1,h2,h3,h4,wn,wm,hl0,t65,n65,p0,hp1,hN2,h7',Z2,z0,t0,c1,List.cons_append,List.nil_append,Bool.not_true,Bool.not_false,decide_true,decide_false,bne_self_eq_false,ne_eq,not_true_eq_false,not_false_eq_true]|(with_reducible first|assumption|refine And.intro ?_ ?_)|(intro h;first|omega|exact tg h ‹_›|exact tg ‹_› h|skip))
  all_goals first|omega|skip
  obtain⟨L3,hL3⟩:∃L3,Tw L p.toNat 65536 zs=L3:=⟨_,rfl⟩
  rw[hL3]at hl3 hmem ⊢
  rw[hl3]
  refine T.loop (ι:= {j:Nat//j≤65536})
   (fun j=>⟨[(150,.one (.a (.int .i64 (j.1:Int)))),(149,.one (.a (.int .i64 65536))),(28,.one (.a (.ref 3))),(27,.one (.a (.loc 4 0))),(7,.one (.a (.int .i64 sp)))],
     [(3,.row 3 (.int .i64) L3),(4,.cells 52 (.int .i64 1:: .int .i64 (M N).trap:: .raw (.slice none 0 0):: .int .i64 0:: .int .i64 N::mcs (M N).f [.bool (M N).x.c,.bool (M N).x.z,.bool (M N).x.n,.bool (M N).x.v,.int .i64 (M N).pc,.ref 2])),
       (2,.row 3 (.int .i64) Tm)],7⟩) (fun j=>65536-j.1) ⟨0,by omega⟩ (Ent.mk1 id (by simp[Zy,Z2])) ?_
  rintro⟨j,hj⟩
  simp only
  have j0:(0:Int)≤j:=by omega
  have jt:((j:Nat):Int).toNat=j:=by omega
  have d0:(Kd.int .i64).dflt=(0:Int):=rfl
  by_cases hlt:j<65536
  ·have j1:(j:Int)<65536:=by omega
   have jw:IntKind.i64.wrap ((j:Int)+1)=((j+1:Nat):Int):=Zx (by omega)
   have sw:IntKind.i64.wrap (sp-64)=sp-64:=Zm (by omega) (by omega)
   have hmj:=hmem j hlt
   have htj:=htz j
   have htk:=htg j
   obtain⟨c,hc,hc2⟩:∃c,decide ((j:Int)<(t:Int))=c∧(c=true→j<t):=⟨_,rfl,fun h=>by have:=of_decide_eq_true h;omega⟩
   obtain⟨x1,w1⟩:∃x,decide ((j:Int)<sp-64)=x:=⟨_,rfl⟩
   obtain⟨x2,w2⟩:∃x,decide (sp≤(j:Int))=x:=⟨_,rfl⟩
   obtain⟨y,hy,hyw⟩:∃y,decide ((M N).mem.getD j 0=L3.getD j 0)=y∧(y=false→x1=false∧x2=false):=⟨_,rfl,fun h=>by
    have hne:=of_decide_eq_false h
    rw[←w1,←w2]
    exact⟨decide_eq_false fun h1=>hne (hmj (.inl h1)),decide_eq_false fun h2=>hne (hmj (.inr h2))⟩⟩
   rcases c with _|_
   ·have hj1:=of_decide_eq_false hc
    rw[htj (by omega) hlt]at hy
    rcases y with _|_
    ·obtain⟨rfl,rfl⟩:=hyw rfl
     repeat'(first|(first|refine Stp.h ?_|refine Zf.split ?_ ?_|refine Zi.no ?_)<;>try simp only[Zd,simprocAttr,↓reduceIte,reduceCtorEq,implies_true,Z2,z0,t0,j0,j1,jt,jw,sw,d0,htl,hl3,hlt,hc,hy,w1,w2,Int.ofNat_lt,Bool.not_true,Bool.not_false]|(with_reducible first|assumption|refine And.intro ?_ ?_)|(intro h;first|omega|exact tg h ‹_›|exact tg ‹_› h|skip))
     all_goals first|omega|exact⟨⟨j+1,hlt⟩,(Ent.mk1 id (by simp[Zy,Z2])),by simp only;omega⟩|skip
    ·repeat'(first|(first|refine Stp.h ?_|refine Zf.split ?_ ?_|refine Zi.no ?_)<;>try simp only[Zd,simprocAttr,↓reduceIte,reduceCtorEq,implies_true,Z2,z0,t0,j0,j1,jt,jw,sw,d0,htl,hl3,hlt,hc,hy,w1,w2,Int.ofNat_lt,Bool.not_true,Bool.not_false]|(with_reducible first|assumption|refine And.intro ?_ ?_)|(intro h;first|omega|exact tg h ‹_›|exact tg ‹_› h|skip))
     all_goals first|omega|exact⟨⟨j+1,hlt⟩,(Ent.mk1 id (by simp[Zy,Z2])),by simp only;omega⟩|skip
   ·have hj1:=hc2 rfl
    rw[←htk hj1]at hy
    have ht1:(j:Int)<(t:Int):=by omega
    rcases y with _|_
    ·obtain⟨rfl,rfl⟩:=hyw rfl
     repeat'(first|(first|refine Stp.h ?_|refine Zf.split ?_ ?_|refine Zi.no ?_)<;>try simp only[Zd,simprocAttr,↓reduceIte,reduceCtorEq,implies_true,Z2,z0,t0,j0,j1,jt,jw,sw,d0,htl,hl3,hlt,hc,ht1,hj1,hy,w1,w2,Int.ofNat_lt,Bool.not_true,Bool.not_false]|(with_reducible first|assumption|refine And.intro ?_ ?_)|(intro h;first|omega|exact tg h ‹_›|exact tg ‹_› h|skip))
     all_goals first|omega|exact⟨⟨j+1,hlt⟩,(Ent.mk1 id (by simp[Zy,Z2])),by simp only;omega⟩|skip
    ·repeat'(first|(first|refine Stp.h ?_|refine Zf.split ?_ ?_|refine Zi.no ?_)<;>try simp only[Zd,simprocAttr,↓reduceIte,reduceCtorEq,implies_true,Z2,z0,t0,j0,j1,jt,jw,sw,d0,htl,hl3,hlt,hc,ht1,hj1,hy,w1,w2,Int.ofNat_lt,Bool.not_true,Bool.not_false]|(with_reducible first|assumption|refine And.intro ?_ ?_)|(intro h;first|omega|exact tg h ‹_›|exact tg ‹_› h|skip))
     all_goals first|omega|exact⟨⟨j+1,hlt⟩,(Ent.mk1 id (by simp[Zy,Z2])),by simp only;omega⟩|skip
  ·obtain rfl:j=65536:=by omega
   have j1:¬((65536:Nat):Int)<65536:=by decide
   repeat'(first|(first|refine Stp.h ?_)<;>try simp only[Zd,simprocAttr,↓reduceIte,reduceCtorEq,implies_true,j1]|(with_reducible first|assumption|refine And.intro ?_ ?_)|(intro h;first|omega|exact tg h ‹_›|exact tg ‹_› h|skip))
end Go.Proofs.YtbmecnjmbhokgaaGreatDoor
namespace Go.Proofs.YtbmecnjmbhokgaaGreatDoor
open Go Vc
set_option linter.unusedVariables false
set_option linter.unusedSimpArgs false
theorem Zaf(x m i:Nat)(h:i<m):(wsp x m).getD i 0=((x/65536^i%65536:Nat):Int):=by
 simp[wsp,List.getD_eq_getElem?_getD,h]
theorem Zcq(x m:Nat):∀j,wd ((wsp x m).getD j 0):=fun j=>by
 by_cases h:j<m
 ·rw[Zaf _ _ _ h];have:=Nat.mod_lt (x/65536^j) (show 65536>0 by decide);unfold wd;omega
 ·rw[List.getD_eq_getElem?_getD,List.getElem?_eq_none (by rw[Sf];omega)];exact⟨by decide,by decide⟩
theorem Kb(g:Nat→Int)(a:Nat):∀n,val g a n=val (fun j=>g (a+j)) 0 n
 |0=>rfl
 |n+1=>by rw[Vv,Vv,Kb g a n,Nat.zero_add]
theorem Ej:∀n,pw n=((65536^n:Nat):Int)
 |0=>rfl
 |n+1=>by rw[pw,Ej n,Nat.pow_succ,Int.natCast_mul];exact Int.mul_comm _ _
theorem Ji(x m:Nat):∀k,k≤m→val (fun j=>(wsp x m).getD j 0) 0 k=((x%65536^k:Nat):Int)
 |0,_=>by rw[Nat.pow_zero,Nat.mod_one];rfl
 |k+1,h=>by
  rw[Vv,Ji x m k (by omega),Nat.zero_add,Zaf _ _ _ (by omega),Ej,Nat.mod_pow_succ,Int.natCast_add,Int.natCast_mul]
theorem Lm(l l':List Int)(lo hi k:Nat)(h1:lo+l'.length≤hi)(h2:hi≤l.length):(Tw l lo hi l').getD k 0=if lo≤k∧k<lo+l'.length then l'.getD (k-lo) 0 else l.getD k 0:=by
 have e1:l'.take (hi-lo)=l':=List.take_of_length_le (by omega)
 have e2:min l'.length (hi-lo)=l'.length:=by omega
 have e3:(l.take lo).length=lo:=by rw[List.length_take];omega
 unfold Tw
 rw[e1,e2]
 simp only[List.getD_eq_getElem?_getD]
 by_cases ha:k<lo
 ·rw[if_neg (by omega),List.append_assoc,List.getElem?_append_left (by omega),List.getElem?_take_of_lt ha]
 ·by_cases hb:k<lo+l'.length
  ·rw[if_pos ⟨by omega,hb⟩,List.append_assoc,List.getElem?_append_right (by omega),List.getElem?_append_left (by omega),e3]
  ·rw[if_neg (by omega),List.getElem?_append_right (by rw[List.length_append];omega),List.length_append,e3,List.getElem?_drop]
   congr 2;omega
theorem L8(l:List Int)(k:Nat)(hk:l.getD k 0≠0):∀n,k<n→k<trimN l n
 |0,h=>by omega
 |n+1,h=>by
  unfold trimN
  split
  ·rename_i h0
   by_cases e:k=n
   ·exact absurd (e▸h0) hk
   ·exact L8 l k hk n (by omega)
  ·exact h
theorem Wf(n:Nat):2^(16*n)=65536^n:=by rw[Nat.pow_mul]
structure Bgn (n m a b p q T:Nat) (s:Pu):Prop where
 ok:PuOk s
 r0:aR s 0=p
 r1:aR s 1=q
 r7:aR s 7=T
 pn:p+n≤65536
 qm:q+m≤65536
 t:63≤T∧T<65535
 d1:p+n≤q∨q+m≤p
 d2:p+n≤T-63∨T+1≤p
 d3:q+m≤T-63∨T+1≤q
 v1:val (gM s) p n=((a%65536^n:Nat):Int)
 v2:val (gM s) q m=((b%65536^m:Nat):Int)
def Zct(code:List Int)(n m a b want:Nat):Prop:=∀(s:Pu) (p q T:Nat),Bgn n m a b p q T s→
 ∃(k:Nat) (s':Pu) (d:Nat),Rout code s s' 3 0 k p n T d∧d≤63∧k≤19998∧val (gM s') p n=((want%65536^n:Nat):Int)
def Zcw(code:List Int)(n m a b:Nat):Prop:=∀(s:Pu) (p q T:Nat),Bgn n m a b p q T s→
 ∃(k:Nat) (s':Pu) (c:Int),U6 code k (mk s 3 0) (mk s' c 0)∧k≤19998∧PuOk s'∧atB code c [⟨32,0,0,1⟩]=true∧(0≤c∧c≤65000)∧gM s' T=gM s T
structure Pre (n m a b P Q S:Nat) (fill:Int) (mem:List Int):Prop where
 t:64≤S∧S≤65535
 w:∀k,wd (mem.getD k 0)
 l:mem.length=65536
 o:PuOk (s0 P Q S fill mem)
 g:∀k,gM (s1 P Q S fill mem) k=if k=S-1 then 2 else mem.getD k 0
 b:Bgn n m a b P Q (S-1) (s1 P Q S fill mem)
set_option maxHeartbeats 2000000 in
theorem Zdf(n m:Nat)(hn:1≤n∧n≤4)(hm:1≤m∧m≤4)(a b:Nat)(p q sp fill:Int)
 (hp64: -9223372036854775808≤p∧p≤9223372036854775807)(hq64: -9223372036854775808≤q∧q≤9223372036854775807)(hok:okD n m p q sp fill):
 ∃P Q S:Nat,p=P∧q=Q∧sp=S∧Pre n m a b P Q S fill (memB P Q fill (wsp (a%2^(16*n)) n) (wsp (b%2^(16*m)) m)):=by
 obtain⟨⟨f1,f2⟩,⟨t1,t2⟩,k5,k6,k7⟩:=hok
 have sw:IntKind.i64.wrap (sp-64)=sp-64:=Zm (by omega) (by omega)
 rw[sw]at k6 k7
 obtain⟨p0,q0,p1,q1,d1⟩:=(Mo hp64 hq64 ⟨by omega,by omega⟩ ⟨by omega,by omega⟩).1 k5
 obtain⟨-,-,-,-,d2⟩:=(Mo hp64 ⟨by omega,by omega⟩ ⟨by omega,by omega⟩ ⟨by omega,by omega⟩).1 k6
 obtain⟨-,-,-,-,d3⟩:=(Mo hq64 ⟨by omega,by omega⟩ ⟨by omega,by omega⟩ ⟨by omega,by omega⟩).1 k7
 obtain⟨P,rfl⟩:∃P:Nat,p=P:=⟨p.toNat,by omega⟩
 obtain⟨Q,rfl⟩:∃Q:Nat,q=Q:=⟨q.toNat,by omega⟩
 obtain⟨S,rfl⟩:∃S:Nat,sp=S:=⟨sp.toNat,by omega⟩
 refine⟨P,Q,S,rfl,rfl,rfl,?_⟩
 have va:=Ji (a%2^(16*n)) n n (Nat.le_refl _)
 have vb:=Ji (b%2^(16*m)) m m (Nat.le_refl _)
 rw[Wf,Nat.mod_mod]at va vb
 have la:=Sf (a%65536^n) n
 have lb:=Sf (b%65536^m) m
 have wa:=Zcq (a%65536^n) n
 have wb:=Zcq (b%65536^m) m
 rw[Wf,Wf]
 generalize wsp (a%65536^n) n=xs at*
 generalize wsp (b%65536^m) m=ys at*
 have hlr:(List.replicate 65536 fill).length=65536:=List.length_replicate ..
 have hgr:∀k,wd ((List.replicate 65536 fill).getD k 0):=fun k=>by
  rw[List.getD_eq_getElem?_getD,List.getElem?_replicate]
  split
  ·exact⟨f1,f2⟩
  ·exact⟨by decide,by decide⟩
 have hg0:∀k,(memB P Q fill xs ys).getD k 0=if Q≤k∧k<Q+ys.length then ys.getD (k-Q) 0 else if P≤k∧k<P+xs.length then xs.getD (k-P) 0 else(List.replicate 65536 fill).getD k 0:=fun k=>by
  unfold memB
  simp only[Int.toNat_natCast]
  rw[Lm _ _ _ _ _ (by omega) (by rw[Vs _ _ _ _ (by omega) (by omega)];omega),Lm _ _ _ _ _ (by omega) (by omega)]
 have hl0:(memB P Q fill xs ys).length=65536:=by
  unfold memB
  simp only[Int.toNat_natCast]
  rw[Vs _ _ _ _ (by omega) (by rw[Vs _ _ _ _ (by omega) (by omega)];omega),Vs _ _ _ _ (by omega) (by omega),hlr]
 generalize List.replicate 65536 fill=L at*
 have hw0:∀k,wd ((memB P Q fill xs ys).getD k 0):=fun k=>by
  rw[hg0]
  split
  ·exact wb _
  ·split
   ·exact wa _
   ·exact hgr k
 generalize memB P Q fill xs ys=mem at*
 have hs0:=s0_ok (p:=P) (q:=Q) (sp:=S) (fill:=fill) (mem:=mem) ⟨by omega,by omega⟩ ⟨by omega,by omega⟩ ⟨by omega,by omega⟩ ⟨f1,f2⟩ hl0 hw0
 have hs1:=s1_ok hs0 ⟨by omega,by omega⟩
 have hg1:∀k,gM (s1 P Q S fill mem) k=if k=S-1 then 2 else mem.getD k 0:=fun k=>by
  unfold s1
  rw[Wj (by rw[Rt,hs0.len];simp only[Int.toNat_natCast];omega)]
  rfl
 have v1:val (gM (s1 P Q S fill mem)) P n=((a%65536^n:Nat):Int):=by
  rw[←va,Kb]
  refine Zs n 0 fun i _ hi=> ?_
  show gM _ (P+i)=_
  rw[hg1,if_neg (by omega),hg0,if_neg (by omega),if_pos (by omega)]
  congr 1;omega
 have v2:val (gM (s1 P Q S fill mem)) Q m=((b%65536^m:Nat):Int):=by
  rw[←vb,Kb]
  refine Zs m 0 fun i _ hi=> ?_
  show gM _ (Q+i)=_
  rw[hg1,if_neg (by omega),hg0,if_pos (by omega)]
  congr 1;omega
 have e7:(s1 P Q S fill mem).f 7=((S:Nat):Int)-1:=rfl
 exact⟨by omega,hw0,hl0,hs0,hg1,hs1,rfl,rfl,by unfold aR;rw[e7];omega,by omega,by omega,by omega,by omega,by omega,by omega,v1,v2⟩
theorem Ra{code:List Int}(hcl:code.length≤65536)(a0:atB code 0 [⟨26,0,0,3⟩]=true)(a2:atB code 2 [⟨0,0,0,0⟩]=true)(n m:Nat)(hn:1≤n∧n≤4)(hm:1≤m∧m≤4)(a b want:Nat)(p q sp fill:Int)
 (hp64: -9223372036854775808≤p∧p≤9223372036854775807)(hq64: -9223372036854775808≤q∧q≤9223372036854775807)(hok:okD n m p q sp fill)(hr:Zct code n m a b want):
 ∃(M:Nat→Ma) (N:Nat),Trace code M N 1∧M 0=mk (s0 p q sp fill (memB p q fill (wsp (a%2^(16*n)) n) (wsp (b%2^(16*m)) m))) 0 0∧(∀j,j<65536→wd ((M 0).mem.getD j 0))∧N≤20000∧(M N).f 7=sp∧0<trimN (M N).mem 65536∧
  ∀k:Nat,k<65536→((k:Int)<sp-64∨sp≤k)→(M N).mem.getD k 0=(Tw (memB p q fill (wsp (a%2^(16*n)) n) (wsp (b%2^(16*m)) m)) p.toNat 65536 (wsp (want%2^(16*n)) n)).getD k 0:=by
 obtain⟨P,Q,S,rfl,rfl,rfl,ht,hw0,hl0,hs0,hg1,hB⟩:=Zdf n m hn hm a b p q sp fill hp64 hq64 hok
 have vw:=Ji (want%2^(16*n)) n n (Nat.le_refl _)
 rw[Wf,Nat.mod_mod]at vw
 have lw:=Sf (want%65536^n) n
 have ww:=Zcq (want%65536^n) n
 rw[show wsp (want%2^(16*n)) n=wsp (want%65536^n) n by rw[Wf]]
 generalize memB P Q fill (wsp (a%2^(16*n)) n) (wsp (b%2^(16*m)) m)=mem at*
 generalize wsp (want%65536^n) n=zs at*
 have hp:=hB.pn
 obtain⟨k,s',d,hR,hd,hk,hv⟩:=hr _ _ _ _ hB
 have hR':Rout code (s1 P Q S fill mem) s' 3 0 k P n ((S:Int).toNat-1) d:=hR
 obtain⟨M,hT,hM0,hMN⟩:=play_of hcl hs0 ⟨by omega,by omega⟩ a0 a2 hR'
 have hmem:∀j,(M (k+2)).mem.getD j 0=gM s' j:=fun j=>by rw[hMN];rfl
 have e7:(s1 P Q S fill mem).f 7=((S:Nat):Int)-1:=rfl
 refine⟨M,k+2,hT,hM0,fun j _=>by rw[hM0];exact hw0 j,by omega,?_,?_,fun j hj hsp=> ?_⟩
 ·rw[hMN]
  show s'.f 7=_
  rw[hR.sp,e7];omega
 ·have h2:gM s' (S-1)=2:=by rw[hR.m (S-1) (by have:=hB.d2;omega) (by omega),hg1,if_pos rfl]
  exact Nat.lt_of_le_of_lt (Nat.zero_le _) (L8 _ (S-1) (by rw[hmem,h2];decide) 65536 (by omega))
 ·rw[hmem,Int.toNat_natCast,Lm _ _ _ _ _ (by omega) (by omega)]
  split
  ·rename_i hin
   have hin2:=Zec (g:=gM s') (h:=fun i=>zs.getD i 0) n P 0 hR.ok.mem ww (by rw[hv,vw]) (j-P) (by omega)
   rw[show P+(j-P)=j by omega,Nat.zero_add]at hin2
   exact hin2
  ·rw[hR.m j (by omega) (by omega),hg1,if_neg (by omega)]
end Go.Proofs.YtbmecnjmbhokgaaGreatDoor
