/- A part of the proofs of this seat's laws: steps on the way, joined. It has no conditions of its own. -/
import Derived.Test.YtbmecnjmbhokgaaGreatDoorQy
import Derived.Test.YtbmecnjmbhokgaaGreatDoorQx
import Derived.Test.YtbmecnjmbhokgaaGreatDoorQh
import Derived.Test.YtbmecnjmbhokgaaGreatDoorChecked
import Derived.KernelRfl
import Derived.Test.YtbmecnjmbhokgaaGreatDoorQn
namespace Go.Proofs.YtbmecnjmbhokgaaGreatDoor
open Go Vc
set_option linter.unusedVariables false
set_option linter.unusedSimpArgs false
theorem xor_nat(a b:Nat)(ha:a<65536)(hb:b<65536):Ms .i64 (a:Int) (b:Int)=((a^^^b:Nat):Int)∧a^^^b<65536:=by
 have hl:a^^^b<65536:=Nat.xor_lt_two_pow (n:=16) ha hb
 refine⟨?_,hl⟩
 show IntKind.i64.wrap ((BitVec.ofInt 64 (a:Int)^^^BitVec.ofInt 64 (b:Int)).toNat:Nat)=_
 rw[Xb,Xb (b:Int)]
 have e1:((a:Int)%18446744073709551616).toNat=a:=by omega
 have e2:((b:Int)%18446744073709551616).toNat=b:=by omega
 rw[e1,e2,BitVec.toNat_xor,BitVec.toNat_ofNat,BitVec.toNat_ofNat,Nat.mod_eq_of_lt (by omega),Nat.mod_eq_of_lt (by omega)]
 exact Zk (by omega) (by omega)
theorem Ew(a:Nat)(ha:a<65536):32767<a↔a.testBit 15=true:=by
 rw[Nat.testBit_eq_decide_div_mod_eq,decide_eq_true_eq];omega
theorem xor_top(a b:Int)(ha:wd a)(hb:wd b):32767<Ms .i64 a b%65536↔(32767<a)≠(32767<b):=by
 unfold wd at ha hb
 obtain⟨x,rfl⟩:=Int.eq_ofNat_of_zero_le ha.1
 obtain⟨y,rfl⟩:=Int.eq_ofNat_of_zero_le hb.1
 obtain⟨e,hl⟩:=xor_nat x y (by omega) (by omega)
 rw[e,show((x^^^y:Nat):Int)%65536=((x^^^y:Nat):Int) by omega]
 have h1:=Ew x (by omega)
 have h2:=Ew y (by omega)
 have h3:=Ew (x^^^y) hl
 rw[Nat.testBit_xor]at h3
 have q1:((32767:Int)<(x:Int))=(x.testBit 15=true):=propext ⟨fun h=>h1.1 (by omega),fun h=>by have:=h1.2 h;omega⟩
 have q2:((32767:Int)<(y:Int))=(y.testBit 15=true):=propext ⟨fun h=>h2.1 (by omega),fun h=>by have:=h2.2 h;omega⟩
 have q3:((32767:Int)<((x^^^y:Nat):Int))=((x.testBit 15^^y.testBit 15)=true):=propext ⟨fun h=>h3.1 (by omega),fun h=>by have:=h3.2 h;omega⟩
 rw[q1,q2,q3]
 cases x.testBit 15<;>cases y.testBit 15<;>simp
def ngI(reg w:Nat):List Ins:=[iLd 2 reg w,Zh1 14 2]
theorem ngI_run{s:Pu}(h:PuOk s){reg w:Nat}(hr:reg<8)(hb:aR s reg+w<65536):Chg s (exL (ngI reg w) s) 0 0∧(exL (ngI reg w) s).x.c=decide (32767<gM s (aR s reg+w)):=by
 have hf:=h.reg reg hr
 unfold wd at hf
 have hA:((aR s reg:Nat):Int)=s.f reg:=by unfold aR;omega
 have hw:wd (gM s (aR s reg+w)):=h.mem _
 simp only[ngI,Yx,Yl]
 rw[Rf (by omega),Zbh (.inl rfl)]
 have e2:(stR s 2 (gM s (aR s reg+w))).f 2=gM s (aR s reg+w):=rfl
 rw[e2]
 exact⟨⟨T6 (Yj (Yj h hw) (Ql _ _ _ hw)),fun i i2 _=>by simp only[Va,Yi,if_neg i2],fun b _=>rfl⟩,rfl⟩
def ngW(k:Int)(reg i:Nat):List Ins:=[K9 4 0,iLd 2 reg i,Mg k 4 2,iSt reg 4 i]
theorem Zek(k:Int)(hk:k=7∨k=8){s:Pu}(h:PuOk s){reg i:Nat}(hr:reg<8∧reg≠2∧reg≠4)(hb:aR s reg+i<65536):
 Chg s (exL (ngW k reg i) s) (aR s reg+i) 1∧gM (exL (ngW k reg i) s) (aR s reg+i)-65536*cI (exL (ngW k reg i) s).x.c=0-gM s (aR s reg+i)-cI (twC k s.x.c):=by
 have hf:=h.reg reg hr.1
 unfold wd at hf
 have hA:((aR s reg:Nat):Int)=s.f reg:=by unfold aR;omega
 have hw:wd (gM s (aR s reg+i)):=h.mem _
 have key:exL (ngW k reg i) s=stM (stF (stR (stR (stR s 4 0) 2 (gM s (aR s reg+i))) 4 (twoR k 0 (gM s (aR s reg+i)) s.x)) (twoF k 0 (gM s (aR s reg+i)) s.x)) (aR s reg+i) (twoR k 0 (gM s (aR s reg+i)) s.x):=by
  simp only[ngW,Yx,Yl]
  rw[Me]
  have e0:aR (stR s 4 ((0:Nat):Int)) reg=aR s reg:=by simp only[aR,Yi,if_neg hr.2.2]
  rw[Rf (s:=stR s 4 ((0:Nat):Int)) (d:=2) (r:=reg) (o:=i) (by simp only[Yi,if_neg hr.2.2];omega),e0,Mf (by omega)]
  have e2:(stR (stR s 4 ((0:Nat):Int)) 2 (gM (stR s 4 ((0:Nat):Int)) (aR s reg+i))).f 4=0:=rfl
  have e3:(stR (stR s 4 ((0:Nat):Int)) 2 (gM (stR s 4 ((0:Nat):Int)) (aR s reg+i))).f 2=gM s (aR s reg+i):=rfl
  rw[e2,e3]
  rw[I2 (by simp only[Yi,Va,if_neg hr.2.1,if_neg hr.2.2];omega) (P5 _ _ _ _)]
  have e4:aR (stF (stR (stR (stR s 4 ((0:Nat):Int)) 2 (gM (stR s 4 ((0:Nat):Int)) (aR s reg+i))) 4 (twoR k 0 (gM s (aR s reg+i)) (stR (stR s 4 ((0:Nat):Int)) 2 (gM (stR s 4 ((0:Nat):Int)) (aR s reg+i))).x)) (twoF k 0 (gM s (aR s reg+i)) (stR (stR s 4 ((0:Nat):Int)) 2 (gM (stR s 4 ((0:Nat):Int)) (aR s reg+i))).x)) reg=aR s reg:=by
   simp only[aR,Yi,Va,if_neg hr.2.1,if_neg hr.2.2]
  rw[e4]
  rfl
 rw[key]
 have hl:aR s reg+i<s.mem.length:=by rw[h.len];exact hb
 refine⟨⟨Qj (T6 (Yj (Yj (Yj h ⟨by decide,by decide⟩) hw) (P5 _ _ _ _))) (P5 _ _ _ _),fun i h2 h4=>by simp only[M8,Va,Yi,if_neg h2,if_neg h4],fun b hb=> ?_⟩,?_⟩
 ·rw[Wm (by exact hl),if_neg (by omega)];rfl
 ·rw[Wm (by exact hl),if_pos rfl]
  simp only[Ze6,K5]
  generalize gM s (aR s reg+i)=a at*
  have hd:=fun c=>Zhp 0 a c ⟨by decide,by decide⟩ hw
  rcases hk with rfl|rfl
  ·exact hd false
  ·exact hd s.x.c
def ngL(reg:Nat):Nat→Nat→List Ins
 |_,0=>[]
 |i,n+1=>ngW 8 reg i++ngL reg (i+1) n
theorem Zel{s s1 s2:Pu}{A n:Nat}{c:Bool}(c1:Chg s s1 A 1)(c2:Chg s1 s2 (A+1) n)(e1:gM s1 A-65536*cI s1.x.c=0-gM s A-cI c)
 (e2:val (gM s2) (A+1) n-pw n*cI s2.x.c=0-val (gM s1) (A+1) n-cI s1.x.c):val (gM s2) A (n+1)-pw (n+1)*cI s2.x.c=0-val (gM s) A (n+1)-cI c:=by
 have g1:gM s2 A=gM s1 A:=c2.m _ (by omega)
 have g2:val (gM s1) (A+1) n=val (gM s) (A+1) n:=Zt _ _ fun b h1 h2=>c1.m b (by omega)
 simp only[val,pw,Lw]
 rw[g2]at e2
 rw[g1]
 generalize pw n*cI s2.x.c=q at*
 omega
theorem Zej(reg:Nat)(hr:reg<8∧reg≠2∧reg≠4):∀(n i:Nat) (s:Pu),PuOk s→aR s reg+i+n≤65536→
 Chg s (exL (ngL reg i n) s) (aR s reg+i) n∧val (gM (exL (ngL reg i n) s)) (aR s reg+i) n-pw n*cI (exL (ngL reg i n) s).x.c=0-val (gM s) (aR s reg+i) n-cI s.x.c
 |0,i,s,h,_=>⟨Chg.rfl' h _ _,by simp[ngL,Yl,val,pw]⟩
 |n+1,i,s,h,hb=>by
  obtain⟨c1,e1⟩:=Zek 8 (.inr rfl) h hr (i:=i) (by omega)
  have htc:twC 8 s.x.c=s.x.c:=rfl
  rw[htc]at e1
  simp only[ngL,Y0]
  generalize exL (ngW 8 reg i) s=s1 at*
  have ha:=c1.aR hr.2.1 hr.2.2
  obtain⟨c2,e2⟩:=Zej reg hr n (i+1) s1 c1.ok (by omega)
  rw[ha]at c2 e2
  generalize exL (ngL reg (i+1) n) s1=s2 at*
  exact⟨(c1.wider (by omega) (by omega)).trans (c2.wider (by omega) (by omega)),Zel c1 c2 e1 e2⟩
def ngN(reg n:Nat):List Ins:=match n with
 |0=>[]
 |n+1=>ngW 7 reg 0++ngL reg 1 n
theorem ngN_run(reg:Nat)(hr:reg<8∧reg≠2∧reg≠4)(n:Nat)(hn:0<n)(s:Pu)(h:PuOk s)(hb:aR s reg+n≤65536):
 Chg s (exL (ngN reg n) s) (aR s reg) n∧val (gM (exL (ngN reg n) s)) (aR s reg) n=(-val (gM s) (aR s reg) n)%pw n:=by
 obtain⟨n,rfl⟩:∃m,n=m+1:=⟨n-1,by omega⟩
 obtain⟨c1,e1⟩:=Zek 7 (.inl rfl) h hr (i:=0) (by omega)
 have htc:twC 7 s.x.c=false:=rfl
 rw[htc]at e1
 simp only[ngN,Y0,Nat.add_zero]at*
 generalize exL (ngW 7 reg 0) s=s1 at*
 have ha:=c1.aR hr.2.1 hr.2.2
 obtain⟨c2,e2⟩:=Zej reg hr n 1 s1 c1.ok (by omega)
 rw[ha]at c2 e2
 generalize exL (ngL reg 1 n) s1=s2 at*
 refine⟨(c1.wider (by omega) (by omega)).trans (c2.wider (by omega) (by omega)),?_⟩
 have e3:=Zel c1 c2 e1 e2
 have hr:=Xe (g:=gM s2) (n+1) (aR s reg) (fun b=>c2.ok.mem b)
 rw[W9]at e3
 rw[show-val (gM s) (aR s reg) (n+1)=val (gM s2) (aR s reg) (n+1)+pw (n+1)*(-cI s2.x.c) by rw[Int.mul_neg];omega,Int.add_mul_emod_self_left,Int.emod_eq_of_lt hr.1 hr.2]
theorem Zb6(code:List Int)(n:Nat)(hn:n=1∨n=2∨n=4)(a over tr:Int)(rs w reg:Nat)(hrs:rs<8)(hr:reg<8∧reg≠2∧reg≠4)(h1:atB code a (ngI rs w)=true)(h2:atB code (a+3) [⟨23,0,0,over⟩]=true)(h3:atB code (a+3+2) (ngN reg n)=true)
 (hov:over=a+3+2+Z1 (ngN reg n))(hst:(ngN reg n).all P1=true)(hl:(ngN reg n).length≤16)(ha:0≤a∧over≤65535)(s:Pu)(h:PuOk s)(hb:aR s rs+w<65536)(hb2:aR s reg+n≤65536):
 ∃(k:Nat) (s':Pu),Td code k (mk s a tr) (mk s' over tr)∧k≤19∧Chg s s' (aR s reg) n∧val (gM s') (aR s reg) n=if 32767<gM s (aR s rs+w)then(-val (gM s) (aR s reg) n)%pw n else val (gM s) (aR s reg) n:=by
 have y:=Z9 (ngN reg n)
 have z:Z1 (ngI rs w)=3:=rfl
 have l:(ngI rs w).length=2:=rfl
 obtain⟨r1,_⟩:=Xu (tr:=tr) _ _ s h1 rfl h (by omega) (by omega)
 obtain⟨c1,e1⟩:=ngI_run h hrs hb
 rw[z,l]at r1
 generalize exL (ngI rs w) s=s1 at*
 have r2:=Tt (tr:=tr) (.inr (.inr (.inr (.inr rfl)))) h2 c1.ok (by omega)
 have v1:val (gM s1) (aR s reg) n=val (gM s) (aR s reg) n:=Zt _ _ fun b x y=>c1.m b (by omega)
 have a1:aR s1 reg=aR s reg:=c1.aR hr.2.1 hr.2.2
 by_cases hc:32767<gM s (aR s rs+w)
 ·have hg:¬Vb 23 s1.x=true:=by simp[Vb,e1,hc]
  rw[if_neg hg]at r2
  obtain⟨r3,_⟩:=Xu (tr:=tr) _ _ s1 h3 hst c1.ok (by omega) (by omega)
  rw[←hov]at r3
  obtain⟨c2,e2⟩:=ngN_run reg hr n (by omega) s1 c1.ok (by omega)
  rw[a1,v1]at e2
  rw[a1]at c2
  exact⟨_,_,(r1.trans r2).trans r3,by omega,c1.any.trans c2,by rw[if_pos hc];exact e2⟩
 ·have hg:Vb 23 s1.x=true:=by simp[Vb,e1,hc]
  rw[if_pos hg]at r2
  exact⟨_,s1,r1.trans r2,by omega,c1.any,by rw[if_neg hc];exact v1⟩
def gS1(r:Bool)(n:Nat):List Ins:=[iLd 5 0 (n-1)]++((if r=true then[]else[iLd 2 1 (n-1),Mg 11 5 2])++([P9 5]++(cpL 1 n++[Zfw 1 7])))
def gA(r:Bool)(n:Nat)(base:Int):Int:=base+Z1 (gS1 r n)
def gB(r:Bool)(n:Nat)(base:Int):Int:=gA r n base+3+2+Z1 (ngN 1 n)
def gC(r:Bool)(n:Nat)(base:Int):Int:=gB r n base+3+2+Z1 (ngN 0 n)
def gE(r:Bool)(n:Nat)(base:Int):Int:=gC r n base+2+3+2+Z1 (ngN 0 n)
def Zc0(r:Bool)(n:Nat)(base tgt:Int):List Ins:=
 gS1 r n++(ngI 1 (n-1)++([⟨23,0,0,gB r n base⟩]++(ngN 1 n++(ngI 0 (n-1)++([⟨23,0,0,gC r n base⟩]++(ngN 0 n++([⟨26,0,0,tgt⟩]++(ngI 7 n++([⟨23,0,0,gE r n base⟩]++(ngN 0 n++(drI (n+1)++[⟨27,0,0,0⟩])))))))))))
structure SgnAt (code:List Int) (r:Bool) (n:Nat) (base tgt:Int):Prop where
 s1:atB code base (gS1 r n)=true
 s2:atB code (gA r n base) (ngI 1 (n-1))=true
 j2:atB code (gA r n base+3) [⟨23,0,0,gB r n base⟩]=true
 s3:atB code (gA r n base+3+2) (ngN 1 n)=true
 s4:atB code (gB r n base) (ngI 0 (n-1))=true
 j4:atB code (gB r n base+3) [⟨23,0,0,gC r n base⟩]=true
 s5:atB code (gB r n base+3+2) (ngN 0 n)=true
 cl:atB code (gC r n base) [⟨26,0,0,tgt⟩]=true
 s6:atB code (gC r n base+2) (ngI 7 n)=true
 j6:atB code (gC r n base+2+3) [⟨23,0,0,gE r n base⟩]=true
 s7:atB code (gC r n base+2+3+2) (ngN 0 n)=true
 s8:atB code (gE r n base) (drI (n+1))=true
 rt:atB code (gE r n base+3) [⟨27,0,0,0⟩]=true
theorem SgnAt.of{code:List Int}{r:Bool}{n:Nat}{base tgt:Int}(h:atB code base (Zc0 r n base tgt)=true):SgnAt code r n base tgt:=by
 unfold Zc0 at h
 obtain⟨h1,h⟩:=Z6 _ _ _ _ h
 obtain⟨h2,h⟩:=Z6 _ _ _ _ h
 obtain⟨h3,h⟩:=Z6 _ _ _ _ h
 obtain⟨h4,h⟩:=Z6 _ _ _ _ h
 obtain⟨h5,h⟩:=Z6 _ _ _ _ h
 obtain⟨h6,h⟩:=Z6 _ _ _ _ h
 obtain⟨h7,h⟩:=Z6 _ _ _ _ h
 obtain⟨h8,h⟩:=Z6 _ _ _ _ h
 obtain⟨h9,h⟩:=Z6 _ _ _ _ h
 obtain⟨h10,h⟩:=Z6 _ _ _ _ h
 obtain⟨h11,h⟩:=Z6 _ _ _ _ h
 obtain⟨h12,h13⟩:=Z6 _ _ _ _ h
 exact⟨h1,h2,h3,h4,h5,h6,h7,h8,h9,h10,h11,h12,h13⟩
theorem Zeu(r:Bool)(n:Nat)(hn:n=1∨n=2∨n=4):((gS1 r n).all P1=true∧(ngN 1 n).all P1=true∧(ngN 0 n).all P1=true)∧((gS1 r n).length≤16∧(ngN 1 n).length≤16∧(ngN 0 n).length≤16)∧Z1 (gS1 r n)≤100∧Z1 (ngN 1 n)≤100∧Z1 (ngN 0 n)≤100:=by
 rcases hn with rfl|rfl|rfl<;>cases r<;>exact⟨⟨by decide,by decide,by decide⟩,⟨by decide,by decide,by decide⟩,by decide,by decide,by decide⟩
def abP(P v:Int):Int:=if P≤2*v then P-v else v
set_option maxHeartbeats 2000000 in
theorem sg_pre(code:List Int)(r:Bool)(n:Nat)(hn:n=1∨n=2∨n=4)(base tgt tr:Int)(hb:0≤base∧base≤60000)(hat:SgnAt code r n base tgt)(s:Pu)(h:PuOk s)(p q T:Nat)(h0:aR s 0=p)(h1:aR s 1=q)(h7:aR s 7=T)
 (hp:p+n≤65536)(hq:q+n≤65536)(hT:n+1≤T∧T<65535)(hdp:p+n≤T-(n+1)∨T+1≤p)(hdq:q+n≤T-(n+1)∨T+1≤q):
 ∃(k:Nat) (s':Pu),Td code k (mk s base tr) (mk s' (gC r n base) tr)∧k≤60∧PuOk s'∧aR s' 0=p∧aR s' 1=T-(n+1)∧s'.f 7=s.f 7-(n+1:Nat)∧(∀b,(b<p∨p+n≤b)→(b<T-(n+1)∨T≤b)→gM s' b=gM s b)∧
  val (gM s') p n=abP (pw n) (val (gM s) p n)∧val (gM s') (T-(n+1)) n=abP (pw n) (val (gM s) q n)∧(32767<gM s' (T-1)↔(if r=true then pw n≤2*val (gM s) p n else(pw n≤2*val (gM s) p n)≠(pw n≤2*val (gM s) q n))):=by
 obtain⟨⟨m1,m2,m3⟩,⟨l1,l2,l3⟩,z1,z2,z3⟩:=Zeu r n hn
 have y1:=Z9 (gS1 r n)
 have y2:=Z9 (ngN 1 n)
 have y3:=Z9 (ngN 0 n)
 have eA:gA r n base=base+Z1 (gS1 r n):=rfl
 have eB:gB r n base=gA r n base+3+2+Z1 (ngN 1 n):=rfl
 have eC:gC r n base=gB r n base+3+2+Z1 (ngN 0 n):=rfl
 obtain⟨n',hn'⟩:∃m,n=m+1:=⟨n-1,by omega⟩
 have hf0:=h.reg 0 (by decide)
 have hf1:=h.reg 1 (by decide)
 have hf7:=h.reg 7 (by decide)
 unfold wd at hf0 hf1 hf7
 have hA0:((aR s 0:Nat):Int)=s.f 0:=by unfold aR;omega
 have hA1:((aR s 1:Nat):Int)=s.f 1:=by unfold aR;omega
 have hA7:((aR s 7:Nat):Int)=s.f 7:=by unfold aR;omega
 have hwp:wd (gM s (p+(n-1))):=h.mem _
 have hwq:wd (gM s (q+(n-1))):=h.mem _
 have tp:=Dk h n' p
 have tq:=Dk h n' q
 rw[←hn',show n'=n-1 by omega]at tp tq
 obtain⟨r1,_⟩:=Xu (tr:=tr) _ _ s hat.s1 m1 h (by omega) (by omega)
 have sg:∃(s1:Pu) (W:Int),exL (gS1 r n) s=exL ([P9 5]++(cpL 1 n++[Zfw 1 7])) s1∧PuOk s1∧(∀i,i≠2→i≠5→s1.f i=s.f i)∧s1.f 5=W∧(∀b,gM s1 b=gM s b)∧(32767<W↔(if r=true then pw n≤2*val (gM s) p n else(pw n≤2*val (gM s) p n)≠(pw n≤2*val (gM s) q n))):=by
  have x0:exP (iLd 5 0 (n-1)) s=stR s 5 (gM s (p+(n-1))):=by rw[Rf (by omega),h0]
  cases r
  ·refine⟨exL [iLd 2 1 (n-1),Mg 11 5 2] (stR s 5 (gM s (p+(n-1)))),Ms .i64 (gM s (p+(n-1))) (gM s (q+(n-1)))%65536,?_,?_⟩
   ·simp only[gS1,Bool.false_eq_true,if_false,Y0,Yx,Yl,x0]
   ·simp only[Yx,Yl]
    have e0:aR (stR s 5 (gM s (p+(n-1)))) 1=q:=h1
    rw[Rf (s:=stR s 5 (gM s (p+(n-1)))) (d:=2) (r:=1) (o:=n-1) (by have:(stR s 5 (gM s (p+(n-1)))).f 1=s.f 1:=rfl;omega),e0,Zbj,Mf (by omega)]
    have e1:(stR (stR s 5 (gM s (p+(n-1)))) 2 (gM s (q+(n-1)))).f 5=gM s (p+(n-1)):=rfl
    have e2:(stR (stR s 5 (gM s (p+(n-1)))) 2 (gM s (q+(n-1)))).f 2=gM s (q+(n-1)):=rfl
    rw[e1,e2]
    have e3:twoR 11 (gM s (p+(n-1))) (gM s (q+(n-1))) (stR (stR s 5 (gM s (p+(n-1)))) 2 (gM s (q+(n-1)))).x=Ms .i64 (gM s (p+(n-1))) (gM s (q+(n-1)))%65536:=by simp only[twoR,Int.reduceEq,↓reduceIte,or_self]
    rw[e3]
    generalize twoF 11 (gM s (p+(n-1))) (gM s (q+(n-1))) (stR (stR s 5 (gM s (p+(n-1)))) 2 (gM s (q+(n-1)))).x=F at*
    refine⟨T6 (Yj (Yj (Yj h hwp) hwq) (P4 _)),fun i i2 i5=>by simp only[Va,Yi,if_neg i2,if_neg i5],rfl,fun b=>rfl,?_⟩
    rw[xor_top _ _ hwp hwq,if_neg (by decide),propext tp,propext tq]
  ·refine⟨stR s 5 (gM s (p+(n-1))),gM s (p+(n-1)),?_,Yj h hwp,fun i _ i5=>by rw[Yi,if_neg i5],rfl,fun b=>rfl,by rw[if_pos rfl];exact tp⟩
   simp only[gS1,if_true,List.nil_append,Y0,Yx,Yl,x0]
 obtain⟨s1,W,x1,o1,f1,f15,g1,hW⟩:=sg
 rw[x1]at r1
 have b7:aR s1 7=T:=by rw[←h7];unfold aR;rw[f1 7 (by decide) (by decide)]
 have b1:aR s1 1=q:=by rw[←h1];unfold aR;rw[f1 1 (by decide) (by decide)]
 simp only[Y0,Yx,Yl]at r1
 obtain⟨k1,k2,k3⟩:=Ez o1 (r:=5) (by decide) (by omega)
 rw[b7]at k1 k2
 have a7:=k1.ar7 o1 (by omega)
 rw[b7]at a7
 generalize exP (P9 5) s1=s2 at*
 have d1:aR s2 1=q:=by rw[←b1];unfold aR;rw[k3 1 (by decide)]
 obtain⟨c2,v2⟩:=Jo 1 (by decide) n s2 k1.ok (by omega) (by omega) (by omega)
 have a72:=c2.ar7 k1.ok (by omega)
 rw[d1]at v2
 rw[a7,show T-1-n=T-(n+1) by omega]at c2 v2 a72
 generalize exL (cpL 1 n) s2=s3 at*
 rw[ex_mov]at r1
 have o3:=Yj c2.ok (r:=1) (c2.ok.reg 7 (by decide))
 have f37:s3.f 7=s.f 7-(n+1:Nat):=by rw[c2.sp,k1.sp,f1 7 (by decide) (by decide)];omega
 have w1:aR (stR s3 1 (s3.f 7)) 1=T-(n+1):=by rw[←a72];rfl
 have w7:(stR s3 1 (s3.f 7)).f 7=s.f 7-(n+1:Nat):=f37
 have w0:aR (stR s3 1 (s3.f 7)) 0=p:=by
  rw[←h0];unfold aR;rw[Yi,if_neg (by decide),c2.f 0 (by decide) (by decide) (by decide),k3 0 (by decide),f1 0 (by decide) (by decide)]
 have keep:∀b,(b<T-(n+1)∨T≤b)→gM (stR s3 1 (s3.f 7)) b=gM s b:=fun b hb=>by
  show gM s3 b=_
  rw[c2.m b (by omega),k1.m b (by omega),g1 b]
 have gW:gM (stR s3 1 (s3.f 7)) (T-1)=W:=by
  show gM s3 (T-1)=_
  rw[c2.m (T-1) (by omega),k2,f15]
 have gq:val (gM (stR s3 1 (s3.f 7))) (T-(n+1)) n=val (gM s) q n:=by
  have e1:val (gM s2) q n=val (gM s) q n:=Zt _ _ fun b x y=>(k1.m b (by omega)).trans (g1 b)
  rw[←e1,←v2];rfl
 have gp:val (gM (stR s3 1 (s3.f 7))) p n=val (gM s) p n:=Zt _ _ fun b x y=>keep b (by omega)
 generalize stR s3 1 (s3.f 7)=s4 at*
 have top4:∀a,32767<gM s4 (a+(n-1))↔pw n≤2*val (gM s4) a n:=fun a=>by
  have:=Dk o3 n' a
  rw[←hn',show n'=n-1 by omega]at this;exact this
 obtain⟨kk2,s5,r2,hk2,c5,v5⟩:=Zb6 code n hn (gA r n base) (gB r n base) tr 1 (n-1) 1 (by decide) (by decide) hat.s2 hat.j2 hat.s3 eB m2 l2 (by omega) s4 o3 (by omega) (by omega)
 rw[w1]at c5 v5
 simp only[top4,gq]at v5
 have w05:aR s5 0=p:=by rw[c5.aR (by decide) (by decide)];exact w0
 have gp5:val (gM s5) p n=val (gM s) p n:=by rw[←gp];exact Zt _ _ fun b x y=>c5.m b (by omega)
 have top5:32767<gM s5 (p+(n-1))↔pw n≤2*val (gM s5) p n:=by
  have:=Dk c5.ok n' p
  rw[←hn',show n'=n-1 by omega]at this;exact this
 obtain⟨kk3,s6,r3,hk3,c6,v6⟩:=Zb6 code n hn (gB r n base) (gC r n base) tr 0 (n-1) 0 (by decide) (by decide) hat.s4 hat.j4 hat.s5 eC m3 l3 (by omega) s5 c5.ok (by omega) (by omega)
 rw[w05]at c6 v6
 simp only[top5,gp5]at v6
 have hpw:=O3 n
 have ab:∀v,0≤v→v<pw n→(if pw n≤2*v then(-v)%pw n else v)=abP (pw n) v:=fun v v0 v1=>by
  unfold abP
  by_cases hc:pw n≤2*v
  ·rw[if_pos hc,if_pos hc,show-v=(pw n-v)+pw n*(-1) by omega,Int.add_mul_emod_self_left,Int.emod_eq_of_lt (by omega) (by omega)]
  ·rw[if_neg hc,if_neg hc]
 have rgp:=Xe (g:=gM s) n p (fun b=>h.mem b)
 have rgq:=Xe (g:=gM s) n q (fun b=>h.mem b)
 rw[ab _ rgq.1 rgq.2]at v5
 rw[ab _ rgp.1 rgp.2]at v6
 refine⟨_,s6,(r1.trans r2).trans r3,by omega,c6.ok,by rw[c6.aR (by decide) (by decide)];exact w05,?_,?_,fun b x y=> ?_,v6,?_,?_⟩
 ·rw[c6.aR (by decide) (by decide),c5.aR (by decide) (by decide)];exact w1
 ·rw[c6.f 7 (by decide) (by decide),c5.f 7 (by decide) (by decide)];exact w7
 ·rw[c6.m b x,c5.m b (by omega),keep b y]
 ·rw[←v5];exact Zt _ _ fun b x y=>c6.m b (by omega)
 ·rw[c6.m (T-1) (by omega),c5.m (T-1) (by omega),gW];exact hW
theorem Ziq(P A B:Int)(hA:0≤A∧A<P)(hB:0<B∧B<P)(hP:2≤P):
 (if(P≤2*A)≠(P≤2*B)then(-(abP P A/abP P B))%P else abP P A/abP P B)=(sgP P A).tdiv (sgP P B)%P:=by
 have key:∀x y:Int,0≤x→0<y→2*x≤P→0≤x/y∧x/y<P:=fun x y hx hy hx2=>⟨Int.ediv_nonneg hx (Int.le_of_lt hy),by have:=Int.ediv_le_self y hx;omega⟩
 unfold abP sgP
 by_cases ha:P≤2*A<;>by_cases hb:P≤2*B
 ·obtain⟨k1,k2⟩:=key (P-A) (P-B) (by omega) (by omega) (by omega)
  rw[if_neg (by simp[ha,hb]),if_pos ha,if_pos hb,if_pos ha,if_pos hb,show A-P= -(P-A) by omega,show B-P= -(P-B) by omega,Int.neg_tdiv,Int.tdiv_neg,Int.neg_neg,Int.tdiv_eq_ediv_of_nonneg (by omega),Int.emod_eq_of_lt k1 k2]
 ·rw[if_pos (by simp[ha,hb]),if_pos ha,if_neg hb,if_pos ha,if_neg hb,show A-P= -(P-A) by omega,Int.neg_tdiv,Int.tdiv_eq_ediv_of_nonneg (by omega)]
 ·rw[if_pos (by simp[ha,hb]),if_neg ha,if_pos hb,if_neg ha,if_pos hb,show B-P= -(P-B) by omega,Int.tdiv_neg,Int.tdiv_eq_ediv_of_nonneg (by omega)]
 ·obtain⟨k1,k2⟩:=key A B (by omega) (by omega) (by omega)
  rw[if_neg (by simp[ha,hb]),if_neg ha,if_neg hb,if_neg ha,if_neg hb,Int.tdiv_eq_ediv_of_nonneg (by omega),Int.emod_eq_of_lt k1 k2]
theorem Zis(P A B:Int)(hA:0≤A∧A<P)(hB:0<B∧B<P)(hP:2≤P):
 (if P≤2*A then(-(abP P A%abP P B))%P else abP P A%abP P B)=(sgP P A).tmod (sgP P B)%P:=by
 have key:∀x y:Int,0≤x→0<y→2*y≤P→0≤x%y∧x%y<P:=fun x y hx hy hx2=>⟨Int.emod_nonneg _ (by omega),by have:=Int.emod_lt_of_pos x hy;omega⟩
 have hy:∃y,abP P B=y∧0<y∧2*y≤P∧(sgP P B=y∨sgP P B= -y):=by
  unfold abP sgP
  by_cases hb:P≤2*B
  ·exact⟨P-B,if_pos hb,by omega,by omega,.inr (by rw[if_pos hb];omega)⟩
  ·exact⟨B,if_neg hb,by omega,by omega,.inl (if_neg hb)⟩
 obtain⟨y,e1,y0,y1,e2⟩:=hy
 have e3:∀x:Int,x.tmod (sgP P B)=x.tmod y:=fun x=>by rcases e2 with e|e<;>rw[e];exact Int.tmod_neg _ _
 rw[e1,e3]
 unfold abP sgP
 by_cases ha:P≤2*A
 ·rw[if_pos ha,if_pos ha,if_pos ha,show A-P= -(P-A) by omega,Int.neg_tmod,Int.tmod_eq_emod_of_nonneg (by omega)]
 ·obtain⟨k1,k2⟩:=key A y (by omega) y0 y1
  rw[if_neg ha,if_neg ha,if_neg ha,Int.tmod_eq_emod_of_nonneg (by omega),Int.emod_eq_of_lt k1 k2]
set_option maxHeartbeats 2000000 in
theorem Zet(code:List Int)(r:Bool)(n:Nat)(hn:n=1∨n=2∨n=4)(base tgt tr:Int)(hb:0≤base∧base≤60000)(htg:0≤tgt∧tgt≤60000)(hat:SgnAt code r n base tgt)(hdv:DivAt code r n tgt)(s:Pu)(h:PuOk s)(p q T:Nat)(h0:aR s 0=p)(h1:aR s 1=q)(h7:aR s 7=T)
 (hp:p+n≤65536)(hq:q+n≤65536)(hT:2*n+2≤T∧T<65535)(hdp:p+n≤T-(2*n+2)∨T+1≤p)(hdq:q+n≤T-(2*n+2)∨T+1≤q):
 (val (gM s) q n=0→∃(k:Nat) (s':Pu),Td code k (mk s base tr) (mk s' (dA n tgt+2) tr)∧k≤100∧PuOk s'∧gM s' T=gM s T)∧
 (val (gM s) q n≠0→∃(k:Nat) (s':Pu),Rout code s s' base tr k p n T (2*n+2)∧k≤6000∧
   val (gM s') p n=(if r=true then(sgP (pw n) (val (gM s) p n)).tmod (sgP (pw n) (val (gM s) q n))else(sgP (pw n) (val (gM s) p n)).tdiv (sgP (pw n) (val (gM s) q n)))%pw n):=by
 obtain⟨⟨m1,m2,m3⟩,⟨l1,l2,l3⟩,z1,z2,z3⟩:=Zeu r n hn
 have y1:=Z9 (gS1 r n)
 have y2:=Z9 (ngN 1 n)
 have y3:=Z9 (ngN 0 n)
 have eA:gA r n base=base+Z1 (gS1 r n):=rfl
 have eB:gB r n base=gA r n base+3+2+Z1 (ngN 1 n):=rfl
 have eC:gC r n base=gB r n base+3+2+Z1 (ngN 0 n):=rfl
 have eE:gE r n base=gC r n base+2+3+2+Z1 (ngN 0 n):=rfl
 obtain⟨k1,s1,r1,hk1,o1,a0,a1,f7,keep,vp,vq,hW⟩:=sg_pre code r n hn base tgt tr hb hat s h p q T h0 h1 h7 hp hq (by omega) (by omega) (by omega)
 have hf7:=h.reg 7 (by decide)
 unfold wd at hf7
 have hA7:((aR s 7:Nat):Int)=s.f 7:=by unfold aR;omega
 have a7:aR s1 7=T-(n+1):=by rw[h7]at hA7;unfold aR;rw[f7];omega
 have r2:=Lx (tr:=tr) hat.cl o1 (by omega) (by omega)
 have hl:aR s1 7-1<(stR s1 7 (s1.f 7-1)).mem.length:=by rw[R5,o1.len];omega
 have hpc:wd (gC r n base+2):=by unfold wd;omega
 have o2:PuOk (stM (stR s1 7 (s1.f 7-1)) (aR s1 7-1) (gC r n base+2)):=Qj (Yj o1 (by unfold wd;omega)) hpc
 have g2:∀b,gM (stM (stR s1 7 (s1.f 7-1)) (aR s1 7-1) (gC r n base+2)) b=if b=T-(n+1)-1 then gC r n base+2 else gM s1 b:=fun b=>by rw[Wm hl,a7];rfl
 have b0:aR (stM (stR s1 7 (s1.f 7-1)) (aR s1 7-1) (gC r n base+2)) 0=p:=a0
 have b1:aR (stM (stR s1 7 (s1.f 7-1)) (aR s1 7-1) (gC r n base+2)) 1=T-(n+1):=a1
 have f72:(stM (stR s1 7 (s1.f 7-1)) (aR s1 7-1) (gC r n base+2)).f 7=s.f 7-(n+1:Nat)-1:=by
  show s1.f 7-1=_
  rw[f7]
 have b7:aR (stM (stR s1 7 (s1.f 7-1)) (aR s1 7-1) (gC r n base+2)) 7=T-(n+2):=by rw[h7]at hA7;unfold aR at f72 ⊢;rw[f72];omega
 generalize stM (stR s1 7 (s1.f 7-1)) (aR s1 7-1) (gC r n base+2)=s2 at*
 have vp2:val (gM s2) p n=val (gM s1) p n:=Zt _ _ fun b x y=>by rw[g2,if_neg (by omega)]
 have vq2:val (gM s2) (T-(n+1)) n=val (gM s1) (T-(n+1)) n:=Zt _ _ fun b x y=>by rw[g2,if_neg (by omega)]
 rw[vp]at vp2
 rw[vq]at vq2
 have hpw:=O3 n
 have hpw2:2≤pw n:=by rcases hn with rfl|rfl|rfl<;>decide
 have rgp:=Xe (g:=gM s) n p (fun b=>h.mem b)
 have rgq:=Xe (g:=gM s) n q (fun b=>h.mem b)
 constructor
 ·intro hz
  have hab:abP (pw n) (val (gM s) q n)=0:=by rw[hz];unfold abP;rw[if_neg (by omega)]
  obtain⟨k3,s3,r3,hk3,o3,m3'⟩:=Cm code r n hn tgt tr htg hdv s2 o2 (T-(n+1)) b1 (by omega) (by rw[vq2,hab])
  refine⟨_,s3,(r1.trans r2).trans r3,by omega,o3,?_⟩
  rw[m3' T,g2,if_neg (by omega),keep T (by omega) (by omega)]
 ·intro hz
  have hab:0<abP (pw n) (val (gM s) q n):=by unfold abP;split<;>omega
  obtain⟨k3,s3,hR,hk3,f03,v3⟩:=Ck code r n hn tgt tr htg hdv s2 o2 p (T-(n+1)) (T-(n+2)) b0 b1 b7 hp (by omega) (by omega) (by omega) (by omega) (by omega) (by rw[vq2];omega)
  rw[vp2,vq2]at v3
  have r3:=hR.run
  rw[show gM s2 (T-(n+2))=gC r n base+2 by rw[g2,if_pos (by omega)]]at r3
  have f73:s3.f 7=s.f 7-(n+1:Nat):=by rw[hR.sp,f72];omega
  have a73:aR s3 7=T-(n+1):=by rw[h7]at hA7;unfold aR;rw[f73];omega
  have a03:aR s3 0=p:=by rw[←b0];unfold aR;rw[f03]
  have keep3:∀b,(b<p∨p+n≤b)→(b<T-(2*n+2)∨T-(n+1)≤b)→gM s3 b=gM s1 b:=fun b x y=>by
   rw[hR.m b x (by omega),g2,if_neg (by omega)]
  have gW:gM s3 (T-(n+1)+n)=gM s1 (T-1):=by
   rw[show T-(n+1)+n=T-1 by omega];exact keep3 _ (by omega) (by omega)
  obtain⟨k4,s4,r4,hk4,c4,v4⟩:=Zb6 code n hn (gC r n base+2) (gE r n base) tr 7 n 0 (by decide) (by decide) hat.s6 hat.j6 hat.s7 eE m3 l3 (by omega) s3 hR.ok (by omega) (by omega)
  rw[a73,gW,a03]at v4
  rw[a03]at c4
  simp only[hW]at v4
  have a74:aR s4 7=T-(n+1):=by rw[c4.aR (by decide) (by decide)];exact a73
  have f74:s4.f 7=s.f 7-(n+1:Nat):=by rw[c4.f 7 (by decide) (by decide)];exact f73
  obtain⟨r5,_⟩:=Xu (tr:=tr) _ _ s4 hat.s8 rfl c4.ok (by omega) (by have:Z1 (drI (n+1))=3:=rfl;omega)
  obtain⟨o5,f5,p5,m5⟩:=Zbf c4.ok (d:=n+1) (by omega)
  have l5:(drI (n+1)).length=2:=rfl
  have z5:Z1 (drI (n+1))=3:=rfl
  rw[l5,z5]at r5
  generalize exL (drI (n+1)) s4=s5 at*
  have f75:s5.f 7=s.f 7:=by rw[p5,f74];omega
  have u7:aR s5 7=T:=by rw[←h7];unfold aR;rw[f75]
  have r6:=Ht (tr:=tr) hat.rt o5 (by omega) (by omega)
  have mm:∀b,(b<p∨p+n≤b)→(b<T-(2*n+2)∨T≤b)→gM s5 b=gM s b:=fun b x y=>by
   rw[m5,c4.m b x,keep3 b x (by omega),keep b x (by omega)]
  rw[show gM s5 (aR s5 7)=gM s T by rw[u7,mm T (by omega) (by omega)]]at r6
  refine⟨_,stR s5 7 (s5.f 7+1),⟨((((r1.trans r2).trans r3).trans r4).trans r5).trans r6,Yj o5 ?_,by rw[Yi,if_pos rfl,f75],fun b x y=>mm b x y⟩,by omega,?_⟩
  ·unfold wd;unfold aR at h7;omega
  ·have e6:val (gM (stR s5 7 (s5.f 7+1))) p n=val (gM s4) p n:=Zt _ _ fun b _ _=>m5 b
   rw[e6,v4,v3]
   cases r
   ·simp only[Bool.false_eq_true,if_false]
    exact Ziq _ _ _ rgp ⟨by omega,rgq.2⟩ hpw2
   ·simp only[if_true]
    exact Zis _ _ _ rgp ⟨by omega,rgq.2⟩ hpw2
def sgN(r:Bool)(W a b:Nat):Nat:=((if r=true then(sgP W (a%W:Nat)).tmod (sgP W (b%W:Nat))else(sgP W (a%W:Nat)).tdiv (sgP W (b%W:Nat)))%(W:Int)).toNat
theorem Kf{code:List Int}(r:Bool)(n:Nat)(hn:n=1∨n=2∨n=4)(tgt:Int)(htg:0≤tgt∧tgt≤60000)(hat:atB code 3 (Zc0 r n 3 tgt)=true)(hdv:atB code tgt (N8 r n tgt)=true)(a b:Nat)(hb:b%2^(16*n)≠0):
 Zdi code n n a b (sgN r (2^(16*n)) a b):=fun s p q T h=>by
 have ht:=h.t
 have h2:=h.d2
 have h3:=h.d3
 rw[Wj]at hb ⊢
 obtain⟨k,s',hR,hk,hv⟩:=(Zet code r n hn 3 tgt 0 ⟨by decide,by decide⟩ htg (.of hat) (.of hdv) s h.ok p q T h.r0 h.r1 h.r7 h.pn h.qm (by omega) (by omega) (by omega)).2 (by rw[h.v2];omega)
 refine⟨k,s',2*n+2,hR,by omega,by omega,?_⟩
 rw[hv,h.v1,h.v2,E5]
 have hW:0<65536^n:=Nat.pow_pos (by decide)
 unfold sgN
 generalize 65536^n=W at*
 have hW':(0:Int)<(W:Int):=by omega
 generalize (if r=true then(sgP (W:Int) ((a%W:Nat):Int)).tmod (sgP (W:Int) ((b%W:Nat):Int))else(sgP (W:Int) ((a%W:Nat):Int)).tdiv (sgP (W:Int) ((b%W:Nat):Int)))=z
 have k1:=Int.emod_nonneg z (show(W:Int)≠0 by omega)
 have k2:=Int.emod_lt_of_pos z hW'
 rw[Nat.mod_eq_of_lt (by omega),Int.toNat_of_nonneg k1]
theorem Kg{code:List Int}(r:Bool)(n:Nat)(hn:n=1∨n=2∨n=4)(tgt:Int)(htg:0≤tgt∧tgt≤60000)(hat:atB code 3 (Zc0 r n 3 tgt)=true)(hdv:atB code tgt (N8 r n tgt)=true)(a b:Nat)(hb:b%2^(16*n)=0):Zdl code n n a b:=fun s p q T h=>by
 have ht:=h.t
 have h2:=h.d2
 have h3:=h.d3
 rw[Wj]at hb
 obtain⟨k,s',hR,hk,ho,hg⟩:=(Zet code r n hn 3 tgt 0 ⟨by decide,by decide⟩ htg (.of hat) (.of hdv) s h.ok p q T h.r0 h.r1 h.r7 h.pn h.qm (by omega) (by omega) (by omega)).1 (by rw[h.v2,hb];rfl)
 have z:=(M5 n hn).2.1
 have y:=Z9 (dS1 n)
 have e:dA n tgt=tgt+Z1 (dS1 n):=rfl
 exact⟨k,s',_,hR,by omega,ho,(DivAt.of hdv).tr,by omega,hg⟩
end Go.Proofs.YtbmecnjmbhokgaaGreatDoor
namespace Go.Proofs.YtbmecnjmbhokgaaGreatDoor
open Vc
namespace X1
abbrev r0:List In:=[i1 12 (.mv (kB false))]
abbrev r1:List In:=[mv 16 0, mv 17 1, i1 18 (.call 15 [(.k (.a (.int .u8 47))),.t 16,.t 17,kI 16,kB true]), mv 15 18, i1 19 (.ext 0 (.t 15)), i1 20 (.ext 1 (.t 15)), mv 13 19, mv 14 20]
abbrev r2:List In:=[mv 21 0, mv 22 1, mv 23 2, mv 24 3, mv 25 4, mv 26 5, mv 27 13, mv 28 14, i1 29 (.bin .eql (.t 28) (kI 10)), i1 30 (.call 16 [(.k (.a (.str [115,100,105,118,49]))),kI 1,kI 1,.t 21,.t 22,.t 23,.t 24,.t 25,.t 26,.t 27,.t 29]), mv 12 30]
abbrev code:IC:=.seq (.reg r0) (.seq (.reg r1) (.seq (.reg r2) .ret))
abbrev res:List RV:=[.tmp 12]
theorem fn:Body Tryz.prog 12 31 code res:=⟨by decide,Tryz.f12,_,Tryz.func12,rfl,rfl,by kernel_rfl,by kernel_rfl⟩
end X1
namespace X2
abbrev r0:List In:=[i1 12 (.mv (kB false))]
abbrev r1:List In:=[mv 16 0, mv 17 1, i1 18 (.call 15 [(.k (.a (.int .u8 47))),.t 16,.t 17,kI 32,kB true]), mv 15 18, i1 19 (.ext 0 (.t 15)), i1 20 (.ext 1 (.t 15)), mv 13 19, mv 14 20]
abbrev r2:List In:=[mv 21 0, mv 22 1, mv 23 2, mv 24 3, mv 25 4, mv 26 5, mv 27 13, mv 28 14, i1 29 (.bin .eql (.t 28) (kI 10)), i1 30 (.call 16 [(.k (.a (.str [115,100,105,118,50]))),kI 2,kI 2,.t 21,.t 22,.t 23,.t 24,.t 25,.t 26,.t 27,.t 29]), mv 12 30]
abbrev code:IC:=.seq (.reg r0) (.seq (.reg r1) (.seq (.reg r2) .ret))
abbrev res:List RV:=[.tmp 12]
theorem fn:Body Tryz.prog 13 31 code res:=⟨by decide,Tryz.f13,_,Tryz.func13,rfl,rfl,by kernel_rfl,by kernel_rfl⟩
end X2
namespace X3
abbrev r0:List In:=[i1 12 (.mv (kB false))]
abbrev r1:List In:=[mv 16 0, mv 17 1, i1 18 (.call 15 [(.k (.a (.int .u8 47))),.t 16,.t 17,kI 64,kB true]), mv 15 18, i1 19 (.ext 0 (.t 15)), i1 20 (.ext 1 (.t 15)), mv 13 19, mv 14 20]
abbrev r2:List In:=[mv 21 0, mv 22 1, mv 23 2, mv 24 3, mv 25 4, mv 26 5, mv 27 13, mv 28 14, i1 29 (.bin .eql (.t 28) (kI 10)), i1 30 (.call 16 [(.k (.a (.str [115,100,105,118,52]))),kI 4,kI 4,.t 21,.t 22,.t 23,.t 24,.t 25,.t 26,.t 27,.t 29]), mv 12 30]
abbrev code:IC:=.seq (.reg r0) (.seq (.reg r1) (.seq (.reg r2) .ret))
abbrev res:List RV:=[.tmp 12]
theorem fn:Body Tryz.prog 14 31 code res:=⟨by decide,Tryz.f14,_,Tryz.func14,rfl,rfl,by kernel_rfl,by kernel_rfl⟩
end X3
end Go.Proofs.YtbmecnjmbhokgaaGreatDoor
namespace Go.Proofs.YtbmecnjmbhokgaaGreatDoor
open Go Go.RowKit Vc
set_option linter.unusedVariables false
set_option linter.unusedSimpArgs false
attribute [local irreducible] T Za Zn Ent RdC RwC Ye Zf Zh
theorem Ei{l:List Int}{k m:Nat}{v:Int}(h:k≠m):(l.set k v).getD m 0=l.getD m 0:=by
 rw[List.getD_eq_getElem?_getD,List.getElem?_set_ne h,←List.getD_eq_getElem?_getD]
structure SubI (a b:List Int) (i:Nat) (r:List Int) (c:Int):Prop where
 ok:wOk r
 len:r.length=a.length
 top:∀k,i≤k→r.getD k 0=0
 cy:c=0∨c=1
 v:nv r=lowV (fun k=>a.getD k 0) i-lowV (fun k=>b.getD k 0) i+p32 i*c
theorem SubI.zero(a b:List Int):SubI a b 0 (List.replicate a.length 0) 0:=⟨Jv _,by simp,fun k _=>by rw[List.getD_eq_getElem?_getD,List.getElem?_replicate];split<;>rfl,.inl rfl,by rw[Hi];simp[lowV]⟩
theorem SubI.step{a b r:List Int}{i:Nat}{c:Int}(ha:wOk a)(hb:wOk b)(hi:i<a.length)(h:SubI a b i r c){d:Int}(hd:d=(a.getD i 0-c-b.getD i 0)%18446744073709551616):
 SubI a b (i+1) (r.set i (d%4294967296)) (d/9223372036854775808):=by
 have h1:=ha i
 have h2:=hb i
 unfold w32 at h1 h2
 have hl:i<r.length:=by rw[h.len];exact hi
 have e:d%4294967296=a.getD i 0-b.getD i 0-c+4294967296*(d/9223372036854775808)∧(d/9223372036854775808=0∨d/9223372036854775808=1):=by
  rcases h.cy with h3|h3<;>omega
 refine⟨P3 h.ok (by unfold w32;omega),by rw[List.length_set];exact h.len,fun k hk=> ?_,e.2,?_⟩
 ·rw[Ei (by omega)];exact h.top k (by omega)
 ·rw[O1 _ _ _ hl,h.top _ (Nat.le_refl _),Int.sub_zero,h.v,lowV,lowV,p32,e.1]
  generalize p32 i=P
  generalize d/9223372036854775808=c'
  simp only[Int.mul_add,Int.mul_sub]
  rw[show 4294967296*P*c'=P*(4294967296*c') by rw[Int.mul_comm 4294967296 P,Int.mul_assoc]]
  omega
theorem Zed(l:List Int):∀t,l.length≤t→lowV (fun k=>l.getD k 0) t=lowV (fun k=>l.getD k 0) l.length
 |0,h=>by rw[Nat.le_zero.1 h]
 |t+1,h=>by
  by_cases e:l.length=t+1
  ·rw[e]
  ·rw[lowV,Zed l t (by omega),List.getD_eq_getElem?_getD,List.getElem?_eq_none (by omega)]
   simp
set_option maxHeartbeats 8000000 in
theorem sub_gc(x y:Nat)(hx0:x≠0)(hxy:y≤x)(hlx:(wds x).length≤100):GC Tryz.prog 49 [.a (.ref 0),.a (.ref 1)] [(0,.ro (.int .u32) (wds x)),(1,.ro (.int .u32) (wds y))] 2 [] (.one (.a (.ref 2))) [(2,.row 87 (.int .u32) (wds (x-y)))] 3:=by
 have kx:=Rv x x (Nat.le_refl _)
 have ky:=Rv y y (Nat.le_refl _)
 have vx:=Ri x x (Nat.le_refl _)
 have vy:=Ri y y (Nat.le_refl _)
 have hly:(wds y).length≤(wds x).length:=by
  rcases Nat.lt_or_ge (wds x).length (wds y).length with h|h
  ·have:=Lo h;omega
  ·exact h
 have h0:(wds x).length≠0:=fun h=>hx0 (Vg.1 h)
 rw[Ps]at vx vy
 generalize wds x=a at*
 generalize wds y=b at*
 have d0:(Kd.int .u32).dflt=(0:Int):=rfl
 have m1:(0:Int)≤a.length:=by omega
 have m2:(4:Nat)*(a.length:Int)≤281474976710656:=by omega
 have m3:(a.length:Int)≤4611686018427387904:=by omega
 have m4:((a.length:Nat):Int).toNat=a.length:=by omega
 refine S6.fn.gc (by simp) (by simp[Zu,Zw,Zv,Zj,Ze,Vc.S1.okN,At.okN,SV.okN,Res.okN,Res.outOk,Zo,Res.own,Value.oneCell']) fun w X fr=> ?_
 repeat'(first|(first|refine Stp.h ?_)<;>try simp only[Zc,simprocAttr,↓reduceIte,reduceCtorEq,implies_true,m1,m2,m3,m4,d0]|(with_reducible first|assumption|refine And.intro ?_ ?_)|(intro h;first|omega|exact tg h ‹_›|exact tg ‹_› h|skip))
 all_goals first|omega|skip
 refine T.loop (ι:= {q:Nat×(List Int×Int)//q.1≤a.length∧SubI a b q.1 q.2.1 q.2.2}) (fun q=>⟨[(7,.one (.a (.int .i64 (q.1.1:Int)))),(6,.one (.a (.int .u64 q.1.2.2))),(5,.one (.a (.ref 2))),(0,.one (.a (.ref 0))),(1,.one (.a (.ref 1)))],
  [(2,.row 87 (.int .u32) q.1.2.1),(0,.ro (.int .u32) a),(1,.ro (.int .u32) b)],3⟩) (fun q=>a.length-q.1.1) ⟨(0,_,0),Nat.zero_le _,SubI.zero a b⟩ (Ent.mk1 (id) (by simp[Zx])) ?_
 rintro⟨⟨i,r,c⟩,hi,hI⟩
 simp only at hi hI ⊢
 have hrl:=hI.len
 by_cases hlt:i<a.length
 ·have i1:(i:Int)<a.length:=by omega
  have i0:(0:Int)≤i:=by omega
  have it:((i:Nat):Int).toNat=i:=by omega
  have iw:IntKind.i64.wrap ((i:Int)+1)=((i+1:Nat):Int):=Zy (by omega)
  have ir:(i:Int)<r.length:=by omega
  have ir2:i<r.length:=by omega
  have hst:=hI.step kx ky hlt rfl
  have hcy:=hI.cy
  have wa:=kx i
  have wb:=ky i
  unfold w32 at wa wb
  have u1:IntKind.u64.wrap (a.getD i 0)=a.getD i 0:=IntWalk.u64_in _ (by omega)
  have u2:IntKind.u64.wrap (b.getD i 0)=b.getD i 0:=IntWalk.u64_in _ (by omega)
  have u3:IntKind.u64.wrap (IntKind.u64.wrap (a.getD i 0-c)-b.getD i 0)=(a.getD i 0-c-b.getD i 0)%18446744073709551616:=by
   rw[IntKind.wrap_u64,IntKind.wrap_u64];omega
  have sh:∀z:Int,Pz .u64 z 63=z/9223372036854775808:=fun z=>by
   show z/2^63=_
   have:(2:Int)^63=9223372036854775808:=by decide
   rw[this]
  by_cases hjl:i<b.length
  ·have j1:(i:Int)<b.length:=by omega
   obtain⟨t,ht⟩:∃t,(a.getD i 0-c-b.getD i 0)%18446744073709551616=t:=⟨_,rfl⟩
   rw[ht]at hst u3
   have u7:IntKind.u32.wrap t=t%4294967296:=by rw[IntKind.wrap_u32]
   have u8:=sh t
   repeat'(first|(first|refine Stp.h ?_)<;>try simp only[Zc,simprocAttr,↓reduceIte,reduceCtorEq,implies_true,i0,i1,it,hlt,j1,hjl,iw,ir,ir2,u1,u2,u3,u7,u8,d0,Int.ofNat_lt]|(with_reducible first|assumption|refine And.intro ?_ ?_)|(intro h;first|omega|exact tg h ‹_›|exact tg ‹_› h|skip))
   all_goals first|omega|exact⟨⟨(i+1,r.set i (t%4294967296),t/9223372036854775808),hlt,hst⟩,(Ent.mk1 (id) (by simp[Zx])),by simp only;omega⟩|skip
  ·have j1:¬(i:Int)<b.length:=by omega
   have e0:b.getD i 0=0:=by rw[List.getD_eq_getElem?_getD,List.getElem?_eq_none (by omega)];rfl
   rw[e0,Int.sub_zero]at hst
   have u4:IntKind.u64.wrap (a.getD i 0-c)=(a.getD i 0-c)%18446744073709551616:=by rw[IntKind.wrap_u64]
   obtain⟨t,ht⟩:∃t,(a.getD i 0-c)%18446744073709551616=t:=⟨_,rfl⟩
   rw[ht]at hst u4
   have u7:IntKind.u32.wrap t=t%4294967296:=by rw[IntKind.wrap_u32]
   have u8:=sh t
   repeat'(first|(first|refine Stp.h ?_)<;>try simp only[Zc,simprocAttr,↓reduceIte,reduceCtorEq,implies_true,i0,i1,it,hlt,j1,hjl,iw,ir,ir2,u1,u4,u7,u8,d0,Int.ofNat_lt]|(with_reducible first|assumption|refine And.intro ?_ ?_)|(intro h;first|omega|exact tg h ‹_›|exact tg ‹_› h|skip))
   all_goals first|omega|exact⟨⟨(i+1,r.set i (t%4294967296),t/9223372036854775808),hlt,hst⟩,(Ent.mk1 (id) (by simp[Zx])),by simp only;omega⟩|skip
 ·obtain rfl:i=a.length:=by omega
  have i1:¬(a.length:Int)<a.length:=by omega
  have hv:=hI.v
  rw[vx,Zed b _ hly,vy]at hv
  have hnv:=Ps r
  have hrg:=Rh (g:=fun j=>r.getD j 0) hI.ok r.length
  rw[←hnv,hrl]at hrg
  have hcy:=hI.cy
  have hc0:c=0:=by
   rcases hcy with h|h
   ·exact h
   ·rw[h]at hv;omega
  rw[hc0]at hv
  have e:(nv r).toNat=x-y:=by omega
  have hT:=P2 r hI.ok (by omega)
  rw[e]at hT
  repeat'(first|(first|refine Stp.h ?_|(refine Za.gc hT ?_ ?_;focus simp[Zb];done))<;>try simp only[Zc,simprocAttr,↓reduceIte,reduceCtorEq,implies_true,i1]|(with_reducible first|assumption|refine And.intro ?_ ?_)|(intro h;first|omega|exact tg h ‹_›|exact tg ‹_› h|skip))
  all_goals first|omega|skip
theorem Mp{x y:Nat}(h:x≤y):(wds x).length≤(wds y).length:=by
 rcases Nat.lt_or_ge (wds y).length (wds x).length with h2|h2
 ·have:=Lo h2;omega
 ·exact h2
theorem Nb{x:Nat}(h:x≠0):decide (0<(wds x).length)=true:=decide_eq_true (Nat.pos_of_ne_zero fun e=>h (Vg.1 e))
theorem Zao(n:Bool)(x y:Nat)(h:x<y)(hly:(wds y).length≤100):GC Tryz.prog 33 [.a (.bool n),.a (.ref 0),.a (.bool (!n)),.a (.ref 1)] [(0,.ro (.int .u32) (wds x)),(1,.ro (.int .u32) (wds y))] 2 [] (.tup [.a (.bool (!n)),.a (.ref 2)]) [(2,.row 87 (.int .u32) (wds (y-x)))] 3:=by
 have hlx:=Mp (Nat.le_of_lt h)
 have hC:=Jn x y (by omega) (by omega)
 rw[show cmpI x y= -1 from if_pos h]at hC
 have hS:=sub_gc y x (by omega) (Nat.le_of_lt h) hly
 have c1:¬(0:Int)≤ -1:=by decide
 have b1:(false==true)=false:=rfl
 have b2:(true==false)=false:=rfl
 refine S7.fn.gc (by simp) (by simp[Zu,Zw,Zv,Zj,Ze,Vc.S1.okN,At.okN,SV.okN,Res.okN,Res.outOk,Zo,Res.own,Value.oneCell']) fun w X fr=> ?_
 cases n
 ·repeat'(first|(first|refine Stp.h ?_|(refine rq hC ?_ ?_;focus simp[Zz];done)|(refine Za.gc hS ?_ ?_;focus simp[Zb];done))<;>try simp only[Zc,simprocAttr,↓reduceIte,reduceCtorEq,implies_true,c1,b1,b2,Bool.not_true,Bool.not_false,decide_true,decide_false]|(with_reducible first|assumption|refine And.intro ?_ ?_)|(intro h;first|omega|exact tg h ‹_›|exact tg ‹_› h|skip))
 ·repeat'(first|(first|refine Stp.h ?_|(refine rq hC ?_ ?_;focus simp[Zz];done)|(refine Za.gc hS ?_ ?_;focus simp[Zb];done))<;>try simp only[Zc,simprocAttr,↓reduceIte,reduceCtorEq,implies_true,c1,b1,b2,Bool.not_true,Bool.not_false,decide_true,decide_false]|(with_reducible first|assumption|refine And.intro ?_ ?_)|(intro h;first|omega|exact tg h ‹_›|exact tg ‹_› h|skip))
theorem Zdj(x y:Nat)(h:x<y)(hly:(wds y).length≤100):GC Tryz.prog 20 [.a (.loc 0 0),.a (.loc 0 0),.a (.loc 2 0)]
 [(0,.cells 33 [.bool false,.ref 1]),(1,.row 87 (.int .u32) (wds x)),(2,.rocells [.bool false,.ref 3]),(3,.ro (.int .u32) (wds y))] 4 [0] (.one (.a (.loc 0 0)))
 [(0,.cells 33 [.bool true,.ref 4]),(4,.row 87 (.int .u32) (wds (y-x)))] 5:=by
 have hS:=Zao false x y h hly
 have hG:=I4 false true (wds (y-x)) (wds x)
 rw[Nb (by omega)]at hG
 simp only[Bool.not_false,Bool.and_self]at hS hG
 refine Uk.fn.gc (by simp) (by simp[Zu,Zw,Zv,Zj,Ze,Vc.S1.okN,At.okN,SV.okN,Res.okN,Res.outOk,Zo,Res.own,Value.oneCell']) fun w X fr=> ?_
 repeat'(first|(first|refine Stp.h ?_|(refine Za.gc hS ?_ ?_;focus simp[Zb];done)|(refine Za.gc hG ?_ ?_;focus simp[Zb];done))<;>try simp only[Zc,simprocAttr,↓reduceIte,reduceCtorEq,implies_true,Bool.not_true,Bool.not_false]|(with_reducible first|assumption|refine And.intro ?_ ?_)|(intro h;first|omega|exact tg h ‹_›|exact tg ‹_› h|skip))
theorem AddO_gc(x y:Nat)(h:x<y)(hly:(wds y).length≤100):GC Tryz.prog 19 [.a (.loc 0 0),.a (.loc 0 0),.a (.loc 2 0)]
 [(0,.cells 33 [.bool true,.ref 1]),(1,.row 87 (.int .u32) (wds x)),(2,.rocells [.bool false,.ref 3]),(3,.ro (.int .u32) (wds y))] 4 [0] (.one (.a (.loc 0 0)))
 [(0,.cells 33 [.bool false,.ref 4]),(4,.row 87 (.int .u32) (wds (y-x)))] 5:=by
 have hS:=Zao true x y h hly
 have hG:=I4 true false (wds (y-x)) (wds x)
 simp only[Bool.not_true,Bool.false_and]at hS hG
 refine Uf.fn.gc (by simp) (by simp[Zu,Zw,Zv,Zj,Ze,Vc.S1.okN,At.okN,SV.okN,Res.okN,Res.outOk,Zo,Res.own,Value.oneCell']) fun w X fr=> ?_
 repeat'(first|(first|refine Stp.h ?_|(refine Za.gc hS ?_ ?_;focus simp[Zb];done)|(refine Za.gc hG ?_ ?_;focus simp[Zb];done))<;>try simp only[Zc,simprocAttr,↓reduceIte,reduceCtorEq,implies_true,Bool.not_true,Bool.not_false]|(with_reducible first|assumption|refine And.intro ?_ ?_)|(intro h;first|omega|exact tg h ‹_›|exact tg ‹_› h|skip))
theorem Cmp_gc(x y:Nat)(hx:(wds x).length≤100)(hy:(wds y).length≤100):GC Tryz.prog 24 [.a (.loc 0 0),.a (.loc 2 0)]
 [(0,.rocells [.bool false,.ref 1]),(1,.ro (.int .u32) (wds x)),(2,.rocells [.bool false,.ref 3]),(3,.ro (.int .u32) (wds y))] 4 [] (.one (.a (.int .i64 (cmpI x y)))) [] 4:=by
 have hC:=Jn x y (by omega) (by omega)
 refine Ug.fn.gc (by simp) (by simp[Zu,Zw,Zv,Zj,Ze,Vc.S1.okN,At.okN,SV.okN,Res.okN,Res.outOk,Zo,Res.own,Value.oneCell']) fun w X fr=> ?_
 repeat'(first|(first|refine Stp.h ?_|(refine rq hC ?_ ?_;focus simp[Zz];done)|(refine rq hC ?_ ?_;focus simp[Zz];done))<;>try simp only[Zc,simprocAttr,↓reduceIte,reduceCtorEq,implies_true,bne_self_eq_false]|(with_reducible first|assumption|refine And.intro ?_ ?_)|(intro h;first|omega|exact tg h ‹_›|exact tg ‹_› h|skip))
def ng(W n:Nat):Bool:=decide (W≤2*n)
def mg(W n:Nat):Nat:=if W≤2*n then W-n else n
theorem Zef{W n:Nat}(h:n<W):2*mg W n≤W∧(mg W n=0→n=0):=by unfold mg;split<;>omega
theorem Nd(x w:Nat)(hx:x<18446744073709551616)(hw:w=16∨w=32∨w=64):GC Tryz.prog 18 [.a (.int .u64 (x:Int)),.a (.int .i64 (w:Int)),.a (.bool true)] [] 0 [] (.one (.a (.loc 0 0)))
 [(0,.cells 33 [.bool (ng (2^w) (x%2^w)),.ref 1]),(1,.row 87 (.int .u32) (wds (mg (2^w) (x%2^w))))] 2:=by
 have hW:=Qu x hx
 have hF:=Og x w hx (by omega)
 have hle:x%2^w≤x:=Nat.mod_le _ _
 have hlt:x%2^w<2^w:=Nat.mod_lt _ (Nat.pow_pos (by decide))
 have hW2:=Qu (x%2^w) (by omega)
 have hT1:=Ls (w-1) (by omega)
 have hT2:=Ls w (by omega)
 have e2:2^w=2*2^(w-1):=by rw[←Nat.pow_succ'];congr 1;omega
 have l3:(wds (2^w)).length≤3:=We 3 _ (by
  have:2^w≤2^64:=Nat.pow_le_pow_right (by decide) (by omega)
  have:(2:Nat)^64<4294967296^3:=by decide
  omega)
 have l1:=Mp (Nat.le_of_lt hlt)
 have l2:=Mp (show 2^(w-1)≤2^w by omega)
 have hC:=Cmp_gc (x%2^w) (2^(w-1)) (by omega) (by omega)
 have hS:=Zdj (x%2^w) (2^w) hlt (by omega)
 have w1:IntKind.i64.wrap ((w:Int)-1)=((w-1:Nat):Int):=by rw[Zk (by omega) (by omega)];omega
 refine Wx.fn.gc (by simp) (by simp[Zu,Zw,Zv,Zj,Ze,Vc.S1.okN,At.okN,SV.okN,Res.okN,Res.outOk,Zo,Res.own,Value.oneCell']) fun w' X fr=> ?_
 by_cases h:2^w≤2*(x%2^w)
 ·have c1:(0:Int)≤cmpI (x%2^w) (2^(w-1)):=by unfold cmpI;rw[if_neg (by omega)];split<;>decide
  rw[show ng (2^w) (x%2^w)=true from decide_eq_true h,show mg (2^w) (x%2^w)=2^w-x%2^w from if_pos h]
  generalize cmpI (x%2^w) (2^(w-1))=cv at*
  generalize x%2^w=n at*
  repeat'(first|(first|refine Stp.h ?_|(refine Za.gc hW ?_ ?_;focus simp[Zb];done)|(refine Za.gc hF ?_ ?_;focus simp[Zb];done)|(refine Za.gc hW2 ?_ ?_;focus simp[Zb];done)|(refine Za.gc hT1 ?_ ?_;focus simp[Zb];done)|(refine Za.gc hT2 ?_ ?_;focus simp[Zb];done)|(refine Za.gc hC ?_ ?_;focus simp[Zb];done)|(refine Za.gc hS ?_ ?_;focus simp[Zb];done)|refine Zf.split ?_ ?_|refine Zh.no ?_)<;>try simp only[Zc,simprocAttr,↓reduceIte,reduceCtorEq,implies_true,w1,c1,decide_true]|(with_reducible first|assumption|refine And.intro ?_ ?_)|(intro h;first|omega|exact tg h ‹_›|exact tg ‹_› h|skip))
 ·have c1:¬(0:Int)≤cmpI (x%2^w) (2^(w-1)):=by unfold cmpI;rw[if_pos (by omega)];decide
  rw[show ng (2^w) (x%2^w)=false from decide_eq_false h,show mg (2^w) (x%2^w)=x%2^w from if_neg h]
  generalize cmpI (x%2^w) (2^(w-1))=cv at*
  generalize x%2^w=n at*
  repeat'(first|(first|refine Stp.h ?_|(refine Za.gc hW ?_ ?_;focus simp[Zb];done)|(refine Za.gc hF ?_ ?_;focus simp[Zb];done)|(refine Za.gc hW2 ?_ ?_;focus simp[Zb];done)|(refine Za.gc hT1 ?_ ?_;focus simp[Zb];done)|(refine Za.gc hT2 ?_ ?_;focus simp[Zb];done)|(refine Za.gc hC ?_ ?_;focus simp[Zb];done)|refine Zf.split ?_ ?_|refine Zh.no ?_)<;>try simp only[Zc,simprocAttr,↓reduceIte,reduceCtorEq,implies_true,w1,c1,decide_false]|(with_reducible first|assumption|refine And.intro ?_ ?_)|(intro h;first|omega|exact tg h ‹_›|exact tg ‹_› h|skip))
theorem J8(x y:Nat)(m k:Bool)(hx:x<18446744073709551616)(hy:y≠0)(hly:(wds y).length≤1000)(b c:Bool):GC Tryz.prog 23 [.a (.loc 0 0),.a (.loc 1 0),.a (.loc 3 0),.a (.loc 5 0)]
 [(0,.cells 33 [.bool b,.raw (.slice none 0 0)]),(1,.rocells [.bool m,.ref 2]),(2,.ro (.int .u32) (wds x)),(3,.rocells [.bool k,.ref 4]),(4,.ro (.int .u32) (wds y)),(5,.cells 33 [.bool c,.raw (.slice none 0 0)])] 6 [0,5] (.tup [.a (.loc 0 0),.a (.loc 5 0)])
 [(0,.cells 33 [.bool ((m !=k)&&decide (0<(wds (x/y)).length)),.ref 6]),(6,.row 87 (.int .u32) (wds (x/y))),(5,.cells 33 [.bool (m&&decide (0<(wds (x%y)).length)),.ref 7]),(7,.row 87 (.int .u32) (wds (x%y)))] 8:=by
 have hD:=Zbe x y hx hy hly
 have hG:=Vz b (m !=k) (wds (x/y))
 have hG2:=Vz c m (wds (x%y))
 refine Yw.fn.gc (by simp) (by simp[Zu,Zw,Zv,Zj,Ze,Vc.S1.okN,At.okN,SV.okN,Res.okN,Res.outOk,Zo,Res.own,Value.oneCell']) fun w X fr=> ?_
 repeat'(first|(first|refine Stp.h ?_|(refine Za.gc hD ?_ ?_;focus simp[Zb];done)|(refine Za.gc hG ?_ ?_;focus simp[Zb];done)|(refine Za.gc hG2 ?_ ?_;focus simp[Zb];done))<;>try simp only[Zc,simprocAttr,↓reduceIte,reduceCtorEq,implies_true]|(with_reducible first|assumption|refine And.intro ?_ ?_)|(intro h;first|omega|exact tg h ‹_›|exact tg ‹_› h|skip))
def Lr(q:Nat):Prop:=GC Tryz.prog 20 [.a (.loc 0 0),.a (.loc 0 0),.a (.loc 2 0)]
    [(0,.cells 33 [.bool (decide (0<(wds q).length)),.ref 1]),(1,.row 87 (.int .u32) (wds q)),(2,.rocells [.bool false,.ref 3]),(3,.ro (.int .u32) (wds 1))] 4 [0] (.one (.a (.loc 0 0)))
    [(0,.cells 33 [.bool true,.ref 4]),(4,.row 87 (.int .u32) (wds (q+1)))] 5
theorem Zjb:(wds 1).length=1:=by rw[Jw];rfl
theorem Zan:Lr 0:=by
 have h:=Zdj 0 1 (by decide) (by rw[Zjb];decide)
 unfold Lr
 rw[show decide (0<(wds 0).length)=false by rw[Yd];rfl]
 exact h
theorem Za0(x y:Nat)(hx:x<18446744073709551616)(hy:y≠0)(hly:(wds y).length≤100)(b c:Bool)(hs:x%y≠0→Lr (x/y)):GC Tryz.prog 40 [.a (.loc 0 0),.a (.loc 1 0),.a (.loc 3 0),.a (.loc 5 0)]
 [(0,.cells 33 [.bool b,.raw (.slice none 0 0)]),(1,.rocells [.bool true,.ref 2]),(2,.ro (.int .u32) (wds x)),(3,.rocells [.bool false,.ref 4]),(4,.ro (.int .u32) (wds y)),(5,.cells 33 [.bool c,.raw (.slice none 0 0)])] 6 [0,5] (.tup [.a (.loc 0 0),.a (.loc 5 0)])
 [(0,.cells 33 [.bool (decide (0<(wds (if x%y=0 then x/y else x/y+1)).length)),.ref 6]),(6,.row 87 (.int .u32) (wds (if x%y=0 then x/y else x/y+1))),(5,.cells 33 [.bool false,.ref 7]),(7,.row 87 (.int .u32) (wds (if x%y=0 then 0 else y-x%y)))] 8:=by
 have hQ:=J8 x y true false hx hy (by omega) b c
 have hS:=Fz false false (wds y) (by omega) rfl
 have hN:=Gj 1 (by decide)
 have c1:((1:Nat):Int)=1:=rfl
 rw[c1]at hN
 have b3:(true !=false)=true:=rfl
 have hr:x%y<y:=Nat.mod_lt _ (by omega)
 have hA:=AddO_gc (x%y) y hr hly
 refine Yv.fn.gc (by simp) (by simp[Zu,Zw,Zv,Zj,Ze,Vc.S1.okN,At.okN,SV.okN,Res.okN,Res.outOk,Zo,Res.own,Value.oneCell']) fun w X fr=> ?_
 by_cases h:x%y=0
 ·rw[if_pos h,if_pos h]
  rw[h,Yd]at hQ
  rw[Yd]
  simp only[List.length_nil,Nat.lt_irrefl,decide_false,Bool.and_false,b3,Bool.true_and]at hQ
  repeat'(first|(first|refine Stp.h ?_|(refine Za.gc hQ ?_ ?_;focus simp[Zb];done)|(refine Za.gc hS ?_ ?_;focus simp[Zb];done))<;>try simp only[Zc,simprocAttr,↓reduceIte,reduceCtorEq,implies_true]|(with_reducible first|assumption|refine And.intro ?_ ?_)|(intro h;first|omega|exact tg h ‹_›|exact tg ‹_› h|skip))
 ·rw[if_neg h,if_neg h,Nb (Nat.succ_ne_zero _)]
  have hB:=hs h
  unfold Lr at hB
  rw[Nb h]at hQ
  simp only[Bool.and_self,b3,Bool.true_and]at hQ
  repeat'(first|(first|refine Stp.h ?_|(refine Za.gc hQ ?_ ?_;focus simp[Zb];done)|(refine Za.gc hS ?_ ?_;focus simp[Zb];done)|(refine Za.gc hN ?_ ?_;focus simp[Zb];done)|(refine Za.gc hB ?_ ?_;focus simp[Zb];done)|(refine Za.gc hA ?_ ?_;focus simp[Zb];done))<;>try simp only[Zc,simprocAttr,↓reduceIte,reduceCtorEq,implies_true]|(with_reducible first|assumption|refine And.intro ?_ ?_)|(intro h;first|omega|exact tg h ‹_›|exact tg ‹_› h|skip))
theorem Zfh(b:Bool)(l:List Int)(h:l.length≠0):GC Tryz.prog 22 [.a (.loc 0 0)] [(0,.rocells [.bool b,.ref 1]),(1,.ro (.int .u32) l)] 2 [] (.one (.a (.int .i64 (if b=true then-1 else 1)))) [] 2:=by
 have e:¬(l.length:Int)=0:=by omega
 refine Xi.fn.gc (by simp) (by simp[Zu,Zw,Zv,Zj,Ze,Vc.S1.okN,At.okN,SV.okN,Res.okN,Res.outOk,Zo,Res.own,Value.oneCell']) fun w X fr=> ?_
 cases b
 ·repeat'(first|(first|refine Stp.h ?_)<;>try simp only[Zc,simprocAttr,↓reduceIte,reduceCtorEq,implies_true,e,decide_false,Bool.false_eq_true]|(with_reducible first|assumption|refine And.intro ?_ ?_)|(intro h;first|omega|exact tg h ‹_›|exact tg ‹_› h|skip))
 ·repeat'(first|(first|refine Stp.h ?_)<;>try simp only[Zc,simprocAttr,↓reduceIte,reduceCtorEq,implies_true,e,decide_false,Bool.false_eq_true]|(with_reducible first|assumption|refine And.intro ?_ ?_)|(intro h;first|omega|exact tg h ‹_›|exact tg ‹_› h|skip))
theorem F1(W n:Nat)(h:n<W):abP (W:Int) (n:Int)=((mg W n:Nat):Int):=by
 unfold abP mg
 by_cases c:W≤2*n
 ·rw[if_pos (by omega),if_pos c];omega
 ·rw[if_neg (by omega),if_neg c]
theorem Zei(W q:Nat)(h:q<W):((-(q:Int))%(W:Int)).toNat=if q=0 then 0 else W-q:=by
 by_cases c:q=0
 ·subst c;simp
 ·rw[if_neg c,←Int.add_emod_right,Int.emod_eq_of_lt (by omega) (by omega)];omega
theorem Zcz(r:Bool)(W a b:Nat)(h:0<W)(h2:W≤18446744073709551616):sgN r W a b<18446744073709551616:=by
 unfold sgN
 generalize (if r=true then(sgP (W:Int) ((a%W:Nat):Int)).tmod (sgP (W:Int) ((b%W:Nat):Int))else(sgP (W:Int) ((a%W:Nat):Int)).tdiv (sgP (W:Int) ((b%W:Nat):Int)))=z
 have k2:=Int.emod_lt_of_pos z (show(0:Int)<(W:Int) by omega)
 omega
theorem sgN_div(W a b:Nat)(h:2≤W)(h0:b%W≠0):sgN false W a b=if(ng W (a%W) !=ng W (b%W))=true∧mg W (a%W)/mg W (b%W)≠0 then W-mg W (a%W)/mg W (b%W)else mg W (a%W)/mg W (b%W):=by
 have ha:a%W<W:=Nat.mod_lt _ (by omega)
 have hb:b%W<W:=Nat.mod_lt _ (by omega)
 have key:=Ziq (W:Int) ((a%W:Nat):Int) ((b%W:Nat):Int) (by omega) (by omega) (by omega)
 have hA:=(Zef ha).1
 unfold sgN
 simp only[Bool.false_eq_true,if_false]
 rw[←key,F1 _ _ ha,F1 _ _ hb,←Int.natCast_ediv]
 generalize a%W=A at*
 generalize b%W=B at*
 have hq:mg W A/mg W B<W:=Nat.lt_of_le_of_lt (Nat.div_le_self _ _) (by omega)
 generalize mg W A/mg W B=q at*
 have e:((W:Int)≤2*(A:Int))≠((W:Int)≤2*(B:Int))↔(ng W A !=ng W B)=true:=by
  unfold ng
  by_cases c1:W≤2*A<;>by_cases c2:W≤2*B
  ·simp[c1,c2,show(W:Int)≤2*(A:Int) by omega,show(W:Int)≤2*(B:Int) by omega]
  ·simp[c1,c2,show(W:Int)≤2*(A:Int) by omega,show¬(W:Int)≤2*(B:Int) by omega]
  ·simp[c1,c2,show¬(W:Int)≤2*(A:Int) by omega,show(W:Int)≤2*(B:Int) by omega]
  ·simp[c1,c2,show¬(W:Int)≤2*(A:Int) by omega,show¬(W:Int)≤2*(B:Int) by omega]
 by_cases c:(ng W A !=ng W B)=true
 ·rw[if_pos (e.2 c),Zei W q hq]
  by_cases hq0:q=0
  ·rw[if_pos hq0,if_neg (fun h=>h.2 hq0)];exact hq0.symm
  ·rw[if_neg hq0,if_pos ⟨c,hq0⟩]
 ·rw[if_neg (fun h=>c (e.1 h)),if_neg (fun h=>c h.1),Int.toNat_natCast]
theorem sgN_rem(W a b:Nat)(h:2≤W)(h0:b%W≠0):sgN true W a b=if ng W (a%W)=true∧mg W (a%W)%mg W (b%W)≠0 then W-mg W (a%W)%mg W (b%W)else mg W (a%W)%mg W (b%W):=by
 have ha:a%W<W:=Nat.mod_lt _ (by omega)
 have hb:b%W<W:=Nat.mod_lt _ (by omega)
 have key:=Zis (W:Int) ((a%W:Nat):Int) ((b%W:Nat):Int) (by omega) (by omega) (by omega)
 have hA:=(Zef ha).1
 unfold sgN
 simp only[if_true]
 rw[←key,F1 _ _ ha,F1 _ _ hb,←Int.natCast_emod]
 generalize a%W=A at*
 generalize b%W=B at*
 have hq:mg W A%mg W B<W:=Nat.lt_of_le_of_lt (Nat.mod_le _ _) (by omega)
 generalize mg W A%mg W B=q at*
 by_cases c:W≤2*A
 ·have c1:ng W A=true:=decide_eq_true c
  rw[if_pos (by omega),Zei W q hq]
  by_cases hq0:q=0
  ·rw[if_pos hq0,if_neg (fun h=>h.2 hq0)];exact hq0.symm
  ·rw[if_neg hq0,if_pos ⟨c1,hq0⟩]
 ·have c1:ng W A=false:=decide_eq_false c
  rw[if_neg (by omega),if_neg (fun h=>by rw[c1]at h;exact absurd h.1 (by decide)),Int.toNat_natCast]
theorem ModS_gc(x y:Nat)(hx:x<18446744073709551616)(hy:y≠0)(hly:(wds y).length≤100)(c:Bool)(hs:x%y≠0→Lr (x/y)):GC Tryz.prog 38 [.a (.loc 0 0),.a (.loc 1 0),.a (.loc 3 0)]
 [(0,.cells 33 [.bool c,.raw (.slice none 0 0)]),(1,.rocells [.bool true,.ref 2]),(2,.ro (.int .u32) (wds x)),(3,.rocells [.bool false,.ref 4]),(4,.ro (.int .u32) (wds y))] 5 [0] (.one (.a (.loc 0 0)))
 [(0,.cells 33 [.bool false,.ref 5]),(5,.row 87 (.int .u32) (wds (if x%y=0 then 0 else y-x%y)))] 6:=by
 have hD:=Za0 x y hx hy hly false c hs
 generalize (if x%y=0 then 0 else y-x%y)=m at*
 generalize (if x%y=0 then x/y else x/y+1)=q at*
 refine Xk.fn.gc (by simp) (by simp[Zu,Zw,Zv,Zj,Ze,Vc.S1.okN,At.okN,SV.okN,Res.okN,Res.outOk,Zo,Res.own,Value.oneCell']) fun w X fr=> ?_
 repeat'(first|(first|refine Stp.h ?_|(refine Za.gc hD ?_ ?_;focus simp[Zb];done))<;>try simp only[Zc,simprocAttr,↓reduceIte,reduceCtorEq,implies_true]|(with_reducible first|assumption|refine And.intro ?_ ?_)|(intro h;first|omega|exact tg h ‹_›|exact tg ‹_› h|skip))
theorem FitS_gc(x w:Nat)(hx:x<18446744073709551616)(hw:w≤64)(hs:x%2^w≠0→Lr (x/2^w)):GC Tryz.prog 26 [.a (.loc 0 0),.a (.int .i64 (w:Int))] [(0,.rocells [.bool true,.ref 1]),(1,.ro (.int .u32) (wds x))] 2 []
 (.one (.a (.int .u64 ((if x%2^w=0 then 0 else 2^w-x%2^w:Nat):Int)))) [] 2:=by
 have hp:2^w≠0:=Nat.ne_of_gt (Nat.pow_pos (by decide))
 have h64:2^w≤2^64:=Nat.pow_le_pow_right (by decide) hw
 have hl:(wds (2^w)).length≤3:=We 3 _ (by
  have:(2:Nat)^64<4294967296^3:=by decide
  omega)
 have hT:=Ls w hw
 have hM:=ModS_gc x (2^w) hx hp (by omega) false hs
 have hlt:(if x%2^w=0 then 0 else 2^w-x%2^w:Nat)<18446744073709551616:=by
  have:(2:Nat)^64=18446744073709551616:=by decide
  split<;>omega
 have hU:=Pk _ hlt false
 generalize (if x%2^w=0 then 0 else 2^w-x%2^w:Nat)=m at*
 refine Wd.fn.gc (by simp) (by simp[Zu,Zw,Zv,Zj,Ze,Vc.S1.okN,At.okN,SV.okN,Res.okN,Res.outOk,Zo,Res.own,Value.oneCell']) fun w X fr=> ?_
 repeat'(first|(first|refine Stp.h ?_|(refine Za.gc hT ?_ ?_;focus simp[Zb];done)|(refine Za.gc hM ?_ ?_;focus simp[Zb];done)|(refine Za.gc hU ?_ ?_;focus simp[Zb];done))<;>try simp only[Zc,simprocAttr,↓reduceIte,reduceCtorEq,implies_true]|(with_reducible first|assumption|refine And.intro ?_ ?_)|(intro h;first|omega|exact tg h ‹_›|exact tg ‹_› h|skip))
theorem Zdg(f:Bool)(q w:Nat)(hq:q<2^w)(hw:w≤64)(hf:f=true→q≠0):GC Tryz.prog 26 [.a (.loc 0 0),.a (.int .i64 (w:Int))] [(0,.rocells [.bool f,.ref 1]),(1,.ro (.int .u32) (wds q))] 2 []
 (.one (.a (.int .u64 ((if f=true then 2^w-q else q:Nat):Int)))) [] 2:=by
 have h64:2^w≤2^64:=Nat.pow_le_pow_right (by decide) hw
 have e64:(2:Nat)^64=18446744073709551616:=by decide
 cases f
 ·have h:=Og q w (by omega) hw
  rw[Nat.mod_eq_of_lt hq]at h
  exact h
 ·have h:=FitS_gc q w (by omega) hw (fun _=>by rw[Nat.div_eq_of_lt hq];exact Zan)
  rw[Nat.mod_eq_of_lt hq,if_neg (hf rfl)]at h
  exact h
theorem Jz(r:Bool)(x y w:Nat)(hx:x<18446744073709551616)(hy:y<18446744073709551616)(hw:w=16∨w=32∨w=64)(h0:y%2^w≠0):GC Tryz.prog 15 [.a (.int .u8 (if r=true then 37 else 47)),.a (.int .u64 (x:Int)),.a (.int .u64 (y:Int)),.a (.int .i64 (w:Int)),.a (.bool true)] [] 0 []
 (.tup [.a (.int .u64 ((sgN r (2^w) x y:Nat):Int)),.a (.int .i64 0)]) [] 0:=by
 have hW:=Te w (by omega)
 have hX:=Nd x w hx hw
 have hY:=Nd y w hy hw
 have h64:2^w≤2^64:=Nat.pow_le_pow_right (by decide) (by omega)
 have e64:(2:Nat)^64=18446744073709551616:=by decide
 have h2:2≤2^w:=by rcases hw with rfl|rfl|rfl<;>decide
 have ha:=Nat.mod_lt x (show 0<2^w by omega)
 have hb:=Nat.mod_lt y (show 0<2^w by omega)
 have mA:=Zef ha
 have mB:=Zef hb
 have B0:mg (2^w) (y%2^w)≠0:=fun h=>h0 (mB.2 h)
 have l2:=We 2 (mg (2^w) (y%2^w)) (by omega)
 have hS:=Zfh (ng (2^w) (y%2^w)) (wds (mg (2^w) (y%2^w))) (fun h=>B0 (Vg.1 h))
 have hQ:=J8 (mg (2^w) (x%2^w)) (mg (2^w) (y%2^w)) (ng (2^w) (x%2^w)) (ng (2^w) (y%2^w)) (by omega) B0 (by omega) false false
 have hq:mg (2^w) (x%2^w)/mg (2^w) (y%2^w)≤mg (2^w) (x%2^w):=Nat.div_le_self _ _
 have hr:mg (2^w) (x%2^w)%mg (2^w) (y%2^w)≤mg (2^w) (x%2^w):=Nat.mod_le _ _
 have s0:¬(if ng (2^w) (y%2^w)=true then(-1:Int)else 1)=0:=by split<;>decide
 have bnd:∀(f:Bool) (q:Nat),((f&&decide (0<(wds q).length))=true↔f=true∧q≠0):=fun f q=>by
  cases f
  ·simp
  ·simp only[Bool.true_and,decide_eq_true_eq,true_and]
   exact⟨fun h e=>by rw[e,Yd]at h;exact absurd h (by decide),fun h=>Nat.pos_of_ne_zero fun e=>h (Vg.1 e)⟩
 have hF1:=Zdg ((ng (2^w) (x%2^w) !=ng (2^w) (y%2^w))&&decide (0<(wds (mg (2^w) (x%2^w)/mg (2^w) (y%2^w))).length)) (mg (2^w) (x%2^w)/mg (2^w) (y%2^w)) w (by omega) (by omega) (fun h=>((bnd _ _).1 h).2)
 have hF2:=Zdg (ng (2^w) (x%2^w)&&decide (0<(wds (mg (2^w) (x%2^w)%mg (2^w) (y%2^w))).length)) (mg (2^w) (x%2^w)%mg (2^w) (y%2^w)) w (by omega) (by omega) (fun h=>((bnd _ _).1 h).2)
 simp only[bnd]at hF1 hF2
 rw[←sgN_div (2^w) x y h2 h0]at hF1
 rw[←sgN_rem (2^w) x y h2 h0]at hF2
 generalize hv1:sgN false (2^w) x y=v1 at*
 generalize hv2:sgN true (2^w) x y=v2 at*
 generalize (if ng (2^w) (y%2^w)=true then(-1:Int)else 1)=sv at*
 generalize ((ng (2^w) (x%2^w) !=ng (2^w) (y%2^w))&&decide (0<(wds (mg (2^w) (x%2^w)/mg (2^w) (y%2^w))).length))=f1 at*
 generalize (ng (2^w) (x%2^w)&&decide (0<(wds (mg (2^w) (x%2^w)%mg (2^w) (y%2^w))).length))=f2 at*
 generalize mg (2^w) (x%2^w)=A at*
 generalize mg (2^w) (y%2^w)=B at*
 generalize ng (2^w) (x%2^w)=ba at*
 generalize ng (2^w) (y%2^w)=bb at*
 refine Y1.fn.gc (by simp) (by simp[Zu,Zw,Zv,Zj,Ze,Vc.S1.okN,At.okN,SV.okN,Res.okN,Res.outOk,Zo,Res.own,Value.oneCell']) fun w X fr=> ?_
 cases r
 ·rw[hv1]
  repeat'(first|(first|refine Stp.h ?_|(refine Za.gc hW ?_ ?_;focus simp[Zb];done)|(refine Za.gc hX ?_ ?_;focus simp[Zb];done)|(refine Za.gc hY ?_ ?_;focus simp[Zb];done)|(refine Za.gc hS ?_ ?_;focus simp[Zb];done)|(refine Za.gc hQ ?_ ?_;focus simp[Zb];done)|(refine Za.gc hF1 ?_ ?_;focus simp[Zb];done))<;>try simp only[Zc,simprocAttr,↓reduceIte,reduceCtorEq,implies_true,s0,decide_true,decide_false,Bool.false_eq_true]|(with_reducible first|assumption|refine And.intro ?_ ?_)|(intro h;first|omega|exact tg h ‹_›|exact tg ‹_› h|skip))
 ·rw[hv2]
  repeat'(first|(first|refine Stp.h ?_|(refine Za.gc hW ?_ ?_;focus simp[Zb];done)|(refine Za.gc hX ?_ ?_;focus simp[Zb];done)|(refine Za.gc hY ?_ ?_;focus simp[Zb];done)|(refine Za.gc hS ?_ ?_;focus simp[Zb];done)|(refine Za.gc hQ ?_ ?_;focus simp[Zb];done)|(refine Za.gc hF2 ?_ ?_;focus simp[Zb];done))<;>try simp only[Zc,simprocAttr,↓reduceIte,reduceCtorEq,implies_true,s0,decide_true,decide_false,Bool.false_eq_true]|(with_reducible first|assumption|refine And.intro ?_ ?_)|(intro h;first|omega|exact tg h ‹_›|exact tg ‹_› h|skip))
theorem N3(r:Bool)(x y w:Nat)(hx:x<18446744073709551616)(hy:y<18446744073709551616)(hw:w=16∨w=32∨w=64)(h0:y%2^w=0):GC Tryz.prog 15 [.a (.int .u8 (if r=true then 37 else 47)),.a (.int .u64 (x:Int)),.a (.int .u64 (y:Int)),.a (.int .i64 (w:Int)),.a (.bool true)] [] 0 []
 (.tup [.a (.int .u64 0),.a (.int .i64 10)]) [] 0:=by
 have hW:=Te w (by omega)
 have hX:=Nd x w hx hw
 have hY:=Nd y w hy hw
 have hp:¬2^w≤2*0:=by have:=Nat.pow_pos (n:=w) (show 0<2 by decide);omega
 rw[h0,show ng (2^w) 0=false from decide_eq_false hp,show mg (2^w) 0=0 from if_neg hp,Yd]at hY
 have hS:=Gl
 generalize mg (2^w) (x%2^w)=A at*
 generalize ng (2^w) (x%2^w)=ba at*
 refine Y1.fn.gc (by simp) (by simp[Zu,Zw,Zv,Zj,Ze,Vc.S1.okN,At.okN,SV.okN,Res.okN,Res.outOk,Zo,Res.own,Value.oneCell']) fun w X fr=> ?_
 cases r
 ·repeat'(first|(first|refine Stp.h ?_|(refine Za.gc hW ?_ ?_;focus simp[Zb];done)|(refine Za.gc hX ?_ ?_;focus simp[Zb];done)|(refine Za.gc hY ?_ ?_;focus simp[Zb];done)|(refine Za.gc hS ?_ ?_;focus simp[Zb];done))<;>try simp only[Zc,simprocAttr,↓reduceIte,reduceCtorEq,implies_true,decide_true,decide_false,Bool.false_eq_true]|(with_reducible first|assumption|refine And.intro ?_ ?_)|(intro h;first|omega|exact tg h ‹_›|exact tg ‹_› h|skip))
 ·repeat'(first|(first|refine Stp.h ?_|(refine Za.gc hW ?_ ?_;focus simp[Zb];done)|(refine Za.gc hX ?_ ?_;focus simp[Zb];done)|(refine Za.gc hY ?_ ?_;focus simp[Zb];done)|(refine Za.gc hS ?_ ?_;focus simp[Zb];done))<;>try simp only[Zc,simprocAttr,↓reduceIte,reduceCtorEq,implies_true,decide_true,decide_false,Bool.false_eq_true]|(with_reducible first|assumption|refine And.intro ?_ ?_)|(intro h;first|omega|exact tg h ‹_›|exact tg ‹_› h|skip))
end Go.Proofs.YtbmecnjmbhokgaaGreatDoor
