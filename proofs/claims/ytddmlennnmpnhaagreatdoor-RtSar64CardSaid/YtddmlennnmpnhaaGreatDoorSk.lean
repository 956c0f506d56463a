/-
  Machine code: the routines that divide with signs. It has no conditions of its own.
-/
import Derived.Test.YtddmlennnmpnhaaGreatDoorQz
namespace Go.Proofs.YtddmlennnmpnhaaGreatDoor
open Go Vc
set_option linter.unusedVariables false
set_option linter.unusedSimpArgs false
theorem xor_nat(a b:Nat)(ha:a<65536)(hb:b<65536):Mr .i64 (a:Int) (b:Int)=((a^^^b:Nat):Int)∧a^^^b<65536:=by
 have hl:a^^^b<65536:=Nat.xor_lt_two_pow (n:=16) ha hb
 refine⟨?_,hl⟩
 show IntKind.i64.wrap ((BitVec.ofInt 64 (a:Int)^^^BitVec.ofInt 64 (b:Int)).toNat:Nat)=_
 rw[Xa,Xa (b:Int)]
 have e1:((a:Int)%18446744073709551616).toNat=a:=by omega
 have e2:((b:Int)%18446744073709551616).toNat=b:=by omega
 rw[e1,e2,BitVec.toNat_xor,BitVec.toNat_ofNat,BitVec.toNat_ofNat,Nat.mod_eq_of_lt (by omega),Nat.mod_eq_of_lt (by omega)]
 exact Zk (by omega) (by omega)
theorem E4(a:Nat)(ha:a<65536):32767<a↔a.testBit 15=true:=by
 rw[Nat.testBit_eq_decide_div_mod_eq,decide_eq_true_eq];omega
theorem xor_top(a b:Int)(ha:wd a)(hb:wd b):32767<Mr .i64 a b%65536↔(32767<a)≠(32767<b):=by
 unfold wd at ha hb
 obtain⟨x,rfl⟩:=Int.eq_ofNat_of_zero_le ha.1
 obtain⟨y,rfl⟩:=Int.eq_ofNat_of_zero_le hb.1
 obtain⟨e,hl⟩:=xor_nat x y (by omega) (by omega)
 rw[e,show((x^^^y:Nat):Int)%65536=((x^^^y:Nat):Int) by omega]
 have h1:=E4 x (by omega)
 have h2:=E4 y (by omega)
 have h3:=E4 (x^^^y) hl
 rw[Nat.testBit_xor]at h3
 have q1:((32767:Int)<(x:Int))=(x.testBit 15=true):=propext ⟨fun h=>h1.1 (by omega),fun h=>by have:=h1.2 h;omega⟩
 have q2:((32767:Int)<(y:Int))=(y.testBit 15=true):=propext ⟨fun h=>h2.1 (by omega),fun h=>by have:=h2.2 h;omega⟩
 have q3:((32767:Int)<((x^^^y:Nat):Int))=((x.testBit 15^^y.testBit 15)=true):=propext ⟨fun h=>h3.1 (by omega),fun h=>by have:=h3.2 h;omega⟩
 rw[q1,q2,q3]
 cases x.testBit 15<;>cases y.testBit 15<;>simp
def ngI(reg w:Nat):List Ins:=[iLd 2 reg w,Zic 14 2]
theorem ngI_run{s:Pu}(h:PuOk s){reg w:Nat}(hr:reg<8)(hb:aR s reg+w<65536):Chg s (exL (ngI reg w) s) 0 0∧(exL (ngI reg w) s).x.c=decide (32767<gM s (aR s reg+w)):=by
 have hf:=h.reg reg hr
 unfold wd at hf
 have hA:((aR s reg:Nat):Int)=s.f reg:=by unfold aR;omega
 have hw:wd (gM s (aR s reg+w)):=h.mem _
 simp only[ngI,Yx,Yk]
 rw[Sg (by omega),Za4 (.inl rfl)]
 have e2:(stR s 2 (gM s (aR s reg+w))).f 2=gM s (aR s reg+w):=rfl
 rw[e2]
 exact⟨⟨T7 (Yi (Yi h hw) (Qn _ _ _ hw)),fun i i2 _=>by simp only[W7,Yf,if_neg i2],fun b _=>rfl⟩,rfl⟩
def ngW(k:Int)(reg i:Nat):List Ins:=[Jg 4 0,iLd 2 reg i,Me k 4 2,iSt reg 4 i]
theorem Zen(k:Int)(hk:k=7∨k=8){s:Pu}(h:PuOk s){reg i:Nat}(hr:reg<8∧reg≠2∧reg≠4)(hb:aR s reg+i<65536):
 Chg s (exL (ngW k reg i) s) (aR s reg+i) 1∧gM (exL (ngW k reg i) s) (aR s reg+i)-65536*cI (exL (ngW k reg i) s).x.c=0-gM s (aR s reg+i)-cI (twC k s.x.c):=by
 have hf:=h.reg reg hr.1
 unfold wd at hf
 have hA:((aR s reg:Nat):Int)=s.f reg:=by unfold aR;omega
 have hw:wd (gM s (aR s reg+i)):=h.mem _
 have key:exL (ngW k reg i) s=stM (stF (stR (stR (stR s 4 0) 2 (gM s (aR s reg+i))) 4 (twoR k 0 (gM s (aR s reg+i)) s.x)) (twoF k 0 (gM s (aR s reg+i)) s.x)) (aR s reg+i) (twoR k 0 (gM s (aR s reg+i)) s.x):=by
  simp only[ngW,Yx,Yk]
  rw[L6]
  have e0:aR (stR s 4 ((0:Nat):Int)) reg=aR s reg:=by simp only[aR,Yf,if_neg hr.2.2]
  rw[Sg (s:=stR s 4 ((0:Nat):Int)) (d:=2) (r:=reg) (o:=i) (by simp only[Yf,if_neg hr.2.2];omega),e0,Md (by omega)]
  have e2:(stR (stR s 4 ((0:Nat):Int)) 2 (gM (stR s 4 ((0:Nat):Int)) (aR s reg+i))).f 4=0:=rfl
  have e3:(stR (stR s 4 ((0:Nat):Int)) 2 (gM (stR s 4 ((0:Nat):Int)) (aR s reg+i))).f 2=gM s (aR s reg+i):=rfl
  rw[e2,e3]
  rw[G7 (by simp only[Yf,W7,if_neg hr.2.1,if_neg hr.2.2];omega) (P3 _ _ _ _)]
  have e4:aR (stF (stR (stR (stR s 4 ((0:Nat):Int)) 2 (gM (stR s 4 ((0:Nat):Int)) (aR s reg+i))) 4 (twoR k 0 (gM s (aR s reg+i)) (stR (stR s 4 ((0:Nat):Int)) 2 (gM (stR s 4 ((0:Nat):Int)) (aR s reg+i))).x)) (twoF k 0 (gM s (aR s reg+i)) (stR (stR s 4 ((0:Nat):Int)) 2 (gM (stR s 4 ((0:Nat):Int)) (aR s reg+i))).x)) reg=aR s reg:=by
   simp only[aR,Yf,W7,if_neg hr.2.1,if_neg hr.2.2]
  rw[e4]
  rfl
 rw[key]
 have hl:aR s reg+i<s.mem.length:=by rw[h.len];exact hb
 refine⟨⟨Pt (T7 (Yi (Yi (Yi h ⟨by decide,by decide⟩) hw) (P3 _ _ _ _))) (P3 _ _ _ _),fun i h2 h4=>by simp only[M8,W7,Yf,if_neg h2,if_neg h4],fun b hb=> ?_⟩,?_⟩
 ·rw[W8 (by exact hl),if_neg (by omega)];rfl
 ·rw[W8 (by exact hl),if_pos rfl]
  simp only[Ze9,Jc]
  generalize gM s (aR s reg+i)=a at*
  have hd:=fun c=>Zhv 0 a c ⟨by decide,by decide⟩ hw
  rcases hk with rfl|rfl
  ·exact hd false
  ·exact hd s.x.c
def ngL(reg:Nat):Nat→Nat→List Ins
 |_,0=>[]
 |i,n+1=>ngW 8 reg i++ngL reg (i+1) n
theorem Zeo{s s1 s2:Pu}{A n:Nat}{c:Bool}(c1:Chg s s1 A 1)(c2:Chg s1 s2 (A+1) n)(e1:gM s1 A-65536*cI s1.x.c=0-gM s A-cI c)
 (e2:val (gM s2) (A+1) n-pw n*cI s2.x.c=0-val (gM s1) (A+1) n-cI s1.x.c):val (gM s2) A (n+1)-pw (n+1)*cI s2.x.c=0-val (gM s) A (n+1)-cI c:=by
 have g1:gM s2 A=gM s1 A:=c2.m _ (by omega)
 have g2:val (gM s1) (A+1) n=val (gM s) (A+1) n:=Zy _ _ fun b h1 h2=>c1.m b (by omega)
 simp only[val,pw,Lx]
 rw[g2]at e2
 rw[g1]
 generalize pw n*cI s2.x.c=q at*
 omega
theorem Zem(reg:Nat)(hr:reg<8∧reg≠2∧reg≠4):∀(n i:Nat) (s:Pu),PuOk s→aR s reg+i+n≤65536→
 Chg s (exL (ngL reg i n) s) (aR s reg+i) n∧val (gM (exL (ngL reg i n) s)) (aR s reg+i) n-pw n*cI (exL (ngL reg i n) s).x.c=0-val (gM s) (aR s reg+i) n-cI s.x.c
 |0,i,s,h,_=>⟨Chg.rfl' h _ _,by simp[ngL,Yk,val,pw]⟩
 |n+1,i,s,h,hb=>by
  obtain⟨c1,e1⟩:=Zen 8 (.inr rfl) h hr (i:=i) (by omega)
  have htc:twC 8 s.x.c=s.x.c:=rfl
  rw[htc]at e1
  simp only[ngL,Y5]
  generalize exL (ngW 8 reg i) s=s1 at*
  have ha:=c1.aR hr.2.1 hr.2.2
  obtain⟨c2,e2⟩:=Zem reg hr n (i+1) s1 c1.ok (by omega)
  rw[ha]at c2 e2
  generalize exL (ngL reg (i+1) n) s1=s2 at*
  exact⟨(c1.wider (by omega) (by omega)).trans (c2.wider (by omega) (by omega)),Zeo c1 c2 e1 e2⟩
def ngN(reg n:Nat):List Ins:=match n with
 |0=>[]
 |n+1=>ngW 7 reg 0++ngL reg 1 n
theorem ngN_run(reg:Nat)(hr:reg<8∧reg≠2∧reg≠4)(n:Nat)(hn:0<n)(s:Pu)(h:PuOk s)(hb:aR s reg+n≤65536):
 Chg s (exL (ngN reg n) s) (aR s reg) n∧val (gM (exL (ngN reg n) s)) (aR s reg) n=(-val (gM s) (aR s reg) n)%pw n:=by
 obtain⟨n,rfl⟩:∃m,n=m+1:=⟨n-1,by omega⟩
 obtain⟨c1,e1⟩:=Zen 7 (.inl rfl) h hr (i:=0) (by omega)
 have htc:twC 7 s.x.c=false:=rfl
 rw[htc]at e1
 simp only[ngN,Y5,Nat.add_zero]at*
 generalize exL (ngW 7 reg 0) s=s1 at*
 have ha:=c1.aR hr.2.1 hr.2.2
 obtain⟨c2,e2⟩:=Zem reg hr n 1 s1 c1.ok (by omega)
 rw[ha]at c2 e2
 generalize exL (ngL reg 1 n) s1=s2 at*
 refine⟨(c1.wider (by omega) (by omega)).trans (c2.wider (by omega) (by omega)),?_⟩
 have e3:=Zeo c1 c2 e1 e2
 have hr:=Xl (g:=gM s2) (n+1) (aR s reg) (fun b=>c2.ok.mem b)
 rw[Vr]at e3
 rw[show-val (gM s) (aR s reg) (n+1)=val (gM s2) (aR s reg) (n+1)+pw (n+1)*(-cI s2.x.c) by rw[Int.mul_neg];omega,Int.add_mul_emod_self_left,Int.emod_eq_of_lt hr.1 hr.2]
theorem Zbs(code:List Int)(n:Nat)(hn:n=1∨n=2∨n=4)(a over tr:Int)(rs w reg:Nat)(hrs:rs<8)(hr:reg<8∧reg≠2∧reg≠4)(h1:atB code a (ngI rs w)=true)(h2:atB code (a+3) [⟨23,0,0,over⟩]=true)(h3:atB code (a+3+2) (ngN reg n)=true)
 (hov:over=a+3+2+Z1 (ngN reg n))(hst:(ngN reg n).all Ob=true)(hl:(ngN reg n).length≤16)(ha:0≤a∧over≤65535)(s:Pu)(h:PuOk s)(hb:aR s rs+w<65536)(hb2:aR s reg+n≤65536):
 ∃(k:Nat) (s':Pu),Ts code k (mk s a tr) (mk s' over tr)∧k≤19∧Chg s s' (aR s reg) n∧val (gM s') (aR s reg) n=if 32767<gM s (aR s rs+w)then(-val (gM s) (aR s reg) n)%pw n else val (gM s) (aR s reg) n:=by
 have y:=Ym (ngN reg n)
 have z:Z1 (ngI rs w)=3:=rfl
 have l:(ngI rs w).length=2:=rfl
 obtain⟨r1,_⟩:=Xv (tr:=tr) _ _ s h1 rfl h (by omega) (by omega)
 obtain⟨c1,e1⟩:=ngI_run h hrs hb
 rw[z,l]at r1
 generalize exL (ngI rs w) s=s1 at*
 have r2:=Uv (tr:=tr) (.inr (.inr (.inr (.inr rfl)))) h2 c1.ok (by omega)
 have v1:val (gM s1) (aR s reg) n=val (gM s) (aR s reg) n:=Zy _ _ fun b x y=>c1.m b (by omega)
 have a1:aR s1 reg=aR s reg:=c1.aR hr.2.1 hr.2.2
 by_cases hc:32767<gM s (aR s rs+w)
 ·have hg:¬W9 23 s1.x=true:=by simp[W9,e1,hc]
  rw[if_neg hg]at r2
  obtain⟨r3,_⟩:=Xv (tr:=tr) _ _ s1 h3 hst c1.ok (by omega) (by omega)
  rw[←hov]at r3
  obtain⟨c2,e2⟩:=ngN_run reg hr n (by omega) s1 c1.ok (by omega)
  rw[a1,v1]at e2
  rw[a1]at c2
  exact⟨_,_,(r1.trans r2).trans r3,by omega,c1.any.trans c2,by rw[if_pos hc];exact e2⟩
 ·have hg:W9 23 s1.x=true:=by simp[W9,e1,hc]
  rw[if_pos hg]at r2
  exact⟨_,s1,r1.trans r2,by omega,c1.any,by rw[if_neg hc];exact v1⟩
def gS1(r:Bool)(n:Nat):List Ins:=[iLd 5 0 (n-1)]++((if r=true then[]else[iLd 2 1 (n-1),Me 11 5 2])++([P7 5]++(cpL 1 n++[Gj 1 7])))
def gA(r:Bool)(n:Nat)(base:Int):Int:=base+Z1 (gS1 r n)
def gB(r:Bool)(n:Nat)(base:Int):Int:=gA r n base+3+2+Z1 (ngN 1 n)
def gC(r:Bool)(n:Nat)(base:Int):Int:=gB r n base+3+2+Z1 (ngN 0 n)
def gE(r:Bool)(n:Nat)(base:Int):Int:=gC r n base+2+3+2+Z1 (ngN 0 n)
def Zc7(r:Bool)(n:Nat)(base tgt:Int):List Ins:=
 gS1 r n++(ngI 1 (n-1)++([⟨23,0,0,gB r n base⟩]++(ngN 1 n++(ngI 0 (n-1)++([⟨23,0,0,gC r n base⟩]++(ngN 0 n++([⟨26,0,0,tgt⟩]++(ngI 7 n++([⟨23,0,0,gE r n base⟩]++(ngN 0 n++(drI (n+1)++[⟨27,0,0,0⟩])))))))))))
structure SgnAt (code:List Int) (r:Bool) (n:Nat) (base tgt:Int):Prop where
 s1:atB code base (gS1 r n)=true
 s2:atB code (gA r n base) (ngI 1 (n-1))=true
 j2:atB code (gA r n base+3) [⟨23,0,0,gB r n base⟩]=true
 s3:atB code (gA r n base+3+2) (ngN 1 n)=true
 s4:atB code (gB r n base) (ngI 0 (n-1))=true
 j4:atB code (gB r n base+3) [⟨23,0,0,gC r n base⟩]=true
 s5:atB code (gB r n base+3+2) (ngN 0 n)=true
 cl:atB code (gC r n base) [⟨26,0,0,tgt⟩]=true
 s6:atB code (gC r n base+2) (ngI 7 n)=true
 j6:atB code (gC r n base+2+3) [⟨23,0,0,gE r n base⟩]=true
 s7:atB code (gC r n base+2+3+2) (ngN 0 n)=true
 s8:atB code (gE r n base) (drI (n+1))=true
 rt:atB code (gE r n base+3) [⟨27,0,0,0⟩]=true
theorem SgnAt.of{code:List Int}{r:Bool}{n:Nat}{base tgt:Int}(h:atB code base (Zc7 r n base tgt)=true):SgnAt code r n base tgt:=by
 unfold Zc7 at h
 obtain⟨h1,h⟩:=Z6 _ _ _ _ h
 obtain⟨h2,h⟩:=Z6 _ _ _ _ h
 obtain⟨h3,h⟩:=Z6 _ _ _ _ h
 obtain⟨h4,h⟩:=Z6 _ _ _ _ h
 obtain⟨h5,h⟩:=Z6 _ _ _ _ h
 obtain⟨h6,h⟩:=Z6 _ _ _ _ h
 obtain⟨h7,h⟩:=Z6 _ _ _ _ h
 obtain⟨h8,h⟩:=Z6 _ _ _ _ h
 obtain⟨h9,h⟩:=Z6 _ _ _ _ h
 obtain⟨h10,h⟩:=Z6 _ _ _ _ h
 obtain⟨h11,h⟩:=Z6 _ _ _ _ h
 obtain⟨h12,h13⟩:=Z6 _ _ _ _ h
 exact⟨h1,h2,h3,h4,h5,h6,h7,h8,h9,h10,h11,h12,h13⟩
theorem Zex(r:Bool)(n:Nat)(hn:n=1∨n=2∨n=4):((gS1 r n).all Ob=true∧(ngN 1 n).all Ob=true∧(ngN 0 n).all Ob=true)∧((gS1 r n).length≤16∧(ngN 1 n).length≤16∧(ngN 0 n).length≤16)∧Z1 (gS1 r n)≤100∧Z1 (ngN 1 n)≤100∧Z1 (ngN 0 n)≤100:=by
 rcases hn with rfl|rfl|rfl<;>cases r<;>exact⟨⟨by decide,by decide,by decide⟩,⟨by decide,by decide,by decide⟩,by decide,by decide,by decide⟩
def abP(P v:Int):Int:=if P≤2*v then P-v else v
set_option maxHeartbeats 2000000 in
theorem sg_pre(code:List Int)(r:Bool)(n:Nat)(hn:n=1∨n=2∨n=4)(base tgt tr:Int)(hb:0≤base∧base≤60000)(hat:SgnAt code r n base tgt)(s:Pu)(h:PuOk s)(p q T:Nat)(h0:aR s 0=p)(h1:aR s 1=q)(h7:aR s 7=T)
 (hp:p+n≤65536)(hq:q+n≤65536)(hT:n+1≤T∧T<65535)(hdp:p+n≤T-(n+1)∨T+1≤p)(hdq:q+n≤T-(n+1)∨T+1≤q):
 ∃(k:Nat) (s':Pu),Ts code k (mk s base tr) (mk s' (gC r n base) tr)∧k≤60∧PuOk s'∧aR s' 0=p∧aR s' 1=T-(n+1)∧s'.f 7=s.f 7-(n+1:Nat)∧(∀b,(b<p∨p+n≤b)→(b<T-(n+1)∨T≤b)→gM s' b=gM s b)∧
  val (gM s') p n=abP (pw n) (val (gM s) p n)∧val (gM s') (T-(n+1)) n=abP (pw n) (val (gM s) q n)∧(32767<gM s' (T-1)↔(if r=true then pw n≤2*val (gM s) p n else(pw n≤2*val (gM s) p n)≠(pw n≤2*val (gM s) q n))):=by
 obtain⟨⟨m1,m2,m3⟩,⟨l1,l2,l3⟩,z1,z2,z3⟩:=Zex r n hn
 have y1:=Ym (gS1 r n)
 have y2:=Ym (ngN 1 n)
 have y3:=Ym (ngN 0 n)
 have eA:gA r n base=base+Z1 (gS1 r n):=rfl
 have eB:gB r n base=gA r n base+3+2+Z1 (ngN 1 n):=rfl
 have eC:gC r n base=gB r n base+3+2+Z1 (ngN 0 n):=rfl
 obtain⟨n',hn'⟩:∃m,n=m+1:=⟨n-1,by omega⟩
 have hf0:=h.reg 0 (by decide)
 have hf1:=h.reg 1 (by decide)
 have hf7:=h.reg 7 (by decide)
 unfold wd at hf0 hf1 hf7
 have hA0:((aR s 0:Nat):Int)=s.f 0:=by unfold aR;omega
 have hA1:((aR s 1:Nat):Int)=s.f 1:=by unfold aR;omega
 have hA7:((aR s 7:Nat):Int)=s.f 7:=by unfold aR;omega
 have hwp:wd (gM s (p+(n-1))):=h.mem _
 have hwq:wd (gM s (q+(n-1))):=h.mem _
 have tp:=H9 h n' p
 have tq:=H9 h n' q
 rw[←hn',show n'=n-1 by omega]at tp tq
 obtain⟨r1,_⟩:=Xv (tr:=tr) _ _ s hat.s1 m1 h (by omega) (by omega)
 have sg:∃(s1:Pu) (W:Int),exL (gS1 r n) s=exL ([P7 5]++(cpL 1 n++[Gj 1 7])) s1∧PuOk s1∧(∀i,i≠2→i≠5→s1.f i=s.f i)∧s1.f 5=W∧(∀b,gM s1 b=gM s b)∧(32767<W↔(if r=true then pw n≤2*val (gM s) p n else(pw n≤2*val (gM s) p n)≠(pw n≤2*val (gM s) q n))):=by
  have x0:exP (iLd 5 0 (n-1)) s=stR s 5 (gM s (p+(n-1))):=by rw[Sg (by omega),h0]
  cases r
  ·refine⟨exL [iLd 2 1 (n-1),Me 11 5 2] (stR s 5 (gM s (p+(n-1)))),Mr .i64 (gM s (p+(n-1))) (gM s (q+(n-1)))%65536,?_,?_⟩
   ·simp only[gS1,Bool.false_eq_true,if_false,Y5,Yx,Yk,x0]
   ·simp only[Yx,Yk]
    have e0:aR (stR s 5 (gM s (p+(n-1)))) 1=q:=h1
    rw[Sg (s:=stR s 5 (gM s (p+(n-1)))) (d:=2) (r:=1) (o:=n-1) (by have:(stR s 5 (gM s (p+(n-1)))).f 1=s.f 1:=rfl;omega),e0,Zib,Md (by omega)]
    have e1:(stR (stR s 5 (gM s (p+(n-1)))) 2 (gM s (q+(n-1)))).f 5=gM s (p+(n-1)):=rfl
    have e2:(stR (stR s 5 (gM s (p+(n-1)))) 2 (gM s (q+(n-1)))).f 2=gM s (q+(n-1)):=rfl
    rw[e1,e2]
    have e3:twoR 11 (gM s (p+(n-1))) (gM s (q+(n-1))) (stR (stR s 5 (gM s (p+(n-1)))) 2 (gM s (q+(n-1)))).x=Mr .i64 (gM s (p+(n-1))) (gM s (q+(n-1)))%65536:=by simp only[twoR,Int.reduceEq,↓reduceIte,or_self]
    rw[e3]
    generalize twoF 11 (gM s (p+(n-1))) (gM s (q+(n-1))) (stR (stR s 5 (gM s (p+(n-1)))) 2 (gM s (q+(n-1)))).x=F at*
    refine⟨T7 (Yi (Yi (Yi h hwp) hwq) (P2 _)),fun i i2 i5=>by simp only[W7,Yf,if_neg i2,if_neg i5],rfl,fun b=>rfl,?_⟩
    rw[xor_top _ _ hwp hwq,if_neg (by decide),propext tp,propext tq]
  ·refine⟨stR s 5 (gM s (p+(n-1))),gM s (p+(n-1)),?_,Yi h hwp,fun i _ i5=>by rw[Yf,if_neg i5],rfl,fun b=>rfl,by rw[if_pos rfl];exact tp⟩
   simp only[gS1,if_true,List.nil_append,Y5,Yx,Yk,x0]
 obtain⟨s1,W,x1,o1,f1,f15,g1,hW⟩:=sg
 rw[x1]at r1
 have b7:aR s1 7=T:=by rw[←h7];unfold aR;rw[f1 7 (by decide) (by decide)]
 have b1:aR s1 1=q:=by rw[←h1];unfold aR;rw[f1 1 (by decide) (by decide)]
 simp only[Y5,Yx,Yk]at r1
 obtain⟨k1,k2,k3⟩:=E8 o1 (r:=5) (by decide) (by omega)
 rw[b7]at k1 k2
 have a7:=k1.ar7 o1 (by omega)
 rw[b7]at a7
 generalize exP (P7 5) s1=s2 at*
 have d1:aR s2 1=q:=by rw[←b1];unfold aR;rw[k3 1 (by decide)]
 obtain⟨c2,v2⟩:=Zdy 1 (by decide) n s2 k1.ok (by omega) (by omega) (by omega)
 have a72:=c2.ar7 k1.ok (by omega)
 rw[d1]at v2
 rw[a7,show T-1-n=T-(n+1) by omega]at c2 v2 a72
 generalize exL (cpL 1 n) s2=s3 at*
 rw[Zh6]at r1
 have o3:=Yi c2.ok (r:=1) (c2.ok.reg 7 (by decide))
 have f37:s3.f 7=s.f 7-(n+1:Nat):=by rw[c2.sp,k1.sp,f1 7 (by decide) (by decide)];omega
 have w1:aR (stR s3 1 (s3.f 7)) 1=T-(n+1):=by rw[←a72];rfl
 have w7:(stR s3 1 (s3.f 7)).f 7=s.f 7-(n+1:Nat):=f37
 have w0:aR (stR s3 1 (s3.f 7)) 0=p:=by
  rw[←h0];unfold aR;rw[Yf,if_neg (by decide),c2.f 0 (by decide) (by decide) (by decide),k3 0 (by decide),f1 0 (by decide) (by decide)]
 have keep:∀b,(b<T-(n+1)∨T≤b)→gM (stR s3 1 (s3.f 7)) b=gM s b:=fun b hb=>by
  show gM s3 b=_
  rw[c2.m b (by omega),k1.m b (by omega),g1 b]
 have gW:gM (stR s3 1 (s3.f 7)) (T-1)=W:=by
  show gM s3 (T-1)=_
  rw[c2.m (T-1) (by omega),k2,f15]
 have gq:val (gM (stR s3 1 (s3.f 7))) (T-(n+1)) n=val (gM s) q n:=by
  have e1:val (gM s2) q n=val (gM s) q n:=Zy _ _ fun b x y=>(k1.m b (by omega)).trans (g1 b)
  rw[←e1,←v2];rfl
 have gp:val (gM (stR s3 1 (s3.f 7))) p n=val (gM s) p n:=Zy _ _ fun b x y=>keep b (by omega)
 generalize stR s3 1 (s3.f 7)=s4 at*
 have top4:∀a,32767<gM s4 (a+(n-1))↔pw n≤2*val (gM s4) a n:=fun a=>by
  have:=H9 o3 n' a
  rw[←hn',show n'=n-1 by omega]at this;exact this
 obtain⟨kk2,s5,r2,hk2,c5,v5⟩:=Zbs code n hn (gA r n base) (gB r n base) tr 1 (n-1) 1 (by decide) (by decide) hat.s2 hat.j2 hat.s3 eB m2 l2 (by omega) s4 o3 (by omega) (by omega)
 rw[w1]at c5 v5
 simp only[top4,gq]at v5
 have w05:aR s5 0=p:=by rw[c5.aR (by decide) (by decide)];exact w0
 have gp5:val (gM s5) p n=val (gM s) p n:=by rw[←gp];exact Zy _ _ fun b x y=>c5.m b (by omega)
 have top5:32767<gM s5 (p+(n-1))↔pw n≤2*val (gM s5) p n:=by
  have:=H9 c5.ok n' p
  rw[←hn',show n'=n-1 by omega]at this;exact this
 obtain⟨kk3,s6,r3,hk3,c6,v6⟩:=Zbs code n hn (gB r n base) (gC r n base) tr 0 (n-1) 0 (by decide) (by decide) hat.s4 hat.j4 hat.s5 eC m3 l3 (by omega) s5 c5.ok (by omega) (by omega)
 rw[w05]at c6 v6
 simp only[top5,gp5]at v6
 have hpw:=Mk n
 have ab:∀v,0≤v→v<pw n→(if pw n≤2*v then(-v)%pw n else v)=abP (pw n) v:=fun v v0 v1=>by
  unfold abP
  by_cases hc:pw n≤2*v
  ·rw[if_pos hc,if_pos hc,show-v=(pw n-v)+pw n*(-1) by omega,Int.add_mul_emod_self_left,Int.emod_eq_of_lt (by omega) (by omega)]
  ·rw[if_neg hc,if_neg hc]
 have rgp:=Xl (g:=gM s) n p (fun b=>h.mem b)
 have rgq:=Xl (g:=gM s) n q (fun b=>h.mem b)
 rw[ab _ rgq.1 rgq.2]at v5
 rw[ab _ rgp.1 rgp.2]at v6
 refine⟨_,s6,(r1.trans r2).trans r3,by omega,c6.ok,by rw[c6.aR (by decide) (by decide)];exact w05,?_,?_,fun b x y=> ?_,v6,?_,?_⟩
 ·rw[c6.aR (by decide) (by decide),c5.aR (by decide) (by decide)];exact w1
 ·rw[c6.f 7 (by decide) (by decide),c5.f 7 (by decide) (by decide)];exact w7
 ·rw[c6.m b x,c5.m b (by omega),keep b y]
 ·rw[←v5];exact Zy _ _ fun b x y=>c6.m b (by omega)
 ·rw[c6.m (T-1) (by omega),c5.m (T-1) (by omega),gW];exact hW
theorem Zi1(P A B:Int)(hA:0≤A∧A<P)(hB:0<B∧B<P)(hP:2≤P):
 (if(P≤2*A)≠(P≤2*B)then(-(abP P A/abP P B))%P else abP P A/abP P B)=(sgP P A).tdiv (sgP P B)%P:=by
 have key:∀x y:Int,0≤x→0<y→2*x≤P→0≤x/y∧x/y<P:=fun x y hx hy hx2=>⟨Int.ediv_nonneg hx (Int.le_of_lt hy),by have:=Int.ediv_le_self y hx;omega⟩
 unfold abP sgP
 by_cases ha:P≤2*A<;>by_cases hb:P≤2*B
 ·obtain⟨k1,k2⟩:=key (P-A) (P-B) (by omega) (by omega) (by omega)
  rw[if_neg (by simp[ha,hb]),if_pos ha,if_pos hb,if_pos ha,if_pos hb,show A-P= -(P-A) by omega,show B-P= -(P-B) by omega,Int.neg_tdiv,Int.tdiv_neg,Int.neg_neg,Int.tdiv_eq_ediv_of_nonneg (by omega),Int.emod_eq_of_lt k1 k2]
 ·rw[if_pos (by simp[ha,hb]),if_pos ha,if_neg hb,if_pos ha,if_neg hb,show A-P= -(P-A) by omega,Int.neg_tdiv,Int.tdiv_eq_ediv_of_nonneg (by omega)]
 ·rw[if_pos (by simp[ha,hb]),if_neg ha,if_pos hb,if_neg ha,if_pos hb,show B-P= -(P-B) by omega,Int.tdiv_neg,Int.tdiv_eq_ediv_of_nonneg (by omega)]
 ·obtain⟨k1,k2⟩:=key A B (by omega) (by omega) (by omega)
  rw[if_neg (by simp[ha,hb]),if_neg ha,if_neg hb,if_neg ha,if_neg hb,Int.tdiv_eq_ediv_of_nonneg (by omega),Int.emod_eq_of_lt k1 k2]
theorem Zi3(P A B:Int)(hA:0≤A∧A<P)(hB:0<B∧B<P)(hP:2≤P):
 (if P≤2*A then(-(abP P A%abP P B))%P else abP P A%abP P B)=(sgP P A).tmod (sgP P B)%P:=by
 have key:∀x y:Int,0≤x→0<y→2*y≤P→0≤x%y∧x%y<P:=fun x y hx hy hx2=>⟨Int.emod_nonneg _ (by omega),by have:=Int.emod_lt_of_pos x hy;omega⟩
 have hy:∃y,abP P B=y∧0<y∧2*y≤P∧(sgP P B=y∨sgP P B= -y):=by
  unfold abP sgP
  by_cases hb:P≤2*B
  ·exact⟨P-B,if_pos hb,by omega,by omega,.inr (by rw[if_pos hb];omega)⟩
  ·exact⟨B,if_neg hb,by omega,by omega,.inl (if_neg hb)⟩
 obtain⟨y,e1,y0,y1,e2⟩:=hy
 have e3:∀x:Int,x.tmod (sgP P B)=x.tmod y:=fun x=>by rcases e2 with e|e<;>rw[e];exact Int.tmod_neg _ _
 rw[e1,e3]
 unfold abP sgP
 by_cases ha:P≤2*A
 ·rw[if_pos ha,if_pos ha,if_pos ha,show A-P= -(P-A) by omega,Int.neg_tmod,Int.tmod_eq_emod_of_nonneg (by omega)]
 ·obtain⟨k1,k2⟩:=key A y (by omega) y0 y1
  rw[if_neg ha,if_neg ha,if_neg ha,Int.tmod_eq_emod_of_nonneg (by omega),Int.emod_eq_of_lt k1 k2]
set_option maxHeartbeats 2000000 in
theorem Zew(code:List Int)(r:Bool)(n:Nat)(hn:n=1∨n=2∨n=4)(base tgt tr:Int)(hb:0≤base∧base≤60000)(htg:0≤tgt∧tgt≤60000)(hat:SgnAt code r n base tgt)(hdv:DivAt code r n tgt)(s:Pu)(h:PuOk s)(p q T:Nat)(h0:aR s 0=p)(h1:aR s 1=q)(h7:aR s 7=T)
 (hp:p+n≤65536)(hq:q+n≤65536)(hT:2*n+2≤T∧T<65535)(hdp:p+n≤T-(2*n+2)∨T+1≤p)(hdq:q+n≤T-(2*n+2)∨T+1≤q):
 (val (gM s) q n=0→∃(k:Nat) (s':Pu),Ts code k (mk s base tr) (mk s' (dA n tgt+2) tr)∧k≤100∧PuOk s'∧gM s' T=gM s T)∧
 (val (gM s) q n≠0→∃(k:Nat) (s':Pu),Rout code s s' base tr k p n T (2*n+2)∧k≤6000∧
   val (gM s') p n=(if r=true then(sgP (pw n) (val (gM s) p n)).tmod (sgP (pw n) (val (gM s) q n))else(sgP (pw n) (val (gM s) p n)).tdiv (sgP (pw n) (val (gM s) q n)))%pw n):=by
 obtain⟨⟨m1,m2,m3⟩,⟨l1,l2,l3⟩,z1,z2,z3⟩:=Zex r n hn
 have y1:=Ym (gS1 r n)
 have y2:=Ym (ngN 1 n)
 have y3:=Ym (ngN 0 n)
 have eA:gA r n base=base+Z1 (gS1 r n):=rfl
 have eB:gB r n base=gA r n base+3+2+Z1 (ngN 1 n):=rfl
 have eC:gC r n base=gB r n base+3+2+Z1 (ngN 0 n):=rfl
 have eE:gE r n base=gC r n base+2+3+2+Z1 (ngN 0 n):=rfl
 obtain⟨k1,s1,r1,hk1,o1,a0,a1,f7,keep,vp,vq,hW⟩:=sg_pre code r n hn base tgt tr hb hat s h p q T h0 h1 h7 hp hq (by omega) (by omega) (by omega)
 have hf7:=h.reg 7 (by decide)
 unfold wd at hf7
 have hA7:((aR s 7:Nat):Int)=s.f 7:=by unfold aR;omega
 have a7:aR s1 7=T-(n+1):=by rw[h7]at hA7;unfold aR;rw[f7];omega
 have r2:=Lz (tr:=tr) hat.cl o1 (by omega) (by omega)
 have hl:aR s1 7-1<(stR s1 7 (s1.f 7-1)).mem.length:=by rw[R5,o1.len];omega
 have hpc:wd (gC r n base+2):=by unfold wd;omega
 have o2:PuOk (stM (stR s1 7 (s1.f 7-1)) (aR s1 7-1) (gC r n base+2)):=Pt (Yi o1 (by unfold wd;omega)) hpc
 have g2:∀b,gM (stM (stR s1 7 (s1.f 7-1)) (aR s1 7-1) (gC r n base+2)) b=if b=T-(n+1)-1 then gC r n base+2 else gM s1 b:=fun b=>by rw[W8 hl,a7];rfl
 have b0:aR (stM (stR s1 7 (s1.f 7-1)) (aR s1 7-1) (gC r n base+2)) 0=p:=a0
 have b1:aR (stM (stR s1 7 (s1.f 7-1)) (aR s1 7-1) (gC r n base+2)) 1=T-(n+1):=a1
 have f72:(stM (stR s1 7 (s1.f 7-1)) (aR s1 7-1) (gC r n base+2)).f 7=s.f 7-(n+1:Nat)-1:=by
  show s1.f 7-1=_
  rw[f7]
 have b7:aR (stM (stR s1 7 (s1.f 7-1)) (aR s1 7-1) (gC r n base+2)) 7=T-(n+2):=by rw[h7]at hA7;unfold aR at f72 ⊢;rw[f72];omega
 generalize stM (stR s1 7 (s1.f 7-1)) (aR s1 7-1) (gC r n base+2)=s2 at*
 have vp2:val (gM s2) p n=val (gM s1) p n:=Zy _ _ fun b x y=>by rw[g2,if_neg (by omega)]
 have vq2:val (gM s2) (T-(n+1)) n=val (gM s1) (T-(n+1)) n:=Zy _ _ fun b x y=>by rw[g2,if_neg (by omega)]
 rw[vp]at vp2
 rw[vq]at vq2
 have hpw:=Mk n
 have hpw2:2≤pw n:=by rcases hn with rfl|rfl|rfl<;>decide
 have rgp:=Xl (g:=gM s) n p (fun b=>h.mem b)
 have rgq:=Xl (g:=gM s) n q (fun b=>h.mem b)
 constructor
 ·intro hz
  have hab:abP (pw n) (val (gM s) q n)=0:=by rw[hz];unfold abP;rw[if_neg (by omega)]
  obtain⟨k3,s3,r3,hk3,o3,m3'⟩:=Zh2 code r n hn tgt tr htg hdv s2 o2 (T-(n+1)) b1 (by omega) (by rw[vq2,hab])
  refine⟨_,s3,(r1.trans r2).trans r3,by omega,o3,?_⟩
  rw[m3' T,g2,if_neg (by omega),keep T (by omega) (by omega)]
 ·intro hz
  have hab:0<abP (pw n) (val (gM s) q n):=by unfold abP;split<;>omega
  obtain⟨k3,s3,hR,hk3,f03,v3⟩:=Zh1 code r n hn tgt tr htg hdv s2 o2 p (T-(n+1)) (T-(n+2)) b0 b1 b7 hp (by omega) (by omega) (by omega) (by omega) (by omega) (by rw[vq2];omega)
  rw[vp2,vq2]at v3
  have r3:=hR.run
  rw[show gM s2 (T-(n+2))=gC r n base+2 by rw[g2,if_pos (by omega)]]at r3
  have f73:s3.f 7=s.f 7-(n+1:Nat):=by rw[hR.sp,f72];omega
  have a73:aR s3 7=T-(n+1):=by rw[h7]at hA7;unfold aR;rw[f73];omega
  have a03:aR s3 0=p:=by rw[←b0];unfold aR;rw[f03]
  have keep3:∀b,(b<p∨p+n≤b)→(b<T-(2*n+2)∨T-(n+1)≤b)→gM s3 b=gM s1 b:=fun b x y=>by
   rw[hR.m b x (by omega),g2,if_neg (by omega)]
  have gW:gM s3 (T-(n+1)+n)=gM s1 (T-1):=by
   rw[show T-(n+1)+n=T-1 by omega];exact keep3 _ (by omega) (by omega)
  obtain⟨k4,s4,r4,hk4,c4,v4⟩:=Zbs code n hn (gC r n base+2) (gE r n base) tr 7 n 0 (by decide) (by decide) hat.s6 hat.j6 hat.s7 eE m3 l3 (by omega) s3 hR.ok (by omega) (by omega)
  rw[a73,gW,a03]at v4
  rw[a03]at c4
  simp only[hW]at v4
  have a74:aR s4 7=T-(n+1):=by rw[c4.aR (by decide) (by decide)];exact a73
  have f74:s4.f 7=s.f 7-(n+1:Nat):=by rw[c4.f 7 (by decide) (by decide)];exact f73
  obtain⟨r5,_⟩:=Xv (tr:=tr) _ _ s4 hat.s8 rfl c4.ok (by omega) (by have:Z1 (drI (n+1))=3:=rfl;omega)
  obtain⟨o5,f5,p5,m5⟩:=Zh3 c4.ok (d:=n+1) (by omega)
  have l5:(drI (n+1)).length=2:=rfl
  have z5:Z1 (drI (n+1))=3:=rfl
  rw[l5,z5]at r5
  generalize exL (drI (n+1)) s4=s5 at*
  have f75:s5.f 7=s.f 7:=by rw[p5,f74];omega
  have u7:aR s5 7=T:=by rw[←h7];unfold aR;rw[f75]
  have r6:=Hr (tr:=tr) hat.rt o5 (by omega) (by omega)
  have mm:∀b,(b<p∨p+n≤b)→(b<T-(2*n+2)∨T≤b)→gM s5 b=gM s b:=fun b x y=>by
   rw[m5,c4.m b x,keep3 b x (by omega),keep b x (by omega)]
  rw[show gM s5 (aR s5 7)=gM s T by rw[u7,mm T (by omega) (by omega)]]at r6
  refine⟨_,stR s5 7 (s5.f 7+1),⟨((((r1.trans r2).trans r3).trans r4).trans r5).trans r6,Yi o5 ?_,by rw[Yf,if_pos rfl,f75],fun b x y=>mm b x y⟩,by omega,?_⟩
  ·unfold wd;unfold aR at h7;omega
  ·have e6:val (gM (stR s5 7 (s5.f 7+1))) p n=val (gM s4) p n:=Zy _ _ fun b _ _=>m5 b
   rw[e6,v4,v3]
   cases r
   ·simp only[Bool.false_eq_true,if_false]
    exact Zi1 _ _ _ rgp ⟨by omega,rgq.2⟩ hpw2
   ·simp only[if_true]
    exact Zi3 _ _ _ rgp ⟨by omega,rgq.2⟩ hpw2
end Go.Proofs.YtddmlennnmpnhaaGreatDoor
