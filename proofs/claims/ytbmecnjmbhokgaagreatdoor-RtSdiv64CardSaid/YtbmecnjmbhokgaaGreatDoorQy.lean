/- A part of the proofs of this seat's laws: steps on the way, joined. It has no conditions of its own. -/
import Derived.Test.YtbmecnjmbhokgaaGreatDoorQw
import Derived.Test.YtbmecnjmbhokgaaGreatDoorQx
namespace Go.Proofs.YtbmecnjmbhokgaaGreatDoor
open Go Vc
set_option linter.unusedVariables false
set_option linter.unusedSimpArgs false
theorem Chg.any{s s':Pu}{A n:Nat}(h:Chg s s' 0 0):Chg s s' A n:=⟨h.ok,h.f,fun b _=>h.m b (by omega)⟩
def cpI(d v:Nat):List Ins:=[K9 4 v,Mg 12 d 4]
theorem cp_run{s:Pu}(h:PuOk s){d t v:Nat}(hd:d<8∧d≠4)(ht:s.f d=(t:Int))(hv:v≤65535):PuOk (exL (cpI d v) s)∧(∀i,i≠4→(exL (cpI d v) s).f i=s.f i)∧(exL (cpI d v) s).f 4=(v:Int)∧(exL (cpI d v) s).x.z=decide (t=v)∧(exL (cpI d v) s).x.c=decide (t<v)∧(∀b,gM (exL (cpI d v) s) b=gM s b):=by
 have h3:=h.reg d hd.1
 unfold wd at h3
 simp only[cpI,Yx,Yl]
 rw[Me,Zhw (s:=stR s 4 (v:Int)) (.inl rfl)]
 have e1:(stR s 4 (v:Int)).f d=(t:Int):=by rw[Yi,if_neg hd.2];exact ht
 have e2:(stR s 4 (v:Int)).f 4=(v:Int):=rfl
 rw[e1,e2]
 have e3:twoF 12 (t:Int) (v:Int) (stR s 4 (v:Int)).x=Nx t v false:=by simp only[twoF,Int.reduceEq,↓reduceIte,or_true]
 rw[e3]
 have k1:cI (!false)=1:=rfl
 refine⟨T6 (Yj h ⟨by omega,by omega⟩),fun i i4=>by simp only[Va,Yi,if_neg i4],rfl,?_,?_,fun b=>rfl⟩
 ·rw[K5]
  show decide (Sh t v false=0)=_
  rw[decide_eq_decide];unfold Sh T8;rw[k1];omega
 ·rw[K5]
  show(!decide (65535<(t:Int)+(65535-v)+cI (!false)))=_
  rw[k1]
  by_cases hlt:t<v
  ·rw[decide_eq_true hlt,decide_eq_false (by omega)];rfl
  ·rw[decide_eq_false hlt,decide_eq_true (by omega)];rfl
def shA(n:Nat):List Ins:=[iLd 3 1 0]++cpI 3 (16*n)
def shL(n:Nat)(base:Int):Int:=base+Z1 (shA n)+2+1
def shD(n:Nat)(B:List Ins)(base:Int):Int:=shL n base+3+2+Z1 B+3+2
def shI(n:Nat)(B:List Ins)(base:Int):List Ins:=
 shA n++([⟨22,0,0,shL n base⟩]++([Zfw 3 4]++(cpI 3 0++([⟨20,0,0,shD n B base⟩]++(B++(agI++([⟨19,0,0,shL n base⟩]++[⟨27,0,0,0⟩])))))))
structure ShAt (code:List Int) (n:Nat) (B:List Ins) (base:Int):Prop where
 s1:atB code base (shA n)=true
 j1:atB code (base+Z1 (shA n)) [⟨22,0,0,shL n base⟩]=true
 s2:atB code (base+Z1 (shA n)+2) [Zfw 3 4]=true
 s3:atB code (shL n base) (cpI 3 0)=true
 j2:atB code (shL n base+3) [⟨20,0,0,shD n B base⟩]=true
 s4:atB code (shL n base+3+2) B=true
 s5:atB code (shL n base+3+2+Z1 B) agI=true
 j3:atB code (shL n base+3+2+Z1 B+3) [⟨19,0,0,shL n base⟩]=true
 rt:atB code (shD n B base) [⟨27,0,0,0⟩]=true
theorem ShAt.of{code:List Int}{n:Nat}{B:List Ins}{base:Int}(h:atB code base (shI n B base)=true):ShAt code n B base:=by
 unfold shI at h
 obtain⟨h1,h⟩:=Z6 _ _ _ _ h
 obtain⟨h2,h⟩:=Z6 _ _ _ _ h
 obtain⟨h3,h⟩:=Z6 _ _ _ _ h
 obtain⟨h4,h⟩:=Z6 _ _ _ _ h
 obtain⟨h5,h⟩:=Z6 _ _ _ _ h
 obtain⟨h6,h⟩:=Z6 _ _ _ _ h
 obtain⟨h7,h⟩:=Z6 _ _ _ _ h
 obtain⟨h8,h9⟩:=Z6 _ _ _ _ h
 exact⟨h1,h2,h3,h4,h5,h6,h7,h8,h9⟩
def sgP(P v:Int):Int:=if P≤2*v then v-P else v
theorem Dk{s:Pu}(h:PuOk s)(m p:Nat):32767<gM s (p+m)↔pw (m+1)≤2*val (gM s) p (m+1):=by
 have hr:=Xe (g:=gM s) m p (fun b=>h.mem b)
 have hpp:=O3 m
 have hvt:=V0 (gM s) m p
 have hw:wd (gM s (p+m)):=h.mem _
 unfold wd at hw
 rw[hvt,pw]
 constructor
 ·intro hg
  have:=Int.mul_le_mul_of_nonneg_left (show(32768:Int)≤gM s (p+m) by omega) (Int.le_of_lt hpp)
  omega
 ·intro hg
  refine Int.not_le.1 fun hle=> ?_
  have:=Int.mul_le_mul_of_nonneg_left (show gM s (p+m)≤(32767:Int) by omega) (Int.le_of_lt hpp)
  omega
theorem or_nat(a b:Nat)(ha:a<65536)(hb:b<65536):orI .i64 (a:Int) (b:Int)=((a|||b:Nat):Int)∧a|||b<65536:=by
 have hl:a|||b<65536:=Nat.or_lt_two_pow (n:=16) ha hb
 refine⟨?_,hl⟩
 show IntKind.i64.wrap ((BitVec.ofInt 64 (a:Int)|||BitVec.ofInt 64 (b:Int)).toNat:Nat)=_
 rw[Xb,Xb (b:Int)]
 have e1:((a:Int)%18446744073709551616).toNat=a:=by omega
 have e2:((b:Int)%18446744073709551616).toNat=b:=by omega
 rw[e1,e2,BitVec.toNat_or,BitVec.toNat_ofNat,BitVec.toNat_ofNat,Nat.mod_eq_of_lt (by omega),Nat.mod_eq_of_lt (by omega)]
 exact Zk (by omega) (by omega)
theorem Zgb(a b:Int)(ha:wd a)(hb:wd b):orI .i64 a b%65536=0↔a=0∧b=0:=by
 unfold wd at ha hb
 obtain⟨x,rfl⟩:=Int.eq_ofNat_of_zero_le ha.1
 obtain⟨y,rfl⟩:=Int.eq_ofNat_of_zero_le hb.1
 obtain⟨e,hl⟩:=or_nat x y (by omega) (by omega)
 rw[e,show((x|||y:Nat):Int)%65536=((x|||y:Nat):Int) by omega]
 have:x|||y=0↔x=0∧y=0:=Nat.or_eq_zero_iff
 omega
theorem or_one(a:Int)(ha:wd a)(he:a%2=0):orI .i64 a 1%65536=a+1:=by
 unfold wd at ha
 have:=Bx (a/2) (by omega)
 rw[show 2*(a/2)=a by omega]at this
 rw[this];omega
def orL(ra:Nat):Nat→Nat→List Ins
 |_,0=>[]
 |i,m+1=>[iLd 4 ra i,Mg 10 2 4]++orL ra (i+1) m
theorem Zem(ra:Nat)(hr:ra<8∧ra≠2∧ra≠4):∀(m i:Nat) (s:Pu),PuOk s→aR s ra+i+m≤65536→
 PuOk (exL (orL ra i m) s)∧(∀j,j≠2→j≠4→(exL (orL ra i m) s).f j=s.f j)∧(exL (orL ra i m) s).mem=s.mem∧((exL (orL ra i m) s).f 2=0↔s.f 2=0∧val (gM s) (aR s ra+i) m=0)
 |0,i,s,h,hb=>⟨h,fun _ _ _=>rfl,rfl,by simp[orL,Yl,val]⟩
 |m+1,i,s,h,hb=>by
  have hf:=h.reg ra hr.1
  unfold wd at hf
  have hA:((aR s ra:Nat):Int)=s.f ra:=by unfold aR;omega
  have hw:wd (gM s (aR s ra+i)):=h.mem _
  simp only[orL,Y0,Yx,Yl]
  rw[Rf (s:=s) (d:=4) (r:=ra) (o:=i) (by omega),Mf (by omega)]
  have e1:(stR s 4 (gM s (aR s ra+i))).f 2=s.f 2:=rfl
  have e2:(stR s 4 (gM s (aR s ra+i))).f 4=gM s (aR s ra+i):=rfl
  rw[e1,e2]
  have e3:twoR 10 (s.f 2) (gM s (aR s ra+i)) (stR s 4 (gM s (aR s ra+i))).x=orI .i64 (s.f 2) (gM s (aR s ra+i))%65536:=by simp only[twoR,Int.reduceEq,↓reduceIte,or_self]
  rw[e3]
  have hz:=Zgb (s.f 2) (gM s (aR s ra+i)) (h.reg 2 (by decide)) hw
  have hwr:wd (orI .i64 (s.f 2) (gM s (aR s ra+i))%65536):=P4 _
  generalize orI .i64 (s.f 2) (gM s (aR s ra+i))%65536=R at*
  generalize twoF 10 (s.f 2) (gM s (aR s ra+i)) (stR s 4 (gM s (aR s ra+i))).x=F at*
  have h1:PuOk (stF (stR (stR s 4 (gM s (aR s ra+i))) 2 R) F):=T6 (Yj (Yj h hw) hwr)
  have a1:aR (stF (stR (stR s 4 (gM s (aR s ra+i))) 2 R) F) ra=aR s ra:=by simp only[aR,Va,Yi,if_neg hr.2.1,if_neg hr.2.2]
  obtain⟨o,f,mm,z⟩:=Zem ra hr m (i+1) _ h1 (by rw[a1];omega)
  rw[a1]at z
  refine⟨o,fun j j2 j4=>by rw[f j j2 j4];simp only[Va,Yi,if_neg j2,if_neg j4],mm,?_⟩
  rw[z]
  have g1:(stF (stR (stR s 4 (gM s (aR s ra+i))) 2 R) F).f 2=R:=rfl
  have g2:val (gM (stF (stR (stR s 4 (gM s (aR s ra+i))) 2 R) F)) (aR s ra+(i+1)) m=val (gM s) (aR s ra+i+1) m:=rfl
  rw[g1,g2,hz,val]
  have hv:=Xe (g:=gM s) m (aR s ra+i+1) (fun b=>h.mem b)
  unfold wd at hw
  constructor
  ·rintro⟨⟨a,b⟩,c⟩;exact⟨a,by omega⟩
  ·rintro⟨a,b⟩;exact⟨⟨a,by omega⟩,by omega⟩
def onI:List Ins:=[iLd 2 0 0,K9 4 1,Mg 10 2 4,iSt 0 2 0]
theorem on_run{s:Pu}(h:PuOk s){p:Nat}(h0:aR s 0=p)(hp:p<65536)(he:gM s p%2=0):Chg s (exL onI s) p 1∧gM (exL onI s) p=gM s p+1:=by
 have hf:=h.reg 0 (by decide)
 unfold wd at hf
 have hA:((aR s 0:Nat):Int)=s.f 0:=by unfold aR;omega
 have hw:wd (gM s p):=h.mem _
 have hw2:=hw
 unfold wd at hw2
 simp only[onI,Yx,Yl]
 rw[Rf (s:=s) (d:=2) (r:=0) (o:=0) (by omega),Nat.add_zero,h0,Me,Mf (by omega)]
 have e1:(stR (stR s 2 (gM s p)) 4 ((1:Nat):Int)).f 2=gM s p:=rfl
 have e2:(stR (stR s 2 (gM s p)) 4 ((1:Nat):Int)).f 4=1:=rfl
 rw[e1,e2]
 have e3:twoR 10 (gM s p) 1 (stR (stR s 2 (gM s p)) 4 ((1:Nat):Int)).x=gM s p+1:=by
  rw[←or_one _ hw he];simp only[twoR,Int.reduceEq,↓reduceIte,or_self]
 rw[e3]
 generalize twoF 10 (gM s p) 1 (stR (stR s 2 (gM s p)) 4 ((1:Nat):Int)).x=F at*
 have hw3:wd (gM s p+1):=by unfold wd;omega
 have e4:aR (stF (stR (stR (stR s 2 (gM s p)) 4 ((1:Nat):Int)) 2 (gM s p+1)) F) 0=p:=h0
 have e5:(stF (stR (stR (stR s 2 (gM s p)) 4 ((1:Nat):Int)) 2 (gM s p+1)) F).f 2=gM s p+1:=rfl
 have e6:(stF (stR (stR (stR s 2 (gM s p)) 4 ((1:Nat):Int)) 2 (gM s p+1)) F).f 0=s.f 0:=rfl
 rw[I2 (by rw[e6];omega) (by rw[e5];exact hw3),e4,e5,Nat.add_zero]
 have hl:p<(stF (stR (stR (stR s 2 (gM s p)) 4 ((1:Nat):Int)) 2 (gM s p+1)) F).mem.length:=by rw[len_stF,R5,R5,R5,h.len];exact hp
 refine⟨⟨Qj (T6 (Yj (Yj (Yj h hw) ⟨by decide,by decide⟩) hw3)) hw3,fun i i2 i4=>by simp only[M8,Va,Yi,if_neg i2,if_neg i4],fun b hb=> ?_⟩,?_⟩
 ·rw[Wm hl,if_neg (by omega)];rfl
 ·rw[Wm hl,if_pos rfl]
def dS1(n:Nat):List Ins:=[iLd 2 1 0]++(orL 1 1 (n-1)++cpI 2 0)
def dS2(n:Nat):List Ins:=[K9 2 0]++(pzL n++[K9 3 (16*n)])
def dS3(n:Nat):List Ins:=upN 14 0 0 n++upN 15 7 0 n
def dS5(n:Nat):List Ins:=twN 7 7 1 0 n++onI
def cyL:Nat→Nat→List Ins
 |_,0=>[]
 |i,m+1=>[iLd 2 7 i,iSt 0 2 i]++cyL (i+1) m
def dS6(r:Bool)(n:Nat):List Ins:=(if r then cyL 0 n else[])++drI n
def dA(n:Nat)(base:Int):Int:=base+Z1 (dS1 n)
def dL(n:Nat)(base:Int):Int:=dA n base+2+2+Z1 (dS2 n)
def dJ(n:Nat)(base:Int):Int:=dL n base+Z1 (dS3 n)
def dK(n:Nat)(base:Int):Int:=dJ n base+2+Z1 (cmN 7 1 n)
def dN(n:Nat)(base:Int):Int:=dK n base+2+Z1 (dS5 n)
def dE(n:Nat)(base:Int):Int:=dN n base+3+2
def N8(r:Bool)(n:Nat)(base:Int):List Ins:=
 dS1 n++([⟨21,0,0,dA n base+2+2⟩]++([⟨32,0,0,1⟩]++(dS2 n++(dS3 n++([⟨22,0,0,dK n base+2⟩]++(cmN 7 1 n++([⟨22,0,0,dN n base⟩]++(dS5 n++(agI++([⟨21,0,0,dL n base⟩]++(dS6 r n++[⟨27,0,0,0⟩])))))))))))
structure DivAt (code:List Int) (r:Bool) (n:Nat) (base:Int):Prop where
 s1:atB code base (dS1 n)=true
 j1:atB code (dA n base) [⟨21,0,0,dA n base+2+2⟩]=true
 tr:atB code (dA n base+2) [⟨32,0,0,1⟩]=true
 s2:atB code (dA n base+2+2) (dS2 n)=true
 s3:atB code (dL n base) (dS3 n)=true
 j2:atB code (dJ n base) [⟨22,0,0,dK n base+2⟩]=true
 s4:atB code (dJ n base+2) (cmN 7 1 n)=true
 j3:atB code (dK n base) [⟨22,0,0,dN n base⟩]=true
 s5:atB code (dK n base+2) (dS5 n)=true
 ag:atB code (dN n base) agI=true
 j4:atB code (dN n base+3) [⟨21,0,0,dL n base⟩]=true
 s6:atB code (dE n base) (dS6 r n)=true
 rt:atB code (dE n base+Z1 (dS6 r n)) [⟨27,0,0,0⟩]=true
theorem DivAt.of{code:List Int}{r:Bool}{n:Nat}{base:Int}(h:atB code base (N8 r n base)=true):DivAt code r n base:=by
 unfold N8 at h
 obtain⟨h1,h⟩:=Z6 _ _ _ _ h
 obtain⟨h2,h⟩:=Z6 _ _ _ _ h
 obtain⟨h3,h⟩:=Z6 _ _ _ _ h
 obtain⟨h4,h⟩:=Z6 _ _ _ _ h
 obtain⟨h5,h⟩:=Z6 _ _ _ _ h
 obtain⟨h6,h⟩:=Z6 _ _ _ _ h
 obtain⟨h7,h⟩:=Z6 _ _ _ _ h
 obtain⟨h8,h⟩:=Z6 _ _ _ _ h
 obtain⟨h9,h⟩:=Z6 _ _ _ _ h
 obtain⟨h10,h⟩:=Z6 _ _ _ _ h
 obtain⟨h11,h⟩:=Z6 _ _ _ _ h
 obtain⟨h12,h13⟩:=Z6 _ _ _ _ h
 exact⟨h1,h2,h3,h4,h5,h6,h7,h8,h9,h10,h11,h12,h13⟩
theorem Eb(n:Nat)(hn:n=1∨n=2∨n=4):(dS1 n).all P1=true∧(dS2 n).all P1=true∧(dS3 n).all P1=true∧(cmN 7 1 n).all P1=true∧(dS5 n).all P1=true∧(∀r,(dS6 r n).all P1=true):=by
 rcases hn with rfl|rfl|rfl<;>exact⟨by decide,by decide,by decide,by decide,by decide,fun r=>by cases r<;>decide⟩
theorem M5(n:Nat)(hn:n=1∨n=2∨n=4):((dS1 n).length≤12∧(dS2 n).length≤6∧(dS3 n).length+(cmN 7 1 n).length+(dS5 n).length+5≤64∧∀r,(dS6 r n).length≤10)∧(Z1 (dS1 n)≤100∧Z1 (dS2 n)≤100∧Z1 (dS3 n)≤100∧Z1 (cmN 7 1 n)≤100∧Z1 (dS5 n)≤100∧∀r,Z1 (dS6 r n)≤100):=by
 rcases hn with rfl|rfl|rfl<;>exact⟨⟨by decide,by decide,by decide,fun r=>by cases r<;>decide⟩,by decide,by decide,by decide,by decide,by decide,fun r=>by cases r<;>decide⟩
theorem Zdz(P R Q D c0 R1 Q1 c1 b R2 Q2 q T R' Q':Int)(h1:Q1+P*c0=2*Q)(h2:R1+P*c1=2*R+c0)(h3:R2+b*D=R1+P*c1)(h4:Q2=Q1+b)(h5:(R2*P+Q2)*T=(q*D+R')*P+(Q'-q)):
 (R*P+Q)*(T*2)=((q+b*T)*D+R')*P+(Q'-(q+b*T)):=by grind
theorem dv_end(P Q R D q A:Int)(hP:0<P)(hQ:0≤Q∧Q<P)(hq:0≤q∧q<P)(hR:0≤R∧R<D)(h:A*P=(q*D+R)*P+(Q-q)):Q=A/D∧R=A%D:=by
 have e1:(A-(q*D+R))*P=Q-q:=by grind
 have e2:A-(q*D+R)=0:=by
  rcases Int.lt_trichotomy (A-(q*D+R)) 0 with hl|hl|hl
  ·have:=Int.mul_le_mul_of_nonneg_right (show A-(q*D+R)≤ -1 by omega) (Int.le_of_lt hP)
   omega
  ·exact hl
  ·have:=Int.mul_le_mul_of_nonneg_right (show 1≤A-(q*D+R) by omega) (Int.le_of_lt hP)
   omega
 rw[e2,Int.zero_mul]at e1
 have e3:A=R+D*q:=by rw[Int.mul_comm D q];omega
 have hD:0<D:=by omega
 constructor
 ·rw[e3,Int.add_mul_ediv_left _ _ (by omega),Int.ediv_eq_zero_of_lt hR.1 hR.2];omega
 ·rw[e3,Int.add_mul_emod_self_left,Int.emod_eq_of_lt hR.1 hR.2]
structure DvK (s s':Pu) (p u n:Nat):Prop where
 ok:PuOk s'
 f:∀i,i≠2→i≠3→i≠4→s'.f i=s.f i
 m:∀b,(b<p∨p+n≤b)→(b<u∨u+n≤b)→gM s' b=gM s b
theorem DvK.trans{s s1 s2:Pu}{p u n:Nat}(h:DvK s s1 p u n)(h2:DvK s1 s2 p u n):DvK s s2 p u n:=⟨h2.ok,fun i a b c=>(h2.f i a b c).trans (h.f i a b c),fun b x y=>(h2.m b x y).trans (h.m b x y)⟩
theorem DvK.aR{s s':Pu}{p u n:Nat}(h:DvK s s' p u n){r:Nat}(h2:r≠2)(h3:r≠3)(h4:r≠4):aR s' r=aR s r:=by unfold Proofs.YtbmecnjmbhokgaaGreatDoor.aR;rw[h.f r h2 h3 h4]
theorem Chg.dvL{s s':Pu}{p u n:Nat}(h:Chg s s' p n):DvK s s' p u n:=⟨h.ok,fun i a _ c=>h.f i a c,fun b x _=>h.m b x⟩
theorem Chg.dvR{s s':Pu}{p u n:Nat}(h:Chg s s' u n):DvK s s' p u n:=⟨h.ok,fun i a _ c=>h.f i a c,fun b _ y=>h.m b y⟩
theorem dv_step(code:List Int)(r:Bool)(n:Nat)(hn:n=1∨n=2∨n=4)(base tr:Int)(hb:0≤base∧base≤60000)(hat:DivAt code r n base)(p q u:Nat)(hp:p+n≤65536)(hq:q+n≤65536)(hu:u+n≤65536)(hpu:p+n≤u∨u+n≤p)(hqu:q+n≤u∨u+n≤q)(hpq:p+n≤q∨q+n≤p)
 (s:Pu)(h:PuOk s)(t:Nat)(h3:s.f 3=((t+1:Nat):Int))(h0:aR s 0=p)(h1:aR s 1=q)(h7:aR s 7=u)(hR:val (gM s) u n<val (gM s) q n):
 ∃(k:Nat) (s':Pu) (c0 R1 Q1 c1 b:Int),Td code k (mk s (dL n base) tr) (mk s' (if t=0 then dE n base else dL n base) tr)∧k≤64∧DvK s s' p u n∧s'.f 3=(t:Int)∧(b=0∨b=1)∧Q1+pw n*c0=2*val (gM s) p n∧R1+pw n*c1=2*val (gM s) u n+c0∧
  val (gM s') u n+b*val (gM s) q n=R1+pw n*c1∧val (gM s') p n=Q1+b∧val (gM s') u n<val (gM s) q n:=by
 obtain⟨m1,m2,m3,m4,m5,m6⟩:=Eb n hn
 obtain⟨⟨l1,l2,l3,l4⟩,z1,z2,z3,z4,z5,z6⟩:=M5 n hn
 have y1:=Z9 (dS1 n)
 have y2:=Z9 (dS2 n)
 have y3:=Z9 (dS3 n)
 have y4:=Z9 (cmN 7 1 n)
 have y5:=Z9 (dS5 n)
 have hn0:0<n:=by omega
 obtain⟨n',hn'⟩:∃m,n=m+1:=⟨n-1,by omega⟩
 have eA:dA n base=base+Z1 (dS1 n):=rfl
 have eL:dL n base=dA n base+2+2+Z1 (dS2 n):=rfl
 have eJ:dJ n base=dL n base+Z1 (dS3 n):=rfl
 have eK:dK n base=dJ n base+2+Z1 (cmN 7 1 n):=rfl
 have eN:dN n base=dK n base+2+Z1 (dS5 n):=rfl
 have eE:dE n base=dN n base+3+2:=rfl
 obtain⟨r1,_⟩:=Xu (tr:=tr) _ _ s hat.s3 m3 h (by omega) (by omega)
 have x1:exL (dS3 n) s=exL (upN 15 7 0 n) (exL (upN 14 0 0 n) s):=Y0 _ _ _
 rw[x1]at r1
 obtain⟨c1,e1⟩:=Dn 14 (.inl rfl) 0 (by decide) n 0 hn0 s h (by omega)
 rw[Nat.add_zero,h0]at c1 e1
 generalize exL (upN 14 0 0 n) s=sa at*
 have a7:aR sa 7=u:=by rw[c1.aR (by decide) (by decide)];exact h7
 obtain⟨c2,e2⟩:=Dn 15 (.inr rfl) 7 (by decide) n 0 hn0 sa c1.ok (by omega)
 rw[Nat.add_zero,a7]at c2 e2
 generalize exL (upN 15 7 0 n) sa=sb at*
 simp only[↓reduceIte,Int.add_zero]at e1
 rw[if_neg (by decide)]at e2
 have gU:val (gM sa) u n=val (gM s) u n:=Zt _ _ fun b h1 h2=>c1.m b (by omega)
 have gP:val (gM sb) p n=val (gM sa) p n:=Zt _ _ fun b h1 h2=>c2.m b (by omega)
 have gD:val (gM sb) q n=val (gM s) q n:=Zt _ _ fun b h1 h2=>(c2.m b (by omega)).trans (c1.m b (by omega))
 rw[gU]at e2
 have kb:DvK s sb p u n:=c1.dvL.trans c2.dvR
 have b0:aR sb 0=p:=by rw[kb.aR (by decide) (by decide) (by decide)];exact h0
 have b1:aR sb 1=q:=by rw[kb.aR (by decide) (by decide) (by decide)];exact h1
 have b7:aR sb 7=u:=by rw[kb.aR (by decide) (by decide) (by decide)];exact h7
 have b3:sb.f 3=((t+1:Nat):Int):=by rw[c2.f 3 (by decide) (by decide),c1.f 3 (by decide) (by decide)];exact h3
 have hpw:=O3 n
 have rgR:=Xe (g:=gM sb) n u (fun b=>c2.ok.mem b)
 have rgD:=Xe (g:=gM s) n q (fun b=>h.mem b)
 have rgU:=Xe (g:=gM s) n u (fun b=>h.mem b)
 have ci0:=N7 sa.x.c
 have ci1:=N7 sb.x.c
 have r2:=Tt (tr:=tr) (.inr (.inr (.inr (.inl rfl)))) hat.j2 c2.ok (by omega)
 have take:val (gM s) q n≤val (gM sb) u n+pw n*cI sb.x.c→∀sc:Pu,Chg sb sc 0 0→∃(k:Nat) (s':Pu),Td code k (mk sc (dK n base+2) tr) (mk s' (dN n base) tr)∧k≤(dS5 n).length∧DvK s s' p u n∧s'.f 3=((t+1:Nat):Int)∧val (gM s') u n+val (gM s) q n=val (gM sb) u n+pw n*cI sb.x.c∧val (gM s') p n=val (gM sb) p n+1:=by
  intro hge sc cc
  have mc:∀b,gM sc b=gM sb b:=fun b=>cc.m b (by omega)
  have vc:∀a,val (gM sc) a n=val (gM sb) a n:=fun a=>Zt _ _ fun b _ _=>mc b
  have d0:aR sc 0=p:=by rw[cc.aR (by decide) (by decide)];exact b0
  have d1:aR sc 1=q:=by rw[cc.aR (by decide) (by decide)];exact b1
  have d7:aR sc 7=u:=by rw[cc.aR (by decide) (by decide)];exact b7
  obtain⟨r3,_⟩:=Xu (tr:=tr) _ _ sc hat.s5 m5 cc.ok (by omega) (by omega)
  have x3:exL (dS5 n) sc=exL onI (exL (twN 7 7 1 0 n) sc):=Y0 _ _ _
  rw[x3]at r3
  obtain⟨c3,e3⟩:=Zex 7 (.inr rfl) 7 1 (by decide) (by decide) n 0 hn0 sc cc.ok (by omega) (by omega) (by omega)
  rw[Nat.add_zero,d7,d1]at e3
  rw[d7]at c3
  have e3':val (gM (exL (twN 7 7 1 0 n) sc)) u n-pw n*cI (exL (twN 7 7 1 0 n) sc).x.c=val (gM sc) u n-val (gM sc) q n-cI false:=e3
  rw[vc,vc,W9,gD]at e3'
  generalize exL (twN 7 7 1 0 n) sc=sd at*
  have g0:aR sd 0=p:=by rw[c3.aR (by decide) (by decide)];exact d0
  have mp:∀b,p≤b→b<p+n→gM sd b=gM sb b:=fun b x y=>(c3.m b (by omega)).trans (mc b)
  have hev:gM sd p%2=0:=by
   rw[mp p (Nat.le_refl _) (by omega)]
   have:gM sb p=gM sa p:=c2.m p (by omega)
   rw[this]
   have e4:=e1
   rw[hn']at e4
   simp only[val,pw,Lw]at e4
   omega
  obtain⟨c4,e4⟩:=on_run c3.ok g0 (by omega) hev
  generalize exL onI sd=se at*
  have rgU2:=Xe (g:=gM sd) n u (fun b=>c3.ok.mem b)
  have ci2:=N7 sd.x.c
  refine⟨_,se,r3,Nat.le_refl _,?_,?_,?_,?_⟩
  ·exact kb.trans (cc.any.dvR.trans (c3.dvR.trans (c4.wider (A':=p) (n':=n) (by omega) (by omega)).dvL))
  ·rw[c4.f 3 (by decide) (by decide),c3.f 3 (by decide) (by decide),cc.f 3 (by decide) (by decide)];exact b3
  ·have e5:val (gM se) u n=val (gM sd) u n:=Zt _ _ fun b x y=>c4.m b (by omega)
   rw[e5]
   have hcc:cI sd.x.c=cI sb.x.c:=by
    have hp0:∀c:Bool,pw n*cI c=if c then pw n else 0:=fun c=>by cases c<;>simp[cI]
    rw[hp0]at e3' hge
    have:sd.x.c=sb.x.c:=by
     rw[hp0]at e2
     cases h1:sd.x.c<;>cases h2:sb.x.c<;>rw[h1]at e3'<;>rw[h2]at hge e2<;>simp only[Bool.false_eq_true,↓reduceIte]at e3' hge e2
     ·omega
     ·have:=N7 sa.x.c;omega
    rw[this]
   rw[hcc]at e3'
   omega
  ·have e6:val (gM se) p n=val (gM sd) p n+1:=by
    rw[hn']
    simp only[val]
    rw[e4,Zt (g:=gM se) (h:=gM sd) n' (p+1) fun b x y=>c4.m b (by omega)]
    omega
   rw[e6,Zt n p fun b x y=>mp b x y]
 have mid:∃(k:Nat) (s':Pu) (b:Int),Td code k (mk sb (if Vb 22 sb.x=true then dK n base+2 else dJ n base+2) tr) (mk s' (dN n base) tr)∧k≤(cmN 7 1 n).length+(dS5 n).length+1∧DvK s s' p u n∧s'.f 3=((t+1:Nat):Int)∧(b=0∨b=1)∧val (gM s') u n+b*val (gM s) q n=val (gM sb) u n+pw n*cI sb.x.c∧val (gM s') p n=val (gM sb) p n+b∧val (gM s') u n<val (gM s) q n:=by
  cases hc:sb.x.c
  ·have hg:¬Vb 22 sb.x=true:=by simp[Vb,hc]
   rw[if_neg hg]
   obtain⟨r3,_⟩:=Xu (tr:=tr) _ _ sb hat.s4 m4 c2.ok (by omega) (by omega)
   obtain⟨c3,e3⟩:=cmN_run 7 1 (by decide) (by decide) n hn0 sb c2.ok (by omega) (by omega)
   rw[b7,b1,gD]at e3
   generalize exL (cmN 7 1 n) sb=sc at*
   have r4:=Tt (tr:=tr) (.inr (.inr (.inr (.inl rfl)))) hat.j3 c3.ok (by omega)
   have mc:∀b,gM sc b=gM sb b:=fun b=>c3.m b (by omega)
   have vc:∀a,val (gM sc) a n=val (gM sb) a n:=fun a=>Zt _ _ fun b _ _=>mc b
   by_cases hlt:val (gM sb) u n<val (gM s) q n
   ·have hg:Vb 22 sc.x=true:=by simp[Vb,e3,hlt]
    rw[if_pos hg]at r4
    refine⟨_,sc,0,r3.trans r4,by omega,kb.trans c3.any.dvR,by rw[c3.f 3 (by decide) (by decide)];exact b3,.inl rfl,?_,?_,?_⟩
    ·rw[vc,W9];omega
    ·rw[vc];omega
    ·rw[vc];exact hlt
   ·have hg:¬Vb 22 sc.x=true:=by simp[Vb,e3,hlt]
    rw[if_neg hg]at r4
    obtain⟨k,s',r5,hk,hK,f3,eU,eP⟩:=take (by rw[hc,W9];omega) sc c3
    refine⟨_,s',1,(r3.trans r4).trans r5,by omega,hK,f3,.inr rfl,by rw[hc]at eU;omega,eP,?_⟩
    rw[hc,W9]at eU e2
    omega
  ·have hg:Vb 22 sb.x=true:=by simp[Vb,hc]
   rw[if_pos hg]
   obtain⟨k,s',r5,hk,hK,f3,eU,eP⟩:=take (by rw[hc,Jm];omega) sb (Chg.rfl' c2.ok _ _)
   refine⟨_,s',1,r5,by omega,hK,f3,.inr rfl,by rw[hc]at eU;omega,eP,?_⟩
   rw[hc]at eU e2
   omega
 obtain⟨k3,s3,b,r3,hk3,hK,f3,hb1,eU,eP,hlt⟩:=mid
 obtain⟨r4,_⟩:=Xu (tr:=tr) _ _ s3 hat.ag (by decide) hK.ok (by omega) (by have:Z1 agI=3:=rfl;omega)
 obtain⟨o4,p4,q4,zz,m4'⟩:=Zhi hK.ok f3
 have l4':agI.length=2:=rfl
 have z4':Z1 agI=3:=rfl
 rw[l4',z4']at r4
 generalize exL agI s3=s4 at*
 have r5:=Tt (tr:=tr) (.inr (.inr (.inl rfl))) hat.j4 o4 (by omega)
 have v4:∀a,val (gM s4) a n=val (gM s3) a n:=fun a=>Zt _ _ fun b _ _=>m4' b
 have hto:(if Vb 21 s4.x=true then dL n base else dN n base+3+2)=(if t=0 then dE n base else dL n base):=by
  by_cases h0:t=0
  ·have hg:¬Vb 21 s4.x=true:=by simp[Vb,zz,h0]
   rw[if_neg hg,if_pos h0];rfl
  ·have hg:Vb 21 s4.x=true:=by simp[Vb,zz,h0]
   rw[if_pos hg,if_neg h0]
 rw[hto]at r5
 refine⟨_,s4,cI sa.x.c,val (gM sb) u n,val (gM sb) p n,cI sb.x.c,b,(((r1.trans r2).trans r3).trans r4).trans r5,by omega,hK.trans ⟨o4,fun i _ i3 i4=>p4 i i3 i4,fun b _ _=>m4' b⟩,q4,hb1,by rw[gP];exact e1,e2,by rw[v4];exact eU,by rw[v4];exact eP,by rw[v4];exact hlt⟩
theorem Zdy(code:List Int)(r:Bool)(n:Nat)(hn:n=1∨n=2∨n=4)(base tr:Int)(hb:0≤base∧base≤60000)(hat:DivAt code r n base)(p q u:Nat)(hp:p+n≤65536)(hq:q+n≤65536)(hu:u+n≤65536)(hpu:p+n≤u∨u+n≤p)(hqu:q+n≤u∨u+n≤q)(hpq:p+n≤q∨q+n≤p):
 ∀(t:Nat) (s:Pu),PuOk s→s.f 3=((t+1:Nat):Int)→aR s 0=p→aR s 1=q→aR s 7=u→val (gM s) u n<val (gM s) q n→
  ∃(k:Nat) (s':Pu) (qq:Int),Td code k (mk s (dL n base) tr) (mk s' (dE n base) tr)∧k≤(t+1)*64∧DvK s s' p u n∧(0≤qq∧qq<2^(t+1))∧val (gM s') u n<val (gM s) q n∧
   (val (gM s) u n*pw n+val (gM s) p n)*2^(t+1)=(qq*val (gM s) q n+val (gM s') u n)*pw n+(val (gM s') p n-qq)
 |t,s,h,h3,h0,h1,h7,hR=>by
  obtain⟨k,s1,c0,R1,Q1,c1,b,r1,hk,hK,f3,hb1,e1,e2,e3,e4,hlt⟩:=dv_step code r n hn base tr hb hat p q u hp hq hu hpu hqu hpq s h t h3 h0 h1 h7 hR
  have hD:val (gM s1) q n=val (gM s) q n:=Zt _ _ fun b x y=>hK.m b (by omega) (by omega)
  match t,h3,f3,r1 with
  |0,_,_,r1=>
   rw[if_pos rfl]at r1
   refine⟨_,s1,b,r1,by omega,hK,by rcases hb1 with rfl|rfl<;>decide,hlt,?_⟩
   have:=Zdz (pw n) (val (gM s) u n) (val (gM s) p n) (val (gM s) q n) c0 R1 Q1 c1 b (val (gM s1) u n) (val (gM s1) p n) 0 1 (val (gM s1) u n) (val (gM s1) p n) e1 e2 e3 e4 (by grind)
   rw[Int.zero_add,Int.mul_one,Int.one_mul]at this
   exact this
  |t+1,_,f3,r1=>
   rw[if_neg (by omega)]at r1
   have w0:aR s1 0=p:=by rw[hK.aR (by decide) (by decide) (by decide)];exact h0
   have w1:aR s1 1=q:=by rw[hK.aR (by decide) (by decide) (by decide)];exact h1
   have w7:aR s1 7=u:=by rw[hK.aR (by decide) (by decide) (by decide)];exact h7
   obtain⟨k2,s2,qq,r2,hk2,hK2,hq2,hlt2,e5⟩:=Zdy code r n hn base tr hb hat p q u hp hq hu hpu hqu hpq t s1 hK.ok f3 w0 w1 w7 (by rw[hD];exact hlt)
   rw[hD]at hlt2 e5
   refine⟨_,s2,qq+b*2^(t+1),r1.trans r2,by omega,hK.trans hK2,?_,hlt2,?_⟩
   ·rw[Int.pow_succ 2 (t+1)]
    rcases hb1 with rfl|rfl<;>omega
   ·have:=Zdz (pw n) (val (gM s) u n) (val (gM s) p n) (val (gM s) q n) c0 R1 Q1 c1 b (val (gM s1) u n) (val (gM s1) p n) qq (2^(t+1)) (val (gM s2) u n) (val (gM s2) p n) e1 e2 e3 e4 e5
    rw[Int.pow_succ 2 (t+1)];exact this
theorem Zdr(p u:Nat):∀(m i:Nat) (s:Pu),PuOk s→aR s 0=p→aR s 7=u→p+i+m≤65536→u+i+m≤65536→(p+i+m≤u+i∨u+i+m≤p+i)→
 Chg s (exL (cyL i m) s) (p+i) m∧val (gM (exL (cyL i m) s)) (p+i) m=val (gM s) (u+i) m
 |0,i,s,h,_,_,_,_,_=>⟨Chg.rfl' h _ _,rfl⟩
 |m+1,i,s,h,h0,h7,hp,hu,hd=>by
  have hf:=h.reg 0 (by decide)
  have hf7:=h.reg 7 (by decide)
  unfold wd at hf hf7
  have hA:((aR s 0:Nat):Int)=s.f 0:=by unfold aR;omega
  have hA7:((aR s 7:Nat):Int)=s.f 7:=by unfold aR;omega
  have hw:wd (gM s (u+i)):=h.mem _
  simp only[cyL,Y0,Yx,Yl]
  rw[Rf (s:=s) (d:=2) (r:=7) (o:=i) (by omega),h7]
  have e1:(stR s 2 (gM s (u+i))).f 0=s.f 0:=rfl
  have e2:(stR s 2 (gM s (u+i))).f 2=gM s (u+i):=rfl
  have e3:aR (stR s 2 (gM s (u+i))) 0=p:=h0
  rw[I2 (by rw[e1];omega) (by rw[e2];exact hw),e2,e3]
  have hl:p+i<(stR s 2 (gM s (u+i))).mem.length:=by rw[R5,h.len];omega
  have c1:Chg s (stM (stR s 2 (gM s (u+i))) (p+i) (gM s (u+i))) (p+i) 1:=⟨Qj (Yj h hw) hw,fun j j2 _=>by simp only[M8,Yi,if_neg j2],fun b hb=>by rw[Wm hl,if_neg (by omega)];rfl⟩
  have g1:gM (stM (stR s 2 (gM s (u+i))) (p+i) (gM s (u+i))) (p+i)=gM s (u+i):=by rw[Wm hl,if_pos rfl]
  generalize stM (stR s 2 (gM s (u+i))) (p+i) (gM s (u+i))=s1 at*
  obtain⟨c2,e4⟩:=Zdr p u m (i+1) s1 c1.ok (by rw[c1.aR (by decide) (by decide)];exact h0) (by rw[c1.aR (by decide) (by decide)];exact h7) (by omega) (by omega) (by omega)
  generalize exL (cyL (i+1) m) s1=s2 at*
  refine⟨(c1.wider (by omega) (by omega)).trans (c2.wider (by omega) (by omega)),?_⟩
  simp only[val]
  rw[c2.m (p+i) (by omega),g1,show p+i+1=p+(i+1) by omega,e4]
  rw[show u+(i+1)=u+i+1 by omega]
  congr 2
  exact Zt _ _ fun b x y=>c1.m b (by omega)
theorem Gx(n:Nat)(hn:n=1∨n=2∨n=4)(s:Pu)(h:PuOk s)(q:Nat)(h1:aR s 1=q)(hq:q+n≤65536):
 PuOk (exL (dS1 n) s)∧(∀j,j≠2→j≠4→(exL (dS1 n) s).f j=s.f j)∧(∀b,gM (exL (dS1 n) s) b=gM s b)∧(exL (dS1 n) s).x.z=decide (val (gM s) q n=0):=by
 obtain⟨m,rfl⟩:∃m,n=m+1:=⟨n-1,by omega⟩
 have hf:=h.reg 1 (by decide)
 unfold wd at hf
 have hA:((aR s 1:Nat):Int)=s.f 1:=by unfold aR;omega
 have hw:wd (gM s q):=h.mem _
 simp only[dS1,Y0,Yx,Yl,Nat.add_sub_cancel]
 rw[Rf (s:=s) (d:=2) (r:=1) (o:=0) (by omega),h1,Nat.add_zero]
 have hs1:=Yj h (r:=2) hw
 have a1:aR (stR s 2 (gM s q)) 1=q:=h1
 obtain⟨o1,f1,m1,z1⟩:=Zem 1 (by decide) m 1 (stR s 2 (gM s q)) hs1 (by omega)
 rw[a1]at z1
 have e2:(stR s 2 (gM s q)).f 2=gM s q:=rfl
 have e3:val (gM (stR s 2 (gM s q))) (q+1) m=val (gM s) (q+1) m:=rfl
 rw[e2,e3]at z1
 generalize exL (orL 1 1 m) (stR s 2 (gM s q))=s1 at*
 have hw2:=o1.reg 2 (by decide)
 unfold wd at hw2 hw
 obtain⟨o2,f2,_,z2,_,m2⟩:=cp_run o1 (d:=2) (t:=(s1.f 2).toNat) (v:=0) (by decide) (by omega) (by decide)
 refine⟨o2,fun j j2 j4=> ?_,fun b=> ?_,?_⟩
 ·rw[f2 j j4,f1 j j2 j4,Yi,if_neg j2]
 ·rw[m2 b];unfold gM;rw[m1];rfl
 ·rw[z2,decide_eq_decide,val]
  have hv:=Xe (g:=gM s) m (q+1) (fun b=>h.mem b)
  constructor
  ·intro h2
   obtain⟨x,y⟩:=z1.1 (by omega)
   omega
  ·intro h2
   have:=z1.2 ⟨by omega,by omega⟩
   omega
theorem Cm(code:List Int)(r:Bool)(n:Nat)(hn:n=1∨n=2∨n=4)(base tr:Int)(hb:0≤base∧base≤60000)(hat:DivAt code r n base)(s:Pu)(h:PuOk s)(q:Nat)(h1:aR s 1=q)(hq:q+n≤65536)(hD:val (gM s) q n=0):
 ∃(k:Nat) (s':Pu),Td code k (mk s base tr) (mk s' (dA n base+2) tr)∧k≤13∧PuOk s'∧(∀b,gM s' b=gM s b):=by
 obtain⟨m1,m2,m3,m4,m5,m6⟩:=Eb n hn
 obtain⟨⟨l1,l2,l3,l4⟩,z1,z2,z3,z4,z5,z6⟩:=M5 n hn
 have y1:=Z9 (dS1 n)
 have eA:dA n base=base+Z1 (dS1 n):=rfl
 obtain⟨r1,_⟩:=Xu (tr:=tr) _ _ s hat.s1 m1 h (by omega) (by omega)
 obtain⟨o1,f1,g1,z1'⟩:=Gx n hn s h q h1 hq
 generalize exL (dS1 n) s=s1 at*
 have r2:=Tt (tr:=tr) (.inr (.inr (.inl rfl))) hat.j1 o1 (by omega)
 have hg:¬Vb 21 s1.x=true:=by simp[Vb,z1',hD]
 rw[if_neg hg]at r2
 exact⟨_,s1,r1.trans r2,by omega,o1,g1⟩
set_option maxHeartbeats 2000000 in
theorem Ck(code:List Int)(r:Bool)(n:Nat)(hn:n=1∨n=2∨n=4)(base tr:Int)(hb:0≤base∧base≤60000)(hat:DivAt code r n base)(s:Pu)(h:PuOk s)(p q T:Nat)(h0:aR s 0=p)(h1:aR s 1=q)(h7:aR s 7=T)
 (hp:p+n≤65536)(hq:q+n≤65536)(hT:n≤T∧T<65535)(hdp:p+n≤T-n∨T+1≤p)(hdq:q+n≤T-n∨T+1≤q)(hpq:p+n≤q∨q+n≤p)(hD:val (gM s) q n≠0):
 ∃(k:Nat) (s':Pu),Rout code s s' base tr k p n T n∧k≤5000∧s'.f 0=s.f 0∧val (gM s') p n=(if r=true then val (gM s) p n%val (gM s) q n else val (gM s) p n/val (gM s) q n):=by
 obtain⟨m1,m2,m3,m4,m5,m6⟩:=Eb n hn
 obtain⟨⟨l1,l2,l3,l4⟩,z1,z2,z3,z4,z5,z6⟩:=M5 n hn
 have l6:=l4 r
 have z7:=z6 r
 have y1:=Z9 (dS1 n)
 have y2:=Z9 (dS2 n)
 have y3:=Z9 (dS3 n)
 have y4:=Z9 (cmN 7 1 n)
 have y5:=Z9 (dS5 n)
 have y6:=Z9 (dS6 r n)
 have eA:dA n base=base+Z1 (dS1 n):=rfl
 have eL:dL n base=dA n base+2+2+Z1 (dS2 n):=rfl
 have eJ:dJ n base=dL n base+Z1 (dS3 n):=rfl
 have eK:dK n base=dJ n base+2+Z1 (cmN 7 1 n):=rfl
 have eN:dN n base=dK n base+2+Z1 (dS5 n):=rfl
 have eE:dE n base=dN n base+3+2:=rfl
 obtain⟨r1,_⟩:=Xu (tr:=tr) _ _ s hat.s1 m1 h (by omega) (by omega)
 obtain⟨o1,f1,g1,zz1⟩:=Gx n hn s h q h1 hq
 generalize exL (dS1 n) s=s1 at*
 have r2:=Tt (tr:=tr) (.inr (.inr (.inl rfl))) hat.j1 o1 (by omega)
 have hg:Vb 21 s1.x=true:=by simp[Vb,zz1,hD]
 rw[if_pos hg]at r2
 obtain⟨r3,o3⟩:=Xu (tr:=tr) _ _ s1 hat.s2 m2 o1 (by omega) (by omega)
 have x3:exL (dS2 n) s1=stR (exL (pzL n) (stR s1 2 0)) 3 ((16*n:Nat):Int):=by
  simp only[dS2,Y0,Yx,Yl,Me];rfl
 rw[x3]at r3 o3
 have hs1:=Yj o1 (r:=2) (v:=0) ⟨by decide,by decide⟩
 have b7:aR (stR s1 2 0) 7=T:=by rw[←h7];unfold aR;rw[Yi,if_neg (by decide),f1 7 (by decide) (by decide)]
 obtain⟨c2,v2⟩:=Zeq n (stR s1 2 0) hs1 (by omega) rfl
 have a7:=c2.ar7 hs1 (by omega)
 rw[b7]at c2 v2 a7
 generalize exL (pzL n) (stR s1 2 0)=sB at*
 have ff:∀i,i≠2→i≠4→i≠7→i≠3→(stR sB 3 ((16*n:Nat):Int)).f i=s.f i:=fun i i2 i4 i7 i3=>by
  rw[Yi,if_neg i3,c2.f i i2 i4 i7,Yi,if_neg i2,f1 i i2 i4]
 have w0:aR (stR sB 3 ((16*n:Nat):Int)) 0=p:=by rw[←h0];unfold aR;rw[ff 0 (by decide) (by decide) (by decide) (by decide)]
 have w1:aR (stR sB 3 ((16*n:Nat):Int)) 1=q:=by rw[←h1];unfold aR;rw[ff 1 (by decide) (by decide) (by decide) (by decide)]
 have w7:aR (stR sB 3 ((16*n:Nat):Int)) 7=T-n:=by rw[←a7];unfold aR;rw[Yi,if_neg (by decide)]
 have e7:(stR sB 3 ((16*n:Nat):Int)).f 7=s.f 7-n:=by
  rw[Yi,if_neg (by decide),c2.sp,Yi,if_neg (by decide),f1 7 (by decide) (by decide)]
 have keep:∀b,(b<T-n∨T≤b)→gM (stR sB 3 ((16*n:Nat):Int)) b=gM s b:=fun b hb=>by
  show gM sB b=_
  rw[c2.m b (by omega),Zbj,g1 b]
 have gu:val (gM (stR sB 3 ((16*n:Nat):Int))) (T-n) n=0:=v2
 have gp:val (gM (stR sB 3 ((16*n:Nat):Int))) p n=val (gM s) p n:=Zt _ _ fun b x y=>keep b (by omega)
 have gq:val (gM (stR sB 3 ((16*n:Nat):Int))) q n=val (gM s) q n:=Zt _ _ fun b x y=>keep b (by omega)
 have g3:(stR sB 3 ((16*n:Nat):Int)).f 3=((16*n-1+1:Nat):Int):=by rw[Yi,if_pos rfl];omega
 generalize stR sB 3 ((16*n:Nat):Int)=s2 at*
 have rgD:=Xe (g:=gM s) n q (fun b=>h.mem b)
 obtain⟨k3,s3,qq,r4,hk3,hK,hqq,hlt,e3⟩:=Zdy code r n hn base tr hb hat p q (T-n) hp hq (by omega) (by omega) (by omega) (by omega) (16*n-1) s2 o3 g3 w0 w1 w7 (by rw[gu,gq];omega)
 rw[gu,gp,gq,Int.zero_mul,Int.zero_add,show 16*n-1+1=16*n by omega,←E6]at e3
 rw[show 16*n-1+1=16*n by omega,←E6]at hqq
 rw[gq]at hlt
 have rgP:=Xe (g:=gM s3) n p (fun b=>hK.ok.mem b)
 have rgU:=Xe (g:=gM s3) n (T-n) (fun b=>hK.ok.mem b)
 obtain⟨eQ,eR⟩:=dv_end _ _ _ _ _ _ (O3 n) rgP hqq ⟨rgU.1,hlt⟩ e3
 have d0:aR s3 0=p:=by rw[hK.aR (by decide) (by decide) (by decide)];exact w0
 have d7:aR s3 7=T-n:=by rw[hK.aR (by decide) (by decide) (by decide)];exact w7
 have f37:s3.f 7=s.f 7-n:=by rw[hK.f 7 (by decide) (by decide) (by decide),e7]
 obtain⟨r5,_⟩:=Xu (tr:=tr) _ _ s3 hat.s6 (m6 r) hK.ok (by omega) (by omega)
 have fin:∃s4:Pu,exL (dS6 r n) s3=exL (drI n) s4∧Chg s3 s4 p n∧val (gM s4) p n=(if r=true then val (gM s) p n%val (gM s) q n else val (gM s) p n/val (gM s) q n):=by
  cases r
  ·exact⟨s3,by simp only[dS6,Bool.false_eq_true,if_false,List.nil_append],Chg.rfl' hK.ok _ _,by rw[if_neg (by decide),eQ]⟩
  ·obtain⟨c4,e4⟩:=Zdr p (T-n) n 0 s3 hK.ok d0 d7 (by omega) (by omega) (by omega)
   rw[Nat.add_zero,Nat.add_zero]at e4
   rw[Nat.add_zero]at c4
   exact⟨_,by simp only[dS6,if_true];exact Y0 _ _ _,c4,by rw[if_pos rfl,e4,eR]⟩
 obtain⟨s4,x5,c4,v4⟩:=fin
 rw[x5]at r5
 have t7:aR s4 7=T-n:=by rw[c4.aR (by decide) (by decide)];exact d7
 have f47:s4.f 7=s.f 7-n:=by rw[c4.f 7 (by decide) (by decide),f37]
 obtain⟨o5,f5,p5,m5'⟩:=Zbf c4.ok (d:=n) (by omega)
 generalize exL (drI n) s4=s5 at*
 have f7:s5.f 7=s.f 7:=by rw[p5,f47];omega
 have u7:aR s5 7=T:=by rw[←h7];unfold aR;rw[f7]
 have r6:=Ht (tr:=tr) hat.rt o5 (by omega) (by omega)
 have mm:∀b,(b<p∨p+n≤b)→(b<T-n∨T≤b)→gM s5 b=gM s b:=fun b x y=>by
  rw[m5',c4.m b x,hK.m b x (by omega),keep b y]
 have gmT:gM s5 (aR s5 7)=gM s T:=by rw[u7,mm T (by omega) (by omega)]
 rw[gmT]at r6
 refine⟨_,stR s5 7 (s5.f 7+1),⟨((((r1.trans r2).trans r3).trans r4).trans r5).trans r6,Yj o5 ?_,by rw[Yi,if_pos rfl,f7],fun b x y=>mm b x y⟩,?_,?_,?_⟩
 ·have:=h.reg 7 (by decide)
  unfold wd at*;unfold aR at h7;omega
 ·have:(16*n-1+1)*64≤64*64:=Nat.mul_le_mul_right _ (by omega)
  omega
 ·rw[Yi,if_neg (by decide),f5 0 (by decide) (by decide),c4.f 0 (by decide) (by decide),hK.f 0 (by decide) (by decide) (by decide),ff 0 (by decide) (by decide) (by decide) (by decide)]
 ·have e6:val (gM (stR s5 7 (s5.f 7+1))) p n=val (gM s4) p n:=Zt _ _ fun b _ _=>m5' b
  rw[e6,v4]
end Go.Proofs.YtbmecnjmbhokgaaGreatDoor
namespace Go.Proofs.YtbmecnjmbhokgaaGreatDoor
open Go Go.RowKit Vc
set_option linter.unusedVariables false
set_option linter.unusedSimpArgs false
attribute [local irreducible] T Za Zn Ent RdC RwC Ye Zf Zh
theorem trap_of{code:List Int}(hcl:code.length≤65536)(a0:atB code 0 [⟨26,0,0,3⟩]=true)(n m:Nat)(hn:1≤n∧n≤4)(hm:1≤m∧m≤4)(a b:Nat)(p q sp fill:Int)
 (hp64: -9223372036854775808≤p∧p≤9223372036854775807)(hq64: -9223372036854775808≤q∧q≤9223372036854775807)(hok:okD n m p q sp fill)(hr:Zdl code n m a b):
 ∃(M:Nat→Ma) (N:Nat),Trace code M N 2∧M 0=mk (s0 p q sp fill (memB p q fill (wsp (a%2^(16*n)) n) (wsp (b%2^(16*m)) m))) 0 0∧(∀j,j<65536→wd ((M 0).mem.getD j 0))∧N≤20000∧(M N).trap=1∧0<trimN (M N).mem 65536:=by
 obtain⟨P,Q,S,rfl,rfl,rfl,ht,hw0,hl0,hs0,hg1,hB⟩:=Zd6 n m hn hm a b p q sp fill hp64 hq64 hok
 generalize memB P Q fill (wsp (a%2^(16*n)) n) (wsp (b%2^(16*m)) m)=mem at*
 obtain⟨k,s',c,hR,hk,ho,hc,hc2,hg⟩:=hr _ _ _ _ hB
 have e7:aR (s0 P Q S fill mem) 7=S:=rfl
 have r1:=Lx (tr:=0) a0 hs0 (by omega) (by rw[e7];omega)
 have r12:=r1.trans hR
 obtain⟨h1,h2,_⟩:=Qv hc
 have g:Good code (mk s' c 0):=⟨by show Ts (Xc code c).1 (Xc code c).2=true;rw[h1];exact h2,ho.len,ho.reg,⟨by show(0:Int)≤c;omega,by show c≤65535;omega⟩⟩
 have hst:stepS (Xc code (mk s' c 0).pc).1 (Xc code (mk s' c 0).pc).2 (mk s' c 0)=(2,mk s' c 1):=by
  show stepS (Xc code c).1 (Xc code c).2 (mk s' c 0)=_
  rw[h1];rfl
 obtain⟨M,g1,g2,g3⟩:=r12.trace hcl g hst (.inr rfl) ⟨g.len,g.reg,g.pc⟩
 refine⟨M,1+k+1,g1,g2,fun j _=>by rw[g2];exact hw0 j,by omega,by rw[g3];rfl,?_⟩
 have h2:(M (1+k+1)).mem.getD (S-1) 0=2:=by
  rw[g3]
  show gM s' (S-1)=2
  rw[hg,hg1,if_pos rfl]
 exact Nat.lt_of_le_of_lt (Nat.zero_le _) (Kk _ (S-1) (by rw[h2];decide) 65536 (by omega))
set_option maxHeartbeats 16000000 in
set_option maxRecDepth 100000 in
theorem Vj{G:Nat}{H:Nat→Option Obj}(hM:Yn G H)(hH:Z4 G H)(nm:List UInt8)(hnm:nm.length≤1000)(n m:Nat)(hn:n=1∨n=2∨n=4)(hmm:m=1∨m=2∨m=4)(a b want:Nat)(ha:a<18446744073709551616)(hb:b<18446744073709551616)
 (p q sp fill:Int)(hp64: -9223372036854775808≤p∧p≤9223372036854775807)(hq64: -9223372036854775808≤q∧q≤9223372036854775807)
 (hR:(linkS (unitsTo 24++[([],Z3 nm)]) Z2).2=(0,0))(code:List Int)(hC:(linkS (unitsTo 24++[([],Z3 nm)]) Z2).1.1=code)
 (hcl:code.length≤65536)(a0:atB code 0 [⟨26,0,0,3⟩]=true)(hr:Zdl code n m a b):
 GCp G H Tryz.prog 16 [.a (.str nm),.a (.int .i64 (n:Int)),.a (.int .i64 (m:Int)),.a (.int .u64 (a:Int)),.a (.int .u64 (b:Int)),.a (.int .i64 p),.a (.int .i64 q),.a (.int .i64 sp),.a (.int .i64 fill),.a (.int .u64 (want:Int)),.a (.bool true)] [] 0 [] (.one (.a (.bool true))) [] 0:=by
 by_cases hok:okD n m p q sp fill
 rotate_left
 ·exact Zdx G H nm n m a b want true p q sp fill hok
 ·obtain⟨M,N,hT,hM0,hwd,hN,h7',htr⟩:=trap_of hcl a0 n m (by omega) (by omega) a b p q sp fill hp64 hq64 hok hr
  obtain⟨⟨f1,f2⟩,⟨s1,s2⟩,k5,k6,k7⟩:=hok
  obtain⟨p0,q0,p1,q1,-⟩:=(Mz hp64 hq64 ⟨by omega,by omega⟩ ⟨by omega,by omega⟩).1 k5
  have hP:=B3 hM hH nm hnm (wsp (a%2^(16*n)) n) (wsp (b%2^(16*m)) m) (by rw[So];omega) (by rw[So];omega) p q sp fill ⟨p0,by omega⟩ ⟨q0,by omega⟩ hR code hC M N 2 hT (by rw[hM0];rfl) hwd (by omega) htr (by rw[hM0];rfl) (by rw[hM0];rfl) (by rw[hM0];rfl) (by rw[hM0];rfl)
  have hSa:=Oi a n ha hn
  have hSb:=Oi b m hb hmm
  have wn:IntKind.i64.wrap (16*(n:Int))=((16*n:Nat):Int):=by rw[Zk (by omega) (by omega)];omega
  have wm:IntKind.i64.wrap (16*(m:Int))=((16*m:Nat):Int):=by rw[Zk (by omega) (by omega)];omega
  unfold Hs at hP
  have hA1:=Vi p n q m
  have hA2:=Vi p n (IntKind.i64.wrap (sp-64)) 64
  have hA3:=Vi q m (IntKind.i64.wrap (sp-64)) 64
  have h1:decide (fill<0)=false:=decide_eq_false (by omega)
  have h2:decide (65535<fill)=false:=decide_eq_false (by omega)
  have h3:decide (sp<64)=false:=decide_eq_false (by omega)
  have h4:decide (65535<sp)=false:=decide_eq_false (by omega)
  rw[k5]at hA1
  rw[k6]at hA2
  rw[k7]at hA3
  generalize (M N).mem.take (trimN (M N).mem 65536)=Tm at*
  generalize memB p q fill (wsp (a%2^(16*n)) n) (wsp (b%2^(16*m)) m)=L at*
  generalize wsp (a%2^(16*n)) n=xs at*
  generalize wsp (b%2^(16*m)) m=ys at*
  have z0:∀l:List At,l.drop 0=l:=fun l=>rfl
  have t0:∀l:List At,l.take 0=[]:=fun l=>rfl
  refine Xx.fn.gcp (by simp) (by simp[Zu,Zw,Zv,Zj,Ze,Vc.S1.okN,At.okN,SV.okN,Res.okN,Res.outOk,Zo,Res.own,Value.oneCell']) fun w' X fr hglob=> ?_
  repeat'(first|(first|refine Stp.h ?_|(refine Za.gc hA1 ?_ ?_;focus simp[Zb,Z5];done)|(refine Za.gc hA2 ?_ ?_;focus simp[Zb,Z5];done)|(refine Za.gc hA3 ?_ ?_;focus simp[Zb,Z5];done)|(refine Za.gc hSa ?_ ?_;focus simp[Zb,Z5];done)|(refine Za.gc hSb ?_ ?_;focus simp[Zb,Z5];done)|(refine Za.gcp hglob hP ?_ ?_;focus simp[Zb,Z5];done)|refine Zf.split ?_ ?_|refine Zh.no ?_)<;>try simp only[Zc,simprocAttr,↓reduceIte,reduceCtorEq,implies_true,Int.reduceToNat,List.getElem?_cons_succ,List.getElem?_cons_zero,h1,h2,h3,h4,wn,wm,h7',Z5,z0,t0,List.cons_append,List.nil_append,Bool.not_true,Bool.not_false,decide_true,decide_false,bne_self_eq_false,ne_eq,not_true_eq_false,not_false_eq_true]|(with_reducible first|assumption|refine And.intro ?_ ?_)|(intro h;first|omega|exact tg h ‹_›|exact tg ‹_› h|skip))
end Go.Proofs.YtbmecnjmbhokgaaGreatDoor
