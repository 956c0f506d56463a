/- A part of the proofs of this seat's laws: steps on the way, joined. It has no conditions of its own. -/
import Derived.Test.YtddmlennnmpnhaaGreatDoorQx
namespace Go.Proofs.YtddmlennnmpnhaaGreatDoor
open Go Vc
set_option linter.unusedVariables false
set_option linter.unusedSimpArgs false
theorem or_nat(a b:Nat)(ha:a<65536)(hb:b<65536):orI .i64 (a:Int) (b:Int)=((a|||b:Nat):Int)∧a|||b<65536:=by
 have hl:a|||b<65536:=Nat.or_lt_two_pow (n:=16) ha hb
 refine⟨?_,hl⟩
 show IntKind.i64.wrap ((BitVec.ofInt 64 (a:Int)|||BitVec.ofInt 64 (b:Int)).toNat:Nat)=_
 rw[Xa,Xa (b:Int)]
 have e1:((a:Int)%18446744073709551616).toNat=a:=by omega
 have e2:((b:Int)%18446744073709551616).toNat=b:=by omega
 rw[e1,e2,BitVec.toNat_or,BitVec.toNat_ofNat,BitVec.toNat_ofNat,Nat.mod_eq_of_lt (by omega),Nat.mod_eq_of_lt (by omega)]
 exact Zk (by omega) (by omega)
theorem Zgb(a b:Int)(ha:wd a)(hb:wd b):orI .i64 a b%65536=0↔a=0∧b=0:=by
 unfold wd at ha hb
 obtain⟨x,rfl⟩:=Int.eq_ofNat_of_zero_le ha.1
 obtain⟨y,rfl⟩:=Int.eq_ofNat_of_zero_le hb.1
 obtain⟨e,hl⟩:=or_nat x y (by omega) (by omega)
 rw[e,show((x|||y:Nat):Int)%65536=((x|||y:Nat):Int) by omega]
 have:x|||y=0↔x=0∧y=0:=Nat.or_eq_zero_iff
 omega
theorem or_one(a:Int)(ha:wd a)(he:a%2=0):orI .i64 a 1%65536=a+1:=by
 unfold wd at ha
 have:=B1 (a/2) (by omega)
 rw[show 2*(a/2)=a by omega]at this
 rw[this];omega
def orL(ra:Nat):Nat→Nat→List Ins
 |_,0=>[]
 |i,m+1=>[iLd 4 ra i,Me 10 2 4]++orL ra (i+1) m
theorem Zep(ra:Nat)(hr:ra<8∧ra≠2∧ra≠4):∀(m i:Nat) (s:Pu),PuOk s→aR s ra+i+m≤65536→
 PuOk (exL (orL ra i m) s)∧(∀j,j≠2→j≠4→(exL (orL ra i m) s).f j=s.f j)∧(exL (orL ra i m) s).mem=s.mem∧((exL (orL ra i m) s).f 2=0↔s.f 2=0∧val (gM s) (aR s ra+i) m=0)
 |0,i,s,h,hb=>⟨h,fun _ _ _=>rfl,rfl,by simp[orL,Yk,val]⟩
 |m+1,i,s,h,hb=>by
  have hf:=h.reg ra hr.1
  unfold wd at hf
  have hA:((aR s ra:Nat):Int)=s.f ra:=by unfold aR;omega
  have hw:wd (gM s (aR s ra+i)):=h.mem _
  simp only[orL,Y5,Yx,Yk]
  rw[Sg (s:=s) (d:=4) (r:=ra) (o:=i) (by omega),Md (by omega)]
  have e1:(stR s 4 (gM s (aR s ra+i))).f 2=s.f 2:=rfl
  have e2:(stR s 4 (gM s (aR s ra+i))).f 4=gM s (aR s ra+i):=rfl
  rw[e1,e2]
  have e3:twoR 10 (s.f 2) (gM s (aR s ra+i)) (stR s 4 (gM s (aR s ra+i))).x=orI .i64 (s.f 2) (gM s (aR s ra+i))%65536:=by simp only[twoR,Int.reduceEq,↓reduceIte,or_self]
  rw[e3]
  have hz:=Zgb (s.f 2) (gM s (aR s ra+i)) (h.reg 2 (by decide)) hw
  have hwr:wd (orI .i64 (s.f 2) (gM s (aR s ra+i))%65536):=P2 _
  generalize orI .i64 (s.f 2) (gM s (aR s ra+i))%65536=R at*
  generalize twoF 10 (s.f 2) (gM s (aR s ra+i)) (stR s 4 (gM s (aR s ra+i))).x=F at*
  have h1:PuOk (stF (stR (stR s 4 (gM s (aR s ra+i))) 2 R) F):=T7 (Yi (Yi h hw) hwr)
  have a1:aR (stF (stR (stR s 4 (gM s (aR s ra+i))) 2 R) F) ra=aR s ra:=by simp only[aR,W7,Yf,if_neg hr.2.1,if_neg hr.2.2]
  obtain⟨o,f,mm,z⟩:=Zep ra hr m (i+1) _ h1 (by rw[a1];omega)
  rw[a1]at z
  refine⟨o,fun j j2 j4=>by rw[f j j2 j4];simp only[W7,Yf,if_neg j2,if_neg j4],mm,?_⟩
  rw[z]
  have g1:(stF (stR (stR s 4 (gM s (aR s ra+i))) 2 R) F).f 2=R:=rfl
  have g2:val (gM (stF (stR (stR s 4 (gM s (aR s ra+i))) 2 R) F)) (aR s ra+(i+1)) m=val (gM s) (aR s ra+i+1) m:=rfl
  rw[g1,g2,hz,val]
  have hv:=Xl (g:=gM s) m (aR s ra+i+1) (fun b=>h.mem b)
  unfold wd at hw
  constructor
  ·rintro⟨⟨a,b⟩,c⟩;exact⟨a,by omega⟩
  ·rintro⟨a,b⟩;exact⟨⟨a,by omega⟩,by omega⟩
def onI:List Ins:=[iLd 2 0 0,Jg 4 1,Me 10 2 4,iSt 0 2 0]
theorem on_run{s:Pu}(h:PuOk s){p:Nat}(h0:aR s 0=p)(hp:p<65536)(he:gM s p%2=0):Chg s (exL onI s) p 1∧gM (exL onI s) p=gM s p+1:=by
 have hf:=h.reg 0 (by decide)
 unfold wd at hf
 have hA:((aR s 0:Nat):Int)=s.f 0:=by unfold aR;omega
 have hw:wd (gM s p):=h.mem _
 have hw2:=hw
 unfold wd at hw2
 simp only[onI,Yx,Yk]
 rw[Sg (s:=s) (d:=2) (r:=0) (o:=0) (by omega),Nat.add_zero,h0,L6,Md (by omega)]
 have e1:(stR (stR s 2 (gM s p)) 4 ((1:Nat):Int)).f 2=gM s p:=rfl
 have e2:(stR (stR s 2 (gM s p)) 4 ((1:Nat):Int)).f 4=1:=rfl
 rw[e1,e2]
 have e3:twoR 10 (gM s p) 1 (stR (stR s 2 (gM s p)) 4 ((1:Nat):Int)).x=gM s p+1:=by
  rw[←or_one _ hw he];simp only[twoR,Int.reduceEq,↓reduceIte,or_self]
 rw[e3]
 generalize twoF 10 (gM s p) 1 (stR (stR s 2 (gM s p)) 4 ((1:Nat):Int)).x=F at*
 have hw3:wd (gM s p+1):=by unfold wd;omega
 have e4:aR (stF (stR (stR (stR s 2 (gM s p)) 4 ((1:Nat):Int)) 2 (gM s p+1)) F) 0=p:=h0
 have e5:(stF (stR (stR (stR s 2 (gM s p)) 4 ((1:Nat):Int)) 2 (gM s p+1)) F).f 2=gM s p+1:=rfl
 have e6:(stF (stR (stR (stR s 2 (gM s p)) 4 ((1:Nat):Int)) 2 (gM s p+1)) F).f 0=s.f 0:=rfl
 rw[G7 (by rw[e6];omega) (by rw[e5];exact hw3),e4,e5,Nat.add_zero]
 have hl:p<(stF (stR (stR (stR s 2 (gM s p)) 4 ((1:Nat):Int)) 2 (gM s p+1)) F).mem.length:=by rw[len_stF,R5,R5,R5,h.len];exact hp
 refine⟨⟨Pt (T7 (Yi (Yi (Yi h hw) ⟨by decide,by decide⟩) hw3)) hw3,fun i i2 i4=>by simp only[M8,W7,Yf,if_neg i2,if_neg i4],fun b hb=> ?_⟩,?_⟩
 ·rw[W8 hl,if_neg (by omega)];rfl
 ·rw[W8 hl,if_pos rfl]
def dS1(n:Nat):List Ins:=[iLd 2 1 0]++(orL 1 1 (n-1)++cpI 2 0)
def dS2(n:Nat):List Ins:=[Jg 2 0]++(pzL n++[Jg 3 (16*n)])
def dS3(n:Nat):List Ins:=upN 14 0 0 n++upN 15 7 0 n
def dS5(n:Nat):List Ins:=twN 7 7 1 0 n++onI
def cyL:Nat→Nat→List Ins
 |_,0=>[]
 |i,m+1=>[iLd 2 7 i,iSt 0 2 i]++cyL (i+1) m
def dS6(r:Bool)(n:Nat):List Ins:=(if r then cyL 0 n else[])++drI n
def dA(n:Nat)(base:Int):Int:=base+Z1 (dS1 n)
def dL(n:Nat)(base:Int):Int:=dA n base+2+2+Z1 (dS2 n)
def dJ(n:Nat)(base:Int):Int:=dL n base+Z1 (dS3 n)
def dK(n:Nat)(base:Int):Int:=dJ n base+2+Z1 (cmN 7 1 n)
def dN(n:Nat)(base:Int):Int:=dK n base+2+Z1 (dS5 n)
def dE(n:Nat)(base:Int):Int:=dN n base+3+2
def Za1(r:Bool)(n:Nat)(base:Int):List Ins:=
 dS1 n++([⟨21,0,0,dA n base+2+2⟩]++([⟨32,0,0,1⟩]++(dS2 n++(dS3 n++([⟨22,0,0,dK n base+2⟩]++(cmN 7 1 n++([⟨22,0,0,dN n base⟩]++(dS5 n++(agI++([⟨21,0,0,dL n base⟩]++(dS6 r n++[⟨27,0,0,0⟩])))))))))))
structure DivAt (code:List Int) (r:Bool) (n:Nat) (base:Int):Prop where
 s1:atB code base (dS1 n)=true
 j1:atB code (dA n base) [⟨21,0,0,dA n base+2+2⟩]=true
 tr:atB code (dA n base+2) [⟨32,0,0,1⟩]=true
 s2:atB code (dA n base+2+2) (dS2 n)=true
 s3:atB code (dL n base) (dS3 n)=true
 j2:atB code (dJ n base) [⟨22,0,0,dK n base+2⟩]=true
 s4:atB code (dJ n base+2) (cmN 7 1 n)=true
 j3:atB code (dK n base) [⟨22,0,0,dN n base⟩]=true
 s5:atB code (dK n base+2) (dS5 n)=true
 ag:atB code (dN n base) agI=true
 j4:atB code (dN n base+3) [⟨21,0,0,dL n base⟩]=true
 s6:atB code (dE n base) (dS6 r n)=true
 rt:atB code (dE n base+Z1 (dS6 r n)) [⟨27,0,0,0⟩]=true
theorem DivAt.of{code:List Int}{r:Bool}{n:Nat}{base:Int}(h:atB code base (Za1 r n base)=true):DivAt code r n base:=by
 unfold Za1 at h
 obtain⟨h1,h⟩:=Z6 _ _ _ _ h
 obtain⟨h2,h⟩:=Z6 _ _ _ _ h
 obtain⟨h3,h⟩:=Z6 _ _ _ _ h
 obtain⟨h4,h⟩:=Z6 _ _ _ _ h
 obtain⟨h5,h⟩:=Z6 _ _ _ _ h
 obtain⟨h6,h⟩:=Z6 _ _ _ _ h
 obtain⟨h7,h⟩:=Z6 _ _ _ _ h
 obtain⟨h8,h⟩:=Z6 _ _ _ _ h
 obtain⟨h9,h⟩:=Z6 _ _ _ _ h
 obtain⟨h10,h⟩:=Z6 _ _ _ _ h
 obtain⟨h11,h⟩:=Z6 _ _ _ _ h
 obtain⟨h12,h13⟩:=Z6 _ _ _ _ h
 exact⟨h1,h2,h3,h4,h5,h6,h7,h8,h9,h10,h11,h12,h13⟩
theorem Ee(n:Nat)(hn:n=1∨n=2∨n=4):(dS1 n).all Ob=true∧(dS2 n).all Ob=true∧(dS3 n).all Ob=true∧(cmN 7 1 n).all Ob=true∧(dS5 n).all Ob=true∧(∀r,(dS6 r n).all Ob=true):=by
 rcases hn with rfl|rfl|rfl<;>exact⟨by decide,by decide,by decide,by decide,by decide,fun r=>by cases r<;>decide⟩
theorem Jo(n:Nat)(hn:n=1∨n=2∨n=4):((dS1 n).length≤12∧(dS2 n).length≤6∧(dS3 n).length+(cmN 7 1 n).length+(dS5 n).length+5≤64∧∀r,(dS6 r n).length≤10)∧(Z1 (dS1 n)≤100∧Z1 (dS2 n)≤100∧Z1 (dS3 n)≤100∧Z1 (cmN 7 1 n)≤100∧Z1 (dS5 n)≤100∧∀r,Z1 (dS6 r n)≤100):=by
 rcases hn with rfl|rfl|rfl<;>exact⟨⟨by decide,by decide,by decide,fun r=>by cases r<;>decide⟩,by decide,by decide,by decide,by decide,by decide,fun r=>by cases r<;>decide⟩
theorem Zd8(P R Q D c0 R1 Q1 c1 b R2 Q2 q T R' Q':Int)(h1:Q1+P*c0=2*Q)(h2:R1+P*c1=2*R+c0)(h3:R2+b*D=R1+P*c1)(h4:Q2=Q1+b)(h5:(R2*P+Q2)*T=(q*D+R')*P+(Q'-q)):
 (R*P+Q)*(T*2)=((q+b*T)*D+R')*P+(Q'-(q+b*T)):=by grind
theorem dv_end(P Q R D q A:Int)(hP:0<P)(hQ:0≤Q∧Q<P)(hq:0≤q∧q<P)(hR:0≤R∧R<D)(h:A*P=(q*D+R)*P+(Q-q)):Q=A/D∧R=A%D:=by
 have e1:(A-(q*D+R))*P=Q-q:=by grind
 have e2:A-(q*D+R)=0:=by
  rcases Int.lt_trichotomy (A-(q*D+R)) 0 with hl|hl|hl
  ·have:=Int.mul_le_mul_of_nonneg_right (show A-(q*D+R)≤ -1 by omega) (Int.le_of_lt hP)
   omega
  ·exact hl
  ·have:=Int.mul_le_mul_of_nonneg_right (show 1≤A-(q*D+R) by omega) (Int.le_of_lt hP)
   omega
 rw[e2,Int.zero_mul]at e1
 have e3:A=R+D*q:=by rw[Int.mul_comm D q];omega
 have hD:0<D:=by omega
 constructor
 ·rw[e3,Int.add_mul_ediv_left _ _ (by omega),Int.ediv_eq_zero_of_lt hR.1 hR.2];omega
 ·rw[e3,Int.add_mul_emod_self_left,Int.emod_eq_of_lt hR.1 hR.2]
structure DvK (s s':Pu) (p u n:Nat):Prop where
 ok:PuOk s'
 f:∀i,i≠2→i≠3→i≠4→s'.f i=s.f i
 m:∀b,(b<p∨p+n≤b)→(b<u∨u+n≤b)→gM s' b=gM s b
theorem DvK.trans{s s1 s2:Pu}{p u n:Nat}(h:DvK s s1 p u n)(h2:DvK s1 s2 p u n):DvK s s2 p u n:=⟨h2.ok,fun i a b c=>(h2.f i a b c).trans (h.f i a b c),fun b x y=>(h2.m b x y).trans (h.m b x y)⟩
theorem DvK.aR{s s':Pu}{p u n:Nat}(h:DvK s s' p u n){r:Nat}(h2:r≠2)(h3:r≠3)(h4:r≠4):aR s' r=aR s r:=by unfold Proofs.YtddmlennnmpnhaaGreatDoor.aR;rw[h.f r h2 h3 h4]
theorem Chg.dvL{s s':Pu}{p u n:Nat}(h:Chg s s' p n):DvK s s' p u n:=⟨h.ok,fun i a _ c=>h.f i a c,fun b x _=>h.m b x⟩
theorem Chg.dvR{s s':Pu}{p u n:Nat}(h:Chg s s' u n):DvK s s' p u n:=⟨h.ok,fun i a _ c=>h.f i a c,fun b _ y=>h.m b y⟩
theorem dv_step(code:List Int)(r:Bool)(n:Nat)(hn:n=1∨n=2∨n=4)(base tr:Int)(hb:0≤base∧base≤60000)(hat:DivAt code r n base)(p q u:Nat)(hp:p+n≤65536)(hq:q+n≤65536)(hu:u+n≤65536)(hpu:p+n≤u∨u+n≤p)(hqu:q+n≤u∨u+n≤q)(hpq:p+n≤q∨q+n≤p)
 (s:Pu)(h:PuOk s)(t:Nat)(h3:s.f 3=((t+1:Nat):Int))(h0:aR s 0=p)(h1:aR s 1=q)(h7:aR s 7=u)(hR:val (gM s) u n<val (gM s) q n):
 ∃(k:Nat) (s':Pu) (c0 R1 Q1 c1 b:Int),Ts code k (mk s (dL n base) tr) (mk s' (if t=0 then dE n base else dL n base) tr)∧k≤64∧DvK s s' p u n∧s'.f 3=(t:Int)∧(b=0∨b=1)∧Q1+pw n*c0=2*val (gM s) p n∧R1+pw n*c1=2*val (gM s) u n+c0∧
  val (gM s') u n+b*val (gM s) q n=R1+pw n*c1∧val (gM s') p n=Q1+b∧val (gM s') u n<val (gM s) q n:=by
 obtain⟨m1,m2,m3,m4,m5,m6⟩:=Ee n hn
 obtain⟨⟨l1,l2,l3,l4⟩,z1,z2,z3,z4,z5,z6⟩:=Jo n hn
 have y1:=Ym (dS1 n)
 have y2:=Ym (dS2 n)
 have y3:=Ym (dS3 n)
 have y4:=Ym (cmN 7 1 n)
 have y5:=Ym (dS5 n)
 have hn0:0<n:=by omega
 obtain⟨n',hn'⟩:∃m,n=m+1:=⟨n-1,by omega⟩
 have eA:dA n base=base+Z1 (dS1 n):=rfl
 have eL:dL n base=dA n base+2+2+Z1 (dS2 n):=rfl
 have eJ:dJ n base=dL n base+Z1 (dS3 n):=rfl
 have eK:dK n base=dJ n base+2+Z1 (cmN 7 1 n):=rfl
 have eN:dN n base=dK n base+2+Z1 (dS5 n):=rfl
 have eE:dE n base=dN n base+3+2:=rfl
 obtain⟨r1,_⟩:=Xv (tr:=tr) _ _ s hat.s3 m3 h (by omega) (by omega)
 have x1:exL (dS3 n) s=exL (upN 15 7 0 n) (exL (upN 14 0 0 n) s):=Y5 _ _ _
 rw[x1]at r1
 obtain⟨c1,e1⟩:=Dj 14 (.inl rfl) 0 (by decide) n 0 hn0 s h (by omega)
 rw[Nat.add_zero,h0]at c1 e1
 generalize exL (upN 14 0 0 n) s=sa at*
 have a7:aR sa 7=u:=by rw[c1.aR (by decide) (by decide)];exact h7
 obtain⟨c2,e2⟩:=Dj 15 (.inr rfl) 7 (by decide) n 0 hn0 sa c1.ok (by omega)
 rw[Nat.add_zero,a7]at c2 e2
 generalize exL (upN 15 7 0 n) sa=sb at*
 simp only[↓reduceIte,Int.add_zero]at e1
 rw[if_neg (by decide)]at e2
 have gU:val (gM sa) u n=val (gM s) u n:=Zy _ _ fun b h1 h2=>c1.m b (by omega)
 have gP:val (gM sb) p n=val (gM sa) p n:=Zy _ _ fun b h1 h2=>c2.m b (by omega)
 have gD:val (gM sb) q n=val (gM s) q n:=Zy _ _ fun b h1 h2=>(c2.m b (by omega)).trans (c1.m b (by omega))
 rw[gU]at e2
 have kb:DvK s sb p u n:=c1.dvL.trans c2.dvR
 have b0:aR sb 0=p:=by rw[kb.aR (by decide) (by decide) (by decide)];exact h0
 have b1:aR sb 1=q:=by rw[kb.aR (by decide) (by decide) (by decide)];exact h1
 have b7:aR sb 7=u:=by rw[kb.aR (by decide) (by decide) (by decide)];exact h7
 have b3:sb.f 3=((t+1:Nat):Int):=by rw[c2.f 3 (by decide) (by decide),c1.f 3 (by decide) (by decide)];exact h3
 have hpw:=Mk n
 have rgR:=Xl (g:=gM sb) n u (fun b=>c2.ok.mem b)
 have rgD:=Xl (g:=gM s) n q (fun b=>h.mem b)
 have rgU:=Xl (g:=gM s) n u (fun b=>h.mem b)
 have ci0:=Om sa.x.c
 have ci1:=Om sb.x.c
 have r2:=Uv (tr:=tr) (.inr (.inr (.inr (.inl rfl)))) hat.j2 c2.ok (by omega)
 have take:val (gM s) q n≤val (gM sb) u n+pw n*cI sb.x.c→∀sc:Pu,Chg sb sc 0 0→∃(k:Nat) (s':Pu),Ts code k (mk sc (dK n base+2) tr) (mk s' (dN n base) tr)∧k≤(dS5 n).length∧DvK s s' p u n∧s'.f 3=((t+1:Nat):Int)∧val (gM s') u n+val (gM s) q n=val (gM sb) u n+pw n*cI sb.x.c∧val (gM s') p n=val (gM sb) p n+1:=by
  intro hge sc cc
  have mc:∀b,gM sc b=gM sb b:=fun b=>cc.m b (by omega)
  have vc:∀a,val (gM sc) a n=val (gM sb) a n:=fun a=>Zy _ _ fun b _ _=>mc b
  have d0:aR sc 0=p:=by rw[cc.aR (by decide) (by decide)];exact b0
  have d1:aR sc 1=q:=by rw[cc.aR (by decide) (by decide)];exact b1
  have d7:aR sc 7=u:=by rw[cc.aR (by decide) (by decide)];exact b7
  obtain⟨r3,_⟩:=Xv (tr:=tr) _ _ sc hat.s5 m5 cc.ok (by omega) (by omega)
  have x3:exL (dS5 n) sc=exL onI (exL (twN 7 7 1 0 n) sc):=Y5 _ _ _
  rw[x3]at r3
  obtain⟨c3,e3⟩:=twN_run 7 (.inr rfl) 7 1 (by decide) (by decide) n 0 hn0 sc cc.ok (by omega) (by omega) (by omega)
  rw[Nat.add_zero,d7,d1]at e3
  rw[d7]at c3
  have e3':val (gM (exL (twN 7 7 1 0 n) sc)) u n-pw n*cI (exL (twN 7 7 1 0 n) sc).x.c=val (gM sc) u n-val (gM sc) q n-cI false:=e3
  rw[vc,vc,Vr,gD]at e3'
  generalize exL (twN 7 7 1 0 n) sc=sd at*
  have g0:aR sd 0=p:=by rw[c3.aR (by decide) (by decide)];exact d0
  have mp:∀b,p≤b→b<p+n→gM sd b=gM sb b:=fun b x y=>(c3.m b (by omega)).trans (mc b)
  have hev:gM sd p%2=0:=by
   rw[mp p (Nat.le_refl _) (by omega)]
   have:gM sb p=gM sa p:=c2.m p (by omega)
   rw[this]
   have e4:=e1
   rw[hn']at e4
   simp only[val,pw,Lx]at e4
   omega
  obtain⟨c4,e4⟩:=on_run c3.ok g0 (by omega) hev
  generalize exL onI sd=se at*
  have rgU2:=Xl (g:=gM sd) n u (fun b=>c3.ok.mem b)
  have ci2:=Om sd.x.c
  refine⟨_,se,r3,Nat.le_refl _,?_,?_,?_,?_⟩
  ·exact kb.trans (cc.any.dvR.trans (c3.dvR.trans (c4.wider (A':=p) (n':=n) (by omega) (by omega)).dvL))
  ·rw[c4.f 3 (by decide) (by decide),c3.f 3 (by decide) (by decide),cc.f 3 (by decide) (by decide)];exact b3
  ·have e5:val (gM se) u n=val (gM sd) u n:=Zy _ _ fun b x y=>c4.m b (by omega)
   rw[e5]
   have hcc:cI sd.x.c=cI sb.x.c:=by
    have hp0:∀c:Bool,pw n*cI c=if c then pw n else 0:=fun c=>by cases c<;>simp[cI]
    rw[hp0]at e3' hge
    have:sd.x.c=sb.x.c:=by
     rw[hp0]at e2
     cases h1:sd.x.c<;>cases h2:sb.x.c<;>rw[h1]at e3'<;>rw[h2]at hge e2<;>simp only[Bool.false_eq_true,↓reduceIte]at e3' hge e2
     ·omega
     ·have:=Om sa.x.c;omega
    rw[this]
   rw[hcc]at e3'
   omega
  ·have e6:val (gM se) p n=val (gM sd) p n+1:=by
    rw[hn']
    simp only[val]
    rw[e4,Zy (g:=gM se) (h:=gM sd) n' (p+1) fun b x y=>c4.m b (by omega)]
    omega
   rw[e6,Zy n p fun b x y=>mp b x y]
 have mid:∃(k:Nat) (s':Pu) (b:Int),Ts code k (mk sb (if W9 22 sb.x=true then dK n base+2 else dJ n base+2) tr) (mk s' (dN n base) tr)∧k≤(cmN 7 1 n).length+(dS5 n).length+1∧DvK s s' p u n∧s'.f 3=((t+1:Nat):Int)∧(b=0∨b=1)∧val (gM s') u n+b*val (gM s) q n=val (gM sb) u n+pw n*cI sb.x.c∧val (gM s') p n=val (gM sb) p n+b∧val (gM s') u n<val (gM s) q n:=by
  cases hc:sb.x.c
  ·have hg:¬W9 22 sb.x=true:=by simp[W9,hc]
   rw[if_neg hg]
   obtain⟨r3,_⟩:=Xv (tr:=tr) _ _ sb hat.s4 m4 c2.ok (by omega) (by omega)
   obtain⟨c3,e3⟩:=cmN_run 7 1 (by decide) (by decide) n hn0 sb c2.ok (by omega) (by omega)
   rw[b7,b1,gD]at e3
   generalize exL (cmN 7 1 n) sb=sc at*
   have r4:=Uv (tr:=tr) (.inr (.inr (.inr (.inl rfl)))) hat.j3 c3.ok (by omega)
   have mc:∀b,gM sc b=gM sb b:=fun b=>c3.m b (by omega)
   have vc:∀a,val (gM sc) a n=val (gM sb) a n:=fun a=>Zy _ _ fun b _ _=>mc b
   by_cases hlt:val (gM sb) u n<val (gM s) q n
   ·have hg:W9 22 sc.x=true:=by simp[W9,e3,hlt]
    rw[if_pos hg]at r4
    refine⟨_,sc,0,r3.trans r4,by omega,kb.trans c3.any.dvR,by rw[c3.f 3 (by decide) (by decide)];exact b3,.inl rfl,?_,?_,?_⟩
    ·rw[vc,Vr];omega
    ·rw[vc];omega
    ·rw[vc];exact hlt
   ·have hg:¬W9 22 sc.x=true:=by simp[W9,e3,hlt]
    rw[if_neg hg]at r4
    obtain⟨k,s',r5,hk,hK,f3,eU,eP⟩:=take (by rw[hc,Vr];omega) sc c3
    refine⟨_,s',1,(r3.trans r4).trans r5,by omega,hK,f3,.inr rfl,by rw[hc]at eU;omega,eP,?_⟩
    rw[hc,Vr]at eU e2
    omega
  ·have hg:W9 22 sb.x=true:=by simp[W9,hc]
   rw[if_pos hg]
   obtain⟨k,s',r5,hk,hK,f3,eU,eP⟩:=take (by rw[hc,Jn];omega) sb (Chg.rfl' c2.ok _ _)
   refine⟨_,s',1,r5,by omega,hK,f3,.inr rfl,by rw[hc]at eU;omega,eP,?_⟩
   rw[hc]at eU e2
   omega
 obtain⟨k3,s3,b,r3,hk3,hK,f3,hb1,eU,eP,hlt⟩:=mid
 obtain⟨r4,_⟩:=Xv (tr:=tr) _ _ s3 hat.ag (by decide) hK.ok (by omega) (by have:Z1 agI=3:=rfl;omega)
 obtain⟨o4,p4,q4,zz,m4'⟩:=Zhn hK.ok f3
 have l4':agI.length=2:=rfl
 have z4':Z1 agI=3:=rfl
 rw[l4',z4']at r4
 generalize exL agI s3=s4 at*
 have r5:=Uv (tr:=tr) (.inr (.inr (.inl rfl))) hat.j4 o4 (by omega)
 have v4:∀a,val (gM s4) a n=val (gM s3) a n:=fun a=>Zy _ _ fun b _ _=>m4' b
 have hto:(if W9 21 s4.x=true then dL n base else dN n base+3+2)=(if t=0 then dE n base else dL n base):=by
  by_cases h0:t=0
  ·have hg:¬W9 21 s4.x=true:=by simp[W9,zz,h0]
   rw[if_neg hg,if_pos h0];rfl
  ·have hg:W9 21 s4.x=true:=by simp[W9,zz,h0]
   rw[if_pos hg,if_neg h0]
 rw[hto]at r5
 refine⟨_,s4,cI sa.x.c,val (gM sb) u n,val (gM sb) p n,cI sb.x.c,b,(((r1.trans r2).trans r3).trans r4).trans r5,by omega,hK.trans ⟨o4,fun i _ i3 i4=>p4 i i3 i4,fun b _ _=>m4' b⟩,q4,hb1,by rw[gP];exact e1,e2,by rw[v4];exact eU,by rw[v4];exact eP,by rw[v4];exact hlt⟩
theorem Zd7(code:List Int)(r:Bool)(n:Nat)(hn:n=1∨n=2∨n=4)(base tr:Int)(hb:0≤base∧base≤60000)(hat:DivAt code r n base)(p q u:Nat)(hp:p+n≤65536)(hq:q+n≤65536)(hu:u+n≤65536)(hpu:p+n≤u∨u+n≤p)(hqu:q+n≤u∨u+n≤q)(hpq:p+n≤q∨q+n≤p):
 ∀(t:Nat) (s:Pu),PuOk s→s.f 3=((t+1:Nat):Int)→aR s 0=p→aR s 1=q→aR s 7=u→val (gM s) u n<val (gM s) q n→
  ∃(k:Nat) (s':Pu) (qq:Int),Ts code k (mk s (dL n base) tr) (mk s' (dE n base) tr)∧k≤(t+1)*64∧DvK s s' p u n∧(0≤qq∧qq<2^(t+1))∧val (gM s') u n<val (gM s) q n∧
   (val (gM s) u n*pw n+val (gM s) p n)*2^(t+1)=(qq*val (gM s) q n+val (gM s') u n)*pw n+(val (gM s') p n-qq)
 |t,s,h,h3,h0,h1,h7,hR=>by
  obtain⟨k,s1,c0,R1,Q1,c1,b,r1,hk,hK,f3,hb1,e1,e2,e3,e4,hlt⟩:=dv_step code r n hn base tr hb hat p q u hp hq hu hpu hqu hpq s h t h3 h0 h1 h7 hR
  have hD:val (gM s1) q n=val (gM s) q n:=Zy _ _ fun b x y=>hK.m b (by omega) (by omega)
  match t,h3,f3,r1 with
  |0,_,_,r1=>
   rw[if_pos rfl]at r1
   refine⟨_,s1,b,r1,by omega,hK,by rcases hb1 with rfl|rfl<;>decide,hlt,?_⟩
   have:=Zd8 (pw n) (val (gM s) u n) (val (gM s) p n) (val (gM s) q n) c0 R1 Q1 c1 b (val (gM s1) u n) (val (gM s1) p n) 0 1 (val (gM s1) u n) (val (gM s1) p n) e1 e2 e3 e4 (by grind)
   rw[Int.zero_add,Int.mul_one,Int.one_mul]at this
   exact this
  |t+1,_,f3,r1=>
   rw[if_neg (by omega)]at r1
   have w0:aR s1 0=p:=by rw[hK.aR (by decide) (by decide) (by decide)];exact h0
   have w1:aR s1 1=q:=by rw[hK.aR (by decide) (by decide) (by decide)];exact h1
   have w7:aR s1 7=u:=by rw[hK.aR (by decide) (by decide) (by decide)];exact h7
   obtain⟨k2,s2,qq,r2,hk2,hK2,hq2,hlt2,e5⟩:=Zd7 code r n hn base tr hb hat p q u hp hq hu hpu hqu hpq t s1 hK.ok f3 w0 w1 w7 (by rw[hD];exact hlt)
   rw[hD]at hlt2 e5
   refine⟨_,s2,qq+b*2^(t+1),r1.trans r2,by omega,hK.trans hK2,?_,hlt2,?_⟩
   ·rw[Int.pow_succ 2 (t+1)]
    rcases hb1 with rfl|rfl<;>omega
   ·have:=Zd8 (pw n) (val (gM s) u n) (val (gM s) p n) (val (gM s) q n) c0 R1 Q1 c1 b (val (gM s1) u n) (val (gM s1) p n) qq (2^(t+1)) (val (gM s2) u n) (val (gM s2) p n) e1 e2 e3 e4 e5
    rw[Int.pow_succ 2 (t+1)];exact this
theorem Zdz(p u:Nat):∀(m i:Nat) (s:Pu),PuOk s→aR s 0=p→aR s 7=u→p+i+m≤65536→u+i+m≤65536→(p+i+m≤u+i∨u+i+m≤p+i)→
 Chg s (exL (cyL i m) s) (p+i) m∧val (gM (exL (cyL i m) s)) (p+i) m=val (gM s) (u+i) m
 |0,i,s,h,_,_,_,_,_=>⟨Chg.rfl' h _ _,rfl⟩
 |m+1,i,s,h,h0,h7,hp,hu,hd=>by
  have hf:=h.reg 0 (by decide)
  have hf7:=h.reg 7 (by decide)
  unfold wd at hf hf7
  have hA:((aR s 0:Nat):Int)=s.f 0:=by unfold aR;omega
  have hA7:((aR s 7:Nat):Int)=s.f 7:=by unfold aR;omega
  have hw:wd (gM s (u+i)):=h.mem _
  simp only[cyL,Y5,Yx,Yk]
  rw[Sg (s:=s) (d:=2) (r:=7) (o:=i) (by omega),h7]
  have e1:(stR s 2 (gM s (u+i))).f 0=s.f 0:=rfl
  have e2:(stR s 2 (gM s (u+i))).f 2=gM s (u+i):=rfl
  have e3:aR (stR s 2 (gM s (u+i))) 0=p:=h0
  rw[G7 (by rw[e1];omega) (by rw[e2];exact hw),e2,e3]
  have hl:p+i<(stR s 2 (gM s (u+i))).mem.length:=by rw[R5,h.len];omega
  have c1:Chg s (stM (stR s 2 (gM s (u+i))) (p+i) (gM s (u+i))) (p+i) 1:=⟨Pt (Yi h hw) hw,fun j j2 _=>by simp only[M8,Yf,if_neg j2],fun b hb=>by rw[W8 hl,if_neg (by omega)];rfl⟩
  have g1:gM (stM (stR s 2 (gM s (u+i))) (p+i) (gM s (u+i))) (p+i)=gM s (u+i):=by rw[W8 hl,if_pos rfl]
  generalize stM (stR s 2 (gM s (u+i))) (p+i) (gM s (u+i))=s1 at*
  obtain⟨c2,e4⟩:=Zdz p u m (i+1) s1 c1.ok (by rw[c1.aR (by decide) (by decide)];exact h0) (by rw[c1.aR (by decide) (by decide)];exact h7) (by omega) (by omega) (by omega)
  generalize exL (cyL (i+1) m) s1=s2 at*
  refine⟨(c1.wider (by omega) (by omega)).trans (c2.wider (by omega) (by omega)),?_⟩
  simp only[val]
  rw[c2.m (p+i) (by omega),g1,show p+i+1=p+(i+1) by omega,e4]
  rw[show u+(i+1)=u+i+1 by omega]
  congr 2
  exact Zy _ _ fun b x y=>c1.m b (by omega)
theorem G2(n:Nat)(hn:n=1∨n=2∨n=4)(s:Pu)(h:PuOk s)(q:Nat)(h1:aR s 1=q)(hq:q+n≤65536):
 PuOk (exL (dS1 n) s)∧(∀j,j≠2→j≠4→(exL (dS1 n) s).f j=s.f j)∧(∀b,gM (exL (dS1 n) s) b=gM s b)∧(exL (dS1 n) s).x.z=decide (val (gM s) q n=0):=by
 obtain⟨m,rfl⟩:∃m,n=m+1:=⟨n-1,by omega⟩
 have hf:=h.reg 1 (by decide)
 unfold wd at hf
 have hA:((aR s 1:Nat):Int)=s.f 1:=by unfold aR;omega
 have hw:wd (gM s q):=h.mem _
 simp only[dS1,Y5,Yx,Yk,Nat.add_sub_cancel]
 rw[Sg (s:=s) (d:=2) (r:=1) (o:=0) (by omega),h1,Nat.add_zero]
 have hs1:=Yi h (r:=2) hw
 have a1:aR (stR s 2 (gM s q)) 1=q:=h1
 obtain⟨o1,f1,m1,z1⟩:=Zep 1 (by decide) m 1 (stR s 2 (gM s q)) hs1 (by omega)
 rw[a1]at z1
 have e2:(stR s 2 (gM s q)).f 2=gM s q:=rfl
 have e3:val (gM (stR s 2 (gM s q))) (q+1) m=val (gM s) (q+1) m:=rfl
 rw[e2,e3]at z1
 generalize exL (orL 1 1 m) (stR s 2 (gM s q))=s1 at*
 have hw2:=o1.reg 2 (by decide)
 unfold wd at hw2 hw
 obtain⟨o2,f2,_,z2,_,m2⟩:=Zaz o1 (d:=2) (t:=(s1.f 2).toNat) (v:=0) (by decide) (by omega) (by decide)
 refine⟨o2,fun j j2 j4=> ?_,fun b=> ?_,?_⟩
 ·rw[f2 j j4,f1 j j2 j4,Yf,if_neg j2]
 ·rw[m2 b];unfold gM;rw[m1];rfl
 ·rw[z2,decide_eq_decide,val]
  have hv:=Xl (g:=gM s) m (q+1) (fun b=>h.mem b)
  constructor
  ·intro h2
   obtain⟨x,y⟩:=z1.1 (by omega)
   omega
  ·intro h2
   have:=z1.2 ⟨by omega,by omega⟩
   omega
theorem Zh2(code:List Int)(r:Bool)(n:Nat)(hn:n=1∨n=2∨n=4)(base tr:Int)(hb:0≤base∧base≤60000)(hat:DivAt code r n base)(s:Pu)(h:PuOk s)(q:Nat)(h1:aR s 1=q)(hq:q+n≤65536)(hD:val (gM s) q n=0):
 ∃(k:Nat) (s':Pu),Ts code k (mk s base tr) (mk s' (dA n base+2) tr)∧k≤13∧PuOk s'∧(∀b,gM s' b=gM s b):=by
 obtain⟨m1,m2,m3,m4,m5,m6⟩:=Ee n hn
 obtain⟨⟨l1,l2,l3,l4⟩,z1,z2,z3,z4,z5,z6⟩:=Jo n hn
 have y1:=Ym (dS1 n)
 have eA:dA n base=base+Z1 (dS1 n):=rfl
 obtain⟨r1,_⟩:=Xv (tr:=tr) _ _ s hat.s1 m1 h (by omega) (by omega)
 obtain⟨o1,f1,g1,z1'⟩:=G2 n hn s h q h1 hq
 generalize exL (dS1 n) s=s1 at*
 have r2:=Uv (tr:=tr) (.inr (.inr (.inl rfl))) hat.j1 o1 (by omega)
 have hg:¬W9 21 s1.x=true:=by simp[W9,z1',hD]
 rw[if_neg hg]at r2
 exact⟨_,s1,r1.trans r2,by omega,o1,g1⟩
set_option maxHeartbeats 2000000 in
theorem Zh1(code:List Int)(r:Bool)(n:Nat)(hn:n=1∨n=2∨n=4)(base tr:Int)(hb:0≤base∧base≤60000)(hat:DivAt code r n base)(s:Pu)(h:PuOk s)(p q T:Nat)(h0:aR s 0=p)(h1:aR s 1=q)(h7:aR s 7=T)
 (hp:p+n≤65536)(hq:q+n≤65536)(hT:n≤T∧T<65535)(hdp:p+n≤T-n∨T+1≤p)(hdq:q+n≤T-n∨T+1≤q)(hpq:p+n≤q∨q+n≤p)(hD:val (gM s) q n≠0):
 ∃(k:Nat) (s':Pu),Rout code s s' base tr k p n T n∧k≤5000∧s'.f 0=s.f 0∧val (gM s') p n=(if r=true then val (gM s) p n%val (gM s) q n else val (gM s) p n/val (gM s) q n):=by
 obtain⟨m1,m2,m3,m4,m5,m6⟩:=Ee n hn
 obtain⟨⟨l1,l2,l3,l4⟩,z1,z2,z3,z4,z5,z6⟩:=Jo n hn
 have l6:=l4 r
 have z7:=z6 r
 have y1:=Ym (dS1 n)
 have y2:=Ym (dS2 n)
 have y3:=Ym (dS3 n)
 have y4:=Ym (cmN 7 1 n)
 have y5:=Ym (dS5 n)
 have y6:=Ym (dS6 r n)
 have eA:dA n base=base+Z1 (dS1 n):=rfl
 have eL:dL n base=dA n base+2+2+Z1 (dS2 n):=rfl
 have eJ:dJ n base=dL n base+Z1 (dS3 n):=rfl
 have eK:dK n base=dJ n base+2+Z1 (cmN 7 1 n):=rfl
 have eN:dN n base=dK n base+2+Z1 (dS5 n):=rfl
 have eE:dE n base=dN n base+3+2:=rfl
 obtain⟨r1,_⟩:=Xv (tr:=tr) _ _ s hat.s1 m1 h (by omega) (by omega)
 obtain⟨o1,f1,g1,zz1⟩:=G2 n hn s h q h1 hq
 generalize exL (dS1 n) s=s1 at*
 have r2:=Uv (tr:=tr) (.inr (.inr (.inl rfl))) hat.j1 o1 (by omega)
 have hg:W9 21 s1.x=true:=by simp[W9,zz1,hD]
 rw[if_pos hg]at r2
 obtain⟨r3,o3⟩:=Xv (tr:=tr) _ _ s1 hat.s2 m2 o1 (by omega) (by omega)
 have x3:exL (dS2 n) s1=stR (exL (pzL n) (stR s1 2 0)) 3 ((16*n:Nat):Int):=by
  simp only[dS2,Y5,Yx,Yk,L6];rfl
 rw[x3]at r3 o3
 have hs1:=Yi o1 (r:=2) (v:=0) ⟨by decide,by decide⟩
 have b7:aR (stR s1 2 0) 7=T:=by rw[←h7];unfold aR;rw[Yf,if_neg (by decide),f1 7 (by decide) (by decide)]
 obtain⟨c2,v2⟩:=Zet n (stR s1 2 0) hs1 (by omega) rfl
 have a7:=c2.ar7 hs1 (by omega)
 rw[b7]at c2 v2 a7
 generalize exL (pzL n) (stR s1 2 0)=sB at*
 have ff:∀i,i≠2→i≠4→i≠7→i≠3→(stR sB 3 ((16*n:Nat):Int)).f i=s.f i:=fun i i2 i4 i7 i3=>by
  rw[Yf,if_neg i3,c2.f i i2 i4 i7,Yf,if_neg i2,f1 i i2 i4]
 have w0:aR (stR sB 3 ((16*n:Nat):Int)) 0=p:=by rw[←h0];unfold aR;rw[ff 0 (by decide) (by decide) (by decide) (by decide)]
 have w1:aR (stR sB 3 ((16*n:Nat):Int)) 1=q:=by rw[←h1];unfold aR;rw[ff 1 (by decide) (by decide) (by decide) (by decide)]
 have w7:aR (stR sB 3 ((16*n:Nat):Int)) 7=T-n:=by rw[←a7];unfold aR;rw[Yf,if_neg (by decide)]
 have e7:(stR sB 3 ((16*n:Nat):Int)).f 7=s.f 7-n:=by
  rw[Yf,if_neg (by decide),c2.sp,Yf,if_neg (by decide),f1 7 (by decide) (by decide)]
 have keep:∀b,(b<T-n∨T≤b)→gM (stR sB 3 ((16*n:Nat):Int)) b=gM s b:=fun b hb=>by
  show gM sB b=_
  rw[c2.m b (by omega),Zib,g1 b]
 have gu:val (gM (stR sB 3 ((16*n:Nat):Int))) (T-n) n=0:=v2
 have gp:val (gM (stR sB 3 ((16*n:Nat):Int))) p n=val (gM s) p n:=Zy _ _ fun b x y=>keep b (by omega)
 have gq:val (gM (stR sB 3 ((16*n:Nat):Int))) q n=val (gM s) q n:=Zy _ _ fun b x y=>keep b (by omega)
 have g3:(stR sB 3 ((16*n:Nat):Int)).f 3=((16*n-1+1:Nat):Int):=by rw[Yf,if_pos rfl];omega
 generalize stR sB 3 ((16*n:Nat):Int)=s2 at*
 have rgD:=Xl (g:=gM s) n q (fun b=>h.mem b)
 obtain⟨k3,s3,qq,r4,hk3,hK,hqq,hlt,e3⟩:=Zd7 code r n hn base tr hb hat p q (T-n) hp hq (by omega) (by omega) (by omega) (by omega) (16*n-1) s2 o3 g3 w0 w1 w7 (by rw[gu,gq];omega)
 rw[gu,gp,gq,Int.zero_mul,Int.zero_add,show 16*n-1+1=16*n by omega,←Zbx]at e3
 rw[show 16*n-1+1=16*n by omega,←Zbx]at hqq
 rw[gq]at hlt
 have rgP:=Xl (g:=gM s3) n p (fun b=>hK.ok.mem b)
 have rgU:=Xl (g:=gM s3) n (T-n) (fun b=>hK.ok.mem b)
 obtain⟨eQ,eR⟩:=dv_end _ _ _ _ _ _ (Mk n) rgP hqq ⟨rgU.1,hlt⟩ e3
 have d0:aR s3 0=p:=by rw[hK.aR (by decide) (by decide) (by decide)];exact w0
 have d7:aR s3 7=T-n:=by rw[hK.aR (by decide) (by decide) (by decide)];exact w7
 have f37:s3.f 7=s.f 7-n:=by rw[hK.f 7 (by decide) (by decide) (by decide),e7]
 obtain⟨r5,_⟩:=Xv (tr:=tr) _ _ s3 hat.s6 (m6 r) hK.ok (by omega) (by omega)
 have fin:∃s4:Pu,exL (dS6 r n) s3=exL (drI n) s4∧Chg s3 s4 p n∧val (gM s4) p n=(if r=true then val (gM s) p n%val (gM s) q n else val (gM s) p n/val (gM s) q n):=by
  cases r
  ·exact⟨s3,by simp only[dS6,Bool.false_eq_true,if_false,List.nil_append],Chg.rfl' hK.ok _ _,by rw[if_neg (by decide),eQ]⟩
  ·obtain⟨c4,e4⟩:=Zdz p (T-n) n 0 s3 hK.ok d0 d7 (by omega) (by omega) (by omega)
   rw[Nat.add_zero,Nat.add_zero]at e4
   rw[Nat.add_zero]at c4
   exact⟨_,by simp only[dS6,if_true];exact Y5 _ _ _,c4,by rw[if_pos rfl,e4,eR]⟩
 obtain⟨s4,x5,c4,v4⟩:=fin
 rw[x5]at r5
 have t7:aR s4 7=T-n:=by rw[c4.aR (by decide) (by decide)];exact d7
 have f47:s4.f 7=s.f 7-n:=by rw[c4.f 7 (by decide) (by decide),f37]
 obtain⟨o5,f5,p5,m5'⟩:=Zh3 c4.ok (d:=n) (by omega)
 generalize exL (drI n) s4=s5 at*
 have f7:s5.f 7=s.f 7:=by rw[p5,f47];omega
 have u7:aR s5 7=T:=by rw[←h7];unfold aR;rw[f7]
 have r6:=Hr (tr:=tr) hat.rt o5 (by omega) (by omega)
 have mm:∀b,(b<p∨p+n≤b)→(b<T-n∨T≤b)→gM s5 b=gM s b:=fun b x y=>by
  rw[m5',c4.m b x,hK.m b x (by omega),keep b y]
 have gmT:gM s5 (aR s5 7)=gM s T:=by rw[u7,mm T (by omega) (by omega)]
 rw[gmT]at r6
 refine⟨_,stR s5 7 (s5.f 7+1),⟨((((r1.trans r2).trans r3).trans r4).trans r5).trans r6,Yi o5 ?_,by rw[Yf,if_pos rfl,f7],fun b x y=>mm b x y⟩,?_,?_,?_⟩
 ·have:=h.reg 7 (by decide)
  unfold wd at*;unfold aR at h7;omega
 ·have:(16*n-1+1)*64≤64*64:=Nat.mul_le_mul_right _ (by omega)
  omega
 ·rw[Yf,if_neg (by decide),f5 0 (by decide) (by decide),c4.f 0 (by decide) (by decide),hK.f 0 (by decide) (by decide) (by decide),ff 0 (by decide) (by decide) (by decide) (by decide)]
 ·have e6:val (gM (stR s5 7 (s5.f 7+1))) p n=val (gM s4) p n:=Zy _ _ fun b _ _=>m5' b
  rw[e6,v4]
end Go.Proofs.YtddmlennnmpnhaaGreatDoor
