/- A part of the proofs of this seat's laws: steps on the way, joined. It has no conditions of its own. -/
import Derived.Test.YtbmecnjmbhokgaaGreatDoorQv
import Derived.Test.YtbmecnjmbhokgaaGreatDoorQj
namespace Go.Proofs.YtbmecnjmbhokgaaGreatDoor
open Go Vc
set_option linter.unusedVariables false
set_option linter.unusedSimpArgs false
def iLd(d s:Nat)(o:Nat):Ins:=⟨3,d,s,o⟩
def iSt(d s:Nat)(o:Nat):Ins:=⟨4,d,s,o⟩
def K9(d:Nat)(v:Nat):Ins:=⟨2,d,0,v⟩
def Zfw(d s:Nat):Ins:=⟨1,d,s,0⟩
def Zh1(k:Int)(d:Nat):Ins:=⟨k,d,0,0⟩
def Mg(k:Int)(d s:Nat):Ins:=⟨k,d,s,0⟩
def P9(s:Nat):Ins:=⟨28,0,s,0⟩
def gM(s:Pu)(a:Nat):Int:=s.mem.getD a 0
def aR(s:Pu)(r:Nat):Nat:=(s.f r).toNat
def stM(s:Pu)(a:Nat)(v:Int):Pu:= {s with mem:=s.mem.set a v}
def stR(s:Pu)(r:Nat)(v:Int):Pu:= {s with f:=Q7 s.f r v}
def stF(s:Pu)(x:Fl):Pu:= {s with x:=x}
theorem Yl(s:Pu):exL [] s=s:=rfl
theorem Yx(i:Ins)(l:List Ins)(s:Pu):exL (i::l) s=exL l (exP i s):=rfl
theorem Y0(l r:List Ins)(s:Pu):exL (l++r) s=exL r (exL l s):=by simp[exL]
theorem Rf{s:Pu}{d r o:Nat}(h:0≤s.f r∧s.f r+o≤65535):exP (iLd d r o) s=stR s d (gM s (aR s r+o)):=by
 have e:((s.f r+(o:Int))%65536).toNat=aR s r+o:=by unfold aR;omega
 simp[exP,Xj,iLd,mk,stR,gM,e]
theorem I2{s:Pu}{d r o:Nat}(h:0≤s.f d∧s.f d+o≤65535)(hr:wd (s.f r)):exP (iSt d r o) s=stM s (aR s d+o) (s.f r):=by
 have e:((s.f d+(o:Int))%65536).toNat=aR s d+o:=by unfold aR;omega
 have e2:s.f r%65536=s.f r:=by unfold wd at hr;omega
 simp[exP,Xj,iSt,mk,stM,e,e2]
theorem Me{s:Pu}{d v:Nat}:exP (K9 d v) s=stR s d (v:Int):=by simp[exP,Xj,K9,mk,stR]
theorem ex_mov{s:Pu}{d r:Nat}:exP (Zfw d r) s=stR s d (s.f r):=by simp[exP,Xj,Zfw,mk,stR]
theorem Zbh{s:Pu}{k:Int}{d:Nat}(hk:k=14∨k=15∨k=16∨k=17∨k=18):exP (Zh1 k d) s=stF (stR s d (shR k (s.f d) s.x.c)) (shF k (s.f d) s.x.c):=by
 rcases hk with rfl|rfl|rfl|rfl|rfl<;>simp[exP,Xj,Zh1,mk,stR,stF]
theorem Mf{s:Pu}{k:Int}{d r:Nat}(hk:k=5∨k=6∨k=7∨k=8∨k=10∨k=11):exP (Mg k d r) s=stF (stR s d (twoR k (s.f d) (s.f r) s.x)) (twoF k (s.f d) (s.f r) s.x):=by
 rcases hk with rfl|rfl|rfl|rfl|rfl|rfl<;>simp[exP,Xj,Mg,mk,stR,stF]
theorem Zhw{s:Pu}{k:Int}{d r:Nat}(hk:k=12∨k=13):exP (Mg k d r) s=stF s (twoF k (s.f d) (s.f r) s.x):=by
 rcases hk with rfl|rfl<;>simp[exP,Xj,Mg,mk,stF]
theorem ex_push{s:Pu}{r:Nat}(h7:1≤s.f 7∧s.f 7≤65535)(hr:wd (s.f r)):exP (P9 r) s=stM (stR s 7 (s.f 7-1)) (aR s 7-1) (s.f r):=by
 have e:(s.f 7-1)%65536=s.f 7-1:=by omega
 have e1:(s.f 7-1).toNat=aR s 7-1:=by unfold aR;omega
 have e2:s.f r%65536=s.f r:=by unfold wd at hr;omega
 simp[exP,Xj,P9,mk,stM,stR,e,e1,e2]
theorem Wm{s:Pu}{a b:Nat}{v:Int}(ha:a<s.mem.length):gM (stM s a v) b=if b=a then v else gM s b:=by
 unfold gM stM
 simp only
 rw[List.getD_eq_getElem?_getD,List.getElem?_set]
 by_cases h:a=b
 ·subst h;simp[ha]
 ·rw[if_neg h,if_neg (fun e=>h e.symm),←List.getD_eq_getElem?_getD]
theorem Zbj{s:Pu}{r b:Nat}{v:Int}:gM (stR s r v) b=gM s b:=rfl
theorem M8{s:Pu}{a:Nat}{v:Int}:(stM s a v).f=s.f:=rfl
theorem Va{s:Pu}{x:Fl}:(stF s x).f=s.f:=rfl
theorem Yi{s:Pu}{r i:Nat}{v:Int}:(stR s r v).f i=if i=r then v else s.f i:=rfl
theorem Ze6{s:Pu}{a:Nat}{v:Int}:(stM s a v).x=s.x:=rfl
theorem K5{s:Pu}{x:Fl}:(stF s x).x=x:=rfl
theorem R5{s:Pu}{r:Nat}{v:Int}:(stR s r v).mem.length=s.mem.length:=rfl
theorem len_stF{s:Pu}{x:Fl}:(stF s x).mem.length=s.mem.length:=rfl
theorem Qj{s:Pu}(h:PuOk s){a:Nat}{v:Int}(hv:wd v):PuOk (stM s a v):=⟨by simpa[stM]using h.len,h.reg,Dp h.mem hv⟩
theorem Yj{s:Pu}(h:PuOk s){r:Nat}{v:Int}(hv:wd v):PuOk (stR s r v):=⟨h.len,P6 h.reg hv,h.mem⟩
theorem T6{s:Pu}(h:PuOk s){x:Fl}:PuOk (stF s x):=⟨h.len,h.reg,h.mem⟩
def pw:Nat→Int
 |0=>1
 |n+1=>65536*pw n
theorem O3:∀n,0<pw n
 |0=>by decide
 |n+1=>by have:=O3 n;simp only[pw];omega
def val(g:Nat→Int)(a:Nat):Nat→Int
 |0=>0
 |n+1=>g a+65536*val g (a+1) n
theorem V0(g:Nat→Int):∀(n a:Nat),val g a (n+1)=val g a n+pw n*g (a+n)
 |0,a=>by simp[val,pw]
 |n+1,a=>by
  have ih:=V0 g n (a+1)
  rw[val,ih,val,pw,show a+1+n=a+(n+1) by omega,Int.mul_add,Int.mul_assoc]
  omega
theorem Zt{g h:Nat→Int}:∀(n a:Nat),(∀b,a≤b→b<a+n→g b=h b)→val g a n=val h a n
 |0,a,_=>rfl
 |n+1,a,hb=>by
  rw[val,val,hb a (Nat.le_refl _) (by omega),Zt n (a+1) fun b h1 h2=>hb b (by omega) (by omega)]
theorem Xe{g:Nat→Int}:∀(n a:Nat),(∀b,wd (g b))→0≤val g a n∧val g a n<pw n
 |0,a,_=>by simp[val,pw]
 |n+1,a,hb=>by
  have ih:=Xe n (a+1) hb
  have h1:=hb a
  unfold wd at h1
  simp only[val,pw]
  omega
theorem Ze3{g h:Nat→Int}:∀(n a b:Nat),(∀b,wd (g b))→(∀b,wd (h b))→val g a n=val h b n→∀i,i<n→g (a+i)=h (b+i)
 |0,a,b,_,_,_,i,hi=>by omega
 |n+1,a,b,hg,hh,e,i,hi=>by
  have h1:=hg a
  have h2:=hh b
  unfold wd at h1 h2
  simp only[val]at e
  have e1:g a=h b:=by omega
  cases i with
  |zero=>exact e1
  |succ i=>
   have:=Ze3 n (a+1) (b+1) hg hh (by omega) i (by omega)
   rw[show a+(i+1)=a+1+i by omega,show b+(i+1)=b+1+i by omega]
   exact this
theorem sh_up(a:Int)(ha:wd a)(c:Bool):shR 15 a c+65536*cI (shF 15 a c).c=2*a+cI c∧wd (shR 15 a c):=by
 unfold wd at ha
 refine⟨?_,Ql _ _ _ ha⟩
 simp only[shF,Rq,shR,Int.reduceEq,↓reduceIte,or_true]
 by_cases h:32767<a<;>cases c<;>simp[cI,h]<;>omega
theorem sh_up0(a:Int)(ha:wd a)(c:Bool):shR 14 a c=shR 15 a false∧(shF 14 a c).c=(shF 15 a false).c:=by
 simp[shF,Rq,shR,cI]
def topB(k:Int)(a:Int)(c:Bool):Bool:=if k=16 then false else if k=17 then decide (32767<a)else c
theorem sh_down(k:Int)(hk:k=16∨k=17∨k=18)(a:Int)(ha:wd a)(c:Bool):2*shR k a c+cI (shF k a c).c=a+65536*cI (topB k a c)∧wd (shR k a c):=by
 unfold wd at ha
 refine⟨?_,Ql _ _ _ ha⟩
 rcases hk with rfl|rfl|rfl
 ·simp only[shF,Rq,shR,topB,Int.reduceEq,↓reduceIte,or_false]
  by_cases h:a%2=1<;>simp[cI,h]<;>omega
 ·simp only[shF,Rq,shR,topB,Int.reduceEq,↓reduceIte,or_false]
  by_cases h:a%2=1<;>by_cases h2:32767<a<;>simp[cI,h,h2]<;>omega
 ·simp only[shF,Rq,shR,topB,Int.reduceEq,↓reduceIte,or_false]
  by_cases h:a%2=1<;>cases c<;>simp[cI,h]<;>omega
def upW(k:Int)(reg off:Nat):List Ins:=[iLd 2 reg off,Zh1 k 2,iSt reg 2 off]
def upL(reg:Nat):Nat→Nat→List Ins
 |_,0=>[]
 |off,n+1=>upW 15 reg off++upL reg (off+1) n
theorem upW_run(k:Int)(hk:k=14∨k=15){s:Pu}(h:PuOk s){reg off:Nat}(hr:reg<8∧reg≠2)(hb:aR s reg+off<65536):
 exL (upW k reg off) s=stM (stF (stR (stR s 2 (gM s (aR s reg+off))) 2 (shR k (gM s (aR s reg+off)) s.x.c)) (shF k (gM s (aR s reg+off)) s.x.c)) (aR s reg+off) (shR k (gM s (aR s reg+off)) s.x.c):=by
 have hf:=h.reg reg hr.1
 unfold wd at hf
 have hA:((aR s reg:Nat):Int)=s.f reg:=by unfold aR;omega
 have hw:wd (gM s (aR s reg+off)):=h.mem _
 simp only[upW,Yx,Yl]
 rw[Rf (by omega),Zbh (by omega)]
 have e2:(stR s 2 (gM s (aR s reg+off))).f 2=gM s (aR s reg+off):=rfl
 rw[e2]
 rw[I2 (by
  show 0≤(stR (stR s 2 _) 2 _).f reg∧_
  simp only[Yi,Va,if_neg hr.2];omega) (Ql _ _ _ hw)]
 have e3:aR (stF (stR (stR s 2 (gM s (aR s reg+off))) 2 (shR k (gM s (aR s reg+off)) (stR s 2 (gM s (aR s reg+off))).x.c)) (shF k (gM s (aR s reg+off)) (stR s 2 (gM s (aR s reg+off))).x.c)) reg=aR s reg:=by
  simp only[aR,Va,Yi,if_neg hr.2]
 rw[e3]
 rfl
structure Chg (s s':Pu) (A n:Nat):Prop where
 ok:PuOk s'
 f:∀i,i≠2→i≠4→s'.f i=s.f i
 m:∀b,b<A∨A+n≤b→gM s' b=gM s b
theorem Chg.rfl'{s:Pu}(h:PuOk s)(A n:Nat):Chg s s A n:=⟨h,fun _ _ _=>rfl,fun _ _=>rfl⟩
theorem Chg.wider{s s':Pu}{A n A' n':Nat}(h:Chg s s' A n)(h1:A'≤A)(h2:A+n≤A'+n'):Chg s s' A' n':=⟨h.ok,h.f,fun b hb=>h.m b (by omega)⟩
theorem Chg.trans{s s1 s2:Pu}{A n:Nat}(h:Chg s s1 A n)(h2:Chg s1 s2 A n):Chg s s2 A n:=⟨h2.ok,fun i h3 h4=>(h2.f i h3 h4).trans (h.f i h3 h4),fun b hb=>(h2.m b hb).trans (h.m b hb)⟩
theorem Chg.aR{s s':Pu}{A n:Nat}(h:Chg s s' A n){r:Nat}(h2:r≠2)(h4:r≠4):aR s' r=aR s r:=by unfold Proofs.YtbmecnjmbhokgaaGreatDoor.aR;rw[h.f r h2 h4]
theorem Lw(p:Int)(c:Bool):65536*p*cI c=65536*(p*cI c):=by rw[Int.mul_assoc]
theorem Ze2(k:Int)(hk:k=14∨k=15){s:Pu}(h:PuOk s){reg off:Nat}(hr:reg<8∧reg≠2)(hb:aR s reg+off<65536):
 Chg s (exL (upW k reg off) s) (aR s reg+off) 1∧gM (exL (upW k reg off) s) (aR s reg+off)+65536*cI (exL (upW k reg off) s).x.c=2*gM s (aR s reg+off)+(if k=14 then 0 else cI s.x.c):=by
 have hw:wd (gM s (aR s reg+off)):=h.mem _
 rw[upW_run k hk h hr hb]
 have hl:aR s reg+off<s.mem.length:=by rw[h.len];exact hb
 refine⟨⟨Qj (T6 (Yj (Yj h hw) (Ql _ _ _ hw))) (Ql _ _ _ hw),fun i h2 _=>by simp only[M8,Va,Yi,if_neg h2],fun b hb=> ?_⟩,?_⟩
 ·rw[Wm (by exact hl),if_neg (by omega)];rfl
 ·rw[Wm (by exact hl),if_pos rfl]
  simp only[Ze6,K5]
  rcases hk with rfl|rfl
  ·obtain⟨e1,e2⟩:=sh_up0 _ hw s.x.c
   rw[e1,e2]
   have:=(sh_up _ hw false).1
   simpa[cI]using this
  ·simpa using(sh_up _ hw s.x.c).1
theorem Ze1(reg:Nat)(hr:reg<8∧reg≠2∧reg≠4):∀(n off:Nat) (s:Pu),PuOk s→aR s reg+off+n≤65536→
 Chg s (exL (upL reg off n) s) (aR s reg+off) n∧val (gM (exL (upL reg off n) s)) (aR s reg+off) n+pw n*cI (exL (upL reg off n) s).x.c=2*val (gM s) (aR s reg+off) n+cI s.x.c
 |0,off,s,h,hb=>⟨Chg.rfl' h _ _,by simp[upL,Yl,val,pw]⟩
 |n+1,off,s,h,hb=>by
  obtain⟨c1,e1⟩:=Ze2 15 (.inr rfl) h ⟨hr.1,hr.2.1⟩ (off:=off) (by omega)
  simp only[upL,Y0]
  generalize exL (upW 15 reg off) s=s1 at*
  have ha:=c1.aR hr.2.1 hr.2.2
  obtain⟨c2,e2⟩:=Ze1 reg hr n (off+1) s1 c1.ok (by omega)
  rw[ha]at c2 e2
  generalize exL (upL reg (off+1) n) s1=s2 at*
  refine⟨(c1.wider (by omega) (by omega)).trans (c2.wider (by omega) (by omega)),?_⟩
  simp only[val,pw,Lw]
  have g1:gM s2 (aR s reg+off)=gM s1 (aR s reg+off):=c2.m _ (by omega)
  have g2:val (gM s1) (aR s reg+off+1) n=val (gM s) (aR s reg+off+1) n:=Zt _ _ fun b h1 h2=>c1.m b (by omega)
  rw[show aR s reg+(off+1)=aR s reg+off+1 by omega]at e2
  rw[g2]at e2
  rw[g1]
  simp only[Int.reduceEq,↓reduceIte]at e1
  generalize pw n*cI s2.x.c=q at*
  omega
def upN(k:Int)(reg off n:Nat):List Ins:=match n with
 |0=>[]
 |n+1=>upW k reg off++upL reg (off+1) n
theorem Dn(k:Int)(hk:k=14∨k=15)(reg:Nat)(hr:reg<8∧reg≠2∧reg≠4)(n off:Nat)(hn:0<n)(s:Pu)(h:PuOk s)(hb:aR s reg+off+n≤65536):
 Chg s (exL (upN k reg off n) s) (aR s reg+off) n∧val (gM (exL (upN k reg off n) s)) (aR s reg+off) n+pw n*cI (exL (upN k reg off n) s).x.c=2*val (gM s) (aR s reg+off) n+(if k=14 then 0 else cI s.x.c):=by
 obtain⟨n,rfl⟩:∃m,n=m+1:=⟨n-1,by omega⟩
 obtain⟨c1,e1⟩:=Ze2 k hk h ⟨hr.1,hr.2.1⟩ (off:=off) (by omega)
 simp only[upN,Y0]
 generalize exL (upW k reg off) s=s1 at*
 have ha:=c1.aR hr.2.1 hr.2.2
 obtain⟨c2,e2⟩:=Ze1 reg hr n (off+1) s1 c1.ok (by omega)
 rw[ha]at c2 e2
 generalize exL (upL reg (off+1) n) s1=s2 at*
 refine⟨(c1.wider (by omega) (by omega)).trans (c2.wider (by omega) (by omega)),?_⟩
 simp only[val,pw,Lw]
 have g1:gM s2 (aR s reg+off)=gM s1 (aR s reg+off):=c2.m _ (by omega)
 have g2:val (gM s1) (aR s reg+off+1) n=val (gM s) (aR s reg+off+1) n:=Zt _ _ fun b h1 h2=>c1.m b (by omega)
 rw[show aR s reg+(off+1)=aR s reg+off+1 by omega]at e2
 rw[g2]at e2
 rw[g1]
 generalize pw n*cI s2.x.c=q at*
 omega
def dnW(k:Int)(reg off:Nat):List Ins:=[iLd 2 reg off,Zh1 k 2,iSt reg 2 off]
def dnL(reg:Nat):Nat→List Ins
 |0=>[]
 |n+1=>dnW 18 reg n++dnL reg n
theorem Zdw(k:Int)(hk:k=16∨k=17∨k=18){s:Pu}(h:PuOk s){reg off:Nat}(hr:reg<8∧reg≠2)(hb:aR s reg+off<65536):
 Chg s (exL (dnW k reg off) s) (aR s reg+off) 1∧2*gM (exL (dnW k reg off) s) (aR s reg+off)+cI (exL (dnW k reg off) s).x.c=gM s (aR s reg+off)+65536*cI (topB k (gM s (aR s reg+off)) s.x.c):=by
 have hf:=h.reg reg hr.1
 unfold wd at hf
 have hA:((aR s reg:Nat):Int)=s.f reg:=by unfold aR;omega
 have hw:wd (gM s (aR s reg+off)):=h.mem _
 have key:exL (dnW k reg off) s=stM (stF (stR (stR s 2 (gM s (aR s reg+off))) 2 (shR k (gM s (aR s reg+off)) s.x.c)) (shF k (gM s (aR s reg+off)) s.x.c)) (aR s reg+off) (shR k (gM s (aR s reg+off)) s.x.c):=by
  simp only[dnW,Yx,Yl]
  rw[Rf (by omega),Zbh (by omega)]
  have e2:(stR s 2 (gM s (aR s reg+off))).f 2=gM s (aR s reg+off):=rfl
  rw[e2]
  rw[I2 (by
   show 0≤(stR (stR s 2 _) 2 _).f reg∧_
   simp only[Yi,Va,if_neg hr.2];omega) (Ql _ _ _ hw)]
  have e3:aR (stF (stR (stR s 2 (gM s (aR s reg+off))) 2 (shR k (gM s (aR s reg+off)) (stR s 2 (gM s (aR s reg+off))).x.c)) (shF k (gM s (aR s reg+off)) (stR s 2 (gM s (aR s reg+off))).x.c)) reg=aR s reg:=by
   simp only[aR,Va,Yi,if_neg hr.2]
  rw[e3]
  rfl
 rw[key]
 have hl:aR s reg+off<s.mem.length:=by rw[h.len];exact hb
 refine⟨⟨Qj (T6 (Yj (Yj h hw) (Ql _ _ _ hw))) (Ql _ _ _ hw),fun i h2 _=>by simp only[M8,Va,Yi,if_neg h2],fun b hb=> ?_⟩,?_⟩
 ·rw[Wm (by exact hl),if_neg (by omega)];rfl
 ·rw[Wm (by exact hl),if_pos rfl]
  simp only[Ze6,K5]
  exact(sh_down k hk _ hw s.x.c).1
theorem Zdv(reg:Nat)(hr:reg<8∧reg≠2∧reg≠4):∀(n:Nat) (s:Pu),PuOk s→aR s reg+n≤65536→
 Chg s (exL (dnL reg n) s) (aR s reg) n∧2*val (gM (exL (dnL reg n) s)) (aR s reg) n+cI (exL (dnL reg n) s).x.c=val (gM s) (aR s reg) n+pw n*cI s.x.c
 |0,s,h,hb=>⟨Chg.rfl' h _ _,by simp[dnL,Yl,val,pw]⟩
 |n+1,s,h,hb=>by
  obtain⟨c1,e1⟩:=Zdw 18 (by omega) h ⟨hr.1,hr.2.1⟩ (off:=n) (by omega)
  simp only[dnL,Y0]
  generalize exL (dnW 18 reg n) s=s1 at*
  have ha:=c1.aR hr.2.1 hr.2.2
  obtain⟨c2,e2⟩:=Zdv reg hr n s1 c1.ok (by omega)
  rw[ha]at c2 e2
  generalize exL (dnL reg n) s1=s2 at*
  refine⟨(c1.wider (by omega) (by omega)).trans (c2.wider (by omega) (by omega)),?_⟩
  have g1:gM s2 (aR s reg+n)=gM s1 (aR s reg+n):=c2.m _ (by omega)
  have g2:val (gM s1) (aR s reg) n=val (gM s) (aR s reg) n:=Zt _ _ fun b h1 h2=>c1.m b (by omega)
  rw[V0,V0,g1]
  rw[g2]at e2
  simp only[topB,Int.reduceEq,↓reduceIte]at e1
  have e3:pw n*(2*gM s1 (aR s reg+n)+cI s1.x.c)=pw n*(gM s (aR s reg+n)+65536*cI s.x.c):=by rw[e1]
  have e4:pw (n+1)*cI s.x.c=pw n*(65536*cI s.x.c):=by
   simp only[pw]
   rw[Int.mul_comm 65536 (pw n),Int.mul_assoc]
  rw[e4]
  rw[Int.mul_add,Int.mul_add,←Int.mul_assoc,Int.mul_comm (pw n) 2,Int.mul_assoc]at e3
  omega
def dnN(k:Int)(reg n:Nat):List Ins:=match n with
 |0=>[]
 |n+1=>dnW k reg n++dnL reg n
theorem dnN_run(k:Int)(hk:k=16∨k=17∨k=18)(reg:Nat)(hr:reg<8∧reg≠2∧reg≠4)(n:Nat)(s:Pu)(h:PuOk s)(hb:aR s reg+(n+1)≤65536):
 Chg s (exL (dnN k reg (n+1)) s) (aR s reg) (n+1)∧2*val (gM (exL (dnN k reg (n+1)) s)) (aR s reg) (n+1)+cI (exL (dnN k reg (n+1)) s).x.c=val (gM s) (aR s reg) (n+1)+pw (n+1)*cI (topB k (gM s (aR s reg+n)) s.x.c):=by
 obtain⟨c1,e1⟩:=Zdw k hk h ⟨hr.1,hr.2.1⟩ (off:=n) (by omega)
 simp only[dnN,Y0]
 generalize exL (dnW k reg n) s=s1 at*
 have ha:=c1.aR hr.2.1 hr.2.2
 obtain⟨c2,e2⟩:=Zdv reg hr n s1 c1.ok (by omega)
 rw[ha]at c2 e2
 generalize exL (dnL reg n) s1=s2 at*
 refine⟨(c1.wider (by omega) (by omega)).trans (c2.wider (by omega) (by omega)),?_⟩
 have g1:gM s2 (aR s reg+n)=gM s1 (aR s reg+n):=c2.m _ (by omega)
 have g2:val (gM s1) (aR s reg) n=val (gM s) (aR s reg) n:=Zt _ _ fun b h1 h2=>c1.m b (by omega)
 rw[V0,V0,g1]
 rw[g2]at e2
 generalize topB k (gM s (aR s reg+n)) s.x.c=tb at*
 have e3:pw n*(2*gM s1 (aR s reg+n)+cI s1.x.c)=pw n*(gM s (aR s reg+n)+65536*cI tb):=by rw[e1]
 have e4:pw (n+1)*cI tb=pw n*(65536*cI tb):=by
  simp only[pw]
  rw[Int.mul_comm 65536 (pw n),Int.mul_assoc]
 rw[e4]
 rw[Int.mul_add,Int.mul_add,←Int.mul_assoc,Int.mul_comm (pw n) 2,Int.mul_assoc]at e3
 omega
theorem Jm:cI true=1:=rfl
theorem W9:cI false=0:=rfl
theorem N7(c:Bool):0≤cI c∧cI c≤1:=by cases c<;>simp[cI]
theorem Zhl(c:Bool):cI (!c)=1-cI c:=by cases c<;>rfl
theorem sum_w(a b:Int)(c:Bool)(ha:wd a)(hb:wd b):T8 a b c+65536*cI (decide (65535<a+b+cI c))=a+b+cI c:=by
 have hc:=N7 c
 unfold wd at ha hb
 unfold T8
 generalize cI c=k at*
 by_cases h2:65535<a+b+k
 ·rw[decide_eq_true h2,Jm];omega
 ·rw[decide_eq_false h2,W9];omega
theorem Zhp(a b:Int)(c:Bool)(ha:wd a)(hb:wd b):Sh a b c-65536*cI (!decide (65535<a+(65535-b)+cI (!c)))=a-b-cI c:=by
 have hc:=N7 c
 unfold wd at ha hb
 unfold Sh T8
 rw[Zhl,Zhl]
 generalize cI c=k at*
 by_cases h2:65535<a+(65535-b)+(1-k)
 ·rw[decide_eq_true h2,Jm];omega
 ·rw[decide_eq_false h2,W9];omega
def twW(k:Int)(ra rb i off:Nat):List Ins:=[iLd 2 ra i,iLd 4 rb off,Mg k 2 4,iSt ra 2 i]
def twS(k:Int):Bool:=k==7||k==8
def twC(k:Int)(c:Bool):Bool:=if k=5∨k=7 then false else c
theorem Zey(k:Int)(hk:k=5∨k=6∨k=7∨k=8){s:Pu}(h:PuOk s){ra rb i off:Nat}(ha:ra<8∧ra≠2∧ra≠4)(hb:rb<8∧rb≠2∧rb≠4)(h1:aR s ra+i<65536)(h2:aR s rb+off<65536):
 Chg s (exL (twW k ra rb i off) s) (aR s ra+i) 1∧
  (if twS k=true then gM (exL (twW k ra rb i off) s) (aR s ra+i)-65536*cI (exL (twW k ra rb i off) s).x.c=gM s (aR s ra+i)-gM s (aR s rb+off)-cI (twC k s.x.c)
   else gM (exL (twW k ra rb i off) s) (aR s ra+i)+65536*cI (exL (twW k ra rb i off) s).x.c=gM s (aR s ra+i)+gM s (aR s rb+off)+cI (twC k s.x.c)):=by
 have hfa:=h.reg ra ha.1
 have hfb:=h.reg rb hb.1
 unfold wd at hfa hfb
 have hA:((aR s ra:Nat):Int)=s.f ra:=by unfold aR;omega
 have hB:((aR s rb:Nat):Int)=s.f rb:=by unfold aR;omega
 have hwa:wd (gM s (aR s ra+i)):=h.mem _
 have hwb:wd (gM s (aR s rb+off)):=h.mem _
 have key:exL (twW k ra rb i off) s=stM (stF (stR (stR (stR s 2 (gM s (aR s ra+i))) 4 (gM s (aR s rb+off))) 2 (twoR k (gM s (aR s ra+i)) (gM s (aR s rb+off)) s.x)) (twoF k (gM s (aR s ra+i)) (gM s (aR s rb+off)) s.x)) (aR s ra+i) (twoR k (gM s (aR s ra+i)) (gM s (aR s rb+off)) s.x):=by
  simp only[twW,Yx,Yl]
  rw[Rf (s:=s) (d:=2) (r:=ra) (o:=i) (by omega)]
  have e1:aR (stR s 2 (gM s (aR s ra+i))) rb=aR s rb:=by simp only[aR,Yi,if_neg hb.2.1]
  rw[Rf (by simp only[Yi,if_neg hb.2.1];omega),e1,Mf (by omega)]
  have e2:(stR (stR s 2 (gM s (aR s ra+i))) 4 (gM (stR s 2 (gM s (aR s ra+i))) (aR s rb+off))).f 2=gM s (aR s ra+i):=rfl
  have e3:(stR (stR s 2 (gM s (aR s ra+i))) 4 (gM (stR s 2 (gM s (aR s ra+i))) (aR s rb+off))).f 4=gM s (aR s rb+off):=rfl
  rw[e2,e3]
  rw[I2 (by simp only[Yi,Va,if_neg ha.2.1,if_neg ha.2.2];omega) (P5 _ _ _ _)]
  have e4:aR (stF (stR (stR (stR s 2 (gM s (aR s ra+i))) 4 (gM (stR s 2 (gM s (aR s ra+i))) (aR s rb+off))) 2 (twoR k (gM s (aR s ra+i)) (gM s (aR s rb+off)) (stR (stR s 2 (gM s (aR s ra+i))) 4 (gM (stR s 2 (gM s (aR s ra+i))) (aR s rb+off))).x)) (twoF k (gM s (aR s ra+i)) (gM s (aR s rb+off)) (stR (stR s 2 (gM s (aR s ra+i))) 4 (gM (stR s 2 (gM s (aR s ra+i))) (aR s rb+off))).x)) ra=aR s ra:=by
   simp only[aR,Yi,Va,if_neg ha.2.1,if_neg ha.2.2]
  rw[e4]
  rfl
 rw[key]
 have hl:aR s ra+i<s.mem.length:=by rw[h.len];exact h1
 refine⟨⟨Qj (T6 (Yj (Yj (Yj h hwa) hwb) (P5 _ _ _ _))) (P5 _ _ _ _),fun i h2 h4=>by simp only[M8,Va,Yi,if_neg h2,if_neg h4],fun b hb=> ?_⟩,?_⟩
 ·rw[Wm (by exact hl),if_neg (by omega)];rfl
 ·rw[Wm (by exact hl),if_pos rfl]
  simp only[Ze6,K5]
  generalize gM s (aR s ra+i)=a at*
  generalize gM s (aR s rb+off)=b at*
  have hs:=fun c=>sum_w a b c hwa hwb
  have hd:=fun c=>Zhp a b c hwa hwb
  rcases hk with rfl|rfl|rfl|rfl
  ·exact hs false
  ·exact hs s.x.c
  ·exact hd false
  ·exact hd s.x.c
def twL(k:Int)(ra rb:Nat):Nat→Nat→Nat→List Ins
 |_,_,0=>[]
 |i,off,n+1=>twW k ra rb i off++twL k ra rb (i+1) (off+1) n
def twV(k:Int)(s s':Pu)(A B n:Nat)(c:Bool):Prop:=
 if twS k=true then val (gM s') A n-pw n*cI s'.x.c=val (gM s) A n-val (gM s) B n-cI c else val (gM s') A n+pw n*cI s'.x.c=val (gM s) A n+val (gM s) B n+cI c
theorem Zez{k:Int}{s s1 s2:Pu}{A B n:Nat}{c:Bool}(c1:Chg s s1 A 1)(c2:Chg s1 s2 (A+1) n)(hd:A+(n+1)≤B∨B+(n+1)≤A)
 (e1:if twS k=true then gM s1 A-65536*cI s1.x.c=gM s A-gM s B-cI c else gM s1 A+65536*cI s1.x.c=gM s A+gM s B+cI c)(e2:twV k s1 s2 (A+1) (B+1) n s1.x.c):twV k s s2 A B (n+1) c:=by
 have g1:gM s2 A=gM s1 A:=c2.m _ (by omega)
 have g2:val (gM s1) (A+1) n=val (gM s) (A+1) n:=Zt _ _ fun b h1 h2=>c1.m b (by omega)
 have g3:val (gM s1) (B+1) n=val (gM s) (B+1) n:=Zt _ _ fun b h1 h2=>c1.m b (by omega)
 unfold twV at*
 simp only[val,pw,Lw]
 rw[g2,g3]at e2
 rw[g1]
 generalize pw n*cI s2.x.c=q at*
 by_cases hb:twS k=true
 ·simp only[if_pos hb]at*;omega
 ·simp only[if_neg hb]at*;omega
theorem Zew(k:Int)(hk:k=6∨k=8)(ra rb:Nat)(ha:ra<8∧ra≠2∧ra≠4)(hb:rb<8∧rb≠2∧rb≠4):∀(n i off:Nat) (s:Pu),PuOk s→aR s ra+i+n≤65536→aR s rb+off+n≤65536→(aR s ra+i+n≤aR s rb+off∨aR s rb+off+n≤aR s ra+i)→
 Chg s (exL (twL k ra rb i off n) s) (aR s ra+i) n∧twV k s (exL (twL k ra rb i off n) s) (aR s ra+i) (aR s rb+off) n s.x.c
 |0,i,off,s,h,_,_,_=>⟨Chg.rfl' h _ _,by unfold twV;split<;>simp[twL,Yl,val,pw]⟩
 |n+1,i,off,s,h,h1,h2,hd=>by
  obtain⟨c1,e1⟩:=Zey k (by omega) h ha hb (i:=i) (off:=off) (by omega) (by omega)
  have htc:twC k s.x.c=s.x.c:=by rcases hk with rfl|rfl<;>rfl
  rw[htc]at e1
  simp only[twL,Y0]
  generalize exL (twW k ra rb i off) s=s1 at*
  have hra:=c1.aR ha.2.1 ha.2.2
  have hrb:=c1.aR hb.2.1 hb.2.2
  obtain⟨c2,e2⟩:=Zew k hk ra rb ha hb n (i+1) (off+1) s1 c1.ok (by omega) (by omega) (by omega)
  rw[hra]at c2 e2
  rw[hrb]at e2
  generalize exL (twL k ra rb (i+1) (off+1) n) s1=s2 at*
  exact⟨(c1.wider (by omega) (by omega)).trans (c2.wider (by omega) (by omega)),Zez c1 c2 (by omega) e1 e2⟩
def twN(k:Int)(ra rb off n:Nat):List Ins:=match n with
 |0=>[]
 |n+1=>twW k ra rb 0 off++twL (k+1) ra rb 1 (off+1) n
theorem Zex(k:Int)(hk:k=5∨k=7)(ra rb:Nat)(ha:ra<8∧ra≠2∧ra≠4)(hb:rb<8∧rb≠2∧rb≠4)(n off:Nat)(hn:0<n)(s:Pu)(h:PuOk s)(h1:aR s ra+n≤65536)(h2:aR s rb+off+n≤65536)(hd:aR s ra+n≤aR s rb+off∨aR s rb+off+n≤aR s ra):
 Chg s (exL (twN k ra rb off n) s) (aR s ra) n∧twV k s (exL (twN k ra rb off n) s) (aR s ra) (aR s rb+off) n false:=by
 obtain⟨n,rfl⟩:∃m,n=m+1:=⟨n-1,by omega⟩
 obtain⟨c1,e1⟩:=Zey k (by omega) h ha hb (i:=0) (off:=off) (by omega) (by omega)
 have htc:twC k s.x.c=false:=by rcases hk with rfl|rfl<;>rfl
 rw[htc]at e1
 simp only[twN,Y0,Nat.add_zero]at*
 generalize exL (twW k ra rb 0 off) s=s1 at*
 have hra:=c1.aR ha.2.1 ha.2.2
 have hrb:=c1.aR hb.2.1 hb.2.2
 obtain⟨c2,e2⟩:=Zew (k+1) (by omega) ra rb ha hb n 1 (off+1) s1 c1.ok (by omega) (by omega) (by omega)
 rw[hra]at c2 e2
 rw[hrb]at e2
 generalize exL (twL (k+1) ra rb 1 (off+1) n) s1=s2 at*
 refine⟨(c1.wider (by omega) (by omega)).trans (c2.wider (by omega) (by omega)),Zez c1 c2 (by omega) e1 ?_⟩
 rcases hk with rfl|rfl<;>exact e2
def cmW(k:Int)(ra rb i:Nat):List Ins:=[iLd 2 ra i,iLd 4 rb i,Mg k 2 4]
def cmC(k:Int)(c:Bool):Bool:=if k=12 then false else c
theorem Zdp(k:Int)(hk:k=12∨k=13){s:Pu}(h:PuOk s){ra rb i:Nat}(ha:ra<8∧ra≠2∧ra≠4)(hb:rb<8∧rb≠2∧rb≠4)(h1:aR s ra+i<65536)(h2:aR s rb+i<65536):
 Chg s (exL (cmW k ra rb i) s) 0 0∧∃r,wd r∧r-65536*cI (exL (cmW k ra rb i) s).x.c=gM s (aR s ra+i)-gM s (aR s rb+i)-cI (cmC k s.x.c):=by
 have hfa:=h.reg ra ha.1
 have hfb:=h.reg rb hb.1
 unfold wd at hfa hfb
 have hA:((aR s ra:Nat):Int)=s.f ra:=by unfold aR;omega
 have hB:((aR s rb:Nat):Int)=s.f rb:=by unfold aR;omega
 have hwa:wd (gM s (aR s ra+i)):=h.mem _
 have hwb:wd (gM s (aR s rb+i)):=h.mem _
 have key:exL (cmW k ra rb i) s=stF (stR (stR s 2 (gM s (aR s ra+i))) 4 (gM s (aR s rb+i))) (twoF k (gM s (aR s ra+i)) (gM s (aR s rb+i)) s.x):=by
  simp only[cmW,Yx,Yl]
  rw[Rf (s:=s) (d:=2) (r:=ra) (o:=i) (by omega)]
  have e1:aR (stR s 2 (gM s (aR s ra+i))) rb=aR s rb:=by simp only[aR,Yi,if_neg hb.2.1]
  rw[Rf (by simp only[Yi,if_neg hb.2.1];omega),e1,Zhw hk]
  rfl
 rw[key]
 refine⟨⟨T6 (Yj (Yj h hwa) hwb),fun i h2 h4=>by simp only[Va,Yi,if_neg h2,if_neg h4],fun b hb=>rfl⟩,?_⟩
 simp only[K5]
 generalize gM s (aR s ra+i)=a at*
 generalize gM s (aR s rb+i)=b at*
 have hd:=fun c=>Zhp a b c hwa hwb
 rcases hk with rfl|rfl
 ·exact⟨Sh a b false,Dq _ _ _,hd false⟩
 ·exact⟨Sh a b s.x.c,Dq _ _ _,hd s.x.c⟩
def cmL(ra rb:Nat):Nat→Nat→List Ins
 |_,0=>[]
 |i,n+1=>cmW 13 ra rb i++cmL ra rb (i+1) n
theorem Zdq{s s1 s2:Pu}{A B n:Nat}{c:Bool}(c1:Chg s s1 0 0)(e1:∃r,wd r∧r-65536*cI s1.x.c=gM s A-gM s B-cI c)
 (e2:∃r,(0≤r∧r<pw n)∧r-pw n*cI s2.x.c=val (gM s1) (A+1) n-val (gM s1) (B+1) n-cI s1.x.c):∃r,(0≤r∧r<pw (n+1))∧r-pw (n+1)*cI s2.x.c=val (gM s) A (n+1)-val (gM s) B (n+1)-cI c:=by
 obtain⟨r1,w1,e1⟩:=e1
 obtain⟨r2,w2,e2⟩:=e2
 have g2:val (gM s1) (A+1) n=val (gM s) (A+1) n:=Zt _ _ fun b h1 h2=>c1.m b (by omega)
 have g3:val (gM s1) (B+1) n=val (gM s) (B+1) n:=Zt _ _ fun b h1 h2=>c1.m b (by omega)
 rw[g2,g3]at e2
 unfold wd at w1
 refine⟨r1+65536*r2,by simp only[pw];omega,?_⟩
 simp only[val,pw,Lw]
 generalize pw n*cI s2.x.c=q at*
 omega
theorem Zdo(ra rb:Nat)(ha:ra<8∧ra≠2∧ra≠4)(hb:rb<8∧rb≠2∧rb≠4):∀(n i:Nat) (s:Pu),PuOk s→aR s ra+i+n≤65536→aR s rb+i+n≤65536→
 Chg s (exL (cmL ra rb i n) s) 0 0∧∃r,(0≤r∧r<pw n)∧r-pw n*cI (exL (cmL ra rb i n) s).x.c=val (gM s) (aR s ra+i) n-val (gM s) (aR s rb+i) n-cI s.x.c
 |0,i,s,h,_,_=>⟨Chg.rfl' h _ _,0,by simp[pw],by simp[cmL,Yl,val,pw]⟩
 |n+1,i,s,h,h1,h2=>by
  obtain⟨c1,e1⟩:=Zdp 13 (.inr rfl) h ha hb (i:=i) (by omega) (by omega)
  simp only[cmL,Y0]
  generalize exL (cmW 13 ra rb i) s=s1 at*
  have hra:=c1.aR ha.2.1 ha.2.2
  have hrb:=c1.aR hb.2.1 hb.2.2
  obtain⟨c2,e2⟩:=Zdo ra rb ha hb n (i+1) s1 c1.ok (by omega) (by omega)
  rw[hra,hrb]at e2
  generalize exL (cmL ra rb (i+1) n) s1=s2 at*
  exact⟨c1.trans c2,Zdq c1 e1 e2⟩
def cmN(ra rb n:Nat):List Ins:=match n with
 |0=>[]
 |n+1=>cmW 12 ra rb 0++cmL ra rb 1 n
theorem cmN_run(ra rb:Nat)(ha:ra<8∧ra≠2∧ra≠4)(hb:rb<8∧rb≠2∧rb≠4)(n:Nat)(hn:0<n)(s:Pu)(h:PuOk s)(h1:aR s ra+n≤65536)(h2:aR s rb+n≤65536):
 Chg s (exL (cmN ra rb n) s) 0 0∧((exL (cmN ra rb n) s).x.c=decide (val (gM s) (aR s ra) n<val (gM s) (aR s rb) n)):=by
 obtain⟨n,rfl⟩:∃m,n=m+1:=⟨n-1,by omega⟩
 obtain⟨c1,e1⟩:=Zdp 12 (.inl rfl) h ha hb (i:=0) (by omega) (by omega)
 have htc:cmC 12 s.x.c=false:=rfl
 rw[htc]at e1
 simp only[cmN,Y0,Nat.add_zero]at*
 generalize exL (cmW 12 ra rb 0) s=s1 at*
 have hra:=c1.aR ha.2.1 ha.2.2
 have hrb:=c1.aR hb.2.1 hb.2.2
 obtain⟨c2,e2⟩:=Zdo ra rb ha hb n 1 s1 c1.ok (by omega) (by omega)
 rw[hra,hrb]at e2
 generalize exL (cmL ra rb 1 n) s1=s2 at*
 refine⟨c1.trans c2,?_⟩
 obtain⟨r,hr,e⟩:=Zdq c1 e1 e2
 have ha':=Xe (g:=gM s) (n+1) (aR s ra) (fun b=>h.mem b)
 have hb':=Xe (g:=gM s) (n+1) (aR s rb) (fun b=>h.mem b)
 have hp:=O3 (n+1)
 cases hc:s2.x.c
 ·rw[hc]at e
  simp only[cI,Bool.false_eq_true,↓reduceIte,Int.mul_zero]at e
  symm;rw[decide_eq_false_iff_not];omega
 ·rw[hc]at e
  simp only[cI,Bool.false_eq_true,↓reduceIte,Int.mul_one]at e
  symm;rw[decide_eq_true_eq];omega
structure Stk (s s':Pu) (A n d:Nat):Prop where
 ok:PuOk s'
 f:∀i,i≠2→i≠4→i≠7→s'.f i=s.f i
 sp:s'.f 7=s.f 7-d
 m:∀b,b<A∨A+n≤b→gM s' b=gM s b
theorem Stk.ar{s s':Pu}{A n d:Nat}(h:Stk s s' A n d){r:Nat}(h2:r≠2)(h4:r≠4)(h7:r≠7):aR s' r=aR s r:=by unfold aR;rw[h.f r h2 h4 h7]
theorem Stk.ar7{s s':Pu}{A n d:Nat}(h:Stk s s' A n d)(h0:PuOk s)(hd:d≤aR s 7):aR s' 7=aR s 7-d:=by
 have:=h0.reg 7 (by decide)
 unfold wd at this
 unfold aR at*;rw[h.sp];omega
theorem Ez{s:Pu}(h:PuOk s){r:Nat}(hr:r<8)(h7:1≤aR s 7):Stk s (exP (P9 r) s) (aR s 7-1) 1 1∧gM (exP (P9 r) s) (aR s 7-1)=s.f r∧∀i,i≠7→(exP (P9 r) s).f i=s.f i:=by
 have h8:=h.reg 7 (by decide)
 unfold wd at h8
 have hA:((aR s 7:Nat):Int)=s.f 7:=by unfold aR;omega
 rw[ex_push (by omega) (h.reg r hr)]
 have hl:aR s 7-1<(stR s 7 (s.f 7-1)).mem.length:=by rw[R5,h.len];omega
 refine⟨⟨Qj (Yj h (by unfold wd;omega)) (h.reg r hr),fun i _ _ h7=>by simp only[M8,Yi,if_neg h7],by simp[M8,Yi],fun b hb=> ?_⟩,?_,fun i h7=>by simp only[M8,Yi,if_neg h7]⟩
 ·rw[Wm hl,if_neg (by omega)];rfl
 ·rw[Wm hl,if_pos rfl]
def cpL(reg:Nat):Nat→List Ins
 |0=>[]
 |n+1=>[iLd 2 reg n,P9 2]++cpL reg n
theorem Jo(reg:Nat)(hr:reg<8∧reg≠2∧reg≠4∧reg≠7):∀(n:Nat) (s:Pu),PuOk s→n≤aR s 7→aR s reg+n≤65536→(aR s reg+n≤aR s 7-n∨aR s 7≤aR s reg)→
 Stk s (exL (cpL reg n) s) (aR s 7-n) n n∧val (gM (exL (cpL reg n) s)) (aR s 7-n) n=val (gM s) (aR s reg) n
 |0,s,h,_,_,_=>⟨⟨h,fun _ _ _ _=>rfl,by simp[cpL,Yl],fun _ _=>rfl⟩,rfl⟩
 |n+1,s,h,h7,hb,hd=>by
  have hf:=h.reg reg hr.1
  have h8:=h.reg 7 (by decide)
  unfold wd at hf h8
  have hA:((aR s reg:Nat):Int)=s.f reg:=by unfold aR;omega
  have hw:wd (gM s (aR s reg+n)):=h.mem _
  simp only[cpL,Y0,Yx,Yl]
  rw[Rf (s:=s) (d:=2) (r:=reg) (o:=n) (by omega)]
  have h1:PuOk (stR s 2 (gM s (aR s reg+n))):=Yj h hw
  have a7:aR (stR s 2 (gM s (aR s reg+n))) 7=aR s 7:=rfl
  obtain⟨k1,k2,k3⟩:=Ez h1 (r:=2) (by decide) (by omega)
  have e2:(stR s 2 (gM s (aR s reg+n))).f 2=gM s (aR s reg+n):=rfl
  rw[e2]at k2
  generalize hs1:exP (P9 2) (stR s 2 (gM s (aR s reg+n)))=s1 at*
  have r7:aR s1 7=aR s 7-1:=k1.ar7 h1 (by omega)
  have rr:aR s1 reg=aR s reg:=by unfold aR;rw[k3 reg hr.2.2.2,Yi,if_neg hr.2.1]
  obtain⟨c1,c2⟩:=Jo reg hr n s1 k1.ok (by omega) (by omega) (by omega)
  rw[r7,rr]at c2
  rw[r7]at c1
  rw[a7]at k1 k2
  generalize exL (cpL reg n) s1=s2 at*
  refine⟨⟨c1.ok,fun i i2 i4 i7=>(c1.f i i2 i4 i7).trans ((k3 i i7).trans (by rw[Yi,if_neg i2])),?_,fun b hb=> ?_⟩,?_⟩
  ·have e3:=k1.sp
   have e4:(stR s 2 (gM s (aR s reg+n))).f 7=s.f 7:=rfl
   rw[c1.sp,e3,e4];omega
  ·rw[c1.m b (by omega),k1.m b (by omega)];rfl
  ·have e5:gM s2 (aR s 7-(n+1)+n)=gM s (aR s reg+n):=by
    rw[show aR s 7-(n+1)+n=aR s 7-1 by omega,c1.m _ (by omega),k2]
   rw[V0,V0,e5]
   rw[show aR s 7-1-n=aR s 7-(n+1) by omega]at c2
   rw[c2]
   congr 1
   exact Zt _ _ fun b h1 h2=>(k1.m b (by omega)).trans rfl
def pzL:Nat→List Ins
 |0=>[]
 |n+1=>[P9 2]++pzL n
theorem Zeq:∀(n:Nat) (s:Pu),PuOk s→n≤aR s 7→s.f 2=0→
 Stk s (exL (pzL n) s) (aR s 7-n) n n∧val (gM (exL (pzL n) s)) (aR s 7-n) n=0
 |0,s,h,_,_=>⟨⟨h,fun _ _ _ _=>rfl,by simp[pzL,Yl],fun _ _=>rfl⟩,rfl⟩
 |n+1,s,h,h7,h2=>by
  simp only[pzL,Y0,Yx,Yl]
  obtain⟨k1,k2,k3⟩:=Ez h (r:=2) (by decide) (by omega)
  rw[h2]at k2
  generalize exP (P9 2) s=s1 at*
  have r7:aR s1 7=aR s 7-1:=k1.ar7 h (by omega)
  obtain⟨c1,c2⟩:=Zeq n s1 k1.ok (by omega) (by rw[k3 2 (by decide)];exact h2)
  rw[r7]at c1 c2
  generalize exL (pzL n) s1=s2 at*
  refine⟨⟨c1.ok,fun i i2 i4 i7=>(c1.f i i2 i4 i7).trans (k3 i i7),?_,fun b hb=> ?_⟩,?_⟩
  ·rw[c1.sp,k1.sp];omega
  ·rw[c1.m b (by omega),k1.m b (by omega)]
  ·have e5:gM s2 (aR s 7-(n+1)+n)=0:=by
    rw[show aR s 7-(n+1)+n=aR s 7-1 by omega,c1.m _ (by omega),k2]
   rw[show aR s 7-1-n=aR s 7-(n+1) by omega]at c2
   rw[V0,e5,c2];simp
def zsL(reg:Nat):Nat→Nat→List Ins
 |_,0=>[]
 |i,n+1=>[iSt reg 2 i]++zsL reg (i+1) n
theorem Zfa(reg:Nat)(hr:reg<8):∀(n i:Nat) (s:Pu),PuOk s→aR s reg+i+n≤65536→s.f 2=0→
 Chg s (exL (zsL reg i n) s) (aR s reg+i) n∧(exL (zsL reg i n) s).f=s.f∧(exL (zsL reg i n) s).x=s.x∧val (gM (exL (zsL reg i n) s)) (aR s reg+i) n=0
 |0,i,s,h,_,_=>⟨Chg.rfl' h _ _,rfl,rfl,rfl⟩
 |n+1,i,s,h,hb,h2=>by
  have hf:=h.reg reg hr
  unfold wd at hf
  have hA:((aR s reg:Nat):Int)=s.f reg:=by unfold aR;omega
  simp only[zsL,Y0,Yx,Yl]
  rw[I2 (s:=s) (d:=reg) (r:=2) (o:=i) (by omega) (h.reg 2 (by decide)),h2]
  have hl:aR s reg+i<s.mem.length:=by rw[h.len];omega
  have h1:PuOk (stM s (aR s reg+i) 0):=Qj h ⟨by decide,by decide⟩
  have ra:aR (stM s (aR s reg+i) 0) reg=aR s reg:=rfl
  obtain⟨c1,c2,c3,c4⟩:=Zfa reg hr n (i+1) (stM s (aR s reg+i) 0) h1 (by rw[ra];omega) h2
  rw[ra,show aR s reg+(i+1)=aR s reg+i+1 by omega]at c1 c4
  have g0:gM (exL (zsL reg (i+1) n) (stM s (aR s reg+i) 0)) (aR s reg+i)=0:=by
   rw[c1.m _ (by omega),Wm hl,if_pos rfl]
  generalize exL (zsL reg (i+1) n) (stM s (aR s reg+i) 0)=s2 at*
  refine⟨⟨c1.ok,fun j _ _=>by rw[c2];rfl,fun b hb=> ?_⟩,c2,c3,?_⟩
  ·rw[c1.m b (by omega),Wm hl,if_neg (by omega)]
  ·simp only[val];rw[g0,c4];simp
theorem Ht{code:List Int}{pc tr:Int}{s:Pu}(h:atB code pc [⟨27,0,0,0⟩]=true)(hs:PuOk s)(hp:0≤pc∧pc≤65535)(h7:aR s 7<65535):
 Td code 1 (mk s pc tr) (mk (stR s 7 (s.f 7+1)) (gM s (aR s 7)) tr):=by
 obtain⟨h1,h2,_⟩:=Qv h
 have h8:=hs.reg 7 (by decide)
 unfold wd at h8
 have hA:((aR s 7:Nat):Int)=s.f 7:=by unfold aR;omega
 have key:stepS ⟨27,0,0,0⟩ (szI ⟨27,0,0,0⟩) (mk s pc tr)=(0,mk (stR s 7 (s.f 7+1)) (gM s (aR s 7)) tr):=by
  have e:(s.f 7+1)%65536=s.f 7+1:=by omega
  have hg:=hs.mem (aR s 7)
  have e2:s.mem.getD (aR s 7) 0%65536=s.mem.getD (aR s 7) 0:=by unfold wd at hg;omega
  unfold aR at e2
  simp[stepS,Xj,mk,stR,gM,aR,e]
  simpa using e2
 refine⟨⟨⟨?_,hs.len,hs.reg,?_⟩,?_⟩,?_⟩
 ·show Ts (Xc code pc).1 (Xc code pc).2=true
  rw[h1];exact h2
 ·show wd pc;exact hp
 ·show(stepS (Xc code pc).1 (Xc code pc).2 _).1=0
  rw[h1];exact congrArg Prod.fst key
 ·show(stepS (Xc code pc).1 (Xc code pc).2 _).2=_
  rw[h1];exact congrArg Prod.snd key
theorem Lx{code:List Int}{pc tr to_:Int}{s:Pu}(h:atB code pc [⟨26,0,0,to_⟩]=true)(hs:PuOk s)(hp:0≤pc∧pc+2≤65535)(h7:1≤aR s 7):
 Td code 1 (mk s pc tr) (mk (stM (stR s 7 (s.f 7-1)) (aR s 7-1) (pc+2)) to_ tr):=by
 obtain⟨h1,h2,_⟩:=Qv h
 have hsz:szI ⟨26,0,0,to_⟩=2:=rfl
 rw[hsz]at h1 h2
 have him:=(Ek h2).2.2.1
 have h8:=hs.reg 7 (by decide)
 unfold wd at h8 him
 simp only at him
 have hA:((aR s 7:Nat):Int)=s.f 7:=by unfold aR;omega
 have key:stepS ⟨26,0,0,to_⟩ 2 (mk s pc tr)=(0,mk (stM (stR s 7 (s.f 7-1)) (aR s 7-1) (pc+2)) to_ tr):=by
  have e:(s.f 7-1)%65536=s.f 7-1:=by omega
  have e1:(s.f 7-1).toNat=aR s 7-1:=by unfold aR;omega
  have e2:(pc+2)%65536=pc+2:=by omega
  have e3:to_%65536=to_:=by omega
  simp[stepS,Xj,mk,stR,stM,e,e1,e2,e3]
 refine⟨⟨⟨?_,hs.len,hs.reg,?_⟩,?_⟩,?_⟩
 ·show Ts (Xc code pc).1 (Xc code pc).2=true
  rw[h1];exact h2
 ·show wd pc;unfold wd;omega
 ·show(stepS (Xc code pc).1 (Xc code pc).2 _).1=0
  rw[h1];exact congrArg Prod.fst key
 ·show(stepS (Xc code pc).1 (Xc code pc).2 _).2=_
  rw[h1];exact congrArg Prod.snd key
theorem dif_one(t:Nat)(h:t≤65534):Sh ((t+1:Nat):Int) 1 false=(t:Int):=by
 unfold Sh T8
 have:cI (!false)=1:=by simp[cI]
 rw[this];omega
def agI:List Ins:=[K9 4 1,Mg 7 3 4]
theorem Zhi{s:Pu}(h:PuOk s){t:Nat}(ht:s.f 3=((t+1:Nat):Int)):PuOk (exL agI s)∧(∀i,i≠3→i≠4→(exL agI s).f i=s.f i)∧(exL agI s).f 3=t∧(exL agI s).x.z=decide (t=0)∧(∀b,gM (exL agI s) b=gM s b):=by
 have h3:=h.reg 3 (by decide)
 unfold wd at h3
 have h1:PuOk (stR s 4 1):=Yj h ⟨by decide,by decide⟩
 simp only[agI,Yx,Yl]
 rw[Me,Mf (s:=stR s 4 ((1:Nat):Int)) (by omega)]
 have e1:(stR s 4 ((1:Nat):Int)).f 3=((t+1:Nat):Int):=ht
 have e2:(stR s 4 ((1:Nat):Int)).f 4=1:=rfl
 rw[e1,e2]
 have e3:twoR 7 ((t+1:Nat):Int) 1 (stR s 4 ((1:Nat):Int)).x=(t:Int):=by
  have e0:twoR 7 ((t+1:Nat):Int) 1 (stR s 4 ((1:Nat):Int)).x=Sh ((t+1:Nat):Int) 1 false:=by simp only[twoR,Int.reduceEq,↓reduceIte,true_or]
  rw[e0]
  exact dif_one t (by omega)
 have e4:(twoF 7 ((t+1:Nat):Int) 1 (stR s 4 ((1:Nat):Int)).x).z=decide (t=0):=by
  have e5:(twoF 7 ((t+1:Nat):Int) 1 (stR s 4 ((1:Nat):Int)).x).z=decide (twoR 7 ((t+1:Nat):Int) 1 (stR s 4 ((1:Nat):Int)).x=0):=by simp only[twoF,twoR,Nx,Int.reduceEq,↓reduceIte,true_or]
  rw[e5,e3]
  by_cases h0:t=0
  ·subst h0;rfl
  ·rw[decide_eq_false h0,decide_eq_false (by omega)]
 generalize twoR 7 ((t+1:Nat):Int) 1 (stR s 4 ((1:Nat):Int)).x=R at*
 generalize twoF 7 ((t+1:Nat):Int) 1 (stR s 4 ((1:Nat):Int)).x=F at*
 refine⟨T6 (Yj h1 ?_),fun i i3 i4=>by simp only[Va,Yi,if_neg i3,if_neg i4],by rw[Va,Yi,if_pos rfl];exact e3,by rw[K5];exact e4,fun b=>rfl⟩
 rw[e3];unfold wd;omega
def mS1(n:Nat):List Ins:=cpL 0 n++(cpL 1 n++([K9 2 0]++(zsL 0 0 n++[K9 3 (16*n)])))
def mS4(n:Nat):List Ins:=upN 14 7 n n++agI
def mS5(n:Nat):List Ins:=[K9 2 (2*n),Mg 5 7 2]
def mL(n:Nat)(base:Int):Int:=base+Z1 (mS1 n)
def mJ(n:Nat)(base:Int):Int:=mL n base+Z1 (dnN 16 7 n)
def mK(n:Nat)(base:Int):Int:=mJ n base+2+Z1 (twN 5 0 7 n n)
def mQ(n:Nat)(base:Int):Int:=mK n base+Z1 (mS4 n)
def Zf9(n:Nat)(base:Int):List Ins:=
 mS1 n++(dnN 16 7 n++([⟨23,0,0,mK n base⟩]++(twN 5 0 7 n n++(mS4 n++([⟨21,0,0,mL n base⟩]++(mS5 n++[⟨27,0,0,0⟩]))))))
structure MulAt (code:List Int) (n:Nat) (base:Int):Prop where
 s1:atB code base (mS1 n)=true
 s2:atB code (mL n base) (dnN 16 7 n)=true
 j1:atB code (mJ n base) [⟨23,0,0,mK n base⟩]=true
 s3:atB code (mJ n base+2) (twN 5 0 7 n n)=true
 s4:atB code (mK n base) (mS4 n)=true
 j2:atB code (mQ n base) [⟨21,0,0,mL n base⟩]=true
 s5:atB code (mQ n base+2) (mS5 n)=true
 rt:atB code (mQ n base+2+Z1 (mS5 n)) [⟨27,0,0,0⟩]=true
theorem MulAt.of{code:List Int}{n:Nat}{base:Int}(h:atB code base (Zf9 n base)=true):MulAt code n base:=by
 unfold Zf9 at h
 obtain⟨h1,h⟩:=Z6 _ _ _ _ h
 obtain⟨h2,h⟩:=Z6 _ _ _ _ h
 obtain⟨h3,h⟩:=Z6 _ _ _ _ h
 obtain⟨h4,h⟩:=Z6 _ _ _ _ h
 obtain⟨h5,h⟩:=Z6 _ _ _ _ h
 obtain⟨h6,h⟩:=Z6 _ _ _ _ h
 obtain⟨h7,h8⟩:=Z6 _ _ _ _ h
 exact⟨h1,h2,h3,h4,h5,h6,h7,h8⟩
theorem Zeh(n:Nat)(hn:n=1∨n=2∨n=4):(mS1 n).all P1=true∧(dnN 16 7 n).all P1=true∧(twN 5 0 7 n n).all P1=true∧(mS4 n).all P1=true∧(mS5 n).all P1=true:=by
 rcases hn with rfl|rfl|rfl<;>exact⟨by decide,by decide,by decide,by decide,by decide⟩
theorem Zeg(n:Nat)(hn:n=1∨n=2∨n=4):(mS1 n).length≤30∧(dnN 16 7 n).length+(twN 5 0 7 n n).length+(mS4 n).length+2≤48∧(mS5 n).length=2∧Z1 (mS1 n)≤100∧Z1 (dnN 16 7 n)≤100∧Z1 (twN 5 0 7 n n)≤100∧Z1 (mS4 n)≤100∧Z1 (mS5 n)=3:=by
 rcases hn with rfl|rfl|rfl<;>decide
theorem Br(P X Y X' Y' c c2 c3 w Pf q P':Int)(hY:Y=2*Y'+c)(hP:P'+w*c2=P+c*X)(hX:X'+w*c3=2*X)(hF:Pf+q*w=P'+X'*Y'):Pf+(q+c2+c3*Y')*w=P+X*Y:=by
 have e1:X*Y=2*(X*Y')+c*X:=by rw[hY,Int.mul_add,Int.mul_left_comm,Int.mul_comm X c]
 have e2:(X'+w*c3)*Y'=2*X*Y':=by rw[hX]
 rw[Int.add_mul,Int.mul_assoc 2 X Y',Int.mul_assoc w c3 Y']at e2
 have e3:(q+c2+c3*Y')*w=q*w+w*c2+w*(c3*Y'):=by rw[Int.add_mul,Int.add_mul,Int.mul_comm c2 w,Int.mul_comm (c3*Y') w]
 rw[e3]
 omega
theorem Bq(code:List Int)(n:Nat)(hn:n=1∨n=2∨n=4)(base tr:Int)(hb:0≤base∧base≤60000)(hat:MulAt code n base)(p u:Nat)(hp:p+n≤65536)(hu:u+2*n≤65536)(hd:p+n≤u∨u+2*n≤p):
 ∀(t:Nat) (s:Pu),PuOk s→s.f 3=((t+1:Nat):Int)→aR s 0=p→aR s 7=u→val (gM s) u n<2^(t+1)→
  ∃(k:Nat) (s':Pu) (q:Int),Td code k (mk s (mL n base) tr) (mk s' (mQ n base+2) tr)∧k≤(t+1)*48∧PuOk s'∧(∀i,i≠2→i≠3→i≠4→s'.f i=s.f i)∧
   (∀b,(b<p∨p+n≤b)→(b<u∨u+2*n≤b)→gM s' b=gM s b)∧val (gM s') p n+q*pw n=val (gM s) p n+val (gM s) (u+n) n*val (gM s) u n
 |t,s,h,h3,h0,h7,hv=>by
  obtain⟨m1,m2,m3,m4,m5⟩:=Zeh n hn
  obtain⟨l1,l2,l3,z1,z2,z3,z4,z5⟩:=Zeg n hn
  have y1:=Z9 (mS1 n)
  have y2:=Z9 (dnN 16 7 n)
  have y3:=Z9 (twN 5 0 7 n n)
  have y4:=Z9 (mS4 n)
  have hn0:0<n:=by omega
  obtain⟨n',hn'⟩:∃m,n=m+1:=⟨n-1,by omega⟩
  have hLd:mL n base=base+Z1 (mS1 n):=rfl
  have hJd:mJ n base=mL n base+Z1 (dnN 16 7 n):=rfl
  have hKd:mK n base=mJ n base+2+Z1 (twN 5 0 7 n n):=rfl
  have hQd:mQ n base=mK n base+Z1 (mS4 n):=rfl
  obtain⟨r1,k1⟩:=Xu (tr:=tr) _ _ s hat.s2 m2 h (by omega) (by omega)
  obtain⟨c1,e1⟩:=dnN_run 16 (by omega) 7 (by decide) n' s h (by omega)
  rw[←hn',h7]at c1 e1
  generalize exL (dnN 16 7 n) s=s1 at*
  have e1':val (gM s) u n=2*val (gM s1) u n+cI s1.x.c:=by
   have:topB 16 (gM s (u+n')) s.x.c=false:=rfl
   rw[this,W9]at e1;omega
  have a0:aR s1 0=p:=by rw[c1.aR (by decide) (by decide)];exact h0
  have a7:aR s1 7=u:=by rw[c1.aR (by decide) (by decide)];exact h7
  have f3:s1.f 3=((t+1:Nat):Int):=by rw[c1.f 3 (by decide) (by decide)];exact h3
  have gX:val (gM s1) (u+n) n=val (gM s) (u+n) n:=Zt _ _ fun b h1 h2=>c1.m b (by omega)
  have gP:val (gM s1) p n=val (gM s) p n:=Zt _ _ fun b h1 h2=>c1.m b (by omega)
  have r2:=Tt (tr:=tr) (.inr (.inr (.inr (.inr rfl)))) hat.j1 c1.ok (by omega)
  have mid:∃(k2:Nat) (s2:Pu) (c2:Int),Td code k2 (mk s1 (if Vb 23 s1.x=true then mK n base else mJ n base+2) tr) (mk s2 (mK n base) tr)∧k2≤(twN 5 0 7 n n).length∧Chg s1 s2 p n∧val (gM s2) p n+pw n*c2=val (gM s1) p n+cI s1.x.c*val (gM s1) (u+n) n:=by
   cases hc:s1.x.c
   ·have hg:Vb 23 s1.x=true:=by simp[Vb,hc]
    rw[if_pos hg]
    exact⟨0,s1,0,rfl,Nat.zero_le _,Chg.rfl' c1.ok _ _,by rw[W9];omega⟩
   ·have hg:¬Vb 23 s1.x=true:=by simp[Vb,hc]
    rw[if_neg hg]
    obtain⟨r3,_⟩:=Xu (tr:=tr) _ _ s1 hat.s3 m3 c1.ok (by omega) (by omega)
    obtain⟨c2,e2⟩:=Zex 5 (.inl rfl) 0 7 (by decide) (by decide) n n hn0 s1 c1.ok (by omega) (by omega) (by omega)
    rw[a0,a7]at e2
    rw[a0]at c2
    have e3:val (gM (exL (twN 5 0 7 n n) s1)) p n+pw n*cI (exL (twN 5 0 7 n n) s1).x.c=val (gM s1) p n+val (gM s1) (u+n) n+cI false:=e2
    rw[W9]at e3
    exact⟨_,_,cI (exL (twN 5 0 7 n n) s1).x.c,r3,Nat.le_refl _,c2,by rw[Jm,Int.one_mul];omega⟩
  obtain⟨k2,s2,c2v,r3,kk2,c2,e2⟩:=mid
  have b0:aR s2 0=p:=by rw[c2.aR (by decide) (by decide)];exact a0
  have b7:aR s2 7=u:=by rw[c2.aR (by decide) (by decide)];exact a7
  have g3:s2.f 3=((t+1:Nat):Int):=by rw[c2.f 3 (by decide) (by decide)];exact f3
  have hY:val (gM s2) u n=val (gM s1) u n:=Zt _ _ fun b h1 h2=>c2.m b (by omega)
  have hX:val (gM s2) (u+n) n=val (gM s) (u+n) n:=by rw[←gX];exact Zt _ _ fun b h1 h2=>c2.m b (by omega)
  obtain⟨r4,_⟩:=Xu (tr:=tr) _ _ s2 hat.s4 m4 c2.ok (by omega) (by omega)
  have x4:exL (mS4 n) s2=exL agI (exL (upN 14 7 n n) s2):=Y0 _ _ _
  rw[x4]at r4
  obtain⟨c3,e3⟩:=Dn 14 (.inl rfl) 7 (by decide) n n hn0 s2 c2.ok (by omega)
  rw[b7]at c3 e3
  generalize exL (upN 14 7 n n) s2=s3 at*
  have f33:s3.f 3=((t+1:Nat):Int):=by rw[c3.f 3 (by decide) (by decide)];exact g3
  obtain⟨o4,p4,q4,z4',m4'⟩:=Zhi c3.ok f33
  generalize exL agI s3=s4 at*
  simp only[↓reduceIte,Int.add_zero]at e3
  rw[hX]at e3
  have v4:∀a,val (gM s4) a n=val (gM s3) a n:=fun a=>Zt _ _ fun b _ _=>m4' b
  have hY4:val (gM s4) u n=val (gM s1) u n:=by rw[v4,←hY];exact Zt _ _ fun b h1 h2=>c3.m b (by omega)
  have hP4:val (gM s4) p n=val (gM s2) p n:=by rw[v4];exact Zt _ _ fun b h1 h2=>c3.m b (by omega)
  have hX4:val (gM s4) (u+n) n+pw n*cI s3.x.c=2*val (gM s) (u+n) n:=by rw[v4];exact e3
  rw[gP,gX]at e2
  rw[←hP4]at e2
  have r5:=Tt (tr:=tr) (.inr (.inr (.inl rfl))) hat.j2 o4 (by omega)
  have run4:Td code ((dnN 16 7 n).length+1+k2+(mS4 n).length+1) (mk s (mL n base) tr) (mk s4 (if Vb 21 s4.x=true then mL n base else mQ n base+2) tr):=by
   exact(((r1.trans r2).trans r3).trans r4).trans r5
  have hvn:val (gM s1) u n<2^t:=by
   have:=N7 s1.x.c
   rw[Int.pow_succ]at hv
   omega
  have hvp:=(Xe (g:=gM s1) n u (fun b=>c1.ok.mem b)).1
  have keepm:∀b,(b<p∨p+n≤b)→(b<u∨u+2*n≤b)→gM s4 b=gM s b:=fun b h1 h2=>by
   rw[m4' b,c3.m b (by omega),c2.m b (by omega),c1.m b (by omega)]
  have keepf:∀i,i≠2→i≠3→i≠4→s4.f i=s.f i:=fun i i2 i3 i4=>by
   rw[p4 i i3 i4,c3.f i i2 i4,c2.f i i2 i4,c1.f i i2 i4]
  match t,hv,h3,f3,g3,f33,q4,z4',hvn with
  |0,_,_,_,_,_,_,z4',hvn=>
   have hg:¬Vb 21 s4.x=true:=by simp[Vb,z4']
   rw[if_neg hg]at run4
   refine⟨_,s4,0+c2v+cI s3.x.c*val (gM s4) u n,run4,by omega,o4,keepf,keepm,?_⟩
   refine Br _ _ _ (val (gM s4) (u+n) n) (val (gM s4) u n) (cI s1.x.c) c2v (cI s3.x.c) (pw n) _ 0 (val (gM s4) p n) (by rw[hY4];exact e1') e2 hX4 ?_
   have:val (gM s4) u n=0:=by rw[hY4];simp at hvn;omega
   rw[this];simp
  |t+1,_,_,_,_,_,q4,z4',hvn=>
   have hg:Vb 21 s4.x=true:=by simp[Vb,z4']
   rw[if_pos hg]at run4
   have w0:aR s4 0=p:=by unfold aR at*;rw[keepf 0 (by decide) (by decide) (by decide)];exact h0
   have w7:aR s4 7=u:=by unfold aR at*;rw[keepf 7 (by decide) (by decide) (by decide)];exact h7
   obtain⟨k,s',q,hr,hk,ho,hf,hm,hv'⟩:=Bq code n hn base tr hb hat p u hp hu hd t s4 o4 q4 w0 w7 (by rw[hY4];exact hvn)
   refine⟨_,s',q+c2v+cI s3.x.c*val (gM s4) u n,run4.trans hr,by omega,ho,fun i i2 i3 i4=>(hf i i2 i3 i4).trans (keepf i i2 i3 i4),fun b h1 h2=>(hm b h1 h2).trans (keepm b h1 h2),?_⟩
   exact Br _ _ _ (val (gM s4) (u+n) n) (val (gM s4) u n) (cI s1.x.c) c2v (cI s3.x.c) (pw n) _ q (val (gM s4) p n) (by rw[hY4];exact e1') e2 hX4 hv'
theorem E6:∀n,pw n=2^(16*n)
 |0=>rfl
 |n+1=>by rw[pw,E6 n,show 16*(n+1)=16*n+16 by omega,Int.pow_add,Int.mul_comm];rfl
def drI(d:Nat):List Ins:=[K9 2 d,Mg 5 7 2]
theorem Zbf{s:Pu}(h:PuOk s){d:Nat}(hd:aR s 7+d≤65535):PuOk (exL (drI d) s)∧(∀i,i≠2→i≠7→(exL (drI d) s).f i=s.f i)∧(exL (drI d) s).f 7=s.f 7+d∧(∀b,gM (exL (drI d) s) b=gM s b):=by
 have h7:=h.reg 7 (by decide)
 unfold wd at h7
 have hA:((aR s 7:Nat):Int)=s.f 7:=by unfold aR;omega
 simp only[drI,Yx,Yl]
 rw[Me,Mf (s:=stR s 2 (d:Int)) (by omega)]
 have e1:(stR s 2 (d:Int)).f 7=s.f 7:=rfl
 have e2:(stR s 2 (d:Int)).f 2=(d:Int):=rfl
 rw[e1,e2]
 have e3:twoR 5 (s.f 7) (d:Int) (stR s 2 (d:Int)).x=s.f 7+d:=by
  have e0:twoR 5 (s.f 7) (d:Int) (stR s 2 (d:Int)).x=T8 (s.f 7) (d:Int) false:=by simp only[twoR,↓reduceIte]
  rw[e0];unfold T8;rw[W9];omega
 generalize twoR 5 (s.f 7) (d:Int) (stR s 2 (d:Int)).x=R at*
 generalize twoF 5 (s.f 7) (d:Int) (stR s 2 (d:Int)).x=F at*
 refine⟨T6 (Yj (Yj h (by unfold wd;omega)) (by rw[e3];unfold wd;omega)),fun i i2 i7=>by simp only[Va,Yi,if_neg i2,if_neg i7],by rw[Va,Yi,if_pos rfl];exact e3,fun b=>rfl⟩
structure Rout (code:List Int) (s s':Pu) (base tr:Int) (k p n T d:Nat):Prop where
 run:Td code k (mk s base tr) (mk s' (gM s T) tr)
 ok:PuOk s'
 sp:s'.f 7=s.f 7+1
 m:∀b,(b<p∨p+n≤b)→(b<T-d∨T≤b)→gM s' b=gM s b
theorem Zib(code:List Int)(n:Nat)(hn:n=1∨n=2∨n=4)(base tr:Int)(hb:0≤base∧base≤60000)(hat:MulAt code n base)(s:Pu)(h:PuOk s)(p q T:Nat)(h0:aR s 0=p)(h1:aR s 1=q)(h7:aR s 7=T)
 (hp:p+n≤65536)(hq:q+n≤65536)(hT:2*n≤T∧T<65535)(hdp:p+n≤T-2*n∨T+1≤p)(hdq:q+n≤T-2*n∨T+1≤q):
 ∃(k:Nat) (s':Pu),Rout code s s' base tr k p n T (2*n)∧k≤4000∧val (gM s') p n=(val (gM s) p n*val (gM s) q n)%pw n:=by
 obtain⟨m1,m2,m3,m4,m5⟩:=Zeh n hn
 obtain⟨l1,l2,l3,z1,z2,z3,z4,z5⟩:=Zeg n hn
 have y1:=Z9 (mS1 n)
 have y2:=Z9 (dnN 16 7 n)
 have y3:=Z9 (twN 5 0 7 n n)
 have y4:=Z9 (mS4 n)
 have hLd:mL n base=base+Z1 (mS1 n):=rfl
 have hJd:mJ n base=mL n base+Z1 (dnN 16 7 n):=rfl
 have hKd:mK n base=mJ n base+2+Z1 (twN 5 0 7 n n):=rfl
 have hQd:mQ n base=mK n base+Z1 (mS4 n):=rfl
 obtain⟨r1,o1⟩:=Xu (tr:=tr) _ _ s hat.s1 m1 h (by omega) (by omega)
 have x1:exL (mS1 n) s=stR (exL (zsL 0 0 n) (stR (exL (cpL 1 n) (exL (cpL 0 n) s)) 2 0)) 3 ((16*n:Nat):Int):=by
  simp only[mS1,Y0,Yx,Yl,Me];rfl
 rw[x1]at r1 o1
 obtain⟨c1,v1⟩:=Jo 0 (by decide) n s h (by omega) (by omega) (by omega)
 rw[h0,h7]at v1
 rw[h7]at c1
 generalize exL (cpL 0 n) s=sA at*
 have a7:aR sA 7=T-n:=by rw[c1.ar7 h (by omega),h7]
 have a1:aR sA 1=q:=by rw[c1.ar (by decide) (by decide) (by decide)];exact h1
 have a0:aR sA 0=p:=by rw[c1.ar (by decide) (by decide) (by decide)];exact h0
 obtain⟨c2,v2⟩:=Jo 1 (by decide) n sA c1.ok (by omega) (by omega) (by omega)
 rw[a1,a7]at v2
 rw[a7]at c2
 generalize exL (cpL 1 n) sA=sB at*
 have b7:aR sB 7=T-2*n:=by rw[c2.ar7 c1.ok (by omega),a7];omega
 have b0:aR sB 0=p:=by rw[c2.ar (by decide) (by decide) (by decide)];exact a0
 have hz:=Yj c2.ok (r:=2) (v:=0) ⟨by decide,by decide⟩
 have d0:aR (stR sB 2 0) 0=p:=b0
 obtain⟨c3,f3,_,v3⟩:=Zfa 0 (by decide) n 0 (stR sB 2 0) hz (by omega) rfl
 rw[d0,Nat.add_zero]at c3 v3
 generalize exL (zsL 0 0 n) (stR sB 2 0)=sC at*
 have gT:T-n-n=T-2*n:=by omega
 rw[gT]at c2 v2
 have hfC:∀i,i≠2→sC.f i=sB.f i:=fun i i2=>by rw[f3,Yi,if_neg i2]
 have hu:(T-2*n)+n=T-n:=by omega
 have w0:aR (stR sC 3 ((16*n:Nat):Int)) 0=p:=by rw[←b0];unfold aR;rw[Yi,if_neg (by decide),hfC 0 (by decide)]
 have w7:aR (stR sC 3 ((16*n:Nat):Int)) 7=T-2*n:=by rw[←b7];unfold aR;rw[Yi,if_neg (by decide),hfC 7 (by decide)]
 have gu:val (gM (stR sC 3 ((16*n:Nat):Int))) (T-2*n) n=val (gM s) q n:=by
  have e1:val (gM (stR sC 3 ((16*n:Nat):Int))) (T-2*n) n=val (gM sB) (T-2*n) n:=Zt _ _ fun b h1 h2=>c3.m b (by omega)
  have e2:val (gM sA) q n=val (gM s) q n:=Zt _ _ fun b h1 h2=>c1.m b (by omega)
  rw[e1,v2,e2]
 have gun:val (gM (stR sC 3 ((16*n:Nat):Int))) (T-2*n+n) n=val (gM s) p n:=by
  have e1:val (gM (stR sC 3 ((16*n:Nat):Int))) (T-n) n=val (gM sB) (T-n) n:=Zt _ _ fun b h1 h2=>c3.m b (by omega)
  have e2:val (gM sB) (T-n) n=val (gM sA) (T-n) n:=Zt _ _ fun b h1 h2=>c2.m b (by omega)
  rw[hu,e1,e2,v1]
 have gp:val (gM (stR sC 3 ((16*n:Nat):Int))) p n=0:=v3
 have keep1:∀b,(b<p∨p+n≤b)→(b<T-2*n∨T≤b)→gM (stR sC 3 ((16*n:Nat):Int)) b=gM s b:=fun b h1 h2=>by
  show gM sC b=_
  rw[c3.m b h1,Zbj,c2.m b (by omega),c1.m b (by omega)]
 have keepf1:(stR sC 3 ((16*n:Nat):Int)).f 7=s.f 7-(2*n:Nat):=by
  have e1:(stR sC 3 ((16*n:Nat):Int)).f 7=sB.f 7:=hfC 7 (by decide)
  rw[e1,c2.sp,c1.sp];omega
 have g3:(stR sC 3 ((16*n:Nat):Int)).f 3=((16*n-1+1:Nat):Int):=by rw[Yi,if_pos rfl];omega
 generalize stR sC 3 ((16*n:Nat):Int)=s1 at*
 have hbv:val (gM s1) (T-2*n) n<2^(16*n-1+1):=by
  rw[show 16*n-1+1=16*n by omega,←E6];exact(Xe n _ (fun b=>o1.mem b)).2
 obtain⟨k,s2,qq,r2,k2,o2,f2,mm2,e2⟩:=Bq code n hn base tr hb hat p (T-2*n) hp (by omega) (by omega) (16*n-1) s1 o1 g3 w0 w7 hbv
 rw[gu,gun,gp]at e2
 have t7:aR s2 7=T-2*n:=by rw[←w7];unfold aR;rw[f2 7 (by decide) (by decide) (by decide)]
 have dd:mS5 n=drI (2*n):=rfl
 obtain⟨r3,_⟩:=Xu (tr:=tr) _ _ s2 hat.s5 m5 o2 (by omega) (by omega)
 obtain⟨o3,f4,f5,m5'⟩:=Zbf o2 (d:=2*n) (by omega)
 rw[dd]at r3
 generalize exL (drI (2*n)) s2=s3 at*
 have f7:s3.f 7=s.f 7:=by rw[f5,f2 7 (by decide) (by decide) (by decide),keepf1];omega
 have u7:aR s3 7=T:=by rw[←h7];unfold aR;rw[f7]
 have hret:=hat.rt
 rw[dd]at hret
 have z5':Z1 (drI (2*n))=3:=z5
 have r4:=Ht (tr:=tr) hret o3 (by omega) (by omega)
 have gmT:gM s3 (aR s3 7)=gM s T:=by
  rw[u7,m5',mm2 T (by omega) (by omega),keep1 T (by omega) (by omega)]
 rw[gmT]at r4
 have hlen3:(drI (2*n)).length=2:=rfl
 refine⟨_,stR s3 7 (s3.f 7+1),⟨((r1.trans r2).trans r3).trans r4,Yj o3 ?_,by rw[Yi,if_pos rfl,f7],fun b h1 h2=> ?_⟩,?_,?_⟩
 ·have:=h.reg 7 (by decide)
  unfold wd at*;unfold aR at h7;omega
 ·show gM s3 b=_
  rw[m5',mm2 b h1 (by omega),keep1 b h1 h2]
 ·rw[hlen3];omega
 ·have e3:val (gM (stR s3 7 (s3.f 7+1))) p n=val (gM s2) p n:=Zt _ _ fun b _ _=>m5' b
  rw[e3]
  have hr:=Xe (g:=gM s2) n p (fun b=>o2.mem b)
  have hpw:=O3 n
  rw[Int.zero_add]at e2
  rw[←e2,Int.add_mul_emod_self_right,Int.emod_eq_of_lt hr.1 hr.2]
def Zgj(p q sp fill:Int):Nat→Int:=fun i=>if i=0 then p else if i=1 then q else if i=7 then sp else fill
def s0(p q sp fill:Int)(mem:List Int):Pu:=⟨Zgj p q sp fill,⟨false,false,false,false⟩,mem⟩
def s1(p q sp fill:Int)(mem:List Int):Pu:=stM (stR (s0 p q sp fill mem) 7 (sp-1)) (sp.toNat-1) 2
theorem s0_ok{p q sp fill:Int}{mem:List Int}(hp:wd p)(hq:wd q)(hs:wd sp)(hf:wd fill)(hl:mem.length=65536)(hm:∀j,wd (mem.getD j 0)):PuOk (s0 p q sp fill mem):=by
 refine⟨hl,fun i _=> ?_,hm⟩
 show wd (Zgj p q sp fill i)
 unfold Zgj
 repeat' split
 all_goals assumption
theorem s1_ok{p q sp fill:Int}{mem:List Int}(h:PuOk (s0 p q sp fill mem))(hs:1≤sp∧sp≤65535):PuOk (s1 p q sp fill mem):=Qj (Yj h (by unfold wd;omega)) ⟨by decide,by decide⟩
theorem play_of{code:List Int}{p q sp fill:Int}{mem:List Int}(hc:code.length≤65536)(h:PuOk (s0 p q sp fill mem))(hs:1≤sp∧sp≤65535)(a0:atB code 0 [⟨26,0,0,3⟩]=true)(a2:atB code 2 [⟨0,0,0,0⟩]=true)
 {s':Pu}{k pp n d:Nat}(hr:Rout code (s1 p q sp fill mem) s' 3 0 k pp n (sp.toNat-1) d):
 ∃M:Nat→Ma,Trace code M (k+2) 1∧M 0=mk (s0 p q sp fill mem) 0 0∧M (k+2)=mk s' 2 0:=by
 have e7:aR (s0 p q sp fill mem) 7=sp.toNat:=rfl
 have r1:=Lx (tr:=0) a0 h (by omega) (by rw[e7];omega)
 have r2:=hr.run
 have hl:sp.toNat-1<(stR (s0 p q sp fill mem) 7 (sp-1)).mem.length:=by rw[R5,h.len];omega
 have eT:gM (s1 p q sp fill mem) (sp.toNat-1)=2:=by unfold s1;rw[Wm hl,if_pos rfl]
 rw[eT]at r2
 have r12:=r1.trans r2
 obtain⟨h1,h2,_⟩:=Qv a2
 have g:Good code (mk s' 2 0):=⟨by show Ts (Xc code 2).1 (Xc code 2).2=true;rw[h1];exact h2,hr.ok.len,hr.ok.reg,⟨by show(0:Int)≤2;decide,by show(2:Int)≤65535;decide⟩⟩
 have hst:stepS (Xc code (mk s' 2 0).pc).1 (Xc code (mk s' 2 0).pc).2 (mk s' 2 0)=(1,mk s' 2 0):=by
  show stepS (Xc code 2).1 (Xc code 2).2 (mk s' 2 0)=_
  rw[h1];rfl
 obtain⟨M,g1,g2,g3⟩:=r12.trace hc g hst (.inl rfl) ⟨g.len,g.reg,g.pc⟩
 rw[show 1+k+1=k+2 by omega]at g1 g3
 exact⟨M,g1,g2,g3⟩
end Go.Proofs.YtbmecnjmbhokgaaGreatDoor
namespace Go.Proofs.YtbmecnjmbhokgaaGreatDoor
namespace Vc
open Go.RowKit
set_option linter.unusedVariables false
set_option linter.unusedSimpArgs false
theorem G1{c:Cx}{ops:Array Oper}{Q:Exit→Act→World→Prop}:∀(ol:List Oper) (il:List In),ol.mapM (Xs c.P c.nt ops)=some il→∀(ol2:List Oper) (K:St→Prop),∀S ρ a w,(∀S' ρ' a' w',Ext S ρ S' ρ'→K S'→S'.holds c ρ' a' w'→wpList c.P ops Q ol2 a' w')→ex c il S K→S.holds c ρ a w→wpList c.P ops Q (ol++ol2) a w
 | [],il,hm,ol2,K,S,ρ,a,w,hK,hx,hh=>by
   rw[List.mapM_nil]at hm
   cases hm
   exact hK _ _ _ _ Ext.rfl hx hh
 |o::ol,il,hm,ol2,K,S,ρ,a,w,hK,hx,hh=>by
  rw[List.mapM_cons]at hm
  cases h1:Xs c.P c.nt ops o with
  |none=>simp[h1]at hm
  |some x=>
   cases h2:ol.mapM (Xs c.P c.nt ops)with
   |none=>simp[h1,h2]at hm
   |some il'=>
    simp[h1,h2]at hm
    subst hm
    obtain⟨hc,hdst,hd,hg⟩:=V9 h1
    obtain⟨g,d,i⟩:=x
    simp only at hc hdst hg
    subst hdst
    have ih:∀S' ρ' a' w',Ext S ρ S' ρ'→ex c il' S' K→S'.holds c ρ' a' w'→wpList c.P ops Q (ol++ol2) a' w':=fun S' ρ' a' w' he h1 h3=>G1 ol il' h2 ol2 K S' ρ' a' w' (fun S2 ρ2 a2 w2 he2 h5 h6=>hK S2 ρ2 a2 w2 (he.trans he2) h5 h6) h1 h3
    rw[List.cons_append]
    unfold wpList
    cases g with
    |none=>
     simp only at hg
     have hw:Region.wanted o (yielded ops a.tmps)=true:=by simp[Region.wanted,hg]
     rw[if_pos hw]
     refine .inl ?_
     unfold ex at hx
     split at hx
     ·rename_i p v hev
      obtain⟨g1,g2⟩:=Wi hh hc hev hx.1
      exact Zr g1 (ih _ _ _ _ (Ext.rfl.put _ _) hx.2 (hh.put_same hd g2))
     ·exact U1 hh hc hd hx ih
    |some g=>
     obtain⟨t,want⟩:=g
     obtain⟨hlow,j,hgd,hj⟩:=hg
     unfold ex at hx
     split at hx
     ·exact hx.elim
     ·rename_i b hgdc
      have hw:=Sw hh hgd hj hlow hgdc
      split at hx
      ·rename_i p v hev
       cases b with
       |true=>
        rw[if_pos hw]
        obtain⟨g1,g2⟩:=Wi hh hc hev (hx.1 rfl)
        exact .inl (Zr g1 (ih _ ρ _ _ (Ext.rfl.put _ _) hx.2 (hh.put_same hd (v:=.opt true v) fun _=>g2)))
       |false=>
        rw[if_neg (by rw[hw];decide)]
        exact ih _ _ _ _ (Ext.rfl.put _ _) hx.2 (hh.put_same hd (v:=.opt false v) fun h=>by cases h)
      ·have plain:(b=true→st c S o.dst i fun S'=>ex c il' S' K)∧(b=false→ex c il' (S.put o.dst noV) K)→(if Region.wanted o (yielded ops a.tmps)then o.wp c.P a w (wpList c.P ops Q (ol++ol2)) Q∨(o.asks c.P a w∧LetsOut Q)else wpList c.P ops Q (ol++ol2) (a.put o.dst undef) w):=by
        intro hx
        cases b with
        |true=>
         rw[if_pos hw]
         exact .inl (U1 hh hc hd (hx.1 rfl) ih)
        |false=>
         rw[if_neg (by rw[hw];decide)]
         exact ih _ ρ _ _ (Ext.rfl.put _ _) (hx.2 rfl) (by have:=hh.put_same hd (Qi S.nx);rwa [R6]at this)
       cases i with
       |call f args=>
        simp only[gst]at hx
        split at hx
        ·rename_i p vs hrd
         obtain⟨hp,hg⟩:=hx
         obtain⟨h1,h2⟩:=hg ρ a w hh
         cases b with
         |true=>
          rw[if_pos hw]
          refine .inl (U1 (K:=fun S'=>ex c il' S' K) hh hc hd ?_ ih)
          simp only[st,hrd]
          refine⟨hp rfl,fun ρ2 a2 w2 hh2=> ?_⟩
          exact(hg ρ2 a2 w2 hh2).1 rfl
         |false=>
          rw[if_neg (by rw[hw];decide)]
          obtain⟨v,hvb,hvd,hK2⟩:=h2 rfl
          have:=hh.put_same hd hvb
          rw[hvd]at this
          exact ih _ ρ _ _ (Ext.rfl.put _ _) hK2 this
        ·exact hx.elim
       |_=>exact plain hx
theorem Bk{α β:Type}{f:α→Option β}:∀ {l:List α} {l1 l2:List β},l.mapM f=some (l1++l2)→∃a b,l=a++b∧a.mapM f=some l1∧b.mapM f=some l2
 |l,[],l2,h=>⟨[],l,rfl,by rw[List.mapM_nil];rfl,h⟩
 | [],x::l1,l2,h=>by rw[List.mapM_nil]at h;cases h
 |y::l,x::l1,l2,h=>by
  rw[List.mapM_cons]at h
  cases h1:f y with
  |none=>simp[h1]at h
  |some z=>
   cases h2:l.mapM f with
   |none=>simp[h1,h2]at h
   |some zs=>
    simp[h1,h2]at h
    obtain⟨rfl,rfl⟩:=h
    obtain⟨a,b,rfl,h3,h4⟩:=Bk h2
    exact⟨y::a,b,rfl,by rw[List.mapM_cons];simp[h1,h3],h4⟩
theorem T.regCut{c:Cx}{Q:Exit→St→Prop}{S:St}{l:List In}{y:IC}(n:Nat)(F:St)(h:ex c (l.take n) S fun S'=>Ent c S' F)(h2:ex c (l.drop n) F (T c y Q)):T c (.seq (.reg l) y) Q S:=by
 refine T.seq fun ρ a w hh code hc=> ?_
 obtain⟨id,ops,rfl,hl⟩:=Cf hc
 refine wp_region_list ?_
 rw[←List.take_append_drop n l]at hl
 obtain⟨o1,o2,ho,h3,h4⟩:=Bk hl
 rw[ho]
 refine G1 o1 _ h3 o2 _ S ρ a w (fun S' ρ' a' w' _ hE hS=> ?_) h hh
 obtain⟨ρ2,hF⟩:=hE ρ' a' w' hS
 refine M7 o2 _ h4 (T c y Q) F ρ2 a' w' (fun S2 ρ3 a2 w2 _ hQ hS2=>⟨S2,ρ3,hS2,hQ⟩) h2 hF
end Vc
end Go.Proofs.YtbmecnjmbhokgaaGreatDoor
