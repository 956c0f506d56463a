/- A part of the proofs of this seat's laws: steps on the way, joined. It has no conditions of its own. -/
import Derived.Test.YtddmlennnmpnhaaGreatDoorQv
import Derived.Test.YtddmlennnmpnhaaGreatDoorQj
import Derived.Test.YtddmlennnmpnhaaGreatDoorQu
import Derived.Test.YtddmlennnmpnhaaGreatDoorQn
namespace Go.Proofs.YtddmlennnmpnhaaGreatDoor
open Go Vc
set_option linter.unusedVariables false
set_option linter.unusedSimpArgs false
def iLd(d s:Nat)(o:Nat):Ins:=⟨3,d,s,o⟩
def iSt(d s:Nat)(o:Nat):Ins:=⟨4,d,s,o⟩
def Jg(d:Nat)(v:Nat):Ins:=⟨2,d,0,v⟩
def Gj(d s:Nat):Ins:=⟨1,d,s,0⟩
def Zic(k:Int)(d:Nat):Ins:=⟨k,d,0,0⟩
def Me(k:Int)(d s:Nat):Ins:=⟨k,d,s,0⟩
def P7(s:Nat):Ins:=⟨28,0,s,0⟩
def gM(s:Pu)(a:Nat):Int:=s.mem.getD a 0
def aR(s:Pu)(r:Nat):Nat:=(s.f r).toNat
def stM(s:Pu)(a:Nat)(v:Int):Pu:= {s with mem:=s.mem.set a v}
def stR(s:Pu)(r:Nat)(v:Int):Pu:= {s with f:=Q9 s.f r v}
def stF(s:Pu)(x:Fl):Pu:= {s with x:=x}
theorem Yk(s:Pu):exL [] s=s:=rfl
theorem Yx(i:Ins)(l:List Ins)(s:Pu):exL (i::l) s=exL l (exP i s):=rfl
theorem Y5(l r:List Ins)(s:Pu):exL (l++r) s=exL r (exL l s):=by simp[exL]
theorem Sg{s:Pu}{d r o:Nat}(h:0≤s.f r∧s.f r+o≤65535):exP (iLd d r o) s=stR s d (gM s (aR s r+o)):=by
 have e:((s.f r+(o:Int))%65536).toNat=aR s r+o:=by unfold aR;omega
 simp[exP,Xg,iLd,mk,stR,gM,e]
theorem G7{s:Pu}{d r o:Nat}(h:0≤s.f d∧s.f d+o≤65535)(hr:wd (s.f r)):exP (iSt d r o) s=stM s (aR s d+o) (s.f r):=by
 have e:((s.f d+(o:Int))%65536).toNat=aR s d+o:=by unfold aR;omega
 have e2:s.f r%65536=s.f r:=by unfold wd at hr;omega
 simp[exP,Xg,iSt,mk,stM,e,e2]
theorem L6{s:Pu}{d v:Nat}:exP (Jg d v) s=stR s d (v:Int):=by simp[exP,Xg,Jg,mk,stR]
theorem Zh6{s:Pu}{d r:Nat}:exP (Gj d r) s=stR s d (s.f r):=by simp[exP,Xg,Gj,mk,stR]
theorem Za4{s:Pu}{k:Int}{d:Nat}(hk:k=14∨k=15∨k=16∨k=17∨k=18):exP (Zic k d) s=stF (stR s d (shR k (s.f d) s.x.c)) (shF k (s.f d) s.x.c):=by
 rcases hk with rfl|rfl|rfl|rfl|rfl<;>simp[exP,Xg,Zic,mk,stR,stF]
theorem Md{s:Pu}{k:Int}{d r:Nat}(hk:k=5∨k=6∨k=7∨k=8∨k=10∨k=11):exP (Me k d r) s=stF (stR s d (twoR k (s.f d) (s.f r) s.x)) (twoF k (s.f d) (s.f r) s.x):=by
 rcases hk with rfl|rfl|rfl|rfl|rfl|rfl<;>simp[exP,Xg,Me,mk,stR,stF]
theorem Zh5{s:Pu}{k:Int}{d r:Nat}(hk:k=12∨k=13):exP (Me k d r) s=stF s (twoF k (s.f d) (s.f r) s.x):=by
 rcases hk with rfl|rfl<;>simp[exP,Xg,Me,mk,stF]
theorem ex_push{s:Pu}{r:Nat}(h7:1≤s.f 7∧s.f 7≤65535)(hr:wd (s.f r)):exP (P7 r) s=stM (stR s 7 (s.f 7-1)) (aR s 7-1) (s.f r):=by
 have e:(s.f 7-1)%65536=s.f 7-1:=by omega
 have e1:(s.f 7-1).toNat=aR s 7-1:=by unfold aR;omega
 have e2:s.f r%65536=s.f r:=by unfold wd at hr;omega
 simp[exP,Xg,P7,mk,stM,stR,e,e1,e2]
theorem W8{s:Pu}{a b:Nat}{v:Int}(ha:a<s.mem.length):gM (stM s a v) b=if b=a then v else gM s b:=by
 unfold gM stM
 simp only
 rw[List.getD_eq_getElem?_getD,List.getElem?_set]
 by_cases h:a=b
 ·subst h;simp[ha]
 ·rw[if_neg h,if_neg (fun e=>h e.symm),←List.getD_eq_getElem?_getD]
theorem Zib{s:Pu}{r b:Nat}{v:Int}:gM (stR s r v) b=gM s b:=rfl
theorem M8{s:Pu}{a:Nat}{v:Int}:(stM s a v).f=s.f:=rfl
theorem W7{s:Pu}{x:Fl}:(stF s x).f=s.f:=rfl
theorem Yf{s:Pu}{r i:Nat}{v:Int}:(stR s r v).f i=if i=r then v else s.f i:=rfl
theorem Ze9{s:Pu}{a:Nat}{v:Int}:(stM s a v).x=s.x:=rfl
theorem Jc{s:Pu}{x:Fl}:(stF s x).x=x:=rfl
theorem R5{s:Pu}{r:Nat}{v:Int}:(stR s r v).mem.length=s.mem.length:=rfl
theorem len_stF{s:Pu}{x:Fl}:(stF s x).mem.length=s.mem.length:=rfl
theorem Pt{s:Pu}(h:PuOk s){a:Nat}{v:Int}(hv:wd v):PuOk (stM s a v):=⟨by simpa[stM]using h.len,h.reg,Dk h.mem hv⟩
theorem Yi{s:Pu}(h:PuOk s){r:Nat}{v:Int}(hv:wd v):PuOk (stR s r v):=⟨h.len,P4 h.reg hv,h.mem⟩
theorem T7{s:Pu}(h:PuOk s){x:Fl}:PuOk (stF s x):=⟨h.len,h.reg,h.mem⟩
def pw:Nat→Int
 |0=>1
 |n+1=>65536*pw n
theorem Mk:∀n,0<pw n
 |0=>by decide
 |n+1=>by have:=Mk n;simp only[pw];omega
def val(g:Nat→Int)(a:Nat):Nat→Int
 |0=>0
 |n+1=>g a+65536*val g (a+1) n
theorem Vw(g:Nat→Int):∀(n a:Nat),val g a (n+1)=val g a n+pw n*g (a+n)
 |0,a=>by simp[val,pw]
 |n+1,a=>by
  have ih:=Vw g n (a+1)
  rw[val,ih,val,pw,show a+1+n=a+(n+1) by omega,Int.mul_add,Int.mul_assoc]
  omega
theorem Zy{g h:Nat→Int}:∀(n a:Nat),(∀b,a≤b→b<a+n→g b=h b)→val g a n=val h a n
 |0,a,_=>rfl
 |n+1,a,hb=>by
  rw[val,val,hb a (Nat.le_refl _) (by omega),Zy n (a+1) fun b h1 h2=>hb b (by omega) (by omega)]
theorem Xl{g:Nat→Int}:∀(n a:Nat),(∀b,wd (g b))→0≤val g a n∧val g a n<pw n
 |0,a,_=>by simp[val,pw]
 |n+1,a,hb=>by
  have ih:=Xl n (a+1) hb
  have h1:=hb a
  unfold wd at h1
  simp only[val,pw]
  omega
theorem Ze6{g h:Nat→Int}:∀(n a b:Nat),(∀b,wd (g b))→(∀b,wd (h b))→val g a n=val h b n→∀i,i<n→g (a+i)=h (b+i)
 |0,a,b,_,_,_,i,hi=>by omega
 |n+1,a,b,hg,hh,e,i,hi=>by
  have h1:=hg a
  have h2:=hh b
  unfold wd at h1 h2
  simp only[val]at e
  have e1:g a=h b:=by omega
  cases i with
  |zero=>exact e1
  |succ i=>
   have:=Ze6 n (a+1) (b+1) hg hh (by omega) i (by omega)
   rw[show a+(i+1)=a+1+i by omega,show b+(i+1)=b+1+i by omega]
   exact this
theorem sh_up(a:Int)(ha:wd a)(c:Bool):shR 15 a c+65536*cI (shF 15 a c).c=2*a+cI c∧wd (shR 15 a c):=by
 unfold wd at ha
 refine⟨?_,Qn _ _ _ ha⟩
 simp only[shF,Rp,shR,Int.reduceEq,↓reduceIte,or_true]
 by_cases h:32767<a<;>cases c<;>simp[cI,h]<;>omega
theorem sh_up0(a:Int)(ha:wd a)(c:Bool):shR 14 a c=shR 15 a false∧(shF 14 a c).c=(shF 15 a false).c:=by
 simp[shF,Rp,shR,cI]
def topB(k:Int)(a:Int)(c:Bool):Bool:=if k=16 then false else if k=17 then decide (32767<a)else c
theorem sh_down(k:Int)(hk:k=16∨k=17∨k=18)(a:Int)(ha:wd a)(c:Bool):2*shR k a c+cI (shF k a c).c=a+65536*cI (topB k a c)∧wd (shR k a c):=by
 unfold wd at ha
 refine⟨?_,Qn _ _ _ ha⟩
 rcases hk with rfl|rfl|rfl
 ·simp only[shF,Rp,shR,topB,Int.reduceEq,↓reduceIte,or_false]
  by_cases h:a%2=1<;>simp[cI,h]<;>omega
 ·simp only[shF,Rp,shR,topB,Int.reduceEq,↓reduceIte,or_false]
  by_cases h:a%2=1<;>by_cases h2:32767<a<;>simp[cI,h,h2]<;>omega
 ·simp only[shF,Rp,shR,topB,Int.reduceEq,↓reduceIte,or_false]
  by_cases h:a%2=1<;>cases c<;>simp[cI,h]<;>omega
def upW(k:Int)(reg off:Nat):List Ins:=[iLd 2 reg off,Zic k 2,iSt reg 2 off]
def upL(reg:Nat):Nat→Nat→List Ins
 |_,0=>[]
 |off,n+1=>upW 15 reg off++upL reg (off+1) n
theorem upW_run(k:Int)(hk:k=14∨k=15){s:Pu}(h:PuOk s){reg off:Nat}(hr:reg<8∧reg≠2)(hb:aR s reg+off<65536):
 exL (upW k reg off) s=stM (stF (stR (stR s 2 (gM s (aR s reg+off))) 2 (shR k (gM s (aR s reg+off)) s.x.c)) (shF k (gM s (aR s reg+off)) s.x.c)) (aR s reg+off) (shR k (gM s (aR s reg+off)) s.x.c):=by
 have hf:=h.reg reg hr.1
 unfold wd at hf
 have hA:((aR s reg:Nat):Int)=s.f reg:=by unfold aR;omega
 have hw:wd (gM s (aR s reg+off)):=h.mem _
 simp only[upW,Yx,Yk]
 rw[Sg (by omega),Za4 (by omega)]
 have e2:(stR s 2 (gM s (aR s reg+off))).f 2=gM s (aR s reg+off):=rfl
 rw[e2]
 rw[G7 (by
  show 0≤(stR (stR s 2 _) 2 _).f reg∧_
  simp only[Yf,W7,if_neg hr.2];omega) (Qn _ _ _ hw)]
 have e3:aR (stF (stR (stR s 2 (gM s (aR s reg+off))) 2 (shR k (gM s (aR s reg+off)) (stR s 2 (gM s (aR s reg+off))).x.c)) (shF k (gM s (aR s reg+off)) (stR s 2 (gM s (aR s reg+off))).x.c)) reg=aR s reg:=by
  simp only[aR,W7,Yf,if_neg hr.2]
 rw[e3]
 rfl
structure Chg (s s':Pu) (A n:Nat):Prop where
 ok:PuOk s'
 f:∀i,i≠2→i≠4→s'.f i=s.f i
 m:∀b,b<A∨A+n≤b→gM s' b=gM s b
theorem Chg.rfl'{s:Pu}(h:PuOk s)(A n:Nat):Chg s s A n:=⟨h,fun _ _ _=>rfl,fun _ _=>rfl⟩
theorem Chg.wider{s s':Pu}{A n A' n':Nat}(h:Chg s s' A n)(h1:A'≤A)(h2:A+n≤A'+n'):Chg s s' A' n':=⟨h.ok,h.f,fun b hb=>h.m b (by omega)⟩
theorem Chg.trans{s s1 s2:Pu}{A n:Nat}(h:Chg s s1 A n)(h2:Chg s1 s2 A n):Chg s s2 A n:=⟨h2.ok,fun i h3 h4=>(h2.f i h3 h4).trans (h.f i h3 h4),fun b hb=>(h2.m b hb).trans (h.m b hb)⟩
theorem Chg.aR{s s':Pu}{A n:Nat}(h:Chg s s' A n){r:Nat}(h2:r≠2)(h4:r≠4):aR s' r=aR s r:=by unfold Proofs.YtddmlennnmpnhaaGreatDoor.aR;rw[h.f r h2 h4]
theorem Lx(p:Int)(c:Bool):65536*p*cI c=65536*(p*cI c):=by rw[Int.mul_assoc]
theorem Ze5(k:Int)(hk:k=14∨k=15){s:Pu}(h:PuOk s){reg off:Nat}(hr:reg<8∧reg≠2)(hb:aR s reg+off<65536):
 Chg s (exL (upW k reg off) s) (aR s reg+off) 1∧gM (exL (upW k reg off) s) (aR s reg+off)+65536*cI (exL (upW k reg off) s).x.c=2*gM s (aR s reg+off)+(if k=14 then 0 else cI s.x.c):=by
 have hw:wd (gM s (aR s reg+off)):=h.mem _
 rw[upW_run k hk h hr hb]
 have hl:aR s reg+off<s.mem.length:=by rw[h.len];exact hb
 refine⟨⟨Pt (T7 (Yi (Yi h hw) (Qn _ _ _ hw))) (Qn _ _ _ hw),fun i h2 _=>by simp only[M8,W7,Yf,if_neg h2],fun b hb=> ?_⟩,?_⟩
 ·rw[W8 (by exact hl),if_neg (by omega)];rfl
 ·rw[W8 (by exact hl),if_pos rfl]
  simp only[Ze9,Jc]
  rcases hk with rfl|rfl
  ·obtain⟨e1,e2⟩:=sh_up0 _ hw s.x.c
   rw[e1,e2]
   have:=(sh_up _ hw false).1
   simpa[cI]using this
  ·simpa using(sh_up _ hw s.x.c).1
theorem Ze4(reg:Nat)(hr:reg<8∧reg≠2∧reg≠4):∀(n off:Nat) (s:Pu),PuOk s→aR s reg+off+n≤65536→
 Chg s (exL (upL reg off n) s) (aR s reg+off) n∧val (gM (exL (upL reg off n) s)) (aR s reg+off) n+pw n*cI (exL (upL reg off n) s).x.c=2*val (gM s) (aR s reg+off) n+cI s.x.c
 |0,off,s,h,hb=>⟨Chg.rfl' h _ _,by simp[upL,Yk,val,pw]⟩
 |n+1,off,s,h,hb=>by
  obtain⟨c1,e1⟩:=Ze5 15 (.inr rfl) h ⟨hr.1,hr.2.1⟩ (off:=off) (by omega)
  simp only[upL,Y5]
  generalize exL (upW 15 reg off) s=s1 at*
  have ha:=c1.aR hr.2.1 hr.2.2
  obtain⟨c2,e2⟩:=Ze4 reg hr n (off+1) s1 c1.ok (by omega)
  rw[ha]at c2 e2
  generalize exL (upL reg (off+1) n) s1=s2 at*
  refine⟨(c1.wider (by omega) (by omega)).trans (c2.wider (by omega) (by omega)),?_⟩
  simp only[val,pw,Lx]
  have g1:gM s2 (aR s reg+off)=gM s1 (aR s reg+off):=c2.m _ (by omega)
  have g2:val (gM s1) (aR s reg+off+1) n=val (gM s) (aR s reg+off+1) n:=Zy _ _ fun b h1 h2=>c1.m b (by omega)
  rw[show aR s reg+(off+1)=aR s reg+off+1 by omega]at e2
  rw[g2]at e2
  rw[g1]
  simp only[Int.reduceEq,↓reduceIte]at e1
  generalize pw n*cI s2.x.c=q at*
  omega
def upN(k:Int)(reg off n:Nat):List Ins:=match n with
 |0=>[]
 |n+1=>upW k reg off++upL reg (off+1) n
theorem Dj(k:Int)(hk:k=14∨k=15)(reg:Nat)(hr:reg<8∧reg≠2∧reg≠4)(n off:Nat)(hn:0<n)(s:Pu)(h:PuOk s)(hb:aR s reg+off+n≤65536):
 Chg s (exL (upN k reg off n) s) (aR s reg+off) n∧val (gM (exL (upN k reg off n) s)) (aR s reg+off) n+pw n*cI (exL (upN k reg off n) s).x.c=2*val (gM s) (aR s reg+off) n+(if k=14 then 0 else cI s.x.c):=by
 obtain⟨n,rfl⟩:∃m,n=m+1:=⟨n-1,by omega⟩
 obtain⟨c1,e1⟩:=Ze5 k hk h ⟨hr.1,hr.2.1⟩ (off:=off) (by omega)
 simp only[upN,Y5]
 generalize exL (upW k reg off) s=s1 at*
 have ha:=c1.aR hr.2.1 hr.2.2
 obtain⟨c2,e2⟩:=Ze4 reg hr n (off+1) s1 c1.ok (by omega)
 rw[ha]at c2 e2
 generalize exL (upL reg (off+1) n) s1=s2 at*
 refine⟨(c1.wider (by omega) (by omega)).trans (c2.wider (by omega) (by omega)),?_⟩
 simp only[val,pw,Lx]
 have g1:gM s2 (aR s reg+off)=gM s1 (aR s reg+off):=c2.m _ (by omega)
 have g2:val (gM s1) (aR s reg+off+1) n=val (gM s) (aR s reg+off+1) n:=Zy _ _ fun b h1 h2=>c1.m b (by omega)
 rw[show aR s reg+(off+1)=aR s reg+off+1 by omega]at e2
 rw[g2]at e2
 rw[g1]
 generalize pw n*cI s2.x.c=q at*
 omega
def dnW(k:Int)(reg off:Nat):List Ins:=[iLd 2 reg off,Zic k 2,iSt reg 2 off]
def dnL(reg:Nat):Nat→List Ins
 |0=>[]
 |n+1=>dnW 18 reg n++dnL reg n
theorem Zd5(k:Int)(hk:k=16∨k=17∨k=18){s:Pu}(h:PuOk s){reg off:Nat}(hr:reg<8∧reg≠2)(hb:aR s reg+off<65536):
 Chg s (exL (dnW k reg off) s) (aR s reg+off) 1∧2*gM (exL (dnW k reg off) s) (aR s reg+off)+cI (exL (dnW k reg off) s).x.c=gM s (aR s reg+off)+65536*cI (topB k (gM s (aR s reg+off)) s.x.c):=by
 have hf:=h.reg reg hr.1
 unfold wd at hf
 have hA:((aR s reg:Nat):Int)=s.f reg:=by unfold aR;omega
 have hw:wd (gM s (aR s reg+off)):=h.mem _
 have key:exL (dnW k reg off) s=stM (stF (stR (stR s 2 (gM s (aR s reg+off))) 2 (shR k (gM s (aR s reg+off)) s.x.c)) (shF k (gM s (aR s reg+off)) s.x.c)) (aR s reg+off) (shR k (gM s (aR s reg+off)) s.x.c):=by
  simp only[dnW,Yx,Yk]
  rw[Sg (by omega),Za4 (by omega)]
  have e2:(stR s 2 (gM s (aR s reg+off))).f 2=gM s (aR s reg+off):=rfl
  rw[e2]
  rw[G7 (by
   show 0≤(stR (stR s 2 _) 2 _).f reg∧_
   simp only[Yf,W7,if_neg hr.2];omega) (Qn _ _ _ hw)]
  have e3:aR (stF (stR (stR s 2 (gM s (aR s reg+off))) 2 (shR k (gM s (aR s reg+off)) (stR s 2 (gM s (aR s reg+off))).x.c)) (shF k (gM s (aR s reg+off)) (stR s 2 (gM s (aR s reg+off))).x.c)) reg=aR s reg:=by
   simp only[aR,W7,Yf,if_neg hr.2]
  rw[e3]
  rfl
 rw[key]
 have hl:aR s reg+off<s.mem.length:=by rw[h.len];exact hb
 refine⟨⟨Pt (T7 (Yi (Yi h hw) (Qn _ _ _ hw))) (Qn _ _ _ hw),fun i h2 _=>by simp only[M8,W7,Yf,if_neg h2],fun b hb=> ?_⟩,?_⟩
 ·rw[W8 (by exact hl),if_neg (by omega)];rfl
 ·rw[W8 (by exact hl),if_pos rfl]
  simp only[Ze9,Jc]
  exact(sh_down k hk _ hw s.x.c).1
theorem Zd3(reg:Nat)(hr:reg<8∧reg≠2∧reg≠4):∀(n:Nat) (s:Pu),PuOk s→aR s reg+n≤65536→
 Chg s (exL (dnL reg n) s) (aR s reg) n∧2*val (gM (exL (dnL reg n) s)) (aR s reg) n+cI (exL (dnL reg n) s).x.c=val (gM s) (aR s reg) n+pw n*cI s.x.c
 |0,s,h,hb=>⟨Chg.rfl' h _ _,by simp[dnL,Yk,val,pw]⟩
 |n+1,s,h,hb=>by
  obtain⟨c1,e1⟩:=Zd5 18 (by omega) h ⟨hr.1,hr.2.1⟩ (off:=n) (by omega)
  simp only[dnL,Y5]
  generalize exL (dnW 18 reg n) s=s1 at*
  have ha:=c1.aR hr.2.1 hr.2.2
  obtain⟨c2,e2⟩:=Zd3 reg hr n s1 c1.ok (by omega)
  rw[ha]at c2 e2
  generalize exL (dnL reg n) s1=s2 at*
  refine⟨(c1.wider (by omega) (by omega)).trans (c2.wider (by omega) (by omega)),?_⟩
  have g1:gM s2 (aR s reg+n)=gM s1 (aR s reg+n):=c2.m _ (by omega)
  have g2:val (gM s1) (aR s reg) n=val (gM s) (aR s reg) n:=Zy _ _ fun b h1 h2=>c1.m b (by omega)
  rw[Vw,Vw,g1]
  rw[g2]at e2
  simp only[topB,Int.reduceEq,↓reduceIte]at e1
  have e3:pw n*(2*gM s1 (aR s reg+n)+cI s1.x.c)=pw n*(gM s (aR s reg+n)+65536*cI s.x.c):=by rw[e1]
  have e4:pw (n+1)*cI s.x.c=pw n*(65536*cI s.x.c):=by
   simp only[pw]
   rw[Int.mul_comm 65536 (pw n),Int.mul_assoc]
  rw[e4]
  rw[Int.mul_add,Int.mul_add,←Int.mul_assoc,Int.mul_comm (pw n) 2,Int.mul_assoc]at e3
  omega
def dnN(k:Int)(reg n:Nat):List Ins:=match n with
 |0=>[]
 |n+1=>dnW k reg n++dnL reg n
theorem Zd4(k:Int)(hk:k=16∨k=17∨k=18)(reg:Nat)(hr:reg<8∧reg≠2∧reg≠4)(n:Nat)(s:Pu)(h:PuOk s)(hb:aR s reg+(n+1)≤65536):
 Chg s (exL (dnN k reg (n+1)) s) (aR s reg) (n+1)∧2*val (gM (exL (dnN k reg (n+1)) s)) (aR s reg) (n+1)+cI (exL (dnN k reg (n+1)) s).x.c=val (gM s) (aR s reg) (n+1)+pw (n+1)*cI (topB k (gM s (aR s reg+n)) s.x.c):=by
 obtain⟨c1,e1⟩:=Zd5 k hk h ⟨hr.1,hr.2.1⟩ (off:=n) (by omega)
 simp only[dnN,Y5]
 generalize exL (dnW k reg n) s=s1 at*
 have ha:=c1.aR hr.2.1 hr.2.2
 obtain⟨c2,e2⟩:=Zd3 reg hr n s1 c1.ok (by omega)
 rw[ha]at c2 e2
 generalize exL (dnL reg n) s1=s2 at*
 refine⟨(c1.wider (by omega) (by omega)).trans (c2.wider (by omega) (by omega)),?_⟩
 have g1:gM s2 (aR s reg+n)=gM s1 (aR s reg+n):=c2.m _ (by omega)
 have g2:val (gM s1) (aR s reg) n=val (gM s) (aR s reg) n:=Zy _ _ fun b h1 h2=>c1.m b (by omega)
 rw[Vw,Vw,g1]
 rw[g2]at e2
 generalize topB k (gM s (aR s reg+n)) s.x.c=tb at*
 have e3:pw n*(2*gM s1 (aR s reg+n)+cI s1.x.c)=pw n*(gM s (aR s reg+n)+65536*cI tb):=by rw[e1]
 have e4:pw (n+1)*cI tb=pw n*(65536*cI tb):=by
  simp only[pw]
  rw[Int.mul_comm 65536 (pw n),Int.mul_assoc]
 rw[e4]
 rw[Int.mul_add,Int.mul_add,←Int.mul_assoc,Int.mul_comm (pw n) 2,Int.mul_assoc]at e3
 omega
theorem Jn:cI true=1:=rfl
theorem Vr:cI false=0:=rfl
theorem Om(c:Bool):0≤cI c∧cI c≤1:=by cases c<;>simp[cI]
theorem Zhs(c:Bool):cI (!c)=1-cI c:=by cases c<;>rfl
theorem sum_w(a b:Int)(c:Bool)(ha:wd a)(hb:wd b):T9 a b c+65536*cI (decide (65535<a+b+cI c))=a+b+cI c:=by
 have hc:=Om c
 unfold wd at ha hb
 unfold T9
 generalize cI c=k at*
 by_cases h2:65535<a+b+k
 ·rw[decide_eq_true h2,Jn];omega
 ·rw[decide_eq_false h2,Vr];omega
theorem Zhv(a b:Int)(c:Bool)(ha:wd a)(hb:wd b):Sk a b c-65536*cI (!decide (65535<a+(65535-b)+cI (!c)))=a-b-cI c:=by
 have hc:=Om c
 unfold wd at ha hb
 unfold Sk T9
 rw[Zhs,Zhs]
 generalize cI c=k at*
 by_cases h2:65535<a+(65535-b)+(1-k)
 ·rw[decide_eq_true h2,Jn];omega
 ·rw[decide_eq_false h2,Vr];omega
def twW(k:Int)(ra rb i off:Nat):List Ins:=[iLd 2 ra i,iLd 4 rb off,Me k 2 4,iSt ra 2 i]
def twS(k:Int):Bool:=k==7||k==8
def twC(k:Int)(c:Bool):Bool:=if k=5∨k=7 then false else c
theorem Ze1(k:Int)(hk:k=5∨k=6∨k=7∨k=8){s:Pu}(h:PuOk s){ra rb i off:Nat}(ha:ra<8∧ra≠2∧ra≠4)(hb:rb<8∧rb≠2∧rb≠4)(h1:aR s ra+i<65536)(h2:aR s rb+off<65536):
 Chg s (exL (twW k ra rb i off) s) (aR s ra+i) 1∧
  (if twS k=true then gM (exL (twW k ra rb i off) s) (aR s ra+i)-65536*cI (exL (twW k ra rb i off) s).x.c=gM s (aR s ra+i)-gM s (aR s rb+off)-cI (twC k s.x.c)
   else gM (exL (twW k ra rb i off) s) (aR s ra+i)+65536*cI (exL (twW k ra rb i off) s).x.c=gM s (aR s ra+i)+gM s (aR s rb+off)+cI (twC k s.x.c)):=by
 have hfa:=h.reg ra ha.1
 have hfb:=h.reg rb hb.1
 unfold wd at hfa hfb
 have hA:((aR s ra:Nat):Int)=s.f ra:=by unfold aR;omega
 have hB:((aR s rb:Nat):Int)=s.f rb:=by unfold aR;omega
 have hwa:wd (gM s (aR s ra+i)):=h.mem _
 have hwb:wd (gM s (aR s rb+off)):=h.mem _
 have key:exL (twW k ra rb i off) s=stM (stF (stR (stR (stR s 2 (gM s (aR s ra+i))) 4 (gM s (aR s rb+off))) 2 (twoR k (gM s (aR s ra+i)) (gM s (aR s rb+off)) s.x)) (twoF k (gM s (aR s ra+i)) (gM s (aR s rb+off)) s.x)) (aR s ra+i) (twoR k (gM s (aR s ra+i)) (gM s (aR s rb+off)) s.x):=by
  simp only[twW,Yx,Yk]
  rw[Sg (s:=s) (d:=2) (r:=ra) (o:=i) (by omega)]
  have e1:aR (stR s 2 (gM s (aR s ra+i))) rb=aR s rb:=by simp only[aR,Yf,if_neg hb.2.1]
  rw[Sg (by simp only[Yf,if_neg hb.2.1];omega),e1,Md (by omega)]
  have e2:(stR (stR s 2 (gM s (aR s ra+i))) 4 (gM (stR s 2 (gM s (aR s ra+i))) (aR s rb+off))).f 2=gM s (aR s ra+i):=rfl
  have e3:(stR (stR s 2 (gM s (aR s ra+i))) 4 (gM (stR s 2 (gM s (aR s ra+i))) (aR s rb+off))).f 4=gM s (aR s rb+off):=rfl
  rw[e2,e3]
  rw[G7 (by simp only[Yf,W7,if_neg ha.2.1,if_neg ha.2.2];omega) (P3 _ _ _ _)]
  have e4:aR (stF (stR (stR (stR s 2 (gM s (aR s ra+i))) 4 (gM (stR s 2 (gM s (aR s ra+i))) (aR s rb+off))) 2 (twoR k (gM s (aR s ra+i)) (gM s (aR s rb+off)) (stR (stR s 2 (gM s (aR s ra+i))) 4 (gM (stR s 2 (gM s (aR s ra+i))) (aR s rb+off))).x)) (twoF k (gM s (aR s ra+i)) (gM s (aR s rb+off)) (stR (stR s 2 (gM s (aR s ra+i))) 4 (gM (stR s 2 (gM s (aR s ra+i))) (aR s rb+off))).x)) ra=aR s ra:=by
   simp only[aR,Yf,W7,if_neg ha.2.1,if_neg ha.2.2]
  rw[e4]
  rfl
 rw[key]
 have hl:aR s ra+i<s.mem.length:=by rw[h.len];exact h1
 refine⟨⟨Pt (T7 (Yi (Yi (Yi h hwa) hwb) (P3 _ _ _ _))) (P3 _ _ _ _),fun i h2 h4=>by simp only[M8,W7,Yf,if_neg h2,if_neg h4],fun b hb=> ?_⟩,?_⟩
 ·rw[W8 (by exact hl),if_neg (by omega)];rfl
 ·rw[W8 (by exact hl),if_pos rfl]
  simp only[Ze9,Jc]
  generalize gM s (aR s ra+i)=a at*
  generalize gM s (aR s rb+off)=b at*
  have hs:=fun c=>sum_w a b c hwa hwb
  have hd:=fun c=>Zhv a b c hwa hwb
  rcases hk with rfl|rfl|rfl|rfl
  ·exact hs false
  ·exact hs s.x.c
  ·exact hd false
  ·exact hd s.x.c
def twL(k:Int)(ra rb:Nat):Nat→Nat→Nat→List Ins
 |_,_,0=>[]
 |i,off,n+1=>twW k ra rb i off++twL k ra rb (i+1) (off+1) n
def twV(k:Int)(s s':Pu)(A B n:Nat)(c:Bool):Prop:=
 if twS k=true then val (gM s') A n-pw n*cI s'.x.c=val (gM s) A n-val (gM s) B n-cI c else val (gM s') A n+pw n*cI s'.x.c=val (gM s) A n+val (gM s) B n+cI c
theorem Ze2{k:Int}{s s1 s2:Pu}{A B n:Nat}{c:Bool}(c1:Chg s s1 A 1)(c2:Chg s1 s2 (A+1) n)(hd:A+(n+1)≤B∨B+(n+1)≤A)
 (e1:if twS k=true then gM s1 A-65536*cI s1.x.c=gM s A-gM s B-cI c else gM s1 A+65536*cI s1.x.c=gM s A+gM s B+cI c)(e2:twV k s1 s2 (A+1) (B+1) n s1.x.c):twV k s s2 A B (n+1) c:=by
 have g1:gM s2 A=gM s1 A:=c2.m _ (by omega)
 have g2:val (gM s1) (A+1) n=val (gM s) (A+1) n:=Zy _ _ fun b h1 h2=>c1.m b (by omega)
 have g3:val (gM s1) (B+1) n=val (gM s) (B+1) n:=Zy _ _ fun b h1 h2=>c1.m b (by omega)
 unfold twV at*
 simp only[val,pw,Lx]
 rw[g2,g3]at e2
 rw[g1]
 generalize pw n*cI s2.x.c=q at*
 by_cases hb:twS k=true
 ·simp only[if_pos hb]at*;omega
 ·simp only[if_neg hb]at*;omega
theorem Ze0(k:Int)(hk:k=6∨k=8)(ra rb:Nat)(ha:ra<8∧ra≠2∧ra≠4)(hb:rb<8∧rb≠2∧rb≠4):∀(n i off:Nat) (s:Pu),PuOk s→aR s ra+i+n≤65536→aR s rb+off+n≤65536→(aR s ra+i+n≤aR s rb+off∨aR s rb+off+n≤aR s ra+i)→
 Chg s (exL (twL k ra rb i off n) s) (aR s ra+i) n∧twV k s (exL (twL k ra rb i off n) s) (aR s ra+i) (aR s rb+off) n s.x.c
 |0,i,off,s,h,_,_,_=>⟨Chg.rfl' h _ _,by unfold twV;split<;>simp[twL,Yk,val,pw]⟩
 |n+1,i,off,s,h,h1,h2,hd=>by
  obtain⟨c1,e1⟩:=Ze1 k (by omega) h ha hb (i:=i) (off:=off) (by omega) (by omega)
  have htc:twC k s.x.c=s.x.c:=by rcases hk with rfl|rfl<;>rfl
  rw[htc]at e1
  simp only[twL,Y5]
  generalize exL (twW k ra rb i off) s=s1 at*
  have hra:=c1.aR ha.2.1 ha.2.2
  have hrb:=c1.aR hb.2.1 hb.2.2
  obtain⟨c2,e2⟩:=Ze0 k hk ra rb ha hb n (i+1) (off+1) s1 c1.ok (by omega) (by omega) (by omega)
  rw[hra]at c2 e2
  rw[hrb]at e2
  generalize exL (twL k ra rb (i+1) (off+1) n) s1=s2 at*
  exact⟨(c1.wider (by omega) (by omega)).trans (c2.wider (by omega) (by omega)),Ze2 c1 c2 (by omega) e1 e2⟩
def twN(k:Int)(ra rb off n:Nat):List Ins:=match n with
 |0=>[]
 |n+1=>twW k ra rb 0 off++twL (k+1) ra rb 1 (off+1) n
theorem twN_run(k:Int)(hk:k=5∨k=7)(ra rb:Nat)(ha:ra<8∧ra≠2∧ra≠4)(hb:rb<8∧rb≠2∧rb≠4)(n off:Nat)(hn:0<n)(s:Pu)(h:PuOk s)(h1:aR s ra+n≤65536)(h2:aR s rb+off+n≤65536)(hd:aR s ra+n≤aR s rb+off∨aR s rb+off+n≤aR s ra):
 Chg s (exL (twN k ra rb off n) s) (aR s ra) n∧twV k s (exL (twN k ra rb off n) s) (aR s ra) (aR s rb+off) n false:=by
 obtain⟨n,rfl⟩:∃m,n=m+1:=⟨n-1,by omega⟩
 obtain⟨c1,e1⟩:=Ze1 k (by omega) h ha hb (i:=0) (off:=off) (by omega) (by omega)
 have htc:twC k s.x.c=false:=by rcases hk with rfl|rfl<;>rfl
 rw[htc]at e1
 simp only[twN,Y5,Nat.add_zero]at*
 generalize exL (twW k ra rb 0 off) s=s1 at*
 have hra:=c1.aR ha.2.1 ha.2.2
 have hrb:=c1.aR hb.2.1 hb.2.2
 obtain⟨c2,e2⟩:=Ze0 (k+1) (by omega) ra rb ha hb n 1 (off+1) s1 c1.ok (by omega) (by omega) (by omega)
 rw[hra]at c2 e2
 rw[hrb]at e2
 generalize exL (twL (k+1) ra rb 1 (off+1) n) s1=s2 at*
 refine⟨(c1.wider (by omega) (by omega)).trans (c2.wider (by omega) (by omega)),Ze2 c1 c2 (by omega) e1 ?_⟩
 rcases hk with rfl|rfl<;>exact e2
def cmW(k:Int)(ra rb i:Nat):List Ins:=[iLd 2 ra i,iLd 4 rb i,Me k 2 4]
def cmC(k:Int)(c:Bool):Bool:=if k=12 then false else c
theorem Zdw(k:Int)(hk:k=12∨k=13){s:Pu}(h:PuOk s){ra rb i:Nat}(ha:ra<8∧ra≠2∧ra≠4)(hb:rb<8∧rb≠2∧rb≠4)(h1:aR s ra+i<65536)(h2:aR s rb+i<65536):
 Chg s (exL (cmW k ra rb i) s) 0 0∧∃r,wd r∧r-65536*cI (exL (cmW k ra rb i) s).x.c=gM s (aR s ra+i)-gM s (aR s rb+i)-cI (cmC k s.x.c):=by
 have hfa:=h.reg ra ha.1
 have hfb:=h.reg rb hb.1
 unfold wd at hfa hfb
 have hA:((aR s ra:Nat):Int)=s.f ra:=by unfold aR;omega
 have hB:((aR s rb:Nat):Int)=s.f rb:=by unfold aR;omega
 have hwa:wd (gM s (aR s ra+i)):=h.mem _
 have hwb:wd (gM s (aR s rb+i)):=h.mem _
 have key:exL (cmW k ra rb i) s=stF (stR (stR s 2 (gM s (aR s ra+i))) 4 (gM s (aR s rb+i))) (twoF k (gM s (aR s ra+i)) (gM s (aR s rb+i)) s.x):=by
  simp only[cmW,Yx,Yk]
  rw[Sg (s:=s) (d:=2) (r:=ra) (o:=i) (by omega)]
  have e1:aR (stR s 2 (gM s (aR s ra+i))) rb=aR s rb:=by simp only[aR,Yf,if_neg hb.2.1]
  rw[Sg (by simp only[Yf,if_neg hb.2.1];omega),e1,Zh5 hk]
  rfl
 rw[key]
 refine⟨⟨T7 (Yi (Yi h hwa) hwb),fun i h2 h4=>by simp only[W7,Yf,if_neg h2,if_neg h4],fun b hb=>rfl⟩,?_⟩
 simp only[Jc]
 generalize gM s (aR s ra+i)=a at*
 generalize gM s (aR s rb+i)=b at*
 have hd:=fun c=>Zhv a b c hwa hwb
 rcases hk with rfl|rfl
 ·exact⟨Sk a b false,Dl _ _ _,hd false⟩
 ·exact⟨Sk a b s.x.c,Dl _ _ _,hd s.x.c⟩
def cmL(ra rb:Nat):Nat→Nat→List Ins
 |_,0=>[]
 |i,n+1=>cmW 13 ra rb i++cmL ra rb (i+1) n
theorem Zdx{s s1 s2:Pu}{A B n:Nat}{c:Bool}(c1:Chg s s1 0 0)(e1:∃r,wd r∧r-65536*cI s1.x.c=gM s A-gM s B-cI c)
 (e2:∃r,(0≤r∧r<pw n)∧r-pw n*cI s2.x.c=val (gM s1) (A+1) n-val (gM s1) (B+1) n-cI s1.x.c):∃r,(0≤r∧r<pw (n+1))∧r-pw (n+1)*cI s2.x.c=val (gM s) A (n+1)-val (gM s) B (n+1)-cI c:=by
 obtain⟨r1,w1,e1⟩:=e1
 obtain⟨r2,w2,e2⟩:=e2
 have g2:val (gM s1) (A+1) n=val (gM s) (A+1) n:=Zy _ _ fun b h1 h2=>c1.m b (by omega)
 have g3:val (gM s1) (B+1) n=val (gM s) (B+1) n:=Zy _ _ fun b h1 h2=>c1.m b (by omega)
 rw[g2,g3]at e2
 unfold wd at w1
 refine⟨r1+65536*r2,by simp only[pw];omega,?_⟩
 simp only[val,pw,Lx]
 generalize pw n*cI s2.x.c=q at*
 omega
theorem Zdv(ra rb:Nat)(ha:ra<8∧ra≠2∧ra≠4)(hb:rb<8∧rb≠2∧rb≠4):∀(n i:Nat) (s:Pu),PuOk s→aR s ra+i+n≤65536→aR s rb+i+n≤65536→
 Chg s (exL (cmL ra rb i n) s) 0 0∧∃r,(0≤r∧r<pw n)∧r-pw n*cI (exL (cmL ra rb i n) s).x.c=val (gM s) (aR s ra+i) n-val (gM s) (aR s rb+i) n-cI s.x.c
 |0,i,s,h,_,_=>⟨Chg.rfl' h _ _,0,by simp[pw],by simp[cmL,Yk,val,pw]⟩
 |n+1,i,s,h,h1,h2=>by
  obtain⟨c1,e1⟩:=Zdw 13 (.inr rfl) h ha hb (i:=i) (by omega) (by omega)
  simp only[cmL,Y5]
  generalize exL (cmW 13 ra rb i) s=s1 at*
  have hra:=c1.aR ha.2.1 ha.2.2
  have hrb:=c1.aR hb.2.1 hb.2.2
  obtain⟨c2,e2⟩:=Zdv ra rb ha hb n (i+1) s1 c1.ok (by omega) (by omega)
  rw[hra,hrb]at e2
  generalize exL (cmL ra rb (i+1) n) s1=s2 at*
  exact⟨c1.trans c2,Zdx c1 e1 e2⟩
def cmN(ra rb n:Nat):List Ins:=match n with
 |0=>[]
 |n+1=>cmW 12 ra rb 0++cmL ra rb 1 n
theorem cmN_run(ra rb:Nat)(ha:ra<8∧ra≠2∧ra≠4)(hb:rb<8∧rb≠2∧rb≠4)(n:Nat)(hn:0<n)(s:Pu)(h:PuOk s)(h1:aR s ra+n≤65536)(h2:aR s rb+n≤65536):
 Chg s (exL (cmN ra rb n) s) 0 0∧((exL (cmN ra rb n) s).x.c=decide (val (gM s) (aR s ra) n<val (gM s) (aR s rb) n)):=by
 obtain⟨n,rfl⟩:∃m,n=m+1:=⟨n-1,by omega⟩
 obtain⟨c1,e1⟩:=Zdw 12 (.inl rfl) h ha hb (i:=0) (by omega) (by omega)
 have htc:cmC 12 s.x.c=false:=rfl
 rw[htc]at e1
 simp only[cmN,Y5,Nat.add_zero]at*
 generalize exL (cmW 12 ra rb 0) s=s1 at*
 have hra:=c1.aR ha.2.1 ha.2.2
 have hrb:=c1.aR hb.2.1 hb.2.2
 obtain⟨c2,e2⟩:=Zdv ra rb ha hb n 1 s1 c1.ok (by omega) (by omega)
 rw[hra,hrb]at e2
 generalize exL (cmL ra rb 1 n) s1=s2 at*
 refine⟨c1.trans c2,?_⟩
 obtain⟨r,hr,e⟩:=Zdx c1 e1 e2
 have ha':=Xl (g:=gM s) (n+1) (aR s ra) (fun b=>h.mem b)
 have hb':=Xl (g:=gM s) (n+1) (aR s rb) (fun b=>h.mem b)
 have hp:=Mk (n+1)
 cases hc:s2.x.c
 ·rw[hc]at e
  simp only[cI,Bool.false_eq_true,↓reduceIte,Int.mul_zero]at e
  symm;rw[decide_eq_false_iff_not];omega
 ·rw[hc]at e
  simp only[cI,Bool.false_eq_true,↓reduceIte,Int.mul_one]at e
  symm;rw[decide_eq_true_eq];omega
structure Stk (s s':Pu) (A n d:Nat):Prop where
 ok:PuOk s'
 f:∀i,i≠2→i≠4→i≠7→s'.f i=s.f i
 sp:s'.f 7=s.f 7-d
 m:∀b,b<A∨A+n≤b→gM s' b=gM s b
theorem Stk.ar7{s s':Pu}{A n d:Nat}(h:Stk s s' A n d)(h0:PuOk s)(hd:d≤aR s 7):aR s' 7=aR s 7-d:=by
 have:=h0.reg 7 (by decide)
 unfold wd at this
 unfold aR at*;rw[h.sp];omega
theorem E8{s:Pu}(h:PuOk s){r:Nat}(hr:r<8)(h7:1≤aR s 7):Stk s (exP (P7 r) s) (aR s 7-1) 1 1∧gM (exP (P7 r) s) (aR s 7-1)=s.f r∧∀i,i≠7→(exP (P7 r) s).f i=s.f i:=by
 have h8:=h.reg 7 (by decide)
 unfold wd at h8
 have hA:((aR s 7:Nat):Int)=s.f 7:=by unfold aR;omega
 rw[ex_push (by omega) (h.reg r hr)]
 have hl:aR s 7-1<(stR s 7 (s.f 7-1)).mem.length:=by rw[R5,h.len];omega
 refine⟨⟨Pt (Yi h (by unfold wd;omega)) (h.reg r hr),fun i _ _ h7=>by simp only[M8,Yf,if_neg h7],by simp[M8,Yf],fun b hb=> ?_⟩,?_,fun i h7=>by simp only[M8,Yf,if_neg h7]⟩
 ·rw[W8 hl,if_neg (by omega)];rfl
 ·rw[W8 hl,if_pos rfl]
def cpL(reg:Nat):Nat→List Ins
 |0=>[]
 |n+1=>[iLd 2 reg n,P7 2]++cpL reg n
theorem Zdy(reg:Nat)(hr:reg<8∧reg≠2∧reg≠4∧reg≠7):∀(n:Nat) (s:Pu),PuOk s→n≤aR s 7→aR s reg+n≤65536→(aR s reg+n≤aR s 7-n∨aR s 7≤aR s reg)→
 Stk s (exL (cpL reg n) s) (aR s 7-n) n n∧val (gM (exL (cpL reg n) s)) (aR s 7-n) n=val (gM s) (aR s reg) n
 |0,s,h,_,_,_=>⟨⟨h,fun _ _ _ _=>rfl,by simp[cpL,Yk],fun _ _=>rfl⟩,rfl⟩
 |n+1,s,h,h7,hb,hd=>by
  have hf:=h.reg reg hr.1
  have h8:=h.reg 7 (by decide)
  unfold wd at hf h8
  have hA:((aR s reg:Nat):Int)=s.f reg:=by unfold aR;omega
  have hw:wd (gM s (aR s reg+n)):=h.mem _
  simp only[cpL,Y5,Yx,Yk]
  rw[Sg (s:=s) (d:=2) (r:=reg) (o:=n) (by omega)]
  have h1:PuOk (stR s 2 (gM s (aR s reg+n))):=Yi h hw
  have a7:aR (stR s 2 (gM s (aR s reg+n))) 7=aR s 7:=rfl
  obtain⟨k1,k2,k3⟩:=E8 h1 (r:=2) (by decide) (by omega)
  have e2:(stR s 2 (gM s (aR s reg+n))).f 2=gM s (aR s reg+n):=rfl
  rw[e2]at k2
  generalize hs1:exP (P7 2) (stR s 2 (gM s (aR s reg+n)))=s1 at*
  have r7:aR s1 7=aR s 7-1:=k1.ar7 h1 (by omega)
  have rr:aR s1 reg=aR s reg:=by unfold aR;rw[k3 reg hr.2.2.2,Yf,if_neg hr.2.1]
  obtain⟨c1,c2⟩:=Zdy reg hr n s1 k1.ok (by omega) (by omega) (by omega)
  rw[r7,rr]at c2
  rw[r7]at c1
  rw[a7]at k1 k2
  generalize exL (cpL reg n) s1=s2 at*
  refine⟨⟨c1.ok,fun i i2 i4 i7=>(c1.f i i2 i4 i7).trans ((k3 i i7).trans (by rw[Yf,if_neg i2])),?_,fun b hb=> ?_⟩,?_⟩
  ·have e3:=k1.sp
   have e4:(stR s 2 (gM s (aR s reg+n))).f 7=s.f 7:=rfl
   rw[c1.sp,e3,e4];omega
  ·rw[c1.m b (by omega),k1.m b (by omega)];rfl
  ·have e5:gM s2 (aR s 7-(n+1)+n)=gM s (aR s reg+n):=by
    rw[show aR s 7-(n+1)+n=aR s 7-1 by omega,c1.m _ (by omega),k2]
   rw[Vw,Vw,e5]
   rw[show aR s 7-1-n=aR s 7-(n+1) by omega]at c2
   rw[c2]
   congr 1
   exact Zy _ _ fun b h1 h2=>(k1.m b (by omega)).trans rfl
def pzL:Nat→List Ins
 |0=>[]
 |n+1=>[P7 2]++pzL n
theorem Zet:∀(n:Nat) (s:Pu),PuOk s→n≤aR s 7→s.f 2=0→
 Stk s (exL (pzL n) s) (aR s 7-n) n n∧val (gM (exL (pzL n) s)) (aR s 7-n) n=0
 |0,s,h,_,_=>⟨⟨h,fun _ _ _ _=>rfl,by simp[pzL,Yk],fun _ _=>rfl⟩,rfl⟩
 |n+1,s,h,h7,h2=>by
  simp only[pzL,Y5,Yx,Yk]
  obtain⟨k1,k2,k3⟩:=E8 h (r:=2) (by decide) (by omega)
  rw[h2]at k2
  generalize exP (P7 2) s=s1 at*
  have r7:aR s1 7=aR s 7-1:=k1.ar7 h (by omega)
  obtain⟨c1,c2⟩:=Zet n s1 k1.ok (by omega) (by rw[k3 2 (by decide)];exact h2)
  rw[r7]at c1 c2
  generalize exL (pzL n) s1=s2 at*
  refine⟨⟨c1.ok,fun i i2 i4 i7=>(c1.f i i2 i4 i7).trans (k3 i i7),?_,fun b hb=> ?_⟩,?_⟩
  ·rw[c1.sp,k1.sp];omega
  ·rw[c1.m b (by omega),k1.m b (by omega)]
  ·have e5:gM s2 (aR s 7-(n+1)+n)=0:=by
    rw[show aR s 7-(n+1)+n=aR s 7-1 by omega,c1.m _ (by omega),k2]
   rw[show aR s 7-1-n=aR s 7-(n+1) by omega]at c2
   rw[Vw,e5,c2];simp
def zsL(reg:Nat):Nat→Nat→List Ins
 |_,0=>[]
 |i,n+1=>[iSt reg 2 i]++zsL reg (i+1) n
theorem Hr{code:List Int}{pc tr:Int}{s:Pu}(h:atB code pc [⟨27,0,0,0⟩]=true)(hs:PuOk s)(hp:0≤pc∧pc≤65535)(h7:aR s 7<65535):
 Ts code 1 (mk s pc tr) (mk (stR s 7 (s.f 7+1)) (gM s (aR s 7)) tr):=by
 obtain⟨h1,h2,_⟩:=Qx h
 have h8:=hs.reg 7 (by decide)
 unfold wd at h8
 have hA:((aR s 7:Nat):Int)=s.f 7:=by unfold aR;omega
 have key:stepS ⟨27,0,0,0⟩ (szI ⟨27,0,0,0⟩) (mk s pc tr)=(0,mk (stR s 7 (s.f 7+1)) (gM s (aR s 7)) tr):=by
  have e:(s.f 7+1)%65536=s.f 7+1:=by omega
  have hg:=hs.mem (aR s 7)
  have e2:s.mem.getD (aR s 7) 0%65536=s.mem.getD (aR s 7) 0:=by unfold wd at hg;omega
  unfold aR at e2
  simp[stepS,Xg,mk,stR,gM,aR,e]
  simpa using e2
 refine⟨⟨⟨?_,hs.len,hs.reg,?_⟩,?_⟩,?_⟩
 ·show Tu (Xb code pc).1 (Xb code pc).2=true
  rw[h1];exact h2
 ·show wd pc;exact hp
 ·show(stepS (Xb code pc).1 (Xb code pc).2 _).1=0
  rw[h1];exact congrArg Prod.fst key
 ·show(stepS (Xb code pc).1 (Xb code pc).2 _).2=_
  rw[h1];exact congrArg Prod.snd key
theorem Lz{code:List Int}{pc tr to_:Int}{s:Pu}(h:atB code pc [⟨26,0,0,to_⟩]=true)(hs:PuOk s)(hp:0≤pc∧pc+2≤65535)(h7:1≤aR s 7):
 Ts code 1 (mk s pc tr) (mk (stM (stR s 7 (s.f 7-1)) (aR s 7-1) (pc+2)) to_ tr):=by
 obtain⟨h1,h2,_⟩:=Qx h
 have hsz:szI ⟨26,0,0,to_⟩=2:=rfl
 rw[hsz]at h1 h2
 have him:=(Em h2).2.2.1
 have h8:=hs.reg 7 (by decide)
 unfold wd at h8 him
 simp only at him
 have hA:((aR s 7:Nat):Int)=s.f 7:=by unfold aR;omega
 have key:stepS ⟨26,0,0,to_⟩ 2 (mk s pc tr)=(0,mk (stM (stR s 7 (s.f 7-1)) (aR s 7-1) (pc+2)) to_ tr):=by
  have e:(s.f 7-1)%65536=s.f 7-1:=by omega
  have e1:(s.f 7-1).toNat=aR s 7-1:=by unfold aR;omega
  have e2:(pc+2)%65536=pc+2:=by omega
  have e3:to_%65536=to_:=by omega
  simp[stepS,Xg,mk,stR,stM,e,e1,e2,e3]
 refine⟨⟨⟨?_,hs.len,hs.reg,?_⟩,?_⟩,?_⟩
 ·show Tu (Xb code pc).1 (Xb code pc).2=true
  rw[h1];exact h2
 ·show wd pc;unfold wd;omega
 ·show(stepS (Xb code pc).1 (Xb code pc).2 _).1=0
  rw[h1];exact congrArg Prod.fst key
 ·show(stepS (Xb code pc).1 (Xb code pc).2 _).2=_
  rw[h1];exact congrArg Prod.snd key
theorem dif_one(t:Nat)(h:t≤65534):Sk ((t+1:Nat):Int) 1 false=(t:Int):=by
 unfold Sk T9
 have:cI (!false)=1:=by simp[cI]
 rw[this];omega
def agI:List Ins:=[Jg 4 1,Me 7 3 4]
theorem Zhn{s:Pu}(h:PuOk s){t:Nat}(ht:s.f 3=((t+1:Nat):Int)):PuOk (exL agI s)∧(∀i,i≠3→i≠4→(exL agI s).f i=s.f i)∧(exL agI s).f 3=t∧(exL agI s).x.z=decide (t=0)∧(∀b,gM (exL agI s) b=gM s b):=by
 have h3:=h.reg 3 (by decide)
 unfold wd at h3
 have h1:PuOk (stR s 4 1):=Yi h ⟨by decide,by decide⟩
 simp only[agI,Yx,Yk]
 rw[L6,Md (s:=stR s 4 ((1:Nat):Int)) (by omega)]
 have e1:(stR s 4 ((1:Nat):Int)).f 3=((t+1:Nat):Int):=ht
 have e2:(stR s 4 ((1:Nat):Int)).f 4=1:=rfl
 rw[e1,e2]
 have e3:twoR 7 ((t+1:Nat):Int) 1 (stR s 4 ((1:Nat):Int)).x=(t:Int):=by
  have e0:twoR 7 ((t+1:Nat):Int) 1 (stR s 4 ((1:Nat):Int)).x=Sk ((t+1:Nat):Int) 1 false:=by simp only[twoR,Int.reduceEq,↓reduceIte,true_or]
  rw[e0]
  exact dif_one t (by omega)
 have e4:(twoF 7 ((t+1:Nat):Int) 1 (stR s 4 ((1:Nat):Int)).x).z=decide (t=0):=by
  have e5:(twoF 7 ((t+1:Nat):Int) 1 (stR s 4 ((1:Nat):Int)).x).z=decide (twoR 7 ((t+1:Nat):Int) 1 (stR s 4 ((1:Nat):Int)).x=0):=by simp only[twoF,twoR,Nx,Int.reduceEq,↓reduceIte,true_or]
  rw[e5,e3]
  by_cases h0:t=0
  ·subst h0;rfl
  ·rw[decide_eq_false h0,decide_eq_false (by omega)]
 generalize twoR 7 ((t+1:Nat):Int) 1 (stR s 4 ((1:Nat):Int)).x=R at*
 generalize twoF 7 ((t+1:Nat):Int) 1 (stR s 4 ((1:Nat):Int)).x=F at*
 refine⟨T7 (Yi h1 ?_),fun i i3 i4=>by simp only[W7,Yf,if_neg i3,if_neg i4],by rw[W7,Yf,if_pos rfl];exact e3,by rw[Jc];exact e4,fun b=>rfl⟩
 rw[e3];unfold wd;omega
def mS1(n:Nat):List Ins:=cpL 0 n++(cpL 1 n++([Jg 2 0]++(zsL 0 0 n++[Jg 3 (16*n)])))
def mS4(n:Nat):List Ins:=upN 14 7 n n++agI
def mS5(n:Nat):List Ins:=[Jg 2 (2*n),Me 5 7 2]
def mL(n:Nat)(base:Int):Int:=base+Z1 (mS1 n)
def mJ(n:Nat)(base:Int):Int:=mL n base+Z1 (dnN 16 7 n)
def mK(n:Nat)(base:Int):Int:=mJ n base+2+Z1 (twN 5 0 7 n n)
def mQ(n:Nat)(base:Int):Int:=mK n base+Z1 (mS4 n)
def mulI(n:Nat)(base:Int):List Ins:=
 mS1 n++(dnN 16 7 n++([⟨23,0,0,mK n base⟩]++(twN 5 0 7 n n++(mS4 n++([⟨21,0,0,mL n base⟩]++(mS5 n++[⟨27,0,0,0⟩]))))))
structure MulAt (code:List Int) (n:Nat) (base:Int):Prop where
 s1:atB code base (mS1 n)=true
 s2:atB code (mL n base) (dnN 16 7 n)=true
 j1:atB code (mJ n base) [⟨23,0,0,mK n base⟩]=true
 s3:atB code (mJ n base+2) (twN 5 0 7 n n)=true
 s4:atB code (mK n base) (mS4 n)=true
 j2:atB code (mQ n base) [⟨21,0,0,mL n base⟩]=true
 s5:atB code (mQ n base+2) (mS5 n)=true
 rt:atB code (mQ n base+2+Z1 (mS5 n)) [⟨27,0,0,0⟩]=true
theorem MulAt.of{code:List Int}{n:Nat}{base:Int}(h:atB code base (mulI n base)=true):MulAt code n base:=by
 unfold mulI at h
 obtain⟨h1,h⟩:=Z6 _ _ _ _ h
 obtain⟨h2,h⟩:=Z6 _ _ _ _ h
 obtain⟨h3,h⟩:=Z6 _ _ _ _ h
 obtain⟨h4,h⟩:=Z6 _ _ _ _ h
 obtain⟨h5,h⟩:=Z6 _ _ _ _ h
 obtain⟨h6,h⟩:=Z6 _ _ _ _ h
 obtain⟨h7,h8⟩:=Z6 _ _ _ _ h
 exact⟨h1,h2,h3,h4,h5,h6,h7,h8⟩
theorem Zbx:∀n,pw n=2^(16*n)
 |0=>rfl
 |n+1=>by rw[pw,Zbx n,show 16*(n+1)=16*n+16 by omega,Int.pow_add,Int.mul_comm];rfl
def drI(d:Nat):List Ins:=[Jg 2 d,Me 5 7 2]
theorem Zh3{s:Pu}(h:PuOk s){d:Nat}(hd:aR s 7+d≤65535):PuOk (exL (drI d) s)∧(∀i,i≠2→i≠7→(exL (drI d) s).f i=s.f i)∧(exL (drI d) s).f 7=s.f 7+d∧(∀b,gM (exL (drI d) s) b=gM s b):=by
 have h7:=h.reg 7 (by decide)
 unfold wd at h7
 have hA:((aR s 7:Nat):Int)=s.f 7:=by unfold aR;omega
 simp only[drI,Yx,Yk]
 rw[L6,Md (s:=stR s 2 (d:Int)) (by omega)]
 have e1:(stR s 2 (d:Int)).f 7=s.f 7:=rfl
 have e2:(stR s 2 (d:Int)).f 2=(d:Int):=rfl
 rw[e1,e2]
 have e3:twoR 5 (s.f 7) (d:Int) (stR s 2 (d:Int)).x=s.f 7+d:=by
  have e0:twoR 5 (s.f 7) (d:Int) (stR s 2 (d:Int)).x=T9 (s.f 7) (d:Int) false:=by simp only[twoR,↓reduceIte]
  rw[e0];unfold T9;rw[Vr];omega
 generalize twoR 5 (s.f 7) (d:Int) (stR s 2 (d:Int)).x=R at*
 generalize twoF 5 (s.f 7) (d:Int) (stR s 2 (d:Int)).x=F at*
 refine⟨T7 (Yi (Yi h (by unfold wd;omega)) (by rw[e3];unfold wd;omega)),fun i i2 i7=>by simp only[W7,Yf,if_neg i2,if_neg i7],by rw[W7,Yf,if_pos rfl];exact e3,fun b=>rfl⟩
structure Rout (code:List Int) (s s':Pu) (base tr:Int) (k p n T d:Nat):Prop where
 run:Ts code k (mk s base tr) (mk s' (gM s T) tr)
 ok:PuOk s'
 sp:s'.f 7=s.f 7+1
 m:∀b,(b<p∨p+n≤b)→(b<T-d∨T≤b)→gM s' b=gM s b
def Zgj(p q sp fill:Int):Nat→Int:=fun i=>if i=0 then p else if i=1 then q else if i=7 then sp else fill
def s0(p q sp fill:Int)(mem:List Int):Pu:=⟨Zgj p q sp fill,⟨false,false,false,false⟩,mem⟩
def s1(p q sp fill:Int)(mem:List Int):Pu:=stM (stR (s0 p q sp fill mem) 7 (sp-1)) (sp.toNat-1) 2
theorem s0_ok{p q sp fill:Int}{mem:List Int}(hp:wd p)(hq:wd q)(hs:wd sp)(hf:wd fill)(hl:mem.length=65536)(hm:∀j,wd (mem.getD j 0)):PuOk (s0 p q sp fill mem):=by
 refine⟨hl,fun i _=> ?_,hm⟩
 show wd (Zgj p q sp fill i)
 unfold Zgj
 repeat' split
 all_goals assumption
theorem s1_ok{p q sp fill:Int}{mem:List Int}(h:PuOk (s0 p q sp fill mem))(hs:1≤sp∧sp≤65535):PuOk (s1 p q sp fill mem):=Pt (Yi h (by unfold wd;omega)) ⟨by decide,by decide⟩
theorem play_of{code:List Int}{p q sp fill:Int}{mem:List Int}(hc:code.length≤65536)(h:PuOk (s0 p q sp fill mem))(hs:1≤sp∧sp≤65535)(a0:atB code 0 [⟨26,0,0,3⟩]=true)(a2:atB code 2 [⟨0,0,0,0⟩]=true)
 {s':Pu}{k pp n d:Nat}(hr:Rout code (s1 p q sp fill mem) s' 3 0 k pp n (sp.toNat-1) d):
 ∃M:Nat→Ma,Trace code M (k+2) 1∧M 0=mk (s0 p q sp fill mem) 0 0∧M (k+2)=mk s' 2 0:=by
 have e7:aR (s0 p q sp fill mem) 7=sp.toNat:=rfl
 have r1:=Lz (tr:=0) a0 h (by omega) (by rw[e7];omega)
 have r2:=hr.run
 have hl:sp.toNat-1<(stR (s0 p q sp fill mem) 7 (sp-1)).mem.length:=by rw[R5,h.len];omega
 have eT:gM (s1 p q sp fill mem) (sp.toNat-1)=2:=by unfold s1;rw[W8 hl,if_pos rfl]
 rw[eT]at r2
 have r12:=r1.trans r2
 obtain⟨h1,h2,_⟩:=Qx a2
 have g:Good code (mk s' 2 0):=⟨by show Tu (Xb code 2).1 (Xb code 2).2=true;rw[h1];exact h2,hr.ok.len,hr.ok.reg,⟨by show(0:Int)≤2;decide,by show(2:Int)≤65535;decide⟩⟩
 have hst:stepS (Xb code (mk s' 2 0).pc).1 (Xb code (mk s' 2 0).pc).2 (mk s' 2 0)=(1,mk s' 2 0):=by
  show stepS (Xb code 2).1 (Xb code 2).2 (mk s' 2 0)=_
  rw[h1];rfl
 obtain⟨M,g1,g2,g3⟩:=r12.trace hc g hst (.inl rfl) ⟨g.len,g.reg,g.pc⟩
 rw[show 1+k+1=k+2 by omega]at g1 g3
 exact⟨M,g1,g2,g3⟩
end Go.Proofs.YtddmlennnmpnhaaGreatDoor
namespace Go.Proofs.YtddmlennnmpnhaaGreatDoor
namespace Vc
open Go.RowKit
set_option linter.unusedVariables false
set_option linter.unusedSimpArgs false
theorem G6{c:Cx}{ops:Array Oper}{Q:Exit→Act→World→Prop}:∀(ol:List Oper) (il:List In),ol.mapM (Xs c.P c.nt ops)=some il→∀(ol2:List Oper) (K:St→Prop),∀S ρ a w,(∀S' ρ' a' w',Ext S ρ S' ρ'→K S'→S'.holds c ρ' a' w'→wpList c.P ops Q ol2 a' w')→ex c il S K→S.holds c ρ a w→wpList c.P ops Q (ol++ol2) a w
 | [],il,hm,ol2,K,S,ρ,a,w,hK,hx,hh=>by
   rw[List.mapM_nil]at hm
   cases hm
   exact hK _ _ _ _ Ext.rfl hx hh
 |o::ol,il,hm,ol2,K,S,ρ,a,w,hK,hx,hh=>by
  rw[List.mapM_cons]at hm
  cases h1:Xs c.P c.nt ops o with
  |none=>simp[h1]at hm
  |some x=>
   cases h2:ol.mapM (Xs c.P c.nt ops)with
   |none=>simp[h1,h2]at hm
   |some il'=>
    simp[h1,h2]at hm
    subst hm
    obtain⟨hc,hdst,hd,hg⟩:=Uc h1
    obtain⟨g,d,i⟩:=x
    simp only at hc hdst hg
    subst hdst
    have ih:∀S' ρ' a' w',Ext S ρ S' ρ'→ex c il' S' K→S'.holds c ρ' a' w'→wpList c.P ops Q (ol++ol2) a' w':=fun S' ρ' a' w' he h1 h3=>G6 ol il' h2 ol2 K S' ρ' a' w' (fun S2 ρ2 a2 w2 he2 h5 h6=>hK S2 ρ2 a2 w2 (he.trans he2) h5 h6) h1 h3
    rw[List.cons_append]
    unfold wpList
    cases g with
    |none=>
     simp only at hg
     have hw:Region.wanted o (yielded ops a.tmps)=true:=by simp[Region.wanted,hg]
     rw[if_pos hw]
     refine .inl ?_
     unfold ex at hx
     split at hx
     ·rename_i p v hev
      obtain⟨g1,g2⟩:=Wd hh hc hev hx.1
      exact Zr g1 (ih _ _ _ _ (Ext.rfl.put _ _) hx.2 (hh.put_same hd g2))
     ·exact U4 hh hc hd hx ih
    |some g=>
     obtain⟨t,want⟩:=g
     obtain⟨hlow,j,hgd,hj⟩:=hg
     unfold ex at hx
     split at hx
     ·exact hx.elim
     ·rename_i b hgdc
      have hw:=Sy hh hgd hj hlow hgdc
      split at hx
      ·rename_i p v hev
       cases b with
       |true=>
        rw[if_pos hw]
        obtain⟨g1,g2⟩:=Wd hh hc hev (hx.1 rfl)
        exact .inl (Zr g1 (ih _ ρ _ _ (Ext.rfl.put _ _) hx.2 (hh.put_same hd (v:=.opt true v) fun _=>g2)))
       |false=>
        rw[if_neg (by rw[hw];decide)]
        exact ih _ _ _ _ (Ext.rfl.put _ _) hx.2 (hh.put_same hd (v:=.opt false v) fun h=>by cases h)
      ·have plain:(b=true→st c S o.dst i fun S'=>ex c il' S' K)∧(b=false→ex c il' (S.put o.dst noV) K)→(if Region.wanted o (yielded ops a.tmps)then o.wp c.P a w (wpList c.P ops Q (ol++ol2)) Q∨(o.asks c.P a w∧LetsOut Q)else wpList c.P ops Q (ol++ol2) (a.put o.dst undef) w):=by
        intro hx
        cases b with
        |true=>
         rw[if_pos hw]
         exact .inl (U4 hh hc hd (hx.1 rfl) ih)
        |false=>
         rw[if_neg (by rw[hw];decide)]
         exact ih _ ρ _ _ (Ext.rfl.put _ _) (hx.2 rfl) (by have:=hh.put_same hd (Qj S.nx);rwa [R6]at this)
       cases i with
       |call f args=>
        simp only[gst]at hx
        split at hx
        ·rename_i p vs hrd
         obtain⟨hp,hg⟩:=hx
         obtain⟨h1,h2⟩:=hg ρ a w hh
         cases b with
         |true=>
          rw[if_pos hw]
          refine .inl (U4 (K:=fun S'=>ex c il' S' K) hh hc hd ?_ ih)
          simp only[st,hrd]
          refine⟨hp rfl,fun ρ2 a2 w2 hh2=> ?_⟩
          exact(hg ρ2 a2 w2 hh2).1 rfl
         |false=>
          rw[if_neg (by rw[hw];decide)]
          obtain⟨v,hvb,hvd,hK2⟩:=h2 rfl
          have:=hh.put_same hd hvb
          rw[hvd]at this
          exact ih _ ρ _ _ (Ext.rfl.put _ _) hK2 this
        ·exact hx.elim
       |_=>exact plain hx
theorem Bn{α β:Type}{f:α→Option β}:∀ {l:List α} {l1 l2:List β},l.mapM f=some (l1++l2)→∃a b,l=a++b∧a.mapM f=some l1∧b.mapM f=some l2
 |l,[],l2,h=>⟨[],l,rfl,by rw[List.mapM_nil];rfl,h⟩
 | [],x::l1,l2,h=>by rw[List.mapM_nil]at h;cases h
 |y::l,x::l1,l2,h=>by
  rw[List.mapM_cons]at h
  cases h1:f y with
  |none=>simp[h1]at h
  |some z=>
   cases h2:l.mapM f with
   |none=>simp[h1,h2]at h
   |some zs=>
    simp[h1,h2]at h
    obtain⟨rfl,rfl⟩:=h
    obtain⟨a,b,rfl,h3,h4⟩:=Bn h2
    exact⟨y::a,b,rfl,by rw[List.mapM_cons];simp[h1,h3],h4⟩
theorem T.regCut{c:Cx}{Q:Exit→St→Prop}{S:St}{l:List In}{y:IC}(n:Nat)(F:St)(h:ex c (l.take n) S fun S'=>Ent c S' F)(h2:ex c (l.drop n) F (T c y Q)):T c (.seq (.reg l) y) Q S:=by
 refine T.seq fun ρ a w hh code hc=> ?_
 obtain⟨id,ops,rfl,hl⟩:=Ck hc
 refine wp_region_list ?_
 rw[←List.take_append_drop n l]at hl
 obtain⟨o1,o2,ho,h3,h4⟩:=Bn hl
 rw[ho]
 refine G6 o1 _ h3 o2 _ S ρ a w (fun S' ρ' a' w' _ hE hS=> ?_) h hh
 obtain⟨ρ2,hF⟩:=hE ρ' a' w' hS
 refine M7 o2 _ h4 (T c y Q) F ρ2 a' w' (fun S2 ρ3 a2 w2 _ hQ hS2=>⟨S2,ρ3,hS2,hQ⟩) h2 hF
end Vc
end Go.Proofs.YtddmlennnmpnhaaGreatDoor
namespace Go.Proofs.YtddmlennnmpnhaaGreatDoor
open Go Go.RowKit Vc
set_option linter.unusedVariables false
set_option linter.unusedSimpArgs false
attribute [local irreducible] T Za Zn RdC RwC Yd Ze Zh
def Z3(nm:List UInt8):List Ln:=[⟨Z2,Vt,[]⟩,callL nm,⟨[],Vt,[]⟩]
def flM(v:Int)(j:Nat):List Int:=List.replicate j v++List.replicate (65536-j) 0
theorem Eh(v:Int)(j:Nat)(h:j≤65536):(flM v j).length=65536:=by
 unfold flM;rw[List.length_append,List.length_replicate,List.length_replicate];omega
theorem flM_set(v:Int)(j:Nat)(h:j<65536):(flM v j).set j v=flM v (j+1):=by
 unfold flM
 rw[show 65536-j=(65536-(j+1))+1 by omega,List.replicate_succ,List.set_append_right _ _ (by rw[List.length_replicate];exact Nat.le_refl _),List.length_replicate,Nat.sub_self,List.set_cons_zero,List.replicate_succ',List.append_assoc]
 rfl
theorem C2(v:Int):List.replicate 65536 ((Kd.int .i64).dflt)=flM v 0:=by
 unfold flM
 rw[List.replicate_zero,List.nil_append,Nat.sub_zero]
 rfl
theorem flM_all(v:Int):flM v 65536=List.replicate 65536 v:=by unfold flM;rw[Nat.sub_self];exact List.append_nil _
def memB(p q fill:Int)(x y:List Int):List Int:=cpyL (cpyL (List.replicate 65536 fill) p.toNat 65536 x) q.toNat 65536 y
theorem Zft{c:Cx}{S S2 S3:St}(h:Ent c S S2)(h2:Ent c S2 S3):Ent c S S3:=fun ρ a w hh=>by
 obtain⟨ρ',h'⟩:=h ρ a w hh
 exact h2 ρ' a w h'
attribute [local irreducible] Ent
def Zgi:List At:=[.int .i64 0,.int .i64 0,.raw (.slice none 0 0),.int .i64 0,.int .i64 0,.int .i64 0,.int .i64 0,.int .i64 0,.int .i64 0,.int .i64 0,.int .i64 0,.int .i64 0,.int .i64 0,.bool false,.bool false,.bool false,.bool false,.int .i64 0,.raw (.slice none 0 0)]
theorem Zim(p q sp fill:Int)(t:List At):mcs (Zgj p q sp fill) t= .int .i64 p:: .int .i64 q:: .int .i64 fill:: .int .i64 fill:: .int .i64 fill:: .int .i64 fill:: .int .i64 fill:: .int .i64 sp::t:=rfl
theorem Vs(l:List Int)(lo hi:Nat)(l':List Int)(h1:lo≤hi)(h2:hi≤l.length):(cpyL l lo hi l').length=l.length:=by
 unfold cpyL
 rw[List.length_append,List.length_append,List.length_take,List.length_take,List.length_drop]
 omega
set_option maxHeartbeats 16000000 in
set_option maxRecDepth 100000 in
theorem B5{G:Nat}{H:Nat→Option Obj}(hM:Yn G H)(hH:Z4 G H)(nm:List UInt8)(hnm:nm.length≤1000)(x y:List Int)(hx:x.length≤4)(hy:y.length≤4)(p q sp fill:Int)(hp:0≤p∧p≤65536)(hq:0≤q∧q≤65536)
 (hR:(linkS (unitsTo 24++[([],Z3 nm)]) Z2).2=(0,0))(code:List Int)(hC:(linkS (unitsTo 24++[([],Z3 nm)]) Z2).1.1=code)(M:Nat→Ma)(N:Nat)(hw:Int)
 (h:Trace code M N hw)(ht:(M 0).trap=0)(hm:∀j,j<65536→wd ((M 0).mem.getD j 0))(hN:N≤1000000)(h0:0<trimN (M N).mem 65536)
 (e1:(M 0).f=Zgj p q sp fill)(e2:(M 0).x=⟨false,false,false,false⟩)(e3:(M 0).pc=0)(e4:(M 0).mem=memB p q fill x y):
 GCp G H Tryz.prog 30 [.a (.str nm),.a (.ref 0),.a (.ref 1),.a (.int .i64 p),.a (.int .i64 q),.a (.int .i64 sp),.a (.int .i64 fill)] [(0,.ro (.int .i64) x),(1,.ro (.int .i64) y)] 2 []
  (.tup [.agg (Hq hw (M N).trap N (M N).f (M N).x (M N).pc),.a (.ref 3),.a (.bool true)]) [(2,.row 3 (.int .i64) ((M N).mem.take (trimN (M N).mem 65536))),(3,.row 3 (.int .i64) (memB p q fill x y))] 4:=by
 have hU:=Zhj hM hH
 have hL:=Link_gc (unitsTo 24++[([],Z3 nm)]) Z2 (Dh 24 (Nat.le_refl _) _ (by show 3≤1000;decide)).1 (by decide)
 obtain⟨q1,q2⟩:=lk_ok (congrArg Prod.fst hR)
 rw[q1,q2]at hL
 have hRun:=Run_gc code M N hw h ht hm 1000000 ⟨by omega,by omega⟩ h0
 have hul:=Nb 24
 generalize unitsTo 24=us at*
 generalize linkS (us++[([],Z3 nm)]) Z2=R at*
 have hmn:Z2=[109,97,105,110]:=rfl
 have z0:∀l:List At,l.drop 0=l:=fun l=>rfl
 have t0:∀l:List At,l.take 0=[]:=fun l=>rfl
 refine Xd.fn.gcp (by simp) (by simp[Zu,Zw,Zv,Zj,Zf,Vc.S1.okN,At.okN,SV.okN,Res.okN,Res.outOk,Zo,Res.own,Value.oneCell',X0,Hq]) fun w X fr hglob=> ?_
 rw[hmn]at hL
 refine T.regs ?_
 simp only[Zc,simprocAttr,↓reduceIte,reduceCtorEq,implies_true,Xd.r0]
 refine T.regCut 8 ⟨[(32,.one (.a (.ref 4))),(25,.one (.a (.ref 3))),(14,.one (.a (.loc 2 0))),(1,.one (.a (.ref 0))),(2,.one (.a (.ref 1))),(3,.one (.a (.int .i64 p))),(4,.one (.a (.int .i64 q))),(5,.one (.a (.int .i64 sp))),(6,.one (.a (.int .i64 fill)))],
  [(4,.row 75 .line (Z3 nm)),(3,.urow 0 78 us),(2,.cells 53 Zgi),(0,.ro (.int .i64) x),(1,.ro (.int .i64) y)],5⟩ ?_ ?_
 ·simp only[Zc,simprocAttr,↓reduceIte,reduceCtorEq,implies_true,Xd.r1,List.take_succ_cons,List.take_zero]
  refine Za.ru hglob hU ?_
  simp only[Zc,simprocAttr,↓reduceIte,reduceCtorEq,implies_true]
  exact Zft (Ent.litRow (m:=4) .line (Z3 nm) rfl rfl rfl rfl (by show(3:Nat)≤_;decide)) (Ent.mk1 (id) (by simp[Zt,Zgi]))
 simp only[Zc,simprocAttr,↓reduceIte,reduceCtorEq,implies_true,Xd.r1,List.drop_succ_cons,List.drop_zero]
 repeat'(first|(first|refine Stp.h ?_|(refine Za.gc hL ?_ ?_;focus simp[Zb];done))<;>try simp only[Zc,simprocAttr,↓reduceIte,reduceCtorEq,implies_true,hul,C2,hC,-List.reduceReplicate]|(with_reducible first|assumption|refine And.intro ?_ ?_)|(intro h;first|omega|exact tg h ‹_›|exact tg ‹_› h|skip))
 all_goals first|omega|exact .inl rfl|skip
 rw[C2 fill,Eh fill 0 (by decide)]
 refine T.loop (ι:= {j:Nat//j≤65536})
  (fun j=>⟨[(44,.one (.a (.int .i64 (j.1:Int)))),(43,.one (.a (.int .i64 65536))),(20,.one (.a (.ref 12))),(19,.one (.a (.loc 11 0))),(18,.one (.a (.loc 10 0))),(14,.one (.a (.loc 2 0))),(1,.one (.a (.ref 0))),(2,.one (.a (.ref 1))),(3,.one (.a (.int .i64 p))),(4,.one (.a (.int .i64 q))),(5,.one (.a (.int .i64 sp))),(6,.one (.a (.int .i64 fill)))],
    [(12,.row 3 (.int .i64) (flM fill j.1)),(11,.cells 83 [.int .i64 0,.int .i64 0]),(10,.cells 81 [.ref 7,.ref 8,.ref 9]),(7,.row 3 (.int .i64) code),(8,.row 3 (.int .i64) R.1.2.1),(9,.row 110 .spot R.1.2.2),(2,.cells 53 Zgi),(0,.ro (.int .i64) x),(1,.ro (.int .i64) y)],13⟩) (fun j=>65536-j.1) ⟨0,by omega⟩ (Ent.mk1 (id) (by simp[Zt,Zgi])) ?_
 rintro⟨j,hj⟩
 simp only
 by_cases hlt:j<65536
 ·have hl:=Eh fill j (by omega)
  have hs:=flM_set fill j hlt
  have j1:(j:Int)<65536:=by omega
  have j0:(0:Int)≤j:=by omega
  have jt:((j:Nat):Int).toNat=j:=by omega
  have jw:IntKind.i64.wrap ((j:Int)+1)=((j+1:Nat):Int):=Zx (by omega)
  generalize flM fill j=L at*
  repeat'(first|(first|refine Stp.h ?_)<;>try simp only[Zc,simprocAttr,↓reduceIte,reduceCtorEq,implies_true,j1,j0,jt,jw,hl,hlt]|(with_reducible first|assumption|refine And.intro ?_ ?_)|(intro h;first|omega|exact tg h ‹_›|exact tg ‹_› h|skip))
  all_goals first|omega|exact⟨⟨j+1,hlt⟩,(Ent.mk1 (id) (by simp[Zt,hs,Zgi])),by simp only;omega⟩|skip
 ·obtain rfl:j=65536:=by omega
  have j1:¬((65536:Nat):Int)<65536:=by decide
  have hl:=Eh fill 65536 (Nat.le_refl _)
  have ha:=flM_all fill
  unfold memB at*
  rw[←ha]at e4 ⊢
  generalize flM fill 65536=L at*
  have t65:((65536:Nat):Int).toNat=65536:=Int.toNat_natCast _
  have hl1:(cpyL L p.toNat 65536 x).length=65536:=by rw[Vs _ _ _ _ (by omega) (by omega),hl]
  have hl2:(cpyL (cpyL L p.toNat 65536 x) q.toNat 65536 y).length=65536:=by rw[Vs _ _ _ _ (by omega) (by omega),hl1]
  obtain⟨L1,hL1⟩:∃L1,cpyL L p.toNat 65536 x=L1:=⟨_,rfl⟩
  obtain⟨L2,hL2⟩:∃L2,cpyL (cpyL L p.toNat 65536 x) q.toNat 65536 y=L2:=⟨_,rfl⟩
  rw[hL2]at e4 hl2 ⊢
  rw[hL1]at hl1 hL2
  have hp1:p≤((65536:Nat):Int):=by omega
  have hq1:q≤((65536:Nat):Int):=by omega
  rw[e1,e2,e3,e4]at hRun
  rw[Zim]at hRun
  unfold Hq Zgi at*
  have n65:((65536:Nat):Int)+((0:Nat):Int)≤((65536:Nat):Int):=by decide
  repeat'(first|(first|refine Stp.h ?_|(refine Za.gc hRun ?_ ?_;focus simp[Zb,Z5];done)|refine Ze.split ?_ ?_|refine Zh.no ?_)<;>try simp only[Zc,simprocAttr,↓reduceIte,reduceCtorEq,implies_true,j1,hl,t65,n65,hL1,hL2,hl1,hl2,hp.1,hq.1,hp1,hq1,Z5,z0,t0,Zgj,List.cons_append,List.nil_append,decide_true]|(with_reducible first|assumption|refine And.intro ?_ ?_)|(intro h;first|omega|exact tg h ‹_›|exact tg ‹_› h|skip))
  all_goals omega
end Go.Proofs.YtddmlennnmpnhaaGreatDoor
