/- A part of the proofs of this seat's laws: steps on the way, joined. It has no conditions of its own. -/
import Derived.Test.YtddmlennnmpnhaaGreatDoorQx
import Derived.Test.YtddmlennnmpnhaaGreatDoorQh
import Derived.Test.YtddmlennnmpnhaaGreatDoorChecked
import Derived.KernelRfl
namespace Go.Proofs.YtddmlennnmpnhaaGreatDoor
open Go Vc
set_option linter.unusedVariables false
set_option linter.unusedSimpArgs false
theorem Zjn(g:Nat→Int)(q:Nat):val g q 1=g q:=by simp[val]
theorem H3{code:List Int}(n:Nat)(hn:1≤n∧n≤4)(B:List Ins)(f:Int→Int)(hBs:B.all Ob=true)(hBl:B.length≤12)(hBz:Z1 B≤100)(hat:atB code 3 (shI n B 3)=true)(a b want:Nat)
 (hB:∀p s,p+n≤65536→PuOk s→aR s 0=p→Chg s (exL B s) p n∧val (gM (exL B s)) p n=f (val (gM s) p n))
 (hw:itN f (min (b%65536) (16*n)) ((a%65536^n:Nat):Int)=((want%65536^n:Nat):Int)):Gr code n 1 a b want:=fun s p q T h=>by
 have ht:=h.t
 have h2:=h.d2
 have hq:=h.qm
 have hv2:=h.v2
 rw[Zjn,Nat.pow_one]at hv2
 obtain⟨k,s',hR,hk,hv⟩:=sh_runs code n hn B f hBs hBl hBz 3 0 ⟨by decide,by decide⟩ (.of hat) s h.ok p q T (b%65536) h.r0 h.r1 h.r7 hq (by omega) (by omega) hv2 (fun s=>hB p s h.pn)
 exact⟨k,s',0,hR,by omega,by omega,by rw[hv,h.v1,hw]⟩
theorem O4(k:Nat):(2:Int)^k=((2^k:Nat):Int):=by simp
theorem Kk{code:List Int}(n:Nat)(hn:n=1∨n=2∨n=4)(hat:atB code 3 (shI n (upN 14 0 0 n) 3)=true)(a b:Nat):Gr code n 1 a b (a%2^(16*n)*2^min (b%65536) 64%2^(16*n)):=by
 refine H3 n (by omega) (upN 14 0 0 n) (fun v=>2*v%pw n) (by rcases hn with rfl|rfl|rfl<;>decide) (by rcases hn with rfl|rfl|rfl<;>decide) (by rcases hn with rfl|rfl|rfl<;>decide) hat a b _ (fun p s hp h h0=>body_up n p (by omega) hp s h h0) ?_
 have hW:0<65536^n:=Nat.pow_pos (by decide)
 have hX:=Nat.mod_lt a hW
 rw[it_up _ (by rw[Ql];omega) _ _ (by omega) (by rw[Ql];omega),Ql,Xh,Nat.mod_mod,O4,←Int.natCast_mul,←Int.natCast_emod]
 congr 1
 by_cases hc:b%65536≤16*n
 ·rw[Nat.min_eq_left hc,Nat.min_eq_left (by omega)]
 ·rw[Nat.min_eq_right (by omega)]
  obtain⟨k,hk⟩:∃k,min (b%65536) 64=16*n+k:=⟨min (b%65536) 64-16*n,by omega⟩
  rw[hk,Nat.pow_add,Xh]
  rw[Nat.mul_mod_left,←Nat.mul_assoc,Nat.mul_right_comm,Nat.mul_mod_left]
theorem Km{code:List Int}(n:Nat)(hn:n=1∨n=2∨n=4)(hat:atB code 3 (shI n (dnN 16 0 n) 3)=true)(a b:Nat):Gr code n 1 a b (a%2^(16*n)/2^min (b%65536) 64%2^(16*n)):=by
 refine H3 n (by omega) (dnN 16 0 n) (fun v=>v/2) (by rcases hn with rfl|rfl|rfl<;>decide) (by rcases hn with rfl|rfl|rfl<;>decide) (by rcases hn with rfl|rfl|rfl<;>decide) hat a b _ (fun p s hp h h0=>Zhr n p (by omega) hp s h h0) ?_
 have hW:0<65536^n:=Nat.pow_pos (by decide)
 have hX:=Nat.mod_lt a hW
 rw[it_dn _ _ (by omega),Xh,Nat.mod_mod,O4,←Int.natCast_ediv]
 congr 1
 rw[Nat.mod_eq_of_lt (Nat.lt_of_le_of_lt (Nat.div_le_self _ _) hX)]
 by_cases hc:b%65536≤16*n
 ·rw[Nat.min_eq_left hc,Nat.min_eq_left (by omega)]
 ·rw[Nat.min_eq_right (by omega),Nat.div_eq_of_lt (by rw[Xh];exact hX),Nat.div_eq_of_lt (Nat.lt_of_lt_of_le hX (by rw[←Xh];exact Nat.pow_le_pow_right (by decide) (by omega)))]
def saN(W a c:Nat):Nat:=(sgP W (a%W:Nat)/2^min c 64%(W:Int)).toNat
theorem Fm(W:Int)(z:Int)(h: -W≤2*z∧2*z<W)(hW:0<W)(j:Int)(hj:W≤j):z/j=if z<0 then-1 else 0:=by
 split
 ·rw[Int.ediv_eq_neg_one_of_neg_of_le (by omega) (by omega)]
 ·exact Int.ediv_eq_zero_of_lt (by omega) (by omega)
theorem Kh{code:List Int}(n:Nat)(hn:n=1∨n=2∨n=4)(hat:atB code 3 (shI n (dnN 17 0 n) 3)=true)(a b:Nat):Gr code n 1 a b (saN (2^(16*n)) a (b%65536)):=by
 refine H3 n (by omega) (dnN 17 0 n) (fun v=>(v+(if pw n≤2*v then pw n else 0))/2) (by rcases hn with rfl|rfl|rfl<;>decide) (by rcases hn with rfl|rfl|rfl<;>decide) (by rcases hn with rfl|rfl|rfl<;>decide) hat a b _ (fun p s hp h h0=>Zhq n p (by omega) hp s h h0) ?_
 have hW:0<65536^n:=Nat.pow_pos (by decide)
 have hE:(65536^n:Nat)%2=0:=by rcases hn with rfl|rfl|rfl<;>decide
 have hX:=Nat.mod_lt a hW
 have e64:∀k,16*n≤k→((65536^n:Nat):Int)≤2^k:=fun k hk=>by
  rw[O4];exact Int.ofNat_le.2 (by rw[←Xh];exact Nat.pow_le_pow_right (by decide) hk)
 obtain⟨⟨k1,k2⟩,k3⟩:=Zif (pw n) (by rw[Ql];omega) (by rw[Ql];omega) (min (b%65536) (16*n)) ((a%65536^n:Nat):Int) (by omega) (by rw[Ql];omega)
 generalize itN (fun v=>(v+(if pw n≤2*v then pw n else 0))/2) (min (b%65536) (16*n)) ((a%65536^n:Nat):Int)=z at*
 rw[Ql]at k2 k3
 unfold saN
 rw[Xh]
 have k4:sgP ((65536^n:Nat):Int) ((a%65536^n:Nat):Int)/2^min (b%65536) (16*n)=sgP ((65536^n:Nat):Int) ((a%65536^n:Nat):Int)/2^min (b%65536) 64:=by
  have hs: -((65536^n:Nat):Int)≤2*sgP ((65536^n:Nat):Int) ((a%65536^n:Nat):Int)∧2*sgP ((65536^n:Nat):Int) ((a%65536^n:Nat):Int)<((65536^n:Nat):Int):=by
   unfold sgP;split<;>omega
  by_cases hc:b%65536≤16*n
  ·rw[Nat.min_eq_left hc,Nat.min_eq_left (by omega)]
  ·rw[Fm _ _ hs (by omega) _ (e64 _ (by omega)),Fm _ _ hs (by omega) _ (e64 _ (by omega))]
 rw[←k4,←k3]
 generalize 65536^n=W at*
 have h5:sgP (W:Int) z%W=z:=by
  unfold sgP
  split
  ·rw[Int.sub_emod_right,Int.emod_eq_of_lt k1 k2]
  ·exact Int.emod_eq_of_lt k1 k2
 rw[h5,Nat.mod_eq_of_lt (by omega)];omega
end Go.Proofs.YtddmlennnmpnhaaGreatDoor
namespace Go.Proofs.YtddmlennnmpnhaaGreatDoor
open Vc
namespace Xt
abbrev r0:List In:=[i1 10 (.mv (.k (.a (.int .u64 0)))),i1 11 (.mv (kI 0))]
abbrev r1:List In:=[mv 15 2,i1 16 (.call 18 [.t 15]),i1 17 (.un .not (.t 16))]
abbrev r2:List In:=[i1 10 (.mv (.k (.a (.int .u64 0)))),i1 11 (.mv (kI 1))]
abbrev r3:List In:=[mv 18 1,i1 19 (.bin .gtr (.t 18) (.k (.a (.int .u64 64))))]
abbrev r4:List In:=[i1 1 (.mv (.k (.a (.int .u64 64))))]
abbrev r5:List In:=[mv 20 0,mv 21 2,mv 22 4,i1 23 (.call 19 [.t 20,.t 21,.t 22]),mv 12 23]
abbrev r6:List In:=[mv 24 3]
abbrev r7:List In:=[mv 25 12,mv 26 12,mv 27 1,i1 28 (.call 31 [.t 25,.t 26,.t 27]),mv 29 2,i1 30 (.call 27 [.t 28,.t 29]),mv 10 30,i1 11 (.mv (kI 0))]
abbrev r8:List In:=[i1 31 (.alloc 34 [.bool false,.raw (.slice none 0 0)]),i1 32 (.alloc 34 [.bool false,.raw (.slice none 0 0)]),mv 13 31,mv 14 32]
abbrev r9:List In:=[mv 33 13,mv 34 12,mv 35 1,i1 36 (.conv .i64 (.t 35)),i1 37 (.call 33 [.t 36]),mv 38 14,i1 39 (.call 32 [.t 33,.t 34,.t 37,.t 38])]
abbrev r10:List In:=[mv 40 13,mv 41 2,i1 42 (.call 27 [.t 40,.t 41]),mv 10 42,i1 11 (.mv (kI 0))]
abbrev code:IC:=.seq (.reg r0) (.seq (.seq (.reg r1) (.cond (.t 17) (.seq (.reg r2) .ret) .skip)) (.seq (.seq (.reg r3) (.cond (.t 19) (.reg r4) .skip)) (.seq (.reg r5) (.seq (.seq (.reg r6) (.cond (.t 24) (.seq (.reg r7) .ret) .skip)) (.seq (.reg r8) (.seq (.reg r9) (.seq (.reg r10) .ret)))))))
abbrev res:List RV:=[.tmp 10,.tmp 11]
theorem fn:Body Tryz.prog 17 43 code res:=⟨by decide,Tryz.f17,_,Tryz.func17,rfl,rfl,by kernel_rfl,by kernel_rfl⟩
end Xt
end Go.Proofs.YtddmlennnmpnhaaGreatDoor
