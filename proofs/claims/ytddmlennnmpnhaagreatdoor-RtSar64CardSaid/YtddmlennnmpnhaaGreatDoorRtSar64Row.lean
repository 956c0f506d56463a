/-
  RtSar64: the law returns true: the routine sar4 moves bits down, the sign coming in. Condition: the listed variables of Go's library lie as their initialisers lay them (the tie is given).
-/
import Derived.Test.YtddmlennnmpnhaaGreatDoorQy
import Derived.Test.YtddmlennnmpnhaaGreatDoorRg
import Derived.Lay
import Derived.Test.YtddmlennnmpnhaaGreatDoorQj
import Derived.Test.YtddmlennnmpnhaaGreatDoorCards
import Derived.Test.YtddmlennnmpnhaaGreatDoorTie
namespace Go.Proofs.YtddmlennnmpnhaaGreatDoor
open Go Go.RowKit Vc
set_option linter.unusedVariables false
set_option linter.unusedSimpArgs false
attribute [local irreducible] T Za Zn Ent RdC RwC Yd Ze Zh
def nmN:List UInt8:=[115,97,114,52]
set_option maxRecDepth 1000000 in
theorem Y9:(linkS (unitsTo 24++[([],Z3 nmN)]) Z2).2=(0,0)∧(linkS (unitsTo 24++[([],Z3 nmN)]) Z2).1.1.length≤65536∧atB (linkS (unitsTo 24++[([],Z3 nmN)]) Z2).1.1 0 [⟨26,0,0,3⟩]=true∧atB (linkS (unitsTo 24++[([],Z3 nmN)]) Z2).1.1 2 [⟨0,0,0,0⟩]=true∧atB (linkS (unitsTo 24++[([],Z3 nmN)]) Z2).1.1 3 (shI 4 (dnN 17 0 4) 3)=true:=by decide+kernel
theorem Dy{G:Nat}{H:Nat→Option Obj}(hM:Yn G H)(hH:Z4 G H)(a b:Nat)(ha:a<18446744073709551616)(hb:b<18446744073709551616)(p q sp fill:Int)
 (hp64: -9223372036854775808≤p∧p≤9223372036854775807)(hq64: -9223372036854775808≤q∧q≤9223372036854775807):
 GCp G H Tryz.prog 14 [.a (.int .u64 (a:Int)),.a (.int .u64 (b:Int)),.a (.int .i64 p),.a (.int .i64 q),.a (.int .i64 sp),.a (.int .i64 fill)] [] 0 [] (.one (.a (.bool true))) [] 0:=by
 obtain⟨c1,c2,c3,c4,c5⟩:=Y9
 have hm:IntKind.u64.wrap ((b:Int).tmod 65536)=((b%65536:Nat):Int):=by
  rw[Int.tmod_eq_emod_of_nonneg (by omega),IntWalk.u64_in _ (by omega)];omega
 have hm2:(b:Int).tmod 65536=((b%65536:Nat):Int):=by rw[Int.tmod_eq_emod_of_nonneg (by omega)];omega
 have hD:=Zan a (b%65536) 64 ha (by omega) (.inr (.inr rfl))
 have hG:=Wp hM hH nmN (by decide) 4 1 (.inr (.inr rfl)) (.inl rfl) a b (saN (2^64) a (b%65536)) ha hb (Zc3 _ _ _ (by decide) (by decide)) p q sp fill hp64 hq64 c1 _ rfl fun hok=>
  T5 c2 c3 c4 4 1 ⟨by decide,by decide⟩ ⟨by decide,by decide⟩ a b _ p q sp fill hp64 hq64 hok (Kh 4 (.inr (.inr rfl)) c5 a b)
 generalize saN (2^64) a (b%65536)=want at*
 refine V4.fn.gcp (by simp) (by simp[Zu,Zw,Zv,Zj,Zf,Vc.S1.okN,At.okN,SV.okN,Res.okN,Res.outOk,Zo,Res.own,Value.oneCell']) fun w' X fr hglob=> ?_
 have e1:((64:Nat):Int)=64:=rfl
 have e2:((4:Nat):Int)=4:=rfl
 have e4:((1:Nat):Int)=1:=rfl
 have e3:nmN=[115,97,114,52]:=rfl
 rw[e2,e4,e3]at hG
 try rw[e1]at hD
 repeat'(first|(first|refine Stp.h ?_|(refine Za.gc hD ?_ ?_;focus simp[Zb];done)|(refine Za.gcp hglob hG ?_ ?_;focus simp[Zb];done))<;>try simp only[Zc,simprocAttr,↓reduceIte,reduceCtorEq,implies_true,hm,hm2,decide_false,decide_true]|(with_reducible first|assumption|refine And.intro ?_ ?_)|(intro h;first|omega|exact tg h ‹_›|exact tg ‹_› h|skip))
end Go.Proofs.YtddmlennnmpnhaaGreatDoor
namespace Go.Proofs.YtddmlennnmpnhaaGreatDoor
open Go.ChangeShapes Go.WideShapes Go.ChangeAt Go.WideMaps Go.WideElems Go.RowKit Vc
set_option linter.unusedVariables false
set_option linter.unusedSimpArgs false
theorem Y4:ownKnob Tryz.prog.godebug=none:=by kernel_rfl
theorem Y6{P:Program}{f:Nat}{W:World}{a b p q sp fill:Int}(h:GCp W.heap.size (fun b=>W.heap[b]?) P f [.a (.int .u64 a),.a (.int .u64 b),.a (.int .i64 p),.a (.int .i64 q),.a (.int .i64 sp),.a (.int .i64 fill)] [] 0 [] (.one (.a (.bool true))) [] 0):
 Calls P f #[.int .u64 a,.int .u64 b,.int .i64 p,.int .i64 q,.int .i64 sp,.int .i64 fill] W fun e W'=>e= .returned (.bool true)∧Below W.heap.size W W':=by
 refine(h.run (fun _=>Yz) W (Mem.none P W [] 0 0 []) (Xx W)).mono fun e W' hl=> ?_
 obtain⟨ρ',_,rfl,hm'⟩:=hl
 exact⟨rfl,hm'.toBelow⟩
theorem Z0{P:Program}{W:World}{t:TypeId}{b0:Nat}{v:Value}(ht:P.underlying t=some (.int .u64))(hv:Value.okWide P W .any b0 t v):
 ∃n:Nat,v= .int .u64 (n:Int)∧n<18446744073709551616:=by
 simp only[Value.okWide,ht,Cell.okWide]at hv
 cases v<;>simp_all[Cell.ok,Value.cells,IntKind.has]
 rename_i k n
 obtain⟨rfl,h1,h2⟩:=hv
 have h3:(0:Int)≤n:=h1
 have h4:n≤18446744073709551615:=h2
 exact⟨n.toNat,by omega,by omega⟩
theorem Zq{P:Program}{W:World}{t:TypeId}{b0:Nat}{v:Value}(ht:P.underlying t=some (.int .i64))(hv:Value.okWide P W .any b0 t v):
 ∃n:Int,v= .int .i64 n∧ -9223372036854775808≤n∧n≤9223372036854775807:=by
 simp only[Value.okWide,ht,Cell.okWide]at hv
 cases v<;>simp_all[Cell.ok,Value.cells,IntKind.has,IntKind.min,IntKind.max]
 obtain⟨rfl,h1,h2⟩:=hv
 exact⟨h1,h2⟩
theorem Yr{W:World}(h:laidMetH Tryz.prog Rows.rtSar64Row.laid W):Lib.TabIs Tryz.prog W "internal/strconv.uint64pow10" .u64 Lib.pow10Tab:=by
 rw[MakeChecks.laidMetH_plain _ _ _ (by kernel_rfl)]at h
 have h1:laidMet Tryz.prog (_::_::_::_) W:=h
 have h3:=laidMet.tail (laidMet.tail h1)
 exact Lib.tabIs_of_head (P:=Tryz.prog) (g:=5) (t:=264) (e:=22) (n:=20) (k:=.u64) (zs:=Lib.pow10Tab) (rest:=_) (by kernel_rfl) (by kernel_rfl) Tryz.underlying264 Tryz.underlying22 (by kernel_rfl) (by kernel_rfl) h3
theorem Y8{W:World}(hT:Lib.TabIs Tryz.prog W "internal/strconv.uint64pow10" .u64 Lib.pow10Tab):Z4 W.heap.size (fun b=>W.heap[b]?):=by
 intro w X hg
 have hgn:Tryz.prog.globalNamed "internal/strconv.uint64pow10" =some 5:=by kernel_rfl
 unfold Lib.TabIs World.var? at hT ⊢
 rw[hgn]at hT ⊢
 simp only[Option.bind_some]at hT ⊢
 rcases Nat.lt_or_ge 5 W.heap.size with h|h
 ·rw[hg.2.1 _ h];exact hT
 ·rw[Array.getElem?_eq_none h]at hT;cases hT
set_option maxRecDepth 100000 in
theorem Hu(os:Os)(started:os.Started)(H:Type)(enc:TypeId×Value→H):
 ReturnsInHanded {} Tryz.checked os 14 .any (fun w args=>(Rows.rtSar64Spec.pre enc Tryz.prog Tryz.f14 [] false w args∧laidMetH Tryz.prog Rows.rtSar64Row.laid w)∧sizedMet enc Tryz.prog Tryz.f14 (OpenSpec.ofChange Rows.rtSar64Spec) false w args)
  (Rows.rtSar64Spec.post enc Tryz.prog Tryz.f14 false true false false):=by
 refine Z7 (C:=Tryz.checked) (X:=fun w _=>laidMetH Tryz.prog Rows.rtSar64Row.laid w) (fun _ _ _ hh h=>h.of_heap hh) Y4 started (by kernel_rfl) Tryz.func14
  (ChangeSpec.witness_shaped (enc:=enc) (C:=Tryz.checked) (os:=os) (X:=fun w _=>laidMetH Tryz.prog Rows.rtSar64Row.laid w) false (World.laidAll Tryz.prog os Rows.rtSar64Row.laid) #[.int .u64 0,.int .u64 0,.int .i64 0,.int .i64 0,.int .i64 0,.int .i64 0] 8 (World.laidAll_os _ _ _) (World.shaped_of_ZipB (by kernel_rfl) (by kernel_rfl)) (by kernel_rfl) (by kernel_rfl) (by kernel_rfl)
    (by rw[MakeChecks.laidMetH_plain _ _ _ (by kernel_rfl)];exact laidMet_laidAll _ (by kernel_rfl) (by kernel_rfl))) ?_
 intro W base args ds gs before hval0 hW _ _ hL hsh _
 have hval:∀(j:Nat) t v,Tryz.f14.params[j]? =some t→args[j]? =some v→Value.okWide Tryz.prog W .any base t v:=hval0
 have hW':=hW
 obtain⟨p,q,hA0,hV,hpq,hfz,hnd⟩:=hW
 have hA:DataW.TrodAll enc Tryz.prog W 0 (fun _=>true) true Tryz.f14.params.toList args.toList ds p:=hA0
 rw[Tryz.params14]at hA hval
 obtain⟨v0,u0,d0,e0,p0,q0,hargs,rfl,rfl,h0,r0⟩:=trodAll_cons hA
 obtain⟨v1,u1,d1,e1,p1,q1,rfl,rfl,rfl,h1,r1⟩:=trodAll_cons r0
 obtain⟨v2,u2,d2,e2,p2,q2,rfl,rfl,rfl,h2,r2⟩:=trodAll_cons r1
 obtain⟨v3,u3,d3,e3,p3,q3,rfl,rfl,rfl,h3,r3⟩:=trodAll_cons r2
 obtain⟨v4,u4,d4,e4,p4,q4,rfl,rfl,rfl,h4,r4⟩:=trodAll_cons r3
 obtain⟨v5,u5,d5,e5,p5,q5,rfl,rfl,rfl,h5,r5⟩:=trodAll_cons r4
 obtain⟨rfl,rfl,rfl⟩:=trodAll_nil r5
 obtain rfl:args= #[v0,v1,v2,v3,v4,v5]:=by cases args;simp_all
 obtain⟨rfl,rfl⟩:=trodVars_none hV
 obtain⟨a,rfl,ha⟩:=Z0 Tryz.underlying22 (hval 0 22 v0 rfl rfl)
 obtain⟨b,rfl,hb⟩:=Z0 Tryz.underlying22 (hval 1 22 v1 rfl rfl)
 obtain⟨x,rfl,hx⟩:=Zq Tryz.underlying3 (hval 2 3 v2 rfl rfl)
 obtain⟨y,rfl,hy⟩:=Zq Tryz.underlying3 (hval 3 3 v3 rfl rfl)
 obtain⟨sp,rfl,hs⟩:=Zq Tryz.underlying3 (hval 4 3 v4 rfl rfl)
 obtain⟨fill,rfl,hf⟩:=Zq Tryz.underlying3 (hval 5 3 v5 rfl rfl)
 refine(Y6 (Dy (T6 hsh) (Y8 (Yr hL)) a b ha hb x y sp fill hx hy)).mono fun e W' ⟨he,hB⟩=> ?_
 subst he
 exact⟨_,rfl,Wq rfl (by kernel_rfl) (by decide+kernel) (by kernel_rfl) Tryz.underlying4 hW' rfl hB⟩
theorem Zb8:Tryz.pinned.checked.prog.inPlace 14=Rows.rtSar64Row.inPlace:=by kernel_rfl
theorem Zb9:Tryz.pinned.checked.prog.unfollowed 14=Rows.rtSar64Row.unfollowed:=by kernel_rfl
theorem Zca:Tryz.pinned.checked.prog.recurses 14=Rows.rtSar64Row.recurses:=by kernel_rfl
theorem Zcb:Tryz.pinned.checked.prog.varsNamed 14=Rows.rtSar64Row.named:=by kernel_rfl
theorem Zgo:joinedFacts Tryz.pinned.checked.prog 14 Tryz.f14 Rows.rtSar64Spec Rows.rtSar64Row=true:=by
 unfold joinedFacts
 rw[Zb8,Zb9,Zca,Zcb]
 kernel_rfl
theorem Ah:Rows.RtSar64Said:=
 OpenClaim.holds_of_wide 14 Tryz.f14 rfl rfl rfl rfl rfl rfl rfl ⟨rfl,rfl,rfl,rfl,rfl⟩ rfl rfl rfl rfl rfl (by kernel_rfl) Tryz.func14 Zgo
  (of_decide_eq_true (by kernel_rfl)) (by unfold Func.isWrapper;first|(rw[if_pos (by decide+kernel)];kernel_rfl)|(rw[if_neg (by decide+kernel)];exact⟨rfl,rfl⟩))
  (fun os started H enc _=>Hu os started H enc)
theorem rtSar64_proved:Rows.RtSar64CardSaid:=
 Claim7.holds_tied_plain_at .later [] [.data,.data,.data,.data,.sentinel,.sentinel,.pinned] true (true,"31a431bb1d7abeed5a5d3dc14d781d0dd723060d2fdb0ae527405603310b5b95") true
  Ah (fun _ h=>by cases h) (by kernel_rfl) (fun _ h=>by cases h) rtSar64_row_tie rfl ⟨rfl,rfl⟩ (by kernel_rfl) rfl
  (fun f fn hf hfn=>by
    obtain rfl:f=14:=Option.some.inj ((show Tryz.prog.funcNamed "pairlegal/pairlegallaw6.RtSar64" =some 14 by kernel_rfl).symm.trans hf) |>.symm
    obtain rfl:fn=Tryz.f14:=(Option.some.inj (Tryz.func14.symm.trans hfn)).symm
    exact⟨by kernel_rfl,fun j t ht=>by
     rw[Tryz.params14]at ht
     have hm:t∈[22,22,3,3,3,3]:=by simpa using Array.mem_of_getElem? ht
     have hall:([22,22,3,3,3,3].all fun u=> !Tryz.prog.wantsStandIn u)=true:=by kernel_rfl
     exact(show Tryz.prog.wantsStandIn t=false by simpa using List.all_eq_true.1 hall t hm)⟩)
  (by kernel_rfl)
end Go.Proofs.YtddmlennnmpnhaaGreatDoor
