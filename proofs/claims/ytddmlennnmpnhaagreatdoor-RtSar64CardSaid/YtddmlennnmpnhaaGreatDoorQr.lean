/- A part of the proofs of this seat's laws: steps on the way, joined. It has no conditions of its own. -/
import Derived.Shelf.Strings.Builder1
import Derived.Shelf.Strings.Builder2
import Derived.Shelf.Strings.Trim
import Derived.Shelf.Small.Utf8
import Derived.Shelf.Small.Strs
import Derived.Shelf.Small.Wraps
import Derived.Shelf.Strconv.Atoi
import Derived.Shelf.Strconv.Itoa0
import Derived.Shelf.Strconv.Itoa1
import Derived.Shelf.LaysM
import Derived.Shelf.Strconv.Itoa2
import Derived.Shelf.Strconv.Itoa3
import Derived.Shelf.Strings.Search1
import Derived.Shelf.Strings.Search2
import Derived.Shelf.Strings.Search3
import Derived.Shelf.Strings.Cut
import Derived.Shelf.Strings.Count
import Derived.Shelf.Strings.Shaped
import Derived.Shelf.Sort.Plain
import Derived.Shelf.Strings.Prefix
import Derived.Shelf.Strings.Split
import Derived.Shelf.Strings.Replace
import Derived.Shelf.Strings.Runes
import Derived.Shelf.Strings.AsciiSet
import Derived.Shelf.Unicode.DecodeSlow
import Derived.Shelf.Slices.In.SortNone
import Derived.Test.YtddmlennnmpnhaaGreatDoorProg
import Derived.Test.YtddmlennnmpnhaaGreatDoorQq
import Derived.Sort.OwnSorted
import Derived.Sort.KeysCollected
import Derived.Test.YtddmlennnmpnhaaGreatDoorQi
import Derived.Test.YtddmlennnmpnhaaGreatDoorQj
import Derived.Test.YtddmlennnmpnhaaGreatDoorQh
import Derived.Test.YtddmlennnmpnhaaGreatDoorChecked
import Derived.KernelRfl

namespace Go.Proofs
open Go.Shelf
def Tryz.lays190_ren:Go.Shelf.Ren:=⟨fun|190=>75|125=>101|258=>100|128=>146|129=>147|302=>137|303=>138|304=>139|305=>140|306=>141|307=>142|308=>143|309=>144|310=>145|333=>170|329=>171|330=>172|334=>173|335=>174|336=>175|344=>189|n=>n,fun|31=>96|9=>9|3=>3|46=>57|0=>0|51=>90|53=>22|4=>4|183=>195|182=>194|131=>106|5=>5|218=>217|222=>175|228=>230|229=>231|n=>n,fun|n=>n⟩
theorem Tryz.lays190:Go.Proofs.Lays.n190 Tryz.prog Tryz.lays190_ren:= {
 mixed:=by kernel_rfl
 f125:=Tryz.func101.trans (congrArg some (by kernel_rfl))
 f128:=Tryz.func146.trans (congrArg some (by kernel_rfl))
 f129:=Tryz.func147.trans (congrArg some (by kernel_rfl))
 f190:=Tryz.func75.trans (congrArg some (by kernel_rfl))
 f258:=Tryz.func100.trans (congrArg some (by kernel_rfl))
 f302:=Tryz.func137.trans (congrArg some (by kernel_rfl))
 f303:=Tryz.func138.trans (congrArg some (by kernel_rfl))
 f304:=Tryz.func139.trans (congrArg some (by kernel_rfl))
 f305:=Tryz.func140.trans (congrArg some (by kernel_rfl))
 f306:=Tryz.func141.trans (congrArg some (by kernel_rfl))
 f307:=Tryz.func142.trans (congrArg some (by kernel_rfl))
 f308:=Tryz.func143.trans (congrArg some (by kernel_rfl))
 f309:=Tryz.func144.trans (congrArg some (by kernel_rfl))
 f310:=Tryz.func145.trans (congrArg some (by kernel_rfl))
 f329:=Tryz.func171.trans (congrArg some (by kernel_rfl))
 f330:=Tryz.func172.trans (congrArg some (by kernel_rfl))
 f333:=Tryz.func170.trans (congrArg some (by kernel_rfl))
 f334:=Tryz.func173.trans (congrArg some (by kernel_rfl))
 f335:=Tryz.func174.trans (congrArg some (by kernel_rfl))
 f336:=Tryz.func175.trans (congrArg some (by kernel_rfl))
 f344:=Tryz.func189.trans (congrArg some (by kernel_rfl))
 t0:=Tryz.underlying0
 a0:=Tryz.isAgg0
 z0:=Tryz.sizeOf0
 v0:=Tryz.zeroValue0
 t3:=Tryz.underlying3
 a3:=Tryz.isAgg3
 z3:=Tryz.sizeOf3
 v3:=Tryz.zeroValue3
 t4:=Tryz.underlying4
 a4:=Tryz.isAgg4
 z4:=Tryz.sizeOf4
 v4:=Tryz.zeroValue4
 t5:=Tryz.underlying5
 a5:=Tryz.isAgg5
 z5:=Tryz.sizeOf5
 v5:=Tryz.zeroValue5
 t9:=Tryz.underlying9
 a9:=Tryz.isAgg9
 z9:=Tryz.sizeOf9
 v9:=Tryz.zeroValue9
 t31:=Tryz.underlying96
 a31:=Tryz.isAgg96
 z31:=Tryz.sizeOf96
 v31:=Tryz.zeroValue96
 t46:=Tryz.underlying57
 a46:=Tryz.isAgg57
 z46:=Tryz.sizeOf57
 v46:=Tryz.zeroValue57
 t51:=Tryz.underlying90
 a51:=Tryz.isAgg90
 z51:=Tryz.sizeOf90
 v51:=Tryz.zeroValue90
 t53:=Tryz.underlying22
 a53:=Tryz.isAgg22
 z53:=Tryz.sizeOf22
 v53:=Tryz.zeroValue22
 t131:=Tryz.underlying106
 a131:=Tryz.isAgg106
 z131:=Tryz.sizeOf106
 v131:=Tryz.zeroValue106
 t182:=Tryz.underlying194
 a182:=Tryz.isAgg194
 z182:=Tryz.sizeOf194
 v182:=Tryz.zeroValue194
 t183:=Tryz.underlying195
 a183:=Tryz.isAgg195
 z183:=Tryz.sizeOf195
 v183:=Tryz.zeroValue195
 t218:=Tryz.underlying217
 a218:=Tryz.isAgg217
 z218:=Tryz.sizeOf217
 v218:=Tryz.zeroValue217
 t222:=Tryz.underlying175
 a222:=Tryz.isAgg175
 z222:=Tryz.sizeOf175
 v222:=Tryz.zeroValue175
 t228:=Tryz.underlying230
 a228:=Tryz.isAgg230
 z228:=Tryz.sizeOf230
 v228:=Tryz.zeroValue230
 t229:=Tryz.underlying231
 a229:=Tryz.isAgg231
 z229:=Tryz.sizeOf231
 v229:=Tryz.zeroValue231}
open Go.Sort Go.RowKit in
theorem Tryz.slices_Sort_string(blk off cap:Nat)(ss:List (List UInt8))(w:World)(hH:Holds encStr w blk off ss.toArray)(hblk:blk<w.heap.size)(hsz:ss.length<4611686018427387904):
 Calls Tryz.prog 75 #[.slice (some ⟨blk,off,none⟩) ss.length cap] w fun e w'=>
  e= .returned (.tuple #[])∧∃n os,w'=grow (putRow encStr (Sort.ahead w n) blk off (ss.mergeSort fun x y=>decide (x≤y)).toArray) os:=Any.slices_Sort_string Tryz.lays190 blk off cap ss w hH hblk hsz
end Go.Proofs
namespace Go.Proofs.YtddmlennnmpnhaaGreatDoor
open Go Go.RowKit Vc
set_option linter.unusedVariables false
set_option linter.unusedSimpArgs false
def Lj(l:List (List UInt8)):List (List UInt8):=l.mergeSort fun x y=>decide (x≤y)
theorem Fp(ρ:Env)(l:List (List UInt8)):((l.flatMap (Kd.enc .str)).map (At.den ρ))=l.map encStr:=by
 induction l with
 |nil=>rfl
 |cons x l ih=>
  simp only[List.flatMap_cons,List.map_append,ih,List.map_cons]
  rfl
theorem Sort_gc(l:List (List UInt8))(h0:l≠[])(hl:l.length≤1000):
 GC Tryz.prog 75 [.a (.ref 0)] [(0,.row 9 .str l)] 1 [0] (.tup []) [(0,.row 9 .str (Lj l))] 1:=by
 refine⟨(by simp[Zu,Zw,Zv,Zj,Zf,Vc.S1.okN,At.okN,SV.okN,Res.okN,Res.outOk,Zo,Res.own,Value.oneCell']),fun ρ w hm=> ?_⟩
 have hr:=hm.res 0 _ (List.mem_cons_self ..)
 simp only[Res.holds]at hr
 rw[Fp]at hr
 have hlen:(Lj l).length=l.length:=by simp[Lj]
 rcases hr.2 with⟨_,hz⟩|⟨g,cap,cur,hv,hbase,hb,h1,h2,h3,h4⟩
 ·exact absurd (List.length_eq_zero_iff.1 hz) h0
 have hsz:Kd.sz .str=1:=rfl
 have hH:=holds_of_block (ss:=l) hb (by simpa[hsz]using h4)
 have hg:=(Array.getElem?_eq_some_iff.1 hb).1
 have hc:=Tryz.slices_Sort_string g 0 cap l w hH hg (by omega)
 have e1:(At.den ρ (.ref 0))= .slice (some ⟨g,0,none⟩) l.length cap:=hv
 simp only[List.map_cons,List.map_nil,S1.den,e1]
 refine hc.mono fun e w' ⟨he,n,os,hw⟩=>⟨ρ,fun _ _=>rfl,he,?_⟩
 have hgr:=grownBy_sorted (w:=w) (g:=g) (n:=n) (os:=os) (Lj l).toArray
 have hw':w'=Go.Sort.grow (Go.Sort.putRow encStr (Sort.ahead w n) g 0 (Lj l).toArray) os:=hw
 rw[←hw']at hgr
 have hrow:w'.ownsRow 0 9 1 (ρ 0) (Lj l).length ((Lj l).map encStr):=by
  rw[hv,hw',hlen]
  exact ownsRow_sorted hlen hbase hb h1 h2 (by simpa[hsz]using h3)
 have:=Mem.step (ρ':=ρ) (nx':=1) (w':=w') (ds:=[0]) (m:=0) (r:=.row 9 .str (Lj l)) (D:=[g]) hm
  (fun _ _=>rfl) (Nat.le_refl _) hm.one hgr.os hgr.tape hgr.output hgr.size
  (fun b o hbo hbn=>by
    have hbl:=(Array.getElem?_eq_some_iff.1 hbo).1
    rw[hgr.block b hbl (fun e=>by cases e;exact hbn (List.mem_cons_self ..))];exact hbo)
  (fun b hb'=>by
    simp only[List.mem_singleton]at hb';subst hb'
    exact⟨0,_,List.mem_cons_self ..,by simp,by simp[Res.block,hv,Value.ownBlock]⟩)
  (by omega) (.inl (by simp)) trivial
  (fun b hb'=>by
    simp only[Res.block,hv,Value.ownBlock,Option.some.injEq]at hb'
    subst hb'
    exact⟨Nat.lt_of_lt_of_le hg hgr.size,.inr ⟨0,_,List.mem_cons_self ..,by simp,by simp[Res.block,hv,Value.ownBlock]⟩⟩)
  (fun O' _ _=>by simp only[Res.holds];rw[Fp];exact hrow)
 simpa[del]using this
end Go.Proofs.YtddmlennnmpnhaaGreatDoor
namespace Go.Proofs.YtddmlennnmpnhaaGreatDoor
open Go Go.RowKit Vc
set_option linter.unusedVariables false
set_option linter.unusedSimpArgs false
attribute [local irreducible] T Za Zn Ent RdC RwC Yd Ze Zh
def Qm:List (List UInt8):=[[49],[50],[52]]
def T0(s:List UInt8):List (List UInt8):=Qm.map fun t=>s++t
def I7(i:Nat):List UInt8:=(Ow.getD i ([],0)).1
def Uz(seen:List Nat):List (List UInt8):=seen.flatMap fun i=>T0 (I7 i)
def V1:List (List UInt8):=[[109,117,108],[115,97,114],[115,100,105,118],[115,104,108],[115,104,114],[115,114,101,109],[117,100,105,118],[117,114,101,109]].flatMap T0
theorem Ez:V1.Pairwise fun a b=>decide (a≤b)=true:=by decide+kernel
theorem Zbr:V1.Perm (Uz (List.range 8)):=List.isPerm_iff.1 (by decide+kernel)
theorem Zio{seen:List Nat}(hnd:seen.Nodup)(hlt:∀i∈seen,i<8)(hall:∀i,i<8→i∈seen):Lj (Uz seen)=V1:=by
 have hp:seen.Perm (List.range 8):=(List.perm_ext_iff_of_nodup hnd List.nodup_range).2 fun i=>by
  rw[List.mem_range];exact⟨hlt i,hall i⟩
 have hp2:(Uz seen).Perm V1:=(hp.flatMap_right _).trans Zbr.symm
 have:=mergeSort_of_perm hp2
 show(Uz seen).mergeSort (fun x y=>decide (x≤y))=V1
 have e:V1.mergeSort (fun x y=>decide (x≤y))=V1:=List.mergeSort_of_pairwise Ez
 exact Eq.trans this e
theorem A1{seen:List Nat}(hnd:seen.Nodup)(hlt:∀i∈seen,i<8):seen.length≤8:=by
 have hp:seen.Perm ((List.range 8).filter fun i=>decide (i∈seen)):=(List.perm_ext_iff_of_nodup hnd (List.nodup_range.filter _)).2 fun i=>by
  simp only[List.mem_filter,List.mem_range,decide_eq_true_eq]
  exact⟨fun h=>⟨hlt i h,h⟩,fun h=>h.2⟩
 rw[hp.length_eq]
 exact Nat.le_trans (List.length_filter_le _ _) (by simp)
theorem Zii:∀i,i<8→(I7 i).length≤4:=by decide
theorem Zjf:∀j,j<3→(Qm.getD j []).length≤1:=by decide
theorem Zgc(seen:List Nat):(Uz seen).length=3*seen.length:=by
 induction seen with
 |nil=>rfl
 |cons i seen ih=>
  simp only[Uz,List.flatMap_cons,List.length_append]at ih ⊢
  rw[ih]
  simp[T0,Qm];omega
theorem Zbu(seen:List Nat)(i:Nat):Uz (seen++[i])=Uz seen++T0 (I7 i):=by simp[Uz]
set_option maxHeartbeats 8000000 in
set_option maxRecDepth 100000 in
theorem Dt:GC Tryz.prog 59 [] [] 0 [] (.one (.a (.ref 0))) [(0,.row 9 .str V1)] 1:=by
 refine N4.fn.gc (by simp) (by simp[Zu,Zw,Zv,Zj,Zf,Vc.S1.okN,At.okN,SV.okN,Res.okN,Res.outOk,Zo,Res.own,Value.oneCell']) fun w X fr=> ?_
 have hkl:Ow.length=8:=rfl
 repeat'(first|(first|refine Stp.h ?_|(refine Za.gc Bd ?_ ?_;focus simp[Zb];done))<;>try simp only[Zc,simprocAttr,↓reduceIte,reduceCtorEq,implies_true,hkl]|(with_reducible first|assumption|refine And.intro ?_ ?_)|(intro h;first|omega|exact tg h ‹_›|exact tg ‹_› h|skip))
 all_goals first|omega|skip
 refine T.weak (Ent.nilRow (t:=1) 9 .str rfl) ?_
 refine T.loop (ι:= {seen:List Nat//seen.Nodup∧∀i∈seen,i<8})
  (fun x=>⟨[(6,.one (.a (.ref 1))),(1,.one (.a (.ref 2)))],[(0,.fmap Ow),(1,.fiter 0 8 x.1),(2,.row 9 .str (Uz x.1))],3⟩) (fun x=>8-x.1.length) ⟨[],by simp,by simp⟩ (Ent.mk1 (id) (by simp[Zt,Uz])) ?_
 rintro⟨seen,hnd,hlt⟩
 simp only
 have hlen:=A1 hnd hlt
 have hol:=Zgc seen
 refine T.regs ?_
 simp only[Zc,simprocAttr,↓reduceIte,reduceCtorEq,implies_true,N4.r3,hkl]
 refine⟨fun hall=> ?_,fun i s f hg hn=> ?_⟩
 ·have hne:Uz seen≠[]:=by
   intro e
   rw[e]at hol
   have:seen.length=0:=by simp at hol;omega
   have h0:=hall 0 (by omega)
   rw[List.length_eq_zero_iff.1 this]at h0;cases h0
  have hS:=Sort_gc (Uz seen) hne (by omega)
  rw[Zio hnd hlt hall]at hS
  repeat'(first|(first|refine Stp.h ?_|(refine Za.gc hS ?_ ?_;focus simp[Zb];done))<;>try simp only[Zc,simprocAttr,↓reduceIte,reduceCtorEq,implies_true]|(with_reducible first|assumption|refine And.intro ?_ ?_)|(intro h;first|omega|exact tg h ‹_›|exact tg ‹_› h|skip))
  all_goals first|omega|skip
 ·have hi8:i<8:=by have:=(List.getElem?_eq_some_iff.1 hg).1;omega
  have hk:I7 i=s:=by unfold I7;simp[List.getD,hg]
  repeat'(first|(first|refine Stp.h ?_)<;>try simp only[Zc,simprocAttr,↓reduceIte,reduceCtorEq,implies_true,hg,hkl,List.getLast?_concat]|(with_reducible first|assumption|refine And.intro ?_ ?_)|(intro h;first|omega|exact tg h ‹_›|exact tg ‹_› h|skip))
  all_goals first|omega|skip
  refine T.weak (Ent.litRow (m:=3) .str Qm rfl rfl rfl rfl (by decide)) ?_
  simp only[Zc,simprocAttr,↓reduceIte,reduceCtorEq,implies_true]
  refine T.loop (ι:= {j:Nat//j≤3})
   (fun x=>⟨[(13,.one (.a (.int .i64 (x.1:Int)))),(12,.one (.a (.int .i64 3))),(11,.one (.a (.ref 3))),(2,.one (.a (.str s))),(6,.one (.a (.ref 1))),(1,.one (.a (.ref 2)))],
     [(0,.fmap Ow),(1,.fiter 0 8 (seen++[i])),(2,.row 9 .str (Uz seen++(T0 s).take x.1)),(3,.row 9 .str Qm)],4⟩) (fun x=>3-x.1) ⟨0,by simp⟩ (Ent.mk1 (id) (by simp[Zt])) ?_
  rintro⟨j,hj⟩
  simp only
  have htl:Qm.length=3:=rfl
  by_cases hj3:j<3
  ·have hw:IntKind.i64.wrap ((j:Int)+1)=((j+1:Nat):Int):=Zx (by omega)
   have htj:((j:Int)).toNat=j:=by omega
   have htk:(T0 s).take (j+1)=(T0 s).take j++[s++Qm.getD j (Kd.dflt .str)]:=by
    have h3:j<(T0 s).length:=by simp[T0,Qm];omega
    rw[List.take_add_one,List.getElem?_eq_getElem h3]
    simp[T0,List.getD,show j<Qm.length by omega]
   have hll:(Uz seen++(T0 s).take j).length≤100:=by
    simp only[List.length_append,List.length_take,hol,T0,List.length_map,htl];omega
   generalize hx:Qm.getD j (Kd.dflt .str)=x at htk
   have hsx:s.length+x.length≤1000:=by
    have h1:=Zii i hi8
    have h2:x.length≤1:=by rw[←hx];exact Zjf j hj3
    rw[hk]at h1;omega
   generalize hacc:Uz seen++(T0 s).take j=acc at hll
   have hacc2:Uz seen++(T0 s).take (j+1)=acc++[s++x]:=by rw[htk,←hacc,List.append_assoc]
   have hlt3:(j:Int)<3:=by omega
   repeat'(first|(first|refine Stp.h ?_)<;>try simp only[Zc,simprocAttr,↓reduceIte,reduceCtorEq,implies_true,hx,hw,htj,htl,hlt3,Int.ofNat_lt]|(with_reducible first|assumption|refine And.intro ?_ ?_)|(intro h;first|omega|exact tg h ‹_›|exact tg ‹_› h|skip))
   all_goals first|omega|skip
   exact⟨⟨j+1,hj3⟩,(Ent.mk1 (fun n=>if n=2 then 5 else n) (by simp[Zt,hacc2,hw])),by simp only;omega⟩
  ·have hj2:j=3:=by omega
   subst hj2
   have h3:(T0 s).take 3=T0 s:=rfl
   have hnl:(seen++[i]).Nodup:=by
    rw[List.nodup_append]
    exact⟨hnd,by simp,fun a ha b hb e=>by simp at hb;subst hb;exact hn (e▸ha)⟩
   have hlt':∀q∈seen++[i],q<8:=by
    intro q hq
    rcases List.mem_append.1 hq with hq|hq
    ·exact hlt q hq
    ·simp only[List.mem_singleton]at hq;subst hq;exact hi8
   have hsl:=A1 hnl hlt'
   have ho:Uz (seen++[i])=Uz seen++T0 s:=by rw[Zbu,hk]
   have hlt3:¬(((3:Nat):Int)<3):=by decide
   rw[h3]
   repeat'(first|(first|refine Stp.h ?_)<;>try simp only[Zc,simprocAttr,↓reduceIte,reduceCtorEq,implies_true,hlt3]|(with_reducible first|assumption|refine And.intro ?_ ?_)|(intro h;first|omega|exact tg h ‹_›|exact tg ‹_› h|skip))
   all_goals first|omega|skip
   exact⟨⟨seen++[i],hnl,hlt'⟩,(Ent.mk1 (id) (by simp[Zt,ho])),by simp only[List.length_append,List.length_cons,List.length_nil]at hsl ⊢;omega⟩
end Go.Proofs.YtddmlennnmpnhaaGreatDoor
namespace Go.Proofs.YtddmlennnmpnhaaGreatDoor
open Go Go.RowKit Vc
set_option linter.unusedVariables false
set_option linter.unusedSimpArgs false
theorem Bc:∀(l:List (List UInt8)) (w:List UInt8) (k:Nat),w∉l→Sh l w k= -1
 | [],_,_,_=>rfl
 |x::l,w,k,h=>by
  simp only[List.mem_cons,not_or]at h
  unfold Sh
  rw[if_neg (fun e=>h.1 e.symm)]
  exact Bc l w (k+1) h.2
theorem kindL_rng:∀(l:List (List UInt8)) (w:List UInt8) (k:Nat),Sh l w k= -1∨((k:Int)≤Sh l w k∧Sh l w k<(k+l.length:Nat))
 | [],_,_=>.inl rfl
 |x::l,w,k=>by
  unfold Sh
  split
  ·right;simp only[List.length_cons];omega
  ·rcases kindL_rng l w (k+1)with h|h
   ·exact .inl h
   ·right;simp only[List.length_cons];omega
theorem Zfz(w:List UInt8):kindS w= -1∨(0≤kindS w∧kindS w≤32):=by
 have:=kindL_rng Hc w 0
 have e:Hc.length=33:=rfl
 unfold kindS
 rw[e]at this
 omega
theorem Kq(c:UInt8):∀s:List UInt8,(upToS c s).1.length≤s.length∧(upToS c s).2.1.length≤s.length∧((upToS c s).2.2=true→(upToS c s).2.1.length+1≤s.length)
 | []=>by simp[upToS]
 |b::r=>by
  have ih:=Kq c r
  rw[Ge]
  split
  ·simp
  ·simp only[List.length_cons]
   omega
theorem Ug(s:List UInt8):(trimB s).length≤s.length:=by
 unfold trimB Lib.trimS Lib.trimLeftS Lib.trimRightS
 have h1:=(List.dropWhile_sublist (p:=fun b=>([32,9]:List UInt8).contains b) (l:=((s.reverse.dropWhile (fun b=>([32,9]:List UInt8).contains b)).reverse))).length_le
 have h2:=(List.dropWhile_sublist (p:=fun b=>([32,9]:List UInt8).contains b) (l:=s.reverse)).length_le
 simp only[List.length_reverse]at h1 h2
 exact Nat.le_trans h1 h2
def Gk(op:Int)(d s:Nat)(ps:List (List UInt8)):Except Int Ln:=match Q8 op ps with
 |.error e=>.error e
 |.ok (i,r,ps)=>if ps=[]then .ok ⟨[],⟨op,d,s,i⟩,r⟩else .error 5
def insS(op:Int)(d:Nat)(ps:List (List UInt8)):Except Int Ln:=match Oa (Qi op) ps with
 |.error e=>.error e
 |.ok (s,ps)=>Gk op d s ps
theorem Zeh(op:Int)(ps:List (List UInt8)):insV op ps=match Oa (Qh op) ps with
 |.error e=>.error e
 |.ok (d,ps)=>insS op d ps:=rfl
theorem A8(ps:List (List UInt8)):Oa false ps= .ok (0,ps):=rfl
theorem Ft:Oa true []= .error 5:=rfl
theorem Fu{p:List UInt8}{n:Nat}(h:Da p=some n)(ps:List (List UInt8)):Oa true (p::ps)= .ok (n,ps):=by
 simp[Oa,h]
theorem Fr{p:List UInt8}(h:Da p=none)(ps:List (List UInt8)):Oa true (p::ps)= .error 2:=by
 simp[Oa,h]
theorem Zjg{op:Int}(h:Ui op=false)(ps:List (List UInt8)):Q8 op ps= .ok (0,[],ps):=by simp[Q8,h]
theorem Zg6{op:Int}(h:Ui op=true):Q8 op []= .error 5:=by simp[Q8,h]
theorem Zg7{op:Int}(h:Ui op=true){p:List UInt8}{n:Nat}(hn:Mi p 65535=some n)(ps:List (List UInt8)):Q8 op (p::ps)= .ok (n,[],ps):=by simp[Q8,h,hn]
theorem Zg8{op:Int}(h:Ui op=true){p:List UInt8}(hn:Mi p 65535=none)(hr:Xk p=true∧U1 op=true)(ps:List (List UInt8)):Q8 op (p::ps)= .ok (0,p,ps):=by simp[Q8,h,hn,hr.1,hr.2]
theorem Zg5{op:Int}(h:Ui op=true){p:List UInt8}(hn:Mi p 65535=none)(hr:¬(Xk p=true∧U1 op=true))(ps:List (List UInt8)):Q8 op (p::ps)= .error 2:=by
 simp only[Q8,h,hn,hr,if_false];rfl
theorem P1(c:UInt8):∀(s:List UInt8),∀p∈splitS c s,p.length≤s.length
 | [],p,h=>by
   simp only[splitS,List.mem_singleton]at h
   subst h;simp
 |b::r,p,h=>by
  have ih:=P1 c r
  rw[O6]at h
  split at h
  ·rcases List.mem_cons.1 h with rfl|h
   ·simp
   ·have:=ih p h
    simp only[List.length_cons];omega
  ·split at h
   ·simp only[List.mem_singleton]at h
    subst h;simp
   ·rename_i q qs hq
    rcases List.mem_cons.1 h with rfl|h
    ·have:=ih q (by rw[hq];exact List.mem_cons_self ..)
     simp only[List.length_cons];omega
    ·have:=ih p (by rw[hq];exact List.mem_cons_of_mem _ h)
     simp only[List.length_cons];omega
theorem Zbw(rest:List UInt8):(∀p∈R8 rest,p.length≤rest.length)∧(R8 rest).length≤rest.length+1:=by
 have ht:=Ug rest
 unfold R8
 split
 ·simp
 ·refine⟨fun p hp=> ?_,?_⟩
  ·obtain⟨q,hq,rfl⟩:=List.mem_map.1 hp
   have h1:=P1 44 _ q hq
   have h2:=Ug q
   omega
  ·have h1:=Oo 44 (trimB rest)
   have h2:=List.count_le_length (a:=(44:UInt8)) (l:=trimB rest)
   rw[List.length_map,h1];omega
def lineT(s:List UInt8):Ln×Bool×Int:=match Ny s with
 |.error e=>(ln0,false,e)
 |.ok none=>(ln0,false,0)
 |.ok (some x)=>(x,true,0)
end Go.Proofs.YtddmlennnmpnhaaGreatDoor
namespace Go.Proofs.YtddmlennnmpnhaaGreatDoor
open Go Go.RowKit Vc
set_option linter.unusedVariables false
set_option linter.unusedSimpArgs false
attribute [local irreducible] T Za Zn Ent RdC RwC Yd Ze Zh
theorem Zho{s:List UInt8}{v:Nat}(h:Lib.decNat s=some v):Lib.atoi s=some (v:Int):=by
 obtain⟨hne,hd⟩:=Lib.decNat_some h
 cases s with
 |nil=>exact absurd rfl hne
 |cons b r=>
  obtain⟨d,hd0⟩:=Lib.digit_of_decFrom (b::r) 0 v hd 0 b rfl
  have hb:=Lib.digitVal_eq hd0
  have h45:(b==45)=false:=by rw[beq_eq_false_iff_ne];intro e;rw[e]at hb;simp at hb
  have h43:(b==43)=false:=by rw[beq_eq_false_iff_ne];intro e;rw[e]at hb;simp at hb
  unfold Lib.atoi
  simp only[h45,h43,Bool.false_eq_true,if_false,h,Option.map_some]
set_option maxHeartbeats 4000000 in
set_option maxRecDepth 100000 in
theorem Pr(G:Nat)(H:Nat→Option Obj){s:List UInt8}{v:Nat}(h:Hf s=some v)(most:Int):
 GCp G H Tryz.prog 114 [.a (.str s),.a (.int .i64 most)] [] 0 [] (.tup [.a (.int .i64 (v:Int)),.a (.bool (decide ((v:Int)≤most)))]) [] 0:=by
 have hlt:=numV_lt h
 unfold Hf at h
 split at h
 ·cases h
 rename_i hn
 simp only[not_or]at hn
 obtain⟨h1,h2,h3⟩:=hn
 have hne:decide (s=[])=false:=decide_eq_false h1
 have hT:=Ia G H s Iw (by omega) (by decide) (by decide)
 have ht:Lib.trimS s Iw=[]:=(Zd0 h1).2 ⟨v,h⟩
 rw[ht]at hT
 unfold Iw at hT
 have hA:=Zhb G H s (v:Int) (by omega) (Zho h)
 have h5:¬(5:Int)<s.length:=by omega
 refine Pb.fn.gcp (by simp) (by simp[Zu,Zw,Zv,Zj,Zf,Vc.S1.okN,At.okN,SV.okN,Res.okN,Res.outOk,Zo,Res.own,Value.oneCell']) fun w X fr hglob=> ?_
 by_cases h6:1<s.length
 ·have h7:(1:Int)<s.length:=by omega
  have h8:¬Wc s 0=48:=by
   intro e
   refine h3 ⟨h6,?_⟩
   unfold Wc at e
   have:(s.getD 0 0).toNat=48:=by omega
   exact UInt8.toNat_inj.1 this
  have h9:¬Wc s (0:Int).toNat=48:=h8
  repeat'(first|(first|refine Stp.h ?_|(refine Za.gcp hglob hT ?_ ?_;focus simp[Zb];done)|(refine Za.gcp hglob hA ?_ ?_;focus simp[Zb];done)|refine Ze.split ?_ ?_|refine Zh.no ?_)<;>try simp only[Zc,simprocAttr,↓reduceIte,reduceCtorEq,implies_true,hne,h5,h7,h8,h1,Int.ofNat_lt]|(with_reducible first|assumption|refine And.intro ?_ ?_)|(intro h;first|omega|exact tg h ‹_›|exact tg ‹_› h|skip))
  all_goals first|omega|(exfalso;exact h8 (by assumption))|(exfalso;simp_all;done)|skip
 ·have h7:¬(1:Int)<s.length:=by omega
  repeat'(first|(first|refine Stp.h ?_|(refine Za.gcp hglob hT ?_ ?_;focus simp[Zb];done)|(refine Za.gcp hglob hA ?_ ?_;focus simp[Zb];done)|refine Ze.split ?_ ?_|refine Zh.no ?_)<;>try simp only[Zc,simprocAttr,↓reduceIte,reduceCtorEq,implies_true,hne,h5,h7,h1,Int.ofNat_lt]|(with_reducible first|assumption|refine And.intro ?_ ?_)|(intro h;first|omega|exact tg h ‹_›|exact tg ‹_› h|skip))
  all_goals first|omega|skip
set_option maxHeartbeats 4000000 in
set_option maxRecDepth 100000 in
theorem Fi(G:Nat)(H:Nat→Option Obj){s:List UInt8}(h:Hf s=none)(most:Int)(hs:s.length≤9223372036854775807):
 GCp G H Tryz.prog 114 [.a (.str s),.a (.int .i64 most)] [] 0 [] (.tup [.a (.int .i64 0),.a (.bool false)]) [] 0:=by
 refine Pb.fn.gcp (by simp) (by simp[Zu,Zw,Zv,Zj,Zf,Vc.S1.okN,At.okN,SV.okN,Res.okN,Res.outOk,Zo,Res.own,Value.oneCell']) fun w X fr hglob=> ?_
 by_cases h1:s=[]
 ·have hne:decide (s=[])=true:=decide_eq_true h1
  repeat'(first|(first|refine Stp.h ?_|refine Ze.split ?_ ?_|refine Zh.no ?_)<;>try simp only[Zc,simprocAttr,↓reduceIte,reduceCtorEq,implies_true,hne,h1]|(with_reducible first|assumption|refine And.intro ?_ ?_)|(intro h;first|omega|exact tg h ‹_›|exact tg ‹_› h|skip))
  all_goals first|omega|(exfalso;simp_all;done)|skip
 have hne:decide (s=[])=false:=decide_eq_false h1
 by_cases h2:5<s.length
 ·have h5:(5:Int)<s.length:=by omega
  repeat'(first|(first|refine Stp.h ?_|refine Ze.split ?_ ?_|refine Zh.no ?_)<;>try simp only[Zc,simprocAttr,↓reduceIte,reduceCtorEq,implies_true,hne,h5,h1,Int.ofNat_lt]|(with_reducible first|assumption|refine And.intro ?_ ?_)|(intro h;first|omega|exact tg h ‹_›|exact tg ‹_› h|skip))
  all_goals first|omega|(exfalso;simp_all;done)|skip
 have h5:¬(5:Int)<s.length:=by omega
 have hT:=Ia G H s Iw hs (by decide) (by decide)
 have hda:=Zd0 h1
 generalize Lib.trimS s Iw=t at hT hda
 unfold Iw at hT
 by_cases ht:t=[]
 ·subst ht
  obtain⟨v,hv⟩:=hda.1 rfl
  have h3:1<s.length∧s.getD 0 0=48:=by
   unfold Hf at h
   split at h
   ·rename_i hn
    rcases hn with hn|hn|hn
    ·exact absurd hn h1
    ·exact absurd hn h2
    ·exact hn
   ·rw[hv]at h;cases h
  have h7:(1:Int)<s.length:=by omega
  have h8:Wc s 0=48:=by unfold Wc;rw[h3.2];rfl
  have h9:Wc s (0:Int).toNat=48:=h8
  repeat'(first|(first|refine Stp.h ?_|(refine Za.gcp hglob hT ?_ ?_;focus simp[Zb];done)|refine Ze.split ?_ ?_|refine Zh.no ?_)<;>try simp only[Zc,simprocAttr,↓reduceIte,reduceCtorEq,implies_true,hne,h5,h7,h9,h1,Int.ofNat_lt]|(with_reducible first|assumption|refine And.intro ?_ ?_)|(intro h;first|omega|exact tg h ‹_›|exact tg ‹_› h|skip))
  all_goals first|omega|(exfalso;simp_all;done)|skip
 ·have ht2:decide (t=[])=false:=decide_eq_false ht
  repeat'(first|(first|refine Stp.h ?_|(refine Za.gcp hglob hT ?_ ?_;focus simp[Zb];done)|refine Ze.split ?_ ?_|refine Zh.no ?_)<;>try simp only[Zc,simprocAttr,↓reduceIte,reduceCtorEq,implies_true,hne,h5,ht,ht2,h1,Int.ofNat_lt]|(with_reducible first|assumption|refine And.intro ?_ ?_)|(intro h;first|omega|exact tg h ‹_›|exact tg ‹_› h|skip))
  all_goals first|omega|(exfalso;simp_all;done)|skip
theorem Pw(t:List UInt8):Lib.hasPrefix (114::t) [114]=true∧Lib.trimPrefix (114::t) [114]=t:=by
 have h:Lib.hasPrefix (114::t) [114]=true:=by simp[Lib.hasPrefix]
 exact⟨h,by simp[Lib.trimPrefix,h]⟩
theorem Zgf{s:List UInt8}(h:∀t,s≠114::t):Lib.hasPrefix s [114]=false:=by
 cases s with
 |nil=>rfl
 |cons b t=>
  have:b≠114:=fun e=>h t (by rw[e])
  simp only[Lib.hasPrefix,List.isPrefixOf,Bool.and_eq_false_iff,beq_eq_false_iff_ne]
  exact .inl fun e=>this e.symm
set_option maxHeartbeats 4000000 in
set_option maxRecDepth 100000 in
theorem Lg(G:Nat)(H:Nat→Option Obj){s:List UInt8}{n:Nat}(h:Da s=some n):
 GCp G H Tryz.prog 113 [.a (.str s)] [] 0 [] (.tup [.a (.int .i64 (n:Int)),.a (.bool true)]) [] 0:=by
 obtain⟨t,rfl,hn⟩:∃t,s=114::t∧Mi t 7=some n:=by
  cases s with
  |nil=>cases h
  |cons b t=>
   have e:Da (b::t)=if b=114 then Mi t 7 else none:=rfl
   rw[e]at h
   by_cases hb:b=114
   ·rw[if_pos hb]at h;exact⟨t,by rw[hb],h⟩
   ·rw[if_neg hb]at h;cases h
 obtain⟨hv,h7⟩:Hf t=some n∧n≤7:=by
  unfold Mi at hn
  split at hn
  ·rename_i v hv
   split at hn
   ·cases hn;exact⟨hv,by assumption⟩
   ·cases hn
  ·cases hn
 have hP:=Qb G H (114::t) [114]
 rw[(Pw t).1,(Pw t).2]at hP
 have hN:=Pr G H hv 7
 rw[decide_eq_true (by omega)]at hN
 refine W5.fn.gcp (by simp) (by simp[Zu,Zw,Zv,Zj,Zf,Vc.S1.okN,At.okN,SV.okN,Res.okN,Res.outOk,Zo,Res.own,Value.oneCell']) fun w X fr hglob=> ?_
 repeat'(first|(first|refine Stp.h ?_|(refine Za.gcp hglob hP ?_ ?_;focus simp[Zb];done)|(refine Za.gcp hglob hN ?_ ?_;focus simp[Zb];done))<;>try simp only[Zc,simprocAttr,↓reduceIte,reduceCtorEq,implies_true]|(with_reducible first|assumption|refine And.intro ?_ ?_)|(intro h;first|omega|exact tg h ‹_›|exact tg ‹_› h|skip))
 all_goals first|omega|skip
set_option maxHeartbeats 4000000 in
set_option maxRecDepth 100000 in
theorem K7(G:Nat)(H:Nat→Option Obj){s:List UInt8}(h:Da s=none)(hs:s.length≤9223372036854775807):
 ∃m:Int,GCp G H Tryz.prog 113 [.a (.str s)] [] 0 [] (.tup [.a (.int .i64 m),.a (.bool false)]) [] 0:=by
 by_cases hp:∃t,s=114::t
 ·obtain⟨t,rfl⟩:=hp
  have hP:=Qb G H (114::t) [114]
  rw[(Pw t).1,(Pw t).2]at hP
  simp only[Da,if_true,Mi]at h
  cases hv:Hf t with
  |none=>
   have hN:=Fi G H hv 7 (by simp only[List.length_cons]at hs;omega)
   refine⟨0,W5.fn.gcp (by simp) (by simp[Zu,Zw,Zv,Zj,Zf,Vc.S1.okN,At.okN,SV.okN,Res.okN,Res.outOk,Zo,Res.own,Value.oneCell']) fun w X fr hglob=> ?_⟩
   repeat'(first|(first|refine Stp.h ?_|(refine Za.gcp hglob hP ?_ ?_;focus simp[Zb];done)|(refine Za.gcp hglob hN ?_ ?_;focus simp[Zb];done))<;>try simp only[Zc,simprocAttr,↓reduceIte,reduceCtorEq,implies_true]|(with_reducible first|assumption|refine And.intro ?_ ?_)|(intro h;first|omega|exact tg h ‹_›|exact tg ‹_› h|skip))
   all_goals first|omega|skip
  |some v=>
   rw[hv]at h
   have h7:¬v≤7:=by
    intro e
    simp[e]at h
   have hN:=Pr G H hv 7
   rw[decide_eq_false (by omega)]at hN
   refine⟨v,W5.fn.gcp (by simp) (by simp[Zu,Zw,Zv,Zj,Zf,Vc.S1.okN,At.okN,SV.okN,Res.okN,Res.outOk,Zo,Res.own,Value.oneCell']) fun w X fr hglob=> ?_⟩
   repeat'(first|(first|refine Stp.h ?_|(refine Za.gcp hglob hP ?_ ?_;focus simp[Zb];done)|(refine Za.gcp hglob hN ?_ ?_;focus simp[Zb];done))<;>try simp only[Zc,simprocAttr,↓reduceIte,reduceCtorEq,implies_true]|(with_reducible first|assumption|refine And.intro ?_ ?_)|(intro h;first|omega|exact tg h ‹_›|exact tg ‹_› h|skip))
   all_goals first|omega|skip
 ·have hP:=Qb G H s [114]
  rw[Zgf (fun t e=>hp ⟨t,e⟩)]at hP
  generalize Lib.trimPrefix s [114]=t at hP
  refine⟨0,W5.fn.gcp (by simp) (by simp[Zu,Zw,Zv,Zj,Zf,Vc.S1.okN,At.okN,SV.okN,Res.okN,Res.outOk,Zo,Res.own,Value.oneCell']) fun w X fr hglob=> ?_⟩
  repeat'(first|(first|refine Stp.h ?_|(refine Za.gcp hglob hP ?_ ?_;focus simp[Zb];done))<;>try simp only[Zc,simprocAttr,↓reduceIte,reduceCtorEq,implies_true]|(with_reducible first|assumption|refine And.intro ?_ ?_)|(intro h;first|omega|exact tg h ‹_›|exact tg ‹_› h|skip))
  all_goals first|omega|skip
def blk(b:UInt8):Prop:=b=32∨b=9
end Go.Proofs.YtddmlennnmpnhaaGreatDoor
namespace Go.Proofs.YtddmlennnmpnhaaGreatDoor
open Go Go.RowKit Vc
set_option linter.unusedVariables false
set_option linter.unusedSimpArgs false
attribute [local irreducible] T Za Zn RdC RwC Yd Ze Zh
theorem Ent.view{c:Cx}{S:St}{t m:Nat}(sz m0 lo hi:Nat){g:Prop}(ht:S.get t=some (.one (.a (.ref m))))(h:H5 S sz m=some (g,m0,lo,hi))(hg:g):
 Ent c S ⟨(t,.one (.a (.ref S.nx)))::S.slots,(S.nx,.view m0 sz lo hi)::S.res,S.nx+1⟩:=fun ρ a w hh=>by
 obtain⟨ad,len,cap,ad',g1,g2,g3,g4,g5,g6,g8,g9⟩:=H6 hh h hg
 refine⟨Z9 ρ S.nx (ρ m),hh.nodef,hh.sz,hh.lown,fun u v hu=> ?_,fun u v hu=> ?_,?_⟩
 ·rcases look_cons hu with⟨rfl,rfl⟩|⟨hne,hu'⟩
  ·rw[hh.slot _ _ ht];simp only[SV.den,S1.den,At.den,Zm]
  ·rw[SV.den_same (Zi ρ S.nx _) (hh.bds u v hu')];exact hh.slot u v hu'
 ·rcases look_cons hu with⟨rfl,rfl⟩|⟨hne,hu'⟩
  ·exact Nat.lt_succ_self _
  ·exact SV.bd_mono (Nat.le_succ _) (hh.bds u v hu')
 ·refine hh.mem.named (hh.mem.one m) (show m0<S.nx+1 by omega) rfl fun O' _=> ?_
  exact⟨ad,len,cap,ad',by rw[Zi ρ S.nx _ m0 g5];exact g1,by rw[Zm];exact g2,by omega,g9,g6⟩
attribute [local irreducible] Ent
set_option maxHeartbeats 2000000 in
theorem J7(l:List (List UInt8))(v:List UInt8)(hlen:l.length≤9223372036854775807):
 RdC Tryz.prog 102 [.ro .str l,.v (.a (.str v))] (.one (.a (.int .i64 (Sh l v 0)))):=by
 refine Wn.fn.rd (by simp) (by simp[Zz]) (by simp[Zz]) fun w=> ?_
 repeat'(first|(first|refine Stp.h ?_)<;>try simp only[Zc,simprocAttr,↓reduceIte,reduceCtorEq,implies_true]|(with_reducible first|assumption|refine And.intro ?_ ?_)|(intro h;first|omega|exact tg h ‹_›|exact tg ‹_› h|skip))
 refine T.loop (ι:= {k:Nat//k≤l.length∧Sh (l.drop k) v k=Sh l v 0})
  (fun x=>⟨[(8,.one (.a (.int .i64 (x.1:Int)))),(7,.one (.a (.int .i64 l.length))),(1,.one (.a (.str v))),(0,.one (.a (.ref 0)))],[(0,.ro .str l)],1⟩)
  (fun x=>l.length-x.1) ⟨0,by simp,by simp⟩ (Ent.mk1 (id) (by simp[Zt])) ?_
 rintro⟨k,hk,hrun⟩
 by_cases hlt:k<l.length
 ·have hdrop:l.drop k=l.getD k []::l.drop (k+1):=by
   rw[List.drop_eq_getElem_cons hlt];simp[List.getD,hlt]
  generalize hx:l.getD k []=x at hdrop
  have hx':l.getD k (Kd.dflt .str)=x:=hx
  rw[hdrop]at hrun
  simp only[Sh]at hrun
  have hw:IntKind.i64.wrap ((k:Int)+1)=((k+1:Nat):Int):=Zx (by omega)
  have ht:((k:Int)).toNat=k:=by omega
  by_cases hp:x=v
  ·rw[if_pos hp]at hrun
   have hpd:decide (v=x)=true:=decide_eq_true hp.symm
   repeat'(first|(first|refine Stp.h ?_)<;>try simp only[Zc,simprocAttr,↓reduceIte,reduceCtorEq,implies_true,hx',hw,ht,hpd,Int.ofNat_lt]|(with_reducible first|assumption|refine And.intro ?_ ?_)|(intro h;first|omega|exact tg h ‹_›|exact tg ‹_› h|skip))
   all_goals first|omega|(rw[←hrun];done)|skip
  ·rw[if_neg hp]at hrun
   have hpd:decide (v=x)=false:=decide_eq_false fun e=>hp e.symm
   repeat'(first|(first|refine Stp.h ?_)<;>try simp only[Zc,simprocAttr,↓reduceIte,reduceCtorEq,implies_true,hx',hw,ht,hpd,Int.ofNat_lt]|(with_reducible first|assumption|refine And.intro ?_ ?_)|(intro h;first|omega|exact tg h ‹_›|exact tg ‹_› h|skip))
   all_goals first|omega|exact⟨⟨k+1,hlt,hrun⟩,(Ent.mk1 (id) (by simp[Zt,hw])),by simp only;omega⟩|skip
 ·have hk2:k=l.length:=by omega
  subst hk2
  rw[List.drop_length]at hrun
  simp only[Sh]at hrun
  repeat'(first|(first|refine Stp.h ?_)<;>try simp only[Zc,simprocAttr,↓reduceIte,reduceCtorEq,implies_true,Int.ofNat_lt]|(with_reducible first|assumption|refine And.intro ?_ ?_)|(intro h;first|omega|exact tg h ‹_›|exact tg ‹_› h|skip))
  all_goals first|omega|(rw[←hrun];done)|skip
end Go.Proofs.YtddmlennnmpnhaaGreatDoor
namespace Go.Proofs.YtddmlennnmpnhaaGreatDoor
open Vc
namespace X7
abbrev r0:List In:=[i1 4 (.mv (kB false))]
abbrev r1:List In:=[mv 5 0,mv 6 1,i1 7 (.call 102 [.t 5,.t 6]),i1 8 (.bin .geq (.t 7) (kI 0)),mv 4 8]
abbrev code:IC:=.seq (.reg r0) (.seq (.reg r1) .ret)
abbrev res:List RV:=[.tmp 4]
theorem fn:Body Tryz.prog 76 9 code res:=⟨by decide,Tryz.f76,_,Tryz.func76,rfl,rfl,by kernel_rfl,by kernel_rfl⟩
end X7
end Go.Proofs.YtddmlennnmpnhaaGreatDoor
namespace Go.Proofs.YtddmlennnmpnhaaGreatDoor
open Go Go.RowKit Vc
set_option linter.unusedVariables false
set_option linter.unusedSimpArgs false
attribute [local irreducible] T Za Zn Ent RdC RwC Yd Ze Zh
set_option maxHeartbeats 1000000 in
set_option maxRecDepth 100000 in
theorem Jd(b g cap:Nat)(p q:Value)(l:List UInt8)(w:World)(hbk:w.heap[b]? =some (.cells #[p,.slice (some ⟨g,0,none⟩) l.length cap,q] 132 (0,0)))
 (hown:w.ownsRow 0 5 1 (.slice (some ⟨g,0,none⟩) l.length cap) l.length (Lib.byteCells l))(h0:l≠[]):
 Calls Tryz.prog 78 #[.pointer (some ⟨b,0,none⟩)] w fun e w'=>e= .returned (.string ⟨l.toArray⟩)∧w'=w.drew.freeze ⟨g,0,none⟩ l.length:=by
 have hl0:l.length≠0:=by simpa using h0
 obtain⟨cur,hg,hnc,hcm,hcs,htake⟩:∃cur,w.heap[g]? =some (.cells cur 5 (0,0))∧l.length≤cap∧cap≤maxLen∧cur.size=cap*1∧cur.toList.take (l.length*1)=Lib.byteCells l:=by
  rcases hown.2 with⟨hv,hz⟩|⟨g',cap',cur,hv,_,r⟩
  ·exact absurd hz hl0
  ·cases hv;exact⟨cur,r⟩
 have c1:w.drew.cell? ⟨b,1,none⟩=some (.slice (some ⟨g,0,none⟩) l.length cap):=by
  have:w.drew.heap[b]? =some (.cells #[p,.slice (some ⟨g,0,none⟩) l.length cap,q] 132 (0,0)):=hbk
  rw[Lib.cell_of_heap this];rfl
 have hSD:(Builtin.unsafeSliceData_ #[46] 166 #[.slice (some ⟨g,0,none⟩) l.length cap]).run Tryz.prog w.drew= .ok (.pointer (some ⟨g,0,none⟩)) w.drew:=
  Lib.run_unsafeSliceData_row _ _ _ _ _ _ (by omega)
 have hUS:(Builtin.unsafeString_ #[166,3] 9 #[.pointer (some ⟨g,0,none⟩),.int .i64 l.length]).run Tryz.prog w.drew= .ok (.string ⟨l.toArray⟩) (w.drew.freeze ⟨g,0,none⟩ l.length):=by
  refine Lib.run_unsafeString_row w.drew 166 3 9 5 Tryz.underlying166 (by kernel_rfl) g cur.size (by have hg':w.drew.heap[g]? =some (.cells cur 5 (0,0)):=hg;simp[World.shape?,hg']) l h0 (by omega) (by unfold maxLen at hcm;omega) ?_
  intro j x hx
  have:=hown.cells (g:=g) rfl j (.int .u8 x.toNat) (by simp[Lib.byteCells,hx])
  exact this
 go_enter Tryz.func78,Tryz.ntmps78
 go_wp2
 go_region
 all_goals(go_wp2;go_ret;exact⟨rfl,rfl⟩)
theorem Zhc(n:Int)(l:List UInt8)(hne:l≠[]):
 GC Tryz.prog 78 [.a (.loc 0 0)] [(0,.cells 132 [.loc 0 0,.ref 1,.int .i64 n]),(1,.row 5 (.int .u8) (bytesI l))] 2 [] (.one (.a (.str l))) [] 2:=by
 refine⟨(by simp[Zu,Zw,Zv,Zj,Zf,Vc.S1.okN,At.okN,SV.okN,Res.okN,Res.outOk,Zo,Res.own,Value.oneCell']),fun ρ w hm=> ?_⟩
 obtain⟨b,hb,hcell⟩:=hm.res 0 _ (List.mem_cons_self ..)
 have hown:=hm.res 1 _ (List.mem_cons_of_mem _ (List.mem_cons_self ..))
 simp only[Res.holds]at hown
 have h1:S1.den ρ (.a (.loc 0 0))= .pointer (some ⟨b,0,none⟩):=by simp[S1.den,At.den,Wk,hb]
 simp only[List.map_cons,List.map_nil,h1]
 have hbl:(bytesI l).length=l.length:=by simp[bytesI]
 rw[hbl,Pn]at hown
 have hsz:Kd.sz (.int .u8)=1:=rfl
 rw[hsz]at hown
 have hcl:w.heap[b]? =some (.cells #[Wk (ρ 0) 0,ρ 1,.int .i64 n] 132 (0,0)):=hcell
 have hnone:∀w':World,w'.os=w.os→w'.tape=w.tape→w'.output=w.output→w.heap.size≤w'.heap.size→(∀k,k<w.heap.size→k∉Zp ρ [(0,Res.cells 132 [.loc 0 0,.ref 1,.int .i64 n]),(1,.row 5 (.int .u8) (bytesI l))]→w'.heap[k]? =w.heap[k]?)→Mem ⟨Tryz.prog,w,Zp ρ [(0,Res.cells 132 [.loc 0 0,.ref 1,.int .i64 n]),(1,.row 5 (.int .u8) (bytesI l))],0,[]⟩ ρ [] 2 w':=
  fun w' a1 a2 a3 a4 a5=>⟨a1,a2,a3,a4,a5,hm.one,by simp,by simp,by simp,by simp[Zp],by simp[Zp]⟩
 cases l with
 |nil=>exact absurd rfl hne
 |cons x l=>
  have hown2:=hown
  rcases hown.2 with⟨_,hz⟩|⟨g,cap,cur,hv,r⟩
  ·simp at hz
  rw[hv]at hcl hown2
  refine(Jd b g cap _ _ (x::l) w hcl hown2 (by simp)).mono fun e w' ⟨he,hw⟩=>⟨ρ,by simp,he,?_⟩
  subst hw
  obtain⟨f1,f2,f3⟩:=C7 w.drew g (x::l).length
  refine hnone _ f1 f2 f3 (by rw[C8];exact Nat.le_refl _) fun k hk hko=> ?_
  rw[C5 k (fun e=>hko ?_)]
  ·rfl
  ·subst e
   simp[Zp,Res.block,hb,hv,Value.ownBlock]
set_option maxHeartbeats 4000000 in
theorem Zgh(n:Int)(x:List UInt8)(hx:x.length≤1000)(hsf:Lib.hasSuffix x [58]=true):
 GC Tryz.prog 77 [.a (.loc 0 0),.a (.ref 1)] [(0,.cells 132 [.raw (.pointer none),.raw (.slice none 0 0),.int .i64 n]),(1,.ro .str [x])] 2 [0] (.tup []) [(0,.cells 132 [.loc 0 0,.ref 2,.int .i64 n]),(2,.row 5 (.int .u8) (bytesI (x++[10])))] 3:=by
 have hS:=Mv x [58] (by omega)
 rw[hsf]at hS
 have hW:=N6 n (x++[10]) (by simp only[List.length_append,List.length_cons,List.length_nil];omega)
 refine T4.fn.gc (by simp) (by simp[Zu,Zw,Zv,Zj,Zf,Vc.S1.okN,At.okN,SV.okN,Res.okN,Res.outOk,Zo,Res.own,Value.oneCell']) fun w X fr=> ?_
 repeat'(first|(first|refine Stp.h ?_)<;>try simp only[Zc,simprocAttr,↓reduceIte,reduceCtorEq,implies_true]|(with_reducible first|assumption|refine And.intro ?_ ?_)|(intro h;first|omega|exact tg h ‹_›|exact tg ‹_› h|skip))
 all_goals first|omega|skip
 refine T.loop (ι:=Bool)
  (fun b=>match b with
    |false=>⟨[(8,.one (.a (.int .i64 0))),(7,.one (.a (.int .i64 1))),(6,.one (.a (.ref 1))),(0,.one (.a (.loc 0 0))),(1000000,.one (.a (.ref 0)))],
      [(0,.cells 132 [.raw (.pointer none),.raw (.slice none 0 0),.int .i64 n]),(1,.ro .str [x])],2⟩
    |true=>⟨[(8,.one (.a (.int .i64 1))),(7,.one (.a (.int .i64 1))),(6,.one (.a (.ref 1))),(0,.one (.a (.loc 0 0))),(1000000,.one (.a (.ref 0)))],
      [(0,.cells 132 [.loc 0 0,.ref 2,.int .i64 n]),(2,.row 5 (.int .u8) (bytesI (x++[10]))),(1,.ro .str [x])],3⟩) (fun b=>if b=true then 0 else 1) false (Ent.mk1 (id) (by simp[Zt])) ?_
 rintro(_|_)
 ·have hw:IntKind.i64.wrap (0+1)=1:=by decide
  have hx':[x].getD 0 (Kd.dflt .str)=x:=rfl
  repeat'(first|(first|refine Stp.h ?_|(refine Za.gc hS ?_ ?_;focus simp[Zb];done)|(refine Za.gc hW ?_ ?_;focus simp[Zb];done))<;>try simp only[Zc,simprocAttr,↓reduceIte,reduceCtorEq,implies_true,hx',hw,Int.toNat_zero,List.length_cons,List.length_nil]|(with_reducible first|assumption|refine And.intro ?_ ?_)|(intro h;first|omega|exact tg h ‹_›|exact tg ‹_› h|skip))
  all_goals first|omega|skip
  exact⟨true,(Ent.mk1 (id) (by simp[Zt,hw])),by decide⟩
 ·repeat'(first|(first|refine Stp.h ?_)<;>try simp only[Zc,simprocAttr,↓reduceIte,reduceCtorEq,implies_true,List.length_cons,List.length_nil]|(with_reducible first|assumption|refine And.intro ?_ ?_)|(intro h;first|omega|exact tg h ‹_›|exact tg ‹_› h|skip))
  all_goals first|omega|skip
theorem Zih(l:List (List UInt8))(v:List UInt8):decide (0≤Sh l v 0)=decide (v∈l):=by
 by_cases h:v∈l
 ·have:∀(l:List (List UInt8)) (k:Nat),v∈l→0≤Sh l v k:=by
   intro l
   induction l with
   |nil=>intro k h;cases h
   |cons x l ih=>
    intro k h
    unfold Sh
    by_cases e:x=v
    ·rw[if_pos e];omega
    ·rw[if_neg e]
     rcases List.mem_cons.1 h with h|h
     ·exact absurd h.symm e
     ·exact ih _ h
  rw[decide_eq_true (this l 0 h),decide_eq_true h]
 ·rw[Bc l v 0 h,decide_eq_false h];rfl
theorem Zfd(l:List (List UInt8))(v:List UInt8)(hlen:l.length≤9223372036854775807):
 RdC Tryz.prog 76 [.ro .str l,.v (.a (.str v))] (.one (.a (.bool (decide (v∈l))))):=by
 refine X7.fn.rd (by simp) (by simp[Zz]) (by simp[Zz]) fun w=> ?_
 have h1:=Zih l v
 repeat'(first|(first|refine Stp.h ?_|(refine rq (J7 l v hlen) ?_ ?_;focus simp[Zz];done))<;>try simp only[Zc,simprocAttr,↓reduceIte,reduceCtorEq,implies_true,h1]|(with_reducible first|assumption|refine And.intro ?_ ?_)|(intro h;first|omega|exact tg h ‹_›|exact tg ‹_› h|skip))
theorem Za9{G:Nat}{H:Nat→Option Obj}(hM:Yn G H)(hH:Z4 G H)(n:Nat)(hn:1≤n∧n≤100)(acc:List UInt8)(hb:acc.length+(Ix n).length≤100000):
 GCp G H Tryz.prog 90 [.a (.loc 0 0)] [(0,.cells 132 [.loc 0 0,.ref 1,.int .i64 (n:Int)]),(1,.row 5 (.int .u8) (bytesI (acc)))] 2 [0] (.tup []) [(0,.cells 132 [.loc 0 0,.ref 2,.int .i64 (n:Int)]),(2,.row 5 (.int .u8) (bytesI (acc++Ix n)))] 3:=by
 have hC:=Zhz hM hH n hn acc hb
 generalize acc++Ix n=z at*
 refine Pd.fn.gcp (by simp) (by simp[Zu,Zw,Zv,Zj,Zf,Vc.S1.okN,At.okN,SV.okN,Res.okN,Res.outOk,Zo,Res.own,Value.oneCell']) fun w X fr hglob=> ?_
 repeat'(first|(first|refine Stp.h ?_|(refine Za.gcp hglob hC ?_ ?_;focus simp[Zb];done))<;>try simp only[Zc,simprocAttr,↓reduceIte,reduceCtorEq,implies_true]|(with_reducible first|assumption|refine And.intro ?_ ?_)|(intro h;first|omega|exact tg h ‹_›|exact tg ‹_› h|skip))
 all_goals first|omega|skip
theorem Zba{G:Nat}{H:Nat→Option Obj}(hM:Yn G H)(hH:Z4 G H)(n:Nat)(hn:1≤n∧n≤100)(acc:List UInt8)(hb:acc.length+(Iy n).length≤100000):
 GCp G H Tryz.prog 92 [.a (.loc 0 0)] [(0,.cells 132 [.loc 0 0,.ref 1,.int .i64 (n:Int)]),(1,.row 5 (.int .u8) (bytesI (acc)))] 2 [0] (.tup []) [(0,.cells 132 [.loc 0 0,.ref 2,.int .i64 (n:Int)]),(2,.row 5 (.int .u8) (bytesI (acc++Iy n)))] 3:=by
 have hC:=Zh0 hM hH n hn acc hb
 generalize acc++Iy n=z at*
 refine Pe.fn.gcp (by simp) (by simp[Zu,Zw,Zv,Zj,Zf,Vc.S1.okN,At.okN,SV.okN,Res.okN,Res.outOk,Zo,Res.own,Value.oneCell']) fun w X fr hglob=> ?_
 repeat'(first|(first|refine Stp.h ?_|(refine Za.gcp hglob hC ?_ ?_;focus simp[Zb];done))<;>try simp only[Zc,simprocAttr,↓reduceIte,reduceCtorEq,implies_true]|(with_reducible first|assumption|refine And.intro ?_ ?_)|(intro h;first|omega|exact tg h ‹_›|exact tg ‹_› h|skip))
 all_goals first|omega|skip
theorem Zbb{G:Nat}{H:Nat→Option Obj}(hM:Yn G H)(hH:Z4 G H)(n:Nat)(hn:1≤n∧n≤100)(acc:List UInt8)(hb:acc.length+(Rq n).length≤100000):
 GCp G H Tryz.prog 93 [.a (.loc 0 0)] [(0,.cells 132 [.loc 0 0,.ref 1,.int .i64 (n:Int)]),(1,.row 5 (.int .u8) (bytesI (acc)))] 2 [0] (.tup []) [(0,.cells 132 [.loc 0 0,.ref 2,.int .i64 (n:Int)]),(2,.row 5 (.int .u8) (bytesI (acc++Rq n)))] 3:=by
 have hC:=A3 hM hH n hn acc hb
 generalize acc++Rq n=z at*
 refine Pf.fn.gcp (by simp) (by simp[Zu,Zw,Zv,Zj,Zf,Vc.S1.okN,At.okN,SV.okN,Res.okN,Res.outOk,Zo,Res.own,Value.oneCell']) fun w X fr hglob=> ?_
 repeat'(first|(first|refine Stp.h ?_|(refine Za.gcp hglob hC ?_ ?_;focus simp[Zb];done))<;>try simp only[Zc,simprocAttr,↓reduceIte,reduceCtorEq,implies_true]|(with_reducible first|assumption|refine And.intro ?_ ?_)|(intro h;first|omega|exact tg h ‹_›|exact tg ‹_› h|skip))
 all_goals first|omega|skip
theorem Zbc{G:Nat}{H:Nat→Option Obj}(hM:Yn G H)(hH:Z4 G H)(n:Nat)(hn:1≤n∧n≤100)(acc:List UInt8)(hb:acc.length+(Rr n).length≤100000):
 GCp G H Tryz.prog 95 [.a (.loc 0 0)] [(0,.cells 132 [.loc 0 0,.ref 1,.int .i64 (n:Int)]),(1,.row 5 (.int .u8) (bytesI (acc)))] 2 [0] (.tup []) [(0,.cells 132 [.loc 0 0,.ref 2,.int .i64 (n:Int)]),(2,.row 5 (.int .u8) (bytesI (acc++Rr n)))] 3:=by
 have hC:=A4 hM hH n hn acc hb
 generalize acc++Rr n=z at*
 refine Pg.fn.gcp (by simp) (by simp[Zu,Zw,Zv,Zj,Zf,Vc.S1.okN,At.okN,SV.okN,Res.okN,Res.outOk,Zo,Res.own,Value.oneCell']) fun w X fr hglob=> ?_
 repeat'(first|(first|refine Stp.h ?_|(refine Za.gcp hglob hC ?_ ?_;focus simp[Zb];done))<;>try simp only[Zc,simprocAttr,↓reduceIte,reduceCtorEq,implies_true]|(with_reducible first|assumption|refine And.intro ?_ ?_)|(intro h;first|omega|exact tg h ‹_›|exact tg ‹_› h|skip))
 all_goals first|omega|skip
theorem Zbd{G:Nat}{H:Nat→Option Obj}(hM:Yn G H)(hH:Z4 G H)(n:Nat)(hn:1≤n∧n≤100)(acc:List UInt8)(hb:acc.length+(Zc9 n).length≤100000):
 GCp G H Tryz.prog 96 [.a (.loc 0 0)] [(0,.cells 132 [.loc 0 0,.ref 1,.int .i64 (n:Int)]),(1,.row 5 (.int .u8) (bytesI (acc)))] 2 [0] (.tup []) [(0,.cells 132 [.loc 0 0,.ref 2,.int .i64 (n:Int)]),(2,.row 5 (.int .u8) (bytesI (acc++Zc9 n)))] 3:=by
 have hC:=shl_gcp hM hH n hn acc hb
 generalize acc++Zc9 n=z at*
 refine Ph.fn.gcp (by simp) (by simp[Zu,Zw,Zv,Zj,Zf,Vc.S1.okN,At.okN,SV.okN,Res.okN,Res.outOk,Zo,Res.own,Value.oneCell']) fun w X fr hglob=> ?_
 repeat'(first|(first|refine Stp.h ?_|(refine Za.gcp hglob hC ?_ ?_;focus simp[Zb];done))<;>try simp only[Zc,simprocAttr,↓reduceIte,reduceCtorEq,implies_true]|(with_reducible first|assumption|refine And.intro ?_ ?_)|(intro h;first|omega|exact tg h ‹_›|exact tg ‹_› h|skip))
 all_goals first|omega|skip
theorem Zbe{G:Nat}{H:Nat→Option Obj}(hM:Yn G H)(hH:Z4 G H)(n:Nat)(hn:1≤n∧n≤100)(acc:List UInt8)(hb:acc.length+(Zda n).length≤100000):
 GCp G H Tryz.prog 98 [.a (.loc 0 0)] [(0,.cells 132 [.loc 0 0,.ref 1,.int .i64 (n:Int)]),(1,.row 5 (.int .u8) (bytesI (acc)))] 2 [0] (.tup []) [(0,.cells 132 [.loc 0 0,.ref 2,.int .i64 (n:Int)]),(2,.row 5 (.int .u8) (bytesI (acc++Zda n)))] 3:=by
 have hC:=shr_gcp hM hH n hn acc hb
 generalize acc++Zda n=z at*
 refine Pi.fn.gcp (by simp) (by simp[Zu,Zw,Zv,Zj,Zf,Vc.S1.okN,At.okN,SV.okN,Res.okN,Res.outOk,Zo,Res.own,Value.oneCell']) fun w X fr hglob=> ?_
 repeat'(first|(first|refine Stp.h ?_|(refine Za.gcp hglob hC ?_ ?_;focus simp[Zb];done))<;>try simp only[Zc,simprocAttr,↓reduceIte,reduceCtorEq,implies_true]|(with_reducible first|assumption|refine And.intro ?_ ?_)|(intro h;first|omega|exact tg h ‹_›|exact tg ‹_› h|skip))
 all_goals first|omega|skip
theorem Zbf{G:Nat}{H:Nat→Option Obj}(hM:Yn G H)(hH:Z4 G H)(n:Nat)(hn:1≤n∧n≤100)(acc:List UInt8)(hb:acc.length+(Zc4 n).length≤100000):
 GCp G H Tryz.prog 99 [.a (.loc 0 0)] [(0,.cells 132 [.loc 0 0,.ref 1,.int .i64 (n:Int)]),(1,.row 5 (.int .u8) (bytesI (acc)))] 2 [0] (.tup []) [(0,.cells 132 [.loc 0 0,.ref 2,.int .i64 (n:Int)]),(2,.row 5 (.int .u8) (bytesI (acc++Zc4 n)))] 3:=by
 have hC:=sar_gcp hM hH n hn acc hb
 generalize acc++Zc4 n=z at*
 refine Pj.fn.gcp (by simp) (by simp[Zu,Zw,Zv,Zj,Zf,Vc.S1.okN,At.okN,SV.okN,Res.okN,Res.outOk,Zo,Res.own,Value.oneCell']) fun w X fr hglob=> ?_
 repeat'(first|(first|refine Stp.h ?_|(refine Za.gcp hglob hC ?_ ?_;focus simp[Zb];done))<;>try simp only[Zc,simprocAttr,↓reduceIte,reduceCtorEq,implies_true]|(with_reducible first|assumption|refine And.intro ?_ ?_)|(intro h;first|omega|exact tg h ‹_›|exact tg ‹_› h|skip))
 all_goals first|omega|skip
set_option maxHeartbeats 4000000 in
set_option maxRecDepth 100000 in
theorem Zhh{G:Nat}{H:Nat→Option Obj}(s:List UInt8)(f:Nat)(d:UInt8)(n:Nat)(nm hd body:List UInt8)(hnm:nm=s++[d])(hhd:hd=nm++[58]++[10])(hf:flk Ow s=some f)(hd1:IntKind.u8.wrap (((d.toNat:Nat):Int)-48)=(n:Int))(hn:n≤100)(hs:s.length≤10)(hin:nm∈V1)
 (hent:Xu Tryz.prog f=true)(hC:GCp G H Tryz.prog f [.a (.loc 0 0)] [(0,.cells 132 [.loc 0 0,.ref 1,.int .i64 (n:Int)]),(1,.row 5 (.int .u8) (bytesI (hd)))] 2 [0] (.tup []) [(0,.cells 132 [.loc 0 0,.ref 2,.int .i64 (n:Int)]),(2,.row 5 (.int .u8) (bytesI (hd++body)))] 3):
 GCp G H Tryz.prog 60 [.a (.str nm)] [] 0 [] (.tup [.a (.str (hd++body)),.a (.int .i64 0)]) [] 0:=by
 have hlen:nm.length=s.length+1:=by rw[hnm];simp
 have hCon:=Zfd V1 nm (by decide)
 rw[decide_eq_true hin]at hCon
 have hput:=Zgh (n:Int) (nm++[58]) (by simp only[List.length_append,List.length_cons,List.length_nil];omega) (by rw[hnm];simp[Lib.hasSuffix,List.isSuffixOf,List.isPrefixOf])
 rw[←hhd]at hput
 have hstr:=Zhc (n:Int) (hd++body) (by rw[hhd];simp)
 have hk:IntKind.i64.wrap ((nm.length:Int)-1)=(s.length:Int):=by rw[Zk (by omega) (by omega)];omega
 have hkt:((s.length:Int)).toNat=s.length:=by omega
 have htake:nm.take s.length=s:=by rw[hnm];simp
 have hget:Wc nm s.length=((d.toNat:Nat):Int):=by rw[hnm];simp[Wc]
 have hwn:IntKind.i64.wrap (n:Int)=(n:Int):=Zk (by omega) (by omega)
 generalize hd++body=tx at*
 refine Gq.fn.gcp (by simp) (by simp[Zu,Zw,Zv,Zj,Zf,Vc.S1.okN,At.okN,SV.okN,Res.okN,Res.outOk,Zo,Res.own,Value.oneCell']) fun w X fr hglob=> ?_
 repeat'(first|(first|refine Stp.h ?_|(refine Za.gc Dt ?_ ?_;focus simp[Zb];done)|(refine rq hCon ?_ ?_;focus simp[Zz];done)|(refine Za.gc hput ?_ ?_;focus simp[Zb];done)|(refine Za.gc Bd ?_ ?_;focus simp[Zb];done)|(refine Za.gcp hglob hC ?_ ?_;focus simp[Zb];done)|(refine Za.gc hstr ?_ ?_;focus simp[Zb];done))<;>try simp only[Zc,simprocAttr,↓reduceIte,reduceCtorEq,implies_true,hf,hk,hkt,htake,hget,hd1,hwn,hent,Int.toNat_zero,List.drop_zero,Bool.not_true,Bool.not_false]|(with_reducible first|assumption|refine And.intro ?_ ?_)|(intro h;first|omega|exact tg h ‹_›|exact tg ‹_› h|skip))
 all_goals first|omega|skip
def Zej:List (List UInt8):=[[109,117,108],[115,97,114],[115,100,105,118],[115,104,108],[115,104,114],[115,114,101,109],[117,100,105,118],[117,114,101,109]]
def Zei:List Nat:=[89,99,93,96,98,95,90,92]
def Ik:Nat→Nat→List UInt8
 |0,n=>mulS n
 |1,n=>Zc4 n
 |2,n=>Rq n
 |3,n=>Zc9 n
 |4,n=>Zda n
 |5,n=>Rr n
 |6,n=>Ix n
 |_,n=>Iy n
def O5:Nat→Nat
 |0=>1
 |1=>2
 |_=>4
def Ed:Nat→UInt8
 |0=>49
 |1=>50
 |_=>52
def nameAt(i:Nat):List UInt8:=V1.getD i []
def textAt(i:Nat):List UInt8:=(nameAt i++[58]++[10])++Ik (i/3) (O5 (i%3))
theorem name_of:∀k,k<8→∀j,j<3→nameAt (3*k+j)=Zej.getD k []++[Ed j]:=by decide+kernel
theorem flk_of:∀k,k<8→flk Ow (Zej.getD k [])=some (Zei.getD k 0):=by decide+kernel
theorem Zhp:∀k,k<8→∀j,j<3→(Ik k (O5 j)).length≤2000:=by decide+kernel
theorem name_in:∀k,k<8→∀j,j<3→nameAt (3*k+j)∈V1:=by decide+kernel
theorem Zfy:∀k,k<8→(Zej.getD k []).length≤10:=by decide+kernel
theorem Zjh:∀k,k<8→∀j,j<3→(3*k+j)/3=k∧(3*k+j)%3=j:=by omega
theorem Zhw:∀j,j<3→IntKind.u8.wrap (((Ed j).toNat:Int)-48)=(O5 j:Int)∧1≤O5 j∧O5 j≤100:=by decide+kernel
theorem Zin:∀i,i<24→(nameAt i).length≤5:=by decide+kernel
theorem Ub{G:Nat}{H:Nat→Option Obj}(k:Nat)(hk:k<8)(hent:Xu Tryz.prog (Zei.getD k 0)=true)
 (hC:∀n:Nat,1≤n∧n≤100→∀acc:List UInt8,acc.length+(Ik k n).length≤100000→
   GCp G H Tryz.prog (Zei.getD k 0) [.a (.loc 0 0)] [(0,.cells 132 [.loc 0 0,.ref 1,.int .i64 (n:Int)]),(1,.row 5 (.int .u8) (bytesI acc))] 2 [0] (.tup []) [(0,.cells 132 [.loc 0 0,.ref 2,.int .i64 (n:Int)]),(2,.row 5 (.int .u8) (bytesI (acc++Ik k n)))] 3)(j:Nat)(hj:j<3):
 GCp G H Tryz.prog 60 [.a (.str (nameAt (3*k+j)))] [] 0 [] (.tup [.a (.str (textAt (3*k+j))),.a (.int .i64 0)]) [] 0:=by
 have hnl:=Zin (3*k+j) (by omega)
 obtain⟨h1,h2⟩:=Zjh k hk j hj
 obtain⟨h3,h4,h5⟩:=Zhw j hj
 unfold textAt
 rw[h1,h2]
 exact Zhh (Zej.getD k []) (Zei.getD k 0) (Ed j) (O5 j) (nameAt (3*k+j)) (nameAt (3*k+j)++[58]++[10]) (Ik k (O5 j)) (name_of k hk j hj) rfl (flk_of k hk) h3 h5 (Zfy k hk) (name_in k hk j hj) hent
  (hC (O5 j) ⟨h4,h5⟩ _ (by have:=Zhp k hk j hj;simp only[List.length_append,List.length_cons,List.length_nil];omega))
theorem Zhg{G:Nat}{H:Nat→Option Obj}(hM:Yn G H)(hH:Z4 G H)(i:Nat)(hi:i<24):
 GCp G H Tryz.prog 60 [.a (.str (nameAt i))] [] 0 [] (.tup [.a (.str (textAt i)),.a (.int .i64 0)]) [] 0:=by
 have e:i=3*(i/3)+i%3:=by omega
 have hj:i%3<3:=by omega
 have hk:i/3=0∨i/3=1∨i/3=2∨i/3=3∨i/3=4∨i/3=5∨i/3=6∨i/3=7:=by omega
 rw[e]
 generalize i%3=j at hj
 generalize i/3=k at hk
 clear e hi
 rcases hk with rfl|rfl|rfl|rfl|rfl|rfl|rfl|rfl
 ·exact Ub 0 (by decide) T3.enters (fun n hn acc hb=>mul_gcp hM hH n hn acc hb) j hj
 ·exact Ub 1 (by decide) Pj.enters (fun n hn acc hb=>Zbf hM hH n hn acc hb) j hj
 ·exact Ub 2 (by decide) Pf.enters (fun n hn acc hb=>Zbb hM hH n hn acc hb) j hj
 ·exact Ub 3 (by decide) Ph.enters (fun n hn acc hb=>Zbd hM hH n hn acc hb) j hj
 ·exact Ub 4 (by decide) Pi.enters (fun n hn acc hb=>Zbe hM hH n hn acc hb) j hj
 ·exact Ub 5 (by decide) Pg.enters (fun n hn acc hb=>Zbc hM hH n hn acc hb) j hj
 ·exact Ub 6 (by decide) Pd.enters (fun n hn acc hb=>Za9 hM hH n hn acc hb) j hj
 ·exact Ub 7 (by decide) Pe.enters (fun n hn acc hb=>Zba hM hH n hn acc hb) j hj
def linesAt(i:Nat):List Ln:=(K6 (textAt i)).1
theorem Aa:∀i,i<24→(K6 (textAt i)).2=(0,0)∧(textAt i).length≤2000∧(linesAt i).length≤100:=by decide+kernel
def unitsTo(i:Nat):List (List UInt8×List Ln):=(List.range i).map fun k=>(nameAt k,linesAt k)
theorem Di(i:Nat):unitsTo (i+1)=unitsTo i++[(nameAt i,linesAt i)]:=by simp[unitsTo,List.range_succ]
theorem Nb(i:Nat):(unitsTo i).length=i:=by simp[unitsTo]
end Go.Proofs.YtddmlennnmpnhaaGreatDoor
