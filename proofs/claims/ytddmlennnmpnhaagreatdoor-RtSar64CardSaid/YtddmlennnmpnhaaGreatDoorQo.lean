/- A part of the proofs of this seat's laws: steps on the way, joined. It has no conditions of its own. -/
import Derived.Test.YtddmlennnmpnhaaGreatDoorQh
import Derived.Test.YtddmlennnmpnhaaGreatDoorChecked
import Derived.KernelRfl
import Derived.Test.YtddmlennnmpnhaaGreatDoorQi
import Derived.Lib.Builder
import Derived.Lib.UnsafeStr
import Derived.Lib.Walk
import Derived.WalkKit
import Derived.Laws.Externs
import Derived.Shelf.Strings.Builder1
import Derived.Shelf.Strings.Builder2
import Derived.Shelf.Strings.Trim
import Derived.Shelf.Small.Utf8
import Derived.Shelf.Small.Strs
import Derived.Shelf.Small.Wraps
import Derived.Shelf.Strconv.Atoi
import Derived.Shelf.Strconv.Itoa0
import Derived.Shelf.Strconv.Itoa1
import Derived.Shelf.LaysM
import Derived.Shelf.Strconv.Itoa2
import Derived.Shelf.Strconv.Itoa3
import Derived.Shelf.Strings.Search1
import Derived.Shelf.Strings.Search2
import Derived.Shelf.Strings.Search3
import Derived.Shelf.Strings.Cut
import Derived.Shelf.Strings.Count
import Derived.Shelf.Strings.Shaped
import Derived.Shelf.Sort.Plain
import Derived.Shelf.Strings.Prefix
import Derived.Shelf.Strings.Split
import Derived.Shelf.Strings.Replace
import Derived.Shelf.Strings.Runes
import Derived.Shelf.Strings.AsciiSet
import Derived.Shelf.Unicode.DecodeSlow
import Derived.Shelf.Slices.In.SortNone
import Derived.Test.YtddmlennnmpnhaaGreatDoorProg
import Derived.Lib.AppendIntMem
namespace Go.Proofs.YtddmlennnmpnhaaGreatDoor
open Vc
namespace Xe
abbrev r0:List In:=[i1 4 (.mv (kI 0)),i1 5 (.mv (.k (.a (.raw .nilIface))))]
abbrev r1:List In:=[mv 6 0,i1 7 (.call 149 [.t 6])]
abbrev r2:List In:=[mv 8 0,mv 9 0,i1 10 (.nchk (.t 9)),i1 11 (.faddr 1 (.t 10)),i1 12 (.load 1 false (.t 11)),mv 13 1,i1 14 (.apps 46 5 (.t 12) (.t 13)),i1 15 (.nchk (.t 8)),i1 16 (.faddr 1 (.t 15)),i0 (.store 1 (.t 16) (.t 14))]
abbrev r3:List In:=[mv 17 1,i1 18 (.slen (.t 17)),mv 4 18,i1 5 (.mv (.k (.a (.raw .nilIface))))]
abbrev code:IC:=.seq (.reg r0) (.seq (.reg r1) (.seq (.reg r2) (.seq (.reg r3) .ret)))
abbrev res:List RV:=[.tmp 4,.tmp 5]
theorem fn:Body Tryz.prog 105 19 code res:=⟨by decide,Tryz.f105,_,Tryz.func105,rfl,rfl,by kernel_rfl,by kernel_rfl⟩
end Xe
namespace W0
abbrev r0:List In:=[i1 4 (.mv (.k (.a (.raw .nilIface))))]
abbrev r1:List In:=[mv 5 0,i1 6 (.call 149 [.t 5])]
abbrev r2:List In:=[mv 7 0,mv 8 0,i1 9 (.nchk (.t 8)),i1 10 (.faddr 1 (.t 9)),i1 11 (.load 1 false (.t 10)),mv 12 1,i1 13 (.bsl 5 1 1 [.int .u8 0] [(0,1,(.t 12))]),i1 14 (.app 46 5 1 1 (.t 11) (.t 13)),i1 15 (.nchk (.t 7)),i1 16 (.faddr 1 (.t 15)),i0 (.store 1 (.t 16) (.t 14))]
abbrev r3:List In:=[i1 4 (.mv (.k (.a (.raw .nilIface))))]
abbrev code:IC:=.seq (.reg r0) (.seq (.reg r1) (.seq (.reg r2) (.seq (.reg r3) .ret)))
abbrev res:List RV:=[.tmp 4]
theorem fn:Body Tryz.prog 104 17 code res:=⟨by decide,Tryz.f104,_,Tryz.func104,rfl,rfl,by kernel_rfl,by kernel_rfl⟩
end W0
end Go.Proofs.YtddmlennnmpnhaaGreatDoor
namespace Go.Proofs.YtddmlennnmpnhaaGreatDoor
open Go Go.RowKit
set_option linter.unusedVariables false
set_option linter.unusedSimpArgs false
set_option maxHeartbeats 1000000 in
set_option maxRecDepth 100000 in
theorem Iu(b:Nat)(w:World)(h0:w.cell? ⟨b,0,none⟩=some (.pointer (some ⟨b,0,none⟩))):
 Calls Tryz.prog 149 #[.pointer (some ⟨b,0,none⟩)] w fun e w'=>e= .returned (.tuple #[])∧w'=w:=by
 obtain⟨j,hj,hjs⟩:∃j,Tryz.prog.info? 130=some j∧j.size=2:=Option.map_eq_some_iff.1 (by kernel_rfl:(Tryz.prog.info? 130).map (·.size)=some 2)
 go_enter Tryz.func149,Tryz.ntmps149
 go_wp2
 rw[Lib.run_neq_ptr_same w _ Tryz.underlying128 hj]
 go_wp2
 go_end0
 exact⟨rfl,rfl⟩
end Go.Proofs.YtddmlennnmpnhaaGreatDoor
namespace Go.Proofs
open Go.Shelf
def Tryz.laysM171_ren:Go.Shelf.Ren:=⟨fun|171=>168|243=>188|246=>204|283=>213|284=>214|285=>215|286=>216|129=>147|317=>219|318=>220|319=>221|320=>222|337=>223|338=>224|n=>n,fun|3=>3|9=>9|2=>2|4=>4|171=>255|0=>0|53=>22|37=>46|5=>5|173=>257|212=>264|51=>90|20=>20|213=>265|46=>57|232=>266|233=>267|n=>n,fun|17=>5|18=>6|19=>7|n=>n⟩
theorem Tryz.laysM171:Go.Proofs.LaysM.n171 Tryz.prog Tryz.laysM171_ren:= {
 mixed:=by kernel_rfl
 f129:=Tryz.func147.trans (congrArg some (by kernel_rfl))
 f171:=Tryz.func168.trans (congrArg some (by kernel_rfl))
 f243:=Tryz.func188.trans (congrArg some (by kernel_rfl))
 f246:=Tryz.func204.trans (congrArg some (by kernel_rfl))
 f283:=Tryz.func213.trans (congrArg some (by kernel_rfl))
 f284:=Tryz.func214.trans (congrArg some (by kernel_rfl))
 f285:=Tryz.func215.trans (congrArg some (by kernel_rfl))
 f286:=Tryz.func216.trans (congrArg some (by kernel_rfl))
 f317:=Tryz.func219.trans (congrArg some (by kernel_rfl))
 f318:=Tryz.func220.trans (congrArg some (by kernel_rfl))
 f319:=Tryz.func221.trans (congrArg some (by kernel_rfl))
 f320:=Tryz.func222.trans (congrArg some (by kernel_rfl))
 f337:=Tryz.func223.trans (congrArg some (by kernel_rfl))
 f338:=Tryz.func224.trans (congrArg some (by kernel_rfl))
 t0:=Tryz.underlying0
 a0:=Tryz.isAgg0
 z0:=Tryz.sizeOf0
 v0:=Tryz.zeroValue0
 t2:=Tryz.underlying2
 a2:=Tryz.isAgg2
 z2:=Tryz.sizeOf2
 v2:=Tryz.zeroValue2
 t3:=Tryz.underlying3
 a3:=Tryz.isAgg3
 z3:=Tryz.sizeOf3
 v3:=Tryz.zeroValue3
 t4:=Tryz.underlying4
 a4:=Tryz.isAgg4
 z4:=Tryz.sizeOf4
 v4:=Tryz.zeroValue4
 t5:=Tryz.underlying5
 a5:=Tryz.isAgg5
 z5:=Tryz.sizeOf5
 v5:=Tryz.zeroValue5
 t9:=Tryz.underlying9
 a9:=Tryz.isAgg9
 z9:=Tryz.sizeOf9
 v9:=Tryz.zeroValue9
 t20:=Tryz.underlying20
 a20:=Tryz.isAgg20
 z20:=Tryz.sizeOf20
 v20:=Tryz.zeroValue20
 t37:=Tryz.underlying46
 a37:=Tryz.isAgg46
 z37:=Tryz.sizeOf46
 v37:=Tryz.zeroValue46
 t46:=Tryz.underlying57
 a46:=Tryz.isAgg57
 z46:=Tryz.sizeOf57
 v46:=Tryz.zeroValue57
 t51:=Tryz.underlying90
 a51:=Tryz.isAgg90
 z51:=Tryz.sizeOf90
 v51:=Tryz.zeroValue90
 t53:=Tryz.underlying22
 a53:=Tryz.isAgg22
 z53:=Tryz.sizeOf22
 v53:=Tryz.zeroValue22
 t171:=Tryz.underlying255
 a171:=Tryz.isAgg255
 z171:=Tryz.sizeOf255
 v171:=Tryz.zeroValue255
 t173:=Tryz.underlying257
 a173:=Tryz.isAgg257
 z173:=Tryz.sizeOf257
 v173:=Tryz.zeroValue257
 t212:=Tryz.underlying264
 a212:=Tryz.isAgg264
 z212:=Tryz.sizeOf264
 v212:=Tryz.zeroValue264
 t213:=Tryz.underlying265
 a213:=Tryz.isAgg265
 z213:=Tryz.sizeOf265
 t232:=Tryz.underlying266
 a232:=Tryz.isAgg266
 z232:=Tryz.sizeOf266
 v232:=Tryz.zeroValue266
 t233:=Tryz.underlying267
 a233:=Tryz.isAgg267
 z233:=Tryz.sizeOf267
 v233:=Tryz.zeroValue267
 g17:=by kernel_rfl
 g18:=by kernel_rfl
 g19:=by kernel_rfl
 i0:=by kernel_rfl
 i2:=by kernel_rfl
 i3:=by kernel_rfl
 i4:=by kernel_rfl
 i5:=by kernel_rfl
 i9:=by kernel_rfl
 i20:=by kernel_rfl
 i37:=by kernel_rfl
 i46:=by kernel_rfl
 i51:=by kernel_rfl
 i53:=by kernel_rfl
 i171:=by kernel_rfl
 i173:=by kernel_rfl
 i212:=by kernel_rfl
 i232:=by kernel_rfl
 i233:=by kernel_rfl
 m17:=by kernel_rfl
 m18:=by kernel_rfl
 m19:=by kernel_rfl}
open Go.RowKit Go.Sort Go.Lib in
theorem Tryz.strconv_Itoa(n:Int)(h0: -9223372036854775808≤n)(h1:n≤9223372036854775807)(w:World)(htab:Lib.TabIs Tryz.prog w "internal/strconv.uint64pow10" .u64 Lib.pow10Tab):
 Calls Tryz.prog 168 #[.int .i64 n] w fun e w'=>e= .returned (.string ⟨(Lib.itoa n).toArray⟩)∧∃k os,w'=grow (w.drewN k) os:=Any.strconv_Itoa Tryz.laysM171 n h0 h1 w htab
def Tryz.lays100_ren:Go.Shelf.Ren:=⟨fun|100=>103|207=>148|n=>n,fun|9=>9|4=>4|3=>3|n=>n,fun|n=>n⟩
theorem Tryz.lays100:Go.Proofs.Lays.n100 Tryz.prog Tryz.lays100_ren:= {
 mixed:=by kernel_rfl
 f100:=Tryz.func103.trans (congrArg some (by kernel_rfl))
 f207:=Tryz.func148.trans (congrArg some (by kernel_rfl))
 t3:=Tryz.underlying3
 a3:=Tryz.isAgg3
 z3:=Tryz.sizeOf3
 v3:=Tryz.zeroValue3
 t4:=Tryz.underlying4
 a4:=Tryz.isAgg4
 z4:=Tryz.sizeOf4
 v4:=Tryz.zeroValue4
 t9:=Tryz.underlying9
 a9:=Tryz.isAgg9
 z9:=Tryz.sizeOf9
 v9:=Tryz.zeroValue9}
open Go.RowKit Go.Lib in
theorem Tryz.strings_HasSuffix(s p:ByteArray)(w:World)(hs:s.size≤9223372036854775807):
 Calls Tryz.prog 103 #[.string s,.string p] w fun e w'=>e= .returned (.bool (Lib.hasSuffix s.data.toList p.data.toList))∧w'=w:=Any.strings_HasSuffix Tryz.lays100 s p w hs
def Tryz.lays154_ren:Go.Shelf.Ren:=⟨fun|154=>167|138=>151|165=>187|143=>152|166=>105|197=>178|169=>78|195=>177|218=>179|240=>149|241=>203|219=>180|260=>190|276=>176|277=>212|217=>191|225=>192|224=>193|267=>194|266=>205|314=>206|n=>n,fun|9=>9|3=>3|4=>4|72=>130|0=>0|76=>164|105=>224|21=>21|5=>5|70=>128|20=>20|37=>46|75=>162|127=>166|164=>221|46=>57|119=>241|139=>244|138=>243|146=>245|51=>90|80=>135|n=>n,fun|1=>0|3=>1|4=>2|n=>n⟩
theorem Tryz.lays154:Go.Proofs.Lays.n154 Tryz.prog Tryz.lays154_ren:= {
 mixed:=by kernel_rfl
 f138:=Tryz.func151.trans (congrArg some (by kernel_rfl))
 f143:=Tryz.func152.trans (congrArg some (by kernel_rfl))
 f154:=Tryz.func167.trans (congrArg some (by kernel_rfl))
 f165:=Tryz.func187.trans (congrArg some (by kernel_rfl))
 f166:=Tryz.func105.trans (congrArg some (by kernel_rfl))
 f169:=Tryz.func78.trans (congrArg some (by kernel_rfl))
 f195:=Tryz.func177.trans (congrArg some (by kernel_rfl))
 f197:=Tryz.func178.trans (congrArg some (by kernel_rfl))
 f217:=Tryz.func191.trans (congrArg some (by kernel_rfl))
 f218:=Tryz.func179.trans (congrArg some (by kernel_rfl))
 f219:=Tryz.func180.trans (congrArg some (by kernel_rfl))
 f224:=Tryz.func193.trans (congrArg some (by kernel_rfl))
 f225:=Tryz.func192.trans (congrArg some (by kernel_rfl))
 f240:=Tryz.func149.trans (congrArg some (by kernel_rfl))
 f241:=Tryz.func203.trans (congrArg some (by kernel_rfl))
 f260:=Tryz.func190.trans (congrArg some (by kernel_rfl))
 f266:=Tryz.func205.trans (congrArg some (by kernel_rfl))
 f267:=Tryz.func194.trans (congrArg some (by kernel_rfl))
 f276:=Tryz.func176.trans (congrArg some (by kernel_rfl))
 f277:=Tryz.func212.trans (congrArg some (by kernel_rfl))
 f314:=Tryz.func206.trans (congrArg some (by kernel_rfl))
 t0:=Tryz.underlying0
 a0:=Tryz.isAgg0
 z0:=Tryz.sizeOf0
 v0:=Tryz.zeroValue0
 t3:=Tryz.underlying3
 a3:=Tryz.isAgg3
 z3:=Tryz.sizeOf3
 v3:=Tryz.zeroValue3
 t4:=Tryz.underlying4
 a4:=Tryz.isAgg4
 z4:=Tryz.sizeOf4
 v4:=Tryz.zeroValue4
 t5:=Tryz.underlying5
 a5:=Tryz.isAgg5
 z5:=Tryz.sizeOf5
 v5:=Tryz.zeroValue5
 t9:=Tryz.underlying9
 a9:=Tryz.isAgg9
 z9:=Tryz.sizeOf9
 v9:=Tryz.zeroValue9
 t20:=Tryz.underlying20
 a20:=Tryz.isAgg20
 z20:=Tryz.sizeOf20
 v20:=Tryz.zeroValue20
 t21:=Tryz.underlying21
 a21:=Tryz.isAgg21
 z21:=Tryz.sizeOf21
 v21:=Tryz.zeroValue21
 t37:=Tryz.underlying46
 a37:=Tryz.isAgg46
 z37:=Tryz.sizeOf46
 v37:=Tryz.zeroValue46
 t46:=Tryz.underlying57
 a46:=Tryz.isAgg57
 z46:=Tryz.sizeOf57
 v46:=Tryz.zeroValue57
 t51:=Tryz.underlying90
 a51:=Tryz.isAgg90
 z51:=Tryz.sizeOf90
 v51:=Tryz.zeroValue90
 t70:=Tryz.underlying128
 a70:=Tryz.isAgg128
 z70:=Tryz.sizeOf128
 v70:=Tryz.zeroValue128
 t72:=Tryz.underlying130
 a72:=Tryz.isAgg130
 z72:=Tryz.sizeOf130
 v72:=Tryz.zeroValue130
 t75:=Tryz.underlying162
 a75:=Tryz.isAgg162
 z75:=Tryz.sizeOf162
 v75:=Tryz.zeroValue162
 t76:=Tryz.underlying164
 a76:=Tryz.isAgg164
 z76:=Tryz.sizeOf164
 v76:=Tryz.zeroValue164
 t105:=Tryz.underlying224
 a105:=Tryz.isAgg224
 z105:=Tryz.sizeOf224
 v105:=Tryz.zeroValue224
 t119:=Tryz.underlying241
 a119:=Tryz.isAgg241
 z119:=Tryz.sizeOf241
 t127:=Tryz.underlying166
 a127:=Tryz.isAgg166
 z127:=Tryz.sizeOf166
 v127:=Tryz.zeroValue166
 t138:=Tryz.underlying243
 a138:=Tryz.isAgg243
 z138:=Tryz.sizeOf243
 v138:=Tryz.zeroValue243
 t139:=Tryz.underlying244
 a139:=Tryz.isAgg244
 z139:=Tryz.sizeOf244
 v139:=Tryz.zeroValue244
 t146:=Tryz.underlying245
 a146:=Tryz.isAgg245
 z146:=Tryz.sizeOf245
 v146:=Tryz.zeroValue245
 t164:=Tryz.underlying221
 a164:=Tryz.isAgg221
 z164:=Tryz.sizeOf221
 v164:=Tryz.zeroValue221
 g1:=by kernel_rfl
 g3:=by kernel_rfl
 g4:=by kernel_rfl}
theorem Tryz.Builder_Extra_154:Builder.Extra Tryz.prog Tryz.lays154_ren:= {
 sizeBuilder:=by kernel_rfl
 liesBuilder:=by kernel_rfl
 t5:=Tryz.underlying5
 a5:=Tryz.isAgg5
 z5:=Tryz.sizeOf5
 v5:=Tryz.zeroValue5
 infoByte:=by kernel_rfl
 cellsByte:=by kernel_rfl
 sizeByte:=by kernel_rfl
 neB5:=by decide}
open Go.RowKit Go.Lib in
theorem Tryz.strings_Replace(s old new:ByteArray)(n:Int)(m:Int)(w:World)(hs:s.size<4294967281)(hm:w.cell? ⟨0,0,none⟩=some (.int .i64 m))(h1:1≤old.size)(hlen:s.size+Lib.countB s old*new.size≤140737488355328):
 Calls Tryz.prog 167 #[.string s,.string old,.string new,.int .i64 n] w fun e w'=>
  e= .returned (.string ⟨(Lib.replace s.data.toList old.data.toList new.data.toList n).toArray⟩)∧Below w.heap.size w w':=Any.strings_Replace Tryz.lays154 Tryz.Builder_Extra_154 s old new n m w hs hm h1 hlen
end Go.Proofs
namespace Go.Proofs.YtddmlennnmpnhaaGreatDoor
open Go Go.RowKit Vc
set_option linter.unusedVariables false
set_option linter.unusedSimpArgs false
attribute [local irreducible] T Za Zn Ent RdC RwC Yd Ze Zh
abbrev Bytes:Type:=List (Kd.ty (.int .u8))
theorem Zav(a b:List UInt8):bytesI a++bytesI b=bytesI (a++b):=by simp[bytesI]
theorem Im(a:List UInt8):(bytesI a).length=a.length:=by simp[bytesI]
theorem Ce(a:List UInt8)(c:UInt8):bytesI a++[((c.toNat:Nat):Int)]=bytesI (a++[c]):=by simp[bytesI]
@[reducible] def Z4(G:Nat)(H:Nat→Option Obj):Prop:=∀w X,Wb G H w X→Lib.TabIs Tryz.prog w "internal/strconv.uint64pow10" .u64 Lib.pow10Tab
theorem Zhd(G:Nat)(H:Nat→Option Obj)(hH:Z4 G H)(n:Int)(h0:0≤n)(h1:n≤65535):
 GCp G H Tryz.prog 168 [.a (.int .i64 n)] [] 0 [] (.one (.a (.str (Lib.itoa n)))) [] 0:=
 GCp.plain (by simp[S1.bd,At.bd]) (by simp[SV.bd,S1.bd,At.bd]) (by simp[Zu,Zw,Zv,Zj,Zf,Vc.S1.okN,At.okN,SV.okN,Res.okN,Res.outOk,Zo,Res.own,Value.oneCell']) fun w hg=>(Tryz.strconv_Itoa n (by omega) (by omega) w (hH w _ hg)).mono fun e w' ⟨he,k,os,hw⟩=>⟨he,hw▸Lib.below_grow _ w (Nat.le_refl _) k os⟩
end Go.Proofs.YtddmlennnmpnhaaGreatDoor
namespace Go.Proofs.YtddmlennnmpnhaaGreatDoor
open Vc
namespace J5
abbrev r0:List In:=[i1 0 (.mv (.k (.a (.raw (.map none)))))]
abbrev r1:List In:=[i1 1 (.fmk),i0 (.fupd (.t 1) (.k (.a (.str [109,117,108]))) (.k (.a (.raw (.func (.func 89) #[] #[]))))),i0 (.fupd (.t 1) (.k (.a (.str [117,100,105,118]))) (.k (.a (.raw (.func (.func 90) #[] #[]))))),i0 (.fupd (.t 1) (.k (.a (.str [117,114,101,109]))) (.k (.a (.raw (.func (.func 92) #[] #[]))))),i0 (.fupd (.t 1) (.k (.a (.str [115,100,105,118]))) (.k (.a (.raw (.func (.func 93) #[] #[]))))),i0 (.fupd (.t 1) (.k (.a (.str [115,114,101,109]))) (.k (.a (.raw (.func (.func 95) #[] #[]))))),i0 (.fupd (.t 1) (.k (.a (.str [115,104,108]))) (.k (.a (.raw (.func (.func 96) #[] #[]))))),i0 (.fupd (.t 1) (.k (.a (.str [115,104,114]))) (.k (.a (.raw (.func (.func 98) #[] #[]))))),i0 (.fupd (.t 1) (.k (.a (.str [115,97,114]))) (.k (.a (.raw (.func (.func 99) #[] #[]))))),mv 2 1,mv 0 2]
abbrev code:IC:=.seq (.reg r0) (.seq (.reg r1) .ret)
abbrev res:List RV:=[.tmp 0]
theorem fn:Body Tryz.prog 74 3 code res:=⟨by decide,Tryz.f74,_,Tryz.func74,rfl,rfl,by kernel_rfl,by kernel_rfl⟩
end J5
namespace N4
abbrev r0:List In:=[i1 0 (.mv (.k (.a (.raw (.slice none 0 0)))))]
abbrev r1:List In:=[i1 1 (.mv (.k (.a (.raw (.slice none 0 0)))))]
abbrev r2:List In:=[i1 5 (.call 74 []),i1 6 (.frng (.t 5))]
abbrev r3:List In:=[i1 7 (.fnxt (.t 6)),i1 8 (.ext 0 (.t 7))]
abbrev r4:List In:=[i1 9 (.fent (.t 6)),i1 10 (.ext 0 (.t 9)),mv 2 10]
abbrev r5:List In:=[i1 11 (.bsl 9 1 3 [.str [],.str [],.str []] [(0,1,(.k (.a (.str [49])))),(1,1,(.k (.a (.str [50])))),(2,1,(.k (.a (.str [52]))))]),i1 12 (.len (.t 11)),i1 13 (.mv (kI 0))]
abbrev r6:List In:=[i1 14 (.bin .lss (.t 13) (.t 12))]
abbrev r7:List In:=[i1 15 (.iaddr 1 (.t 11) (.t 13)),i1 16 (.load 1 false (.t 15)),mv 4 16]
abbrev r8:List In:=[mv 17 1,mv 18 2,mv 19 4,i1 20 (.bin .add (.t 18) (.t 19)),i1 21 (.bsl 9 1 1 [.str []] [(0,1,(.t 20))]),i1 22 (.app 96 9 1 16 (.t 17) (.t 21)),mv 1 22]
abbrev r9:List In:=[i1 23 (.bin .add (.t 13) (kI 1)),mv 13 23]
abbrev r10:List In:=[mv 24 1,i1 25 (.call 75 [.t 24])]
abbrev r11:List In:=[mv 26 1,mv 0 26]
abbrev code:IC:=.seq (.reg r0) (.seq (.reg r1) (.seq (.seq (.reg r2) (.block 0 (.loop (.seq (.reg r3) (.seq (.cond (.t 8) .skip (.exit 0)) (.block 1 (.seq (.reg r4) (.seq (.reg r5) (.block 2 (.loop (.seq (.reg r6) (.seq (.cond (.t 14) .skip (.exit 2)) (.seq (.block 3 (.seq (.reg r7) (.reg r8))) (.reg r9)))))))))))))) (.seq (.reg r10) (.seq (.reg r11) .ret))))
abbrev res:List RV:=[.tmp 0]
theorem fn:Body Tryz.prog 59 27 code res:=⟨by decide,Tryz.f59,_,Tryz.func59,rfl,rfl,by kernel_rfl,by kernel_rfl⟩
end N4
namespace Gq
abbrev r0:List In:=[i1 2 (.mv (.k (.a (.str [])))),i1 3 (.mv (kI 0))]
abbrev r1:List In:=[i1 6 (.call 59 []),mv 7 0,i1 8 (.call 76 [.t 6,.t 7]),i1 9 (.un .not (.t 8))]
abbrev r2:List In:=[i1 2 (.mv (.k (.a (.str [])))),i1 3 (.mv (kI 7))]
abbrev r3:List In:=[mv 10 0,i1 11 (.slen (.t 10)),i1 12 (.bin .sub (.t 11) (kI 1)),mv 4 12]
abbrev r4:List In:=[mv 13 0,mv 14 4,i1 15 (.sidx (.t 13) (.t 14)),i1 16 (.bin .sub (.t 15) (.k (.a (.int .u8 48)))),i1 17 (.conv .i64 (.t 16)),i1 18 (.build [.raw (.pointer none),.raw (.slice none 0 0),.int .i64 0] [(2,1,(.t 17))]),i1 19 (.box 132 (.t 18)),mv 5 19]
abbrev r5:List In:=[mv 20 5,mv 21 0,i1 22 (.bin .add (.t 21) (.k (.a (.str [58])))),i1 23 (.bsl 9 1 1 [.str []] [(0,1,(.t 22))]),i1 24 (.call 77 [.t 20,.t 23])]
abbrev r6:DT:=(tm 26 0 false (tm 27 4 false (tk 28 (.ssl (.t 26) none (some (.t 27))) false (tm 30 5 false (al 25 (.call 74 []) false (al 29 (.flook false (.t 25) (.t 28)) false (al 31 (.callv (.t 29) [.t 30]) false .done .stop) .stop) .stop)))))
abbrev r7:List In:=[mv 32 5,i1 33 (.nchk (.t 32)),i1 34 (.faddr 0 (.t 33)),i1 35 (.call 78 [.t 34]),mv 2 35,i1 3 (.mv (kI 0))]
abbrev code:IC:=.seq (.reg r0) (.seq (.seq (.reg r1) (.cond (.t 9) (.seq (.reg r2) .ret) .skip)) (.seq (.reg r3) (.seq (.reg r4) (.seq (.reg r5) (.seq (.dany r6) (.seq (.reg r7) .ret))))))
abbrev res:List RV:=[.tmp 2,.tmp 3]
theorem fn:Body Tryz.prog 60 36 code res:=⟨by decide,Tryz.f60,_,Tryz.func60,rfl,rfl,by kernel_rfl,by kernel_rfl⟩
end Gq
namespace J3
abbrev r0:List In:=[i1 0 (.mv (.k (.a (.raw (.slice none 0 0)))))]
abbrev r1:List In:=[i1 1 (.mv (.k (.a (.raw (.slice none 0 0)))))]
abbrev r2:List In:=[i1 8 (.call 59 []),i1 9 (.len (.t 8)),i1 10 (.mv (kI 0))]
abbrev r3:List In:=[i1 11 (.bin .lss (.t 10) (.t 9))]
abbrev r4:List In:=[i1 12 (.iaddr 1 (.t 8) (.t 10)),i1 13 (.load 1 false (.t 12)),mv 3 13]
abbrev r5:List In:=[mv 15 3,i1 16 (.call 60 [.t 15]),mv 14 16,i1 17 (.ext 0 (.t 14)),i1 18 (.ext 1 (.t 14)),mv 4 17,mv 5 18]
abbrev r6:List In:=[mv 20 4,i1 21 (.call 61 [.t 20]),mv 19 21,i1 22 (.ext 0 (.t 19)),i1 23 (.ext 1 (.t 19)),i1 7 (.alloc 83 [.int .i64 0,.int .i64 0]),mv 6 22,i0 (.store 2 (.t 7) (.t 23))]
abbrev r7:List In:=[mv 24 1,mv 25 3,mv 26 6,i1 27 (.build [.str [],.raw (.slice none 0 0)] [(0,1,(.t 25)),(1,1,(.t 26))]),i1 28 (.bsl 78 2 1 [.str [],.raw (.slice none 0 0)] [(0,2,(.t 27))]),i1 29 (.app 70 78 2 40 (.t 24) (.t 28)),mv 1 29]
abbrev r8:List In:=[i1 30 (.bin .add (.t 10) (kI 1)),mv 10 30]
abbrev r9:List In:=[mv 31 1,mv 0 31]
abbrev code:IC:=.seq (.reg r0) (.seq (.reg r1) (.seq (.seq (.reg r2) (.block 0 (.loop (.seq (.reg r3) (.seq (.cond (.t 11) .skip (.exit 0)) (.seq (.block 1 (.seq (.reg r4) (.seq (.reg r5) (.seq (.reg r6) (.reg r7))))) (.reg r8))))))) (.seq (.reg r9) .ret)))
abbrev res:List RV:=[.tmp 0]
theorem fn:Body Tryz.prog 44 32 code res:=⟨by decide,Tryz.f44,_,Tryz.func44,rfl,rfl,by kernel_rfl,by kernel_rfl⟩
end J3
namespace T4
abbrev r0:List In:=[mv 6 1,i1 7 (.len (.t 6)),i1 8 (.mv (kI 0))]
abbrev r1:List In:=[i1 9 (.bin .lss (.t 8) (.t 7))]
abbrev r2:List In:=[i1 10 (.iaddr 1 (.t 6) (.t 8)),i1 11 (.load 1 false (.t 10)),mv 5 11]
abbrev r3:List In:=[mv 12 5,i1 13 (.call 103 [.t 12,(.k (.a (.str [58])))]),i1 14 (.un .not (.t 13))]
abbrev r4:List In:=[mv 15 0,i1 16 (.nchk (.t 15)),i1 17 (.faddr 0 (.t 16)),i1 18 (.call 104 [.t 17,(.k (.a (.int .u8 9)))])]
abbrev r5:List In:=[mv 19 0,i1 20 (.nchk (.t 19)),i1 21 (.faddr 0 (.t 20)),mv 22 5,i1 23 (.bin .add (.t 22) (.k (.a (.str [10])))),i1 24 (.call 105 [.t 21,.t 23])]
abbrev r6:List In:=[i1 25 (.bin .add (.t 8) (kI 1)),mv 8 25]
abbrev code:IC:=.seq (.reg r0) (.block 0 (.loop (.seq (.reg r1) (.seq (.cond (.t 9) .skip (.exit 0)) (.seq (.block 1 (.seq (.reg r2) (.seq (.seq (.reg r3) (.cond (.t 14) (.reg r4) .skip)) (.reg r5)))) (.reg r6))))))
abbrev res:List RV:=[]
theorem fn:Body Tryz.prog 77 26 code res:=⟨by decide,Tryz.f77,_,Tryz.func77,rfl,rfl,by kernel_rfl,by kernel_rfl⟩
end T4
namespace Dq
abbrev r0:List In:=[i1 4 (.mv (.k (.a (.str []))))]
abbrev r1:List In:=[mv 7 1,i1 8 (.len (.t 7)),i1 9 (.mv (kI 0))]
abbrev r2:List In:=[i1 10 (.bin .lss (.t 9) (.t 8))]
abbrev r3:List In:=[i1 11 (.iaddr 1 (.t 7) (.t 9)),i1 12 (.load 1 false (.t 11)),mv 6 12]
abbrev r4:List In:=[mv 13 0,mv 14 6,i1 15 (.call 168 [.t 14]),i1 16 (.call 167 [.t 13,(.k (.a (.str [37,100]))),.t 15,kI 1]),mv 0 16]
abbrev r5:List In:=[i1 17 (.bin .add (.t 9) (kI 1)),mv 9 17]
abbrev r6:List In:=[mv 18 0,mv 4 18]
abbrev code:IC:=.seq (.reg r0) (.seq (.seq (.reg r1) (.block 0 (.loop (.seq (.reg r2) (.seq (.cond (.t 10) .skip (.exit 0)) (.seq (.block 1 (.seq (.reg r3) (.reg r4))) (.reg r5))))))) (.seq (.reg r6) .ret))
abbrev res:List RV:=[.tmp 4]
theorem fn:Body Tryz.prog 129 19 code res:=⟨by decide,Tryz.f129,_,Tryz.func129,rfl,rfl,by kernel_rfl,by kernel_rfl⟩
end Dq
namespace J4
abbrev r0:List In:=[i1 6 (.mv (.k (.a (.str []))))]
abbrev r1:List In:=[mv 7 2,i1 8 (.bin .eql (.t 7) (kI 0))]
abbrev r2:List In:=[mv 9 0,mv 6 9]
abbrev r3:List In:=[mv 10 1,mv 6 10]
abbrev code:IC:=.seq (.reg r0) (.seq (.seq (.reg r1) (.cond (.t 8) (.seq (.reg r2) .ret) .skip)) (.seq (.reg r3) .ret))
abbrev res:List RV:=[.tmp 6]
theorem fn:Body Tryz.prog 169 11 code res:=⟨by decide,Tryz.f169,_,Tryz.func169,rfl,rfl,by kernel_rfl,by kernel_rfl⟩
end J4
namespace S9
abbrev r0:List In:=[mv 13 0,i1 14 (.nchk (.t 13)),i1 15 (.faddr 2 (.t 14)),i1 16 (.load 1 false (.t 15)),i1 17 (.mv (kI 0))]
abbrev r1:List In:=[i1 18 (.bin .lss (.t 17) (.t 16))]
abbrev r2:List In:=[mv 19 17,mv 12 19]
abbrev r3:List In:=[mv 20 0,mv 21 1,mv 22 2,mv 23 12,i1 24 (.bin .add (.t 22) (.t 23)),i1 25 (.bsl 3 1 2 [.int .i64 0,.int .i64 0] [(0,1,(.t 21)),(1,1,(.t 24))]),i1 26 (.call 129 [(.k (.a (.str [108,100,32,114,50,44,32,114,37,100,44,32,37,100]))),.t 25]),i1 27 (.bsl 9 1 1 [.str []] [(0,1,(.t 26))]),i1 28 (.call 77 [.t 20,.t 27])]
abbrev r4:List In:=[mv 29 0,mv 30 3,mv 31 4,mv 32 12,i1 33 (.call 169 [.t 30,.t 31,.t 32]),i1 34 (.bin .add (.t 33) (.k (.a (.str [32,114,50])))),mv 35 5,i1 36 (.bin .add (.t 34) (.t 35)),i1 37 (.bsl 9 1 1 [.str []] [(0,1,(.t 36))]),i1 38 (.call 77 [.t 29,.t 37])]
abbrev r5:List In:=[mv 39 0,mv 40 1,mv 41 2,mv 42 12,i1 43 (.bin .add (.t 41) (.t 42)),i1 44 (.bsl 3 1 2 [.int .i64 0,.int .i64 0] [(0,1,(.t 40)),(1,1,(.t 43))]),i1 45 (.call 129 [(.k (.a (.str [115,116,32,114,37,100,44,32,114,50,44,32,37,100]))),.t 44]),i1 46 (.bsl 9 1 1 [.str []] [(0,1,(.t 45))]),i1 47 (.call 77 [.t 39,.t 46])]
abbrev r6:List In:=[i1 48 (.bin .add (.t 17) (kI 1)),mv 17 48]
abbrev code:IC:=.seq (.reg r0) (.block 0 (.loop (.seq (.reg r1) (.seq (.cond (.t 18) .skip (.exit 0)) (.seq (.block 1 (.seq (.reg r2) (.seq (.reg r3) (.seq (.reg r4) (.reg r5))))) (.reg r6))))))
abbrev res:List RV:=[]
theorem fn:Body Tryz.prog 132 49 code res:=⟨by decide,Tryz.f132,_,Tryz.func132,rfl,rfl,by kernel_rfl,by kernel_rfl⟩
end S9
namespace Qr
abbrev r0:List In:=[mv 8 0,i1 9 (.nchk (.t 8)),i1 10 (.faddr 2 (.t 9)),i1 11 (.load 1 false (.t 10)),i1 12 (.mv (kI 0))]
abbrev r1:List In:=[i1 13 (.bin .lss (.t 12) (.t 11))]
abbrev r2:List In:=[mv 14 12,mv 6 14]
abbrev r3:List In:=[mv 15 0,i1 16 (.nchk (.t 15)),i1 17 (.faddr 2 (.t 16)),i1 18 (.load 1 false (.t 17)),i1 19 (.bin .sub (.t 18) (kI 1)),mv 20 6,i1 21 (.bin .sub (.t 19) (.t 20)),mv 7 21]
abbrev r4:List In:=[mv 22 0,mv 23 1,mv 24 7,i1 25 (.bsl 3 1 2 [.int .i64 0,.int .i64 0] [(0,1,(.t 23)),(1,1,(.t 24))]),i1 26 (.call 129 [(.k (.a (.str [108,100,32,114,50,44,32,114,37,100,44,32,37,100]))),.t 25]),mv 27 2,mv 28 6,i1 29 (.call 169 [.t 27,(.k (.a (.str [114,111,114]))),.t 28]),i1 30 (.bin .add (.t 29) (.k (.a (.str [32,114,50])))),mv 31 1,mv 32 7,i1 33 (.bsl 3 1 2 [.int .i64 0,.int .i64 0] [(0,1,(.t 31)),(1,1,(.t 32))]),i1 34 (.call 129 [(.k (.a (.str [115,116,32,114,37,100,44,32,114,50,44,32,37,100]))),.t 33]),i1 35 (.bsl 9 1 3 [.str [],.str [],.str []] [(0,1,(.t 26)),(1,1,(.t 30)),(2,1,(.t 34))]),i1 36 (.call 77 [.t 22,.t 35])]
abbrev r5:List In:=[i1 37 (.bin .add (.t 12) (kI 1)),mv 12 37]
abbrev code:IC:=.seq (.reg r0) (.block 0 (.loop (.seq (.reg r1) (.seq (.cond (.t 13) .skip (.exit 0)) (.seq (.block 1 (.seq (.reg r2) (.seq (.reg r3) (.reg r4)))) (.reg r5))))))
abbrev res:List RV:=[]
theorem fn:Body Tryz.prog 130 38 code res:=⟨by decide,Tryz.f130,_,Tryz.func130,rfl,rfl,by kernel_rfl,by kernel_rfl⟩
end Qr
namespace Qq
abbrev r0:List In:=[mv 15 0,i1 16 (.nchk (.t 15)),i1 17 (.faddr 2 (.t 16)),i1 18 (.load 1 false (.t 17)),i1 19 (.mv (kI 0))]
abbrev r1:List In:=[i1 20 (.bin .lss (.t 19) (.t 18))]
abbrev r2:List In:=[mv 21 19,mv 14 21]
abbrev r3:List In:=[mv 22 0,mv 23 1,mv 24 14,i1 25 (.bsl 3 1 2 [.int .i64 0,.int .i64 0] [(0,1,(.t 23)),(1,1,(.t 24))]),i1 26 (.call 129 [(.k (.a (.str [108,100,32,114,50,44,32,114,37,100,44,32,37,100]))),.t 25]),mv 27 2,mv 28 3,mv 29 14,i1 30 (.bin .add (.t 28) (.t 29)),i1 31 (.bsl 3 1 2 [.int .i64 0,.int .i64 0] [(0,1,(.t 27)),(1,1,(.t 30))]),i1 32 (.call 129 [(.k (.a (.str [108,100,32,114,52,44,32,114,37,100,44,32,37,100]))),.t 31]),mv 33 4,mv 34 5,mv 35 14,i1 36 (.call 169 [.t 33,.t 34,.t 35]),i1 37 (.bin .add (.t 36) (.k (.a (.str [32,114,50,44,32,114,52])))),i1 38 (.bsl 9 1 3 [.str [],.str [],.str []] [(0,1,(.t 26)),(1,1,(.t 32)),(2,1,(.t 37))]),i1 39 (.call 77 [.t 22,.t 38])]
abbrev r4:List In:=[mv 40 6]
abbrev r5:List In:=[mv 41 0,mv 42 1,mv 43 14,i1 44 (.bsl 3 1 2 [.int .i64 0,.int .i64 0] [(0,1,(.t 42)),(1,1,(.t 43))]),i1 45 (.call 129 [(.k (.a (.str [115,116,32,114,37,100,44,32,114,50,44,32,37,100]))),.t 44]),i1 46 (.bsl 9 1 1 [.str []] [(0,1,(.t 45))]),i1 47 (.call 77 [.t 41,.t 46])]
abbrev r6:List In:=[i1 48 (.bin .add (.t 19) (kI 1)),mv 19 48]
abbrev code:IC:=.seq (.reg r0) (.block 0 (.loop (.seq (.reg r1) (.seq (.cond (.t 20) .skip (.exit 0)) (.seq (.block 1 (.seq (.reg r2) (.seq (.reg r3) (.seq (.reg r4) (.cond (.t 40) (.reg r5) .skip))))) (.reg r6))))))
abbrev res:List RV:=[]
theorem fn:Body Tryz.prog 131 49 code res:=⟨by decide,Tryz.f131,_,Tryz.func131,rfl,rfl,by kernel_rfl,by kernel_rfl⟩
end Qq
namespace Ra
abbrev r0:List In:=[mv 5 0,i1 6 (.nchk (.t 5)),i1 7 (.faddr 2 (.t 6)),i1 8 (.load 1 false (.t 7)),i1 9 (.mv (kI 0))]
abbrev r1:List In:=[i1 10 (.bin .lss (.t 9) (.t 8))]
abbrev r2:List In:=[mv 11 9,mv 4 11]
abbrev r3:List In:=[mv 12 0,mv 13 1,mv 14 0,i1 15 (.nchk (.t 14)),i1 16 (.faddr 2 (.t 15)),i1 17 (.load 1 false (.t 16)),i1 18 (.bin .sub (.t 17) (kI 1)),mv 19 4,i1 20 (.bin .sub (.t 18) (.t 19)),i1 21 (.bsl 3 1 2 [.int .i64 0,.int .i64 0] [(0,1,(.t 13)),(1,1,(.t 20))]),i1 22 (.call 129 [(.k (.a (.str [108,100,32,114,50,44,32,114,37,100,44,32,37,100]))),.t 21]),i1 23 (.bsl 9 1 2 [.str [],.str []] [(0,1,(.t 22)),(1,1,(.k (.a (.str [112,117,115,104,32,114,50]))))]),i1 24 (.call 77 [.t 12,.t 23])]
abbrev r4:List In:=[i1 25 (.bin .add (.t 9) (kI 1)),mv 9 25]
abbrev code:IC:=.seq (.reg r0) (.block 0 (.loop (.seq (.reg r1) (.seq (.cond (.t 10) .skip (.exit 0)) (.seq (.block 1 (.seq (.reg r2) (.reg r3))) (.reg r4))))))
abbrev res:List RV:=[]
theorem fn:Body Tryz.prog 128 26 code res:=⟨by decide,Tryz.f128,_,Tryz.func128,rfl,rfl,by kernel_rfl,by kernel_rfl⟩
end Ra
namespace Rb
abbrev r0:List In:=[mv 5 0,i1 6 (.nchk (.t 5)),i1 7 (.faddr 2 (.t 6)),i1 8 (.load 1 false (.t 7)),i1 9 (.mv (kI 0))]
abbrev r1:List In:=[i1 10 (.bin .lss (.t 9) (.t 8))]
abbrev r2:List In:=[mv 11 9,mv 4 11]
abbrev r3:List In:=[mv 12 0,mv 13 1,mv 14 4,i1 15 (.bsl 3 1 2 [.int .i64 0,.int .i64 0] [(0,1,(.t 13)),(1,1,(.t 14))]),i1 16 (.call 129 [(.k (.a (.str [108,100,32,114,50,44,32,114,37,100,44,32,37,100]))),.t 15]),mv 17 4,i1 18 (.call 169 [(.k (.a (.str [115,117,98]))),(.k (.a (.str [115,98,99]))),.t 17]),i1 19 (.bin .add (.t 18) (.k (.a (.str [32,114,52,44,32,114,50])))),mv 20 1,mv 21 4,i1 22 (.bsl 3 1 2 [.int .i64 0,.int .i64 0] [(0,1,(.t 20)),(1,1,(.t 21))]),i1 23 (.call 129 [(.k (.a (.str [115,116,32,114,37,100,44,32,114,52,44,32,37,100]))),.t 22]),i1 24 (.bsl 9 1 4 [.str [],.str [],.str [],.str []] [(0,1,(.k (.a (.str [108,100,105,32,114,52,44,32,48])))),(1,1,(.t 16)),(2,1,(.t 19)),(3,1,(.t 23))]),i1 25 (.call 77 [.t 12,.t 24])]
abbrev r4:List In:=[i1 26 (.bin .add (.t 9) (kI 1)),mv 9 26]
abbrev code:IC:=.seq (.reg r0) (.block 0 (.loop (.seq (.reg r1) (.seq (.cond (.t 10) .skip (.exit 0)) (.seq (.block 1 (.seq (.reg r2) (.reg r3))) (.reg r4))))))
abbrev res:List RV:=[]
theorem fn:Body Tryz.prog 136 27 code res:=⟨by decide,Tryz.f136,_,Tryz.func136,rfl,rfl,by kernel_rfl,by kernel_rfl⟩
end Rb
namespace Qs
abbrev r0:List In:=[mv 4 0,mv 5 1,i1 6 (.bsl 3 1 1 [.int .i64 0] [(0,1,(.t 5))]),i1 7 (.call 129 [(.k (.a (.str [108,100,105,32,114,50,44,32,37,100]))),.t 6]),i1 8 (.bsl 9 1 3 [.str [],.str [],.str []] [(0,1,(.t 7)),(1,1,(.k (.a (.str [97,100,100,32,114,55,44,32,114,50])))),(2,1,(.k (.a (.str [114,101,116]))))]),i1 9 (.call 77 [.t 4,.t 8])]
abbrev code:IC:=(.reg r0)
abbrev res:List RV:=[]
theorem fn:Body Tryz.prog 134 10 code res:=⟨by decide,Tryz.f134,_,Tryz.func134,rfl,rfl,by kernel_rfl,by kernel_rfl⟩
end Qs
namespace R3
abbrev r0:List In:=[mv 2 0,i1 3 (.bsl 9 1 3 [.str [],.str [],.str []] [(0,1,(.k (.a (.str [108,100,105,32,114,52,44,32,49])))),(1,1,(.k (.a (.str [115,117,98,32,114,51,44,32,114,52])))),(2,1,(.k (.a (.str [106,110,122,32,46,108,111,111,112]))))]),i1 4 (.call 77 [.t 2,.t 3])]
abbrev code:IC:=(.reg r0)
abbrev res:List RV:=[]
theorem fn:Body Tryz.prog 133 5 code res:=⟨by decide,Tryz.f133,_,Tryz.func133,rfl,rfl,by kernel_rfl,by kernel_rfl⟩
end R3
namespace Tr
abbrev r0:List In:=[mv 8 0,mv 9 1,mv 10 2,i1 11 (.bsl 3 1 2 [.int .i64 0,.int .i64 0] [(0,1,(.t 9)),(1,1,(.t 10))]),i1 12 (.call 129 [(.k (.a (.str [108,100,32,114,50,44,32,114,37,100,44,32,37,100]))),.t 11]),mv 13 3,i1 14 (.bin .add (.k (.a (.str [106,110,99,32]))) (.t 13)),i1 15 (.bsl 9 1 3 [.str [],.str [],.str []] [(0,1,(.t 12)),(1,1,(.k (.a (.str [115,104,108,32,114,50])))),(2,1,(.t 14))]),i1 16 (.call 77 [.t 8,.t 15])]
abbrev code:IC:=(.reg r0)
abbrev res:List RV:=[]
theorem fn:Body Tryz.prog 135 17 code res:=⟨by decide,Tryz.f135,_,Tryz.func135,rfl,rfl,by kernel_rfl,by kernel_rfl⟩
end Tr
namespace T3
abbrev r0:List In:=[mv 3 0,i1 4 (.call 128 [.t 3,kI 0])]
abbrev r1:List In:=[mv 5 0,i1 6 (.call 128 [.t 5,kI 1])]
abbrev r2:List In:=[mv 7 0,i1 8 (.bsl 9 1 1 [.str []] [(0,1,(.k (.a (.str [108,100,105,32,114,50,44,32,48]))))]),i1 9 (.call 77 [.t 7,.t 8])]
abbrev r3:List In:=[mv 10 0,i1 11 (.nchk (.t 10)),i1 12 (.faddr 2 (.t 11)),i1 13 (.load 1 false (.t 12)),i1 14 (.mv (kI 0))]
abbrev r4:List In:=[i1 15 (.bin .lss (.t 14) (.t 13))]
abbrev r5:List In:=[mv 16 14,mv 2 16]
abbrev r6:List In:=[mv 17 0,mv 18 2,i1 19 (.bsl 3 1 1 [.int .i64 0] [(0,1,(.t 18))]),i1 20 (.call 129 [(.k (.a (.str [115,116,32,114,48,44,32,114,50,44,32,37,100]))),.t 19]),i1 21 (.bsl 9 1 1 [.str []] [(0,1,(.t 20))]),i1 22 (.call 77 [.t 17,.t 21])]
abbrev r7:List In:=[i1 23 (.bin .add (.t 14) (kI 1)),mv 14 23]
abbrev r8:List In:=[mv 24 0,mv 25 0,i1 26 (.nchk (.t 25)),i1 27 (.faddr 2 (.t 26)),i1 28 (.load 1 false (.t 27)),i1 29 (.bin .mul (kI 16) (.t 28)),i1 30 (.bsl 3 1 1 [.int .i64 0] [(0,1,(.t 29))]),i1 31 (.call 129 [(.k (.a (.str [108,100,105,32,114,51,44,32,37,100]))),.t 30]),i1 32 (.bsl 9 1 2 [.str [],.str []] [(0,1,(.t 31)),(1,1,(.k (.a (.str [46,108,111,111,112,58]))))]),i1 33 (.call 77 [.t 24,.t 32])]
abbrev r9:List In:=[mv 34 0,i1 35 (.call 130 [.t 34,kI 7,(.k (.a (.str [115,104,114])))])]
abbrev r10:List In:=[mv 36 0,i1 37 (.bsl 9 1 1 [.str []] [(0,1,(.k (.a (.str [106,110,99,32,46,115,107,105,112]))))]),i1 38 (.call 77 [.t 36,.t 37])]
abbrev r11:List In:=[mv 39 0,mv 40 0,i1 41 (.nchk (.t 40)),i1 42 (.faddr 2 (.t 41)),i1 43 (.load 1 false (.t 42)),i1 44 (.call 131 [.t 39,kI 0,kI 7,.t 43,(.k (.a (.str [97,100,100]))),(.k (.a (.str [97,100,99]))),kB true])]
abbrev r12:List In:=[mv 45 0,i1 46 (.bsl 9 1 1 [.str []] [(0,1,(.k (.a (.str [46,115,107,105,112,58]))))]),i1 47 (.call 77 [.t 45,.t 46])]
abbrev r13:List In:=[mv 48 0,mv 49 0,i1 50 (.nchk (.t 49)),i1 51 (.faddr 2 (.t 50)),i1 52 (.load 1 false (.t 51)),i1 53 (.call 132 [.t 48,kI 7,.t 52,(.k (.a (.str [115,104,108]))),(.k (.a (.str [114,111,108]))),(.k (.a (.str [])))])]
abbrev r14:List In:=[mv 54 0,i1 55 (.call 133 [.t 54])]
abbrev r15:List In:=[mv 56 0,mv 57 0,i1 58 (.nchk (.t 57)),i1 59 (.faddr 2 (.t 58)),i1 60 (.load 1 false (.t 59)),i1 61 (.bin .mul (kI 2) (.t 60)),i1 62 (.call 134 [.t 56,.t 61])]
abbrev code:IC:=.seq (.reg r0) (.seq (.reg r1) (.seq (.reg r2) (.seq (.seq (.reg r3) (.block 0 (.loop (.seq (.reg r4) (.seq (.cond (.t 15) .skip (.exit 0)) (.seq (.block 1 (.seq (.reg r5) (.reg r6))) (.reg r7))))))) (.seq (.reg r8) (.seq (.reg r9) (.seq (.reg r10) (.seq (.reg r11) (.seq (.reg r12) (.seq (.reg r13) (.seq (.reg r14) (.reg r15)))))))))))
abbrev res:List RV:=[]
theorem fn:Body Tryz.prog 89 63 code res:=⟨by decide,Tryz.f89,_,Tryz.func89,rfl,rfl,by kernel_rfl,by kernel_rfl⟩
theorem enters:Xu Tryz.prog 89=true:=by kernel_rfl
end T3
namespace T2
abbrev r0:List In:=[mv 6 0,i1 7 (.bsl 9 1 1 [.str []] [(0,1,(.k (.a (.str [108,100,32,114,50,44,32,114,49,44,32,48]))))]),i1 8 (.call 77 [.t 6,.t 7])]
abbrev r1:List In:=[i1 4 (.mv (kI 1))]
abbrev r2:List In:=[mv 9 4,mv 10 0,i1 11 (.nchk (.t 10)),i1 12 (.faddr 2 (.t 11)),i1 13 (.load 1 false (.t 12)),i1 14 (.bin .lss (.t 9) (.t 13))]
abbrev r3:List In:=[mv 17 0,mv 18 4,i1 19 (.bsl 3 1 1 [.int .i64 0] [(0,1,(.t 18))]),i1 20 (.call 129 [(.k (.a (.str [108,100,32,114,52,44,32,114,49,44,32,37,100]))),.t 19]),i1 21 (.bsl 9 1 2 [.str [],.str []] [(0,1,(.t 20)),(1,1,(.k (.a (.str [111,114,32,114,50,44,32,114,52]))))]),i1 22 (.call 77 [.t 17,.t 21])]
abbrev r4:List In:=[mv 15 4,i1 16 (.bin .add (.t 15) (kI 1)),mv 4 16]
abbrev r5:List In:=[mv 23 0,i1 24 (.bsl 9 1 6 [.str [],.str [],.str [],.str [],.str [],.str []] [(0,1,(.k (.a (.str [108,100,105,32,114,52,44,32,48])))),(1,1,(.k (.a (.str [99,109,112,32,114,50,44,32,114,52])))),(2,1,(.k (.a (.str [106,110,122,32,46,111,107])))),(3,1,(.k (.a (.str [116,114,97,112,32,49])))),(4,1,(.k (.a (.str [46,111,107,58])))),(5,1,(.k (.a (.str [108,100,105,32,114,50,44,32,48]))))]),i1 25 (.call 77 [.t 23,.t 24])]
abbrev r6:List In:=[mv 26 0,i1 27 (.nchk (.t 26)),i1 28 (.faddr 2 (.t 27)),i1 29 (.load 1 false (.t 28)),i1 30 (.mv (kI 0))]
abbrev r7:List In:=[i1 31 (.bin .lss (.t 30) (.t 29))]
abbrev r8:List In:=[mv 32 0,i1 33 (.bsl 9 1 1 [.str []] [(0,1,(.k (.a (.str [112,117,115,104,32,114,50]))))]),i1 34 (.call 77 [.t 32,.t 33])]
abbrev r9:List In:=[i1 35 (.bin .add (.t 30) (kI 1)),mv 30 35]
abbrev r10:List In:=[mv 36 0,mv 37 0,i1 38 (.nchk (.t 37)),i1 39 (.faddr 2 (.t 38)),i1 40 (.load 1 false (.t 39)),i1 41 (.bin .mul (kI 16) (.t 40)),i1 42 (.bsl 3 1 1 [.int .i64 0] [(0,1,(.t 41))]),i1 43 (.call 129 [(.k (.a (.str [108,100,105,32,114,51,44,32,37,100]))),.t 42]),i1 44 (.bsl 9 1 2 [.str [],.str []] [(0,1,(.t 43)),(1,1,(.k (.a (.str [46,108,111,111,112,58]))))]),i1 45 (.call 77 [.t 36,.t 44])]
abbrev r11:List In:=[mv 46 0,i1 47 (.call 132 [.t 46,kI 0,kI 0,(.k (.a (.str [115,104,108]))),(.k (.a (.str [114,111,108]))),(.k (.a (.str [])))])]
abbrev r12:List In:=[mv 48 0,i1 49 (.call 132 [.t 48,kI 7,kI 0,(.k (.a (.str [114,111,108]))),(.k (.a (.str [114,111,108]))),(.k (.a (.str [])))])]
abbrev r13:List In:=[mv 50 0,i1 51 (.bsl 9 1 1 [.str []] [(0,1,(.k (.a (.str [106,99,32,46,116,97,107,101]))))]),i1 52 (.call 77 [.t 50,.t 51])]
abbrev r14:List In:=[mv 53 0,i1 54 (.call 131 [.t 53,kI 7,kI 1,kI 0,(.k (.a (.str [99,109,112]))),(.k (.a (.str [99,112,99]))),kB false])]
abbrev r15:List In:=[mv 55 0,i1 56 (.bsl 9 1 2 [.str [],.str []] [(0,1,(.k (.a (.str [106,99,32,46,110,101,120,116])))),(1,1,(.k (.a (.str [46,116,97,107,101,58]))))]),i1 57 (.call 77 [.t 55,.t 56])]
abbrev r16:List In:=[mv 58 0,i1 59 (.call 131 [.t 58,kI 7,kI 1,kI 0,(.k (.a (.str [115,117,98]))),(.k (.a (.str [115,98,99]))),kB true])]
abbrev r17:List In:=[mv 60 0,i1 61 (.bsl 9 1 5 [.str [],.str [],.str [],.str [],.str []] [(0,1,(.k (.a (.str [108,100,32,114,50,44,32,114,48,44,32,48])))),(1,1,(.k (.a (.str [108,100,105,32,114,52,44,32,49])))),(2,1,(.k (.a (.str [111,114,32,114,50,44,32,114,52])))),(3,1,(.k (.a (.str [115,116,32,114,48,44,32,114,50,44,32,48])))),(4,1,(.k (.a (.str [46,110,101,120,116,58]))))]),i1 62 (.call 77 [.t 60,.t 61])]
abbrev r18:List In:=[mv 63 0,i1 64 (.call 133 [.t 63])]
abbrev r19:List In:=[i1 5 (.mv (kI 0))]
abbrev r20:List In:=[mv 65 5,mv 66 0,i1 67 (.nchk (.t 66)),i1 68 (.faddr 2 (.t 67)),i1 69 (.load 1 false (.t 68)),i1 70 (.bin .lss (.t 65) (.t 69)),mv 71 70,i2 71 true 72 (.mv (.t 1)),i1 73 (.pick (.t 71) (.t 72) (kB false))]
abbrev r21:List In:=[mv 76 0,mv 77 5,i1 78 (.bsl 3 1 1 [.int .i64 0] [(0,1,(.t 77))]),i1 79 (.call 129 [(.k (.a (.str [108,100,32,114,50,44,32,114,55,44,32,37,100]))),.t 78]),mv 80 5,i1 81 (.bsl 3 1 1 [.int .i64 0] [(0,1,(.t 80))]),i1 82 (.call 129 [(.k (.a (.str [115,116,32,114,48,44,32,114,50,44,32,37,100]))),.t 81]),i1 83 (.bsl 9 1 2 [.str [],.str []] [(0,1,(.t 79)),(1,1,(.t 82))]),i1 84 (.call 77 [.t 76,.t 83])]
abbrev r22:List In:=[mv 74 5,i1 75 (.bin .add (.t 74) (kI 1)),mv 5 75]
abbrev r23:List In:=[mv 85 0,mv 86 0,i1 87 (.nchk (.t 86)),i1 88 (.faddr 2 (.t 87)),i1 89 (.load 1 false (.t 88)),i1 90 (.call 134 [.t 85,.t 89])]
abbrev code:IC:=.seq (.reg r0) (.seq (.seq (.reg r1) (.block 0 (.loop (.seq (.seq (.reg r2) (.cond (.t 14) .skip (.exit 0))) (.seq (.block 1 (.reg r3)) (.reg r4)))))) (.seq (.reg r5) (.seq (.seq (.reg r6) (.block 2 (.loop (.seq (.reg r7) (.seq (.cond (.t 31) .skip (.exit 2)) (.seq (.block 3 (.reg r8)) (.reg r9))))))) (.seq (.reg r10) (.seq (.reg r11) (.seq (.reg r12) (.seq (.reg r13) (.seq (.reg r14) (.seq (.reg r15) (.seq (.reg r16) (.seq (.reg r17) (.seq (.reg r18) (.seq (.seq (.reg r19) (.block 4 (.loop (.seq (.seq (.reg r20) (.cond (.t 73) .skip (.exit 4))) (.seq (.block 5 (.reg r21)) (.reg r22)))))) (.reg r23))))))))))))))
abbrev res:List RV:=[]
theorem fn:Body Tryz.prog 91 91 code res:=⟨by decide,Tryz.f91,_,Tryz.func91,rfl,rfl,by kernel_rfl,by kernel_rfl⟩
end T2
namespace Vz
abbrev r0:List In:=[mv 4 0,mv 5 0,i1 6 (.nchk (.t 5)),i1 7 (.faddr 2 (.t 6)),i1 8 (.load 1 false (.t 7)),i1 9 (.bin .sub (.t 8) (kI 1)),i1 10 (.bsl 3 1 1 [.int .i64 0] [(0,1,(.t 9))]),i1 11 (.call 129 [(.k (.a (.str [108,100,32,114,53,44,32,114,48,44,32,37,100]))),.t 10]),i1 12 (.bsl 9 1 1 [.str []] [(0,1,(.t 11))]),i1 13 (.call 77 [.t 4,.t 12])]
abbrev r1:List In:=[mv 14 1,i1 15 (.un .not (.t 14))]
abbrev r2:List In:=[mv 16 0,mv 17 0,i1 18 (.nchk (.t 17)),i1 19 (.faddr 2 (.t 18)),i1 20 (.load 1 false (.t 19)),i1 21 (.bin .sub (.t 20) (kI 1)),i1 22 (.bsl 3 1 1 [.int .i64 0] [(0,1,(.t 21))]),i1 23 (.call 129 [(.k (.a (.str [108,100,32,114,50,44,32,114,49,44,32,37,100]))),.t 22]),i1 24 (.bsl 9 1 2 [.str [],.str []] [(0,1,(.t 23)),(1,1,(.k (.a (.str [120,111,114,32,114,53,44,32,114,50]))))]),i1 25 (.call 77 [.t 16,.t 24])]
abbrev r3:List In:=[mv 26 0,i1 27 (.bsl 9 1 1 [.str []] [(0,1,(.k (.a (.str [112,117,115,104,32,114,53]))))]),i1 28 (.call 77 [.t 26,.t 27])]
abbrev r4:List In:=[mv 29 0,i1 30 (.call 128 [.t 29,kI 1])]
abbrev r5:List In:=[mv 31 0,i1 32 (.bsl 9 1 1 [.str []] [(0,1,(.k (.a (.str [109,111,118,32,114,49,44,32,114,55]))))]),i1 33 (.call 77 [.t 31,.t 32])]
abbrev r6:List In:=[mv 34 0,mv 35 0,i1 36 (.nchk (.t 35)),i1 37 (.faddr 2 (.t 36)),i1 38 (.load 1 false (.t 37)),i1 39 (.bin .sub (.t 38) (kI 1)),i1 40 (.call 135 [.t 34,kI 1,.t 39,(.k (.a (.str [46,111,118,101,114])))])]
abbrev r7:List In:=[mv 41 0,i1 42 (.call 136 [.t 41,kI 1])]
abbrev r8:List In:=[mv 43 0,i1 44 (.bsl 9 1 1 [.str []] [(0,1,(.k (.a (.str [46,111,118,101,114,58]))))]),i1 45 (.call 77 [.t 43,.t 44])]
abbrev r9:List In:=[mv 46 0,mv 47 0,i1 48 (.nchk (.t 47)),i1 49 (.faddr 2 (.t 48)),i1 50 (.load 1 false (.t 49)),i1 51 (.bin .sub (.t 50) (kI 1)),i1 52 (.call 135 [.t 46,kI 0,.t 51,(.k (.a (.str [46,98,111,116,104])))])]
abbrev r10:List In:=[mv 53 0,i1 54 (.call 136 [.t 53,kI 0])]
abbrev r11:List In:=[mv 55 0,i1 56 (.bsl 9 1 1 [.str []] [(0,1,(.k (.a (.str [46,98,111,116,104,58]))))]),i1 57 (.call 77 [.t 55,.t 56])]
abbrev r12:List In:=[mv 58 1]
abbrev r13:List In:=[mv 59 0,mv 60 0,i1 61 (.nchk (.t 60)),i1 62 (.faddr 2 (.t 61)),i1 63 (.load 1 false (.t 62)),i1 64 (.bsl 3 1 1 [.int .i64 0] [(0,1,(.t 63))]),i1 65 (.call 129 [(.k (.a (.str [99,97,108,108,32,117,114,101,109,37,100]))),.t 64]),i1 66 (.bsl 9 1 1 [.str []] [(0,1,(.t 65))]),i1 67 (.call 77 [.t 59,.t 66])]
abbrev r14:List In:=[mv 68 0,mv 69 0,i1 70 (.nchk (.t 69)),i1 71 (.faddr 2 (.t 70)),i1 72 (.load 1 false (.t 71)),i1 73 (.bsl 3 1 1 [.int .i64 0] [(0,1,(.t 72))]),i1 74 (.call 129 [(.k (.a (.str [99,97,108,108,32,117,100,105,118,37,100]))),.t 73]),i1 75 (.bsl 9 1 1 [.str []] [(0,1,(.t 74))]),i1 76 (.call 77 [.t 68,.t 75])]
abbrev r15:List In:=[mv 77 0,mv 78 0,i1 79 (.nchk (.t 78)),i1 80 (.faddr 2 (.t 79)),i1 81 (.load 1 false (.t 80)),i1 82 (.call 135 [.t 77,kI 7,.t 81,(.k (.a (.str [46,100,111,110,101])))])]
abbrev r16:List In:=[mv 83 0,i1 84 (.call 136 [.t 83,kI 0])]
abbrev r17:List In:=[mv 85 0,i1 86 (.bsl 9 1 1 [.str []] [(0,1,(.k (.a (.str [46,100,111,110,101,58]))))]),i1 87 (.call 77 [.t 85,.t 86])]
abbrev r18:List In:=[mv 88 0,mv 89 0,i1 90 (.nchk (.t 89)),i1 91 (.faddr 2 (.t 90)),i1 92 (.load 1 false (.t 91)),i1 93 (.bin .add (.t 92) (kI 1)),i1 94 (.call 134 [.t 88,.t 93])]
abbrev code:IC:=.seq (.reg r0) (.seq (.seq (.reg r1) (.cond (.t 15) (.reg r2) .skip)) (.seq (.reg r3) (.seq (.reg r4) (.seq (.reg r5) (.seq (.reg r6) (.seq (.reg r7) (.seq (.reg r8) (.seq (.reg r9) (.seq (.reg r10) (.seq (.reg r11) (.seq (.seq (.reg r12) (.cond (.t 58) (.reg r13) (.reg r14))) (.seq (.reg r15) (.seq (.reg r16) (.seq (.reg r17) (.reg r18)))))))))))))))
abbrev res:List RV:=[]
theorem fn:Body Tryz.prog 94 95 code res:=⟨by decide,Tryz.f94,_,Tryz.func94,rfl,rfl,by kernel_rfl,by kernel_rfl⟩
end Vz
namespace Wz
abbrev r0:List In:=[mv 4 0,mv 5 0,i1 6 (.nchk (.t 5)),i1 7 (.faddr 2 (.t 6)),i1 8 (.load 1 false (.t 7)),i1 9 (.bin .mul (kI 16) (.t 8)),i1 10 (.bsl 3 1 1 [.int .i64 0] [(0,1,(.t 9))]),i1 11 (.call 129 [(.k (.a (.str [108,100,105,32,114,52,44,32,37,100]))),.t 10]),i1 12 (.bsl 9 1 9 [.str [],.str [],.str [],.str [],.str [],.str [],.str [],.str [],.str []] [(0,1,(.k (.a (.str [108,100,32,114,51,44,32,114,49,44,32,48])))),(1,1,(.t 11)),(2,1,(.k (.a (.str [99,109,112,32,114,51,44,32,114,52])))),(3,1,(.k (.a (.str [106,99,32,46,108,111,111,112])))),(4,1,(.k (.a (.str [109,111,118,32,114,51,44,32,114,52])))),(5,1,(.k (.a (.str [46,108,111,111,112,58])))),(6,1,(.k (.a (.str [108,100,105,32,114,52,44,32,48])))),(7,1,(.k (.a (.str [99,109,112,32,114,51,44,32,114,52])))),(8,1,(.k (.a (.str [106,122,32,46,100,111,110,101]))))]),i1 13 (.call 77 [.t 4,.t 12])]
abbrev r1:List In:=[mv 14 1,i1 15 (.bin .eql (.t 14) (.k (.a (.str [115,104,108]))))]
abbrev r2:List In:=[mv 16 0,i1 17 (.call 132 [.t 16,kI 0,kI 0,(.k (.a (.str [115,104,108]))),(.k (.a (.str [114,111,108]))),(.k (.a (.str [])))])]
abbrev r3:List In:=[mv 18 0,mv 19 1,i1 20 (.call 130 [.t 18,kI 0,.t 19])]
abbrev r4:List In:=[mv 21 0,i1 22 (.bsl 9 1 5 [.str [],.str [],.str [],.str [],.str []] [(0,1,(.k (.a (.str [108,100,105,32,114,52,44,32,49])))),(1,1,(.k (.a (.str [115,117,98,32,114,51,44,32,114,52])))),(2,1,(.k (.a (.str [106,109,112,32,46,108,111,111,112])))),(3,1,(.k (.a (.str [46,100,111,110,101,58])))),(4,1,(.k (.a (.str [114,101,116]))))]),i1 23 (.call 77 [.t 21,.t 22])]
abbrev code:IC:=.seq (.reg r0) (.seq (.seq (.reg r1) (.cond (.t 15) (.reg r2) (.reg r3))) (.reg r4))
abbrev res:List RV:=[]
theorem fn:Body Tryz.prog 97 24 code res:=⟨by decide,Tryz.f97,_,Tryz.func97,rfl,rfl,by kernel_rfl,by kernel_rfl⟩
end Wz
namespace Pd
abbrev r0:List In:=[mv 2 0,i1 3 (.call 91 [.t 2,kB false])]
abbrev code:IC:=(.reg r0)
abbrev res:List RV:=[]
theorem fn:Body Tryz.prog 90 4 code res:=⟨by decide,Tryz.f90,_,Tryz.func90,rfl,rfl,by kernel_rfl,by kernel_rfl⟩
theorem enters:Xu Tryz.prog 90=true:=by kernel_rfl
end Pd
namespace Pe
abbrev r0:List In:=[mv 2 0,i1 3 (.call 91 [.t 2,kB true])]
abbrev code:IC:=(.reg r0)
abbrev res:List RV:=[]
theorem fn:Body Tryz.prog 92 4 code res:=⟨by decide,Tryz.f92,_,Tryz.func92,rfl,rfl,by kernel_rfl,by kernel_rfl⟩
theorem enters:Xu Tryz.prog 92=true:=by kernel_rfl
end Pe
namespace Pf
abbrev r0:List In:=[mv 2 0,i1 3 (.call 94 [.t 2,kB false])]
abbrev code:IC:=(.reg r0)
abbrev res:List RV:=[]
theorem fn:Body Tryz.prog 93 4 code res:=⟨by decide,Tryz.f93,_,Tryz.func93,rfl,rfl,by kernel_rfl,by kernel_rfl⟩
theorem enters:Xu Tryz.prog 93=true:=by kernel_rfl
end Pf
namespace Pg
abbrev r0:List In:=[mv 2 0,i1 3 (.call 94 [.t 2,kB true])]
abbrev code:IC:=(.reg r0)
abbrev res:List RV:=[]
theorem fn:Body Tryz.prog 95 4 code res:=⟨by decide,Tryz.f95,_,Tryz.func95,rfl,rfl,by kernel_rfl,by kernel_rfl⟩
theorem enters:Xu Tryz.prog 95=true:=by kernel_rfl
end Pg
namespace Ph
abbrev r0:List In:=[mv 2 0,i1 3 (.call 97 [.t 2,(.k (.a (.str [115,104,108])))])]
abbrev code:IC:=(.reg r0)
abbrev res:List RV:=[]
theorem fn:Body Tryz.prog 96 4 code res:=⟨by decide,Tryz.f96,_,Tryz.func96,rfl,rfl,by kernel_rfl,by kernel_rfl⟩
theorem enters:Xu Tryz.prog 96=true:=by kernel_rfl
end Ph
namespace Pi
abbrev r0:List In:=[mv 2 0,i1 3 (.call 97 [.t 2,(.k (.a (.str [115,104,114])))])]
abbrev code:IC:=(.reg r0)
abbrev res:List RV:=[]
theorem fn:Body Tryz.prog 98 4 code res:=⟨by decide,Tryz.f98,_,Tryz.func98,rfl,rfl,by kernel_rfl,by kernel_rfl⟩
theorem enters:Xu Tryz.prog 98=true:=by kernel_rfl
end Pi
namespace Pj
abbrev r0:List In:=[mv 2 0,i1 3 (.call 97 [.t 2,(.k (.a (.str [115,97,114])))])]
abbrev code:IC:=(.reg r0)
abbrev res:List RV:=[]
theorem fn:Body Tryz.prog 99 4 code res:=⟨by decide,Tryz.f99,_,Tryz.func99,rfl,rfl,by kernel_rfl,by kernel_rfl⟩
theorem enters:Xu Tryz.prog 99=true:=by kernel_rfl
end Pj
end Go.Proofs.YtddmlennnmpnhaaGreatDoor
namespace Go.Proofs.YtddmlennnmpnhaaGreatDoor
open Go Go.RowKit Vc
set_option linter.unusedVariables false
set_option linter.unusedSimpArgs false
attribute [local irreducible] T Za Zn Ent RdC RwC Yd Ze Zh
set_option maxHeartbeats 1000000 in
set_option maxRecDepth 100000 in
theorem Cn(b:Nat)(w:World)(h0:w.cell? ⟨b,0,none⟩=some (.pointer none))(hsh:w.shape? b=some (132,3))(hfz:w.frozen? ⟨b,0,none⟩=false):
 Calls Tryz.prog 149 #[.pointer (some ⟨b,0,none⟩)] w fun e w'=>e= .returned (.tuple #[])∧w'=w.setCell ⟨b,0,none⟩ (.pointer (some ⟨b,0,none⟩)):=by
 obtain⟨j,hj,hjs⟩:∃j,Tryz.prog.info? 130=some j∧j.size=2:=Option.map_eq_some_iff.1 (by kernel_rfl:(Tryz.prog.info? 130).map (·.size)=some 2)
 go_enter Tryz.func149,Tryz.ntmps149
 go_wp2
 rw[Lib.run_to_unsafe w ⟨b,0,none⟩ Tryz.underlying128 Tryz.underlying221 hj (by rw[hjs];decide) hsh (Nat.zero_lt_succ 2)]
 simp only[Result.andThen]
 rw[Oper.upon_value]
 go_wp2
 rw[run_callFunc_extern Tryz.func176 (by kernel_rfl) (by kernel_rfl) (by kernel_rfl) (e:=Extern.AbiNoEscape.same) (by kernel_rfl)]
 rw[Lib.run_noEscape]
 simp only[Result.andThen]
 rw[Oper.upon_value]
 go_wp2
 rw[Lib.run_from_unsafe w ⟨b,0,none⟩ Tryz.underlying221 Tryz.underlying128 hj hsh (by kernel_rfl)]
 simp only[Result.andThen]
 rw[Oper.upon_value]
 go_wp2
 go_end0
 exact⟨rfl,rfl⟩
theorem Iv(n:Int)(l:Bytes):
 GC Tryz.prog 149 [.a (.loc 0 0)] [(0,.cells 132 [.loc 0 0,.ref 1,.int .i64 n]),(1,.row 5 (.int .u8) l)] 2 [0,1] (.tup []) [(0,.cells 132 [.loc 0 0,.ref 1,.int .i64 n]),(1,.row 5 (.int .u8) l)] 2:=by
 refine⟨(by simp[Zu,Zw,Zv,Zj,Zf,Vc.S1.okN,At.okN,SV.okN,Res.okN,Res.outOk,Zo,Res.own,Value.oneCell']),fun ρ w hm=> ?_⟩
 obtain⟨b,hb,hcell⟩:=hm.res 0 _ (List.mem_cons_self ..)
 have h1:S1.den ρ (.a (.loc 0 0))= .pointer (some ⟨b,0,none⟩):=by simp[S1.den,At.den,Wk,hb]
 simp only[List.map_cons,List.map_nil,h1]
 refine(Iu b w ?_).mono fun e w' ⟨he,hw⟩=>⟨ρ,fun _ _=>rfl,he,hw▸hm⟩
 rw[Lib.cell_of_heap hcell]
 show some (Wk (ρ 0) 0)=_
 rw[hb];rfl
theorem Co(n:Int):
 GC Tryz.prog 149 [.a (.loc 0 0)] [(0,.cells 132 [.raw (.pointer none),.raw (.slice none 0 0),.int .i64 n])] 1 [0] (.tup []) [(0,.cells 132 [.loc 0 0,.raw (.slice none 0 0),.int .i64 n])] 1:=by
 refine⟨(by simp[Zu,Zw,Zv,Zj,Zf,Vc.S1.okN,At.okN,SV.okN,Res.okN,Res.outOk,Zo,Res.own,Value.oneCell']),fun ρ w hm=> ?_⟩
 obtain⟨b,hb,hcell⟩:=hm.res 0 _ (List.mem_cons_self ..)
 have h1:S1.den ρ (.a (.loc 0 0))= .pointer (some ⟨b,0,none⟩):=by simp[S1.den,At.den,Wk,hb]
 simp only[List.map_cons,List.map_nil,h1]
 refine(Cn b w ?_ ?_ ?_).mono fun e w' ⟨he,hw⟩=>⟨ρ,fun _ _=>rfl,he,hw▸ ?_⟩
 ·rw[Lib.cell_of_heap hcell];rfl
 ·simp[World.shape?,hcell]
 ·simp[World.frozen?,hcell]
 ·have hh:(w.setCell ⟨b,0,none⟩ (.pointer (some ⟨b,0,none⟩))).heap[b]? =some (.cells #[.pointer (some ⟨b,0,none⟩),.slice none 0 0,.int .i64 n] 132 (0,0)):=by
   simp only[World.setCell,Array.getElem?_modify,hcell,if_true,Option.map_some]
   rfl
  have:=hm.rewrite (w':=w.setCell ⟨b,0,none⟩ (.pointer (some ⟨b,0,none⟩))) (r':=.cells 132 [.loc 0 0,.raw (.slice none 0 0),.int .i64 n]) (g:=b) (List.mem_cons_self ..) (by simp[Res.block,hb]) (by simp[Res.block,hb]) rfl rfl rfl
   (by simp[World.setCell]) (fun k hk=>by simp only[World.setCell,Array.getElem?_modify];rw[if_neg (fun e=>hk e.symm)]) (by simp[Res.bd,At.bd,Value.oneCell']) (fun O'=>⟨b,hb,by rw[hh];simp[At.den,Wk,hb]⟩)
  simpa[upd,del]using this
theorem Mw(n:Int)(a s:List UInt8)(h:a.length+s.length≤140737488355328):
 GC Tryz.prog 105 [.a (.loc 0 0),.a (.str s)] [(0,.cells 132 [.loc 0 0,.ref 1,.int .i64 n]),(1,.row 5 (.int .u8) (bytesI a))] 2 [0] (.tup [.a (.int .i64 s.length),.a (.raw .nilIface)]) [(0,.cells 132 [.loc 0 0,.ref 2,.int .i64 n]),(2,.row 5 (.int .u8) (bytesI (a++s)))] 3:=by
 rw[←Zav]
 have hl:=Im a
 generalize bytesI a=l at*
 refine Xe.fn.gc (by simp) (by simp[Zu,Zw,Zv,Zj,Zf,Vc.S1.okN,At.okN,SV.okN,Res.okN,Res.outOk,Zo,Res.own,Value.oneCell']) fun w X fr=> ?_
 repeat'(first|(first|refine Stp.h ?_|(refine Za.gc (Iv n l) ?_ ?_;focus simp[Zb]))<;>try simp only[Zc,simprocAttr,↓reduceIte,reduceCtorEq,implies_true]|(with_reducible first|assumption|refine And.intro ?_ ?_)|(intro h;first|omega|exact tg h ‹_›|exact tg ‹_› h|skip))
 all_goals first|omega|skip
theorem N6(n:Int)(s:List UInt8)(h:s.length≤140737488355328):
 GC Tryz.prog 105 [.a (.loc 0 0),.a (.str s)] [(0,.cells 132 [.raw (.pointer none),.raw (.slice none 0 0),.int .i64 n])] 1 [0] (.tup [.a (.int .i64 s.length),.a (.raw .nilIface)]) [(0,.cells 132 [.loc 0 0,.ref 1,.int .i64 n]),(1,.row 5 (.int .u8) (bytesI s))] 2:=by
 refine Xe.fn.gc (by simp) (by simp[Zu,Zw,Zv,Zj,Zf,Vc.S1.okN,At.okN,SV.okN,Res.okN,Res.outOk,Zo,Res.own,Value.oneCell']) fun w X fr=> ?_
 repeat'(first|(first|refine Stp.h ?_|(refine Za.gc (Co n) ?_ ?_;focus simp[Zb]))<;>try simp only[Zc,simprocAttr,↓reduceIte,reduceCtorEq,implies_true]|(with_reducible first|assumption|refine And.intro ?_ ?_)|(intro h;first|omega|exact tg h ‹_›|exact tg ‹_› h|skip))
 all_goals first|omega|skip
theorem Zar(n:Int)(a:List UInt8)(h:a.length+1≤140737488355328):
 GC Tryz.prog 104 [.a (.loc 0 0),.a (.int .u8 9)] [(0,.cells 132 [.loc 0 0,.ref 1,.int .i64 n]),(1,.row 5 (.int .u8) (bytesI a))] 2 [0] (.one (.a (.raw .nilIface))) [(0,.cells 132 [.loc 0 0,.ref 2,.int .i64 n]),(2,.row 5 (.int .u8) (bytesI (a++[9])))] 3:=by
 have e:bytesI (a++[9])=bytesI a++[9]:=(Ce a 9).symm
 rw[e]
 have hl:=Im a
 generalize bytesI a=l at*
 refine W0.fn.gc (by simp) (by simp[Zu,Zw,Zv,Zj,Zf,Vc.S1.okN,At.okN,SV.okN,Res.okN,Res.outOk,Zo,Res.own,Value.oneCell']) fun w X fr=> ?_
 repeat'(first|(first|refine Stp.h ?_|(refine Za.gc (Iv n l) ?_ ?_;focus simp[Zb]))<;>try simp only[Zc,simprocAttr,↓reduceIte,reduceCtorEq,implies_true]|(with_reducible first|assumption|refine And.intro ?_ ?_)|(intro h;first|omega|exact tg h ‹_›|exact tg ‹_› h|skip))
 all_goals first|omega|skip
def Ke(s:List UInt8):List UInt8:=(if Lib.hasSuffix s [58]=true then s else 9::s)++[10]
def putS(ls:List (List UInt8)):List UInt8:=(ls.map Ke).flatten
theorem Q5(a b:List (List UInt8)):putS (a++b)=putS a++putS b:=by simp[putS]
theorem Zgg(ls:List (List UInt8))(k:Nat):(putS (ls.take k)).length≤(putS ls).length:=by
 conv=>rhs;rw[←List.take_append_drop k ls,Q5]
 simp
theorem Gg(G:Nat)(H:Nat→Option Obj)(s p:List UInt8)(hs:s.length≤9223372036854775807):
 GCp G H Tryz.prog 103 [.a (.str s),.a (.str p)] [] 0 [] (.one (.a (.bool (Lib.hasSuffix s p)))) [] 0:=
 GCp.plain (by simp[S1.bd,At.bd]) (by simp[SV.bd,S1.bd,At.bd]) (by simp[Zu,Zw,Zv,Zj,Zf,Vc.S1.okN,At.okN,SV.okN,Res.okN,Res.outOk,Zo,Res.own,Value.oneCell']) fun w hg=>
  (Tryz.strings_HasSuffix ⟨s.toArray⟩ ⟨p.toArray⟩ w (by simpa[ByteArray.size]using hs)).mono fun e w' ⟨he,hw⟩=>⟨he,hw▸Below.refl _ _⟩
theorem Mv(s p:List UInt8)(hs:s.length≤9223372036854775807):
 GC Tryz.prog 103 [.a (.str s),.a (.str p)] [] 0 [] (.one (.a (.bool (Lib.hasSuffix s p)))) [] 0:=(Gg 0 (fun _=>none) s p hs).gc
set_option maxHeartbeats 4000000 in
theorem Zs(n:Int)(acc:List UInt8)(ls:List (List UInt8))(hb:acc.length+(putS ls).length≤1000000)(hl:ls.length≤1000000):
 GC Tryz.prog 77 [.a (.loc 0 0),.a (.ref 2)] [(0,.cells 132 [.loc 0 0,.ref 1,.int .i64 n]),(1,.row 5 (.int .u8) (bytesI acc)),(2,.ro .str ls)] 3 [0] (.tup []) [(0,.cells 132 [.loc 0 0,.ref 3,.int .i64 n]),(3,.row 5 (.int .u8) (bytesI (acc++putS ls)))] 4:=by
 refine T4.fn.gc (by simp) (by simp[Zu,Zw,Zv,Zj,Zf,Vc.S1.okN,At.okN,SV.okN,Res.okN,Res.outOk,Zo,Res.own,Value.oneCell']) fun w X fr=> ?_
 repeat'(first|(first|refine Stp.h ?_)<;>try simp only[Zc,simprocAttr,↓reduceIte,reduceCtorEq,implies_true]|(with_reducible first|assumption|refine And.intro ?_ ?_)|(intro h;first|omega|exact tg h ‹_›|exact tg ‹_› h|skip))
 all_goals first|omega|skip
 refine T.loop (ι:= {k:Nat//k≤ls.length})
  (fun x=>⟨[(8,.one (.a (.int .i64 (x.1:Int)))),(7,.one (.a (.int .i64 ls.length))),(6,.one (.a (.ref 2))),(0,.one (.a (.loc 0 0))),(1000000,.one (.a (.ref 0)))],
    [(0,.cells 132 [.loc 0 0,.ref 1,.int .i64 n]),(1,.row 5 (.int .u8) (bytesI (acc++putS (ls.take x.1)))),(2,.ro .str ls)],3⟩) (fun x=>ls.length-x.1) ⟨0,by simp⟩ (Ent.mk1 (id) (by simp[Zt,putS])) ?_
 rintro⟨k,hk⟩
 simp only
 by_cases hlt:k<ls.length
 ·generalize hx:ls[k]=x
  have hx':ls.getD k (Kd.dflt .str)=x:=by show ls.getD k []=x;simp[List.getD,hlt,hx]
  have htk:putS (ls.take (k+1))=putS (ls.take k)++Ke x:=by
   rw[List.take_add_one,List.getElem?_eq_getElem hlt,hx,Q5]
   simp[putS]
  have hle:=Zgg ls (k+1)
  rw[htk]at hle
  simp only[List.length_append]at hle
  have hxl:x.length+1≤(Ke x).length:=by unfold Ke;split<;>simp
  have hpl:(Ke x).length≤x.length+2:=by unfold Ke;split<;>simp
  have hw:IntKind.i64.wrap ((k:Int)+1)=((k+1:Nat):Int):=Zx (by omega)
  have ht:((k:Int)).toNat=k:=by omega
  generalize ha:acc++putS (ls.take k)=a
  have hal:a.length=acc.length+(putS (ls.take k)).length:=by rw[←ha];simp
  have ha2:acc++putS (ls.take (k+1))=a++Ke x:=by rw[htk,←ha,List.append_assoc]
  have hS:=Mv x [58] (by omega)
  cases hsf:Lib.hasSuffix x [58]
  ·rw[hsf]at hS
   have hp:Ke x=[9]++(x++[10]):=by unfold Ke;rw[hsf];rfl
   have hB:=Zar n a (by omega)
   have hW:=Mw n (a++[9]) (x++[10]) (by simp only[List.length_append,List.length_cons,List.length_nil];omega)
   have ha3:(a++[9])++(x++[10])=a++Ke x:=by rw[hp,List.append_assoc]
   rw[ha3]at hW
   repeat'(first|(first|refine Stp.h ?_|(refine Za.gc hS ?_ ?_;focus simp[Zb];done)|(refine Za.gc hB ?_ ?_;focus simp[Zb];done)|(refine Za.gc hW ?_ ?_;focus simp[Zb];done))<;>try simp only[Zc,simprocAttr,↓reduceIte,reduceCtorEq,implies_true,hx',hw,ht,Int.ofNat_lt]|(with_reducible first|assumption|refine And.intro ?_ ?_)|(intro h;first|omega|exact tg h ‹_›|exact tg ‹_› h|skip))
   all_goals first|omega|skip
   exact⟨⟨k+1,hlt⟩,(Ent.mk1 (fun n=>if n=1 then 4 else n) (by simp[Zt,ha2,hw])),by simp only;omega⟩
  ·rw[hsf]at hS
   have hp:Ke x=x++[10]:=by unfold Ke;rw[hsf];rfl
   have hW:=Mw n a (x++[10]) (by simp only[List.length_append,List.length_cons,List.length_nil];omega)
   have ha3:a++(x++[10])=a++Ke x:=by rw[hp]
   rw[ha3]at hW
   repeat'(first|(first|refine Stp.h ?_|(refine Za.gc hS ?_ ?_;focus simp[Zb];done)|(refine Za.gc hW ?_ ?_;focus simp[Zb];done))<;>try simp only[Zc,simprocAttr,↓reduceIte,reduceCtorEq,implies_true,hx',hw,ht,Int.ofNat_lt]|(with_reducible first|assumption|refine And.intro ?_ ?_)|(intro h;first|omega|exact tg h ‹_›|exact tg ‹_› h|skip))
   all_goals first|omega|skip
   exact⟨⟨k+1,hlt⟩,(Ent.mk1 (fun n=>if n=1 then 3 else n) (by simp[Zt,ha2,hw])),by simp only;omega⟩
 ·have hk2:k=ls.length:=by omega
  subst hk2
  rw[List.take_length]
  repeat'(first|(first|refine Stp.h ?_)<;>try simp only[Zc,simprocAttr,↓reduceIte,reduceCtorEq,implies_true,Int.ofNat_lt]|(with_reducible first|assumption|refine And.intro ?_ ?_)|(intro h;first|omega|exact tg h ‹_›|exact tg ‹_› h|skip))
  all_goals first|omega|skip
end Go.Proofs.YtddmlennnmpnhaaGreatDoor
