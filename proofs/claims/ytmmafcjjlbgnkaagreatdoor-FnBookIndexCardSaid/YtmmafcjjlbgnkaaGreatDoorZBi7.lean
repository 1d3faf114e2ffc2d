/- What the proof rests on, part 7: contracts of functions. No condition beyond what each states. -/
import Derived.Test.YtmmafcjjlbgnkaaGreatDoorZBi6
namespace Go.Proofs.YtmmafcjjlbgnkaaGreatDoor
open Go.RowKit
open Nat renaming reduceEqDiff→Rq,reduceBEq→Rb,reduceAdd→Ra,reduceSub→Rs
open Int renaming reduceToNat→Rt
set_option linter.all false
set_option maxHeartbeats 32000000
noncomputable section
end
end Go.Proofs.YtmmafcjjlbgnkaaGreatDoor
namespace Go.Proofs
open Go.Shelf
def YtmmafcjjlbgnkaaGreatDoor.yh:Go.Shelf.Ren:=⟨fun|156=>76|165=>107|166=>108|169=>109|240=>149|241=>150|276=>199|277=>200|n=>n,fun|31=>24|9=>9|3=>3|4=>4|0=>0|20=>20|72=>124|76=>94|70=>122|37=>22|75=>93|127=>176|164=>210|5=>5|80=>126|n=>n,fun|n=>n⟩
theorem YtmmafcjjlbgnkaaGreatDoor.aop:Go.Proofs.Lays.n156 Tryz.prog YtmmafcjjlbgnkaaGreatDoor.yh:={
 mixed:=by kernel_rfl
 f156:=Tryz.func76.trans (congrArg some (by kernel_rfl))
 f165:=Tryz.func107.trans (congrArg some (by kernel_rfl))
 f166:=Tryz.func108.trans (congrArg some (by kernel_rfl))
 f169:=Tryz.func109.trans (congrArg some (by kernel_rfl))
 f240:=Tryz.func149.trans (congrArg some (by kernel_rfl))
 f241:=Tryz.func150.trans (congrArg some (by kernel_rfl))
 f276:=Tryz.func199.trans (congrArg some (by kernel_rfl))
 f277:=Tryz.func200.trans (congrArg some (by kernel_rfl))
 t0:=Tryz.underlying0
 a0:=Tryz.isAgg0
 z0:=Tryz.sizeOf0
 v0:=Tryz.zeroValue0
 t3:=Tryz.underlying3
 a3:=Tryz.isAgg3
 z3:=Tryz.sizeOf3
 v3:=Tryz.zeroValue3
 t4:=Tryz.underlying4
 a4:=Tryz.isAgg4
 z4:=Tryz.sizeOf4
 v4:=Tryz.zeroValue4
 t9:=Tryz.underlying9
 a9:=Tryz.isAgg9
 z9:=Tryz.sizeOf9
 v9:=Tryz.zeroValue9
 t20:=Tryz.underlying20
 a20:=Tryz.isAgg20
 z20:=Tryz.sizeOf20
 v20:=Tryz.zeroValue20
 t31:=Tryz.underlying24
 a31:=Tryz.isAgg24
 z31:=Tryz.sizeOf24
 v31:=Tryz.zeroValue24
 t37:=Tryz.underlying22
 a37:=Tryz.isAgg22
 z37:=Tryz.sizeOf22
 v37:=Tryz.zeroValue22
 t70:=Tryz.underlying122
 a70:=Tryz.isAgg122
 z70:=Tryz.sizeOf122
 v70:=Tryz.zeroValue122
 t72:=Tryz.underlying124
 a72:=Tryz.isAgg124
 z72:=Tryz.sizeOf124
 v72:=Tryz.zeroValue124
 t75:=Tryz.underlying93
 a75:=Tryz.isAgg93
 z75:=Tryz.sizeOf93
 v75:=Tryz.zeroValue93
 t76:=Tryz.underlying94
 a76:=Tryz.isAgg94
 z76:=Tryz.sizeOf94
 v76:=Tryz.zeroValue94
 t127:=Tryz.underlying176
 a127:=Tryz.isAgg176
 z127:=Tryz.sizeOf176
 v127:=Tryz.zeroValue176
 t164:=Tryz.underlying210
 a164:=Tryz.isAgg210
 z164:=Tryz.sizeOf210
 v164:=Tryz.zeroValue210}
theorem YtmmafcjjlbgnkaaGreatDoor.lI:Builder.Extra Tryz.prog YtmmafcjjlbgnkaaGreatDoor.yh:={
 sizeBuilder:=by kernel_rfl
 liesBuilder:=by kernel_rfl
 t5:=Tryz.underlying5
 a5:=Tryz.isAgg5
 z5:=Tryz.sizeOf5
 v5:=Tryz.zeroValue5
 infoByte:=by kernel_rfl
 cellsByte:=by kernel_rfl
 sizeByte:=by kernel_rfl
 neB5:=by decide}
open Go.RowKit in
theorem YtmmafcjjlbgnkaaGreatDoor.strings_Join_none (a:Option Addr) (c:Nat) (sep:ByteArray) (w:World):
 Calls Tryz.prog 76 #[.slice a 0 c,.string sep] w fun e w'=>e=.returned (.string ⟨#[]⟩)∧w'=w:=Any.strings_Join_none YtmmafcjjlbgnkaaGreatDoor.aop YtmmafcjjlbgnkaaGreatDoor.lI a c sep w
open Go.RowKit in
theorem YtmmafcjjlbgnkaaGreatDoor.strings_Join (bk o c:Nat) (xs:List ByteArray) (sep:ByteArray) (w:World) (hcells:∀(j:Nat) x,xs[j]?=some x→w.cell? ⟨bk,o+j,none⟩=some (.string x)) (hbk:bk<w.heap.size) (hN:xs.length≤140737488355328) (hcap:xs.length≤c) (hlen:(Lib.join (xs.map (·.data.toList)) sep.data.toList).length≤140737488355328):
 Calls Tryz.prog 76 #[.slice (some ⟨bk,o,none⟩) xs.length c,.string sep] w fun e w'=>e=.returned (.string ⟨(Lib.join (xs.map (·.data.toList)) sep.data.toList).toArray⟩)∧Below w.heap.size w w':=Any.strings_Join YtmmafcjjlbgnkaaGreatDoor.aop YtmmafcjjlbgnkaaGreatDoor.lI bk o c xs sep w hcells hbk hN hcap hlen
def YtmmafcjjlbgnkaaGreatDoor.aeR:Go.Shelf.Ren:=⟨fun|137=>234|217=>188|266=>225|n=>n,fun|9=>9|5=>5|3=>3|n=>n,fun|n=>n⟩
theorem YtmmafcjjlbgnkaaGreatDoor.avX:Go.Proofs.Lays.n137 Tryz.prog YtmmafcjjlbgnkaaGreatDoor.aeR:={
 mixed:=by kernel_rfl
 f137:=Tryz.func234.trans (congrArg some (by kernel_rfl))
 f217:=Tryz.func188.trans (congrArg some (by kernel_rfl))
 f266:=Tryz.func225.trans (congrArg some (by kernel_rfl))
 t3:=Tryz.underlying3
 a3:=Tryz.isAgg3
 z3:=Tryz.sizeOf3
 v3:=Tryz.zeroValue3
 t5:=Tryz.underlying5
 a5:=Tryz.isAgg5
 z5:=Tryz.sizeOf5
 v5:=Tryz.zeroValue5
 t9:=Tryz.underlying9
 a9:=Tryz.isAgg9
 z9:=Tryz.sizeOf9
 v9:=Tryz.zeroValue9}
open Go.RowKit in
theorem YtmmafcjjlbgnkaaGreatDoor.strings_IndexByte (s:ByteArray) (c:Int) (w:World):
 Calls Tryz.prog 234 #[.string s,.int .u8 c] w fun e w'=>e=.returned (.int .i64 (Lib.indexByte s.data.toList c.toNat.toUInt8))∧w'=w:=Any.strings_IndexByte YtmmafcjjlbgnkaaGreatDoor.avX s c w
def YtmmafcjjlbgnkaaGreatDoor.acg:Go.Shelf.Ren:=⟨fun|171=>39|243=>74|246=>104|283=>140|284=>141|285=>142|286=>143|129=>161|317=>192|318=>193|319=>194|320=>195|337=>227|338=>228|n=>n,fun|3=>3|9=>9|2=>2|4=>4|171=>164|0=>0|53=>165|37=>22|5=>5|173=>168|212=>202|51=>186|20=>20|213=>203|46=>131|232=>241|233=>242|n=>n,fun|17=>1|18=>6|19=>7|n=>n⟩
theorem YtmmafcjjlbgnkaaGreatDoor.asj:Go.Proofs.LaysM.n171 Tryz.prog YtmmafcjjlbgnkaaGreatDoor.acg:={
 mixed:=by kernel_rfl
 f129:=Tryz.func161.trans (congrArg some (by kernel_rfl))
 f171:=Tryz.func39.trans (congrArg some (by kernel_rfl))
 f243:=Tryz.func74.trans (congrArg some (by kernel_rfl))
 f246:=Tryz.func104.trans (congrArg some (by kernel_rfl))
 f283:=Tryz.func140.trans (congrArg some (by kernel_rfl))
 f284:=Tryz.func141.trans (congrArg some (by kernel_rfl))
 f285:=Tryz.func142.trans (congrArg some (by kernel_rfl))
 f286:=Tryz.func143.trans (congrArg some (by kernel_rfl))
 f317:=Tryz.func192.trans (congrArg some (by kernel_rfl))
 f318:=Tryz.func193.trans (congrArg some (by kernel_rfl))
 f319:=Tryz.func194.trans (congrArg some (by kernel_rfl))
 f320:=Tryz.func195.trans (congrArg some (by kernel_rfl))
 f337:=Tryz.func227.trans (congrArg some (by kernel_rfl))
 f338:=Tryz.func228.trans (congrArg some (by kernel_rfl))
 t0:=Tryz.underlying0
 a0:=Tryz.isAgg0
 z0:=Tryz.sizeOf0
 v0:=Tryz.zeroValue0
 t2:=Tryz.underlying2
 a2:=Tryz.isAgg2
 z2:=Tryz.sizeOf2
 v2:=Tryz.zeroValue2
 t3:=Tryz.underlying3
 a3:=Tryz.isAgg3
 z3:=Tryz.sizeOf3
 v3:=Tryz.zeroValue3
 t4:=Tryz.underlying4
 a4:=Tryz.isAgg4
 z4:=Tryz.sizeOf4
 v4:=Tryz.zeroValue4
 t5:=Tryz.underlying5
 a5:=Tryz.isAgg5
 z5:=Tryz.sizeOf5
 v5:=Tryz.zeroValue5
 t9:=Tryz.underlying9
 a9:=Tryz.isAgg9
 z9:=Tryz.sizeOf9
 v9:=Tryz.zeroValue9
 t20:=Tryz.underlying20
 a20:=Tryz.isAgg20
 z20:=Tryz.sizeOf20
 v20:=Tryz.zeroValue20
 t37:=Tryz.underlying22
 a37:=Tryz.isAgg22
 z37:=Tryz.sizeOf22
 v37:=Tryz.zeroValue22
 t46:=Tryz.underlying131
 a46:=Tryz.isAgg131
 z46:=Tryz.sizeOf131
 v46:=Tryz.zeroValue131
 t51:=Tryz.underlying186
 a51:=Tryz.isAgg186
 z51:=Tryz.sizeOf186
 v51:=Tryz.zeroValue186
 t53:=Tryz.underlying165
 a53:=Tryz.isAgg165
 z53:=Tryz.sizeOf165
 v53:=Tryz.zeroValue165
 t171:=Tryz.underlying164
 a171:=Tryz.isAgg164
 z171:=Tryz.sizeOf164
 v171:=Tryz.zeroValue164
 t173:=Tryz.underlying168
 a173:=Tryz.isAgg168
 z173:=Tryz.sizeOf168
 v173:=Tryz.zeroValue168
 t212:=Tryz.underlying202
 a212:=Tryz.isAgg202
 z212:=Tryz.sizeOf202
 v212:=Tryz.zeroValue202
 t213:=Tryz.underlying203
 a213:=Tryz.isAgg203
 z213:=Tryz.sizeOf203
 t232:=Tryz.underlying241
 a232:=Tryz.isAgg241
 z232:=Tryz.sizeOf241
 v232:=Tryz.zeroValue241
 t233:=Tryz.underlying242
 a233:=Tryz.isAgg242
 z233:=Tryz.sizeOf242
 v233:=Tryz.zeroValue242
 g17:=by kernel_rfl
 g18:=by kernel_rfl
 g19:=by kernel_rfl
 i0:=by kernel_rfl
 i2:=by kernel_rfl
 i3:=by kernel_rfl
 i4:=by kernel_rfl
 i5:=by kernel_rfl
 i9:=by kernel_rfl
 i20:=by kernel_rfl
 i37:=by kernel_rfl
 i46:=by kernel_rfl
 i51:=by kernel_rfl
 i53:=by kernel_rfl
 i171:=by kernel_rfl
 i173:=by kernel_rfl
 i212:=by kernel_rfl
 i232:=by kernel_rfl
 i233:=by kernel_rfl
 m17:=by kernel_rfl
 m18:=by kernel_rfl
 m19:=by kernel_rfl}
open Go.RowKit Go.Sort Go.Lib in
theorem YtmmafcjjlbgnkaaGreatDoor.strconv_Itoa (n:Int) (h0:-9223372036854775808≤n) (h1:n≤9223372036854775807) (w:World) (htab:Lib.TabIs Tryz.prog w "internal/strconv.uint64pow10" .u64 Lib.pow10Tab):
 Calls Tryz.prog 39 #[.int .i64 n] w fun e w'=>e=.returned (.string ⟨(Lib.itoa n).toArray⟩)∧∃k os,w'=grow (w.drewN k) os:=Any.strconv_Itoa YtmmafcjjlbgnkaaGreatDoor.asj n h0 h1 w htab
def YtmmafcjjlbgnkaaGreatDoor.aej:Go.Shelf.Ren:=⟨fun|143=>103|219=>139|217=>188|225=>189|224=>190|267=>191|266=>225|314=>226|n=>n,fun|9=>9|3=>3|4=>4|5=>5|46=>131|146=>229|51=>186|n=>n,fun|1=>0|n=>n⟩
theorem YtmmafcjjlbgnkaaGreatDoor.au0:Go.Proofs.Lays.n143 Tryz.prog YtmmafcjjlbgnkaaGreatDoor.aej:={
 mixed:=by kernel_rfl
 f143:=Tryz.func103.trans (congrArg some (by kernel_rfl))
 f217:=Tryz.func188.trans (congrArg some (by kernel_rfl))
 f219:=Tryz.func139.trans (congrArg some (by kernel_rfl))
 f224:=Tryz.func190.trans (congrArg some (by kernel_rfl))
 f225:=Tryz.func189.trans (congrArg some (by kernel_rfl))
 f266:=Tryz.func225.trans (congrArg some (by kernel_rfl))
 f267:=Tryz.func191.trans (congrArg some (by kernel_rfl))
 f314:=Tryz.func226.trans (congrArg some (by kernel_rfl))
 t3:=Tryz.underlying3
 a3:=Tryz.isAgg3
 z3:=Tryz.sizeOf3
 v3:=Tryz.zeroValue3
 t4:=Tryz.underlying4
 a4:=Tryz.isAgg4
 z4:=Tryz.sizeOf4
 v4:=Tryz.zeroValue4
 t5:=Tryz.underlying5
 a5:=Tryz.isAgg5
 z5:=Tryz.sizeOf5
 v5:=Tryz.zeroValue5
 t9:=Tryz.underlying9
 a9:=Tryz.isAgg9
 z9:=Tryz.sizeOf9
 v9:=Tryz.zeroValue9
 t46:=Tryz.underlying131
 a46:=Tryz.isAgg131
 z46:=Tryz.sizeOf131
 v46:=Tryz.zeroValue131
 t51:=Tryz.underlying186
 a51:=Tryz.isAgg186
 z51:=Tryz.sizeOf186
 v51:=Tryz.zeroValue186
 t146:=Tryz.underlying229
 a146:=Tryz.isAgg229
 z146:=Tryz.sizeOf229
 v146:=Tryz.zeroValue229
 g1:=by kernel_rfl}
open Go.RowKit Go.Lib in
theorem YtmmafcjjlbgnkaaGreatDoor.strings_Index_one (s:ByteArray) (c:UInt8) (w:World):
 Calls Tryz.prog 103 #[.string s,.string ⟨#[c]⟩] w fun e w'=>e=.returned (.int .i64 (Lib.indexByte s.data.toList c))∧w'=w:=Any.strings_Index_one YtmmafcjjlbgnkaaGreatDoor.au0 s c w
def YtmmafcjjlbgnkaaGreatDoor.afw:Go.Shelf.Ren:=⟨fun|138=>102|195=>136|218=>138|143=>103|219=>139|217=>188|225=>189|224=>190|267=>191|266=>225|314=>226|n=>n,fun|9=>9|3=>3|4=>4|5=>5|0=>0|46=>131|146=>229|51=>186|n=>n,fun|1=>0|n=>n⟩
theorem YtmmafcjjlbgnkaaGreatDoor.axV:Go.Proofs.Lays.n138 Tryz.prog YtmmafcjjlbgnkaaGreatDoor.afw:={
 mixed:=by kernel_rfl
 f138:=Tryz.func102.trans (congrArg some (by kernel_rfl))
 f143:=Tryz.func103.trans (congrArg some (by kernel_rfl))
 f195:=Tryz.func136.trans (congrArg some (by kernel_rfl))
 f217:=Tryz.func188.trans (congrArg some (by kernel_rfl))
 f218:=Tryz.func138.trans (congrArg some (by kernel_rfl))
 f219:=Tryz.func139.trans (congrArg some (by kernel_rfl))
 f224:=Tryz.func190.trans (congrArg some (by kernel_rfl))
 f225:=Tryz.func189.trans (congrArg some (by kernel_rfl))
 f266:=Tryz.func225.trans (congrArg some (by kernel_rfl))
 f267:=Tryz.func191.trans (congrArg some (by kernel_rfl))
 f314:=Tryz.func226.trans (congrArg some (by kernel_rfl))
 t0:=Tryz.underlying0
 a0:=Tryz.isAgg0
 z0:=Tryz.sizeOf0
 v0:=Tryz.zeroValue0
 t3:=Tryz.underlying3
 a3:=Tryz.isAgg3
 z3:=Tryz.sizeOf3
 v3:=Tryz.zeroValue3
 t4:=Tryz.underlying4
 a4:=Tryz.isAgg4
 z4:=Tryz.sizeOf4
 v4:=Tryz.zeroValue4
 t5:=Tryz.underlying5
 a5:=Tryz.isAgg5
 z5:=Tryz.sizeOf5
 v5:=Tryz.zeroValue5
 t9:=Tryz.underlying9
 a9:=Tryz.isAgg9
 z9:=Tryz.sizeOf9
 v9:=Tryz.zeroValue9
 t46:=Tryz.underlying131
 a46:=Tryz.isAgg131
 z46:=Tryz.sizeOf131
 v46:=Tryz.zeroValue131
 t51:=Tryz.underlying186
 a51:=Tryz.isAgg186
 z51:=Tryz.sizeOf186
 v51:=Tryz.zeroValue186
 t146:=Tryz.underlying229
 a146:=Tryz.isAgg229
 z146:=Tryz.sizeOf229
 v146:=Tryz.zeroValue229
 g1:=by kernel_rfl}
open Go.RowKit Go.Lib in
theorem YtmmafcjjlbgnkaaGreatDoor.strings_Count_one (s:ByteArray) (c:UInt8) (w:World):
 Calls Tryz.prog 102 #[.string s,.string ⟨#[c]⟩] w fun e w'=>e=.returned (.int .i64 (Lib.countByte s.data.toList c))∧w'=w:=Any.strings_Count_one YtmmafcjjlbgnkaaGreatDoor.axV s c w
def YtmmafcjjlbgnkaaGreatDoor.afC:Go.Shelf.Ren:=⟨fun|100=>44|207=>78|n=>n,fun|9=>9|4=>4|3=>3|n=>n,fun|n=>n⟩
theorem YtmmafcjjlbgnkaaGreatDoor.av8:Go.Proofs.Lays.n100 Tryz.prog YtmmafcjjlbgnkaaGreatDoor.afC:={
 mixed:=by kernel_rfl
 f100:=Tryz.func44.trans (congrArg some (by kernel_rfl))
 f207:=Tryz.func78.trans (congrArg some (by kernel_rfl))
 t3:=Tryz.underlying3
 a3:=Tryz.isAgg3
 z3:=Tryz.sizeOf3
 v3:=Tryz.zeroValue3
 t4:=Tryz.underlying4
 a4:=Tryz.isAgg4
 z4:=Tryz.sizeOf4
 v4:=Tryz.zeroValue4
 t9:=Tryz.underlying9
 a9:=Tryz.isAgg9
 z9:=Tryz.sizeOf9
 v9:=Tryz.zeroValue9}
open Go.RowKit Go.Lib in
theorem YtmmafcjjlbgnkaaGreatDoor.strings_HasSuffix (s p:ByteArray) (w:World) (hs:s.size≤9223372036854775807):
 Calls Tryz.prog 44 #[.string s,.string p] w fun e w'=>e=.returned (.bool (Lib.hasSuffix s.data.toList p.data.toList))∧w'=w:=Any.strings_HasSuffix YtmmafcjjlbgnkaaGreatDoor.av8 s p w hs
def YtmmafcjjlbgnkaaGreatDoor.aeZ:Go.Shelf.Ren:=⟨fun|102=>43|209=>77|207=>78|n=>n,fun|9=>9|4=>4|3=>3|n=>n,fun|n=>n⟩
theorem YtmmafcjjlbgnkaaGreatDoor.ayj:Go.Proofs.Lays.n102 Tryz.prog YtmmafcjjlbgnkaaGreatDoor.aeZ:={
 mixed:=by kernel_rfl
 f102:=Tryz.func43.trans (congrArg some (by kernel_rfl))
 f207:=Tryz.func78.trans (congrArg some (by kernel_rfl))
 f209:=Tryz.func77.trans (congrArg some (by kernel_rfl))
 t3:=Tryz.underlying3
 a3:=Tryz.isAgg3
 z3:=Tryz.sizeOf3
 v3:=Tryz.zeroValue3
 t4:=Tryz.underlying4
 a4:=Tryz.isAgg4
 z4:=Tryz.sizeOf4
 v4:=Tryz.zeroValue4
 t9:=Tryz.underlying9
 a9:=Tryz.isAgg9
 z9:=Tryz.sizeOf9
 v9:=Tryz.zeroValue9}
open Go.RowKit Go.Lib in
theorem YtmmafcjjlbgnkaaGreatDoor.strings_TrimSuffix (s p:ByteArray) (w:World) (hs:s.size≤9223372036854775807):
 Calls Tryz.prog 43 #[.string s,.string p] w fun e w'=>e=.returned (.string ⟨(Lib.trimSuffix s.data.toList p.data.toList).toArray⟩)∧w'=w:=Any.strings_TrimSuffix YtmmafcjjlbgnkaaGreatDoor.ayj s p w hs
def YtmmafcjjlbgnkaaGreatDoor.aft:Go.Shelf.Ren:=⟨fun|221=>73|268=>101|138=>102|143=>103|195=>136|197=>137|218=>138|219=>139|260=>187|217=>188|225=>189|224=>190|267=>191|266=>225|314=>226|n=>n,fun|9=>9|3=>3|31=>24|4=>4|0=>0|105=>161|21=>21|5=>5|46=>131|119=>225|139=>228|138=>227|146=>229|51=>186|n=>n,fun|1=>0|3=>4|4=>5|n=>n⟩
theorem YtmmafcjjlbgnkaaGreatDoor.avr:Go.Proofs.Lays.n221 Tryz.prog YtmmafcjjlbgnkaaGreatDoor.aft:={
 mixed:=by kernel_rfl
 f138:=Tryz.func102.trans (congrArg some (by kernel_rfl))
 f143:=Tryz.func103.trans (congrArg some (by kernel_rfl))
 f195:=Tryz.func136.trans (congrArg some (by kernel_rfl))
 f197:=Tryz.func137.trans (congrArg some (by kernel_rfl))
 f217:=Tryz.func188.trans (congrArg some (by kernel_rfl))
 f218:=Tryz.func138.trans (congrArg some (by kernel_rfl))
 f219:=Tryz.func139.trans (congrArg some (by kernel_rfl))
 f221:=Tryz.func73.trans (congrArg some (by kernel_rfl))
 f224:=Tryz.func190.trans (congrArg some (by kernel_rfl))
 f225:=Tryz.func189.trans (congrArg some (by kernel_rfl))
 f260:=Tryz.func187.trans (congrArg some (by kernel_rfl))
 f266:=Tryz.func225.trans (congrArg some (by kernel_rfl))
 f267:=Tryz.func191.trans (congrArg some (by kernel_rfl))
 f268:=Tryz.func101.trans (congrArg some (by kernel_rfl))
 f314:=Tryz.func226.trans (congrArg some (by kernel_rfl))
 t0:=Tryz.underlying0
 a0:=Tryz.isAgg0
 z0:=Tryz.sizeOf0
 v0:=Tryz.zeroValue0
 t3:=Tryz.underlying3
 a3:=Tryz.isAgg3
 z3:=Tryz.sizeOf3
 v3:=Tryz.zeroValue3
 t4:=Tryz.underlying4
 a4:=Tryz.isAgg4
 z4:=Tryz.sizeOf4
 v4:=Tryz.zeroValue4
 t5:=Tryz.underlying5
 a5:=Tryz.isAgg5
 z5:=Tryz.sizeOf5
 v5:=Tryz.zeroValue5
 t9:=Tryz.underlying9
 a9:=Tryz.isAgg9
 z9:=Tryz.sizeOf9
 v9:=Tryz.zeroValue9
 t21:=Tryz.underlying21
 a21:=Tryz.isAgg21
 z21:=Tryz.sizeOf21
 v21:=Tryz.zeroValue21
 t31:=Tryz.underlying24
 a31:=Tryz.isAgg24
 z31:=Tryz.sizeOf24
 v31:=Tryz.zeroValue24
 t46:=Tryz.underlying131
 a46:=Tryz.isAgg131
 z46:=Tryz.sizeOf131
 v46:=Tryz.zeroValue131
 t51:=Tryz.underlying186
 a51:=Tryz.isAgg186
 z51:=Tryz.sizeOf186
 v51:=Tryz.zeroValue186
 t105:=Tryz.underlying161
 a105:=Tryz.isAgg161
 z105:=Tryz.sizeOf161
 v105:=Tryz.zeroValue161
 t119:=Tryz.underlying225
 a119:=Tryz.isAgg225
 z119:=Tryz.sizeOf225
 t138:=Tryz.underlying227
 a138:=Tryz.isAgg227
 z138:=Tryz.sizeOf227
 v138:=Tryz.zeroValue227
 t139:=Tryz.underlying228
 a139:=Tryz.isAgg228
 z139:=Tryz.sizeOf228
 v139:=Tryz.zeroValue228
 t146:=Tryz.underlying229
 a146:=Tryz.isAgg229
 z146:=Tryz.sizeOf229
 v146:=Tryz.zeroValue229
 g1:=by kernel_rfl
 g3:=by kernel_rfl
 g4:=by kernel_rfl}
def YtmmafcjjlbgnkaaGreatDoor.aau:Go.Shelf.Ren:=⟨fun|20=>84|n=>n,fun|22=>48|3=>3|4=>4|0=>0|n=>n,fun|n=>n⟩
theorem YtmmafcjjlbgnkaaGreatDoor.alj:Go.Proofs.Lays2.n20 Tryz.prog YtmmafcjjlbgnkaaGreatDoor.aau:={
 mixed:=by kernel_rfl
 f20:=Tryz.func84.trans (congrArg some (by kernel_rfl))
 t0:=Tryz.underlying0
 a0:=Tryz.isAgg0
 z0:=Tryz.sizeOf0
 v0:=Tryz.zeroValue0
 t3:=Tryz.underlying3
 a3:=Tryz.isAgg3
 z3:=Tryz.sizeOf3
 v3:=Tryz.zeroValue3
 t4:=Tryz.underlying4
 a4:=Tryz.isAgg4
 z4:=Tryz.sizeOf4
 v4:=Tryz.zeroValue4
 t22:=Tryz.underlying48
 a22:=Tryz.isAgg48
 z22:=Tryz.sizeOf48
 v22:=Tryz.zeroValue48
 i3:=by kernel_rfl}
open Go.RowKit Go.Lib Go.Sort in
theorem YtmmafcjjlbgnkaaGreatDoor.slices_Compact_int (blk off cap:Nat) (zs:List Int) (w:World) (hH:Holds (Value.int .i64) w blk off zs.toArray) (hsz:zs.length≤9223372036854775807) (hcap:zs.length≤cap):
 Calls Tryz.prog 84 #[.slice (some ⟨blk,off,none⟩) zs.length cap] w fun e w'=>e=.returned (.slice (some ⟨blk,off,none⟩) (Lib.compact zs).length cap)∧∃q,w'=putRow (Value.int .i64) (Sort.ahead w q) blk off (Lib.compact zs++List.replicate (zs.length-(Lib.compact zs).length) 0).toArray:=Any.slices_Compact_int YtmmafcjjlbgnkaaGreatDoor.alj blk off cap zs w hH hsz hcap
def YtmmafcjjlbgnkaaGreatDoor.uQ:Go.Shelf.Ren:=⟨fun|5=>83|8=>113|7=>112|19=>160|20=>161|10=>151|11=>152|12=>153|13=>154|14=>155|15=>156|16=>157|17=>158|18=>159|30=>201|31=>202|32=>203|33=>204|34=>205|35=>206|40=>231|n=>n,fun|23=>48|25=>3|3=>3|32=>131|22=>48|0=>0|44=>186|46=>165|4=>4|36=>179|35=>178|41=>65|5=>5|9=>9|53=>213|57=>217|63=>235|64=>236|n=>n,fun|n=>n⟩
theorem YtmmafcjjlbgnkaaGreatDoor.acA:Go.Proofs.SlLaysM.n5 Tryz.prog YtmmafcjjlbgnkaaGreatDoor.uQ:={
 mixed:=by kernel_rfl
 f5:=⟨Tryz.f83.name,by decide,Tryz.func83.trans (congrArg some (by kernel_rfl))⟩
 f7:=⟨Tryz.f112.name,by decide,Tryz.func112.trans (congrArg some (by kernel_rfl))⟩
 f8:=Tryz.func113.trans (congrArg some (by kernel_rfl))
 f10:=⟨Tryz.f151.name,by decide,Tryz.func151.trans (congrArg some (by kernel_rfl))⟩
 f11:=⟨Tryz.f152.name,by decide,Tryz.func152.trans (congrArg some (by kernel_rfl))⟩
 f12:=⟨Tryz.f153.name,by decide,Tryz.func153.trans (congrArg some (by kernel_rfl))⟩
 f13:=⟨Tryz.f154.name,by decide,Tryz.func154.trans (congrArg some (by kernel_rfl))⟩
 f14:=⟨Tryz.f155.name,by decide,Tryz.func155.trans (congrArg some (by kernel_rfl))⟩
 f15:=⟨Tryz.f156.name,by decide,Tryz.func156.trans (congrArg some (by kernel_rfl))⟩
 f16:=⟨Tryz.f157.name,by decide,Tryz.func157.trans (congrArg some (by kernel_rfl))⟩
 f17:=⟨Tryz.f158.name,by decide,Tryz.func158.trans (congrArg some (by kernel_rfl))⟩
 f18:=⟨Tryz.f159.name,by decide,Tryz.func159.trans (congrArg some (by kernel_rfl))⟩
 f19:=Tryz.func160.trans (congrArg some (by kernel_rfl))
 f20:=Tryz.func161.trans (congrArg some (by kernel_rfl))
 f30:=⟨Tryz.f201.name,by decide,Tryz.func201.trans (congrArg some (by kernel_rfl))⟩
 f31:=Tryz.func202.trans (congrArg some (by kernel_rfl))
 f32:=Tryz.func203.trans (congrArg some (by kernel_rfl))
 f33:=⟨Tryz.f204.name,by decide,Tryz.func204.trans (congrArg some (by kernel_rfl))⟩
 f34:=⟨Tryz.f205.name,by decide,Tryz.func205.trans (congrArg some (by kernel_rfl))⟩
 f35:=⟨Tryz.f206.name,by decide,Tryz.func206.trans (congrArg some (by kernel_rfl))⟩
 f40:=⟨Tryz.f231.name,by decide,Tryz.func231.trans (congrArg some (by kernel_rfl))⟩
 t0:=Tryz.underlying0
 a0:=Tryz.isAgg0
 z0:=Tryz.sizeOf0
 v0:=Tryz.zeroValue0
 t3:=Tryz.underlying3
 a3:=Tryz.isAgg3
 z3:=Tryz.sizeOf3
 v3:=Tryz.zeroValue3
 t4:=Tryz.underlying4
 a4:=Tryz.isAgg4
 z4:=Tryz.sizeOf4
 v4:=Tryz.zeroValue4
 t5:=Tryz.underlying5
 a5:=Tryz.isAgg5
 z5:=Tryz.sizeOf5
 v5:=Tryz.zeroValue5
 t9:=Tryz.underlying9
 a9:=Tryz.isAgg9
 z9:=Tryz.sizeOf9
 v9:=Tryz.zeroValue9
 t22:=Tryz.underlying48
 a22:=Tryz.isAgg48
 z22:=Tryz.sizeOf48
 v22:=Tryz.zeroValue48
 t23:=Tryz.underlying48
 a23:=Tryz.isAgg48
 z23:=Tryz.sizeOf48
 v23:=Tryz.zeroValue48
 t25:=Tryz.underlying3
 a25:=Tryz.isAgg3
 z25:=Tryz.sizeOf3
 v25:=Tryz.zeroValue3
 t32:=Tryz.underlying131
 a32:=Tryz.isAgg131
 z32:=Tryz.sizeOf131
 v32:=Tryz.zeroValue131
 t35:=Tryz.underlying178
 a35:=Tryz.isAgg178
 z35:=Tryz.sizeOf178
 v35:=Tryz.zeroValue178
 t36:=Tryz.underlying179
 a36:=Tryz.isAgg179
 z36:=Tryz.sizeOf179
 v36:=Tryz.zeroValue179
 t41:=Tryz.underlying65
 a41:=Tryz.isAgg65
 z41:=Tryz.sizeOf65
 v41:=Tryz.zeroValue65
 t44:=Tryz.underlying186
 a44:=Tryz.isAgg186
 z44:=Tryz.sizeOf186
 v44:=Tryz.zeroValue186
 t46:=Tryz.underlying165
 a46:=Tryz.isAgg165
 z46:=Tryz.sizeOf165
 v46:=Tryz.zeroValue165
 t53:=Tryz.underlying213
 a53:=Tryz.isAgg213
 z53:=Tryz.sizeOf213
 v53:=Tryz.zeroValue213
 t57:=Tryz.underlying217
 a57:=Tryz.isAgg217
 z57:=Tryz.sizeOf217
 v57:=Tryz.zeroValue217
 t63:=Tryz.underlying235
 a63:=Tryz.isAgg235
 z63:=Tryz.sizeOf235
 v63:=Tryz.zeroValue235
 t64:=Tryz.underlying236
 a64:=Tryz.isAgg236
 z64:=Tryz.sizeOf236
 v64:=Tryz.zeroValue236}
open Go.Sort Go.RowKit in
theorem YtmmafcjjlbgnkaaGreatDoor.slices_Sort_int (blk off cap:Nat) (zs:List Int) (w:World) (hH:Holds (Value.int .i64) w blk off zs.toArray) (hblk:blk<w.heap.size) (hsz:zs.length<4611686018427387904):
 Calls Tryz.prog 83 #[.slice (some ⟨blk,off,none⟩) zs.length cap] w fun e w'=>e=.returned (.tuple #[])∧∃n os,w'=grow (putRow (Value.int .i64) (Sort.ahead w n) blk off (zs.mergeSort fun x y=>decide (x≤y)).toArray) os:=AnyM.slices_Sort_int YtmmafcjjlbgnkaaGreatDoor.acA blk off cap zs w hH hblk hsz
def YtmmafcjjlbgnkaaGreatDoor.uV:Go.Shelf.Ren:=⟨fun|6=>85|8=>113|9=>114|19=>160|20=>161|21=>162|22=>163|23=>164|24=>165|25=>166|26=>167|27=>168|28=>169|29=>170|36=>207|31=>202|32=>203|37=>208|38=>209|39=>210|41=>232|n=>n,fun|27=>24|29=>9|3=>3|32=>131|26=>24|0=>0|44=>186|46=>165|4=>4|36=>179|35=>178|41=>65|5=>5|9=>9|53=>213|57=>217|63=>235|64=>236|n=>n,fun|n=>n⟩
theorem YtmmafcjjlbgnkaaGreatDoor.uq:Go.Proofs.SlLaysM.n6 Tryz.prog YtmmafcjjlbgnkaaGreatDoor.uV:={
 mixed:=by kernel_rfl
 f6:=⟨Tryz.f85.name,by decide,Tryz.func85.trans (congrArg some (by kernel_rfl))⟩
 f8:=Tryz.func113.trans (congrArg some (by kernel_rfl))
 f9:=⟨Tryz.f114.name,by decide,Tryz.func114.trans (congrArg some (by kernel_rfl))⟩
 f19:=Tryz.func160.trans (congrArg some (by kernel_rfl))
 f20:=Tryz.func161.trans (congrArg some (by kernel_rfl))
 f21:=⟨Tryz.f162.name,by decide,Tryz.func162.trans (congrArg some (by kernel_rfl))⟩
 f22:=⟨Tryz.f163.name,by decide,Tryz.func163.trans (congrArg some (by kernel_rfl))⟩
 f23:=⟨Tryz.f164.name,by decide,Tryz.func164.trans (congrArg some (by kernel_rfl))⟩
 f24:=⟨Tryz.f165.name,by decide,Tryz.func165.trans (congrArg some (by kernel_rfl))⟩
 f25:=⟨Tryz.f166.name,by decide,Tryz.func166.trans (congrArg some (by kernel_rfl))⟩
 f26:=⟨Tryz.f167.name,by decide,Tryz.func167.trans (congrArg some (by kernel_rfl))⟩
 f27:=⟨Tryz.f168.name,by decide,Tryz.func168.trans (congrArg some (by kernel_rfl))⟩
 f28:=⟨Tryz.f169.name,by decide,Tryz.func169.trans (congrArg some (by kernel_rfl))⟩
 f29:=⟨Tryz.f170.name,by decide,Tryz.func170.trans (congrArg some (by kernel_rfl))⟩
 f31:=Tryz.func202.trans (congrArg some (by kernel_rfl))
 f32:=Tryz.func203.trans (congrArg some (by kernel_rfl))
 f36:=⟨Tryz.f207.name,by decide,Tryz.func207.trans (congrArg some (by kernel_rfl))⟩
 f37:=⟨Tryz.f208.name,by decide,Tryz.func208.trans (congrArg some (by kernel_rfl))⟩
 f38:=⟨Tryz.f209.name,by decide,Tryz.func209.trans (congrArg some (by kernel_rfl))⟩
 f39:=⟨Tryz.f210.name,by decide,Tryz.func210.trans (congrArg some (by kernel_rfl))⟩
 f41:=⟨Tryz.f232.name,by decide,Tryz.func232.trans (congrArg some (by kernel_rfl))⟩
 t0:=Tryz.underlying0
 a0:=Tryz.isAgg0
 z0:=Tryz.sizeOf0
 v0:=Tryz.zeroValue0
 t3:=Tryz.underlying3
 a3:=Tryz.isAgg3
 z3:=Tryz.sizeOf3
 v3:=Tryz.zeroValue3
 t4:=Tryz.underlying4
 a4:=Tryz.isAgg4
 z4:=Tryz.sizeOf4
 v4:=Tryz.zeroValue4
 t5:=Tryz.underlying5
 a5:=Tryz.isAgg5
 z5:=Tryz.sizeOf5
 v5:=Tryz.zeroValue5
 t9:=Tryz.underlying9
 a9:=Tryz.isAgg9
 z9:=Tryz.sizeOf9
 v9:=Tryz.zeroValue9
 t26:=Tryz.underlying24
 a26:=Tryz.isAgg24
 z26:=Tryz.sizeOf24
 v26:=Tryz.zeroValue24
 t27:=Tryz.underlying24
 a27:=Tryz.isAgg24
 z27:=Tryz.sizeOf24
 v27:=Tryz.zeroValue24
 t29:=Tryz.underlying9
 a29:=Tryz.isAgg9
 z29:=Tryz.sizeOf9
 v29:=Tryz.zeroValue9
 t32:=Tryz.underlying131
 a32:=Tryz.isAgg131
 z32:=Tryz.sizeOf131
 v32:=Tryz.zeroValue131
 t35:=Tryz.underlying178
 a35:=Tryz.isAgg178
 z35:=Tryz.sizeOf178
 v35:=Tryz.zeroValue178
 t36:=Tryz.underlying179
 a36:=Tryz.isAgg179
 z36:=Tryz.sizeOf179
 v36:=Tryz.zeroValue179
 t41:=Tryz.underlying65
 a41:=Tryz.isAgg65
 z41:=Tryz.sizeOf65
 v41:=Tryz.zeroValue65
 t44:=Tryz.underlying186
 a44:=Tryz.isAgg186
 z44:=Tryz.sizeOf186
 v44:=Tryz.zeroValue186
 t46:=Tryz.underlying165
 a46:=Tryz.isAgg165
 z46:=Tryz.sizeOf165
 v46:=Tryz.zeroValue165
 t53:=Tryz.underlying213
 a53:=Tryz.isAgg213
 z53:=Tryz.sizeOf213
 v53:=Tryz.zeroValue213
 t57:=Tryz.underlying217
 a57:=Tryz.isAgg217
 z57:=Tryz.sizeOf217
 v57:=Tryz.zeroValue217
 t63:=Tryz.underlying235
 a63:=Tryz.isAgg235
 z63:=Tryz.sizeOf235
 v63:=Tryz.zeroValue235
 t64:=Tryz.underlying236
 a64:=Tryz.isAgg236
 z64:=Tryz.sizeOf236
 v64:=Tryz.zeroValue236}
open Go.Sort Go.RowKit in
theorem YtmmafcjjlbgnkaaGreatDoor.slices_Sort_string (blk off cap:Nat) (ss:List (List UInt8)) (w:World) (hH:Holds encStr w blk off ss.toArray) (hblk:blk<w.heap.size) (hsz:ss.length<4611686018427387904):
 Calls Tryz.prog 85 #[.slice (some ⟨blk,off,none⟩) ss.length cap] w fun e w'=>e=.returned (.tuple #[])∧∃n os,w'=grow (putRow encStr (Sort.ahead w n) blk off (ss.mergeSort fun x y=>decide (x≤y)).toArray) os:=AnyM.slices_Sort_string YtmmafcjjlbgnkaaGreatDoor.uq blk off cap ss w hH hblk hsz
open Go.RowKit Go.Sort in
theorem YtmmafcjjlbgnkaaGreatDoor.slices_Sort_string_none (p:Option Addr) (cap:Nat) (w:World):
 Calls Tryz.prog 85 #[.slice p 0 cap] w fun e w'=>e=.returned (.tuple #[])∧w'=w:=AnyM.slices_Sort_string_none YtmmafcjjlbgnkaaGreatDoor.uq p cap w
end Go.Proofs
namespace Go.Proofs.YtmmafcjjlbgnkaaGreatDoor
open Go.RowKit
open Nat renaming reduceEqDiff→Rq,reduceBEq→Rb,reduceAdd→Ra,reduceSub→Rs
open Int renaming reduceToNat→Rt
set_option linter.all false
set_option maxHeartbeats 32000000
noncomputable section
def PV.le (p q:PV):Prop:=∀(g:Gh) (w:World) (v:Value),Rep g w p v→Rep g w q v
theorem PV.le_refl (p:PV):p.le p:=fun _ _ _ h=>h
theorem nil_le (k:Bool) (sz:Nat):(PV.val (.slice none 0 0)).le (.lst k sz []):=fun g w v h=>by simp only[Rep]at h⊢;subst h;exact⟨none,0,rfl,Nat.le_refl _,by omega,.inl trivial⟩
def leL:List PV→List PV→Prop
 |[],[]=>True
 |p::ps,q::qs=>p.le q∧leL ps qs
 |_,_=>False
theorem ahY:∀(l:List PV),leL l l
 |[]=>trivial
 |p::l=>⟨p.le_refl,ahY l⟩
theorem aat {g:Gh} {w:World}:∀{ps qs:List PV} {vs:List Value},leL ps qs→cZ g w ps vs→cZ g w qs vs
 |[],[],vs,_,h=>h
 |p::ps,q::qs,vs,hl,h=>by simp only[cZ]at h⊢;obtain⟨v,vs',rfl,h1,h2⟩:=h;exact⟨v,vs',rfl,hl.1 _ _ _ h1,aat hl.2 h2⟩
 |[],_::_,vs,hl,_=>hl.elim
 |_::_,[],vs,hl,_=>hl.elim
theorem qK {ps qs:List PV} (h:leL ps qs):(PV.tup ps).le (.tup qs):=fun g w v hv=>by simp only[Rep]at hv⊢;obtain⟨vs,rfl,h1⟩:=hv;exact⟨vs,rfl,aat h h1⟩
theorem aDD {ps qs:List PV} (h:leL ps qs):(PV.agg ps).le (.agg qs):=fun g w v hv=>by simp only[Rep]at hv⊢;obtain⟨vs,rfl,h1⟩:=hv;exact⟨vs,rfl,aat h h1⟩
theorem Sound.weak {P:Program} {f:Nat} {φ φ':Fun} (h:Sound P f φ) (hw:∀ps r,φ' ps=some r→∃ps' r',leL ps ps'∧φ ps'=some r'∧r'.le r):Sound P f φ':=by intro w J ps args r hr hJ hT hargs;obtain⟨ps',r',h1,h2,h3⟩:=hw ps r hr;refine(h w J ps' args r' h2 hJ hT (aat h1 hargs)).mono ?_;rintro e w' ⟨v,rfl,hb,hrep⟩;exact⟨v,rfl,hb,fun g' hg=>h3 _ _ _ (hrep g' hg)⟩
def nrm (sz:Nat):PV→PV
 | .val (.slice none 0 0)=> .lst false sz []
 |p=>p
theorem aud (sz:Nat) (p:PV):p.le (nrm sz p):=by
 unfold nrm;split
 ·exact nil_le _ _
 ·exact p.le_refl
theorem aeT (sz:Nat):∀ps:List PV,leL ps (ps.map (nrm sz))
 |[]=>trivial
 |p::ps=>⟨aud sz p,aeT sz ps⟩
def axr (sz:Nat) (φ:Fun):Fun:=fun ps=>φ (ps.map (nrm sz))
theorem Sound.nil {P:Program} {f:Nat} {φ:Fun} (h:Sound P f φ) (sz:Nat):Sound P f (axr sz φ):=
 h.weak fun ps r hr=>⟨_,r,aeT sz ps,hr,PV.le_refl _⟩
section
variable {P:Program} {Γ:Ctx}
theorem gD (hm:P.follows .mixedOrders=true) {f:Nat} {fn:Func} {c:Code} {φ:Fun} (hΓ:ak P Γ) (hf:P.funcs[f]?=some fn) (hb:fn.body=some c) (N:Nat) (hN:fn.ntmps=N) (rs:List ResultVar) (hrs:fn.results.toList=rs) (hc:codeOk Γ true N c=true)
 (h:∀ps r,φ ps=some r→ps.length≤N∧pq P Γ N c (fun x s'=>∃r',r'.le r∧Post P rs r' x s') (dG ps).tm (fun _=>none) 0):Sound P f φ:=by
 obtain⟨φ',h1,h2⟩:=adq hm hΓ hf hb N hN rs hrs hc (fun ps=>∃r,φ ps=some r) (fun ps r'=>∀r,φ ps=some r→r'.le r) (fun ps ⟨r,hr⟩=>(h ps r hr).1) (fun ps ⟨r,hr⟩=>by refine xk (fun x s' hx=>?_) _ _ (h ps r hr).2;obtain⟨r',k1,k2⟩:=hx;exact⟨r',fun r1 hr1=>by rw[hr]at hr1;cases hr1;exact k1,k2⟩)
 refine h1.weak fun ps r hr=>?_;obtain⟨r',k1,k2⟩:=h2 ps ⟨r,hr⟩;exact⟨ps,r',ahY _,k1,k2 r hr⟩
theorem bV {rs:List ResultVar} {r r':PV} {tm:Nat→PV} {ob:bJ} {nx:Nat} {x:X} (hx:x=.normal∨x=.ret) (h:((gV P ⟨tm,ob,nx⟩ rs).bind fun qs=>reify true 0 ob fuel (iJ qs))=some r') (hl:r'.le r):∃r',r'.le r∧Post P rs r' x ⟨tm,ob,nx⟩:=⟨r',hl,hx,h⟩
end
theorem ajl {n f sz:Nat} {ob:bJ} {k:Bool}:reify false n ob (f+1) (.lst k sz [])=some (.lst false sz []):=by simp[reify]
attribute[push_cast]
 ajl
def nP (sz:Nat) (es:List PV) (x:Nat):PV:=match es with|[]=> .val (.slice none 0 0)|_::_=> .row x sz 0 es.length
def nO (T sz:Nat) (es:List PV) (x:Nat):List (Nat×aL):=match es with|[]=>[]|_::_=>[(x,T,sz,es)]
theorem dM {sz x:Nat}:nP sz [] x=.val (.slice none 0 0):=rfl
theorem cO {T sz x:Nat}:nO T sz [] x=[]:=rfl
theorem ayO {T sz x:Nat} {e:PV} {es:List PV}:nO T sz (e::es) x=[(x,T,sz,e::es)]:=rfl
theorem ay {sz x:Nat} {es:List PV} (h:0<es.length):nP sz es x=.row x sz 0 es.length:=by
 cases es with
 |nil=>simp at h
 |cons e es=>rfl
theorem aB {T sz x:Nat} {es:List PV} (h:0<es.length):nO T sz es x=[(x,T,sz,es)]:=by
 cases es with
 |nil=>simp at h
 |cons e es=>rfl
attribute[push_cast]
 dM cO
attribute[push_cast low]
 ay aB
theorem avS {P:Program} {t:Nat} {x y:Operand} {a b:ByteArray} (h:a.size+b.size≤9223372036854775807):lX P .add t x y (some (.string a)) (some (.string b))=some (.val (.string (a++b))):=by
 have h2:¬(((a.size+b.size:Nat):Int)>IntKind.i64.max):=by
  have:IntKind.i64.max=9223372036854775807:=by decide
  rw[this];omega
 have:aA P (do eqGuard .add t x y (.string a) (.string b);binOp .add t (.string a) (.string b))=some (.string (a++b)):=by
  show aA P (Op.stringOp .add a b)=_;unfold Op.stringOp;dsimp only
  rw[if_neg h2];rfl
 simp only[lX,this,Option.map_some]
theorem size_push (ns:List Int) (r:ByteArray):(ns.foldl (fun r n=>r.push (UInt8.ofNat n.toNat)) r).size=r.size+ns.length:=by
 induction ns generalizing r with
 |nil=>simp
 |cons n ns ih=>rw[List.foldl_cons,ih,List.length_cons,ByteArray.size_push];omega
theorem kH (ns:List Int):(bytesOf ns).size=ns.length:=by unfold bytesOf;rw[size_push];simp
attribute[push_cast]
 avS kH ByteArray.size_append kC
def mg (l:List ByteArray) (sep:ByteArray):ByteArray:=⟨(Lib.join (l.map (·.data.toList)) sep.data.toList).toArray⟩
def ahP:Fun:=F2 dSs dS fun l sep=>if l.length≤1048576∧(mg l sep).size≤140737488355328 then some (.val (.string (mg l sep)))else none
theorem acE {l:List ByteArray} {sep:ByteArray} (h:l.length≤1048576) (h2:(mg l sep).size≤140737488355328):ahP [.lst false 1 (l.map fun s=> .val (.string s)),.val (.string sep)]=some (.val (.string (mg l sep))):=
 (jA (A:=dSs) (B:=dS) l sep).trans (if_pos ⟨h,h2⟩)
theorem amj {g:Gh} {w:World} {b off:Nat} {l:List ByteArray} (h:bO g w 1 (l.map fun s=>PV.val (.string s)) b off):∀(j:Nat) x,l[j]?=some x→w.cell? ⟨b,off+j,none⟩=some (.string x):=fun j x hx=>by obtain⟨u,h1,h2,_⟩:=h.get (i:=j) (e:=.val (.string x)) (by simp[hx]);simp only[Rep]at h1;subst h1;have:=h2.2 0 (by simp[Value.cells]);simpa [Value.cells]using this
theorem aia {P:Program} {f:Nat} (H0:∀(a:Option Addr) (c:Nat) (sep:ByteArray) (w:World),Calls P f #[.slice a 0 c,.string sep] w fun e w'=>e=.returned (.string ⟨#[]⟩)∧w'=w)
 (H1:∀(bk o c:Nat) (xs:List ByteArray) (sep:ByteArray) (w:World),(∀(j:Nat) x,xs[j]?=some x→w.cell? ⟨bk,o+j,none⟩=some (.string x))→bk<w.heap.size→xs.length≤140737488355328→xs.length≤c→(Lib.join (xs.map (·.data.toList)) sep.data.toList).length≤140737488355328→
   Calls P f #[.slice (some ⟨bk,o,none⟩) xs.length c,.string sep] w fun e w'=>e=.returned (.string ⟨(Lib.join (xs.map (·.data.toList)) sep.data.toList).toArray⟩)∧Below w.heap.size w w'):Sound P f ahP:=by
 intro w J ps args r hr hJ hT hargs;obtain⟨l,sep,rfl,hq⟩:=pO hr;split at hq
 case isFalse=>cases hq
 case isTrue hok=>
 cases hq;have hargs:=hargs;simp only[cZ]at hargs;obtain⟨v1,vs1,e1,h1,v2,vs2,rfl,h2,rfl⟩:=hargs;obtain rfl:args=#[v1,v2]:=by obtain⟨a⟩:=args;simp only at e1;rw[e1]
 simp only[dSs,dL,dS,Rep]at h1 h2;subst h2;obtain⟨a,cap,rfl,k1,k2,k3⟩:=h1;simp only[List.length_map]at k1⊢;have hsz:(mg l sep).size=(Lib.join (l.map (·.data.toList)) sep.data.toList).length:=by simp[mg,ByteArray.size]
 rcases k3 with k3|⟨b,off,rfl,k4,k5⟩
 ·have:l=[]:=by simpa using k3
  subst this;refine(H0 a cap sep w).mono ?_;rintro e w' ⟨rfl,rfl⟩;exact⟨_,rfl,Below.refl _ _,fun g' _=>by simp only[Rep];rfl⟩
 ·refine(H1 b off cap l sep w (amj k5) (hJ b k4.2) (by omega) k1 (by omega)).mono ?_
  rintro e w' ⟨rfl,hb⟩;exact⟨_,rfl,hb,fun g' _=>by simp only[Rep];rfl⟩
theorem uE (sep:List UInt8):∀(r:List (List UInt8)),(Lib.joinTail sep r).length=(r.map List.length).sum+r.length*sep.length
 |[]=>by simp[Lib.joinTail]
 |x::r=>by have ih:=uE sep r;unfold Lib.joinTail at ih⊢;simp only[List.map_cons,List.flatten_cons,List.length_append,List.sum_cons,List.length_cons,ih,Nat.add_mul];omega
def yY (l:List ByteArray):Nat:=(l.map (·.size)).sum
theorem aac (l:List ByteArray) (sep:ByteArray):(mg l sep).size=yY l+(l.length-1)*sep.size:=by
 have hsz:(mg l sep).size=(Lib.join (l.map (·.data.toList)) sep.data.toList).length:=by simp[mg,ByteArray.size]
 rw[hsz];clear hsz;have e:∀s:ByteArray,s.data.toList.length=s.size:=fun s=>Array.length_toList;cases l with
 |nil=>simp[Lib.join_nil,yY]
 |cons x r=>rw[List.map_cons,Lib.join_cons,List.length_append,uE];simp only[List.map_map,List.length_map,yY,List.map_cons,List.sum_cons,List.length_cons,Nat.add_sub_cancel,e];have h2:(List.length∘fun x:ByteArray=>x.data.toList)=fun x=>x.size:=funext fun s=>e s;rw[h2];omega
theorem alB {l:List ByteArray} {c:Nat} (h:∀i:Nat,(l[i]?.getD .empty).size≤c):yY l≤l.length*c:=by
 induction l with
 |nil=>simp[yY]
 |cons x l ih=>
  have h0:=h 0;have:=ih fun i=>by simpa using h (i+1)
  simp only[List.getElem?_cons_zero,Option.getD_some]at h0;simp only[yY,List.map_cons,List.sum_cons,List.length_cons,Nat.add_mul,Nat.one_mul]at this⊢;omega
theorem axN:Sound Tryz.prog 76 ahP:=aia YtmmafcjjlbgnkaaGreatDoor.strings_Join_none YtmmafcjjlbgnkaaGreatDoor.strings_Join
theorem jT {α β:Type} {P:Program} {m:Sem α} {f:α→Sem β} {a:α} (h:aA P m=some a):aA P (m>>=f)=aA P (f a):=by
 induction m with
 |pure x=>simp only[aA,Option.some.injEq]at h;subst h;rfl
 |program k ih=>exact ih P h
 |_=>simp[aA]at h
theorem abb {P:Program} {v:Int} {m:Nat} {k:BoundsCode} (h:0≤v) (h2:v≤m):aA P (Instr.sliceBound (.int .i64 v) m k)=some v.toNat:=by have e:Instr.sliceBound (.int .i64 v) m k=(if 0≤v∧v≤m then pure v.toNat else boundsPanic .i64 v m k):=rfl;rw[e,if_pos ⟨h,h2⟩];rfl
theorem at0 {P:Program} {t:Nat} {d:TypeDesc} (hu:P.underlying t=some d):aA P (underlying t)=some d:=by unfold underlying;rw[jT (a:=P) rfl];simp only[hu];rfl
theorem sps {P:Program} {t:Nat} {s:ByteArray} {lo hi:Option Int} (hu:P.underlying t=some .string) (h0:0≤lo.getD 0) (h1:lo.getD 0≤hi.getD s.size) (h2:hi.getD s.size≤s.size):
 azb P t (.val (.string s)) (some lo) (some hi)=some (.val (.string (s.extract (lo.getD 0).toNat (hi.getD s.size).toNat))):=by
 have hb:aA P (Instr.sliceBounds false s.size s.size (lo.map (Value.int .i64)) (hi.map (Value.int .i64)) none)=some ((lo.getD 0).toNat,(hi.getD s.size).toNat,s.size):=by
  unfold Instr.sliceBounds;rw[jT (a:=s.size) rfl];cases hi with
  |none=>
   simp only[Option.map_none,Option.getD_none]at h1⊢;rw[jT (a:=s.size) rfl];cases lo with
   |none=>simp only[Option.map_none,Option.getD_none,Int.toNat_natCast];rw[jT (a:=0) rfl];rfl
   |some l=>simp only[Option.map_some,Option.getD_some,Int.toNat_natCast]at h0 h1⊢;rw[jT (abb h0 h1)];rfl
  |some h=>
   simp only[Option.map_some,Option.getD_some]at h1 h2⊢;have h3:0≤h:=by omega
   rw[jT (abb h3 h2)];cases lo with
   |none=>simp only[Option.map_none,Option.getD_none];rw[jT (a:=0) rfl];rfl
   |some l=>simp only[Option.map_some,Option.getD_some]at h0 h1⊢;rw[jT (abb h0 (by omega))];rfl
 have hs:aA P (Instr.sliceAt t (.string s) (lo.map (Value.int .i64)) (hi.map (Value.int .i64)) none)=some (.string (s.extract (lo.getD 0).toNat (hi.getD s.size).toNat)):=by
  unfold Instr.sliceAt;rw[jT (at0 hu)];dsimp only
  unfold Instr.slice;rw[jT (at0 hu)];dsimp only
  simp only[Option.isSome_none,Bool.false_eq_true,if_false];rw[jT hb];rfl
 show(aA P _).map _=_;rw[hs];rfl
theorem avT {s:ByteArray} {lo hi:Option Int} (h0:0≤lo.getD 0) (h1:lo.getD 0≤hi.getD s.size) (h2:hi.getD s.size≤s.size):
 azb Tryz.prog 9 (.val (.string s)) (some lo) (some hi)=some (.val (.string (s.extract (lo.getD 0).toNat (hi.getD s.size).toNat))):=sps Tryz.underlying9 h0 h1 h2
attribute[push_cast]
 avT
section
variable {P:Program} {Γ:Ctx}
theorem adK (hm:P.follows .mixedOrders=true) {f:Nat} {fn:Func} {c:Code} (hΓ:ak P Γ) (hf:P.funcs[f]?=some fn) (hb:fn.body=some c) (N:Nat) (hN:fn.ntmps=N) (rs:List ResultVar) (hrs:fn.results.toList=rs) (hc:codeOk Γ true N c=true)
 (D:List PV→aL→Prop) (R:List PV→aL→PV→List aL→Prop) (hlen:∀ps o,D ps o→ps.length≤N)
 (h:∀ps o,D ps o→pq P Γ N c (fun x s'=>∃r os',R ps o r os'∧iI P rs 1 r os' x s') (dG ps).tm (lo [(0,o)]) 1):∃Φ:d9,bQ P f Φ∧∀ps o,D ps o→∃r os',Φ ps [o]=some (r,os')∧R ps o r os':=by
 classical
 subst hN hrs
 let Z:List PV→List aL→PV×List aL→Prop:=fun ps cs r=>∃o,cs=[o]∧D ps o∧R ps o r.1 r.2∧∃x s',Ev P Γ fn.ntmps c (ru ps cs) x s'∧iI P fn.results.toList 1 r.1 r.2 x s'
 let Φ:d9:=fun ps cs=>if h:∃r,Z ps cs r then some (Classical.choose h)else none
 have hΦ:∀ps cs r,Φ ps cs=some r→Z ps cs r:=fun ps cs r hr=>by
  simp only[Φ]at hr;split at hr
  ·rename_i hz
   cases hr;exact Classical.choose_spec hz
  ·cases hr
 refine⟨Φ,l8 hΓ hf hb (fun ps cs r hr=>?_) fun ps cs r cs' hr=>?_,fun ps o hd=>?_⟩
 ·obtain⟨o,_,h1,_⟩:=hΦ ps cs r hr
  exact hlen ps o h1
 ·obtain⟨o,rfl,_,_,x,s',h1,h2,news,h3,h4,h5,h6⟩:=hΦ ps cs (r,cs') hr
  rw[Option.bind_eq_some_iff]at h5;obtain⟨qs,h8,h9⟩:=h5;refine⟨x,s',qs,List.range 1++news,h1,h2,h8,h9,by simp,fun i hi=>?_,?_,h6⟩
  ·have:i=0:=by simpa using hi
   subst this;rfl
  ·rw[List.nodup_append]
   exact⟨List.nodup_range,h4,fun a ha b hb e=>by have:=h3 b hb;have:=List.mem_range.1 ha;omega⟩
 ·have h':pw P Γ fn.ntmps c (fun x s'=>∃r os',R ps o r os'∧iI P fn.results.toList 1 r os' x s') (ru ps [o]):=by have:=h ps o hd;rw[←acK]at this;exact this
  obtain⟨x,s',h1,r,os',h2,h3⟩:=abh (mixed:=true) (fun _=>hm) c _ _ hc h';have hz:∃r,Z ps [o] r:=⟨(r,os'),o,rfl,hd,h2,x,s',h1,h3⟩;have he:Φ ps [o]=some (Classical.choose hz):=by simp only[Φ];rw[dif_pos hz]
  obtain⟨o1,e1,_,e3,_⟩:=hΦ ps [o] _ he;cases e1;exact⟨(Classical.choose hz).1,(Classical.choose hz).2,he,e3⟩
end
def aqN (T:Nat) (Φ:d9) (B c:Int) {α:Type} (E:Nat→α→PV) (O:α→aL) (D:Int→Prop) (R:Int→α→Prop):Prop:=
 ∀code p n,rY code p→p≤B→D n→∃a p',Φ [.own 0 2 0 0,.val (.int .i64 n)] [rdC T code p]=some (E 1 a,[rdC T code p',O a])∧R n a∧rY code p'∧p≤p'∧p'≤p+c
theorem ao1 {P:Program} {Γ:Ctx} (hm:P.follows .mixedOrders=true) {f:Nat} {fn:Func} {C:Code} (hΓ:ak P Γ) (hf:P.funcs[f]?=some fn) (hb:fn.body=some C) (N:Nat) (hN:fn.ntmps=N) (rs:List ResultVar) (hrs:fn.results.toList=rs) (hc:codeOk Γ true N C=true) (hN1:2≤N)
 (T:Nat) (B c:Int) {α:Type} (E:Nat→α→PV) (O:α→aL) (D:Int→Prop) (R:Int→α→Prop)
 (h:∀code p n,rY code p→p≤B→D n→pq P Γ N C (fun x s'=>∃a p',R n a∧rY code p'∧p≤p'∧p'≤p+c∧iI P rs 1 (E 1 a) [rdC T code p',O a] x s') (dG [.own 0 2 0 0,.val (.int .i64 n)]).tm (lo [(0,rdC T code p)]) 1):
 ∃Φ:d9,bQ P f Φ∧aqN T Φ B c E O D R:=by
 obtain⟨Φ,h1,h2⟩:=adK hm hΓ hf hb N hN rs hrs hc
  (fun ps o=>∃code p n,ps=[.own 0 2 0 0,.val (.int .i64 n)]∧o=rdC T code p∧rY code p∧p≤B∧D n)
  (fun ps o r os'=>∃code p n a p',ps=[.own 0 2 0 0,.val (.int .i64 n)]∧o=rdC T code p∧r=E 1 a∧os'=[rdC T code p',O a]∧R n a∧rY code p'∧p≤p'∧p'≤p+c)
  (fun ps o ⟨code,p,n,e,_⟩=>by rw[e];exact hN1) (fun ps o ⟨code,p,n,e1,e2,h3,h4,h5⟩=>by subst e1 e2;refine xk (fun x s' hx=>?_) _ _ (h code p n h3 h4 h5);obtain⟨a,p',k1,k2,k3,k4,k5⟩:=hx;exact⟨E 1 a,[rdC T code p',O a],⟨code,p,n,a,p',rfl,rfl,rfl,rfl,k1,k2,k3,k4⟩,k5⟩)
 refine⟨Φ,h1,fun code p n h3 h4 h5=>?_⟩;obtain⟨r,os',e,code',p1,n1,a,p',e0,e1,rfl,rfl,k1,k2,k3,k4⟩:=h2 _ _ ⟨code,p,n,rfl,rfl,h3,h4,h5⟩;obtain⟨rfl,rfl⟩:=aon e1;have:n=n1:=by simpa using e0
 subst this;exact⟨a,p',e,k1,k2,k3,k4⟩
theorem aB7 {o:Nat} (h:0<o):inn [0,o] o=some 1:=by
 have h0:¬(0:Nat)=o:=by omega
 have h1:(0==o)=false:=by simpa using h0
 simp[inn,List.idxOf_cons,h1]
theorem alE {o nx:Nat}:wJ [o] nx 1=some nx:=by simp[wJ,qz]
theorem ajS {out:List Nat} {ob:bJ} {l:List PV}:l.mapM (bX out ob fuel)=l.mapM (bX out ob 8):=rfl
attribute[push_cast]
 ajS aB7 alE
section
variable {P:Program} {Γ:Ctx} {imm:Md} {N:Nat} {gs:List (Option Nat)} {l:List Oper} {Q:AS→Prop} {tm:Nat→PV} {ob:bJ} {nx T:Nat} {Φ:d9} {B c:Int} {α:Type} {E:Nat→α→PV} {O:α→aL}
theorem aDK {o:Nat} {code:List Int} {p p':Int} {a:α} {qs:List PV} (hE:eF (wJ [o] nx) fuel (E 1 a)=some (E nx a)) (hO:(O a).2.2.mapM (eF (wJ [o] nx) fuel)=some (O a).2.2)
 (ho:ob o=some (rdC T code p)) (h:Φ qs [rdC T code p]=some (E 1 a,[rdC T code p',O a])):adb Φ ob nx o qs (ob o)=some (E nx a,upd (upd ob o (some (rdC T code p'))) nx (some (O a)),nx+1):=by
 have h1:∀(nm:Nat→Option Nat) (q:Int),[PV.agg [.lst false 1 (code.map fun n=>PV.val (.int .u8 n)),.val (.int .i64 q)]].mapM (eF nm fuel)=some [PV.agg [.lst false 1 (code.map fun n=>PV.val (.int .u8 n)),.val (.int .i64 q)]]:=fun nm q=>by simp only[kD,oz,aaC,mapM_cons',mapM_nil',qC,uX,Option.bind_some,Option.map_some]
 rw[ho,sN,h1,Option.bind_some,h];unfold ioR;simp only[hE,mapM_cons',mapM_nil',afV,h1,hO,Option.map_some,Option.bind_some];have e:O a=((O a).1,(O a).2.1,(O a).2.2):=rfl;simp only[List.length_cons,List.length_nil,Nat.zero_add,Ra,Rs,Option.some.injEq,Prod.mk.injEq,true_and,and_true];show lQ ob [(qz [o] nx 0,_),(qz [o] nx 1,_)]=_;simp only[lQ,qz,List.length_cons,List.length_nil,Nat.zero_add,Nat.lt_one_iff,if_true,Nat.one_ne_zero,if_false,Nat.sub_self,Nat.add_zero,List.getD_cons_zero]
theorem afg {D:Int→Prop} {R:Int→α→Prop} (hd:aqN T Φ B c E O D R) (hE:∀o nx a,eF (wJ [o] nx) fuel (E 1 a)=some (E nx a)) (hO:∀nm a,(O a).2.2.mapM (eF nm fuel)=some (O a).2.2) {d f ty o:Nat} {x y:Operand} {ts:Array TypeId} {pos:String} {af:Array Edge} {code:List Int} {p n:Int} (hio:Γ.io f=some Φ) (hx:look tm x=.own o 2 0 0) (hy:look tm y=.val (.int .i64 n)) (ho:ob o=some (rdC T code p)) (hok:rY code p) (hB:p≤B) (hD:D n)
 (he:mD Γ imm nx (look tm) (.call {callee:=.value (.func f),args:=#[x,y],argTypes:=ts})=true)
 (hk:∀a p',R n a→rY code p'→p≤p'→p'≤p+c→wq P Γ imm gs l Q (upd tm d (E nx a)) (upd (upd ob o (some (rdC T code p'))) nx (some (O a))) (nx+1)):
 wq P Γ imm gs ({dst:=some d,op:=.call {callee:=.value (.func f),args:=#[x,y],argTypes:=ts},type:=ty,pos:=pos,after:=af,guard:=none}::l) Q tm ob nx:=by
 obtain⟨a,p',h1,h2,h3,h4,h5⟩:=hd code p n hok hB hD;refine i_E (by simp[fA,oW,hio]) he ?_ (hk a p' h2 h3 h4 h5);rw[aeB,hio,xX];show aeS Φ ob nx [look tm x,look tm y]=_;rw[hx,hy,aw1];exact aDK (hE o nx a) (hO _ a) ho h1
theorem awC {rs:List ResultVar} {r:PV} {c1 c2:aL} {x:X} (o:Nat) (h0:0<o) (hx:x=.normal∨x=.ret) (h1:((gV P ⟨tm,ob,nx⟩ rs).bind fun qs=>bX [0,o] ob fuel (iJ qs))=some r) (h2:lg [0,o] ob fuel 0=some c1) (h3:lg [0,o] ob fuel o=some c2):iI P rs 1 r [c1,c2] x ⟨tm,ob,nx⟩:=
 ⟨hx,[o],fun b hb=>by simp only[List.mem_singleton]at hb;omega,by simp,h1,by show [0,o].mapM (lg [0,o] ob fuel)=some [c1,c2];rw[mapM_cons',h2,Option.bind_some,mapM_cons',h3,Option.bind_some,mapM_nil'];rfl⟩
theorem aed {rs:List ResultVar} {R:α→Prop} {code:List Int} {p:Int} {a:α} {p':Int} {x:X} (o:Nat) (h0:0<o) (hx:x=.normal∨x=.ret)
 (h5:lg [0,o] ob fuel o=some (O a)) (h4:lg [0,o] ob fuel 0=some (rdC T code p')) (h3:((gV P ⟨tm,ob,nx⟩ rs).bind fun qs=>bX [0,o] ob fuel (iJ qs))=some (E 1 a)) (hR:R a) (ho:rY code p') (h1:p≤p') (h2:p'≤p+c):
 ∃a p',R a∧rY code p'∧p≤p'∧p'≤p+c∧iI P rs 1 (E 1 a) [rdC T code p',O a] x ⟨tm,ob,nx⟩:=⟨a,p',hR,ho,h1,h2,awC o h0 hx h3 h4 h5⟩
end
abbrev alC:=List PV→Option (PV×List aL)
def qP (P:Program) (f:Nat) (Ψ:alC):Prop:=bQ P f fun ps cs=>if cs=[]then Ψ ps else none
def nN (nm:Nat→Nat):Nat→PV→Option PV
 |0,_=>none
 |n+1,p=>match p with
  | .val v=>some (.val v)
  | .dead=>some .dead
  | .lst k sz es=>if k=false∧es≠[]then none else(es.mapM (nN nm n)).map (.lst k sz)
  | .ptr k e o=>if k=false then none else(nN nm n e).map (.ptr k · o)
  | .own o sz i f=>some (.own (nm o) sz i f)
  | .row o sz i m=>some (.row (nm o) sz i m)
  | .agg cs=>(cs.mapM (nN nm n)).map .agg
  | .tup cs=>(cs.mapM (nN nm n)).map .tup
theorem Rep.nN {nm:Nat→Nat} {g g':Gh} {w:World} (hI:∀b,g.I true b→g'.I true b) (ho:∀o,g.D o→g'.β (nm o)=g.β o∧g'.κ (nm o)=g.κ o∧g'.D (nm o)):
 ∀(f:Nat) (p q:PV) (v:Value),Rep g w p v→Proofs.YtmmafcjjlbgnkaaGreatDoor.nN nm f p=some q→Rep g' w q v
 |0,p,q,v,h,hr=>by simp[Proofs.YtmmafcjjlbgnkaaGreatDoor.nN]at hr
 |f+1,p,q,v,h,hr=>by
  cases p with
  |val u=>simp only[Proofs.YtmmafcjjlbgnkaaGreatDoor.nN,Option.some.injEq]at hr;subst hr;simpa [Rep]using h
  |dead=>simp only[Proofs.YtmmafcjjlbgnkaaGreatDoor.nN,Option.some.injEq]at hr;subst hr;simp[Rep]
  |lst k sz es=>
   simp only[Proofs.YtmmafcjjlbgnkaaGreatDoor.nN]at hr;split at hr
   ·cases hr
   ·rename_i hk
    simp only[Option.map_eq_some_iff]at hr;obtain⟨es',h1,rfl⟩:=hr;have hl:=(bL h1).1;simp only[Rep]at h⊢;obtain⟨a,cap,rfl,h2,h3,h4⟩:=h;refine⟨a,cap,by rw[hl],by omega,h3,?_⟩;rcases h4 with rfl|⟨b,off,rfl,h5,h6⟩
    ·left;exact List.eq_nil_of_length_eq_zero (by simpa using hl)
    ·by_cases hnil:es=[]
     ·left;subst hnil;exact List.eq_nil_of_length_eq_zero (by simpa using hl)
     ·right
      cases k with
      |false=>simp[hnil]at hk
      |true=>exact⟨b,off,rfl,hI _ h5,bO.conv (g:=g) (g':=g') (Rep.nN hI ho f) h6 h1⟩
  |ptr k e o=>
   simp only[Proofs.YtmmafcjjlbgnkaaGreatDoor.nN]at hr;split at hr
   ·cases hr
   ·rename_i hk
    simp only[Option.map_eq_some_iff]at hr;obtain⟨e',h1,rfl⟩:=hr;simp only[Rep]at h⊢;obtain⟨b,off,rfl,h2,u,h3,h4⟩:=h;cases k with
    |false=>simp at hk
    |true=>exact⟨b,off,rfl,hI _ h2,u,Rep.nN hI ho f e e' u h3 h1,h4⟩
  |own o sz i f'=>simp only[Proofs.YtmmafcjjlbgnkaaGreatDoor.nN,Option.some.injEq]at hr;subst hr;simp only[Rep]at h⊢;obtain⟨e1,_,e3⟩:=ho o h.2;exact⟨by rw[e1];exact h.1,e3⟩
  |row o sz i m=>simp only[Proofs.YtmmafcjjlbgnkaaGreatDoor.nN,Option.some.injEq]at hr;subst hr;simp only[Rep]at h⊢;obtain⟨c,h1,h2,h3,h4,h5⟩:=h;obtain⟨e1,e2,e3⟩:=ho o h5;exact⟨c,by rw[e1];exact h1,h2,h3,by rw[e2];exact h4,e3⟩
  |agg cs=>simp only[Proofs.YtmmafcjjlbgnkaaGreatDoor.nN,Option.map_eq_some_iff]at hr;obtain⟨cs',h1,rfl⟩:=hr;simp only[Rep]at h⊢;obtain⟨vs,rfl,h2⟩:=h;exact⟨vs,rfl,cZ.conv (g:=g) (g':=g') (Rep.nN hI ho f) h2 h1⟩
  |tup cs=>simp only[Proofs.YtmmafcjjlbgnkaaGreatDoor.nN,Option.map_eq_some_iff]at hr;obtain⟨cs',h1,rfl⟩:=hr;simp only[Rep]at h⊢;obtain⟨vs,rfl,h2⟩:=h;exact⟨vs,rfl,cZ.conv (g:=g) (g':=g') (Rep.nN hI ho f) h2 h1⟩
def wS (nm:Nat→Nat) (f:Nat) (c:aL):Option aL:=(c.2.2.mapM (nN nm f)).map fun es=>(c.1,c.2.1,es)
def ac8 (Ψ:alC):Fun:=fun ps=>(Ψ ps).bind fun rc=>reify true 0 (fun o=>rc.2[o]?) fuel rc.1
theorem qP.pure {P:Program} {f:Nat} {Ψ:alC} (h:qP P f Ψ):Sound P f (ac8 Ψ):=by
 intro w J ps args r hr hJ hT hargs;unfold ac8 at hr;simp only[Option.bind_eq_some_iff]at hr;obtain⟨⟨r0,cs0⟩,h2,h3⟩:=hr;dsimp only at h3
 let J':Bool→Nat→Prop:=fun k b=>k=false∧J b
 have hO':yQ J' w (fun _=>0) (fun _=>0) []:=⟨fun o ho=>by simp at ho,fun o o' ho=>by simp at ho,fun o c ho=>by simp at ho⟩;refine(h w J' (fun _=>0) (fun _=>0) ps [] args r0 cs0 (by simpa using h2) (fun k b hb=>hJ b hb.2) hO' (hT.io fun t _ ⟨o,ho,_⟩=>by simp at ho) hargs).mono ?_;rintro e w' ⟨v,β',κ',M,rfl,hfr,_,_,hnew,hM,hO2,hrep⟩;refine⟨v,rfl,⟨hfr.os,hfr.tape,hfr.output,hfr.size,fun b hb=>hfr.block b hb (fun⟨o,ho,_⟩=>by simp at ho)⟩,fun g' hg=>?_⟩;refine Rep.seen (fr:=true) (n:=0) (s:=ru ps cs0) (g:=kI (addN J' M) β' κ' cs0.length) (g':=g') (fun o c ho=>hO2.at_ o c ho) ⟨fun e=>(by cases e),fun _=>⟨fun b hb=>?_,fun o ho _=>?_⟩⟩ fuel _ _ _ hrep h3
 ·rcases hb with⟨h6,_⟩|⟨_,h6⟩
  ·cases h6
  ·exact hg b (hM b h6).1 (hM b h6).2
 ·obtain⟨c,hc⟩:=Option.isSome_iff_exists.1 ho
  have hlt:=(List.getElem?_eq_some_iff.1 hc).1;exact hg _ (hnew o (Nat.zero_le _) hlt) (hO2.lt o hlt).1
section
variable {P:Program} {Γ:Ctx}
theorem ac4 (hm:P.follows .mixedOrders=true) {f:Nat} {fn:Func} {c:Code} {Ψ:alC} (hΓ:ak P Γ) (hf:P.funcs[f]?=some fn) (hb:fn.body=some c) (N:Nat) (hN:fn.ntmps=N) (rs:List ResultVar) (hrs:fn.results.toList=rs) (hc:codeOk Γ true N c=true)
 (h:∀ps r cs',Ψ ps=some (r,cs')→ps.length≤N∧pq P Γ N c (iI P rs 0 r cs') (dG ps).tm l7 0):qP P f Ψ:=by
 refine acs hm hΓ hf hb N hN rs hrs hc fun ps cs r cs' hr=>?_;split at hr
 ·rename_i hcs
  exact⟨hcs,h ps r cs' hr⟩
 ·cases hr
end
section
variable {α β γ δ ρ:Type} {A:Dec α} {B:Dec β} {C:Dec γ} {D:Dec δ} {ps:List PV} {r:ρ}
def G1 (A:Dec α) (F:α→Option ρ) (ps:List PV):Option ρ:=match ps with|[p]=>(A.d p).bind F|_=>none
def G2 (A:Dec α) (B:Dec β) (F:α→β→Option ρ) (ps:List PV):Option ρ:=match ps with|[p,q]=>(A.d p).bind fun a=>(B.d q).bind fun b=>F a b|_=>none
def G4 (A:Dec α) (B:Dec β) (C:Dec γ) (D:Dec δ) (F:α→β→γ→δ→Option ρ) (ps:List PV):Option ρ:=match ps with|[p,q,r,s]=>(A.d p).bind fun a=>(B.d q).bind fun b=>(C.d r).bind fun c=>(D.d s).bind fun d=>F a b c d|_=>none
theorem ad1 {F:α→Option ρ} (h:G1 A F ps=some r):∃a,ps=[A.e a]∧F a=some r:=by
 unfold G1 at h;split at h
 ·rw[Option.bind_eq_some_iff]at h
  obtain⟨a,h1,h2⟩:=h;exact⟨a,by rw[A.h _ _ h1],h2⟩
 ·cases h
theorem aez {F:α→β→γ→δ→Option ρ} (h:G4 A B C D F ps=some r):∃a b c d,ps=[A.e a,B.e b,C.e c,D.e d]∧F a b c d=some r:=by
 unfold G4 at h;split at h
 ·simp only[Option.bind_eq_some_iff]at h
  obtain⟨a,h1,b,h2,c,h3,d,h4,h5⟩:=h;exact⟨a,b,c,d,by rw[A.h _ _ h1,B.h _ _ h2,C.h _ _ h3,D.h _ _ h4],h5⟩
 ·cases h
theorem apA {F:α→Option ρ} (a:α):G1 A F [A.e a]=F a:=by simp[G1,A.h']
theorem auu {F:α→β→γ→δ→Option ρ} (a:α) (b:β) (c:γ) (d:δ):G4 A B C D F [A.e a,B.e b,C.e c,D.e d]=F a b c d:=by simp[G4,A.h',B.h',C.h',D.h']
end
def nC (T sz:Nat) (es:List PV):List aL:=match es with|[]=>[]|_::_=>[(T,sz,es)]
theorem agK {T sz:Nat}:nC T sz []=[]:=rfl
theorem ahv {T sz:Nat} {es:List PV} (h:0<es.length):nC T sz es=[(T,sz,es)]:=by
 cases es with
 |nil=>simp at h
 |cons e es=>rfl
section
variable {Ψ:alC} {α:Type} {g:α→Value} {l:List α} {T sz:Nat}
theorem mq {ps:List PV} {cs0:List aL} {r r1:PV} (h2:Ψ ps=some (r,cs0)) (h3:reify true 0 (fun o=>cs0[o]?) fuel r=some r1):ac8 Ψ ps=some r1:=by unfold ac8;rw[h2,Option.bind_some,h3]
theorem adJ {nm:Nat→Nat}:∀{f:Nat} {p:PV},fJ f p=true→nN nm f p=some p
 |0,_,h=>by simp[fJ]at h
 |f+1,p,h=>by
  cases p with
  |val v=>rfl
  |dead=>rfl
  |agg cs=>
   have h2:∀c∈cs,fJ f c=true:=by simpa [fJ]using h
   simp only[Proofs.YtmmafcjjlbgnkaaGreatDoor.nN];rw[eG fun c hc=>adJ (h2 c hc)];rfl
  |_=>simp[fJ]at h
theorem ajT {β:Type} {nm:Nat→Nat} {f:Nat} {g:β→PV} {l:List β} (h:∀x,fJ 2 (g x)=true):(l.map g).mapM (nN nm (f+2))=some (l.map g):=
 eG fun e he=>by obtain⟨x,_,rfl⟩:=List.mem_map.1 he;exact adJ (lG (by omega) (h x))
theorem aiZ {nm:Nat→Nat}:wS nm fuel (T,sz,l.map fun x=>PV.val (g x))=some (T,sz,l.map fun x=>PV.val (g x)):=by unfold wS;show((l.map fun x=>PV.val (g x)).mapM (nN nm (6+2))).map _=_;rw[ajT fun _=>rfl];rfl
end
theorem akA {nm:Nat→Option Nat} {l:List PV}:l.mapM (eF nm fuel)=l.mapM (eF nm 8):=rfl
attribute[push_cast]
 akA
section
set_option linter.unusedVariables false
def inB (n a b:Int):Bool:=decide (a≤n)&&decide (n≤b)
theorem av {n a b:Int}:inB n a b=true↔a≤n∧n≤b:=by simp[inB]
theorem ad6 {a w:World} {o:Obj} (h:Below a.heap.size a w):Below a.heap.size a (w.alloc o):=h.alloc h.size o
end
section
set_option linter.unusedVariables false
def wQ (zs:List Int) (i:Nat):Bool:=inB (zs[i]?.getD 0) 1 999&&(i==0||decide (zs[i-1]?.getD 0<zs[i]?.getD 0))
def kM (zs:List Int) (k:Nat):Bool:=(List.range k).all (wQ zs)
def iX (zs:List Int):Bool:=kM zs zs.length&&decide (zs.length≤30)
theorem uo (zs:List Int) (k:Nat):kM zs (k+1)=(kM zs k&&wQ zs k):=by simp[kM,List.range_succ]
theorem acw {zs:List Int} {k n:Nat} (h:k<n) (hk:wQ zs k=false):kM zs n=false:=by simp only[kM,List.all_eq_false];exact⟨k,by simpa using h,by simp[hk]⟩
end
def GE:Ctx:={fn:=aT [],io:=aT []}
theorem iL:ak Tryz.prog GE:=okΓ aj aj
def φIn:Fun:=F3 dI dI dI fun n a b=>some (bv (inB n a b))
theorem bM (n a b:Int):φIn [.val (.int .i64 n),.val (.int .i64 a),.val (.int .i64 b)]=some (.val (.bool (inB n a b))):=rfl
theorem gY:Sound Tryz.prog 34 φIn:=by
 refine au mixed iL Tryz.func34 rfl 15 rfl [.tmp 6] rfl (by kernel_rfl) fun ps r hr=>?_;obtain⟨n,a,b,rfl,hr⟩:=ad5 hr;cases hr;refine⟨by simp,?_⟩;simp only[dIs,dUs,dSs,dw,dx,dh,dA,aS,dz,aQ,aR,aO,aP];(refine wlkX6 ?_ ?_ ?_ ?_ ?_ ?_<;>intros<;>try with_reducible exact trivial);all_goals(refine fnG ?_;try with_reducible exact trivial)
 all_goals(first|(simp_all [inB];done)|(simp_all [inB];omega))
theorem qR:Sound Tryz.prog 64 φIn:=by
 refine au mixed iL Tryz.func64 rfl 15 rfl [.tmp 6] rfl (by kernel_rfl) fun ps r hr=>?_;obtain⟨n,a,b,rfl,hr⟩:=ad5 hr;cases hr;refine⟨by simp,?_⟩;simp only[dIs,dUs,dSs,dw,dx,dh,dA,aS,dz,aQ,aR,aO,aP];(refine wlkX6 ?_ ?_ ?_ ?_ ?_ ?_<;>intros<;>try with_reducible exact trivial);all_goals(refine fnG ?_;try with_reducible exact trivial)
 all_goals(first|(simp_all [inB];done)|(simp_all [inB];omega))
def dn (s:ByteArray):Bool:=(List.range s.size).all (fun k=>inB (at8 s k) 97 122)&&inB s.size 1 20
theorem agt {s:ByteArray} {k:Nat} (h:k<s.size) (hb:¬(97≤at8 s k∧at8 s k≤122)):dn s=false:=by
 unfold dn;have:(List.range s.size).all (fun k=>inB (at8 s k) 97 122)=false:=by rw[List.all_eq_false];exact⟨k,List.mem_range.2 h,by rw[av];exact hb⟩
 rw[this];rfl
theorem wV {s:ByteArray} (h:∀j,j<s.size→97≤at8 s j∧at8 s j≤122):dn s=inB s.size 1 20:=by
 unfold dn;have:(List.range s.size).all (fun k=>inB (at8 s k) 97 122)=true:=by rw[List.all_eq_true];intro k hk;exact av.2 (h k (List.mem_range.1 hk))
 rw[this];rfl
def fQ:Fun:=F1 dS fun s=>if s.size≤1099511627776 then some (bv (dn s))else none
theorem iA {s:ByteArray} (h:s.size≤1099511627776):fQ [.val (.string s)]=some (.val (.bool (dn s))):=
 (fM (A:=dS) s).trans (if_pos h)
def nZ:Fun:=F1 dU fun n=>some (bv (inB n 97 122))
theorem sG (n:Int):nZ [.val (.int .u8 n)]=some (.val (.bool (inB n 97 122))):=rfl
theorem sj:Sound Tryz.prog 111 nZ:=by
 refine au mixed iL Tryz.func111 rfl 9 rfl [.tmp 2] rfl (by kernel_rfl) fun ps r hr=>?_;obtain⟨n,rfl,hr⟩:=bK hr;cases hr;refine⟨by simp,?_⟩;simp only[dIs,dUs,dSs,dw,dx,dh,dA,aS,dz,aQ,aR,aO,aP];(refine wlkX6 ?_ ?_ ?_ ?_ ?_ ?_<;>intros<;>try with_reducible exact trivial);all_goals(refine fnG ?_;try with_reducible exact trivial)
 all_goals(first|(simp_all [inB];done)|(simp_all [inB];omega))
def GWv:Ctx:={fn:=aT [(111,nZ),(64,φIn)],io:=aT []}
theorem azy:ak Tryz.prog GWv:=okΓ (fC Tryz.func111 sj (fC Tryz.func64 qR aj)) aj
def avK:=ah (Γ:=GWv) (f:=111) (φ:=nZ) rfl
def aBZ:=ah (Γ:=GWv) (f:=64) (φ:=φIn) rfl
theorem fE:Sound Tryz.prog 81 fQ:=by
 refine au mixed azy Tryz.func81 rfl 18 rfl [.tmp 2] rfl (by kernel_rfl) fun ps r hr=>?_;obtain⟨s,rfl,hq⟩:=bK hr;clear hr;split at hq
 case isFalse=>cases hq
 case isTrue hlen=>
 cases hq;refine⟨by simp,?_⟩;simp only[dIs,dUs,dSs,dw,dx,dh,dA,aS,dz,aQ,aR,aO,aP];have gwv_c111:=avK;have gwv_c64:=aBZ;have ap:=sG;have ap2:=bM;(refine wlkX6 ?_ ?_ ?_ ?_ ?_ ?_<;>intros<;>try with_reducible exact trivial);refine aD (α:=Nat) mixed (fun k=>[(0,sv s),(5,iv s.size),(6,iv k)]) (fun _=>[]) (fun _=>0)
  (fun k=>k≤s.size∧∀j,j<k→97≤at8 s j∧at8 s j≤122) (fun k=>s.size-k) (by kernel_rfl) 0 ⟨Nat.zero_le _,fun j hj=>by omega⟩ ?_ trivial rfl ?_
 ·simp only[push_cast,↓reduceIte,Rq,Rb,Ra,Rs,Rt]
 ·intro k ⟨hk,hok⟩
  have hrk:=ji s k;(refine wlkX6 ?_ ?_ ?_ ?_ ?_ ?_<;>intros<;>try with_reducible exact trivial);all_goals try(refine fnG ?_;try with_reducible exact trivial)
  ·rw[agt (s:=s) (k:=k) (by omega) (by(simp_all [inB];try omega))]
  ·refine⟨k+1,⟨by omega,fun j hj=>?_⟩,by dsimp only;omega,by simp only[push_cast,↓reduceIte,Rq,Rb,Ra,Rs,Rt],trivial,rfl⟩
   by_cases h1:j<k
   ·exact hok j h1
   ·have:j=k:=by omega
    subst this;simp_all [inB]
  ·rw[wV fun j hj=>hok j (by omega)]
def GWs:Ctx:={fn:=aT [(34,φIn)],io:=aT []}
theorem aCs:ak Tryz.prog GWs:=okΓ (fC Tryz.func34 gY aj) aj
def aC8:=ah (Γ:=GWs) (f:=34) (φ:=φIn) rfl
theorem fH:Sound Tryz.prog 68 fQ:=by
 refine au mixed aCs Tryz.func68 rfl 23 rfl [.tmp 2] rfl (by kernel_rfl) fun ps r hr=>?_;obtain⟨s,rfl,hq⟩:=bK hr;clear hr;split at hq
 case isFalse=>cases hq
 case isTrue hlen=>
 cases hq;refine⟨by simp,?_⟩;simp only[dIs,dUs,dSs,dw,dx,dh,dA,aS,dz,aQ,aR,aO,aP];have gws_c34:=aC8;have ap2:=bM;(refine wlkX ?_;intros);refine aD (α:=Nat) mixed (fun k=>[(0,sv s),(3,iv k)]) (fun _=>[]) (fun _=>0)
  (fun k=>k≤s.size∧∀j,j<k→97≤at8 s j∧at8 s j≤122) (fun k=>s.size-k) (by kernel_rfl) 0 ⟨Nat.zero_le _,fun j hj=>by omega⟩ ?_ trivial rfl ?_
 ·simp only[push_cast,↓reduceIte,Rq,Rb,Ra,Rs,Rt]
 ·intro k ⟨hk,hok⟩
  have hrk:=ji s k;(refine wlkX6 ?_ ?_ ?_ ?_ ?_ ?_<;>intros<;>try with_reducible exact trivial);all_goals try(refine fnG ?_;try with_reducible exact trivial)
  all_goals try(rw[agt (s:=s) (k:=k) (by omega) (by omega)];done)
  all_goals try(rw[wV fun j hj=>hok j (by omega)];done)
  all_goals
   refine⟨k+1,⟨by omega,fun j hj=>?_⟩,by dsimp only;omega,by simp only[push_cast,↓reduceIte,Rq,Rb,Ra,Rs,Rt],trivial,rfl⟩;by_cases h1:j<k
   ·exact hok j h1
   ·have:j=k:=by omega
    subst this;simp_all;try omega
def zy:Fun:=F1 dI fun n=>some (bv (inB n 1 999))
theorem acH (n:Int):zy [.val (.int .i64 n)]=some (.val (.bool (inB n 1 999))):=rfl
def GPg:Ctx:={fn:=aT [(64,φIn)],io:=aT []}
theorem aBB:ak Tryz.prog GPg:=okΓ (fC Tryz.func64 qR aj) aj
def aBp:=ah (Γ:=GPg) (f:=64) (φ:=φIn) rfl
theorem ac2:Sound Tryz.prog 82 zy:=by refine au mixed aBB Tryz.func82 rfl 5 rfl [.tmp 2] rfl (by kernel_rfl) fun ps r hr=>?_;obtain⟨n,rfl,hr⟩:=bK hr;cases hr;refine⟨by simp,?_⟩;simp only[dIs,dUs,dSs,dw,dx,dh,dA,aS,dz,aQ,aR,aO,aP];have gpg_c64:=aBp;have ap:=bM;(refine wlkX ?_;intros);all_goals(exact fnF)
def af8 (x:W2):Bool:= !dn x.1|| !inB x.2 1 999
def agm:Fun:=F1 dW2 fun x=>if x.1.size≤1099511627776 then some (bv (af8 x))else none
theorem alh {s:ByteArray} {n:Int} (h:s.size≤1099511627776):agm [.agg [.val (.string s),.val (.int .i64 n)]]=some (.val (.bool (af8 (s,n)))):=
 (fM (A:=dW2) (s,n)).trans (if_pos h)
def GIc:Ctx:={fn:=aT [(81,fQ),(82,zy)],io:=aT []}
theorem aDk:ak Tryz.prog GIc:=okΓ (fC Tryz.func81 fE (fC Tryz.func82 ac2 aj)) aj
def aAm:=ah (Γ:=GIc) (f:=81) (φ:=fQ) rfl
def aDO:=ah (Γ:=GIc) (f:=82) (φ:=zy) rfl
theorem ajK:Sound Tryz.prog 80 agm:=by
 refine au mixed aDk Tryz.func80 rfl 13 rfl [.tmp 2] rfl (by kernel_rfl) fun ps r hr=>?_;obtain⟨⟨s,n⟩,rfl,hq⟩:=bK hr;clear hr;split at hq
 case isFalse=>cases hq
 case isTrue hlen=>
 cases hq;dsimp only at hlen;refine⟨by simp,?_⟩;simp only[dIs,dUs,dSs,dw,dx,dh,dA,aS,dz,aQ,aR,aO,aP];have gic_c81:=aAm;have gic_c82:=aDO;have ap:=@iA;have ap2:=acH;(refine wlkX6 ?_ ?_ ?_ ?_ ?_ ?_<;>intros<;>try with_reducible exact trivial);all_goals(refine fnG ?_;try with_reducible exact trivial)
 all_goals simp_all [af8]
def ko {α:Type} (p:α→Bool) (zs:List α):Int:=match zs.findIdx? p with|some i=>i|none=>-1
theorem zi {α:Type} {d:α} {p:α→Bool} {zs:List α} {k:Nat} (h:∀j,j<k→p (zs[j]?.getD d)=false) (hk:k<zs.length) (hp:p (zs[k]?.getD d)=true):ko p zs=k:=by
 have:zs.findIdx? p=some k:=by rw[List.findIdx?_eq_some_iff_getElem];refine⟨hk,by simpa [hk]using hp,fun j hj=>?_⟩;have:=h j hj;simpa [show j<zs.length by omega]using this
 simp[ko,this]
theorem abT {α:Type} {d:α} {p:α→Bool} {zs:List α} (h:∀j,j<zs.length→p (zs[j]?.getD d)=false):ko p zs=-1:=by
 have:zs.findIdx? p=none:=by rw[List.findIdx?_eq_none_iff];intro x hx;obtain⟨j,hj,rfl⟩:=List.getElem_of_mem hx;simpa [hj]using h j hj
 simp[ko,this]
theorem adB {α:Type} (p:α→Bool) (zs:List α):decide (0≤ko p zs)=zs.any p:=by
 unfold ko;split
 ·rename_i i h
  rw[List.findIdx?_eq_some_iff_getElem]at h;obtain⟨h1,h2,_⟩:=h;have:zs.any p=true:=List.any_eq_true.2 ⟨_,List.getElem_mem h1,h2⟩;simp[this]
 ·rename_i h
  rw[List.findIdx?_eq_none_iff]at h;have:zs.any p=false:=by rw[List.any_eq_false];intro x hx;simp[h x hx]
  simp[this]
theorem aje {α:Type} {d:α} {zs:List α} {p:α→Bool} {k:Nat} (hk:k<zs.length) (hp:p (zs[k]?.getD d)=true):zs.any p=true:=
 List.any_eq_true.2 ⟨zs[k],List.getElem_mem hk,by simpa [hk]using hp⟩
theorem ala {α:Type} {d:α} {zs:List α} {p:α→Bool} (h:∀j,j<zs.length→p (zs[j]?.getD d)=false):zs.any p=false:=by rw[List.any_eq_false];intro x hx;obtain⟨j,hj,rfl⟩:=List.getElem_of_mem hx;simpa [hj]using h j hj
abbrev okW (l:List W2):Prop:=l.length≤1099511627776∧∀i:Nat,(l[i]?.getD w0).1.size≤1099511627776
instance (l:List W2):Decidable (okW l):=Classical.propDecidable _
abbrev dWs:Dec (List W2):=dL 2 dW2
abbrev pvW (x:W2):PV:=.agg [.val (.string x.1),.val (.int .i64 x.2)]
def ahS:Fun:=F2 dWs (dFn 80) fun l _=>if okW l then some (iv (ko af8 l))else none
def GXw:Ctx:={fn:=aT [(80,agm)],io:=aT []}
theorem aC9:ak Tryz.prog GXw:=okΓ (fC Tryz.func80 ajK aj) aj
def aDZ:=ah (Γ:=GXw) (f:=80) (φ:=agm) rfl
theorem axL:Sound Tryz.prog 110 ahS:=by
 refine au mixed aC9 Tryz.func110 rfl 19 rfl [.tmp 4] rfl (by kernel_rfl) fun ps r hr=>?_;obtain⟨l,u,rfl,hq⟩:=pO hr;clear hr;split at hq
 case isFalse=>cases hq
 case isTrue hok=>
 cases hq;obtain⟨hlen,hsz⟩:=hok;refine⟨by simp,?_⟩;simp only[dIs,dUs,dSs,dw,dx,dh,dA,aS,dz,aQ,aR,aO,aP];have gxw_c80:=aDZ;(refine wlkX6 ?_ ?_ ?_ ?_ ?_ ?_<;>intros<;>try with_reducible exact trivial);refine aD (α:=Nat) mixed (fun k=>[(0,.lst false 2 (l.map fun x=> .agg [.val (.string x.1),.val (.int .i64 x.2)])),(1,.val (.func (.func 80) #[] #[])),(7,iv l.length),(8,iv k)]) (fun _=>[]) (fun _=>0)
  (fun k=>k≤l.length∧∀j,j<k→af8 (l[j]?.getD w0)=false) (fun k=>l.length-k) (by kernel_rfl) 0 ⟨Nat.zero_le _,fun j hj=>by omega⟩ ?_ trivial rfl ?_
 ·simp only[push_cast,↓reduceIte,Rq,Rb,Ra,Rs,Rt]
 ·intro k ⟨hk,hok⟩
  have ap:=@alh _ (l[k]?.getD w0).2 (hsz k);clear hsz;(refine wlkX6 ?_ ?_ ?_ ?_ ?_ ?_<;>intros<;>try with_reducible exact trivial);all_goals try(refine fnG ?_;try with_reducible exact trivial)
  ·rw[zi (d:=w0) hok (by omega) (by simp_all)]
  ·refine⟨k+1,⟨by omega,fun j hj=>?_⟩,by dsimp only;omega,by simp only[push_cast,↓reduceIte,Rq,Rb,Ra,Rs,Rt],trivial,rfl⟩
   by_cases h1:j<k
   ·exact hok j h1
   ·have:j=k:=by omega
    subst this;simp_all
  ·rw[abT (d:=w0) fun j hj=>hok j (by omega)]
theorem alD {l:List W2} (h:okW l):ahS [.lst false 2 (l.map fun x=> .agg [.val (.string x.1),.val (.int .i64 x.2)]),.val (.func (.func 80) #[] #[])]=some (.val (.int .i64 (ko af8 l))):=
 (jA (A:=dWs) (B:=dFn 80) l ()).trans (if_pos h)
def ahV:Fun:=F2 dWs (dFn 80) fun l _=>if okW l then some (bv (l.any af8))else none
theorem am9 {l:List W2} (h:okW l):ahV [.lst false 2 (l.map fun x=> .agg [.val (.string x.1),.val (.int .i64 x.2)]),.val (.func (.func 80) #[] #[])]=some (.val (.bool (l.any af8))):=
 (jA (A:=dWs) (B:=dFn 80) l ()).trans (if_pos h)
def GCw:Ctx:={fn:=aT [(110,ahS)],io:=aT []}
theorem azD:ak Tryz.prog GCw:=okΓ (fC Tryz.func110 axL aj) aj
def au9:=ah (Γ:=GCw) (f:=110) (φ:=ahS) rfl
theorem avp:Sound Tryz.prog 79 ahV:=by
 refine au mixed azD Tryz.func79 rfl 9 rfl [.tmp 4] rfl (by kernel_rfl) fun ps r hr=>?_;obtain⟨l,u,rfl,hq⟩:=pO hr;clear hr;split at hq
 case isFalse=>cases hq
 case isTrue hok=>
 cases hq;have ap:=alD hok;clear hok;refine⟨by simp,?_⟩;simp only[dIs,dUs,dSs,dw,dx,dh,dA,aS,dz,aQ,aR,aO,aP];have gcw_c110:=au9;(refine wlkX6 ?_ ?_ ?_ ?_ ?_ ?_<;>intros<;>try with_reducible exact trivial);all_goals(refine fnG ?_;try with_reducible exact trivial)
 all_goals rw[adB]
def indexB (l:List W2):Bool:=decide (l.length≤30)&& !l.any af8
def eX:Fun:=F1 dWs fun l=>if okW l then some (bv (indexB l))else none
theorem iP {l:List W2} (h:okW l):eX [.lst false 2 (l.map fun x=> .agg [.val (.string x.1),.val (.int .i64 x.2)])]=some (.val (.bool (indexB l))):=
 (fM (A:=dWs) l).trans (if_pos h)
def GIi:Ctx:={fn:=aT [(79,ahV)],io:=aT []}
theorem aBj:ak Tryz.prog GIi:=okΓ (fC Tryz.func79 avp aj) aj
def aDW:=ah (Γ:=GIi) (f:=79) (φ:=ahV) rfl
theorem lV:Sound Tryz.prog 45 eX:=by
 refine au mixed aBj Tryz.func45 rfl 11 rfl [.tmp 2] rfl (by kernel_rfl) fun ps r hr=>?_;obtain⟨l,rfl,hq⟩:=bK hr;clear hr;split at hq
 case isFalse=>cases hq
 case isTrue hok=>
 cases hq;have hlen:=hok.1;have ap:=am9 hok;clear hok;refine⟨by simp,?_⟩;simp only[dIs,dUs,dSs,dw,dx,dh,dA,aS,dz,aQ,aR,aO,aP];have gii_c79:=aDW;(refine wlkX6 ?_ ?_ ?_ ?_ ?_ ?_<;>intros<;>try with_reducible exact trivial);all_goals(refine fnG ?_;try with_reducible exact trivial)
 all_goals(simp_all [indexB];try omega)
def GIs:Ctx:={fn:=aT [(68,fQ),(34,φIn)],io:=aT []}
theorem aDb:ak Tryz.prog GIs:=okΓ (fC Tryz.func68 fH (fC Tryz.func34 gY aj)) aj
def aCZ:=ah (Γ:=GIs) (f:=68) (φ:=fQ) rfl
def aAe:=ah (Γ:=GIs) (f:=34) (φ:=φIn) rfl
theorem tC:Sound Tryz.prog 87 eX:=by
 refine au mixed aDb Tryz.func87 rfl 29 rfl [.tmp 2] rfl (by kernel_rfl) fun ps r hr=>?_;obtain⟨l,rfl,hq⟩:=bK hr;clear hr;split at hq
 case isFalse=>cases hq
 case isTrue hok=>
 cases hq;obtain⟨hlen,hsz⟩:=hok;refine⟨by simp,?_⟩;simp only[dIs,dUs,dSs,dw,dx,dh,dA,aS,dz,aQ,aR,aO,aP];have gis_c68:=aCZ;have gis_c34:=aAe;(refine wlkX6 ?_ ?_ ?_ ?_ ?_ ?_<;>intros<;>try with_reducible exact trivial);refine aD (α:=Nat) mixed (fun k=>[(0,.lst false 2 (l.map fun x=> .agg [.val (.string x.1),.val (.int .i64 x.2)])),(3,iv k)]) (fun _=>[]) (fun _=>0)
  (fun k=>k≤l.length∧∀j,j<k→af8 (l[j]?.getD w0)=false) (fun k=>l.length-k) (by kernel_rfl) 0 ⟨Nat.zero_le _,fun j hj=>by omega⟩ ?_ trivial rfl ?_
 ·simp only[push_cast,↓reduceIte,Rq,Rb,Ra,Rs,Rt]
 ·intro k ⟨hk,hok⟩
  have ap:=@iA (l[k]?.getD w0).1 (hsz k);have ap2:=bM;clear hsz;have hb:af8 (l[k]?.getD w0)=(!dn (l[k]?.getD w0).1|| !inB (l[k]?.getD w0).2 1 999):=rfl;(refine wlkX6 ?_ ?_ ?_ ?_ ?_ ?_<;>intros<;>try with_reducible exact trivial);all_goals try(refine fnG ?_;try with_reducible exact trivial)
  all_goals try(rw[show indexB l=false from by(unfold indexB;rw[aje (d:=w0) (k:=k) (by omega) (by simp_all)];simp)];done)
  all_goals try(rw[show indexB l=decide (l.length≤30)from by(unfold indexB;rw[ala (d:=w0) fun j hj=>hok j (by omega)];simp)];simp;omega)
  all_goals
   refine⟨k+1,⟨by omega,fun j hj=>?_⟩,by dsimp only;omega,by simp only[push_cast,↓reduceIte,Rq,Rb,Ra,Rs,Rt],trivial,rfl⟩;by_cases h1:j<k
   ·exact hok j h1
   ·have:j=k:=by omega
    subst this;simp_all
end
end Go.Proofs.YtmmafcjjlbgnkaaGreatDoor
