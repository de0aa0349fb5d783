/- What both Executes come to: contracts and plain laws, for the laws on Execute. No conditions. (Part 25 of 28.) -/
import Derived.Test.YtiobedekgnfjcaaGreatDoorME19
import Derived.Test.YtiobedekgnfjcaaGreatDoorME20
import Derived.Test.YtiobedekgnfjcaaGreatDoorME21
import Derived.Test.YtiobedekgnfjcaaGreatDoorME22
import Derived.Shelf.LaysM
import Derived.Shelf.Strings.Split
import Derived.Shelf.Strings.SplitShaped
import Derived.Shelf.Strings.Cut
import Derived.Shelf.Strings.OnBuilder
import Derived.Shelf.Strconv.Itoa3
import Derived.Shelf.Strconv.Atoi
import Derived.Shelf.Strings.SlTrimAscii
import Derived.Lib.SplitLaws
import Derived.Lib.AtoiErrMem
set_option linter.unusedVariables false
set_option linter.unusedSimpArgs false
set_option maxHeartbeats 8000000
set_option maxRecDepth 100000
namespace Go.Proofs
open Go.Proofs.YtiobedekgnfjcaaGreatDoor
open Go.Shelf
def Tryz.lays156_ren:Go.Shelf.Ren:=⟨fun|156=>92|165=>162|166=>163|169=>164|240=>223|241=>224|276=>270|277=>271|n=>n,fun|31=>46|9=>9|3=>3|4=>4|0=>0|20=>20|72=>123|76=>88|70=>121|37=>22|75=>87|127=>155|164=>188|5=>5|80=>125|n=>n,fun|n=>n⟩
theorem Tryz.lays156:Go.Proofs.Lays.n156 Tryz.prog Tryz.lays156_ren:={
 mixed:=by kernel_rfl
 f156:=Tryz.func92.trans (congrArg some am)
 f165:=Tryz.func162.trans (congrArg some am)
 f166:=Tryz.func163.trans (congrArg some am)
 f169:=Tryz.func164.trans (congrArg some am)
 f240:=Tryz.func223.trans (congrArg some am)
 f241:=Tryz.func224.trans (congrArg some am)
 f276:=Tryz.func270.trans (congrArg some am)
 f277:=Tryz.func271.trans (congrArg some am)
 t0:=Tryz.underlying0
 a0:=Tryz.isAgg0
 z0:=Tryz.sizeOf0
 v0:=Tryz.zeroValue0
 t3:=Tryz.underlying3
 a3:=Tryz.isAgg3
 z3:=Tryz.sizeOf3
 v3:=Tryz.zeroValue3
 t4:=Tryz.underlying4
 a4:=Tryz.isAgg4
 z4:=Tryz.sizeOf4
 v4:=Tryz.zeroValue4
 t9:=Tryz.underlying9
 a9:=Tryz.isAgg9
 z9:=Tryz.sizeOf9
 v9:=Tryz.zeroValue9
 t20:=Tryz.underlying20
 a20:=Tryz.isAgg20
 z20:=Tryz.sizeOf20
 v20:=Tryz.zeroValue20
 t31:=Tryz.underlying46
 a31:=Tryz.isAgg46
 z31:=Tryz.sizeOf46
 v31:=Tryz.zeroValue46
 t37:=Tryz.underlying22
 a37:=Tryz.isAgg22
 z37:=Tryz.sizeOf22
 v37:=Tryz.zeroValue22
 t70:=Tryz.underlying121
 a70:=Tryz.isAgg121
 z70:=Tryz.sizeOf121
 v70:=Tryz.zeroValue121
 t72:=Tryz.underlying123
 a72:=Tryz.isAgg123
 z72:=Tryz.sizeOf123
 v72:=Tryz.zeroValue123
 t75:=Tryz.underlying87
 a75:=Tryz.isAgg87
 z75:=Tryz.sizeOf87
 v75:=Tryz.zeroValue87
 t76:=Tryz.underlying88
 a76:=Tryz.isAgg88
 z76:=Tryz.sizeOf88
 v76:=Tryz.zeroValue88
 t127:=Tryz.underlying155
 a127:=Tryz.isAgg155
 z127:=Tryz.sizeOf155
 v127:=Tryz.zeroValue155
 t164:=Tryz.underlying188
 a164:=Tryz.isAgg188
 z164:=Tryz.sizeOf188
 v164:=Tryz.zeroValue188 }
theorem Tryz.Builder_Extra_156:Builder.Extra Tryz.prog Tryz.lays156_ren:={
 sizeBuilder:=by kernel_rfl
 liesBuilder:=by kernel_rfl
 t5:=Tryz.underlying5
 a5:=Tryz.isAgg5
 z5:=Tryz.sizeOf5
 v5:=Tryz.zeroValue5
 infoByte:=by kernel_rfl
 cellsByte:=by kernel_rfl
 sizeByte:=by kernel_rfl
 neB5:=by decide }
open Go.RowKit in
theorem Tryz.strings_Join_none(a:Option Addr)(c:Nat)(sep:ByteArray)(w:World):
 Calls Tryz.prog 92 #[.slice a 0 c,.string sep] w fun e w'=>e=.returned (.string ⟨#[]⟩)∧w'=w:=Any.strings_Join_none Tryz.lays156 Tryz.Builder_Extra_156 a c sep w
open Go.RowKit in
theorem Tryz.strings_Join(bk o c:Nat)(xs:List ByteArray)(sep:ByteArray)(w:World)(hcells:∀(j:Nat) x,xs[j]?=some x→w.cell? ⟨bk,o+j,none⟩=some (.string x))(hbk:bk<w.heap.size)(hN:xs.length≤140737488355328)(hcap:xs.length≤c)(hlen:(Lib.join (xs.map (·.data.toList)) sep.data.toList).length≤140737488355328):
 Calls Tryz.prog 92 #[.slice (some ⟨bk,o,none⟩) xs.length c,.string sep] w fun e w'=>e=.returned (.string ⟨(Lib.join (xs.map (·.data.toList)) sep.data.toList).toArray⟩)∧Below w.heap.size w w':=Any.strings_Join Tryz.lays156 Tryz.Builder_Extra_156 bk o c xs sep w hcells hbk hN hcap hlen
def Tryz.lays160_ren:Go.Shelf.Ren:=⟨fun|160=>90|232=>154|231=>153|227=>155|234=>157|233=>156|236=>159|235=>158|228=>215|271=>217|151=>216|197=>123|120=>266|152=>265|260=>193|137=>284|119=>285|224=>196|225=>195|217=>194|266=>239|n=>n,fun|9=>9|4=>4|3=>3|5=>5|117=>116|116=>115|0=>0|124=>119|21=>21|105=>101|46=>140|119=>162|139=>165|138=>164|n=>n,fun|3=>2|4=>3|n=>n⟩
theorem Tryz.lays160:Go.Proofs.Lays.n160 Tryz.prog Tryz.lays160_ren:={
 mixed:=by kernel_rfl
 f119:=Tryz.func285.trans (congrArg some am)
 f120:=Tryz.func266.trans (congrArg some am)
 f137:=Tryz.func284.trans (congrArg some am)
 f151:=Tryz.func216.trans (congrArg some am)
 f152:=Tryz.func265.trans (congrArg some am)
 f160:=Tryz.func90.trans (congrArg some am)
 f197:=Tryz.func123.trans (congrArg some am)
 f217:=Tryz.func194.trans (congrArg some am)
 f224:=Tryz.func196.trans (congrArg some am)
 f225:=Tryz.func195.trans (congrArg some am)
 f227:=Tryz.func155.trans (congrArg some am)
 f228:=Tryz.func215.trans (congrArg some am)
 f231:=Tryz.func153.trans (congrArg some am)
 f232:=Tryz.func154.trans (congrArg some am)
 f233:=Tryz.func156.trans (congrArg some am)
 f234:=Tryz.func157.trans (congrArg some am)
 f235:=Tryz.func158.trans (congrArg some am)
 f236:=Tryz.func159.trans (congrArg some am)
 f260:=Tryz.func193.trans (congrArg some am)
 f266:=Tryz.func239.trans (congrArg some am)
 f271:=Tryz.func217.trans (congrArg some am)
 t0:=Tryz.underlying0
 a0:=Tryz.isAgg0
 z0:=Tryz.sizeOf0
 v0:=Tryz.zeroValue0
 t3:=Tryz.underlying3
 a3:=Tryz.isAgg3
 z3:=Tryz.sizeOf3
 v3:=Tryz.zeroValue3
 t4:=Tryz.underlying4
 a4:=Tryz.isAgg4
 z4:=Tryz.sizeOf4
 v4:=Tryz.zeroValue4
 t5:=Tryz.underlying5
 a5:=Tryz.isAgg5
 z5:=Tryz.sizeOf5
 v5:=Tryz.zeroValue5
 t9:=Tryz.underlying9
 a9:=Tryz.isAgg9
 z9:=Tryz.sizeOf9
 v9:=Tryz.zeroValue9
 t21:=Tryz.underlying21
 a21:=Tryz.isAgg21
 z21:=Tryz.sizeOf21
 v21:=Tryz.zeroValue21
 t46:=Tryz.underlying140
 a46:=Tryz.isAgg140
 z46:=Tryz.sizeOf140
 v46:=Tryz.zeroValue140
 t105:=Tryz.underlying101
 a105:=Tryz.isAgg101
 z105:=Tryz.sizeOf101
 v105:=Tryz.zeroValue101
 t116:=Tryz.underlying115
 a116:=Tryz.isAgg115
 z116:=Tryz.sizeOf115
 t117:=Tryz.underlying116
 a117:=Tryz.isAgg116
 z117:=Tryz.sizeOf116
 v117:=Tryz.zeroValue116
 t119:=Tryz.underlying162
 a119:=Tryz.isAgg162
 z119:=Tryz.sizeOf162
 t124:=Tryz.underlying119
 a124:=Tryz.isAgg119
 z124:=Tryz.sizeOf119
 v124:=Tryz.zeroValue119
 t138:=Tryz.underlying164
 a138:=Tryz.isAgg164
 z138:=Tryz.sizeOf164
 v138:=Tryz.zeroValue164
 t139:=Tryz.underlying165
 a139:=Tryz.isAgg165
 z139:=Tryz.sizeOf165
 v139:=Tryz.zeroValue165
 g3:=by kernel_rfl
 g4:=by kernel_rfl }
open Go.RowKit in
theorem Tryz.strings_Trim(s cutset:ByteArray)(w:World)(hs:s.size≤9223372036854775807)(hcs:cutset.size<4294967281)(hascii:∀(j:Nat) b,cutset.data.toList[j]?=some b→b.toNat<128):
 Calls Tryz.prog 90 #[.string s,.string cutset] w fun e w'=>e=.returned (.string ⟨(Lib.trimS s.data.toList cutset.data.toList).toArray⟩)∧Below w.heap.size w w':=Any.strings_Trim_laid Tryz.lays160 am s cutset w hs hcs hascii
def Tryz.lays172_ren:Go.Shelf.Ren:=⟨fun|172=>91|244=>160|245=>161|247=>218|279=>219|280=>220|281=>221|282=>222|287=>267|316=>268|171=>30|205=>269|321=>286|322=>287|243=>55|246=>96|283=>167|284=>168|285=>169|286=>170|129=>226|317=>225|318=>227|319=>228|320=>229|337=>272|338=>273|n=>n,fun|9=>9|3=>3|75=>87|76=>88|4=>4|5=>5|167=>149|37=>22|0=>0|85=>150|2=>2|168=>152|53=>127|175=>183|46=>140|210=>186|127=>155|145=>203|143=>201|21=>21|171=>126|173=>130|212=>157|51=>158|20=>20|213=>159|232=>204|233=>205|80=>125|n=>n,fun|15=>4|16=>5|17=>1|18=>6|19=>7|n=>n⟩
theorem Tryz.lays172:Go.Proofs.Lays.n172 Tryz.prog Tryz.lays172_ren:={
 mixed:=by kernel_rfl
 f129:=Tryz.func226.trans (congrArg some am)
 f171:=Tryz.func30.trans (congrArg some am)
 f172:=Tryz.func91.trans (congrArg some am)
 f205:=Tryz.func269.trans (congrArg some am)
 f243:=Tryz.func55.trans (congrArg some am)
 f244:=Tryz.func160.trans (congrArg some am)
 f245:=Tryz.func161.trans (congrArg some am)
 f246:=Tryz.func96.trans (congrArg some am)
 f247:=Tryz.func218.trans (congrArg some am)
 f279:=Tryz.func219.trans (congrArg some am)
 f280:=Tryz.func220.trans (congrArg some am)
 f281:=Tryz.func221.trans (congrArg some am)
 f282:=Tryz.func222.trans (congrArg some am)
 f283:=Tryz.func167.trans (congrArg some am)
 f284:=Tryz.func168.trans (congrArg some am)
 f285:=Tryz.func169.trans (congrArg some am)
 f286:=Tryz.func170.trans (congrArg some am)
 f287:=Tryz.func267.trans (congrArg some am)
 f316:=Tryz.func268.trans (congrArg some am)
 f317:=Tryz.func225.trans (congrArg some am)
 f318:=Tryz.func227.trans (congrArg some am)
 f319:=Tryz.func228.trans (congrArg some am)
 f320:=Tryz.func229.trans (congrArg some am)
 f321:=Tryz.func286.trans (congrArg some am)
 f322:=Tryz.func287.trans (congrArg some am)
 f337:=Tryz.func272.trans (congrArg some am)
 f338:=Tryz.func273.trans (congrArg some am)
 t0:=Tryz.underlying0
 a0:=Tryz.isAgg0
 z0:=Tryz.sizeOf0
 v0:=Tryz.zeroValue0
 t2:=Tryz.underlying2
 a2:=Tryz.isAgg2
 z2:=Tryz.sizeOf2
 v2:=Tryz.zeroValue2
 t3:=Tryz.underlying3
 a3:=Tryz.isAgg3
 z3:=Tryz.sizeOf3
 v3:=Tryz.zeroValue3
 t4:=Tryz.underlying4
 a4:=Tryz.isAgg4
 z4:=Tryz.sizeOf4
 v4:=Tryz.zeroValue4
 t5:=Tryz.underlying5
 a5:=Tryz.isAgg5
 z5:=Tryz.sizeOf5
 v5:=Tryz.zeroValue5
 t9:=Tryz.underlying9
 a9:=Tryz.isAgg9
 z9:=Tryz.sizeOf9
 v9:=Tryz.zeroValue9
 t20:=Tryz.underlying20
 a20:=Tryz.isAgg20
 z20:=Tryz.sizeOf20
 v20:=Tryz.zeroValue20
 t21:=Tryz.underlying21
 a21:=Tryz.isAgg21
 z21:=Tryz.sizeOf21
 v21:=Tryz.zeroValue21
 t37:=Tryz.underlying22
 a37:=Tryz.isAgg22
 z37:=Tryz.sizeOf22
 v37:=Tryz.zeroValue22
 t46:=Tryz.underlying140
 a46:=Tryz.isAgg140
 z46:=Tryz.sizeOf140
 v46:=Tryz.zeroValue140
 t51:=Tryz.underlying158
 a51:=Tryz.isAgg158
 z51:=Tryz.sizeOf158
 v51:=Tryz.zeroValue158
 t53:=Tryz.underlying127
 a53:=Tryz.isAgg127
 z53:=Tryz.sizeOf127
 v53:=Tryz.zeroValue127
 t75:=Tryz.underlying87
 a75:=Tryz.isAgg87
 z75:=Tryz.sizeOf87
 v75:=Tryz.zeroValue87
 t76:=Tryz.underlying88
 a76:=Tryz.isAgg88
 z76:=Tryz.sizeOf88
 v76:=Tryz.zeroValue88
 t85:=Tryz.underlying150
 a85:=Tryz.isAgg150
 z85:=Tryz.sizeOf150
 v85:=Tryz.zeroValue150
 t127:=Tryz.underlying155
 a127:=Tryz.isAgg155
 z127:=Tryz.sizeOf155
 v127:=Tryz.zeroValue155
 t143:=Tryz.underlying201
 a143:=Tryz.isAgg201
 z143:=Tryz.sizeOf201
 v143:=Tryz.zeroValue201
 t145:=Tryz.underlying203
 a145:=Tryz.isAgg203
 z145:=Tryz.sizeOf203
 v145:=Tryz.zeroValue203
 t167:=Tryz.underlying149
 a167:=Tryz.isAgg149
 z167:=Tryz.sizeOf149
 v167:=Tryz.zeroValue149
 t168:=Tryz.underlying152
 a168:=Tryz.isAgg152
 z168:=Tryz.sizeOf152
 v168:=Tryz.zeroValue152
 t171:=Tryz.underlying126
 a171:=Tryz.isAgg126
 z171:=Tryz.sizeOf126
 v171:=Tryz.zeroValue126
 t173:=Tryz.underlying130
 a173:=Tryz.isAgg130
 z173:=Tryz.sizeOf130
 v173:=Tryz.zeroValue130
 t175:=Tryz.underlying183
 a175:=Tryz.isAgg183
 z175:=Tryz.sizeOf183
 v175:=Tryz.zeroValue183
 t210:=Tryz.underlying186
 a210:=Tryz.isAgg186
 z210:=Tryz.sizeOf186
 v210:=Tryz.zeroValue186
 t212:=Tryz.underlying157
 a212:=Tryz.isAgg157
 z212:=Tryz.sizeOf157
 v212:=Tryz.zeroValue157
 t213:=Tryz.underlying159
 a213:=Tryz.isAgg159
 z213:=Tryz.sizeOf159
 t232:=Tryz.underlying204
 a232:=Tryz.isAgg204
 z232:=Tryz.sizeOf204
 v232:=Tryz.zeroValue204
 t233:=Tryz.underlying205
 a233:=Tryz.isAgg205
 z233:=Tryz.sizeOf205
 v233:=Tryz.zeroValue205
 g15:=by kernel_rfl
 g16:=by kernel_rfl
 g17:=by kernel_rfl
 g18:=by kernel_rfl
 g19:=by kernel_rfl }
open Go.RowKit in
theorem Tryz.strconv_Atoi(s:ByteArray)(n:Int)(hl:s.size≤18)(h:Lib.atoi s.data.toList=some n)(w:World):
 Calls Tryz.prog 91 #[.string s] w fun e w'=>e=.returned (.tuple #[.int .i64 n,.nilIface])∧∃t,w'=Lib.bytesWorld w 5 t:=Any.strconv_Atoi Tryz.lays172 s n hl h w
def Tryz.lays171_ren:Go.Shelf.Ren:=⟨fun|171=>30|243=>55|246=>96|283=>167|284=>168|285=>169|286=>170|129=>226|317=>225|318=>227|319=>228|320=>229|337=>272|338=>273|n=>n,fun|3=>3|9=>9|2=>2|4=>4|171=>126|0=>0|53=>127|37=>22|5=>5|173=>130|212=>157|51=>158|20=>20|213=>159|46=>140|232=>204|233=>205|n=>n,fun|17=>1|18=>6|19=>7|n=>n⟩
theorem Tryz.lays171:Go.Proofs.Lays.n171 Tryz.prog Tryz.lays171_ren:={
 mixed:=by kernel_rfl
 f129:=Tryz.func226.trans (congrArg some am)
 f171:=Tryz.func30.trans (congrArg some am)
 f243:=Tryz.func55.trans (congrArg some am)
 f246:=Tryz.func96.trans (congrArg some am)
 f283:=Tryz.func167.trans (congrArg some am)
 f284:=Tryz.func168.trans (congrArg some am)
 f285:=Tryz.func169.trans (congrArg some am)
 f286:=Tryz.func170.trans (congrArg some am)
 f317:=Tryz.func225.trans (congrArg some am)
 f318:=Tryz.func227.trans (congrArg some am)
 f319:=Tryz.func228.trans (congrArg some am)
 f320:=Tryz.func229.trans (congrArg some am)
 f337:=Tryz.func272.trans (congrArg some am)
 f338:=Tryz.func273.trans (congrArg some am)
 t0:=Tryz.underlying0
 a0:=Tryz.isAgg0
 z0:=Tryz.sizeOf0
 v0:=Tryz.zeroValue0
 t2:=Tryz.underlying2
 a2:=Tryz.isAgg2
 z2:=Tryz.sizeOf2
 v2:=Tryz.zeroValue2
 t3:=Tryz.underlying3
 a3:=Tryz.isAgg3
 z3:=Tryz.sizeOf3
 v3:=Tryz.zeroValue3
 t4:=Tryz.underlying4
 a4:=Tryz.isAgg4
 z4:=Tryz.sizeOf4
 v4:=Tryz.zeroValue4
 t5:=Tryz.underlying5
 a5:=Tryz.isAgg5
 z5:=Tryz.sizeOf5
 v5:=Tryz.zeroValue5
 t9:=Tryz.underlying9
 a9:=Tryz.isAgg9
 z9:=Tryz.sizeOf9
 v9:=Tryz.zeroValue9
 t20:=Tryz.underlying20
 a20:=Tryz.isAgg20
 z20:=Tryz.sizeOf20
 v20:=Tryz.zeroValue20
 t37:=Tryz.underlying22
 a37:=Tryz.isAgg22
 z37:=Tryz.sizeOf22
 v37:=Tryz.zeroValue22
 t46:=Tryz.underlying140
 a46:=Tryz.isAgg140
 z46:=Tryz.sizeOf140
 v46:=Tryz.zeroValue140
 t51:=Tryz.underlying158
 a51:=Tryz.isAgg158
 z51:=Tryz.sizeOf158
 v51:=Tryz.zeroValue158
 t53:=Tryz.underlying127
 a53:=Tryz.isAgg127
 z53:=Tryz.sizeOf127
 v53:=Tryz.zeroValue127
 t171:=Tryz.underlying126
 a171:=Tryz.isAgg126
 z171:=Tryz.sizeOf126
 v171:=Tryz.zeroValue126
 t173:=Tryz.underlying130
 a173:=Tryz.isAgg130
 z173:=Tryz.sizeOf130
 v173:=Tryz.zeroValue130
 t212:=Tryz.underlying157
 a212:=Tryz.isAgg157
 z212:=Tryz.sizeOf157
 v212:=Tryz.zeroValue157
 t213:=Tryz.underlying159
 a213:=Tryz.isAgg159
 z213:=Tryz.sizeOf159
 t232:=Tryz.underlying204
 a232:=Tryz.isAgg204
 z232:=Tryz.sizeOf204
 v232:=Tryz.zeroValue204
 t233:=Tryz.underlying205
 a233:=Tryz.isAgg205
 z233:=Tryz.sizeOf205
 v233:=Tryz.zeroValue205
 g17:=by kernel_rfl
 g18:=by kernel_rfl
 g19:=by kernel_rfl }
open Go.RowKit Go.Sort Go.Lib in
theorem Tryz.strconv_Itoa_small(i:Nat)(hi:i<100)(w:World):
 Calls Tryz.prog 30 #[.int .i64 i] w fun e w'=>e=.returned (.string ⟨(Lib.decDigits i).toArray⟩)∧w'=w:=Any.strconv_Itoa_small Tryz.lays171 i hi w
def Tryz.lays145_ren:Go.Shelf.Ren:=⟨fun|145=>46|220=>76|219=>125|217=>194|225=>195|224=>196|267=>197|266=>239|314=>240|n=>n,fun|9=>9|4=>4|59=>60|3=>3|5=>5|46=>140|146=>166|51=>158|n=>n,fun|1=>0|n=>n⟩
theorem Tryz.lays145:Go.Proofs.Lays.n145 Tryz.prog Tryz.lays145_ren:={
 mixed:=by kernel_rfl
 f145:=Tryz.func46.trans (congrArg some am)
 f217:=Tryz.func194.trans (congrArg some am)
 f219:=Tryz.func125.trans (congrArg some am)
 f220:=Tryz.func76.trans (congrArg some am)
 f224:=Tryz.func196.trans (congrArg some am)
 f225:=Tryz.func195.trans (congrArg some am)
 f266:=Tryz.func239.trans (congrArg some am)
 f267:=Tryz.func197.trans (congrArg some am)
 f314:=Tryz.func240.trans (congrArg some am)
 t3:=Tryz.underlying3
 a3:=Tryz.isAgg3
 z3:=Tryz.sizeOf3
 v3:=Tryz.zeroValue3
 t4:=Tryz.underlying4
 a4:=Tryz.isAgg4
 z4:=Tryz.sizeOf4
 v4:=Tryz.zeroValue4
 t5:=Tryz.underlying5
 a5:=Tryz.isAgg5
 z5:=Tryz.sizeOf5
 v5:=Tryz.zeroValue5
 t9:=Tryz.underlying9
 a9:=Tryz.isAgg9
 z9:=Tryz.sizeOf9
 v9:=Tryz.zeroValue9
 t46:=Tryz.underlying140
 a46:=Tryz.isAgg140
 z46:=Tryz.sizeOf140
 v46:=Tryz.zeroValue140
 t51:=Tryz.underlying158
 a51:=Tryz.isAgg158
 z51:=Tryz.sizeOf158
 v51:=Tryz.zeroValue158
 t59:=Tryz.underlying60
 a59:=Tryz.isAgg60
 z59:=Tryz.sizeOf60
 v59:=Tryz.zeroValue60
 t146:=Tryz.underlying166
 a146:=Tryz.isAgg166
 z146:=Tryz.sizeOf166
 v146:=Tryz.zeroValue166
 g1:=by kernel_rfl }
open Go.RowKit Go.Lib in
theorem Tryz.strings_Cut(s sep:ByteArray)(m:Int)(w:World)(hs:s.size<4294967281)(hm:w.cell? ⟨0,0,none⟩=some (.int .i64 m)):
 Calls Tryz.prog 46 #[.string s,.string sep] w fun e w'=>e=.returned (.tuple #[.string ⟨(Lib.cut s.data.toList sep.data.toList).1.toArray⟩,.string ⟨(Lib.cut s.data.toList sep.data.toList).2.1.toArray⟩,.bool (Lib.cut s.data.toList sep.data.toList).2.2])∧∃n,w'=w.drewN n:=Any.strings_Cut Tryz.lays145 s sep m w hs hm
def Tryz.lays146_ren:Go.Shelf.Ren:=⟨fun|146=>28|221=>45|268=>73|138=>74|143=>75|195=>122|197=>123|218=>124|219=>125|260=>193|217=>194|225=>195|224=>196|267=>197|266=>239|314=>240|n=>n,fun|9=>9|31=>46|3=>3|4=>4|0=>0|105=>101|21=>21|5=>5|46=>140|119=>162|139=>165|138=>164|146=>166|51=>158|n=>n,fun|1=>0|3=>2|4=>3|n=>n⟩
theorem Tryz.lays146:Go.Proofs.Lays.n146 Tryz.prog Tryz.lays146_ren:={
 mixed:=by kernel_rfl
 f138:=Tryz.func74.trans (congrArg some am)
 f143:=Tryz.func75.trans (congrArg some am)
 f146:=Tryz.func28.trans (congrArg some am)
 f195:=Tryz.func122.trans (congrArg some am)
 f197:=Tryz.func123.trans (congrArg some am)
 f217:=Tryz.func194.trans (congrArg some am)
 f218:=Tryz.func124.trans (congrArg some am)
 f219:=Tryz.func125.trans (congrArg some am)
 f221:=Tryz.func45.trans (congrArg some am)
 f224:=Tryz.func196.trans (congrArg some am)
 f225:=Tryz.func195.trans (congrArg some am)
 f260:=Tryz.func193.trans (congrArg some am)
 f266:=Tryz.func239.trans (congrArg some am)
 f267:=Tryz.func197.trans (congrArg some am)
 f268:=Tryz.func73.trans (congrArg some am)
 f314:=Tryz.func240.trans (congrArg some am)
 t0:=Tryz.underlying0
 a0:=Tryz.isAgg0
 z0:=Tryz.sizeOf0
 v0:=Tryz.zeroValue0
 t3:=Tryz.underlying3
 a3:=Tryz.isAgg3
 z3:=Tryz.sizeOf3
 v3:=Tryz.zeroValue3
 t4:=Tryz.underlying4
 a4:=Tryz.isAgg4
 z4:=Tryz.sizeOf4
 v4:=Tryz.zeroValue4
 t5:=Tryz.underlying5
 a5:=Tryz.isAgg5
 z5:=Tryz.sizeOf5
 v5:=Tryz.zeroValue5
 t9:=Tryz.underlying9
 a9:=Tryz.isAgg9
 z9:=Tryz.sizeOf9
 v9:=Tryz.zeroValue9
 t21:=Tryz.underlying21
 a21:=Tryz.isAgg21
 z21:=Tryz.sizeOf21
 v21:=Tryz.zeroValue21
 t31:=Tryz.underlying46
 a31:=Tryz.isAgg46
 z31:=Tryz.sizeOf46
 v31:=Tryz.zeroValue46
 t46:=Tryz.underlying140
 a46:=Tryz.isAgg140
 z46:=Tryz.sizeOf140
 v46:=Tryz.zeroValue140
 t51:=Tryz.underlying158
 a51:=Tryz.isAgg158
 z51:=Tryz.sizeOf158
 v51:=Tryz.zeroValue158
 t105:=Tryz.underlying101
 a105:=Tryz.isAgg101
 z105:=Tryz.sizeOf101
 v105:=Tryz.zeroValue101
 t119:=Tryz.underlying162
 a119:=Tryz.isAgg162
 z119:=Tryz.sizeOf162
 t138:=Tryz.underlying164
 a138:=Tryz.isAgg164
 z138:=Tryz.sizeOf164
 v138:=Tryz.zeroValue164
 t139:=Tryz.underlying165
 a139:=Tryz.isAgg165
 z139:=Tryz.sizeOf165
 v139:=Tryz.zeroValue165
 t146:=Tryz.underlying166
 a146:=Tryz.isAgg166
 z146:=Tryz.sizeOf166
 v146:=Tryz.zeroValue166
 g1:=by kernel_rfl
 g3:=by kernel_rfl
 g4:=by kernel_rfl }
open Go.RowKit Go.Lib in
theorem Tryz.strings_Split(s sep:ByteArray)(m:Int)(w:World)(hs:s.size<4294967281)(hm:w.cell? ⟨0,0,none⟩=some (.int .i64 m))(h1:1≤sep.size):
  Calls Tryz.prog 28 #[.string s,.string sep] w fun e w'=>
   e=.returned (.slice (some ⟨w.heap.size,0,none⟩) (Lib.countB s sep+1) (Lib.countB s sep+1))∧w'=w.alloc (.cells ((Lib.splitB sep 0 (Lib.countB s sep) s).map Value.string).toArray 9):=Any.strings_Split Tryz.lays146 am s sep m w hs hm h1
def Tryz.laysM146_ren:Go.Shelf.Ren:=⟨fun|146=>28|221=>45|268=>73|138=>74|143=>75|195=>122|197=>123|218=>124|219=>125|260=>193|217=>194|225=>195|224=>196|267=>197|266=>239|314=>240|n=>n,fun|9=>9|31=>46|3=>3|4=>4|0=>0|105=>101|21=>21|5=>5|46=>140|119=>162|139=>165|138=>164|146=>166|51=>158|n=>n,fun|1=>0|3=>2|4=>3|n=>n⟩
theorem Tryz.laysM146:Go.Proofs.LaysM.n146 Tryz.prog Tryz.laysM146_ren:={
 mixed:=by kernel_rfl
 f138:=Tryz.func74.trans (congrArg some am)
 f143:=Tryz.func75.trans (congrArg some am)
 f146:=Tryz.func28.trans (congrArg some am)
 f195:=Tryz.func122.trans (congrArg some am)
 f197:=Tryz.func123.trans (congrArg some am)
 f217:=Tryz.func194.trans (congrArg some am)
 f218:=Tryz.func124.trans (congrArg some am)
 f219:=Tryz.func125.trans (congrArg some am)
 f221:=Tryz.func45.trans (congrArg some am)
 f224:=Tryz.func196.trans (congrArg some am)
 f225:=Tryz.func195.trans (congrArg some am)
 f260:=Tryz.func193.trans (congrArg some am)
 f266:=Tryz.func239.trans (congrArg some am)
 f267:=Tryz.func197.trans (congrArg some am)
 f268:=Tryz.func73.trans (congrArg some am)
 f314:=Tryz.func240.trans (congrArg some am)
 t0:=Tryz.underlying0
 a0:=Tryz.isAgg0
 z0:=Tryz.sizeOf0
 v0:=Tryz.zeroValue0
 t3:=Tryz.underlying3
 a3:=Tryz.isAgg3
 z3:=Tryz.sizeOf3
 v3:=Tryz.zeroValue3
 t4:=Tryz.underlying4
 a4:=Tryz.isAgg4
 z4:=Tryz.sizeOf4
 v4:=Tryz.zeroValue4
 t5:=Tryz.underlying5
 a5:=Tryz.isAgg5
 z5:=Tryz.sizeOf5
 v5:=Tryz.zeroValue5
 t9:=Tryz.underlying9
 a9:=Tryz.isAgg9
 z9:=Tryz.sizeOf9
 v9:=Tryz.zeroValue9
 t21:=Tryz.underlying21
 a21:=Tryz.isAgg21
 z21:=Tryz.sizeOf21
 v21:=Tryz.zeroValue21
 t31:=Tryz.underlying46
 a31:=Tryz.isAgg46
 z31:=Tryz.sizeOf46
 v31:=Tryz.zeroValue46
 t46:=Tryz.underlying140
 a46:=Tryz.isAgg140
 z46:=Tryz.sizeOf140
 v46:=Tryz.zeroValue140
 t51:=Tryz.underlying158
 a51:=Tryz.isAgg158
 z51:=Tryz.sizeOf158
 v51:=Tryz.zeroValue158
 t105:=Tryz.underlying101
 a105:=Tryz.isAgg101
 z105:=Tryz.sizeOf101
 v105:=Tryz.zeroValue101
 t119:=Tryz.underlying162
 a119:=Tryz.isAgg162
 z119:=Tryz.sizeOf162
 t138:=Tryz.underlying164
 a138:=Tryz.isAgg164
 z138:=Tryz.sizeOf164
 v138:=Tryz.zeroValue164
 t139:=Tryz.underlying165
 a139:=Tryz.isAgg165
 z139:=Tryz.sizeOf165
 v139:=Tryz.zeroValue165
 t146:=Tryz.underlying166
 a146:=Tryz.isAgg166
 z146:=Tryz.sizeOf166
 v146:=Tryz.zeroValue166
 g1:=by kernel_rfl
 g3:=by kernel_rfl
 g4:=by kernel_rfl
 i0:=by kernel_rfl
 i3:=by kernel_rfl
 i4:=by kernel_rfl
 i5:=by kernel_rfl
 i9:=by kernel_rfl
 i21:=by kernel_rfl
 i31:=by kernel_rfl
 i46:=by kernel_rfl
 i51:=by kernel_rfl
 i105:=by kernel_rfl
 i138:=by kernel_rfl
 i139:=by kernel_rfl
 i146:=by kernel_rfl
 m1:=by kernel_rfl
 s1_3:=fun w h=>Go.Proofs.cell_of_shapedOpen_int (zero:=#[.int .i64 0]) (t:=3) h (of_decide_eq_true am) am rfl am am Tryz.underlying3
 m3:=by kernel_rfl
 m4:=by kernel_rfl }
end Go.Proofs
namespace Go.Proofs.YtiobedekgnfjcaaGreatDoor
namespace P
end P
open Go.Proofs.YtiobedekgnfjcaaGreatDoor.P Go.Proofs.YtiobedekgnfjcaaGreatDoorW.aq Go.Proofs.YtiobedekgnfjcaaGreatDoorW.ay Go.RowKit
namespace P
theorem abn(w:World)(xs:List ByteArray)(hm:xs.length≤9223372036854775807):
  Kd.R Kd.string 9 (w.alloc (.cells (xs.map Value.string).toArray 9)) w.heap.size (fun _=>True) (.slice (some ⟨w.heap.size,0,none⟩) xs.length xs.length) xs:=by
 refine Kd.FT ?_ (fun _ _=>trivial);have h:=World.ownsRow_lit (base:=w.heap.size) (e:=9) (size:=1) w (xs.map Value.string).toArray xs.length (aH _) (by simpa [maxLen] using hm) bn
 simpa [jy] using h
def strings_Split.f(s sep:ByteArray):Option (List ByteArray):=if s.size<4294967281∧1≤sep.size then some (Lib.splitB sep 0 (Lib.countB s sep) s) else none
theorem strings_Split.calls(s sep:ByteArray)(r:List ByteArray)(m:Int)(w:World)(hm:w.cell? ⟨0,0,none⟩=some (.int .i64 m))(h:strings_Split.f s sep=some r):
  Calls Tryz.prog 28 #[.string s,.string sep] w fun e w'=> ∃bO:Value,e=.returned bO∧Kd.R Kd.string 9 w' w.heap.size (fun _=>True) bO r∧Below w.heap.size w w':=by
 unfold strings_Split.f at h;by_cases hc:s.size<4294967281∧1≤sep.size
 case neg=>rw[ag hc] at h;cases h
 rw[ah hc] at h;obtain rfl:=au h;refine(Tryz.strings_Split s sep m w hc.1 hm hc.2).mono ?_;rintro e w' ⟨rfl,rfl⟩;have hl:=Lib.splitB_all sep hc.2 0 _ s rfl;have hle:=Lib.countB_le sep hc.2 s.size s (aH _);have h2:=abn w (Lib.splitB sep 0 (Lib.countB s sep) s) (by rw[hl];omega);rw[hl] at h2;exact⟨_,rfl,h2,cS (Below.refl _ _) _⟩
def nT:ByteArray:=⟨#[48,49,50,51,52,53,54,55,56,57]⟩
def strings_Trim.f(s cut:ByteArray):Option ByteArray:=if s.size≤9223372036854775807∧cut=nT then some ⟨(Lib.trimS s.data.toList cut.data.toList).toArray⟩ else none
theorem strings_Trim.calls(s cut:ByteArray)(r:ByteArray)(w:World)(h:strings_Trim.f s cut=some r):
  Calls Tryz.prog 90 #[.string s,.string cut] w fun e w'=>e=.returned (.string r)∧Below w.heap.size w w':=by
 unfold strings_Trim.f at h;by_cases hc:s.size≤9223372036854775807∧cut=nT
 case neg=>rw[ag hc] at h;cases h
 rw[ah hc] at h;obtain rfl:=au h;obtain⟨hs,rfl⟩:=hc;exact Tryz.strings_Trim s nT w hs ao (ascii_of_all ao)
def vF.f(s:ByteArray):Option (Int×Option Int):=if s.size≤18 then(Lib.atoi s.data.toList).map fun n=>(n,none) else none
theorem vF.calls(s:ByteArray)(r1:Int)(r2:Option Int)(w:World)(h:vF.f s=some (r1,r2)):
  Calls Tryz.prog 91 #[.string s] w fun e w'=>e=.returned (.tuple #[.int .i64 r1,JX r2])∧Below w.heap.size w w':=by
 unfold vF.f at h;by_cases hc:s.size≤18
 case neg=>rw[ag hc] at h;cases h
 rw[ah hc] at h;obtain⟨n,hn,he⟩:=Option.map_eq_some_iff.1 h;obtain⟨rfl,rfl⟩:=Prod.mk.inj he;refine(Tryz.strconv_Atoi s n hc hn w).mono ?_;rintro e w' ⟨rfl,t,rfl⟩;exact⟨rfl,Lib.bytesWorld_below _ _ _⟩
def fV(n:Nat):List UInt8:=if n<10 then[UInt8.ofNat (48+n)] else[UInt8.ofNat (48+n / 10),UInt8.ofNat (48+n%10)]
theorem abo(n:Nat)(h:n<100):Lib.decDigits n=fV n:=by
 unfold fV Lib.decDigits;by_cases h1:n<10
 ·rw[dif_pos h1,ah h1]
 ·rw[dif_neg h1,ag h1];unfold Lib.decDigits;rw[dif_pos ae];rfl
def my.f(n:Int):Option ByteArray:=if 0≤n∧n<100 then some ⟨(fV n.toNat).toArray⟩ else none
theorem my.calls(n:Int)(r:ByteArray)(w:World)(h:my.f n=some r):
  Calls Tryz.prog 30 #[.int .i64 n] w fun e w'=>e=.returned (.string r)∧aG w w':=by
 unfold my.f at h;by_cases hc:0≤n∧n<100
 case neg=>rw[ag hc] at h;cases h
 rw[ah hc] at h;obtain rfl:=au h;obtain⟨i,rfl⟩:∃i:Nat,n=i:=⟨n.toNat,ae⟩;refine(Tryz.strconv_Itoa_small i ae w).mono ?_;rintro e w' ⟨rfl,rfl⟩;exact⟨by rw[abo i ae];rfl,aG.refl _⟩
def strings_Join.f(l:List ByteArray)(sep:ByteArray):Option ByteArray:=if l.length≤140737488355328∧(Lib.join (l.map (·.data.toList)) sep.data.toList).length≤140737488355328 then some ⟨(Lib.join (l.map (·.data.toList)) sep.data.toList).toArray⟩ else none
theorem strings_Join.abp(A0:Option Addr)(c0:Nat)(l:List ByteArray)(sep:ByteArray)(r:ByteArray)(w:World)(base:Nat)(ok:Nat→Prop)(hr:Kd.R Kd.string 9 w base ok (.slice A0 l.length c0) l)(h:strings_Join.f l sep=some r):
  Calls Tryz.prog 92 #[.slice A0 l.length c0,.string sep] w fun e w'=>e=.returned (.string r)∧Below w.heap.size w w':=by
 unfold strings_Join.f at h;by_cases hc:l.length≤140737488355328∧(Lib.join (l.map (·.data.toList)) sep.data.toList).length≤140737488355328
 case neg=>rw[ag hc] at h;cases h
 rw[ah hc] at h;obtain rfl:=au h;have hk:=Kd.ix hr;obtain⟨hcap,hC⟩:=(Kd.bm hr).2;cases l with
 |nil=>
  refine(Tryz.strings_Join_none A0 c0 sep w).mono ?_;rintro e w' ⟨rfl,rfl⟩;exact⟨rfl,Below.refl _ _⟩
 |cons x l=>
  have ho:=Kd.vz hr;rcases ho.2 with⟨hn,_⟩|⟨g,cp,cs,hv,_⟩
  ·cases hn
  ·cases hv;refine Tryz.strings_Join g 0 _ (x::l) sep w (fun j y hj=>?_) ?_ hc.1 hcap hc.2
   ·have hjl:j<(x::l).length:=by
     rcases Nat.lt_or_ge j (x::l).length with h|h
     ·exact h
     ·rw[List.getElem?_eq_none h] at hj;cases hj
    obtain⟨ad,e1,g1⟩:=Kd.vA hC (j:Int) ae ae;cases e1;have e2:dM ByteArray.empty (x::l) (j:Int)=y:=by simp[dM,List.getD_eq_getElem?_getD,hj]
    rw[e2,show((j:Int)).toNat=j from rfl,show Addr.add ⟨g,0,none⟩ j=⟨g,0+j,none⟩ by unfold Addr.add;split<;>simp_all] at g1;exact g1
   ·exact(hk.1 g rfl).2.2.1
def gx.l0:Nat→List ByteArray→List Int→Int→Int→Option (ByteArray)
 |0,_,_,_,_=>none
 |k+1,x5,ky,kz,lz=>if lz<kz then(if 0≤lz then(if lz<(ky.length:Int) then((my.f (rd ky lz)).bind fun t213=>(if x5.length<8796093022208 then(gx.l0 k (x5++[t213]) ky kz (wrap64 (lz+1))) else none)) else none) else none) else((strings_Join.f x5 (⟨#[32]⟩:ByteArray)).bind fun K3=>(some K3))
def gx.f(k:Nat)(l0:List Int)(a1:Bool):Option (ByteArray):=if a1=true then(gx.l0 k (([]:List ByteArray)) l0 (l0.length:Int) 0) else(some (⟨#[110,111]⟩:ByteArray))
theorem gx.calls(k:Nat)(A0:Option Addr)(c0:Nat)(l0:List Int)(a1:Bool)(r:ByteArray)(w:World)(hr0:Kd.C (Kd.int .i64) w A0 l0.length l0)(hc0:l0.length≤c0)(h:gx.f k l0 a1=some r):
  Calls Tryz.prog 50 #[.slice A0 l0.length c0,.bool a1] w fun e w'=>e=.returned (.string r)∧Below w.heap.size w w':=by
 have aj:=af.mk hr0;have ax:=af.mk hc0;clear hr0 hc0;have HB:=af.mk (Below.refl w.heap.size w);have H:=h;clear h;unfold gx.f at H;by_cases c3:a1=true
 case neg=>
  replace c3:=bU c3;subst c3;rw[ag bV] at H;obtain rfl:=au H;go_enter Tryz.func50,Tryz.ntmps50;go_wp2;go_ret;exact⟨bE,ai HB⟩
 subst c3;rw[ah rfl] at H;generalize S7:((([]:List ByteArray)):List ByteArray)=ady at H;have S8:=af.mk S7.symm;clear S7;have H':=af.mk H;clear H;go_enter Tryz.func50,Tryz.ntmps50;go_wp2_with (((with_reducible refine db (N:=10) rfl ?_);refine Kd.dV Kd.string _ 9 ?hg (N:=10) ?hd (xs:=([]:List ByteArray)) (inner:=[]) (ok:=fun _=>True) (bp:=fun _=>True) ?hr ?hp (fun _ hk=>hk) trivial (Below.refl _ _) (aH _) bn ?_;(case hd=>rfl);(case hg=>rfl);(case hr=>first|(go_simp;done)|(go_simp;rfl));(case hp=>exact(aE.none _ _));intro v210 w4 dv hb bq br;clear bq br;(first|rw[←S8.o] at dv|(simp only[Int.reduceToNat] at dv;rw[←S8.o] at dv));have adz:=af.mk (Kd.cv dv (aZ (ai HB)));replace HB:=aM HB hb;clear hb dv))
 go_loopg [5,13] k (fun kq v5 K4 w'=> ∃(aw:List ByteArray) (jv:Int),K4=.int .i64 jv∧af (gx.l0 kq aw l0 (l0.length:Int) jv=some r)∧af (kq≤k)∧af (Kd.R Kd.string 9 w' w.heap.size (fun _=>True) v5 aw)∧af (Below w.heap.size w w'))
 case atStart=>exact⟨(ady),(0),ak,H',⟨aH _⟩,⟨aX adz⟩,⟨ai HB⟩⟩
 case round=>
  clear H';obtain⟨aw,jv,rfl,HA,aC,bG,HB⟩:=hrel;cases gk with
  |zero=>exact absurd HA.o (by simp[gx.l0])
  |succ k1=>
   have H:=HA.o;clear HA;simp only[gx.l0] at H;by_cases c6:jv<(l0.length:Int)
   case neg=>
    rw[ag c6] at H;have dU:=aD c6;clear c6;replace H:=aA.mp H;obtain⟨K3,fI,H⟩:=H;have iW:=af.mk fI;clear fI;obtain rfl:=au H;obtain⟨aqp,S9,wd⟩:=Kd.bJ bG.o;subst wd;go_wp2_with fail
    refine(strings_Join.abp _ _ aw (⟨#[32]⟩:ByteArray) K3 _ _ _ bG.o iW.o).mono ?_;rintro e wj ⟨rfl,hb⟩;have S_:=af.mk (mr (ai HB) hb);clear HB hb;have HB:=S_;clear S_;go_wp2;go_ret;exact⟨bE,ai HB⟩
   rw[ah c6] at H;have dU:=ap c6;clear c6;replace H:=bC H;obtain⟨eN,H⟩:=H;replace H:=bC H;obtain⟨fF,H⟩:=H;replace H:=aA.mp H;obtain⟨t213,Cz,H⟩:=H;have A9:=af.mk Cz;clear Cz;by_cases c10:aw.length<8796093022208
   case neg=>
    rw[ag c10] at H;cases H
   rw[ah c10] at H;have wg:=af.mk c10;clear c10;generalize Ta:((aw++[t213]):List ByteArray)=adA at H;have adB:=af.mk Ta.symm;clear Ta;have H':=af.mk H;clear H;have K5:0≤(jv:Int):=aJ;have K6:jv<(l0.length:Int):=aJ;obtain⟨aqq,adC,Tb⟩:=Kd.ck aj.o jv K5 K6;cases adC;replace Tb:=dw HB Tb;replace K5:=av K5;replace K6:=av K6;go_wp2_with (first|(refine cx 19 Tryz.func30 #[.int .i64 (rd l0 jv)] (my.calls (rd l0 jv) t213 _ A9.o) fun nd=>?_)|(at_builtin;refine Kd.jW Kd.string (w0:=w) w.heap.size rfl (.tmp 17) (.tmp 20) 46 9 (.string ⟨#[]⟩) 16 rfl Tryz.underlying46 abm rfl ao ae u5 aw t213 [.string t213] (fun _=>True) (fun _=>False) rfl rfl ?aP (fun _ hk=>hk.elim) ?aF ?aO ?aB ?aS ?aL ?_;(case aP=>exact rfl);(case aB=>exact(ai HB));(case aF=>exact(fun _ _=>trivial));(case aO=>exact(aX bG));(case aS=>exact(aZ (ai HB)));(case aL=>have:=wg.o;omega);intro aqr mG ho hb hg hat;rw[←adB.o] at ho;replace HB:=af.mk (hb);have adD:=af.mk (ho);clear bG;clear ho hb hg hat))
   go_roundg k1
   case measure=>have:=aC.o;omega
   case rel=>exact⟨(adA),(wrap64 (jv+1)),ak,H',⟨by have:=aC.o;omega⟩,⟨aX adD⟩,⟨ai HB⟩⟩
def jF.f(k:Nat)(a0:Int)(a1:Bool):Option (ByteArray):=(gx.f k (([a0]:List Int)) a1).bind fun K7=>(some K7)
theorem jF.calls(k:Nat)(a0:Int)(a1:Bool)(r:ByteArray)(w:World)(h:jF.f k a0 a1=some r):
  Calls Tryz.prog 52 #[.int .i64 a0,.bool a1] w fun e w'=>e=.returned (.string r)∧Below w.heap.size w w':=by
 have HB:=af.mk (Below.refl w.heap.size w);have H:=h;clear h;unfold jF.f at H;generalize Tc:((([a0]:List Int)):List Int)=Td at H;have Te:=af.mk Tc.symm;clear Tc;replace H:=aA.mp H;obtain⟨K7,bW,H⟩:=H;have A3:=af.mk bW;clear bW;obtain rfl:=au H;go_enter Tryz.func52,Tryz.ntmps52;go_wp2_with (first|((with_reducible refine db (N:=6) rfl ?_);refine Kd.dV (Kd.int .i64) _ 3 ?hg (N:=6) ?hd (xs:=([a0]:List Int)) (inner:=[.int .i64 a0]) (ok:=fun _=>True) (bp:=fun _=>True) ?hr ?hp (fun _ hk=>hk) trivial (Below.refl _ _) (aH _) bn ?_;(case hd=>rfl);(case hg=>rfl);(case hr=>first|(go_simp;done)|(go_simp;rfl));(case hp=>exact(aE.one (show Kd.M (Kd.int .i64) _ _ _ a0 [.int .i64 a0] from rfl) (aE.none _ _)));intro aqs w4 dv hb bq br;clear bq br;(first|rw[←Te.o] at dv|(simp only[Int.reduceToNat] at dv;rw[←Te.o] at dv));have CA:=af.mk (Kd.cv dv (aZ (ai HB)));replace HB:=aM HB hb;clear hb dv;obtain⟨Kl,Km,Kn⟩:=Kd.bJ CA.o;subst Kn)|(refine aY 8 Tryz.func50 #[.slice Kl Td.length Km,.bool a1] ?_;(with_reducible refine(gx.calls k _ _ Td a1 K7 _ ?_ ?_ A3.o).mono ?_);exact pE CA;exact(Kd.bm CA.o).2.1;rintro e w7 ⟨rfl,hb⟩;refine⟨_,rfl,?_⟩;replace CA:=af.mk (Kd.dB (aX CA) hb);replace HB:=aM HB hb))
 go_ret;exact⟨bE,ai HB⟩
end P
namespace X
structure dW(W:World)(B b:Nat)(A:Option Addr)(c:Nat)(t:List Int)(vp:Value)(p:List Int):Prop where
 hB:B≤b
 c0:W.cell? ⟨b,0,none⟩=some (.slice A t.length c)
 c1:W.cell? ⟨b,1,none⟩=some vp
 f0:W.frozen? ⟨b,0,none⟩=false
 f1:W.frozen? ⟨b,1,none⟩=false
 ht:Kd.R (Kd.int .i64) 3 W B (fun q=>q≠b∧some q≠vp.ownBlock) (.slice A t.length c) t
 hp:Kd.R (Kd.int .i64) 3 W B (fun q=>q≠b) vp p
theorem dW.below{W W':World}{B b:Nat}{A:Option Addr}{c:Nat}{t:List Int}{vp:Value}{p:List Int}(h:dW W B b A c t vp p)(hb:Below W.heap.size W W'):dW W' B b A c t vp p:=
 have l:b<W.heap.size:=World.block_lt_of_cell? W _ h.c0
 ⟨h.hB,(hb.cell (p:=⟨b,0,none⟩) l).trans h.c0,(hb.cell (p:=⟨b,1,none⟩) l).trans h.c1,(hb.frozen (p:=⟨b,0,none⟩) l).trans h.f0,(hb.frozen (p:=⟨b,1,none⟩) l).trans h.f1,Kd.dB h.ht hb,Kd.dB h.hp hb⟩
theorem dW.read{W:World}{B b:Nat}{A:Option Addr}{c:Nat}{t:List Int}{vp:Value}{p:List Int}(h:dW W B b A c t vp p):Kd.C (Kd.int .i64) W A t.length t:=(Kd.bm h.ht).2.2
theorem dW.cap{W:World}{B b:Nat}{A:Option Addr}{c:Nat}{t:List Int}{vp:Value}{p:List Int}(h:dW W B b A c t vp p):t.length≤c:=(Kd.bm h.ht).2.1
structure iU(W:World)(B b:Nat)(vp:Value)(t' p':List Int)(W':World):Prop where
 abH:∃A' c' Sb,dW W' B b A' c' t' Sb p'
 bl:Below B W W'
 far:∀k,k<W.heap.size→k≠b→some k≠vp.ownBlock→W'.heap[k]?=W.heap[k]?
theorem iU.same{W W':World}{B b:Nat}{A:Option Addr}{c:Nat}{t:List Int}{vp:Value}{p:List Int}(h:dW W B b A c t vp p)(hb:Below W.heap.size W W'):iU W B b vp t p W':=
 have l:b<W.heap.size:=World.block_lt_of_cell? W _ h.c0
 ⟨⟨_,_,_,h.below hb⟩,hb.mono (by have:=h.hB;omega),fun k hk _ _=>hb.block k hk⟩
theorem j4(s word rest:ByteArray)(has:Bool)(m:Int)(w:World)(hs:s.size<4294967281)(hm:w.cell? ⟨0,0,none⟩=some (.int .i64 m))(h:Lib.cut s.data.toList [32]=(word.data.toList,rest.data.toList,has)):
  Calls Tryz.prog 46 #[.string s,.string ⟨#[32]⟩] w fun e w'=>e=.returned (.tuple #[.string word,.string rest,.bool has])∧∃n,w'=w.drewN n:=by
 have hc:=Tryz.strings_Cut s ⟨#[32]⟩ m w hs hm;rw[show(⟨#[32]⟩:ByteArray).data.toList=[32] from rfl,h] at hc;exact hc
abbrev qT:=List Int→List Int→ByteArray→Option ((List Int×List Int)×ByteArray)
def gS(text:ByteArray):List ByteArray:=Lib.splitB ⟨#[10]⟩ 0 (Lib.countB text ⟨#[10]⟩) text
def vL(step:qT):List ByteArray→List Int→List Int→ByteArray→Option ((List Int×List Int)×ByteArray)
 |[],t,p,out=>some ((t,p),out)
 |l::ls,t,p,out=>(step t p l).bind fun r=>if out.size+(r.2.size+1)≤9223372036854775807 then vL step ls r.1.1 r.1.2 (out++(r.2++⟨#[10]⟩)) else none
def zq:ByteArray:=⟨#[112,111,105,110,116,115,32]⟩
def Gb(step:qT)(k:Nat)(text:ByteArray):Option ByteArray:=
 if text.size≤600 then(eT.f k 0).bind fun t=>(vL step (gS text).dropLast t [] ⟨#[]⟩).bind fun r=>
  (my.f (r.1.2.length:Int)).bind fun d=>if r.2.size+100≤9223372036854775807∧d.size≤2 then some (((r.2++zq)++d)++⟨#[10]⟩) else none
 else some ⟨#[116,111,111,32,108,111,110,103,10]⟩
theorem Si(text:ByteArray):(gS text).length=Lib.countB text ⟨#[10]⟩+1:=Lib.splitB_all ⟨#[10]⟩ ao 0 _ text rfl
theorem abY(text:ByteArray):1≤(gS text).length:=by rw[Si];omega
theorem J4(text:ByteArray):(gS text).length≤text.size+1:=by rw[Si];have:=Lib.countB_le ⟨#[10]⟩ ao text.size text (aH _);omega
theorem abZ(text:ByteArray)(i:Int)(n:Nat)(l:ByteArray)(hn:(gS text).length=n+1)(i0:0≤i)(ci:i<n)(hl:dM ByteArray.empty (gS text) i=l):
  (gS text).dropLast.drop i.toNat=l::(gS text).dropLast.drop (i+1).toNat:=by
 have hd:i.toNat<(gS text).dropLast.length:=by rw[List.length_dropLast];omega
 rw[List.drop_eq_getElem_cons hd,show(i+1).toNat=i.toNat+1 by omega]
 congr 1
 rw[List.getElem_dropLast, ←hl];unfold dM;rw[List.getD_eq_getElem?_getD,List.getElem?_eq_getElem ae];rfl
theorem Sj(sep:ByteArray):∀(k:Nat) (s l:ByteArray),l∈Lib.splitB sep 0 k s→l.size≤s.size
 |0,s,l,h=>by
  simp only[Lib.splitB,List.mem_singleton] at h;subst h;exact aH _
 |k+1,s,l,h=>by
  unfold Lib.splitB at h;by_cases hc:(Lib.indexB s sep== -1)=true
  ·rw[ah hc] at h;simp only[List.mem_singleton] at h;subst h;exact aH _
  ·rw[ag hc] at h;rcases List.mem_cons.1 h with rfl|h
   ·simp only[ByteArray.size_extract];omega
   ·have:=Sj sep k _ l h;simp only[ByteArray.size_extract] at this;omega
theorem J5(text l:ByteArray)(h:l∈gS text)(h6:text.size≤600):l.size≤600:=Nat.le_trans (Sj _ _ _ _ h) h6
theorem ab0{W W':World}{B b:Nat}{ok:Nat→Prop}{vl vp:Value}{ls:List ByteArray}{p:List Int}(hR:Kd.R Kd.string 9 W B (fun q=>q≠b) vl ls)(hp:Kd.R (Kd.int .i64) 3 W B ok vp p)
  (far:∀k,k<W.heap.size→k≠b→some k≠vp.ownBlock→W'.heap[k]?=W.heap[k]?):Kd.R Kd.string 9 W' B (fun q=>q≠b) vl ls:=by
 refine Kd.dq (Kd.vy (Kd.ix hR) (fun k hk=>far k hk.2.2.1 hk.1 (fun e=>?_))) (fun k hk=>hk.1);obtain⟨_,_,_,q,hq,cells,hc⟩:=hk;obtain⟨_,_,_,q',hq',cells',hc'⟩:=(Kd.ix hp).1 k e.symm;rw[hc] at hc';have e1:q=9:=List.mem_singleton.1 hq;have e2:q'=3:=List.mem_singleton.1 hq';subst e1;subst e2;injection hc' with hc'
 injection hc' with _ hc'
 exact absurd hc' ao
def Sk(step:qT)(m:Int):Prop:=
 ∀(W:World) (B b:Nat) (A:Option Addr) (c:Nat) (t:List Int) (vp:Value) (p:List Int) (l:ByteArray) (r:(List Int×List Int)×ByteArray),dW W B b A c t vp p→W.cell? ⟨0,0,none⟩=some (.int .i64 m)→l.size≤600→step t p l=some r→
  Calls Tryz.prog 29 #[.pointer (some ⟨b,0,none⟩),.string l] W fun e w'=>e=.returned (.string r.2)∧iU W B b vp r.1.1 r.1.2 w'
theorem ab1(step:qT)(m:Int)(hstep:Sk step m)(k:Nat)(text out:ByteArray)(w:World)(hm:w.cell? ⟨0,0,none⟩=some (.int .i64 m))(h:Gb step k text=some out):
  Calls Tryz.prog 10 #[.string text] w fun e w'=>e=.returned (.string out)∧Below w.heap.size w w':=by
 unfold Gb at h;by_cases h6:text.size≤600
 case neg=>
  rw[ag h6] at h;obtain rfl:=au h;have d1:decide (600<(text.size:Int))=true:=ap ae;have d2:decide (600<text.size)=true:=ap ae;clear h6;go_enter Tryz.func10,Tryz.ntmps10;go_wp2;go_ret;exact⟨rfl,Below.refl _ _⟩
 case pos=>
 rw[ah h6] at h;replace h:=aA.1 h;obtain⟨t0,Ce,h⟩:=h;replace h:=aA.1 h;obtain⟨⟨⟨tf,pf⟩,of⟩,hl,h⟩:=h;replace h:=aA.1 h;obtain⟨d,hd,h⟩:=h;by_cases hz:of.size+100≤9223372036854775807∧d.size≤2
 case neg=>simp only[ag hz] at h;cases h
 simp only[ah hz] at h;obtain rfl:=au h;have d1:decide (600<(text.size:Int))=false:=aD ae;have d2:decide (600<text.size)=false:=aD ae;have HT:=af.mk (eT.calls k 0 t0 w Ce);have HS:=af.mk hstep;have HM:=af.mk hm;have HL:=af.mk hl;have HD:=af.mk (fun w=>my.calls _ d w hd);have HZ:=af.mk hz;have HX:=af.mk h6;clear h h6 hl hd hz Ce hm hstep;go_enter Tryz.func10,Tryz.ntmps10;go_wp2_with fail
 refine HT.o.mono ?_;rintro e w1 ⟨vt,rfl,ho,hb⟩;obtain⟨At,ct,rfl⟩:=Kd.bJ ho;have HO:=af.mk ho;have HB:=af.mk hb;clear ho hb HT;go_wp2_with fail
 have hc0:(w1.alloc (.cells #[.slice At t0.length ct,.slice none 0 0] 45)).cell? ⟨w1.heap.size,0,none⟩=some (.slice At t0.length ct):=World.cell?_alloc_new w1 _ _ 0;have hc1:(w1.alloc (.cells #[.slice At t0.length ct,.slice none 0 0] 45)).cell? ⟨w1.heap.size,1,none⟩=some (.slice none 0 0):=World.cell?_alloc_new w1 _ _ 1;have hf0:(w1.alloc (.cells #[.slice At t0.length ct,.slice none 0 0] 45)).frozen? ⟨w1.heap.size,0,none⟩=false:=World.frozen?_alloc_new w1 _ _ 0;have hf1:(w1.alloc (.cells #[.slice At t0.length ct,.slice none 0 0] 45)).frozen? ⟨w1.heap.size,1,none⟩=false:=World.frozen?_alloc_new w1 _ _ 1;have hba:Below w1.heap.size w1 (w1.alloc (.cells #[.slice At t0.length ct,.slice none 0 0] 45)):=cS (Below.refl _ _) _
 have hdk:dW (w1.alloc (.cells #[.slice At t0.length ct,.slice none 0 0] 45)) w.heap.size w1.heap.size At ct t0 (.slice none 0 0) []:=
  ⟨HB.o.size,hc0,hc1,hf0,hf1,Kd.dB (Kd.dq (Kd.ix HO.o) (fun k hk=>⟨by have:=hk.2.2.1;omega,by simp[Value.ownBlock]⟩)) hba,Kd.kJ _ _ _ _ _⟩
 have hb2:=aU HB.o hba;generalize w1.alloc (.cells #[.slice At t0.length ct,.slice none 0 0] 45)=W1 at hdk hb2 ⊢;clear hc0 hc1 hf0 hf1 hba HO;obtain⟨b,zt⟩:∃b,w1.heap.size=b:=⟨_,rfl⟩;rw[zt] at hdk ⊢;clear zt HB;have hml:=World.block_lt_of_cell? w _ HM.o;have hm1:=(hb2.cell hml).trans HM.o;refine(strings_Split.calls text ⟨#[10]⟩ (gS text) m W1 hm1 (by unfold strings_Split.f gS;rw[ah ⟨by have:=HX.o;omega,ao⟩])).mono ?_;rintro e W2 ⟨vl,rfl,hol,hbl⟩;obtain⟨Al,cl,rfl⟩:=Kd.bJ hol;have hlb:b<W1.heap.size:=World.block_lt_of_cell? _ _ hdk.c0;have sr:=af.mk (hdk.below hbl);have HB:=af.mk (aU hb2 hbl)
 have HR:=af.mk (show Kd.R Kd.string 9 W2 w.heap.size (fun q=>q≠b) (.slice Al (gS text).length cl) (gS text) from
  Kd.cv (Kd.dq (Kd.ix hol) (fun k hk=>by have:=hk.2.1;omega)) hb2.size)
 obtain⟨n,hn⟩:∃n,(gS text).length=n+1:=⟨(gS text).length - 1,by have:=abY text;omega⟩;have hcl:=(Kd.bm hol).2.1;rw[hn] at hcl HR ⊢;have hnb:n≤600:=by have:=J4 text;have:=HX.o;omega
 have zn:IntKind.i64.wrap (n:Int)=n:=by rw[IntKind.wrap_i64];omega
 have q2:(n:Int)≤(cl:Int):=ae;have q3:n≤cl:=ae;have HN:=af.mk hn;clear hdk hb2 hol hbl hlb hm1 hn hcl;go_wp2_with fail
 go_loopg [4,22] n (fun kq v4 v22 w'=> ∃(i:Int) (t p:List Int) (o:ByteArray) (A:Option Addr) (c:Nat) (vp:Value),v22=.int .i64 i∧v4=.string o∧af (0≤i∧i≤n)∧af ((n:Int) - i≤kq)∧af (vL step ((gS text).dropLast.drop i.toNat) t p o=some ((tf,pf),of))∧af (dW w' w.heap.size b A c t vp p)∧af (Kd.R Kd.string 9 w' w.heap.size (fun q=>q≠b) (.slice Al (n+1) cl) (gS text))∧af (Below w.heap.size w w'))
 case atStart=>exact⟨0,_,_,_,_,_,_,rfl,rfl,⟨ae⟩,⟨ae⟩,HL,sr,HR,HB⟩
 case round=>
  clear HL sr HR HB;obtain⟨i,t,p,o,A,c,vp,rfl,rfl,HI,HK,HL,sr,HR,HB⟩:=hrel;have i0:0≤i:=HI.o.1;by_cases ci:i<n
  case pos=>
   obtain⟨ad,e1,g1⟩:=Kd.vA (Kd.bm HR.o).2.2 i i0 (by have:=HN.o;clear zn;omega);subst e1;obtain⟨l,hl⟩:∃l,dM ByteArray.empty (gS text) i=l:=⟨_,rfl⟩;rw[hl] at g1;have J6:(gS text).dropLast.drop i.toNat=l::(gS text).dropLast.drop (i+1).toNat:=abZ text i n l HN.o i0 ci hl
   have hle:l.size≤600:=J5 text l (by
    have:l∈(gS text).dropLast.drop i.toNat:=by rw[J6];exact List.mem_cons_self
    exact(List.dropLast_sublist _).subset (List.mem_of_mem_drop this)) HX.o
   have hel:=HL.o;rw[J6] at hel;simp only[vL] at hel;obtain⟨⟨⟨t',p'⟩,s2⟩,hst,hel⟩:=aA.1 hel;by_cases hz:o.size+(s2.size+1)≤9223372036854775807
   case neg=>simp only[ag hz] at hel;cases hel
   simp only[ah hz] at hel;have hml:=World.block_lt_of_cell? w _ HM.o;have HC:=af.mk (HS.o wr w.heap.size b A c t vp p l _ sr.o ((HB.o.cell hml).trans HM.o) hle hst);have Cf:=af.mk hel;have z1:(9223372036854775807<s2.size+1)=False:=eq_false ae;have z2:(9223372036854775807<o.size+(s2.size+1))=False:=eq_false ae;have zi:IntKind.i64.wrap (i+1)=i+1:=by rw[IntKind.wrap_i64];have:=HI.o;omega
   have HG:=af.mk hnb;clear hl J6 hle hel hst hz hml hnb;go_wp2_with fail
   refine HC.o.mono ?_;rintro e w3 ⟨rfl,Gc⟩;obtain⟨A',c',Sb,Sl⟩:=Gc.abH;have ab2:=af.mk Sl;have Cg:=af.mk (ab0 HR.o sr.o.hp Gc.far);have du:=af.mk (HB.o.trans Gc.bl);clear Gc Sl sr HR HB HC HL;go_wp2;go_roundg (n - (i.toNat+1))
   case measure=>have:=HK.o;omega
   case rel=>exact⟨i+1,_,_,_,_,_,_,rfl,rfl,⟨ae⟩,⟨by have:=HG.o;omega⟩,Cf,ab2,Cg,du⟩
  case neg=>
   have hi:i=n:=by have:=HI.o;omega
   subst hi;have hel:=HL.o;rw[show(n:Int).toNat=n from rfl,List.drop_of_length_le (by rw[List.length_dropLast,HN.o];omega)] at hel;simp only[vL,Option.some.injEq,Prod.mk.injEq] at hel;obtain⟨⟨rfl,rfl⟩,rfl⟩:=hel;obtain⟨Ap,cp,rfl⟩:=Kd.bJ sr.o.hp;have hc1:=sr.o.c1;have y1:(9223372036854775807<o.size+7)=False:=eq_false (by have:=HZ.o;omega);have y2:(9223372036854775807<o.size+7+d.size)=False:=eq_false (by have:=HZ.o;omega);have y3:(9223372036854775807<o.size+7+d.size+1)=False:=eq_false (by have:=HZ.o;omega);clear HL sr HR ci HN zn hnb q2 q3;go_wp2_with (go_at_call 30;with_reducible refine(HD.o _).mono ?_;rintro e w' ⟨rfl,⟨nd,rfl⟩⟩)
   go_ret;exact⟨rfl,bb HB.o _⟩
theorem ad8(b:Nat)(s word rest:ByteArray)(m:Int)(W:World)(hs:s.size<4294967281)(hm:W.cell? ⟨0,0,none⟩=some (.int .i64 m))
  (hcut:Lib.cut s.data.toList [32]=(word.data.toList,rest.data.toList,false)) (r:ByteArray)
  (hp:∀w,Below W.heap.size W w→Calls Tryz.prog 47 #[.pointer (some ⟨b,0,none⟩),.string word] w fun e w'=>e=.returned (.string r)∧Below w.heap.size w w'):
  Calls Tryz.prog 29 #[.pointer (some ⟨b,0,none⟩),.string s] W fun e w'=>e=.returned (.string r)∧Below W.heap.size W w':=by
 have HC:=af.mk (j4 s word rest false m W hs hm hcut);have HP:=af.mk hp;clear hs hm hcut hp;go_enter Tryz.func29,Tryz.ntmps29;go_wp2_with (go_at_call 46;refine HC.o.mono ?_;rintro e w1 ⟨rfl,⟨nd,rfl⟩⟩)
 have hb:=aG.below (w:=W) ⟨⟨nd,rfl⟩⟩;refine(HP.o _ hb).mono ?_;rintro e w2 ⟨rfl,hb2⟩;have HB:=af.mk (aU hb hb2);clear hb hb2;go_wp2;go_ret;exact⟨rfl,HB.o⟩
def Tm:ByteArray:=⟨#[98,111,116,104]⟩
def l6(x:Bool):ByteArray:=if x=true then⟨#[121,101,115]⟩ else⟨#[110,111,116]⟩
theorem ad9{B b:Nat}{A:Option Addr}{c:Nat}{t:List Int}{vp:Value}{p:List Int}(W:World)(hd:dW W B b A c t vp p):
  Calls Tryz.prog 47 #[.pointer (some ⟨b,0,none⟩),.string Tm] W fun e w'=>e=.returned (.string (l6 (aW t&&l5 t)))∧Below W.heap.size W w':=by
 have HC:=af.mk (adZ A c t W hd.read);have h1:=hd.c0;obtain⟨q,hq⟩:∃q,(aW t&&l5 t)=q:=⟨_,rfl⟩;rw[hq] at HC ⊢;have HY:=af.mk (fun w=>zL.calls q (l6 q) w (by cases q<;>rfl));clear hd hq;unfold Tm;go_enter Tryz.func47,Tryz.ntmps47;go_wp2_with fail
 refine HC.o.mono ?_;rintro e w1 ⟨rfl,hb⟩;have HB:=af.mk hb;clear hb HC;go_wp2_with (go_at_call 79;refine(HY.o _).mono ?_;rintro e w' ⟨rfl,⟨nd,rfl⟩⟩)
 go_ret;exact⟨rfl,bb HB.o _⟩
theorem amp{B b:Nat}{A:Option Addr}{c:Nat}{t:List Int}{vp:Value}{p:List Int}(W:World)(hd:dW W B b A c t vp p)(l:List Int)(ok:Bool)(hl:ud.f t=some (l,ok))(k':Nat)(r:ByteArray)(hr:gx.f k' l ok=some r):
  Calls Tryz.prog 47 #[.pointer (some ⟨b,0,none⟩),.string ⟨#[107,101,114,110,101,108]⟩] W fun e w'=>e=.returned (.string r)∧Below W.heap.size W w':=by
 have HC:=af.mk (ud.calls A c t l ok W hd.read hd.cap hl);have HR:=af.mk hr;have h1:=hd.c0;clear hd hl hr;go_enter Tryz.func47,Tryz.ntmps47;go_wp2_with fail
 refine HC.o.mono ?_;rintro e w3 ⟨v,rfl,ho,hb⟩;obtain⟨Ao,co,rfl⟩:=Kd.bJ ho;have HO:=af.mk ho;have di:=af.mk hb;clear ho hb HC;go_wp2_with (go_at_call 50;have hk:=gx.calls k' Ao co l ok r w3 (Kd.bm HO.o).2.2 (Kd.bm HO.o).2.1 HR.o;refine hk.mono ?_;clear hk;rintro e w4 ⟨rfl,hb⟩;have eV:=af.mk (aU di.o hb);clear hb)
 go_ret;exact⟨rfl,eV.o⟩
theorem amq{B b:Nat}{A:Option Addr}{c:Nat}{t:List Int}{vp:Value}{p:List Int}(W:World)(hd:dW W B b A c t vp p)(l:List Int)(ok:Bool)(hl:uc.f t=some (l,ok))(k':Nat)(r:ByteArray)(hr:gx.f k' l ok=some r):
  Calls Tryz.prog 47 #[.pointer (some ⟨b,0,none⟩),.string ⟨#[99,101,110,116,114,101]⟩] W fun e w'=>e=.returned (.string r)∧Below W.heap.size W w':=by
 have HC:=af.mk (uc.calls A c t l ok W hd.read hd.cap hl);have HR:=af.mk hr;have h1:=hd.c0;clear hd hl hr;go_enter Tryz.func47,Tryz.ntmps47;go_wp2_with fail
 refine HC.o.mono ?_;rintro e w3 ⟨v,rfl,ho,hb⟩;obtain⟨Ao,co,rfl⟩:=Kd.bJ ho;have HO:=af.mk ho;have di:=af.mk hb;clear ho hb HC;go_wp2_with (go_at_call 50;have hk:=gx.calls k' Ao co l ok r w3 (Kd.bm HO.o).2.2 (Kd.bm HO.o).2.1 HR.o;refine hk.mono ?_;clear hk;rintro e w4 ⟨rfl,hb⟩;have eV:=af.mk (aU di.o hb);clear hb)
 go_ret;exact⟨rfl,eV.o⟩
theorem amr{B b:Nat}{A:Option Addr}{c:Nat}{t:List Int}{vp:Value}{p:List Int}(W:World)(hd:dW W B b A c t vp p):
  Calls Tryz.prog 47 #[.pointer (some ⟨b,0,none⟩),.string ⟨#[98,114,97,99,107,101,116,115]⟩] W fun e w'=>e=.returned (.string (l6 (aW t&&nC t)))∧Below W.heap.size W w':=by
 have HC:=af.mk (ad0 A c t W hd.read);have h1:=hd.c0;obtain⟨q,hq⟩:∃q,(aW t&&nC t)=q:=⟨_,rfl⟩;rw[hq] at HC ⊢;have HY:=af.mk (fun w=>zL.calls q (l6 q) w (by cases q<;>rfl));clear hd hq;go_enter Tryz.func47,Tryz.ntmps47;go_wp2_with fail
 refine HC.o.mono ?_;rintro e w1 ⟨rfl,hb⟩;have HB:=af.mk hb;clear hb HC;go_wp2_with (go_at_call 79;refine(HY.o _).mono ?_;rintro e w' ⟨rfl,⟨nd,rfl⟩⟩)
 go_ret;exact⟨rfl,bb HB.o _⟩
theorem ams{B b:Nat}{A:Option Addr}{c:Nat}{t:List Int}{vp:Value}{p:List Int}(W:World)(hd:dW W B b A c t vp p):
  Calls Tryz.prog 47 #[.pointer (some ⟨b,0,none⟩),.string ⟨#[115,119,97,112,115]⟩] W fun e w'=>e=.returned (.string (l6 (aW t&&ub t)))∧Below W.heap.size W w':=by
 have HC:=af.mk (ad4 A c t W hd.read);have h1:=hd.c0;obtain⟨q,hq⟩:∃q,(aW t&&ub t)=q:=⟨_,rfl⟩;rw[hq] at HC ⊢;have HY:=af.mk (fun w=>zL.calls q (l6 q) w (by cases q<;>rfl));clear hd hq;go_enter Tryz.func47,Tryz.ntmps47;go_wp2_with fail
 refine HC.o.mono ?_;rintro e w1 ⟨rfl,hb⟩;have HB:=af.mk hb;clear hb HC;go_wp2_with (go_at_call 79;refine(HY.o _).mono ?_;rintro e w' ⟨rfl,⟨nd,rfl⟩⟩)
 go_ret;exact⟨rfl,bb HB.o _⟩
theorem amt{B b:Nat}{A:Option Addr}{c:Nat}{t:List Int}{vp:Value}{p:List Int}(W:World)(hd:dW W B b A c t vp p)(k:Nat)(hl:o3.f k t p=some true):
  Calls Tryz.prog 47 #[.pointer (some ⟨b,0,none⟩),.string ⟨#[99,108,111,115,101,115]⟩] W fun e w'=>e=.returned (.string ⟨#[116,119,105,110]⟩)∧Below W.heap.size W w':=by
 obtain⟨Ap,cp,ep⟩:=Kd.bJ hd.hp;subst ep;have h1:=hd.c0;have h2:=hd.c1;have gI:=af.mk (Below.refl W.heap.size W);have HC:=af.mk (fun W' (hW:Below W.heap.size W W')=>o3.calls k A c t Ap cp p true W' (hd.below hW).read (hd.below hW).cap (Kd.bm (hd.below hW).hp).2.2 (Kd.bm (hd.below hW).hp).2.1 hl);clear hd hl;go_enter Tryz.func47,Tryz.ntmps47;go_wp2_with fail
 go_region_held3 (fun w'=>w'.cell? ⟨b,0,none⟩=some (.slice A t.length c)∧w'.cell? ⟨b,1,none⟩=some (.slice Ap p.length cp))
  (go_keep)
  (first
     |(go_at_call 82;refine(HC.o _ ?_).mono ?_;(repeat(first|exact gI.o|apply bb|apply bR));rintro e w3 ⟨rfl,hb⟩;have di:=af.mk (aU (bb gI.o 1) hb);have d1:=dH di.o h1;have d2:=dH di.o h2;clear hb))
 go_wp2;go_ret;exact⟨rfl,by repeat(first|exact di.o|apply bb|apply bR)⟩
theorem amu{B b:Nat}{A:Option Addr}{c:Nat}{t:List Int}{vp:Value}{p:List Int}(W:World)(hd:dW W B b A c t vp p)(k:Nat)(hl:o3.f k t p=some false)(k2:Nat)(hl2:sQ.f k2 t p=some true):
  Calls Tryz.prog 47 #[.pointer (some ⟨b,0,none⟩),.string ⟨#[99,108,111,115,101,115]⟩] W fun e w'=>e=.returned (.string ⟨#[104,101,120]⟩)∧Below W.heap.size W w':=by
 obtain⟨Ap,cp,ep⟩:=Kd.bJ hd.hp;subst ep;have h1:=hd.c0;have h2:=hd.c1;have gI:=af.mk (Below.refl W.heap.size W);have HC:=af.mk (fun W' (hW:Below W.heap.size W W')=>o3.calls k A c t Ap cp p false W' (hd.below hW).read (hd.below hW).cap (Kd.bm (hd.below hW).hp).2.2 (Kd.bm (hd.below hW).hp).2.1 hl);have iB:=af.mk (fun W' (hW:Below W.heap.size W W')=>sQ.calls k2 A c t Ap cp p true W' (hd.below hW).read (hd.below hW).cap (Kd.bm (hd.below hW).hp).2.2 (Kd.bm (hd.below hW).hp).2.1 hl2);clear hd hl hl2;go_enter Tryz.func47,Tryz.ntmps47;go_wp2_with fail
 go_region_held3 (fun w'=>w'.cell? ⟨b,0,none⟩=some (.slice A t.length c)∧w'.cell? ⟨b,1,none⟩=some (.slice Ap p.length cp))
  (go_keep)
  (first
     |(go_at_call 82;refine(HC.o _ ?_).mono ?_;(repeat(first|exact gI.o|apply bb|apply bR));rintro e w3 ⟨rfl,hb⟩;have di:=af.mk (aU (bb gI.o 1) hb);have d1:=dH di.o h1;have d2:=dH di.o h2;clear hb))
 clear d1 d2 gI;have e1:=dH di.o h1;have e2:=dH di.o h2;go_wp2_with fail
 go_region_held3 (fun w'=>w'.cell? ⟨b,0,none⟩=some (.slice A t.length c)∧w'.cell? ⟨b,1,none⟩=some (.slice Ap p.length cp))
  (go_keep)
  (first
     |(go_at_call 83;refine(iB.o _ ?_).mono ?_;(repeat(first|exact di.o|apply bb|apply bR));rintro e w4 ⟨rfl,hb⟩;have eV:=af.mk (aU (bb di.o 1) hb);have d3:=dH eV.o h1;have d4:=dH eV.o h2;clear hb))
 go_wp2;go_ret;exact⟨rfl,by repeat(first|exact eV.o|apply bb|apply bR)⟩
theorem amv{B b:Nat}{A:Option Addr}{c:Nat}{t:List Int}{vp:Value}{p:List Int}(W:World)(hd:dW W B b A c t vp p)(k:Nat)(hl:o3.f k t p=some false)(k2:Nat)(hl2:sQ.f k2 t p=some false):
  Calls Tryz.prog 47 #[.pointer (some ⟨b,0,none⟩),.string ⟨#[99,108,111,115,101,115]⟩] W fun e w'=>e=.returned (.string ⟨#[110,111,116]⟩)∧Below W.heap.size W w':=by
 obtain⟨Ap,cp,ep⟩:=Kd.bJ hd.hp;subst ep;have h1:=hd.c0;have h2:=hd.c1;have gI:=af.mk (Below.refl W.heap.size W);have HC:=af.mk (fun W' (hW:Below W.heap.size W W')=>o3.calls k A c t Ap cp p false W' (hd.below hW).read (hd.below hW).cap (Kd.bm (hd.below hW).hp).2.2 (Kd.bm (hd.below hW).hp).2.1 hl);have iB:=af.mk (fun W' (hW:Below W.heap.size W W')=>sQ.calls k2 A c t Ap cp p false W' (hd.below hW).read (hd.below hW).cap (Kd.bm (hd.below hW).hp).2.2 (Kd.bm (hd.below hW).hp).2.1 hl2);clear hd hl hl2;go_enter Tryz.func47,Tryz.ntmps47;go_wp2_with fail
 go_region_held3 (fun w'=>w'.cell? ⟨b,0,none⟩=some (.slice A t.length c)∧w'.cell? ⟨b,1,none⟩=some (.slice Ap p.length cp))
  (go_keep)
  (first
     |(go_at_call 82;refine(HC.o _ ?_).mono ?_;(repeat(first|exact gI.o|apply bb|apply bR));rintro e w3 ⟨rfl,hb⟩;have di:=af.mk (aU (bb gI.o 1) hb);have d1:=dH di.o h1;have d2:=dH di.o h2;clear hb))
 clear d1 d2 gI;have e1:=dH di.o h1;have e2:=dH di.o h2;go_wp2_with fail
 go_region_held3 (fun w'=>w'.cell? ⟨b,0,none⟩=some (.slice A t.length c)∧w'.cell? ⟨b,1,none⟩=some (.slice Ap p.length cp))
  (go_keep)
  (first
     |(go_at_call 83;refine(iB.o _ ?_).mono ?_;(repeat(first|exact di.o|apply bb|apply bR));rintro e w4 ⟨rfl,hb⟩;have eV:=af.mk (aU (bb di.o 1) hb);have d3:=dH eV.o h1;have d4:=dH eV.o h2;clear hb))
 go_wp2;go_ret;exact⟨rfl,by repeat(first|exact eV.o|apply bb|apply bR)⟩
theorem amw{B b:Nat}{A:Option Addr}{c:Nat}{t:List Int}{vp:Value}{p:List Int}(W:World)(hd:dW W B b A c t vp p)(k:Nat)(l:List Int)(ok:Bool)(hl:uo.f k t p=some (l,ok))(k':Nat)(r:ByteArray)(hr:gx.f k' l ok=some r):
  Calls Tryz.prog 47 #[.pointer (some ⟨b,0,none⟩),.string ⟨#[113,117,97,100]⟩] W fun e w'=>e=.returned (.string r)∧Below W.heap.size W w':=by
 obtain⟨Ap,cp,ep⟩:=Kd.bJ hd.hp;subst ep;have h1:=hd.c0;have h2:=hd.c1;have gI:=af.mk (Below.refl W.heap.size W);have HC:=af.mk (fun W' (hW:Below W.heap.size W W')=>uo.calls k A c t Ap cp p l ok W' (hd.below hW).read (hd.below hW).cap (Kd.bm (hd.below hW).hp).2.2 (Kd.bm (hd.below hW).hp).2.1 hl);have HR:=af.mk hr;clear hd hl hr;go_enter Tryz.func47,Tryz.ntmps47;go_wp2_with fail
 go_region_held3 (fun w'=>w'.cell? ⟨b,0,none⟩=some (.slice A t.length c)∧w'.cell? ⟨b,1,none⟩=some (.slice Ap p.length cp))
  (go_keep)
  (first
     |(go_at_call 84;refine(HC.o _ ?_).mono ?_;(repeat(first|exact gI.o|apply bb|apply bR));rintro e w3 ⟨v,rfl,ho,hb⟩;have di:=af.mk (aU (bb gI.o 1) hb);have d1:=dH di.o h1;have d2:=dH di.o h2;obtain⟨Ao,co,eo⟩:=Kd.bJ ho;subst eo;have HO:=af.mk ho;clear ho;clear hb)
     |(go_at_call 50;have hk:=gx.calls k' Ao co l ok r w3 (Kd.bm HO.o).2.2 (Kd.bm HO.o).2.1 HR.o;refine hk.mono ?_;clear hk;rintro e w4 ⟨rfl,hb⟩;have eV:=af.mk (aU di.o hb);have d3:=dH eV.o h1;have d4:=dH eV.o h2;clear hb))
 go_wp2;go_ret;exact⟨rfl,by repeat(first|exact eV.o|apply bb|apply bR)⟩
theorem amx{B b:Nat}{A:Option Addr}{c:Nat}{t:List Int}{vp:Value}{p:List Int}(W:World)(hd:dW W B b A c t vp p)(k:Nat)(n:Int)(ok:Bool)(hl:wM.f k t p=some (n,ok))(k':Nat)(r:ByteArray)(hr:jF.f k' n ok=some r):
  Calls Tryz.prog 47 #[.pointer (some ⟨b,0,none⟩),.string ⟨#[111,114,100,101,114]⟩] W fun e w'=>e=.returned (.string r)∧Below W.heap.size W w':=by
 obtain⟨Ap,cp,ep⟩:=Kd.bJ hd.hp;subst ep;have h1:=hd.c0;have h2:=hd.c1;have gI:=af.mk (Below.refl W.heap.size W);have HC:=af.mk (fun W' (hW:Below W.heap.size W W')=>wM.calls k A c t Ap cp p n ok W' (hd.below hW).read (hd.below hW).cap (Kd.bm (hd.below hW).hp).2.2 (Kd.bm (hd.below hW).hp).2.1 hl);have HR:=af.mk hr;clear hd hl hr;go_enter Tryz.func47,Tryz.ntmps47;go_wp2_with fail
 go_region_held3 (fun w'=>w'.cell? ⟨b,0,none⟩=some (.slice A t.length c)∧w'.cell? ⟨b,1,none⟩=some (.slice Ap p.length cp))
  (go_keep)
  (first
     |(go_at_call 85;refine(HC.o _ ?_).mono ?_;(repeat(first|exact gI.o|apply bb|apply bR));rintro e w3 ⟨rfl,hb⟩;have di:=af.mk (aU (bb gI.o 1) hb);have d1:=dH di.o h1;have d2:=dH di.o h2;clear hb)
     |(go_at_call 52;have hk:=jF.calls k' n ok r w3 HR.o;refine hk.mono ?_;clear hk;rintro e w4 ⟨rfl,hb⟩;have eV:=af.mk (aU di.o hb);have d3:=dH eV.o h1;have d4:=dH eV.o h2;clear hb))
 go_wp2;go_ret;exact⟨rfl,by repeat(first|exact eV.o|apply bb|apply bR)⟩
theorem amy{B b:Nat}{A:Option Addr}{c:Nat}{t:List Int}{vp:Value}{p:List Int}(W:World)(hd:dW W B b A c t vp p)(l:List Int)(ok:Bool)(hl:ur.f t p=some (l,ok))(k':Nat)(r:ByteArray)(hr:jF.f k' (l.length:Int) ok=some r):
  Calls Tryz.prog 47 #[.pointer (some ⟨b,0,none⟩),.string ⟨#[115,112,97,110]⟩] W fun e w'=>e=.returned (.string r)∧Below W.heap.size W w':=by
 obtain⟨Ap,cp,ep⟩:=Kd.bJ hd.hp;subst ep;have h1:=hd.c0;have h2:=hd.c1;have gI:=af.mk (Below.refl W.heap.size W);have HC:=af.mk (fun W' (hW:Below W.heap.size W W')=>ur.calls A c t Ap cp p l ok W' (hd.below hW).read (hd.below hW).cap (Kd.bm (hd.below hW).hp).2.2 (Kd.bm (hd.below hW).hp).2.1 hl);have HR:=af.mk hr;clear hd hl hr;go_enter Tryz.func47,Tryz.ntmps47;go_wp2_with fail
 go_region_held3 (fun w'=>w'.cell? ⟨b,0,none⟩=some (.slice A t.length c)∧w'.cell? ⟨b,1,none⟩=some (.slice Ap p.length cp))
  (go_keep)
  (first
     |(go_at_call 86;refine(HC.o _ ?_).mono ?_;(repeat(first|exact gI.o|apply bb|apply bR));rintro e w3 ⟨v,rfl,ho,hb⟩;have di:=af.mk (aU (bb gI.o 1) hb);have d1:=dH di.o h1;have d2:=dH di.o h2;obtain⟨Ao,co,eo⟩:=Kd.bJ ho;subst eo;have HO:=af.mk ho;clear ho;clear hb))
 go_wp2_with (go_at_call 52;refine(jF.calls k' (l.length:Int) ok r _ HR.o).mono ?_;rintro e w4 ⟨rfl,hb⟩;have eV:=af.mk (aU (by repeat(first|exact di.o|apply bb|apply bR)) hb);clear hb)
 go_ret;exact⟨rfl,eV.o⟩
theorem amA{B b:Nat}{A:Option Addr}{c:Nat}{t:List Int}{vp:Value}{p:List Int}(W:World)(hd:dW W B b A c t vp p)(s s':List (List Int))(ok:Bool)(hs:xy.f t=some s)(hl:yc.f s=some (s',ok))(k:Nat)(n:Int)(hn:k8.f k s s'=some n)(k':Nat)(r:ByteArray)(hr:jF.f k' n ok=some r):
  Calls Tryz.prog 47 #[.pointer (some ⟨b,0,none⟩),.string ⟨#[100,101,114,105,118,101]⟩] W fun e w'=>e=.returned (.string r)∧Below W.heap.size W w':=by
 have HC:=af.mk (xy.calls A c t s W hd.read hd.cap hs);have HL:=af.mk hl;have HN:=af.mk hn;have HR:=af.mk hr;have h1:=hd.c0;clear hd hl hr hs hn;go_enter Tryz.func47,Tryz.ntmps47;go_wp2_with fail
 refine HC.o.mono ?_;rintro e w1 ⟨v,rfl,ho,hb⟩;obtain⟨Ao,co,rfl⟩:=Kd.zk ho;have hr1:=Kd.B3 ho;have HO:=af.mk hr1;have HB:=af.mk hb;clear ho hb HC hr1;go_wp2_with fail
 refine(yc.amo Ao co s s' ok w1 (Kd.bm HO.o).2.2 (Kd.bm HO.o).2.1 HL.o).mono ?_;rintro e w2 ⟨v,rfl,ho,hb⟩;obtain⟨A2,c2,rfl⟩:=Kd.zk ho;have hr1:=Kd.B3 ho;have mE:=af.mk (Kd.dB HO.o hb);have iC:=af.mk hr1;have bK:=af.mk (aU HB.o hb);clear ho hb hr1;go_wp2_with fail
 refine(k8.calls k Ao co s A2 c2 s' n w2 (Kd.bm mE.o).2.2 (Kd.bm mE.o).2.1 (Kd.bm iC.o).2.2 (Kd.bm iC.o).2.1 HN.o).mono ?_;rintro e w3 ⟨rfl,hb⟩;have du:=af.mk (aU bK.o hb);clear hb;go_wp2_with fail
 refine(jF.calls k' n ok r w3 HR.o).mono ?_;rintro e w4 ⟨rfl,hb⟩;have cI:=af.mk (aU du.o hb);clear hb;go_wp2;go_ret;exact⟨rfl,cI.o⟩
def PU:List (List UInt8):=[[107,101,114,110,101,108],[99,101,110,116,114,101],[98,114,97,99,107,101,116,115],[98,111,116,104],[115,119,97,112,115],[99,108,111,115,101,115],[113,117,97,100],[111,114,100,101,114],[115,112,97,110],[100,101,114,105,118,101]]
theorem amB(b:Nat)(word:ByteArray)(W:World)(hw:word.data.toList∉PU):
  Calls Tryz.prog 47 #[.pointer (some ⟨b,0,none⟩),.string word] W fun e w'=>e=.returned (.string ⟨#[119,104,97,116]⟩)∧Below W.heap.size W w':=by
 have q:∀l:List UInt8,l∈PU→(word.toList==l)=false:=by
  intro l hl;refine beq_eq_false_iff_ne.2 (fun e=>hw ?_);rw[←Lib.toList_data word,e];exact hl
 have q0:=q [107,101,114,110,101,108] ao;have q1:=q [99,101,110,116,114,101] ao;have q2:=q [98,114,97,99,107,101,116,115] ao;have q3:=q [98,111,116,104] ao;have q4:=q [115,119,97,112,115] ao;have q5:=q [99,108,111,115,101,115] ao;have q6:=q [113,117,97,100] ao;have q7:=q [111,114,100,101,114] ao;have q8:=q [115,112,97,110] ao;have q9:=q [100,101,114,105,118,101] ao;clear hw q;go_enter Tryz.func47,Tryz.ntmps47;go_wp2;go_ret;exact⟨rfl,Below.refl _ _⟩
end X
namespace P
open Go.Proofs.YtiobedekgnfjcaaGreatDoorW.pK
def cM.l0:Nat→List Int→List ByteArray→Int→Int→Option (List Int×Bool)
 |0,_,_,_,_=>none
 |k+1,x7,zA,x20,x21=>if x21<x20 then(if 0≤x21 then(if x21<(zA.length:Int) then(if((dM ByteArray.empty zA x21).size:Int)<1 then(some (([]:List Int),false)) else(if((dM ByteArray.empty zA x21).size:Int)>2 then(some (([]:List Int),false)) else((strings_Trim.f (dM ByteArray.empty zA x21) (⟨#[48,49,50,51,52,53,54,55,56,57]⟩:ByteArray)).bind fun Ck=>(if Ck.toList=([]:List UInt8) then((vF.f (dM ByteArray.empty zA x21)).bind fun acF=>(if x7.length<17592186044416 then(cM.l0 k (x7++[acF.1]) zA x20 (wrap64 (x21+1))) else none)) else(some (([]:List Int),false)))))) else none) else none) else(some (x7,true))
def cM.f(k:Nat)(a0:ByteArray)(a1:Int):Option (List Int×Bool):=(strings_Split.f a0 (⟨#[32]⟩:ByteArray)).bind fun hU=>(if(hU.length:Int)=a1 then(cM.l0 k (([]:List Int)) hU (hU.length:Int) 0) else(some (([]:List Int),false)))
theorem cM.calls(k:Nat)(a0:ByteArray)(a1:Int)(r1:List Int)(r2:Bool)(dD:Int)(w:World)(gn:w.cell? ⟨0,0,none⟩=some (.int .i64 dD))(h:cM.f k a0 a1=some (r1,r2)):
  Calls Tryz.prog 48 #[.string a0,.int .i64 a1] w fun e w'=> ∃bO:Value,e=.returned (.tuple #[bO,.bool r2])∧Kd.R (Kd.int .i64) 3 w' w.heap.size (fun _=>True) bO r1∧Below w.heap.size w w':=by
 have fm:=af.mk gn;clear gn;have HB:=af.mk (Below.refl w.heap.size w);have H:=h;clear h;unfold cM.f at H;replace H:=aA.mp H;obtain⟨hU,bW,H⟩:=H;have A3:=af.mk bW;clear bW;by_cases c4:(hU.length:Int)=a1
 case neg=>
  rw[ag c4] at H;have dK:=cV c4;have nX:=bne_iff_ne.mpr c4;simp only[Option.some.injEq,Prod.mk.injEq] at H;obtain⟨rfl,rfl⟩:=H;go_enter Tryz.func48,Tryz.ntmps48;go_wp2_with ((refine aY 13 Tryz.func28 #[.string a0,.string (⟨#[32]⟩:ByteArray)] ?_;(with_reducible refine(strings_Split.calls a0 (⟨#[32]⟩:ByteArray) hU dD _ fm.o A3.o).mono ?_);rintro e ny ⟨acG,rfl,ho0,hb⟩;refine⟨_,rfl,?_⟩;have zB:=af.mk (Kd.cv ho0 (aZ (ai HB)));replace HB:=aM HB hb;obtain⟨acH,acI,Kk⟩:=Kd.bJ zB.o;subst Kk))
  go_ret2
  exact⟨_,bE,by first|exact Kd.kJ _ _ _ _ _|exact Kd.qU _ _ _ _ _|exact Kd.qY _ _ _ _ _|exact Kd.qO _ _ _ _ _|exact Kd.oP _ _ _ _ _,ai HB⟩
 rw[ah c4] at H;have dK:=beq_iff_eq.mpr c4;have nX:=bne_eq_false_iff_eq.mpr c4;clear c4;generalize SE:((([]:List Int)):List Int)=acJ at H;have SF:=af.mk SE.symm;clear SE;have H':=af.mk H;clear H;go_enter Tryz.func48,Tryz.ntmps48;go_wp2_with (first|(refine aY 13 Tryz.func28 #[.string a0,.string (⟨#[32]⟩:ByteArray)] ?_;(with_reducible refine(strings_Split.calls a0 (⟨#[32]⟩:ByteArray) hU dD _ fm.o A3.o).mono ?_);rintro e w5 ⟨acG,rfl,ho0,hb⟩;refine⟨_,rfl,?_⟩;have zB:=af.mk (Kd.cv ho0 (aZ (ai HB)));replace HB:=aM HB hb;obtain⟨Kl,Km,Kn⟩:=Kd.bJ zB.o;subst Kn)|((with_reducible refine db (N:=18) rfl ?_);refine Kd.dV (Kd.int .i64) _ 3 ?hg (N:=18) ?hd (xs:=([]:List Int)) (inner:=[]) (ok:=fun _=>True) (bp:=fun _=>True) ?hr ?hp (fun _ hk=>hk) trivial (Below.refl _ _) (aH _) bn ?_;(case hd=>rfl);(case hg=>rfl);(case hr=>first|(go_simp;done)|(go_simp;rfl));(case hp=>exact(aE.none _ _));intro aqg w7 fk hb bq br;clear bq br;(first|rw[←SF.o] at fk|(simp only[Int.reduceToNat] at fk;rw[←SF.o] at fk));replace zB:=af.mk (Kd.dB (aX zB) hb);have acK:=af.mk (Kd.cv fk (aZ (ai HB)));replace HB:=aM HB hb;clear hb fk))
 go_loopg [7,21] k (fun kq v7 v21 w'=> ∃(cB:List Int) (gT:Int),v21=.int .i64 gT∧af (cM.l0 kq cB hU (hU.length:Int) gT=some (r1,r2))∧af (kq≤k)∧af (Kd.R (Kd.int .i64) 3 w' w.heap.size (fun _=>True) v7 cB)∧af (Kd.R Kd.string 9 w' w.heap.size (fun _=>True) (.slice Kl hU.length Km) hU)∧af (Below w.heap.size w w'))
 case atStart=>exact⟨(acJ),(0),ak,H',⟨aH _⟩,⟨aX acK⟩,⟨aX zB⟩,⟨ai HB⟩⟩
 case round=>
  clear H';obtain⟨cB,gT,rfl,HA,aC,rf,n3,HB⟩:=hrel;cases gk with
  |zero=>exact absurd HA.o (by simp[cM.l0])
  |succ k1=>
   have H:=HA.o;clear HA;simp only[cM.l0] at H;by_cases c9:gT<(hU.length:Int)
   case neg=>
    rw[ag c9] at H;have gU:=aD c9;clear c9;simp only[Option.some.injEq,Prod.mk.injEq] at H;obtain⟨rfl,rfl⟩:=H;go_wp2;go_ret2
    exact⟨_,bE,aX rf,ai HB⟩
   rw[ah c9] at H;have gU:=ap c9;clear c9;replace H:=bC H;obtain⟨gH,H⟩:=H;replace H:=bC H;obtain⟨j5,H⟩:=H;by_cases c12:((dM ByteArray.empty hU gT).size:Int)<1
   case neg=>
    rw[ag c12] at H;have jC:=aD c12;have sv:decide ((dM ByteArray.empty hU gT).size<1)=false:=aD ae;clear c12;by_cases c13:((dM ByteArray.empty hU gT).size:Int)>2
    case neg=>
     rw[ag c13] at H;have j6:=aD c13;have tS:decide (2<(dM ByteArray.empty hU gT).size)=false:=aD ae;clear c13;replace H:=aA.mp H;obtain⟨Ck,Cl,H⟩:=H;have Cm:=af.mk Cl;clear Cl;by_cases c15:Ck.toList=([]:List UInt8)
     case neg=>
      rw[ag c15] at H;have n4:=cV c15;have Gi:=bne_iff_ne.mpr c15;simp only[Option.some.injEq,Prod.mk.injEq] at H;obtain⟨rfl,rfl⟩:=H;have mB:0≤(gT:Int):=aJ;have mC:gT<(hU.length:Int):=aJ;obtain⟨Ko,vP,Kp⟩:=Kd.vA (Kd.bm n3.o).2.2 gT mB mC;cases vP;replace mB:=av mB;replace mC:=av mC;go_wp2_with ((go_at_call 90;(with_reducible refine(strings_Trim.calls (dM ByteArray.empty hU gT) (⟨#[48,49,50,51,52,53,54,55,56,57]⟩:ByteArray) Ck _ Cm.o).mono ?_);rintro e Kq ⟨rfl,hb⟩;replace rf:=af.mk (Kd.dB (aX rf) hb);replace n3:=af.mk (Kd.dB (aX n3) hb);replace HB:=aM HB hb))
      go_ret2
      exact⟨_,bE,by first|exact Kd.kJ _ _ _ _ _|exact Kd.qU _ _ _ _ _|exact Kd.qY _ _ _ _ _|exact Kd.qO _ _ _ _ _|exact Kd.oP _ _ _ _ _,ai HB⟩
     rw[ah c15] at H;have n4:=beq_iff_eq.mpr c15;have Gi:=bne_eq_false_iff_eq.mpr c15;clear c15;replace H:=aA.mp H;obtain⟨⟨Gj,acL⟩,pL,H⟩:=H;have nz:=af.mk pL;clear pL;by_cases c17:cB.length<17592186044416
     case neg=>
      rw[ag c17] at H;cases H
     rw[ah c17] at H;have Cn:=af.mk c17;clear c17;generalize SG:((cB++[Gj]):List Int)=acM at H;have acN:=af.mk SG.symm;clear SG;have H':=af.mk H;clear H;have mB:0≤(gT:Int):=aJ;have mC:gT<(hU.length:Int):=aJ;obtain⟨Ko,vP,Kp⟩:=Kd.vA (Kd.bm n3.o).2.2 gT mB mC;cases vP;replace mB:=av mB;replace mC:=av mC;go_wp2_with (first|(go_at_call 90;(with_reducible refine(strings_Trim.calls (dM ByteArray.empty hU gT) (⟨#[48,49,50,51,52,53,54,55,56,57]⟩:ByteArray) Ck _ Cm.o).mono ?_);rintro e tT ⟨rfl,hb⟩;replace rf:=af.mk (Kd.dB (aX rf) hb);replace n3:=af.mk (Kd.dB (aX n3) hb);replace HB:=aM HB hb)|(refine aY 40 Tryz.func91 #[.string (dM ByteArray.empty hU gT)] ?_;(with_reducible refine(vF.calls (dM ByteArray.empty hU gT) Gj acL _ nz.o).mono ?_);rintro e tU ⟨rfl,hb⟩;refine⟨_,rfl,?_⟩;replace rf:=af.mk (Kd.dB (aX rf) hb);replace n3:=af.mk (Kd.dB (aX n3) hb);replace HB:=aM HB hb;(try simp only[mv,mw]))|(at_builtin;refine Kd.jW (Kd.int .i64) (w0:=w) w.heap.size rfl (.tmp 43) (.tmp 45) 31 3 (.int .i64 0) 8 rfl Tryz.underlying31 info3 rfl ao ae u7 cB Gj [.int .i64 Gj] (fun _=>True) (fun _=>False) rfl rfl ?aP (fun _ hk=>hk.elim) ?aF ?aO ?aB ?aS ?aL ?_;(case aP=>exact rfl);(case aB=>exact(ai HB));(case aF=>exact(fun _ _=>trivial));(case aO=>exact(aX rf));(case aS=>exact(aZ (ai HB)));(case aL=>have:=Cn.o;omega);intro aqh Co ho hb hg hat;rw[←acN.o] at ho;replace n3:=af.mk (Kd.FV (aX n3) (Kd.BK (aX rf)) ao hg);replace HB:=af.mk (hb);have acO:=af.mk (ho);clear rf;clear ho hb hg hat))
     go_roundg k1
     case measure=>have:=aC.o;omega
     case rel=>exact⟨(acM),(wrap64 (gT+1)),ak,H',⟨by have:=aC.o;omega⟩,⟨aX acO⟩,⟨aX n3⟩,⟨ai HB⟩⟩
    rw[ah c13] at H;have j6:=ap c13;have tS:decide (2<(dM ByteArray.empty hU gT).size)=true:=ap ae;clear c13;simp only[Option.some.injEq,Prod.mk.injEq] at H;obtain⟨rfl,rfl⟩:=H;have mB:0≤(gT:Int):=aJ;have mC:gT<(hU.length:Int):=aJ;obtain⟨Ko,vP,Kp⟩:=Kd.vA (Kd.bm n3.o).2.2 gT mB mC;cases vP;replace mB:=av mB;replace mC:=av mC;go_wp2;go_ret2
    exact⟨_,bE,by first|exact Kd.kJ _ _ _ _ _|exact Kd.qU _ _ _ _ _|exact Kd.qY _ _ _ _ _|exact Kd.qO _ _ _ _ _|exact Kd.oP _ _ _ _ _,ai HB⟩
   rw[ah c12] at H;have jC:=ap c12;have sv:decide ((dM ByteArray.empty hU gT).size<1)=true:=ap ae;clear c12;simp only[Option.some.injEq,Prod.mk.injEq] at H;obtain⟨rfl,rfl⟩:=H;have mB:0≤(gT:Int):=aJ;have mC:gT<(hU.length:Int):=aJ;obtain⟨Ko,vP,Kp⟩:=Kd.vA (Kd.bm n3.o).2.2 gT mB mC;cases vP;replace mB:=av mB;replace mC:=av mC;go_wp2;go_ret2
   exact⟨_,bE,by first|exact Kd.kJ _ _ _ _ _|exact Kd.qU _ _ _ _ _|exact Kd.qY _ _ _ _ _|exact Kd.qO _ _ _ _ _|exact Kd.oP _ _ _ _ _,ai HB⟩
end P
namespace X
theorem acP(k:Nat)(b:Nat)(s rest:ByteArray)(m:Int)(W:World)(hs:s.size<4294967281)(hm:W.cell? ⟨0,0,none⟩=some (.int .i64 m))
    (hcut:Lib.cut s.data.toList [32]=([97,100,100],rest.data.toList,true)) (x y:Int) (hn:cM.f k rest 2=some ([x,y],true)) (hx:bP x) (hy:bP y) (r:ByteArray) (hr:my.f (bg x y)=some r):
    Calls Tryz.prog 29 #[.pointer (some ⟨b,0,none⟩),.string s] W fun e w'=>e=.returned (.string r)∧Below W.heap.size W w':=by
  have HC:=af.mk (j4 s ⟨#[97,100,100]⟩ rest true m W hs hm hcut);have HM:=af.mk hm;have HR:=af.mk (fun w hm=>cM.calls k rest 2 _ _ m w hm hn);have HA:=af.mk (fun w=>tQ x y hx hy w);have j7:=af.mk (su x);have n5:=af.mk (su y);rw[show cT x=true by unfold cT;simp[hx.1,hx.2]] at j7;rw[show cT y=true by unfold cT;simp[hy.1,hy.2]] at n5;have HI:=af.mk (fun w=>my.calls _ _ w hr);clear hs hm hcut hn hx hy hr;go_enter Tryz.func29,Tryz.ntmps29;go_wp2_with (go_at_call 46;refine HC.o.mono ?_;rintro e w1 ⟨rfl,⟨nd,rfl⟩⟩)
  refine(HR.o _ (by simpa using HM.o)).mono ?_;rintro e w2 ⟨v,rfl,ho,hb⟩;obtain⟨Ao,co,rfl⟩:=Kd.bJ ho;obtain⟨ad,e1,g1⟩:=Kd.ck (Kd.bm ho).2.2 0 ae (by show(0:Int)<2;omega);obtain⟨kp,e2,g2⟩:=Kd.ck (Kd.bm ho).2.2 1 ae (by show(1:Int)<2;omega);subst e1;cases e2;rw[show[x,y].length=2 from rfl];have g1:w2.cell? ad=some (.int .i64 x):=g1;have g2:w2.cell? ⟨ad.block,ad.off+1,none⟩=some (.int .i64 y):=g2;have HB:=af.mk (aU (aG.below (w:=W) ⟨⟨nd,rfl⟩⟩) hb);clear ho hb HC HR HM;go_wp2_with (first|(go_at_call 35;with_reducible refine(j7.o _).mono ?_;rintro e w' ⟨rfl,⟨nd,rfl⟩⟩)|(go_at_call 35;with_reducible refine(n5.o _).mono ?_;rintro e w' ⟨rfl,⟨nd,rfl⟩⟩))
  go_region_held3 (fun w'=>w'.cell? ad=some (.int .i64 x)∧w'.cell? ⟨ad.block,ad.off+1,none⟩=some (.int .i64 y))
    (go_keep)
    (first
     |(go_at_call 36;with_reducible refine(HA.o _).mono ?_;rintro e w' ⟨rfl,⟨nd,rfl⟩⟩)
     |(go_at_call 30;with_reducible refine(HI.o _).mono ?_;rintro e w' ⟨rfl,⟨nd,rfl⟩⟩))
  go_wp2;go_ret
  trace_state
  exact⟨rfl,by repeat(first|exact HB.o|apply bb|apply bR)⟩
theorem dW.laid{W:World}{B b:Nat}{A:Option Addr}{c:Nat}{t:List Int}{vp:Value}{p:List Int}(h:dW W B b A c t vp p){A':Option Addr}{c':Nat}{t':List Int}
  (h':Kd.R (Kd.int .i64) 3 W B (fun q=>q≠b) (.slice A' t'.length c') t'):
  dW ((W.setCell ⟨b,0,none⟩ (.slice A' t'.length c')).setCell ⟨b,1,none⟩ (.slice none 0 0)) B b A' c' t' (.slice none 0 0) []:=by
 have ne:(⟨b,1,none⟩:Addr)≠⟨b,0,none⟩:=by simp
 refine⟨h.hB,?_,?_,?_,?_,?_,Kd.kJ _ _ _ _ _⟩
 ·rw[World.cell?_setCell_other (h:=ne)];exact World.cell?_setCell_same _ _ _ h.c0
 ·exact World.cell?_setCell_same _ _ _ ((World.cell?_setCell_other _ _ _ _ ne.symm).trans h.c1)
 ·simpa using h.f0
 ·simpa using h.f1
 ·exact Kd.dq (Kd.tF (Kd.tF h' (p:=⟨b,0,none⟩) (fun k hk=>hk) _) (p:=⟨b,1,none⟩) (fun k hk=>hk) _) (fun k hk=>⟨hk,by simp[Value.ownBlock]⟩)
theorem acR(k k':Nat){B b:Nat}{A:Option Addr}{c:Nat}{t:List Int}{vp:Value}{p:List Int}(s rest:ByteArray)(m:Int)(W:World)(hd:dW W B b A c t vp p)(hs:s.size<4294967281)(hm:W.cell? ⟨0,0,none⟩=some (.int .i64 m))
  (hcut:Lib.cut s.data.toList [32]=([107,105,110,100],rest.data.toList,true)) (x:Int) (hn:cM.f k rest 1=some ([x],true)) (t':List Int) (ht:ri.f k' x=some (t',true)):
  Calls Tryz.prog 29 #[.pointer (some ⟨b,0,none⟩),.string s] W fun e w'=>e=.returned (.string ⟨#[111,107]⟩)∧iU W B b vp t' [] w':=by
 have HC:=af.mk (j4 s ⟨#[107,105,110,100]⟩ rest true m W hs hm hcut);have HM:=af.mk hm;have HR:=af.mk (fun w hm=>cM.calls k rest 1 _ _ m w hm hn);have HT:=af.mk (fun w=>ri.calls k' x t' true w ht);have HD:=af.mk hd;have hbs:b<W.heap.size:=World.block_lt_of_cell? W _ hd.c0;have Ks:=af.mk hbs;clear hs hm hcut hn ht hd hbs;go_enter Tryz.func29,Tryz.ntmps29;go_wp2_with (go_at_call 46;refine HC.o.mono ?_;rintro e w1 ⟨rfl,⟨nd,rfl⟩⟩)
 refine(HR.o _ (by simpa using HM.o)).mono ?_;rintro e w2 ⟨v,rfl,ho,hb⟩;obtain⟨Ao,co,rfl⟩:=Kd.bJ ho;obtain⟨ad,e1,g1⟩:=Kd.ck (Kd.bm ho).2.2 0 ae (by show(0:Int)<1;omega);subst e1;rw[show[x].length=1 from rfl];have g1:w2.cell? ad=some (.int .i64 x):=g1;have HB:=af.mk (aU (aG.below (w:=W) ⟨⟨nd,rfl⟩⟩) hb);clear ho hb HC HR HM;go_wp2_with fail
 refine(HT.o w2).mono ?_;rintro e w3 ⟨vt,rfl,hot,hb⟩;obtain⟨At,ct,rfl⟩:=Kd.bJ hot;have hb3:=aU HB.o hb;have hd3:=HD.o.below hb3;have h1:=hd3.c0;have h2:=hd3.c1;have h3:=hd3.f0;have h4:=hd3.f1;have HD3:=af.mk hd3;have du:=af.mk hb3
 have HTT:=af.mk (show Kd.R (Kd.int .i64) 3 w3 B (fun q=>q≠b) (.slice At t'.length ct) t' from
  Kd.cv (Kd.dq (Kd.ix hot) (fun k hk=>by have:=hk.2.1;have:=Ks.o;have:=HB.o.size;omega)) (by have:=HD.o.hB;have:=Ks.o;have:=HB.o.size;omega))
 clear hot hb hb3 hd3 HB HT g1;go_wp2;go_ret;have hl:=HD3.o.laid HTT.o;refine⟨rfl,⟨⟨_,_,_,hl⟩,?_,fun k hk zC _=>?_⟩⟩
 ·exact Below.setCell (Below.setCell (du.o.mono (by have:=HD.o.hB;have:=Ks.o;omega)) (p:=⟨b,0,none⟩) HD.o.hB _) (p:=⟨b,1,none⟩) HD.o.hB _
 ·rw[Below.heap_setCell _ _ _ _ zC,Below.heap_setCell _ _ _ _ zC];exact du.o.block k hk
theorem acS(k:Nat){B b:Nat}{A:Option Addr}{c:Nat}{t:List Int}{vp:Value}{p:List Int}(s rest:ByteArray)(m:Int)(W:World)(hd:dW W B b A c t vp p)(hs:s.size<4294967281)(hm:W.cell? ⟨0,0,none⟩=some (.int .i64 m))
  (hcut:Lib.cut s.data.toList [32]=([116,105,109,101,115],rest.data.toList,true)) (x y:Int) (hn:cM.f k rest 2=some ([x,y],true)) (hx:bP x) (hy:bP y) (ht:t.length=81) (r:ByteArray) (hr:my.f (rd t (9*x+y))=some r):
  Calls Tryz.prog 29 #[.pointer (some ⟨b,0,none⟩),.string s] W fun e w'=>e=.returned (.string r)∧Below W.heap.size W w':=by
 have HC:=af.mk (j4 s ⟨#[116,105,109,101,115]⟩ rest true m W hs hm hcut);have HM:=af.mk hm;have HR:=af.mk (fun w hm=>cM.calls k rest 2 _ _ m w hm hn);have j7:=af.mk (su x);have n5:=af.mk (su y);rw[show cT x=true by unfold cT;simp[hx.1,hx.2]] at j7;rw[show cT y=true by unfold cT;simp[hy.1,hy.2]] at n5;have HI:=af.mk (fun w=>my.calls _ _ w hr);have HD:=af.mk hd;obtain⟨x0,x1⟩:=hx;obtain⟨y0,y1⟩:=hy;have z1:IntKind.i64.wrap (9*x)=9*x:=by rw[IntKind.wrap_i64];omega
 have z2:IntKind.i64.wrap (9*x+y)=9*x+y:=by rw[IntKind.wrap_i64];omega
 have q0:0≤9*x+y:=ae;have q1:9*x+y<81:=ae;have SH:=af.mk ht;have HXY:=af.mk (And.intro x0 y0);clear hs hm hcut hn hr hd x0 x1 y0 y1;go_enter Tryz.func29,Tryz.ntmps29;go_wp2_with (go_at_call 46;refine HC.o.mono ?_;rintro e w1 ⟨rfl,⟨nd,rfl⟩⟩)
 refine(HR.o _ (by simpa using HM.o)).mono ?_;rintro e w2 ⟨v,rfl,ho,hb⟩;obtain⟨Ao,co,rfl⟩:=Kd.bJ ho;obtain⟨ad,e1,g1⟩:=Kd.ck (Kd.bm ho).2.2 0 ae (by show(0:Int)<2;omega);obtain⟨kp,e2,g2⟩:=Kd.ck (Kd.bm ho).2.2 1 ae (by show(1:Int)<2;omega);subst e1;cases e2;rw[show[x,y].length=2 from rfl];have g1:w2.cell? ad=some (.int .i64 x):=g1;have g2:w2.cell? ⟨ad.block,ad.off+1,none⟩=some (.int .i64 y):=g2;have hb2:=aU (aG.below (w:=W) ⟨⟨nd,rfl⟩⟩) hb;have hd2:=HD.o.below hb2;have HB:=af.mk hb2;obtain⟨ta,e3,g3⟩:=Kd.ck hd2.read (9*x+y) q0 (by rw[SH.o];exact q1);subst e3;have g4:=hd2.c0;rw[SH.o] at g4;clear ho hb HC HR HM hb2 hd2 HD;go_wp2_with (first|(go_at_call 35;with_reducible refine(j7.o _).mono ?_;rintro e w' ⟨rfl,⟨nd,rfl⟩⟩)|(go_at_call 35;with_reducible refine(n5.o _).mono ?_;rintro e w' ⟨rfl,⟨nd,rfl⟩⟩))
 go_region_held3 (fun w'=>w'.cell? ad=some (.int .i64 x)∧w'.cell? ⟨ad.block,ad.off+1,none⟩=some (.int .i64 y)∧w'.cell? ⟨b,0,none⟩=some (.slice (some ta) 81 c)∧w'.cell? (ta.add (9*x+y).toNat)=some (.int .i64 (rd t (9*x+y))))
  (go_keep)
  (first|(go_at_call 30;with_reducible refine(HI.o _).mono ?_;rintro e w' ⟨rfl,⟨nd,rfl⟩⟩))
 go_wp2;go_ret;exact⟨rfl,by repeat(first|exact HB.o|apply bb|apply bR)⟩
def iO:ByteArray:=⟨#[110,111]⟩
def Gv:ByteArray:=⟨#[119,104,97,116]⟩
def mI(w:List UInt8):Option Int:=
 if w=[107,105,110,100] then some 1 else if w=[108,105,110,101] then some 1 else if w=[112,111,105,110,116] then some 1
 else if w=[97,100,100] then some 2 else if w=[116,105,109,101,115] then some 2 else if w=[106,111,105,110] then some 2 else if w=[109,101,101,116] then some 2 else none
theorem adE(k:Nat){B b:Nat}{A:Option Addr}{c:Nat}{t:List Int}{vp:Value}{p:List Int}(s rest:ByteArray)(m:Int)(W:World)(hd:dW W B b A c t vp p)(hs:s.size<4294967281)(hm:W.cell? ⟨0,0,none⟩=some (.int .i64 m))
  (hcut:Lib.cut s.data.toList [32]=([107,105,110,100],rest.data.toList,true)) (l:List Int) (hn:cM.f k rest 1=some (l,false)):
  Calls Tryz.prog 29 #[.pointer (some ⟨b,0,none⟩),.string s] W fun e w'=>e=.returned (.string iO)∧Below W.heap.size W w':=by
 have HC:=af.mk (j4 s ⟨#[107,105,110,100]⟩ rest true m W hs hm hcut);have HM:=af.mk hm;have HR:=af.mk (fun w hm=>cM.calls k rest 1 _ _ m w hm hn);have HD:=af.mk hd;clear hs hm hcut hn hd;go_enter Tryz.func29,Tryz.ntmps29;go_wp2_with (go_at_call 46;refine HC.o.mono ?_;rintro e w1 ⟨rfl,⟨nd,rfl⟩⟩)
 refine(HR.o _ (by simpa using HM.o)).mono ?_;rintro e w2 ⟨v,rfl,ho,hb⟩;obtain⟨Ao,co,rfl⟩:=Kd.bJ ho;have hb2:=aU (aG.below (w:=W) ⟨⟨nd,rfl⟩⟩) hb;have hd2:=HD.o.below hb2;have HB:=af.mk hb2;clear ho hb HC HR HM hb2;clear hd2 HD;go_wp2;go_ret;exact⟨rfl,by repeat(first|exact HB.o|apply bb|apply bR)⟩
theorem adF(k:Nat){B b:Nat}{A:Option Addr}{c:Nat}{t:List Int}{vp:Value}{p:List Int}(s rest:ByteArray)(m:Int)(W:World)(hd:dW W B b A c t vp p)(hs:s.size<4294967281)(hm:W.cell? ⟨0,0,none⟩=some (.int .i64 m))
  (hcut:Lib.cut s.data.toList [32]=([108,105,110,101],rest.data.toList,true)) (l:List Int) (hn:cM.f k rest 1=some (l,false)):
  Calls Tryz.prog 29 #[.pointer (some ⟨b,0,none⟩),.string s] W fun e w'=>e=.returned (.string iO)∧Below W.heap.size W w':=by
 have HC:=af.mk (j4 s ⟨#[108,105,110,101]⟩ rest true m W hs hm hcut);have HM:=af.mk hm;have HR:=af.mk (fun w hm=>cM.calls k rest 1 _ _ m w hm hn);have HD:=af.mk hd;clear hs hm hcut hn hd;go_enter Tryz.func29,Tryz.ntmps29;go_wp2_with (go_at_call 46;refine HC.o.mono ?_;rintro e w1 ⟨rfl,⟨nd,rfl⟩⟩)
 refine(HR.o _ (by simpa using HM.o)).mono ?_;rintro e w2 ⟨v,rfl,ho,hb⟩;obtain⟨Ao,co,rfl⟩:=Kd.bJ ho;have hb2:=aU (aG.below (w:=W) ⟨⟨nd,rfl⟩⟩) hb;have hd2:=HD.o.below hb2;have HB:=af.mk hb2;clear ho hb HC HR HM hb2;clear hd2 HD;go_wp2;go_ret;exact⟨rfl,by repeat(first|exact HB.o|apply bb|apply bR)⟩
theorem adG(k:Nat){B b:Nat}{A:Option Addr}{c:Nat}{t:List Int}{vp:Value}{p:List Int}(s rest:ByteArray)(m:Int)(W:World)(hd:dW W B b A c t vp p)(hs:s.size<4294967281)(hm:W.cell? ⟨0,0,none⟩=some (.int .i64 m))
  (hcut:Lib.cut s.data.toList [32]=([112,111,105,110,116],rest.data.toList,true)) (l:List Int) (hn:cM.f k rest 1=some (l,false)):
  Calls Tryz.prog 29 #[.pointer (some ⟨b,0,none⟩),.string s] W fun e w'=>e=.returned (.string iO)∧Below W.heap.size W w':=by
 have HC:=af.mk (j4 s ⟨#[112,111,105,110,116]⟩ rest true m W hs hm hcut);have HM:=af.mk hm;have HR:=af.mk (fun w hm=>cM.calls k rest 1 _ _ m w hm hn);have HD:=af.mk hd;clear hs hm hcut hn hd;go_enter Tryz.func29,Tryz.ntmps29;go_wp2_with (go_at_call 46;refine HC.o.mono ?_;rintro e w1 ⟨rfl,⟨nd,rfl⟩⟩)
 refine(HR.o _ (by simpa using HM.o)).mono ?_;rintro e w2 ⟨v,rfl,ho,hb⟩;obtain⟨Ao,co,rfl⟩:=Kd.bJ ho;have hb2:=aU (aG.below (w:=W) ⟨⟨nd,rfl⟩⟩) hb;have hd2:=HD.o.below hb2;have HB:=af.mk hb2;clear ho hb HC HR HM hb2;clear hd2 HD;go_wp2;go_ret;exact⟨rfl,by repeat(first|exact HB.o|apply bb|apply bR)⟩
theorem adH(k:Nat){B b:Nat}{A:Option Addr}{c:Nat}{t:List Int}{vp:Value}{p:List Int}(s rest:ByteArray)(m:Int)(W:World)(hd:dW W B b A c t vp p)(hs:s.size<4294967281)(hm:W.cell? ⟨0,0,none⟩=some (.int .i64 m))
  (hcut:Lib.cut s.data.toList [32]=([97,100,100],rest.data.toList,true)) (l:List Int) (hn:cM.f k rest 2=some (l,false)):
  Calls Tryz.prog 29 #[.pointer (some ⟨b,0,none⟩),.string s] W fun e w'=>e=.returned (.string iO)∧Below W.heap.size W w':=by
 have HC:=af.mk (j4 s ⟨#[97,100,100]⟩ rest true m W hs hm hcut);have HM:=af.mk hm;have HR:=af.mk (fun w hm=>cM.calls k rest 2 _ _ m w hm hn);have HD:=af.mk hd;clear hs hm hcut hn hd;go_enter Tryz.func29,Tryz.ntmps29;go_wp2_with (go_at_call 46;refine HC.o.mono ?_;rintro e w1 ⟨rfl,⟨nd,rfl⟩⟩)
 refine(HR.o _ (by simpa using HM.o)).mono ?_;rintro e w2 ⟨v,rfl,ho,hb⟩;obtain⟨Ao,co,rfl⟩:=Kd.bJ ho;have hb2:=aU (aG.below (w:=W) ⟨⟨nd,rfl⟩⟩) hb;have hd2:=HD.o.below hb2;have HB:=af.mk hb2;clear ho hb HC HR HM hb2;clear hd2 HD;go_wp2;go_ret;exact⟨rfl,by repeat(first|exact HB.o|apply bb|apply bR)⟩
theorem adI(k:Nat){B b:Nat}{A:Option Addr}{c:Nat}{t:List Int}{vp:Value}{p:List Int}(s rest:ByteArray)(m:Int)(W:World)(hd:dW W B b A c t vp p)(hs:s.size<4294967281)(hm:W.cell? ⟨0,0,none⟩=some (.int .i64 m))
  (hcut:Lib.cut s.data.toList [32]=([116,105,109,101,115],rest.data.toList,true)) (l:List Int) (hn:cM.f k rest 2=some (l,false)):
  Calls Tryz.prog 29 #[.pointer (some ⟨b,0,none⟩),.string s] W fun e w'=>e=.returned (.string iO)∧Below W.heap.size W w':=by
 have HC:=af.mk (j4 s ⟨#[116,105,109,101,115]⟩ rest true m W hs hm hcut);have HM:=af.mk hm;have HR:=af.mk (fun w hm=>cM.calls k rest 2 _ _ m w hm hn);have HD:=af.mk hd;clear hs hm hcut hn hd;go_enter Tryz.func29,Tryz.ntmps29;go_wp2_with (go_at_call 46;refine HC.o.mono ?_;rintro e w1 ⟨rfl,⟨nd,rfl⟩⟩)
 refine(HR.o _ (by simpa using HM.o)).mono ?_;rintro e w2 ⟨v,rfl,ho,hb⟩;obtain⟨Ao,co,rfl⟩:=Kd.bJ ho;have hb2:=aU (aG.below (w:=W) ⟨⟨nd,rfl⟩⟩) hb;have hd2:=HD.o.below hb2;have HB:=af.mk hb2;clear ho hb HC HR HM hb2;clear hd2 HD;go_wp2;go_ret;exact⟨rfl,by repeat(first|exact HB.o|apply bb|apply bR)⟩
theorem adJ(k:Nat){B b:Nat}{A:Option Addr}{c:Nat}{t:List Int}{vp:Value}{p:List Int}(s rest:ByteArray)(m:Int)(W:World)(hd:dW W B b A c t vp p)(hs:s.size<4294967281)(hm:W.cell? ⟨0,0,none⟩=some (.int .i64 m))
  (hcut:Lib.cut s.data.toList [32]=([106,111,105,110],rest.data.toList,true)) (l:List Int) (hn:cM.f k rest 2=some (l,false)):
  Calls Tryz.prog 29 #[.pointer (some ⟨b,0,none⟩),.string s] W fun e w'=>e=.returned (.string iO)∧Below W.heap.size W w':=by
 have HC:=af.mk (j4 s ⟨#[106,111,105,110]⟩ rest true m W hs hm hcut);have HM:=af.mk hm;have HR:=af.mk (fun w hm=>cM.calls k rest 2 _ _ m w hm hn);have HD:=af.mk hd;clear hs hm hcut hn hd;go_enter Tryz.func29,Tryz.ntmps29;go_wp2_with (go_at_call 46;refine HC.o.mono ?_;rintro e w1 ⟨rfl,⟨nd,rfl⟩⟩)
 refine(HR.o _ (by simpa using HM.o)).mono ?_;rintro e w2 ⟨v,rfl,ho,hb⟩;obtain⟨Ao,co,rfl⟩:=Kd.bJ ho;have hb2:=aU (aG.below (w:=W) ⟨⟨nd,rfl⟩⟩) hb;have hd2:=HD.o.below hb2;have HB:=af.mk hb2;clear ho hb HC HR HM hb2;clear hd2 HD;go_wp2;go_ret;exact⟨rfl,by repeat(first|exact HB.o|apply bb|apply bR)⟩
theorem adK(k:Nat){B b:Nat}{A:Option Addr}{c:Nat}{t:List Int}{vp:Value}{p:List Int}(s rest:ByteArray)(m:Int)(W:World)(hd:dW W B b A c t vp p)(hs:s.size<4294967281)(hm:W.cell? ⟨0,0,none⟩=some (.int .i64 m))
  (hcut:Lib.cut s.data.toList [32]=([109,101,101,116],rest.data.toList,true)) (l:List Int) (hn:cM.f k rest 2=some (l,false)):
  Calls Tryz.prog 29 #[.pointer (some ⟨b,0,none⟩),.string s] W fun e w'=>e=.returned (.string iO)∧Below W.heap.size W w':=by
 have HC:=af.mk (j4 s ⟨#[109,101,101,116]⟩ rest true m W hs hm hcut);have HM:=af.mk hm;have HR:=af.mk (fun w hm=>cM.calls k rest 2 _ _ m w hm hn);have HD:=af.mk hd;clear hs hm hcut hn hd;go_enter Tryz.func29,Tryz.ntmps29;go_wp2_with (go_at_call 46;refine HC.o.mono ?_;rintro e w1 ⟨rfl,⟨nd,rfl⟩⟩)
 refine(HR.o _ (by simpa using HM.o)).mono ?_;rintro e w2 ⟨v,rfl,ho,hb⟩;obtain⟨Ao,co,rfl⟩:=Kd.bJ ho;have hb2:=aU (aG.below (w:=W) ⟨⟨nd,rfl⟩⟩) hb;have hd2:=HD.o.below hb2;have HB:=af.mk hb2;clear ho hb HC HR HM hb2;clear hd2 HD;go_wp2;go_ret;exact⟨rfl,by repeat(first|exact HB.o|apply bb|apply bR)⟩
theorem adL(b:Nat)(s word rest:ByteArray)(m:Int)(W:World)(hs:s.size<4294967281)(hm:W.cell? ⟨0,0,none⟩=some (.int .i64 m))
  (hcut:Lib.cut s.data.toList [32]=(word.data.toList,rest.data.toList,true)) (hw:mI word.data.toList=none):
  Calls Tryz.prog 29 #[.pointer (some ⟨b,0,none⟩),.string s] W fun e w'=>e=.returned (.string Gv)∧Below W.heap.size W w':=by
 have HC:=af.mk (j4 s word rest true m W hs hm hcut)
 have q:∀l:List UInt8,mI l≠none→(word.toList==l)=false:=by
  intro l hl;refine beq_eq_false_iff_ne.2 (fun e=>hl ?_);rw[←e];have:word.toList=word.data.toList:=Lib.toList_data word;rw[this];exact hw
 have q0:=q [107,105,110,100] ao;have q1:=q [108,105,110,101] ao;have q2:=q [112,111,105,110,116] ao;have q3:=q [97,100,100] ao;have q4:=q [116,105,109,101,115] ao;have q5:=q [106,111,105,110] ao;have q6:=q [109,101,101,116] ao;clear hs hm hcut hw q;go_enter Tryz.func29,Tryz.ntmps29;go_wp2_with (go_at_call 46;refine HC.o.mono ?_;rintro e w1 ⟨rfl,⟨nd,rfl⟩⟩)
 go_ret;exact⟨rfl,aG.below ⟨⟨_,rfl⟩⟩⟩
theorem adM(k:Nat){B b:Nat}{A:Option Addr}{c:Nat}{t:List Int}{vp:Value}{p:List Int}(s rest:ByteArray)(m:Int)(W:World)(hd:dW W B b A c t vp p)(hs:s.size<4294967281)(hm:W.cell? ⟨0,0,none⟩=some (.int .i64 m))
  (hcut:Lib.cut s.data.toList [32]=([107,105,110,100],rest.data.toList,true)) (x:Int) (hn:cM.f k rest 1=some ([x],true)) (k':Nat) (l:List Int) (ht:ri.f k' x=some (l,false)):
  Calls Tryz.prog 29 #[.pointer (some ⟨b,0,none⟩),.string s] W fun e w'=>e=.returned (.string iO)∧Below W.heap.size W w':=by
 have HC:=af.mk (j4 s ⟨#[107,105,110,100]⟩ rest true m W hs hm hcut);have HM:=af.mk hm;have HR:=af.mk (fun w hm=>cM.calls k rest 1 _ _ m w hm hn);have HD:=af.mk hd;have HT:=af.mk (fun w=>ri.calls k' x l false w ht);clear ht;clear hs hm hcut hn hd;go_enter Tryz.func29,Tryz.ntmps29;go_wp2_with (go_at_call 46;refine HC.o.mono ?_;rintro e w1 ⟨rfl,⟨nd,rfl⟩⟩)
 refine(HR.o _ (by simpa using HM.o)).mono ?_;rintro e w2 ⟨v,rfl,ho,hb⟩;obtain⟨Ao,co,rfl⟩:=Kd.bJ ho;obtain⟨ad,e1,g1⟩:=Kd.ck (Kd.bm ho).2.2 0 ae (by show(0:Int)<1;omega);subst e1;rw[show[x].length=1 from rfl];have g1:w2.cell? ad=some (.int .i64 x):=g1;have hb2:=aU (aG.below (w:=W) ⟨⟨nd,rfl⟩⟩) hb;have hd2:=HD.o.below hb2;have HB:=af.mk hb2;clear ho hb HC HR HM hb2;clear hd2 HD;go_wp2_with fail
 refine(HT.o w2).mono ?_;rintro e w3 ⟨vt,rfl,hot,hb⟩;obtain⟨At,ct,rfl⟩:=Kd.bJ hot;have du:=af.mk (aU HB.o hb);clear hot hb HB HT g1;go_wp2;go_ret;exact⟨rfl,du.o⟩
theorem adN(k:Nat){B b:Nat}{A:Option Addr}{c:Nat}{t:List Int}{vp:Value}{p:List Int}(s rest:ByteArray)(m:Int)(W:World)(hd:dW W B b A c t vp p)(hs:s.size<4294967281)(hm:W.cell? ⟨0,0,none⟩=some (.int .i64 m))
  (hcut:Lib.cut s.data.toList [32]=([97,100,100],rest.data.toList,true)) (x y:Int) (hn:cM.f k rest 2=some ([x,y],true)) (hx:(cT x&&cT y)=false):
  Calls Tryz.prog 29 #[.pointer (some ⟨b,0,none⟩),.string s] W fun e w'=>e=.returned (.string iO)∧Below W.heap.size W w':=by
 have HC:=af.mk (j4 s ⟨#[97,100,100]⟩ rest true m W hs hm hcut);have HM:=af.mk hm;have HR:=af.mk (fun w hm=>cM.calls k rest 2 _ _ m w hm hn);have HD:=af.mk hd;have j7:=af.mk (su x);have n5:=af.mk (su y);obtain⟨q1,hq1⟩:∃q,cT x=q:=⟨_,rfl⟩;obtain⟨q2,nA⟩:∃q,cT y=q:=⟨_,rfl⟩;rw[hq1,nA] at hx;rw[hq1] at j7;rw[nA] at n5;clear hq1 nA;clear hs hm hcut hn hd;go_enter Tryz.func29,Tryz.ntmps29;go_wp2_with (go_at_call 46;refine HC.o.mono ?_;rintro e w1 ⟨rfl,⟨nd,rfl⟩⟩)
 refine(HR.o _ (by simpa using HM.o)).mono ?_;rintro e w2 ⟨v,rfl,ho,hb⟩;obtain⟨Ao,co,rfl⟩:=Kd.bJ ho;obtain⟨ad,e1,g1⟩:=Kd.ck (Kd.bm ho).2.2 0 ae (by show(0:Int)<2;omega);obtain⟨kp,e2,g2⟩:=Kd.ck (Kd.bm ho).2.2 1 ae (by show(1:Int)<2;omega);subst e1;cases e2;rw[show[x,y].length=2 from rfl];have g1:w2.cell? ad=some (.int .i64 x):=g1;have g2:w2.cell? ⟨ad.block,ad.off+1,none⟩=some (.int .i64 y):=g2;have hb2:=aU (aG.below (w:=W) ⟨⟨nd,rfl⟩⟩) hb;have hd2:=HD.o.below hb2;have HB:=af.mk hb2;clear ho hb HC HR HM hb2;clear hd2 HD;cases q1 with
 |false=>
  go_wp2_with (first|(go_at_call 35;with_reducible refine(j7.o _).mono ?_;rintro e w' ⟨rfl,⟨nd,rfl⟩⟩)|(go_at_call 35;with_reducible refine(n5.o _).mono ?_;rintro e w' ⟨rfl,⟨nd,rfl⟩⟩))
  go_ret;exact⟨rfl,by repeat(first|exact HB.o|apply bb|apply bR)⟩
 |true=>
  cases q2 with
  |true=>exact absurd hx ao
  |false=>
   go_wp2_with (first|(go_at_call 35;with_reducible refine(j7.o _).mono ?_;rintro e w' ⟨rfl,⟨nd,rfl⟩⟩)|(go_at_call 35;with_reducible refine(n5.o _).mono ?_;rintro e w' ⟨rfl,⟨nd,rfl⟩⟩))
   go_ret;exact⟨rfl,by repeat(first|exact HB.o|apply bb|apply bR)⟩
theorem adO(k:Nat){B b:Nat}{A:Option Addr}{c:Nat}{t:List Int}{vp:Value}{p:List Int}(s rest:ByteArray)(m:Int)(W:World)(hd:dW W B b A c t vp p)(hs:s.size<4294967281)(hm:W.cell? ⟨0,0,none⟩=some (.int .i64 m))
  (hcut:Lib.cut s.data.toList [32]=([116,105,109,101,115],rest.data.toList,true)) (x y:Int) (hn:cM.f k rest 2=some ([x,y],true)) (hx:(cT x&&cT y)=false):
  Calls Tryz.prog 29 #[.pointer (some ⟨b,0,none⟩),.string s] W fun e w'=>e=.returned (.string iO)∧Below W.heap.size W w':=by
 have HC:=af.mk (j4 s ⟨#[116,105,109,101,115]⟩ rest true m W hs hm hcut);have HM:=af.mk hm;have HR:=af.mk (fun w hm=>cM.calls k rest 2 _ _ m w hm hn);have HD:=af.mk hd;have j7:=af.mk (su x);have n5:=af.mk (su y);obtain⟨q1,hq1⟩:∃q,cT x=q:=⟨_,rfl⟩;obtain⟨q2,nA⟩:∃q,cT y=q:=⟨_,rfl⟩;rw[hq1,nA] at hx;rw[hq1] at j7;rw[nA] at n5;clear hq1 nA;clear hs hm hcut hn hd;go_enter Tryz.func29,Tryz.ntmps29;go_wp2_with (go_at_call 46;refine HC.o.mono ?_;rintro e w1 ⟨rfl,⟨nd,rfl⟩⟩)
 refine(HR.o _ (by simpa using HM.o)).mono ?_;rintro e w2 ⟨v,rfl,ho,hb⟩;obtain⟨Ao,co,rfl⟩:=Kd.bJ ho;obtain⟨ad,e1,g1⟩:=Kd.ck (Kd.bm ho).2.2 0 ae (by show(0:Int)<2;omega);obtain⟨kp,e2,g2⟩:=Kd.ck (Kd.bm ho).2.2 1 ae (by show(1:Int)<2;omega);subst e1;cases e2;rw[show[x,y].length=2 from rfl];have g1:w2.cell? ad=some (.int .i64 x):=g1;have g2:w2.cell? ⟨ad.block,ad.off+1,none⟩=some (.int .i64 y):=g2;have hb2:=aU (aG.below (w:=W) ⟨⟨nd,rfl⟩⟩) hb;have hd2:=HD.o.below hb2;have HB:=af.mk hb2;clear ho hb HC HR HM hb2;clear hd2 HD;cases q1 with
 |false=>
  go_wp2_with (first|(go_at_call 35;with_reducible refine(j7.o _).mono ?_;rintro e w' ⟨rfl,⟨nd,rfl⟩⟩)|(go_at_call 35;with_reducible refine(n5.o _).mono ?_;rintro e w' ⟨rfl,⟨nd,rfl⟩⟩))
  go_ret;exact⟨rfl,by repeat(first|exact HB.o|apply bb|apply bR)⟩
 |true=>
  cases q2 with
  |true=>exact absurd hx ao
  |false=>
   go_wp2_with (first|(go_at_call 35;with_reducible refine(j7.o _).mono ?_;rintro e w' ⟨rfl,⟨nd,rfl⟩⟩)|(go_at_call 35;with_reducible refine(n5.o _).mono ?_;rintro e w' ⟨rfl,⟨nd,rfl⟩⟩))
   go_ret;exact⟨rfl,by repeat(first|exact HB.o|apply bb|apply bR)⟩
theorem adP(k:Nat){B b:Nat}{A:Option Addr}{c:Nat}{t:List Int}{vp:Value}{p:List Int}(s rest:ByteArray)(m:Int)(W:World)(hd:dW W B b A c t vp p)(hs:s.size<4294967281)(hm:W.cell? ⟨0,0,none⟩=some (.int .i64 m))
  (hcut:Lib.cut s.data.toList [32]=([108,105,110,101],rest.data.toList,true)) (x:Int) (hn:cM.f k rest 1=some ([x],true)) (l:List Int) (ok:Bool) (hl:t7.f t x=some (l,ok)) (k':Nat) (r:ByteArray) (hr:gx.f k' l ok=some r):
  Calls Tryz.prog 29 #[.pointer (some ⟨b,0,none⟩),.string s] W fun e w'=>e=.returned (.string r)∧Below W.heap.size W w':=by
 have HC:=af.mk (j4 s ⟨#[108,105,110,101]⟩ rest true m W hs hm hcut);have HM:=af.mk hm;have HR:=af.mk (fun w hm=>cM.calls k rest 1 _ _ m w hm hn);have HD:=af.mk hd;have CB:=af.mk hr;clear hr;clear hs hm hcut hn hd;go_enter Tryz.func29,Tryz.ntmps29;go_wp2_with (go_at_call 46;refine HC.o.mono ?_;rintro e w1 ⟨rfl,⟨nd,rfl⟩⟩)
 refine(HR.o _ (by simpa using HM.o)).mono ?_;rintro e w2 ⟨v,rfl,ho,hb⟩;obtain⟨Ao,co,rfl⟩:=Kd.bJ ho;obtain⟨ad,e1,g1⟩:=Kd.ck (Kd.bm ho).2.2 0 ae (by show(0:Int)<1;omega);subst e1;rw[show[x].length=1 from rfl];have g1:w2.cell? ad=some (.int .i64 x):=g1;have hb2:=aU (aG.below (w:=W) ⟨⟨nd,rfl⟩⟩) hb;have hd2:=HD.o.below hb2;have HB:=af.mk hb2;clear ho hb HC HR HM hb2;have hc0:=hd2.c0;have cA:=af.mk (fun W' (hW:Below w2.heap.size w2 W')=>t7.calls A c t x l ok W' (hd2.below hW).read hd2.cap hl);have gI:=af.mk (Below.refl w2.heap.size w2);clear hd2 HD hl;go_wp2_with fail
 go_region_held3 (fun w'=>w'.cell? ad=some (.int .i64 x)∧w'.cell? ⟨b,0,none⟩=some (.slice A t.length c))
  (go_keep)
  (first
     |(go_at_call 51;refine(cA.o _ ?_).mono ?_;(repeat(first|exact gI.o|apply bb|apply bR));rintro e w3 ⟨v,rfl,ho,hb⟩;obtain⟨Ao,co,eo⟩:=Kd.bJ ho;subst eo;have HO:=af.mk ho;have di:=af.mk (aU (bb gI.o 1) hb);have d1:=dH di.o g1;have d2:=dH di.o hc0;clear hb ho)
     |(go_at_call 50;have hk:=gx.calls k' Ao co l ok r w3 (Kd.bm HO.o).2.2 (Kd.bm HO.o).2.1 CB.o;refine hk.mono ?_;clear hk;rintro e w4 ⟨rfl,hb⟩;have eV:=af.mk (aU di.o hb);have d3:=dH eV.o g1;have d4:=dH eV.o hc0;clear hb))
 go_wp2;go_ret;exact⟨rfl,by repeat(first|exact aU HB.o eV.o|apply bb|apply bR)⟩
theorem adQ(k:Nat){B b:Nat}{A:Option Addr}{c:Nat}{t:List Int}{vp:Value}{p:List Int}(s rest:ByteArray)(m:Int)(W:World)(hd:dW W B b A c t vp p)(hs:s.size<4294967281)(hm:W.cell? ⟨0,0,none⟩=some (.int .i64 m))
  (hcut:Lib.cut s.data.toList [32]=([106,111,105,110],rest.data.toList,true)) (x y:Int) (hn:cM.f k rest 2=some ([x,y],true)) (k1:Nat) (n:Int) (ok:Bool) (hl:t8.f k1 t x y=some (n,ok)) (k':Nat) (r:ByteArray) (hr:jF.f k' n ok=some r):
  Calls Tryz.prog 29 #[.pointer (some ⟨b,0,none⟩),.string s] W fun e w'=>e=.returned (.string r)∧Below W.heap.size W w':=by
 have HC:=af.mk (j4 s ⟨#[106,111,105,110]⟩ rest true m W hs hm hcut);have HM:=af.mk hm;have HR:=af.mk (fun w hm=>cM.calls k rest 2 _ _ m w hm hn);have HD:=af.mk hd;have CB:=af.mk hr;clear hr;clear hs hm hcut hn hd;go_enter Tryz.func29,Tryz.ntmps29;go_wp2_with (go_at_call 46;refine HC.o.mono ?_;rintro e w1 ⟨rfl,⟨nd,rfl⟩⟩)
 refine(HR.o _ (by simpa using HM.o)).mono ?_;rintro e w2 ⟨v,rfl,ho,hb⟩;obtain⟨Ao,co,rfl⟩:=Kd.bJ ho;obtain⟨ad,e1,g1⟩:=Kd.ck (Kd.bm ho).2.2 0 ae (by show(0:Int)<2;omega);obtain⟨kp,e2,g2⟩:=Kd.ck (Kd.bm ho).2.2 1 ae (by show(1:Int)<2;omega);subst e1;cases e2;rw[show[x,y].length=2 from rfl];have g1:w2.cell? ad=some (.int .i64 x):=g1;have g2:w2.cell? ⟨ad.block,ad.off+1,none⟩=some (.int .i64 y):=g2;have hb2:=aU (aG.below (w:=W) ⟨⟨nd,rfl⟩⟩) hb;have hd2:=HD.o.below hb2;have HB:=af.mk hb2;clear ho hb HC HR HM hb2;have hc0:=hd2.c0;have cA:=af.mk (fun W' (hW:Below w2.heap.size w2 W')=>t8.calls k1 A c t x y n ok W' (hd2.below hW).read hd2.cap hl);have gI:=af.mk (Below.refl w2.heap.size w2);clear hd2 HD hl;go_wp2_with fail
 go_region_held3 (fun w'=>w'.cell? ad=some (.int .i64 x)∧w'.cell? ⟨ad.block,ad.off+1,none⟩=some (.int .i64 y)∧w'.cell? ⟨b,0,none⟩=some (.slice A t.length c))
  (go_keep)
  (first
     |(go_at_call 53;refine(cA.o _ ?_).mono ?_;(repeat(first|exact gI.o|apply bb|apply bR));rintro e w3 ⟨rfl,hb⟩;have di:=af.mk (aU (bb gI.o 1) hb);have d1:=dH di.o g1;have d2:=dH di.o g2;have d3:=dH di.o hc0;clear hb)
     |(go_at_call 52;have hk:=jF.calls k' n ok r w3 CB.o;refine hk.mono ?_;clear hk;rintro e w4 ⟨rfl,hb⟩;have eV:=af.mk (aU di.o hb);have d4:=dH eV.o g1;have d5:=dH eV.o g2;have d6:=dH eV.o hc0;clear hb))
 go_wp2;go_ret;exact⟨rfl,by repeat(first|exact aU HB.o eV.o|apply bb|apply bR)⟩
theorem adR(k:Nat){B b:Nat}{A:Option Addr}{c:Nat}{t:List Int}{vp:Value}{p:List Int}(s rest:ByteArray)(m:Int)(W:World)(hd:dW W B b A c t vp p)(hs:s.size<4294967281)(hm:W.cell? ⟨0,0,none⟩=some (.int .i64 m))
  (hcut:Lib.cut s.data.toList [32]=([109,101,101,116],rest.data.toList,true)) (x y:Int) (hn:cM.f k rest 2=some ([x,y],true)) (k1:Nat) (n:Int) (ok:Bool) (hl:ua.f k1 t x y=some (n,ok)) (k':Nat) (r:ByteArray) (hr:jF.f k' n ok=some r):
  Calls Tryz.prog 29 #[.pointer (some ⟨b,0,none⟩),.string s] W fun e w'=>e=.returned (.string r)∧Below W.heap.size W w':=by
 have HC:=af.mk (j4 s ⟨#[109,101,101,116]⟩ rest true m W hs hm hcut);have HM:=af.mk hm;have HR:=af.mk (fun w hm=>cM.calls k rest 2 _ _ m w hm hn);have HD:=af.mk hd;have CB:=af.mk hr;clear hr;clear hs hm hcut hn hd;go_enter Tryz.func29,Tryz.ntmps29;go_wp2_with (go_at_call 46;refine HC.o.mono ?_;rintro e w1 ⟨rfl,⟨nd,rfl⟩⟩)
 refine(HR.o _ (by simpa using HM.o)).mono ?_;rintro e w2 ⟨v,rfl,ho,hb⟩;obtain⟨Ao,co,rfl⟩:=Kd.bJ ho;obtain⟨ad,e1,g1⟩:=Kd.ck (Kd.bm ho).2.2 0 ae (by show(0:Int)<2;omega);obtain⟨kp,e2,g2⟩:=Kd.ck (Kd.bm ho).2.2 1 ae (by show(1:Int)<2;omega);subst e1;cases e2;rw[show[x,y].length=2 from rfl];have g1:w2.cell? ad=some (.int .i64 x):=g1;have g2:w2.cell? ⟨ad.block,ad.off+1,none⟩=some (.int .i64 y):=g2;have hb2:=aU (aG.below (w:=W) ⟨⟨nd,rfl⟩⟩) hb;have hd2:=HD.o.below hb2;have HB:=af.mk hb2;clear ho hb HC HR HM hb2;have hc0:=hd2.c0;have cA:=af.mk (fun W' (hW:Below w2.heap.size w2 W')=>ua.calls k1 A c t x y n ok W' (hd2.below hW).read hd2.cap hl);have gI:=af.mk (Below.refl w2.heap.size w2);clear hd2 HD hl;go_wp2_with fail
 go_region_held3 (fun w'=>w'.cell? ad=some (.int .i64 x)∧w'.cell? ⟨ad.block,ad.off+1,none⟩=some (.int .i64 y)∧w'.cell? ⟨b,0,none⟩=some (.slice A t.length c))
  (go_keep)
  (first
     |(go_at_call 54;refine(cA.o _ ?_).mono ?_;(repeat(first|exact gI.o|apply bb|apply bR));rintro e w3 ⟨rfl,hb⟩;have di:=af.mk (aU (bb gI.o 1) hb);have d1:=dH di.o g1;have d2:=dH di.o g2;have d3:=dH di.o hc0;clear hb)
     |(go_at_call 52;have hk:=jF.calls k' n ok r w3 CB.o;refine hk.mono ?_;clear hk;rintro e w4 ⟨rfl,hb⟩;have eV:=af.mk (aU di.o hb);have d4:=dH eV.o g1;have d5:=dH eV.o g2;have d6:=dH eV.o hc0;clear hb))
 go_wp2;go_ret;exact⟨rfl,by repeat(first|exact aU HB.o eV.o|apply bb|apply bR)⟩
theorem adS(k:Nat){B b:Nat}{A:Option Addr}{c:Nat}{t:List Int}{vp:Value}{p:List Int}(s rest:ByteArray)(m:Int)(W:World)(hd:dW W B b A c t vp p)(hs:s.size<4294967281)(hm:W.cell? ⟨0,0,none⟩=some (.int .i64 m))
  (hcut:Lib.cut s.data.toList [32]=([112,111,105,110,116],rest.data.toList,true)) (x:Int) (hn:cM.f k rest 1=some ([x],true)) (hx:(!dE x||decide (p.length=10))=true):
  Calls Tryz.prog 29 #[.pointer (some ⟨b,0,none⟩),.string s] W fun e w'=>e=.returned (.string iO)∧Below W.heap.size W w':=by
 have HC:=af.mk (j4 s ⟨#[112,111,105,110,116]⟩ rest true m W hs hm hcut);have HM:=af.mk hm;have HR:=af.mk (fun w hm=>cM.calls k rest 1 _ _ m w hm hn);have HD:=af.mk hd;have j7:=af.mk (Gt x);obtain⟨q1,hq1⟩:∃q,dE x=q:=⟨_,rfl⟩;rw[hq1] at hx j7;clear hq1;clear hs hm hcut hn hd;go_enter Tryz.func29,Tryz.ntmps29;go_wp2_with (go_at_call 46;refine HC.o.mono ?_;rintro e w1 ⟨rfl,⟨nd,rfl⟩⟩)
 refine(HR.o _ (by simpa using HM.o)).mono ?_;rintro e w2 ⟨v,rfl,ho,hb⟩;obtain⟨Ao,co,rfl⟩:=Kd.bJ ho;obtain⟨ad,e1,g1⟩:=Kd.ck (Kd.bm ho).2.2 0 ae (by show(0:Int)<1;omega);subst e1;rw[show[x].length=1 from rfl];have g1:w2.cell? ad=some (.int .i64 x):=g1;have hb2:=aU (aG.below (w:=W) ⟨⟨nd,rfl⟩⟩) hb;have hd2:=HD.o.below hb2;have HB:=af.mk hb2;clear ho hb HC HR HM hb2;obtain⟨Ap,cp,ep⟩:=Kd.bJ hd2.hp;subst ep;have hc1:=hd2.c1
 have e10:((p.length:Int)==10)=decide (p.length=10):=by
  by_cases h:p.length=10
  ·rw[h];rfl
  ·rw[aD h];exact beq_eq_false_iff_ne.2 ae
 obtain⟨q2,nA⟩:∃q,decide (p.length=10)=q:=⟨_,rfl⟩;rw[nA] at e10 hx;clear hd2 HD nA;cases q1 with
 |false=>
  go_wp2_with (go_at_call 49;refine(j7.o _).mono ?_;rintro e w' ⟨rfl,⟨nd,rfl⟩⟩)
  go_ret;exact⟨rfl,by repeat(first|exact HB.o|apply bb|apply bR)⟩
 |true=>
  cases q2 with
  |false=>exact absurd hx ao
  |true=>
   go_wp2_with (go_at_call 49;refine(j7.o _).mono ?_;rintro e w' ⟨rfl,⟨nd,rfl⟩⟩)
   go_ret;exact⟨rfl,by repeat(first|exact HB.o|apply bb|apply bR)⟩
theorem adT(k:Nat){B b:Nat}{A:Option Addr}{c:Nat}{t:List Int}{vp:Value}{p:List Int}(s rest:ByteArray)(m:Int)(W:World)(hd:dW W B b A c t vp p)(hs:s.size<4294967281)(hm:W.cell? ⟨0,0,none⟩=some (.int .i64 m))
  (hcut:Lib.cut s.data.toList [32]=([112,111,105,110,116],rest.data.toList,true)) (x:Int) (hn:cM.f k rest 1=some ([x],true)) (hx:dE x=true) (adU:p.length≠10) (hpl:p.length≤1048576):
  Calls Tryz.prog 29 #[.pointer (some ⟨b,0,none⟩),.string s] W fun e w'=>e=.returned (.string ⟨#[111,107]⟩)∧iU W B b vp t (p++[x]) w':=by
 have HC:=af.mk (j4 s ⟨#[112,111,105,110,116]⟩ rest true m W hs hm hcut);have HM:=af.mk hm;have HR:=af.mk (fun w hm=>cM.calls k rest 1 _ _ m w hm hn);have HD:=af.mk hd;have j7:=af.mk (Gt x);rw[hx] at j7;obtain⟨Ap,cp,ep⟩:=Kd.bJ hd.hp;subst ep;have e10:((p.length:Int)==10)=false:=beq_eq_false_iff_ne.2 ae;have zK:=af.mk hpl;clear hs hm hcut hn hd hx adU hpl;go_enter Tryz.func29,Tryz.ntmps29;go_wp2_with (go_at_call 46;refine HC.o.mono ?_;rintro e w1 ⟨rfl,⟨nd,rfl⟩⟩)
 refine(HR.o _ (by simpa using HM.o)).mono ?_;rintro e w2 ⟨v,rfl,ho,hb⟩;obtain⟨Ao,co,rfl⟩:=Kd.bJ ho;obtain⟨ad,e1,g1⟩:=Kd.ck (Kd.bm ho).2.2 0 ae (by show(0:Int)<1;omega);subst e1;rw[show[x].length=1 from rfl];have g1:w2.cell? ad=some (.int .i64 x):=g1;have hb2:=aU (aG.below (w:=W) ⟨⟨nd,rfl⟩⟩) hb;have hd2:=HD.o.below hb2;have Tf:=af.mk hd2;have HB:=af.mk hb2;have hc1:=hd2.c1;clear ho hb HC HR HM hb2 hd2;go_wp2_with (go_at_call 49;refine(j7.o _).mono ?_;rintro e w' ⟨rfl,⟨nd,rfl⟩⟩)
 have ly:Below w2.heap.size w2 (w2.drewN nd).drew:=oL (aG.below (w:=w2) ⟨⟨nd,rfl⟩⟩);have nB:=af.mk (Tf.o.below ly);have fH:=af.mk (aU HB.o ly);have hv:=nB.o.c1;have hx:((w2.drewN nd).drew).cell? ad=some (.int .i64 x):=(ly.cell (World.block_lt_of_cell? _ _ g1)).trans g1;clear ly Tf HB g1 hc1;refine jA (n:=13) (S:=fun w'=>w'.cell? ⟨b,1,none⟩=some (.slice Ap p.length cp)∧w'.cell? ad=some (.int .i64 x)) (ds:=[9,12]) #[F_,F_,F_,F_,F_,F_,F_,F_,F_,F_,F_,F_,F_] am rfl rfl ⟨hv,hx⟩ (fun hHeld=>?_);generalize(w2.drewN nd).drew=w0 at nB fH hv hx hHeld ⊢;refine eF 0 76 (m_ 13 1) ?_;refine eF 1 77 (m_ 13 3) ?_;refine eF 2 78 (m_ 13 7) ?_;refine eF 3 79 (m_ 13 15) ?_;refine eF 5 81 (m_ 13 47) ?_;refine eF 6 82 (m_ 13 111) ?_;refine qR 4 80 (m_ 13 127) hHeld ?_;refine qR 7 83 (m_ 13 255) hHeld ?_;refine fa (i:=8) (N:=some 84) (m_ 13 511) rfl rfl am ao (fun K hK=>?_);refine si (w1:=?_) (v:=?_) (by rfl) rfl ?_ ?_;rotate_left 2;(go_simp;constructor;(rfl);(rfl));refine hK.out _ _ ⟨(World.cell?_alloc_lt _ _ _ (World.block_lt_of_cell? _ _ hv)).trans hv,(World.cell?_alloc_lt _ _ _ (World.block_lt_of_cell? _ _ hx)).trans hx⟩ (fun hHeld=>?_);clear hK K;refine eE (a':=?_) ?_ ?_;rotate_left;(show Act.put _ (some 84) _=_;simp only[Act.put,List.setIfInBounds_toArray,List.set_cons_zero,List.set_cons_succ,dh,fb];rfl);refine oN (i:=9) (N:=some 85) (m_ 13 1023) rfl rfl am ao (fun K hK=>?_);refine Kd.aaM (Kd.int .i64) (w0:=w0) B (by rfl) (.tmp 80) (.tmp 84) 31 3 (.int .i64 0) 8 rfl Tryz.underlying31 info3 rfl ao ae (.slice Ap p.length cp) p x [.int .i64 x] (fun k=>k≠b) (fun _=>False) rfl rfl ?aP (fun _ hk=>hk.elim) ?aF ?aO ?aB ?aS ?aL ?_;(case aP=>exact rfl)
 (case aF=>exact(fun k hk=>by have h1:=World.block_lt_of_cell? _ _ hv;dsimp only at h1;omega))
 (case aO=>exact nB.o.hp)
 (case aB=>exact Below.refl _ _)
 (case aS=>exact(by have h1:=World.block_lt_of_cell? _ _ hv;have h2:=nB.o.hB;dsimp only at h1;omega))
 (case aL=>have:=zK.o;omega)
 intro v1 w4 ho hb hg hat;obtain⟨A5,c5,e5⟩:=Kd.bJ ho;rw[List.length_append,List.length_singleton] at e5;subst e5;have hne:some b≠(Value.slice Ap p.length cp).ownBlock:=fun e=>nB.o.hp.1 b e.symm rfl;have d_:=af.mk ((hg.cell_far ⟨b,1,none⟩ (World.block_lt_of_cell? _ _ hv) hne).trans hv);have Tg:=af.mk ((hg.frozen_far ⟨b,1,none⟩ (World.block_lt_of_cell? _ _ hv) hne).trans nB.o.f1);have HC4:=af.mk ((hg.cell_far ⟨b,0,none⟩ (World.block_lt_of_cell? _ _ nB.o.c0) hne).trans nB.o.c0);have HG4:=af.mk ((hg.frozen_far ⟨b,0,none⟩ (World.block_lt_of_cell? _ _ nB.o.c0) hne).trans nB.o.f0);have CF:=af.mk (Kd.aaO nB.o.ht hg hat);have sD:=af.mk ho;have cI:=af.mk hb;have HGR:=af.mk hg;have oU:=d_.o;have hf4:=Tg.o;clear ho hb hg hat hne hv hx;refine hK.out _ _ ?_;clear hK K;refine eE (a':=?_) ?_ ?_;rotate_left;(show Act.put _ (some 85) _=_;simp only[Act.put,List.setIfInBounds_toArray,List.set_cons_zero,List.set_cons_succ,dh,fb];rfl);refine eF 10 86 (m_ 13 2047) ?_;refine eF 11 87 (m_ 13 4095) ?_;refine oN (i:=12) (N:=none) (m_ 13 8191) rfl rfl am ao (fun K hK=>?_);refine pD (w1:=?_) (by rfl) rfl ?_ ?_;rotate_left;(go_simp;rfl);refine hK.out _ _ ?_;clear hK K;refine jB am ?_;go_wp2;go_ret;have hbB:B≤w0.heap.size:=by have h1:=World.block_lt_of_cell? _ _ nB.o.c0;have h2:=nB.o.hB;dsimp only at h1;omega
 have ne:(⟨b,1,none⟩:Addr)≠⟨b,0,none⟩:=by simp
 have hdk:dW (w4.setCell ⟨b,1,none⟩ (.slice A5 (p.length+1) c5)) B b A c t (.slice A5 (p.length+1) c5) (p++[x]):=by
  refine⟨nB.o.hB,?_,?_,?_,?_,?_,?_⟩
  ·rw[World.cell?_setCell_other (h:=ne)];exact HC4.o
  ·exact World.cell?_setCell_same _ _ _ d_.o
  ·rw[World.frozen?_setCell];exact HG4.o
  ·rw[World.frozen?_setCell];exact Tg.o
  ·exact Kd.tF CF.o (p:=⟨b,1,none⟩) (fun k hk=>hk.1) _
  ·exact Kd.tF sD.o (p:=⟨b,1,none⟩) (fun k hk=>hk) _
 refine⟨rfl,⟨⟨_,_,_,hdk⟩,?_,fun k hk zC hkv=>?_⟩⟩
 ·exact Below.setCell ((fH.o.mono (by have h1:=World.block_lt_of_cell? _ _ HD.o.c0;have h2:=HD.o.hB;dsimp only at h1;omega)).trans cI.o) (p:=⟨b,1,none⟩) HD.o.hB _
 ·rw[Below.heap_setCell _ _ _ _ zC,HGR.o.block k (Nat.lt_of_lt_of_le hk fH.o.size) hkv];exact fH.o.block k hk
end X
end Go.Proofs.YtiobedekgnfjcaaGreatDoor
