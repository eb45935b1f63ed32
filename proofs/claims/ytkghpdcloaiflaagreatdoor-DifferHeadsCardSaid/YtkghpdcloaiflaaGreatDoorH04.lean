import Derived.Test.YtkghpdcloaiflaaGreatDoorH03
import Derived.Shelf.Strings.Builder1
import Derived.Shelf.Strings.Builder2
import Derived.Shelf.Strings.OnBuilder
import Derived.Shelf.Strings.Trim
import Derived.Shelf.Strings.SlTrimAscii
import Derived.Shelf.Small.Utf8
import Derived.Shelf.Small.Bits
import Derived.Shelf.Small.Strs
import Derived.Shelf.Small.Wraps
import Derived.Shelf.Strings.BuilderF
import Derived.Shelf.Strings.BuilderK
import Derived.Shelf.Strings.Builder2Cap
import Derived.Shelf.Strconv.Atoi
import Derived.Shelf.Strconv.Itoa0
import Derived.Shelf.Strconv.Itoa1
import Derived.Shelf.LaysM
import Derived.Shelf.Strconv.Itoa2
import Derived.Shelf.Strconv.Itoa3
import Derived.Shelf.Strconv.AtoiErrFast
import Derived.Shelf.Strconv.ParseIntEmpty
import Derived.Shelf.Strconv.AtoiFail
import Derived.Shelf.Strconv.Clone
import Derived.Shelf.Strconv.SyntaxError
import Derived.Shelf.LaysC
import Derived.Shelf.Strconv.ToError
import Derived.Shelf.Strconv.Lower
import Derived.Shelf.Strconv.ParseUint10
import Derived.Shelf.Strconv.ParseUint10Empty
import Derived.Shelf.Strconv.ParseUint10Any
import Derived.Shelf.Strconv.ParseInt10
import Derived.Shelf.Strconv.AtoiLong
import Derived.Shelf.Strconv.AtoiInnerAll
import Derived.Shelf.Strconv.RangeError
import Derived.Shelf.Strconv.ToErrorRange
import Derived.Shelf.Strconv.AtoiAll
import Derived.Shelf.Strconv.ErrVarAll
import Derived.Shelf.Strings.Search1
import Derived.Shelf.Strings.Search2
import Derived.Shelf.Strings.Search3
import Derived.Shelf.Strings.Count
import Derived.Shelf.Strings.Shaped
import Derived.Shelf.Strings.Prefix
import Derived.Shelf.Strings.Split
import Derived.Shelf.Strings.SplitShaped
import Derived.Shelf.Strings.Runes
import Derived.Shelf.Strings.AsciiSet
import Derived.Shelf.Bits.Mul64
import Derived.Shelf.Strings.Repeat
import Derived.Shelf.Unicode.DecodeSlow
import Derived.Ground.Names2Prog
import Derived.Shelf.Slices.Clone
import Derived.Ground.SlgmProg
import Derived.Shelf.SortM.Plain
import Derived.Shelf.SortM.SortNone
import Derived.Test.YtkghpdcloaiflaaGreatDoorProg
import Derived.Test.YtkghpdcloaiflaaGreatDoorRows
import Derived.WalkSmall
import Derived.Stop.LaidErr
import Derived.Lib.LaidTab
import Derived.LaidSub
section
namespace Go.Proofs
open Go.Proofs.YtkghpdcloaiflaaGreatDoor (kr7 ck7 ak7 J sp7 dc7 Z)
open Go.Shelf
def Tryz.lays169_ren:Go.Shelf.Ren:=⟨λ|169=>112|n=>n,λ|70=>174|9=>9|0=>0|72=>176|37=>131|127=>266|3=>3|5=>5|n=>n,λ|n=>n⟩
theorem Tryz.lays169:Go.Proofs.Lays.n169 prog Tryz.lays169_ren:={
 mixed:=kr7
 f169:=func112.trans ck7
 t0:=underlying0
 a0:=Tryz.isAgg0
 z0:=Tryz.sizeOf0
 v0:=zeroValue0
 t3:=underlying3
 a3:=Tryz.isAgg3
 z3:=Tryz.sizeOf3
 v3:=zeroValue3
 t9:=underlying9
 a9:=Tryz.isAgg9
 z9:=Tryz.sizeOf9
 v9:=zeroValue9
 t37:=underlying131
 a37:=Tryz.isAgg131
 z37:=Tryz.sizeOf131
 v37:=zeroValue131
 t70:=underlying174
 a70:=Tryz.isAgg174
 z70:=Tryz.sizeOf174
 v70:=zeroValue174
 t72:=underlying176
 a72:=Tryz.isAgg176
 z72:=Tryz.sizeOf176
 v72:=zeroValue176
 t127:=underlying266
 a127:=Tryz.isAgg266
 z127:=Tryz.sizeOf266
 v127:=zeroValue266 }
theorem Tryz.Builder_Extra_169:Builder.Extra prog Tryz.lays169_ren:={
 sizeBuilder:=kr7
 liesBuilder:=kr7
 t5:=underlying5
 a5:=Tryz.isAgg5
 z5:=Tryz.sizeOf5
 v5:=zeroValue5
 infoByte:=kr7
 cellsByte:=kr7
 sizeByte:=kr7
 neB5:=by decide }
open Go.RowKit in
theorem Tryz.Builder_String_any (B b:Nat)(l:List UInt8)(w:World)(h:Lib.IsBuilder 176 5 B b (Lib.byteCells l) w)(hBw:B<=w.heap.size):
  Calls prog 112 #[.pointer (some ⟨b,0,none⟩)] w λe w'=>e=.returned (.string ⟨l.toArray⟩)/\Below B w w':=Any.Builder_String_any Tryz.lays169 Tryz.Builder_Extra_169 B b l w h hBw
def Tryz.lays156_ren:Go.Shelf.Ren:=⟨λ|156=>122|165=>171|166=>110|169=>112|240=>187|241=>234|276=>241|277=>284|n=>n,λ|31=>149|9=>9|3=>3|4=>4|0=>0|20=>20|72=>176|76=>177|70=>174|37=>131|75=>137|127=>266|164=>310|5=>5|80=>107|n=>n,λ|n=>n⟩
theorem Tryz.lays156:Go.Proofs.Lays.n156 prog Tryz.lays156_ren:={
 mixed:=kr7
 f156:=func122.trans ck7
 f165:=func171.trans ck7
 f166:=func110.trans ck7
 f169:=func112.trans ck7
 f240:=func187.trans ck7
 f241:=func234.trans ck7
 f276:=func241.trans ck7
 f277:=func284.trans ck7
 t0:=underlying0
 a0:=Tryz.isAgg0
 z0:=Tryz.sizeOf0
 v0:=zeroValue0
 t3:=underlying3
 a3:=Tryz.isAgg3
 z3:=Tryz.sizeOf3
 v3:=zeroValue3
 t4:=underlying4
 a4:=Tryz.isAgg4
 z4:=Tryz.sizeOf4
 v4:=zeroValue4
 t9:=underlying9
 a9:=Tryz.isAgg9
 z9:=Tryz.sizeOf9
 v9:=zeroValue9
 t20:=underlying20
 a20:=Tryz.isAgg20
 z20:=Tryz.sizeOf20
 v20:=zeroValue20
 t31:=underlying149
 a31:=Tryz.isAgg149
 z31:=Tryz.sizeOf149
 v31:=zeroValue149
 t37:=underlying131
 a37:=Tryz.isAgg131
 z37:=Tryz.sizeOf131
 v37:=zeroValue131
 t70:=underlying174
 a70:=Tryz.isAgg174
 z70:=Tryz.sizeOf174
 v70:=zeroValue174
 t72:=underlying176
 a72:=Tryz.isAgg176
 z72:=Tryz.sizeOf176
 v72:=zeroValue176
 t75:=underlying137
 a75:=Tryz.isAgg137
 z75:=Tryz.sizeOf137
 v75:=zeroValue137
 t76:=underlying177
 a76:=Tryz.isAgg177
 z76:=Tryz.sizeOf177
 v76:=zeroValue177
 t127:=underlying266
 a127:=Tryz.isAgg266
 z127:=Tryz.sizeOf266
 v127:=zeroValue266
 t164:=underlying310
 a164:=Tryz.isAgg310
 z164:=Tryz.sizeOf310
 v164:=zeroValue310 }
theorem Tryz.Builder_Extra_156:Builder.Extra prog Tryz.lays156_ren:={
 sizeBuilder:=kr7
 liesBuilder:=kr7
 t5:=underlying5
 a5:=Tryz.isAgg5
 z5:=Tryz.sizeOf5
 v5:=zeroValue5
 infoByte:=kr7
 cellsByte:=kr7
 sizeByte:=kr7
 neB5:=by decide }
open Go.RowKit in
theorem Tryz.strings_Join_none (a:Option Addr)(c:Nat)(JA:ByteArray)(w:World):
  Calls prog 122 #[.slice a 0 c,.string JA] w λe w'=>e=.returned (.string ⟨#[]⟩)/\w'=w:=Any.strings_Join_none Tryz.lays156 Tryz.Builder_Extra_156 a c JA w
open Go.RowKit in
theorem Tryz.strings_Join (bk o c:Nat)(xs:List ByteArray)(JA:ByteArray)(w:World)(eH:∀(j:Nat) x,xs[j]?=some x->w.cell? ⟨bk,o+j,none⟩=some (.string x))(lY:bk<w.heap.size)(hN:xs.length<=140737488355328)(On:xs.length<=c)(bt:(Lib.join (xs.map (·.data.toList)) JA.data.toList).length<=140737488355328):
  Calls prog 122 #[.slice (some ⟨bk,o,none⟩) xs.length c,.string JA] w λe w'=>e=.returned (.string ⟨(Lib.join (xs.map (·.data.toList)) JA.data.toList).toArray⟩)/\Below w.heap.size w w':=Any.strings_Join Tryz.lays156 Tryz.Builder_Extra_156 bk o c xs JA w eH lY hN On bt
def Tryz.lays162_ren:Go.Shelf.Ren:=⟨λ|162=>163|232=>177|227=>178|234=>180|236=>182|228=>237|271=>240|151=>239|120=>287|197=>238|152=>286|260=>285|137=>254|119=>307|224=>308|225=>309|217=>298|266=>320|n=>n,λ|9=>9|4=>4|3=>3|5=>5|117=>254|116=>253|0=>0|124=>257|21=>21|105=>330|46=>188|119=>403|139=>406|138=>405|n=>n,λ|3=>2|4=>3|n=>n⟩
theorem Tryz.lays162:Go.Proofs.Lays.n162 prog Tryz.lays162_ren:={
 mixed:=kr7
 f119:=func307.trans ck7
 f120:=func287.trans ck7
 f137:=func254.trans ck7
 f151:=func239.trans ck7
 f152:=func286.trans ck7
 f162:=func163.trans ck7
 f197:=func238.trans ck7
 f217:=func298.trans ck7
 f224:=func308.trans ck7
 f225:=func309.trans ck7
 f227:=func178.trans ck7
 f228:=func237.trans ck7
 f232:=func177.trans ck7
 f234:=func180.trans ck7
 f236:=func182.trans ck7
 f260:=func285.trans ck7
 f266:=func320.trans ck7
 f271:=func240.trans ck7
 t0:=underlying0
 a0:=Tryz.isAgg0
 z0:=Tryz.sizeOf0
 v0:=zeroValue0
 t3:=underlying3
 a3:=Tryz.isAgg3
 z3:=Tryz.sizeOf3
 v3:=zeroValue3
 t4:=underlying4
 a4:=Tryz.isAgg4
 z4:=Tryz.sizeOf4
 v4:=zeroValue4
 t5:=underlying5
 a5:=Tryz.isAgg5
 z5:=Tryz.sizeOf5
 v5:=zeroValue5
 t9:=underlying9
 a9:=Tryz.isAgg9
 z9:=Tryz.sizeOf9
 v9:=zeroValue9
 t21:=underlying21
 a21:=Tryz.isAgg21
 z21:=Tryz.sizeOf21
 v21:=zeroValue21
 t46:=underlying188
 a46:=Tryz.isAgg188
 z46:=Tryz.sizeOf188
 v46:=zeroValue188
 t105:=underlying330
 a105:=Tryz.isAgg330
 z105:=Tryz.sizeOf330
 v105:=zeroValue330
 t116:=underlying253
 a116:=Tryz.isAgg253
 z116:=Tryz.sizeOf253
 t117:=underlying254
 a117:=Tryz.isAgg254
 z117:=Tryz.sizeOf254
 v117:=zeroValue254
 t119:=underlying403
 a119:=Tryz.isAgg403
 z119:=Tryz.sizeOf403
 t124:=underlying257
 a124:=Tryz.isAgg257
 z124:=Tryz.sizeOf257
 v124:=zeroValue257
 t138:=underlying405
 a138:=Tryz.isAgg405
 z138:=Tryz.sizeOf405
 v138:=zeroValue405
 t139:=underlying406
 a139:=Tryz.isAgg406
 z139:=Tryz.sizeOf406
 v139:=zeroValue406
 g3:=kr7
 g4:=by kernel_rfl }
open Go.RowKit in
theorem Tryz.strings_TrimRight_one (s:ByteArray)(c:UInt8)(hc:c.toNat<128)(w:World)(hs:s.size<=9223372036854775807):
  Calls prog 163 #[.string s,.string ⟨#[c]⟩] w λe w'=>e=.returned (.string ⟨(Lib.trimRightB s.data.toList c).toArray⟩)/\w'=w:=Any.strings_TrimRight_one Tryz.lays162 s c hc w hs
def Tryz.lays160_ren:Go.Shelf.Ren:=⟨λ|160=>104|232=>177|231=>176|227=>178|234=>180|233=>179|236=>182|235=>181|228=>237|271=>240|151=>239|197=>238|120=>287|152=>286|260=>285|137=>254|119=>307|224=>308|225=>309|217=>298|266=>320|n=>n,λ|9=>9|4=>4|3=>3|5=>5|117=>254|116=>253|0=>0|124=>257|21=>21|105=>330|46=>188|119=>403|139=>406|138=>405|n=>n,λ|3=>2|4=>3|n=>n⟩
theorem Tryz.lays160:Go.Proofs.Lays.n160 prog Tryz.lays160_ren:={
 mixed:=kr7
 f119:=func307.trans ck7
 f120:=func287.trans ck7
 f137:=func254.trans ck7
 f151:=func239.trans ck7
 f152:=func286.trans ck7
 f160:=func104.trans ck7
 f197:=func238.trans ck7
 f217:=func298.trans ck7
 f224:=func308.trans ck7
 f225:=func309.trans ck7
 f227:=func178.trans ck7
 f228:=func237.trans ck7
 f231:=func176.trans ck7
 f232:=func177.trans ck7
 f233:=func179.trans ck7
 f234:=func180.trans ck7
 f235:=func181.trans ck7
 f236:=func182.trans ck7
 f260:=func285.trans ck7
 f266:=func320.trans ck7
 f271:=func240.trans ck7
 t0:=underlying0
 a0:=Tryz.isAgg0
 z0:=Tryz.sizeOf0
 v0:=zeroValue0
 t3:=underlying3
 a3:=Tryz.isAgg3
 z3:=Tryz.sizeOf3
 v3:=zeroValue3
 t4:=underlying4
 a4:=Tryz.isAgg4
 z4:=Tryz.sizeOf4
 v4:=zeroValue4
 t5:=underlying5
 a5:=Tryz.isAgg5
 z5:=Tryz.sizeOf5
 v5:=zeroValue5
 t9:=underlying9
 a9:=Tryz.isAgg9
 z9:=Tryz.sizeOf9
 v9:=zeroValue9
 t21:=underlying21
 a21:=Tryz.isAgg21
 z21:=Tryz.sizeOf21
 v21:=zeroValue21
 t46:=underlying188
 a46:=Tryz.isAgg188
 z46:=Tryz.sizeOf188
 v46:=zeroValue188
 t105:=underlying330
 a105:=Tryz.isAgg330
 z105:=Tryz.sizeOf330
 v105:=zeroValue330
 t116:=underlying253
 a116:=Tryz.isAgg253
 z116:=Tryz.sizeOf253
 t117:=underlying254
 a117:=Tryz.isAgg254
 z117:=Tryz.sizeOf254
 v117:=zeroValue254
 t119:=underlying403
 a119:=Tryz.isAgg403
 z119:=Tryz.sizeOf403
 t124:=underlying257
 a124:=Tryz.isAgg257
 z124:=Tryz.sizeOf257
 v124:=zeroValue257
 t138:=underlying405
 a138:=Tryz.isAgg405
 z138:=Tryz.sizeOf405
 v138:=zeroValue405
 t139:=underlying406
 a139:=Tryz.isAgg406
 z139:=Tryz.sizeOf406
 v139:=zeroValue406
 g3:=kr7
 g4:=by kernel_rfl }
def Tryz.lays136_ren:Go.Shelf.Ren:=⟨λ|136=>168|n=>n,λ|5=>5|3=>3|9=>9|n=>n,λ|n=>n⟩
theorem Tryz.lays136:Go.Proofs.Lays.n136 prog Tryz.lays136_ren:={
 mixed:=kr7
 f136:=func168.trans ck7
 t3:=underlying3
 a3:=Tryz.isAgg3
 z3:=Tryz.sizeOf3
 v3:=zeroValue3
 t5:=underlying5
 a5:=Tryz.isAgg5
 z5:=Tryz.sizeOf5
 v5:=zeroValue5
 t9:=underlying9
 a9:=Tryz.isAgg9
 z9:=Tryz.sizeOf9
 v9:=zeroValue9 }
theorem Tryz.bits_TrailingZeros8 (x:Int)(w:World)(h0:0<=x)(h1:x<=255):
  Calls prog 168 #[.int .u8 x] w λe w'=>e=.returned (.int .i64 (Lib.trailingZeros8 x.toNat))/\w'=w:=Any.bits_TrailingZeros8 Tryz.lays136 x w h0 h1
def Tryz.lays137_ren:Go.Shelf.Ren:=⟨λ|137=>254|217=>298|266=>320|n=>n,λ|9=>9|5=>5|3=>3|n=>n,λ|n=>n⟩
theorem Tryz.lays137:Go.Proofs.Lays.n137 prog Tryz.lays137_ren:={
 mixed:=kr7
 f137:=func254.trans ck7
 f217:=func298.trans ck7
 f266:=func320.trans ck7
 t3:=underlying3
 a3:=Tryz.isAgg3
 z3:=Tryz.sizeOf3
 v3:=zeroValue3
 t5:=underlying5
 a5:=Tryz.isAgg5
 z5:=Tryz.sizeOf5
 v5:=zeroValue5
 t9:=underlying9
 a9:=Tryz.isAgg9
 z9:=Tryz.sizeOf9
 v9:=zeroValue9 }
open Go.RowKit in
theorem Tryz.strings_IndexByte (s:ByteArray)(c:Int)(w:World):
  Calls prog 254 #[.string s,.int .u8 c] w λe w'=>e=.returned (.int .i64 (Lib.indexByte s.data.toList c.toNat.toUInt8))/\w'=w:=Any.strings_IndexByte Tryz.lays137 s c w
def Tryz.lays103_ren:Go.Shelf.Ren:=⟨λ|103=>248|210=>290|206=>233|n=>n,λ|9=>9|4=>4|24=>172|3=>3|n=>n,λ|n=>n⟩
theorem Tryz.lays103:Go.Proofs.Lays.n103 prog Tryz.lays103_ren:={
 mixed:=kr7
 f103:=func248.trans ck7
 f206:=func233.trans ck7
 f210:=func290.trans ck7
 t3:=underlying3
 a3:=Tryz.isAgg3
 z3:=Tryz.sizeOf3
 v3:=zeroValue3
 t4:=underlying4
 a4:=Tryz.isAgg4
 z4:=Tryz.sizeOf4
 v4:=zeroValue4
 t9:=underlying9
 a9:=Tryz.isAgg9
 z9:=Tryz.sizeOf9
 v9:=zeroValue9
 t24:=underlying172
 a24:=Tryz.isAgg172
 z24:=Tryz.sizeOf172
 v24:=zeroValue172 }
open Go.RowKit in
theorem Tryz.strings_CutPrefix (s p:ByteArray)(w:World):
  Calls prog 248 #[.string s,.string p] w λe w'=>e=.returned (.tuple #[.string ⟨(Lib.trimPrefix s.data.toList p.data.toList).toArray⟩,.bool (Lib.hasPrefix s.data.toList p.data.toList)])/\w'=w:=Any.strings_CutPrefix Tryz.lays103 s p w
def Tryz.laysM171_ren:Go.Shelf.Ren:=⟨λ|171=>199|243=>250|246=>292|283=>313|284=>314|285=>315|286=>316|129=>331|317=>341|318=>342|319=>343|320=>344|337=>356|338=>357|n=>n,λ|3=>3|9=>9|2=>2|4=>4|171=>409|0=>0|53=>181|37=>131|5=>5|173=>412|212=>428|51=>322|20=>20|213=>429|46=>188|232=>450|233=>451|n=>n,λ|17=>6|18=>7|19=>8|n=>n⟩
theorem Tryz.laysM171:Go.Proofs.LaysM.n171 prog Tryz.laysM171_ren:={
 mixed:=kr7
 f129:=func331.trans ck7
 f171:=func199.trans ck7
 f243:=func250.trans ck7
 f246:=func292.trans ck7
 f283:=func313.trans ck7
 f284:=func314.trans ck7
 f285:=func315.trans ck7
 f286:=func316.trans ck7
 f317:=func341.trans ck7
 f318:=func342.trans ck7
 f319:=func343.trans ck7
 f320:=func344.trans ck7
 f337:=func356.trans ck7
 f338:=func357.trans ck7
 t0:=underlying0
 a0:=Tryz.isAgg0
 z0:=Tryz.sizeOf0
 v0:=zeroValue0
 t2:=underlying2
 a2:=Tryz.isAgg2
 z2:=Tryz.sizeOf2
 v2:=zeroValue2
 t3:=underlying3
 a3:=Tryz.isAgg3
 z3:=Tryz.sizeOf3
 v3:=zeroValue3
 t4:=underlying4
 a4:=Tryz.isAgg4
 z4:=Tryz.sizeOf4
 v4:=zeroValue4
 t5:=underlying5
 a5:=Tryz.isAgg5
 z5:=Tryz.sizeOf5
 v5:=zeroValue5
 t9:=underlying9
 a9:=Tryz.isAgg9
 z9:=Tryz.sizeOf9
 v9:=zeroValue9
 t20:=underlying20
 a20:=Tryz.isAgg20
 z20:=Tryz.sizeOf20
 v20:=zeroValue20
 t37:=underlying131
 a37:=Tryz.isAgg131
 z37:=Tryz.sizeOf131
 v37:=zeroValue131
 t46:=underlying188
 a46:=Tryz.isAgg188
 z46:=Tryz.sizeOf188
 v46:=zeroValue188
 t51:=underlying322
 a51:=Tryz.isAgg322
 z51:=Tryz.sizeOf322
 v51:=zeroValue322
 t53:=underlying181
 a53:=Tryz.isAgg181
 z53:=Tryz.sizeOf181
 v53:=zeroValue181
 t171:=underlying409
 a171:=Tryz.isAgg409
 z171:=Tryz.sizeOf409
 v171:=zeroValue409
 t173:=underlying412
 a173:=Tryz.isAgg412
 z173:=Tryz.sizeOf412
 v173:=zeroValue412
 t212:=underlying428
 a212:=Tryz.isAgg428
 z212:=Tryz.sizeOf428
 v212:=zeroValue428
 t213:=underlying429
 a213:=Tryz.isAgg429
 z213:=Tryz.sizeOf429
 t232:=underlying450
 a232:=Tryz.isAgg450
 z232:=Tryz.sizeOf450
 v232:=zeroValue450
 t233:=underlying451
 a233:=Tryz.isAgg451
 z233:=Tryz.sizeOf451
 v233:=zeroValue451
 g17:=kr7
 g18:=kr7
 g19:=kr7
 i0:=kr7
 i2:=kr7
 i3:=kr7
 i4:=kr7
 i5:=kr7
 i9:=kr7
 i20:=kr7
 i37:=kr7
 i46:=kr7
 i51:=kr7
 i53:=kr7
 i171:=kr7
 i173:=kr7
 i212:=kr7
 i232:=kr7
 i233:=kr7
 m17:=kr7
 m18:=kr7
 m19:=by kernel_rfl }
open Go.RowKit Go.Sort Go.Lib in
theorem Tryz.strconv_Itoa (n:Int)(h0:-9223372036854775808<=n)(h1:n<=9223372036854775807)(w:World)(Js:Lib.TabIs prog w "internal/strconv.uint64pow10" .u64 Lib.pow10Tab):
  Calls prog 199 #[.int .i64 n] w λe w'=>e=.returned (.string ⟨(Lib.itoa n).toArray⟩)/\∃ k os,w'=grow (w.drewN k) os:=Any.strconv_Itoa Tryz.laysM171 n h0 h1 w Js
def Tryz.laysC172_ren:Go.Shelf.Ren:=⟨λ|172=>201|244=>252|245=>253|247=>293|279=>294|280=>295|281=>296|282=>297|287=>317|316=>318|171=>199|205=>319|321=>345|322=>346|243=>250|246=>292|283=>313|284=>314|285=>315|286=>316|129=>331|317=>341|318=>342|319=>343|320=>344|337=>356|338=>357|n=>n,λ|9=>9|3=>3|75=>137|76=>177|4=>4|5=>5|167=>383|37=>131|0=>0|85=>384|2=>2|168=>386|53=>181|175=>414|46=>188|210=>417|127=>266|145=>433|143=>431|21=>21|171=>409|173=>412|212=>428|51=>322|20=>20|213=>429|232=>450|233=>451|80=>107|n=>n,λ|15=>4|16=>5|17=>6|18=>7|19=>8|n=>n⟩
theorem Tryz.laysC172:Go.Proofs.LaysC.n172 prog Tryz.laysC172_ren:={
 mixed:=kr7
 f129:=func331.trans ck7
 f171:=func199.trans ck7
 f172:=func201.trans ck7
 f205:=func319.trans ck7
 f243:=func250.trans ck7
 f244:=func252.trans ck7
 f245:=func253.trans ck7
 f246:=func292.trans ck7
 f247:=func293.trans ck7
 f279:=func294.trans ck7
 f280:=func295.trans ck7
 f281:=func296.trans ck7
 f282:=func297.trans ck7
 f283:=func313.trans ck7
 f284:=func314.trans ck7
 f285:=func315.trans ck7
 f286:=func316.trans ck7
 f287:=func317.trans ck7
 f316:=func318.trans ck7
 f317:=func341.trans ck7
 f318:=func342.trans ck7
 f319:=func343.trans ck7
 f320:=func344.trans ck7
 f321:=func345.trans ck7
 f322:=func346.trans ck7
 f337:=func356.trans ck7
 f338:=func357.trans ck7
 t0:=underlying0
 a0:=Tryz.isAgg0
 z0:=Tryz.sizeOf0
 v0:=zeroValue0
 t2:=underlying2
 a2:=Tryz.isAgg2
 z2:=Tryz.sizeOf2
 v2:=zeroValue2
 t3:=underlying3
 a3:=Tryz.isAgg3
 z3:=Tryz.sizeOf3
 v3:=zeroValue3
 t4:=underlying4
 a4:=Tryz.isAgg4
 z4:=Tryz.sizeOf4
 v4:=zeroValue4
 t5:=underlying5
 a5:=Tryz.isAgg5
 z5:=Tryz.sizeOf5
 v5:=zeroValue5
 t9:=underlying9
 a9:=Tryz.isAgg9
 z9:=Tryz.sizeOf9
 v9:=zeroValue9
 t20:=underlying20
 a20:=Tryz.isAgg20
 z20:=Tryz.sizeOf20
 v20:=zeroValue20
 t21:=underlying21
 a21:=Tryz.isAgg21
 z21:=Tryz.sizeOf21
 v21:=zeroValue21
 t37:=underlying131
 a37:=Tryz.isAgg131
 z37:=Tryz.sizeOf131
 v37:=zeroValue131
 t46:=underlying188
 a46:=Tryz.isAgg188
 z46:=Tryz.sizeOf188
 v46:=zeroValue188
 t51:=underlying322
 a51:=Tryz.isAgg322
 z51:=Tryz.sizeOf322
 v51:=zeroValue322
 t53:=underlying181
 a53:=Tryz.isAgg181
 z53:=Tryz.sizeOf181
 v53:=zeroValue181
 t75:=underlying137
 a75:=Tryz.isAgg137
 z75:=Tryz.sizeOf137
 v75:=zeroValue137
 t76:=underlying177
 a76:=Tryz.isAgg177
 z76:=Tryz.sizeOf177
 v76:=zeroValue177
 t85:=underlying384
 a85:=Tryz.isAgg384
 z85:=Tryz.sizeOf384
 v85:=zeroValue384
 t127:=underlying266
 a127:=Tryz.isAgg266
 z127:=Tryz.sizeOf266
 v127:=zeroValue266
 t143:=underlying431
 a143:=Tryz.isAgg431
 z143:=Tryz.sizeOf431
 v143:=zeroValue431
 t145:=underlying433
 a145:=Tryz.isAgg433
 z145:=Tryz.sizeOf433
 v145:=zeroValue433
 t167:=underlying383
 a167:=Tryz.isAgg383
 z167:=Tryz.sizeOf383
 v167:=zeroValue383
 t168:=underlying386
 a168:=Tryz.isAgg386
 z168:=Tryz.sizeOf386
 v168:=zeroValue386
 t171:=underlying409
 a171:=Tryz.isAgg409
 z171:=Tryz.sizeOf409
 v171:=zeroValue409
 t173:=underlying412
 a173:=Tryz.isAgg412
 z173:=Tryz.sizeOf412
 v173:=zeroValue412
 t175:=underlying414
 a175:=Tryz.isAgg414
 z175:=Tryz.sizeOf414
 v175:=zeroValue414
 t210:=underlying417
 a210:=Tryz.isAgg417
 z210:=Tryz.sizeOf417
 v210:=zeroValue417
 t212:=underlying428
 a212:=Tryz.isAgg428
 z212:=Tryz.sizeOf428
 v212:=zeroValue428
 t213:=underlying429
 a213:=Tryz.isAgg429
 z213:=Tryz.sizeOf429
 t232:=underlying450
 a232:=Tryz.isAgg450
 z232:=Tryz.sizeOf450
 v232:=zeroValue450
 t233:=underlying451
 a233:=Tryz.isAgg451
 z233:=Tryz.sizeOf451
 v233:=zeroValue451
 g15:=kr7
 g16:=kr7
 g17:=kr7
 g18:=kr7
 g19:=kr7
 t80:=underlying107
 a80:=Tryz.isAgg107
 z80:=Tryz.sizeOf107
 v80:=zeroValue107
 i0:=kr7
 i2:=kr7
 i3:=kr7
 i4:=kr7
 i5:=kr7
 i9:=kr7
 i20:=kr7
 i21:=kr7
 i37:=kr7
 i46:=kr7
 i51:=kr7
 i53:=kr7
 i75:=kr7
 i76:=kr7
 i80:=kr7
 i85:=kr7
 i127:=kr7
 i143:=kr7
 i145:=kr7
 i167:=kr7
 i168:=kr7
 i171:=kr7
 i173:=kr7
 i175:=kr7
 i210:=kr7
 i212:=kr7
 i232:=kr7
 i233:=kr7
 m15:=kr7
 m16:=kr7
 m17:=kr7
 m18:=kr7
 m19:=kr7
 c0:=kr7
 c2:=kr7
 c3:=kr7
 c4:=kr7
 c5:=kr7
 c9:=kr7
 c20:=kr7
 c21:=kr7
 c37:=kr7
 c46:=kr7
 c51:=kr7
 c53:=kr7
 c75:=kr7
 c76:=kr7
 c80:=kr7
 c85:=kr7
 c127:=kr7
 c143:=kr7
 c145:=kr7
 c167:=kr7
 c168:=kr7
 c171:=kr7
 c173:=kr7
 c175:=kr7
 c210:=kr7
 c212:=kr7
 c213:=kr7
 c232:=kr7
 c233:=by kernel_rfl }
open Go.RowKit in
theorem Tryz.strconv_Atoi_ok (s:ByteArray)(agQ:s.size<=9223372036854775806)(v:Int)(h:Lib.atoiAll s.data.toList=.ok v)(w:World):
  Calls prog 201 #[.string s] w λe w'=>e=.returned (.tuple #[.int .i64 v,.nilIface])/\(w'=w\/∃ t,w'=Lib.bytesWorld w 5 t):=Any.strconv_Atoi_ok Tryz.laysC172 s agQ v h w
open Go.RowKit in
theorem Tryz.strconv_Atoi_range_var (s:ByteArray)(abK:s.size<=281474976710656)(h:Lib.atoiAll s.data.toList=.range)(tp:TypeId)(p:Value)(w:World)(ak3:w.var? prog "strconv.ErrRange" = some #[.iface tp p]):
  Calls prog 201 #[.string s] w λe w'=>∃ N,e=.returned (.tuple #[.int .i64 (Lib.atoiSat s.data.toList),.iface 386 (.pointer (some ⟨N,0,none⟩))])/\w.heap.size<=N/\w'.heap[N]?=some (.cells #[.string ⟨#[65,116,111,105]⟩,.string s,.iface tp p] 417 (0,0))/\Below w.heap.size w w':=Any.strconv_Atoi_range_var Tryz.laysC172 s abK h tp p w ak3
def Tryz.laysM146_ren:Go.Shelf.Ren:=⟨λ|146=>249|221=>291|268=>310|138=>311|143=>312|195=>338|197=>238|218=>339|219=>340|260=>285|217=>298|225=>309|224=>308|267=>355|266=>320|314=>368|n=>n,λ|9=>9|31=>149|3=>3|4=>4|0=>0|105=>330|21=>21|5=>5|46=>188|119=>403|139=>406|138=>405|146=>323|51=>322|n=>n,λ|1=>1|3=>2|4=>3|n=>n⟩
theorem Tryz.laysM146:Go.Proofs.LaysM.n146 prog Tryz.laysM146_ren:={
 mixed:=kr7
 f138:=func311.trans ck7
 f143:=func312.trans ck7
 f146:=func249.trans ck7
 f195:=func338.trans ck7
 f197:=func238.trans ck7
 f217:=func298.trans ck7
 f218:=func339.trans ck7
 f219:=func340.trans ck7
 f221:=func291.trans ck7
 f224:=func308.trans ck7
 f225:=func309.trans ck7
 f260:=func285.trans ck7
 f266:=func320.trans ck7
 f267:=func355.trans ck7
 f268:=func310.trans ck7
 f314:=func368.trans ck7
 t0:=underlying0
 a0:=Tryz.isAgg0
 z0:=Tryz.sizeOf0
 v0:=zeroValue0
 t3:=underlying3
 a3:=Tryz.isAgg3
 z3:=Tryz.sizeOf3
 v3:=zeroValue3
 t4:=underlying4
 a4:=Tryz.isAgg4
 z4:=Tryz.sizeOf4
 v4:=zeroValue4
 t5:=underlying5
 a5:=Tryz.isAgg5
 z5:=Tryz.sizeOf5
 v5:=zeroValue5
 t9:=underlying9
 a9:=Tryz.isAgg9
 z9:=Tryz.sizeOf9
 v9:=zeroValue9
 t21:=underlying21
 a21:=Tryz.isAgg21
 z21:=Tryz.sizeOf21
 v21:=zeroValue21
 t31:=underlying149
 a31:=Tryz.isAgg149
 z31:=Tryz.sizeOf149
 v31:=zeroValue149
 t46:=underlying188
 a46:=Tryz.isAgg188
 z46:=Tryz.sizeOf188
 v46:=zeroValue188
 t51:=underlying322
 a51:=Tryz.isAgg322
 z51:=Tryz.sizeOf322
 v51:=zeroValue322
 t105:=underlying330
 a105:=Tryz.isAgg330
 z105:=Tryz.sizeOf330
 v105:=zeroValue330
 t119:=underlying403
 a119:=Tryz.isAgg403
 z119:=Tryz.sizeOf403
 t138:=underlying405
 a138:=Tryz.isAgg405
 z138:=Tryz.sizeOf405
 v138:=zeroValue405
 t139:=underlying406
 a139:=Tryz.isAgg406
 z139:=Tryz.sizeOf406
 v139:=zeroValue406
 t146:=underlying323
 a146:=Tryz.isAgg323
 z146:=Tryz.sizeOf323
 v146:=zeroValue323
 g1:=kr7
 g3:=kr7
 g4:=kr7
 i0:=kr7
 i3:=kr7
 i4:=kr7
 i5:=kr7
 i9:=kr7
 i21:=kr7
 i31:=kr7
 i46:=kr7
 i51:=kr7
 i105:=kr7
 i138:=kr7
 i139:=kr7
 i146:=kr7
 m1:=kr7
 s1_3:=λw h=>Go.Proofs.cell_of_shapedOpen_int (zero:=#[.int .i64 0]) (t:=3) h (of_decide_eq_true kr7) kr7 rfl kr7 kr7 underlying3
 m3:=kr7
 m4:=by kernel_rfl }
open Go.RowKit Go.Lib in
theorem Tryz.strings_Split_shaped (s JA:ByteArray)(w:World)(h:w.ShapedOpen prog)(hs:s.size<4294967281)(h1:1<=JA.size):
  Calls prog 249 #[.string s,.string JA] w λe w'=>
   e=.returned (.slice (some ⟨w.heap.size,0,none⟩) (Lib.countB s JA+1) (Lib.countB s JA+1))/\w'=w.alloc (.cells ((Lib.splitB JA 0 (Lib.countB s JA) s).map Value.string).toArray 9):=Any.strings_Split_shaped Tryz.laysM146 s JA w h hs h1
def Tryz.lays212_ren:Go.Shelf.Ren:=⟨λ|212=>169|263=>231|264=>232|n=>n,λ|46=>188|51=>322|146=>323|53=>181|148=>325|n=>n,λ|n=>n⟩
theorem Tryz.lays212:Go.Proofs.Lays.n212 prog Tryz.lays212_ren:={
 mixed:=kr7
 f212:=func169.trans ck7
 f263:=func231.trans ck7
 f264:=func232.trans ck7
 t46:=underlying188
 a46:=Tryz.isAgg188
 z46:=Tryz.sizeOf188
 v46:=zeroValue188
 t51:=underlying322
 a51:=Tryz.isAgg322
 z51:=Tryz.sizeOf322
 v51:=zeroValue322
 t53:=underlying181
 a53:=Tryz.isAgg181
 z53:=Tryz.sizeOf181
 v53:=zeroValue181
 t146:=underlying323
 a146:=Tryz.isAgg323
 z146:=Tryz.sizeOf323
 v146:=zeroValue323
 t148:=underlying325
 a148:=Tryz.isAgg325
 z148:=Tryz.sizeOf325
 v148:=zeroValue325 }
open Go.RowKit Go.Lib in
theorem Tryz.bits_Mul (x y:Nat)(hx:x<18446744073709551616)(hy:y<18446744073709551616)(w:World):
  Calls prog 169 #[.int .u64 x,.int .u64 y] w λe w'=>e=.returned (.tuple #[.int .u64 ((x*y/18446744073709551616:Nat):Int),.int .u64 ((x*y%18446744073709551616:Nat):Int)])/\w'=w:=Any.bits_Mul Tryz.lays212 x y hx hy w
def Tryz.lays105_ren:Go.Shelf.Ren:=⟨λ|105=>95|212=>169|99=>170|165=>171|166=>110|170=>172|169=>112|263=>231|264=>232|206=>233|240=>187|241=>234|276=>241|277=>284|n=>n,λ|9=>9|3=>3|4=>4|20=>20|0=>0|46=>188|109=>237|5=>5|72=>176|76=>177|51=>322|146=>323|53=>181|148=>325|70=>174|37=>131|75=>137|127=>266|164=>310|80=>107|n=>n,λ|n=>n⟩
theorem Tryz.lays105:Go.Proofs.Lays.n105 prog Tryz.lays105_ren:={
 mixed:=kr7
 f99:=func170.trans ck7
 f105:=func95.trans ck7
 f165:=func171.trans ck7
 f166:=func110.trans ck7
 f169:=func112.trans ck7
 f170:=func172.trans ck7
 f206:=func233.trans ck7
 f212:=func169.trans ck7
 f240:=func187.trans ck7
 f241:=func234.trans ck7
 f263:=func231.trans ck7
 f264:=func232.trans ck7
 f276:=func241.trans ck7
 f277:=func284.trans ck7
 t0:=underlying0
 a0:=Tryz.isAgg0
 z0:=Tryz.sizeOf0
 v0:=zeroValue0
 t3:=underlying3
 a3:=Tryz.isAgg3
 z3:=Tryz.sizeOf3
 v3:=zeroValue3
 t4:=underlying4
 a4:=Tryz.isAgg4
 z4:=Tryz.sizeOf4
 v4:=zeroValue4
 t5:=underlying5
 a5:=Tryz.isAgg5
 z5:=Tryz.sizeOf5
 v5:=zeroValue5
 t9:=underlying9
 a9:=Tryz.isAgg9
 z9:=Tryz.sizeOf9
 v9:=zeroValue9
 t20:=underlying20
 a20:=Tryz.isAgg20
 z20:=Tryz.sizeOf20
 v20:=zeroValue20
 t37:=underlying131
 a37:=Tryz.isAgg131
 z37:=Tryz.sizeOf131
 v37:=zeroValue131
 t46:=underlying188
 a46:=Tryz.isAgg188
 z46:=Tryz.sizeOf188
 v46:=zeroValue188
 t51:=underlying322
 a51:=Tryz.isAgg322
 z51:=Tryz.sizeOf322
 v51:=zeroValue322
 t53:=underlying181
 a53:=Tryz.isAgg181
 z53:=Tryz.sizeOf181
 v53:=zeroValue181
 t70:=underlying174
 a70:=Tryz.isAgg174
 z70:=Tryz.sizeOf174
 v70:=zeroValue174
 t72:=underlying176
 a72:=Tryz.isAgg176
 z72:=Tryz.sizeOf176
 v72:=zeroValue176
 t75:=underlying137
 a75:=Tryz.isAgg137
 z75:=Tryz.sizeOf137
 v75:=zeroValue137
 t76:=underlying177
 a76:=Tryz.isAgg177
 z76:=Tryz.sizeOf177
 v76:=zeroValue177
 t109:=underlying237
 a109:=Tryz.isAgg237
 z109:=Tryz.sizeOf237
 v109:=zeroValue237
 t127:=underlying266
 a127:=Tryz.isAgg266
 z127:=Tryz.sizeOf266
 v127:=zeroValue266
 t146:=underlying323
 a146:=Tryz.isAgg323
 z146:=Tryz.sizeOf323
 v146:=zeroValue323
 t148:=underlying325
 a148:=Tryz.isAgg325
 z148:=Tryz.sizeOf325
 v148:=zeroValue325
 t164:=underlying310
 a164:=Tryz.isAgg310
 z164:=Tryz.sizeOf310
 v164:=zeroValue310 }
theorem Tryz.Builder_Extra_105:Builder.Extra prog Tryz.lays105_ren:={
 sizeBuilder:=kr7
 liesBuilder:=kr7
 t5:=underlying5
 a5:=Tryz.isAgg5
 z5:=Tryz.sizeOf5
 v5:=zeroValue5
 infoByte:=kr7
 cellsByte:=kr7
 sizeByte:=kr7
 neB5:=by decide }
open Go.RowKit Go.Lib in
theorem Tryz.strings_Repeat (s:ByteArray)(c:Nat)(w:World)(hc:c<=9223372036854775807)(bt:s.size*c<=140737488355328):
  Calls prog 95 #[.string s,.int .i64 c] w λe w'=>e=.returned (.string ⟨(Lib.repeatL s.data.toList c).toArray⟩)/\Below w.heap.size w w':=Any.strings_Repeat Tryz.lays105 Tryz.Builder_Extra_105 s c w hc bt
def Tryz.laysNm216_ren:Go.Shelf.Ren:=⟨λ|16=>156|n=>n,λ|24=>149|9=>9|4=>4|n=>n,λ|n=>n⟩
theorem Tryz.laysNm216:Go.Proofs.Lays2.n16 prog Tryz.laysNm216_ren:={
 mixed:=kr7
 f16:=func156.trans ck7
 t4:=underlying4
 a4:=Tryz.isAgg4
 z4:=Tryz.sizeOf4
 v4:=zeroValue4
 t9:=underlying9
 a9:=Tryz.isAgg9
 z9:=Tryz.sizeOf9
 v9:=zeroValue9
 t24:=underlying149
 a24:=Tryz.isAgg149
 z24:=Tryz.sizeOf149
 v24:=zeroValue149
 i9:=by kernel_rfl }
open Go.RowKit Go.Lib in
theorem Tryz.slices_Clone_string (b off n c:Nat)(zs:List ByteArray)(w:World)(hz:n<=zs.length)(hbig:n*16<=140737488355328)(hc:∀ j,j<zs.length->w.cell? ⟨b,off+j,none⟩=some (.string (zs.getD j ByteArray.empty))):
  Calls prog 156 #[.slice (some ⟨b,off,none⟩) n c] w λe w'=>∃ v',e=.returned v'/\w'.ownsRow w.heap.size 9 1 v' n ((zs.take n).map (Value.string))/\v'≠.slice none 0 0/\Below w.heap.size w w':=Any.slices_Clone_string Tryz.laysNm216 b off n c zs w hz hbig hc
open Go.RowKit Go.Lib in
theorem Tryz.slices_Clone_string_nil (n c:Nat)(w:World):
  Calls prog 156 #[.slice none n c] w λe w'=>e=.returned (.slice none 0 0)/\w'=w:=Any.slices_Clone_string_nil Tryz.laysNm216 n c w
open Go.RowKit Go.Lib in
theorem Tryz.slices_Clone_string_zero (a:Addr)(c:Nat)(w:World):
  Calls prog 156 #[.slice (some a) 0 c] w λe w'=>∃ v',e=.returned v'/\w'.ownsRow w.heap.size 9 1 v' 0 []/\v'≠.slice none 0 0/\Below w.heap.size w w':=Any.slices_Clone_string_zero Tryz.laysNm216 a c w
open Go.RowKit in
theorem Tryz.strings_Trim_laid (s yh:ByteArray)(w:World)(hs:s.size<=9223372036854775807)(YE:yh.size<4294967281)(abh:∀(j:Nat) b,yh.data.toList[j]?=some b->b.toNat<128):
  Calls prog 104 #[.string s,.string yh] w λe w'=>e=.returned (.string ⟨(Lib.trimS s.data.toList yh.data.toList).toArray⟩)/\Below w.heap.size w w':=Any.strings_Trim_laid Tryz.lays160 kr7 s yh w hs YE abh
end Go.Proofs
end
namespace Go.Proofs.YtkghpdcloaiflaaGreatDoor
open _root_.Go.Proofs.Tryz
variable {w:World}
section
open Go.RowKit
structure yK (w:World):Prop where
 shaped:w.ShapedOpen prog
 pow:Lib.TabIs prog w "internal/strconv.uint64pow10" .u64 Lib.pow10Tab
 syn:∃ tp p,w.var? prog "strconv.ErrSyntax" = some #[.iface tp p]
 rng:∃ tp p,w.var? prog "strconv.ErrRange" = some #[.iface tp p]
 ltP:6<w.heap.size
 ltS:4<w.heap.size
 ltR:5<w.heap.size
theorem yK.keep {w':World}(h:yK w)(k:af w w'):yK w':=by
 refine⟨h.shaped.keptBut (may:=λ_=>False) (k.below.frame _) (λ_ f=>f.elim),?_,?_,?_,awg h.ltP k.size,awg h.ltS k.size,awg h.ltR k.size⟩
 ·exact var?_below k.below (show prog.globalNamed _=some 6 by kernel_rfl) h.ltP h.pow
 ·obtain⟨tp,p,e⟩:=h.syn;exact⟨tp,p,var?_below k.below (show prog.globalNamed _=some 4 by kernel_rfl) h.ltS e⟩
 ·obtain⟨tp,p,e⟩:=h.rng;exact⟨tp,p,var?_below k.below (show prog.globalNamed _=some 5 by kernel_rfl) h.ltR e⟩
theorem JV:∀ u,prog.typeName? 3 u=some "*errors.errorString" -> u=431:=λu h=>by
 have star: "*" ++ "errors.errorString" = "*errors.errorString" := by decide
 exact typeName_ptr_named (nm:= "errors.errorString") (by rw[star];kernel_rfl) kr7 dc7 u (by rw[star];exact h)
theorem C6 {l:List (String×DataW Unit)}(h:laidMetH prog l w)(e:l.filter (λx=>x.1== "internal/strconv.uint64pow10")=[("internal/strconv.uint64pow10",Rows.laid_internal_strconv_uint64pow10)]):Lib.TabIs prog w "internal/strconv.uint64pow10" .u64 Lib.pow10Tab:=by
 have h1:=h.filter (λx=>x.1== "internal/strconv.uint64pow10");rw[e]at h1;exact Lib.tabIs_of_head (rest:=[]) (show prog.globalNamed _=some 6 by kernel_rfl) rfl underlying428 underlying181 kr7 kr7 h1
theorem C7 {l:List (String×DataW Unit)}(h:laidMetH prog l w)(e:l.filter (λx=>x.1== "strconv.ErrSyntax")=[("strconv.ErrSyntax",Rows.laid_strconv_ErrSyntax)]):∃ tp p,w.var? prog "strconv.ErrSyntax" = some #[.iface tp p]:=by
 have h1:=h.filter (λx=>x.1== "strconv.ErrSyntax");rw[e]at h1;obtain⟨a,_,hv,_⟩:=laid_sentinel (r:=[]) h1 (show prog.globalNamed _=some 4 by kernel_rfl) rfl underlying137 JV underlying431 underlying433 rfl rfl underlying9 kr7 kr7;exact⟨_,_,hv⟩
theorem C8 {l:List (String×DataW Unit)}(h:laidMetH prog l w)(e:l.filter (λx=>x.1== "strconv.ErrRange")=[("strconv.ErrRange",Rows.laid_strconv_ErrRange)]):∃ tp p,w.var? prog "strconv.ErrRange" = some #[.iface tp p]:=by
 have h1:=h.filter (λx=>x.1== "strconv.ErrRange");rw[e]at h1;obtain⟨a,_,hv,_⟩:=laid_sentinel (r:=[]) h1 (show prog.globalNamed _=some 5 by kernel_rfl) rfl underlying137 JV underlying431 underlying433 rfl rfl underlying9 kr7 kr7;exact⟨_,_,hv⟩
theorem ZA (hs:w.ShapedOpen prog)(h1:Lib.TabIs prog w "internal/strconv.uint64pow10" .u64 Lib.pow10Tab)(h2:∃ tp p,w.var? prog "strconv.ErrSyntax" = some #[.iface tp p])(h3:∃ tp p,w.var? prog "strconv.ErrRange" = some #[.iface tp p]):yK w:=by
 refine⟨hs,h1,h2,h3,?_,?_,?_⟩
 ·exact am (Lib.TabIs.cell h1 (show prog.globalNamed _=some 6 by kernel_rfl) 0 dc7)
 ·obtain⟨tp,p,e⟩:=h2;have:=World.var?_cell (show prog.globalNamed _=some 4 by kernel_rfl) e 0;exact am (a:=⟨4,0,none⟩) this
 ·obtain⟨tp,p,e⟩:=h3;have:=World.var?_cell (show prog.globalNamed _=some 5 by kernel_rfl) e 0;exact am (a:=⟨5,0,none⟩) this
end
end Go.Proofs.YtkghpdcloaiflaaGreatDoor
