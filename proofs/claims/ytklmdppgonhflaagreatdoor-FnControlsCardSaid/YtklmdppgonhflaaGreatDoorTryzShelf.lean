/-
 DERIVED: THE SHELF's CONTRACTS AT THIS DUMP, IN PLAIN WORDS (tools/lay-plain.mjs out of 'TryzShelf.lean', which tools/lay-shelf.mjs wrote): THE SAME DECLARATIONS UNDER THE SAME NAMES: 'import', 'namespace', 'open', 'def', 'theorem' AND NOTHING ELSE: no command of the shelf's: FOR A HAND-IN. Each laying: the table of numbers ('.._ren') and one theorem, a field a fact of the dump's own or the kernel's comparison; each contract: ONE APPLICATION.
-/
import Derived.Shelf.Small.Strs
import Derived.Shelf.Utf8.RuneCount
import Derived.Shelf.Strconv.Itoa0
import Derived.Shelf.Strconv.Itoa1
import Derived.Shelf.LaysM
import Derived.Shelf.Strconv.Itoa2
import Derived.Shelf.Strconv.Itoa3
import Derived.Shelf.Strconv.Itoa4
import Derived.Shelf.Strconv.ParseIntEmpty
import Derived.Shelf.Strconv.Clone
import Derived.Shelf.Strconv.SyntaxError
import Derived.Shelf.LaysC
import Derived.Shelf.Strconv.ToError
import Derived.Shelf.Strconv.Lower
import Derived.Shelf.Strconv.ParseUint10
import Derived.Shelf.Strconv.ParseUint10Empty
import Derived.Shelf.Strconv.ParseUint10Any
import Derived.Shelf.Strconv.ParseInt10
import Derived.Shelf.Strconv.RangeError
import Derived.Shelf.Strconv.ToErrorRange
import Derived.Shelf.Strconv.ParseUintEmpty
import Derived.Shelf.Strconv.ParseUint10b64
import Derived.Shelf.Strconv.ParseUint10b32
import Derived.Shelf.Strconv.ParseUint10b16
import Derived.Shelf.Strconv.ParseUint10b8
import Derived.Shelf.Strconv.ParseUint10At
import Derived.Shelf.Strconv.ParseInt10At64
import Derived.Shelf.Strconv.ParseInt10At32
import Derived.Shelf.Strconv.ParseInt10At16
import Derived.Shelf.Strconv.ParseInt10At8
import Derived.Shelf.Strconv.ParseInt10All
import Derived.Shelf.Strconv.ParseIntPublic10
import Derived.Shelf.Strconv.ErrVarParseInt
import Derived.Shelf.Strings.Search1
import Derived.Shelf.Strings.Search2
import Derived.Shelf.Strings.Search3
import Derived.Shelf.Strings.Count
import Derived.Shelf.Strings.Shaped
import Derived.Shelf.Strings.Prefix
import Derived.Shelf.Strings.Split
import Derived.Shelf.Unicode.Decode
import Derived.Shelf.Strings.RuneCount
import Derived.Shelf.Strings.Explode
import Derived.Shelf.Unicode.DecodeSlow
import Derived.Shelf.Unicode.DecodeAny
import Derived.Test.YtklmdppgonhflaaGreatDoorProg
set_option linter.all false
set_option maxHeartbeats 8000000
namespace Go.Proofs
open Go.Shelf
def Tryz.laysM246_ren:Go.Shelf.Ren:=⟨fun|246=>124|283=>150|284=>151|285=>152|286=>153|129=>184|317=>183|318=>185|319=>186|320=>187|337=>216|338=>217|n=>n,fun|2=>2|3=>3|9=>9|4=>4|171=>167|0=>0|53=>92|37=>22|5=>5|173=>170|212=>198|51=>199|20=>20|213=>200|46=>135|232=>249|233=>250|n=>n,fun|17=>0|18=>6|19=>7|n=>n⟩
theorem Tryz.laysM246:Go.Proofs.LaysM.n246 Tryz.prog Tryz.laysM246_ren:={
  mixed:=by kernel_rfl
  f129:=Tryz.func184.trans (congrArg some (by kernel_rfl))
  f246:=Tryz.func124.trans (congrArg some (by kernel_rfl))
  f283:=Tryz.func150.trans (congrArg some (by kernel_rfl))
  f284:=Tryz.func151.trans (congrArg some (by kernel_rfl))
  f285:=Tryz.func152.trans (congrArg some (by kernel_rfl))
  f286:=Tryz.func153.trans (congrArg some (by kernel_rfl))
  f317:=Tryz.func183.trans (congrArg some (by kernel_rfl))
  f318:=Tryz.func185.trans (congrArg some (by kernel_rfl))
  f319:=Tryz.func186.trans (congrArg some (by kernel_rfl))
  f320:=Tryz.func187.trans (congrArg some (by kernel_rfl))
  f337:=Tryz.func216.trans (congrArg some (by kernel_rfl))
  f338:=Tryz.func217.trans (congrArg some (by kernel_rfl))
  t0:=Tryz.underlying0
  a0:=Tryz.isAgg0
  z0:=Tryz.sizeOf0
  v0:=Tryz.zeroValue0
  t2:=Tryz.underlying2
  a2:=Tryz.isAgg2
  z2:=Tryz.sizeOf2
  v2:=Tryz.zeroValue2
  t3:=Tryz.underlying3
  a3:=Tryz.isAgg3
  z3:=Tryz.sizeOf3
  v3:=Tryz.zeroValue3
  t4:=Tryz.underlying4
  a4:=Tryz.isAgg4
  z4:=Tryz.sizeOf4
  v4:=Tryz.zeroValue4
  t5:=Tryz.underlying5
  a5:=Tryz.isAgg5
  z5:=Tryz.sizeOf5
  v5:=Tryz.zeroValue5
  t9:=Tryz.underlying9
  a9:=Tryz.isAgg9
  z9:=Tryz.sizeOf9
  v9:=Tryz.zeroValue9
  t20:=Tryz.underlying20
  a20:=Tryz.isAgg20
  z20:=Tryz.sizeOf20
  v20:=Tryz.zeroValue20
  t37:=Tryz.underlying22
  a37:=Tryz.isAgg22
  z37:=Tryz.sizeOf22
  v37:=Tryz.zeroValue22
  t46:=Tryz.underlying135
  a46:=Tryz.isAgg135
  z46:=Tryz.sizeOf135
  v46:=Tryz.zeroValue135
  t51:=Tryz.underlying199
  a51:=Tryz.isAgg199
  z51:=Tryz.sizeOf199
  v51:=Tryz.zeroValue199
  t53:=Tryz.underlying92
  a53:=Tryz.isAgg92
  z53:=Tryz.sizeOf92
  v53:=Tryz.zeroValue92
  t171:=Tryz.underlying167
  a171:=Tryz.isAgg167
  z171:=Tryz.sizeOf167
  v171:=Tryz.zeroValue167
  t173:=Tryz.underlying170
  a173:=Tryz.isAgg170
  z173:=Tryz.sizeOf170
  v173:=Tryz.zeroValue170
  t212:=Tryz.underlying198
  a212:=Tryz.isAgg198
  z212:=Tryz.sizeOf198
  v212:=Tryz.zeroValue198
  t213:=Tryz.underlying200
  a213:=Tryz.isAgg200
  z213:=Tryz.sizeOf200
  t232:=Tryz.underlying249
  a232:=Tryz.isAgg249
  z232:=Tryz.sizeOf249
  v232:=Tryz.zeroValue249
  t233:=Tryz.underlying250
  a233:=Tryz.isAgg250
  z233:=Tryz.sizeOf250
  v233:=Tryz.zeroValue250
  g17:=by kernel_rfl
  g18:=by kernel_rfl
  g19:=by kernel_rfl
  i0:=by kernel_rfl
  i2:=by kernel_rfl
  i3:=by kernel_rfl
  i4:=by kernel_rfl
  i5:=by kernel_rfl
  i9:=by kernel_rfl
  i20:=by kernel_rfl
  i37:=by kernel_rfl
  i46:=by kernel_rfl
  i51:=by kernel_rfl
  i53:=by kernel_rfl
  i171:=by kernel_rfl
  i173:=by kernel_rfl
  i212:=by kernel_rfl
  i232:=by kernel_rfl
  i233:=by kernel_rfl
  m17:=by kernel_rfl
  m18:=by kernel_rfl
  m19:=by kernel_rfl}
def Tryz.laysC174_ren:Go.Shelf.Ren:=⟨fun|174=>99|247=>128|245=>129|287=>158|279=>159|280=>160|281=>161|282=>162|321=>192|322=>193|316=>194|171=>196|205=>195|243=>219|246=>124|283=>150|284=>151|285=>152|286=>153|129=>184|317=>183|318=>185|319=>186|320=>187|337=>216|338=>217|n=>n,fun|9=>9|3=>3|2=>2|75=>120|85=>121|4=>4|167=>175|5=>5|53=>92|175=>176|46=>135|168=>178|37=>22|0=>0|210=>206|21=>21|127=>230|145=>233|143=>231|171=>167|173=>170|212=>198|51=>199|20=>20|213=>200|232=>249|233=>250|80=>134|n=>n,fun|15=>2|16=>3|17=>0|18=>6|19=>7|n=>n⟩
theorem Tryz.laysC174:Go.Proofs.LaysC.n174 Tryz.prog Tryz.laysC174_ren:={
  mixed:=by kernel_rfl
  f129:=Tryz.func184.trans (congrArg some (by kernel_rfl))
  f171:=Tryz.func196.trans (congrArg some (by kernel_rfl))
  f174:=Tryz.func99.trans (congrArg some (by kernel_rfl))
  f205:=Tryz.func195.trans (congrArg some (by kernel_rfl))
  f243:=Tryz.func219.trans (congrArg some (by kernel_rfl))
  f245:=Tryz.func129.trans (congrArg some (by kernel_rfl))
  f246:=Tryz.func124.trans (congrArg some (by kernel_rfl))
  f247:=Tryz.func128.trans (congrArg some (by kernel_rfl))
  f279:=Tryz.func159.trans (congrArg some (by kernel_rfl))
  f280:=Tryz.func160.trans (congrArg some (by kernel_rfl))
  f281:=Tryz.func161.trans (congrArg some (by kernel_rfl))
  f282:=Tryz.func162.trans (congrArg some (by kernel_rfl))
  f283:=Tryz.func150.trans (congrArg some (by kernel_rfl))
  f284:=Tryz.func151.trans (congrArg some (by kernel_rfl))
  f285:=Tryz.func152.trans (congrArg some (by kernel_rfl))
  f286:=Tryz.func153.trans (congrArg some (by kernel_rfl))
  f287:=Tryz.func158.trans (congrArg some (by kernel_rfl))
  f316:=Tryz.func194.trans (congrArg some (by kernel_rfl))
  f317:=Tryz.func183.trans (congrArg some (by kernel_rfl))
  f318:=Tryz.func185.trans (congrArg some (by kernel_rfl))
  f319:=Tryz.func186.trans (congrArg some (by kernel_rfl))
  f320:=Tryz.func187.trans (congrArg some (by kernel_rfl))
  f321:=Tryz.func192.trans (congrArg some (by kernel_rfl))
  f322:=Tryz.func193.trans (congrArg some (by kernel_rfl))
  f337:=Tryz.func216.trans (congrArg some (by kernel_rfl))
  f338:=Tryz.func217.trans (congrArg some (by kernel_rfl))
  t0:=Tryz.underlying0
  a0:=Tryz.isAgg0
  z0:=Tryz.sizeOf0
  v0:=Tryz.zeroValue0
  t2:=Tryz.underlying2
  a2:=Tryz.isAgg2
  z2:=Tryz.sizeOf2
  v2:=Tryz.zeroValue2
  t3:=Tryz.underlying3
  a3:=Tryz.isAgg3
  z3:=Tryz.sizeOf3
  v3:=Tryz.zeroValue3
  t4:=Tryz.underlying4
  a4:=Tryz.isAgg4
  z4:=Tryz.sizeOf4
  v4:=Tryz.zeroValue4
  t5:=Tryz.underlying5
  a5:=Tryz.isAgg5
  z5:=Tryz.sizeOf5
  v5:=Tryz.zeroValue5
  t9:=Tryz.underlying9
  a9:=Tryz.isAgg9
  z9:=Tryz.sizeOf9
  v9:=Tryz.zeroValue9
  t20:=Tryz.underlying20
  a20:=Tryz.isAgg20
  z20:=Tryz.sizeOf20
  v20:=Tryz.zeroValue20
  t21:=Tryz.underlying21
  a21:=Tryz.isAgg21
  z21:=Tryz.sizeOf21
  v21:=Tryz.zeroValue21
  t37:=Tryz.underlying22
  a37:=Tryz.isAgg22
  z37:=Tryz.sizeOf22
  v37:=Tryz.zeroValue22
  t46:=Tryz.underlying135
  a46:=Tryz.isAgg135
  z46:=Tryz.sizeOf135
  v46:=Tryz.zeroValue135
  t51:=Tryz.underlying199
  a51:=Tryz.isAgg199
  z51:=Tryz.sizeOf199
  v51:=Tryz.zeroValue199
  t53:=Tryz.underlying92
  a53:=Tryz.isAgg92
  z53:=Tryz.sizeOf92
  v53:=Tryz.zeroValue92
  t75:=Tryz.underlying120
  a75:=Tryz.isAgg120
  z75:=Tryz.sizeOf120
  v75:=Tryz.zeroValue120
  t85:=Tryz.underlying121
  a85:=Tryz.isAgg121
  z85:=Tryz.sizeOf121
  v85:=Tryz.zeroValue121
  t127:=Tryz.underlying230
  a127:=Tryz.isAgg230
  z127:=Tryz.sizeOf230
  v127:=Tryz.zeroValue230
  t143:=Tryz.underlying231
  a143:=Tryz.isAgg231
  z143:=Tryz.sizeOf231
  v143:=Tryz.zeroValue231
  t145:=Tryz.underlying233
  a145:=Tryz.isAgg233
  z145:=Tryz.sizeOf233
  v145:=Tryz.zeroValue233
  t167:=Tryz.underlying175
  a167:=Tryz.isAgg175
  z167:=Tryz.sizeOf175
  v167:=Tryz.zeroValue175
  t168:=Tryz.underlying178
  a168:=Tryz.isAgg178
  z168:=Tryz.sizeOf178
  v168:=Tryz.zeroValue178
  t171:=Tryz.underlying167
  a171:=Tryz.isAgg167
  z171:=Tryz.sizeOf167
  v171:=Tryz.zeroValue167
  t173:=Tryz.underlying170
  a173:=Tryz.isAgg170
  z173:=Tryz.sizeOf170
  v173:=Tryz.zeroValue170
  t175:=Tryz.underlying176
  a175:=Tryz.isAgg176
  z175:=Tryz.sizeOf176
  v175:=Tryz.zeroValue176
  t210:=Tryz.underlying206
  a210:=Tryz.isAgg206
  z210:=Tryz.sizeOf206
  v210:=Tryz.zeroValue206
  t212:=Tryz.underlying198
  a212:=Tryz.isAgg198
  z212:=Tryz.sizeOf198
  v212:=Tryz.zeroValue198
  t213:=Tryz.underlying200
  a213:=Tryz.isAgg200
  z213:=Tryz.sizeOf200
  t232:=Tryz.underlying249
  a232:=Tryz.isAgg249
  z232:=Tryz.sizeOf249
  v232:=Tryz.zeroValue249
  t233:=Tryz.underlying250
  a233:=Tryz.isAgg250
  z233:=Tryz.sizeOf250
  v233:=Tryz.zeroValue250
  g15:=by kernel_rfl
  g16:=by kernel_rfl
  g17:=by kernel_rfl
  g18:=by kernel_rfl
  g19:=by kernel_rfl
  t80:=Tryz.underlying134
  a80:=Tryz.isAgg134
  z80:=Tryz.sizeOf134
  v80:=Tryz.zeroValue134
  i0:=by kernel_rfl
  i2:=by kernel_rfl
  i3:=by kernel_rfl
  i4:=by kernel_rfl
  i5:=by kernel_rfl
  i9:=by kernel_rfl
  i20:=by kernel_rfl
  i21:=by kernel_rfl
  i37:=by kernel_rfl
  i46:=by kernel_rfl
  i51:=by kernel_rfl
  i53:=by kernel_rfl
  i75:=by kernel_rfl
  i80:=by kernel_rfl
  i85:=by kernel_rfl
  i127:=by kernel_rfl
  i143:=by kernel_rfl
  i145:=by kernel_rfl
  i167:=by kernel_rfl
  i168:=by kernel_rfl
  i171:=by kernel_rfl
  i173:=by kernel_rfl
  i175:=by kernel_rfl
  i210:=by kernel_rfl
  i212:=by kernel_rfl
  i232:=by kernel_rfl
  i233:=by kernel_rfl
  m15:=by kernel_rfl
  m16:=by kernel_rfl
  m17:=by kernel_rfl
  m18:=by kernel_rfl
  m19:=by kernel_rfl
  c0:=by kernel_rfl
  c2:=by kernel_rfl
  c3:=by kernel_rfl
  c4:=by kernel_rfl
  c5:=by kernel_rfl
  c9:=by kernel_rfl
  c20:=by kernel_rfl
  c21:=by kernel_rfl
  c37:=by kernel_rfl
  c46:=by kernel_rfl
  c51:=by kernel_rfl
  c53:=by kernel_rfl
  c75:=by kernel_rfl
  c80:=by kernel_rfl
  c85:=by kernel_rfl
  c127:=by kernel_rfl
  c143:=by kernel_rfl
  c145:=by kernel_rfl
  c167:=by kernel_rfl
  c168:=by kernel_rfl
  c171:=by kernel_rfl
  c173:=by kernel_rfl
  c175:=by kernel_rfl
  c210:=by kernel_rfl
  c212:=by kernel_rfl
  c213:=by kernel_rfl
  c232:=by kernel_rfl
  c233:=by kernel_rfl}
open Go.RowKit in
theorem Tryz.strconv_ParseInt_10_at64_ok (s:ByteArray) (F:s.size<=9223372036854775806) (v:Int) (h:Lib.parseIntB 64 s.data.toList=.ok v) (w:World) :
  Calls Tryz.prog 99 #[.string s,.int .i64 10,.int .i64 64] w λe w'=>e=.returned (.tuple #[.int .i64 v,.nilIface])∧(w'=w∨∃t,w'=Lib.bytesWorld w 5 t):=Any.strconv_ParseInt_10_at64_ok Tryz.laysC174 s F v h w
open Go.RowKit in
theorem Tryz.strconv_ParseInt_10_at64_syntax (s:ByteArray) (F:s.size<=281474976710656) (h:Lib.parseIntB 64 s.data.toList=Lib.parseIntB 64 []) (ev:Value) (w:World) (H:w.cell? ⟨2,0,none⟩=some ev) (G:ev=.nilIface∨∃te I,ev=.iface te I) :
  Calls Tryz.prog 99 #[.string s,.int .i64 10,.int .i64 64] w λe w'=>∃N,e=.returned (.tuple #[.int .i64 (0),.iface 178 (.pointer (some ⟨N,0,none⟩))])∧w.heap.size<=N∧w'.heap[N]? = some (.cells #[.string ⟨#[80,97,114,115,101,73,110,116]⟩,.string s,ev] 206 (0,0))∧Below w.heap.size w w':=Any.strconv_ParseInt_10_at64_syntax Tryz.laysC174 s F h ev w H G
open Go.RowKit in
theorem Tryz.strconv_ParseInt_10_at64_range (s:ByteArray) (F:s.size<=281474976710656) (h:Lib.parseIntB 64 s.data.toList=.range) (ev:Value) (w:World) (H:w.cell? ⟨3,0,none⟩=some ev) (G:ev=.nilIface∨∃te I,ev=.iface te I) :
  Calls Tryz.prog 99 #[.string s,.int .i64 10,.int .i64 64] w λe w'=>∃N,e=.returned (.tuple #[.int .i64 (Lib.intSat 64 s.data.toList),.iface 178 (.pointer (some ⟨N,0,none⟩))])∧w.heap.size<=N∧w'.heap[N]? = some (.cells #[.string ⟨#[80,97,114,115,101,73,110,116]⟩,.string s,ev] 206 (0,0))∧Below w.heap.size w w':=Any.strconv_ParseInt_10_at64_range Tryz.laysC174 s F h ev w H G
def Tryz.lays101_ren:Go.Shelf.Ren:=⟨fun|101=>100|208=>130|206=>163|n=>n,fun|9=>9|4=>4|3=>3|n=>n,fun|n=>n⟩
theorem Tryz.lays101:Go.Proofs.Lays.n101 Tryz.prog Tryz.lays101_ren:={
  mixed:=by kernel_rfl
  f101:=Tryz.func100.trans (congrArg some (by kernel_rfl))
  f206:=Tryz.func163.trans (congrArg some (by kernel_rfl))
  f208:=Tryz.func130.trans (congrArg some (by kernel_rfl))
  t3:=Tryz.underlying3
  a3:=Tryz.isAgg3
  z3:=Tryz.sizeOf3
  v3:=Tryz.zeroValue3
  t4:=Tryz.underlying4
  a4:=Tryz.isAgg4
  z4:=Tryz.sizeOf4
  v4:=Tryz.zeroValue4
  t9:=Tryz.underlying9
  a9:=Tryz.isAgg9
  z9:=Tryz.sizeOf9
  v9:=Tryz.zeroValue9}
open Go.RowKit Go.Lib in
theorem Tryz.strings_TrimPrefix (s p:ByteArray) (w:World) :
  Calls Tryz.prog 100 #[.string s,.string p] w λe w'=>e=.returned (.string ⟨(Lib.trimPrefix s.data.toList p.data.toList).toArray⟩)∧w'=w:=Any.strings_TrimPrefix Tryz.lays101 s p w
def Tryz.lays146_ren:Go.Shelf.Ren:=⟨fun|146=>58|221=>98|268=>125|138=>126|143=>127|195=>154|197=>155|218=>156|219=>157|260=>188|217=>182|225=>189|224=>190|267=>191|266=>215|314=>218|n=>n,fun|9=>9|31=>85|3=>3|4=>4|0=>0|105=>173|21=>21|5=>5|46=>135|119=>224|139=>227|138=>226|146=>228|51=>199|n=>n,fun|1=>1|3=>4|4=>5|n=>n⟩
theorem Tryz.lays146:Go.Proofs.Lays.n146 Tryz.prog Tryz.lays146_ren:={
  mixed:=by kernel_rfl
  f138:=Tryz.func126.trans (congrArg some (by kernel_rfl))
  f143:=Tryz.func127.trans (congrArg some (by kernel_rfl))
  f146:=Tryz.func58.trans (congrArg some (by kernel_rfl))
  f195:=Tryz.func154.trans (congrArg some (by kernel_rfl))
  f197:=Tryz.func155.trans (congrArg some (by kernel_rfl))
  f217:=Tryz.func182.trans (congrArg some (by kernel_rfl))
  f218:=Tryz.func156.trans (congrArg some (by kernel_rfl))
  f219:=Tryz.func157.trans (congrArg some (by kernel_rfl))
  f221:=Tryz.func98.trans (congrArg some (by kernel_rfl))
  f224:=Tryz.func190.trans (congrArg some (by kernel_rfl))
  f225:=Tryz.func189.trans (congrArg some (by kernel_rfl))
  f260:=Tryz.func188.trans (congrArg some (by kernel_rfl))
  f266:=Tryz.func215.trans (congrArg some (by kernel_rfl))
  f267:=Tryz.func191.trans (congrArg some (by kernel_rfl))
  f268:=Tryz.func125.trans (congrArg some (by kernel_rfl))
  f314:=Tryz.func218.trans (congrArg some (by kernel_rfl))
  t0:=Tryz.underlying0
  a0:=Tryz.isAgg0
  z0:=Tryz.sizeOf0
  v0:=Tryz.zeroValue0
  t3:=Tryz.underlying3
  a3:=Tryz.isAgg3
  z3:=Tryz.sizeOf3
  v3:=Tryz.zeroValue3
  t4:=Tryz.underlying4
  a4:=Tryz.isAgg4
  z4:=Tryz.sizeOf4
  v4:=Tryz.zeroValue4
  t5:=Tryz.underlying5
  a5:=Tryz.isAgg5
  z5:=Tryz.sizeOf5
  v5:=Tryz.zeroValue5
  t9:=Tryz.underlying9
  a9:=Tryz.isAgg9
  z9:=Tryz.sizeOf9
  v9:=Tryz.zeroValue9
  t21:=Tryz.underlying21
  a21:=Tryz.isAgg21
  z21:=Tryz.sizeOf21
  v21:=Tryz.zeroValue21
  t31:=Tryz.underlying85
  a31:=Tryz.isAgg85
  z31:=Tryz.sizeOf85
  v31:=Tryz.zeroValue85
  t46:=Tryz.underlying135
  a46:=Tryz.isAgg135
  z46:=Tryz.sizeOf135
  v46:=Tryz.zeroValue135
  t51:=Tryz.underlying199
  a51:=Tryz.isAgg199
  z51:=Tryz.sizeOf199
  v51:=Tryz.zeroValue199
  t105:=Tryz.underlying173
  a105:=Tryz.isAgg173
  z105:=Tryz.sizeOf173
  v105:=Tryz.zeroValue173
  t119:=Tryz.underlying224
  a119:=Tryz.isAgg224
  z119:=Tryz.sizeOf224
  t138:=Tryz.underlying226
  a138:=Tryz.isAgg226
  z138:=Tryz.sizeOf226
  v138:=Tryz.zeroValue226
  t139:=Tryz.underlying227
  a139:=Tryz.isAgg227
  z139:=Tryz.sizeOf227
  v139:=Tryz.zeroValue227
  t146:=Tryz.underlying228
  a146:=Tryz.isAgg228
  z146:=Tryz.sizeOf228
  v146:=Tryz.zeroValue228
  g1:=by kernel_rfl
  g3:=by kernel_rfl
  g4:=by kernel_rfl}
open Go.RowKit Go.Lib in
theorem Tryz.strings_Split (s F:ByteArray) (m:Int) (w:World) (I:s.size<4294967281) (H:w.cell? ⟨1,0,none⟩=some (.int .i64 m)) (G:1<=F.size) :
  Calls Tryz.prog 58 #[.string s,.string F] w λe w' =>
   e=.returned (.slice (some ⟨w.heap.size,0,none⟩) (Lib.countB s F+1) (Lib.countB s F+1))∧w'=w.alloc (.cells ((Lib.splitB F 0 (Lib.countB s F) s).map Value.string).toArray 9):=Any.strings_Split Tryz.lays146 (by kernel_rfl) s F m w I H G
end Go.Proofs
