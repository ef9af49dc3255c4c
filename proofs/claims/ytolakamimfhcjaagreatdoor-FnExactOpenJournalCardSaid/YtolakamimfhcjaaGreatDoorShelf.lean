/-
  DERIVED:THE SHELF's CONTRACTS AT THIS DUMP,IN PLAIN WORDS (tools/lay-plain.mjs out of 'TryzShelf.lean',which tools/lay-shelf.mjs wrote):THE SAME DECLARATIONS UNDER THE SAME NAMES: 'import','namespace','open','def','theorem' AND NOTHING ELSE:no command of the shelf's:FOR A HAND-IN. Each laying:the table of numbers ('.._ren') and one theorem,a field a fact of the dump's own or the kernel's comparison;each contract:ONE APPLICATION.
-/
import Derived.Shelf.Small.Wraps
import Derived.Shelf.Strconv.Atoi
import Derived.Shelf.Strconv.Itoa0
import Derived.Shelf.Strconv.Itoa1
import Derived.Shelf.LaysM
import Derived.Shelf.Strconv.Itoa2
import Derived.Shelf.Strconv.Itoa3
import Derived.Shelf.Strconv.AtoiErrFast
import Derived.Shelf.Strconv.ParseIntEmpty
import Derived.Shelf.Strconv.AtoiFail
import Derived.Shelf.Strconv.Clone
import Derived.Shelf.Strconv.SyntaxError
import Derived.Shelf.LaysC
import Derived.Shelf.Strconv.ToError
import Derived.Shelf.Strconv.AtoiErr
import Derived.Shelf.Strconv.ErrVar
import Derived.Shelf.Strconv.Lower
import Derived.Shelf.Strconv.ParseUint10
import Derived.Shelf.Strconv.ParseUint10Empty
import Derived.Shelf.Strconv.ParseUint10Any
import Derived.Shelf.Strconv.ParseInt10
import Derived.Shelf.Strconv.AtoiLong
import Derived.Shelf.Strconv.AtoiInnerAll
import Derived.Shelf.Strconv.RangeError
import Derived.Shelf.Strconv.ToErrorRange
import Derived.Shelf.Strconv.AtoiAll
import Derived.Shelf.Strconv.ErrVarAll
import Derived.Shelf.Strings.Prefix
import Derived.Test.YtolakamimfhcjaaGreatDoorProg
namespace Go.Proofs
open Go.Shelf
def Tryz.laysM171_ren:Go.Shelf.Ren:=⟨fun|171=>84|243=>104|246=>116|283=>122|284=>123|285=>124|286=>125|129=>130|317=>129|318=>131|319=>132|320=>133|337=>134|338=>135|n=>n,fun|3=>3|9=>9|2=>2|4=>4|171=>155|0=>0|53=>148|37=>95|5=>5|173=>158|212=>167|51=>111|20=>20|213=>168|46=>127|232=>172|233=>173|n=>n,fun|17=>2|18=>3|19=>4|n=>n⟩
theorem Tryz.laysM171:Go.Proofs.LaysM.n171 Tryz.prog Tryz.laysM171_ren:={
  mixed:=by kernel_rfl
  f129:=Tryz.func130.trans (congrArg some (by kernel_rfl))
  f171:=Tryz.func84.trans (congrArg some (by kernel_rfl))
  f243:=Tryz.func104.trans (congrArg some (by kernel_rfl))
  f246:=Tryz.func116.trans (congrArg some (by kernel_rfl))
  f283:=Tryz.func122.trans (congrArg some (by kernel_rfl))
  f284:=Tryz.func123.trans (congrArg some (by kernel_rfl))
  f285:=Tryz.func124.trans (congrArg some (by kernel_rfl))
  f286:=Tryz.func125.trans (congrArg some (by kernel_rfl))
  f317:=Tryz.func129.trans (congrArg some (by kernel_rfl))
  f318:=Tryz.func131.trans (congrArg some (by kernel_rfl))
  f319:=Tryz.func132.trans (congrArg some (by kernel_rfl))
  f320:=Tryz.func133.trans (congrArg some (by kernel_rfl))
  f337:=Tryz.func134.trans (congrArg some (by kernel_rfl))
  f338:=Tryz.func135.trans (congrArg some (by kernel_rfl))
  t0:=Tryz.underlying0
  a0:=Tryz.isAgg0
  z0:=Tryz.sizeOf0
  v0:=Tryz.zeroValue0
  t2:=Tryz.underlying2
  a2:=Tryz.isAgg2
  z2:=Tryz.sizeOf2
  v2:=Tryz.zeroValue2
  t3:=Tryz.underlying3
  a3:=Tryz.isAgg3
  z3:=Tryz.sizeOf3
  v3:=Tryz.zeroValue3
  t4:=Tryz.underlying4
  a4:=Tryz.isAgg4
  z4:=Tryz.sizeOf4
  v4:=Tryz.zeroValue4
  t5:=Tryz.underlying5
  a5:=Tryz.isAgg5
  z5:=Tryz.sizeOf5
  v5:=Tryz.zeroValue5
  t9:=Tryz.underlying9
  a9:=Tryz.isAgg9
  z9:=Tryz.sizeOf9
  v9:=Tryz.zeroValue9
  t20:=Tryz.underlying20
  a20:=Tryz.isAgg20
  z20:=Tryz.sizeOf20
  v20:=Tryz.zeroValue20
  t37:=Tryz.underlying95
  a37:=Tryz.isAgg95
  z37:=Tryz.sizeOf95
  v37:=Tryz.zeroValue95
  t46:=Tryz.underlying127
  a46:=Tryz.isAgg127
  z46:=Tryz.sizeOf127
  v46:=Tryz.zeroValue127
  t51:=Tryz.underlying111
  a51:=Tryz.isAgg111
  z51:=Tryz.sizeOf111
  v51:=Tryz.zeroValue111
  t53:=Tryz.underlying148
  a53:=Tryz.isAgg148
  z53:=Tryz.sizeOf148
  v53:=Tryz.zeroValue148
  t171:=Tryz.underlying155
  a171:=Tryz.isAgg155
  z171:=Tryz.sizeOf155
  v171:=Tryz.zeroValue155
  t173:=Tryz.underlying158
  a173:=Tryz.isAgg158
  z173:=Tryz.sizeOf158
  v173:=Tryz.zeroValue158
  t212:=Tryz.underlying167
  a212:=Tryz.isAgg167
  z212:=Tryz.sizeOf167
  v212:=Tryz.zeroValue167
  t213:=Tryz.underlying168
  a213:=Tryz.isAgg168
  z213:=Tryz.sizeOf168
  t232:=Tryz.underlying172
  a232:=Tryz.isAgg172
  z232:=Tryz.sizeOf172
  v232:=Tryz.zeroValue172
  t233:=Tryz.underlying173
  a233:=Tryz.isAgg173
  z233:=Tryz.sizeOf173
  v233:=Tryz.zeroValue173
  g17:=by kernel_rfl
  g18:=by kernel_rfl
  g19:=by kernel_rfl
  i0:=by kernel_rfl
  i2:=by kernel_rfl
  i3:=by kernel_rfl
  i4:=by kernel_rfl
  i5:=by kernel_rfl
  i9:=by kernel_rfl
  i20:=by kernel_rfl
  i37:=by kernel_rfl
  i46:=by kernel_rfl
  i51:=by kernel_rfl
  i53:=by kernel_rfl
  i171:=by kernel_rfl
  i173:=by kernel_rfl
  i212:=by kernel_rfl
  i232:=by kernel_rfl
  i233:=by kernel_rfl
  m17:=by kernel_rfl
  m18:=by kernel_rfl
  m19:=by kernel_rfl}
open Go.RowKit Go.Sort Go.Lib in
theorem Tryz.strconv_Itoa (n:Int) (h0: -9223372036854775808≤n) (h1:n≤9223372036854775807) (w:World) (htab:Lib.TabIs Tryz.prog w "internal/strconv.uint64pow10" .u64 Lib.pow10Tab):
    Calls Tryz.prog 84 #[.int .i64 n] w fun e w'=>e= .returned (.string ⟨(Lib.itoa n).toArray⟩)∧∃k os,w'=grow (w.drewN k) os:=Any.strconv_Itoa Tryz.laysM171 n h0 h1 w htab
def Tryz.laysC172_ren:Go.Shelf.Ren:=⟨fun|172=>81|244=>102|245=>103|247=>111|279=>112|280=>113|281=>114|282=>115|287=>119|316=>120|171=>84|205=>121|321=>127|322=>128|243=>104|246=>116|283=>122|284=>123|285=>124|286=>125|129=>130|317=>129|318=>131|319=>132|320=>133|337=>134|338=>135|n=>n,fun|9=>9|3=>3|75=>116|76=>117|4=>4|5=>5|167=>140|37=>95|0=>0|85=>141|2=>2|168=>143|53=>148|175=>149|46=>127|210=>153|127=>161|145=>164|143=>162|21=>21|171=>155|173=>158|212=>167|51=>111|20=>20|213=>168|232=>172|233=>173|80=>174|n=>n,fun|15=>0|16=>1|17=>2|18=>3|19=>4|n=>n⟩
theorem Tryz.laysC172:Go.Proofs.LaysC.n172 Tryz.prog Tryz.laysC172_ren:={
  mixed:=by kernel_rfl
  f129:=Tryz.func130.trans (congrArg some (by kernel_rfl))
  f171:=Tryz.func84.trans (congrArg some (by kernel_rfl))
  f172:=Tryz.func81.trans (congrArg some (by kernel_rfl))
  f205:=Tryz.func121.trans (congrArg some (by kernel_rfl))
  f243:=Tryz.func104.trans (congrArg some (by kernel_rfl))
  f244:=Tryz.func102.trans (congrArg some (by kernel_rfl))
  f245:=Tryz.func103.trans (congrArg some (by kernel_rfl))
  f246:=Tryz.func116.trans (congrArg some (by kernel_rfl))
  f247:=Tryz.func111.trans (congrArg some (by kernel_rfl))
  f279:=Tryz.func112.trans (congrArg some (by kernel_rfl))
  f280:=Tryz.func113.trans (congrArg some (by kernel_rfl))
  f281:=Tryz.func114.trans (congrArg some (by kernel_rfl))
  f282:=Tryz.func115.trans (congrArg some (by kernel_rfl))
  f283:=Tryz.func122.trans (congrArg some (by kernel_rfl))
  f284:=Tryz.func123.trans (congrArg some (by kernel_rfl))
  f285:=Tryz.func124.trans (congrArg some (by kernel_rfl))
  f286:=Tryz.func125.trans (congrArg some (by kernel_rfl))
  f287:=Tryz.func119.trans (congrArg some (by kernel_rfl))
  f316:=Tryz.func120.trans (congrArg some (by kernel_rfl))
  f317:=Tryz.func129.trans (congrArg some (by kernel_rfl))
  f318:=Tryz.func131.trans (congrArg some (by kernel_rfl))
  f319:=Tryz.func132.trans (congrArg some (by kernel_rfl))
  f320:=Tryz.func133.trans (congrArg some (by kernel_rfl))
  f321:=Tryz.func127.trans (congrArg some (by kernel_rfl))
  f322:=Tryz.func128.trans (congrArg some (by kernel_rfl))
  f337:=Tryz.func134.trans (congrArg some (by kernel_rfl))
  f338:=Tryz.func135.trans (congrArg some (by kernel_rfl))
  t0:=Tryz.underlying0
  a0:=Tryz.isAgg0
  z0:=Tryz.sizeOf0
  v0:=Tryz.zeroValue0
  t2:=Tryz.underlying2
  a2:=Tryz.isAgg2
  z2:=Tryz.sizeOf2
  v2:=Tryz.zeroValue2
  t3:=Tryz.underlying3
  a3:=Tryz.isAgg3
  z3:=Tryz.sizeOf3
  v3:=Tryz.zeroValue3
  t4:=Tryz.underlying4
  a4:=Tryz.isAgg4
  z4:=Tryz.sizeOf4
  v4:=Tryz.zeroValue4
  t5:=Tryz.underlying5
  a5:=Tryz.isAgg5
  z5:=Tryz.sizeOf5
  v5:=Tryz.zeroValue5
  t9:=Tryz.underlying9
  a9:=Tryz.isAgg9
  z9:=Tryz.sizeOf9
  v9:=Tryz.zeroValue9
  t20:=Tryz.underlying20
  a20:=Tryz.isAgg20
  z20:=Tryz.sizeOf20
  v20:=Tryz.zeroValue20
  t21:=Tryz.underlying21
  a21:=Tryz.isAgg21
  z21:=Tryz.sizeOf21
  v21:=Tryz.zeroValue21
  t37:=Tryz.underlying95
  a37:=Tryz.isAgg95
  z37:=Tryz.sizeOf95
  v37:=Tryz.zeroValue95
  t46:=Tryz.underlying127
  a46:=Tryz.isAgg127
  z46:=Tryz.sizeOf127
  v46:=Tryz.zeroValue127
  t51:=Tryz.underlying111
  a51:=Tryz.isAgg111
  z51:=Tryz.sizeOf111
  v51:=Tryz.zeroValue111
  t53:=Tryz.underlying148
  a53:=Tryz.isAgg148
  z53:=Tryz.sizeOf148
  v53:=Tryz.zeroValue148
  t75:=Tryz.underlying116
  a75:=Tryz.isAgg116
  z75:=Tryz.sizeOf116
  v75:=Tryz.zeroValue116
  t76:=Tryz.underlying117
  a76:=Tryz.isAgg117
  z76:=Tryz.sizeOf117
  v76:=Tryz.zeroValue117
  t85:=Tryz.underlying141
  a85:=Tryz.isAgg141
  z85:=Tryz.sizeOf141
  v85:=Tryz.zeroValue141
  t127:=Tryz.underlying161
  a127:=Tryz.isAgg161
  z127:=Tryz.sizeOf161
  v127:=Tryz.zeroValue161
  t143:=Tryz.underlying162
  a143:=Tryz.isAgg162
  z143:=Tryz.sizeOf162
  v143:=Tryz.zeroValue162
  t145:=Tryz.underlying164
  a145:=Tryz.isAgg164
  z145:=Tryz.sizeOf164
  v145:=Tryz.zeroValue164
  t167:=Tryz.underlying140
  a167:=Tryz.isAgg140
  z167:=Tryz.sizeOf140
  v167:=Tryz.zeroValue140
  t168:=Tryz.underlying143
  a168:=Tryz.isAgg143
  z168:=Tryz.sizeOf143
  v168:=Tryz.zeroValue143
  t171:=Tryz.underlying155
  a171:=Tryz.isAgg155
  z171:=Tryz.sizeOf155
  v171:=Tryz.zeroValue155
  t173:=Tryz.underlying158
  a173:=Tryz.isAgg158
  z173:=Tryz.sizeOf158
  v173:=Tryz.zeroValue158
  t175:=Tryz.underlying149
  a175:=Tryz.isAgg149
  z175:=Tryz.sizeOf149
  v175:=Tryz.zeroValue149
  t210:=Tryz.underlying153
  a210:=Tryz.isAgg153
  z210:=Tryz.sizeOf153
  v210:=Tryz.zeroValue153
  t212:=Tryz.underlying167
  a212:=Tryz.isAgg167
  z212:=Tryz.sizeOf167
  v212:=Tryz.zeroValue167
  t213:=Tryz.underlying168
  a213:=Tryz.isAgg168
  z213:=Tryz.sizeOf168
  t232:=Tryz.underlying172
  a232:=Tryz.isAgg172
  z232:=Tryz.sizeOf172
  v232:=Tryz.zeroValue172
  t233:=Tryz.underlying173
  a233:=Tryz.isAgg173
  z233:=Tryz.sizeOf173
  v233:=Tryz.zeroValue173
  g15:=by kernel_rfl
  g16:=by kernel_rfl
  g17:=by kernel_rfl
  g18:=by kernel_rfl
  g19:=by kernel_rfl
  t80:=Tryz.underlying174
  a80:=Tryz.isAgg174
  z80:=Tryz.sizeOf174
  v80:=Tryz.zeroValue174
  i0:=by kernel_rfl
  i2:=by kernel_rfl
  i3:=by kernel_rfl
  i4:=by kernel_rfl
  i5:=by kernel_rfl
  i9:=by kernel_rfl
  i20:=by kernel_rfl
  i21:=by kernel_rfl
  i37:=by kernel_rfl
  i46:=by kernel_rfl
  i51:=by kernel_rfl
  i53:=by kernel_rfl
  i75:=by kernel_rfl
  i76:=by kernel_rfl
  i80:=by kernel_rfl
  i85:=by kernel_rfl
  i127:=by kernel_rfl
  i143:=by kernel_rfl
  i145:=by kernel_rfl
  i167:=by kernel_rfl
  i168:=by kernel_rfl
  i171:=by kernel_rfl
  i173:=by kernel_rfl
  i175:=by kernel_rfl
  i210:=by kernel_rfl
  i212:=by kernel_rfl
  i232:=by kernel_rfl
  i233:=by kernel_rfl
  m15:=by kernel_rfl
  m16:=by kernel_rfl
  m17:=by kernel_rfl
  m18:=by kernel_rfl
  m19:=by kernel_rfl
  c0:=by kernel_rfl
  c2:=by kernel_rfl
  c3:=by kernel_rfl
  c4:=by kernel_rfl
  c5:=by kernel_rfl
  c9:=by kernel_rfl
  c20:=by kernel_rfl
  c21:=by kernel_rfl
  c37:=by kernel_rfl
  c46:=by kernel_rfl
  c51:=by kernel_rfl
  c53:=by kernel_rfl
  c75:=by kernel_rfl
  c76:=by kernel_rfl
  c80:=by kernel_rfl
  c85:=by kernel_rfl
  c127:=by kernel_rfl
  c143:=by kernel_rfl
  c145:=by kernel_rfl
  c167:=by kernel_rfl
  c168:=by kernel_rfl
  c171:=by kernel_rfl
  c173:=by kernel_rfl
  c175:=by kernel_rfl
  c210:=by kernel_rfl
  c212:=by kernel_rfl
  c213:=by kernel_rfl
  c232:=by kernel_rfl
  c233:=by kernel_rfl}
open Go.RowKit in
theorem Tryz.strconv_Atoi_ok (s:ByteArray) (hmax:s.size≤9223372036854775806) (v:Int) (h:Lib.atoiAll s.data.toList= .ok v) (w:World):
    Calls Tryz.prog 81 #[.string s] w fun e w'=>e= .returned (.tuple #[.int .i64 v,.nilIface])∧(w'=w∨∃t,w'=Lib.bytesWorld w 5 t):=Any.strconv_Atoi_ok Tryz.laysC172 s hmax v h w
open Go.RowKit in
theorem Tryz.strconv_Atoi_syntax_var (s:ByteArray) (hlim:s.size≤281474976710656) (h:Lib.atoiAll s.data.toList=Lib.atoiAll []) (tp:TypeId) (p:Value) (w:World) (hvar:w.var? Tryz.prog "strconv.ErrSyntax" =some #[.iface tp p]):
    Calls Tryz.prog 81 #[.string s] w fun e w'=>∃N,e= .returned (.tuple #[.int .i64 0,.iface 143 (.pointer (some ⟨N,0,none⟩))])∧w.heap.size≤N∧w'.heap[N]? =some (.cells #[.string ⟨#[65,116,111,105]⟩,.string s,.iface tp p] 153 (0,0))∧Below w.heap.size w w':=Any.strconv_Atoi_syntax_var Tryz.laysC172 s hlim h tp p w hvar
open Go.RowKit in
theorem Tryz.strconv_Atoi_range_var (s:ByteArray) (hlim:s.size≤281474976710656) (h:Lib.atoiAll s.data.toList= .range) (tp:TypeId) (p:Value) (w:World) (hvar:w.var? Tryz.prog "strconv.ErrRange" =some #[.iface tp p]):
    Calls Tryz.prog 81 #[.string s] w fun e w'=>∃N,e= .returned (.tuple #[.int .i64 (Lib.atoiSat s.data.toList),.iface 143 (.pointer (some ⟨N,0,none⟩))])∧w.heap.size≤N∧w'.heap[N]? =some (.cells #[.string ⟨#[65,116,111,105]⟩,.string s,.iface tp p] 153 (0,0))∧Below w.heap.size w w':=Any.strconv_Atoi_range_var Tryz.laysC172 s hlim h tp p w hvar
def Tryz.lays103_ren:Go.Shelf.Ren:=⟨fun|103=>51|210=>80|206=>101|n=>n,fun|9=>9|4=>4|24=>50|3=>3|n=>n,fun|n=>n⟩
theorem Tryz.lays103:Go.Proofs.Lays.n103 Tryz.prog Tryz.lays103_ren:={
  mixed:=by kernel_rfl
  f103:=Tryz.func51.trans (congrArg some (by kernel_rfl))
  f206:=Tryz.func101.trans (congrArg some (by kernel_rfl))
  f210:=Tryz.func80.trans (congrArg some (by kernel_rfl))
  t3:=Tryz.underlying3
  a3:=Tryz.isAgg3
  z3:=Tryz.sizeOf3
  v3:=Tryz.zeroValue3
  t4:=Tryz.underlying4
  a4:=Tryz.isAgg4
  z4:=Tryz.sizeOf4
  v4:=Tryz.zeroValue4
  t9:=Tryz.underlying9
  a9:=Tryz.isAgg9
  z9:=Tryz.sizeOf9
  v9:=Tryz.zeroValue9
  t24:=Tryz.underlying50
  a24:=Tryz.isAgg50
  z24:=Tryz.sizeOf50
  v24:=Tryz.zeroValue50}
open Go.RowKit in
theorem Tryz.strings_CutPrefix (s p:ByteArray) (w:World):
    Calls Tryz.prog 51 #[.string s,.string p] w fun e w'=>e= .returned (.tuple #[.string ⟨(Lib.trimPrefix s.data.toList p.data.toList).toArray⟩,.bool (Lib.hasPrefix s.data.toList p.data.toList)])∧w'=w:=Any.strings_CutPrefix Tryz.lays103 s p w
end Go.Proofs
