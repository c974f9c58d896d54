/- Parts of the proof. -/
import Derived.Shelf.Strings.OnBuilder
import Derived.Shelf.Small.Utf8
import Derived.Shelf.Strings.BuilderK
import Derived.Shelf.Strconv.Itoa4
import Derived.Shelf.Strconv.ErrVarParseInt
import Derived.Shelf.Strings.Shaped
import Derived.Shelf.Strings.Prefix
import Derived.Shelf.Strings.SplitShaped
import Derived.Shelf.Unicode.DecodeSlow
import Derived.Shelf.Unicode.IsSpaceAny
import Derived.Shelf.Unicode.CaseLaid
import Derived.Shelf.Unicode.ExclAny
import Derived.Test.YtehhdlgjfdnafaaGreatDoorProg
import Derived.Deep.AppendLies
import Derived.Test.YtehhdlgjfdnafaaGreatDoorXE1
namespace Go.Proofs.YtehhdlgjfdnafaaGreatDoor
open List
variable{p:Prop}
set_option maxHeartbeats 90000000
set_option maxRecDepth 100000
open Go.Shelf
def Tryz.lays169_ren:Go.Shelf.Ren:=⟨λ | 169=>49 | n=>n,λ | 70=>58 | 9=>9 | 0=>0 | 72=>61 | 37=>59 | 127=>139 | 3=>3 | 5=>5 | n=>n,λ | n=>n⟩
theorem Tryz.lays169:Go.Proofs.Lays.n169 Tryz.prog Tryz.lays169_ren:= {
 mixed:=by kernel_rfl
 f169:=Tryz.func49.trans (congrArg some Tab)
 t0:=Tryz.underlying0
 a0:=Tryz.isAgg0
 z0:=Tryz.sizeOf0
 v0:=Tryz.zeroValue0
 t3:=Tryz.underlying3
 a3:=Tryz.isAgg3
 z3:=Tryz.sizeOf3
 v3:=Tryz.zeroValue3
 t9:=Tryz.underlying9
 a9:=Tryz.isAgg9
 z9:=Tryz.sizeOf9
 v9:=Tryz.zeroValue9
 t37:=Tryz.underlying59
 a37:=Tryz.isAgg59
 z37:=Tryz.sizeOf59
 v37:=Tryz.zeroValue59
 t70:=Tryz.underlying58
 a70:=Tryz.isAgg58
 z70:=Tryz.sizeOf58
 v70:=Tryz.zeroValue58
 t72:=Tryz.underlying61
 a72:=Tryz.isAgg61
 z72:=Tryz.sizeOf61
 v72:=Tryz.zeroValue61
 t127:=Tryz.underlying139
 a127:=Tryz.isAgg139
 z127:=Tryz.sizeOf139
 v127:=Tryz.zeroValue139 }
theorem Tryz.Builder_Extra_169:Builder.Extra Tryz.prog Tryz.lays169_ren:= {
 sizeBuilder:=by kernel_rfl
 liesBuilder:=by kernel_rfl
 t5:=Tryz.underlying5
 a5:=Tryz.isAgg5
 z5:=Tryz.sizeOf5
 v5:=Tryz.zeroValue5
 infoByte:=by kernel_rfl
 cellsByte:=by kernel_rfl
 sizeByte:=by kernel_rfl
 neB5:=by decide }
open Go.RowKit in
theorem Tryz.Builder_String_any (B b:Nat)(l:List UInt8)(w:World)(h:Lib.IsBuilder 61 5 B b (Lib.byteCells l) w)(yt:B<=w.heap.size):
 Calls Tryz.prog 49 #[.pointer (some ⟨b,0,none⟩)] w λ e w'=>e=.returned (.string ⟨l.toArray⟩)/\Below B w w':=Any.Builder_String_any Tryz.lays169 Tryz.Builder_Extra_169 B b l w h yt
def Tryz.lays159_ren:Go.Shelf.Ren:=⟨λ | 159=>146 | 165=>172 | 166=>83 | 167=>148 | 169=>49 | 230=>173 | 204=>174 | 240=>138 | 241=>188 | 197=>189 | 118=>190 | 168=>191 | 270=>192 | 262=>193 | 276=>165 | 277=>211 | 260=>212 | 242=>213 | 313=>214 | 278=>228 | 274=>229 | 275=>230 | n=>n,λ | 9=>9 | 4=>4 | 3=>3 | 5=>5 | 72=>61 | 0=>0 | 76=>133 | 75=>132 | 107=>192 | 70=>58 | 20=>20 | 37=>59 | 127=>139 | 21=>21 | 105=>209 | 164=>184 | 162=>242 | 203=>240 | 119=>194 | 46=>218 | 139=>263 | 138=>262 | 51=>225 | 160=>264 | 208=>277 | 206=>275 | 80=>101 | n=>n,λ | 13=>3 | 3=>7 | 4=>8 | n=>n⟩
theorem Tryz.lays159:Go.Proofs.Lays.n159 Tryz.prog Tryz.lays159_ren:= {
 mixed:=by kernel_rfl
 f118:=Tryz.func190.trans (congrArg some Tab)
 f159:=Tryz.func146.trans (congrArg some Tab)
 f165:=Tryz.func172.trans (congrArg some Tab)
 f166:=Tryz.func83.trans (congrArg some Tab)
 f167:=Tryz.func148.trans (congrArg some Tab)
 f168:=Tryz.func191.trans (congrArg some Tab)
 f169:=Tryz.func49.trans (congrArg some Tab)
 f197:=Tryz.func189.trans (congrArg some Tab)
 f204:=Tryz.func174.trans (congrArg some Tab)
 f230:=Tryz.func173.trans (congrArg some Tab)
 f240:=Tryz.func138.trans (congrArg some Tab)
 f241:=Tryz.func188.trans (congrArg some Tab)
 f242:=Tryz.func213.trans (congrArg some Tab)
 f260:=Tryz.func212.trans (congrArg some Tab)
 f262:=Tryz.func193.trans (congrArg some Tab)
 f270:=Tryz.func192.trans (congrArg some Tab)
 f274:=Tryz.func229.trans (congrArg some Tab)
 f275:=Tryz.func230.trans (congrArg some Tab)
 f276:=Tryz.func165.trans (congrArg some Tab)
 f277:=Tryz.func211.trans (congrArg some Tab)
 f278:=Tryz.func228.trans (congrArg some Tab)
 f313:=Tryz.func214.trans (congrArg some Tab)
 t0:=Tryz.underlying0
 a0:=Tryz.isAgg0
 z0:=Tryz.sizeOf0
 v0:=Tryz.zeroValue0
 t3:=Tryz.underlying3
 a3:=Tryz.isAgg3
 z3:=Tryz.sizeOf3
 v3:=Tryz.zeroValue3
 t4:=Tryz.underlying4
 a4:=Tryz.isAgg4
 z4:=Tryz.sizeOf4
 v4:=Tryz.zeroValue4
 t5:=Tryz.underlying5
 a5:=Tryz.isAgg5
 z5:=Tryz.sizeOf5
 v5:=Tryz.zeroValue5
 t9:=Tryz.underlying9
 a9:=Tryz.isAgg9
 z9:=Tryz.sizeOf9
 v9:=Tryz.zeroValue9
 t20:=Tryz.underlying20
 a20:=Tryz.isAgg20
 z20:=Tryz.sizeOf20
 v20:=Tryz.zeroValue20
 t21:=Tryz.underlying21
 a21:=Tryz.isAgg21
 z21:=Tryz.sizeOf21
 v21:=Tryz.zeroValue21
 t37:=Tryz.underlying59
 a37:=Tryz.isAgg59
 z37:=Tryz.sizeOf59
 v37:=Tryz.zeroValue59
 t46:=Tryz.underlying218
 a46:=Tryz.isAgg218
 z46:=Tryz.sizeOf218
 v46:=Tryz.zeroValue218
 t51:=Tryz.underlying225
 a51:=Tryz.isAgg225
 z51:=Tryz.sizeOf225
 v51:=Tryz.zeroValue225
 t70:=Tryz.underlying58
 a70:=Tryz.isAgg58
 z70:=Tryz.sizeOf58
 v70:=Tryz.zeroValue58
 t72:=Tryz.underlying61
 a72:=Tryz.isAgg61
 z72:=Tryz.sizeOf61
 v72:=Tryz.zeroValue61
 t75:=Tryz.underlying132
 a75:=Tryz.isAgg132
 z75:=Tryz.sizeOf132
 v75:=Tryz.zeroValue132
 t76:=Tryz.underlying133
 a76:=Tryz.isAgg133
 z76:=Tryz.sizeOf133
 v76:=Tryz.zeroValue133
 t105:=Tryz.underlying209
 a105:=Tryz.isAgg209
 z105:=Tryz.sizeOf209
 v105:=Tryz.zeroValue209
 t107:=Tryz.underlying192
 a107:=Tryz.isAgg192
 z107:=Tryz.sizeOf192
 v107:=Tryz.zeroValue192
 t119:=Tryz.underlying194
 a119:=Tryz.isAgg194
 z119:=Tryz.sizeOf194
 t127:=Tryz.underlying139
 a127:=Tryz.isAgg139
 z127:=Tryz.sizeOf139
 v127:=Tryz.zeroValue139
 t138:=Tryz.underlying262
 a138:=Tryz.isAgg262
 z138:=Tryz.sizeOf262
 v138:=Tryz.zeroValue262
 t139:=Tryz.underlying263
 a139:=Tryz.isAgg263
 z139:=Tryz.sizeOf263
 v139:=Tryz.zeroValue263
 t160:=Tryz.underlying264
 a160:=Tryz.isAgg264
 z160:=Tryz.sizeOf264
 v160:=Tryz.zeroValue264
 t162:=Tryz.underlying242
 a162:=Tryz.isAgg242
 z162:=Tryz.sizeOf242
 v162:=Tryz.zeroValue242
 t164:=Tryz.underlying184
 a164:=Tryz.isAgg184
 z164:=Tryz.sizeOf184
 v164:=Tryz.zeroValue184
 t203:=Tryz.underlying240
 a203:=Tryz.isAgg240
 z203:=Tryz.sizeOf240
 v203:=Tryz.zeroValue240
 t206:=Tryz.underlying275
 a206:=Tryz.isAgg275
 z206:=Tryz.sizeOf275
 v206:=Tryz.zeroValue275
 t208:=Tryz.underlying277
 a208:=Tryz.isAgg277
 z208:=Tryz.sizeOf277
 v208:=Tryz.zeroValue277
 g3:=by kernel_rfl
 g4:=by kernel_rfl
 g13:=by kernel_rfl }
theorem Tryz.Builder_Extra_159:Builder.Extra Tryz.prog Tryz.lays159_ren:= {
 sizeBuilder:=by kernel_rfl
 liesBuilder:=by kernel_rfl
 t5:=Tryz.underlying5
 a5:=Tryz.isAgg5
 z5:=Tryz.sizeOf5
 v5:=Tryz.zeroValue5
 infoByte:=by kernel_rfl
 cellsByte:=by kernel_rfl
 sizeByte:=by kernel_rfl
 neB5:=by decide }
open Go.RowKit in
theorem Tryz.strings_ToLower_ascii (s:ByteArray)(w:World)(hs:s.size<=140737488355328)(zG:∀(j:Nat) (b:UInt8),s.data.toList[j]?=some b->b.toNat < 128):
 Calls Tryz.prog 146 #[.string s] w λ e w'=>e=.returned (.string ⟨(Lib.toLowerA s.data.toList).toArray⟩)/\Below w.heap.size w w':=Any.strings_ToLower_ascii Tryz.lays159 Tryz.Builder_Extra_159 s w hs zG
def Tryz.laysM173_ren:Go.Shelf.Ren:=⟨λ | 173=>137 | 246=>164 | 283=>183 | 284=>184 | 285=>185 | 286=>186 | 129=>205 | 317=>204 | 318=>206 | 319=>207 | 320=>208 | 337=>223 | 338=>224 | n=>n,λ | 2=>2 | 3=>3 | 9=>9 | 4=>4 | 171=>202 | 0=>0 | 53=>203 | 37=>59 | 5=>5 | 173=>206 | 212=>234 | 51=>225 | 20=>20 | 213=>235 | 46=>218 | 232=>272 | 233=>273 | n=>n,λ | 17=>2 | 18=>9 | 19=>10 | n=>n⟩
theorem Tryz.laysM173:Go.Proofs.LaysM.n173 Tryz.prog Tryz.laysM173_ren:= {
 mixed:=by kernel_rfl
 f129:=Tryz.func205.trans (congrArg some Tab)
 f173:=Tryz.func137.trans (congrArg some Tab)
 f246:=Tryz.func164.trans (congrArg some Tab)
 f283:=Tryz.func183.trans (congrArg some Tab)
 f284:=Tryz.func184.trans (congrArg some Tab)
 f285:=Tryz.func185.trans (congrArg some Tab)
 f286:=Tryz.func186.trans (congrArg some Tab)
 f317:=Tryz.func204.trans (congrArg some Tab)
 f318:=Tryz.func206.trans (congrArg some Tab)
 f319:=Tryz.func207.trans (congrArg some Tab)
 f320:=Tryz.func208.trans (congrArg some Tab)
 f337:=Tryz.func223.trans (congrArg some Tab)
 f338:=Tryz.func224.trans (congrArg some Tab)
 t0:=Tryz.underlying0
 a0:=Tryz.isAgg0
 z0:=Tryz.sizeOf0
 v0:=Tryz.zeroValue0
 t2:=Tryz.underlying2
 a2:=Tryz.isAgg2
 z2:=Tryz.sizeOf2
 v2:=Tryz.zeroValue2
 t3:=Tryz.underlying3
 a3:=Tryz.isAgg3
 z3:=Tryz.sizeOf3
 v3:=Tryz.zeroValue3
 t4:=Tryz.underlying4
 a4:=Tryz.isAgg4
 z4:=Tryz.sizeOf4
 v4:=Tryz.zeroValue4
 t5:=Tryz.underlying5
 a5:=Tryz.isAgg5
 z5:=Tryz.sizeOf5
 v5:=Tryz.zeroValue5
 t9:=Tryz.underlying9
 a9:=Tryz.isAgg9
 z9:=Tryz.sizeOf9
 v9:=Tryz.zeroValue9
 t20:=Tryz.underlying20
 a20:=Tryz.isAgg20
 z20:=Tryz.sizeOf20
 v20:=Tryz.zeroValue20
 t37:=Tryz.underlying59
 a37:=Tryz.isAgg59
 z37:=Tryz.sizeOf59
 v37:=Tryz.zeroValue59
 t46:=Tryz.underlying218
 a46:=Tryz.isAgg218
 z46:=Tryz.sizeOf218
 v46:=Tryz.zeroValue218
 t51:=Tryz.underlying225
 a51:=Tryz.isAgg225
 z51:=Tryz.sizeOf225
 v51:=Tryz.zeroValue225
 t53:=Tryz.underlying203
 a53:=Tryz.isAgg203
 z53:=Tryz.sizeOf203
 v53:=Tryz.zeroValue203
 t171:=Tryz.underlying202
 a171:=Tryz.isAgg202
 z171:=Tryz.sizeOf202
 v171:=Tryz.zeroValue202
 t173:=Tryz.underlying206
 a173:=Tryz.isAgg206
 z173:=Tryz.sizeOf206
 v173:=Tryz.zeroValue206
 t212:=Tryz.underlying234
 a212:=Tryz.isAgg234
 z212:=Tryz.sizeOf234
 v212:=Tryz.zeroValue234
 t213:=Tryz.underlying235
 a213:=Tryz.isAgg235
 z213:=Tryz.sizeOf235
 t232:=Tryz.underlying272
 a232:=Tryz.isAgg272
 z232:=Tryz.sizeOf272
 v232:=Tryz.zeroValue272
 t233:=Tryz.underlying273
 a233:=Tryz.isAgg273
 z233:=Tryz.sizeOf273
 v233:=Tryz.zeroValue273
 g17:=by kernel_rfl
 g18:=by kernel_rfl
 g19:=by kernel_rfl
 i0:=by kernel_rfl
 i2:=by kernel_rfl
 i3:=by kernel_rfl
 i4:=by kernel_rfl
 i5:=by kernel_rfl
 i9:=by kernel_rfl
 i20:=by kernel_rfl
 i37:=by kernel_rfl
 i46:=by kernel_rfl
 i51:=by kernel_rfl
 i53:=by kernel_rfl
 i171:=by kernel_rfl
 i173:=by kernel_rfl
 i212:=by kernel_rfl
 i232:=by kernel_rfl
 i233:=by kernel_rfl
 m17:=by kernel_rfl
 m18:=by kernel_rfl
 m19:=by kernel_rfl }
open Go.RowKit Go.Sort Go.Lib in
theorem Tryz.strconv_FormatInt_10 (n:Int)(h0: -9223372036854775808<=n)(h1:n<=9223372036854775807)(w:World)(L3:Lib.TabIs Tryz.prog w "internal/strconv.uint64pow10" .u64 Lib.pow10Tab):
 Calls Tryz.prog 137 #[.int .i64 n,.int .i64 10] w λ e w'=>e=.returned (.string ⟨(Lib.itoa n).toArray⟩)/\∃k os,w'=grow (w.drewN k) os:=Any.strconv_FormatInt_10 Tryz.laysM173 n h0 h1 w L3
def Tryz.laysC174_ren:Go.Shelf.Ren:=⟨λ | 174=>147 | 247=>175 | 245=>176 | 287=>194 | 279=>195 | 280=>196 | 281=>197 | 282=>198 | 321=>215 | 322=>216 | 316=>217 | 171=>219 | 205=>218 | 243=>231 | 246=>164 | 283=>183 | 284=>184 | 285=>185 | 286=>186 | 129=>205 | 317=>204 | 318=>206 | 319=>207 | 320=>208 | 337=>223 | 338=>224 | n=>n,λ | 9=>9 | 3=>3 | 2=>2 | 75=>132 | 85=>173 | 4=>4 | 167=>215 | 5=>5 | 53=>203 | 175=>216 | 46=>218 | 168=>219 | 37=>59 | 0=>0 | 210=>245 | 21=>21 | 127=>139 | 145=>269 | 143=>267 | 171=>202 | 173=>206 | 212=>234 | 51=>225 | 20=>20 | 213=>235 | 232=>272 | 233=>273 | 80=>101 | n=>n,λ | 15=>4 | 16=>5 | 17=>2 | 18=>9 | 19=>10 | n=>n⟩
theorem Tryz.laysC174:Go.Proofs.LaysC.n174 Tryz.prog Tryz.laysC174_ren:= {
 mixed:=by kernel_rfl
 f129:=Tryz.func205.trans (congrArg some Tab)
 f171:=Tryz.func219.trans (congrArg some Tab)
 f174:=Tryz.func147.trans (congrArg some Tab)
 f205:=Tryz.func218.trans (congrArg some Tab)
 f243:=Tryz.func231.trans (congrArg some Tab)
 f245:=Tryz.func176.trans (congrArg some Tab)
 f246:=Tryz.func164.trans (congrArg some Tab)
 f247:=Tryz.func175.trans (congrArg some Tab)
 f279:=Tryz.func195.trans (congrArg some Tab)
 f280:=Tryz.func196.trans (congrArg some Tab)
 f281:=Tryz.func197.trans (congrArg some Tab)
 f282:=Tryz.func198.trans (congrArg some Tab)
 f283:=Tryz.func183.trans (congrArg some Tab)
 f284:=Tryz.func184.trans (congrArg some Tab)
 f285:=Tryz.func185.trans (congrArg some Tab)
 f286:=Tryz.func186.trans (congrArg some Tab)
 f287:=Tryz.func194.trans (congrArg some Tab)
 f316:=Tryz.func217.trans (congrArg some Tab)
 f317:=Tryz.func204.trans (congrArg some Tab)
 f318:=Tryz.func206.trans (congrArg some Tab)
 f319:=Tryz.func207.trans (congrArg some Tab)
 f320:=Tryz.func208.trans (congrArg some Tab)
 f321:=Tryz.func215.trans (congrArg some Tab)
 f322:=Tryz.func216.trans (congrArg some Tab)
 f337:=Tryz.func223.trans (congrArg some Tab)
 f338:=Tryz.func224.trans (congrArg some Tab)
 t0:=Tryz.underlying0
 a0:=Tryz.isAgg0
 z0:=Tryz.sizeOf0
 v0:=Tryz.zeroValue0
 t2:=Tryz.underlying2
 a2:=Tryz.isAgg2
 z2:=Tryz.sizeOf2
 v2:=Tryz.zeroValue2
 t3:=Tryz.underlying3
 a3:=Tryz.isAgg3
 z3:=Tryz.sizeOf3
 v3:=Tryz.zeroValue3
 t4:=Tryz.underlying4
 a4:=Tryz.isAgg4
 z4:=Tryz.sizeOf4
 v4:=Tryz.zeroValue4
 t5:=Tryz.underlying5
 a5:=Tryz.isAgg5
 z5:=Tryz.sizeOf5
 v5:=Tryz.zeroValue5
 t9:=Tryz.underlying9
 a9:=Tryz.isAgg9
 z9:=Tryz.sizeOf9
 v9:=Tryz.zeroValue9
 t20:=Tryz.underlying20
 a20:=Tryz.isAgg20
 z20:=Tryz.sizeOf20
 v20:=Tryz.zeroValue20
 t21:=Tryz.underlying21
 a21:=Tryz.isAgg21
 z21:=Tryz.sizeOf21
 v21:=Tryz.zeroValue21
 t37:=Tryz.underlying59
 a37:=Tryz.isAgg59
 z37:=Tryz.sizeOf59
 v37:=Tryz.zeroValue59
 t46:=Tryz.underlying218
 a46:=Tryz.isAgg218
 z46:=Tryz.sizeOf218
 v46:=Tryz.zeroValue218
 t51:=Tryz.underlying225
 a51:=Tryz.isAgg225
 z51:=Tryz.sizeOf225
 v51:=Tryz.zeroValue225
 t53:=Tryz.underlying203
 a53:=Tryz.isAgg203
 z53:=Tryz.sizeOf203
 v53:=Tryz.zeroValue203
 t75:=Tryz.underlying132
 a75:=Tryz.isAgg132
 z75:=Tryz.sizeOf132
 v75:=Tryz.zeroValue132
 t85:=Tryz.underlying173
 a85:=Tryz.isAgg173
 z85:=Tryz.sizeOf173
 v85:=Tryz.zeroValue173
 t127:=Tryz.underlying139
 a127:=Tryz.isAgg139
 z127:=Tryz.sizeOf139
 v127:=Tryz.zeroValue139
 t143:=Tryz.underlying267
 a143:=Tryz.isAgg267
 z143:=Tryz.sizeOf267
 v143:=Tryz.zeroValue267
 t145:=Tryz.underlying269
 a145:=Tryz.isAgg269
 z145:=Tryz.sizeOf269
 v145:=Tryz.zeroValue269
 t167:=Tryz.underlying215
 a167:=Tryz.isAgg215
 z167:=Tryz.sizeOf215
 v167:=Tryz.zeroValue215
 t168:=Tryz.underlying219
 a168:=Tryz.isAgg219
 z168:=Tryz.sizeOf219
 v168:=Tryz.zeroValue219
 t171:=Tryz.underlying202
 a171:=Tryz.isAgg202
 z171:=Tryz.sizeOf202
 v171:=Tryz.zeroValue202
 t173:=Tryz.underlying206
 a173:=Tryz.isAgg206
 z173:=Tryz.sizeOf206
 v173:=Tryz.zeroValue206
 t175:=Tryz.underlying216
 a175:=Tryz.isAgg216
 z175:=Tryz.sizeOf216
 v175:=Tryz.zeroValue216
 t210:=Tryz.underlying245
 a210:=Tryz.isAgg245
 z210:=Tryz.sizeOf245
 v210:=Tryz.zeroValue245
 t212:=Tryz.underlying234
 a212:=Tryz.isAgg234
 z212:=Tryz.sizeOf234
 v212:=Tryz.zeroValue234
 t213:=Tryz.underlying235
 a213:=Tryz.isAgg235
 z213:=Tryz.sizeOf235
 t232:=Tryz.underlying272
 a232:=Tryz.isAgg272
 z232:=Tryz.sizeOf272
 v232:=Tryz.zeroValue272
 t233:=Tryz.underlying273
 a233:=Tryz.isAgg273
 z233:=Tryz.sizeOf273
 v233:=Tryz.zeroValue273
 g15:=by kernel_rfl
 g16:=by kernel_rfl
 g17:=by kernel_rfl
 g18:=by kernel_rfl
 g19:=by kernel_rfl
 t80:=Tryz.underlying101
 a80:=Tryz.isAgg101
 z80:=Tryz.sizeOf101
 v80:=Tryz.zeroValue101
 i0:=by kernel_rfl
 i2:=by kernel_rfl
 i3:=by kernel_rfl
 i4:=by kernel_rfl
 i5:=by kernel_rfl
 i9:=by kernel_rfl
 i20:=by kernel_rfl
 i21:=by kernel_rfl
 i37:=by kernel_rfl
 i46:=by kernel_rfl
 i51:=by kernel_rfl
 i53:=by kernel_rfl
 i75:=by kernel_rfl
 i80:=by kernel_rfl
 i85:=by kernel_rfl
 i127:=by kernel_rfl
 i143:=by kernel_rfl
 i145:=by kernel_rfl
 i167:=by kernel_rfl
 i168:=by kernel_rfl
 i171:=by kernel_rfl
 i173:=by kernel_rfl
 i175:=by kernel_rfl
 i210:=by kernel_rfl
 i212:=by kernel_rfl
 i232:=by kernel_rfl
 i233:=by kernel_rfl
 m15:=by kernel_rfl
 m16:=by kernel_rfl
 m17:=by kernel_rfl
 m18:=by kernel_rfl
 m19:=by kernel_rfl
 c0:=by kernel_rfl
 c2:=by kernel_rfl
 c3:=by kernel_rfl
 c4:=by kernel_rfl
 c5:=by kernel_rfl
 c9:=by kernel_rfl
 c20:=by kernel_rfl
 c21:=by kernel_rfl
 c37:=by kernel_rfl
 c46:=by kernel_rfl
 c51:=by kernel_rfl
 c53:=by kernel_rfl
 c75:=by kernel_rfl
 c80:=by kernel_rfl
 c85:=by kernel_rfl
 c127:=by kernel_rfl
 c143:=by kernel_rfl
 c145:=by kernel_rfl
 c167:=by kernel_rfl
 c168:=by kernel_rfl
 c171:=by kernel_rfl
 c173:=by kernel_rfl
 c175:=by kernel_rfl
 c210:=by kernel_rfl
 c212:=by kernel_rfl
 c213:=by kernel_rfl
 c232:=by kernel_rfl
 c233:=by kernel_rfl }
open Go.RowKit in
theorem Tryz.strconv_ParseInt_10_at64_ok (s:ByteArray)(ahg:s.size<=9223372036854775806)(v:Int)(h:Lib.parseIntB 64 s.data.toList=.ok v)(w:World):
 Calls Tryz.prog 147 #[.string s,.int .i64 10,.int .i64 64] w λ e w'=>e=.returned (.tuple #[.int .i64 v,.nilIface])/\(w'=w\/∃t,w'=Lib.bytesWorld w 5 t):=Any.strconv_ParseInt_10_at64_ok Tryz.laysC174 s ahg v h w
open Go.RowKit in
theorem Tryz.strconv_ParseInt_10_at64_range_var (s:ByteArray)(ahh:s.size<=281474976710656)(h:Lib.parseIntB 64 s.data.toList=.range)(tp:TypeId)(p:Value)(w:World)(ahi:w.var? Tryz.prog "strconv.ErrRange" =some #[.iface tp p]):
 Calls Tryz.prog 147 #[.string s,.int .i64 10,.int .i64 64] w λ e w'=>∃N,e=.returned (.tuple #[.int .i64 (Lib.intSat 64 s.data.toList),.iface 219 (.pointer (some ⟨N,0,none⟩))])/\w.heap.size<=N/\w'.heap[N]?=some (.cells #[.string ⟨#[80,97,114,115,101,73,110,116]⟩,.string s,.iface tp p] 245 (0,0))/\Below w.heap.size w w':=Any.strconv_ParseInt_10_at64_range_var Tryz.laysC174 s ahh h tp p w ahi
def Tryz.lays99_ren:Go.Shelf.Ren:=⟨λ | 99=>101 | 206=>143 | n=>n,λ | 9=>9 | 4=>4 | 3=>3 | n=>n,λ | n=>n⟩
theorem Tryz.lays99:Go.Proofs.Lays.n99 Tryz.prog Tryz.lays99_ren:= {
 mixed:=by kernel_rfl
 f99:=Tryz.func101.trans (congrArg some Tab)
 f206:=Tryz.func143.trans (congrArg some Tab)
 t3:=Tryz.underlying3
 a3:=Tryz.isAgg3
 z3:=Tryz.sizeOf3
 v3:=Tryz.zeroValue3
 t4:=Tryz.underlying4
 a4:=Tryz.isAgg4
 z4:=Tryz.sizeOf4
 v4:=Tryz.zeroValue4
 t9:=Tryz.underlying9
 a9:=Tryz.isAgg9
 z9:=Tryz.sizeOf9
 v9:=Tryz.zeroValue9 }
open Go.RowKit Go.Lib in
theorem Tryz.strings_HasPrefix (s p:ByteArray)(w:World):
 Calls Tryz.prog 101 #[.string s,.string p] w λ e w'=>e=.returned (.bool (Lib.hasPrefix s.data.toList p.data.toList))/\w'=w:=Any.strings_HasPrefix Tryz.lays99 s p w
open Go.RowKit Go.Lib in
def Tryz.lays157_ren:Go.Shelf.Ren:=⟨λ | 157=>149 | 229=>177 | 199=>178 | 261=>199 | 311=>220 | 312=>221 | n=>n,λ | 9=>9 | 31=>102 | 3=>3 | 5=>5 | 4=>4 | 119=>194 | 0=>0 | 40=>196 | 152=>222 | 21=>21 | 154=>224 | 51=>225 | 141=>227 | 196=>250 | 193=>247 | 198=>253 | 49=>251 | 194=>248 | 201=>256 | 226=>270 | 46=>218 | 227=>271 | n=>n,λ | 0=>0 | 6=>1 | n=>n⟩
theorem Tryz.lays157:Go.Proofs.Lays.n157 Tryz.prog Tryz.lays157_ren:= {
 mixed:=by kernel_rfl
 f157:=Tryz.func149.trans (congrArg some Tab)
 f199:=Tryz.func178.trans (congrArg some Tab)
 f229:=Tryz.func177.trans (congrArg some Tab)
 f261:=Tryz.func199.trans (congrArg some Tab)
 f311:=Tryz.func220.trans (congrArg some Tab)
 f312:=Tryz.func221.trans (congrArg some Tab)
 t0:=Tryz.underlying0
 a0:=Tryz.isAgg0
 z0:=Tryz.sizeOf0
 v0:=Tryz.zeroValue0
 t3:=Tryz.underlying3
 a3:=Tryz.isAgg3
 z3:=Tryz.sizeOf3
 v3:=Tryz.zeroValue3
 t4:=Tryz.underlying4
 a4:=Tryz.isAgg4
 z4:=Tryz.sizeOf4
 v4:=Tryz.zeroValue4
 t5:=Tryz.underlying5
 a5:=Tryz.isAgg5
 z5:=Tryz.sizeOf5
 v5:=Tryz.zeroValue5
 t9:=Tryz.underlying9
 a9:=Tryz.isAgg9
 z9:=Tryz.sizeOf9
 v9:=Tryz.zeroValue9
 t21:=Tryz.underlying21
 a21:=Tryz.isAgg21
 z21:=Tryz.sizeOf21
 v21:=Tryz.zeroValue21
 t31:=Tryz.underlying102
 a31:=Tryz.isAgg102
 z31:=Tryz.sizeOf102
 v31:=Tryz.zeroValue102
 t40:=Tryz.underlying196
 a40:=Tryz.isAgg196
 z40:=Tryz.sizeOf196
 v40:=Tryz.zeroValue196
 t46:=Tryz.underlying218
 a46:=Tryz.isAgg218
 z46:=Tryz.sizeOf218
 v46:=Tryz.zeroValue218
 t49:=Tryz.underlying251
 a49:=Tryz.isAgg251
 z49:=Tryz.sizeOf251
 v49:=Tryz.zeroValue251
 t51:=Tryz.underlying225
 a51:=Tryz.isAgg225
 z51:=Tryz.sizeOf225
 v51:=Tryz.zeroValue225
 t119:=Tryz.underlying194
 a119:=Tryz.isAgg194
 z119:=Tryz.sizeOf194
 t141:=Tryz.underlying227
 a141:=Tryz.isAgg227
 z141:=Tryz.sizeOf227
 v141:=Tryz.zeroValue227
 t152:=Tryz.underlying222
 a152:=Tryz.isAgg222
 z152:=Tryz.sizeOf222
 v152:=Tryz.zeroValue222
 t154:=Tryz.underlying224
 a154:=Tryz.isAgg224
 z154:=Tryz.sizeOf224
 v154:=Tryz.zeroValue224
 t193:=Tryz.underlying247
 a193:=Tryz.isAgg247
 z193:=Tryz.sizeOf247
 v193:=Tryz.zeroValue247
 t194:=Tryz.underlying248
 a194:=Tryz.isAgg248
 z194:=Tryz.sizeOf248
 v194:=Tryz.zeroValue248
 t196:=Tryz.underlying250
 a196:=Tryz.isAgg250
 z196:=Tryz.sizeOf250
 v196:=Tryz.zeroValue250
 t198:=Tryz.underlying253
 a198:=Tryz.isAgg253
 z198:=Tryz.sizeOf253
 v198:=Tryz.zeroValue253
 t201:=Tryz.underlying256
 a201:=Tryz.isAgg256
 z201:=Tryz.sizeOf256
 v201:=Tryz.zeroValue256
 t226:=Tryz.underlying270
 a226:=Tryz.isAgg270
 z226:=Tryz.sizeOf270
 v226:=Tryz.zeroValue270
 t227:=Tryz.underlying271
 a227:=Tryz.isAgg271
 z227:=Tryz.sizeOf271
 v227:=Tryz.zeroValue271
 g0:=by kernel_rfl
 g6:=by kernel_rfl }
open Go.RowKit Go.Lib in
theorem Tryz.strings_Fields (s:ByteArray)(w:World)(hs:s.size < 4294967281)(zG:∀(j:Nat) b,s.data.toList[j]?=some b->b.toNat < 128)(L3:Lib.TabIs Tryz.prog w "strings.asciiSpace" .u8 Lib.asciiSpaceTab):
 Calls Tryz.prog 149 #[.string s] w λ e w'=>
  e=.returned (.slice (some ⟨w.heap.size,0,none⟩) (Lib.fields s.data.toList).length (Lib.fields s.data.toList).length)/\w'=w.alloc (.cells ((Lib.fields s.data.toList).map λ l=>Value.string ⟨l.toArray⟩).toArray 9):=Any.strings_Fields Tryz.lays157 Tab Tab s w hs zG L3
def Tryz.lays155_ren:Go.Shelf.Ren:=⟨λ | 155=>171 | 154=>187 | 138=>209 | 165=>172 | 143=>210 | 166=>83 | 197=>189 | 169=>49 | 195=>225 | 218=>226 | 240=>138 | 241=>188 | 219=>227 | 260=>212 | 276=>165 | 277=>211 | 217=>233 | 225=>234 | 224=>235 | 267=>236 | 266=>238 | 314=>239 | n=>n,λ | 9=>9 | 3=>3 | 4=>4 | 72=>61 | 0=>0 | 76=>133 | 105=>209 | 21=>21 | 5=>5 | 70=>58 | 20=>20 | 37=>59 | 75=>132 | 127=>139 | 164=>184 | 46=>218 | 119=>194 | 139=>263 | 138=>262 | 146=>278 | 51=>225 | 80=>101 | n=>n,λ | 1=>6 | 3=>7 | 4=>8 | n=>n⟩
theorem Tryz.lays155:Go.Proofs.Lays.n155 Tryz.prog Tryz.lays155_ren:= {
 mixed:=by kernel_rfl
 f138:=Tryz.func209.trans (congrArg some Tab)
 f143:=Tryz.func210.trans (congrArg some Tab)
 f154:=Tryz.func187.trans (congrArg some Tab)
 f155:=Tryz.func171.trans (congrArg some Tab)
 f165:=Tryz.func172.trans (congrArg some Tab)
 f166:=Tryz.func83.trans (congrArg some Tab)
 f169:=Tryz.func49.trans (congrArg some Tab)
 f195:=Tryz.func225.trans (congrArg some Tab)
 f197:=Tryz.func189.trans (congrArg some Tab)
 f217:=Tryz.func233.trans (congrArg some Tab)
 f218:=Tryz.func226.trans (congrArg some Tab)
 f219:=Tryz.func227.trans (congrArg some Tab)
 f224:=Tryz.func235.trans (congrArg some Tab)
 f225:=Tryz.func234.trans (congrArg some Tab)
 f240:=Tryz.func138.trans (congrArg some Tab)
 f241:=Tryz.func188.trans (congrArg some Tab)
 f260:=Tryz.func212.trans (congrArg some Tab)
 f266:=Tryz.func238.trans (congrArg some Tab)
 f267:=Tryz.func236.trans (congrArg some Tab)
 f276:=Tryz.func165.trans (congrArg some Tab)
 f277:=Tryz.func211.trans (congrArg some Tab)
 f314:=Tryz.func239.trans (congrArg some Tab)
 t0:=Tryz.underlying0
 a0:=Tryz.isAgg0
 z0:=Tryz.sizeOf0
 v0:=Tryz.zeroValue0
 t3:=Tryz.underlying3
 a3:=Tryz.isAgg3
 z3:=Tryz.sizeOf3
 v3:=Tryz.zeroValue3
 t4:=Tryz.underlying4
 a4:=Tryz.isAgg4
 z4:=Tryz.sizeOf4
 v4:=Tryz.zeroValue4
 t5:=Tryz.underlying5
 a5:=Tryz.isAgg5
 z5:=Tryz.sizeOf5
 v5:=Tryz.zeroValue5
 t9:=Tryz.underlying9
 a9:=Tryz.isAgg9
 z9:=Tryz.sizeOf9
 v9:=Tryz.zeroValue9
 t20:=Tryz.underlying20
 a20:=Tryz.isAgg20
 z20:=Tryz.sizeOf20
 v20:=Tryz.zeroValue20
 t21:=Tryz.underlying21
 a21:=Tryz.isAgg21
 z21:=Tryz.sizeOf21
 v21:=Tryz.zeroValue21
 t37:=Tryz.underlying59
 a37:=Tryz.isAgg59
 z37:=Tryz.sizeOf59
 v37:=Tryz.zeroValue59
 t46:=Tryz.underlying218
 a46:=Tryz.isAgg218
 z46:=Tryz.sizeOf218
 v46:=Tryz.zeroValue218
 t51:=Tryz.underlying225
 a51:=Tryz.isAgg225
 z51:=Tryz.sizeOf225
 v51:=Tryz.zeroValue225
 t70:=Tryz.underlying58
 a70:=Tryz.isAgg58
 z70:=Tryz.sizeOf58
 v70:=Tryz.zeroValue58
 t72:=Tryz.underlying61
 a72:=Tryz.isAgg61
 z72:=Tryz.sizeOf61
 v72:=Tryz.zeroValue61
 t75:=Tryz.underlying132
 a75:=Tryz.isAgg132
 z75:=Tryz.sizeOf132
 v75:=Tryz.zeroValue132
 t76:=Tryz.underlying133
 a76:=Tryz.isAgg133
 z76:=Tryz.sizeOf133
 v76:=Tryz.zeroValue133
 t105:=Tryz.underlying209
 a105:=Tryz.isAgg209
 z105:=Tryz.sizeOf209
 v105:=Tryz.zeroValue209
 t119:=Tryz.underlying194
 a119:=Tryz.isAgg194
 z119:=Tryz.sizeOf194
 t127:=Tryz.underlying139
 a127:=Tryz.isAgg139
 z127:=Tryz.sizeOf139
 v127:=Tryz.zeroValue139
 t138:=Tryz.underlying262
 a138:=Tryz.isAgg262
 z138:=Tryz.sizeOf262
 v138:=Tryz.zeroValue262
 t139:=Tryz.underlying263
 a139:=Tryz.isAgg263
 z139:=Tryz.sizeOf263
 v139:=Tryz.zeroValue263
 t146:=Tryz.underlying278
 a146:=Tryz.isAgg278
 z146:=Tryz.sizeOf278
 v146:=Tryz.zeroValue278
 t164:=Tryz.underlying184
 a164:=Tryz.isAgg184
 z164:=Tryz.sizeOf184
 v164:=Tryz.zeroValue184
 g1:=by kernel_rfl
 g3:=by kernel_rfl
 g4:=by kernel_rfl }
theorem Tryz.Builder_Extra_155:Builder.Extra Tryz.prog Tryz.lays155_ren:= {
 sizeBuilder:=by kernel_rfl
 liesBuilder:=by kernel_rfl
 t5:=Tryz.underlying5
 a5:=Tryz.isAgg5
 z5:=Tryz.sizeOf5
 v5:=Tryz.zeroValue5
 infoByte:=by kernel_rfl
 cellsByte:=by kernel_rfl
 sizeByte:=by kernel_rfl
 neB5:=by decide }
open Go.RowKit Go.Lib in
theorem Tryz.strings_ReplaceAll (s old new:ByteArray)(m:Int)(w:World)(hs:s.size < 4294967281)(hm:w.cell? ⟨6,0,none⟩=some (.int .i64 m))(h1:1<=old.size)(hlen:s.size+Lib.countB s old*new.size<=140737488355328):
 Calls Tryz.prog 171 #[.string s,.string old,.string new] w λ e w'=>
  e=.returned (.string ⟨(Lib.replaceAll s.data.toList old.data.toList new.data.toList).toArray⟩)/\Below w.heap.size w w':=Any.strings_ReplaceAll Tryz.lays155 Tryz.Builder_Extra_155 s old new m w hs hm h1 hlen
open Go.RowKit
theorem DZ (a:Addr)(n:Nat):(a.add n).block=a.block:=by unfold Addr.add;split <;> rfl
def Reads (w:World)(B size:Nat)(A:Option Addr)(n:Nat)(xs:List Value):Prop:=
 xs.length=n*size/\(0 < n->∃ad,A=some ad/\ad.block < B/\∀j u,xs[j]?=some u->w.cell? (ad.add j)=some u)
section
variable {w w':World} {B B' size n:Nat} {A:Option Addr} {xs:List Value}
theorem Reads.none_:Reads w B size A 0 []:=⟨by simp,λ h=>absurd h Taa⟩
theorem Reads.keep (h:Reads w B size A n xs)(hk:∀p:Addr,p.block < B->w'.cell? p=w.cell? p):Reads w' B size A n xs:=
 ⟨h.1,λ hn=>by
   obtain⟨ad,e,hb,hc⟩:=h.2 hn
   exact⟨ad,e,hb,λ j u hu=>(hk _ (by rw[DZ];exact hb)).trans (hc j u hu)⟩⟩
theorem Reads.more (h:Reads w B size A n xs)(hB:B<=B'):Reads w B' size A n xs:=
 ⟨h.1,λ hn=>by
   obtain⟨ad,e,hb,hc⟩:=h.2 hn
   exact⟨ad,e,by omega,hc⟩⟩
theorem Reads.below (h:Reads w B size A n xs)(hb:Below B w w'):Reads w' B size A n xs:=h.keep λ _ hp=>hb.cell hp
theorem Reads.K8 {base:Nat} {e:TypeId} {c:Nat}(h:w.ownsRow base e size (.slice A n c) n xs):Reads w w.heap.size size A n xs:=by
 refine⟨h.1,λ hn=>?_⟩;obtain⟨g,cap,hv,_,hlt⟩:=h.form hn;have hA:A=some ⟨g,0,none⟩:=by injection hv
 subst hA;exact⟨_,rfl,hlt,h.cells (g:=g) rfl⟩
end
section
variable {P:Program} (w:World)
theorem uU (base:Nat)(t ty e:TypeId)(i:TypeInfo)(size:Nat)(ht:P.underlying t=some (.slice e))(hi:P.info? e=some i)
  (v:Value) (n:Nat) (xs:List Value) (hown:w.ownsRow base e size v n xs) (c:Nat):(Builtin.append_ #[t,t] ty #[v,.slice none 0 c]).run P w=.ok v w:=by
 rcases hown.2 with ⟨rfl,rfl⟩|⟨g,cap,cur,rfl,_,_,hnc,_⟩
 ·simp[Builtin.append_,run_underlying ht,sizeOf,typeInfo,hi,Builtin.lenOf,Builtin.firstCells]
 ·simp[Builtin.append_,run_underlying ht,sizeOf,typeInfo,hi,Builtin.lenOf,Builtin.firstCells,hnc,storeCells]
theorem np (base:Nat)(t ty e:TypeId)(i:TypeInfo)(z:Value)(size bytes:Nat)(ht:P.underlying t=some (.slice e))(hi:P.info? e=some i)(hz:i.zero=some z)
  (hsize:i.size=size) (hby:i.bytes=bytes) (hzs:z.cells.size=size) (hsz:0 < size)
  (v:Value) (n:Nat) (xs:List Value) (hown:w.ownsRow base e size v n xs)
  (B:Nat) (A:Option Addr) (m c:Nat) (news:List Value) (hr:Reads w B size A m news) (h1:∀u∈news,u.oneCell'=true)
  (h63:n+m<=maxLen) (hbytes:(n+m)*bytes<=140737488355328) (hbase:base<=w.heap.size):
  ∃v' w',(Builtin.append_ #[t,t] ty #[v,.slice A m c]).run P w=.ok v' w'/\w'.ownsRow base e size v' (n+m) (xs++news)/\w.grownBy w' v.ownBlock/\
   (v'.ownBlock=v.ownBlock\/v'.ownBlock=some w.heap.size):=by
 rcases A with _ | ad
 ·have hm:m=0:=by
   rcases Nat.eq_zero_or_pos m with h0 | h0
   ·exact h0
   ·obtain⟨ad,h,_⟩:=hr.2 h0;cases h
  subst hm;have hn:news=[]:=eq_nil_of_length_eq_zero (by simpa using hr.1);subst hn;exact⟨v,w,uU w base t ty e i size ht hi v n xs hown c,by simpa using hown,World.grownBy.refl w _,.inl rfl⟩
 ·have rv:∀j u,news[j]?=some u->w.cell? (ad.add j)=some u:=by
   intro j u hu;rcases Nat.eq_zero_or_pos m with h0 | h0
   ·subst h0;have hn:news=[]:=eq_nil_of_length_eq_zero (by simpa using hr.1);subst hn;simp at hu
   ·obtain⟨ad',h,_,hc⟩:=hr.2 h0;injection h with h;subst h;exact hc j u hu
  obtain⟨v',w',hrun,h2,h3,_,h5⟩:=run_append_own_at (P:=P) w base t ty e i z size bytes ht hi hz hsize hby hzs hsz v n xs hown ad m c news hr.1 rv h1 h63 hbytes hbase;exact⟨v',w',hrun,h2,h3,h5⟩
theorem zie.KcN(h:p:=by exact h v' w' h2 h3 h4):p:=h
theorem BS {o:Oper} {a:Act} {K:Act->World->Prop} {Q:Exit->Act->World->Prop}(s x:Operand)(t:TypeId)
  (ho:o.op=.call { callee:=.builtin .append,args:= #[s,x],argTypes:= #[t,t] })
  (base:Nat) (e:TypeId) (i:TypeInfo) (z:Value) (size bytes:Nat) (ht:P.underlying t=some (.slice e)) (hi:P.info? e=some i) (hz:i.zero=some z)
  (hsize:i.size=size) (hby:i.bytes=bytes) (hzs:z.cells.size=size) (hsz:0 < size)
  (v:Value) (n:Nat) (xs:List Value) (hs:a.eval s=v) (hown:w.ownsRow base e size v n xs)
  (B:Nat) (A:Option Addr) (m c:Nat) (news:List Value) (hx:a.eval x=.slice A m c) (hr:Reads w B size A m news) (h1:∀u∈news,u.oneCell'=true)
  (h63:n+m<=maxLen) (hbytes:(n+m)*bytes<=140737488355328) (hbase:base<=w.heap.size)
  (h:∀v' w',w'.ownsRow base e size v' (n+m) (xs++news)->w.grownBy w' v.ownBlock->(v'.ownBlock=v.ownBlock\/v'.ownBlock=some w.heap.size)->K (a.put o.dst v') w'):o.wp P a w K Q:=by obtain⟨v',w',hrun,h2,h3,h4⟩:=np (P:=P) w base t o.type e i z size bytes ht hi hz hsize hby hzs hsz v n xs hown B A m c news hr h1 h63 hbytes hbase;open zie in exact Zg8
theorem og {ops:Array Oper} {rest:List Oper} {o:Oper} {a:Act} {Q:Exit->Act->World->Prop}(hgd:o.guard=none)(s x:Operand)(t:TypeId)
  (ho:o.op=.call { callee:=.builtin .append,args:= #[s,x],argTypes:= #[t,t] })
  (base:Nat) (e:TypeId) (i:TypeInfo) (z:Value) (size bytes:Nat) (ht:P.underlying t=some (.slice e)) (hi:P.info? e=some i) (hz:i.zero=some z)
  (hsize:i.size=size) (hby:i.bytes=bytes) (hzs:z.cells.size=size) (hsz:0 < size)
  (v:Value) (n:Nat) (xs:List Value) (hs:a.eval s=v) (hown:w.ownsRow base e size v n xs)
  (B:Nat) (A:Option Addr) (m c:Nat) (news:List Value) (hx:a.eval x=.slice A m c) (hr:Reads w B size A m news) (h1:∀u∈news,u.oneCell'=true)
  (h63:n+m<=maxLen) (hbytes:(n+m)*bytes<=140737488355328) (hbase:base<=w.heap.size)
  (h:∀v' w',w'.ownsRow base e size v' (n+m) (xs++news)->w.grownBy w' v.ownBlock->(v'.ownBlock=v.ownBlock\/v'.ownBlock=some w.heap.size)->wpList P ops Q rest (a.put o.dst v') w'):wpList P ops Q (o::rest) a w:=
 wpList_plain hgd λ _ hK=>BS w s x t ho base e i z size bytes ht hi hz hsize hby hzs hsz v n xs hs hown B A m c news hx hr h1 h63 hbytes hbase λ v' w' h2 h3 h4=>hK _ _ (h v' w' h2 h3 h4)
end
def av (w:World)(g:Nat)(t:TypeId)(cs:Array Value):Prop:=w.heap[g]?=some (.cells cs t (0,0))
section
variable {w w':World} {g:Nat} {t:TypeId} {cs:Array Value}
theorem av.lt (h:av w g t cs):g < w.heap.size:=by
 rcases Nat.lt_or_ge g w.heap.size with hlt | CE
 ·exact hlt
 ·unfold av at h;exact Zgu
theorem av.cell (h:av w g t cs)(i:Nat):w.cell? ⟨g,i,none⟩=cs[i]?:=cell_of_row w g i cs t (0,0) h
theorem av.frozen (h:av w g t cs)(i:Nat):w.frozen? ⟨g,i,none⟩=false:=by unfold av at h;simp[World.frozen?,h]
theorem av.new (w:World)(t:TypeId)(cs:Array Value):av (w.alloc (.cells cs t)) w.heap.size t cs:=heap_alloc_new w _
theorem av.drew (h:av w g t cs):av w.drew g t cs:=h
theorem av.drewN (h:av w g t cs)(n:Nat):av (w.drewN n) g t cs:=h
theorem av.alloc (h:av w g t cs)(o:Obj):av (w.alloc o) g t cs:=(Below.heap_alloc w o g h.lt).trans h
theorem av.cr (h:av w g t cs)(i:Nat)(u:Value):av (w.setCell ⟨g,i,none⟩ u) g t (cs.setIfInBounds i u):=by unfold av at h ⊢;simp[World.setCell,Array.getElem?_modify,h]
theorem av.far (h:av w g t cs) {p:Addr}(hp:g≠p.block)(u:Value):av (w.setCell p u) g t cs:=(Below.heap_setCell w p u g hp).trans h
theorem av.below {B:Nat}(h:av w g t cs)(hb:Below B w w')(hg:g < B):av w' g t cs:=(hb.block g hg).trans h
theorem av.later (h:av w g t cs)(hb:Below w.heap.size w w'):av w' g t cs:=h.below hb h.lt
theorem av.grown {row:Option Nat}(h:av w g t cs)(hb:w.grownBy w' row)(hg:some g≠row):av w' g t cs:=(hb.block g h.lt hg).trans h
end
variable{w w':World}
theorem az{p:Nat} (h:Below w.heap.size w w'):w.grownBy w' (some p):=⟨h.os,h.tape,h.output,h.size,λ k hk _=>h.block k hk⟩
variable{a b:World}
theorem ai{p:Nat} {c:World}(h:a.grownBy b (some p))(k:b.grownBy c (some p)):a.grownBy c (some p):=
 ⟨k.os.trans h.os,k.tape.trans h.tape,k.output.trans h.output,Nat.le_trans h.size k.size,λ i hi hne=>(k.block i (Nat.lt_of_lt_of_le hi h.size) hne).trans (h.block i hi hne)⟩
theorem bn{p:Nat} (h:a.grownBy b (some p))(i:Nat)(u:Value):a.grownBy (b.setCell ⟨p,i,none⟩ u) (some p):=by
 refine⟨h.os,h.tape,h.output,?_,λ k hk hne=>?_⟩
 ·have:(b.setCell ⟨p,i,none⟩ u).heap.size=b.heap.size:=by simp[World.setCell]
  rw[this];exact h.size
 ·rw[Below.heap_setCell b ⟨p,i,none⟩ u k (λ e=>hne (by rw[e]))];exact h.block k hk hne
variable{B:Nat}
theorem aJ{p:Nat} (h:a.grownBy b (some p))(hB:B<=a.heap.size)(hp:B<=p):Below B a b:=
 ⟨h.os,h.tape,h.output,h.size,λ k hk=>h.block k Taa (λ e=>by injection e with e;omega)⟩
set_option linter.unusedVariables false
variable{α:Type}
def cz(f:α->List Value)(e:TypeId)(size:Nat)(w:World)(base:Nat)(v:Value)(l:List α):Prop:=w.ownsRow base e size v l.length (l.flatMap f)
section
variable {α:Type} {f:α->List Value} {e:TypeId} {size:Nat} {w w':World} {base:Nat} {v:Value} {l:List α}
theorem cz.nil:cz f e size w base (.slice none 0 0) []:=⟨by simp,.inl ⟨rfl,rfl⟩⟩
theorem cz.reads (h:cz f e size w base v l):∃A c,v=.slice A l.length c/\Reads w w.heap.size size A l.length (l.flatMap f)/\l.length<=c/\(l=[]\/∃g,A=some ⟨g,0,none⟩/\base<=g):=by
 rcases h.2 with ⟨rfl,h0⟩|⟨g,cap,cur,rfl,hb,hg,hn,hm,hs,ht⟩
 ·have:l=[]:=eq_nil_of_length_eq_zero h0;subst this;exact⟨none,0,rfl,Reads.none_,Nat.le_refl _,.inl rfl⟩
 ·exact⟨some ⟨g,0,none⟩,cap,rfl,Reads.K8 h,hn,.inr ⟨g,rfl,hb⟩⟩
theorem cz.keep (h:cz f e size w base v l)(hk:∀g,v.ownBlock=some g->w'.heap[g]?=w.heap[g]?):cz f e size w' base v l:=by
 refine⟨h.1,?_⟩;rcases h.2 with h0 |⟨g,cap,cur,rfl,hbg,hg,hn,hm,hs,ht⟩
 ·exact .inl h0
 ·exact .inr ⟨g,cap,cur,rfl,hbg,(hk g rfl).trans hg,hn,hm,hs,ht⟩
theorem cz.lt (h:cz f e size w base v l) {g:Nat}(hg:v.ownBlock=some g):g < w.heap.size/\base<=g/\∃cur,w.heap[g]?=some (.cells cur e (0,0)):=by
 rcases h.2 with ⟨rfl,_⟩|⟨g',cap,cur,rfl,hbg,NI,hn,hm,hs,ht⟩
 ·simp[Value.ownBlock] at hg
 ·simp only[Value.ownBlock,Option.some.injEq] at hg;subst hg;refine⟨?_,hbg,cur,NI⟩;rcases Nat.lt_or_ge g' w.heap.size with hlt | CE
  ·exact hlt
  ·rw[Array.getElem?_eq_none CE] at NI;cases NI
theorem cz.later (h:cz f e size w base v l)(hb:Below w.heap.size w w'):cz f e size w' base v l:=h.keep λ g hg=>hb.block g (h.lt hg).1
theorem cz.other (h:cz f e size w base v l) {q:Nat} {t:TypeId} {cs:Array Value}(hq:av w q t cs)(ht:t≠e):v.ownBlock≠some q:=by intro hg;obtain⟨_,_,cur,hc⟩:=h.lt hg;unfold av at hq;rw[hq] at hc;injection hc with hc;injection hc with _ hc _;exact ht hc
theorem cz.grown {p:Nat}(h:cz f e size w base v l)(hg:w.grownBy w' (some p))(hp:v.ownBlock≠some p):cz f e size w' base v l:=h.keep λ g aZ=>hg.block g (h.lt aZ).1 λ e=>hp (by rw[aZ];exact e)
theorem av.Gf {q:Nat} {t:TypeId} {cs:Array Value}(hq:av w q t cs)(h:cz f e size w base v l)(ht:t≠e)(hg:w.grownBy w' v.ownBlock):av w' q t cs:=hq.grown hg λ e=>h.other hq ht e.symm
theorem mU (h:cz f e size w base v l)(hg:w.grownBy w' v.ownBlock)(hbase:base<=w.heap.size):Below base w w':=by refine⟨hg.os,hg.tape,hg.output,hg.size,λ k hk=>hg.block k Taa λ e=>?_⟩;have:=(h.lt e.symm).2.1;omega
theorem iD {P:Program} {ops:Array Oper} {rest:List Oper} {o:Oper} {a:Act} {Q:Exit->Act->World->Prop}(hgd:o.guard=none)(s x:Operand)(t:TypeId)
  (ho:o.op=.call { callee:=.builtin .append,args:= #[s,x],argTypes:= #[t,t] })
  (z:Value) (bytes:Nat) (ht:P.underlying t=some (.slice e)) (lO:(P.info? e).map (λ i=>(i.zero,i.size,i.bytes))=some (some z,size,bytes)) (hzs:z.cells.size=size) (hsz:0 < size)
  (y:α) (hf:(f y).length=size) (h1:∀u∈f y,u.oneCell'=true)
  (hs:a.eval s=v) (hown:cz f e size w base v l)
  (g:Nat) (hx:a.eval x=.slice (some ⟨g,0,none⟩) 1 1) (hg:av w g e (f y).toArray)
  (hlen:(l.length+1)*bytes<=140737488355328) (ry:l.length+1<=140737488355328) (hbase:base<=w.heap.size)
  (h:∀v' w',cz f e size w' base v' (l++ [y])->w.grownBy w' v.ownBlock->wpList P ops Q rest (a.put o.dst v') w'):wpList P ops Q (o::rest) a w:=by
 obtain⟨i0,mm,hz0,hz1,hz2⟩:=info_parts lO;refine og w hgd s x t ho base e i0 z size bytes ht mm hz0 hz1 hz2 hzs hsz v l.length (l.flatMap f) hs hown (g+1) (some ⟨g,0,none⟩) 1 1 (f y) hx ⟨by omega,λ _=>⟨_,rfl,Nat.lt_succ_self _,?_⟩⟩ h1 TaH hlen hbase ?_
 ·exact Zeq
 ·intro v' w' h2 h3 h4;refine h v' w' ?_ h3;exact ZgL
end
section
variable {α:Type} {f:α->List Value} {e:TypeId} {size:Nat} {base:Nat} {lv:Value} {l:List α} {y:α}
structure AR (f:α->List Value) (e:TypeId) (size base:Nat) (lv:Value) (l:List α) (y:α) (a b:World):Prop where
 grown:a.grownBy b lv.ownBlock
 old:cz f e size a base lv l->cz f e size b base lv l
 new:∀u,cz f e size a base u (l++ [y])->cz f e size b base u (l++ [y])
theorem AR.later {a b:World}(h:Below a.heap.size a b):AR f e size base lv l y a b:=
 ⟨⟨h.os,h.tape,h.output,h.size,λ k hk _=>h.block k hk⟩,λ o=>o.later h,λ u o=>o.later h⟩
theorem jZ {P:Program} {w:World}(t ty:TypeId)(z:Value)(bytes:Nat)(ht:P.underlying t=some (.slice e))(lO:(P.info? e).map (λ i=>(i.zero,i.size,i.bytes))=some (some z,size,bytes))(hzs:z.cells.size=size)(hsz:0 < size)
  (hf:∀x,(f x).length=size) (h1:∀u∈f y,u.oneCell'=true) (hown:cz f e size w base lv l)
  (g0:Nat) (hg0:av w g0 e (f y).toArray) (hlen:(l.length+1)*bytes<=140737488355328) (ry:l.length+1<=140737488355328) (hbase:base<=w.heap.size):
  ∃v' w',(Builtin.append_ #[t,t] ty #[lv,.slice (some ⟨g0,0,none⟩) 1 1]).run P w=.ok v' w'/\cz f e size w' base v' (l++ [y])/\AR f e size base lv l y w w':=by
 obtain⟨i0,mm,hz0,hz1,hz2⟩:=info_parts lO
 have hnews:∀j u,(f y)[j]?=some u->w.cell? ((⟨g0,0,none⟩:Addr).add j)=some u:=by
  intro j u hu;have:(Addr.add ⟨g0,0,none⟩ j)=⟨g0,j,none⟩:=by unfold Addr.add;split <;> simp_all
  rw[this,hg0.cell];simpa using hu
 have tO:(f y).length=1*size:=by rw[hf];omega
 have conv:∀ {w':World} {v':Value},w'.ownsRow base e size v' (l.length+1) (l.flatMap f++f y)->cz f e size w' base v' (l++ [y]):=λ h=>by unfold cz;rw[length_append,flatMap_append];simpa using h
 by_cases hroom:∃g cap,lv=.slice (some ⟨g,0,none⟩) l.length cap/\l.length+1<=cap
 ·obtain⟨g,cap,rfl,hr⟩:=hroom;obtain⟨w',hrun,ho,hg⟩:=run_append_fits (P:=P) w base t ty e i0 size ht mm hz1 g l.length cap (l.flatMap f) hown ⟨g0,0,none⟩ 1 1 (f y) tO hnews h1 hr;refine⟨_,w',hrun,conv ho,hg,λ _=>?_,λ u hu=>?_⟩
  ·rcases ho.2 with ⟨h,_⟩|⟨g',cap',cur,h,hbg,aZ,hn,hm,hs,ht'⟩
   ·cases h
   ·injection h with pV mV L1;injection pV with pV;injection pV with pV _ _;subst pV L1;refine⟨hown.1,.inr ⟨g,cap,cur,rfl,hbg,aZ,by omega,hm,hs,?_⟩⟩;have hx:=congrArg (List.take (l.length*size)) ht';rw[take_take,Nat.min_eq_left (Nat.mul_le_mul_right _ Taa),take_append_of_le_length (Nat.le_of_eq hown.1.symm)] at hx;rw[hx];exact take_of_length_le (Nat.le_of_eq hown.1)
  ·by_cases hb:u.ownBlock=some g
   ·rcases hu.2 with ⟨rfl,_⟩|⟨g',cap',cur,rfl,hbg,aZ,hn,hm,hs,ht'⟩
    ·simp[Value.ownBlock] at hb
    ·simp only[Value.ownBlock,Option.some.injEq] at hb;subst hb;rcases hown.2 with ⟨h,_⟩|⟨g2,abV,amy,h,_,NJ,_,_,hs2,_⟩
     ·cases h
     ·injection h with pV mV L1;injection pV with pV;injection pV with pV _ _;subst pV L1;rw[aZ] at NJ;injection NJ with NJ;injection NJ with NJ _ _;subst NJ;have ahe:cap'=cap:=Nat.eq_of_mul_eq_mul_right hsz (hs.symm.trans hs2);subst ahe;have:=conv ho;rw[length_append];exact this
   ·exact hu.keep λ q hq=>hg.block q (hu.lt hq).1 λ e=>hb (by rw[hq];exact e)
 ·obtain⟨v',w',hrun,ho,hg,_,hat⟩:=run_append_own_at (P:=P) w base t ty e i0 z size bytes ht mm hz0 hz1 hz2 hzs hsz lv l.length (l.flatMap f) hown ⟨g0,0,none⟩ 1 1 (f y) tO hnews h1 TaH hlen hbase
  have ahf:Below w.heap.size w w':=by
   rcases hown.2 with ⟨rfl,h0⟩|⟨g,cap,cur,rfl,hbg,aZ,hn,hm,hs,xH⟩
   ·have hr:=run_append_nil (P:=P) w t ty e i0 z ht mm hz0 ⟨g0,0,none⟩ 1 1 (f y) (by rw[hz1];exact tO) hnews Taa Taa (by rw[hz2];have:1*bytes<=(l.length+1)*bytes:=Nat.mul_le_mul_right _ Taa;omega);exact ZfI
   ·have hno:¬l.length+1<=cap:=λ h=>hroom ⟨g,cap,rfl,h⟩
    have holds:∀j u,(l.flatMap f)[j]?=some u->w.cell? ((⟨g,0,none⟩:Addr).add j)=some u:=World.ownsRow.cells hown (g:=g) rfl;have hr:=run_append_grow (P:=P) w t ty e i0 z ht mm hz0 ⟨g,0,none⟩ l.length cap (l.flatMap f) (by rw[hz1];exact hown.1) holds ⟨g0,0,none⟩ 1 1 (f y) (by rw[hz1];exact tO) hnews Taa Taa (by rw[hz2];exact growslice_fits Taa hlen);exact ZfI
  exact⟨v',w',hrun,conv ho,AR.later ahf⟩
end
theorem sQ{f:α->List Value} {size:Nat}(hf:∀x,(f x).length=size):∀(l:List α) (k:Nat) (x:α),l[k]?=some x->∀r u,(f x)[r]?=some u->(l.flatMap f)[k*size+r]?=some u
 | [],k,x,h,_,_,_=>by simp at h
 | y::l,0,x,h,r,u,hu=>by
   simp at h;subst h;have hr:r <(f y).length:=by
    rcases Nat.lt_or_ge r (f y).length with h' | h'
    ·exact h'
    ·rw[getElem?_eq_none h'] at hu;cases hu
   rw[Nat.zero_mul,Nat.zero_add,flatMap_cons,getElem?_append_left hr];exact hu
 | y::l,k+1,x,h,r,u,hu=>by have:=sQ hf l k x Tam r u hu;rw[flatMap_cons,getElem?_append_right (by rw[hf,Nat.succ_mul];omega),hf];rw[show(k+1)*size+r - size=k*size+r by rw[Nat.succ_mul];omega];exact this
section
variable {α:Type} {f:α->List Value} {e:TypeId} {size:Nat} {w w':World} {base:Nat} {v:Value} {l:List α}
theorem cz.cell (hf:∀x,(f x).length=size)(h:cz f e size w base v l) {k:Nat} {x:α}(hk:l[k]?=some x):
  ∃g c,v=.slice (some ⟨g,0,none⟩) l.length c/\base<=g/\g < w.heap.size/\∀r u,(f x)[r]?=some u->w.cell? ⟨g,k*size+r,none⟩=some u:=by
 have WI:k < l.length:=by
  rcases Nat.lt_or_ge k l.length with h' | h'
  ·exact h'
  ·rw[getElem?_eq_none h'] at hk;cases hk
 rcases h.2 with ⟨_,h0⟩|⟨g,cap,cur,rfl,hb,hg,hn,hm,hs,ht⟩
 ·omega
 ·have hlt:g < w.heap.size:=by
   rcases Nat.lt_or_ge g w.heap.size with h' | h'
   ·exact h'
   ·rw[Array.getElem?_eq_none h'] at hg;cases hg
  refine⟨g,cap,rfl,hb,hlt,λ r u hu=>?_⟩;have h1:=sQ hf l k x hk r u hu;rw[<- ht] at h1
  have h2:cur[k*size+r]?=some u:=by
   rw[getElem?_take] at h1;split at h1
   ·simpa using h1
   ·cases h1
  unfold World.cell?;simp[hg,h2]
theorem cz.form (h:cz f e size w base v l):∃A c,v=.slice A l.length c:=by obtain⟨A,c,hv,_⟩:=h.reads;exact⟨A,c,hv⟩
end
structure Val where
 k:Int
 n:Int
 s:ByteArray
inductive Tr where
 | mk (op:Int) (v:Val) (name:ByteArray) (width:Int) (args:List Tr)
def bU:Val:=⟨0,0,ByteArray.empty⟩
def mB (op:Int)(l:List Tr):Tr:=.mk op bU ByteArray.empty 0 l
def oM (v:Val):Tr:=.mk 1 v ByteArray.empty 0 []
def ui (n:ByteArray):Tr:=.mk 2 bU n 0 []
open Go.ChangeShapes Go.WideShapes Go.ChangeAt
set_option linter.unusedSimpArgs false
structure Ex where
 op:Int
 v:Val
 name:ByteArray
 width:Int
 A:Option Addr
 n:Nat
 c:Nat
def aL (y:Ex):List Value:=[.int .u8 y.op,.int .u8 y.v.k,.int .i64 y.v.n,.string y.v.s,.string y.name,.int .i64 y.width,.slice y.A y.n y.c]
def dA (y:Ex):Value:=.agg (aL y).toArray
variable{β:Type}
def RL(f:β->List Value)(size:Nat)(w:World)(S:Nat->Prop)(A:Option Addr)(l:List β):Prop:=
 l=[]\/∃b off,A=some ⟨b,off,none⟩/\S b/\∀i y j u,l[i]?=some y->(f y)[j]?=some u->w.cell? ⟨b,off+i*size+j,none⟩=some u
variable{S S':Nat->Prop}{l:List β}
theorem RL.keep{f:β->List Value} {size:Nat}   {A:Option Addr} (h:RL f size w S A l)(hk:∀b,S b->(∀o,w'.cell? ⟨b,o,none⟩=w.cell? ⟨b,o,none⟩)/\S' b):RL f size w' S' A l:=by
 rcases h with h |⟨b,off,h1,h2,h3⟩
 ·exact .inl h
 ·exact .inr ⟨b,off,h1,(hk b h2).2,λ i y j u hy hu=>((hk b h2).1 _).trans (h3 i y j u hy hu)⟩
mutual
def Tr.at_ (w:World)(S:Nat->Prop):Tr->Ex->Prop
 | .mk op v name width args,y=>y.op=op/\y.v=v/\y.name=name/\y.width=width/\y.n=args.length/\∃ys,RL aL 7 w S y.A ys/\Tr.dS w S args ys
def Tr.dS (w:World)(S:Nat->Prop):List Tr->List Ex->Prop
 | [],ys=>ys=[]
 | t::ts,ys=>∃y ys',ys=y::ys'/\Tr.at_ w S t y/\Tr.dS w S ts ys'
end
mutual
theorem Tr.at_.keep {w w':World} {S S':Nat->Prop}(hk:∀b,S b->(∀o,w'.cell? ⟨b,o,none⟩=w.cell? ⟨b,o,none⟩)/\S' b):∀(t:Tr) (y:Ex),t.at_ w S y->t.at_ w' S' y
 | .mk op v name width args,y,h=>by unfold Tr.at_ at h ⊢;obtain⟨h1,h2,h3,h4,h5,ys,h6,h7⟩:=h;exact⟨h1,h2,h3,h4,h5,ys,h6.keep hk,Tr.dS.keep hk args ys h7⟩
theorem Tr.dS.keep {w w':World} {S S':Nat->Prop}(hk:∀b,S b->(∀o,w'.cell? ⟨b,o,none⟩=w.cell? ⟨b,o,none⟩)/\S' b):∀(ts:List Tr) (ys:List Ex),Tr.dS w S ts ys->Tr.dS w' S' ts ys
 | [],ys,h=>by unfold Tr.dS at h ⊢;exact h
 | t::ts,ys,h=>by unfold Tr.dS at h ⊢;obtain⟨y,ys',h1,h2,h3⟩:=h;exact⟨y,ys',h1,Tr.at_.keep hk t y h2,Tr.dS.keep hk ts ys' h3⟩
end
theorem Tr.dS.length:∀ {ts:List Tr} {ys:List Ex},Tr.dS w S ts ys->ys.length=ts.length
 | [],ys,h=>by unfold Tr.dS at h;subst h;rfl
 | t::ts,ys,h=>by unfold Tr.dS at h;obtain⟨y,ys',rfl,_,h3⟩:=h;simp[Tr.dS.length h3]
variable{t:Tr}{y:Ex}
theorem Tr.Ey(h:t.at_ w S y):Tr.dS w S [t] [y]:=by unfold Tr.dS;exact⟨y,[],rfl,h,by unfold Tr.dS;rfl⟩
variable{u:Tr}{z:Ex}
theorem Tr.Ez(h:t.at_ w S y)(k:u.at_ w S z):Tr.dS w S [t,u] [y,z]:=by unfold Tr.dS;exact⟨y,[z],rfl,h,Tr.Ey k⟩
theorem Tr.all_nil:Tr.dS w S [] []:=by unfold Tr.dS;rfl
structure El (α:Type) where
 β:Type
 f:β->List Value
 size:Nat
 hf:∀y,(f y).length=size
 rel:World->(Nat->Prop)->α->β->Prop
 keep:∀ {w w':World} {S S':Nat->Prop} {x:α} {y:β},(∀b,S b->(∀o,w'.cell? ⟨b,o,none⟩=w.cell? ⟨b,o,none⟩)/\S' b)->rel w S x y->rel w' S' x y
inductive fS {α β:Type} (R:α->β->Prop):List α->List β->Prop
 | nil:fS R [] []
 | cons {x:α} {y:β} {l:List α} {m:List β}:R x y->fS R l m->fS R (x::l) (y::m)
variable{R R':α->β->Prop}
theorem fS.imp(h:∀x y,R x y->R' x y):∀ {l:List α} {m:List β},fS R l m->fS R' l m
 | _,_,.nil=> .nil
 | _,_,.cons a b=> .cons (h _ _ a) (b.imp h)
theorem fS.len:∀ {l:List α} {m:List β},fS R l m->m.length=l.length
 | _,_,.nil=>rfl
 | _,_,.cons a b=>by simp[b.len]
theorem fS.append:∀ {l l':List α} {m m':List β},fS R l m->fS R l' m'->fS R (l++l') (m++m')
 | _,_,_,_,.nil,k=>k
 | _,_,_,_,.cons a b,k=> .cons a (b.append k)
theorem fS.one{x:α} {y:β}(h:R x y):fS R [x] [y]:=.cons h .nil
theorem sR:∀ {ts:List Tr} {ys:List Ex},fS (Tr.at_ w S) ts ys↔Tr.dS w S ts ys
 | [],ys=>⟨λ h=>by cases h;exact Tr.all_nil,λ h=>by unfold Tr.dS at h;subst h;exact .nil⟩
 | t::ts,ys=>⟨λ h=>by cases h with | cons a b=>unfold Tr.dS;exact⟨_,_,rfl,a,sR.1 b⟩,λ h=>by
    unfold Tr.dS at h
    obtain⟨y,ys',rfl,h2,h3⟩:=h
    exact .cons h2 (sR.2 h3)⟩
def El.lies(E:El α)(w:World)(S:Nat->Prop)(A:Option Addr)(n:Nat)(l:List α):Prop:=n=l.length/\∃ys,RL E.f E.size w S A ys/\fS (E.rel w S) l ys
variable{E:El α}
theorem El.lies.keep{A:Option Addr} {n:Nat} {l:List α}(h:E.lies w S A n l)(hk:∀b,S b->(∀o,w'.cell? ⟨b,o,none⟩=w.cell? ⟨b,o,none⟩)/\S' b):E.lies w' S' A n l:=by obtain⟨h1,ys,h2,h3⟩:=h;exact⟨h1,ys,h2.keep hk,h3.imp λ x y=>E.keep hk⟩
theorem El.RM(E:El α)(w:World)(S:Nat->Prop):E.lies w S none 0 []:=⟨rfl,[],.inl rfl,.nil⟩
def eJ:El Tr:=⟨Ex,aL,7,λ _=>rfl,Tr.at_,λ hk h=>Tr.at_.keep hk _ _ h⟩
def iP:El (Tr×ByteArray):=⟨Ex×ByteArray,λ y=>aL y.1++ [.string y.2],8,λ _=>rfl,λ w S x y=>x.1.at_ w S y.1/\y.2=x.2,λ hk h=>⟨Tr.at_.keep hk _ _ h.1,h.2⟩⟩
def mI:El (Tr×Bool):=⟨Ex×Bool,λ y=>aL y.1++ [.bool y.2],8,λ _=>rfl,λ w S x y=>x.1.at_ w S y.1/\y.2=x.2,λ hk h=>⟨Tr.at_.keep hk _ _ h.1,h.2⟩⟩
def xL:El (ByteArray×Int):=⟨ByteArray×Int,λ y=> [.string y.1,.int .u8 y.2],2,λ _=>rfl,λ _ _ x y=>y=x,λ _ h=>h⟩
def Mo:El Int:=⟨Int,λ y=> [.int .i64 y],1,λ _=>rfl,λ _ _ x y=>y=x,λ _ h=>h⟩
def xM:El (ByteArray×Tr):=⟨ByteArray×Ex,λ y=> .string y.1::aL y.2,8,λ _=>rfl,λ w S x y=>y.1=x.1/\x.2.at_ w S y.2,λ hk h=>⟨h.1,Tr.at_.keep hk _ _ h.2⟩⟩
structure Sl where
 A:Option Addr
 n:Nat
 c:Nat
def vh:El (List Tr):=⟨Sl,λ y=> [.slice y.A y.n y.c],1,λ _=>rfl,λ w S x y=>eJ.lies w S y.A y.n x,λ hk h=>El.lies.keep h hk⟩
def ep (B:Nat)(w:World):Nat->Prop:=λ b=>B<=b/\b < w.heap.size
theorem cell_of_heap{b:Nat}(h:w'.heap[b]?=w.heap[b]?)(o:Nat):w'.cell? ⟨b,o,none⟩=w.cell? ⟨b,o,none⟩:=by unfold World.cell?;simp only[h]
variable{g:Nat}
theorem eF(h:w.grownBy w' (some g))(hg:g < B):∀b,ep B w b->(∀o,w'.cell? ⟨b,o,none⟩=w.cell? ⟨b,o,none⟩)/\ep B w' b:=λ b hb=>
 ⟨cell_of_heap (h.block b hb.2 (λ e=>by injection e with e;have:=hb.1;omega)),hb.1,Nat.lt_of_lt_of_le hb.2 h.size⟩
theorem fE(h:Below w.heap.size w w'):∀b,ep B w b->(∀o,w'.cell? ⟨b,o,none⟩=w.cell? ⟨b,o,none⟩)/\ep B w' b:=λ b hb=>
 ⟨cell_of_heap (h.block b hb.2),hb.1,Nat.lt_of_lt_of_le hb.2 h.size⟩
variable{q:Nat}
theorem ot(hq:q < B)(i:Nat)(u:Value):∀b,ep B w b->(∀o,(w.setCell ⟨q,i,none⟩ u).cell? ⟨b,o,none⟩=w.cell? ⟨b,o,none⟩)/\ep B (w.setCell ⟨q,i,none⟩ u) b:=λ b hb=>
 ⟨cell_of_heap (Below.heap_setCell w ⟨q,i,none⟩ u b Ta8),hb.1,by simpa [World.setCell] using hb.2⟩
variable{B':Nat}
theorem gy(h:B'<=B):∀b,ep B w b->(∀o,w.cell? ⟨b,o,none⟩=w.cell? ⟨b,o,none⟩)/\ep B' w b:=λ b hb=>⟨λ _=>rfl,Nat.le_trans h hb.1,hb.2⟩
section
variable {B B' g q:Nat} {w w':World} {t:Tr} {y:Ex}
theorem Tr.at_.grown (h:t.at_ w (ep B w) y)(hg:w.grownBy w' (some g))(hB:g < B):t.at_ w' (ep B w') y:=Tr.at_.keep (eF hg hB) t y h
theorem Tr.at_.later (h:t.at_ w (ep B w) y)(hb:Below w.heap.size w w'):t.at_ w' (ep B w') y:=Tr.at_.keep (fE hb) t y h
theorem Tr.at_.set (h:t.at_ w (ep B w) y)(hq:q < B)(i:Nat)(u:Value):t.at_ (w.setCell ⟨q,i,none⟩ u) (ep B (w.setCell ⟨q,i,none⟩ u)) y:=Tr.at_.keep (ot hq i u) t y h
theorem Tr.at_.more (h:t.at_ w (ep B w) y)(hB:B'<=B):t.at_ w (ep B' w) y:=Tr.at_.keep (gy hB) t y h
end
section
variable {α:Type} {E:El α} {B B' g q:Nat} {w w':World} {A:Option Addr} {n:Nat} {l:List α}
theorem El.lies.more (h:E.lies w (ep B w) A n l)(hB:B'<=B):E.lies w (ep B' w) A n l:=h.keep (gy hB)
end
def Bx (B q:Nat)(w:World):Nat->Prop:=λ b=>B<=b/\b < w.heap.size/\b≠q
section
variable {B B' g q:Nat} {w w':World} {t:Tr} {y:Ex}
theorem ik (h:w.grownBy w' (some g))(hg:g < B):∀b,Bx B q w b->(∀o,w'.cell? ⟨b,o,none⟩=w.cell? ⟨b,o,none⟩)/\Bx B q w' b:=λ b hb=>
 ⟨cell_of_heap (h.block b hb.2.1 (λ e=>by injection e with e;have:=hb.1;omega)),hb.1,Nat.lt_of_lt_of_le hb.2.1 h.size,hb.2.2⟩
theorem gB (h:Below w.heap.size w w'):∀b,Bx B q w b->(∀o,w'.cell? ⟨b,o,none⟩=w.cell? ⟨b,o,none⟩)/\Bx B q w' b:=λ b hb=>
 ⟨cell_of_heap (h.block b hb.2.1),hb.1,Nat.lt_of_lt_of_le hb.2.1 h.size,hb.2.2⟩
theorem Ka (i:Nat)(u:Value):∀b,Bx B q w b->(∀o,(w.setCell ⟨q,i,none⟩ u).cell? ⟨b,o,none⟩=w.cell? ⟨b,o,none⟩)/\Bx B q (w.setCell ⟨q,i,none⟩ u) b:=λ b hb=>
 ⟨cell_of_heap (Below.heap_setCell w ⟨q,i,none⟩ u b (λ e=>hb.2.2 e)),hb.1,by simpa [World.setCell] using hb.2.1,hb.2.2⟩
theorem M0 {p:Nat}(hp:p < B)(i:Nat)(u:Value):∀b,Bx B q w b->(∀o,(w.setCell ⟨p,i,none⟩ u).cell? ⟨b,o,none⟩=w.cell? ⟨b,o,none⟩)/\Bx B q (w.setCell ⟨p,i,none⟩ u) b:=λ b hb=>
 ⟨cell_of_heap (Below.heap_setCell w ⟨p,i,none⟩ u b Ta8),hb.1,by simpa [World.setCell] using hb.2.1,hb.2.2⟩
theorem jF (hB:B'<=B):∀b,Bx B q w b->(∀o,w.cell? ⟨b,o,none⟩=w.cell? ⟨b,o,none⟩)/\ep B' w b:=λ b hb=>⟨λ _=>rfl,Nat.le_trans hB hb.1,hb.2.1⟩
theorem wI (o:Obj)(hB:B'<=B):∀b,ep B w b->(∀i,(w.alloc o).cell? ⟨b,i,none⟩=w.cell? ⟨b,i,none⟩)/\Bx B' w.heap.size (w.alloc o) b:=λ b hb=>
 ⟨cell_of_heap (Below.heap_alloc w o b hb.2),Nat.le_trans hB hb.1,by have:=hb.2;simp;omega,by have:=hb.2;omega⟩
theorem Mp (hq:q < B)(hB:B'<=B):∀b,ep B w b->(∀i,w.cell? ⟨b,i,none⟩=w.cell? ⟨b,i,none⟩)/\Bx B' q w b:=λ b hb=>
 ⟨λ _=>rfl,Nat.le_trans hB hb.1,hb.2,by have:=hb.1;omega⟩
end
variable{G:Nat}{T:TypeId}{ys:List β}
theorem uj{f:β->List Value} {size:Nat}(hf:∀x,(f x).length=size)     (h:av w G T (ys.flatMap f).toArray)(hS:S G):RL f size w S (some ⟨G,0,none⟩) ys:=by refine .inr ⟨G,0,rfl,hS,λ i y j u hy hu=>?_⟩;have:=sQ hf ys i y hy j u hu;have hc:=h.cell (i*size+j);rw[Nat.zero_add,hc];exact Zep
theorem qi (y:Ex):(aL y).length=7:=rfl
def rJ:Val:=⟨0,0,⟨#[]⟩⟩
def rK (op:Int)(G n:Nat):Ex:=⟨op,rJ,⟨#[]⟩,0,some ⟨G,0,none⟩,n,n⟩
variable{x:Tr}
theorem wJ(op:Int)(h:av w G T (aL y).toArray)(hS:S G)(hx:x.at_ w S y):(mB op [x]).at_ w S (rK op G 1):=by unfold mB Tr.at_;exact⟨rfl,rfl,rfl,rfl,rfl,[y],uj qi Tam hS,Tr.Ey hx⟩
variable{x2:Tr}{y2:Ex}
theorem Kb(op:Int)(h:av w G T (aL y++aL y2).toArray)(hS:S G)(hx:x.at_ w S y)(hx2:x2.at_ w S y2):(mB op [x,x2]).at_ w S (rK op G 2):=by unfold mB Tr.at_;exact⟨rfl,rfl,rfl,rfl,rfl,[y,y2],uj qi Tam hS,Tr.Ez hx hx2⟩
theorem RN (w:World)(S:Nat->Prop)(v:Val):(oM v).at_ w S ⟨1,v,⟨#[]⟩,0,none,0,0⟩:=by unfold oM Tr.at_;exact Ze9
theorem RO (w:World)(S:Nat->Prop)(n:ByteArray):(ui n).at_ w S ⟨2,rJ,n,0,none,0,0⟩:=by unfold ui Tr.at_;exact Ze9
end Go.Proofs.YtehhdlgjfdnafaaGreatDoor
