/- Parts of the proof. -/
import Derived.Test.YtcneefmaghoejaaGreatDoorProg
import Derived.Shelf.Strings.OnBuilder
import Derived.Shelf.Small.Utf8
import Derived.Shelf.Strings.BuilderK
import Derived.Shelf.Strconv.ErrVarParseInt
import Derived.Shelf.Strings.Prefix
import Derived.Shelf.Strings.Fields
import Derived.Test.YtcneefmaghoejaaGreatDoorC2
namespace Go.Proofs.YtcneefmaghoejaaGreatDoor
open Go.Lib (hid)
open Go.ChangeShapes Go.WideShapes Go.ChangeAt Go.RowKit Go.Shelf
set_option linter.unusedVariables false
set_option linter.unusedSimpArgs false
def Et (f:FuncId)(p:UInt8→Bool):Prop:=∀(c:UInt8) (W:World),Calls Tryz.prog f #[.int .u8 (c.toNat:Int)] W fun e w'=>e=.returned (.bool (p c))∧W=w'
theorem fA {a b:Bool}(h:a=b):Ending.returned (.bool a)=.returned (.bool b):=by rw[h]
theorem lH {k:IntKind} {a b:Int}(h:a=b):Ending.returned (.int k a)=.returned (.int k b):=by rw[h]
theorem zR (c:UInt8):dr c=((decide ((97:Int)≤c.toNat)&& decide ((c.toNat:Int)≤122))||(decide ((65:Int)≤c.toNat)&& decide ((c.toNat:Int)≤90))||((c.toNat:Int)==95)):=by rw[Bool.eq_iff_iff];simp only[dr,UInt8.le_iff_toNat_le,← UInt8.toNat_inj,Bool.or_eq_true,Bool.and_eq_true,decide_eq_true_eq,beq_iff_eq];simp;omega
theorem CK (c:UInt8):bp c=(decide ((48:Int)≤c.toNat)&& decide ((c.toNat:Int)≤57)):=by rw[Bool.eq_iff_iff];simp only[bp,UInt8.le_iff_toNat_le,Bool.and_eq_true,decide_eq_true_eq];simp;omega
set_option maxHeartbeats 1000000
theorem uH:Et 35 dr:=by
 intro c W;rw[zR];have h1:=c.toNat_lt;generalize c.toNat=n at*;go_enter Tryz.func35,Tryz.ntmps35;go_wp2;all_goals
  go_ret;refine⟨?_,rfl⟩;first | rfl |(refine fA ?_;rw[Bool.eq_iff_iff];simp;omega)|(refine fA ?_;rw[Bool.eq_iff_iff];simp;done)
theorem xj:Et 34 bp:=by
 intro c W;rw[CK];have h1:=c.toNat_lt;generalize c.toNat=n at*;go_enter Tryz.func34,Tryz.ntmps34;go_wp2;all_goals
  go_ret;refine⟨?_,rfl⟩;first | rfl |(refine fA ?_;rw[Bool.eq_iff_iff];simp;omega)|(refine fA ?_;rw[Bool.eq_iff_iff];simp;done)
theorem JP (c:UInt8)(k:UInt8):(c==k)=((c.toNat:Int)==(k.toNat:Int)):=by rw[Bool.eq_iff_iff];simp[← UInt8.toNat_inj];omega
theorem tz (c:UInt8):eH c=(((c.toNat:Int)==32)||((c.toNat:Int)==9)||((c.toNat:Int)==10)||((c.toNat:Int)==13)):=by simp only[eH,JP];rfl
theorem NT:Et 58 eH:=by
 intro c W;rw[tz];generalize c.toNat=n at*;go_enter Tryz.func58,Tryz.ntmps58;go_wp2;all_goals
  go_ret;refine⟨?_,rfl⟩;first | rfl |(refine fA ?_;rw[Bool.eq_iff_iff];simp;omega)|(refine fA ?_;rw[Bool.eq_iff_iff];simp;done)
theorem NU:Et 60 (fun c=> !(c==10)):=by
 intro c W;simp only[JP];generalize c.toNat=n at*;go_enter Tryz.func60,Tryz.ntmps60;go_wp2;all_goals
  go_ret;refine⟨?_,rfl⟩;first | rfl |(refine fA ?_;rw[Bool.eq_iff_iff];simp;omega)|(refine fA ?_;rw[Bool.eq_iff_iff];simp;done)
theorem NV:Et 63 (fun c=>c==39):=by
 intro c W;simp only[JP];generalize c.toNat=n at*;go_enter Tryz.func63,Tryz.ntmps63;go_wp2;all_goals
  go_ret;refine⟨?_,rfl⟩;first | rfl |(refine fA ?_;rw[Bool.eq_iff_iff];simp;omega)|(refine fA ?_;rw[Bool.eq_iff_iff];simp;done)
theorem NW:Et 93 dD:=by
 intro c W;unfold dD;cases h:dr c
 ·go_enter Tryz.func93,Tryz.ntmps93;go_wp2_with (first |(go_at_call 35;refine(uH c _).mono ?_;rintro e w' ⟨rfl,rfl⟩;rw[h])|(go_at_call 34;refine(xj c _).mono ?_;rintro e w' ⟨rfl,rfl⟩));go_ret;exact⟨by simp,rfl⟩
 ·go_enter Tryz.func93,Tryz.ntmps93;go_wp2_with (first |(go_at_call 35;refine(uH c _).mono ?_;rintro e w' ⟨rfl,rfl⟩;rw[h])|(go_at_call 34;refine(xj c _).mono ?_;rintro e w' ⟨rfl,rfl⟩));go_ret;exact⟨by simp,rfl⟩
def rh (s:ByteArray)(at_:Nat):Array Value:= #[.string s,.int .i64 at_]
theorem dT {w:World} {g:Nat} {t:TypeId} {s:ByteArray} {a:Nat}(h:au w g t (rh s a)):w.cell? ⟨g,0,none⟩=some (.string s)∧w.cell? ⟨g,1,none⟩=some (.int .i64 a):=⟨h.cell 0,h.cell 1⟩
structure Gp (f:FuncId) (p:UInt8→Bool):Prop where
 enter:∀args w,(callFunc f args).run Tryz.prog w=.ok (.enter f args) w
 says:Et f p
theorem lh:Gp 35 dr:=⟨enters_of Tryz.func35 (by kernel_rfl) rfl,uH⟩
theorem uI:Gp 34 bp:=⟨enters_of Tryz.func34 (by kernel_rfl) rfl,xj⟩
theorem JQ:Gp 58 eH:=⟨enters_of Tryz.func58 (by kernel_rfl) rfl,NT⟩
theorem NY:Gp 60 (fun c=> !(c==10)):=⟨enters_of Tryz.func60 (by kernel_rfl) rfl,NU⟩
theorem zS:Gp 63 (fun c=>c==39):=⟨enters_of Tryz.func63 (by kernel_rfl) rfl,NV⟩
theorem CL:Gp 93 dD:=⟨enters_of Tryz.func93 (by kernel_rfl) rfl,NW⟩
set_option maxRecDepth 100000
theorem nv {f:FuncId} {p:UInt8→Bool}(hf:Gp f p)(s:ByteArray)(at_ k:Nat)(g:Nat)(w:World)(hL:au w g 77 (rh s at_))(hk:k≤s.size)(hs:s.size≤4294967280):
  Calls Tryz.prog 57 #[.pointer (some ⟨g,0,none⟩),.int .i64 k,.func (.func f) #[] #[]] w fun e w'=>e=.returned (.int .i64 (fp p s.data.toList k))∧w=w':=by
 obtain⟨c0,c1⟩:=dT hL;have hlen:s.data.toList.length=s.size:=by simp
 have HL:=hid hlen;clear hlen;have ef:=hf.enter;go_enter Tryz.func57,Tryz.ntmps57;go_wp2_with fail;go_loop [1] (fun u=>∃j:Nat,j≤s.size∧u=.int .i64 j∧fp p s.data.toList k=fp p s.data.toList j) (fun u=>s.size - (intOf u).toNat);case atStart=>exact⟨k,hk,rfl,rfl⟩
 case round=>
  obtain⟨j,hj,rfl,aak⟩:=hrel;have HF:=hid aak;clear aak;by_cases hlt:j < s.size
  ·have HB:=hid (ft s j hlt);cases JC:p s[j]
   ·have HP:=hid JC;clear JC;go_wp2_with (go_at_fn f;refine(hf.says s[j] _).mono ?_;rintro e w' ⟨rfl,rfl⟩;rw[HP.out]);go_ret;exact⟨lH (by rw[HF.out,yY HB.out HP.out]),rfl⟩
   ·have HP:=hid JC;clear JC;go_wp2_with (go_at_fn f;refine(hf.says s[j] _).mono ?_;rintro e w' ⟨rfl,rfl⟩;rw[HP.out]);go_round;case rel=>exact⟨j+1,hlt,by go_num,by rw[HF.out,pH HB.out HP.out]⟩
    case measure=>simp[intOf];omega
  ·go_wp2_with fail;go_ret;exact⟨lH (by rw[HF.out,vD (by rw[HL.out];omega)]),rfl⟩
end Go.Proofs.YtcneefmaghoejaaGreatDoor
namespace Go.Proofs
open Go.Lib (hid)
open Go.Shelf
def Tryz.lays169_ren:Go.Shelf.Ren:=⟨fun | 169=>97 | n=>n,fun | 70=>122 | 9=>9 | 0=>0 | 72=>124 | 37=>53 | 127=>136 | 3=>3 | 5=>5 | n=>n,fun | n=>n⟩
theorem Tryz.lays169:Go.Proofs.Lays.n169 Tryz.prog Tryz.lays169_ren:= {
 mixed:=by kernel_rfl
 f169:=Tryz.func97.trans (congrArg some (by kernel_rfl))
 t0:=Tryz.underlying0
 a0:=Tryz.isAgg0
 z0:=Tryz.sizeOf0
 v0:=Tryz.zeroValue0
 t3:=Tryz.underlying3
 a3:=Tryz.isAgg3
 z3:=Tryz.sizeOf3
 v3:=Tryz.zeroValue3
 t9:=Tryz.underlying9
 a9:=Tryz.isAgg9
 z9:=Tryz.sizeOf9
 v9:=Tryz.zeroValue9
 t37:=Tryz.underlying53
 a37:=Tryz.isAgg53
 z37:=Tryz.sizeOf53
 v37:=Tryz.zeroValue53
 t70:=Tryz.underlying122
 a70:=Tryz.isAgg122
 z70:=Tryz.sizeOf122
 v70:=Tryz.zeroValue122
 t72:=Tryz.underlying124
 a72:=Tryz.isAgg124
 z72:=Tryz.sizeOf124
 v72:=Tryz.zeroValue124
 t127:=Tryz.underlying136
 a127:=Tryz.isAgg136
 z127:=Tryz.sizeOf136
 v127:=Tryz.zeroValue136 }
theorem Tryz.Builder_Extra_169:Builder.Extra Tryz.prog Tryz.lays169_ren:= {
 sizeBuilder:=by kernel_rfl
 liesBuilder:=by kernel_rfl
 t5:=Tryz.underlying5
 a5:=Tryz.isAgg5
 z5:=Tryz.sizeOf5
 v5:=Tryz.zeroValue5
 infoByte:=by kernel_rfl
 cellsByte:=by kernel_rfl
 sizeByte:=by kernel_rfl
 neB5:=by decide }
open Go.RowKit in
theorem Tryz.Builder_String_any (B b:Nat)(l:List UInt8)(w:World)(h:Lib.IsBuilder 124 5 B b (Lib.byteCells l) w)(za:B≤w.heap.size):
 Calls Tryz.prog 97 #[.pointer (some ⟨b,0,none⟩)] w fun e w'=>e=.returned (.string ⟨l.toArray⟩)∧Below B w w':=Any.Builder_String_any Tryz.lays169 Tryz.Builder_Extra_169 B b l w h za
def Tryz.lays159_ren:Go.Shelf.Ren:=⟨fun | 159=>95 | 165=>109 | 166=>110 | 167=>98 | 169=>97 | 230=>111 | 204=>112 | 240=>115 | 241=>121 | 197=>122 | 118=>123 | 168=>124 | 270=>125 | 262=>126 | 276=>132 | 277=>137 | 260=>138 | 242=>139 | 313=>140 | 278=>149 | 274=>150 | 275=>151 | n=>n,fun | 9=>9 | 4=>4 | 3=>3 | 5=>5 | 72=>124 | 0=>0 | 76=>131 | 75=>119 | 107=>134 | 70=>122 | 20=>20 | 37=>53 | 127=>136 | 21=>21 | 105=>144 | 164=>158 | 162=>173 | 203=>171 | 119=>137 | 46=>154 | 139=>192 | 138=>191 | 51=>163 | 160=>193 | 208=>204 | 206=>202 | 80=>89 | n=>n,fun | 13=>2 | 3=>6 | 4=>7 | n=>n⟩
theorem Tryz.lays159:Go.Proofs.Lays.n159 Tryz.prog Tryz.lays159_ren:= {
 mixed:=by kernel_rfl
 f118:=Tryz.func123.trans (congrArg some (by kernel_rfl))
 f159:=Tryz.func95.trans (congrArg some (by kernel_rfl))
 f165:=Tryz.func109.trans (congrArg some (by kernel_rfl))
 f166:=Tryz.func110.trans (congrArg some (by kernel_rfl))
 f167:=Tryz.func98.trans (congrArg some (by kernel_rfl))
 f168:=Tryz.func124.trans (congrArg some (by kernel_rfl))
 f169:=Tryz.func97.trans (congrArg some (by kernel_rfl))
 f197:=Tryz.func122.trans (congrArg some (by kernel_rfl))
 f204:=Tryz.func112.trans (congrArg some (by kernel_rfl))
 f230:=Tryz.func111.trans (congrArg some (by kernel_rfl))
 f240:=Tryz.func115.trans (congrArg some (by kernel_rfl))
 f241:=Tryz.func121.trans (congrArg some (by kernel_rfl))
 f242:=Tryz.func139.trans (congrArg some (by kernel_rfl))
 f260:=Tryz.func138.trans (congrArg some (by kernel_rfl))
 f262:=Tryz.func126.trans (congrArg some (by kernel_rfl))
 f270:=Tryz.func125.trans (congrArg some (by kernel_rfl))
 f274:=Tryz.func150.trans (congrArg some (by kernel_rfl))
 f275:=Tryz.func151.trans (congrArg some (by kernel_rfl))
 f276:=Tryz.func132.trans (congrArg some (by kernel_rfl))
 f277:=Tryz.func137.trans (congrArg some (by kernel_rfl))
 f278:=Tryz.func149.trans (congrArg some (by kernel_rfl))
 f313:=Tryz.func140.trans (congrArg some (by kernel_rfl))
 t0:=Tryz.underlying0
 a0:=Tryz.isAgg0
 z0:=Tryz.sizeOf0
 v0:=Tryz.zeroValue0
 t3:=Tryz.underlying3
 a3:=Tryz.isAgg3
 z3:=Tryz.sizeOf3
 v3:=Tryz.zeroValue3
 t4:=Tryz.underlying4
 a4:=Tryz.isAgg4
 z4:=Tryz.sizeOf4
 v4:=Tryz.zeroValue4
 t5:=Tryz.underlying5
 a5:=Tryz.isAgg5
 z5:=Tryz.sizeOf5
 v5:=Tryz.zeroValue5
 t9:=Tryz.underlying9
 a9:=Tryz.isAgg9
 z9:=Tryz.sizeOf9
 v9:=Tryz.zeroValue9
 t20:=Tryz.underlying20
 a20:=Tryz.isAgg20
 z20:=Tryz.sizeOf20
 v20:=Tryz.zeroValue20
 t21:=Tryz.underlying21
 a21:=Tryz.isAgg21
 z21:=Tryz.sizeOf21
 v21:=Tryz.zeroValue21
 t37:=Tryz.underlying53
 a37:=Tryz.isAgg53
 z37:=Tryz.sizeOf53
 v37:=Tryz.zeroValue53
 t46:=Tryz.underlying154
 a46:=Tryz.isAgg154
 z46:=Tryz.sizeOf154
 v46:=Tryz.zeroValue154
 t51:=Tryz.underlying163
 a51:=Tryz.isAgg163
 z51:=Tryz.sizeOf163
 v51:=Tryz.zeroValue163
 t70:=Tryz.underlying122
 a70:=Tryz.isAgg122
 z70:=Tryz.sizeOf122
 v70:=Tryz.zeroValue122
 t72:=Tryz.underlying124
 a72:=Tryz.isAgg124
 z72:=Tryz.sizeOf124
 v72:=Tryz.zeroValue124
 t75:=Tryz.underlying119
 a75:=Tryz.isAgg119
 z75:=Tryz.sizeOf119
 v75:=Tryz.zeroValue119
 t76:=Tryz.underlying131
 a76:=Tryz.isAgg131
 z76:=Tryz.sizeOf131
 v76:=Tryz.zeroValue131
 t105:=Tryz.underlying144
 a105:=Tryz.isAgg144
 z105:=Tryz.sizeOf144
 v105:=Tryz.zeroValue144
 t107:=Tryz.underlying134
 a107:=Tryz.isAgg134
 z107:=Tryz.sizeOf134
 v107:=Tryz.zeroValue134
 t119:=Tryz.underlying137
 a119:=Tryz.isAgg137
 z119:=Tryz.sizeOf137
 t127:=Tryz.underlying136
 a127:=Tryz.isAgg136
 z127:=Tryz.sizeOf136
 v127:=Tryz.zeroValue136
 t138:=Tryz.underlying191
 a138:=Tryz.isAgg191
 z138:=Tryz.sizeOf191
 v138:=Tryz.zeroValue191
 t139:=Tryz.underlying192
 a139:=Tryz.isAgg192
 z139:=Tryz.sizeOf192
 v139:=Tryz.zeroValue192
 t160:=Tryz.underlying193
 a160:=Tryz.isAgg193
 z160:=Tryz.sizeOf193
 v160:=Tryz.zeroValue193
 t162:=Tryz.underlying173
 a162:=Tryz.isAgg173
 z162:=Tryz.sizeOf173
 v162:=Tryz.zeroValue173
 t164:=Tryz.underlying158
 a164:=Tryz.isAgg158
 z164:=Tryz.sizeOf158
 v164:=Tryz.zeroValue158
 t203:=Tryz.underlying171
 a203:=Tryz.isAgg171
 z203:=Tryz.sizeOf171
 v203:=Tryz.zeroValue171
 t206:=Tryz.underlying202
 a206:=Tryz.isAgg202
 z206:=Tryz.sizeOf202
 v206:=Tryz.zeroValue202
 t208:=Tryz.underlying204
 a208:=Tryz.isAgg204
 z208:=Tryz.sizeOf204
 v208:=Tryz.zeroValue204
 g3:=by kernel_rfl
 g4:=by kernel_rfl
 g13:=by kernel_rfl }
theorem Tryz.Builder_Extra_159:Builder.Extra Tryz.prog Tryz.lays159_ren:= {
 sizeBuilder:=by kernel_rfl
 liesBuilder:=by kernel_rfl
 t5:=Tryz.underlying5
 a5:=Tryz.isAgg5
 z5:=Tryz.sizeOf5
 v5:=Tryz.zeroValue5
 infoByte:=by kernel_rfl
 cellsByte:=by kernel_rfl
 sizeByte:=by kernel_rfl
 neB5:=by decide }
open Go.RowKit in
theorem Tryz.strings_ToLower_ascii (s:ByteArray)(w:World)(hs:s.size≤140737488355328)(zT:∀(j:Nat) (b:UInt8),s.data.toList[j]?=some b→b.toNat < 128):
 Calls Tryz.prog 95 #[.string s] w fun e w'=>e=.returned (.string ⟨(Lib.toLowerA s.data.toList).toArray⟩)∧Below w.heap.size w w':=Any.strings_ToLower_ascii Tryz.lays159 Tryz.Builder_Extra_159 s w hs zT
def Tryz.laysC174_ren:Go.Shelf.Ren:=⟨fun | 174=>96 | 247=>113 | 245=>114 | 287=>127 | 279=>128 | 280=>129 | 281=>130 | 282=>131 | 321=>141 | 322=>142 | 316=>143 | 171=>145 | 205=>144 | 243=>152 | 246=>154 | 283=>156 | 284=>157 | 285=>158 | 286=>159 | 129=>162 | 317=>161 | 318=>163 | 319=>164 | 320=>165 | 337=>167 | 338=>168 | n=>n,fun | 9=>9 | 3=>3 | 2=>2 | 75=>119 | 85=>120 | 4=>4 | 167=>150 | 5=>5 | 53=>151 | 175=>152 | 46=>154 | 168=>155 | 37=>53 | 0=>0 | 210=>176 | 21=>21 | 127=>136 | 145=>198 | 143=>196 | 171=>206 | 173=>209 | 212=>213 | 51=>163 | 20=>20 | 213=>214 | 232=>218 | 233=>219 | 80=>89 | n=>n,fun | 15=>3 | 16=>4 | 17=>8 | 18=>9 | 19=>10 | n=>n⟩
theorem Tryz.laysC174:Go.Proofs.LaysC.n174 Tryz.prog Tryz.laysC174_ren:= {
 mixed:=by kernel_rfl
 f129:=Tryz.func162.trans (congrArg some (by kernel_rfl))
 f171:=Tryz.func145.trans (congrArg some (by kernel_rfl))
 f174:=Tryz.func96.trans (congrArg some (by kernel_rfl))
 f205:=Tryz.func144.trans (congrArg some (by kernel_rfl))
 f243:=Tryz.func152.trans (congrArg some (by kernel_rfl))
 f245:=Tryz.func114.trans (congrArg some (by kernel_rfl))
 f246:=Tryz.func154.trans (congrArg some (by kernel_rfl))
 f247:=Tryz.func113.trans (congrArg some (by kernel_rfl))
 f279:=Tryz.func128.trans (congrArg some (by kernel_rfl))
 f280:=Tryz.func129.trans (congrArg some (by kernel_rfl))
 f281:=Tryz.func130.trans (congrArg some (by kernel_rfl))
 f282:=Tryz.func131.trans (congrArg some (by kernel_rfl))
 f283:=Tryz.func156.trans (congrArg some (by kernel_rfl))
 f284:=Tryz.func157.trans (congrArg some (by kernel_rfl))
 f285:=Tryz.func158.trans (congrArg some (by kernel_rfl))
 f286:=Tryz.func159.trans (congrArg some (by kernel_rfl))
 f287:=Tryz.func127.trans (congrArg some (by kernel_rfl))
 f316:=Tryz.func143.trans (congrArg some (by kernel_rfl))
 f317:=Tryz.func161.trans (congrArg some (by kernel_rfl))
 f318:=Tryz.func163.trans (congrArg some (by kernel_rfl))
 f319:=Tryz.func164.trans (congrArg some (by kernel_rfl))
 f320:=Tryz.func165.trans (congrArg some (by kernel_rfl))
 f321:=Tryz.func141.trans (congrArg some (by kernel_rfl))
 f322:=Tryz.func142.trans (congrArg some (by kernel_rfl))
 f337:=Tryz.func167.trans (congrArg some (by kernel_rfl))
 f338:=Tryz.func168.trans (congrArg some (by kernel_rfl))
 t0:=Tryz.underlying0
 a0:=Tryz.isAgg0
 z0:=Tryz.sizeOf0
 v0:=Tryz.zeroValue0
 t2:=Tryz.underlying2
 a2:=Tryz.isAgg2
 z2:=Tryz.sizeOf2
 v2:=Tryz.zeroValue2
 t3:=Tryz.underlying3
 a3:=Tryz.isAgg3
 z3:=Tryz.sizeOf3
 v3:=Tryz.zeroValue3
 t4:=Tryz.underlying4
 a4:=Tryz.isAgg4
 z4:=Tryz.sizeOf4
 v4:=Tryz.zeroValue4
 t5:=Tryz.underlying5
 a5:=Tryz.isAgg5
 z5:=Tryz.sizeOf5
 v5:=Tryz.zeroValue5
 t9:=Tryz.underlying9
 a9:=Tryz.isAgg9
 z9:=Tryz.sizeOf9
 v9:=Tryz.zeroValue9
 t20:=Tryz.underlying20
 a20:=Tryz.isAgg20
 z20:=Tryz.sizeOf20
 v20:=Tryz.zeroValue20
 t21:=Tryz.underlying21
 a21:=Tryz.isAgg21
 z21:=Tryz.sizeOf21
 v21:=Tryz.zeroValue21
 t37:=Tryz.underlying53
 a37:=Tryz.isAgg53
 z37:=Tryz.sizeOf53
 v37:=Tryz.zeroValue53
 t46:=Tryz.underlying154
 a46:=Tryz.isAgg154
 z46:=Tryz.sizeOf154
 v46:=Tryz.zeroValue154
 t51:=Tryz.underlying163
 a51:=Tryz.isAgg163
 z51:=Tryz.sizeOf163
 v51:=Tryz.zeroValue163
 t53:=Tryz.underlying151
 a53:=Tryz.isAgg151
 z53:=Tryz.sizeOf151
 v53:=Tryz.zeroValue151
 t75:=Tryz.underlying119
 a75:=Tryz.isAgg119
 z75:=Tryz.sizeOf119
 v75:=Tryz.zeroValue119
 t85:=Tryz.underlying120
 a85:=Tryz.isAgg120
 z85:=Tryz.sizeOf120
 v85:=Tryz.zeroValue120
 t127:=Tryz.underlying136
 a127:=Tryz.isAgg136
 z127:=Tryz.sizeOf136
 v127:=Tryz.zeroValue136
 t143:=Tryz.underlying196
 a143:=Tryz.isAgg196
 z143:=Tryz.sizeOf196
 v143:=Tryz.zeroValue196
 t145:=Tryz.underlying198
 a145:=Tryz.isAgg198
 z145:=Tryz.sizeOf198
 v145:=Tryz.zeroValue198
 t167:=Tryz.underlying150
 a167:=Tryz.isAgg150
 z167:=Tryz.sizeOf150
 v167:=Tryz.zeroValue150
 t168:=Tryz.underlying155
 a168:=Tryz.isAgg155
 z168:=Tryz.sizeOf155
 v168:=Tryz.zeroValue155
 t171:=Tryz.underlying206
 a171:=Tryz.isAgg206
 z171:=Tryz.sizeOf206
 v171:=Tryz.zeroValue206
 t173:=Tryz.underlying209
 a173:=Tryz.isAgg209
 z173:=Tryz.sizeOf209
 v173:=Tryz.zeroValue209
 t175:=Tryz.underlying152
 a175:=Tryz.isAgg152
 z175:=Tryz.sizeOf152
 v175:=Tryz.zeroValue152
 t210:=Tryz.underlying176
 a210:=Tryz.isAgg176
 z210:=Tryz.sizeOf176
 v210:=Tryz.zeroValue176
 t212:=Tryz.underlying213
 a212:=Tryz.isAgg213
 z212:=Tryz.sizeOf213
 v212:=Tryz.zeroValue213
 t213:=Tryz.underlying214
 a213:=Tryz.isAgg214
 z213:=Tryz.sizeOf214
 t232:=Tryz.underlying218
 a232:=Tryz.isAgg218
 z232:=Tryz.sizeOf218
 v232:=Tryz.zeroValue218
 t233:=Tryz.underlying219
 a233:=Tryz.isAgg219
 z233:=Tryz.sizeOf219
 v233:=Tryz.zeroValue219
 g15:=by kernel_rfl
 g16:=by kernel_rfl
 g17:=by kernel_rfl
 g18:=by kernel_rfl
 g19:=by kernel_rfl
 t80:=Tryz.underlying89
 a80:=Tryz.isAgg89
 z80:=Tryz.sizeOf89
 v80:=Tryz.zeroValue89
 i0:=by kernel_rfl
 i2:=by kernel_rfl
 i3:=by kernel_rfl
 i4:=by kernel_rfl
 i5:=by kernel_rfl
 i9:=by kernel_rfl
 i20:=by kernel_rfl
 i21:=by kernel_rfl
 i37:=by kernel_rfl
 i46:=by kernel_rfl
 i51:=by kernel_rfl
 i53:=by kernel_rfl
 i75:=by kernel_rfl
 i80:=by kernel_rfl
 i85:=by kernel_rfl
 i127:=by kernel_rfl
 i143:=by kernel_rfl
 i145:=by kernel_rfl
 i167:=by kernel_rfl
 i168:=by kernel_rfl
 i171:=by kernel_rfl
 i173:=by kernel_rfl
 i175:=by kernel_rfl
 i210:=by kernel_rfl
 i212:=by kernel_rfl
 i232:=by kernel_rfl
 i233:=by kernel_rfl
 m15:=by kernel_rfl
 m16:=by kernel_rfl
 m17:=by kernel_rfl
 m18:=by kernel_rfl
 m19:=by kernel_rfl
 c0:=by kernel_rfl
 c2:=by kernel_rfl
 c3:=by kernel_rfl
 c4:=by kernel_rfl
 c5:=by kernel_rfl
 c9:=by kernel_rfl
 c20:=by kernel_rfl
 c21:=by kernel_rfl
 c37:=by kernel_rfl
 c46:=by kernel_rfl
 c51:=by kernel_rfl
 c53:=by kernel_rfl
 c75:=by kernel_rfl
 c80:=by kernel_rfl
 c85:=by kernel_rfl
 c127:=by kernel_rfl
 c143:=by kernel_rfl
 c145:=by kernel_rfl
 c167:=by kernel_rfl
 c168:=by kernel_rfl
 c171:=by kernel_rfl
 c173:=by kernel_rfl
 c175:=by kernel_rfl
 c210:=by kernel_rfl
 c212:=by kernel_rfl
 c213:=by kernel_rfl
 c232:=by kernel_rfl
 c233:=by kernel_rfl }
open Go.RowKit in
theorem Tryz.strconv_ParseInt_10_at64_ok (s:ByteArray)(aeU:s.size≤9223372036854775806)(v:Int)(h:Lib.parseIntB 64 s.data.toList=.ok v)(w:World):
 Calls Tryz.prog 96 #[.string s,.int .i64 10,.int .i64 64] w fun e w'=>e=.returned (.tuple #[.int .i64 v,.nilIface])∧(w'=w∨∃t,w'=Lib.bytesWorld w 5 t):=Any.strconv_ParseInt_10_at64_ok Tryz.laysC174 s aeU v h w
open Go.RowKit in
theorem Tryz.strconv_ParseInt_10_at64_range_var (s:ByteArray)(aeV:s.size≤281474976710656)(h:Lib.parseIntB 64 s.data.toList=.range)(tp:TypeId)(p:Value)(w:World)(aeW:w.var? Tryz.prog "strconv.ErrRange" =some #[.iface tp p]):
 Calls Tryz.prog 96 #[.string s,.int .i64 10,.int .i64 64] w fun e w'=>∃N,e=.returned (.tuple #[.int .i64 (Lib.intSat 64 s.data.toList),.iface 155 (.pointer (some ⟨N,0,none⟩))])∧w.heap.size≤N∧w'.heap[N]?=some (.cells #[.string ⟨#[80,97,114,115,101,73,110,116]⟩,.string s,.iface tp p] 176 (0,0))∧Below w.heap.size w w':=Any.strconv_ParseInt_10_at64_range_var Tryz.laysC174 s aeV h tp p w aeW
def Tryz.lays99_ren:Go.Shelf.Ren:=⟨fun | 99=>59 | 206=>92 | n=>n,fun | 9=>9 | 4=>4 | 3=>3 | n=>n,fun | n=>n⟩
theorem Tryz.lays99:Go.Proofs.Lays.n99 Tryz.prog Tryz.lays99_ren:= {
 mixed:=by kernel_rfl
 f99:=Tryz.func59.trans (congrArg some (by kernel_rfl))
 f206:=Tryz.func92.trans (congrArg some (by kernel_rfl))
 t3:=Tryz.underlying3
 a3:=Tryz.isAgg3
 z3:=Tryz.sizeOf3
 v3:=Tryz.zeroValue3
 t4:=Tryz.underlying4
 a4:=Tryz.isAgg4
 z4:=Tryz.sizeOf4
 v4:=Tryz.zeroValue4
 t9:=Tryz.underlying9
 a9:=Tryz.isAgg9
 z9:=Tryz.sizeOf9
 v9:=Tryz.zeroValue9 }
open Go.RowKit Go.Lib in
theorem Tryz.strings_HasPrefix (s p:ByteArray)(w:World):
 Calls Tryz.prog 59 #[.string s,.string p] w fun e w'=>e=.returned (.bool (Lib.hasPrefix s.data.toList p.data.toList))∧w'=w:=Any.strings_HasPrefix Tryz.lays99 s p w
def Tryz.lays157_ren:Go.Shelf.Ren:=⟨fun | 157=>99 | 229=>116 | 199=>117 | 261=>133 | 311=>146 | 312=>147 | n=>n,fun | 9=>9 | 31=>112 | 3=>3 | 5=>5 | 4=>4 | 119=>137 | 0=>0 | 40=>139 | 152=>160 | 21=>21 | 154=>162 | 51=>163 | 141=>165 | 196=>182 | 193=>179 | 198=>185 | 49=>183 | 194=>180 | 201=>188 | 226=>199 | 46=>154 | 227=>200 | n=>n,fun | 0=>0 | 6=>1 | n=>n⟩
theorem Tryz.lays157:Go.Proofs.Lays.n157 Tryz.prog Tryz.lays157_ren:= {
 mixed:=by kernel_rfl
 f157:=Tryz.func99.trans (congrArg some (by kernel_rfl))
 f199:=Tryz.func117.trans (congrArg some (by kernel_rfl))
 f229:=Tryz.func116.trans (congrArg some (by kernel_rfl))
 f261:=Tryz.func133.trans (congrArg some (by kernel_rfl))
 f311:=Tryz.func146.trans (congrArg some (by kernel_rfl))
 f312:=Tryz.func147.trans (congrArg some (by kernel_rfl))
 t0:=Tryz.underlying0
 a0:=Tryz.isAgg0
 z0:=Tryz.sizeOf0
 v0:=Tryz.zeroValue0
 t3:=Tryz.underlying3
 a3:=Tryz.isAgg3
 z3:=Tryz.sizeOf3
 v3:=Tryz.zeroValue3
 t4:=Tryz.underlying4
 a4:=Tryz.isAgg4
 z4:=Tryz.sizeOf4
 v4:=Tryz.zeroValue4
 t5:=Tryz.underlying5
 a5:=Tryz.isAgg5
 z5:=Tryz.sizeOf5
 v5:=Tryz.zeroValue5
 t9:=Tryz.underlying9
 a9:=Tryz.isAgg9
 z9:=Tryz.sizeOf9
 v9:=Tryz.zeroValue9
 t21:=Tryz.underlying21
 a21:=Tryz.isAgg21
 z21:=Tryz.sizeOf21
 v21:=Tryz.zeroValue21
 t31:=Tryz.underlying112
 a31:=Tryz.isAgg112
 z31:=Tryz.sizeOf112
 v31:=Tryz.zeroValue112
 t40:=Tryz.underlying139
 a40:=Tryz.isAgg139
 z40:=Tryz.sizeOf139
 v40:=Tryz.zeroValue139
 t46:=Tryz.underlying154
 a46:=Tryz.isAgg154
 z46:=Tryz.sizeOf154
 v46:=Tryz.zeroValue154
 t49:=Tryz.underlying183
 a49:=Tryz.isAgg183
 z49:=Tryz.sizeOf183
 v49:=Tryz.zeroValue183
 t51:=Tryz.underlying163
 a51:=Tryz.isAgg163
 z51:=Tryz.sizeOf163
 v51:=Tryz.zeroValue163
 t119:=Tryz.underlying137
 a119:=Tryz.isAgg137
 z119:=Tryz.sizeOf137
 t141:=Tryz.underlying165
 a141:=Tryz.isAgg165
 z141:=Tryz.sizeOf165
 v141:=Tryz.zeroValue165
 t152:=Tryz.underlying160
 a152:=Tryz.isAgg160
 z152:=Tryz.sizeOf160
 v152:=Tryz.zeroValue160
 t154:=Tryz.underlying162
 a154:=Tryz.isAgg162
 z154:=Tryz.sizeOf162
 v154:=Tryz.zeroValue162
 t193:=Tryz.underlying179
 a193:=Tryz.isAgg179
 z193:=Tryz.sizeOf179
 v193:=Tryz.zeroValue179
 t194:=Tryz.underlying180
 a194:=Tryz.isAgg180
 z194:=Tryz.sizeOf180
 v194:=Tryz.zeroValue180
 t196:=Tryz.underlying182
 a196:=Tryz.isAgg182
 z196:=Tryz.sizeOf182
 v196:=Tryz.zeroValue182
 t198:=Tryz.underlying185
 a198:=Tryz.isAgg185
 z198:=Tryz.sizeOf185
 v198:=Tryz.zeroValue185
 t201:=Tryz.underlying188
 a201:=Tryz.isAgg188
 z201:=Tryz.sizeOf188
 v201:=Tryz.zeroValue188
 t226:=Tryz.underlying199
 a226:=Tryz.isAgg199
 z226:=Tryz.sizeOf199
 v226:=Tryz.zeroValue199
 t227:=Tryz.underlying200
 a227:=Tryz.isAgg200
 z227:=Tryz.sizeOf200
 v227:=Tryz.zeroValue200
 g0:=by kernel_rfl
 g6:=by kernel_rfl }
open Go.RowKit Go.Lib in
theorem Tryz.strings_Fields (s:ByteArray)(w:World)(hs:s.size < 4294967281)(zT:∀(j:Nat) b,s.data.toList[j]?=some b→b.toNat < 128)(aeX:Lib.TabIs Tryz.prog w "strings.asciiSpace" .u8 Lib.asciiSpaceTab):
 Calls Tryz.prog 99 #[.string s] w fun e w'=>
  e=.returned (.slice (some ⟨w.heap.size,0,none⟩) (Lib.fields s.data.toList).length (Lib.fields s.data.toList).length)∧w'=w.alloc (.cells ((Lib.fields s.data.toList).map fun l=>Value.string ⟨l.toArray⟩).toArray 9):=Any.strings_Fields Tryz.lays157 (by kernel_rfl) (by kernel_rfl) s w hs zT aeX
end Go.Proofs
namespace Go.Proofs.YtcneefmaghoejaaGreatDoor
open Go.Lib (hid)
open Go.ChangeShapes Go.WideShapes Go.ChangeAt Go.RowKit Go.Shelf
set_option linter.unusedVariables false
set_option linter.unusedSimpArgs false
def Wj (g:Nat)(w:World):Nat:=match w.cell? ⟨g,1,none⟩with | some (.int .i64 n)=>n.toNat | _=>0
theorem vF {w:World} {g:Nat} {t:TypeId} {s:ByteArray} {a:Nat}(h:au w g t (rh s a)):Wj g w=a:=by unfold Wj;rw[(dT h).2];simp
def At (s:ByteArray)(g:Nat)(w:World)(a:Nat)(w':World):Prop:=au w' g 77 (rh s a)∧w.grownBy w' (some g)
theorem At.refl {s:ByteArray} {g a:Nat} {w:World}(h:au w g 77 (rh s a)):At s g w a w:=⟨h,aH (Below.refl _ _)⟩
theorem At.set {s:ByteArray} {g a b:Nat} {w w':World}(h:At s g w a w'):At s g w b (w'.setCell ⟨g,1,none⟩ (.int .i64 b)):=⟨h.1.cg 1 _,cd h.2 1 _⟩
theorem At.later {s:ByteArray} {g a:Nat} {w w1 w2:World}(h:At s g w a w1)(k:Below w1.heap.size w1 w2):At s g w a w2:=⟨h.1.later k,af h.2 (aH k)⟩
theorem At.trans {s:ByteArray} {g a b:Nat} {w w1 w2:World}(h:At s g w a w1)(k:At s g w1 b w2):At s g w b w2:=⟨k.1,af h.2 k.2⟩
theorem At.other {s:ByteArray} {g a q:Nat} {t:TypeId} {cs:Array Value} {w w':World}(h:At s g w a w')(hq:au w q t cs)(hne:q≠g):au w' q t cs:=hq.grown h.2 fun e=>hne (by injection e)
theorem At.far {s:ByteArray} {g a q:Nat} {w w':World}(h:At s g w a w')(hq:w.heap.size≤q)(hne:q≠g)(i:Nat)(v:Value):At s g w a (w'.setCell ⟨q,i,none⟩ v):=by
 refine⟨h.1.far (p:=⟨q,i,none⟩) (fun e=>hne e.symm) v,h.2.os,h.2.tape,h.2.output,?_,fun k hk Wk=>?_⟩
 ·have:(w'.setCell ⟨q,i,none⟩ v).heap.size=w'.heap.size:=by simp[World.setCell]
  rw[this];exact h.2.size
 ·rw[Below.heap_setCell w' ⟨q,i,none⟩ v k (by simp;omega)];exact h.2.block k hk Wk
theorem aT {w:World} {q:Nat} {t:TypeId} {a b c d:Value}(h:au w q t #[a,b,c,d]):
  w.cell? ⟨q,0,none⟩=some a∧w.cell? ⟨q,1,none⟩=some b∧w.cell? ⟨q,2,none⟩=some c∧w.cell? ⟨q,3,none⟩=some d∧w.frozen? ⟨q,0,none⟩=false∧w.frozen? ⟨q,1,none⟩=false∧w.frozen? ⟨q,2,none⟩=false∧w.frozen? ⟨q,3,none⟩=false:=
 ⟨h.cell 0,h.cell 1,h.cell 2,h.cell 3,h.frozen 0,h.frozen 1,h.frozen 2,h.frozen 3⟩
theorem uJ {w:World} {g:Nat} {t:TypeId} {s:ByteArray} {a:Nat}(h:au w g t (rh s a))(i:Nat):w.frozen? ⟨g,i,none⟩=false:=h.frozen i
theorem zU (s p:ByteArray)(w:World):Calls Tryz.prog 59 #[.string s,.string p] w fun e w'=>e=.returned (.bool (Lib.hasPrefix s.data.toList p.data.toList))∧w'=w:=Tryz.strings_HasPrefix s p w
theorem nw (s:ByteArray)(a b:Nat):(s.extract a b).data.toList=(s.data.toList.take b).drop a:=by rw[ByteArray.data_extract,Array.toList_extract,List.extract_eq_take_drop,List.drop_take]
theorem Gq (s:ByteArray)(a:Nat):(s.extract a s.size).data.toList=s.data.toList.drop a:=by rw[nw];congr 1;rw[List.take_of_length_le (by simp)]
theorem tA {s p:ByteArray} {k:Nat} {b:Bool}(h:Lib.hasPrefix (s.data.toList.drop k) p.data.toList=b)(w:World):Calls Tryz.prog 59 #[.string (s.extract k s.size),.string p] w fun e w'=>e=.returned (.bool b)∧w'=w:=
 (zU _ _ w).mono fun e w' ⟨he,hw⟩=>⟨by rw[he,Gq,h],hw⟩
def eT (s:ByteArray)(a:Nat):Nat:=s.size - (bZ false (s.data.toList.drop a)).length
theorem jk (s:ByteArray)(a:Nat):s.data.toList.drop (eT s a)=bZ false (s.data.toList.drop a):=by have h:bZ false (s.data.toList.drop a)<:+ s.data.toList:=(mI _ _).trans (List.drop_suffix _ _);have:=drop_suffix h;simpa [eT] using this
theorem nL (s:ByteArray)(a:Nat):eT s a≤s.size:=Nat.sub_le _ _
theorem CM (s:ByteArray) {a b:Nat}(h:bZ false (s.data.toList.drop a)=bZ false (s.data.toList.drop b)):eT s a=eT s b:=by unfold eT;rw[h]
theorem Gr (s:ByteArray) {a:Nat}(ha:a≤s.size)(h:Lib.hasPrefix (s.data.toList.drop (fp eH s.data.toList a)) [45,45]=false):eT s a=fp eH s.data.toList a:=by rw[mH] at h;have h2:=NS h;unfold eT;rw[h2,← mH,List.length_drop];have:=oY eH s.data.toList a (by simpa using ha);simp at this ⊢;omega
theorem Gs (s:ByteArray) {a:Nat}(ha:a≤s.size)(h:Lib.hasPrefix (s.data.toList.drop (fp eH s.data.toList a)) [45,45]=true):
  eT s a=eT s (fp (fun c=> !(c==10)) s.data.toList (fp eH s.data.toList a))∧a < fp (fun c=> !(c==10)) s.data.toList (fp eH s.data.toList a):=by
 refine⟨CM s ?_,?_⟩
 ·rw[mH _ _ (fp _ _ _),← Rc h,mH,← uG]
 ·have h1:=qA eH s.data.toList a;generalize fp eH s.data.toList a=k at*
  match hk:s.data.toList[k]? with
  | none=>rw[List.drop_eq_nil_of_le (by simpa using hk)] at h;simp[Lib.hasPrefix] at h
  | some c=>
    rw[drop_at hk] at h;have hc:c=45:=by simp[Lib.hasPrefix,List.isPrefixOf] at h;exact h.1.symm
    subst hc;rw[pH hk (by decide)];have:=qA (fun c=> !(c==10)) s.data.toList (k+1);omega
def Rf (s:ByteArray)(g a:Nat)(w:World)(e:Ending)(w':World):Prop:=e=.returned (.tuple #[])∧At s g w (eT s a) w'
set_option maxHeartbeats 2000000
set_option maxRecDepth 100000
theorem Gt (s:ByteArray)(g at_:Nat)(w:World)(hL:au w g 77 (rh s at_))(ha:at_≤s.size)(hs:s.size≤4294967280):
  Calls Tryz.prog 30 #[.pointer (some ⟨g,0,none⟩)] w (Rf s g at_ w):=by
 go_enter Tryz.func30,Tryz.ntmps30;go_wp2_with fail;go_loopw [] (fun wr=>∃a:Nat,a≤s.size∧At s g w a wr∧eT s at_=eT s a) (fun wr=>s.size - Wj g wr);case atStart=>exact⟨at_,ha,At.refl hL,rfl⟩
 case round=>
  obtain⟨a,ha1,hat,hsk⟩:=hrel;have HS:=hid hsk;clear hsk;obtain⟨c0,c1⟩:=dT hat.1;have HL:=hid hat.1;have f1:=uJ hat.1 1;have hle:=oY eH s.data.toList a (by simpa using ha1);have JA:=qA eH s.data.toList a;have HM:=hid (Gs s ha1);have HD:=hid (Gr s ha1);go_wp2_with fail;refine(nv JQ s a a g _ HL.out ha1 hs).mono ?_;rintro e w' ⟨rfl,rfl⟩;generalize hk:fp eH s.data.toList a=k at*;have HK:=hid hk;clear hk;simp at hle;go_wp2_with fail;have kC:At s g w k (wr.setCell ⟨g,1,none⟩ (.int .i64 k)):=hat.set;generalize wr.setCell ⟨g,1,none⟩ (.int .i64 k)=W at*;clear c0 c1 f1;obtain⟨c0,c1⟩:=dT kC.1;have HL2:=hid kC;clear kC;cases hp:Lib.hasPrefix (s.data.toList.drop k) [45,45]
  ·have HP:=hid hp;clear hp;go_quiet ((go_at_call 59;exact Calls.quiet_of_same (tA HP.out _)));go_wp2_with fail;go_end0;refine⟨rfl,?_⟩;rw[HS.out,HD.out HP.out];exact HL2.out.later (dO _ _)
  ·have HP:=hid hp;clear hp;go_quiet ((go_at_call 59;exact Calls.quiet_of_same (tA HP.out _)));have HL3:=hid (HL2.out.later (dO _ nq));have d0:(W.drewN nq).cell? ⟨g,0,none⟩=some (.string s):=c0;have d1:(W.drewN nq).cell? ⟨g,1,none⟩=some (.int .i64 k):=c1;generalize W.drewN nq=W2 at*;clear c0 c1 HL2;have f1:=uJ HL3.out.1 1;go_wp2_with fail;refine(nv NY s k k g _ HL3.out.1 hle hs).mono ?_;rintro e w' ⟨rfl,rfl⟩;go_wp2_with fail;have HM2:=hid (HM.out HP.out);go_roundw;case rel=>exact⟨_,by simpa using oY (fun c=> !(c==10)) s.data.toList k (by simpa using hle),HL3.out.set,by rw[HS.out,HM2.out.1]⟩
   case measure=>rw[vF hat.1,vF (HL3.out.set (b:=fp (fun c=> !(c==10)) s.data.toList k)).1];have:=HM2.out.2;have:=oY (fun c=> !(c==10)) s.data.toList k (by simpa using hle);simp at this;omega
theorem nM (s:ByteArray)(g at_ q:Nat)(k:Int)(t:ByteArray)(n a:Int)(w:World)(hL:au w g 77 (rh s at_)):
  Calls Tryz.prog 94 #[.pointer (some ⟨g,0,none⟩),.agg #[.int .u8 k,.string t,.int .i64 n,.int .i64 a],.int .i64 q] w fun e w'=>e=.returned (.tuple #[.agg #[.int .u8 k,.string t,.int .i64 n,.int .i64 at_],.int .i64 0])∧At s g w q w':=by
 have HL:=hid hL;obtain⟨c0,c1⟩:=dT hL;have f1:=uJ hL 1;have hlt:=hL.lt;go_enter Tryz.func94,Tryz.ntmps94;go_wp2_with fail;refine bodyPost_ret (v:=.tuple #[.agg #[.int .u8 k,.string t,.int .i64 n,.int .i64 at_],.int .i64 0]) ?_ rfl ⟨rfl,?_⟩
 ·simp[results,Tryz.results94,go_sem]
 ·exact((At.refl hL).set (b:=q)).later (((Below.refl _ _).alloc (Nat.le_refl _) _).alloc (by simp) _)
def Gu (s:ByteArray)(g at_:Nat)(w:World)(r:Except Nat (Wd×List UInt8))(e:Ending)(w':World):Prop:=
 match r with
 | .ok (d,rest)=>e=.returned (.tuple #[.agg #[.int .u8 d.k,.string ⟨d.s.toArray⟩,.int .i64 d.n,.int .i64 at_],.int .i64 0])∧At s g w (s.size - rest.length) w'
 | .error x=>e=.returned (.tuple #[.agg #[.int .u8 0,.string ⟨#[]⟩,.int .i64 0,.int .i64 0],.int .i64 x])∧At s g w at_ w'
theorem Eu {s:ByteArray}(hs:s.size≤4294967280)(h:∀c∈s.data.toList,dD c=true)(w:World):Calls Tryz.prog 95 #[.string s] w fun e w'=>e=.returned (.string ⟨(s.data.toList.map rJ).toArray⟩)∧Below w.heap.size w w':=
 Tryz.strings_ToLower_ascii s w (by omega) fun j b hb=>JO (h b (List.mem_of_getElem? hb))
theorem lj (p:UInt8→Bool)(s:ByteArray)(k:Nat):(s.extract k (fp p s.data.toList k)).data.toList=(s.data.toList.drop k).takeWhile p:=by rw[nw,← Gm,List.drop_take]
theorem LS (p:UInt8→Bool)(l:List UInt8)(k:Nat):fp p l k - k=((l.drop k).takeWhile p).length:=by unfold fp;omega
theorem pI (p:UInt8→Bool)(s:ByteArray) {k:Nat}(hk:k≤s.size):s.size - ((s.data.toList.drop k).dropWhile p).length=fp p s.data.toList k:=by rw[← mH,List.length_drop];have:=oY p s.data.toList k (by simpa using hk);simp at this ⊢;omega
theorem CN {P:Program} {w w':World} {n:String} {x:Array Value}(h:w.var? P n=some x)(hb:Below w.heap.size w w'):w'.var? P n=some x:=by
 unfold World.var? at*;cases hg:P.globalNamed n with
 | none=>rw[hg] at h;simp at h
 | some g=>
   rw[hg] at h;simp only[Option.bind_some] at h ⊢;have:g < w.heap.size:=by
    rcases Nat.lt_or_ge g w.heap.size with hlt | JA
    ·exact hlt
    ·rw[Array.getElem?_eq_none JA] at h;simp at h
   rw[hb.block g this];exact h
theorem NZ {P:Program} {w w':World} {n:String} {k:IntKind} {zs:List Int}(h:Lib.TabIs P w n k zs)(hb:Below w.heap.size w w'):Lib.TabIs P w' n k zs:=by unfold Lib.TabIs at*;exact CN h hb
structure jO (w:World):Prop where
 space:Lib.TabIs Tryz.prog w "strings.asciiSpace" .u8 Lib.asciiSpaceTab
 range:∃tp p,w.var? Tryz.prog "strconv.ErrRange" =some #[.iface tp p]
theorem jO.later {w w':World}(h:jO w)(hb:Below w.heap.size w w'):jO w':=by obtain⟨tp,p,h2⟩:=h.range;exact⟨NZ h.space hb,tp,p,CN h2 hb⟩
def Env (B:Nat)(w:World):Prop:=∃w0,jO w0∧w0.heap.size=B∧Below B w0 w
theorem Env.mk0 {w:World}(h:jO w):Env w.heap.size w:=⟨w,h,rfl,Below.refl _ _⟩
theorem Env.lib {B:Nat} {w:World}(h:Env B w):jO w:=by obtain⟨w0,h1,rfl,h2⟩:=h;exact h1.later h2
theorem Env.size {B:Nat} {w:World}(h:Env B w):B≤w.heap.size:=by obtain⟨w0,h1,rfl,h2⟩:=h;exact h2.size
theorem Env.below {B:Nat} {w w':World}(h:Env B w)(hb:Below B w w'):Env B w':=by obtain⟨w0,h1,h2,h3⟩:=h;exact⟨w0,h1,h2,h3.trans hb⟩
theorem Env.later {B:Nat} {w w':World}(h:Env B w)(hb:Below w.heap.size w w'):Env B w':=h.below (hb.mono h.size)
theorem Env.grown {B g:Nat} {w w':World}(h:Env B w)(hg:w.grownBy w' (some g))(hB:B≤g):Env B w':=h.below (bD hg h.size hB)
theorem Env.at_ {B g a:Nat} {s:ByteArray} {w w':World}(h:Env B w)(hg:At s g w a w')(hB:B≤g):Env B w':=h.grown hg.2 hB
theorem Rg {s:ByteArray}(hs:s.size≤4294967280)(hne:s.data.toList≠ [])(hd:∀c∈s.data.toList,bp c=true)(h:jg s.data.toList≤9223372036854775807)(w:World):
  Calls Tryz.prog 96 #[.string s,.int .i64 10,.int .i64 64] w fun e w'=>e=.returned (.tuple #[.int .i64 (jg s.data.toList:Int),.nilIface])∧Below w.heap.size w w':=by
 refine(Tryz.strconv_ParseInt_10_at64_ok s (by omega) _ (by rw[zQ hne hd,if_pos h]) w).mono ?_;rintro e w' ⟨he,hw⟩;refine⟨he,?_⟩;rcases hw with rfl |⟨t,rfl⟩
 ·exact Below.refl _ _
 ·exact⟨rfl,rfl,rfl,by rw[Lib.bytesWorld_size];omega,fun j hj=>Lib.bytesWorld_at_old w _ _ j hj⟩
theorem Gv {B:Nat} {s:ByteArray}(hs:s.size≤4294967280)(hne:s.data.toList≠ [])(hd:∀c∈s.data.toList,bp c=true)(h:¬jg s.data.toList≤9223372036854775807) {w:World}(hE:Env B w):
  Calls Tryz.prog 96 #[.string s,.int .i64 10,.int .i64 64] w fun e w'=>(∃N,e=.returned (.tuple #[.int .i64 9223372036854775807,.iface 155 (.pointer (some ⟨N,0,none⟩))]))∧Below w.heap.size w w':=by
 obtain⟨tp,p,hv⟩:=hE.lib.range;refine(Tryz.strconv_ParseInt_10_at64_range_var s (by omega) (by rw[zQ hne hd,if_neg h]) tp p w hv).mono ?_;rintro e w' ⟨N,he,_,_,hb⟩;refine⟨⟨N,?_⟩,hb⟩;have:Lib.intSat 64 s.data.toList=9223372036854775807:=by
  match hl:s.data.toList with
  | []=>exact absurd hl hne
  | c::r=>
    have:=hd c (by rw[hl];exact List.mem_cons_self);simp[bp,UInt8.le_iff_toNat_le] at this;have e2:¬c.toNat=45:=by omega
    simp[Lib.intSat,e2]
 rw[he,this]
end Go.Proofs.YtcneefmaghoejaaGreatDoor
