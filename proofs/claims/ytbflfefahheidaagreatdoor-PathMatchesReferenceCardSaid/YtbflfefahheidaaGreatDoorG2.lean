/- Part 2 of the proof. -/
import Derived.Test.YtbflfefahheidaaGreatDoorG1
import Derived.Shelf.Strings.Builder1
import Derived.Shelf.Small.Bits
import Derived.Shelf.Small.Strs
import Derived.Shelf.Small.Wraps
import Derived.Shelf.Strconv.Atoi
import Derived.Shelf.Strconv.Itoa0
import Derived.Shelf.Strconv.Itoa1
import Derived.Shelf.LaysM
import Derived.Shelf.Strconv.Itoa2
import Derived.Shelf.Strconv.Itoa3
import Derived.Shelf.Strconv.AtoiErrFast
import Derived.Shelf.Strconv.ParseIntEmpty
import Derived.Shelf.Strconv.AtoiFail
import Derived.Shelf.Strconv.Clone
import Derived.Shelf.Strconv.SyntaxError
import Derived.Shelf.LaysC
import Derived.Shelf.Strconv.ToError
import Derived.Shelf.Strconv.Lower
import Derived.Shelf.Strconv.ParseUint10
import Derived.Shelf.Strconv.ParseUint10Empty
import Derived.Shelf.Strconv.ParseUint10Any
import Derived.Shelf.Strconv.ParseInt10
import Derived.Shelf.Strconv.AtoiLong
import Derived.Shelf.Strconv.AtoiInnerAll
import Derived.Shelf.Strconv.RangeError
import Derived.Shelf.Strconv.ToErrorRange
import Derived.Shelf.Strconv.AtoiAll
import Derived.Shelf.Strings.Search1
import Derived.Shelf.Strings.Fields
import Derived.Shelf.Unicode.Latin
import Derived.Shelf.Unicode.Is16White
import Derived.Shelf.Unicode.IsSpaceAny
import Derived.Shelf.Unicode.Is16Any
import Derived.Shelf.Unicode.Is32Any
import Derived.Shelf.Unicode.ExclAny
import Derived.Shelf.Slices.Turned
import Derived.Test.YtbflfefahheidaaGreatDoorProg
import Derived.Recover
import Derived.Defers
import Derived.DeepKeys5
import Derived.DeepKeys4
import Derived.Shelf.SlSortCmp.NoneTotal
import Derived.Ground.SlsfProg
import Derived.Shelf.SlGeneric
set_option linter.unusedVariables false
set_option linter.unusedSimpArgs false
namespace Go.Proofs
open Go.Shelf
def Tryz.lays169_ren:Go.Shelf.Ren:=⟨fun | 169=>171 | n=>n,fun | 70=>249 | 9=>9 | 0=>0 | 72=>251 | 37=>45 | 127=>269 | 3=>3 | 5=>5 | n=>n,fun | n=>n⟩
theorem Tryz.lays169:Go.Proofs.Lays.n169 Tryz.prog Tryz.lays169_ren:={
 mixed:=by kernel_rfl
 f169:=Tryz.func171.trans (congrArg some (by kernel_rfl))
 t0:=Tryz.underlying0
 a0:=Tryz.isAgg0
 z0:=Tryz.sizeOf0
 v0:=Tryz.zeroValue0
 t3:=Tryz.underlying3
 a3:=Tryz.isAgg3
 z3:=Tryz.sizeOf3
 v3:=Tryz.zeroValue3
 t9:=Tryz.underlying9
 a9:=Tryz.isAgg9
 z9:=Tryz.sizeOf9
 v9:=Tryz.zeroValue9
 t37:=Tryz.underlying45
 a37:=Tryz.isAgg45
 z37:=Tryz.sizeOf45
 v37:=Tryz.zeroValue45
 t70:=Tryz.underlying249
 a70:=Tryz.isAgg249
 z70:=Tryz.sizeOf249
 v70:=Tryz.zeroValue249
 t72:=Tryz.underlying251
 a72:=Tryz.isAgg251
 z72:=Tryz.sizeOf251
 v72:=Tryz.zeroValue251
 t127:=Tryz.underlying269
 a127:=Tryz.isAgg269
 z127:=Tryz.sizeOf269
 v127:=Tryz.zeroValue269 }
theorem Tryz.Builder_Extra_169:Builder.Extra Tryz.prog Tryz.lays169_ren:={
 sizeBuilder:=by kernel_rfl
 liesBuilder:=by kernel_rfl
 t5:=Tryz.underlying5
 a5:=Tryz.isAgg5
 z5:=Tryz.sizeOf5
 v5:=Tryz.zeroValue5
 infoByte:=by kernel_rfl
 cellsByte:=by kernel_rfl
 sizeByte:=by kernel_rfl
 neB5:=by decide }
open Go.RowKit in
theorem Tryz.Builder_String_any (B b:Nat) (l:List UInt8) (w:World) (h:Lib.IsBuilder 251 5 B b (Lib.byteCells l) w) (hBw:B<=w.heap.size) :
  Calls Tryz.prog 171 #[.pointer (some ⟨b,0,none⟩)] w fun e w'=>e = .returned (.string ⟨l.toArray⟩) /\ Below B w w':=Any.Builder_String_any Tryz.lays169 Tryz.Builder_Extra_169 B b l w h hBw
def Tryz.lays137_ren:Go.Shelf.Ren:=⟨fun | 137=>115 | 217=>148 | 266=>170 | n=>n,fun | 9=>9 | 5=>5 | 3=>3 | n=>n,fun | n=>n⟩
theorem Tryz.lays137:Go.Proofs.Lays.n137 Tryz.prog Tryz.lays137_ren:={
 mixed:=by kernel_rfl
 f137:=Tryz.func115.trans (congrArg some (by kernel_rfl))
 f217:=Tryz.func148.trans (congrArg some (by kernel_rfl))
 f266:=Tryz.func170.trans (congrArg some (by kernel_rfl))
 t3:=Tryz.underlying3
 a3:=Tryz.isAgg3
 z3:=Tryz.sizeOf3
 v3:=Tryz.zeroValue3
 t5:=Tryz.underlying5
 a5:=Tryz.isAgg5
 z5:=Tryz.sizeOf5
 v5:=Tryz.zeroValue5
 t9:=Tryz.underlying9
 a9:=Tryz.isAgg9
 z9:=Tryz.sizeOf9
 v9:=Tryz.zeroValue9 }
open Go.RowKit in
theorem Tryz.strings_IndexByte (s:ByteArray) (c:Int) (w:World) :
  Calls Tryz.prog 115 #[.string s,.int .u8 c] w fun e w'=>e = .returned (.int .i64 (Lib.indexByte s.data.toList c.toNat.toUInt8)) /\ w'=w:=Any.strings_IndexByte Tryz.lays137 s c w
def Tryz.lays215_ren:Go.Shelf.Ren:=⟨fun | 215=>168 | n=>n,fun | 3=>3 | 4=>4 | n=>n,fun | n=>n⟩
def Tryz.lays122_ren:Go.Shelf.Ren:=⟨fun | 122=>133 | 215=>168 | n=>n,fun | 3=>3 | 4=>4 | n=>n,fun | n=>n⟩
theorem Tryz.lays122:Go.Proofs.Lays.n122 Tryz.prog Tryz.lays122_ren:={
 mixed:=by kernel_rfl
 f122:=Tryz.func133.trans (congrArg some (by kernel_rfl))
 f215:=Tryz.func168.trans (congrArg some (by kernel_rfl))
 t3:=Tryz.underlying3
 a3:=Tryz.isAgg3
 z3:=Tryz.sizeOf3
 v3:=Tryz.zeroValue3
 t4:=Tryz.underlying4
 a4:=Tryz.isAgg4
 z4:=Tryz.sizeOf4
 v4:=Tryz.zeroValue4 }
open Go.RowKit in
theorem Tryz.cmp_Compare_int (x y:Int) (w:World) :
  Calls Tryz.prog 133 #[.int .i64 x,.int .i64 y] w fun e w'=>e = .returned (.int .i64 (Lib.compareInt x y)) /\ w'=w:=Any.cmp_Compare_int Tryz.lays122 x y w
def Tryz.lays172_ren:Go.Shelf.Ren:=⟨fun | 172=>97 | 244=>127 | 245=>128 | 247=>162 | 279=>163 | 280=>164 | 281=>165 | 282=>166 | 287=>178 | 316=>179 | 171=>98 | 205=>180 | 321=>191 | 322=>192 | 243=>129 | 246=>167 | 283=>181 | 284=>182 | 285=>183 | 286=>184 | 129=>194 | 317=>193 | 318=>195 | 319=>196 | 320=>197 | 337=>209 | 338=>210 | n=>n,fun | 9=>9 | 3=>3 | 75=>173 | 76=>174 | 4=>4 | 5=>5 | 167=>241 | 37=>45 | 0=>0 | 85=>242 | 2=>2 | 168=>244 | 53=>222 | 175=>258 | 46=>215 | 210=>262 | 127=>269 | 145=>278 | 143=>276 | 21=>21 | 171=>264 | 173=>267 | 212=>280 | 51=>281 | 20=>20 | 213=>282 | 232=>314 | 233=>315 | 80=>252 | n=>n,fun | 15=>0 | 16=>1 | 17=>4 | 18=>6 | 19=>7 | n=>n⟩
theorem Tryz.lays172:Go.Proofs.Lays.n172 Tryz.prog Tryz.lays172_ren:={
 mixed:=by kernel_rfl
 f129:=Tryz.func194.trans (congrArg some (by kernel_rfl))
 f171:=Tryz.func98.trans (congrArg some (by kernel_rfl))
 f172:=Tryz.func97.trans (congrArg some (by kernel_rfl))
 f205:=Tryz.func180.trans (congrArg some (by kernel_rfl))
 f243:=Tryz.func129.trans (congrArg some (by kernel_rfl))
 f244:=Tryz.func127.trans (congrArg some (by kernel_rfl))
 f245:=Tryz.func128.trans (congrArg some (by kernel_rfl))
 f246:=Tryz.func167.trans (congrArg some (by kernel_rfl))
 f247:=Tryz.func162.trans (congrArg some (by kernel_rfl))
 f279:=Tryz.func163.trans (congrArg some (by kernel_rfl))
 f280:=Tryz.func164.trans (congrArg some (by kernel_rfl))
 f281:=Tryz.func165.trans (congrArg some (by kernel_rfl))
 f282:=Tryz.func166.trans (congrArg some (by kernel_rfl))
 f283:=Tryz.func181.trans (congrArg some (by kernel_rfl))
 f284:=Tryz.func182.trans (congrArg some (by kernel_rfl))
 f285:=Tryz.func183.trans (congrArg some (by kernel_rfl))
 f286:=Tryz.func184.trans (congrArg some (by kernel_rfl))
 f287:=Tryz.func178.trans (congrArg some (by kernel_rfl))
 f316:=Tryz.func179.trans (congrArg some (by kernel_rfl))
 f317:=Tryz.func193.trans (congrArg some (by kernel_rfl))
 f318:=Tryz.func195.trans (congrArg some (by kernel_rfl))
 f319:=Tryz.func196.trans (congrArg some (by kernel_rfl))
 f320:=Tryz.func197.trans (congrArg some (by kernel_rfl))
 f321:=Tryz.func191.trans (congrArg some (by kernel_rfl))
 f322:=Tryz.func192.trans (congrArg some (by kernel_rfl))
 f337:=Tryz.func209.trans (congrArg some (by kernel_rfl))
 f338:=Tryz.func210.trans (congrArg some (by kernel_rfl))
 t0:=Tryz.underlying0
 a0:=Tryz.isAgg0
 z0:=Tryz.sizeOf0
 v0:=Tryz.zeroValue0
 t2:=Tryz.underlying2
 a2:=Tryz.isAgg2
 z2:=Tryz.sizeOf2
 v2:=Tryz.zeroValue2
 t3:=Tryz.underlying3
 a3:=Tryz.isAgg3
 z3:=Tryz.sizeOf3
 v3:=Tryz.zeroValue3
 t4:=Tryz.underlying4
 a4:=Tryz.isAgg4
 z4:=Tryz.sizeOf4
 v4:=Tryz.zeroValue4
 t5:=Tryz.underlying5
 a5:=Tryz.isAgg5
 z5:=Tryz.sizeOf5
 v5:=Tryz.zeroValue5
 t9:=Tryz.underlying9
 a9:=Tryz.isAgg9
 z9:=Tryz.sizeOf9
 v9:=Tryz.zeroValue9
 t20:=Tryz.underlying20
 a20:=Tryz.isAgg20
 z20:=Tryz.sizeOf20
 v20:=Tryz.zeroValue20
 t21:=Tryz.underlying21
 a21:=Tryz.isAgg21
 z21:=Tryz.sizeOf21
 v21:=Tryz.zeroValue21
 t37:=Tryz.underlying45
 a37:=Tryz.isAgg45
 z37:=Tryz.sizeOf45
 v37:=Tryz.zeroValue45
 t46:=Tryz.underlying215
 a46:=Tryz.isAgg215
 z46:=Tryz.sizeOf215
 v46:=Tryz.zeroValue215
 t51:=Tryz.underlying281
 a51:=Tryz.isAgg281
 z51:=Tryz.sizeOf281
 v51:=Tryz.zeroValue281
 t53:=Tryz.underlying222
 a53:=Tryz.isAgg222
 z53:=Tryz.sizeOf222
 v53:=Tryz.zeroValue222
 t75:=Tryz.underlying173
 a75:=Tryz.isAgg173
 z75:=Tryz.sizeOf173
 v75:=Tryz.zeroValue173
 t76:=Tryz.underlying174
 a76:=Tryz.isAgg174
 z76:=Tryz.sizeOf174
 v76:=Tryz.zeroValue174
 t85:=Tryz.underlying242
 a85:=Tryz.isAgg242
 z85:=Tryz.sizeOf242
 v85:=Tryz.zeroValue242
 t127:=Tryz.underlying269
 a127:=Tryz.isAgg269
 z127:=Tryz.sizeOf269
 v127:=Tryz.zeroValue269
 t143:=Tryz.underlying276
 a143:=Tryz.isAgg276
 z143:=Tryz.sizeOf276
 v143:=Tryz.zeroValue276
 t145:=Tryz.underlying278
 a145:=Tryz.isAgg278
 z145:=Tryz.sizeOf278
 v145:=Tryz.zeroValue278
 t167:=Tryz.underlying241
 a167:=Tryz.isAgg241
 z167:=Tryz.sizeOf241
 v167:=Tryz.zeroValue241
 t168:=Tryz.underlying244
 a168:=Tryz.isAgg244
 z168:=Tryz.sizeOf244
 v168:=Tryz.zeroValue244
 t171:=Tryz.underlying264
 a171:=Tryz.isAgg264
 z171:=Tryz.sizeOf264
 v171:=Tryz.zeroValue264
 t173:=Tryz.underlying267
 a173:=Tryz.isAgg267
 z173:=Tryz.sizeOf267
 v173:=Tryz.zeroValue267
 t175:=Tryz.underlying258
 a175:=Tryz.isAgg258
 z175:=Tryz.sizeOf258
 v175:=Tryz.zeroValue258
 t210:=Tryz.underlying262
 a210:=Tryz.isAgg262
 z210:=Tryz.sizeOf262
 v210:=Tryz.zeroValue262
 t212:=Tryz.underlying280
 a212:=Tryz.isAgg280
 z212:=Tryz.sizeOf280
 v212:=Tryz.zeroValue280
 t213:=Tryz.underlying282
 a213:=Tryz.isAgg282
 z213:=Tryz.sizeOf282
 t232:=Tryz.underlying314
 a232:=Tryz.isAgg314
 z232:=Tryz.sizeOf314
 v232:=Tryz.zeroValue314
 t233:=Tryz.underlying315
 a233:=Tryz.isAgg315
 z233:=Tryz.sizeOf315
 v233:=Tryz.zeroValue315
 g15:=by kernel_rfl
 g16:=by kernel_rfl
 g17:=by kernel_rfl
 g18:=by kernel_rfl
 g19:=by kernel_rfl }
open Go.RowKit in
theorem Tryz.strconv_Atoi (s:ByteArray) (n:Int) (hl:s.size<=18) (h:Lib.atoi s.data.toList=some n) (w:World) :
  Calls Tryz.prog 97 #[.string s] w fun e w'=>e = .returned (.tuple #[.int .i64 n,.nilIface]) /\ ∃ t,w'=Lib.bytesWorld w 5 t:=Any.strconv_Atoi Tryz.lays172 s n hl h w
def Tryz.laysM246_ren:Go.Shelf.Ren:=⟨fun | 246=>167 | 283=>181 | 284=>182 | 285=>183 | 286=>184 | 129=>194 | 317=>193 | 318=>195 | 319=>196 | 320=>197 | 337=>209 | 338=>210 | n=>n,fun | 2=>2 | 3=>3 | 9=>9 | 4=>4 | 171=>264 | 0=>0 | 53=>222 | 37=>45 | 5=>5 | 173=>267 | 212=>280 | 51=>281 | 20=>20 | 213=>282 | 46=>215 | 232=>314 | 233=>315 | n=>n,fun | 17=>4 | 18=>6 | 19=>7 | n=>n⟩
def Tryz.laysM243_ren:Go.Shelf.Ren:=⟨fun | 243=>129 | 246=>167 | 283=>181 | 284=>182 | 285=>183 | 286=>184 | 129=>194 | 317=>193 | 318=>195 | 319=>196 | 320=>197 | 337=>209 | 338=>210 | n=>n,fun | 3=>3 | 9=>9 | 2=>2 | 4=>4 | 171=>264 | 0=>0 | 53=>222 | 37=>45 | 5=>5 | 173=>267 | 212=>280 | 51=>281 | 20=>20 | 213=>282 | 46=>215 | 232=>314 | 233=>315 | n=>n,fun | 17=>4 | 18=>6 | 19=>7 | n=>n⟩
def Tryz.laysM171_ren:Go.Shelf.Ren:=⟨fun | 171=>98 | 243=>129 | 246=>167 | 283=>181 | 284=>182 | 285=>183 | 286=>184 | 129=>194 | 317=>193 | 318=>195 | 319=>196 | 320=>197 | 337=>209 | 338=>210 | n=>n,fun | 3=>3 | 9=>9 | 2=>2 | 4=>4 | 171=>264 | 0=>0 | 53=>222 | 37=>45 | 5=>5 | 173=>267 | 212=>280 | 51=>281 | 20=>20 | 213=>282 | 46=>215 | 232=>314 | 233=>315 | n=>n,fun | 17=>4 | 18=>6 | 19=>7 | n=>n⟩
theorem Tryz.laysM171:Go.Proofs.LaysM.n171 Tryz.prog Tryz.laysM171_ren:={
 mixed:=by kernel_rfl
 f129:=Tryz.func194.trans (congrArg some (by kernel_rfl))
 f171:=Tryz.func98.trans (congrArg some (by kernel_rfl))
 f243:=Tryz.func129.trans (congrArg some (by kernel_rfl))
 f246:=Tryz.func167.trans (congrArg some (by kernel_rfl))
 f283:=Tryz.func181.trans (congrArg some (by kernel_rfl))
 f284:=Tryz.func182.trans (congrArg some (by kernel_rfl))
 f285:=Tryz.func183.trans (congrArg some (by kernel_rfl))
 f286:=Tryz.func184.trans (congrArg some (by kernel_rfl))
 f317:=Tryz.func193.trans (congrArg some (by kernel_rfl))
 f318:=Tryz.func195.trans (congrArg some (by kernel_rfl))
 f319:=Tryz.func196.trans (congrArg some (by kernel_rfl))
 f320:=Tryz.func197.trans (congrArg some (by kernel_rfl))
 f337:=Tryz.func209.trans (congrArg some (by kernel_rfl))
 f338:=Tryz.func210.trans (congrArg some (by kernel_rfl))
 t0:=Tryz.underlying0
 a0:=Tryz.isAgg0
 z0:=Tryz.sizeOf0
 v0:=Tryz.zeroValue0
 t2:=Tryz.underlying2
 a2:=Tryz.isAgg2
 z2:=Tryz.sizeOf2
 v2:=Tryz.zeroValue2
 t3:=Tryz.underlying3
 a3:=Tryz.isAgg3
 z3:=Tryz.sizeOf3
 v3:=Tryz.zeroValue3
 t4:=Tryz.underlying4
 a4:=Tryz.isAgg4
 z4:=Tryz.sizeOf4
 v4:=Tryz.zeroValue4
 t5:=Tryz.underlying5
 a5:=Tryz.isAgg5
 z5:=Tryz.sizeOf5
 v5:=Tryz.zeroValue5
 t9:=Tryz.underlying9
 a9:=Tryz.isAgg9
 z9:=Tryz.sizeOf9
 v9:=Tryz.zeroValue9
 t20:=Tryz.underlying20
 a20:=Tryz.isAgg20
 z20:=Tryz.sizeOf20
 v20:=Tryz.zeroValue20
 t37:=Tryz.underlying45
 a37:=Tryz.isAgg45
 z37:=Tryz.sizeOf45
 v37:=Tryz.zeroValue45
 t46:=Tryz.underlying215
 a46:=Tryz.isAgg215
 z46:=Tryz.sizeOf215
 v46:=Tryz.zeroValue215
 t51:=Tryz.underlying281
 a51:=Tryz.isAgg281
 z51:=Tryz.sizeOf281
 v51:=Tryz.zeroValue281
 t53:=Tryz.underlying222
 a53:=Tryz.isAgg222
 z53:=Tryz.sizeOf222
 v53:=Tryz.zeroValue222
 t171:=Tryz.underlying264
 a171:=Tryz.isAgg264
 z171:=Tryz.sizeOf264
 v171:=Tryz.zeroValue264
 t173:=Tryz.underlying267
 a173:=Tryz.isAgg267
 z173:=Tryz.sizeOf267
 v173:=Tryz.zeroValue267
 t212:=Tryz.underlying280
 a212:=Tryz.isAgg280
 z212:=Tryz.sizeOf280
 v212:=Tryz.zeroValue280
 t213:=Tryz.underlying282
 a213:=Tryz.isAgg282
 z213:=Tryz.sizeOf282
 t232:=Tryz.underlying314
 a232:=Tryz.isAgg314
 z232:=Tryz.sizeOf314
 v232:=Tryz.zeroValue314
 t233:=Tryz.underlying315
 a233:=Tryz.isAgg315
 z233:=Tryz.sizeOf315
 v233:=Tryz.zeroValue315
 g17:=by kernel_rfl
 g18:=by kernel_rfl
 g19:=by kernel_rfl
 i0:=by kernel_rfl
 i2:=by kernel_rfl
 i3:=by kernel_rfl
 i4:=by kernel_rfl
 i5:=by kernel_rfl
 i9:=by kernel_rfl
 i20:=by kernel_rfl
 i37:=by kernel_rfl
 i46:=by kernel_rfl
 i51:=by kernel_rfl
 i53:=by kernel_rfl
 i171:=by kernel_rfl
 i173:=by kernel_rfl
 i212:=by kernel_rfl
 i232:=by kernel_rfl
 i233:=by kernel_rfl
 m17:=by kernel_rfl
 m18:=by kernel_rfl
 m19:=by kernel_rfl }
open Go.RowKit Go.Sort Go.Lib in
theorem Tryz.strconv_Itoa (n:Int) (h0 : -9223372036854775808<=n) (h1:n<=9223372036854775807) (w:World) (htab:Lib.TabIs Tryz.prog w "internal/strconv.uint64pow10" .u64 Lib.pow10Tab) :
  Calls Tryz.prog 98 #[.int .i64 n] w fun e w'=>e = .returned (.string ⟨(Lib.itoa n).toArray⟩) /\ ∃ k os,w'=grow (w.drewN k) os:=Any.strconv_Itoa Tryz.laysM171 n h0 h1 w htab
def Tryz.laysC172_ren:Go.Shelf.Ren:=⟨fun | 172=>97 | 244=>127 | 245=>128 | 247=>162 | 279=>163 | 280=>164 | 281=>165 | 282=>166 | 287=>178 | 316=>179 | 171=>98 | 205=>180 | 321=>191 | 322=>192 | 243=>129 | 246=>167 | 283=>181 | 284=>182 | 285=>183 | 286=>184 | 129=>194 | 317=>193 | 318=>195 | 319=>196 | 320=>197 | 337=>209 | 338=>210 | n=>n,fun | 9=>9 | 3=>3 | 75=>173 | 76=>174 | 4=>4 | 5=>5 | 167=>241 | 37=>45 | 0=>0 | 85=>242 | 2=>2 | 168=>244 | 53=>222 | 175=>258 | 46=>215 | 210=>262 | 127=>269 | 145=>278 | 143=>276 | 21=>21 | 171=>264 | 173=>267 | 212=>280 | 51=>281 | 20=>20 | 213=>282 | 232=>314 | 233=>315 | 80=>252 | n=>n,fun | 15=>0 | 16=>1 | 17=>4 | 18=>6 | 19=>7 | n=>n⟩
theorem Tryz.laysC172:Go.Proofs.LaysC.n172 Tryz.prog Tryz.laysC172_ren:={
 mixed:=by kernel_rfl
 f129:=Tryz.func194.trans (congrArg some (by kernel_rfl))
 f171:=Tryz.func98.trans (congrArg some (by kernel_rfl))
 f172:=Tryz.func97.trans (congrArg some (by kernel_rfl))
 f205:=Tryz.func180.trans (congrArg some (by kernel_rfl))
 f243:=Tryz.func129.trans (congrArg some (by kernel_rfl))
 f244:=Tryz.func127.trans (congrArg some (by kernel_rfl))
 f245:=Tryz.func128.trans (congrArg some (by kernel_rfl))
 f246:=Tryz.func167.trans (congrArg some (by kernel_rfl))
 f247:=Tryz.func162.trans (congrArg some (by kernel_rfl))
 f279:=Tryz.func163.trans (congrArg some (by kernel_rfl))
 f280:=Tryz.func164.trans (congrArg some (by kernel_rfl))
 f281:=Tryz.func165.trans (congrArg some (by kernel_rfl))
 f282:=Tryz.func166.trans (congrArg some (by kernel_rfl))
 f283:=Tryz.func181.trans (congrArg some (by kernel_rfl))
 f284:=Tryz.func182.trans (congrArg some (by kernel_rfl))
 f285:=Tryz.func183.trans (congrArg some (by kernel_rfl))
 f286:=Tryz.func184.trans (congrArg some (by kernel_rfl))
 f287:=Tryz.func178.trans (congrArg some (by kernel_rfl))
 f316:=Tryz.func179.trans (congrArg some (by kernel_rfl))
 f317:=Tryz.func193.trans (congrArg some (by kernel_rfl))
 f318:=Tryz.func195.trans (congrArg some (by kernel_rfl))
 f319:=Tryz.func196.trans (congrArg some (by kernel_rfl))
 f320:=Tryz.func197.trans (congrArg some (by kernel_rfl))
 f321:=Tryz.func191.trans (congrArg some (by kernel_rfl))
 f322:=Tryz.func192.trans (congrArg some (by kernel_rfl))
 f337:=Tryz.func209.trans (congrArg some (by kernel_rfl))
 f338:=Tryz.func210.trans (congrArg some (by kernel_rfl))
 t0:=Tryz.underlying0
 a0:=Tryz.isAgg0
 z0:=Tryz.sizeOf0
 v0:=Tryz.zeroValue0
 t2:=Tryz.underlying2
 a2:=Tryz.isAgg2
 z2:=Tryz.sizeOf2
 v2:=Tryz.zeroValue2
 t3:=Tryz.underlying3
 a3:=Tryz.isAgg3
 z3:=Tryz.sizeOf3
 v3:=Tryz.zeroValue3
 t4:=Tryz.underlying4
 a4:=Tryz.isAgg4
 z4:=Tryz.sizeOf4
 v4:=Tryz.zeroValue4
 t5:=Tryz.underlying5
 a5:=Tryz.isAgg5
 z5:=Tryz.sizeOf5
 v5:=Tryz.zeroValue5
 t9:=Tryz.underlying9
 a9:=Tryz.isAgg9
 z9:=Tryz.sizeOf9
 v9:=Tryz.zeroValue9
 t20:=Tryz.underlying20
 a20:=Tryz.isAgg20
 z20:=Tryz.sizeOf20
 v20:=Tryz.zeroValue20
 t21:=Tryz.underlying21
 a21:=Tryz.isAgg21
 z21:=Tryz.sizeOf21
 v21:=Tryz.zeroValue21
 t37:=Tryz.underlying45
 a37:=Tryz.isAgg45
 z37:=Tryz.sizeOf45
 v37:=Tryz.zeroValue45
 t46:=Tryz.underlying215
 a46:=Tryz.isAgg215
 z46:=Tryz.sizeOf215
 v46:=Tryz.zeroValue215
 t51:=Tryz.underlying281
 a51:=Tryz.isAgg281
 z51:=Tryz.sizeOf281
 v51:=Tryz.zeroValue281
 t53:=Tryz.underlying222
 a53:=Tryz.isAgg222
 z53:=Tryz.sizeOf222
 v53:=Tryz.zeroValue222
 t75:=Tryz.underlying173
 a75:=Tryz.isAgg173
 z75:=Tryz.sizeOf173
 v75:=Tryz.zeroValue173
 t76:=Tryz.underlying174
 a76:=Tryz.isAgg174
 z76:=Tryz.sizeOf174
 v76:=Tryz.zeroValue174
 t85:=Tryz.underlying242
 a85:=Tryz.isAgg242
 z85:=Tryz.sizeOf242
 v85:=Tryz.zeroValue242
 t127:=Tryz.underlying269
 a127:=Tryz.isAgg269
 z127:=Tryz.sizeOf269
 v127:=Tryz.zeroValue269
 t143:=Tryz.underlying276
 a143:=Tryz.isAgg276
 z143:=Tryz.sizeOf276
 v143:=Tryz.zeroValue276
 t145:=Tryz.underlying278
 a145:=Tryz.isAgg278
 z145:=Tryz.sizeOf278
 v145:=Tryz.zeroValue278
 t167:=Tryz.underlying241
 a167:=Tryz.isAgg241
 z167:=Tryz.sizeOf241
 v167:=Tryz.zeroValue241
 t168:=Tryz.underlying244
 a168:=Tryz.isAgg244
 z168:=Tryz.sizeOf244
 v168:=Tryz.zeroValue244
 t171:=Tryz.underlying264
 a171:=Tryz.isAgg264
 z171:=Tryz.sizeOf264
 v171:=Tryz.zeroValue264
 t173:=Tryz.underlying267
 a173:=Tryz.isAgg267
 z173:=Tryz.sizeOf267
 v173:=Tryz.zeroValue267
 t175:=Tryz.underlying258
 a175:=Tryz.isAgg258
 z175:=Tryz.sizeOf258
 v175:=Tryz.zeroValue258
 t210:=Tryz.underlying262
 a210:=Tryz.isAgg262
 z210:=Tryz.sizeOf262
 v210:=Tryz.zeroValue262
 t212:=Tryz.underlying280
 a212:=Tryz.isAgg280
 z212:=Tryz.sizeOf280
 v212:=Tryz.zeroValue280
 t213:=Tryz.underlying282
 a213:=Tryz.isAgg282
 z213:=Tryz.sizeOf282
 t232:=Tryz.underlying314
 a232:=Tryz.isAgg314
 z232:=Tryz.sizeOf314
 v232:=Tryz.zeroValue314
 t233:=Tryz.underlying315
 a233:=Tryz.isAgg315
 z233:=Tryz.sizeOf315
 v233:=Tryz.zeroValue315
 g15:=by kernel_rfl
 g16:=by kernel_rfl
 g17:=by kernel_rfl
 g18:=by kernel_rfl
 g19:=by kernel_rfl
 t80:=Tryz.underlying252
 a80:=Tryz.isAgg252
 z80:=Tryz.sizeOf252
 v80:=Tryz.zeroValue252
 i0:=by kernel_rfl
 i2:=by kernel_rfl
 i3:=by kernel_rfl
 i4:=by kernel_rfl
 i5:=by kernel_rfl
 i9:=by kernel_rfl
 i20:=by kernel_rfl
 i21:=by kernel_rfl
 i37:=by kernel_rfl
 i46:=by kernel_rfl
 i51:=by kernel_rfl
 i53:=by kernel_rfl
 i75:=by kernel_rfl
 i76:=by kernel_rfl
 i80:=by kernel_rfl
 i85:=by kernel_rfl
 i127:=by kernel_rfl
 i143:=by kernel_rfl
 i145:=by kernel_rfl
 i167:=by kernel_rfl
 i168:=by kernel_rfl
 i171:=by kernel_rfl
 i173:=by kernel_rfl
 i175:=by kernel_rfl
 i210:=by kernel_rfl
 i212:=by kernel_rfl
 i232:=by kernel_rfl
 i233:=by kernel_rfl
 m15:=by kernel_rfl
 m16:=by kernel_rfl
 m17:=by kernel_rfl
 m18:=by kernel_rfl
 m19:=by kernel_rfl
 c0:=by kernel_rfl
 c2:=by kernel_rfl
 c3:=by kernel_rfl
 c4:=by kernel_rfl
 c5:=by kernel_rfl
 c9:=by kernel_rfl
 c20:=by kernel_rfl
 c21:=by kernel_rfl
 c37:=by kernel_rfl
 c46:=by kernel_rfl
 c51:=by kernel_rfl
 c53:=by kernel_rfl
 c75:=by kernel_rfl
 c76:=by kernel_rfl
 c80:=by kernel_rfl
 c85:=by kernel_rfl
 c127:=by kernel_rfl
 c143:=by kernel_rfl
 c145:=by kernel_rfl
 c167:=by kernel_rfl
 c168:=by kernel_rfl
 c171:=by kernel_rfl
 c173:=by kernel_rfl
 c175:=by kernel_rfl
 c210:=by kernel_rfl
 c212:=by kernel_rfl
 c213:=by kernel_rfl
 c232:=by kernel_rfl
 c233:=by kernel_rfl }
def Tryz.lays157_ren:Go.Shelf.Ren:=⟨fun | 157=>173 | 229=>186 | 199=>187 | 261=>199 | 311=>211 | 312=>212 | n=>n,fun | 9=>9 | 31=>28 | 3=>3 | 5=>5 | 4=>4 | 119=>153 | 0=>0 | 40=>271 | 152=>285 | 21=>21 | 154=>287 | 51=>281 | 141=>289 | 196=>301 | 193=>298 | 198=>303 | 49=>54 | 194=>299 | 201=>306 | 226=>316 | 46=>215 | 227=>317 | n=>n,fun | 0=>3 | 6=>5 | n=>n⟩
theorem Tryz.lays157:Go.Proofs.Lays.n157 Tryz.prog Tryz.lays157_ren:={
 mixed:=by kernel_rfl
 f157:=Tryz.func173.trans (congrArg some (by kernel_rfl))
 f199:=Tryz.func187.trans (congrArg some (by kernel_rfl))
 f229:=Tryz.func186.trans (congrArg some (by kernel_rfl))
 f261:=Tryz.func199.trans (congrArg some (by kernel_rfl))
 f311:=Tryz.func211.trans (congrArg some (by kernel_rfl))
 f312:=Tryz.func212.trans (congrArg some (by kernel_rfl))
 t0:=Tryz.underlying0
 a0:=Tryz.isAgg0
 z0:=Tryz.sizeOf0
 v0:=Tryz.zeroValue0
 t3:=Tryz.underlying3
 a3:=Tryz.isAgg3
 z3:=Tryz.sizeOf3
 v3:=Tryz.zeroValue3
 t4:=Tryz.underlying4
 a4:=Tryz.isAgg4
 z4:=Tryz.sizeOf4
 v4:=Tryz.zeroValue4
 t5:=Tryz.underlying5
 a5:=Tryz.isAgg5
 z5:=Tryz.sizeOf5
 v5:=Tryz.zeroValue5
 t9:=Tryz.underlying9
 a9:=Tryz.isAgg9
 z9:=Tryz.sizeOf9
 v9:=Tryz.zeroValue9
 t21:=Tryz.underlying21
 a21:=Tryz.isAgg21
 z21:=Tryz.sizeOf21
 v21:=Tryz.zeroValue21
 t31:=Tryz.underlying28
 a31:=Tryz.isAgg28
 z31:=Tryz.sizeOf28
 v31:=Tryz.zeroValue28
 t40:=Tryz.underlying271
 a40:=Tryz.isAgg271
 z40:=Tryz.sizeOf271
 v40:=Tryz.zeroValue271
 t46:=Tryz.underlying215
 a46:=Tryz.isAgg215
 z46:=Tryz.sizeOf215
 v46:=Tryz.zeroValue215
 t49:=Tryz.underlying54
 a49:=Tryz.isAgg54
 z49:=Tryz.sizeOf54
 v49:=Tryz.zeroValue54
 t51:=Tryz.underlying281
 a51:=Tryz.isAgg281
 z51:=Tryz.sizeOf281
 v51:=Tryz.zeroValue281
 t119:=Tryz.underlying153
 a119:=Tryz.isAgg153
 z119:=Tryz.sizeOf153
 t141:=Tryz.underlying289
 a141:=Tryz.isAgg289
 z141:=Tryz.sizeOf289
 v141:=Tryz.zeroValue289
 t152:=Tryz.underlying285
 a152:=Tryz.isAgg285
 z152:=Tryz.sizeOf285
 v152:=Tryz.zeroValue285
 t154:=Tryz.underlying287
 a154:=Tryz.isAgg287
 z154:=Tryz.sizeOf287
 v154:=Tryz.zeroValue287
 t193:=Tryz.underlying298
 a193:=Tryz.isAgg298
 z193:=Tryz.sizeOf298
 v193:=Tryz.zeroValue298
 t194:=Tryz.underlying299
 a194:=Tryz.isAgg299
 z194:=Tryz.sizeOf299
 v194:=Tryz.zeroValue299
 t196:=Tryz.underlying301
 a196:=Tryz.isAgg301
 z196:=Tryz.sizeOf301
 v196:=Tryz.zeroValue301
 t198:=Tryz.underlying303
 a198:=Tryz.isAgg303
 z198:=Tryz.sizeOf303
 v198:=Tryz.zeroValue303
 t201:=Tryz.underlying306
 a201:=Tryz.isAgg306
 z201:=Tryz.sizeOf306
 v201:=Tryz.zeroValue306
 t226:=Tryz.underlying316
 a226:=Tryz.isAgg316
 z226:=Tryz.sizeOf316
 v226:=Tryz.zeroValue316
 t227:=Tryz.underlying317
 a227:=Tryz.isAgg317
 z227:=Tryz.sizeOf317
 v227:=Tryz.zeroValue317
 g0:=by kernel_rfl
 g6:=by kernel_rfl }
open Go.RowKit Go.Lib in
theorem Tryz.strings_Fields (s:ByteArray) (w:World) (hs:s.size<4294967281) (hascii:∀ (j:Nat) b,s.data.toList[j]?=some b->b.toNat<128) (htab:Lib.TabIs Tryz.prog w "strings.asciiSpace" .u8 Lib.asciiSpaceTab) :
  Calls Tryz.prog 173 #[.string s] w fun e w' =>
   e = .returned (.slice (some ⟨w.heap.size,0,none⟩) (Lib.fields s.data.toList).length (Lib.fields s.data.toList).length) /\ w'=w.alloc (.cells ((Lib.fields s.data.toList).map fun l=>Value.string ⟨l.toArray⟩).toArray 9):=Any.strings_Fields Tryz.lays157 (by kernel_rfl) (by kernel_rfl) s w hs hascii htab
def Tryz.lays109_ren:Go.Shelf.Ren:=⟨fun | 109=>157 | n=>n,fun | 31=>28 | 9=>9 | 3=>3 | 0=>0 | 4=>4 | n=>n,fun | n=>n⟩
theorem Tryz.lays109:Go.Proofs.Lays.n109 Tryz.prog Tryz.lays109_ren:={
 mixed:=by kernel_rfl
 f109:=Tryz.func157.trans (congrArg some (by kernel_rfl))
 t0:=Tryz.underlying0
 a0:=Tryz.isAgg0
 z0:=Tryz.sizeOf0
 v0:=Tryz.zeroValue0
 t3:=Tryz.underlying3
 a3:=Tryz.isAgg3
 z3:=Tryz.sizeOf3
 v3:=Tryz.zeroValue3
 t4:=Tryz.underlying4
 a4:=Tryz.isAgg4
 z4:=Tryz.sizeOf4
 v4:=Tryz.zeroValue4
 t9:=Tryz.underlying9
 a9:=Tryz.isAgg9
 z9:=Tryz.sizeOf9
 v9:=Tryz.zeroValue9
 t31:=Tryz.underlying28
 a31:=Tryz.isAgg28
 z31:=Tryz.sizeOf28
 v31:=Tryz.zeroValue28 }
open Go.Lib in
theorem Tryz.slices_Index_string (b off n c:Nat) (zs:List ByteArray) (x:ByteArray) (w:World) (hz:n<=zs.length) (hbig:n<=9223372036854775807) (hc:∀ j,j<zs.length->w.cell? ⟨b,off+j,none⟩=some (.string (zs.getD j ByteArray.empty))) :
  Calls Tryz.prog 157 #[.slice (some ⟨b,off,none⟩) n c,.string x] w fun e w'=>e = .returned (.int .i64 (Lib.idxOfS (zs.take n) x)) /\ w'=w:=Any.slices_Index_string Tryz.lays109 b off n c zs x w hz hbig hc
def Tryz.lays110_ren:Go.Shelf.Ren:=⟨fun | 110=>155 | 109=>157 | n=>n,fun | 31=>28 | 9=>9 | 4=>4 | 3=>3 | 0=>0 | n=>n,fun | n=>n⟩
theorem Tryz.lays110:Go.Proofs.Lays.n110 Tryz.prog Tryz.lays110_ren:={
 mixed:=by kernel_rfl
 f109:=Tryz.func157.trans (congrArg some (by kernel_rfl))
 f110:=Tryz.func155.trans (congrArg some (by kernel_rfl))
 t0:=Tryz.underlying0
 a0:=Tryz.isAgg0
 z0:=Tryz.sizeOf0
 v0:=Tryz.zeroValue0
 t3:=Tryz.underlying3
 a3:=Tryz.isAgg3
 z3:=Tryz.sizeOf3
 v3:=Tryz.zeroValue3
 t4:=Tryz.underlying4
 a4:=Tryz.isAgg4
 z4:=Tryz.sizeOf4
 v4:=Tryz.zeroValue4
 t9:=Tryz.underlying9
 a9:=Tryz.isAgg9
 z9:=Tryz.sizeOf9
 v9:=Tryz.zeroValue9
 t31:=Tryz.underlying28
 a31:=Tryz.isAgg28
 z31:=Tryz.sizeOf28
 v31:=Tryz.zeroValue28 }
open Go.Lib in
theorem Tryz.slices_Contains_string (b off n c:Nat) (zs:List ByteArray) (x:ByteArray) (w:World) (hz:n<=zs.length) (hbig:n<=9223372036854775807) (hc:∀ j,j<zs.length->w.cell? ⟨b,off+j,none⟩=some (.string (zs.getD j ByteArray.empty))) :
  Calls Tryz.prog 155 #[.slice (some ⟨b,off,none⟩) n c,.string x] w fun e w'=>e = .returned (.bool (Lib.containsS (zs.take n) x)) /\ w'=w:=Any.slices_Contains_string Tryz.lays110 b off n c zs x w hz hbig hc
open Go.Lib in
theorem Tryz.slices_Contains_string_empty (a:Option Addr) (c:Nat) (x:ByteArray) (w:World) :
  Calls Tryz.prog 155 #[.slice a 0 c,.string x] w fun e w'=>e = .returned (.bool false) /\ w'=w:=Any.slices_Contains_string_empty Tryz.lays110 a c x w
end Go.Proofs
namespace Go.Proofs.YtbflfefahheidaaGreatDoor
open Go.RowKit Go.Pl
def cl8 (b:UInt8):Nat:=if b==35 then 2 else if b==95 then 5 else if b==34 then 7 else if aBh b then 3 else if aAv b then 4 else if aB7 b then 1 else if aD1 b then 6 else 0
def aCQ (i:Nat):Nat:=if aBh (UInt8.ofNat i) then 3 else if aAv (UInt8.ofNat i) then 4 else if aB7 (UInt8.ofNat i) then 1 else if aD1 (UInt8.ofNat i) then 6 else 0
def ixb (s:Bys) (i:Nat):Int:=Lib.indexByte s (UInt8.ofNat i)
theorem aA0 (i:Nat) (hi:i<256):aCQ i=bif (decide ((97:Int)<=(i:Int))&&decide ((i:Int)<=122)||decide ((65:Int)<=(i:Int))&&decide ((i:Int)<=90)) then 3 else bif (decide ((48:Int)<=(i:Int))&&decide ((i:Int)<=57)) then 4 else bif decide ((0:Int)<=ixb [32,9,10] i) then 1 else bif decide ((0:Int)<=ixb [59,44,46,58,40,41,123,125,91,93,61,60,62,47,45] i) then 6 else 0:=by
  have:∀ i:Fin 256,aCQ i.val=bif (decide ((97:Int)<=(i.val:Int))&&decide ((i.val:Int)<=122)||decide ((65:Int)<=(i.val:Int))&&decide ((i.val:Int)<=90)) then 3 else bif (decide ((48:Int)<=(i.val:Int))&&decide ((i.val:Int)<=57)) then 4 else bif decide ((0:Int)<=ixb [32,9,10] i.val) then 1 else bif decide ((0:Int)<=ixb [59,44,46,58,40,41,123,125,91,93,61,60,62,47,45] i.val) then 6 else 0:=by decide +kernel
  exact this ⟨i,hi⟩
theorem aWl (i:Nat) (hi:i<256):(if i=34 then 7 else if i=95 then 5 else if i=35 then 2 else aCQ i)=cl8 (UInt8.ofNat i):=by
  have:∀ i:Fin 256,(if i.val=34 then 7 else if i.val=95 then 5 else if i.val=35 then 2 else aCQ i.val)=cl8 (UInt8.ofNat i.val):=by decide +kernel
  exact this ⟨i,hi⟩
theorem aAB (s:Bys) (i:Nat) (hi:i<256) (w:World):Calls Tryz.prog 115 #[vS s,.int .u8 (i:Int)] w fun e w'=>e = .returned (vI (ixb s i)) /\ Fr nF_ w w':=by
  refine (Tryz.strings_IndexByte (ofL s) (i:Int) w).mono fun e w' h=>⟨?_,by rw [h.2];exact Fr.refl _ _⟩;rw [h.1];unfold ixb;rw [show (ofL s).data.toList=s from by simp [ofL],show ((i:Int).toNat.toUInt8)=UInt8.ofNat i from by simp]
abbrev vU (n:Nat):Value := .int .u8 (n:Int)
abbrev T8 (cs:Array Value) (t:Nat->Nat):Prop:=TbA 256 cs (fun i=>vU (t i))
def aJ0 (i:Nat):Nat:=cl8 (UInt8.ofNat i)
theorem aDg (b:UInt8):aJ0 b.toNat=cl8 b:=by
  unfold aJ0;rw [show UInt8.ofNat b.toNat=b by simp]
theorem aQJ:T8 (zT Tryz.prog 153) (fun _=>0):=by
  have h:(zT Tryz.prog 153).size=256 /\ (List.range 256).all (fun i=>match (zT Tryz.prog 153)[i]? with | some (.int .u8 n)=>n==0 | _=>false)=true:=⟨by kernel_rfl,by kernel_rfl⟩;refine ⟨h.1,fun i hi=>?_⟩;have:=List.all_eq_true.1 h.2 i (List.mem_range.2 hi)
  split at this
  · rename_i n hn;rw [hn];rw [beq_iff_eq] at this;rw [this];rfl
  · cases this
theorem T8.one {cs:Array Value}{t:Nat->Nat}(h:T8 cs t):cs.all (·.oneCell')=true:=TbA.one h fun _=>rfl
theorem T8.ext {cs:Array Value}{t t':Nat->Nat}(h:T8 cs t) (e:∀ i,i<256->t i=t' i):T8 cs t':=TbA.ext h fun i hi=>by rw [e i hi]
theorem T8.set {cs:Array Value}{t:Nat->Nat}(h:T8 cs t) {k:Nat}(hk:k<256) (v:Nat):T8 (cs.setIfInBounds k (vU v)) (fun i=>if i=k then v else t i):=(TbA.set h hk (vU v)).ext fun i _=>by by_cases e:i=k<;>simp [e]
theorem aA4 {n v:Nat}(h:aCQ n=v) (i:Nat):(if i=n then v else if i<n then aCQ i else 0)=if i<n+1 then aCQ i else 0:=by
  rcases Nat.lt_trichotomy i n with e | e | e
  · rw [if_neg (by omega),if_pos e,if_pos (by omega)]
  · subst e;rw [if_pos rfl,if_pos (by omega),h]
  · rw [if_neg (by omega),if_neg (by omega),if_neg (by omega)]
theorem aCj {n:Nat}(h:aCQ n=0) (i:Nat):(if i<n then aCQ i else 0)=if i<n+1 then aCQ i else 0:=by
  rcases Nat.lt_trichotomy i n with e | e | e
  · rw [if_pos e,if_pos (by omega)]
  · subst e;rw [if_neg (by omega),if_pos (by omega),h]
  · rw [if_neg (by omega),if_neg (by omega)]
theorem aXQ (i:Nat) (hi:i<256) {w:World}:Ft.ok Tryz.prog w (.g1 (.convert 3 5) (vI (i:Int)) (.int .u8 (i:Int))):=fun o ρ x ho hx=>by
  have:IntKind.u8.wrap (i:Int)=i:=by simp [IntKind.wrap,IntKind.bits,IntKind.signed];omega
  simp [execOp,ho,hx,go_sem,this]
abbrev A87 (Z:Ending->World->Prop):=AtO Tryz.prog (aAf Tryz.f87) (aAo (bodyPost Tryz.prog Tryz.f87 Z)) [] 50
theorem aFr (w:World):Calls Tryz.prog 87 #[] w fun e w'=>(∃ cs,e = .returned (.agg cs) /\ T8 cs aJ0 /\ Fr nF_ w w'):=by
  refine beg Tryz.func87 rfl rfl [] rfl rfl fun Z hZ=>?_;have hM:=Mm.nil nF_ w;refine aAp 0 0 0 [] (cs:=zT Tryz.prog 153) (T:=153) (v:=fun b=>vP b 0) f0 hM fun b1 w1 hM=>aAp 1 0 1 [] (cs:=zT Tryz.prog 153) (T:=153) (v:=fun b=>vP b 0) f0 hM fun b2 w1 hM=>seg 3 0 [(4,vI 0)] f0 ?_
  have lp3:∀ (m5:Nat) (n:Nat) (cs:Array Value) (w2:World),n<=256->(T8 cs (fun i=>if i<n then aCQ i else 0))->Mm nF_ w w2 [bk b1 (zT Tryz.prog 153) 153,bk b2 cs 153]->m5=256-n->A87 Z (some (3,0)) [(4,vI (n:Int)),(1,vP b2 0),(0,vP b1 0)] w2:=by
   refine aA8 fun m5 ih4 n cs w2 hn hT hM hm5=>seg 3 1 [(5,vB (decide ((n:Int)<256)))] f0 ?_;cases h6:(decide ((n:Int)<256))
   ·have rh6:=df h6;have hT:T8 cs (fun i=>aCQ i):=T8.ext hT fun i hi=>by rw [if_pos (by omega)]
    refine aFy 16 1 [(46,vP b2 (0+35*1))] 5 1 35 (vU 2) (fc (aDU 153 256 .i64 b2 0 35 (by omega)) f0) hM rfl (by have:=hT.1;omega) fun w1 hM=>?_;have hT:=T8.set hT (k:=35) (by omega) 2;refine aFy 16 3 [(47,vP b2 (0+95*1))] 5 1 95 (vU 5) (fc (aDU 153 256 .i64 b2 0 95 (by omega)) f0) hM rfl (by have:=hT.1;omega) fun w1 hM=>?_;have hT:=T8.set hT (k:=95) (by omega) 5;refine aFy 16 5 [(48,vP b2 (0+34*1))] 5 1 34 (vU 7) (fc (aDU 153 256 .i64 b2 0 34 (by omega)) f0) hM rfl (by have:=hT.1;omega) fun w1 hM=>?_;have hT:=T8.set hT (k:=34) (by omega) 7;refine aWI 17 1 [(49,.agg (Array.setIfInBounds (Array.setIfInBounds (Array.setIfInBounds cs 35 (vU 2)) 95 (vU 5)) 34 (vU 7)))] 153 0 (fc (lac 153 1 hM rfl hT.1) f0) hM rfl aQJ.1 hT.1 (T8.one hT) fun w1 hM=>?_;have hT:T8 _ aJ0:=T8.ext hT fun i hi=>by unfold aJ0;rw [←aWl i hi]
    exact rtc 0 153 rfl (aAi 153 0 hM rfl hT.1) f0 (hZ _ _ ⟨_,rfl,hT,hM.fr⟩)
   have rh6:=dt h6;have hlt:n<256:=by omega
   refine seg 6 3 [(2,vI (n:Int)),(3,.int .u8 (n:Int)),(12,vB (decide (97<=(n:Int))))] (fc (aXQ n hlt) f0) ?_;cases h7:(decide (97<=(n:Int)))
   ·have rh7:=df h7;refine seg 7 3 [(18,vB (decide (65<=(n:Int))))] f0 ?_;cases h8:(decide (65<=(n:Int)))
    ·have rh8:=df h8;refine seg 9 3 [(27,vB (decide (48<=(n:Int))))] f0 ?_;cases h9:(decide (48<=(n:Int)))
     ·have rh9:=df h9;refine aAq 11 1 35 [(34,.int .u8 (n:Int))] f0 hM (aAB [32,9,10] n hlt _) fun w1 hM=>seg 11 4 [(33,vB (decide (0<=(ixb [32,9,10] n))))] f0 ?_;cases h10:(decide (0<=(ixb [32,9,10] n)))
      rotate_left
      ·refine aFy 12 2 [(38,vP b2 (0+n*1))] 5 1 n (vU 1) (fc (aDU 153 256 .i64 b2 0 n (by omega)) f0) hM rfl (by have:=hT.1;omega) fun w1 hM=>?_;have hT:=T8.set hT (k:=n) (by omega) 1;refine seg 3 0 [(4,vI ((n:Int)+1))] (fc (aAe (n:Int) 1 u3_) f0) ?_;have hcv:aCQ n=1:=by rw [aA0 n hlt];simp [h7,h8,h9,h10]
       exact aAb _ (ih4 _ (by omega) (n+1) _ _ (by omega) (T8.ext hT fun i _=>aA4 hcv i) hM rfl)
      refine aAq 13 1 41 [(40,.int .u8 (n:Int))] f0 hM (aAB [59,44,46,58,40,41,123,125,91,93,61,60,62,47,45] n hlt _) fun w1 hM=>seg 13 4 [(39,vB (decide (0<=(ixb [59,44,46,58,40,41,123,125,91,93,61,60,62,47,45] n))))] f0 ?_;cases h11:(decide (0<=(ixb [59,44,46,58,40,41,123,125,91,93,61,60,62,47,45] n)))
      ·refine seg 3 0 [(4,vI ((n:Int)+1))] (fc (aAe (n:Int) 1 u3_) f0) ?_;have hcv:aCQ n=0:=by rw [aA0 n hlt];simp [h7,h8,h9,h10,h11]
       exact aAb _ (ih4 _ (by omega) (n+1) _ _ (by omega) (T8.ext hT fun i _=>aCj hcv i) hM rfl)
      refine aFy 14 2 [(44,vP b2 (0+n*1))] 5 1 n (vU 6) (fc (aDU 153 256 .i64 b2 0 n (by omega)) f0) hM rfl (by have:=hT.1;omega) fun w1 hM=>?_;have hT:=T8.set hT (k:=n) (by omega) 6;refine seg 3 0 [(4,vI ((n:Int)+1))] (fc (aAe (n:Int) 1 u3_) f0) ?_;have hcv:aCQ n=6:=by rw [aA0 n hlt];simp [h7,h8,h9,h10,h11]
      exact aAb _ (ih4 _ (by omega) (n+1) _ _ (by omega) (T8.ext hT fun i _=>aA4 hcv i) hM rfl)
     have rh9:=dt h9;refine seg 9 7 [(24,vB (decide ((n:Int)<=57)))] f0 ?_;cases h12:(decide ((n:Int)<=57))
     rotate_left
     ·have aa:=dt h12;refine aFy 10 2 [(32,vP b2 (0+n*1))] 5 1 n (vU 4) (fc (aDU 153 256 .i64 b2 0 n (by omega)) f0) hM rfl (by have:=hT.1;omega) fun w1 hM=>?_;have hT:=T8.set hT (k:=n) (by omega) 4;refine seg 3 0 [(4,vI ((n:Int)+1))] (fc (aAe (n:Int) 1 u3_) f0) ?_;have hcv:aCQ n=4:=by rw [aA0 n hlt];simp [h7,h8,h9,h12]
      exact aAb _ (ih4 _ (by omega) (n+1) _ _ (by omega) (T8.ext hT fun i _=>aA4 hcv i) hM rfl)
     have aa:=df h12;refine aAq 11 1 35 [(34,.int .u8 (n:Int))] f0 hM (aAB [32,9,10] n hlt _) fun w1 hM=>seg 11 4 [(33,vB (decide (0<=(ixb [32,9,10] n))))] f0 ?_;cases h13:(decide (0<=(ixb [32,9,10] n)))
     rotate_left
     ·refine aFy 12 2 [(38,vP b2 (0+n*1))] 5 1 n (vU 1) (fc (aDU 153 256 .i64 b2 0 n (by omega)) f0) hM rfl (by have:=hT.1;omega) fun w1 hM=>?_;have hT:=T8.set hT (k:=n) (by omega) 1;refine seg 3 0 [(4,vI ((n:Int)+1))] (fc (aAe (n:Int) 1 u3_) f0) ?_;have hcv:aCQ n=1:=by rw [aA0 n hlt];simp [h7,h8,h9,h12,h13]
      exact aAb _ (ih4 _ (by omega) (n+1) _ _ (by omega) (T8.ext hT fun i _=>aA4 hcv i) hM rfl)
     refine aAq 13 1 41 [(40,.int .u8 (n:Int))] f0 hM (aAB [59,44,46,58,40,41,123,125,91,93,61,60,62,47,45] n hlt _) fun w1 hM=>seg 13 4 [(39,vB (decide (0<=(ixb [59,44,46,58,40,41,123,125,91,93,61,60,62,47,45] n))))] f0 ?_;cases h14:(decide (0<=(ixb [59,44,46,58,40,41,123,125,91,93,61,60,62,47,45] n)))
     ·refine seg 3 0 [(4,vI ((n:Int)+1))] (fc (aAe (n:Int) 1 u3_) f0) ?_;have hcv:aCQ n=0:=by rw [aA0 n hlt];simp [h7,h8,h9,h12,h13,h14]
      exact aAb _ (ih4 _ (by omega) (n+1) _ _ (by omega) (T8.ext hT fun i _=>aCj hcv i) hM rfl)
     refine aFy 14 2 [(44,vP b2 (0+n*1))] 5 1 n (vU 6) (fc (aDU 153 256 .i64 b2 0 n (by omega)) f0) hM rfl (by have:=hT.1;omega) fun w1 hM=>?_;have hT:=T8.set hT (k:=n) (by omega) 6;refine seg 3 0 [(4,vI ((n:Int)+1))] (fc (aAe (n:Int) 1 u3_) f0) ?_;have hcv:aCQ n=6:=by rw [aA0 n hlt];simp [h7,h8,h9,h12,h13,h14]
     exact aAb _ (ih4 _ (by omega) (n+1) _ _ (by omega) (T8.ext hT fun i _=>aA4 hcv i) hM rfl)
    have rh8:=dt h8;refine seg 7 7 [(9,vB (decide ((n:Int)<=90)))] f0 ?_;cases h15:(decide ((n:Int)<=90))
    rotate_left
    ·have ab:=dt h15;refine aFy 8 2 [(23,vP b2 (0+n*1))] 5 1 n (vU 3) (fc (aDU 153 256 .i64 b2 0 n (by omega)) f0) hM rfl (by have:=hT.1;omega) fun w1 hM=>?_;have hT:=T8.set hT (k:=n) (by omega) 3;refine seg 3 0 [(4,vI ((n:Int)+1))] (fc (aAe (n:Int) 1 u3_) f0) ?_;have hcv:aCQ n=3:=by rw [aA0 n hlt];simp [h7,h8,h15]
     exact aAb _ (ih4 _ (by omega) (n+1) _ _ (by omega) (T8.ext hT fun i _=>aA4 hcv i) hM rfl)
    have ab:=df h15;refine seg 9 3 [(27,vB (decide (48<=(n:Int))))] f0 ?_;cases h16:(decide (48<=(n:Int)))
    ·have ac:=df h16;refine aAq 11 1 35 [(34,.int .u8 (n:Int))] f0 hM (aAB [32,9,10] n hlt _) fun w1 hM=>seg 11 4 [(33,vB (decide (0<=(ixb [32,9,10] n))))] f0 ?_;cases h17:(decide (0<=(ixb [32,9,10] n)))
     rotate_left
     ·refine aFy 12 2 [(38,vP b2 (0+n*1))] 5 1 n (vU 1) (fc (aDU 153 256 .i64 b2 0 n (by omega)) f0) hM rfl (by have:=hT.1;omega) fun w1 hM=>?_;have hT:=T8.set hT (k:=n) (by omega) 1;refine seg 3 0 [(4,vI ((n:Int)+1))] (fc (aAe (n:Int) 1 u3_) f0) ?_;have hcv:aCQ n=1:=by rw [aA0 n hlt];simp [h7,h8,h15,h16,h17]
      exact aAb _ (ih4 _ (by omega) (n+1) _ _ (by omega) (T8.ext hT fun i _=>aA4 hcv i) hM rfl)
     refine aAq 13 1 41 [(40,.int .u8 (n:Int))] f0 hM (aAB [59,44,46,58,40,41,123,125,91,93,61,60,62,47,45] n hlt _) fun w1 hM=>seg 13 4 [(39,vB (decide (0<=(ixb [59,44,46,58,40,41,123,125,91,93,61,60,62,47,45] n))))] f0 ?_;cases h18:(decide (0<=(ixb [59,44,46,58,40,41,123,125,91,93,61,60,62,47,45] n)))
     ·refine seg 3 0 [(4,vI ((n:Int)+1))] (fc (aAe (n:Int) 1 u3_) f0) ?_;have hcv:aCQ n=0:=by rw [aA0 n hlt];simp [h7,h8,h15,h16,h17,h18]
      exact aAb _ (ih4 _ (by omega) (n+1) _ _ (by omega) (T8.ext hT fun i _=>aCj hcv i) hM rfl)
     refine aFy 14 2 [(44,vP b2 (0+n*1))] 5 1 n (vU 6) (fc (aDU 153 256 .i64 b2 0 n (by omega)) f0) hM rfl (by have:=hT.1;omega) fun w1 hM=>?_;have hT:=T8.set hT (k:=n) (by omega) 6;refine seg 3 0 [(4,vI ((n:Int)+1))] (fc (aAe (n:Int) 1 u3_) f0) ?_;have hcv:aCQ n=6:=by rw [aA0 n hlt];simp [h7,h8,h15,h16,h17,h18]
     exact aAb _ (ih4 _ (by omega) (n+1) _ _ (by omega) (T8.ext hT fun i _=>aA4 hcv i) hM rfl)
    have ac:=dt h16;refine seg 9 7 [(24,vB (decide ((n:Int)<=57)))] f0 ?_;cases h19:(decide ((n:Int)<=57))
    rotate_left
    ·have ad:=dt h19;refine aFy 10 2 [(32,vP b2 (0+n*1))] 5 1 n (vU 4) (fc (aDU 153 256 .i64 b2 0 n (by omega)) f0) hM rfl (by have:=hT.1;omega) fun w1 hM=>?_;have hT:=T8.set hT (k:=n) (by omega) 4;refine seg 3 0 [(4,vI ((n:Int)+1))] (fc (aAe (n:Int) 1 u3_) f0) ?_;have hcv:aCQ n=4:=by rw [aA0 n hlt];simp [h7,h8,h15,h16,h19]
     exact aAb _ (ih4 _ (by omega) (n+1) _ _ (by omega) (T8.ext hT fun i _=>aA4 hcv i) hM rfl)
    have ad:=df h19;refine aAq 11 1 35 [(34,.int .u8 (n:Int))] f0 hM (aAB [32,9,10] n hlt _) fun w1 hM=>seg 11 4 [(33,vB (decide (0<=(ixb [32,9,10] n))))] f0 ?_;cases h20:(decide (0<=(ixb [32,9,10] n)))
    rotate_left
    ·refine aFy 12 2 [(38,vP b2 (0+n*1))] 5 1 n (vU 1) (fc (aDU 153 256 .i64 b2 0 n (by omega)) f0) hM rfl (by have:=hT.1;omega) fun w1 hM=>?_;have hT:=T8.set hT (k:=n) (by omega) 1;refine seg 3 0 [(4,vI ((n:Int)+1))] (fc (aAe (n:Int) 1 u3_) f0) ?_;have hcv:aCQ n=1:=by rw [aA0 n hlt];simp [h7,h8,h15,h16,h19,h20]
     exact aAb _ (ih4 _ (by omega) (n+1) _ _ (by omega) (T8.ext hT fun i _=>aA4 hcv i) hM rfl)
    refine aAq 13 1 41 [(40,.int .u8 (n:Int))] f0 hM (aAB [59,44,46,58,40,41,123,125,91,93,61,60,62,47,45] n hlt _) fun w1 hM=>seg 13 4 [(39,vB (decide (0<=(ixb [59,44,46,58,40,41,123,125,91,93,61,60,62,47,45] n))))] f0 ?_;cases h21:(decide (0<=(ixb [59,44,46,58,40,41,123,125,91,93,61,60,62,47,45] n)))
    ·refine seg 3 0 [(4,vI ((n:Int)+1))] (fc (aAe (n:Int) 1 u3_) f0) ?_;have hcv:aCQ n=0:=by rw [aA0 n hlt];simp [h7,h8,h15,h16,h19,h20,h21]
     exact aAb _ (ih4 _ (by omega) (n+1) _ _ (by omega) (T8.ext hT fun i _=>aCj hcv i) hM rfl)
    refine aFy 14 2 [(44,vP b2 (0+n*1))] 5 1 n (vU 6) (fc (aDU 153 256 .i64 b2 0 n (by omega)) f0) hM rfl (by have:=hT.1;omega) fun w1 hM=>?_;have hT:=T8.set hT (k:=n) (by omega) 6;refine seg 3 0 [(4,vI ((n:Int)+1))] (fc (aAe (n:Int) 1 u3_) f0) ?_;have hcv:aCQ n=6:=by rw [aA0 n hlt];simp [h7,h8,h15,h16,h19,h20,h21]
    exact aAb _ (ih4 _ (by omega) (n+1) _ _ (by omega) (T8.ext hT fun i _=>aA4 hcv i) hM rfl)
   have rh7:=dt h7;refine seg 6 7 [(9,vB (decide ((n:Int)<=122)))] f0 ?_;cases h22:(decide ((n:Int)<=122))
   rotate_left
   ·have ae:=dt h22;refine aFy 8 2 [(23,vP b2 (0+n*1))] 5 1 n (vU 3) (fc (aDU 153 256 .i64 b2 0 n (by omega)) f0) hM rfl (by have:=hT.1;omega) fun w1 hM=>?_;have hT:=T8.set hT (k:=n) (by omega) 3;refine seg 3 0 [(4,vI ((n:Int)+1))] (fc (aAe (n:Int) 1 u3_) f0) ?_;have hcv:aCQ n=3:=by rw [aA0 n hlt];simp [h7,h22]
    exact aAb _ (ih4 _ (by omega) (n+1) _ _ (by omega) (T8.ext hT fun i _=>aA4 hcv i) hM rfl)
   have ae:=df h22;refine seg 7 3 [(18,vB (decide (65<=(n:Int))))] f0 ?_;cases h23:(decide (65<=(n:Int)))
   ·have af:=df h23;refine seg 9 3 [(9,vB false),(27,vB (decide (48<=(n:Int))))] f0 ?_;cases h24:(decide (48<=(n:Int)))
    ·refine aAq 11 1 35 [(34,.int .u8 (n:Int))] f0 hM (aAB [32,9,10] n hlt _) fun w1 hM=>seg 11 4 [(33,vB (decide (0<=(ixb [32,9,10] n))))] f0 ?_;cases h25:(decide (0<=(ixb [32,9,10] n)))
     rotate_left
     ·refine aFy 12 2 [(38,vP b2 (0+n*1))] 5 1 n (vU 1) (fc (aDU 153 256 .i64 b2 0 n (by omega)) f0) hM rfl (by have:=hT.1;omega) fun w1 hM=>?_;have hT:=T8.set hT (k:=n) (by omega) 1;refine seg 3 0 [(4,vI ((n:Int)+1))] (fc (aAe (n:Int) 1 u3_) f0) ?_;have hcv:aCQ n=1:=by rw [aA0 n hlt];simp [h7,h22,h23,h24,h25]
      exact aAb _ (ih4 _ (by omega) (n+1) _ _ (by omega) (T8.ext hT fun i _=>aA4 hcv i) hM rfl)
     refine aAq 13 1 41 [(40,.int .u8 (n:Int))] f0 hM (aAB [59,44,46,58,40,41,123,125,91,93,61,60,62,47,45] n hlt _) fun w1 hM=>seg 13 4 [(39,vB (decide (0<=(ixb [59,44,46,58,40,41,123,125,91,93,61,60,62,47,45] n))))] f0 ?_;cases h26:(decide (0<=(ixb [59,44,46,58,40,41,123,125,91,93,61,60,62,47,45] n)))
     ·refine seg 3 0 [(4,vI ((n:Int)+1))] (fc (aAe (n:Int) 1 u3_) f0) ?_;have hcv:aCQ n=0:=by rw [aA0 n hlt];simp [h7,h22,h23,h24,h25,h26]
      exact aAb _ (ih4 _ (by omega) (n+1) _ _ (by omega) (T8.ext hT fun i _=>aCj hcv i) hM rfl)
     refine aFy 14 2 [(44,vP b2 (0+n*1))] 5 1 n (vU 6) (fc (aDU 153 256 .i64 b2 0 n (by omega)) f0) hM rfl (by have:=hT.1;omega) fun w1 hM=>?_;have hT:=T8.set hT (k:=n) (by omega) 6;refine seg 3 0 [(4,vI ((n:Int)+1))] (fc (aAe (n:Int) 1 u3_) f0) ?_;have hcv:aCQ n=6:=by rw [aA0 n hlt];simp [h7,h22,h23,h24,h25,h26]
     exact aAb _ (ih4 _ (by omega) (n+1) _ _ (by omega) (T8.ext hT fun i _=>aA4 hcv i) hM rfl)
    refine seg 9 7 [(24,vB (decide ((n:Int)<=57)))] f0 ?_;cases h27:(decide ((n:Int)<=57))
    rotate_left
    ·refine aFy 10 2 [(32,vP b2 (0+n*1))] 5 1 n (vU 4) (fc (aDU 153 256 .i64 b2 0 n (by omega)) f0) hM rfl (by have:=hT.1;omega) fun w1 hM=>?_;have hT:=T8.set hT (k:=n) (by omega) 4;refine seg 3 0 [(4,vI ((n:Int)+1))] (fc (aAe (n:Int) 1 u3_) f0) ?_;have hcv:aCQ n=4:=by rw [aA0 n hlt];simp [h7,h22,h23,h24,h27]
     exact aAb _ (ih4 _ (by omega) (n+1) _ _ (by omega) (T8.ext hT fun i _=>aA4 hcv i) hM rfl)
    refine aAq 11 1 35 [(34,.int .u8 (n:Int))] f0 hM (aAB [32,9,10] n hlt _) fun w1 hM=>seg 11 4 [(33,vB (decide (0<=(ixb [32,9,10] n))))] f0 ?_;cases h28:(decide (0<=(ixb [32,9,10] n)))
    rotate_left
    ·refine aFy 12 2 [(38,vP b2 (0+n*1))] 5 1 n (vU 1) (fc (aDU 153 256 .i64 b2 0 n (by omega)) f0) hM rfl (by have:=hT.1;omega) fun w1 hM=>?_;have hT:=T8.set hT (k:=n) (by omega) 1;refine seg 3 0 [(4,vI ((n:Int)+1))] (fc (aAe (n:Int) 1 u3_) f0) ?_;have hcv:aCQ n=1:=by rw [aA0 n hlt];simp [h7,h22,h23,h24,h27,h28]
     exact aAb _ (ih4 _ (by omega) (n+1) _ _ (by omega) (T8.ext hT fun i _=>aA4 hcv i) hM rfl)
    refine aAq 13 1 41 [(40,.int .u8 (n:Int))] f0 hM (aAB [59,44,46,58,40,41,123,125,91,93,61,60,62,47,45] n hlt _) fun w1 hM=>seg 13 4 [(39,vB (decide (0<=(ixb [59,44,46,58,40,41,123,125,91,93,61,60,62,47,45] n))))] f0 ?_;cases h29:(decide (0<=(ixb [59,44,46,58,40,41,123,125,91,93,61,60,62,47,45] n)))
    ·refine seg 3 0 [(4,vI ((n:Int)+1))] (fc (aAe (n:Int) 1 u3_) f0) ?_;have hcv:aCQ n=0:=by rw [aA0 n hlt];simp [h7,h22,h23,h24,h27,h28,h29]
     exact aAb _ (ih4 _ (by omega) (n+1) _ _ (by omega) (T8.ext hT fun i _=>aCj hcv i) hM rfl)
    refine aFy 14 2 [(44,vP b2 (0+n*1))] 5 1 n (vU 6) (fc (aDU 153 256 .i64 b2 0 n (by omega)) f0) hM rfl (by have:=hT.1;omega) fun w1 hM=>?_;have hT:=T8.set hT (k:=n) (by omega) 6;refine seg 3 0 [(4,vI ((n:Int)+1))] (fc (aAe (n:Int) 1 u3_) f0) ?_;have hcv:aCQ n=6:=by rw [aA0 n hlt];simp [h7,h22,h23,h24,h27,h28,h29]
    exact aAb _ (ih4 _ (by omega) (n+1) _ _ (by omega) (T8.ext hT fun i _=>aA4 hcv i) hM rfl)
   have af:=dt h23;refine seg 7 7 [(9,vB (decide ((n:Int)<=90)))] f0 ?_;cases h30:(decide ((n:Int)<=90))
   rotate_left
   ·have ag:=dt h30;refine aFy 8 2 [(23,vP b2 (0+n*1))] 5 1 n (vU 3) (fc (aDU 153 256 .i64 b2 0 n (by omega)) f0) hM rfl (by have:=hT.1;omega) fun w1 hM=>?_;have hT:=T8.set hT (k:=n) (by omega) 3;refine seg 3 0 [(4,vI ((n:Int)+1))] (fc (aAe (n:Int) 1 u3_) f0) ?_;have hcv:aCQ n=3:=by rw [aA0 n hlt];simp [h7,h22,h23,h30]
    exact aAb _ (ih4 _ (by omega) (n+1) _ _ (by omega) (T8.ext hT fun i _=>aA4 hcv i) hM rfl)
   have ag:=df h30;refine seg 9 3 [(27,vB (decide (48<=(n:Int))))] f0 ?_;cases h31:(decide (48<=(n:Int)))
   ·have ah:=df h31;refine aAq 11 1 35 [(34,.int .u8 (n:Int))] f0 hM (aAB [32,9,10] n hlt _) fun w1 hM=>seg 11 4 [(33,vB (decide (0<=(ixb [32,9,10] n))))] f0 ?_;cases h32:(decide (0<=(ixb [32,9,10] n)))
    rotate_left
    ·refine aFy 12 2 [(38,vP b2 (0+n*1))] 5 1 n (vU 1) (fc (aDU 153 256 .i64 b2 0 n (by omega)) f0) hM rfl (by have:=hT.1;omega) fun w1 hM=>?_;have hT:=T8.set hT (k:=n) (by omega) 1;refine seg 3 0 [(4,vI ((n:Int)+1))] (fc (aAe (n:Int) 1 u3_) f0) ?_;have hcv:aCQ n=1:=by rw [aA0 n hlt];simp [h7,h22,h23,h30,h31,h32]
     exact aAb _ (ih4 _ (by omega) (n+1) _ _ (by omega) (T8.ext hT fun i _=>aA4 hcv i) hM rfl)
    refine aAq 13 1 41 [(40,.int .u8 (n:Int))] f0 hM (aAB [59,44,46,58,40,41,123,125,91,93,61,60,62,47,45] n hlt _) fun w1 hM=>seg 13 4 [(39,vB (decide (0<=(ixb [59,44,46,58,40,41,123,125,91,93,61,60,62,47,45] n))))] f0 ?_;cases h33:(decide (0<=(ixb [59,44,46,58,40,41,123,125,91,93,61,60,62,47,45] n)))
    ·refine seg 3 0 [(4,vI ((n:Int)+1))] (fc (aAe (n:Int) 1 u3_) f0) ?_;have hcv:aCQ n=0:=by rw [aA0 n hlt];simp [h7,h22,h23,h30,h31,h32,h33]
     exact aAb _ (ih4 _ (by omega) (n+1) _ _ (by omega) (T8.ext hT fun i _=>aCj hcv i) hM rfl)
    refine aFy 14 2 [(44,vP b2 (0+n*1))] 5 1 n (vU 6) (fc (aDU 153 256 .i64 b2 0 n (by omega)) f0) hM rfl (by have:=hT.1;omega) fun w1 hM=>?_;have hT:=T8.set hT (k:=n) (by omega) 6;refine seg 3 0 [(4,vI ((n:Int)+1))] (fc (aAe (n:Int) 1 u3_) f0) ?_;have hcv:aCQ n=6:=by rw [aA0 n hlt];simp [h7,h22,h23,h30,h31,h32,h33]
    exact aAb _ (ih4 _ (by omega) (n+1) _ _ (by omega) (T8.ext hT fun i _=>aA4 hcv i) hM rfl)
   have ah:=dt h31;refine seg 9 7 [(24,vB (decide ((n:Int)<=57)))] f0 ?_;cases h34:(decide ((n:Int)<=57))
   rotate_left
   ·have ai:=dt h34;refine aFy 10 2 [(32,vP b2 (0+n*1))] 5 1 n (vU 4) (fc (aDU 153 256 .i64 b2 0 n (by omega)) f0) hM rfl (by have:=hT.1;omega) fun w1 hM=>?_;have hT:=T8.set hT (k:=n) (by omega) 4;refine seg 3 0 [(4,vI ((n:Int)+1))] (fc (aAe (n:Int) 1 u3_) f0) ?_;have hcv:aCQ n=4:=by rw [aA0 n hlt];simp [h7,h22,h23,h30,h31,h34]
    exact aAb _ (ih4 _ (by omega) (n+1) _ _ (by omega) (T8.ext hT fun i _=>aA4 hcv i) hM rfl)
   have ai:=df h34;refine aAq 11 1 35 [(34,.int .u8 (n:Int))] f0 hM (aAB [32,9,10] n hlt _) fun w1 hM=>seg 11 4 [(33,vB (decide (0<=(ixb [32,9,10] n))))] f0 ?_;cases h35:(decide (0<=(ixb [32,9,10] n)))
   rotate_left
   ·refine aFy 12 2 [(38,vP b2 (0+n*1))] 5 1 n (vU 1) (fc (aDU 153 256 .i64 b2 0 n (by omega)) f0) hM rfl (by have:=hT.1;omega) fun w1 hM=>?_;have hT:=T8.set hT (k:=n) (by omega) 1;refine seg 3 0 [(4,vI ((n:Int)+1))] (fc (aAe (n:Int) 1 u3_) f0) ?_;have hcv:aCQ n=1:=by rw [aA0 n hlt];simp [h7,h22,h23,h30,h31,h34,h35]
    exact aAb _ (ih4 _ (by omega) (n+1) _ _ (by omega) (T8.ext hT fun i _=>aA4 hcv i) hM rfl)
   refine aAq 13 1 41 [(40,.int .u8 (n:Int))] f0 hM (aAB [59,44,46,58,40,41,123,125,91,93,61,60,62,47,45] n hlt _) fun w1 hM=>seg 13 4 [(39,vB (decide (0<=(ixb [59,44,46,58,40,41,123,125,91,93,61,60,62,47,45] n))))] f0 ?_;cases h36:(decide (0<=(ixb [59,44,46,58,40,41,123,125,91,93,61,60,62,47,45] n)))
   ·refine seg 3 0 [(4,vI ((n:Int)+1))] (fc (aAe (n:Int) 1 u3_) f0) ?_;have hcv:aCQ n=0:=by rw [aA0 n hlt];simp [h7,h22,h23,h30,h31,h34,h35,h36]
    exact aAb _ (ih4 _ (by omega) (n+1) _ _ (by omega) (T8.ext hT fun i _=>aCj hcv i) hM rfl)
   refine aFy 14 2 [(44,vP b2 (0+n*1))] 5 1 n (vU 6) (fc (aDU 153 256 .i64 b2 0 n (by omega)) f0) hM rfl (by have:=hT.1;omega) fun w1 hM=>?_;have hT:=T8.set hT (k:=n) (by omega) 6;refine seg 3 0 [(4,vI ((n:Int)+1))] (fc (aAe (n:Int) 1 u3_) f0) ?_;have hcv:aCQ n=6:=by rw [aA0 n hlt];simp [h7,h22,h23,h30,h31,h34,h35,h36]
   exact aAb _ (ih4 _ (by omega) (n+1) _ _ (by omega) (T8.ext hT fun i _=>aA4 hcv i) hM rfl)
  exact aAb _ (lp3 _ 0 _ _ (Gg_ _) (T8.ext aQJ fun i _=>rfl) hM rfl)
def aFH (i:Nat) (c:UInt8):Bool:=cl8 c==3||(!(i==0)&&(cl8 c==4||cl8 c==5))
def aFG:Nat->Bys->Bool
  | _,[]=>true
  | i,c::l=>aFH i c&&aFG (i+1) l
def aA3 (s:Bys):Bool:=aFG 0 s&&(!(s==[]))&&decide (s.length<=24)
abbrev A52 (Z:Ending->World->Prop):=AtO Tryz.prog (aAf Tryz.f52) (aAo (bodyPost Tryz.prog Tryz.f52 Z)) [] 39
theorem aBk {s:Bys}(hs:s.length<=9223372036854775807) (w:World):Calls Tryz.prog 52 #[vS s] w fun e w'=>e = .returned (vB (aA3 s)) /\ Fr nF_ w w':=by
  refine beg Tryz.func52 rfl rfl [(0,vS s)] rfl rfl fun Z hZ=>?_;have hM:=Mm.nil nF_ w;refine aNQ 1 0 6 [] (K:=fun v w8=>∃ cs,v = .agg cs /\ T8 cs aJ0) f0 hM ((aFr _).mono fun e w8 ⟨cs,h1,h2,h3⟩=>⟨⟨_,h1,cs,rfl,h2⟩,h3⟩) fun _ w1 ⟨cs,hv9,hT⟩ hM f1=>?_;subst hv9;refine aAp 1 1 3 [] (cs:=zT Tryz.prog 153) (T:=153) (v:=fun b=>vP b 0) f0 hM fun b1 w1 hM=>aWI 1 2 [] 153 0 f0 hM rfl aQJ.1 hT.1 (T8.one hT) fun w1 hM=>seg 3 0 [(8,vI (s.length:Int)),(9,vI 0)] (fc (aCA 9 s) f0) ?_
  have lp2:∀ (m4:Nat) (i:Nat) (w2:World),i<=s.length->aFG 0 s=aFG i (s.drop i)->Mm nF_ w w2 [bk b1 cs 153]->m4=s.length-i->A52 Z (some (3,0)) [(9,vI (i:Int)),(8,vI (s.length:Int)),(3,vP b1 0),(0,vS s)] w2:=by
   refine aA8 fun m4 ih3 i w2 hi hv hM hm4=>seg 3 1 [(10,vB (decide ((i:Int)<(s.length:Int))))] f0 ?_;cases h5:(decide ((i:Int)<(s.length:Int)))
   ·have rh5:=df h5;refine seg 9 3 [(34,vB (!(s==[])))] (fc (sne 9 s []) f0) ?_;cases h6:(s==[])
    ·exact rt1 2 (vB (decide ((s.length:Int)<=24))) rfl (fc (aCA 9 s) f0) (hZ _ _ ⟨by unfold aA3;rw [hv,Gi_ (by omega),h6,aFG,show decide (((s.length:Nat):Int)<=24)=decide (s.length<=24) from by rw [decide_eq_decide];omega];rfl,hM.fr⟩)
    exact rt1 2 (vB false) rfl f0 (hZ _ _ ⟨by unfold aA3;rw [h6];simp,hM.fr⟩)
   have rh5:=dt h5;obtain ⟨e7,he7⟩:=geb (l:=s) (i:=i) (by omega);refine seg 6 3 [(4,vI (i:Int)),(5,.int .u8 ((aJ0 e7.toNat:Nat):Int)),(19,vB (!(((aJ0 e7.toNat:Nat):Int)==3)))] (fc (byt 9 he7) (fc (aDU 153 256 .u8 b1 0 e7.toNat e7.toNat_lt) (fc (ldt 5 0 hM rfl (hT.2 _ e7.toNat_lt)) f0))) ?_;cases h8:(((aJ0 e7.toNat:Nat):Int)==3)
   rotate_left
   ·have rh8:=et h8;refine seg 3 0 [(9,vI ((i:Int)+1))] (fc (aAe (i:Int) 1 u3_) f0) (aAb _ (ih3 _ (by omega) (i+1) _ (gl he7) (by rw [hv,gd he7,aFG,show aFH i e7=true by unfold aFH;rw [←aDg];simp;omega];rfl) hM rfl))
   have rh8:=ef h8;refine seg 6 6 [(22,vB ((i:Int)==0))] f0 ?_;cases h9:((i:Int)==0)
   rotate_left
   ·have rh9:=et h9;exact rt1 2 (vB false) rfl f0 (hZ _ _ ⟨by unfold aA3;rw [hv,gd he7,aFG,show aFH i e7=false by unfold aFH;rw [←aDg];simp;omega];rfl,hM.fr⟩)
   have rh9:=ef h9;refine seg 6 9 [(25,vB (!(((aJ0 e7.toNat:Nat):Int)==4)))] f0 ?_;cases h10:(((aJ0 e7.toNat:Nat):Int)==4)
   rotate_left
   ·have aa:=et h10;refine seg 3 0 [(9,vI ((i:Int)+1))] (fc (aAe (i:Int) 1 u3_) f0) (aAb _ (ih3 _ (by omega) (i+1) _ (gl he7) (by rw [hv,gd he7,aFG,show aFH i e7=true by unfold aFH;rw [←aDg];simp;omega];rfl) hM rfl))
   have aa:=ef h10;refine seg 6 14 [(30,vB (!(((aJ0 e7.toNat:Nat):Int)==5)))] f0 ?_;cases h11:(((aJ0 e7.toNat:Nat):Int)==5)
   ·have ab:=ef h11;exact rt1 2 (vB false) rfl f0 (hZ _ _ ⟨by unfold aA3;rw [hv,gd he7,aFG,show aFH i e7=false by unfold aFH;rw [←aDg];simp;omega];rfl,hM.fr⟩)
   have ab:=et h11;refine seg 3 0 [(9,vI ((i:Int)+1))] (fc (aAe (i:Int) 1 u3_) f0) (aAb _ (ih3 _ (by omega) (i+1) _ (gl he7) (by rw [hv,gd he7,aFG,show aFH i e7=true by unfold aFH;rw [←aDg];simp;omega];rfl) hM rfl))
  exact aAb _ (lp2 _ 0 _ (Gg_ _) rfl hM rfl)
inductive Fst {α:Type}(L:List α) (q:Nat->Bool) (I:Nat->World->Prop) (w:World):Int->Prop where
  | none:(∀ j,j<L.length->q j=false)->I L.length w->Fst L q I w (-1)
  | some (i:Nat):i<L.length->q i=true->(∀ j,j<i->q j=false)->I (i+1) w->Fst L q I w (i:Int)
theorem Fst.end_ {α:Type}{L:List α}{q:Nat->Bool}{I:Nat->World->Prop}{w:World}{i:Nat}(e:i=L.length) (h:∀ j,j<i->q j=false) (hI:I i w):Fst L q I w (-1):=by subst e;exact .none h hI
abbrev A90 (Z:Ending->World->Prop):=AtO Tryz.prog (aAf Tryz.f90) (aAo (bodyPost Tryz.prog Tryz.f90 Z)) [] 19
theorem aND {w:World}{B:Nat}{p:Option Addr}{cap:Nat}{L:List Bys}{f:FuncId}{caps:Array Value}{G:Nat->Prop}(hs:SrcB stL 1 w B p cap L) (hG:∀ k,G k->B<=k) (eg:aJ1 Tryz.prog f) (I:Nat->World->Prop) (q:Nat->Bool) (h0:I 0 w) (step:∀ i x w1,L[i]?=some x->(∀ j,j<i->q j=false)->I i w1->Fr G w w1->Calls Tryz.prog f (#[vS x]++caps) w1 fun e w2=>e = .returned (vB (q i)) /\ I (i+1) w2 /\ Fr G w1 w2):Calls Tryz.prog 90 #[vL p L.length cap,.func (.func f) #[] caps] w fun e w'=>(∃ z,e = .returned (vI z) /\ Fst L q I w' z) /\ Fr G w w':=by
  have bb:=hs.bnd;refine beg Tryz.func90 rfl rfl [(0,vL p L.length cap),(1,.func (.func f) #[] caps)] rfl rfl fun Z hZ=>?_;have hM:=Mm.nil G w;refine seg 2 0 [(7,vI (L.length:Int)),(8,vI 0)] f0 ?_
  have lp1:∀ (m3:Nat) (i:Nat) (w2:World),i<=L.length->(∀ j,j<i->q j=false)->I i w2->Mm G w w2 []->m3=L.length-i->A90 Z (some (2,0)) [(8,vI (i:Int)),(7,vI (L.length:Int)),(0,vL p L.length cap),(1,.func (.func f) #[] caps)] w2:=by
   refine aA8 fun m3 ih2 i w2 hi hq hI hM hm3=>seg 2 1 [(9,vB (decide ((i:Int)<(L.length:Int))))] f0 ?_;cases h4:(decide ((i:Int)<(L.length:Int)))
   ·have rh4:=df h4;exact rt1 4 (vI (-1)) rfl f0 (hZ _ _ ⟨⟨_,rfl,.end_ (by omega) hq hI⟩,hM.fr⟩)
   have rh4:=dt h4;obtain ⟨y5,hy5,g5,o5,q5,r5,n5⟩:=(hs).eb hG (i:=i) (by omega);refine aXB 4 5 16 [(5,vI (i:Int)),(11,.func (.func f) #[] caps),(15,vS y5)] #[9] (K:=fun u w9=>u=vB (q i) /\ I (i+1) w9 /\ Fr G w2 w9) (by decide) (fc (ix 28 cap q5 (gl hy5)) (fc (ld0 9 hM (r5 0 _ rfl) n5) f0)) eg ((step i y5 _ hy5 hq hI hM.fr).mono fun e w9 h=>⟨_,h.1,rfl,h.2⟩) fun u w1 ⟨hu,hI,f1⟩=>?_;subst hu;have hM:=hM.g f1;cases h6:(q i)
   ·refine seg 2 0 [(8,vI ((i:Int)+1))] (fc (aAe (i:Int) 1 u3_) f0) (aAb _ (ih2 _ (by omega) (i+1) _ (gl hy5) (fun j hj=>by rcases Nat.lt_succ_iff_lt_or_eq.1 hj with h | h;exact hq j h;rw [h];exact h6) hI hM rfl))
   exact rt1 4 (vI (i:Int)) rfl f0 (hZ _ _ ⟨⟨_,rfl,.some i (gl hy5) h6 hq hI⟩,hM.fr⟩)
  exact aAb _ (lp1 _ 0 _ (Gg_ _) (fun _ h=>absurd h (Nat.not_lt_zero _)) h0 hM rfl)
abbrev A88 (Z:Ending->World->Prop):=AtO Tryz.prog (aAf Tryz.f88) (aAo (bodyPost Tryz.prog Tryz.f88 Z)) [] 19
theorem aNE {w:World}{B:Nat}{p:Option Addr}{cap:Nat}{L:List ObR}{f:FuncId}{caps:Array Value}{G:Nat->Prop}(hs:SrcB obL 6 w B p cap L) (hG:∀ k,G k->B<=k) (eg:aJ1 Tryz.prog f) (I:Nat->World->Prop) (q:Nat->Bool) (h0:I 0 w) (step:∀ i x w1,L[i]?=some x->(∀ j,j<i->q j=false)->I i w1->Fr G w w1->Calls Tryz.prog f (#[vA (obL x)]++caps) w1 fun e w2=>e = .returned (vB (q i)) /\ I (i+1) w2 /\ Fr G w1 w2):Calls Tryz.prog 88 #[vL p L.length cap,.func (.func f) #[] caps] w fun e w'=>(∃ z,e = .returned (vI z) /\ Fst L q I w' z) /\ Fr G w w':=by
  have bb:=hs.bnd;refine beg Tryz.func88 rfl rfl [(0,vL p L.length cap),(1,.func (.func f) #[] caps)] rfl rfl fun Z hZ=>?_;have hM:=Mm.nil G w;refine seg 2 0 [(7,vI (L.length:Int)),(8,vI 0)] f0 ?_
  have lp7:∀ (m9:Nat) (i:Nat) (w2:World),i<=L.length->(∀ j,j<i->q j=false)->I i w2->Mm G w w2 []->m9=L.length-i->A88 Z (some (2,0)) [(8,vI (i:Int)),(7,vI (L.length:Int)),(0,vL p L.length cap),(1,.func (.func f) #[] caps)] w2:=by
   refine aA8 fun m9 ih8 i w2 hi hq hI hM hm9=>seg 2 1 [(9,vB (decide ((i:Int)<(L.length:Int))))] f0 ?_;cases h10:(decide ((i:Int)<(L.length:Int)))
   ·have ab:=df h10;exact rt1 4 (vI (-1)) rfl f0 (hZ _ _ ⟨⟨_,rfl,.end_ (by omega) hq hI⟩,hM.fr⟩)
   have ab:=dt h10;obtain ⟨y11,aa,ad,ae,q11,ac,n11⟩:=(hs).eb hG (i:=i) (by omega);refine aXB 4 5 16 [(5,vI (i:Int)),(11,.func (.func f) #[] caps),(15,.agg #[vS y11.o.id,vI y11.o.kind,vI y11.o.x,vI y11.o.y,vL y11.pr y11.o.refs.length y11.cr,vL y11.pt y11.o.tags.length y11.ct])] #[64] (K:=fun u w9=>u=vB (q i) /\ I (i+1) w9 /\ Fr G w2 w9) (by decide) (fc (ix 22 cap q11 (gl aa)) (fc (la0 64 hM ac n11) f0)) eg ((step i y11 _ aa hq hI hM.fr).mono fun e w9 h=>⟨_,h.1,rfl,h.2⟩) fun u w1 ⟨hu,hI,f1⟩=>?_;subst hu;have hM:=hM.g f1;cases h12:(q i)
   ·refine seg 2 0 [(8,vI ((i:Int)+1))] (fc (aAe (i:Int) 1 u3_) f0) (aAb _ (ih8 _ (by omega) (i+1) _ (gl aa) (fun j hj=>by rcases Nat.lt_succ_iff_lt_or_eq.1 hj with h | h;exact hq j h;rw [h];exact h12) hI hM rfl))
   exact rt1 4 (vI (i:Int)) rfl f0 (hZ _ _ ⟨⟨_,rfl,.some i (gl aa) h12 hq hI⟩,hM.fr⟩)
  exact aAb _ (lp7 _ 0 _ (Gg_ _) (fun _ h=>absurd h (Nat.not_lt_zero _)) h0 hM rfl)
theorem aK0 {w:World}{B:Nat}{p:Option Addr}{cap:Nat}{L:List Bys}{f:FuncId}{caps:Array Value}{G:Nat->Prop}(hs:SrcB stL 1 w B p cap L) (hG:∀ k,G k->B<=k) (eg:aJ1 Tryz.prog f) (I:Nat->World->Prop) (q:Nat->Bool) (h0:I 0 w) (step:∀ i x w1,L[i]?=some x->(∀ j,j<i->q j=false)->I i w1->Fr G w w1->Calls Tryz.prog f (#[vS x]++caps) w1 fun e w2=>e = .returned (vB (q i)) /\ I (i+1) w2 /\ Fr G w1 w2):Calls Tryz.prog 54 #[vL p L.length cap,.func (.func f) #[] caps] w fun e w'=>(∃ z,e = .returned (vB (decide (0<=z))) /\ Fst L q I w' z) /\ Fr G w w':=by
  refine beg Tryz.func54 rfl rfl [(0,vL p L.length cap),(1,.func (.func f) #[] caps)] rfl rfl fun Z hZ=>?_;have hM:=Mm.nil G w;refine cal 1 2 7 [(5,vL p L.length cap),(6,.func (.func f) #[] caps)] (K:=fun u w8=>∃ z,u=vI z /\ Fst L q I w8 z /\ Fr G w w8) f0 ((aND hs hG eg I q h0 step).mono fun e w9 h=>⟨_,h.1.choose_spec.1,_,rfl,h.1.choose_spec.2,h.2⟩) fun u w1 ⟨z,hu,hz,f1⟩=>?_;subst hu;have hM:=hM.g f1;exact rt1 4 (vB (decide (0<=z))) rfl f0 (hZ _ _ ⟨⟨_,rfl,hz⟩,hM.fr⟩)
def aBU (k:Int):Bys:=if k<0∨6<=k then [] else [[],[110,111,100,101],[119,97,121],[97,114,101,97],[114,111,117,116,101],[116,117,114,110]].getD k.toNat []
def aE0 (k:Int):Int:=[0,0,2,3,1,3].getD k.toNat 0
def onB (x y:Int):Bool:=decide (0<=x)&&decide (x<1048576)&&decide (0<=y)&&decide (y<1048576)
theorem six {k:Int}(h0:¬ k<0) (h1:¬ 6<=k):∃ i:Nat,k=(i:Int) /\ i<6:=⟨k.toNat,by omega,by omega⟩
theorem aVl {i:Nat}(h:i<6):(#[vS [],vS [110,111,100,101],vS [119,97,121],vS [97,114,101,97],vS [114,111,117,116,101],vS [116,117,114,110]]:Array Value)[i]?=some (vS (aBU (i:Int))):=by
  match i,h with
  | 0,_=>rfl
  | 1,_=>rfl
  | 2,_=>rfl
  | 3,_=>rfl
  | 4,_=>rfl
  | 5,_=>rfl
theorem aVR {i:Nat}(h:i<6):(#[vI 0,vI 0,vI 2,vI 3,vI 1,vI 3]:Array Value)[i]?=some (vI (aE0 (i:Int))):=by
  match i,h with
  | 0,_=>rfl
  | 1,_=>rfl
  | 2,_=>rfl
  | 3,_=>rfl
  | 4,_=>rfl
  | 5,_=>rfl
theorem aCT (k:Int) (w:World):Calls Tryz.prog 80 #[vI k] w fun e w'=>e = .returned (vS (aBU k)) /\ Fr nF_ w w':=by
  refine beg Tryz.func80 rfl rfl [(0,vI k)] rfl rfl fun Z hZ=>?_;have hM:=Mm.nil nF_ w;refine aCl 1 1 3 [(4,.agg #[vS [],vS [110,111,100,101],vS [119,97,121],vS [97,114,101,97],vS [114,111,117,116,101],vS [116,117,114,110]])] [] 192 (.agg #[vS [],vS [110,111,100,101],vS [119,97,121],vS [97,114,101,97],vS [114,111,117,116,101],vS [116,117,114,110]]) f0 hM fun aa w1 hM=>seg 2 3 [(7,vB (decide (k<0)))] f0 ?_;cases h14:(decide (k<0))
  rotate_left
  ·have ab:=dt h14;exact rt1 2 (vS []) rfl f0 (hZ _ _ ⟨by unfold aBU;rw [if_pos (by omega)],hM.fr⟩)
  have ab:=df h14;refine seg 2 6 [(10,vB (decide (6<=k)))] f0 ?_;cases h15:(decide (6<=k))
  ·have ac:=df h15;obtain ⟨i,hk,hi⟩:=six (k:=k) (by omega) (by omega);subst hk;exact rt1 2 (vS (aBU (i:Int))) rfl (fc (aDU 192 6 .i64 aa 0 i hi) (fc (ldt 9 0 hM rfl (aVl hi)) f0)) (hZ _ _ ⟨rfl,hM.fr⟩)
  have ac:=dt h15;exact rt1 2 (vS []) rfl f0 (hZ _ _ ⟨by unfold aBU;rw [if_pos (by omega)],hM.fr⟩)
theorem aHb (k:Int) (h0:¬ k<0) (h1:¬ 6<=k) (w:World):Calls Tryz.prog 82 #[vI k] w fun e w'=>e = .returned (vI (aE0 k)) /\ Fr nF_ w w':=by
  obtain ⟨i,hk,hi⟩:=six (k:=k) (by omega) (by omega);subst hk;refine beg Tryz.func82 rfl rfl [(0,vI (i:Int))] rfl rfl fun Z hZ=>?_;have hM:=Mm.nil nF_ w;exact rt1 2 (vI (aE0 (i:Int))) rfl (fc (ixv 193 6 (kd := .i64) (aVR hi) rfl) f0) (hZ _ _ ⟨rfl,hM.fr⟩)
theorem aRP (a b:Int) (w:World):Calls Tryz.prog 84 #[.agg #[vI a,vI b]] w fun e w'=>e = .returned (vB (onB a b)) /\ Fr nF_ w w':=by
  refine beg Tryz.func84 rfl rfl [(0,.agg #[vI a,vI b])] rfl rfl fun Z hZ=>?_;have hM:=Mm.nil nF_ w;refine aAp 0 0 1 [] (cs:=#[vI a,vI b]) (T:=61) (v:=fun b=>vP b 0) f0 hM fun aa w1 hM=>seg 1 4 [(6,vB (decide (0<=a)))] (fc (ldm 3 0 0 hM rfl rfl) f0) ?_;cases h17:(decide (0<=a))
  ·exact rt1 2 (vB false) rfl f0 (hZ _ _ ⟨by unfold onB;simp [h17],hM.fr⟩)
  refine seg 1 9 [(11,vB (decide (a<1048576)))] (fc (ldm 3 0 0 hM rfl rfl) f0) ?_;cases h18:(decide (a<1048576))
  ·exact rt1 2 (vB false) rfl f0 (hZ _ _ ⟨by unfold onB;simp [h17,h18],hM.fr⟩)
  refine seg 1 14 [(16,vB (decide (0<=b)))] (fc (ldm 3 0 1 hM rfl rfl) f0) ?_;cases h19:(decide (0<=b))
  ·exact rt1 2 (vB false) rfl f0 (hZ _ _ ⟨by unfold onB;simp [h17,h18,h19],hM.fr⟩)
  exact rt1 2 (vB (decide (b<1048576))) rfl (fc (ldm 3 0 1 hM rfl rfl) f0) (hZ _ _ ⟨by unfold onB;simp [h17,h18,h19],hM.fr⟩)
def aI1:Bys->List Tag->Bool
  | _,[]=>true
  | k,t::l=>aA3 t.1&&blt k t.1&&(!(t.2==[]))&&decide ((t.2.length:Int)<=200)&&aI1 t.1 l
def aBr (l:List Tag):Bool:=aI1 [] l&&decide ((l.length:Int)<=60)
abbrev A81 (Z:Ending->World->Prop):=AtO Tryz.prog (aAf Tryz.f81) (aAo (bodyPost Tryz.prog Tryz.f81 Z)) [] 39
theorem aCO {w:World}{v:Value}{l:List Tag}(hl:TgV w v l) (hb:∀ t∈l,B63 t.1 /\ B63 t.2):Calls Tryz.prog 81 #[v] w fun e w'=>e = .returned (vB (aBr l)) /\ Fr nF_ w w':=by
  obtain ⟨p0,cp0,hp0,sp0⟩:=hl.op;subst hp0;have bp0:=sp0.bnd;refine beg Tryz.func81 rfl rfl [(0,vL p0 l.length cp0)] rfl rfl fun Z hZ=>?_;have hM:=Mm.nil nF_ w;refine seg 3 0 [(3,vS []),(6,vL p0 l.length cp0),(7,vI (l.length:Int)),(8,vI 0)] f0 ?_
  have ab:∀ (aa:Nat) (i:Nat) (k:Bys) (w2:World),i<=l.length->aI1 [] l=aI1 k (l.drop i)->Mm nF_ w w2 []->aa=l.length-i->A81 Z (some (3,0)) [(8,vI (i:Int)),(7,vI (l.length:Int)),(6,vL p0 l.length cp0),(3,vS k),(0,vL p0 l.length cp0)] w2:=by
   refine aA8 fun aa ac i k w2 hi hv hM ag=>seg 3 1 [(9,vB (decide ((i:Int)<(l.length:Int))))] f0 ?_;cases h23:(decide ((i:Int)<(l.length:Int)))
   ·have ad:=df h23;exact rt1 2 (vB (decide ((l.length:Int)<=60))) rfl f0 (hZ _ _ ⟨by unfold aBr;rw [hv,Gi_ (by omega)];rfl,hM.fr⟩)
   have ad:=dt h23;obtain ⟨y,hy,ah,ai,q24,ae⟩:=sp0.el (i:=i) (by omega);refine aCl 4 2 5 [(11,.agg #[vS y.1,vS y.2])] [] 106 (.agg #[vS y.1,vS y.2]) (fc (ix 62 cp0 q24 (gl hy)) (fc (la0 106 hM ae) f0)) hM fun aj w1 hM=>aAq 5 2 14 [(13,vS y.1)] (fc (ldm 9 0 0 hM rfl rfl) f0) hM (aBk (hb _ (gm hy)).1 _) fun w1 hM=>seg 5 5 [(16,vB (!(aA3 y.1)))] f0 ?_;cases h26:(aA3 y.1)
   ·exact rt1 2 (vB false) rfl f0 (hZ _ _ ⟨by unfold aBr;rw [hv,gd hy,aI1];simp [h26];try omega,hM.fr⟩)
   refine seg 5 11 [(22,vB (!(blt k y.1)))] (fc (ldm 9 0 0 hM rfl rfl) (fc (sle 9 y.1 k) f0)) ?_;cases h27:(blt k y.1)
   ·exact rt1 2 (vB false) rfl f0 (hZ _ _ ⟨by unfold aBr;rw [hv,gd hy,aI1];simp [h26,h27];try omega,hM.fr⟩)
   refine seg 5 16 [(27,vB (y.2==[]))] (fc (ldm 9 0 1 hM rfl rfl) (fc (seq 9 y.2 []) f0)) ?_;cases h28:(y.2==[])
   rotate_left
   ·exact rt1 2 (vB false) rfl f0 (hZ _ _ ⟨by unfold aBr;rw [hv,gd hy,aI1];simp [h26,h27,h28];try omega,hM.fr⟩)
   refine seg 5 21 [(32,vB (decide (200<(y.2.length:Int))))] (fc (ldm 9 0 1 hM rfl rfl) (fc (aCA 9 y.2) f0)) ?_;cases h29:(decide (200<(y.2.length:Int)))
   ·have af:=df h29;refine seg 3 0 [(3,vS y.1),(8,vI ((i:Int)+1))] (fc (ldm 9 0 0 hM rfl rfl) (fc (aAe (i:Int) 1 u3_) f0)) (aAb _ (ac _ (by omega) (i+1) y.1 _ (gl hy) (by rw [hv,gd hy,aI1];simp [h26,h27,h28,h29];omega) (hM.pick []) rfl))
   have af:=dt h29;exact rt1 2 (vB false) rfl f0 (hZ _ _ ⟨by unfold aBr;rw [hv,gd hy,aI1];simp [h26,h27,h28,h29];try omega,hM.fr⟩)
  exact aAb _ (ab _ 0 [] _ (Gg_ _) rfl hM rfl)
def aHA (S:List Bys):Value->Option Value
  | .string s=>if s.toList∈S then some (vB true) else none
  | _=>none
theorem aDE (S:List Bys) (x:Bys):((aHA S) (vS x)).getD (vB false)=vB (S.contains x):=by
  show (if (ofL x).toList∈S then some (vB true) else none).getD (vB false)=_;rw [aA5]
  by_cases h:x∈S<;>simp [h]
theorem aBJ (S:List Bys) (x:Bys):upd (aHA S) (vS x) (vB true)=aHA (S++[x]):=by
  funext v
  by_cases h:v=vS x
  · subst h;rw [aCt];show _=if (ofL x).toList∈S++[x] then some (vB true) else none
    rw [aA5,if_pos (by simp)]
  · rw [aBG _ h]
    cases v with
    | string s =>
      show (if s.toList∈S then some (vB true) else none)=if s.toList∈S++[x] then some (vB true) else none
      have:s.toList≠x:=fun e=>h (by rw [←e,vS,aPx])
      by_cases h2:s.toList∈S<;>simp [h2,this]
    | _=>rfl
theorem aMf:aHA []=fun _=>none:=by
  funext v;cases v<;>simp [aHA]
theorem aKE (w:World):(zeroValue 4).run Tryz.prog w = .ok (vB false) w:=by kernel_rfl
def aCS (kind:Int) (last:Bys) (S:List Bys) (s:Bys):Bool:=((kind==2)&&(s==last))||((kind==3)&&S.contains s) || !(aA3 s)
def aBF (o:Ob) (i:Nat):Bool:=match o.refs[i]? with
  | some s=>aCS o.kind ((o.refs.take i).getLast?.getD []) (o.refs.take i) s
  | none=>false
theorem aKF {w:World}{G:Nat->Prop}{bo bl bs bm n:Nat}{b:ObR}{last:Bys}{S:List Bys}{s:Bys}(hs:B63 s) (hM0:Mm G w w [bk bo #[vS b.o.id,vI b.o.kind,vI b.o.x,vI b.o.y,vL b.pr b.o.refs.length b.cr,vL b.pt b.o.tags.length b.ct] 64,bk bl #[vS last] 9,bk bs #[.map (some bm)] 149,mp Tryz.prog 9 bm n (aHA S)]):Calls Tryz.prog 83 #[vS s,vP bo 0,vP bl 0,vP bs 0] w fun e w'=>e = .returned (vB (aCS b.o.kind last S s)) /\ Mm G w w' [bk bo #[vS b.o.id,vI b.o.kind,vI b.o.x,vI b.o.y,vL b.pr b.o.refs.length b.cr,vL b.pt b.o.tags.length b.ct] 64,bk bl #[vS s] 9,bk bs #[.map (some bm)] 149,mp Tryz.prog 9 bm (n+1) (aHA (S++[s]))]:=by
  refine beg Tryz.func83 rfl rfl [(0,vS s),(1,vP bo 0),(2,vP bl 0),(3,vP bs 0)] rfl rfl fun Z hZ=>?_;have hM:=hM0;refine seg 1 4 [(10,vB (b.o.kind==2))] (fc (ldm 3 0 1 hM rfl rfl) f0) ?_;cases h30:(b.o.kind==2)
  ·refine seg 1 13 [(15,vB false),(19,vB (b.o.kind==3))] (fc (ldm 3 0 1 hM rfl rfl) f0) ?_;cases h31:(b.o.kind==3)
   ·refine mup 2 3 [(6,vB false),(25,.map (some bm)),(26,vS s),(27,vS s)] 149 3 (vS s) (vB true) (fc (ldm 149 2 0 hM rfl rfl) f0) hM rfl aD5 u149_ (aD6 hs) fun w1 hM=>?_;rw [aBJ] at hM;refine stm 2 4 [] 9 1 0 (vS s) f0 hM rfl fun w1 hM=>aAq 3 3 31 [(29,vB false),(30,vS s)] f0 hM (aBk hs _) fun w1 hM=>rt1 5 (vB (!(aA3 s))) rfl f0 (hZ _ _ ⟨by unfold aCS;simp only [h30,h31]<;>rfl,hM⟩)
   refine mup 2 3 [(6,vB (S.contains s)),(25,.map (some bm)),(26,vS s),(27,vS s)] 149 3 (vS s) (vB true) (fc (ldm 149 2 0 hM rfl rfl) (fc (rz2 (lk 149 3 (vS s) (vB false) hM rfl aD5 u149_ (aD6 hs) (aKE _)) (aDE S s)) (fc (ldm 149 2 0 hM rfl rfl) f0))) hM rfl aD5 u149_ (aD6 hs) fun w1 hM=>?_;rw [aBJ] at hM;refine stm 2 4 [] 9 1 0 (vS s) f0 hM rfl fun w1 hM=>seg 3 2 [(29,vB (S.contains s))] f0 ?_;cases h32:(S.contains s)
   ·refine aAq 3 3 31 [(30,vS s)] f0 hM (aBk hs _) fun w1 hM=>rt1 5 (vB (!(aA3 s))) rfl f0 (hZ _ _ ⟨by unfold aCS;simp only [h30,h31,h32]<;>rfl,hM⟩)
   exact rt1 5 (vB true) rfl f0 (hZ _ _ ⟨by unfold aCS;simp only [h30,h31,h32]<;>rfl,hM⟩)
  refine seg 1 9 [(15,vB (s==last))] (fc (ldm 9 1 0 hM rfl rfl) (fc (seq 9 s last) f0)) ?_;cases h33:(s==last)
  rotate_left
  ·refine mup 2 3 [(6,vB true),(25,.map (some bm)),(26,vS s),(27,vS s)] 149 3 (vS s) (vB true) (fc (ldm 149 2 0 hM rfl rfl) f0) hM rfl aD5 u149_ (aD6 hs) fun w1 hM=>?_;rw [aBJ] at hM;refine stm 2 4 [] 9 1 0 (vS s) f0 hM rfl fun w1 hM=>rt1 5 (vB true) rfl f0 (hZ _ _ ⟨by unfold aCS;simp only [h30,h33]<;>rfl,hM⟩)
  refine seg 1 13 [(19,vB (b.o.kind==3))] (fc (ldm 3 0 1 hM rfl rfl) f0) ?_;cases h34:(b.o.kind==3)
  ·refine mup 2 3 [(6,vB false),(25,.map (some bm)),(26,vS s),(27,vS s)] 149 3 (vS s) (vB true) (fc (ldm 149 2 0 hM rfl rfl) f0) hM rfl aD5 u149_ (aD6 hs) fun w1 hM=>?_;rw [aBJ] at hM;refine stm 2 4 [] 9 1 0 (vS s) f0 hM rfl fun w1 hM=>aAq 3 3 31 [(29,vB false),(30,vS s)] f0 hM (aBk hs _) fun w1 hM=>rt1 5 (vB (!(aA3 s))) rfl f0 (hZ _ _ ⟨by unfold aCS;simp only [h30,h33,h34]<;>rfl,hM⟩)
  refine mup 2 3 [(6,vB (S.contains s)),(25,.map (some bm)),(26,vS s),(27,vS s)] 149 3 (vS s) (vB true) (fc (ldm 149 2 0 hM rfl rfl) (fc (rz2 (lk 149 3 (vS s) (vB false) hM rfl aD5 u149_ (aD6 hs) (aKE _)) (aDE S s)) (fc (ldm 149 2 0 hM rfl rfl) f0))) hM rfl aD5 u149_ (aD6 hs) fun w1 hM=>?_;rw [aBJ] at hM;refine stm 2 4 [] 9 1 0 (vS s) f0 hM rfl fun w1 hM=>seg 3 2 [(29,vB (S.contains s))] f0 ?_;cases h35:(S.contains s)
  ·refine aAq 3 3 31 [(30,vS s)] f0 hM (aBk hs _) fun w1 hM=>rt1 5 (vB (!(aA3 s))) rfl f0 (hZ _ _ ⟨by unfold aCS;simp only [h30,h33,h34,h35]<;>rfl,hM⟩)
  exact rt1 5 (vB true) rfl f0 (hZ _ _ ⟨by unfold aCS;simp only [h30,h33,h34,h35]<;>rfl,hM⟩)
def aAU (o:Ob):Bool:=(List.range o.refs.length).all fun i => !aBF o i
def aA6 (o:Ob):Bool:=(!(aBU o.kind==[]))&&aA3 o.id&&aBr o.tags&&(!decide ((o.refs.length:Int)<aE0 o.kind))&&(!decide (2000<(o.refs.length:Int)))&&aAU o &&
  (bif o.kind==1 then ((o.refs.length:Int)==0)&&onB o.x o.y else bif o.kind==5 then ((o.refs.length:Int)==3)&&((o.x==0)&&(o.y==0)) else ((o.x==0)&&(o.y==0)))
theorem aOl {k:Int}(h:(aBU k==[])=false):¬ k<0 /\ ¬ 6<=k:=by
  unfold aBU at h
  by_cases e:k<0∨6<=k
  · rw [if_pos e] at h;simp at h
  · exact ⟨fun z=>e (.inl z),fun z=>e (.inr z)⟩
theorem aKi {L:List Bys}{i:Nat}{x:Bys}(h:L[i]?=some x):((L.take (i+1)).getLast?.getD [])=x:=by rw [gt_ h];simp
theorem peq (T:TypeId) (a b c d:Int) {w:World}(hT:T=61:=by rfl):Ft.ok Tryz.prog w (.g2 (fun x y => .binOp .eql T x y T) (.agg #[vI a,vI b]) (.agg #[vI c,vI d]) (vB ((a==c)&&(b==d)))):=fun o ρ x y ho hx hy=>by
  subst hT;simp [execOp,ho,hx,hy,go_sem]
  by_cases h1:a=c<;>by_cases h2:b=d<;>simp [h1,h2]
theorem aUa {w:World}{B:Nat}{G:Nat->Prop}{bo bl bs bm:Nat}{b:ObR}(hs:SrcB stL 1 w B b.pr b.cr b.o.refs) (hB:ObB b.o) (hG:∀ k,G k->B<=k) (hGm:∀ k,k=bo∨k=bl∨k=bs∨k=bm->G k)
    (hM:Mm G w w [bk bo (obL b).toArray 64,bk bl #[vS []] 9,bk bs #[.map (some bm)] 149,mp Tryz.prog 9 bm 0 (aHA [])]) :
    Calls Tryz.prog 54 #[vL b.pr b.o.refs.length b.cr,.func (.func 83) #[] #[vP bo 0,vP bl 0,vP bs 0]] w fun e w'=>e = .returned (vB (!(aAU b.o))) /\ ∃ n last S,Mm G w w' [bk bo (obL b).toArray 64,bk bl #[vS last] 9,bk bs #[.map (some bm)] 149,mp Tryz.prog 9 bm n (aHA S)]:=by
  refine (aK0 hs hG (enters_of Tryz.func83 (by kernel_rfl) rfl) (fun i w'=>Mm G w w' [bk bo (obL b).toArray 64,bk bl #[vS ((b.o.refs.take i).getLast?.getD [])] 9,bk bs #[.map (some bm)] 149,mp Tryz.prog 9 bm i (aHA (b.o.refs.take i))]) (aBF b.o) hM fun i x w1 hx hq hI f1=>?_).mono fun e w' h=>?_
  · refine (aKF (hB.refs x (gm hx)) (hI.re fun e he k hk=>hGm k ?_)).mono fun e w2 h=>⟨?_,?_,h.2.fr⟩
    · simp only [Gj_,List.not_mem_nil,or_false] at he
      rcases he with rfl | rfl | rfl | rfl
      · exact .inl hk
      · exact .inr (.inl hk)
      · exact .inr (.inr (.inl hk))
      · exact .inr (.inr (.inr hk))
    · rw [h.1];unfold aBF;rw [hx]
    · have:=hI.tr h.2
      rw [aKi hx,gt_ hx];exact this
  · obtain ⟨⟨z,h1,h2⟩,h3⟩:=h
    subst h1
    have key:∀ i,i<b.o.refs.length->aBF b.o i=true->aAU b.o=false:=fun i hi hw=>by
      unfold aAU;rw [←Bool.not_eq_true,List.all_eq_true];intro h;have:=h i (List.mem_range.2 hi);rw [hw] at this;cases this
    cases h2 with
    | none hq hI=>exact ⟨by
        rw [show aAU b.o=true from List.all_eq_true.2 fun i hi=>by rw [hq i (List.mem_range.1 hi)];rfl];rfl,_,_,_,hI⟩
    | some i hi hw hq hI=>exact ⟨by rw [key i hi hw,decide_eq_true (by omega)];rfl,_,_,_,hI⟩
theorem aKK {w:World}{b:ObR}(hb:ObIn w b):Calls Tryz.prog 49 #[vA (obL b)] w fun e w'=>e = .returned (vB (aA6 b.o)) /\ Fr nF_ w w':=by
  refine beg Tryz.func49 rfl rfl [(0,.agg #[vS b.o.id,vI b.o.kind,vI b.o.x,vI b.o.y,vL b.pr b.o.refs.length b.cr,vL b.pt b.o.tags.length b.ct])] rfl rfl fun Z hZ=>?_;have hM:=Mm.nil nF_ w;refine aAp 0 0 1 [] (cs:=#[vS b.o.id,vI b.o.kind,vI b.o.x,vI b.o.y,vL b.pr b.o.refs.length b.cr,vL b.pt b.o.tags.length b.ct]) (T:=64) (v:=fun b=>vP b 0) f0 hM fun ab w1 hM=>seg 1 0 [] f0 ?_;cases h37:((aBU b.o.kind)==[])
  rotate_left
  ·refine drc [(36,vB true)] hM (fun w5 hM=>(fc (ldm 3 0 1 hM rfl rfl) (fc (tcl (aCT b.o.kind _)) (fc (rz (seq 9 (aBU b.o.kind) []) h37) f0)))) fun w5 hM=>rt1 2 (vB false) rfl f0 (hZ _ _ ⟨by unfold aA6;simp only [h37]<;>rfl,hM.fr⟩)
  cases h38:(aA3 b.o.id)
  ·refine drc [(36,vB true)] hM (fun w5 hM=>(fc (ldm 3 0 1 hM rfl rfl) (fc (tcl (aCT b.o.kind _)) (fc (rz (seq 9 (aBU b.o.kind) []) h37) (fc (ldm 9 0 0 hM rfl rfl) (fc (rzc (tcl (aBk hb.bnd.id _)) h38) f0)))))) fun w5 hM=>rt1 2 (vB false) rfl f0 (hZ _ _ ⟨by unfold aA6;simp only [h37,h38]<;>rfl,hM.fr⟩)
  cases h39:(aBr b.o.tags)
  ·refine drc [(36,vB true)] hM (fun w5 hM=>(fc (ldm 3 0 1 hM rfl rfl) (fc (tcl (aCT b.o.kind _)) (fc (rz (seq 9 (aBU b.o.kind) []) h37) (fc (ldm 9 0 0 hM rfl rfl) (fc (rzc (tcl (aBk hb.bnd.id _)) h38) (fc (ldm 62 0 5 hM rfl rfl) (fc (rzc (tcl (aCO (hb.tags.src.fr hM.fr) hb.bnd.tags)) h39) f0)))))))) fun w5 hM=>rt1 2 (vB false) rfl f0 (hZ _ _ ⟨by unfold aA6;simp only [h37,h38,h39]<;>rfl,hM.fr⟩)
  cases h40:(decide ((b.o.refs.length:Int)<(aE0 b.o.kind)))
  rotate_left
  ·refine drc [(36,vB true)] hM (fun w5 hM=>(fc (ldm 3 0 1 hM rfl rfl) (fc (tcl (aCT b.o.kind _)) (fc (rz (seq 9 (aBU b.o.kind) []) h37) (fc (ldm 9 0 0 hM rfl rfl) (fc (rzc (tcl (aBk hb.bnd.id _)) h38) (fc (ldm 62 0 5 hM rfl rfl) (fc (rzc (tcl (aCO (hb.tags.src.fr hM.fr) hb.bnd.tags)) h39) (fc (ldm 28 0 4 hM rfl rfl) (fc (ldm 3 0 1 hM rfl rfl) (fc (tcl (aHb b.o.kind (aOl h37).1 (aOl h37).2 _)) (fc (tv 29 h40) f0)))))))))))) fun w5 hM=>rt1 2 (vB false) rfl f0 (hZ _ _ ⟨by unfold aA6;simp only [h37,h38,h39,h40]<;>rfl,hM.fr⟩)
  refine drc [(36,vB (decide (2000<(b.o.refs.length:Int))))] hM (fun w5 hM=>(fc (ldm 3 0 1 hM rfl rfl) (fc (tcl (aCT b.o.kind _)) (fc (rz (seq 9 (aBU b.o.kind) []) h37) (fc (ldm 9 0 0 hM rfl rfl) (fc (rzc (tcl (aBk hb.bnd.id _)) h38) (fc (ldm 62 0 5 hM rfl rfl) (fc (rzc (tcl (aCO (hb.tags.src.fr hM.fr) hb.bnd.tags)) h39) (fc (ldm 28 0 4 hM rfl rfl) (fc (ldm 3 0 1 hM rfl rfl) (fc (tcl (aHb b.o.kind (aOl h37).1 (aOl h37).2 _)) (fc (tv 29 h40) (fc (ldm 28 0 4 hM rfl rfl) f0))))))))))))) fun w5 hM=>?_;cases h41:(decide (2000<(b.o.refs.length:Int)))
  rotate_left
  ·exact rt1 2 (vB false) rfl f0 (hZ _ _ ⟨by unfold aA6;simp only [h37,h38,h39,h40,h41]<;>rfl,hM.fr⟩)
  refine aHF 3 0 37 [] 9 f0 hM fun aa w1 hM=>aCl 3 1 3 [] [] 149 (.map (some aa)) f0 hM fun ac w1 hM=>aCl 4 0 4 [] [] 9 (vS []) f0 hM fun ad w1 hM=>?_;have hM4:Mm nF_ w _ [bk ab (obL b).toArray 64,bk ad #[vS []] 9,bk ac #[.map (some aa)] 149,mp Tryz.prog 9 aa 0 (aHA [])]:=(hM.pick [0,3,2,1]).cast (by rw [aMf];rfl);refine cal 6 3 42 [(40,vL b.pr b.o.refs.length b.cr),(41,.func (.func 83) #[] #[vP ab 0,vP ad 0,vP ac 0])] (K:=fun u w8=>u=vB (!(aAU b.o)) /\ ∃ n last S,Mm (BlM [bk ab (obL b).toArray 64,bk ad #[vS []] 9,bk ac #[.map (some aa)] 149,mp Tryz.prog 9 aa 0 (aHA [])]) _ w8 [bk ab (obL b).toArray 64,bk ad #[vS last] 9,bk ac #[.map (some aa)] 149,mp Tryz.prog 9 aa n (aHA S)]) (fc (ldm 28 0 4 hM rfl rfl) f0) ((aUa (hb.refs.b hM.fr) hb.bnd (fun k ⟨e,he,hk⟩=>hM4.ge he hk) (fun k h=>by rcases h with rfl | rfl | rfl | rfl;exact ⟨_,.head _,rfl⟩;exact ⟨_,.tail _ (.head _),rfl⟩;exact ⟨_,.tail _ (.tail _ (.head _)),rfl⟩;exact ⟨_,.tail _ (.tail _ (.tail _ (.head _))),rfl⟩) (hM4.re fun e he k hk=>⟨e,he,hk⟩)).mono fun e w9 h=>⟨_,h.1,rfl,h.2⟩) fun u w1 ⟨hu,n1,l1,S1,hM5⟩=>?_;subst hu;have hM:=hM4.call (A:=[]) hM5 (fun _ _ h=>h);cases h45:(aAU b.o)
  ·exact rt1 2 (vB false) rfl f0 (hZ _ _ ⟨by unfold aA6;simp only [h37,h38,h39,h40,h41,h45]<;>rfl,hM.fr⟩)
  refine seg 9 2 [(44,vI b.o.kind),(45,vB (b.o.kind==1))] (fc (ldm 3 0 1 hM rfl rfl) f0) ?_;cases h46:(b.o.kind==1)
  rotate_left
  ·refine seg 10 5 [(51,vB ((b.o.refs.length:Int)==0))] (fc (ldm 28 0 4 hM rfl rfl) f0) ?_;cases h49:((b.o.refs.length:Int)==0)
   ·exact rt1 2 (vB false) rfl f0 (hZ _ _ ⟨by unfold aA6;simp only [h37,h38,h39,h40,h41,h45,h46,h49]<;>rfl,hM.fr⟩)
   refine aAq 10 7 54 [(53,.agg #[vI b.o.x,vI b.o.y])] (fc (lam 61 0 2 2 hM rfl) f0) hM (aRP b.o.x b.o.y _) fun w1 hM=>rt1 2 (vB (onB b.o.x b.o.y)) rfl f0 (hZ _ _ ⟨by unfold aA6;simp only [h37,h38,h39,h40,h41,h45,h46,h49]<;>rfl,hM.fr⟩)
  refine seg 11 2 [(56,vB (b.o.kind==5))] f0 ?_;cases h47:(b.o.kind==5)
  ·exact rt1 2 (vB ((b.o.x==0)&&(b.o.y==0))) rfl (fc (lam 61 0 2 2 hM rfl) (fc (peq 61 b.o.x b.o.y 0 0) f0)) (hZ _ _ ⟨by unfold aA6;simp only [h37,h38,h39,h40,h41,h45,h46,h47]<;>rfl,hM.fr⟩)
  refine seg 12 5 [(62,vB ((b.o.refs.length:Int)==3))] (fc (ldm 28 0 4 hM rfl rfl) f0) ?_;cases h48:((b.o.refs.length:Int)==3)
  ·exact rt1 2 (vB false) rfl f0 (hZ _ _ ⟨by unfold aA6;simp only [h37,h38,h39,h40,h41,h45,h46,h47,h48]<;>rfl,hM.fr⟩)
  exact rt1 2 (vB ((b.o.x==0)&&(b.o.y==0))) rfl (fc (lam 61 0 2 2 hM rfl) (fc (peq 61 b.o.x b.o.y 0 0) f0)) (hZ _ _ ⟨by unfold aA6;simp only [h37,h38,h39,h40,h41,h45,h46,h47,h48]<;>rfl,hM.fr⟩)
def aIW:Bys->List Ob->Bool
  | _,[]=>true
  | k,o::l=>aA6 o&&blt k o.id&&aIW o.id l
def aAc (l:List Ob):Bool:=aIW [] l&&decide ((l.length:Int)<=1000000)
abbrev A20 (Z:Ending->World->Prop):=AtO Tryz.prog (aAf Tryz.f20) (aAo (bodyPost Tryz.prog Tryz.f20 Z)) [] 29
theorem aEu {w:World}{v:Value}{l:List ObR}(hm:aCq w v l):Calls Tryz.prog 20 #[.agg #[v]] w fun e w'=>e = .returned (vB (aAc (aAa l))) /\ Fr nF_ w w':=by
  have hm0:=hm;obtain ⟨hs0,hob⟩:=hm0;obtain ⟨p0,cp0,hp0,sp0⟩:=hs0.op;subst hp0;have bp0:=sp0.bnd;refine beg Tryz.func20 rfl rfl [(0,.agg #[vL p0 l.length cp0])] rfl rfl fun Z hZ=>?_;have hM:=Mm.nil nF_ w;refine aAp 0 0 1 [] (cs:=#[vL p0 l.length cp0]) (T:=24) (v:=fun b=>vP b 0) f0 hM fun b1 w1 hM=>seg 3 0 [(3,vS []),(7,vL p0 l.length cp0),(8,vI (l.length:Int)),(9,vI 0)] (fc (ldm 22 0 0 hM rfl rfl) f0) ?_
  have lp2:∀ (m4:Nat) (i:Nat) (k:Bys) (w2:World),i<=l.length->aIW [] (aAa l)=aIW k ((aAa l).drop i)->Mm nF_ w w2 [bk b1 #[vL p0 l.length cp0] 24]->m4=l.length-i->A20 Z (some (3,0)) [(9,vI (i:Int)),(8,vI (l.length:Int)),(7,vL p0 l.length cp0),(3,vS k),(1,vP b1 0)] w2:=by
   refine aA8 fun m4 ih3 i k w2 hi hv hM hm4=>seg 3 1 [(10,vB (decide ((i:Int)<(l.length:Int))))] f0 ?_;cases h5:(decide ((i:Int)<(l.length:Int)))
   ·have rh5:=df h5;exact rt1 2 (vB (decide ((l.length:Int)<=1000000))) rfl (fc (ldm 22 0 0 hM rfl rfl) f0) (hZ _ _ ⟨by unfold aAc;rw [hv,Gi_ (by rw [aA2];omega),aA2];rfl,hM.fr⟩)
   have rh5:=dt h5;obtain ⟨y,hy,g6,o6,q6,r6⟩:=sp0.el (i:=i) (by omega);refine aCl 4 2 5 [(12,.agg #[vS y.o.id,vI y.o.kind,vI y.o.x,vI y.o.y,vL y.pr y.o.refs.length y.cr,vL y.pt y.o.tags.length y.ct])] [] 64 (.agg #[vS y.o.id,vI y.o.kind,vI y.o.x,vI y.o.y,vL y.pr y.o.refs.length y.cr,vL y.pt y.o.tags.length y.ct]) (fc (ix 22 cp0 q6 (gl hy)) (fc (la0 64 hM r6) f0)) hM fun b7 w1 hM=>aAq 5 1 14 [(13,.agg #[vS y.o.id,vI y.o.kind,vI y.o.x,vI y.o.y,vL y.pr y.o.refs.length y.cr,vL y.pt y.o.tags.length y.ct])] (fc (lam 64 1 0 6 hM rfl) f0) hM (aKK ((hob _ (gm hy)).fr hM.fr)) fun w1 hM=>seg 5 4 [(16,vB (!(aA6 y.o)))] f0 ?_;cases h8:(aA6 y.o)
   ·exact rt1 2 (vB false) rfl f0 (hZ _ _ ⟨by unfold aAc;rw [hv,gd (aAn hy),aIW];simp only [h8]<;>rfl,hM.fr⟩)
   refine seg 5 9 [(21,vB (!(blt k y.o.id)))] (fc (ldm 9 1 0 hM rfl rfl) (fc (sle 9 y.o.id k) f0)) ?_;cases h9:(blt k y.o.id)
   ·exact rt1 2 (vB false) rfl f0 (hZ _ _ ⟨by unfold aAc;rw [hv,gd (aAn hy),aIW];simp only [h8,h9]<;>rfl,hM.fr⟩)
   refine seg 3 0 [(3,vS y.o.id),(9,vI ((i:Int)+1))] (fc (ldm 9 1 0 hM rfl rfl) (fc (aAe (i:Int) 1 u3_) f0)) (aAb _ (ih3 _ (by omega) (i+1) y.o.id _ (gl hy) (by rw [hv,gd (aAn hy),aIW];simp only [h8,h9];rfl) (hM.pick [0]) rfl))
  exact aAb _ (lp2 _ 0 [] _ (Gg_ _) rfl hM rfl)
theorem aUX (v c:Value):(#[v]++#[c]:Array Value)=#[v,c]:=rfl
def aAm (l:List Ob) (id:Bys):Int:=match l.findIdx? (fun o=>o.id==id) with
  | some i=>(i:Int)
  | none => -1
def aVV (l:List ObR) (id:Bys) (i:Nat):Bool:=match l[i]? with
  | some y=>y.o.id==id
  | none=>false
theorem aU9 {l:List ObR}{id:Bys}{I:Nat->World->Prop}{w:World}{z:Int}(h:Fst l (aVV l id) I w z):z=aAm (aAa l) id:=by
  unfold aAm
  have hat:∀ i (hi:i<l.length),aVV l id i=(((aAa l)[i]'(by rw [aA2];exact hi)).id==id):=fun i hi=>by
    unfold aVV aAa;rw [Gb_ hi];simp
  cases h with
  | none hq _ =>
    rw [List.findIdx?_eq_none_iff.2 fun o ho=>?_];obtain ⟨i,hi,rfl⟩:=List.mem_iff_getElem.1 ho;have:=hq i (by rw [←aA2];exact hi);rw [hat i (by rw [←aA2];exact hi)] at this;exact this
  | some i hi hw hq _ =>
    rw [List.findIdx?_eq_some_iff_getElem.2 ⟨by rw [aA2];exact hi,by rw [←hat i hi];exact hw,fun j hj=>by rw [←hat j (by omega),hq j hj];simp⟩]
theorem aL3 {w:World}{bi:Nat}{id:Bys}(b:ObR) (hc:w.heap[bi]?=some (.cells #[vS id] 9 (0,0))):Calls Tryz.prog 89 #[vA (obL b),vP bi 0] w fun e w'=>e = .returned (vB (b.o.id==id)) /\ Fr nF_ w w':=by
  refine beg Tryz.func89 rfl rfl [(0,.agg #[vS b.o.id,vI b.o.kind,vI b.o.x,vI b.o.y,vL b.pr b.o.refs.length b.cr,vL b.pt b.o.tags.length b.ct]),(1,vP bi 0)] rfl rfl fun Z hZ=>?_;have hM:=Mm.nil nF_ w;refine aAp 0 0 2 [] (cs:=#[vS b.o.id,vI b.o.kind,vI b.o.x,vI b.o.y,vL b.pr b.o.refs.length b.cr,vL b.pt b.o.tags.length b.ct]) (T:=64) (v:=fun b=>vP b 0) f0 hM fun aa w1 hM=>rt1 3 (vB (b.o.id==id)) rfl (fc (ldm 9 0 0 hM rfl rfl) (fc (ld0 9 hM (bx hc 0 rfl)) (fc (seq 9 b.o.id id) f0))) (hZ _ _ ⟨rfl,hM.fr⟩)
theorem aIj {w:World}{v:Value}{l:List ObR}(hm:aCq w v l) (id:Bys):Calls Tryz.prog 53 #[.agg #[v],vS id] w fun e w'=>e = .returned (vI (aAm (aAa l) id)) /\ Fr nF_ w w':=by
  have hm0:=hm;obtain ⟨hs0,hob⟩:=hm0;obtain ⟨p0,cp0,hp0,sp0⟩:=hs0.op;subst hp0;refine beg Tryz.func53 rfl rfl [(0,.agg #[vL p0 l.length cp0]),(1,vS id)] rfl rfl fun Z hZ=>?_;have hM:=Mm.nil nF_ w;refine aAp 0 0 2 [] (cs:=#[vL p0 l.length cp0]) (T:=24) (v:=fun b=>vP b 0) f0 hM fun ab w1 hM=>aAp 0 1 3 [] (cs:=#[vS id]) (T:=9) (v:=fun b=>vP b 0) f0 hM fun aa w1 hM=>?_;have hc1:w1.heap[aa]?=some (.cells #[vS id] 9 (0,0)):=hM.get 1 rfl;refine cal 1 3 8 [(6,vL p0 l.length cp0),(7,.func (.func 89) #[] #[vP aa 0])] (K:=fun u w8=>u=vI (aAm (aAa l) id) /\ Fr nF_ _ w8) (fc (ldm 22 0 0 hM rfl rfl) f0) ((aNE (sp0.b hM.fr) (fun _ h=>h.elim) (enters_of Tryz.func89 (by kernel_rfl) rfl) (fun _ _=>True) (aVV l id) trivial (fun i x w9 hx _ _ f9=>by rw [aUX];exact (aL3 x (f9.obj hc1 (fun z=>z))).mono fun e w8 h=>⟨by rw [h.1];unfold aVV;rw [hx],trivial,h.2⟩)).mono fun e w9 h=>⟨_,h.1.choose_spec.1,congrArg vI (aU9 h.1.choose_spec.2),h.2⟩) fun u w1 ⟨hu,f1⟩=>?_;subst hu;have hM:=hM.q f1;exact rt1 4 (vI (aAm (aAa l) id)) rfl f0 (hZ _ _ ⟨rfl,hM.fr⟩)
abbrev Pt:=Int×Int
def ptL (p:Pt):List Value:=[vI p.1,vI p.2]
def aBt (p:Pt):Bool := !(decide (2097152<max p.1 p.2)) && !(decide (min p.1 p.2 < -2097152))
def aAP (a b:Pt):Int:=bif aBt a&&aBt b then (b.1-a.1)*(b.1-a.1)+(b.2-a.2)*(b.2-a.2) else 0
theorem aCd {p:Pt}(h:aBt p=true) : -2097152<=p.1 /\ p.1<=2097152 /\ -2097152<=p.2 /\ p.2<=2097152:=by
  unfold aBt at h;simp only [Ga_,Bool.not_eq_true',decide_eq_false_iff_not] at h;omega
theorem aFQ {x:Int}(h1 : -4194304<=x) (h2:x<=4194304):0<=x*x /\ x*x<=17592186044416:=by
  rcases Int.le_total 0 x with h | h
  · have a:=Int.mul_le_mul h2 h2 h (by omega)
    have b:=Int.mul_nonneg h h;exact ⟨b,by omega⟩
  · have a:=Int.mul_le_mul (a := -x) (b := -x) (c:=4194304) (d:=4194304) (by omega) (by omega) (by omega) (by omega)
    have b:=Int.mul_nonneg (a := -x) (b := -x) (by omega) (by omega);rw [Int.neg_mul_neg] at a b;exact ⟨b,by omega⟩
abbrev aYy (Z:Ending->World->Prop):=AtO Tryz.prog (aAf Tryz.f149) (aAo (bodyPost Tryz.prog Tryz.f149 Z)) [] 26
theorem aN9 {w:World}{p:Option Addr}{cap:Nat}{L:List Pt}(hs:SrcP ptL 2 w p cap L):Calls Tryz.prog 149 #[vL p L.length cap] w fun e w'=>e = .returned (vB (L.all aBt)) /\ Fr nF_ w w':=by
  have bb:=hs.bnd;refine beg Tryz.func149 rfl rfl [(0,vL p L.length cap)] rfl rfl fun Z hZ=>?_;have hM:=Mm.nil nF_ w;refine seg 2 0 [(5,vL p L.length cap),(6,vI (L.length:Int)),(7,vI 0)] f0 ?_
  have ab:∀ (aa:Nat) (i:Nat) (w2:World),i<=L.length->L.all aBt=(L.drop i).all aBt->Mm nF_ w w2 []->aa=L.length-i->aYy Z (some (2,0)) [(7,vI (i:Int)),(6,vI (L.length:Int)),(5,vL p L.length cap)] w2:=by
   refine aA8 fun aa ac i w2 hi hv hM af=>seg 2 1 [(8,vB (decide ((i:Int)<(L.length:Int))))] f0 ?_;cases h16:(decide ((i:Int)<(L.length:Int)))
   ·have ad:=df h16;exact rt1 2 (vB true) rfl f0 (hZ _ _ ⟨by rw [hv,aJu (by omega)],hM.fr⟩)
   have ad:=dt h16;obtain ⟨y,hy,ag,ah,q17,ae⟩:=hs.el (i:=i) (by omega);refine aCl 3 2 4 [(10,.agg #[vI y.1,vI y.2])] [] 61 (.agg #[vI y.1,vI y.2]) (fc (ix 248 cap q17 (gl hy)) (fc (la0 61 hM ae) f0)) hM fun ai w1 hM=>seg 4 7 [(17,vB (decide (2097152<(max y.1 y.2))))] (fc (ldm 3 0 0 hM rfl rfl) (fc (ldm 3 0 1 hM rfl rfl) (fc (aVc 3 y.1 y.2) f0))) ?_;cases h19:(decide (2097152<(max y.1 y.2)))
   rotate_left
   ·exact rt1 2 (vB false) rfl f0 (hZ _ _ ⟨by rw [hv,aBf hy];unfold aBt;simp only [h19]<;>rfl,hM.fr⟩)
   refine seg 4 14 [(24,vB (decide ((min y.1 y.2)<(-2097152))))] (fc (ldm 3 0 0 hM rfl rfl) (fc (ldm 3 0 1 hM rfl rfl) (fc (aXt 3 y.1 y.2) f0))) ?_;cases h20:(decide ((min y.1 y.2)<(-2097152)))
   ·refine seg 2 0 [(7,vI ((i:Int)+1))] (fc (aAe (i:Int) 1 u3_) f0) (aAb _ (ac _ (by omega) (i+1) _ (gl hy) (by rw [hv,aBf hy];unfold aBt;simp only [h19,h20];rfl) (hM.pick []) rfl))
   exact rt1 2 (vB false) rfl f0 (hZ _ _ ⟨by rw [hv,aBf hy];unfold aBt;simp only [h19,h20]<;>rfl,hM.fr⟩)
  exact aAb _ (ab _ 0 _ (Gg_ _) rfl hM rfl)
theorem aVT (j:Nat) {w w0:World}{F0:Nat->Prop}{M:List Ent}{b:Nat}{u v:Value}(hM:Mm F0 w0 w M) (hj:M[j]?=some (bk b #[u,v] 225)):(Instr.loadAt 225 (vP b 0)).run Tryz.prog w = .ok (.agg #[u,v]) w:=aAi 225 j hM hj rfl
theorem aQW {a b:Pt}(ha:aBt a=true) (hb:aBt b=true) (w:World):Calls Tryz.prog 150 #[.agg #[vI a.1,vI a.2],.agg #[vI b.1,vI b.2]] w fun e w'=>e = .returned (.agg #[vI (b.1-a.1),vI (b.2-a.2)]) /\ Fr nF_ w w':=by
  refine beg Tryz.func150 rfl rfl [(0,.agg #[vI a.1,vI a.2]),(1,.agg #[vI b.1,vI b.2])] rfl rfl fun Z hZ=>?_;have hM:=Mm.nil nF_ w;have ⟨ha1,ha2,ha3,ha4⟩:=aCd ha;have ⟨hb1,hb2,hb3,hb4⟩:=aCd hb;refine aAp 0 0 2 [] (cs:=#[vI a.1,vI a.2]) (T:=61) (v:=fun b=>vP b 0) f0 hM fun aa w1 hM=>aAp 0 1 3 [] (cs:=#[vI b.1,vI b.2]) (T:=61) (v:=fun b=>vP b 0) f0 hM fun ab w1 hM=>aAp 0 2 4 [] (cs:=#[vI 0,vI 0]) (T:=225) (v:=fun b=>vP b 0) f0 hM fun ac w1 hM=>stm 1 11 [(15,.agg #[vI (b.1-a.1),vI (b.2-a.2)])] 225 2 0 (.agg #[vI (b.1-a.1),vI (b.2-a.2)]) (fc (ldm 3 1 0 hM rfl rfl) (fc (ldm 3 0 0 hM rfl rfl) (fc (aBx b.1 a.1 u3_) (fc (ldm 3 1 1 hM rfl rfl) (fc (ldm 3 0 1 hM rfl rfl) (fc (aBx b.2 a.2 u3_) f0)))))) hM rfl fun w1 hM=>rtc 4 225 rfl (aVT 2 hM rfl) f0 (hZ _ _ ⟨rfl,hM.fr⟩)
theorem aQi {x y:Int}(hx1 : -4194304<=x) (hx2:x<=4194304) (hy1 : -4194304<=y) (hy2:y<=4194304) (w:World):Calls Tryz.prog 151 #[.agg #[vI x,vI y],.agg #[vI x,vI y]] w fun e w'=>e = .returned (vI (x*x+y*y)) /\ Fr nF_ w w':=by
  refine beg Tryz.func151 rfl rfl [(0,.agg #[vI x,vI y]),(1,.agg #[vI x,vI y])] rfl rfl fun Z hZ=>?_;have hM:=Mm.nil nF_ w;have h1:=aFQ hx1 hx2;have h2:=aFQ hy1 hy2;refine aAp 0 0 2 [] (cs:=#[vI x,vI y]) (T:=225) (v:=fun b=>vP b 0) f0 hM fun aa w1 hM=>aAp 0 1 3 [] (cs:=#[vI x,vI y]) (T:=225) (v:=fun b=>vP b 0) f0 hM fun ab w1 hM=>rt1 4 (vI ((x*x)+(y*y))) rfl (fc (ldm 3 0 0 hM rfl rfl) (fc (ldm 3 1 0 hM rfl rfl) (fc (aIx x x u3_) (fc (ldm 3 0 1 hM rfl rfl) (fc (ldm 3 1 1 hM rfl rfl) (fc (aIx y y u3_) (fc (aAe (x*x) (y*y) u3_) f0))))))) (hZ _ _ ⟨rfl,hM.fr⟩)
theorem aKV {α:Type}{f:α->List Value}{c:Nat}{w:World}{b:Nat}{x y:α}{T:TypeId}(hf:∀ x,(f x).length=c) (hc:0<c) (hb:w.heap[b]?=some (.cells ((f x)++(f y)).toArray T (0,0))):SrcP f c w (some ⟨b,0,none⟩) 2 [x,y] :=
  ⟨Gl_ _,by omega,.inr ⟨b,0,rfl,aAl hb,fun i z hz j u hu=>by
    rw [aA1 hb];have hj:=(List.getElem?_eq_some_iff.1 hu).1;rw [hf] at hj
    match i,hz with
    | 0,hz =>
      simp at hz;subst hz;rw [Nat.zero_mul,Nat.zero_add,←Array.getElem?_toList];rw [List.getElem?_append_left (by rw [hf];exact hj)];exact hu
    | 1,hz =>
      simp at hz;subst hz;rw [Nat.one_mul,Nat.zero_add,←Array.getElem?_toList];rw [List.getElem?_append_right (by rw [hf];omega),hf,Nat.add_sub_cancel_left];exact hu
    | i+2,hz=>simp at hz⟩,fun h=>by cases h⟩
theorem aNK (a b:Pt) (w:World):Calls Tryz.prog 119 #[.agg #[vI a.1,vI a.2],.agg #[vI b.1,vI b.2]] w fun e w'=>e = .returned (vI (aAP a b)) /\ Fr nF_ w w':=by
  refine beg Tryz.func119 rfl rfl [(0,.agg #[vI a.1,vI a.2]),(1,.agg #[vI b.1,vI b.2])] rfl rfl fun Z hZ=>?_;have hM:=Mm.nil nF_ w;refine aAp 0 0 2 [] (cs:=#[vI a.1,vI a.2]) (T:=61) (v:=fun b=>vP b 0) f0 hM fun aa w1 hM=>aAp 0 1 3 [] (cs:=#[vI b.1,vI b.2]) (T:=61) (v:=fun b=>vP b 0) f0 hM fun ab w1 hM=>aAp 1 2 8 [(6,.agg #[vI a.1,vI a.2]),(7,.agg #[vI b.1,vI b.2])] (cs:=#[vI a.1,vI a.2,vI b.1,vI b.2]) (T:=61) (v:=fun b=>vL (some ⟨b,0,none⟩) 2 2) (fc (lam 61 0 0 2 hM rfl) (fc (lam 61 1 0 2 hM rfl) f0)) hM fun ac w1 hM=>aAq 1 3 9 [] f0 hM ((aN9 (aKV (f:=ptL) (x:=a) (y:=b) (fun _=>rfl) (by omega) (hM.get 2 rfl)))) fun w1 hM=>seg 1 5 [(10,vB (!([a,b].all aBt)))] f0 ?_;cases h29:([a,b].all aBt)
  ·exact rt1 4 (vI 0) rfl f0 (hZ _ _ ⟨by unfold aAP;rw [show (aBt a&&aBt b)=false by have:=h29;simpa using this];rfl,hM.fr⟩)
  have ha:aBt a=true:=by have:=List.all_eq_true.1 h29 a (.head _);exact this
  have hb:aBt b=true:=by have:=List.all_eq_true.1 h29 b (.tail _ (.head _));exact this
  have ⟨ha1,ha2,ha3,ha4⟩:=aCd ha;have ⟨hb1,hb2,hb3,hb4⟩:=aCd hb;refine aAq 3 2 13 [(11,.agg #[vI a.1,vI a.2]),(12,.agg #[vI b.1,vI b.2])] (fc (lam 61 0 0 2 hM rfl) (fc (lam 61 1 0 2 hM rfl) f0)) hM (aQW ha hb _) fun w1 hM=>aCl 3 3 5 [] [] 225 (.agg #[vI (b.1-a.1),vI (b.2-a.2)]) f0 hM fun ad w1 hM=>aAq 4 2 16 [(14,.agg #[vI (b.1-a.1),vI (b.2-a.2)]),(15,.agg #[vI (b.1-a.1),vI (b.2-a.2)])] (fc (lam 225 3 0 2 hM rfl) (fc (lam 225 3 0 2 hM rfl) f0)) hM (aQi (x:=b.1-a.1) (y:=b.2-a.2) (by omega) (by omega) (by omega) (by omega) _) fun w1 hM=>rt1 4 (vI ((b.1-a.1)*(b.1-a.1)+(b.2-a.2)*(b.2-a.2))) rfl f0 (hZ _ _ ⟨by unfold aAP;rw [ha,hb];rfl,hM.fr⟩)
abbrev v64 (a:Nat):Value := .int .u64 (a:Int)
theorem aIp {a:Nat}(h:a<18446744073709551616):IntKind.u64.wrap (a:Int)=a:=by
  show (a:Int)%_=a;exact Int.emod_eq_of_lt (by omega) (by show (a:Int)<18446744073709551616;omega)
theorem aQw {a b:Nat}(ha:a<18446744073709551616) (hb:b<18446744073709551616):bits BinOp.or IntKind.u64 (a:Int) (b:Int)=((a ||| b:Nat):Int):=by
  have h:a ||| b<2 ^ 64:=Nat.or_lt_two_pow ha hb;have h2:(BitVec.ofNat 64 a ||| BitVec.ofNat 64 b:BitVec 64).toNat=a ||| b:=by rw [BitVec.toNat_or,BitVec.toNat_ofNat,BitVec.toNat_ofNat,Nat.mod_eq_of_lt ha,Nat.mod_eq_of_lt hb]
  have h3:((BitVec.ofNat 64 a ||| BitVec.ofNat 64 b:BitVec 64).toNat:Int)%18446744073709551616=((a ||| b:Nat):Int):=by rw [h2];omega
  simp [bits,IntKind.wrap,IntKind.bits,IntKind.signed];exact h3
theorem aSw {a b:Nat}(ha:a<18446744073709551616) (hb:b<18446744073709551616):bits BinOp.and IntKind.u64 (a:Int) (b:Int)=((a &&& b:Nat):Int):=by
  have h:a &&& b<2 ^ 64:=Nat.and_lt_two_pow a hb;have h2:(BitVec.ofNat 64 a &&& BitVec.ofNat 64 b:BitVec 64).toNat=a &&& b:=by rw [BitVec.toNat_and,BitVec.toNat_ofNat,BitVec.toNat_ofNat,Nat.mod_eq_of_lt ha,Nat.mod_eq_of_lt hb]
  have h3:((BitVec.ofNat 64 a &&& BitVec.ofNat 64 b:BitVec 64).toNat:Int)%18446744073709551616=((a &&& b:Nat):Int):=by rw [h2];omega
  simp [bits,IntKind.wrap,IntKind.bits,IntKind.signed];exact h3
theorem or4 (a x:Nat) (h:x<4):4*a ||| x=4*a+x:=by
  have:=Nat.two_pow_add_eq_or_of_lt (i:=2) h a;rw [show 2 ^ 2*a=4*a by omega] at this;exact this.symm
theorem or2 (a:Nat):2*a ||| 1=2*a+1:=by
  have:=Nat.two_pow_add_eq_or_of_lt (i:=1) (show 1<2 ^ 1 by omega) a;rw [show 2 ^ 1*a=2*a by omega] at this;exact this.symm
section
variable {w:World}
theorem aW9 (a:Nat) (h:a<4611686018427387904):Ft.ok Tryz.prog w (.g2 (fun x y => .binOp .shl 222 x y 215) (v64 a) (.int .u64 2) (v64 (4*a))):=fun o ρ x y ho hx hy=>by
  simp [execOp,ho,hx,hy,go_sem];have:=aIp (a:=a*4) (by omega);rw [show ((a:Int)*4)=((a*4:Nat):Int) by omega,this];omega
theorem aVq (a:Nat) (h:a<9223372036854775808):Ft.ok Tryz.prog w (.g2 (fun x y => .binOp .shl 222 x y 215) (v64 a) (.int .u64 1) (v64 (2*a))):=fun o ρ x y ho hx hy=>by
  simp [execOp,ho,hx,hy,go_sem];have:=aIp (a:=a*2) (by omega);rw [show ((a:Int)*2)=((a*2:Nat):Int) by omega,this];omega
theorem aXO (a x:Nat) (h:a<4611686018427387904) (hx4:x<4):Ft.ok Tryz.prog w (.g2 (fun x y => .binOp .or 222 x y 222) (v64 (4*a)) (v64 x) (v64 (4*a+x))):=fun o ρ y z ho hx hy=>by
  have:=aQw (a:=4*a) (b:=x) (by omega) (by omega);rw [or4 a x hx4] at this;simp only [execOp,ho,hx,hy];simp [go_sem];simpa using this
theorem aXs (a:Nat) (h:a<4611686018427387904):Ft.ok Tryz.prog w (.g2 (fun x y => .binOp .or 222 x y 222) (v64 (2*a)) (.int .u64 1) (v64 (2*a+1))):=fun o ρ y z ho hx hy=>by
  have:=aQw (a:=2*a) (b:=1) (by omega) (by omega);rw [or2] at this;simp only [execOp,ho,hx,hy];simp [go_sem];simpa using this
theorem aWA (a:Nat) (h:a<9223372036854775808):Ft.ok Tryz.prog w (.g2 (fun x y => .binOp .and 222 x y 222) (v64 a) (.int .u64 3) (v64 (a%4))):=fun o ρ y z ho hx hy=>by
  have:=aSw (a:=a) (b:=3) (by omega) (by omega);rw [show a &&& 3=a%4 from Nat.and_two_pow_sub_one_eq_mod a 2] at this;simp only [execOp,ho,hx,hy];simp [go_sem];simpa using this
theorem aXN (a k:Nat) (h:k<64) {z:Int}(hz:z=(k:Int)):Ft.ok Tryz.prog w (.g2 (fun x y => .binOp .shr 222 x y 3) (v64 a) (vI z) (v64 (a / 2 ^ k))):=fun o ρ x y ho hx hy=>by
  subst hz;simp [execOp,ho,hx,hy,go_sem]
theorem aXM (a b:Nat) (h:b<=a) (ha:a<18446744073709551616):Ft.ok Tryz.prog w (.g2 (fun x y => .binOp .sub 222 x y 222) (v64 a) (v64 b) (v64 (a-b))):=fun o ρ x y ho hx hy=>by
  have:=aIp (a:=a-b) (by omega);rw [show ((a-b:Nat):Int)=(a:Int)-b by omega] at this;simp [execOp,ho,hx,hy,go_sem,Tryz.underlying222,this];omega
theorem aXL (a:Nat) (h:a<9223372036854775808):Ft.ok Tryz.prog w (.g1 (.convert 3 222) (vI (a:Int)) (v64 a)):=fun o ρ x ho hx=>by
  simp [execOp,ho,hx,go_sem,aIp (a:=a) (by omega)]
theorem aXP (a:Nat) (h:a<9223372036854775808):Ft.ok Tryz.prog w (.g1 (.convert 222 3) (v64 a) (vI (a:Int))):=fun o ρ x ho hx=>by
  simp [execOp,ho,hx,go_sem,IntWalk.i64_in (a:Int) ⟨by omega,by omega⟩]
end
def aCh:Nat->Nat
  | 0=>0
  | n+1=>if (aCh n+1)*(aCh n+1)<=n+1 then aCh n+1 else aCh n
theorem aI8:∀ n,aCh n*aCh n<=n /\ n<(aCh n+1)*(aCh n+1)
  | 0=>by simp [aCh]
  | n+1=>by
    obtain ⟨h1,h2⟩:=aI8 n;unfold aCh
    split
    · rename_i h
      refine ⟨h,?_⟩;have e:(aCh n+1+1)*(aCh n+1+1)=(aCh n+1)*(aCh n+1)+2*aCh n+3:=by grind
      omega
    · rename_i h;omega
theorem aV6 {a b:Nat}(h:a<b):(a+1)*(a+1)<=b*b:=Nat.mul_le_mul h h
theorem aEY {n r:Nat}(h1:r*r<=n) (h2:n<(r+1)*(r+1)):aCh n=r:=by
  obtain ⟨g1,g2⟩:=aI8 n;rcases Nat.lt_trichotomy (aCh n) r with h | h | h
  · exact absurd (Nat.lt_of_lt_of_le g2 (Gp_ (aV6 h) h1)) (Nat.lt_irrefl _)
  · exact h
  · exact absurd (Nat.lt_of_lt_of_le h2 (Gp_ (aV6 h) g1)) (Nat.lt_irrefl _)
def aB6 (n:Int):Int:=bif decide (n<0) then 0 else (aCh n.toNat:Int)
structure RtAt (n i root rest:Nat):Prop where
  sq:root*root+rest=n / 4 ^ (32-i)
  le:rest<=2*root
  lt:root<2 ^ i
theorem aWV {i:Nat}(hi:i<32):(2:Nat) ^ (62-2*i)=4 ^ (31-i):=by
  rw [show (4:Nat)=2 ^ 2 by rfl,←Nat.pow_mul];congr 1;omega
theorem dig {n i:Nat}(hi:i<32):n / 4 ^ (32-(i+1))=4*(n / 4 ^ (32-i))+n / 2 ^ (62-2*i)%4:=by
  rw [aWV hi,show 32-(i+1)=31-i by omega,show 32-i=(31-i)+1 by omega,Nat.pow_succ,←Nat.div_div_eq_div_mul];omega
theorem aWQ {i:Nat}(hi:i<=32) {root:Nat}(h:root<2 ^ i):root<4294967296:=Nat.lt_of_lt_of_le h (Gp_ (Nat.pow_le_pow_right (by omega) hi) (by decide))
theorem RtAt.up {n i root rest:Nat}(h:RtAt n i root rest) (hi:i<32) (hc:2*(2*root)+1<=4*rest+n / 2 ^ (62-2*i)%4):RtAt n (i+1) (2*root+1) (4*rest+n / 2 ^ (62-2*i)%4-(2*(2*root)+1)):=by
  obtain ⟨h1,h2,h3⟩:=h;refine ⟨?_,by omega,by rw [Nat.pow_succ];omega⟩;rw [dig hi,←h1];have e:(2*root+1)*(2*root+1)=4*(root*root)+4*root+1:=by grind
  omega
theorem RtAt.st {n i root rest:Nat}(h:RtAt n i root rest) (hi:i<32) (hc:¬ 2*(2*root)+1<=4*rest+n / 2 ^ (62-2*i)%4):RtAt n (i+1) (2*root) (4*rest+n / 2 ^ (62-2*i)%4):=by
  obtain ⟨h1,h2,h3⟩:=h;refine ⟨?_,by omega,by rw [Nat.pow_succ];omega⟩;rw [dig hi,←h1];have e:(2*root)*(2*root)=4*(root*root):=by grind
  omega
theorem RtAt.ok {n root rest:Nat}(h:RtAt n 32 root rest):aCh n=root:=by
  obtain ⟨h1,h2,h3⟩:=h;rw [Nat.sub_self,Nat.pow_zero,Nat.div_one] at h1;have e:(root+1)*(root+1)=root*root+2*root+1:=by grind
  exact aEY (by omega) (by omega)
theorem RtAt.zero {n:Nat}(h:n<9223372036854775808):RtAt n 0 0 0:=⟨by rw [Nat.div_eq_of_lt (Nat.lt_of_lt_of_le h (by decide))],by omega,by simp⟩
theorem aR1 {n:Nat}(h:n<18446744073709551616):aCh n<4294967296:=by
  obtain ⟨h1,_⟩:=aI8 n;rcases Nat.lt_or_ge (aCh n) 4294967296 with hl | hl
  · exact hl
  · have:=Nat.mul_le_mul hl hl;omega
abbrev aY9 (Z:Ending->World->Prop):=AtO Tryz.prog (aAf Tryz.f118) (aAo (bodyPost Tryz.prog Tryz.f118 Z)) [] 38
theorem aNy (m:Int) (hm:m<=9223372036854775807) (w:World):Calls Tryz.prog 118 #[vI m] w fun e w'=>e = .returned (vI (aB6 m)) /\ Fr nF_ w w':=by
  refine beg Tryz.func118 rfl rfl [(0,vI m)] rfl rfl fun Z hZ=>?_;have hM:=Mm.nil nF_ w;refine seg 2 2 [(3,.int .u64 0),(4,.int .u64 0),(8,vB (decide (m<0)))] f0 ?_;cases h1:(decide (m<0))
  rotate_left
  ·have rh1:=dt h1;exact rt1 2 (vI 0) rfl f0 (hZ _ _ ⟨by unfold aB6;rw [h1];rfl,hM.fr⟩)
  have rh1:=df h1;obtain ⟨n,rfl⟩:∃ n:Nat,m=(n:Int):=⟨m.toNat,by omega⟩;have hn:n<9223372036854775808:=by omega
  refine seg 5 0 [(9,vI 0)] f0 ?_
  have lp2:∀ (m4:Nat) (i:Nat) (root:Nat) (rest:Nat) (w2:World),i<=32->RtAt n i root rest->Mm nF_ w w2 []->m4=32-i->aY9 Z (some (5,0)) [(9,vI (i:Int)),(4,.int .u64 ((rest:Nat):Int)),(3,.int .u64 ((root:Nat):Int)),(0,vI (n:Int))] w2:=by
   refine aA8 fun m4 ih3 i root rest w2 hi hr hM hm4=>?_;have hrl:=aWQ hi hr.lt;have hrs:=hr.le;have hd4:n / 2 ^ (62-2*i)%4<4:=Nat.mod_lt _ (by omega);refine seg 5 1 [(10,vB (decide ((i:Int)<32)))] f0 ?_;cases h5:(decide ((i:Int)<32))
   ·have rh5:=df h5;exact rt1 2 (vI ((root:Nat):Int)) rfl (fc (aXP root (by omega)) f0) (hZ _ _ ⟨by unfold aB6;rw [h1];rw [show i=32 by omega] at hr;rw [←hr.ok];rfl,hM.fr⟩)
   have rh5:=dt h5;refine seg 10 3 [(4,.int .u64 ((4*rest+n / 2 ^ (62-2*i)%4:Nat):Int)),(3,.int .u64 ((2*root:Nat):Int)),(6,.int .u64 ((2*(2*root)+1:Nat):Int)),(29,vB (decide (((2*(2*root)+1:Nat):Int)<=((4*rest+n / 2 ^ (62-2*i)%4:Nat):Int))))] (fc (aW9 rest (by omega)) (fc (aXL n hn) (fc (aIx 2 (i:Int) u3_) (fc (aBx 62 (2*(i:Int)) u3_) (fc (aXN n (62-2*i) (z:=(62-(2*(i:Int)))) (by omega) (by omega)) (fc (aWA (n / 2 ^ (62-2*i)) (Nat.lt_of_le_of_lt (Nat.div_le_self _ _) hn)) (fc (aXO rest (n / 2 ^ (62-2*i)%4) (by omega) (Nat.mod_lt _ (by omega))) (fc (aVq root (by omega)) (fc (aVq (2*root) (by omega)) (fc (aXs (2*root) (by omega)) f0)))))))))) ?_;cases h6:(decide (((2*(2*root)+1:Nat):Int)<=((4*rest+n / 2 ^ (62-2*i)%4:Nat):Int)))
   ·have rh6:=df h6;refine seg 5 0 [(9,vI ((i:Int)+1))] (fc (aAe (i:Int) 1 u3_) f0) (aAb _ (ih3 _ (by omega) (i+1) _ _ _ (by omega) (hr.st (by omega) (by omega)) hM rfl))
   have rh6:=dt h6;refine seg 5 0 [(4,.int .u64 ((4*rest+n / 2 ^ (62-2*i)%4-(2*(2*root)+1):Nat):Int)),(3,.int .u64 ((2*root+1:Nat):Int)),(9,vI ((i:Int)+1))] (fc (aXM (4*rest+n / 2 ^ (62-2*i)%4) (2*(2*root)+1) (by omega) (by omega)) (fc (aXs root (by omega)) (fc (aAe (i:Int) 1 u3_) f0))) (aAb _ (ih3 _ (by omega) (i+1) _ _ _ (by omega) (hr.up (by omega) (by omega)) hM rfl))
  exact aAb _ (lp2 _ 0 0 0 _ (Gg_ _) (RtAt.zero hn) hM rfl)
abbrev ptV (p:Pt):Value := .agg #[vI p.1,vI p.2]
def aAA (l:List Ob) (id:Bys):Option Pt:=l.foldl (fun r o=>bif (o.kind==1)&&(o.id==id) then some (o.x,o.y) else r) none
def aAg (l:List Ob) (id:Bys):Bool:=(aAA l id).isSome
theorem aFC (l:List Ob) (o:Ob) (id:Bys):aAA (l++[o]) id=bif (o.kind==1)&&(o.id==id) then some (o.x,o.y) else aAA l id:=by unfold aAA;rw [List.foldl_append];rfl
def aEy (l:List Ob):Value->Option Value
  | .string s=>(aAA l s.toList).map ptV
  | _=>none
theorem aLs (l:List Ob) (id:Bys):aEy l (vS id)=(aAA l id).map ptV:=by
  show (aAA l (ofL id).toList).map ptV=_;rw [aA5]
theorem aRU:aEy []=fun _=>none:=by funext v;cases v<;>rfl
theorem aUr {l:List Ob}{o:Ob}(h:(o.kind==1)=false):aEy l=aEy (l++[o]):=by
  funext v
  cases v with
  | string s=>show (aAA l _).map _=(aAA (l++[o]) _).map _;rw [aFC,h];rfl
  | _=>rfl
theorem aOu {s:ByteArray}{x:Bys}(h:¬ Value.string s=vS x):¬ s.toList=x:=fun e=>h (by rw [←e,vS,aPx])
theorem aRT {l:List Ob}{o:Ob}(h:(o.kind==1)=true):upd (aEy l) (vS o.id) (ptV (o.x,o.y))=aEy (l++[o]):=by
  funext v
  by_cases e:v=vS o.id
  · subst e;rw [aCt,aLs,aFC,h];simp
  · rw [aBG _ e]
    cases v with
    | string s =>
      show (aAA l _).map _=(aAA (l++[o]) _).map _;have h2:(o.id==s.toList)=false:=beq_eq_false_iff_ne.2 fun z=>aOu e z.symm;rw [aFC,h2,Bool.and_false];rfl
    | _=>rfl
def aIr (N:Bys->Bool) (l:List ObR) (id:Bys):Option ObR:=l.foldl (fun r b=>bif ((b.o.kind==2)&&b.o.refs.all N)&&(b.o.id==id) then some b else r) none
theorem aG9 (N:Bys->Bool) (l:List ObR) (b:ObR) (id:Bys):aIr N (l++[b]) id=bif ((b.o.kind==2)&&b.o.refs.all N)&&(b.o.id==id) then some b else aIr N l id:=by unfold aIr;rw [List.foldl_append];rfl
abbrev rfV (b:ObR):Value:=vL b.pr b.o.refs.length b.cr
def aFP (N:Bys->Bool) (l:List ObR):Value->Option Value
  | .string s=>(aIr N l s.toList).map rfV
  | _=>none
theorem aOs (N:Bys->Bool) (l:List ObR) (id:Bys):aFP N l (vS id)=(aIr N l id).map rfV:=by
  show (aIr N l (ofL id).toList).map rfV=_;rw [aA5]
theorem aQQ (N:Bys->Bool):aFP N []=fun _=>none:=by funext v;cases v<;>rfl
theorem aOr {N:Bys->Bool}{l:List ObR}{b:ObR}(h:((b.o.kind==2)&&b.o.refs.all N)=false):aFP N l=aFP N (l++[b]):=by
  funext v
  cases v with
  | string s=>show (aIr N l _).map _=(aIr N (l++[b]) _).map _;rw [aG9,h];rfl
  | _=>rfl
theorem aQP {N:Bys->Bool}{l:List ObR}{b:ObR}(h:((b.o.kind==2)&&b.o.refs.all N)=true):upd (aFP N l) (vS b.o.id) (rfV b)=aFP N (l++[b]):=by
  funext v
  by_cases e:v=vS b.o.id
  · subst e;rw [aCt,aOs,aG9,h];simp
  · rw [aBG _ e]
    cases v with
    | string s =>
      show (aIr N l _).map _=(aIr N (l++[b]) _).map _;have h2:(b.o.id==s.toList)=false:=beq_eq_false_iff_ne.2 fun z=>aOu e z.symm;rw [aG9,h2,Bool.and_false];rfl
    | _=>rfl
theorem aVQ {P:Program}{w:World}(T:Nat) {K e:TypeId}{b c:Nat}{m:Value->Option Value}(key z:Value) (hm:aD0 P K w b c m) (LK:Maps.Keyed P K) (ht:P.underlying T=some (.map K e)) (hk:∃ l,keyOf P K key=some l) (hz:(zeroValue e).run P w = .ok z w):Ft.ok P w (.g2 (fun x y => .lookup T x y true) (.map (some b)) key (.tuple #[(m key).getD z,.bool (m key).isSome])):=fun o ρ x y ho hx hy=>by
  obtain ⟨l,hk⟩:=hk;have:=hm.at.look_ok LK ht hk hz;simp only [execOp,ho,hx,hy,Sem.run_bind,this,Result.andThen_ok,Sem.run_pure]
theorem aOg (w:World):(zeroValue 61).run Tryz.prog w = .ok (ptV (0,0)) w:=by kernel_rfl
theorem aVH (l:List Ob) (s:Bys):(.tuple #[((aEy l) (vS s)).getD (ptV (0,0)),.bool ((aEy l) (vS s)).isSome]:Value) = .tuple #[ptV ((aAA l s).getD (0,0)),vB (aAg l s)]:=by
  rw [aLs];unfold aAg;cases aAA l s<;>rfl
theorem aQr {w:World}{B:Nat}{p:Option Addr}{cap:Nat}{L:List Bys}{f:FuncId}{caps:Array Value}{G:Nat->Prop}(hs:SrcB stL 1 w B p cap L) (hG:∀ k,G k->B<=k) (eg:aJ1 Tryz.prog f) (q:Bys->Bool) (hc:∀ x∈L,∀ w1,Fr G w w1->Calls Tryz.prog f (#[vS x]++caps) w1 fun e w2=>e = .returned (vB (q x)) /\ Fr G w1 w2):Calls Tryz.prog 54 #[vL p L.length cap,.func (.func f) #[] caps] w fun e w'=>e = .returned (vB (L.any q)) /\ Fr G w w':=by
  refine (aK0 hs hG eg (fun _ _=>True) (fun i=>match L[i]? with | some x=>q x | none=>false) trivial fun i x w1 hx _ _ f1=>(hc x (gm hx) w1 f1).mono fun e w2 h=>⟨by rw [h.1];simp only [hx],trivial,h.2⟩).mono fun e w' h=>?_;obtain ⟨⟨z,h1,h2⟩,h3⟩:=h;refine ⟨?_,h3⟩;rw [h1]
  cases h2 with
  | none hq _ =>
    have:L.any q=false:=by
      rw [List.any_eq_false];intro x hx;obtain ⟨i,hi,rfl⟩:=List.mem_iff_getElem.1 hx;have:=hq i hi;simp only [Gb_ hi] at this;rw [this];simp
    rw [this];rfl
  | some i hi hw _ _ =>
    simp only [Gb_ hi] at hw;have:L.any q=true:=List.any_eq_true.2 ⟨_,List.getElem_mem hi,hw⟩;rw [this,decide_eq_true (by omega)]
theorem aP0 {w:World}{b4 bn b1 b2 n1:Nat}{v:Value}{L:List Ob}{s:Bys}(hs:B63 s) (h4:w.heap[b4]?=some (.cells #[vP bn 0] 157 (0,0))) (hn:w.heap[bn]?=some (.cells #[v,.map (some b1),.map (some b2)] 198 (0,0))) (hm:aD0 Tryz.prog 9 w b1 n1 (aEy L)):Calls Tryz.prog 116 #[vS s,vP b4 0] w fun e w'=>e = .returned (vB (!(aAg L s))) /\ Fr nF_ w w':=by
  refine beg Tryz.func116 rfl rfl [(0,vS s),(1,vP b4 0)] rfl rfl fun Z hZ=>?_;have hM:=Mm.nil nF_ w;refine aCl 1 9 4 [(13,.agg #[vI ((aAA L s).getD (0,0)).1,vI ((aAA L s).getD (0,0)).2]),(14,vB (aAg L s))] [] 61 (.agg #[vI ((aAA L s).getD (0,0)).1,vI ((aAA L s).getD (0,0)).2]) (fc (ld0 157 hM (bx h4 0 rfl)) (fc (ld0 195 hM (bx hn 1 rfl)) (fc (rz2 (aVQ 195 (vS s) (ptV (0,0)) hm aD5 u195_ (aD6 hs) (aOg _)) (aVH L s)) f0))) hM fun aa w1 hM=>rt1 3 (vB (!(aAg L s))) rfl f0 (hZ _ _ ⟨rfl,hM.fr⟩)
abbrev aXy (bn b1 b2 n1 n2:Nat) (v:Value) (l:List ObR):List Ent:=[bk bn #[v,.map (some b1),.map (some b2)] 198,mp Tryz.prog 9 b1 n1 (aEy (aAa l)),mp Tryz.prog 9 b2 n2 (aFP (aAg (aAa l)) l)]
theorem aUY (L:List Bys) (N:Bys->Bool):(!(L.any fun s => !(N s)))=L.all N:=by rw [List.not_any_eq_all_not];simp
abbrev A91 (Z:Ending->World->Prop):=AtO Tryz.prog (aAf Tryz.f91) (aAo (bodyPost Tryz.prog Tryz.f91 Z)) [] 64
theorem aRR {w:World}{v:Value}{os:List ObR}(hm:aCq w v os):Calls Tryz.prog 91 #[.agg #[v]] w fun e w'=>(aAc (aAa os)=false->e = .returned (.tuple #[.pointer none,vB false]) /\ Fr nF_ w w') /\ (aAc (aAa os)=true->∃ bn b1 b2 n1 n2,e = .returned (.tuple #[vP bn 0,vB true]) /\ Mm nF_ w w' (aXy bn b1 b2 n1 n2 v os)):=by
  have hm0:=hm;obtain ⟨hs0,hob⟩:=hm0;obtain ⟨p0,cp0,hp0,sp0⟩:=hs0.op;subst hp0;have bp0:=sp0.bnd;refine beg Tryz.func91 rfl rfl [(0,.agg #[vL p0 os.length cp0])] rfl rfl fun Y hY=>?_;have hM:=Mm.nil nF_ w;refine aAp 0 0 1 [] (cs:=#[vL p0 os.length cp0]) (T:=24) (v:=fun b=>vP b 0) f0 hM fun ae w1 hM=>aAq 1 1 10 [(9,.agg #[vL p0 os.length cp0])] (fc (lam 24 0 0 1 hM rfl) f0) hM (aEu (hm.fr hM.fr)) fun w1 hM=>seg 1 3 [(11,vB (!(aAc (aAa os))))] f0 ?_;cases h33:(aAc (aAa os))
  ·exact rt2 2 3 (.pointer none) (vB false) rfl rfl f0 (hY _ _ ⟨fun _=>⟨rfl,hM.fr⟩,fun h=>absurd (h33.symm.trans h) (by simp)⟩)
  refine aHF 3 2 14 [(13,vL p0 os.length cp0)] 9 (fc (ldm 22 0 0 hM rfl rfl) f0) hM fun aa w1 hM=>aHF 3 3 15 [] 9 f0 hM fun ab w1 hM=>aAp 3 5 17 [(16,.agg #[vL p0 os.length cp0,.map (some aa),.map (some ab)])] (cs:=#[vL p0 os.length cp0,.map (some aa),.map (some ab)]) (T:=198) (v:=fun b=>vP b 0) f0 hM fun ac w1 hM=>aCl 3 6 4 [] [] 157 (vP ac 0) f0 hM fun ad w1 hM=>?_;have hM:=hM.cast (M':=[bk ae #[vL p0 os.length cp0] 24,mp Tryz.prog 9 aa 0 (aEy ((aAa os).take 0)),mp Tryz.prog 9 ab 0 (fun _=>none),bk ac #[vL p0 os.length cp0,.map (some aa),.map (some ab)] 198,bk ad #[vP ac 0] 157]) (by rw [List.take_zero,aRU];(try rfl));refine seg 5 0 [(19,vL p0 os.length cp0),(20,vI (os.length:Int)),(21,vI 0)] (fc (ldm 22 0 0 hM rfl rfl) f0) ?_
  have al:∀ (ai:Nat) (i:Nat) (n:Nat) (w2:World),i<=os.length->Mm nF_ w w2 [bk ae #[vL p0 os.length cp0] 24,mp Tryz.prog 9 aa n (aEy ((aAa os).take i)),mp Tryz.prog 9 ab 0 (fun _=>none),bk ac #[vL p0 os.length cp0,.map (some aa),.map (some ab)] 198,bk ad #[vP ac 0] 157]->ai=os.length-i->A91 Y (some (5,0)) [(21,vI (i:Int)),(20,vI (os.length:Int)),(19,vL p0 os.length cp0),(4,vP ad 0),(1,vP ae 0)] w2:=by
   refine aA8 fun ai aj i n w2 hi hM av=>seg 5 1 [(22,vB (decide ((i:Int)<(os.length:Int))))] f0 ?_;cases h41:(decide ((i:Int)<(os.length:Int)))
   rotate_left
   ·have am:=dt h41;obtain ⟨y,hy,aw,ax,q51,an⟩:=sp0.el (i:=i) (by omega);refine aCl 6 2 6 [(24,.agg #[vS y.o.id,vI y.o.kind,vI y.o.x,vI y.o.y,vL y.pr y.o.refs.length y.cr,vL y.pt y.o.tags.length y.ct])] [] 64 (.agg #[vS y.o.id,vI y.o.kind,vI y.o.x,vI y.o.y,vL y.pr y.o.refs.length y.cr,vL y.pt y.o.tags.length y.ct]) (fc (ix 22 cp0 q51 (gl hy)) (fc (la0 64 hM an) f0)) hM fun ag w1 hM=>seg 7 3 [(27,vB (y.o.kind==1))] (fc (ldm 3 5 1 hM rfl rfl) f0) ?_;cases h53:(y.o.kind==1)
    ·have ao:=ef h53;refine seg 5 0 [(21,vI ((i:Int)+1))] (fc (aAe (i:Int) 1 u3_) f0) ?_;have e9:(aEy ((aAa os).take i))=aEy ((aAa os).take (i+1)):=by rw [gt_ (aAn hy)];exact aUr h53
     replace hM:Mm nF_ w _ [bk ae #[vL p0 os.length cp0] 24,mp Tryz.prog 9 aa n (aEy ((aAa os).take (i+1))),mp Tryz.prog 9 ab 0 (fun _=>none),bk ac #[vL p0 os.length cp0,.map (some aa),.map (some ab)] 198,bk ad #[vP ac 0] 157,bk ag #[vS y.o.id,vI y.o.kind,vI y.o.x,vI y.o.y,vL y.pr y.o.refs.length y.cr,vL y.pt y.o.tags.length y.ct] 64]:=e9▸hM;exact aAb _ (aj _ (by omega) (i+1) n _ (gl hy) (hM.pick [0,1,2,3,4]) rfl)
    have ao:=et h53;refine seg 8 0 [] f0 (drx [8] (fun Z=>[none]) _ (fun Z l=>[bk ae #[vL p0 os.length cp0] 24,(bif l.getD 0 false then mp Tryz.prog 9 aa (n+1) (upd (aEy ((aAa os).take i)) (vS y.o.id) (.agg #[vI y.o.x,vI y.o.y])) else mp Tryz.prog 9 aa n (aEy ((aAa os).take i))),mp Tryz.prog 9 ab 0 (fun _=>none),bk ac #[vL p0 os.length cp0,.map (some aa),.map (some ab)] 198,bk ad #[vP ac 0] 157,bk ag #[vS y.o.id,vI y.o.kind,vI y.o.x,vI y.o.y,vL y.pr y.o.refs.length y.cr,vL y.pt y.o.tags.length y.ct] 64]) (fun Z=>[]) hM (fun Z=>rfl) (fun Z l w5 hM=>(fc (ldm 157 4 0 hM rfl rfl) (fc (ldm 195 3 1 hM rfl rfl) (fc (ldm 9 5 0 hM rfl rfl) (fc (lam 61 5 2 2 hM rfl) f0))))) ⟨aGb 0 8 195 1 (fun Z=>aa) n (aEy ((aAa os).take i)) (fun Z=>vS y.o.id) (fun Z => .agg #[vI y.o.x,vI y.o.y]) aD5 u195_ (fun Z=>(aD6 (hob _ (gm hy)).bnd.id)),trivial⟩ fun ay w1 hM=>?_);replace hM:Mm nF_ w w1 [bk ae #[vL p0 os.length cp0] 24,_,_,bk ac #[vL p0 os.length cp0,.map (some aa),.map (some ab)] 198,bk ad #[vP ac 0] 157,bk ag #[vS y.o.id,vI y.o.kind,vI y.o.x,vI y.o.y,vL y.pr y.o.refs.length y.cr,vL y.pt y.o.tags.length y.ct] 64]:=hM;refine seg 5 0 [(21,vI ((i:Int)+1))] (fc (aAe (i:Int) 1 u3_) f0) ?_;have e9:(upd (aEy ((aAa os).take i)) (vS y.o.id) (.agg #[vI y.o.x,vI y.o.y]))=aEy ((aAa os).take (i+1)):=by rw [gt_ (aAn hy)];exact aRT h53
    replace hM:Mm nF_ w _ [bk ae #[vL p0 os.length cp0] 24,mp Tryz.prog 9 aa (n+1) (aEy ((aAa os).take (i+1))),mp Tryz.prog 9 ab 0 (fun _=>none),bk ac #[vL p0 os.length cp0,.map (some aa),.map (some ab)] 198,bk ad #[vP ac 0] 157,bk ag #[vS y.o.id,vI y.o.kind,vI y.o.x,vI y.o.y,vL y.pr y.o.refs.length y.cr,vL y.pt y.o.tags.length y.ct] 64]:=e9▸hM;exact aAb _ (aj _ (by omega) (i+1) (n+1) _ (gl hy) (hM.pick [0,1,2,3,4]) rfl)
   have am:=df h41;have ei:(aAa os).take i=aAa os:=Gc_ (by rw [aA2];omega);rw [ei] at hM;have hM:=hM.cast (M':=[bk ae #[vL p0 os.length cp0] 24,mp Tryz.prog 9 aa n (aEy (aAa os)),mp Tryz.prog 9 ab 0 (aFP (aAg (aAa os)) (os.take 0)),bk ac #[vL p0 os.length cp0,.map (some aa),.map (some ab)] 198,bk ad #[vP ac 0] 157]) (by rw [List.take_zero,aQQ];(try rfl));refine seg 11 0 [(38,vL p0 os.length cp0),(39,vI (os.length:Int)),(40,vI 0)] (fc (ldm 22 0 0 hM rfl rfl) f0) ?_
   have ap:∀ (ak:Nat) (i2:Nat) (n2:Nat) (w2:World),i2<=os.length->Mm nF_ w w2 [bk ae #[vL p0 os.length cp0] 24,mp Tryz.prog 9 aa n (aEy (aAa os)),mp Tryz.prog 9 ab n2 (aFP (aAg (aAa os)) (os.take i2)),bk ac #[vL p0 os.length cp0,.map (some aa),.map (some ab)] 198,bk ad #[vP ac 0] 157]->ak=os.length-i2->A91 Y (some (11,0)) [(40,vI (i2:Int)),(39,vI (os.length:Int)),(38,vL p0 os.length cp0),(4,vP ad 0)] w2:=by
    refine aA8 fun ak ah i2 n2 w2 hi2 hM az=>seg 11 1 [(41,vB (decide ((i2:Int)<(os.length:Int))))] f0 ?_;cases h45:(decide ((i2:Int)<(os.length:Int)))
    ·have aq:=df h45;have e8:os.take i2=os:=Gc_ (by omega);rw [e8] at hM;exact rt2 2 3 (vP ac 0) (vB true) rfl rfl (fc (ldm 157 4 0 hM rfl rfl) f0) (hY _ _ ⟨fun h=>absurd (h.symm.trans h33) (by simp),fun _=>⟨_,_,_,_,_,rfl,hM.pick [3,1,2]⟩⟩)
    have aq:=dt h45;obtain ⟨y2,hy2,a0,a1,q46,ar⟩:=sp0.el (i:=i2) (by omega);refine aCl 12 2 8 [(43,.agg #[vS y2.o.id,vI y2.o.kind,vI y2.o.x,vI y2.o.y,vL y2.pr y2.o.refs.length y2.cr,vL y2.pt y2.o.tags.length y2.ct])] [] 64 (.agg #[vS y2.o.id,vI y2.o.kind,vI y2.o.x,vI y2.o.y,vL y2.pr y2.o.refs.length y2.cr,vL y2.pt y2.o.tags.length y2.ct]) (fc (ix 22 cp0 q46 (gl hy2)) (fc (la0 64 hM ar) f0)) hM fun af w1 hM=>seg 13 4 [(47,vB (y2.o.kind==2))] (fc (ldm 3 5 1 hM rfl rfl) f0) ?_;cases h48:(y2.o.kind==2)
    ·have au:=ef h48;refine seg 11 0 [(40,vI ((i2:Int)+1))] (fc (aAe (i2:Int) 1 u3_) f0) ?_;have e9:(aFP (aAg (aAa os)) (os.take i2))=(aFP (aAg (aAa os)) (os.take (i2+1))):=by rw [gt_ hy2];exact aOr (by rw [h48];rfl)
     replace hM:Mm nF_ w _ [bk ae #[vL p0 os.length cp0] 24,mp Tryz.prog 9 aa n (aEy (aAa os)),mp Tryz.prog 9 ab n2 (aFP (aAg (aAa os)) (os.take (i2+1))),bk ac #[vL p0 os.length cp0,.map (some aa),.map (some ab)] 198,bk ad #[vP ac 0] 157,bk af #[vS y2.o.id,vI y2.o.kind,vI y2.o.x,vI y2.o.y,vL y2.pr y2.o.refs.length y2.cr,vL y2.pt y2.o.tags.length y2.ct] 64]:=e9▸hM;exact aAb _ (ah _ (by omega) (i2+1) n2 _ (gl hy2) (hM.pick [0,1,2,3,4]) rfl)
    have au:=et h48;refine aAq 13 7 51 [(49,vL y2.pr y2.o.refs.length y2.cr),(50,.func (.func 116) #[] #[vP ad 0])] (fc (ldm 28 5 4 hM rfl rfl) f0) hM ((aQr (((hob _ (gm hy2)).refs.fr hM.fr).b (Fr.refl _ _)) (fun _ h=>h.elim) (enters_of Tryz.func116 (by kernel_rfl) rfl) (fun s => !(aAg (aAa os) s)) fun z hz w9 f9=>by rw [aUX];exact aP0 ((hob _ (gm hy2)).bnd.refs z hz) (f9.obj (hM.get 4 rfl) fun h=>h) (f9.obj (hM.get 3 rfl) fun h=>h) ((hM.get 1 rfl:aD0 _ _ _ _ _ _).fr f9 fun h=>h)).mono fun e w9 h=>⟨h.1.trans (by rw [show (y2.o.refs.any fun s => !(aAg (aAa os) s)) = !(y2.o.refs.all (aAg (aAa os))) by rw [←aUY,Bool.not_not]]),h.2⟩) fun w1 hM=>seg 13 10 [(53,vB (!(!(y2.o.refs.all (aAg (aAa os))))))] f0 ?_;cases h49:(y2.o.refs.all (aAg (aAa os)))
    ·refine seg 11 0 [(40,vI ((i2:Int)+1))] (fc (aAe (i2:Int) 1 u3_) f0) ?_;have e9:(aFP (aAg (aAa os)) (os.take i2))=(aFP (aAg (aAa os)) (os.take (i2+1))):=by rw [gt_ hy2];exact aOr (by rw [h49,Bool.and_false])
     replace hM:Mm nF_ w _ [bk ae #[vL p0 os.length cp0] 24,mp Tryz.prog 9 aa n (aEy (aAa os)),mp Tryz.prog 9 ab n2 (aFP (aAg (aAa os)) (os.take (i2+1))),bk ac #[vL p0 os.length cp0,.map (some aa),.map (some ab)] 198,bk ad #[vP ac 0] 157,bk af #[vS y2.o.id,vI y2.o.kind,vI y2.o.x,vI y2.o.y,vL y2.pr y2.o.refs.length y2.cr,vL y2.pt y2.o.tags.length y2.ct] 64]:=e9▸hM;exact aAb _ (ah _ (by omega) (i2+1) n2 _ (gl hy2) (hM.pick [0,1,2,3,4]) rfl)
    refine seg 14 0 [] f0 (drx [8] (fun Z=>[none]) _ (fun Z l=>[bk ae #[vL p0 os.length cp0] 24,mp Tryz.prog 9 aa n (aEy (aAa os)),(bif l.getD 0 false then mp Tryz.prog 9 ab (n2+1) (upd (aFP (aAg (aAa os)) (os.take i2)) (vS y2.o.id) (vL y2.pr y2.o.refs.length y2.cr)) else mp Tryz.prog 9 ab n2 (aFP (aAg (aAa os)) (os.take i2))),bk ac #[vL p0 os.length cp0,.map (some aa),.map (some ab)] 198,bk ad #[vP ac 0] 157,bk af #[vS y2.o.id,vI y2.o.kind,vI y2.o.x,vI y2.o.y,vL y2.pr y2.o.refs.length y2.cr,vL y2.pt y2.o.tags.length y2.ct] 64]) (fun Z=>[]) hM (fun Z=>rfl) (fun Z l w5 hM=>(fc (ldm 157 4 0 hM rfl rfl) (fc (ldm 196 3 2 hM rfl rfl) (fc (ldm 9 5 0 hM rfl rfl) (fc (ldm 28 5 4 hM rfl rfl) f0))))) ⟨aGb 0 8 196 2 (fun Z=>ab) n2 (aFP (aAg (aAa os)) (os.take i2)) (fun Z=>vS y2.o.id) (fun Z=>vL y2.pr y2.o.refs.length y2.cr) aD5 Tryz.underlying196 (fun Z=>(aD6 (hob _ (gm hy2)).bnd.id)),trivial⟩ fun a2 w1 hM=>?_);replace hM:Mm nF_ w w1 [bk ae #[vL p0 os.length cp0] 24,_,_,bk ac #[vL p0 os.length cp0,.map (some aa),.map (some ab)] 198,bk ad #[vP ac 0] 157,bk af #[vS y2.o.id,vI y2.o.kind,vI y2.o.x,vI y2.o.y,vL y2.pr y2.o.refs.length y2.cr,vL y2.pt y2.o.tags.length y2.ct] 64]:=hM;refine seg 11 0 [(40,vI ((i2:Int)+1))] (fc (aAe (i2:Int) 1 u3_) f0) ?_;have e9:(upd (aFP (aAg (aAa os)) (os.take i2)) (vS y2.o.id) (vL y2.pr y2.o.refs.length y2.cr))=(aFP (aAg (aAa os)) (os.take (i2+1))):=by rw [gt_ hy2];exact aQP (by rw [h48,h49];rfl)
    replace hM:Mm nF_ w _ [bk ae #[vL p0 os.length cp0] 24,mp Tryz.prog 9 aa n (aEy (aAa os)),mp Tryz.prog 9 ab (n2+1) (aFP (aAg (aAa os)) (os.take (i2+1))),bk ac #[vL p0 os.length cp0,.map (some aa),.map (some ab)] 198,bk ad #[vP ac 0] 157,bk af #[vS y2.o.id,vI y2.o.kind,vI y2.o.x,vI y2.o.y,vL y2.pr y2.o.refs.length y2.cr,vL y2.pt y2.o.tags.length y2.ct] 64]:=e9▸hM;exact aAb _ (ah _ (by omega) (i2+1) (n2+1) _ (gl hy2) (hM.pick [0,1,2,3,4]) rfl)
   exact aAb _ (ap _ 0 0 _ (Gg_ _) hM rfl)
  exact aAb _ (al _ 0 0 _ (Gg_ _) hM rfl)
end Go.Proofs.YtbflfefahheidaaGreatDoor
namespace Go.Pl
open Go.RowKit
section
variable {P:Program}{B:Code}{R:Pst}{ds:List Deferred}{n:Nat}{p:Option (Nat×Nat)}{L N:Frm}{w w0:World}{r' i':Nat}{F:List Ft}{F0:Nat->Prop}{M:List Ent}
def aW4 (J:Nat->Ent->Prop) (k:Nat) (e:Ent) (w w':World):Prop:=∃ e',J (k+1) e' /\ e'.H w' /\ (∀ b,e'.B b->e.B b∨w.heap.size<=b) /\ Fr e.B w w'
theorem aLS {rd:Option Nat}{o:Oper}{a:Act}{l:Nat}{args:Array Value}{K:Act->World->Prop}{Q:Exit->Act->World->Prop}{Rt Rs:World->Prop}(hrun:∀ fn tmps sg bd,(Instr.yield l args).run P w = .ok (.round l fn tmps sg bd) w->(execOp a.eval o).run P w = .ok (.round l fn tmps sg bd) w) (hR:aH4 P l args w Rt Rs)
  (kt:∀ w',Rt w'->K (a.put o.dst (.bool true)) w') (kf:∀ w',Rs w'->K (a.put o.dst (.bool false)) w'):o.wpIn (fen rd) 0 P a w K Q:=by
 obtain ⟨m',fn,tmps,sg,bd,hrun1,hFn,hround⟩:=hR;refine ⟨fun _ _=>trivial,?_⟩;show Oper.uponIn _ _ _ _ _ _ _ ((o.semAt rd a.eval).run P w);rw [aI3 (hrun _ _ _ _ hrun1) (by intro d h;cases h)];refine ⟨fun h=>(by cases h),trivial,fun c cs _=>?_⟩;obtain ⟨e2,w2,h,h3⟩:=hround c cs (room_wide _);rcases h with ⟨rfl,h2⟩ | ⟨rfl,h2⟩
 ·exact ⟨.returned (.bool true),w2,kt w2 h2,h3⟩
 ·exact ⟨.returned (.bool false),w2,kf w2 h2,h3⟩
theorem yld (r' i' d:Nat) (N:Frm) (ts:Array TypeId) {l:Nat}{v:Value}{J:Nat->Ent->Prop}{S:World->Prop}{j k:Nat}{e:Ent}(hd:d<n) (hF:aAQ P w F) (hM:Mm F0 w0 w M) (hj:M[j]?=some e) (hR:aH4 P l #[v] w (aW4 J k e w) S)
  (kt:∀ e' w',J (k+1) e'->Mm F0 w0 w' (M.set j e')->AtO P B R ds n (some (r',i'+1)) ((d,.bool true)::(N++L)) w')
  (kf:∀ w',S w'->AtO P B R ds n (some (r',i'+1)) ((d,.bool false)::(N++L)) w')
  (h:(lhs (go P w n B p L r' i' F) N L,aLW (go P w n B p L r' i' F) n L (fun x y => .call ⟨.value x,#[y],ts⟩))=(rhs (go P w n B p L r' i' F) N B r' i',aLV (go P w n B p L r' i' F) n L (fun x y => .call ⟨.value x,#[y],ts⟩) (some d) false (.func (.yield l) #[] #[]) v):=by kernel_rfl):AtO P B R ds n p L w :=
 aGB hF h fun O kk o ll a x y hf hd1 E hdd hg hw ho hx hy=>by
  have hdr:O.toList.drop (i'+1)=ll:=by rw [←List.tail_drop,hd1];rfl
  refine aJM hw (aLS (fun _ _ _ _ h=>aHT ho hx hy h) hR (fun w' hw'=>?_) fun w' hw'=>?_)
  ·obtain ⟨e',h1,h2,h3,h4⟩:=hw';obtain ⟨O1,dr,k1,hf1,hk⟩:=kt e' w' h1 (hM.put j hj h4 (fun _ _ h=>h) h2 h3);rw [hf] at hf1;cases hf1;have:=hk _ (E.put (v := .bool true) hd);rw [hdd,←hdr];exact this
  ·obtain ⟨O1,dr,k1,hf1,hk⟩:=kf w' hw';rw [hf] at hf1;cases hf1;have:=hk _ (E.put (v := .bool false) hd);rw [hdd,←hdr];exact this
end
def aNX (P:Program) (gf:Nat) (lb:Array Value) (vs:List (Array Value)) (Kp:(Nat->Prop)->World->Prop):Prop :=
 ∀ (l:Nat) (J:Nat->Ent->Prop) (S:World->Prop) (W0:World) (e0:Ent),J 0 e0->e0.H W0->Kp e0.B W0->(∀ W W',S W->Fr nF_ W W'->S W') ->
  (∀ k e v W,J k e->e.H W->Fr e0.B W0 W->vs[k]?=some v->aH4 P l v W (aW4 J k e W) S) ->
  Calls P gf (#[.func (.yield l) #[] #[]]++lb) W0 fun x W'=>(∃ v,x = .returned v) /\ ((∃ e,J vs.length e /\ e.H W' /\ Fr e0.B W0 W')∨S W')
def aWv (P:Program) (gf:Nat) (lb:Array Value) (vs:List (Array Value)) (Kp:(Nat->Prop)->World->Prop) (ok:(World->Prop)->Prop):Prop :=
 ∀ (l:Nat) (J:Nat->Ent->Prop) (S:World->Prop) (W0:World) (e0:Ent),ok S->J 0 e0->e0.H W0->Kp e0.B W0->(∀ W W',S W->Fr nF_ W W'->S W') ->
  (∀ k e v W,J k e->e.H W->Fr e0.B W0 W->vs[k]?=some v->aH4 P l v W (aW4 J k e W) S) ->
  Calls P gf (#[.func (.yield l) #[] #[]]++lb) W0 fun x W'=>(∃ v,x = .returned v) /\ ((∃ e,J vs.length e /\ e.H W' /\ Fr e0.B W0 W')∨S W')
abbrev aWw (P:Program) (gf:Nat) (lb:Array Value) (vs:List (Array Value)) (Kp:(Nat->Prop)->World->Prop):Prop:=aWv P gf lb vs Kp fun S=>∀ W,¬ S W
theorem Mm.one {W:World}{e:Ent}(h:e.H W):Mm e.B W W [e]:=⟨Fr.refl _ _,fun x hx=>by rw [Gd_] at hx;subst hx;exact h,fun x hx k hk _=>by rw [Gd_] at hx;subst hx;exact hk,List.pairwise_singleton _ _⟩
def dfE (D:Nat):Ent where
 B:=fun k=>k=D
 H:=fun w=>w.heap[D]?=some (.deferred (some []))
 lt:=fun h e=>by subst e;exact aAl h
 fr:=fun h f hd=>f.obj h (hd _ rfl)
def aU3 (M:List Ent) (D l:Nat) (r:Loop):Ent where
 B:=fun k=>BlM M k∨k=D∨k=l
 H:=fun w=>(∀ e∈M,e.H w) /\ w.heap[D]?=some (.deferred (some [])) /\ w.heap[l]?=some (.loop r)
 lt:=fun h e=>by
  rcases e with ⟨x,hx,hk⟩ | rfl | rfl
  ·exact x.lt (h.1 x hx) hk
  ·exact aAl h.2.1
  ·exact aAl h.2.2
 fr:=fun h f hd=>⟨fun e he=>e.fr (h.1 e he) f fun k hk=>hd k (.inl ⟨e,he,hk⟩),f.obj h.2.1 (hd _ (.inr (.inl rfl))),f.obj h.2.2 (hd _ (.inr (.inr rfl)))⟩
def aLg (q:Nat):Code->Option (Operand×Array Tmp×Code×Code)
 | .seq x y=>match aLg q x with | some z=>some z | none=>aLg q y
 | .cond _ x y=>match aLg q x with | some z=>some z | none=>aLg q y
 | .block _ c=>aLg q c
 | .loop c=>aLg q c
 | .scope c=>aLg q c
 | .rangeFunc g ps sg bd=>bif Nat.beq q (1000+aFp sg) then some (g,ps,sg,bd) else none
 | _=>none
def aWs (q:Nat) (B:Code):Code:=match aLg q B with | some (_,_,sg,_)=>sg | none => .skip
def aWq (q:Nat) (B:Code):Code:=match aLg q B with | some (_,_,_,bd)=>bd | none => .skip
section
variable {P:Program}{B:Code}{ds:List Deferred}{n:Nat}{L:Frm}{w w0:World}{F0:Nat->Prop}{M:List Ent}{Qf:Exit->Act->World->Prop}
theorem aOf {ds:List Deferred}{n:Nat}{L:Frm}:∀ {ps:List Nat}{vs:List Value}{t:Array Value},EnvS [] n L { tmps:=t,defers:=[] }->ps.length=vs.length->(∀ p∈ps,p<n)->EnvS [] n ((ps.zip vs).reverse++L) { tmps:=(ps.zip vs).foldl (fun t (p,v)=>t.setIfInBounds p v) t,defers:=[] }
 | [],vs,t,E,h,_=>by simpa using E
 | p::ps,[],t,E,h,_=>by simp at h
 | p::ps,v::vs,t,E,h,hp=>by
  have E1:=E.put (v:=v) (hp p (by simp));have E2:EnvS [] n ((p,v)::L) { tmps:=t.setIfInBounds p v,defers:=[] }:=E1;have:=aOf (ds:=ds) E2 (by simpa using h) fun x hx=>hp x (List.mem_cons_of_mem _ hx);simpa [List.zip_cons_cons,List.reverse_cons,Gn_] using this
structure REnd (P:Program) (I:Nat->List Ent->Prop) (T:List Ent->Prop) (k:Nat) (M1:List Ent) (W:World) (l:Nat) (R:Pst):Prop where
 rd:R.rd=some l
 nrm:∀ a M' W',I (k+1) M'->Mm (BlM M1) W W' M'->R.q .normal a W'
 ret:∀ a M' W',T M'->Mm (BlM M1) W W' M'->R.q .ret a W'
def RAs (P:Program) (bd:Code) (n:Nat) (F0:Nat->Prop) (w0:World) (I:Nat->List Ent->Prop) (T:List Ent->Prop) (k:Nat) (Mk:List Ent) (W:World):Exit->Act->World->Prop
 | .normal,a,W1=>∃ Lb M1,EnvS [] n Lb a /\ Mm (BlM Mk) W W1 M1 /\ ∀ W2 l R,Fr F0 w0 W2->Mm (BlM M1) W2 W2 M1->REnd P I T k M1 W2 l R->AtO P bd R [] n none Lb W2
 | _,_,_=>False
theorem aVA {ok:(World->Prop)->Prop}(q:Nat) {g:Operand}{ps:Array Tmp}{gf:Nat}{lb:Array Value}{vs:List (Array Value)}{Kp:(Nat->Prop)->World->Prop}(I:Nat->List Ent->Prop) (T:List Ent->Prop)
  (hM:Mm F0 w0 w M) (h0:I 0 M) (eg:aJ1 P gf) (hY:aWv P gf lb vs Kp ok) (hok:∀ S:World->Prop,(∀ W,S W->∃ M',T M')->ok S)
  (hK:∀ (G:Nat->Prop) W,(∀ k,G k->BlM M k∨w.heap.size<=k)->Fr nF_ w W->Kp G W)
  (hps:∀ v∈vs,v.size=ps.size)
  (hround:∀ k v Mk W l,vs[k]?=some v->I k Mk->Fr F0 w0 W->Mm (BlM Mk) W W Mk->AtO P (aWs (1000+q) B) ⟨RAs P (aWq (1000+q) B) n F0 w0 I T k Mk W,some l⟩ [] n none ((ps.toList.zip v.toList).reverse++L) W)
  (hdone:∀ M' W',I vs.length M'->Mm F0 w0 W' (M'++[dfE w.heap.size])->AtO P B ⟨Qf,none⟩ (mkD w.heap.size::ds) n (some (2000+q,0)) L W')
  (hstop:∀ a M' W',T M'->Mm F0 w0 W' (M'++[dfE w.heap.size])->EnvS (mkD w.heap.size::ds) n L a->Qf .ret a W')
  (h:(match aAT (1000+q) B [],aAT (2000+q) B [],aLg (1000+q) B with
   | some (O,dr,.seq (.rangeFunc g1 ps1 as1 bd1)::k1),some (O2,dr2,k2),some (g2,ps2,as2,bd2)=>some (O,dr,O2,dr2,[Kon.seq (.rangeFunc g1 ps1 as1 bd1)],k1,opv L g1,ps.toList.all fun p=>Nat.blt p n)
   | _,_,_=>none)=(match aAT (1000+q) B [],aAT (2000+q) B [],aLg (1000+q) B with
   | some (O,dr,.seq (.rangeFunc g1 ps1 as1 bd1)::k1),some (O2,dr2,k2),some (g2,ps2,as2,bd2)=>some (#[],false,#[],false,[Kon.seq (.rangeFunc g ps as2 bd2)],k2,some (.func (.func gf) #[] lb),true)
   | _,_,_=>some (#[],false,#[],false,[],[],none,true)):=by kernel_rfl):AtO P B ⟨Qf,none⟩ ds n (some (1000+q,0)) L w:=by
 split at h
 rotate_left
 ·cases h
 rename_i O dr g1 ps1 as1 bd1 k1 O2 dr2 k2 g2 ps2 as2 bd2 h1 h2 h3;simp only [Gm_,Prod.mk.injEq,List.cons.injEq,Kon.seq.injEq,Code.rangeFunc.injEq,and_true] at h;obtain ⟨rfl,rfl,rfl,rfl,⟨rfl,rfl,rfl,rfl⟩,rfl,hg,hpn⟩:=h;refine ⟨_,_,_,h1,fun a E=>?_⟩;have hasO:aWs (1000+q) B=as1:=by unfold aWs;rw [h3]
 have hbdO:aWq (1000+q) B=bd1:=by unfold aWq;rw [h3]
 rw [hasO,hbdO] at hround;show (Code.rangeFunc g1 ps1 as1 bd1).wpIn (fen none) 0 P (post P ⟨Qf,none⟩ k1) a w;have hga:a.eval g1 = .func (.func gf) #[] lb:=E.opv hg;have hblt:∀ b,BlM M b->b<w.heap.size:=fun b ⟨x,hx,hb⟩=>x.lt (hM.at_ x hx) hb;refine wpIn_rangeFunc ?_;intro fn hfn;obtain ⟨rec,hrec⟩:∃ rec:LoopState->Option Code->Loop,rec=fun st pe=>{ state:=st,pending:=pe,fn,tmps:=a.tmps,params:=ps1,assign:=as1,body:=bd1,defers:=w.heap.size }:=⟨_,rfl⟩;obtain ⟨W1,hW1⟩:∃ W1,(w.alloc (.deferred (some []))).alloc (.loop (rec .ready none))=W1:=⟨_,rfl⟩
 have hL1:W1.heap[w.heap.size+1]?=some (.loop (rec .ready none)):=by
  rw [←hW1];exact aK3 (by simp) _
 have hK1:W1.heap[w.heap.size]?=some (.deferred (some [])):=by
  rw [←hW1];exact (aHx (by simp) _).trans (aBe _ _)
 have hf1:Fr nF_ w W1:=by rw [←hW1];exact ((Fr.refl _ _).alloc _).alloc _
 have hsz1:w.heap.size+2<=W1.heap.size:=by have:=aAl hL1;omega
 obtain ⟨e0,he0⟩:∃ e0,aU3 M w.heap.size (w.heap.size+1) (rec .ready none)=e0:=⟨_,rfl⟩;have hM1:=hM.q hf1
 have hF0:∀ W,Fr e0.B W1 W->Fr F0 w0 W:=fun W f=>hM1.fr.trans' f fun r hr hb=>by
  rw [←he0] at hb;have:=hM.fr.size;rcases hb with ⟨x,hx,hk⟩ | rfl | rfl
  ·exact hM.own x hx r hk hr
  ·omega
  ·omega
 refine ⟨w.heap.size+1,[{ target := .collected w.heap.size,args:=#[] }],W1,{ target := .fn (.func gf) lb,args:=#[.func (.yield (w.heap.size+1)) #[] #[]] },W1,gf,
  #[.func (.yield (w.heap.size+1)) #[] #[]]++lb,W1,?_,?_,fun _ _=>trivial,?_,fun h=>(by cases h),?_⟩
 ·rw [←hW1,hrec];exact run_enterLoop_outer _ _ _ _ _
 ·simp only [resolve,hga];simp [go_sem]
 ·have:=eg (#[.func (.yield (w.heap.size+1)) #[] #[]]++lb) W1;simp [invoke,go_sem,this]
 refine aK1 ((hY (w.heap.size+1) (fun k e=>∃ Mk,I k Mk /\ Mk.Pairwise (fun x y=>∀ k,x.B k->¬ y.B k) /\ (∀ b,BlM Mk b->(BlM M b∨w.heap.size+2<=b)) /\ e=aU3 Mk w.heap.size (w.heap.size+1) (rec .ready none))
   (fun W=>∃ M',T M' /\ Mm F0 w0 W (M'++[dfE w.heap.size]) /\ W.heap[w.heap.size+1]?=some (.loop (rec .done (some .ret))) /\ (∀ b,BlM M' b->b≠w.heap.size+1)) W1 e0 (hok _ fun W ⟨M',h,_⟩=>⟨M',h⟩)
   ⟨M,h0,hM.nd,fun b hb => .inl hb,he0.symm⟩ (by rw [←he0];exact ⟨hM1.at_,hK1,hL1⟩) (hK _ _ (fun k hk=>by
    rw [←he0] at hk;rcases hk with h | rfl | rfl
    ·exact .inl h
    ·exact .inr (Gl_ _)
    ·exact .inr (by omega)) hf1) (fun W W' ⟨M',h1,h2,h3,h4⟩ f=>⟨M',h1,h2.q f,f.obj h3 id,h4⟩) ?_).mono ?_)
 ·rintro k e v W ⟨Mk,hI,hnd,hsub,rfl⟩ ⟨hat,hkD,hl⟩ hfW hv;have hvm:v∈vs:=Ge_ hv;have hlt:=aAl hl;have hy:=run_yield (P:=P) (args:=v) hl (by rw [hrec];exact hps v hvm);rw [hrec] at hy
  have hnl:∀ b,BlM Mk b->b≠w.heap.size /\ b≠w.heap.size+1:=fun b hb=>by
   rcases hsub b hb with h | h
   ·have:=hblt b h;omega
   ·omega
  have hmW:Mm (BlM Mk) W W Mk:=⟨Fr.refl _ _,hat,fun x hx b hb _=>⟨x,hx,hb⟩,hnd⟩;have has:=hround k v Mk W (w.heap.size+1) hv hI (hF0 W hfW) hmW;refine ⟨0,fn,_,as1,bd1,hy,roundIn_of_wpIn hfn ?_⟩;clear hy
  have E0:EnvS [] n ((ps1.toList.zip v.toList).reverse++L) { tmps:=(ps1.zip v).foldl (fun t (p,v)=>t.setIfInBounds p v) a.tmps,defers:=[] }:=by
   have hz:=aOf (ds:=ds) (n:=n) (L:=L) (ps:=ps1.toList) (vs:=v.toList) (t:=a.tmps) ⟨E.size,fun s u hs=>E.at_ s u hs,rfl⟩ (by have:=hps v hvm;simpa using this.symm) (fun p hp=>by
    have:=List.all_eq_true.1 hpn p hp;simpa [Nat.blt_eq] using this)
   have hfo:(ps1.zip v).foldl (fun t (p,v)=>t.setIfInBounds p v) a.tmps=(ps1.toList.zip v.toList).foldl (fun t (p,v)=>t.setIfInBounds p v) a.tmps:=by rw [←Array.toList_zip,Array.foldl_toList]
   rw [hfo];exact hz
  refine wpIn_mono (has _ E0) ?_;rintro e9 a1 W2 hp
  cases e9 with
  | normal =>
   obtain ⟨Lb,M1,E1,hMa,hb⟩:=hp;have hfa:=hMa.fr;have hl9:=hfa.obj hl (fun h=>(hnl _ h).2 rfl);have hkD9:=hfa.obj hkD (fun h=>(hnl _ h).1 rfl);have hlt9:=aAl hl9;refine ⟨_,run_beginRound hl9 (by rw [hrec]),?_⟩;have f2:=Fr.putObj W2 (w.heap.size+1) (.loop { rec .ready none with state := .busy });obtain ⟨W3,hW3⟩:∃ W3,W2.putObj (w.heap.size+1) (.loop { rec .ready none with state := .busy })=W3:=⟨_,rfl⟩;have hl3:W3.heap[w.heap.size+1]?=some (.loop { rec .ready none with state := .busy }):=by rw [←hW3];exact World.putObj_heap_same hlt9
   rw [hW3] at f2 ⊢;have hkD3:=f2.obj hkD9 (by omega)
   have hM1n:∀ b,BlM M1 b->BlM Mk b∨W.heap.size<=b:=fun b ⟨x,hx,hb⟩=>by
    rcases Nat.lt_or_ge b W.heap.size with h | h
    ·exact .inl (hMa.own x hx b hb h)
    ·exact .inr h
   have hM1l:∀ b,BlM M1 b->b≠w.heap.size /\ b≠w.heap.size+1:=fun b hb=>by
    rcases hM1n b hb with h | h
    ·exact hnl b h
    ·omega
   have hM3:Mm (BlM M1) W3 W3 M1:=⟨Fr.refl _ _,fun x hx=>x.fr (hMa.at_ x hx) f2 fun b hb e=>(hM1l b ⟨x,hx,hb⟩).2 e,fun x hx b hb _=>⟨x,hx,hb⟩,hMa.nd⟩
   have hF3:Fr F0 w0 W3:=by
    refine ((hF0 W hfW).trans' hfa fun r hr hb=>?_).trans' f2 fun r hr e=>?_
    ·rcases hsub r hb with ⟨x,hx,h⟩ | h
     ·exact hM.own x hx r h hr
     ·have:=hM.fr.size;omega
    ·have:=hM.fr.size;omega
   have hsW:W.heap.size<=W3.heap.size:=Gp_ hfa.size f2.size;have hsWW:w.heap.size+2<=W.heap.size:=Gp_ hsz1 hfW.size
   have fin:∀ M' W',Mm (BlM M1) W3 W' M'->(∀ b,BlM M' b->(BlM M b∨w.heap.size+2<=b)) /\ (∀ b,BlM M' b->BlM Mk b∨W.heap.size<=b) /\ W'.heap[w.heap.size+1]?=some (.loop { rec .ready none with state := .busy }) /\ W'.heap[w.heap.size]?=some (.deferred (some [])):=by
    intro M' W' hm
    have hb1:∀ b,BlM M' b->BlM Mk b∨W.heap.size<=b:=fun b ⟨x,hx,hb⟩=>by
     rcases Nat.lt_or_ge b W3.heap.size with h | h
     ·exact hM1n b (hm.own x hx b hb h)
     ·exact .inr (Gp_ hsW h)
    refine ⟨fun b hb=>?_,hb1,hm.fr.obj hl3 (fun h=>(hM1l _ h).2 rfl),hm.fr.obj hkD3 (fun h=>(hM1l _ h).1 rfl)⟩;rcases hb1 b hb with h | h
    ·exact hsub b h
    ·exact .inr (Gp_ hsWW h)
   refine wpIn_mono (hb W3 (w.heap.size+1) ⟨aXW (fun W'=>∃ M',I (k+1) M' /\ Mm (BlM M1) W3 W' M') (fun W'=>∃ M',T M' /\ Mm (BlM M1) W3 W' M'),some (w.heap.size+1)⟩ hF3 hM3 ⟨rfl,fun a M' W' h1 h2=>⟨M',h1,h2⟩,fun a M' W' h1 h2=>⟨M',h1,h2⟩⟩ _ E1) ?_;rintro e a3 W4 hp
   cases e with
   | normal =>
    obtain ⟨M',hI',hm'⟩:=hp;obtain ⟨g1,g2,h4,h3⟩:=fin M' W4 hm';have hr:=run_endRound (P:=P) none h4;refine ⟨_,_,hr,.inl ⟨rfl,_,⟨M',hI',hm'.nd,g1,rfl⟩,⟨fun x hx=>x.fr (hm'.at_ x hx) (Fr.putObj W4 _ _) fun b hb e=>?_,(World.putObj_heap_other (by omega)).trans h3,?_⟩,?_,?_⟩⟩
    ·rcases g1 b ⟨x,hx,hb⟩ with h | h
     ·have:=hblt b h;omega
     ·omega
    ·refine (World.putObj_heap_same (aAl h4)).trans ?_;rw [hrec];rfl
    ·rintro b (h | h | h)
     ·rcases g2 b h with h | h
      ·exact .inl (.inl h)
      ·exact .inr h
     ·exact .inl (.inr (.inl h))
     ·exact .inl (.inr (.inr h))
    ·refine (((hfa.mono (G:=(aU3 Mk w.heap.size (w.heap.size+1) (rec .ready none)).B) fun _ _ h => .inl h).trans' f2 fun r _ e => .inr (.inr e)).trans' hm'.fr fun r hr hb=>?_).trans' (Fr.putObj W4 _ _) fun r _ e => .inr (.inr e);rcases hM1n r hb with h | h
     ·exact .inl h
     ·omega
   | ret =>
    obtain ⟨M',hI',hm'⟩:=hp;obtain ⟨g1,g2,h4,h3⟩:=fin M' W4 hm';have hr:=run_endRound (P:=P) (some .ret) h4;refine ⟨_,_,hr,.inr ⟨rfl,M',hI',?_,?_,fun b hb=>?_⟩⟩
    ·refine ⟨?_,fun x hx=>?_,fun x hx b hb hlt=>?_,?_⟩
     ·refine (hF3.trans' hm'.fr fun r hr hb=>?_).trans' (Fr.putObj W4 _ _) fun r hr e=>?_
      ·rcases hM1n r hb with h | h
       ·rcases hsub r h with ⟨x,hx,h⟩ | h
        ·exact hM.own x hx r h hr
        ·have:=hM.fr.size;omega
       ·have:=hM.fr.size;omega
      ·have:=hM.fr.size;omega
     ·rcases List.mem_append.1 hx with hx | hx
      ·refine x.fr (hm'.at_ x hx) (Fr.putObj W4 _ _) fun b hb e=>?_;rcases g1 b ⟨x,hx,hb⟩ with h | h
       ·have:=hblt b h;omega
       ·omega
      ·rw [Gd_] at hx;subst hx;exact (World.putObj_heap_other (by omega)).trans h3
     ·rcases List.mem_append.1 hx with hx | hx
      ·rcases g1 b ⟨x,hx,hb⟩ with ⟨y,hy,h⟩ | h
       ·exact hM.own y hy b h hlt
       ·have:=hM.fr.size;omega
      ·rw [Gd_] at hx;subst hx;have hb:b=w.heap.size:=hb;have:=hM.fr.size;omega
     ·refine List.pairwise_append.2 ⟨hm'.nd,List.pairwise_singleton _ _,fun x hx y hy b hb hb2=>?_⟩;rw [Gd_] at hy;subst hy;have hb2:b=w.heap.size:=hb2;rcases g1 b ⟨x,hx,hb⟩ with h | h
      ·have:=hblt b h;omega
      ·omega
    ·refine (World.putObj_heap_same (aAl h4)).trans ?_;rw [hrec];rfl
    ·rcases g1 b hb with h | h
     ·have:=hblt b h;omega
     ·omega
   | exit id=>exact hp.elim
   | goto t=>exact hp.elim
   | panic ch=>exact hp.elim
   | outgrown=>exact hp.elim
  | exit id=>exact hp.elim
  | goto t=>exact hp.elim
  | ret=>exact hp.elim
  | panic ch=>exact hp.elim
  | outgrown=>exact hp.elim
 ·rintro e W2 ⟨⟨v,rfl⟩,⟨_,⟨Mk,hI,hnd,hsub,rfl⟩,⟨hat,hkD,hl⟩,hfW⟩ | ⟨M',hT,hm,hl,hne⟩⟩
  ·have hr:=run_endLoop (P:=P) hl (by rw [hrec];simp);rw [hrec] at hr;refine ⟨none,_,hr,?_⟩
   have key:∀ W9 ob,W9=W2.putObj (w.heap.size+1) ob->Mm F0 w0 W9 (Mk++[dfE w.heap.size]):=by
    intro W9 ob hw9;subst hw9;refine ⟨(hF0 W2 hfW).trans' (Fr.putObj W2 _ _) fun r hr e=>?_,fun x hx=>?_,fun x hx b hb hlt=>?_,?_⟩
    ·have:=hM.fr.size;omega
    ·rcases List.mem_append.1 hx with hx | hx
     ·refine x.fr (hat x hx) (Fr.putObj W2 _ _) fun b hb e=>?_;rcases hsub b ⟨x,hx,hb⟩ with h | h
      ·have:=hblt b h;omega
      ·omega
     ·rw [Gd_] at hx;subst hx;exact (World.putObj_heap_other (by omega)).trans hkD
    ·rcases List.mem_append.1 hx with hx | hx
     ·rcases hsub b ⟨x,hx,hb⟩ with ⟨y,hy,h⟩ | h
      ·exact hM.own y hy b h hlt
      ·have:=hM.fr.size;omega
     ·rw [Gd_] at hx;subst hx;have hb:b=w.heap.size:=hb;have:=hM.fr.size;omega
    ·refine List.pairwise_append.2 ⟨hnd,List.pairwise_singleton _ _,fun x hx y hy b hb hb2=>?_⟩;rw [Gd_] at hy;subst hy;have hb2:b=w.heap.size:=hb2;rcases hsub b ⟨x,hx,hb⟩ with h | h
     ·have:=hblt b h;omega
     ·omega
   obtain ⟨O9,dr9,kk9,hf9,hk9⟩:=hdone Mk _ hI (key _ _ rfl);rw [h2] at hf9;cases hf9;exact hk9 _ ⟨E.size,fun s u hs=>E.at_ s u hs,by show _::a.defers=_;rw [E.df]⟩
  ·have hr:=run_endLoop (P:=P) hl (by rw [hrec];simp);rw [hrec] at hr;refine ⟨some .ret,_,hr,?_⟩;refine wpIn_ret (aEf (R:=⟨Qf,none⟩) (hstop _ M' _ hT ?_ ⟨E.size,fun s u hs=>E.at_ s u hs,by show _::a.defers=_;rw [E.df]⟩));refine ⟨hm.fr.trans' (Fr.putObj W2 _ _) fun r hr e=>?_,fun x hx=>x.fr (hm.at_ x hx) (Fr.putObj W2 _ _) fun b hb e=>?_,hm.own,hm.nd⟩
   ·have:=hM.fr.size;omega
   ·rcases List.mem_append.1 hx with hx | hx
    ·exact hne b ⟨x,hx,hb⟩ e
    ·rw [Gd_] at hx;subst hx;have hb:b=w.heap.size:=hb;omega
theorem aXv (q:Nat) {g:Operand}{ps:Array Tmp}{gf:Nat}{lb:Array Value}{vs:List (Array Value)}{Kp:(Nat->Prop)->World->Prop}(I:Nat->List Ent->Prop) (T:List Ent->Prop)
  (hM:Mm F0 w0 w M) (h0:I 0 M) (eg:aJ1 P gf) (hY:aNX P gf lb vs Kp)
  (hK:∀ (G:Nat->Prop) W,(∀ k,G k->BlM M k∨w.heap.size<=k)->Fr nF_ w W->Kp G W)
  (hps:∀ v∈vs,v.size=ps.size)
  (hround:∀ k v Mk W l,vs[k]?=some v->I k Mk->Fr F0 w0 W->Mm (BlM Mk) W W Mk->AtO P (aWs (1000+q) B) ⟨RAs P (aWq (1000+q) B) n F0 w0 I T k Mk W,some l⟩ [] n none ((ps.toList.zip v.toList).reverse++L) W)
  (hdone:∀ M' W',I vs.length M'->Mm F0 w0 W' (M'++[dfE w.heap.size])->AtO P B ⟨Qf,none⟩ (mkD w.heap.size::ds) n (some (2000+q,0)) L W')
  (hstop:∀ a M' W',T M'->Mm F0 w0 W' (M'++[dfE w.heap.size])->EnvS (mkD w.heap.size::ds) n L a->Qf .ret a W')
  (h:(match aAT (1000+q) B [],aAT (2000+q) B [],aLg (1000+q) B with
   | some (O,dr,.seq (.rangeFunc g1 ps1 as1 bd1)::k1),some (O2,dr2,k2),some (g2,ps2,as2,bd2)=>some (O,dr,O2,dr2,[Kon.seq (.rangeFunc g1 ps1 as1 bd1)],k1,opv L g1,ps.toList.all fun p=>Nat.blt p n)
   | _,_,_=>none)=(match aAT (1000+q) B [],aAT (2000+q) B [],aLg (1000+q) B with
   | some (O,dr,.seq (.rangeFunc g1 ps1 as1 bd1)::k1),some (O2,dr2,k2),some (g2,ps2,as2,bd2)=>some (#[],false,#[],false,[Kon.seq (.rangeFunc g ps as2 bd2)],k2,some (.func (.func gf) #[] lb),true)
   | _,_,_=>some (#[],false,#[],false,[],[],none,true)):=by kernel_rfl):AtO P B ⟨Qf,none⟩ ds n (some (1000+q,0)) L w :=
 aVA (ok:=fun _=>True) q I T hM h0 eg (fun l J S W0 e0 _=>hY l J S W0 e0) (fun _ _=>trivial) hK hps hround hdone hstop h
theorem aWS (q:Nat) {g:Operand}{ps:Array Tmp}{gf:Nat}{lb:Array Value}{vs:List (Array Value)}{Kp:(Nat->Prop)->World->Prop}(I:Nat->List Ent->Prop)
  (hM:Mm F0 w0 w M) (h0:I 0 M) (eg:aJ1 P gf) (hY:aWw P gf lb vs Kp)
  (hK:∀ (G:Nat->Prop) W,(∀ k,G k->BlM M k∨w.heap.size<=k)->Fr nF_ w W->Kp G W)
  (hps:∀ v∈vs,v.size=ps.size)
  (hround:∀ k v Mk W l,vs[k]?=some v->I k Mk->Fr F0 w0 W->Mm (BlM Mk) W W Mk->AtO P (aWs (1000+q) B) ⟨RAs P (aWq (1000+q) B) n F0 w0 I nF_ k Mk W,some l⟩ [] n none ((ps.toList.zip v.toList).reverse++L) W)
  (hdone:∀ M' W',I vs.length M'->Mm F0 w0 W' (M'++[dfE w.heap.size])->AtO P B ⟨Qf,none⟩ (mkD w.heap.size::ds) n (some (2000+q,0)) L W')
  (h:(match aAT (1000+q) B [],aAT (2000+q) B [],aLg (1000+q) B with
   | some (O,dr,.seq (.rangeFunc g1 ps1 as1 bd1)::k1),some (O2,dr2,k2),some (g2,ps2,as2,bd2)=>some (O,dr,O2,dr2,[Kon.seq (.rangeFunc g1 ps1 as1 bd1)],k1,opv L g1,ps.toList.all fun p=>Nat.blt p n)
   | _,_,_=>none)=(match aAT (1000+q) B [],aAT (2000+q) B [],aLg (1000+q) B with
   | some (O,dr,.seq (.rangeFunc g1 ps1 as1 bd1)::k1),some (O2,dr2,k2),some (g2,ps2,as2,bd2)=>some (#[],false,#[],false,[Kon.seq (.rangeFunc g ps as2 bd2)],k2,some (.func (.func gf) #[] lb),true)
   | _,_,_=>some (#[],false,#[],false,[],[],none,true)):=by kernel_rfl):AtO P B ⟨Qf,none⟩ ds n (some (1000+q,0)) L w :=
 aVA q I nF_ hM h0 eg hY (fun S h W hS=>(h W hS).elim fun _ h=>h) hK hps hround hdone (fun _ _ _ h=>h.elim) h
end
section
variable {P:Program}{B:Code}{R:Pst}{ds:List Deferred}{n:Nat}{p:Option (Nat×Nat)}{L:Frm}{w w0:World}{F:List Ft}{F0:Nat->Prop}{M:List Ent}{fn:Func}{Φ:Ending->World->Prop}
def aXg (b:Bool) (x:Res) (N L:Frm):Option (Bool×List (Option Value)×List Eqn) :=
 match x with
 | some (m,nw,_,es)=>some (match m with | .ret=>b | .nrm => !b | _=>false,N.map (fun y=>look (nw++L) y.1),es.map Eqn.l)
 | none=>none
theorem aX1 (b:Bool) (N:Frm) (hF:aAQ P w F) (h:aXg b (go P w n B p L 1000000 0 F) N L=aL6 (go P w n B p L 1000000 0 F) N) (k:∀ a,EnvS ds n N a->R.q (match b with | true => .ret | false => .normal) a w):AtO P B R ds n p L w:=by
 cases hx:go P w n B p L 1000000 0 F with
 | none=>rw [hx] at h;cases h
 | some z =>
  obtain ⟨m,nw,fs,es⟩:=z;rw [hx] at h;have h:=Gh_ h;obtain ⟨h1,h⟩:=Prod.mk.inj h;obtain ⟨h2,h3⟩:=Prod.mk.inj h;refine aJd hx hF (aH7.of h3) fun a E=>?_;have hk:=k a (E.sub fun s v hs=>(List.map_inj_left.1 h2) (s,v) (aBm hs))
  cases m with
  | ret=>cases b with
   | true=>exact hk
   | false=>cases h1
  | nrm=>cases b with
   | true=>cases h1
   | false=>exact hk
  | _=>cases h1
theorem aUq (N:Frm) (hF:aAQ P w F) (k:∀ a,EnvS ds n N a->R.q .normal a w) (h:aXg false (go P w n B p L 1000000 0 F) N L=aL6 (go P w n B p L 1000000 0 F) N:=by kernel_rfl):AtO P B R ds n p L w:=aX1 false N hF h k
theorem aXX (N:Frm) (hF:aAQ P w F) (k:∀ a,EnvS ds n N a->R.q .ret a w) (h:aXg true (go P w n B p L 1000000 0 F) N L=aL6 (go P w n B p L 1000000 0 F) N:=by kernel_rfl):AtO P B R ds n p L w:=aX1 true N hF h k
theorem Mm.unmark {D:Nat}{w':World}(h:Mm F0 w0 w (M++[dfE D])) (f:Fr (aHf [mkD D]) w w'):Mm F0 w0 w' M:=by
 have hi:∀ r,aHf [mkD D] r->r=D:=fun r hr=>by
  rcases aEF.1 hr with h | h
  ·exact h
  ·cases h
 have hm:dfE D∈M++[dfE D]:=by simp
 obtain ⟨n1,_,n3⟩:=List.pairwise_append.1 h.nd;exact ⟨h.fr.trans' f fun r hr hg=>h.own _ hm r (hi r hg) hr,fun e he=>e.fr (h.at_ e (Gv_ _ he)) f fun k hk hg=>n3 e he (dfE D) (by simp) k hk (hi k hg),fun e he=>h.own e (Gv_ _ he),n1⟩
abbrev aOo (P:Program) (fn:Func) (Φ:Ending->World->Prop):Pst:=⟨bodyPostM Fence.wide 0 P fn Φ,none⟩
theorem aPM {a:Act}{D:Nat}{u:Bool}(E:a.defers=[mkD D]) (hM:Mm F0 w0 w (M++[dfE D])) (hres:∀ w',Mm F0 w0 w' M->∃ v,(results fn a.tmps).run P w' = .ok v w' /\ Φ (.returned v) w'):bodyPostM Fence.wide 0 P fn Φ .ret a w /\ bodyPostM Fence.wide 0 P fn Φ .normal a w:=by
 have:LeavesInM Fence.wide 0 P fn a.tmps Φ a.defers .returning w:=by
  rw [E]
  exact aUz _ w ⟨by simp,fun d hd=>by
   rw [Gd_] at hd;exact ⟨D,hd,hM.at_ (dfE D) (by simp)⟩⟩ fun w' hf=>hres w' (hM.unmark hf)
 exact ⟨this,this⟩
theorem aWU {a:Act}{t:Nat}{v:Value}(hr:fn.results=#[.tmp t]) (hv:a.eval (.tmp t)=v) (w:World):(results fn a.tmps).run P w = .ok v w:=by
 unfold results;rw [hr];have:a.tmps.getD t undef=v:=hv;rw [Array.getD_eq_getD_getElem?] at this;simp [this]
theorem aXu {D:Nat}(t:Nat) (v:Value) (hr:fn.results=#[.tmp t]) (hF:aAQ P w F) (hM:Mm F0 w0 w (M++[dfE D])) (k:∀ w',Mm F0 w0 w' M->Φ (.returned v) w') (h:aOe (go P w n B p L 1000000 0 F) [(t,v)] L=aL6 (go P w n B p L 1000000 0 F) [(t,v)]:=by kernel_rfl):AtO P B (aOo P fn Φ) [mkD D] n p L w :=
 aOd [(t,v)] hF h fun a E=>aPM (u:=true) E.df hM fun w' hM'=>⟨v,aWU hr (E.at_ t v (by simp [look])) w',k w' hM'⟩
theorem aXm {f:FuncId}{args:Array Value}(hf:P.funcs[f]?=some fn) (hb:fn.body=some B) (hn:fn.ntmps=n) (L:Frm) (hL:L=(List.range args.size).zip args.toList) (hs:Nat.ble args.size n=true) (k:∀ Φ':Ending->World->Prop,(∀ e w',Φ e w'->Φ' e w')->AtO P B (aOo P fn Φ') [] n none L w):Calls P f args w Φ:=by
 have hs:args.size<=n:=Nat.le_of_ble_eq_true hs;refine (callsIn_wide (n:=0)).1 (callsIn_of_wp_marks hf hb trivial (k Φ (fun _ _ h=>h) _ (aJi hn hL hs)))
end
theorem aT1 {α:Type}{L:List α}{g:α->Array Value}{k:Nat}{v:Array Value}(h:(L.map g)[k]?=some v):∃ y,L[k]?=some y /\ g y=v:=by
 rw [Gu_] at h
 cases hq:L[k]? with
 | none=>rw [hq] at h;cases h
 | some y=>rw [hq] at h;exact ⟨y,rfl,Gh_ h⟩
theorem aF1 {α:Type}{L:List α}{g:α->Array Value}{k:Nat}{y:α}(h:L[k]?=some y):(L.map g)[k]?=some (g y):=by rw [Gu_,h];rfl
theorem vsz {α:Type}{L:List α}{g:α->Array Value}{ps:Array Tmp}(h:(fun y=>(g y).size)=fun _=>ps.size):∀ v∈L.map g,v.size=ps.size:=fun v hv=>by
 obtain ⟨y,_,rfl⟩:=List.mem_map.1 hv;exact congrFun h y
theorem Mm.geK {w w0:World}{M:List Ent}{G:Nat->Prop}(h:Mm nF_ w0 w M) (hG:∀ k,G k->BlM M k∨w.heap.size<=k):∀ k,G k->w0.heap.size<=k:=fun k hk=>(hG k hk).elim (fun ⟨_,he,hb⟩=>h.ge he hb) fun hl=>Gp_ h.fr.size hl
def aX2 (P:Program) (E c:Nat):Bool:=match P.info? E with
 | some i=>match i.zero with
  | some z=>Nat.beq i.size c&&Nat.beq z.cells.size c&&Nat.ble i.bytes 93
  | none=>false
 | none=>false
theorem aBO {P:Program}{E c:Nat}(h:aX2 P E c=true):∃ i z,P.info? E=some i /\ i.zero=some z /\ i.size=c /\ z.cells.size=c /\ i.bytes<=93:=by
 unfold aX2 at h
 split at h
 ·rename_i i hi
  split at h
  ·rename_i z hz;simp only [Ga_] at h;exact ⟨i,z,hi,hz,Nat.eq_of_beq_eq_true h.1.1,Nat.eq_of_beq_eq_true h.1.2,Nat.le_of_ble_eq_true h.2⟩
  ·cases h
 ·cases h
def aH6 {α:Type}(f:α->List Value) (c E:Nat) (w w':World) (v:Value) (A:List α):Prop:=ow f c E w' 0 v A /\ ∀ k,v.ownBlock=some k->w.heap.size<=k
theorem Mm.nrow {α:Type}{f:α->List Value}{c E j:Nat}{w w0:World}{M:List Ent}{v:Value}{A:List α}(h:Mm nF_ w0 w M) (hj:M[j]?=some (rw_ f c E v A)):aH6 f c E w0 w v A:=⟨h.get j hj,fun k hk=>h.ge (Ge_ hj) hk⟩
theorem aH6.mono {α:Type}{f:α->List Value}{c E:Nat}{w0 w w':World}{v:Value}{A:List α}(h:aH6 f c E w w' v A) (hs:w0.heap.size<=w.heap.size):aH6 f c E w0 w' v A:=⟨h.1,fun k hk=>Gp_ hs (h.2 k hk)⟩
theorem aH6.op {α:Type}{f:α->List Value}{c E:Nat}{w w':World}{v:Value}{A:List α}(h:aH6 f c E w w' v A) (hf:∀ x,(f x).length=c):∃ p cap,v=vL p A.length cap /\ SrcP f c w' p cap A:=(show Src f c w' v A from h.1.src hf).op
theorem aMT {P:Program}{B:Code}{R:Pst}{ds:List Deferred}{n:Nat}{p:Option (Nat×Nat)}{L:Frm}{w w0:World}{F:List Ft}{F0:Nat->Prop}{M:List Ent}{α:Type}{f:α->List Value}{c E:Nat}{A:List α}(r' i' d:Nat) (N:Frm) {g:FuncId}{args:Array Value}(hF:aAQ P w F) (hM:Mm F0 w0 w M) (hc:Calls P g args w fun e w'=>∃ v,e = .returned v /\ aH6 f c E w w' v A /\ Fr nF_ w w') (k:∀ v w',Mm F0 w0 w' (M++[rw_ f c E v A])->AtO P B R ds n (some (r',i'+1)) ((d,v)::(N++L)) w') (h:(lhs (go P w n B p L r' i' F) N L,aKb P w n L (go P w n B p L r' i' F))=(rhs (go P w n B p L r' i' F) N B r' i',some (d,.ok (.enter g args,w))):=by kernel_rfl):AtO P B R ds n p L w :=
 cal r' i' d N (K:=fun u w'=>aH6 f c E w w' u A /\ Fr nF_ w w') hF hc (fun u w' ⟨h1,h2⟩=>k u w' (hM.add h2 _ h1.1 h1.2)) h
theorem aFc {M:List Ent}:∀ {a b:List Nat},aBK M (a++b)=aBK M a++aBK M b
 | [],b=>rfl
 | j::a,b=>by
  show (match M[j]? with | some e=>e::aBK M (a++b) | none=>aBK M (a++b))=(match M[j]? with | some e=>e::aBK M a | none=>aBK M a)++aBK M b;rw [aFc (a:=a) (b:=b)];cases M[j]?<;>rfl
theorem aAM {P:Program}{B:Code}{R:Pst}{ds:List Deferred}{n:Nat}{p:Option (Nat×Nat)}{L:Frm}{w w0:World}{F:List Ft}{F0:Nat->Prop}{M A Ms:List Ent}{K:Value->List Ent->Prop}(r' i' d:Nat) (N:Frm) {g:FuncId}{args:Array Value}(is js:List Nat) (hF:aAQ P w F) (hM:Mm F0 w0 w M) (hA:aBK M is=A) (hS:aBK M js=Ms) (hn:(is++js).Nodup) (hc:Mm (BlM Ms) w w Ms->Calls P g args w fun e w'=>∃ v Mn,e = .returned v /\ K v Mn /\ Mm (BlM Ms) w w' Mn) (k:∀ v Mn w',K v Mn->Mm F0 w0 w' (A++Mn)->AtO P B R ds n (some (r',i'+1)) ((d,v)::(N++L)) w') (h:(lhs (go P w n B p L r' i' F) N L,aKb P w n L (go P w n B p L r' i' F))=(rhs (go P w n B p L r' i' F) N B r' i',some (d,.ok (.enter g args,w))):=by kernel_rfl):AtO P B R ds n p L w:=by
 have hp:aBK M (is++js)=A++Ms:=by
  rw [←hA,←hS,aFc]
 have hM1:=hM.pick (is++js) hp hn;have hMs:Mm F0 w0 w Ms:=hM.pick js hS (List.nodup_append.1 hn).2.1;refine cal r' i' d N (K:=fun u w'=>∃ Mn,K u Mn /\ Mm (BlM Ms) w w' Mn) hF ((hc (hMs.re fun e he k hk=>⟨e,he,hk⟩)).mono fun e w' ⟨v,Mn,h1,h2⟩=>⟨v,h1,Mn,h2⟩) (fun u w' ⟨Mn,h1,h2⟩=>k u Mn w' h1 (hM1.call h2 fun _ _ h=>h)) h
theorem aVB {P:Program}{w:World}{fn:Func}{a:Act}{t2 t3 t4 T2 T3 T4 b2 b3 b4:Nat}{v2 v3 v4:Value}(hr:fn.results=#[.cell t2 T2,.cell t3 T3,.cell t4 T4]) (h2:a.eval (.tmp t2)=vP b2 0) (h3:a.eval (.tmp t3)=vP b3 0) (h4:a.eval (.tmp t4)=vP b4 0) (l2:(Instr.loadAt T2 (vP b2 0)).run P w = .ok v2 w) (l3:(Instr.loadAt T3 (vP b3 0)).run P w = .ok v3 w) (l4:(Instr.loadAt T4 (vP b4 0)).run P w = .ok v4 w):(results fn a.tmps).run P w = .ok (.tuple #[v2,v3,v4]) w:=by
 have e2:a.tmps[t2]?.getD undef=vP b2 0:=by have:a.tmps.getD t2 undef=vP b2 0:=h2;simpa using this
 have e3:a.tmps[t3]?.getD undef=vP b3 0:=by have:a.tmps.getD t3 undef=vP b3 0:=h3;simpa using this
 have e4:a.tmps[t4]?.getD undef=vP b4 0:=by have:a.tmps.getD t4 undef=vP b4 0:=h4;simpa using this
 simp only [Instr.loadAt,Instr.sureAddr,Sem.run_bind,Sem.run_pure,Result.andThen_ok] at l2 l3 l4;simp [results,hr,e2,e3,e4,asAddr,l2,l3,l4]
section
variable {P:Program}{B:Code}{n:Nat}{p:Option (Nat×Nat)}{L:Frm}{w w0:World}{F:List Ft}{F0:Nat->Prop}{M:List Ent}{fn:Func}{Φ:Ending->World->Prop}{t2 t3 t4 T2 T3 T4 b2 b3 b4:Nat}{v2 v3 v4:Value}
theorem aR3 {a:Act}(hr:fn.results=#[.cell t2 T2,.cell t3 T3,.cell t4 T4]) (h2:a.eval (.tmp t2)=vP b2 0) (h3:a.eval (.tmp t3)=vP b3 0) (h4:a.eval (.tmp t4)=vP b4 0) (j2 j3 j4:Nat) (m2:M[j2]?=some (bk b2 #[v2] T2)) (m3:M[j3]?=some (bk b3 #[v3] T3)) (m4:M[j4]?=some (bk b4 #[v4] T4)) (hs:(scT P T2,scT P T3,scT P T4)=(true,true,true)) (hM:Mm F0 w0 w M):(results fn a.tmps).run P w = .ok (.tuple #[v2,v3,v4]) w:=by
 simp only [Prod.mk.injEq] at hs;exact aVB hr h2 h3 h4 (aB1 hs.1 (bx (hM.get j2 m2) 0 rfl)) (aB1 hs.2.1 (bx (hM.get j3 m3) 0 rfl)) (aB1 hs.2.2 (bx (hM.get j4 m4) 0 rfl))
theorem aWP {D:Nat}(j2 j3 j4:Nat) (hr:fn.results=#[.cell t2 T2,.cell t3 T3,.cell t4 T4]) (hF:aAQ P w F) (hM:Mm F0 w0 w (M++[dfE D])) (m2:M[j2]?=some (bk b2 #[v2] T2)) (m3:M[j3]?=some (bk b3 #[v3] T3)) (m4:M[j4]?=some (bk b4 #[v4] T4)) (k:∀ w',Mm F0 w0 w' M->Φ (.returned (.tuple #[v2,v3,v4])) w')
  (hs:(scT P T2,scT P T3,scT P T4,look [(t2,vP b2 0),(t3,vP b3 0),(t4,vP b4 0)] t3,look [(t2,vP b2 0),(t3,vP b3 0),(t4,vP b4 0)] t4)=(true,true,true,some (vP b3 0),some (vP b4 0)):=by kernel_rfl)
  (h:aOe (go P w n B p L 1000000 0 F) [(t2,vP b2 0),(t3,vP b3 0),(t4,vP b4 0)] L=aL6 (go P w n B p L 1000000 0 F) [(t2,vP b2 0),(t3,vP b3 0),(t4,vP b4 0)]:=by kernel_rfl):AtO P B (aOo P fn Φ) [mkD D] n p L w:=by
 simp only [Prod.mk.injEq] at hs;obtain ⟨s1,s2,s3,s4,s5⟩:=hs;exact aOd _ hF h fun a E=>aPM (u:=true) E.df hM fun w' hM'=>⟨_,aR3 hr (E.at_ t2 _ (by simp [look])) (E.at_ t3 _ s4) (E.at_ t4 _ s5) j2 j3 j4 m2 m3 m4 (by rw [s1,s2,s3]) hM',k w' hM'⟩
end
theorem Mm.apart {F0:Nat->Prop}{w0 w:World}{M N:List Ent}(h:Mm F0 w0 w (M++N)) {x:Ent}(hx:x∈N) {k:Nat}(hk:x.B k):¬ BlM M k:=fun ⟨e,he,hb⟩=>(List.pairwise_append.1 h.nd).2.2 e he x hx k hb hk
section
variable {P:Program}{B:Code}{R:Pst}{ds:List Deferred}{n:Nat}{p:Option (Nat×Nat)}{L:Frm}{w w0:World}{F:List Ft}{F0:Nat->Prop}{M Ms:List Ent}
theorem aNR (r' i' d:Nat) (N:Frm) {g:FuncId}{args:Array Value}{ch:List PanicEntry}(js:List Nat) (hF:aAQ P w F) (hM:Mm F0 w0 w M) (hS:aBK M js=Ms) (hn:js.Nodup) (hc:Mm (BlM Ms) w w Ms->Calls P g args w fun e w'=>e = .panicked ch /\ Fr (BlM Ms) w w') (k:∀ a w',Fr F0 w0 w'->a.defers=ds->R.q (.panic ch) a w') (h:(lhs (go P w n B p L r' i' F) N L,aKb P w n L (go P w n B p L r' i' F))=(rhs (go P w n B p L r' i' F) N B r' i',some (d,.ok (.enter g args,w))):=by kernel_rfl):AtO P B R ds n p L w :=
 aIH hF h fun O kk o l a hf hd1 E hd hdn hw hr=>by
  have hMs:Mm F0 w0 w Ms:=hM.pick js hS hn;refine aJM hw (aKI (R:=fun _ _=>False) (Rp:=fun c w'=>c=ch /\ Fr (BlM Ms) w w') hr ((hc (hMs.re fun e he k hk=>⟨e,he,hk⟩)).mono fun e w' h => .inr ⟨ch,h.1,rfl,h.2⟩) (fun _ _ h=>h.elim) fun c w' ⟨hc,hf9⟩=>?_);subst hc;exact aCa (k a w' (hM.fr.trans' hf9 fun r hr ⟨e,he,hb⟩=>hMs.own e he r hb hr) E.df)
def aVC (n:Nat) (LL:Frm):Md->Option (Option Bool×Option Value)
 | .ops _ O (o::_) _ _=>match o.op with
  | .panic x=>some (aCU O LL n o,opv LL x)
  | _=>none
 | _=>none
theorem pan (r' i':Nat) (N:Frm) (T:TypeId) (u:Value) (hF:aAQ P w F) (hM:Mm F0 w0 w M) (k:∀ a,Fr F0 w0 w->a.defers=ds->R.q (.panic [{ v := .iface T u,recovered:=false }]) a w)
  (h:(lhs (go P w n B p L r' i' F) N L,(go P w n B p L r' i' F).bind fun x=>aVC n (x.2.1++L) x.1)=(rhs (go P w n B p L r' i' F) N B r' i',some (some true,some (.iface T u))):=by kernel_rfl):AtO P B R ds n p L w:=by
 obtain ⟨h1,h2⟩:=Prod.mk.inj h;obtain ⟨m,nw,fs,es,hx,hE,⟨z,hl,ht⟩,hs⟩:=aEI h1;rw [hx] at h2;refine aJd hx hF hE fun a E=>?_;unfold aVC at h2
 cases m with
 | ops r O l i k1 =>
  cases l with
  | nil=>cases h2
  | cons o l =>
   simp only [Option.bind_some] at h2
   split at h2
   ·rename_i x hop;simp only [Gm_,Prod.mk.injEq] at h2;obtain ⟨g1,g2⟩:=h2
    have hr:(execOp a.eval o).run P w = .halt (.panic (.iface T u)) w:=by
     have hev:a.eval x = .iface T u:=E.opv g2;simp only [execOp,hop,hev];simp [go_sem]
    show wpListIn (fen R.rd) 0 P O (post P R k1) (o::l) a w;exact aJM (aC0 g1 E) (aQN (by rw [hop];intro c hc;cases hc) hr (aCa (k a hM.fr E.df)))
   ·cases h2
 | _=>cases h2
end
theorem pn_ {P:Program}{fn:Func}{Φ:Ending->World->Prop}{a:Act}{w:World}{ch:List PanicEntry}(hd:a.defers=[]) (h:Φ (.panicked ch) w):bodyPost P fn Φ (.panic ch) a w:=⟨hd,h⟩
theorem aMs:∀ (l:List Value) (cs:Array Value) (k p:Nat),k+l.length<=cs.size->(aLm cs k l)[p]?=if k<=p /\ p<k+l.length then l[p-k]? else cs[p]?
 | [],cs,k,p,h=>by
  rw [if_neg (by simp only [Go_];omega)];rfl
 | v::l,cs,k,p,h=>by
  rw [Gf_] at h;unfold aLm;rw [aMs l _ _ p (by rw [Array.size_setIfInBounds];omega),Array.getElem?_setIfInBounds,Gf_]
  by_cases h1:p=k
  ·subst h1;rw [if_neg (by omega),if_pos rfl,if_pos (by omega),if_pos (by omega),Nat.sub_self];rfl
  ·by_cases h2:k+1<=p /\ p<k+1+l.length
   ·rw [if_pos h2,if_pos (by omega),show p-k=p-(k+1)+1 by omega,List.getElem?_cons_succ]
   ·rw [if_neg h2,if_neg (fun e=>h1 e.symm),if_neg (by omega)]
section
variable {P:Program}{w:World}{α:Type}{f:α->List Value}{c E B n cap g:Nat}{q:Option Addr}{A:List α}
theorem aWX (hlen:∀ x,(f x).length=c) (h:ow f c E w B (.slice q n cap) A) {i:Nat}{y:α}(hy:A[i]?=some y):∃ g,q=some ⟨g,0,none⟩ /\ w.rangeAt g (0+i*c) (f y):=by
 have hi:=(List.getElem?_eq_some_iff.1 hy).1;rcases h.2 with ⟨_,h2⟩ | ⟨g,cap',cur,h1,hB,h3,h4,h5,h6,h7⟩
 ·omega
 ·injection h1 with e1 e2 e3
  refine ⟨g,e1,fun j u hu=>?_⟩;have hj:j<c:=by rw [←hlen y];exact (List.getElem?_eq_some_iff.1 hu).1
  have h8:=aDs hlen A i y hy j hj
  rw [hu,←h7,List.getElem?_take_of_lt (by
   have:i*c+c<=A.length*c:=by rw [←Nat.succ_mul];exact Nat.mul_le_mul_right c hi
   omega),Array.getElem?_toList] at h8
  rw [aA1 h3,Nat.zero_add];exact h8
theorem aRD (hlen:∀ x,(f x).length=c) (h:ow f c E w B (.slice q n cap) A) (hq:q=some ⟨g,0,none⟩) {i k:Nat}{y y':α}{us:List Value}(hy:A[i]?=some y) (hk:k+us.length<=c) (hy':f y'=(f y).take k++us++(f y).drop (k+us.length)) (ho:us.all (·.oneCell')=true) :
  ∃ w',(storeCells ⟨g,0+i*c+k,none⟩ us 0).run P w = .ok () w' /\ ow f c E w' B (.slice q n cap) (A.set i y') /\ Fr (fun r=>r=g) w w':=by
 have hi:=(List.getElem?_eq_some_iff.1 hy).1;rcases h.2 with ⟨_,h2⟩ | ⟨g',cap',cur,h1,hB,h3,h4,h5,h6,h7⟩
 ·omega
 ·injection h1 with e1 e2 e3
  rw [hq] at e1
  injection e1 with e1
  injection e1 with e1 _ _
  subst e1 e3;have hic:i*c+c<=A.length*c:=by rw [←Nat.succ_mul];exact Nat.mul_le_mul_right c hi
  have hcs:A.length*c<=cur.size:=by rw [h6];exact Nat.mul_le_mul_right c h4
  obtain ⟨w',r1,r2,r3⟩:=aBj (P:=P) us (k:=0+i*c+k) (i:=0) h3 (by omega) ho;refine ⟨w',r1,⟨by rw [aCw hlen,List.length_set],.inr ⟨g,cap,_,by rw [hq,List.length_set,e2],hB,r2,by rw [List.length_set];exact h4,h5,by rw [aPi];exact h6,?_⟩⟩,r3⟩;have hpg:=aMs us cur (0+i*c+k+0);have hfy:(f y).length=c:=hlen y;apply List.ext_getElem?;intro p;rw [List.length_set]
  by_cases hp:p<A.length*c
  ·have hc:0<c:=Nat.pos_of_ne_zero fun e=>by rw [e] at hp;omega
   have hm:p%c<c:=Nat.mod_lt _ hc;have hd:p / c<A.length:=(Nat.div_lt_iff_lt_mul hc).2 hp;have e:p / c*c+p%c=p:=by rw [Nat.mul_comm];exact Nat.div_add_mod p c
   obtain ⟨x,hx⟩:∃ x,(A.set i y')[p / c]?=some x:=⟨_,Gb_ (by rw [List.length_set];exact hd)⟩;have h8:=aDs hlen (A.set i y') (p / c) x hx (p%c) hm;rw [e] at h8;rw [h8,List.getElem?_take_of_lt hp,Array.getElem?_toList,hpg p (by omega)]
   have hold:∀ z,A[p / c]?=some z->cur[p]?=(f z)[p%c]?:=fun z hz=>by
    have h9:=aDs hlen A (p / c) z hz (p%c) hm;rw [e,←h7,List.getElem?_take_of_lt hp,Array.getElem?_toList] at h9;exact h9
   by_cases ht:i=p / c
   ·rw [←ht,List.getElem?_set_self hi] at hx;have hx:=Gh_ hx;subst hx;have hz:=hold y (by rw [←ht];exact hy);have e':i*c+p%c=p:=by rw [ht];exact e
    rw [hy']
    by_cases h1:p%c<k
    ·rw [if_neg (by omega),hz,Gn_,List.getElem?_append_left (by rw [Gt_];omega),List.getElem?_take_of_lt h1]
    ·by_cases h2:p%c<k+us.length
     ·rw [if_pos (by omega),Gn_,List.getElem?_append_right (by rw [Gt_];omega),Gt_,Nat.min_eq_left (by omega),List.getElem?_append_left (by omega),show p-(0+i*c+k+0)=p%c-k by omega]
     ·rw [if_neg (by omega),hz,List.getElem?_append_right (by rw [Gk_,Gt_];omega),Gk_,Gt_,Nat.min_eq_left (by omega),List.getElem?_drop,show k+us.length+(p%c-(k+us.length))=p%c by omega]
   ·rw [List.getElem?_set_ne ht] at hx;rw [if_neg ?_,hold x hx];intro hh;rcases Nat.lt_or_ge (p / c) i with h | h
    ·have:p / c*c+c<=i*c:=by rw [←Nat.succ_mul];exact Nat.mul_le_mul_right c h
     omega
    ·have h:i<p / c:=by omega
     have:i*c+c<=p / c*c:=by rw [←Nat.succ_mul];exact Nat.mul_le_mul_right c h
     omega
  ·rw [List.getElem?_eq_none (by rw [Gt_];omega),List.getElem?_eq_none (by rw [aCw hlen,List.length_set];omega)]
end
section
variable {P:Program}{B:Code}{R:Pst}{ds:List Deferred}{n:Nat}{p:Option (Nat×Nat)}{L:Frm}{w w0:World}{r' i':Nat}{F:List Ft}{F0:Nat->Prop}{M:List Ent}
variable {α:Type}{f:α->List Value}{c E TS:Nat}{q:Option Addr}{A:List α}{g cap m:Nat}
theorem Mm.el (X:ElT P f c TS E) (hM:Mm F0 w0 w M) {j:Nat}(hj:M[j]?=some (rw_ f c E (.slice q m cap) A)) {i:Nat}{y:α}(hy:A[i]?=some y):∃ g,q=some ⟨g,0,none⟩ /\ w.rangeAt g (0+i*c) (f y) :=
 aWX X.len (hM.get j hj) hy
theorem ldr (T j k:Nat) {i:Nat}{y:α}{v:Value}(X:ElT P f c TS E) (hM:Mm F0 w0 w M) (hj:M[j]?=some (rw_ f c E (.slice q m cap) A)) (hq:q=some ⟨g,0,none⟩) (hy:A[i]?=some y) (hv:(f y)[k]?=some v) (hT:scT P T=true:=by kernel_rfl):Ft.ok P w (.g1 (.load T) (vP g (0+i*c+k)) v):=by
 obtain ⟨g',h1,h2⟩:=hM.el X hj hy;rw [hq] at h1
 injection h1 with h1
 injection h1 with h1 _ _
 subst h1;exact ld T (h2 k v hv) hT
theorem lar (T j k l:Nat) {i:Nat}{y:α}(X:ElT P f c TS E) (hM:Mm F0 w0 w M) (hj:M[j]?=some (rw_ f c E (.slice q m cap) A)) (hq:q=some ⟨g,0,none⟩) (hy:A[i]?=some y) (hT:agT P T (((f y).drop k).take l).length=true:=by kernel_rfl):Ft.ok P w (.g1 (.load T) (vP g (0+i*c+k)) (vA (((f y).drop k).take l))):=by
 obtain ⟨g',h1,h2⟩:=hM.el X hj hy;rw [hq] at h1
 injection h1 with h1
 injection h1 with h1 _ _
 subst h1;exact la T (rs h2 k l) hT
theorem Mm.rowput (X:ElT P f c TS E) (hM:Mm F0 w0 w M) {j:Nat}(hj:M[j]?=some (rw_ f c E (.slice q m cap) A)) (hq:q=some ⟨g,0,none⟩) {i k:Nat}{y y':α}{us:List Value}(hy:A[i]?=some y) (hk:k+us.length<=c) (hy':f y'=(f y).take k++us++(f y).drop (k+us.length)) (ho:us.all (·.oneCell')=true) :
  ∃ w',(storeCells ⟨g,0+i*c+k,none⟩ us 0).run P w = .ok () w' /\ Mm F0 w0 w' (M.set j (rw_ f c E (.slice q m cap) (A.set i y'))):=by
 obtain ⟨w',r1,r2,r3⟩:=aRD (P:=P) X.len (hM.get j hj) hq hy hk hy' ho;refine ⟨w',r1,hM.put j hj r3 (fun k _ e=>?_) r2 fun k e => .inl e⟩;subst e;show (Value.slice q m cap).ownBlock=some k;rw [hq];rfl
theorem aJE {T:TypeId}{w w':World}{g off:Nat}{v:Value}{o:Oper}{ρ:Operand->Value}{x y:Operand}(hT:(P.info? T).map (·.size)=some v.cells.size) (ho:o.op = .store T x y) (hx:ρ x=vP g off) (hy:ρ y=v) (g1:(storeCells ⟨g,off,none⟩ v.cells.toList 0).run P w = .ok () w'):(execOp ρ o).run P w = .ok .skip w':=by
 obtain ⟨i,hi,hs⟩:=Option.map_eq_some_iff.1 hT;have hs:i.size=v.cells.size:=hs;simp only [execOp,ho,hx,hy,Instr.storeAt,Instr.sureAddr,storeVar,sizeOf,typeInfo];generalize v.cells=cc at *;simp [go_sem,hi,hs,g1]
theorem aV1 (r' i':Nat) (N:Frm) (T j k:Nat) {i:Nat}{y:α}(y':α) (v:Value) (X:ElT P f c TS E) (hF:aAQ P w F) (hM:Mm F0 w0 w M) (hj:M[j]?=some (rw_ f c E (.slice q m cap) A)) (hq:q=some ⟨g,0,none⟩) (hy:A[i]?=some y) (hy':f y'=(f y).take k++v.cells.toList++(f y).drop (k+v.cells.toList.length)) (kk:∀ w',Mm F0 w0 w' (M.set j (rw_ f c E (.slice q m cap) (A.set i y')))->AtO P B R ds n (some (r',i'+1)) (N++L) w')
  (hT:(Nat.ble (k+v.cells.toList.length) c,v.cells.toList.all (·.oneCell'),(P.info? T).map (·.size))=(true,true,some v.cells.size):=by kernel_rfl)
  (h:(lhs (go P w n B p L r' i' F) N L,aLW (go P w n B p L r' i' F) n L (fun x y => .store T x y))=(rhs (go P w n B p L r' i' F) N B r' i',aLV (go P w n B p L r' i' F) n L (fun x y => .store T x y) none false (vP g (0+i*c+k)) v):=by kernel_rfl):AtO P B R ds n p L w:=by
 obtain ⟨h1,h2⟩:=Prod.mk.inj hT;obtain ⟨h3,h2⟩:=Prod.mk.inj h2;obtain ⟨w',g1,g2⟩:=hM.rowput X hj hq hy (Nat.le_of_ble_eq_true h1) hy' h3;exact sto (w':=w') r' i' N hF (fun o ρ x y ho hx hy=>aJE h2 ho hx hy g1) (kk w' g2) h
end
section
variable {rd:Option Nat}{P:Program}{B:Code}{ds:List Deferred}{n:Nat}{L:Frm}{w w0:World}{r:Nat}{F0:Nat->Prop}{ef:List Nat}{V:Lts->List (Option Value)}{F:Lts->List Ft}{Mf:Lts->List Bool->List Ent}
variable {α:Type}{f:α->List Value}{c E TS:Nat}{q:Option Addr}{g cap m:Nat}
theorem aH1 (p i T j k e:Nat) (A:List α) {y:α}(y':α) (v:Lts->Value) (X:ElT P f c TS E) (hq:q=some ⟨g,0,none⟩) (hy:A[e]?=some y)
  (hy':∀ γ,f y'=(f y).take k++(v γ).cells.toList++(f y).drop (k+(v γ).cells.toList.length))
  (hj:∀ γ fr,(Mf γ (flg B r ef i fr))[j]?=some (rw_ f c E (.slice q m cap) A):=by intro γ fr;kernel_rfl)
  (hm:∀ γ fr,(Mf γ (flg B r ef i fr)).set j (rw_ f c E (.slice q m cap) (A.set e y'))=Mf (aDy γ p undef) ((flg B r ef i fr).set p true):=by intro γ fr;kernel_rfl)
  (hT:∀ γ,(Nat.ble (k+(v γ).cells.toList.length) c,(v γ).cells.toList.all (·.oneCell'),(P.info? T).map (·.size),((V (aDy γ p undef))[p]?).getD none)=(true,true,some (v γ).cells.size,none):=by intro γ;kernel_rfl)
  (hs:∀ γ,aSH (aAH B r) i (frX P w n B r L ef V F i γ)=aSG (aAH B r) i (fun x y => .store T x y) (vP g (0+e*c+k)) (v γ) none:=by intro γ;kernel_rfl):Arm rd P w n B r L ef V F ds F0 w0 Mf p i:=by
 intro γ fr a wm Q o ho En hw hM;obtain ⟨x,z,h1,h2,h3,h4⟩:=aHR ho En (hs γ);have ht:=hT γ;simp only [Prod.mk.injEq] at ht;obtain ⟨t1,t2,t3,t4⟩:=ht;obtain ⟨w',g1,g2⟩:=hM.rowput X (hj γ fr) hq hy (Nat.le_of_ble_eq_true t1) (hy' γ) t2;rw [hm] at g2;exact aKH (aJE t3 h1 h2 h3 g1) h4 ⟨undef,γ.e p,by rw [aA9,t4];rfl,by rw [aA9];exact g2⟩
theorem aK8 (p i T j k e d:Nat) (A:List α) {y:α}(v:Lts->Value) (X:ElT P f c TS E) (hq:q=some ⟨g,0,none⟩) (hy:A[e]?=some y)
  (hv:∀ γ,(f y)[k]?=some (v γ))
  (hj:∀ γ fr,(Mf γ (flg B r ef i fr))[j]?=some (rw_ f c E (.slice q m cap) A):=by intro γ fr;kernel_rfl)
  (hm:∀ γ fr,Mf γ (flg B r ef i fr)=Mf (aDy γ p undef) ((flg B r ef i fr).set p true):=by intro γ fr;kernel_rfl)
  (hV:∀ γ,((V (aDy γ p undef))[p]?).getD none=some (v γ):=by intro γ;rfl) (hT:scT P T=true:=by kernel_rfl)
  (hs:∀ γ,aV4 (aAH B r) i (frX P w n B r L ef V F i γ)=aV3 (aAH B r) i (.load T) (vP g (0+e*c+k)) (some d):=by intro γ;kernel_rfl):Arm rd P w n B r L ef V F ds F0 w0 Mf p i:=by
 intro γ fr a wm Q o ho En hw hM;obtain ⟨x,h1,h2,h3⟩:=aOK ho En (hs γ);obtain ⟨g',e1,e2⟩:=hM.el X (hj γ fr) hy;rw [hq] at e1
 injection e1 with e1
 injection e1 with e1 _ _
 subst e1;have hl:=aB1 (P:=P) hT (e2 k _ (hv γ));rw [hm] at hM;refine aHK (v:=v γ) (w':=wm) ?_ ⟨undef,γ.e p,by rw [aA9,hV,h3];rfl,by rw [aA9];exact hM⟩;simp only [execOp,h1,h2,Sem.run_bind,hl,Result.andThen_ok,Sem.run_pure]
end
theorem aAN {α:Type}{f:α->List Value}{c:Nat}{w w':World}{B:Nat}{p:Option Addr}{cap:Nat}{L:List α}{G:Nat->Prop}(h:SrcB f c w B p cap L) (k:Fr G w w') (hG:∀ k,G k->B<=k):SrcB f c w' B p cap L:=⟨h.le,h.ca,h.at_.fr k fun r hr hg=>by have:=hG r hg;omega,h.nil⟩
def Apt {α:Type}(f:α->List Value) (c:Nat) (G:Nat->Prop) (w:World) (v:Value) (L:List α):Prop:=∀ w',Fr G w w'->Src f c w' v L
theorem aCp {α:Type}{f:α->List Value}{c:Nat}{G:Nat->Prop}{w:World}:Apt f c G w (.slice none 0 0) ([]:List α):=fun w' _=>Src.nil w'
theorem aE2 {α:Type}{f:α->List Value}{c:Nat}{G:Nat->Prop}{w:World}{b:Nat}{cs:Array Value}{T:TypeId}{v:Value}{L:List α}(h:w.heap[b]?=some (.cells cs T (0,0))) (hn:¬ G b) (hs:∀ w',w'.heap[b]?=some (.cells cs T (0,0))->Src f c w' v L):Apt f c G w v L:=fun w' fr=>hs w' (fr.obj h hn)
theorem Mm.notin {F0:Nat->Prop}{w0 w:World}{M:List Ent}(h:Mm F0 w0 w M) {i:Nat}{js:List Nat}{x:Ent}{b:Nat}(hi:M[i]?=some x) (hb:x.B b) (hn:i∉js):¬ BlM (aBK M js) b:=by
 rintro ⟨e,he,heb⟩;obtain ⟨j,hj,hje⟩:=aC4 he;have h1:=(List.getElem?_eq_some_iff.1 hi);have h2:=(List.getElem?_eq_some_iff.1 hje);obtain ⟨l1,e1⟩:=h1;obtain ⟨l2,e2⟩:=h2;rcases Nat.lt_trichotomy i j with hl | hl | hl
 ·exact List.pairwise_iff_getElem.1 h.nd i j l1 l2 hl b (by rw [e1];exact hb) (by rw [e2];exact heb)
 ·subst hl;exact hn hj
 ·exact List.pairwise_iff_getElem.1 h.nd j i l2 l1 hl b (by rw [e2];exact heb) (by rw [e1];exact hb)
theorem aEL {Ms:List Ent}{b:Nat}{cs:Array Value}{T:TypeId}(hp:Ms=[bk b cs T]) {k:Nat}(h:BlM Ms k):k=b:=by
 obtain ⟨e,he,hb⟩:=h;rw [hp,Gd_] at he;subst he;exact hb
theorem aXC {Ms:List Ent}{b:Nat}{cs:Array Value}{T:TypeId}{e2:Ent}(hp:Ms=[bk b cs T,e2]) {k:Nat}(h:BlM Ms k):k=b∨e2.B k:=by
 obtain ⟨e,he,hb⟩:=h;rw [hp] at he;simp only [Gj_,List.not_mem_nil,or_false] at he;rcases he with rfl | rfl
 ·exact .inl hb
 ·exact .inr hb
def pfE (Q:Ent->Prop) (e:Ent):Ent where
 B:=e.B
 H:=fun w=>Q e /\ e.H w
 lt:=fun h k=>e.lt h.2 k
 fr:=fun h f hd=>⟨h.1,e.fr h.2 f hd⟩
theorem Mm.pf {F0:Nat->Prop}{w0 w:World}{M:List Ent}{Q:Ent->Prop}{e:Ent}{j:Nat}(h:Mm F0 w0 w M) (hj:M[j]?=some e) (hQ:Q e):Mm F0 w0 w (M.set j (pfE Q e)) :=
 h.put j hj (Fr.refl nF_ w) (fun k _ e=>e.elim) (e':=pfE Q e) ⟨hQ,h.get j hj⟩ fun k e => .inl e
section
variable {rd:Option Nat}{P:Program}{B:Code}{ds:List Deferred}{n:Nat}{L:Frm}{w w0:World}{r:Nat}{F0:Nat->Prop}{ef:List Nat}{V:Lts->List (Option Value)}{F:Lts->List Ft}{Mf:Lts->List Bool->List Ent}
theorem aXn (p i T j d c:Nat) {K e:TypeId}(b:Nat) (m:Value->Option Value) (key z v:Value) (LK:Maps.Keyed P K) (ht:P.underlying T=some (.map K e)) (hk:∃ l,keyOf P K key=some l) (hz:∀ w,(zeroValue e).run P w = .ok z w) (hv:(m key).getD z=v)
  (hj:∀ γ fr,(Mf γ (flg B r ef i fr))[j]?=some (mp P K b c m):=by intro γ fr;kernel_rfl)
  (hm:∀ γ fr,Mf γ (flg B r ef i fr)=Mf (aDy γ p undef) ((flg B r ef i fr).set p true):=by intro γ fr;kernel_rfl)
  (hV:∀ γ,((V (aDy γ p undef))[p]?).getD none=some v:=by intro γ;rfl)
  (hs:∀ γ,aSH (aAH B r) i (frX P w n B r L ef V F i γ)=aSG (aAH B r) i (fun x y => .lookup T x y false) (.map (some b)) key (some d):=by intro γ;kernel_rfl):Arm rd P w n B r L ef V F ds F0 w0 Mf p i:=by
 intro γ fr a wm Q o ho E hw hM;obtain ⟨x,y,h1,h2,h3,h4⟩:=aHR ho E (hs γ);obtain ⟨l,hk⟩:=hk;have hmm:aD0 P K wm b c m:=hM.get j (hj γ fr);have hl:=hmm.at.look LK ht hk (hz wm);rw [hv] at hl;rw [hm] at hM;refine aHK (v:=v) (w':=wm) ?_ ⟨undef,γ.e p,by rw [aA9,hV,h4];rfl,by rw [aA9];exact hM⟩;simp only [execOp,h1,h2,h3,Sem.run_bind,hl,Result.andThen_ok,Sem.run_pure]
theorem aTo (p i j d k:Nat) (ts:Array TypeId) {l:Nat}{v:Value}{J:Nat->Ent->Prop}(e:Lts->Ent)
  (hR:∀ γ wm,J k (e γ)->(e γ).H wm->Fr F0 w0 wm->aH4 P l #[v] wm (aW4 J k (e γ) wm) fun _=>False)
  (hj:∀ γ fr,(Mf γ (flg B r ef i fr))[j]?=some (pfE (J k) (e γ)):=by intro γ fr;kernel_rfl)
  (hm:∀ γ fr e',(Mf γ (flg B r ef i fr)).set j (pfE (J (k+1)) e')=Mf (aNZ (aDy γ p (.bool true)) p e') ((flg B r ef i fr).set p true):=by intro γ fr e';kernel_rfl)
  (hV:∀ γ e',((V (aNZ (aDy γ p (.bool true)) p e'))[p]?).getD none=some (.bool true):=by intro γ e';rfl)
  (hs:∀ γ,aSH (aAH B r) i (frX P w n B r L ef V F i γ)=aSG (aAH B r) i (fun x y => .call ⟨.value x,#[y],ts⟩) (.func (.yield l) #[] #[]) v (some d):=by intro γ;kernel_rfl):Arm rd P w n B r L ef V F ds F0 w0 Mf p i:=by
 intro γ fr a wm Q o ho E hw hM;obtain ⟨x,y,h1,h2,h3,h4⟩:=aHR ho E (hs γ);obtain ⟨hJ,hH⟩:=hM.get j (hj γ fr);refine aLS (fun _ _ _ _ h=>aHT h1 h2 h3 h) (hR γ wm hJ hH hM.fr) (fun w' hw'=>?_) fun w' h=>h.elim;obtain ⟨e',g1,g2,g3,g4⟩:=hw';have hM':=hM.put (w':=w') j (hj γ fr) g4 (fun k _ e=>e) (e':=pfE (J (k+1)) e') ⟨g1,g2⟩ g3;rw [hm] at hM';exact ⟨.bool true,e',by rw [hV,h4];rfl,hM'⟩
end
section
variable {P:Program}{B:Code}{n:Nat}{p:Option (Nat×Nat)}{L:Frm}{w w0:World}{F:List Ft}{F0:Nat->Prop}{M:List Ent}{fn:Func}{Φ:Ending->World->Prop}
abbrev aOp (P:Program) (fn:Func) (Φ:Ending->World->Prop):Pst:=⟨bodyPostD P fn Φ,none⟩
theorem aXE {f:FuncId}{args:Array Value}(hf:P.funcs[f]?=some fn) (hb:fn.body=some B) (hn:fn.ntmps=n) (L:Frm) (hL:L=(List.range args.size).zip args.toList) (hs:Nat.ble args.size n=true) (k:∀ Φ':Ending->World->Prop,(∀ e w',Φ e w'->Φ' e w')->AtO P B (aOp P fn Φ') [] n none L w):Calls P f args w Φ:=by
 have hs:args.size<=n:=Nat.le_of_ble_eq_true hs;exact calls_of_wp_defers hf hb (wpIn_wide.1 (k Φ (fun _ _ h=>h) _ (aJi hn hL hs)))
end
section
variable {P:Program}{B:Code}{R:Pst}{ds:List Deferred}{n:Nat}{p:Option (Nat×Nat)}{L:Frm}{w w0:World}{F:List Ft}{F0:Nat->Prop}{M A Ms:List Ent}
def aWh (n:Nat) (LL:Frm):Md->Option (Option Bool×Bool×Option Value)
 | .ops _ O (o::_) _ _=>match o.op with
  | .defer ⟨.value x,args,ts⟩=>some (aCU O LL n o,o.dst.isNone&&args.isEmpty&&ts.isEmpty,opv LL x)
  | _=>none
 | _=>none
theorem dfr (r' i':Nat) (N:Frm) (f:FuncId) (cs:Array Value) (hF:aAQ P w F) (k:AtO P B R ({ target := .fn (.func f) cs,args:=#[] }::ds) n (some (r',i'+1)) (N++L) w) (hR:R.rd=none)
  (h:(lhs (go P w n B p L r' i' F) N L,(go P w n B p L r' i' F).bind fun x=>aWh n (x.2.1++L) x.1)=(rhs (go P w n B p L r' i' F) N B r' i',some (some true,true,some (.func (.func f) #[] cs))):=by kernel_rfl):AtO P B R ds n p L w:=by
 obtain ⟨h1,h2⟩:=Prod.mk.inj h;obtain ⟨m,nw,fs,es,hx,hE,⟨z,hl,ht⟩,hs⟩:=aEI h1;rw [hx] at h2;obtain ⟨O,dr,kk,hf,hk⟩:=k;refine aJd hx hF hE fun a E=>?_;unfold aWh at h2;unfold aJB at ht;rw [hf] at ht
 cases m with
 | ops r O1 l i k1 =>
  cases l with
  | nil=>cases h2
  | cons o l =>
   simp only [Option.bind_some] at h2
   split at h2
   ·rename_i x args ts hop;simp only [Gm_,Prod.mk.injEq,Ga_] at h2;obtain ⟨g1,⟨⟨g2,g3⟩,g4⟩,g5⟩:=h2;have ha:args=#[]:=Array.isEmpty_iff.1 g3;have hts:ts=#[]:=Array.isEmpty_iff.1 g4;subst ha hts;have hd:o.dst=none:=by simpa using g2
    have hr:(execOp a.eval o).run P w = .ok (.defer { target := .fn (.func f) cs,args:=#[] }) w:=by
     have hg:∀ ρ:Operand->Value,ρ x = .func (.func f) #[] cs->(execOp ρ o).run P w = .ok (.defer { target := .fn (.func f) cs,args:=#[] }) w:=by
      intro ρ hx;simp [execOp,hop,hx,go_sem]
     exact hg _ (E.opv g5)
    have hE2:EnvS ({ target := .fn (.func f) cs,args:=#[] }::ds) n (N++L) { a with defers:={ target := .fn (.func f) cs,args:=#[] }::a.defers }:=⟨(E.sub hs).size,(E.sub hs).at_,by show _::a.defers=_::ds;rw [E.df]⟩;have hk:=hk _ hE2
    cases dr with
    | true =>
     cases i' with
     | zero=>cases ht;cases hl
     | succ i'=>cases ht
    | false =>
    cases ht;have hl:(some (O1,false,k1,o::l,0):Option (Array Oper×Bool×List Kon×List Oper×Nat))=some (O,false,kk,O.toList.drop i',0):=hl;simp only [Gm_,Prod.mk.injEq] at hl;obtain ⟨rfl,_,rfl,hl,_⟩:=hl;have hdr:O1.toList.drop (i'+1)=l:=by rw [←List.tail_drop,←hl];rfl
    have hk:wpListIn (fen R.rd) 0 P O1 (post P R k1) (O1.toList.drop (i'+1)) { a with defers:={ target := .fn (.func f) cs,args:=#[] }::a.defers } w:=hk;rw [hdr] at hk;show wpListIn (fen R.rd) 0 P O1 (post P R k1) (o::l) a w;refine aJM (aC0 g1 E) ⟨fun _ _=>trivial,?_⟩
    have hr9:(o.semAt (fen R.rd).round a.eval).run P w = .ok (.defer { target := .fn (.func f) cs,args:=#[] }) w:=by
     have:(fen R.rd).round=none:=hR;rw [this,Oper.semAt_none];exact hr
    rw [hr9,Oper.uponIn_defer,hd];exact hk
   ·cases h2
 | _=>cases h2
theorem opp (r' i' d:Nat) (N:Frm) {v:Value}(hF:aAQ P w F) (k:AtO P B R ds n (some (r',i'+1)) ((d,v)::(N++L)) w) (h:(lhs (go P w n B p L r' i' F) N L,aKb P w n L (go P w n B p L r' i' F))=(rhs (go P w n B p L r' i' F) N B r' i',some (d,.ok (.value v,w))):=by kernel_rfl):AtO P B R ds n p L w:=opx r' i' d N hF k h
theorem aXa (r' i' d:Nat) (N:Frm) {cs:Array Value}{T:TypeId}{v:Nat->Value}(hF:aAQ P w F) (hM:Mm F0 w0 w M) (k:∀ b w',Fr nF_ w w'->w.heap.size<=b->Mm F0 w0 w' (M++[bk b cs T])->AtO P B R ds n (some (r',i'+1)) ((d,v b)::(N++L)) w') (h:(lhs (go P w n B p L r' i' F) N L,aKb P w n L (go P w n B p L r' i' F))=(rhs (go P w n B p L r' i' F) N B r' i',some (d,.ok (.value (v w.heap.size),w.alloc (.cells cs T)))):=by kernel_rfl):AtO P B R ds n p L w :=
 opx r' i' d N hF (k _ _ ((Fr.refl _ _).alloc _) (Gl_ _) (hM.add ((Fr.refl _ _).alloc _) _ (aBe _ _) fun k e=>by have:k=w.heap.size:=e;omega)) h
theorem aXl (r' i' d:Nat) (N:Frm) {g:FuncId}{args:Array Value}{ch:List PanicEntry}(is js:List Nat) (hF:aAQ P w F) (hM:Mm F0 w0 w M) (hA:aBK M is=A) (hS:aBK M js=Ms) (hn:(is++js).Nodup) (hc:Mm (BlM Ms) w w Ms->Calls P g args w fun e w'=>e = .panicked ch /\ Fr (BlM Ms) w w') (k:∀ a w',Mm F0 w0 w' A->EnvS ds n (N++L) a->R.q (.panic ch) a w') (h:(lhs (go P w n B p L r' i' F) N L,aKb P w n L (go P w n B p L r' i' F))=(rhs (go P w n B p L r' i' F) N B r' i',some (d,.ok (.enter g args,w))):=by kernel_rfl):AtO P B R ds n p L w :=
 aIH hF h fun O kk o l a hf hd1 E hd hdn hw hr=>by
  have hp:aBK M (is++js)=A++Ms:=by rw [←hA,←hS,aFc]
  have hM1:=hM.pick (is++js) hp hn;have hMs:Mm F0 w0 w Ms:=hM.pick js hS (List.nodup_append.1 hn).2.1;refine aJM hw (aKI (R:=fun _ _=>False) (Rp:=fun c w'=>c=ch /\ Fr (BlM Ms) w w') hr ((hc (hMs.re fun e he k hk=>⟨e,he,hk⟩)).mono fun e w' h => .inr ⟨ch,h.1,rfl,h.2⟩) (fun _ _ h=>h.elim) fun c w' ⟨hc,hf9⟩=>?_);subst hc;have h9:Mm (BlM Ms) w w' []:=⟨hf9,fun _ h=>(by cases h),fun _ h=>(by cases h),.nil⟩;have h8:=hM1.call h9 fun _ _ h=>h;rw [List.append_nil] at h8;exact aCa (k a w' h8 E)
end
section
variable {P:Program}{B:Code}{n:Nat}{p:Option (Nat×Nat)}{L:Frm}{w w0:World}{F:List Ft}{F0:Nat->Prop}{M:List Ent}{fn:Func}{Φ:Ending->World->Prop}{t2 t3 t4 T2 T3 T4 b2 b3 b4:Nat}{v2 v3 v4:Value}
theorem aV8 {f:FuncId}{cs:Array Value}(hi:∀ w,(invoke (.fn (.func f) cs) #[]).run P w = .ok (.enter f cs) w) (j2 j3 j4:Nat) (hr:fn.results=#[.cell t2 T2,.cell t3 T3,.cell t4 T4]) (hd:CallsD P f cs .returning w fun e u w'=>e = .returned (.tuple #[]) /\ u = .returning /\ w'=w) (hF:aAQ P w F) (hM:Mm F0 w0 w M) (m2:M[j2]?=some (bk b2 #[v2] T2)) (m3:M[j3]?=some (bk b3 #[v3] T3)) (m4:M[j4]?=some (bk b4 #[v4] T4)) (k:Φ (.returned (.tuple #[v2,v3,v4])) w)
  (hs:(scT P T2,scT P T3,scT P T4,look [(t2,vP b2 0),(t3,vP b3 0),(t4,vP b4 0)] t3,look [(t2,vP b2 0),(t3,vP b3 0),(t4,vP b4 0)] t4)=(true,true,true,some (vP b3 0),some (vP b4 0)):=by kernel_rfl)
  (h:aOe (go P w n B p L 1000000 0 F) [(t2,vP b2 0),(t3,vP b3 0),(t4,vP b4 0)] L=aL6 (go P w n B p L 1000000 0 F) [(t2,vP b2 0),(t3,vP b3 0),(t4,vP b4 0)]:=by kernel_rfl):AtO P B (aOp P fn Φ) [{ target := .fn (.func f) cs,args:=#[] }] n p L w:=by
 simp only [Prod.mk.injEq] at hs;obtain ⟨s1,s2,s3,s4,s5⟩:=hs;refine aOd _ hF h fun a E=>?_
 have hL:Leaves P fn a.tmps Φ a.defers .returning w:=by
  rw [E.df];refine leaves_cons (f:=f) (args:=cs) (by simp) (hi _) (hd.mono ?_);rintro e u w8 ⟨rfl,rfl,rfl⟩;exact ⟨_,aR3 hr (E.at_ t2 _ (by simp [look])) (E.at_ t3 _ s4) (E.at_ t4 _ s5) j2 j3 j4 m2 m3 m4 (by rw [s1,s2,s3]) hM,k⟩
 exact ⟨hL,hL⟩
theorem aWR (j2 j3 j4:Nat) (hr:fn.results=#[.cell t2 T2,.cell t3 T3,.cell t4 T4]) (hF:aAQ P w F) (hM:Mm F0 w0 w M) (m2:M[j2]?=some (bk b2 #[v2] T2)) (m3:M[j3]?=some (bk b3 #[v3] T3)) (m4:M[j4]?=some (bk b4 #[v4] T4)) (k:Φ (.returned (.tuple #[v2,v3,v4])) w)
  (hs:(scT P T2,scT P T3,scT P T4,look [(t2,vP b2 0),(t3,vP b3 0),(t4,vP b4 0)] t3,look [(t2,vP b2 0),(t3,vP b3 0),(t4,vP b4 0)] t4)=(true,true,true,some (vP b3 0),some (vP b4 0)):=by kernel_rfl)
  (h:aOe (go P w n B p L 1000000 0 F) [(t2,vP b2 0),(t3,vP b3 0),(t4,vP b4 0)] L=aL6 (go P w n B p L 1000000 0 F) [(t2,vP b2 0),(t3,vP b3 0),(t4,vP b4 0)]:=by kernel_rfl):AtO P B (aOp P fn Φ) [] n p L w:=by
 simp only [Prod.mk.injEq] at hs;obtain ⟨s1,s2,s3,s4,s5⟩:=hs;refine aOd _ hF h fun a E=>?_
 have hL:Leaves P fn a.tmps Φ a.defers .returning w:=by
  rw [E.df];exact ⟨_,aR3 hr (E.at_ t2 _ (by simp [look])) (E.at_ t3 _ s4) (E.at_ t4 _ s5) j2 j3 j4 m2 m3 m4 (by rw [s1,s2,s3]) hM,k⟩
 exact ⟨hL,hL⟩
theorem aWW {f:FuncId}{cs:Array Value}{a:Act}{ch ch':List PanicEntry}(hi:∀ w,(invoke (.fn (.func f) cs) #[]).run P w = .ok (.enter f cs) w) (hr:fn.results=#[.cell t2 T2,.cell t3 T3,.cell t4 T4]) (E:EnvS [{ target := .fn (.func f) cs,args:=#[] }] n L a) (l2:look L t2=some (vP b2 0)) (l3:look L t3=some (vP b3 0)) (l4:look L t4=some (vP b4 0)) (hs:(scT P T2,scT P T3,scT P T4)=(true,true,true)) (hch:settle (.panicking ch') = .returning)
  (hd:CallsD P f cs (.panicking ch) w fun e u w'=>e = .returned (.tuple #[]) /\ u = .panicking ch' /\ w'.heap[b2]?=some (.cells #[v2] T2 (0,0)) /\ w'.heap[b3]?=some (.cells #[v3] T3 (0,0)) /\ w'.heap[b4]?=some (.cells #[v4] T4 (0,0)) /\ Φ (.returned (.tuple #[v2,v3,v4])) w'):bodyPostD P fn Φ (.panic ch) a w:=by
 show Leaves P fn a.tmps Φ a.defers (.panicking ch) w;rw [E.df];refine leaves_cons (f:=f) (args:=cs) (by simp) (hi _) (hd.mono ?_);rintro e u w8 ⟨rfl,rfl,g2,g3,g4,h⟩;show Leaves P fn a.tmps Φ [] (settle (.panicking ch')) w8;rw [hch];simp only [Prod.mk.injEq] at hs;exact ⟨_,aVB hr (E.at_ t2 _ l2) (E.at_ t3 _ l3) (E.at_ t4 _ l4) (aB1 hs.1 (bx g2 0 rfl)) (aB1 hs.2.1 (bx g3 0 rfl)) (aB1 hs.2.2 (bx g4 0 rfl)),h⟩
end
end Go.Pl
namespace Go.Proofs.YtbflfefahheidaaGreatDoor
open Go.RowKit Go.Pl
abbrev Arc:=Bys×Bys×Bys×Int
abbrev aJr (a:Arc):Value := .agg #[vS a.1,vS a.2.1,vS a.2.2.1,vI a.2.2.2]
def aAC (l:List Ob) (a b:Bys):Int:=max 1 (aB6 (aAP ((aAA l a).getD (0,0)) ((aAA l b).getD (0,0))))
def aFz (l:List Ob) (w:Bys):List Bys->List Arc
  | a::b::t=>(a,b,w,aAC l a b)::(b,a,w,aAC l a b)::aFz l w (b::t)
  | _=>[]
def aDx (os:List ObR) (b:ObR):List Arc:=bif b.o.kind==2 then (match aIr (aAg (aAa os)) os b.o.id with | some c=>aFz (aAa os) b.o.id c.o.refs | none=>[]) else []
def aAw (os:List ObR):List Arc:=os.flatMap (aDx os)
theorem aG8 {N:Bys->Bool}{id:Bys}{c:ObR}{l:List ObR}(h:aIr N l id=some c):c∈l /\ c.o.id=id /\ (c.o.kind==2)=true /\ c.o.refs.all N=true:=by
  have key:∀ (l:List ObR) (r:Option ObR),l.foldl (fun r b=>bif ((b.o.kind==2)&&b.o.refs.all N)&&(b.o.id==id) then some b else r) r=some c->r=some c∨(c∈l /\ (((c.o.kind==2)&&c.o.refs.all N)&&(c.o.id==id))=true):=by
    intro l
    induction l with
    | nil=>intro r h;exact .inl h
    | cons b l ih =>
      intro r h;rw [List.foldl_cons] at h;rcases ih _ h with h1 | h1
      · cases hb:((b.o.kind==2)&&b.o.refs.all N)&&(b.o.id==id) with
        | true=>rw [hb] at h1;cases h1;exact .inr ⟨.head _,hb⟩
        | false=>rw [hb] at h1;exact .inl h1
      · exact .inr ⟨.tail _ h1.1,h1.2⟩
  rcases key l none h with h1 | ⟨h1,h2⟩
  · cases h1
  · simp only [Ga_] at h2
    exact ⟨h1,by simpa using h2.2,h2.1.1,h2.1.2⟩
theorem aTy {W:World}{B:Nat}{os:List ObR}(N:Bys->Bool) (id:Bys) (hs:∀ b∈os,SrcB stL 1 W B b.pr b.cr b.o.refs) (hb:∀ b∈os,ObB b.o):∃ p cap rs,(aFP N os (vS id)).getD (vL none 0 0)=vL p rs.length cap /\ SrcB stL 1 W B p cap rs /\ (∀ s∈rs,B63 s) /\ ∀ f:List Bys->List Arc,f []=[]->(match aIr N os id with | some c=>f c.o.refs | none=>[])=f rs:=by
  rw [aOs]
  cases h:aIr N os id with
  | none=>exact ⟨none,0,[],rfl,⟨Gl_ _,by omega,.inl rfl,fun _=>rfl⟩,fun s h=>(by cases h),fun f hf=>hf.symm⟩
  | some c =>
    obtain ⟨h1,-⟩:=aG8 h;exact ⟨_,_,c.o.refs,rfl,hs c h1,(hb c h1).refs,fun f _=>rfl⟩
theorem at1 {α:Type}{l d r:List α}{x:α}(h:l=d++x::r):l[d.length]?=some x:=by subst h;simp
theorem at2 {α:Type}{l d r:List α}{x y:α}(h:l=d++x::y::r):l[d.length+1]?=some y:=by subst h;simp
theorem lkN {P:Program}{w:World}(T:Nat) {K e:TypeId}{b c:Nat}{m:Value->Option Value}(key z:Value) (hm:aD0 P K w b c m) (LK:Maps.Keyed P K) (ht:P.underlying T=some (.map K e)) (hk:∃ l,keyOf P K key=some l) (hz:(zeroValue e).run P w = .ok z w):Ft.ok P w (.g2 (fun x y => .lookup T x y false) (.map (some b)) key ((m key).getD z)):=fun o ρ x y ho hx hy=>by
  obtain ⟨l,hk⟩:=hk;have:=hm.at.look LK ht hk hz;simp only [execOp,ho,hx,hy,Sem.run_bind,this,Result.andThen_ok,Sem.run_pure]
theorem aVk (w:World):(zeroValue 28).run Tryz.prog w = .ok (vL none 0 0) w:=by kernel_rfl
theorem aST (l:List Ob) (s:Bys):((aEy l) (vS s)).getD (ptV (0,0))=ptV ((aAA l s).getD (0,0)):=by
  rw [aLs];cases aAA l s<;>rfl
theorem aOO {l:List Ob}{w a b:Bys}{rs:List Bys}{m:Nat}(ha:rs[m]?=some a) (hb:rs[m+1]?=some b):aFz l w (rs.drop m)=(a,b,w,aAC l a b)::(b,a,w,aAC l a b)::aFz l w (rs.drop (m+1)):=by
  rw [gd ha,gd hb];rfl
theorem aMi {l:List Ob}{w:Bys}{rs:List Bys}{m:Nat}(h:rs.length<=m+1):aFz l w (rs.drop m)=[]:=by
  have:(rs.drop m).length<=1:=by rw [Gr_];omega
  cases h1:rs.drop m with
  | nil=>rfl
  | cons a t =>
    cases t with
    | nil=>rfl
    | cons b t=>rw [h1] at this;simp at this
structure NetK (bt bn b1 b2 n1 n2:Nat) (p0:Option Addr) (c0:Nat) (os:List ObR) (G:Nat->Prop) (W:World):Prop where
  t:W.heap[bt]?=some (.cells #[vP bn 0] 157 (0,0))
  n:W.heap[bn]?=some (.cells #[vL p0 os.length c0,.map (some b1),.map (some b2)] 198 (0,0))
  m1:aD0 Tryz.prog 9 W b1 n1 (aEy (aAa os))
  m2:aD0 Tryz.prog 9 W b2 n2 (aFP (aAg (aAa os)) os)
  nt:¬ G bt
  nn:¬ G bn
  g1:¬ G b1
  g2:¬ G b2
  src:∃ B,SrcB obL 6 W B p0 c0 os /\ (∀ b∈os,SrcB stL 1 W B b.pr b.cr b.o.refs) /\ ∀ k,G k->B<=k
theorem aMM (a b:Pt):aAP a b<=9223372036854775807:=by
  unfold aAP
  cases h:aBt a&&aBt b with
  | false=>show (0:Int)<=_;omega
  | true =>
    rw [Ga_] at h;have h1:=aCd h.1;have h2:=aCd h.2;have h3:=aFQ (x:=b.1-a.1) (by omega) (by omega);have h4:=aFQ (x:=b.2-a.2) (by omega) (by omega);show (b.1-a.1)*(b.1-a.1)+(b.2-a.2)*(b.2-a.2)<=_;omega
abbrev aXH (Z:Ending->World->Prop):=AtO Tryz.prog (aAf Tryz.f117) (aAo (bodyPost Tryz.prog Tryz.f117 Z)) [] 90
theorem aLM {bt bn b1 b2 n1 n2 c0:Nat}{p0:Option Addr}{os:List ObR}(hob:∀ b∈os,ObB b.o):aWw Tryz.prog 117 #[vP bt 0] ((aAw os).map fun a=>#[aJr a]) (NetK bt bn b1 b2 n1 n2 p0 c0 os):=by
  intro ly J S w e0 hok hJ0 he hKp hSq hround;obtain rfl:S=fun _=>False:=funext fun W=>propext ⟨fun h=>hok W h,False.elim⟩;obtain ⟨ht,hn,hm1,hm2,nt,nn,g1,g2,B,hs,hrs,hG⟩:=hKp;have bb:=hs.bnd;refine beg Tryz.func117 rfl rfl [(0,.func (.yield ly) #[] #[]),(1,vP bt 0)] rfl rfl fun Y hY=>?_;have hM:=(Mm.one he).pf (j:=0) rfl hJ0;refine seg 1 0 [(11,vL p0 os.length c0),(12,vI (os.length:Int)),(13,vI 0)] (fc (ld0 157 hM (bx ht 0 rfl) nt) (fc (ld0 22 hM (bx hn 0 rfl) nn) f0)) ?_
  have ag:∀ (ad:Nat) (i:Nat) (done:List Arc) (ek:Ent) (w2:World),i<=os.length->aAw os=done++(os.drop i).flatMap (aDx os)->Mm e0.B w w2 [pfE (J done.length) ek]->ad=os.length-i->aXH Y (some (1,0)) [(13,vI (i:Int)),(12,vI (os.length:Int)),(11,vL p0 os.length c0),(0,.func (.yield ly) #[] #[]),(1,vP bt 0)] w2:=by
   refine aA8 fun ad ae i done ek w2 hi hA hM ao=>seg 1 1 [(14,vB (decide ((i:Int)<(os.length:Int))))] f0 ?_;cases h58:(decide ((i:Int)<(os.length:Int)))
   ·have ah:=df h58;exact rt0 rfl f0 (hY _ _ ⟨⟨_,rfl⟩,.inl ⟨ek,by rw [Gs_,show aAw os=done by rw [hA,Gi_ (by omega)];simp];exact (hM.get 0 rfl).1,(hM.get 0 rfl).2,hM.fr⟩⟩)
   have ah:=dt h58;obtain ⟨y,hy,ap,aq,q59,ai,n59⟩:=(hs).eb hG (i:=i) (by omega);refine aCl 2 2 4 [(16,.agg #[vS y.o.id,vI y.o.kind,vI y.o.x,vI y.o.y,vL y.pr y.o.refs.length y.cr,vL y.pt y.o.tags.length y.ct])] [] 64 (.agg #[vS y.o.id,vI y.o.kind,vI y.o.x,vI y.o.y,vL y.pr y.o.refs.length y.cr,vL y.pt y.o.tags.length y.ct]) (fc (ix 22 c0 q59 (gl hy)) (fc (la0 64 hM ai n59) f0)) hM fun aa w1 hM=>?_;obtain ⟨pw,cw,rs,hwv,hrw,hrb,hra⟩:=aTy (aAg (aAa os)) y.o.id hrs hob;have bw:=hrw.bnd;refine seg 3 0 [] f0 ?_;have hM:=hM.q ((Fr.refl _ _).drew);refine drq [(5,vL pw rs.length cw)] rfl (fc (ld0 157 hM (bx ht 0 rfl) nt) (fc (ld0 196 hM (bx hn 2 rfl) nn) (fc (ldm 9 1 0 hM rfl rfl) (fc (rz2 (lkN 196 (vS y.o.id) (vL none 0 0) (hm2.fr hM.fr g2) aD5 Tryz.underlying196 (aD6 (hob _ (gm hy)).id) (aVk _)) hwv) f0)))) (seg 4 3 [(26,vB (!(y.o.kind==2)))] (fc (ldm 3 1 1 hM rfl rfl) f0) ?_);cases h61:(y.o.kind==2)
   ·have aj:=ef h61;have hA:aAw os=done++(os.drop (i+1)).flatMap (aDx os):=by rw [hA,gd hy,List.flatMap_cons,show aDx os y=[] by unfold aDx;rw [h61];rfl,List.nil_append]
    refine seg 1 0 [(13,vI ((i:Int)+1))] (fc (aAe (i:Int) 1 u3_) f0) (aAb _ (ae _ (by omega) (i+1) done ek _ (gl hy) hA (hM.pick [0]) rfl))
   have aj:=et h61;have hA1:aAw os=done++(aFz (aAa os) y.o.id (rs.drop 0)++(os.drop (i+1)).flatMap (aDx os)):=by rw [hA,gd hy,List.flatMap_cons,show aDx os y=aFz (aAa os) y.o.id rs by unfold aDx;rw [h61];exact hra (aFz (aAa os) y.o.id) rfl];rfl
   refine seg 6 0 [(6,vI 1)] f0 ?_
   have ak:∀ (af:Nat) (m:Nat) (done2:List Arc) (ek2:Ent) (w2:World),m<=rs.length->aAw os=done2++(aFz (aAa os) y.o.id (rs.drop m)++(os.drop (i+1)).flatMap (aDx os))->Mm e0.B w w2 [pfE (J done2.length) ek2,bk aa #[vS y.o.id,vI y.o.kind,vI y.o.x,vI y.o.y,vL y.pr y.o.refs.length y.cr,vL y.pt y.o.tags.length y.ct] 64]->af=rs.length-m->aXH Y (some (6,0)) [(6,vI ((m:Int)+1)),(5,vL pw rs.length cw),(4,vP aa 0),(13,vI (i:Int)),(12,vI (os.length:Int)),(11,vL p0 os.length c0),(0,.func (.yield ly) #[] #[]),(1,vP bt 0)] w2:=by
    refine aA8 fun af al m done2 ek2 w2 hm hA2 hM ar=>seg 6 4 [(30,vB (decide (((m:Int)+1)<(rs.length:Int))))] f0 ?_;cases h65:(decide (((m:Int)+1)<(rs.length:Int)))
    ·have am:=df h65;have hA3:aAw os=done2++(os.drop (i+1)).flatMap (aDx os):=by rw [hA2,aMi (by omega),List.nil_append]
     refine seg 1 0 [(13,vI ((i:Int)+1))] (fc (aAe (i:Int) 1 u3_) f0) (aAb _ (ae _ (by omega) (i+1) done2 ek2 _ (gl hy) hA3 (hM.pick [0]) rfl))
    have am:=dt h65;obtain ⟨y1,hy1,au,av,q66,ab,n66⟩:=(hrw).eb hG (i:=m) (by omega);obtain ⟨y2,hy2,aw,ax,q67,ac,n67⟩:=(hrw).eb hG (i:=(m+1)) (by omega);have hA5:aAw os=done2++((y1,y2,y.o.id,aAC (aAa os) y1 y2)::(y2,y1,y.o.id,aAC (aAa os) y1 y2)::(aFz (aAa os) y.o.id (rs.drop (m+1))++(os.drop (i+1)).flatMap (aDx os))):=by rw [hA2,aOO hy1 hy2];rfl
    refine seg 8 0 [] f0 (drc [(7,vI (max 1 (aB6 (aAP ((aAA (aAa os) y1).getD (0,0)) ((aAA (aAa os) y2).getD (0,0))))))] hM (fun w5 hM=>(fc (ld0 157 hM (bx ht 0 rfl) nt) (fc (ld0 195 hM (bx hn 1 rfl) nn) (fc (aBx ((m:Int)+1) 1 u3_) (fc (ix 28 cw q66 (gl hy1) (z:=(((m:Int)+1)-1)) (hz:=(by omega))) (fc (ld0 9 hM (ab 0 _ rfl) n66) (fc (rz2 (lkN 195 (vS y1) (ptV (0,0)) (hm1.fr hM.fr g1) aD5 u195_ (aD6 (hrb _ (gm hy1))) (aOg _)) (aST (aAa os) y1)) (fc (ld0 157 hM (bx ht 0 rfl) nt) (fc (ld0 195 hM (bx hn 1 rfl) nn) (fc (ix 28 cw q67 (gl hy2)) (fc (ld0 9 hM (ac 0 _ rfl) n67) (fc (rz2 (lkN 195 (vS y2) (ptV (0,0)) (hm1.fr hM.fr g1) aD5 u195_ (aD6 (hrb _ (gm hy2))) (aOg _)) (aST (aAa os) y2)) (fc (tcl (aNK ((aAA (aAa os) y1).getD (0,0)) ((aAA (aAa os) y2).getD (0,0)) _)) (fc (tcl (aNy (aAP ((aAA (aAa os) y1).getD (0,0)) ((aAA (aAa os) y2).getD (0,0))) (aMM _ _) _)) (fc (aVc 3 1 (aB6 (aAP ((aAA (aAa os) y1).getD (0,0)) ((aAA (aAa os) y2).getD (0,0))))) f0))))))))))))))) fun w5 hM=>seg 9 0 [] f0 (drx [14,31] (fun Z=>[some (vB true),some (vB true)]) _ (fun Z l=>[(bif l.getD 1 false then pfE (J ((done2.length+1)+1)) (Z.e 1) else (bif l.getD 0 false then pfE (J (done2.length+1)) (Z.e 0) else pfE (J done2.length) ek2)),bk aa #[vS y.o.id,vI y.o.kind,vI y.o.x,vI y.o.y,vL y.pr y.o.refs.length y.cr,vL y.pt y.o.tags.length y.ct] 64]) (fun Z=>[(88,vB false)]) hM (fun Z=>rfl) (fun Z l w5 hM=>(fc (aBx ((m:Int)+1) 1 u3_) (fc (ix 28 cw q66 (gl hy1) (z:=(((m:Int)+1)-1)) (hz:=(by omega))) (fc (ld0 9 hM (ab 0 _ rfl) n66) (fc (ix 28 cw q67 (gl hy2)) (fc (ld0 9 hM (ac 0 _ rfl) n67) (fc (ldm 9 1 0 hM rfl rfl) (fc (ix 28 cw q67 (gl hy2)) (fc (ld0 9 hM (ac 0 _ rfl) n67) (fc (aBx ((m:Int)+1) 1 u3_) (fc (ix 28 cw q66 (gl hy1) (z:=(((m:Int)+1)-1)) (hz:=(by omega))) (fc (ld0 9 hM (ab 0 _ rfl) n66) (fc (ldm 9 1 0 hM rfl rfl) f0))))))))))))) ⟨aTo 0 14 0 69 done2.length #[47] (v:=(.agg #[vS y1,vS y2,vS y.o.id,vI (max 1 (aB6 (aAP ((aAA (aAa os) y1).getD (0,0)) ((aAA (aAa os) y2).getD (0,0)))))])) (J:=J) (fun Z=>ek2) (fun Z wm hJ hH hf=>hround _ _ _ _ hJ hH hf (aF1 (at1 hA5))),aTo 1 31 0 86 (done2.length+1) #[47] (v:=(.agg #[vS y2,vS y1,vS y.o.id,vI (max 1 (aB6 (aAP ((aAA (aAa os) y1).getD (0,0)) ((aAA (aAa os) y2).getD (0,0)))))])) (J:=J) (fun Z=>(Z.e 0)) (fun Z wm hJ hH hf=>hround _ _ _ _ hJ hH hf (aF1 (at2 hA5))),trivial⟩ fun an w1 hM=>?_));replace hM:Mm e0.B w w1 [_,bk aa #[vS y.o.id,vI y.o.kind,vI y.o.x,vI y.o.y,vL y.pr y.o.refs.length y.cr,vL y.pt y.o.tags.length y.ct] 64]:=hM;have hA4:aAw os=(done2++[(y1,y2,y.o.id,aAC (aAa os) y1 y2),(y2,y1,y.o.id,aAC (aAa os) y1 y2)])++(aFz (aAa os) y.o.id (rs.drop (m+1))++(os.drop (i+1)).flatMap (aDx os)):=by rw [hA5,Gn_];rfl
    have hl9:done2.length+1+1=(done2++[(y1,y2,y.o.id,aAC (aAa os) y1 y2),(y2,y1,y.o.id,aAC (aAa os) y1 y2)]).length:=by simp
    rw [hl9] at hM;refine seg 6 0 [(6,vI (((m:Int)+1)+1))] (fc (aAe ((m:Int)+1) 1 u3_) f0) (aAb _ (al _ (by omega) (m+1) (done2++[(y1,y2,y.o.id,aAC (aAa os) y1 y2),(y2,y1,y.o.id,aAC (aAa os) y1 y2)]) (an.e 1) _ (by have:=gl hy2;omega) hA4 hM rfl))
   exact aAb _ (ak _ 0 done ek _ (Gg_ _) hA1 hM rfl)
  exact aAb _ (ag _ 0 [] e0 _ (Gg_ _) rfl hM rfl)
theorem aVS:Maps.Keyed Tryz.prog 47:=Maps.Keyed.of_law (deep_law (m:=2) (by decide) (by kernel_rfl) (by kernel_rfl) (by kernel_rfl))
theorem tsz:∃ m,Tryz.prog.types.size=m+1:=⟨Tryz.prog.types.size-1,by kernel_rfl⟩
theorem kl9 {s:Bys}(h:B63 s) (m:Nat):Tryz.prog.keyLits (m+1) 9 [vS s]=some [.string (ofL s).data.toList]:=by
  unfold Program.keyLits;simp only [u9_];rw [if_pos (by rw [aBl];exact h)]
theorem kl3 {n:Int}(h:(Lit.int .i64 n).wf=true) (m:Nat):Tryz.prog.keyLits (m+1) 3 [vI n]=some [.int .i64 n]:=by
  unfold Program.keyLits;simp only [u3_];rw [if_pos (by simp [h])]
theorem co9:Tryz.prog.cellsOf 9=1:=by kernel_rfl
theorem co3:Tryz.prog.cellsOf 3=1:=by kernel_rfl
theorem aVU {a:Arc}(h1:B63 a.1) (h2:B63 a.2.1) (h3:B63 a.2.2.1) (h4:(Lit.int .i64 a.2.2.2).wf=true):∃ l,keyOf Tryz.prog 47 (aJr a)=some l:=by
  obtain ⟨m,hm⟩:=tsz;unfold keyOf;rw [Tryz.underlying47];simp only;rw [if_pos (by kernel_rfl),hm];refine ⟨.string (keyBytes [.string (ofL a.1).data.toList,.string (ofL a.2.1).data.toList,.string (ofL a.2.2.1).data.toList,.int .i64 a.2.2.2]),?_⟩
  have hk:Tryz.prog.keyLits (m+1+1) 47 [vS a.1,vS a.2.1,vS a.2.2.1,vI a.2.2.2]=some [.string (ofL a.1).data.toList,.string (ofL a.2.1).data.toList,.string (ofL a.2.2.1).data.toList,.int .i64 a.2.2.2]:=by
    unfold Program.keyLits;simp only [Tryz.underlying47];rw [if_pos ⟨by kernel_rfl,by kernel_rfl⟩];simp [co9,co3,kl9 h1,kl9 h2,kl9 h3,kl3 h4]
  show (Tryz.prog.keyLits (m+1+1) 47 [vS a.1,vS a.2.1,vS a.2.2.1,vI a.2.2.2]).map _=_;rw [hk];rfl
def aCn (l:List Arc):List Arc:=l.foldl (fun r a=>bif r.contains a then r else r++[a]) []
theorem aM0 (l:List Arc) (a:Arc):aCn (l++[a])=bif (aCn l).contains a then aCn l else aCn l++[a]:=by unfold aCn;rw [List.foldl_append];rfl
theorem aGU (l:List Arc):(aCn l).length<=l.length:=by
  have key:∀ (l r:List Arc),(l.foldl (fun r a=>bif r.contains a then r else r++[a]) r).length<=r.length+l.length:=by
    intro l
    induction l with
    | nil=>intro r;simp
    | cons a l ih =>
      intro r;rw [List.foldl_cons];refine Gp_ (ih _) ?_;cases r.contains a<;>simp<;>omega
  have h:=key l [];rw [Go_,Nat.zero_add] at h;exact h
open Classical in
noncomputable def setA (S:List Arc):Value->Option Value:=fun v=>if ∃ a∈S,v=aJr a then some (vB true) else none
theorem aHL {a b:Bys}(h:vS a=vS b):a=b:=by
  have h2:ofL a=ofL b:=Value.string.inj h;rw [←aA5 a,h2,aA5]
theorem aS1 {a b:Arc}(h:aJr a=aJr b):a=b:=by
  obtain ⟨a1,a2,a3,a4⟩:=a;obtain ⟨b1,b2,b3,b4⟩:=b;have h:Value.agg #[vS a1,vS a2,vS a3,vI a4] = .agg #[vS b1,vS b2,vS b3,vI b4]:=h;simp only [Value.agg.injEq,Array.mk.injEq,List.cons.injEq,Value.int.injEq,true_and,and_true] at h;obtain ⟨h1,h2,h3,h4⟩:=h;rw [aHL h1,aHL h2,aHL h3,h4]
theorem aON (S:List Arc) (x:Arc):((setA S) (aJr x)).getD (vB false)=vB (S.contains x):=by
  unfold setA
  by_cases h:x∈S
  · rw [if_pos ⟨x,h,rfl⟩,show S.contains x=true by simpa using h];rfl
  · rw [if_neg (fun ⟨a,ha,e⟩=>h (by rw [aS1 e];exact ha)),show S.contains x=false by simpa using h];rfl
theorem aRn (S:List Arc) (x:Arc):upd (setA S) (aJr x) (vB true)=setA (S++[x]):=by
  funext v;unfold setA
  by_cases e:v=aJr x
  · subst e;rw [aCt,if_pos ⟨x,by simp,rfl⟩]
  · rw [aBG _ e]
    by_cases h:∃ a∈S,v=aJr a
    · obtain ⟨a,ha,rfl⟩:=h
      rw [if_pos ⟨a,ha,rfl⟩,if_pos ⟨a,Gv_ _ ha,rfl⟩]
    · rw [if_neg h,if_neg]
      rintro ⟨a,ha,rfl⟩;rw [List.mem_append,Gd_] at ha;rcases ha with ha | rfl
      · exact h ⟨a,ha,rfl⟩
      · exact e rfl
theorem aRo:setA []=fun _=>none:=by funext v;unfold setA;rw [if_neg (by rintro ⟨a,ha,-⟩;cases ha)]
theorem aXD:BlM []=fun _=>False:=funext fun k=>propext ⟨fun ⟨e,he,_⟩=>(by cases he),False.elim⟩
def arL (a:Arc):List Value:=[vS a.1,vS a.2.1,vS a.2.2.1,vI a.2.2.2]
theorem arT:ElT Tryz.prog arL 4 75 47:=⟨fun _=>rfl,by decide,fun x u hu=>by
  unfold arL at hu;simp only [Gj_,List.not_mem_nil,or_false] at hu;rcases hu with rfl | rfl | rfl | rfl<;>rfl,Tryz.underlying75,aBO (by kernel_rfl)⟩
theorem aR0 {n:Int}(h:n<=9223372036854775807):0<=aB6 n /\ aB6 n<4294967296:=by
  unfold aB6
  cases hd:decide (n<0) with
  | true=>exact ⟨Int.le_refl _,by show (0:Int)<_;omega⟩
  | false =>
    have h0:=of_decide_eq_false hd;have:=aR1 (n:=n.toNat) (by omega);show 0<=(aCh n.toNat:Int) /\ (aCh n.toNat:Int)<4294967296;omega
structure ArcB (a:Arc):Prop where
  f1:B63 a.1
  f2:B63 a.2.1
  f3:B63 a.2.2.1
  pos:1<=a.2.2.2
  lt:a.2.2.2<4294967296
theorem ArcB.wf {a:Arc}(h:ArcB a):(Lit.int .i64 a.2.2.2).wf=true:=by
  have h1:=h.pos;have h2:=h.lt;show (decide (IntKind.i64.min<=a.2.2.2)&&decide (a.2.2.2<=IntKind.i64.max))=true;have e1:IntKind.i64.min = -9223372036854775808:=by decide
  have e2:IntKind.i64.max=9223372036854775807:=by decide
  rw [e1,e2,decide_eq_true (by omega),decide_eq_true (by omega)];rfl
theorem aSJ {l:List Ob}{w:Bys}(hw:B63 w):∀ {rs:List Bys},(∀ s∈rs,B63 s)->∀ a∈aFz l w rs,ArcB a
  | [],_,a,ha=>by cases ha
  | [_],_,a,ha=>by cases ha
  | x::y::t,h,a,ha=>by
    have hl:1<=aAC l x y /\ aAC l x y<4294967296:=by
      have:=aR0 (aMM ((aAA l x).getD (0,0)) ((aAA l y).getD (0,0)));unfold aAC;omega
    unfold aFz at ha;rcases List.mem_cons.1 ha with rfl | ha
    · exact ⟨h x (.head _),h y (.tail _ (.head _)),hw,hl.1,hl.2⟩
    · rcases List.mem_cons.1 ha with rfl | ha
      · exact ⟨h y (.tail _ (.head _)),h x (.head _),hw,hl.1,hl.2⟩
      · exact aSJ hw (fun s hs=>h s (.tail _ hs)) a ha
theorem aFv {os:List ObR}(hob:∀ b∈os,ObB b.o):∀ a∈aAw os,ArcB a:=by
  intro a ha;unfold aAw at ha;rw [List.mem_flatMap] at ha;obtain ⟨b,hb,ha⟩:=ha;unfold aDx at ha
  cases hk:b.o.kind==2 with
  | false=>rw [hk] at ha;cases ha
  | true =>
    rw [hk] at ha
    cases hw:aIr (aAg (aAa os)) os b.o.id with
    | none=>rw [hw] at ha;cases ha
    | some c =>
      rw [hw] at ha;exact aSJ (hob b hb).id (hob c (aG8 hw).1).refs a ha
theorem aK6 (bn:Nat) (w:World):Calls Tryz.prog 92 #[vP bn 0] w fun e w'=>∃ u Mn,e = .returned u /\ (∃ bt,u = .func (.func 117) #[] #[vP bt 0] /\ Mn=[bk bt #[vP bn 0] 157]) /\ Mm nF_ w w' Mn:=by
  refine beg Tryz.func92 rfl rfl [(0,vP bn 0)] rfl rfl fun Z hZ=>?_;have hM:=Mm.nil nF_ w;refine aAp 0 0 1 [] (cs:=#[vP bn 0]) (T:=157) (v:=fun b=>vP b 0) f0 hM fun aa w1 hM=>rt1 2 (.func (.func 117) #[] #[vP aa 0]) rfl f0 (hZ _ _ ⟨_,_,rfl,⟨_,rfl,rfl⟩,hM⟩)
theorem aNT {w:World}{v:Value}{os:List ObR}(hm:aCq w v os) (hv:aAc (aAa os)=true) (hlen:(aAw os).length<=300000000):Calls Tryz.prog 56 #[.agg #[v]] w fun e w'=>∃ u,e = .returned u /\ aH6 arL 4 47 w w' u (aCn (aAw os)) /\ Fr nF_ w w':=by
  have hm0:=hm;obtain ⟨hs0,hob⟩:=hm0;obtain ⟨p0,cp0,hp0,sp0⟩:=hs0.op;subst hp0;refine aXm Tryz.func56 rfl rfl [(0,.agg #[vL p0 os.length cp0])] rfl rfl fun Z hZ=>?_;have hM:=Mm.nil nF_ w;refine aAp 0 0 1 [] (cs:=#[vL p0 os.length cp0]) (T:=24) (v:=fun b=>vP b 0) f0 hM fun ag w1 hM=>aAM 1 1 10 [(9,.agg #[vL p0 os.length cp0])] (K:=fun u Mn=>∃ bn b1 b2 n1 n2,u = .tuple #[vP bn 0,vB true] /\ Mn=aXy bn b1 b2 n1 n2 (vL p0 os.length cp0) os) [0] [] (fc (lam 24 0 0 1 hM rfl) f0) hM rfl rfl (by decide) (fun _=>(aRR (hm.fr hM.fr)).mono fun e w8 h=>by obtain ⟨bn,b1,b2,n1,n2,h1,h2⟩:=h.2 hv;exact ⟨_,_,h1,⟨bn,b1,b2,n1,n2,rfl,rfl⟩,by rw [show aBK _ ([]:List Nat)=[] from rfl,aXD];exact h2⟩) fun u Mn w1 hK hM=>?_;obtain ⟨bn,b1,b2,n1,n2,rfl,rfl⟩:=hK;refine aAp 4 0 5 [(3,vP bn 0)] (cs:=#[vL none 0 0]) (T:=75) (v:=fun b=>vP b 0) f0 hM fun ab w1 hM=>aHF 5 0 15 [] 47 f0 hM fun aa w1 hM=>aCl 5 1 6 [] [] 160 (.map (some aa)) f0 hM fun ac w1 hM=>aAM 6 1 17 [(16,vP bn 0)] (K:=fun u Mn=>∃ bt,u = .func (.func 117) #[] #[vP bt 0] /\ Mn=[bk bt #[vP bn 0] 157]) [0,1,2,3,4,5,6] [] f0 hM rfl rfl (by decide) (fun _=>by rw [show aBK _ ([]:List Nat)=[] from rfl,aXD];exact aK6 bn _) fun u Mn w1 hK hM=>?_;obtain ⟨bt,rfl,rfl⟩:=hK;have hM:=hM.row (f:=arL) (c:=4) (E:=47);have hM9:Mm nF_ w w1 ([bk ab #[vL none 0 0] 75,bk ac #[.map (some aa)] 160,mp Tryz.prog 47 aa 0 (fun _=>none),rw_ arL 4 47 (vL none 0 0) []]++[bk bt #[vP bn 0] 157,bk bn #[vL p0 os.length cp0,.map (some b1),.map (some b2)] 198,mp Tryz.prog 9 b1 n1 (aEy (aAa os)),mp Tryz.prog 9 b2 n2 (aFP (aAg (aAa os)) os)]):=hM.pick [4,6,5,8,7,1,2,3];have hap:∀ x∈[bk bt #[vP bn 0] 157,bk bn #[vL p0 os.length cp0,.map (some b1),.map (some b2)] 198,mp Tryz.prog 9 b1 n1 (aEy (aAa os)),mp Tryz.prog 9 b2 n2 (aFP (aAg (aAa os)) os)],∀ k,x.B k->¬ BlM [bk ab #[vL none 0 0] 75,bk ac #[.map (some aa)] 160,mp Tryz.prog 47 aa 0 (fun _=>none),rw_ arL 4 47 (vL none 0 0) []] k /\ k<w1.heap.size:=fun x hx k hk=>⟨hM9.apart hx hk,x.lt (hM9.at_ x (List.mem_append_right _ hx)) hk⟩;have hM:Mm nF_ w _ [bk ab #[vL none 0 0] 75,bk ac #[.map (some aa)] 160,mp Tryz.prog 47 aa 0 (fun _=>none),rw_ arL 4 47 (vL none 0 0) []]:=hM.pick [4,6,5,8];have nap:∀ x∈[bk bt #[vP bn 0] 157,bk bn #[vL p0 os.length cp0,.map (some b1),.map (some b2)] 198,mp Tryz.prog 9 b1 n1 (aEy (aAa os)),mp Tryz.prog 9 b2 n2 (aFP (aAg (aAa os)) os)],∀ k,x.B k->∀ G:Nat->Prop,(∀ k,G k->BlM [bk ab #[vL none 0 0] 75,bk ac #[.map (some aa)] 160,mp Tryz.prog 47 aa 0 (fun _=>none),rw_ arL 4 47 (vL none 0 0) []] k∨w1.heap.size<=k)->¬ G k:=fun x hx k hk G hG h=>(hG k h).elim (hap x hx k hk).1 fun h2=>absurd (hap x hx k hk).2 (by omega);refine seg 1007 0 [] f0 (aWS 7 (g := .tmp 17) (ps:=#[18]) (vs:=(aAw os).map fun a=>#[aJr a]) (fun k Mk=>∃ q c n,Mk=[bk ab #[vL q (aCn ((aAw os).take k)).length c] 75,bk ac #[.map (some aa)] 160,mp Tryz.prog 47 aa n (setA (aCn ((aAw os).take k))),rw_ arL 4 47 (vL q (aCn ((aAw os).take k)).length c) (aCn ((aAw os).take k))]) hM ⟨none,0,0,by rw [List.take_zero,show aCn []=[] from rfl,aRo];rfl⟩ (enters_of Tryz.func117 (by kernel_rfl) rfl) (aLM fun b hb=>(hob b hb).bnd) (fun G W hG f=>⟨f.obj (hM9.get 4 rfl) id,f.obj (hM9.get 5 rfl) id,(hM9.get 6 rfl:aD0 _ _ _ _ _ _).fr f id,(hM9.get 7 rfl:aD0 _ _ _ _ _ _).fr f id,nap _ (.head _) _ rfl G hG,nap _ (.tail _ (.head _)) _ rfl G hG,nap _ (.tail _ (.tail _ (.head _))) _ rfl G hG,nap _ (.tail _ (.tail _ (.tail _ (.head _)))) _ rfl G hG,_,sp0.b (hM9.fr.trans' f fun _ _ h=>h),fun b hb=>(hob b hb).refs.b (hM9.fr.trans' f fun _ _ h=>h),hM.geK hG⟩) (vsz (ps:=#[18]) rfl) ?_ ?_)
  · skip
    intro k v Mk W l hv hI hfW hM;obtain ⟨q,c,n,rfl⟩:=hI;obtain ⟨y,hy,rfl⟩:=aT1 hv;refine aCl 7 0 7 [] [] 47 (.agg #[vS y.1,vS y.2.1,vS y.2.2.1,vI y.2.2.2]) f0 hM fun af w1 hM=>aUq [(7,vP af 0),(6,vP ac 0),(5,vP ab 0)] f0 fun a E=>⟨_,_,E,hM,fun W2 l2 R2 hf2 hM hE=>?_⟩;have hab:=aFv (fun b hb=>(hob b hb).bnd) y (gm hy);refine seg 8 4 [(22,vB (!((aCn ((aAw os).take k)).contains y)))] (fc (ldm 160 1 0 hM rfl rfl) (fc (lam 47 4 0 4 hM rfl) (fc (rz2 (lk 160 2 (.agg #[vS y.1,vS y.2.1,vS y.2.2.1,vI y.2.2.2]) (vB false) hM rfl aVS Tryz.underlying160 (aVU hab.f1 hab.f2 hab.f3 hab.wf) (aKE _)) (aON (aCn ((aAw os).take k)) y)) f0))) ?_;cases h75:((aCn ((aAw os).take k)).contains y)
    rotate_left
    ·have e9:(aCn ((aAw os).take k))=(aCn ((aAw os).take (k+1))):=by rw [gt_ hy,aM0,h75];rfl
     have hM:Mm (BlM [bk ab #[vL q (aCn ((aAw os).take k)).length c] 75,bk ac #[.map (some aa)] 160,mp Tryz.prog 47 aa n (setA (aCn ((aAw os).take k))),rw_ arL 4 47 (vL q (aCn ((aAw os).take k)).length c) (aCn ((aAw os).take k)),bk af #[vS y.1,vS y.2.1,vS y.2.2.1,vI y.2.2.2] 47]) W2 _ [bk ab #[vL q (aCn ((aAw os).take k)).length c] 75,bk ac #[.map (some aa)] 160,mp Tryz.prog 47 aa n (setA (aCn ((aAw os).take k))),rw_ arL 4 47 (vL q (aCn ((aAw os).take k)).length c) (aCn ((aAw os).take k))]:=hM.pick [0,1,2,3];have hM:=hM.cast (M':=[bk ab #[vL q (aCn ((aAw os).take (k+1))).length c] 75,bk ac #[.map (some aa)] 160,mp Tryz.prog 47 aa n (setA (aCn ((aAw os).take (k+1)))),rw_ arL 4 47 (vL q (aCn ((aAw os).take (k+1))).length c) (aCn ((aAw os).take (k+1)))]) (by rw [e9]);exact aUq [] f0 fun a E=>hE.nrm a _ _ ⟨_,_,_,rfl⟩ hM
    refine mup 9 2 [(23,.map (some aa)),(24,.agg #[vS y.1,vS y.2.1,vS y.2.2.1,vI y.2.2.2])] 160 2 (.agg #[vS y.1,vS y.2.1,vS y.2.2.1,vI y.2.2.2]) (vB true) (fc (ldm 160 1 0 hM rfl rfl) (fc (lam 47 4 0 4 hM rfl) f0)) hM rfl aVS Tryz.underlying160 (aVU hab.f1 hab.f2 hab.f3 hab.wf) fun w1 hM=>?_;rw [show upd (setA (aCn ((aAw os).take k))) (.agg #[vS y.1,vS y.2.1,vS y.2.2.1,vI y.2.2.2]) (vB true)=setA ((aCn ((aAw os).take k))++[y]) from aRn _ y] at hM;refine aAp 10 2 27 [(25,vL q (aCn ((aAw os).take k)).length c),(26,.agg #[vS y.1,vS y.2.1,vS y.2.2.1,vI y.2.2.2])] (cs:=#[vS y.1,vS y.2.1,vS y.2.2.1,vI y.2.2.2]) (T:=47) (v:=fun b=>vL (some ⟨b,0,none⟩) 1 1) (fc (ldm 75 0 0 hM rfl rfl) (fc (lam 47 4 0 4 hM rfl) f0)) hM fun ah w1 hM=>aH5 10 3 28 [] (cap:=1) (by decide) arT f0 hM (j:=3) rfl (aAG (f:=arL) (x:=y) (hM.get 5 rfl) (Gq_ _)) (fun h=>by cases h) (by have:=aGU ((aAw os).take k);simp only [Gt_,Gf_,Go_] at this ⊢;omega) fun v77 w1 hM=>?_;obtain ⟨ad,ae,e77,-⟩:=(hM.src (j:=3) rfl arT.len).op;subst e77;refine stm 10 4 [] 75 0 0 (vL ad ((aCn ((aAw os).take k))++[y]).length ae) f0 hM rfl fun w1 hM=>?_;have e9:(aCn ((aAw os).take k))++[y]=(aCn ((aAw os).take (k+1))):=by rw [gt_ hy,aM0,h75];rfl
    have hM:Mm (BlM [bk ab #[vL q (aCn ((aAw os).take k)).length c] 75,bk ac #[.map (some aa)] 160,mp Tryz.prog 47 aa n (setA (aCn ((aAw os).take k))),rw_ arL 4 47 (vL q (aCn ((aAw os).take k)).length c) (aCn ((aAw os).take k)),bk af #[vS y.1,vS y.2.1,vS y.2.2.1,vI y.2.2.2] 47]) W2 _ [bk ab #[vL ad ((aCn ((aAw os).take k))++[y]).length ae] 75,bk ac #[.map (some aa)] 160,mp Tryz.prog 47 aa (n+1) (setA ((aCn ((aAw os).take k))++[y])),rw_ arL 4 47 (vL ad ((aCn ((aAw os).take k))++[y]).length ae) ((aCn ((aAw os).take k))++[y])]:=hM.pick [0,1,2,3];have hM:=hM.cast (M':=[bk ab #[vL ad (aCn ((aAw os).take (k+1))).length ae] 75,bk ac #[.map (some aa)] 160,mp Tryz.prog 47 aa (n+1) (setA (aCn ((aAw os).take (k+1)))),rw_ arL 4 47 (vL ad (aCn ((aAw os).take (k+1))).length ae) (aCn ((aAw os).take (k+1)))]) (by rw [e9]);exact aUq [] f0 fun a E=>hE.nrm a _ _ ⟨_,_,_,rfl⟩ hM
  · skip
    intro Mk w1 hI hM;obtain ⟨k,hk⟩:∃ k,k=((aAw os).map fun a=>#[aJr a]).length:=⟨_,rfl⟩;rw [←hk] at hI;obtain ⟨q,c,n,rfl⟩:=hI;exact aXu 2 (vL q (aCn ((aAw os).take k)).length c) rfl (fc (ldm 75 0 0 hM rfl rfl) f0) hM (fun w9 hM=>hZ _ _ ⟨_,rfl,by have:=hM.nrow (j:=3) rfl;have e9:(aAw os).take k=aAw os:=Gc_ (by rw [hk,Gs_];exact Gl_ _);rw [e9] at this ⊢;exact this,hM.fr⟩)
section
variable {α:Type}
abbrev Res (α β:Type):=Except (Int×α) β
def aBB (k:Int) (xs:List Bys):List (Tok α)->Bool
  | []=>false
  | t::_=>t.1==k&&(xs.isEmpty||xs.contains t.2.1)
def take (en:α) (k:Int) (xs:List Bys) (ts:List (Tok α)):Res α (Tok α×List (Tok α)) :=
  match ts with
  | [] => .error (6,en)
  | t::l=>if aBB k xs (t::l) then .ok (t,l) else .error (5,t.2.2)
def aAF (t:Bys):Int:=t.foldl (fun n b=>10*n+((b.toNat:Int)-48)) 0
def aIm:Bys:=[58]
def aFt:Bys:=[45]
def aAW:Bys:=[44]
def aD2:List Bys:=[[109,111],[116,117],[119,101],[116,104],[102,114],[115,97],[115,117]]
def aE3:Bys:=[97,108,119,97,121,115]
def aIT:Bys:=[110,101,118,101,114]
def clock (en:α) (most:Int) (ts:List (Tok α)):Res α ((Int×α)×List (Tok α)) :=
  match take en 2 [] ts with
  | .error e => .error e
  | .ok (h,ts) =>
    if aAF h.2.1>most then .error (10,h.2.2)
    else match take en 4 [aIm] ts with
      | .error e => .error e
      | .ok (_,ts)=>match take en 2 [] ts with
        | .error e => .error e
        | .ok (m,ts) =>
          if m.2.1.length != 2||aAF m.2.1>59||(aAF h.2.1==24&&aAF m.2.1>0) then .error (10,m.2.2)
          else .ok ((60*aAF h.2.1+aAF m.2.1,h.2.2),ts)
def aDi (f t:Int):List Sp:=if t>10080 then [(f,min t 10080),(0,t-10080)] else [(f,min t 10080)]
def aKv (f n a b:Int):List Sp:=(List.range n.toNat).flatMap fun (i:Nat)=>aDi ((f+(i:Int)).tmod 7*1440+a) ((f+(i:Int)).tmod 7*1440+b)
def aD4 (en:α) (f t:Int) (ts:List (Tok α)):Res α (List Sp×List (Tok α)) :=
  match clock en 23 ts with
  | .error e => .error e
  | .ok ((a,_),ts)=>match take en 4 [aFt] ts with
    | .error e => .error e
    | .ok (_,ts)=>match clock en 24 ts with
      | .error e => .error e
      | .ok ((b,at_),ts) =>
        if a==b then .error (10,at_) else .ok (aKv f ((t-f+7).tmod 7+1) a (if b<a then b+1440 else b),ts)
def more:List (Tok α)->Bool
  | t::u::l=>aBB 4 [aAW] (t::u::l)&&u.1==2
  | _=>false
def aCu (en:α) (f t:Int):Nat->List (Tok α)->Res α (List Sp×List (Tok α))
  | 0,_ => .error (6,en)
  | n+1,ts=>match aD4 en f t ts with
    | .error e => .error e
    | .ok (s,ts)=>if more ts then (match aCu en f t n (ts.drop 1) with | .error e => .error e | .ok (s',ts) => .ok (s++s',ts)) else .ok (s,ts)
def idx (d:Bys):Int:=aD2.findIdx (· == d)
def dys (en:α) (ts:List (Tok α)):Res α ((Int×Int)×List (Tok α)) :=
  match take en 1 aD2 ts with
  | .error e => .error e
  | .ok (f,ts) =>
    if aBB 4 [aFt] ts then (match take en 1 aD2 (ts.drop 1) with
      | .error e => .error e
      | .ok (t,ts) => .ok ((idx f.2.1,idx t.2.1),ts))
    else .ok ((idx f.2.1,idx f.2.1),ts)
def part (en:α) (ts:List (Tok α)):Res α (List Sp×List (Tok α)) :=
  match dys en ts with
  | .error e => .error e
  | .ok ((f,t),ts)=>aCu en f t (ts.length+1) ts
def aCD (en:α):Nat->List (Tok α)->Res α (List Sp×List (Tok α))
  | 0,_ => .error (6,en)
  | n+1,ts=>match part en ts with
    | .error e => .error e
    | .ok (s,ts)=>if aBB 4 [aAW] ts then (match aCD en n (ts.drop 1) with | .error e => .error e | .ok (s',ts) => .ok (s++s',ts)) else .ok (s,ts)
def fin:Res α (List Sp×List (Tok α))->Res α (List Sp)
  | .error e => .error e
  | .ok (s,[]) => .ok s
  | .ok (_,t::_) => .error (5,t.2.2)
def aBy (en:α) (ts:List (Tok α)):Res α (List Sp×List (Tok α)) :=
  if aBB 1 [aE3] ts then .ok (aDi 0 10080,ts.drop 1) else if aBB 1 [aIT] ts then .ok ([],ts.drop 1) else aCD en (ts.length+1) ts
def aET (en:α) (ts:List (Tok α)):Res α (List Sp):=fin (aBy en ts)
end
def aBL (l:Bys):Except (Int×Int) (List Sp) :=
  match aM6 l with
  | .error e => .error e
  | .ok ts=>match aET (l.length:Int) ts with
    | .error e => .error e
    | .ok s=>if (aEJ s).length>60 then .error (2,(l.length:Int)) else .ok (aEJ s)
section
variable {α:Type}{en:α}
theorem aAZ {k:Int}{xs:List Bys}{ts:List (Tok α)}{t:Tok α}{l:List (Tok α)}(h:take en k xs ts = .ok (t,l)):ts=t::l /\ t.1=k /\ (xs=[]∨t.2.1∈xs):=by
  unfold take at h
  split at h
  · cases h
  · split at h
    · rename_i hs
      cases h;unfold aBB at hs;simp only [Ga_,beq_iff_eq,Bool.or_eq_true,List.isEmpty_iff,List.contains_eq_mem,decide_eq_true_eq] at hs;exact ⟨rfl,hs.1,hs.2⟩
    · cases h
theorem aDk {k:Int}{xs:List Bys}{ts:List (Tok α)}{t:Tok α}{l:List (Tok α)}(h:take en k xs ts = .ok (t,l)):l.length+1=ts.length:=by
  rw [(aAZ h).1];simp
theorem aMS {most:Int}{ts l:List (Tok α)}{r:Int×α}(h:clock en most ts = .ok (r,l)):l.length+3=ts.length:=by
  unfold clock at h
  split at h
  · cases h
  · rename_i h1
    split at h
    · cases h
    · split at h
      · cases h
      · rename_i h2
        split at h
        · cases h
        · rename_i h3
          split at h
          · cases h
          · cases h
            have:=aDk h1;have:=aDk h2;have:=aDk h3;omega
theorem aCN {f t:Int}{ts l:List (Tok α)}{s:List Sp}(h:aD4 en f t ts = .ok (s,l)):l.length+7=ts.length:=by
  unfold aD4 at h
  split at h
  · cases h
  · rename_i h1
    split at h
    · cases h
    · rename_i h2
      split at h
      · cases h
      · rename_i h3
        split at h
        · cases h
        · cases h
          have:=aMS h1;have:=aDk h2;have:=aMS h3;omega
theorem aO1 {f t:Int}:∀ (n:Nat) {ts l:List (Tok α)}{s:List Sp},aCu en f t n ts = .ok (s,l)->l.length<ts.length:=by
  intro n
  induction n with
  | zero=>intro ts l s h;cases h
  | succ n ih =>
    intro ts l s h;unfold aCu at h
    split at h
    · cases h
    · rename_i h1
      have:=aCN h1
      split at h
      · split at h
        · cases h
        · rename_i h2
          cases h;have h3:=ih h2;rw [Gr_] at h3;omega
      · cases h;omega
theorem aHM {f t:Int}:∀ (n m:Nat) (ts:List (Tok α)),ts.length<n->ts.length<m->aCu en f t n ts=aCu en f t m ts:=by
  intro n
  induction n with
  | zero=>intro m ts h;omega
  | succ n ih =>
    intro m ts h h2
    cases m with
    | zero=>omega
    | succ m =>
      unfold aCu
      split
      · rfl
      · rename_i h1
        have:=aCN h1;rw [ih m _ (by rw [Gr_];omega) (by rw [Gr_];omega)]
theorem aHp {ts l:List (Tok α)}{r:Int×Int}(h:dys en ts = .ok (r,l)):l.length<ts.length:=by
  unfold dys at h
  split at h
  · cases h
  · rename_i h1
    have:=aDk h1
    split at h
    · split at h
      · cases h
      · rename_i h2
        have h3:=aDk h2;rw [Gr_] at h3;cases h;omega
    · cases h;omega
theorem aGo {ts l:List (Tok α)}{s:List Sp}(h:part en ts = .ok (s,l)):l.length<ts.length:=by
  unfold part at h
  split at h
  · cases h
  · rename_i h1
    have:=aHp h1;have:=aO1 _ h;omega
theorem aIb:∀ (n m:Nat) (ts:List (Tok α)),ts.length<n->ts.length<m->aCD en n ts=aCD en m ts:=by
  intro n
  induction n with
  | zero=>intro m ts h;omega
  | succ n ih =>
    intro m ts h h2
    cases m with
    | zero=>omega
    | succ m =>
      unfold aCD
      split
      · rfl
      · rename_i h1
        have:=aGo h1;rw [ih m _ (by rw [Gr_];omega) (by rw [Gr_];omega)]
end
section
variable {α β:Type}(φ:α->β)
end
section
variable {α:Type}{en:α}
end
example:aBL [109,111,45,116,117,32,57,58,48,48,45,49,55,58,51,48] = .ok [(540,1050),(1980,2490)]:=by kernel_rfl
theorem aEP {p:UInt8->Bool}(h:(List.range 256).all (fun n=>p (UInt8.ofNat n))=true) (b:UInt8):p b=true:=by
  have:=List.all_eq_true.1 h b.toNat (List.mem_range.2 b.toNat_lt);simpa using this
theorem cls (b:UInt8):(!aD1 b||(!aB7 b&&b != 35 && !aBh b && !aAv b&&b != 34 && !aAI b))=true:=aEP (p:=fun b => !aD1 b||(!aB7 b&&b != 35 && !aBh b && !aAv b&&b != 34 && !aAI b)) (by decide +kernel) b
theorem aYq (b:UInt8):(!aBh b||(!aB7 b&&b != 35 && !aAv b&&aAI b))=true:=aEP (p:=fun b => !aBh b||(!aB7 b&&b != 35 && !aAv b&&aAI b)) (by decide +kernel) b
theorem aYr (b:UInt8):(!aAv b||(!aB7 b&&b != 35 && !aBh b&&aAI b))=true:=aEP (p:=fun b => !aAv b||(!aB7 b&&b != 35 && !aBh b&&aAI b)) (by decide +kernel) b
theorem aKl {b:UInt8}(h:aD1 b=true):aB7 b=false /\ (b==35)=false /\ aBh b=false /\ aAv b=false /\ (b==34)=false /\ aAI b=false:=by
  have:=cls b;rw [h] at this;simp only [Bool.not_true,Bool.false_or,Ga_,Bool.not_eq_true',bne_iff_ne] at this;obtain ⟨⟨⟨⟨⟨h1,h2⟩,h3⟩,h4⟩,h5⟩,h6⟩:=this;exact ⟨h1,beq_false_of_ne h2,h3,h4,beq_false_of_ne h5,h6⟩
theorem aHh {b:UInt8}(h:aBh b=true):aB7 b=false /\ (b==35)=false /\ aAv b=false /\ aAI b=true:=by
  have:=aYq b;rw [h] at this;simp only [Bool.not_true,Bool.false_or,Ga_,Bool.not_eq_true',bne_iff_ne] at this;obtain ⟨⟨⟨h1,h2⟩,h3⟩,h4⟩:=this;exact ⟨h1,beq_false_of_ne h2,h3,h4⟩
theorem aPO {b:UInt8}(h:aAv b=true):aB7 b=false /\ (b==35)=false /\ aBh b=false /\ aAI b=true:=by
  have:=aYr b;rw [h] at this;simp only [Bool.not_true,Bool.false_or,Ga_,Bool.not_eq_true',bne_iff_ne] at this;obtain ⟨⟨⟨h1,h2⟩,h3⟩,h4⟩:=this;exact ⟨h1,beq_false_of_ne h2,h3,h4⟩
theorem aPw {c:UInt8}{l:Bys}(h:aB7 c=true):one c l=(0,[],0,0):=by unfold one;rw [if_pos h]
theorem aPu {c:UInt8}{l:Bys}(h:aD1 c=true):one c l=(4,[c],0,0):=by
  obtain ⟨h1,h2,h3,h4,h5,_⟩:=aKl h;unfold one;simp only [h1,h2,h3,h4,h5,h,Bool.false_eq_true,if_false,if_true]
theorem aM8:∀ (n:Nat) (l:Bys) (a:Int),l.length<=n->((aBE l a).Pairwise fun x y=>x.1.2.2<y.1.2.2) /\ ∀ x∈aBE l a,a<=x.1.2.2 /\ x.1.2.2<a+l.length:=by
  intro n
  induction n with
  | zero => intro l a h; have : l = [] := by cases l with | nil => rfl | cons => simp at h
            subst this;exact ⟨.nil,fun x hx=>by cases hx⟩
  | succ n ih =>
    intro l a h
    cases l with
    | nil=>exact ⟨.nil,fun x hx=>by cases hx⟩
    | cons c l =>
      simp only [Gf_] at h ⊢;rw [aDa]
      have ih2:∀ k,∀ x∈aBE (l.drop k) (a+1+k),a+1<=x.1.2.2 /\ x.1.2.2<a+((l.length+1:Nat):Int):=fun k x hx=>by
        by_cases hk:k<=l.length
        · have:=(ih (l.drop k) (a+1+k) (by simp;omega)).2 x hx
          rw [Gr_] at this;omega
        · rw [Gi_ (by omega)] at hx;cases hx
      split
      · exact ⟨List.pairwise_singleton _ _,fun x hx=>by rw [Gd_] at hx;subst hx;simp only;omega⟩
      · split
        · exact ⟨(ih _ _ (by simp;omega)).1,fun x hx=>by have:=ih2 _ x hx;omega⟩
        · refine ⟨List.pairwise_cons.2 ⟨fun y hy=>by have:=ih2 _ y hy;simp only;omega,(ih _ _ (by simp;omega)).1⟩,fun x hx=>?_⟩
          rcases List.mem_cons.1 hx with rfl | hx
          · simp only;omega
          · have:=ih2 _ x hx;omega
theorem aRh:∀ (n:Nat) (l r:Bys),l.length<=n->∀ {s:Bys}{k:Nat},aBY l=some (s,k)->aBY (l++r)=some (s,k) /\ k<=l.length:=by
  intro n
  induction n with
  | zero => intro l r h s k hs; have : l = [] := by cases l with | nil => rfl | cons => simp at h
            subst this;cases hs
  | succ n ih =>
    intro l r h s k hs
    cases l with
    | nil=>cases hs
    | cons c l =>
      simp only [Gf_,List.cons_append] at h ⊢;unfold aBY at hs ⊢
      split at hs
      · rename_i h1;rw [if_pos h1];cases hs;exact ⟨rfl,by omega⟩
      rename_i h1;rw [if_neg h1]
      split at hs
      · cases hs
      rename_i h2;rw [if_neg h2]
      split at hs
      · rename_i h3;rw [if_pos h3]
        cases l with
        | nil=>cases hs
        | cons d l =>
          simp only [List.cons_append] at hs ⊢
          split at hs
          · rename_i h4;rw [if_pos h4]
            cases hq:aBY l with
            | none=>rw [hq] at hs;cases hs
            | some q =>
              obtain ⟨s1,k1⟩:=q;rw [hq] at hs;obtain ⟨e,e2⟩:=ih l r (by simp only [Gf_] at h;omega) hq;rw [e];cases hs;exact ⟨rfl,by simp only [Gf_];omega⟩
          · cases hs
      · rename_i h3;rw [if_neg h3]
        cases hq:aBY l with
        | none=>rw [hq] at hs;cases hs
        | some q =>
          obtain ⟨s1,k1⟩:=q;rw [hq] at hs;obtain ⟨e,e2⟩:=ih l r (by omega) hq;rw [e];cases hs;exact ⟨rfl,by omega⟩
theorem aEU (p:UInt8->Bool) (l:Bys):(l.takeWhile p).length<=l.length:=by
  induction l with
  | nil=>simp
  | cons c l ih=>rw [List.takeWhile_cons];split<;>simp;omega
theorem aFM:∀ (l:List (Tok Int×Int)),aFN l=none↔∀ x∈l,x.2=0:=by
  intro l
  induction l with
  | nil=>exact ⟨(fun _ x hx=>by cases hx),fun _=>rfl⟩
  | cons x l ih =>
    unfold aFN
    by_cases h:x.2=0
    · rw [if_neg (by simp [h]),ih]
      exact ⟨fun k y hy=>by rcases List.mem_cons.1 hy with rfl | hy;exact h;exact k y hy,fun k y hy=>k y (List.mem_cons_of_mem _ hy)⟩
    · rw [if_pos (by simpa using h)]
      exact ⟨(fun k=>by cases k),fun k=>absurd (k x List.mem_cons_self) h⟩
section
variable {α:Type}{en:α}{E:Int×α->Prop}
def Hs (E:Int×α->Prop) (en:α) (ts:List (Tok α)):Prop:=E (6,en) /\ ∀ t∈ts,E (5,t.2.2) /\ E (10,t.2.2)
theorem Hs.tl {ts:List (Tok α)}(h:Hs E en ts):∀ t∈ts,E (5,t.2.2) /\ E (10,t.2.2):=h.2
theorem Hs.drop {ts:List (Tok α)}(h:Hs E en ts) (k:Nat):Hs E en (ts.drop k):=⟨h.1,fun t ht=>h.2 t (List.mem_of_mem_drop ht)⟩
def Er {β:Type}(E:Int×α->Prop) (en:α):Res α (β×List (Tok α))->Prop
  | .error e=>E e
  | .ok (_,l)=>Hs E en l
theorem aEc {ts:List (Tok α)}(h:Hs E en ts) (k:Int) (xs:List Bys):Er E en (take en k xs ts):=by
  unfold take
  cases ts with
  | nil=>exact h.1
  | cons t l =>
    simp only
    split
    · exact h.drop 1
    · exact (h.2 t List.mem_cons_self).1
theorem aKz {ts:List (Tok α)}(h:Hs E en ts) (m:Int):Er E en (clock en m ts):=by
  have h1:=aEc h 2 [];unfold clock
  split
  · rename_i e he;rw [he] at h1;exact h1
  · rename_i t ts1 he
    rw [he] at h1;have ht:t∈ts:=by rw [(aAZ he).1];exact List.mem_cons_self
    split
    · exact (h.2 t ht).2
    · have h2:=aEc (ts:=ts1) h1 4 [aIm]
      split
      · rename_i e he2;rw [he2] at h2;exact h2
      · rename_i t2 ts2 he2
        rw [he2] at h2;have h3:=aEc (ts:=ts2) h2 2 []
        split
        · rename_i e he3;rw [he3] at h3;exact h3
        · rename_i t3 ts3 he3
          rw [he3] at h3;have hm:t3∈ts2:=by rw [(aAZ he3).1];exact List.mem_cons_self
          split
          · exact (Hs.tl (ts:=ts2) h2 t3 hm).2
          · exact h3
theorem aSu {ts l:List (Tok α)}{m x:Int}{a:α}(h:clock en m ts = .ok ((x,a),l)):∃ t∈ts,t.2.2=a:=by
  unfold clock at h
  split at h
  · cases h
  · rename_i t ts1 he
    have ht:t∈ts:=by rw [(aAZ he).1];exact List.mem_cons_self
    split at h
    · cases h
    · split at h
      · cases h
      · split at h
        · cases h
        · split at h
          · cases h
          · cases h;exact ⟨t,ht,rfl⟩
theorem aQZ {ts:List (Tok α)}(h:Hs E en ts) (f t:Int):Er E en (aD4 en f t ts):=by
  have h1:=aKz h 23;unfold aD4
  split
  · rename_i e he;rw [he] at h1;exact h1
  · rename_i a x ts1 he
    rw [he] at h1;have h2:=aEc (ts:=ts1) h1 4 [aFt]
    split
    · rename_i e he2;rw [he2] at h2;exact h2
    · rename_i t2 ts2 he2
      rw [he2] at h2;have h3:=aKz (ts:=ts2) h2 24
      split
      · rename_i e he3;rw [he3] at h3;exact h3
      · rename_i b y ts3 he3
        rw [he3] at h3
        split
        · obtain ⟨t,ht,e⟩:=aSu he3
          have:=(Hs.tl (ts:=ts2) h2 t ht).2;rw [e] at this;exact this
        · exact h3
theorem aO2 (f t:Int):∀ (n:Nat) {ts:List (Tok α)},Hs E en ts->Er E en (aCu en f t n ts):=by
  intro n
  induction n with
  | zero=>intro ts h;exact h.1
  | succ n ih =>
    intro ts h;have h1:=aQZ h f t;unfold aCu
    split
    · rename_i e he;rw [he] at h1;exact h1
    · rename_i s ts1 he
      rw [he] at h1
      split
      · have h2:=ih (ts:=ts1.drop 1) (Hs.drop (ts:=ts1) h1 1)
        split
        · rename_i e he2;rw [he2] at h2;exact h2
        · rename_i s2 ts2 he2;rw [he2] at h2;exact h2
      · exact h1
theorem aUH {ts:List (Tok α)}(h:Hs E en ts):Er E en (dys en ts):=by
  have h1:=aEc h 1 aD2;unfold dys
  split
  · rename_i e he;rw [he] at h1;exact h1
  · rename_i t ts1 he
    rw [he] at h1
    split
    · have h2:=aEc (ts:=ts1.drop 1) (Hs.drop (ts:=ts1) h1 1) 1 aD2
      split
      · rename_i e he2;rw [he2] at h2;exact h2
      · rename_i t2 ts2 he2;rw [he2] at h2;exact h2
    · exact h1
theorem aRC {ts:List (Tok α)}(h:Hs E en ts):Er E en (part en ts):=by
  have h1:=aUH h;unfold part
  split
  · rename_i e he;rw [he] at h1;exact h1
  · rename_i a b ts1 he
    rw [he] at h1;exact aO2 _ _ _ h1
theorem aPm:∀ (n:Nat) {ts:List (Tok α)},Hs E en ts->Er E en (aCD en n ts):=by
  intro n
  induction n with
  | zero=>intro ts h;exact h.1
  | succ n ih =>
    intro ts h;have h1:=aRC h;unfold aCD
    split
    · rename_i e he;rw [he] at h1;exact h1
    · rename_i s ts1 he
      rw [he] at h1
      split
      · have h2:=ih (ts:=ts1.drop 1) (Hs.drop (ts:=ts1) h1 1)
        split
        · rename_i e he2;rw [he2] at h2;exact h2
        · rename_i s2 ts2 he2;rw [he2] at h2;exact h2
      · exact h1
theorem aO6 {ts:List (Tok α)}(h:Hs E en ts) {e:Int×α}(he:aET en ts = .error e):E e:=by
  have:Er E en (aBy en ts):=by
    unfold aBy
    split
    · exact h.drop 1
    · split
      · exact h.drop 1
      · exact aPm _ h
  unfold aET at he
  cases hq:aBy en ts with
  | error q=>rw [hq] at he this;cases he;exact this
  | ok q =>
    obtain ⟨s,l⟩:=q;rw [hq] at he this
    cases l with
    | nil=>cases he
    | cons t l=>cases he;exact (Hs.tl (ts:=t::l) this t List.mem_cons_self).1
theorem aRc {ts:List (Tok α)}{c:Int}{x:α}(he:aET en ts = .error (c,x)):c≠0 /\ (x=en∨∃ t∈ts,t.2.2=x) :=
  aO6 (E:=fun e=>e.1≠0 /\ (e.2=en∨∃ t∈ts,t.2.2=e.2)) ⟨⟨by simp,.inl rfl⟩,fun t ht=>⟨⟨by simp,.inr ⟨t,ht,rfl⟩⟩,⟨by simp,.inr ⟨t,ht,rfl⟩⟩⟩⟩ he
def Tk (ts:List (Tok α)):Prop:=∀ t∈ts,aKO t
theorem Tk.drop {ts:List (Tok α)}(h:Tk ts) (k:Nat):Tk (ts.drop k):=fun t ht=>h t (List.mem_of_mem_drop ht)
theorem aP5 (l:Bys):∀ (n:Int),0<=n->(∀ b∈l,aAv b=true)->0<=l.foldl (fun n b=>10*n+((b.toNat:Int)-48)) n:=by
  induction l with
  | nil=>intro n h _;exact h
  | cons c l ih =>
    intro n h hd;have hc:=hd c List.mem_cons_self
    have:48<=c.toNat:=by
      unfold aAv at hc;rw [Ga_] at hc;have:=of_decide_eq_true hc.1;exact UInt8.le_iff_toNat_le.1 this
    have h9:0<=10*n+((c.toNat:Int)-48):=by omega
    exact ih _ h9 fun b hb=>hd b (List.mem_cons_of_mem _ hb)
theorem aFA {t:Tok α}(h:aKO t) (hk:t.1=2):0<=aAF t.2.1:=by
  rcases h with ⟨h,_⟩ | ⟨h,_,_,h2⟩ | h | ⟨h,_⟩
  · omega
  · exact aP5 _ 0 (Int.le_refl _) h2
  · omega
  · omega
theorem aAJ {k:Int}{xs:List Bys}{ts:List (Tok α)}{t:Tok α}{l:List (Tok α)}(hk:Tk ts) (h:take en k xs ts = .ok (t,l)):aKO t /\ t.1=k /\ Tk l:=by
  obtain ⟨h1,h2,_⟩:=aAZ h;subst h1;exact ⟨hk t List.mem_cons_self,h2,fun u hu=>hk u (List.mem_cons_of_mem _ hu)⟩
theorem aCk {most x:Int}{a:α}{ts l:List (Tok α)}(hk:Tk ts) (h:clock en most ts = .ok ((x,a),l)):0<=x /\ x<=60*most+59 /\ (most=24->x<=1440) /\ Tk l:=by
  unfold clock at h
  split at h
  · cases h
  · rename_i t ts1 he
    obtain ⟨t1,t2,t3⟩:=aAJ hk he;have hn:=aFA t1 t2
    split at h
    · cases h
    · rename_i hmo
      split at h
      · cases h
      · rename_i c ts2 he2
        obtain ⟨_,_,t4⟩:=aAJ t3 he2
        split at h
        · cases h
        · rename_i m ts3 he3
          obtain ⟨u1,u2,u3⟩:=aAJ t4 he3;have hm:=aFA u1 u2
          split at h
          · cases h
          · rename_i hb
            simp only [Bool.or_eq_true,bne_iff_ne,decide_eq_true_eq,Ga_,beq_iff_eq,not_or,not_and] at hb;cases h;exact ⟨by omega,by omega,fun e=>by omega,u3⟩
theorem aQ9 {f t:Int}(h0:0<=f) (h1:f<t) (h2:f<10080) (h3:t<=20160):wk (aDi f t):=by
  unfold aDi
  split
  · intro s hs
    simp only [Gj_,List.not_mem_nil,or_false] at hs;rcases hs with rfl | rfl<;>simp only<;>omega
  · intro s hs
    rw [Gd_] at hs;subst hs;simp only;omega
theorem aLR {a b:List Sp}(ha:wk a) (hb:wk b):wk (a++b):=fun s hs=>(List.mem_append.1 hs).elim (ha s) (hb s)
theorem aUM {f n a b:Int}(hf:0<=f) (ha:0<=a) (hab:a<b) (ha2:a<1440) (hb:b<=2880):wk (aKv f n a b):=by
  intro s hs;unfold aKv at hs;obtain ⟨i,hi,hs⟩:=List.mem_flatMap.1 hs;have h1:0<=(f+(i:Int)).tmod 7 /\ (f+(i:Int)).tmod 7<7:=by rw [Int.tmod_eq_emod_of_nonneg (by omega)];omega
  exact aQ9 (by omega) (by omega) (by omega) (by omega) s hs
theorem aO3 {f t:Int}(hf:0<=f) {ts l:List (Tok α)}{s:List Sp}(hk:Tk ts) (h:aD4 en f t ts = .ok (s,l)):wk s /\ Tk l:=by
  unfold aD4 at h
  split at h
  · cases h
  · rename_i a x ts1 h1
    obtain ⟨a1,a2,_,k1⟩:=aCk hk h1
    split at h
    · cases h
    · rename_i c ts2 h2
      obtain ⟨_,_,k2⟩:=aAJ k1 h2
      split at h
      · cases h
      · rename_i b y ts3 h3
        obtain ⟨b1,_,b2,k3⟩:=aCk k2 h3;have b2:=b2 rfl
        split at h
        · cases h
        · rename_i hab
          simp only [beq_iff_eq] at hab;cases h;refine ⟨aUM hf a1 ?_ (by omega) ?_,k3⟩<;>split<;>omega
theorem aQX {f t:Int}(hf:0<=f):∀ (n:Nat) {ts l:List (Tok α)}{s:List Sp},Tk ts->aCu en f t n ts = .ok (s,l)->wk s /\ Tk l:=by
  intro n
  induction n with
  | zero=>intro ts l s _ h;cases h
  | succ n ih =>
    intro ts l s hk h;unfold aCu at h
    split at h
    · cases h
    · rename_i s1 ts1 h1
      obtain ⟨w1,k1⟩:=aO3 hf hk h1
      split at h
      · split at h
        · cases h
        · rename_i s2 ts2 h2
          obtain ⟨w2,k2⟩:=ih (k1.drop 1) h2;cases h;exact ⟨aLR w1 w2,k2⟩
      · cases h;exact ⟨w1,k1⟩
theorem aQh {ts l:List (Tok α)}{f t:Int}(hk:Tk ts) (h:dys en ts = .ok ((f,t),l)):0<=f /\ f<7 /\ 0<=t /\ t<7 /\ Tk l:=by
  have hidx:∀ d∈aD2,0<=idx d /\ idx d<7:=by decide +kernel
  unfold dys at h
  split at h
  · cases h
  · rename_i x ts1 h1
    obtain ⟨_,_,k1⟩:=aAJ hk h1;have hx:=(aAZ h1).2.2.resolve_left (by decide)
    split at h
    · split at h
      · cases h
      · rename_i y ts2 h2
        obtain ⟨_,_,k2⟩:=aAJ (k1.drop 1) h2;have hy:=(aAZ h2).2.2.resolve_left (by decide);cases h;exact ⟨(hidx _ hx).1,(hidx _ hx).2,(hidx _ hy).1,(hidx _ hy).2,k2⟩
    · cases h
      exact ⟨(hidx _ hx).1,(hidx _ hx).2,(hidx _ hx).1,(hidx _ hx).2,k1⟩
theorem aIG {ts l:List (Tok α)}{s:List Sp}(hk:Tk ts) (h:part en ts = .ok (s,l)):wk s /\ Tk l:=by
  unfold part at h
  split at h
  · cases h
  · rename_i a b ts1 h1
    obtain ⟨h2,_,_,_,h3⟩:=aQh hk h1;exact aQX h2 _ h3 h
theorem aRB:∀ (n:Nat) {ts l:List (Tok α)}{s:List Sp},Tk ts->aCD en n ts = .ok (s,l)->wk s /\ Tk l:=by
  intro n
  induction n with
  | zero=>intro ts l s _ h;cases h
  | succ n ih =>
    intro ts l s hk h;unfold aCD at h
    split at h
    · cases h
    · rename_i s1 ts1 h1
      obtain ⟨w1,k1⟩:=aIG hk h1
      split at h
      · split at h
        · cases h
        · rename_i s2 ts2 h2
          obtain ⟨w2,k2⟩:=ih (k1.drop 1) h2;cases h;exact ⟨aLR w1 w2,k2⟩
      · cases h;exact ⟨w1,k1⟩
theorem aLX {ts:List (Tok α)}{s:List Sp}(hk:Tk ts) (h:aET en ts = .ok s):wk s:=by
  unfold aET at h
  cases hq:aBy en ts with
  | error q=>rw [hq] at h;cases h
  | ok q =>
    obtain ⟨s',l⟩:=q;rw [hq] at h
    cases l with
    | cons t l=>cases h
    | nil =>
      cases h;unfold aBy at hq
      split at hq
      · injection hq with hq;rw [show s=aDi 0 10080 from (congrArg Prod.fst hq).symm];exact aQ9 (by omega) (by omega) (by omega) (by omega)
      · split at hq
        · injection hq with hq;rw [show s=[] from (congrArg Prod.fst hq).symm];intro s hs;cases hs
        · exact (aRB _ hk hq).1
end
theorem aEl (l:Bys):(∃ e a,aM6 l = .error (e,a) /\ e≠0 /\ 0<=a /\ a<l.length)∨(aM6 l = .ok ((aBE l 0).map (·.1)) /\ ∀ x∈aBE l 0,x.2=0):=by
  have hm:∀ (q:List (Tok Int×Int)) (e:Int×Int),aFN q=some e->e.1≠0 /\ ∃ x∈q,x.1.2.2=e.2:=by
    intro q
    induction q with
    | nil=>intro e h;cases h
    | cons x q ih =>
      intro e h;unfold aFN at h
      split at h
      · rename_i h1
        cases h;exact ⟨by simpa using h1,x,List.mem_cons_self,rfl⟩
      · obtain ⟨h1,y,hy,h2⟩:=ih e h
        exact ⟨h1,y,List.mem_cons_of_mem _ hy,h2⟩
  unfold aM6
  cases he:aFN (aBE l 0) with
  | some e =>
    obtain ⟨h1,x,hx,h2⟩:=hm _ _ he;have:=(aM8 _ l 0 (Gl_ _)).2 x hx;exact .inl ⟨e.1,e.2,rfl,h1,by omega,by omega⟩
  | none=>exact .inr ⟨rfl,(aFM _).1 he⟩
theorem aLx {l:Bys}{ts:List (Tok Int)}(h:aM6 l = .ok ts):ts=(aBE l 0).map (·.1) /\ aFN (aBE l 0)=none /\ Tk ts /\ (∀ t∈ts,0<=t.2.2 /\ t.2.2<l.length) /\ ts.length<=l.length:=by
  rcases aEl l with ⟨e,a,h1,_⟩ | ⟨h1,h2⟩
  · rw [h1] at h;cases h
  · rw [h1] at h
    cases h;refine ⟨rfl,(aFM _).2 h2,fun t ht=>?_,fun t ht=>?_,?_⟩
    · obtain ⟨x,hx,rfl⟩:=List.mem_map.1 ht
      exact (aUy _ l 0 (Gl_ _) x hx (h2 x hx)).1
    · obtain ⟨x,hx,rfl⟩:=List.mem_map.1 ht
      have:=(aM8 _ l 0 (Gl_ _)).2 x hx;omega
    · rw [Gs_];exact aM7 _ l 0 (Gl_ _)
theorem aE9 (l:Bys):(∃ e a,aBL l = .error (e,a) /\ e≠0 /\ 0<=a /\ a<=l.length)∨(∃ s,aBL l = .ok s /\ vl (-1) s=true /\ s.length<=60):=by
  unfold aBL
  cases hl:aM6 l with
  | error e =>
    rcases aEl l with ⟨e',a,h1,h2,h3,h4⟩ | ⟨h1,_⟩
    · rw [hl] at h1;cases h1
      exact .inl ⟨e',a,rfl,h2,h3,by omega⟩
    · rw [hl] at h1;cases h1
  | ok ts =>
    obtain ⟨_,_,hk,hr,_⟩:=aLx hl;simp only
    cases ht:aET (l.length:Int) ts with
    | error e =>
      obtain ⟨c,x⟩:=e;obtain ⟨h1,h2⟩:=aRc ht;refine .inl ⟨c,x,rfl,h1,?_⟩;rcases h2 with rfl | ⟨t,h3,rfl⟩
      · omega
      · have:=hr t h3;omega
    | ok s =>
      have hw:=aLX hk ht;simp only
      split
      · exact .inl ⟨2,_,rfl,by omega,by omega,by omega⟩
      · exact .inr ⟨_,rfl,(aJl hw).ok,by omega⟩
def aYt:List (Tok Int)->Int->List (Tok (Int×Int))
  | [],_=>[]
  | t::ts,n=>(t.1,t.2.1,(t.2.2,n))::aYt ts (n+(t.2.1.length+1:Nat))
def spL (s:Sp):List Value:=[vI s.1,vI s.2]
theorem aGE (s:Sp):(spL s).length=2:=rfl
abbrev SpV:=Src spL 2
theorem aH9 {l:List Sp}{i:Nat}{y:Sp}(hy:l[i]?=some y) {lo:Int}:vl lo (l.drop i)=(decide (lo<y.1)&&decide (y.1<y.2)&&decide (y.2<=10080)&&vl y.2 (l.drop (i+1))):=by
  have hi:=(List.getElem?_eq_some_iff.1 hy).1;rw [List.drop_eq_getElem_cons hi,(List.getElem?_eq_some_iff.1 hy).2];rfl
def aBo (m:Int):Bool:=decide (0<=m)&&decide (m<=1000000000)
def aDp (l:List Sp) (m:Int):Int:=match l.find? (fun s=>decide (m%10080<s.2)) with | some s=>m+max 0 (s.1-m%10080) | none=>m-m%10080+10080+(l.headD (0,0)).1
def aAz (l:List Sp) (m:Int):Int×Bool:=if vl (-1) l&&aBo m && !l.isEmpty then (aDp l m,true) else (0,false)
theorem aJ4 {lo:Int}{l:List Sp}(h0 : -1<=lo) (h:vl lo l=true):∀ (i j:Nat) (y z:Sp),i<j->l[i]?=some y->l[j]?=some z->y.2<z.1:=by
  induction l generalizing lo with
  | nil=>intro i j y z _ h;simp at h
  | cons s l ih =>
    obtain ⟨h1,h2,h3,h4⟩:=aB3.1 h;intro i j y z hij hy hz
    cases j with
    | zero=>omega
    | succ j =>
      simp only [List.getElem?_cons_succ] at hz
      cases i with
      | zero =>
        simp only [List.getElem?_cons_zero,Gm_] at hy;subst hy;have hm:=Ge_ hz;have:=aF3 (m:=z.1) h4 ⟨z,hm,Int.le_refl _,(aT2 (lo:=s.2) (by omega) h4 z hm).2.1⟩;exact this
      | succ i=>exact ih (by omega) h4 i j y z (by omega) (by simpa using hy) hz
theorem aFJ {α:Type}(l:List α):(((l.length:Int))==0)=l.isEmpty:=by
  cases l<;>simp;omega
theorem aGW {l:List Sp}{m:Int}(h:vl (-1) l=false):aAz l m=(0,false):=by unfold aAz;rw [h];rfl
theorem aFg {l:List Sp}{m:Int}(h:aBo m=false):aAz l m=(0,false):=by unfold aAz;rw [h];simp
theorem aGV {l:List Sp}{m:Int}(h:l.isEmpty=true):aAz l m=(0,false):=by unfold aAz;rw [h];simp
theorem aFh {l:List Sp}{m:Int}(h1:vl (-1) l=true) (h2:aBo m=true) (h3:l.isEmpty=false):aAz l m=(aDp l m,true):=by unfold aAz;rw [h1,h2,h3];rfl
theorem aFE {l:List Sp}{m:Int}{s:Sp}(h:l.find? (fun s=>decide (m%10080<s.2))=some s):aDp l m=m+max 0 (s.1-m%10080):=by unfold aDp;rw [h]
theorem aFD {l:List Sp}{m:Int}{s:Sp}(h:l.find? (fun s=>decide (m%10080<s.2))=none) (h0:l[0]?=some s):aDp l m=m-m%10080+10080+s.1:=by
  unfold aDp;rw [h]
  cases l with
  | nil=>simp at h0
  | cons a l=>simp at h0;subst h0;rfl
theorem aUB {l:List Sp}{m:Int}{i:Nat}{y:Sp}(hA:∀ j z,j<i->l[j]?=some z->z.2<=m) (hy:l[i]?=some y) (h:m<y.2):l.find? (fun s=>decide (m<s.2))=some y:=by
  have hi:=(List.getElem?_eq_some_iff.1 hy).1;rw [List.find?_eq_some_iff_getElem];refine ⟨decide_eq_true h,i,hi,(List.getElem?_eq_some_iff.1 hy).2,fun j hj=>?_⟩;have:=hA j l[j] hj (Gb_ (by omega));simp only [Bool.not_eq_true',decide_eq_false_iff_not];omega
theorem aUA {l:List Sp}{m:Int}(hA:∀ j z,j<l.length->l[j]?=some z->z.2<=m):l.find? (fun s=>decide (m<s.2))=none:=by
  rw [List.find?_eq_none];intro s hs;obtain ⟨j,hj,rfl⟩:=List.mem_iff_getElem.1 hs;have:=hA j l[j] hj (Gb_ hj);simp only [decide_eq_true_eq];omega
theorem aIs {l:List Sp}(h:vl (-1) l=true) {i:Nat}{y:Sp}(hy:l[i]?=some y):0<=y.1 /\ y.1<y.2 /\ y.2<=10080:=aT2 (Int.le_refl _) h y (gm hy)
abbrev aY8 (Z:Ending->World->Prop):=AtO Tryz.prog (aAf Tryz.f130) (aAo (bodyPost Tryz.prog Tryz.f130 Z)) [] 31
theorem aKn {w:World}{v:Value}{l:List Sp}(hl:SpV w v l):Calls Tryz.prog 130 #[v] w fun e w'=>e = .returned (vB (vl (-1) l)) /\ Fr nF_ w w':=by
  obtain ⟨p0,cp0,hp0,sp0⟩:=hl.op;subst hp0;have bp0:=sp0.bnd;refine beg Tryz.func130 rfl rfl [(0,vL p0 l.length cp0)] rfl rfl fun Z hZ=>?_;have hM:=Mm.nil nF_ w;refine seg 3 0 [(3,vI (-1)),(6,vL p0 l.length cp0),(7,vI (l.length:Int)),(8,vI 0)] f0 ?_
  have lp1:∀ (m3:Nat) (i:Nat) (k:Int) (w2:World),i<=l.length->vl (-1) l=vl k (l.drop i)->Mm nF_ w w2 []->m3=l.length-i->aY8 Z (some (3,0)) [(8,vI (i:Int)),(7,vI (l.length:Int)),(6,vL p0 l.length cp0),(3,vI k)] w2:=by
   refine aA8 fun m3 ih2 i k w2 hi hv hM hm3=>seg 3 1 [(9,vB (decide ((i:Int)<(l.length:Int))))] f0 ?_;cases h4:(decide ((i:Int)<(l.length:Int)))
   ·have rh4:=df h4;exact rt1 2 (vB true) rfl f0 (hZ _ _ ⟨by rw [hv,Gi_ (by omega)];rfl,hM.fr⟩)
   have rh4:=dt h4;obtain ⟨y,hy,g5,o5,q5,r5⟩:=sp0.el (i:=i) (by omega);refine aCl 4 2 5 [(11,.agg #[vI y.1,vI y.2])] [] 141 (.agg #[vI y.1,vI y.2]) (fc (ix 48 cp0 q5 (gl hy)) (fc (la0 141 hM r5) f0)) hM fun b6 w1 hM=>seg 5 5 [(16,vB (decide (y.1<=k)))] (fc (ldm 3 0 0 hM rfl rfl) f0) ?_;cases h7:(decide (y.1<=k))
   rotate_left
   ·have rh7:=dt h7;exact rt1 2 (vB false) rfl f0 (hZ _ _ ⟨by rw [hv,aH9 hy];simp;omega,hM.fr⟩)
   have rh7:=df h7;refine seg 5 12 [(23,vB (decide (y.2<=y.1)))] (fc (ldm 3 0 0 hM rfl rfl) (fc (ldm 3 0 1 hM rfl rfl) f0)) ?_;cases h8:(decide (y.2<=y.1))
   rotate_left
   ·have rh8:=dt h8;exact rt1 2 (vB false) rfl f0 (hZ _ _ ⟨by rw [hv,aH9 hy];simp;omega,hM.fr⟩)
   have rh8:=df h8;refine seg 5 16 [(27,vB (decide (10080<y.2)))] (fc (ldm 3 0 1 hM rfl rfl) f0) ?_;cases h9:(decide (10080<y.2))
   ·have rh9:=df h9;refine seg 3 0 [(3,vI y.2),(8,vI ((i:Int)+1))] (fc (ldm 3 0 1 hM rfl rfl) (fc (aAe (i:Int) 1 u3_) f0)) (aAb _ (ih2 _ (by omega) (i+1) y.2 _ (gl hy) (by rw [hv,aH9 hy];simp;omega) (hM.pick []) rfl))
   have rh9:=dt h9;exact rt1 2 (vB false) rfl f0 (hZ _ _ ⟨by rw [hv,aH9 hy];simp;omega,hM.fr⟩)
  exact aAb _ (lp1 _ 0 (-1) _ (Gg_ _) rfl hM rfl)
theorem aQo {x y:Int}:decide (Lib.compareInt x y<0)=decide (x<y):=by
  unfold Lib.compareInt
  by_cases h:x<y
  · simp [h]
  · simp [h];split<;>omega
theorem aTI {l:List Sp}{m:Int}{k:Nat}{y:Sp}(hv:vl (-1) l=true) (hy:l[k]?=some y) (h:decide (Lib.compareInt y.2 (m+1)<0)=true):∀ z q,z<k+1->l[z]?=some q->q.2<=m:=fun z q hz hq=>by
  rw [aQo] at h;have hc:=of_decide_eq_true h;have:=aIs hv hq;have:=aIs hv hy;rcases Nat.lt_or_ge z k with h9 | h9
  · have:=aJ4 (Int.le_refl _) hv _ _ _ _ h9 hq hy;omega
  · have e9:z=k:=by omega
    subst e9;rw [hy] at hq;cases hq;omega
theorem aTJ {l:List Sp}{m:Int}{k:Nat}{y:Sp}(hv:vl (-1) l=true) (hy:l[k]?=some y) (h:decide (Lib.compareInt y.2 (m+1)<0)=false):∀ z q,k<=z->l[z]?=some q->m<q.2:=fun z q hz hq=>by
  rw [aQo] at h;have hc:=of_decide_eq_false h;have:=aIs hv hq;rcases Nat.lt_or_ge k z with h9 | h9
  · have:=aJ4 (Int.le_refl _) hv _ _ _ _ h9 hy hq;omega
  · have e9:z=k:=by omega
    subst e9;rw [hy] at hq;cases hq;omega
theorem aHe (m:Int) (w:World):Calls Tryz.prog 168 #[vI m] w fun e w'=>e = .returned (vB false) /\ Fr nF_ w w':=by
  refine beg Tryz.func168 rfl rfl [(0,vI m)] rfl rfl fun Z hZ=>?_;have hM:=Mm.nil nF_ w;exact rt1 2 (vB (!(m==m))) rfl f0 (hZ _ _ ⟨by simp,hM.fr⟩)
theorem aWk (x y:Int) (w:World):Calls Tryz.prog 133 #[vI x,vI y] w fun e w'=>e = .returned (vI (Lib.compareInt x y)) /\ Fr nF_ w w':=by
  refine beg Tryz.func133 rfl rfl [(0,vI x),(1,vI y)] rfl rfl fun Z hZ=>?_;have hM:=Mm.nil nF_ w;refine aAq 1 1 8 [(7,vI x)] f0 hM (aHe x _) fun w1 hM=>aAq 2 1 10 [(5,vB false),(9,vI y)] f0 hM (aHe y _) fun w1 hM=>seg 9 3 [(16,vB (decide (x<y)))] f0 ?_;cases h10:(decide (x<y))
  rotate_left
  ·have aa:=dt h10;exact rt1 4 (vI (-1)) rfl f0 (hZ _ _ ⟨by unfold Lib.compareInt;simp;omega,hM.fr⟩)
  have aa:=df h10;refine seg 11 3 [(19,vB (decide (y<x)))] f0 ?_;cases h11:(decide (y<x))
  ·have ab:=df h11;exact rt1 4 (vI 0) rfl f0 (hZ _ _ ⟨by unfold Lib.compareInt;simp;omega,hM.fr⟩)
  have ab:=dt h11;exact rt1 4 (vI 1) rfl f0 (hZ _ _ ⟨by unfold Lib.compareInt;simp;omega,hM.fr⟩)
theorem aGX (s:Sp) {m:Int}(h0:0<=m) (h1:m<=10080) (w:World):Calls Tryz.prog 132 #[.agg #[vI s.1,vI s.2],vI m] w fun e w'=>e = .returned (vI (Lib.compareInt s.2 (m+1))) /\ Fr nF_ w w':=by
  refine beg Tryz.func132 rfl rfl [(0,.agg #[vI s.1,vI s.2]),(1,vI m)] rfl rfl fun Z hZ=>?_;have hM:=Mm.nil nF_ w;refine aAp 0 0 2 [] (cs:=#[vI s.1,vI s.2]) (T:=141) (v:=fun b=>vP b 0) f0 hM fun aa w1 hM=>aAq 1 4 9 [(6,vI s.2),(8,vI (m+1))] (fc (ldm 3 0 1 hM rfl rfl) (fc (aAe m 1 u3_) f0)) hM (aWk s.2 (m+1) _) fun w1 hM=>rt1 4 (vI (Lib.compareInt s.2 (m+1))) rfl f0 (hZ _ _ ⟨rfl,hM.fr⟩)
theorem tou (T:TypeId) (m:Int) (h0:0<=m) (h1:m<=9223372036854775807) {w:World}(hT:T=215:=by rfl):Ft.ok Tryz.prog w (.g1 (.convert 3 T) (vI m) (.int .u64 m)):=fun o ρ x ho hx=>by
  subst hT
  have:IntKind.u64.wrap m=m:=by
    show m%18446744073709551616=m;omega
  simp [execOp,ho,hx,go_sem,this]
theorem toi (T:TypeId) (m:Int) (h0:0<=m) (h1:m<=9223372036854775807) {w:World}(hT:T=215:=by rfl):Ft.ok Tryz.prog w (.g1 (.convert T 3) (.int .u64 m) (vI m)):=fun o ρ x ho hx=>by
  subst hT;simp [execOp,ho,hx,go_sem,IntWalk.i64_in m ⟨by omega,by omega⟩]
theorem aWD (T:TypeId) (n:Nat) (h1:n<=9223372036854775807) {w:World}(hT:T=215:=by rfl):Ft.ok Tryz.prog w (.g2 (fun x y => .binOp .shr T x y T) (.int .u64 ((n:Nat):Int)) (.int .u64 1) (.int .u64 (((n / 2:Nat)):Int))):=fun o ρ x y ho hx hy=>by
  subst hT
  have:IntKind.u64.wrap ((n:Int) / 2)=(n:Int) / 2:=by
    show ((n:Int) / 2)%18446744073709551616=_;omega
  simp [execOp,ho,hx,hy,go_sem,this]
abbrev aY7 (Z:Ending->World->Prop):=AtO Tryz.prog (aAf Tryz.f131) (aAo (bodyPost Tryz.prog Tryz.f131 Z)) [] 49
theorem aJN {w:World}{v:Value}{l:List Sp}(hl:SpV w v l) (hv:vl (-1) l=true) (hlen:l.length<=400000000) {m:Int}(h0:0<=m) (h1:m<=10080):Calls Tryz.prog 131 #[v,vI m,.func (.func 132) #[] #[]] w fun e w'=>∃ (i:Nat) (b:Bool),e = .returned (.tuple #[vI (i:Int),vB b]) /\ i<=l.length /\ (∀ z q,z<i->l[z]?=some q->q.2<=m) /\ (∀ z q,i<=z->l[z]?=some q->m<q.2) /\ Fr nF_ w w':=by
  obtain ⟨p0,cp0,hp0,sp0⟩:=hl.op;subst hp0;refine beg Tryz.func131 rfl rfl [(0,vL p0 l.length cp0),(1,vI m),(2,.func (.func 132) #[] #[])] rfl rfl fun Z hZ=>?_;have hM:=Mm.nil nF_ w;refine seg 3 0 [(8,vI (l.length:Int)),(9,vI 0),(10,vI (l.length:Int))] f0 ?_
  have ad:∀ (ab:Nat) (i:Nat) (j:Nat) (w2:World),i<=j->j<=l.length->(∀ z q,z<i->l[z]?=some q->q.2<=m)->(∀ z q,j<=z->l[z]?=some q->m<q.2)->Mm nF_ w w2 []->ab=j-i->aY7 Z (some (3,0)) [(10,vI (j:Int)),(9,vI (i:Int)),(8,vI (l.length:Int)),(0,vL p0 l.length cp0),(1,vI m),(2,.func (.func 132) #[] #[])] w2:=by
   refine aA8 fun ab ac i j w2 hij hjl hA hB hM aj=>seg 3 3 [(17,vB (decide ((i:Int)<(j:Int))))] f0 ?_;cases h16:(decide ((i:Int)<(j:Int)))
   ·have ae:=df h16;refine seg 8 5 [(35,vI (i:Int)),(39,vB (decide ((i:Int)<(l.length:Int))))] f0 ?_;cases h17:(decide ((i:Int)<(l.length:Int)))
    ·have af:=df h17;exact rt2 6 7 (vI (i:Int)) (vB false) rfl rfl f0 (hZ _ _ ⟨i,false,rfl,by omega,hA,fun z q hz hq=>hB z q (by omega) hq,hM.fr⟩)
    have af:=dt h17;obtain ⟨y18,ag,ak,al,q18,ah⟩:=sp0.el (i:=i) (by omega);refine aAq 8 11 46 [(40,.func (.func 132) #[] #[]),(44,.agg #[vI y18.1,vI y18.2]),(45,vI m)] (fc (ix 48 cp0 q18 (gl ag)) (fc (la0 141 hM ah) f0)) hM (aGX y18 h0 h1 _) fun w1 hM=>rt2 6 7 (vI (i:Int)) (vB ((Lib.compareInt y18.2 (m+1))==0)) rfl rfl f0 (hZ _ _ ⟨i,((Lib.compareInt y18.2 (m+1))==0),rfl,by omega,hA,fun z q hz hq=>hB z q (by omega) hq,hM.fr⟩)
   have ae:=dt h16;obtain ⟨y19,aa,am,an,q19,ai⟩:=sp0.el (i:=((i+j) / 2)) (by omega);refine aAq 5 6 30 [(11,vI ((((i+j) / 2:Nat)):Int)),(24,.func (.func 132) #[] #[]),(28,.agg #[vI y19.1,vI y19.2]),(29,vI m)] (fc (aAe (i:Int) (j:Int) u3_) (fc (tou 215 ((i:Int)+(j:Int)) (by omega) (by omega)) (fc (aWD 215 (i+j) (by omega)) (fc (toi 215 ((((i+j) / 2:Nat)):Int) (by omega) (by omega)) (fc (ix 48 cp0 q19 (gl aa)) (fc (la0 141 hM ai) f0)))))) hM (aGX y19 h0 h1 _) fun w1 hM=>seg 5 8 [(31,vB (decide ((Lib.compareInt y19.2 (m+1))<0)))] f0 ?_;cases h20:(decide ((Lib.compareInt y19.2 (m+1))<0))
   ·refine seg 3 0 [(10,vI ((((i+j) / 2:Nat)):Int))] f0 (aAb _ (ac _ (by omega) i ((i+j) / 2) _ (by omega) (by omega) hA (aTJ hv aa h20) hM rfl))
   refine seg 3 0 [(9,vI (((((i+j) / 2:Nat)):Int)+1))] (fc (aAe ((((i+j) / 2:Nat)):Int) 1 u3_) f0) (aAb _ (ac _ (by omega) ((i+j) / 2+1) j _ (by omega) (by omega) (aTI hv aa h20) hB hM rfl))
  exact aAb _ (ad _ 0 l.length _ (Gg_ _) (Gl_ _) (fun _ _ h=>absurd h (Nat.not_lt_zero _)) (fun z q h hq=>absurd (gl hq) (by omega)) hM rfl)
theorem aId {w:World}{v:Value}{l:List Sp}(hl:SpV w v l) (hlen:l.length<=400000000) (m:Int):Calls Tryz.prog 100 #[v,vI m] w fun e w'=>e = .returned (.tuple #[vI (aAz l m).1,vB (aAz l m).2]) /\ Fr nF_ w w':=by
  have hl0:=hl;obtain ⟨p0,cp0,hp0,sp0⟩:=hl.op;subst hp0;refine beg Tryz.func100 rfl rfl [(0,vL p0 l.length cp0),(1,vI m)] rfl rfl fun Z hZ=>?_;have hM:=Mm.nil nF_ w;refine aAq 1 1 10 [(9,vL p0 l.length cp0)] f0 hM (aKn (hl0.fr hM.fr)) fun w1 hM=>seg 1 4 [(12,vB (!(vl (-1) l)))] f0 ?_;cases h21:(vl (-1) l)
  ·exact rt2 4 5 (vI 0) (vB false) rfl rfl f0 (hZ _ _ ⟨by rw [aGW h21],hM.fr⟩)
  refine seg 1 9 [(17,vB ((l.length:Int)==0))] f0 ?_;cases h22:((l.length:Int)==0)
  rotate_left
  ·have ac:=et h22;exact rt2 4 5 (vI 0) (vB false) rfl rfl f0 (hZ _ _ ⟨by rw [aGV (by rw [←aFJ];exact h22)],hM.fr⟩)
  have ac:=ef h22;refine seg 1 13 [(21,vB (decide (m<0)))] f0 ?_;cases h23:(decide (m<0))
  rotate_left
  ·have ad:=dt h23;exact rt2 4 5 (vI 0) (vB false) rfl rfl f0 (hZ _ _ ⟨by rw [aFg (by unfold aBo;simp;omega)],hM.fr⟩)
  have ad:=df h23;refine seg 1 16 [(24,vB (decide (1000000000<m)))] f0 ?_;cases h24:(decide (1000000000<m))
  rotate_left
  ·have ae:=dt h24;exact rt2 4 5 (vI 0) (vB false) rfl rfl f0 (hZ _ _ ⟨by rw [aFg (by unfold aBo;simp;omega)],hM.fr⟩)
  have ae:=df h24;refine aNQ 4 2 30 [(6,vI (m%10080)),(28,vL p0 l.length cp0),(29,vI (m%10080))] (K:=fun u w8=>∃ (i:Nat) (b:Bool),u = .tuple #[vI (i:Int),vB b] /\ i<=l.length /\ (∀ z q,z<i->l[z]?=some q->q.2<=m%10080) /\ (∀ z q,i<=z->l[z]?=some q->m%10080<q.2)) (fc (aNY m 10080 u3_) f0) hM ((aJN (hl0.fr hM.fr) h21 hlen (m:=m%10080) (by omega) (by omega)).mono fun e w8 h=>by obtain ⟨i,b,h1,h2,h3,h4,h5⟩:=h;exact ⟨⟨_,h1,i,b,rfl,h2,h3,h4⟩,h5⟩) fun _ w1 ⟨i,b,hv9,hil,hA,hB⟩ hM f1=>?_;subst hv9;refine seg 5 4 [(7,vI (i:Int)),(36,vB ((i:Int)==(l.length:Int)))] f0 ?_;cases h25:((i:Int)==(l.length:Int))
  ·have af:=ef h25;obtain ⟨y26,aa,ai,aj,q26,ag⟩:=sp0.el (i:=i) (by omega);have hbhy26:=aIs h21 aa;exact rt2 4 5 (vI (m+(max 0 (y26.1-(m%10080))))) (vB true) rfl rfl (fc (ix 48 cp0 q26 (gl aa)) (fc (ld0 3 hM (ag 0 _ rfl)) (fc (aBx y26.1 (m%10080) u3_) (fc (aVc 3 0 (y26.1-(m%10080))) (fc (aAe m (max 0 (y26.1-(m%10080))) u3_) f0))))) (hZ _ _ ⟨by rw [aFh h21 (by unfold aBo;simp;omega) (by rw [←aFJ];exact h22),aFE (aUB hA aa (hB _ _ (Gl_ _) aa))],hM.fr⟩)
  have af:=et h25;obtain ⟨y27,ab,ak,al,q27,ah⟩:=sp0.el (i:=0) (by omega);have hbhy27:=aIs h21 ab;exact rt2 4 5 (vI (((m-(m%10080))+10080)+y27.1)) (vB true) rfl rfl (fc (aBx m (m%10080) u3_) (fc (aAe (m-(m%10080)) 10080 u3_) (fc (ix 48 cp0 q27 (gl ab)) (fc (ld0 3 hM (ah 0 _ rfl)) (fc (aAe ((m-(m%10080))+10080) y27.1 u3_) f0))))) (hZ _ _ ⟨by rw [aFh h21 (by unfold aBo;simp;omega) (by rw [←aFJ];exact h22),aFD (aUA fun z q hz hq=>hA z q (by omega) hq) ab],hM.fr⟩)
def aXG (c1:Nat) (p:Option Addr) (cap:Nat) (L:List Sp) (G:Nat->Prop) (W:World):Prop:=W.heap[c1]?=some (.cells #[vL p L.length cap] 48 (0,0)) /\ ¬ G c1 /\ ∃ B,SrcB spL 2 W B p cap L /\ ∀ k,G k->B<=k
def aSA (L:List Sp):List (Array Value):=L.map fun s=>#[.agg #[vI s.1,vI s.2]]
abbrev aYw (Z:Ending->World->Prop):=AtO Tryz.prog (aAf Tryz.f177) (aAo (bodyPost Tryz.prog Tryz.f177 Z)) [] 16
theorem aIt {c1 cap:Nat}{p:Option Addr}{L:List Sp}:aNX Tryz.prog 177 #[vP c1 0] (aSA L) (aXG c1 p cap L):=by
  intro l J S w e0 hJ0 he hKp hSq hround;obtain ⟨hc1,hn1,B,hs,hG⟩:=hKp;have bb:=hs.bnd;refine beg Tryz.func177 rfl rfl [(0,.func (.yield l) #[] #[]),(1,vP c1 0)] rfl rfl fun Z hZ=>?_;have hM:=Mm.one he;refine seg 1 0 [(5,vL p L.length cap),(6,vI (L.length:Int)),(7,vI 0)] (fc (ld0 48 hM (bx hc1 0 rfl) hn1) f0) ?_
  have ac:∀ (ab:Nat) (k:Nat) (ek:Ent) (w2:World),k<=L.length->J k ek->Mm e0.B w w2 [ek]->ab=L.length-k->aYw Z (some (1,0)) [(7,vI (k:Int)),(6,vI (L.length:Int)),(5,vL p L.length cap),(0,.func (.yield l) #[] #[])] w2:=by
   refine aA8 fun ab ad k ek w2 hk hJ hM ag=>seg 1 1 [(8,vB (decide ((k:Int)<(L.length:Int))))] f0 ?_;cases h31:(decide ((k:Int)<(L.length:Int)))
   ·have ae:=df h31;exact rt0 rfl f0 (hZ _ _ ⟨⟨_,rfl⟩,.inl ⟨_,by unfold aSA;rw [Gs_,show L.length=k by omega];exact hJ,hM.get 0 rfl,hM.fr⟩⟩)
   have ae:=dt h31;obtain ⟨y32,aa,ah,ai,q32,af,n32⟩:=(hs).eb hG (i:=k) (by omega);refine aCl 2 2 4 [(10,.agg #[vI y32.1,vI y32.2])] [] 141 (.agg #[vI y32.1,vI y32.2]) (fc (ix 48 cap q32 (gl aa)) (fc (la0 141 hM af n32) f0)) hM fun aj w1 hM=>yld 3 2 13 [(11,.func (.yield l) #[] #[]),(12,.agg #[vI y32.1,vI y32.2])] #[141] (by decide) (fc (lam 141 1 0 2 hM rfl) f0) hM (j:=0) rfl (hround _ _ _ _ hJ (hM.get 0 rfl) hM.fr (aF1 aa)) (fun ec w1 hJ hM=>?_) (fun w1 hS=>?_)
   · skip
     refine seg 1 0 [(7,vI ((k:Int)+1))] (fc (aAe (k:Int) 1 u3_) f0) (aAb _ (ad _ (by omega) (k+1) _ _ (gl aa) hJ (hM.pick [0]) rfl))
   · skip
     exact rt0 rfl f0 (hZ _ _ ⟨⟨_,rfl⟩,.inr hS⟩)
  exact aAb _ (ac _ 0 e0 _ (Gg_ _) hJ0 hM rfl)
theorem spT:ElT Tryz.prog spL 2 48 141:=⟨fun _=>rfl,by decide,fun x u hu=>by
  unfold spL at hu;simp only [Gj_,List.not_mem_nil,or_false] at hu;rcases hu with rfl | rfl<;>rfl,Tryz.underlying48,aBO (by kernel_rfl)⟩
theorem aH3 {w:World}{gf:Nat}{lb:Array Value}{L:List Sp}{Kp:(Nat->Prop)->World->Prop}(hl:L.length<=300000000) (eg:aJ1 Tryz.prog gf) (hY:aNX Tryz.prog gf lb (aSA L) Kp) (hK:∀ G W,(∀ k,G k->w.heap.size<=k)->Fr nF_ w W->Kp G W):Calls Tryz.prog 188 #[vL none 0 0,.func (.func gf) #[] lb] w fun e w'=>∃ v,e = .returned v /\ aH6 spL 2 141 w w' v L /\ Fr nF_ w w':=by
  refine aXm Tryz.func188 rfl rfl [(0,vL none 0 0),(1,.func (.func gf) #[] lb)] rfl rfl fun Z hZ=>?_;have hM:=Mm.nil nF_ w;refine aAp 0 0 2 [] (cs:=#[vL none 0 0]) (T:=48) (v:=fun b=>vP b 0) f0 hM fun aa w1 hM=>?_;have hM:=hM.row (f:=spL) (c:=2) (E:=141);refine seg 1002 0 [(6,.func (.func gf) #[] lb)] f0 (aXv 2 (g := .tmp 6) (ps:=#[7]) (vs:=aSA L) (fun k Mk=>∃ q c,Mk=[bk aa #[vL q (L.take k).length c] 48,rw_ spL 2 141 (vL q (L.take k).length c) (L.take k)]) (fun Mk=>False) hM ⟨none,0,rfl⟩ eg hY (fun G W hG f=>hK G W (hM.geK hG) (hM.fr.trans' f fun _ _ h=>h)) (vsz (ps:=#[7]) rfl) ?_ ?_ ?_)
  · skip
    intro k v Mk W l hv hI hfW hM;obtain ⟨q,c,rfl⟩:=hI;obtain ⟨y,hy,rfl⟩:=aT1 hv;refine aCl 2 0 5 [] [] 141 (.agg #[vI y.1,vI y.2]) f0 hM fun ab w1 hM=>aUq [(5,vP ab 0),(2,vP aa 0)] f0 fun a E=>⟨_,_,E,hM,fun W2 l2 R2 hf2 hM hE=>?_⟩;refine aAp 3 2 10 [(8,vL q (L.take k).length c),(9,.agg #[vI y.1,vI y.2])] (cs:=#[vI y.1,vI y.2]) (T:=141) (v:=fun b=>vL (some ⟨b,0,none⟩) 1 1) (fc (ldm 48 0 0 hM rfl rfl) (fc (lam 141 2 0 2 hM rfl) f0)) hM fun ac w1 hM=>aH5 3 3 11 [] (cap:=1) (by decide) spT f0 hM (j:=1) rfl (aAG (f:=spL) (x:=y) (hM.get 3 rfl) (Gq_ _)) (fun h=>by cases h) (by simp only [Gt_,Gf_,Go_];omega) fun v37 w1 hM=>?_;obtain ⟨q37,c37,e37,-⟩:=(hM.src (j:=1) rfl spT.len).op;subst e37;refine stm 3 4 [] 48 0 0 (vL q37 ((L.take k)++[y]).length c37) f0 hM rfl fun w1 hM=>aUq [] f0 fun a E=>hE.nrm a _ _ ⟨_,_,by rw [gt_ hy]⟩ (hM.pick [0,1])
  · skip
    intro Mk w1 hI hM;obtain ⟨k,hk⟩:∃ k,k=(aSA L).length:=⟨_,rfl⟩;rw [←hk] at hI;obtain ⟨q,c,rfl⟩:=hI;exact aXu 4 (vL q (L.take k).length c) rfl (fc (ldm 48 0 0 hM rfl rfl) f0) hM (fun w9 hM=>hZ _ _ ⟨_,rfl,by have:=hM.nrow (j:=1) rfl;have e9:L.take k=L:=Gc_ (by rw [hk];unfold aSA;rw [Gs_];exact Gl_ _);rw [e9] at this ⊢;exact this,hM.fr⟩)
  · exact fun a Mk w1 hT=>hT.elim
theorem aJk {w:World}{gf:Nat}{lb:Array Value}{L:List Sp}{Kp:(Nat->Prop)->World->Prop}(hl:L.length<=300000000) (eg:aJ1 Tryz.prog gf) (hY:aNX Tryz.prog gf lb (aSA L) Kp) (hK:∀ G W,(∀ k,G k->w.heap.size<=k)->Fr nF_ w W->Kp G W):Calls Tryz.prog 175 #[.func (.func gf) #[] lb] w fun e w'=>∃ v,e = .returned v /\ aH6 spL 2 141 w w' v L /\ Fr nF_ w w':=by
  refine beg Tryz.func175 rfl rfl [(0,.func (.func gf) #[] lb)] rfl rfl fun Z hZ=>?_;have hM:=Mm.nil nF_ w;refine aMT 1 1 4 [(3,.func (.func gf) #[] lb)] (f:=spL) (c:=2) (E:=141) (A:=L) f0 hM (aH3 hl eg hY fun G W hG f=>hK G W (fun k h=>Gp_ hM.fr.size (hG k h)) (hM.fr.trans' f fun _ _ h=>h)) fun u w1 hM=>?_;obtain ⟨q38,c38,eq38,sq38⟩:=(hM.src (j:=0) rfl spT.len).op;subst eq38;exact rt1 2 (vL q38 L.length c38) rfl f0 (hZ _ _ ⟨_,rfl,hM.nrow (j:=0) rfl,hM.fr⟩)
theorem aJ5 (p:Option Addr) (n c:Nat) (w:World):Calls Tryz.prog 160 #[vL p n c] w fun e w'=>∃ b,e = .returned (.func (.func 177) #[] #[vP b 0]) /\ w'.heap[b]?=some (.cells #[vL p n c] 48 (0,0)) /\ w.heap.size<=b /\ Fr nF_ w w':=by
  refine beg Tryz.func160 rfl rfl [(0,vL p n c)] rfl rfl fun Z hZ=>?_;have hM:=Mm.nil nF_ w;refine aAp 0 0 1 [] (cs:=#[vL p n c]) (T:=48) (v:=fun b=>vP b 0) f0 hM fun aa w1 hM=>rt1 2 (.func (.func 177) #[] #[vP aa 0]) rfl f0 (hZ _ _ ⟨aa,rfl,hM.get 0 rfl,hM.ge (.head _) rfl,hM.fr⟩)
end Go.Proofs.YtbflfefahheidaaGreatDoor
namespace Go.Proofs
open Go.Shelf
def Tryz.sortSp_ren:Go.Shelf.Ren:=⟨fun | 6=>176 | 15=>190 | 14=>189 | 28=>208 | 29=>194 | 20=>200 | 21=>201 | 22=>202 | 23=>203 | 24=>204 | 25=>205 | 26=>206 | 27=>207 | 46=>213 | 47=>214 | 48=>215 | 49=>216 | 50=>217 | 57=>218 | n=>n,fun | 22=>48 | 24=>141 | 25=>240 | 3=>3 | 39=>215 | 0=>0 | 53=>281 | 55=>222 | 4=>4 | 46=>292 | 45=>291 | 50=>51 | 5=>5 | 9=>9 | 66=>308 | 70=>312 | 76=>318 | 77=>85 | n=>n,fun | n=>n⟩
theorem Tryz.sortSp:Go.Proofs.SlLaysF0.n6 Tryz.prog Tryz.sortSp_ren:={
  mixed:=by kernel_rfl
  f6:=⟨Tryz.f176.name,by decide,Tryz.func176.trans (congrArg some (by kernel_rfl))⟩
  f14:=⟨Tryz.f189.name,by decide,Tryz.func189.trans (congrArg some (by kernel_rfl))⟩
  f15:=Tryz.func190.trans (congrArg some (by kernel_rfl))
  f20:=⟨Tryz.f200.name,by decide,Tryz.func200.trans (congrArg some (by kernel_rfl))⟩
  f21:=⟨Tryz.f201.name,by decide,Tryz.func201.trans (congrArg some (by kernel_rfl))⟩
  f22:=⟨Tryz.f202.name,by decide,Tryz.func202.trans (congrArg some (by kernel_rfl))⟩
  f23:=⟨Tryz.f203.name,by decide,Tryz.func203.trans (congrArg some (by kernel_rfl))⟩
  f24:=⟨Tryz.f204.name,by decide,Tryz.func204.trans (congrArg some (by kernel_rfl))⟩
  f25:=⟨Tryz.f205.name,by decide,Tryz.func205.trans (congrArg some (by kernel_rfl))⟩
  f26:=⟨Tryz.f206.name,by decide,Tryz.func206.trans (congrArg some (by kernel_rfl))⟩
  f27:=⟨Tryz.f207.name,by decide,Tryz.func207.trans (congrArg some (by kernel_rfl))⟩
  f28:=Tryz.func208.trans (congrArg some (by kernel_rfl))
  f29:=Tryz.func194.trans (congrArg some (by kernel_rfl))
  f46:=⟨Tryz.f213.name,by decide,Tryz.func213.trans (congrArg some (by kernel_rfl))⟩
  f47:=Tryz.func214.trans (congrArg some (by kernel_rfl))
  f48:=Tryz.func215.trans (congrArg some (by kernel_rfl))
  f49:=⟨Tryz.f216.name,by decide,Tryz.func216.trans (congrArg some (by kernel_rfl))⟩
  f50:=⟨Tryz.f217.name,by decide,Tryz.func217.trans (congrArg some (by kernel_rfl))⟩
  f57:=⟨Tryz.f218.name,by decide,Tryz.func218.trans (congrArg some (by kernel_rfl))⟩
  t0:=Tryz.underlying0
  a0:=Tryz.isAgg0
  z0:=Tryz.sizeOf0
  v0:=Tryz.zeroValue0
  t3:=Tryz.underlying3
  a3:=Tryz.isAgg3
  z3:=Tryz.sizeOf3
  v3:=Tryz.zeroValue3
  t4:=Tryz.underlying4
  a4:=Tryz.isAgg4
  z4:=Tryz.sizeOf4
  v4:=Tryz.zeroValue4
  t5:=Tryz.underlying5
  a5:=Tryz.isAgg5
  z5:=Tryz.sizeOf5
  v5:=Tryz.zeroValue5
  t9:=Tryz.underlying9
  a9:=Tryz.isAgg9
  z9:=Tryz.sizeOf9
  v9:=Tryz.zeroValue9
  t22:=Tryz.underlying48
  a22:=Tryz.isAgg48
  z22:=Tryz.sizeOf48
  v22:=Tryz.zeroValue48
  t25:=Tryz.underlying240
  a25:=Tryz.isAgg240
  z25:=Tryz.sizeOf240
  v25:=Tryz.zeroValue240
  t39:=Tryz.underlying215
  a39:=Tryz.isAgg215
  z39:=Tryz.sizeOf215
  v39:=Tryz.zeroValue215
  t45:=Tryz.underlying291
  a45:=Tryz.isAgg291
  z45:=Tryz.sizeOf291
  v45:=Tryz.zeroValue291
  t46:=Tryz.underlying292
  a46:=Tryz.isAgg292
  z46:=Tryz.sizeOf292
  v46:=Tryz.zeroValue292
  t50:=Tryz.underlying51
  a50:=Tryz.isAgg51
  z50:=Tryz.sizeOf51
  v50:=Tryz.zeroValue51
  t53:=Tryz.underlying281
  a53:=Tryz.isAgg281
  z53:=Tryz.sizeOf281
  v53:=Tryz.zeroValue281
  t55:=Tryz.underlying222
  a55:=Tryz.isAgg222
  z55:=Tryz.sizeOf222
  v55:=Tryz.zeroValue222
  t66:=Tryz.underlying308
  a66:=Tryz.isAgg308
  z66:=Tryz.sizeOf308
  v66:=Tryz.zeroValue308
  t70:=Tryz.underlying312
  a70:=Tryz.isAgg312
  z70:=Tryz.sizeOf312
  v70:=Tryz.zeroValue312
  t76:=Tryz.underlying318
  a76:=Tryz.isAgg318
  z76:=Tryz.sizeOf318
  v76:=Tryz.zeroValue318
  t77:=Tryz.underlying85
  a77:=Tryz.isAgg85
  z77:=Tryz.sizeOf85
  v77:=Tryz.zeroValue85 }
end Go.Proofs
namespace Go.Proofs.YtbflfefahheidaaGreatDoor
open Go.RowKit Go.Pl Go.Sort Go.Shelf
abbrev spA (s:Sp):Array Value:=#[.int .i64 s.1,.int .i64 s.2]
theorem aTL (s:Sp):∀ u∈spL s,u.oneCell'=true:=by unfold spL;simp [Value.oneCell']
theorem aU5:(Tryz.prog.info? 141).map (·.size)=some 2:=by kernel_rfl
abbrev oSp:=ow spL 2 141
section
variable {w:World}{b k:Nat}{cs:Array Value}{T:TypeId}
theorem aXw (h:w.heap[b]?=some (.cells cs T (0,0))) (k:Nat) {p:Sp}(h0:cs[k]?=some (.int .i64 p.1)) (h1:cs[k+1]?=some (.int .i64 p.2)):w.rangeAt b k (spL p):=by
  intro j v hv;rw [aA1 h]
  match j,hv with
  | 0,hv=>rw [←Gh_ hv];exact h0
  | 1,hv=>rw [←Gh_ hv];exact h1
  | j+2,hv=>simp [spL] at hv
end
section
variable {o:Oper}{w:World}{ρ:Operand->Value}{x y z:Operand}{g off k n cap i:Nat}{p:Option Addr}{v u:Value}{m b:Nat}
theorem aVY (ho:o.op = .fieldAddr 141 x 0) (hx:ρ x = .pointer (some ⟨g,off,none⟩)):(execOp ρ o).run Tryz.prog w = .ok (.value (.pointer (some ⟨g,off+0,none⟩))) w:=by simp [execOp,ho,hx,go_sem]
theorem aMo {s:Sp}(ho:o.op = .load 141 x) (hx:ρ x = .pointer (some ⟨g,off,none⟩)) (h:w.rangeAt g off (spL s)):(execOp ρ o).run Tryz.prog w = .ok (.value (.agg (spA s))) w:=by
  have:=run_loadAt_mid (P:=Tryz.prog) w g off 141 (spA s).toList _ h Tryz.underlying141 rfl aU5;simp only [execOp,ho,hx,Sem.run_bind,this,Result.andThen_ok,Sem.run_pure]
theorem aGK {s:Sp}(ho:o.op = .box 141 x) (hx:ρ x = .agg (spA s)):(execOp ρ o).run Tryz.prog w = .ok (.value (.pointer (some ⟨w.heap.size,0,none⟩))) (w.alloc (.cells (spA s) 141)):=by
  simp [execOp,ho,hx,go_sem]
theorem aTR {n:Int}(ho:o.op = .load 3 x) (hx:ρ x = .pointer (some ⟨g,off,none⟩)) (hc:w.cell? ⟨g,off,none⟩=some (.int .i64 n)):(execOp ρ o).run Tryz.prog w = .ok (.value (.int .i64 n)) w:=by
  simp [execOp,ho,hx,go_sem,hc]
end
section
variable {P:Program}{o:Oper}{w:World}{ρ:Operand->Value}{f:FuncId}{ts:Array TypeId}{x y z:Operand}{u v:Value}{cs bs:Array Value}
theorem aHU (eg:∀ args w,(callFunc f args).run P w = .ok (.enter f args) w) (ho:o.op = .call ⟨.value z,#[x],ts⟩) (hf:ρ z = .func (.func f) #[] cs) (hx:ρ x=v) (ha:#[v]++cs=bs):(execOp ρ o).run P w = .ok (.enter f bs) w:=by
 subst ha;simp [execOp,ho,hf,hx,eg,resolve,Deferred.ofValue,invoke,go_sem]
end
def Gw (w w':World):Prop:=∃ q os,w'=grow (w.drewN q) os
theorem aSf (w:World):grow w #[]=w:=by simp [grow]
theorem Gw.refl (w:World):Gw w w:=⟨0,#[],by rw [aSf];rfl⟩
theorem Gw.drew {w w':World}(h:Gw w w'):Gw w w'.drew:=by
  obtain ⟨q,os,rfl⟩:=h;exact ⟨q+1,os,rfl⟩
theorem Gw.alloc {w w':World}(h:Gw w w') (o:Obj):Gw w (w'.alloc o):=by
  obtain ⟨q,os,rfl⟩:=h;refine ⟨q,os++#[o],?_⟩;simp [World.alloc,grow]
theorem Gw.trans {a b c:World}(h:Gw a b) (k:Gw b c):Gw a c:=by
  obtain ⟨q,os,rfl⟩:=h;obtain ⟨q2,os2,rfl⟩:=k;refine ⟨q+q2,os++os2,?_⟩;simp [grow,World.drewN,Nat.add_assoc]
theorem Gw.fr {w w':World}(h:Gw w w'):Fr nF_ w w':=by
  obtain ⟨q,os,rfl⟩:=h;refine ⟨rfl,rfl,rfl,?_,fun r hr _=>?_⟩
  · simp [grow,World.drewN]
  · simp only [grow,World.drewN]
    rw [Array.getElem?_append_left hr]
set_option maxHeartbeats 1000000 in
section
variable {α:Type}[Inhabited α] {c:Nat}{f:α->List Value}{T:TypeId}
def aXe (f:α->List Value) (c:Nat) (cur:Array Value) (L:List α):Prop:=∀ t x,L[t]?=some x->∀ j u,(f x)[j]?=some u->cur[t*c+j]?=some u
theorem aPU {l:List Value}{j:Nat}{u:Value}(h:l[j]?=some u):l[j]! = u:=by rw [List.getElem!_eq_getElem?_getD,h];rfl
theorem aNG (hc:0<c) (hf:∀ x,(f x).length=c) {w:World}{g:Nat}{cur:Array Value}{L:List α}(hb:w.heap[g]?=some (.cells cur T (0,0))) (h:aXe f c cur L):HoldsK f c w g 0 L.toArray:=by
  intro t ht;rw [size_flatK] at ht;simp only [List.size_toArray] at ht;have hq:t / c<L.length:=by rw [Nat.div_lt_iff_lt_mul hc];exact ht
  have hm:t%c<c:=Nat.mod_lt _ hc;obtain ⟨x,hx⟩:∃ x,L[t / c]?=some x:=⟨_,Gb_ hq⟩;obtain ⟨u,hu⟩:∃ u,(f x)[t%c]?=some u:=⟨_,Gb_ (by rw [hf];exact hm)⟩;refine ⟨?_,aHj hb _⟩;rw [get_flatK f c L.toArray t (by simpa using ht)]
  have e1:L.toArray[t / c]! = x:=by
    rw [Array.getElem!_eq_getD,Array.getD_eq_getD_getElem?];simp [hx]
  rw [e1,aPU hu,Nat.zero_add,aA1 hb];have:=h (t / c) x hx (t%c) u hu;rw [Nat.mul_comm,Nat.div_add_mod] at this;exact this
theorem aHd (hf:∀ x,(f x).length=c) {w:World}{g:Nat}{cur:Array Value}{L:List α}(hb:w.heap[g]?=some (.cells cur T (0,0))) (hsz:L.length*c<=cur.size) (m:Nat) (os:Array Obj) :
    ∃ cur',(sortWorldK f c w g 0 m L.toArray os).heap[g]?=some (.cells cur' T (0,0)) /\ cur'.size=cur.size /\ aXe f c cur' L /\ Fr (fun k=>k=g) w (sortWorldK f c w g 0 m L.toArray os):=by
  have hlt:=aAl hb
  have hmod:(mapBlock (Sort.ahead w m) g (putCells id 0 (flatK f c L.toArray))).heap[g]?=some (.cells (putCells id 0 (flatK f c L.toArray) cur) T (0,0)):=by
    unfold mapBlock;simp only [Array.getElem?_modify,if_true];show Option.map _ w.heap[g]?=_;rw [hb];rfl
  have hsize:(mapBlock (Sort.ahead w m) g (putCells id 0 (flatK f c L.toArray))).heap.size=w.heap.size:=by
    unfold mapBlock Sort.ahead;simp
  refine ⟨putCells id 0 (flatK f c L.toArray) cur,?_,?_,?_,?_⟩
  · unfold sortWorldK putRowK putRow grow
    simp only;rw [Array.getElem?_append_left (by rw [hsize];exact hlt)];exact hmod
  · unfold putCells;simp
  · intro t x hx j u hu
    have hj:j<c:=by rw [←hf x];exact (List.getElem?_eq_some_iff.1 hu).1
    have ht:=(List.getElem?_eq_some_iff.1 hx).1
    have hlt2:t*c+j<L.length*c:=by
      have:t*c+c<=L.length*c:=by rw [←Nat.succ_mul];exact Nat.mul_le_mul_right c ht
      omega
    unfold putCells;rw [Array.getElem?_mapIdx,Array.getElem?_eq_getElem (by omega)];simp only [Option.map_some,size_flatK,List.size_toArray,Nat.zero_add,Gg_,true_and,Nat.sub_zero,if_pos hlt2,id];rw [get_flatK f c L.toArray _ (by simpa using hlt2)]
    have e1:(t*c+j) / c=t:=by
      rw [Nat.mul_comm,Nat.mul_add_div (by omega),Nat.div_eq_of_lt hj,Nat.add_zero]
    have e2:(t*c+j)%c=j:=by rw [Nat.mul_comm,Nat.mul_add_mod,Nat.mod_eq_of_lt hj]
    rw [e1,e2]
    have e3:L.toArray[t]! = x:=by
      rw [Array.getElem!_eq_getD,Array.getD_eq_getD_getElem?];simp [hx]
    rw [e3,aPU hu]
  · unfold sortWorldK putRowK putRow grow
    refine ⟨rfl,rfl,rfl,?_,fun r hr hne=>?_⟩
    · simp only [Array.size_append];rw [hsize];omega
    · simp only
      rw [Array.getElem?_append_left (by rw [hsize];exact hr)];unfold mapBlock;simp only [Array.getElem?_modify];rw [if_neg (fun e=>hne e.symm)];rfl
end
theorem aVv {α:Type}{lt:α->α->Bool}(a b:α->Int) (h:∀ x y,lt x y=true↔a x<a y∨a x=a y /\ b x<b y):SWO lt:=by
  have h':∀ x y,lt x y=false↔¬ (a x<a y∨a x=a y /\ b x<b y):=fun x y=>by rw [←h,Bool.not_eq_true]
  refine ⟨fun x=>?_,fun x y z h1 h2=>?_,fun x y z h1 h2=>?_⟩
  · rw [h'];omega
  · rw [h] at *;omega
  · rw [h'] at *;omega
section
variable {α:Type}[Inhabited α]
theorem aRA {d d':Array α}(h:PermIn 0 d.size d d'):d'.toList.Perm d.toList:=by
  have h1:=h.2.2;have e1:d.extract 0 d.size=d:=by simp
  have e2:d'.extract 0 d.size=d':=by rw [←h.1];simp
  rwa [e1,e2] at h1
theorem aNl {lt:α->α->Bool}{d':Array α}{n:Nat}(hn:d'.size=n) (h:SortedIn lt 0 n d'):d'.toList.Pairwise fun x y=>lt y x=false:=by
  rw [List.pairwise_iff_getElem];intro i j hi hj hij;have:=h i j (Gg_ _) hij (by rw [←hn];simpa using hj);rw [getElem!_pos d' i (by simpa using hi),getElem!_pos d' j (by simpa using hj)] at this;simpa using this
end
section
variable {P:Program}{O:Array Oper}{Q:Exit->Act->World->Prop}{rest:List Oper}{o:Oper}{a:Act}{w:World}{n d:Nat}{L:List (Nat×Value)}{x y:Operand}{b:Nat}{ds:List Deferred}
theorem aJh {T:TypeId}{cs:Array Value}(E:EnvD ds n L a) (hd:o.dst=some d) (hn:d<n) (hf:(L.map (·.1)).contains d=false) (hw:Region.wanted o (yielded O a.tmps)=true) (hr:(execOp a.eval o).run P w = .ok (.value (.pointer (some ⟨w.heap.size,0,none⟩))) (w.alloc (.cells cs T)))
    (k:∀ a' w' b,w.heap.size=b->w'.heap[b]?=some (.cells cs T (0,0))->Gw w w'->EnvD ds n ((d,.pointer (some ⟨b,0,none⟩))::L) a'->wpList P O Q rest a' w'):wpList P O Q (o::rest) a w :=
  aLC E hd hn hf hw hr fun a' E'=>k a' _ _ rfl (aBe _ _) ((Gw.refl _).alloc _) E'
end
theorem aMn {o:Oper}{w:World}{ρ:Operand->Value}{x:Operand}{g off:Nat}{v:Value}(ho:o.op = .load 209 x) (hx:ρ x = .pointer (some ⟨g,off,none⟩)) (hc:w.cell? ⟨g,off,none⟩=some v):(execOp ρ o).run Tryz.prog w = .ok (.value v) w:=by
  simp [execOp,ho,hx,go_sem,hc]
theorem aWj (x y:Int) (w:World):Calls Tryz.prog 133 #[.int .i64 x,.int .i64 y] w fun e w'=>e = .returned (.int .i64 (Lib.compareInt x y)) /\ Gw w w':=(Tryz.cmp_Compare_int x y w).mono fun e w' h=>⟨h.1,by rw [h.2];exact Gw.refl _⟩
set_option maxRecDepth 100000 in
set_option maxHeartbeats 4000000 in
theorem aKk (s:Sp) (w:World):Calls Tryz.prog 126 #[.agg (spA s)] w fun e w'=>e = .returned (.int .i64 s.1) /\ Gw w w':=by
  refine aOk Tryz.func126 rfl rfl (n:=5) (by decide) fun a E=>?_;have hf:Gw w w:=Gw.refl _;refine s_ (r_ (aJh (d:=1) E rfl (by decide) rfl (aAO rfl _) (aGK rfl E.g0) fun a w1 b1 eb1 hb1 f1 E=>?_));have hnb1:w.heap.size<=b1:=by have:=hf.fr.size;omega
  have hf:=hf.trans f1;clear f1;refine ep (v := .int .i64 0) E rfl (a_ rfl rfl) fun a E=>n_ (t_ (s_ (r_ (ep (v := .pointer (some ⟨b1,0,none⟩)) E rfl (aVY rfl E.g1) fun a E=>ep (v := .int .i64 s.1) E rfl (aTR rfl E.g0 (bx hb1 0 rfl)) fun a E=>es_ E rfl (a_ rfl E.g0) fun a E=>n_ (t_ (wr_ (aLh (t:=2) rfl E E.g0 ⟨rfl,hf⟩)))))))
set_option maxRecDepth 100000 in
set_option maxHeartbeats 4000000 in
theorem aLF {c3:Nat}(s t:Sp) {w:World}(hc3:w.heap[c3]?=some (.cells #[.func (.func 126) #[] #[]] 209 (0,0))):Calls Tryz.prog 161 #[.agg (spA s),.agg (spA t),.pointer (some ⟨c3,0,none⟩)] w fun e w'=>e = .returned (.int .i64 (Lib.compareInt s.1 t.1)) /\ Gw w w':=by
  refine aOj Tryz.func161 rfl rfl (n:=13) (by decide) fun a E=>?_;have hf:Gw w w:=Gw.refl _;refine s_ (r_ (aJh (d:=3) E rfl (by decide) rfl (aAO rfl _) (aGK rfl E.g0) fun a w1 b2 eb2 hb2 f1 E=>?_));have hnb2:w.heap.size<=b2:=by have:=hf.fr.size;omega
  have hc3:=f1.fr.obj hc3 id;have hf:=hf.trans f1;clear f1;refine aJh (d:=4) E rfl (by decide) rfl (aAO rfl _) (aGK rfl E.g2) fun a w1 b3 eb3 hb3 f1 E=>?_;have hnb3:w.heap.size<=b3:=by have:=hf.fr.size;omega
  have hlb2b3:b2<b3:=by have:=aAl hb2;omega
  have hc3:=f1.fr.obj hc3 id;have hb2:=f1.fr.obj hb2 id;have hf:=hf.trans f1;clear f1;refine ep (v := .int .i64 0) E rfl (a_ rfl rfl) fun a E=>n_ (t_ (s_ (aH8 (G:=Unit) () (n:=13) (base:=[(4,.pointer (some ⟨b3,0,none⟩)),(3,.pointer (some ⟨b2,0,none⟩)),(0,.agg (spA s)),(1,.agg (spA t)),(2,.pointer (some ⟨c3,0,none⟩))]) (U:=[(5,.int .i64 0,7)]) (T:=fun Z=>[some (6,.func (.func 126) #[] #[]),some (7,.agg (spA s)),some (8,.int .i64 s.1),some (9,.func (.func 126) #[] #[]),some (10,.agg (spA t)),some (11,.int .i64 t.1),some (12,.int .i64 (Lib.compareInt s.1 t.1)),some (5,.int .i64 (Lib.compareInt s.1 t.1))]) (M:=fun Z ls9 wm=>Gw w1 wm) (by kernel_rfl) (by kernel_rfl) (fun _=>by kernel_rfl) (E.of ⟨E.g1,E.g2,E.g3,E.g4,E.g5,trivial⟩) (fun x hx=>by simp only [Gj_,List.not_mem_nil,or_false] at hx;subst hx;exact E.g0) (Gw.refl _).drew ?_ ?_)))
  · intro j9 o9 Z ls9 a w5 ho hl E D DL DL2 hB hM
    have hc3:=hM.fr.obj hc3 id;have hb2:=hM.fr.obj hb2 id;have hb3:=hM.fr.obj hb3 id
    match j9,ho,hl,D,DL,hB with
    | 0,ho,hl,D,DL,hB=>exact z0_ ho (aVo rfl (aMn rfl E.g4 (bx hc3 0 rfl)) rfl hM)
    | 1,ho,hl,D,DL,hB=>exact z0_ ho (aVo rfl (aMo rfl E.g1 (aXw (p:=s) hb2 0 rfl rfl)) rfl hM)
    | 2,ho,hl,D,DL,hB=>exact z0_ ho (aUS rfl (aHU (enters_of Tryz.func126 (by kernel_rfl) rfl) rfl (D 0 _ rfl rfl) (D 1 _ rfl rfl) rfl) (aKk s _) rfl fun w9 f1=>hM.trans f1)
    | 3,ho,hl,D,DL,hB=>exact z0_ ho (aVo rfl (aMn rfl E.g4 (bx hc3 0 rfl)) rfl hM)
    | 4,ho,hl,D,DL,hB=>exact z0_ ho (aVo rfl (aMo rfl E.g0 (aXw (p:=t) hb3 0 rfl rfl)) rfl hM)
    | 5,ho,hl,D,DL,hB=>exact z0_ ho (aUS rfl (aHU (enters_of Tryz.func126 (by kernel_rfl) rfl) rfl (D 3 _ rfl rfl) (D 4 _ rfl rfl) rfl) (aKk t _) rfl fun w9 f1=>hM.trans f1)
    | 6,ho,hl,D,DL,hB=>exact z0_ ho (aUS rfl (aOY (enters_of Tryz.func133 (by kernel_rfl) rfl) rfl rfl (D 2 _ rfl rfl) (D 5 _ rfl rfl)) (aWj s.1 t.1 _) rfl fun w9 f1=>hM.trans f1)
    | 7,ho,hl,D,DL,hB=>exact z0_ ho (aVo rfl (a_ rfl (D 6 _ rfl rfl)) rfl hM)
    | j9+8,ho,hl,D,DL,hB=>exact absurd ho (by simp)
  · rintro _ a w5 E V hM
    have E:=E.add (v := .int .i64 (Lib.compareInt s.1 t.1)) (V 7 _ rfl);clear V;have hc3:=hM.fr.obj hc3 id;have hb2:=hM.fr.obj hb2 id;have hb3:=hM.fr.obj hb3 id;have hf:=hf.trans hM;clear hM;refine t_ (wr_ (aLh (t:=5) rfl E E.g0 ⟨rfl,hf⟩))
theorem aMR (x y:Int):Lib.compareInt x y<0↔x<y:=by
  have:=@aQo x y;simpa using this
theorem aJL {w:World}{B c3:Nat}{v:Value}{L:List Sp}(hO:oSp w B v L) (hc3:w.heap[c3]?=some (.cells #[.func (.func 126) #[] #[]] 209 (0,0))) (hn:∀ k,v.ownBlock=some k->k≠c3) (hl:L.length<=20000) :
    Calls Tryz.prog 176 #[v,.func (.func 161) #[] #[.pointer (some ⟨c3,0,none⟩)]] w fun e w'=>e = .returned (.tuple #[]) /\ ∃ L',L'.Perm L /\ L'.Pairwise (fun x y=>x.1<=y.1) /\ oSp w' B v L' /\ Fr (fun k=>v.ownBlock=some k) w w':=by
  rcases hO.2 with ⟨rfl,h2⟩ | ⟨g,cap,cur,rfl,hB,h3,h4,h5,h6,h7⟩
  · have hL:L=[]:=List.eq_nil_of_length_eq_zero h2
    subst hL;refine Calls.mono (AnyF.slices_SortFunc_none Tryz.sortSp none 0 _ w) ?_;rintro e w' ⟨rfl,rfl⟩;exact ⟨rfl,[],.refl _,.nil,hO,Fr.refl _ _⟩
  · have hgc:g≠c3:=hn g rfl
    have hO':SWO (ltOf fun x y:Sp=>Lib.compareInt x.1 y.1):=aVv (fun x=>x.1) (fun _=>0) fun x y=>by unfold ltOf;rw [decide_eq_true_iff,aMR];omega
    have hd:aXe spL 2 cur L:=by
      intro t x hx j u hu;have hj:j<2:=(List.getElem?_eq_some_iff.1 hu).1;have ht:=(List.getElem?_eq_some_iff.1 hx).1;have:=aDs aGE L t x hx j hj;rw [hu,←h7,List.getElem?_take_of_lt (by omega),Array.getElem?_toList] at this;exact this
    have hsz:L.length*2<=cur.size:=by omega
    have:=AnyQ.slices_SortFunc Tryz.sortSp 2 (fun w=>Tryz.isAgg141 w) (fun w=>Tryz.sizeOf141 w) spL (fun _=>rfl) aTL (fun x y=>Lib.compareInt x.1 y.1) hO' 161 #[.pointer (some ⟨c3,0,none⟩)] g 0 cap L.toArray w (enters_of Tryz.func161 (by kernel_rfl) rfl) (fun m os dk hs x y=>by
      obtain ⟨cur',c1,c2,c3',c4⟩:=aHd (f:=spL) (c:=2) (T:=141) (fun _=>rfl) h3 (L:=dk.toList) (by simp only [Array.length_toList];rw [show dk.size=L.length by simpa using hs];exact hsz) m os;have hc:=c4.obj hc3 (fun e=>hgc e.symm);exact aLF x y (by simpa using hc)) (aNG (f:=spL) (c:=2) (by omega) (fun _=>rfl) h3 hd) (aAl h3) (by simp;omega)
    refine Calls.mono this ?_;rintro e w' ⟨he,d',m,os,hp,hs,rfl⟩;have hp':=aRA hp;have hs':=aNl (hp.1) hs;have hlen:d'.toList.length=L.length:=hp'.length_eq;obtain ⟨cur',c1,c2,c3',c4⟩:=aHd (f:=spL) (c:=2) (T:=141) (fun _=>rfl) h3 (L:=d'.toList) (by rw [hlen];exact hsz) m os;refine ⟨he,d'.toList,hp',hs'.imp fun {x y} hxy=>?_,⟨aCw aGE _,.inr ⟨g,cap,cur',by rw [hlen],hB,by simpa using c1,by rw [hlen];exact h4,h5,by rw [c2];exact h6,?_⟩⟩,(by simpa using c4:Fr (fun k=>k=g) w _).mono fun r _ hr=>by rw [hr];rfl⟩
    · unfold ltOf at hxy
      rw [decide_eq_false_iff_not,aMR] at hxy;omega
    · apply List.ext_getElem?
      intro k
      by_cases hk:k<d'.toList.length*2
      · rw [List.getElem?_take_of_lt hk,Array.getElem?_toList]
        obtain ⟨x,hx⟩:∃ x,d'.toList[k / 2]?=some x:=⟨_,Gb_ (by omega)⟩;have e:k=k / 2*2+k%2:=by omega
        have hm:k%2<2:=Nat.mod_lt _ (by omega);have:=aDs aGE d'.toList (k / 2) x hx (k%2) hm;rw [←e] at this;rw [this];obtain ⟨u,hu⟩:∃ u,(spL x)[k%2]?=some u:=⟨_,Gb_ (by rw [aGE];exact hm)⟩;rw [hu];have:=c3' (k / 2) x hx (k%2) u hu
        rwa [←e] at this
      · rw [List.getElem?_eq_none (by simp at hk ⊢;omega),List.getElem?_eq_none (by rw [aCw aGE];omega)]
end Go.Proofs.YtbflfefahheidaaGreatDoor
