import Derived.Test.YtapgeemjgckgaaaGreatDoorProg
import Derived.Shelf.Strconv.Itoa3
import Derived.Shelf.Strconv.ErrVarAll
import Derived.Shelf.Strings.OnBuilder
import Derived.Shelf.Small.Strs
import Derived.Shelf.Strings.Prefix
import Derived.Shelf.Sort.Plain
import Derived.Shelf.Slices.In.SortNone2
import Derived.Shelf.Strings.Split
import Derived.KernelRfl
import Derived.Test.YtapgeemjgckgaaaGreatDoorMk
import Derived.Test.YtapgeemjgckgaaaGreatDoorRenV1
set_option linter.unusedSimpArgs false
set_option linter.unusedVariables false
/- Functions of the library, by this program's numbers. -/
namespace Go.Proofs.YtapgeemjgckgaaaGreatDoor
open Go.Proofs Go.Shelf Go.RowKit Go.Lib Go.Sort
def apc:Go.Shelf.Ren:=⟨fun | 171=>249 | 243=>279 | 246=>296 | 283=>321 | 284=>322 | 285=>323 | 286=>324 | 129=>320 | 317=>347 | 318=>348 | 319=>349 | 320=>350 | 337=>358 | 338=>359 | n=>n,fun | 3=>3 | 9=>9 | 2=>2 | 4=>4 | 171=>300 | 0=>0 | 53=>299 | 37=>173 | 5=>5 | 173=>302 | 212=>323 | 51=>297 | 20=>20 | 213=>324 | 46=>280 | 232=>347 | 233=>348 | n=>n,fun | 17=>1 | 18=>6 | 19=>7 | n=>n⟩
theorem l171:LaysM.n171 Tryz.prog apc where
 mixed:=by kernel_rfl
 f129:=Tryz.func320.trans (congrArg some (by kernel_rfl))
 f171:=Tryz.func249.trans (congrArg some (by kernel_rfl))
 f243:=Tryz.func279.trans (congrArg some (by kernel_rfl))
 f246:=Tryz.func296.trans (congrArg some (by kernel_rfl))
 f283:=Tryz.func321.trans (congrArg some (by kernel_rfl))
 f284:=Tryz.func322.trans (congrArg some (by kernel_rfl))
 f285:=Tryz.func323.trans (congrArg some (by kernel_rfl))
 f286:=Tryz.func324.trans (congrArg some (by kernel_rfl))
 f317:=Tryz.func347.trans (congrArg some (by kernel_rfl))
 f318:=Tryz.func348.trans (congrArg some (by kernel_rfl))
 f319:=Tryz.func349.trans (congrArg some (by kernel_rfl))
 f320:=Tryz.func350.trans (congrArg some (by kernel_rfl))
 f337:=Tryz.func358.trans (congrArg some (by kernel_rfl))
 f338:=Tryz.func359.trans (congrArg some (by kernel_rfl))
 t0:=Tryz.underlying0
 a0:=Tryz.isAgg0
 z0:=Tryz.sizeOf0
 v0:=Tryz.zeroValue0
 t2:=Tryz.underlying2
 a2:=Tryz.isAgg2
 z2:=Tryz.sizeOf2
 v2:=Tryz.zeroValue2
 t3:=Tryz.underlying3
 a3:=Tryz.isAgg3
 z3:=Tryz.sizeOf3
 v3:=Tryz.zeroValue3
 t4:=Tryz.underlying4
 a4:=Tryz.isAgg4
 z4:=Tryz.sizeOf4
 v4:=Tryz.zeroValue4
 t5:=Tryz.underlying5
 a5:=Tryz.isAgg5
 z5:=Tryz.sizeOf5
 v5:=Tryz.zeroValue5
 t9:=Tryz.underlying9
 a9:=Tryz.isAgg9
 z9:=Tryz.sizeOf9
 v9:=Tryz.zeroValue9
 t20:=Tryz.underlying20
 a20:=Tryz.isAgg20
 z20:=Tryz.sizeOf20
 v20:=Tryz.zeroValue20
 t37:=Tryz.underlying173
 a37:=Tryz.isAgg173
 z37:=Tryz.sizeOf173
 v37:=Tryz.zeroValue173
 t46:=Tryz.underlying280
 a46:=Tryz.isAgg280
 z46:=Tryz.sizeOf280
 v46:=Tryz.zeroValue280
 t51:=Tryz.underlying297
 a51:=Tryz.isAgg297
 z51:=Tryz.sizeOf297
 v51:=Tryz.zeroValue297
 t53:=Tryz.underlying299
 a53:=Tryz.isAgg299
 z53:=Tryz.sizeOf299
 v53:=Tryz.zeroValue299
 t171:=Tryz.underlying300
 a171:=Tryz.isAgg300
 z171:=Tryz.sizeOf300
 v171:=Tryz.zeroValue300
 t173:=Tryz.underlying302
 a173:=Tryz.isAgg302
 z173:=Tryz.sizeOf302
 v173:=Tryz.zeroValue302
 t212:=Tryz.underlying323
 a212:=Tryz.isAgg323
 z212:=Tryz.sizeOf323
 v212:=Tryz.zeroValue323
 t213:=Tryz.underlying324
 a213:=Tryz.isAgg324
 z213:=Tryz.sizeOf324
 t232:=Tryz.underlying347
 a232:=Tryz.isAgg347
 z232:=Tryz.sizeOf347
 v232:=Tryz.zeroValue347
 t233:=Tryz.underlying348
 a233:=Tryz.isAgg348
 z233:=Tryz.sizeOf348
 v233:=Tryz.zeroValue348
 g17:=by kernel_rfl
 g18:=by kernel_rfl
 g19:=by kernel_rfl
 i0:=by kernel_rfl
 i2:=by kernel_rfl
 i3:=by kernel_rfl
 i4:=by kernel_rfl
 i5:=by kernel_rfl
 i9:=by kernel_rfl
 i20:=by kernel_rfl
 i37:=by kernel_rfl
 i46:=by kernel_rfl
 i51:=by kernel_rfl
 i53:=by kernel_rfl
 i171:=by kernel_rfl
 i173:=by kernel_rfl
 i212:=by kernel_rfl
 i232:=by kernel_rfl
 i233:=by kernel_rfl
 m17:=by kernel_rfl
 m18:=by kernel_rfl
 m19:=by kernel_rfl
def alH:Go.Shelf.Ren:=⟨fun | 172=>292 | 244=>308 | 245=>309 | 247=>336 | 279=>337 | 280=>338 | 281=>339 | 282=>340 | 287=>354 | 316=>355 | 171=>249 | 205=>356 | 321=>360 | 322=>361 | 243=>279 | 246=>296 | 283=>321 | 284=>322 | 285=>323 | 286=>324 | 129=>320 | 317=>347 | 318=>348 | 319=>349 | 320=>350 | 337=>358 | 338=>359 | n=>n,fun | 9=>9 | 3=>3 | 75=>275 | 76=>276 | 4=>4 | 5=>5 | 167=>310 | 37=>173 | 0=>0 | 85=>311 | 2=>2 | 168=>313 | 53=>299 | 175=>334 | 46=>280 | 210=>338 | 127=>304 | 145=>346 | 143=>344 | 21=>21 | 171=>300 | 173=>302 | 212=>323 | 51=>297 | 20=>20 | 213=>324 | 232=>347 | 233=>348 | 80=>266 | n=>n,fun | 15=>4 | 16=>5 | 17=>1 | 18=>6 | 19=>7 | n=>n⟩
theorem ak1:LaysC.n172 Tryz.prog alH where
 mixed:=by kernel_rfl
 f129:=Tryz.func320.trans (congrArg some (by kernel_rfl))
 f171:=Tryz.func249.trans (congrArg some (by kernel_rfl))
 f172:=Tryz.func292.trans (congrArg some (by kernel_rfl))
 f205:=Tryz.func356.trans (congrArg some (by kernel_rfl))
 f243:=Tryz.func279.trans (congrArg some (by kernel_rfl))
 f244:=Tryz.func308.trans (congrArg some (by kernel_rfl))
 f245:=Tryz.func309.trans (congrArg some (by kernel_rfl))
 f246:=Tryz.func296.trans (congrArg some (by kernel_rfl))
 f247:=Tryz.func336.trans (congrArg some (by kernel_rfl))
 f279:=Tryz.func337.trans (congrArg some (by kernel_rfl))
 f280:=Tryz.func338.trans (congrArg some (by kernel_rfl))
 f281:=Tryz.func339.trans (congrArg some (by kernel_rfl))
 f282:=Tryz.func340.trans (congrArg some (by kernel_rfl))
 f283:=Tryz.func321.trans (congrArg some (by kernel_rfl))
 f284:=Tryz.func322.trans (congrArg some (by kernel_rfl))
 f285:=Tryz.func323.trans (congrArg some (by kernel_rfl))
 f286:=Tryz.func324.trans (congrArg some (by kernel_rfl))
 f287:=Tryz.func354.trans (congrArg some (by kernel_rfl))
 f316:=Tryz.func355.trans (congrArg some (by kernel_rfl))
 f317:=Tryz.func347.trans (congrArg some (by kernel_rfl))
 f318:=Tryz.func348.trans (congrArg some (by kernel_rfl))
 f319:=Tryz.func349.trans (congrArg some (by kernel_rfl))
 f320:=Tryz.func350.trans (congrArg some (by kernel_rfl))
 f321:=Tryz.func360.trans (congrArg some (by kernel_rfl))
 f322:=Tryz.func361.trans (congrArg some (by kernel_rfl))
 f337:=Tryz.func358.trans (congrArg some (by kernel_rfl))
 f338:=Tryz.func359.trans (congrArg some (by kernel_rfl))
 t0:=Tryz.underlying0
 a0:=Tryz.isAgg0
 z0:=Tryz.sizeOf0
 v0:=Tryz.zeroValue0
 t2:=Tryz.underlying2
 a2:=Tryz.isAgg2
 z2:=Tryz.sizeOf2
 v2:=Tryz.zeroValue2
 t3:=Tryz.underlying3
 a3:=Tryz.isAgg3
 z3:=Tryz.sizeOf3
 v3:=Tryz.zeroValue3
 t4:=Tryz.underlying4
 a4:=Tryz.isAgg4
 z4:=Tryz.sizeOf4
 v4:=Tryz.zeroValue4
 t5:=Tryz.underlying5
 a5:=Tryz.isAgg5
 z5:=Tryz.sizeOf5
 v5:=Tryz.zeroValue5
 t9:=Tryz.underlying9
 a9:=Tryz.isAgg9
 z9:=Tryz.sizeOf9
 v9:=Tryz.zeroValue9
 t20:=Tryz.underlying20
 a20:=Tryz.isAgg20
 z20:=Tryz.sizeOf20
 v20:=Tryz.zeroValue20
 t21:=Tryz.underlying21
 a21:=Tryz.isAgg21
 z21:=Tryz.sizeOf21
 v21:=Tryz.zeroValue21
 t37:=Tryz.underlying173
 a37:=Tryz.isAgg173
 z37:=Tryz.sizeOf173
 v37:=Tryz.zeroValue173
 t46:=Tryz.underlying280
 a46:=Tryz.isAgg280
 z46:=Tryz.sizeOf280
 v46:=Tryz.zeroValue280
 t51:=Tryz.underlying297
 a51:=Tryz.isAgg297
 z51:=Tryz.sizeOf297
 v51:=Tryz.zeroValue297
 t53:=Tryz.underlying299
 a53:=Tryz.isAgg299
 z53:=Tryz.sizeOf299
 v53:=Tryz.zeroValue299
 t75:=Tryz.underlying275
 a75:=Tryz.isAgg275
 z75:=Tryz.sizeOf275
 v75:=Tryz.zeroValue275
 t76:=Tryz.underlying276
 a76:=Tryz.isAgg276
 z76:=Tryz.sizeOf276
 v76:=Tryz.zeroValue276
 t85:=Tryz.underlying311
 a85:=Tryz.isAgg311
 z85:=Tryz.sizeOf311
 v85:=Tryz.zeroValue311
 t127:=Tryz.underlying304
 a127:=Tryz.isAgg304
 z127:=Tryz.sizeOf304
 v127:=Tryz.zeroValue304
 t143:=Tryz.underlying344
 a143:=Tryz.isAgg344
 z143:=Tryz.sizeOf344
 v143:=Tryz.zeroValue344
 t145:=Tryz.underlying346
 a145:=Tryz.isAgg346
 z145:=Tryz.sizeOf346
 v145:=Tryz.zeroValue346
 t167:=Tryz.underlying310
 a167:=Tryz.isAgg310
 z167:=Tryz.sizeOf310
 v167:=Tryz.zeroValue310
 t168:=Tryz.underlying313
 a168:=Tryz.isAgg313
 z168:=Tryz.sizeOf313
 v168:=Tryz.zeroValue313
 t171:=Tryz.underlying300
 a171:=Tryz.isAgg300
 z171:=Tryz.sizeOf300
 v171:=Tryz.zeroValue300
 t173:=Tryz.underlying302
 a173:=Tryz.isAgg302
 z173:=Tryz.sizeOf302
 v173:=Tryz.zeroValue302
 t175:=Tryz.underlying334
 a175:=Tryz.isAgg334
 z175:=Tryz.sizeOf334
 v175:=Tryz.zeroValue334
 t210:=Tryz.underlying338
 a210:=Tryz.isAgg338
 z210:=Tryz.sizeOf338
 v210:=Tryz.zeroValue338
 t212:=Tryz.underlying323
 a212:=Tryz.isAgg323
 z212:=Tryz.sizeOf323
 v212:=Tryz.zeroValue323
 t213:=Tryz.underlying324
 a213:=Tryz.isAgg324
 z213:=Tryz.sizeOf324
 t232:=Tryz.underlying347
 a232:=Tryz.isAgg347
 z232:=Tryz.sizeOf347
 v232:=Tryz.zeroValue347
 t233:=Tryz.underlying348
 a233:=Tryz.isAgg348
 z233:=Tryz.sizeOf348
 v233:=Tryz.zeroValue348
 g15:=by kernel_rfl
 g16:=by kernel_rfl
 g17:=by kernel_rfl
 g18:=by kernel_rfl
 g19:=by kernel_rfl
 t80:=Tryz.underlying266
 a80:=Tryz.isAgg266
 z80:=Tryz.sizeOf266
 v80:=Tryz.zeroValue266
 i0:=by kernel_rfl
 i2:=by kernel_rfl
 i3:=by kernel_rfl
 i4:=by kernel_rfl
 i5:=by kernel_rfl
 i9:=by kernel_rfl
 i20:=by kernel_rfl
 i21:=by kernel_rfl
 i37:=by kernel_rfl
 i46:=by kernel_rfl
 i51:=by kernel_rfl
 i53:=by kernel_rfl
 i75:=by kernel_rfl
 i76:=by kernel_rfl
 i80:=by kernel_rfl
 i85:=by kernel_rfl
 i127:=by kernel_rfl
 i143:=by kernel_rfl
 i145:=by kernel_rfl
 i167:=by kernel_rfl
 i168:=by kernel_rfl
 i171:=by kernel_rfl
 i173:=by kernel_rfl
 i175:=by kernel_rfl
 i210:=by kernel_rfl
 i212:=by kernel_rfl
 i232:=by kernel_rfl
 i233:=by kernel_rfl
 m15:=by kernel_rfl
 m16:=by kernel_rfl
 m17:=by kernel_rfl
 m18:=by kernel_rfl
 m19:=by kernel_rfl
 c0:=by kernel_rfl
 c2:=by kernel_rfl
 c3:=by kernel_rfl
 c4:=by kernel_rfl
 c5:=by kernel_rfl
 c9:=by kernel_rfl
 c20:=by kernel_rfl
 c21:=by kernel_rfl
 c37:=by kernel_rfl
 c46:=by kernel_rfl
 c51:=by kernel_rfl
 c53:=by kernel_rfl
 c75:=by kernel_rfl
 c76:=by kernel_rfl
 c80:=by kernel_rfl
 c85:=by kernel_rfl
 c127:=by kernel_rfl
 c143:=by kernel_rfl
 c145:=by kernel_rfl
 c167:=by kernel_rfl
 c168:=by kernel_rfl
 c171:=by kernel_rfl
 c173:=by kernel_rfl
 c175:=by kernel_rfl
 c210:=by kernel_rfl
 c212:=by kernel_rfl
 c213:=by kernel_rfl
 c232:=by kernel_rfl
 c233:=by kernel_rfl
def alI:Go.Shelf.Ren:=⟨fun | 156=>280 | 165=>297 | 166=>298 | 169=>299 | 240=>325 | 241=>326 | 276=>351 | 277=>352 | n=>n,fun | 31=>60 | 9=>9 | 3=>3 | 4=>4 | 0=>0 | 20=>20 | 72=>284 | 76=>276 | 70=>282 | 37=>173 | 75=>275 | 127=>304 | 164=>325 | 5=>5 | 80=>266 | n=>n,fun n=>n⟩
theorem l156:Lays.n156 Tryz.prog alI where
 mixed:=by kernel_rfl
 f156:=Tryz.func280.trans (congrArg some (by kernel_rfl))
 f165:=Tryz.func297.trans (congrArg some (by kernel_rfl))
 f166:=Tryz.func298.trans (congrArg some (by kernel_rfl))
 f169:=Tryz.func299.trans (congrArg some (by kernel_rfl))
 f240:=Tryz.func325.trans (congrArg some (by kernel_rfl))
 f241:=Tryz.func326.trans (congrArg some (by kernel_rfl))
 f276:=Tryz.func351.trans (congrArg some (by kernel_rfl))
 f277:=Tryz.func352.trans (congrArg some (by kernel_rfl))
 t0:=Tryz.underlying0
 a0:=Tryz.isAgg0
 z0:=Tryz.sizeOf0
 v0:=Tryz.zeroValue0
 t3:=Tryz.underlying3
 a3:=Tryz.isAgg3
 z3:=Tryz.sizeOf3
 v3:=Tryz.zeroValue3
 t4:=Tryz.underlying4
 a4:=Tryz.isAgg4
 z4:=Tryz.sizeOf4
 v4:=Tryz.zeroValue4
 t9:=Tryz.underlying9
 a9:=Tryz.isAgg9
 z9:=Tryz.sizeOf9
 v9:=Tryz.zeroValue9
 t20:=Tryz.underlying20
 a20:=Tryz.isAgg20
 z20:=Tryz.sizeOf20
 v20:=Tryz.zeroValue20
 t31:=Tryz.underlying60
 a31:=Tryz.isAgg60
 z31:=Tryz.sizeOf60
 v31:=Tryz.zeroValue60
 t37:=Tryz.underlying173
 a37:=Tryz.isAgg173
 z37:=Tryz.sizeOf173
 v37:=Tryz.zeroValue173
 t70:=Tryz.underlying282
 a70:=Tryz.isAgg282
 z70:=Tryz.sizeOf282
 v70:=Tryz.zeroValue282
 t72:=Tryz.underlying284
 a72:=Tryz.isAgg284
 z72:=Tryz.sizeOf284
 v72:=Tryz.zeroValue284
 t75:=Tryz.underlying275
 a75:=Tryz.isAgg275
 z75:=Tryz.sizeOf275
 v75:=Tryz.zeroValue275
 t76:=Tryz.underlying276
 a76:=Tryz.isAgg276
 z76:=Tryz.sizeOf276
 v76:=Tryz.zeroValue276
 t127:=Tryz.underlying304
 a127:=Tryz.isAgg304
 z127:=Tryz.sizeOf304
 v127:=Tryz.zeroValue304
 t164:=Tryz.underlying325
 a164:=Tryz.isAgg325
 z164:=Tryz.sizeOf325
 v164:=Tryz.zeroValue325
theorem x156:Builder.Extra Tryz.prog alI where
 sizeBuilder:=by kernel_rfl
 liesBuilder:=by kernel_rfl
 t5:=Tryz.underlying5
 a5:=Tryz.isAgg5
 z5:=Tryz.sizeOf5
 v5:=Tryz.zeroValue5
 infoByte:=by kernel_rfl
 cellsByte:=by kernel_rfl
 sizeByte:=by kernel_rfl
 neB5:=by decide
def apd:Go.Shelf.Ren:=⟨fun | 137=>284 | 217=>301 | 266=>330 | n=>n,fun | 9=>9 | 5=>5 | 3=>3 | n=>n,fun n=>n⟩
theorem l137:Lays.n137 Tryz.prog apd where
 mixed:=by kernel_rfl
 f137:=Tryz.func284.trans (congrArg some (by kernel_rfl))
 f217:=Tryz.func301.trans (congrArg some (by kernel_rfl))
 f266:=Tryz.func330.trans (congrArg some (by kernel_rfl))
 t3:=Tryz.underlying3
 a3:=Tryz.isAgg3
 z3:=Tryz.sizeOf3
 v3:=Tryz.zeroValue3
 t5:=Tryz.underlying5
 a5:=Tryz.isAgg5
 z5:=Tryz.sizeOf5
 v5:=Tryz.zeroValue5
 t9:=Tryz.underlying9
 a9:=Tryz.isAgg9
 z9:=Tryz.sizeOf9
 v9:=Tryz.zeroValue9
def l99r:Go.Shelf.Ren:=⟨fun | 99=>285 | 206=>302 | n=>n,fun | 9=>9 | 4=>4 | 3=>3 | n=>n,fun n=>n⟩
theorem l99:Lays.n99 Tryz.prog l99r where
 mixed:=by kernel_rfl
 f99:=Tryz.func285.trans (congrArg some (by kernel_rfl))
 f206:=Tryz.func302.trans (congrArg some (by kernel_rfl))
 t3:=Tryz.underlying3
 a3:=Tryz.isAgg3
 z3:=Tryz.sizeOf3
 v3:=Tryz.zeroValue3
 t4:=Tryz.underlying4
 a4:=Tryz.isAgg4
 z4:=Tryz.sizeOf4
 v4:=Tryz.zeroValue4
 t9:=Tryz.underlying9
 a9:=Tryz.isAgg9
 z9:=Tryz.sizeOf9
 v9:=Tryz.zeroValue9
def apb:Go.Shelf.Ren:=⟨fun | 192=>247 | 190=>278 | 125=>295 | 258=>294 | 128=>319 | 129=>320 | 302=>310 | 303=>311 | 304=>312 | 305=>313 | 306=>314 | 307=>315 | 308=>316 | 309=>317 | 310=>318 | 333=>341 | 329=>342 | 330=>343 | 334=>344 | 335=>345 | 336=>346 | 344=>357 | n=>n,fun | 31=>60 | 0=>0 | 9=>9 | 3=>3 | 46=>280 | 51=>297 | 53=>299 | 4=>4 | 183=>291 | 182=>290 | 131=>243 | 5=>5 | 218=>316 | 222=>320 | 228=>340 | 229=>341 | n=>n,fun n=>n⟩
theorem l192:Lays.n192 Tryz.prog apb where
 mixed:=by kernel_rfl
 f125:=Tryz.func295.trans (congrArg some (by kernel_rfl))
 f128:=Tryz.func319.trans (congrArg some (by kernel_rfl))
 f129:=Tryz.func320.trans (congrArg some (by kernel_rfl))
 f190:=Tryz.func278.trans (congrArg some (by kernel_rfl))
 f192:=Tryz.func247.trans (congrArg some (by kernel_rfl))
 f258:=Tryz.func294.trans (congrArg some (by kernel_rfl))
 f302:=Tryz.func310.trans (congrArg some (by kernel_rfl))
 f303:=Tryz.func311.trans (congrArg some (by kernel_rfl))
 f304:=Tryz.func312.trans (congrArg some (by kernel_rfl))
 f305:=Tryz.func313.trans (congrArg some (by kernel_rfl))
 f306:=Tryz.func314.trans (congrArg some (by kernel_rfl))
 f307:=Tryz.func315.trans (congrArg some (by kernel_rfl))
 f308:=Tryz.func316.trans (congrArg some (by kernel_rfl))
 f309:=Tryz.func317.trans (congrArg some (by kernel_rfl))
 f310:=Tryz.func318.trans (congrArg some (by kernel_rfl))
 f329:=Tryz.func342.trans (congrArg some (by kernel_rfl))
 f330:=Tryz.func343.trans (congrArg some (by kernel_rfl))
 f333:=Tryz.func341.trans (congrArg some (by kernel_rfl))
 f334:=Tryz.func344.trans (congrArg some (by kernel_rfl))
 f335:=Tryz.func345.trans (congrArg some (by kernel_rfl))
 f336:=Tryz.func346.trans (congrArg some (by kernel_rfl))
 f344:=Tryz.func357.trans (congrArg some (by kernel_rfl))
 t0:=Tryz.underlying0
 a0:=Tryz.isAgg0
 z0:=Tryz.sizeOf0
 v0:=Tryz.zeroValue0
 t3:=Tryz.underlying3
 a3:=Tryz.isAgg3
 z3:=Tryz.sizeOf3
 v3:=Tryz.zeroValue3
 t4:=Tryz.underlying4
 a4:=Tryz.isAgg4
 z4:=Tryz.sizeOf4
 v4:=Tryz.zeroValue4
 t5:=Tryz.underlying5
 a5:=Tryz.isAgg5
 z5:=Tryz.sizeOf5
 v5:=Tryz.zeroValue5
 t9:=Tryz.underlying9
 a9:=Tryz.isAgg9
 z9:=Tryz.sizeOf9
 v9:=Tryz.zeroValue9
 t31:=Tryz.underlying60
 a31:=Tryz.isAgg60
 z31:=Tryz.sizeOf60
 v31:=Tryz.zeroValue60
 t46:=Tryz.underlying280
 a46:=Tryz.isAgg280
 z46:=Tryz.sizeOf280
 v46:=Tryz.zeroValue280
 t51:=Tryz.underlying297
 a51:=Tryz.isAgg297
 z51:=Tryz.sizeOf297
 v51:=Tryz.zeroValue297
 t53:=Tryz.underlying299
 a53:=Tryz.isAgg299
 z53:=Tryz.sizeOf299
 v53:=Tryz.zeroValue299
 t131:=Tryz.underlying243
 a131:=Tryz.isAgg243
 z131:=Tryz.sizeOf243
 v131:=Tryz.zeroValue243
 t182:=Tryz.underlying290
 a182:=Tryz.isAgg290
 z182:=Tryz.sizeOf290
 v182:=Tryz.zeroValue290
 t183:=Tryz.underlying291
 a183:=Tryz.isAgg291
 z183:=Tryz.sizeOf291
 v183:=Tryz.zeroValue291
 t218:=Tryz.underlying316
 a218:=Tryz.isAgg316
 z218:=Tryz.sizeOf316
 v218:=Tryz.zeroValue316
 t222:=Tryz.underlying320
 a222:=Tryz.isAgg320
 z222:=Tryz.sizeOf320
 v222:=Tryz.zeroValue320
 t228:=Tryz.underlying340
 a228:=Tryz.isAgg340
 z228:=Tryz.sizeOf340
 v228:=Tryz.zeroValue340
 t229:=Tryz.underlying341
 a229:=Tryz.isAgg341
 z229:=Tryz.sizeOf341
 v229:=Tryz.zeroValue341
def aje:Go.Shelf.Ren:=⟨fun | 146=>242 | 221=>271 | 268=>289 | 138=>290 | 143=>291 | 195=>304 | 197=>305 | 218=>306 | 219=>307 | 260=>332 | 217=>301 | 225=>333 | 224=>334 | 267=>335 | 266=>330 | 314=>353 | n=>n,fun | 9=>9 | 31=>60 | 3=>3 | 4=>4 | 0=>0 | 105=>286 | 21=>21 | 5=>5 | 46=>280 | 119=>328 | 139=>331 | 138=>330 | 146=>332 | 51=>297 | n=>n,fun | 1=>0 | 3=>2 | 4=>3 | n=>n⟩
theorem l146:Lays.n146 Tryz.prog aje where
 mixed:=by kernel_rfl
 f138:=Tryz.func290.trans (congrArg some (by kernel_rfl))
 f143:=Tryz.func291.trans (congrArg some (by kernel_rfl))
 f146:=Tryz.func242.trans (congrArg some (by kernel_rfl))
 f195:=Tryz.func304.trans (congrArg some (by kernel_rfl))
 f197:=Tryz.func305.trans (congrArg some (by kernel_rfl))
 f217:=Tryz.func301.trans (congrArg some (by kernel_rfl))
 f218:=Tryz.func306.trans (congrArg some (by kernel_rfl))
 f219:=Tryz.func307.trans (congrArg some (by kernel_rfl))
 f221:=Tryz.func271.trans (congrArg some (by kernel_rfl))
 f224:=Tryz.func334.trans (congrArg some (by kernel_rfl))
 f225:=Tryz.func333.trans (congrArg some (by kernel_rfl))
 f260:=Tryz.func332.trans (congrArg some (by kernel_rfl))
 f266:=Tryz.func330.trans (congrArg some (by kernel_rfl))
 f267:=Tryz.func335.trans (congrArg some (by kernel_rfl))
 f268:=Tryz.func289.trans (congrArg some (by kernel_rfl))
 f314:=Tryz.func353.trans (congrArg some (by kernel_rfl))
 t0:=Tryz.underlying0
 a0:=Tryz.isAgg0
 z0:=Tryz.sizeOf0
 v0:=Tryz.zeroValue0
 t3:=Tryz.underlying3
 a3:=Tryz.isAgg3
 z3:=Tryz.sizeOf3
 v3:=Tryz.zeroValue3
 t4:=Tryz.underlying4
 a4:=Tryz.isAgg4
 z4:=Tryz.sizeOf4
 v4:=Tryz.zeroValue4
 t5:=Tryz.underlying5
 a5:=Tryz.isAgg5
 z5:=Tryz.sizeOf5
 v5:=Tryz.zeroValue5
 t9:=Tryz.underlying9
 a9:=Tryz.isAgg9
 z9:=Tryz.sizeOf9
 v9:=Tryz.zeroValue9
 t21:=Tryz.underlying21
 a21:=Tryz.isAgg21
 z21:=Tryz.sizeOf21
 v21:=Tryz.zeroValue21
 t31:=Tryz.underlying60
 a31:=Tryz.isAgg60
 z31:=Tryz.sizeOf60
 v31:=Tryz.zeroValue60
 t46:=Tryz.underlying280
 a46:=Tryz.isAgg280
 z46:=Tryz.sizeOf280
 v46:=Tryz.zeroValue280
 t51:=Tryz.underlying297
 a51:=Tryz.isAgg297
 z51:=Tryz.sizeOf297
 v51:=Tryz.zeroValue297
 t105:=Tryz.underlying286
 a105:=Tryz.isAgg286
 z105:=Tryz.sizeOf286
 v105:=Tryz.zeroValue286
 t119:=Tryz.underlying328
 a119:=Tryz.isAgg328
 z119:=Tryz.sizeOf328
 t138:=Tryz.underlying330
 a138:=Tryz.isAgg330
 z138:=Tryz.sizeOf330
 v138:=Tryz.zeroValue330
 t139:=Tryz.underlying331
 a139:=Tryz.isAgg331
 z139:=Tryz.sizeOf331
 v139:=Tryz.zeroValue331
 t146:=Tryz.underlying332
 a146:=Tryz.isAgg332
 z146:=Tryz.sizeOf332
 v146:=Tryz.zeroValue332
 g1:=by kernel_rfl
 g3:=by kernel_rfl
 g4:=by kernel_rfl
end Go.Proofs.YtapgeemjgckgaaaGreatDoor
/- The library's functions as contracts at this program; the integer of a range with a text. -/
namespace Go.Proofs.YtapgeemjgckgaaaGreatDoor
open Go.Abs Go.Proofs Go.Shelf Go.RowKit Go.Lib Go.Sort
theorem Ul:Sound Tryz.prog agL:=adF l171 (fun w h=>h.tab)
theorem GH:Sound Tryz.prog QH:=NG l99
theorem Gz:Sound Tryz.prog QG:=Nv l137
theorem Uk:Sound Tryz.prog agK:=adE l156 x156
theorem X6 (w : World) (h : amb w) : ∃ m, w.cell? ⟨(aje.g 1), 0, none⟩ = some (.int .i64 m) := by have e : (Tryz.prog.globalNamed "internal/bytealg.MaxLen").getD 0 = aje.g 1 := by { kernel_rfl }; have q := h.aoI; rw [e] at q; exact q
theorem QF:Sound Tryz.prog adv:=Zu l146 (by kernel_rfl) X6
theorem yj:callable Tryz.prog pI.fid=true:=by kernel_rfl
theorem A7:Ls Tryz.prog pI:=H7 l192
theorem abT(w:World)(e:TypeId)(t:ByteArray):Below w.heap.size w (Go.Lib.bytesWorld w e t):=by
 refine⟨rfl,rfl,rfl,?_,fun k a=>?_⟩
 ·simp[Go.Lib.bytesWorld,World.freeze,World.alloc]
 ·unfold Go.Lib.bytesWorld World.freeze;show ((w.drew.alloc _).heap.modify w.heap.size _)[k]?=_
  rw[Array.getElem?_modify,if_neg (by omega)];exact Below.heap_alloc w.drew _ _ a
def Zc(s:Str)(e:Ending):Prop:=match Go.Lib.atoiAll s with
 | .ok v=>e=.returned (.tuple #[.int .i64 v,.nilIface])
 | _=>∃n t p,e=.returned (.tuple #[.int .i64 n,.iface t p])
theorem aki(s:Str)(i:s.length<=34359738368)(w:World)(d:amb w) :
  Calls Tryz.prog (alH.f 172) #[.string ⟨s.toArray⟩] w fun e w'=>Zc s e/\Below w.heap.size w w':=by
 have a:(⟨s.toArray⟩:ByteArray).size=s.length:=by show s.toArray.size=_;simp
 have g:(⟨s.toArray⟩:ByteArray).data.toList=s:=rfl;unfold Zc;cases h:Go.Lib.atoiAll s with
 | ok v=>
  refine (Any.strconv_Atoi_ok ak1 ⟨s.toArray⟩ (by rw[a];omega) v h w).mono ?_;rintro e w' ⟨rfl,b | ⟨t,b⟩⟩
  ·subst b;exact⟨rfl,Below.refl _ _⟩
  ·subst b;exact⟨rfl,abT _ _ _⟩
 | range=>
  obtain⟨tp,p,hv⟩:=d.2.2.2;refine (Any.strconv_Atoi_range_var ak1 ⟨s.toArray⟩ (by rw[a];omega) h tp p w hv).mono ?_;rintro e w' ⟨N,rfl,_,_,c⟩;exact⟨⟨_,_,_,rfl⟩,c⟩
 | _=>
  obtain⟨tp,p,hv⟩:=d.2.2.1;refine (Any.strconv_Atoi_syntax_var ak1 ⟨s.toArray⟩ (by rw[a];omega) h tp p w hv).mono ?_;rintro e w' ⟨N,rfl,_,_,c⟩;exact⟨⟨_,_,_,rfl⟩,c⟩
theorem SI{s:Str}{v:Int}(h:Go.Lib.atoiAll s=.ok v):-9223372036854775808<=v/\v<=9223372036854775807:=by
 unfold Go.Lib.atoiAll at h;split at h
 ·cases h
 ·simp only at h;split at h
  ·cases h
  ·cases h
  ·split at h
   ·cases h
   ·split at h
    ·cases h
    ·rename_i u _ a b;cases h
     split<;>omega
def SY(s:Str)(lo hi:Int)(e:Ending):Prop:=∃r,qC s lo hi=some r/\e=.returned (.tuple #[.int .i64 r.1,.bool r.2])
theorem agw{s:Str}{lo hi v:Int}(b:s.length<=34359738368)(h:Go.Lib.atoiAll s=.ok v)(d:lo<=v)(e:v<=hi)(c:Go.Lib.itoa v=s):SY s lo hi (.returned (.tuple #[.int .i64 v,.bool true])):=by
 refine⟨(v,true),?_,rfl⟩;have a:gd s.length=some ():=by unfold gd;simp[b]
 unfold qC;rw[a,h];simp only[zA];rw[if_neg];rintro (q | q | q)
 ·omega
 ·omega
 ·exact q c
theorem BP{s:Str}{lo hi:Int}(b:s.length<=34359738368)(h:∀v,Go.Lib.atoiAll s=.ok v->v<lo\/hi<v\/Go.Lib.itoa v≠s):SY s lo hi (.returned (.tuple #[.int .i64 0,.bool false])):=by
 refine⟨(0,false),?_,rfl⟩;have a:gd s.length=some ():=by unfold gd;simp[b]
 unfold qC;rw[a];simp only[zA];cases hv:Go.Lib.atoiAll s with
 | ok v=>simp only;rw[if_pos (h v hv)]
 | range=>rfl
 | _=>rfl
set_option maxHeartbeats 4000000 in
set_option maxRecDepth 100000 in
theorem ada(s:Str)(lo hi:Int)(f:s.length<=34359738368)(w:World)(j:amb w) :
  Calls Tryz.prog 272 #[.string ⟨s.toArray⟩,.int .i64 lo,.int .i64 hi] w fun e w'=>SY s lo hi e/\Below w.heap.size w w':=by
 have mixed:=ak1.mixed;have b:=aki s f w j;have m:gd s.length=some ():=by unfold gd;simp[f]
 unfold Zc at b;cases h:Go.Lib.atoiAll s with
 | ok v=>
  rw[h]at b;simp only at b;go_enter Tryz.func272,Tryz.ntmps272
  go_wp2_with (first | (go_at_call 292;refine b.mono ?_;rintro e g ⟨rfl,d⟩;have l:=amb.keep j d.size fun k o=>d.block k (aD o j.size);have HB:Hid (Below w.heap.size w g):=d;clear d) | (go_at_call 249;refine (Any.strconv_Itoa l171 v (SI h).1 (SI h).2 _ l.tab).mono ?_;rintro e r ⟨rfl,k,os,rfl⟩))
  all_goals go_ret2
  ·rename_i k os c;refine⟨BP f fun v' a=>?_,HB.out.trans ((below_grow g k os).mono HB.out.size)⟩;have e:v'=v:=by rw[h]at a;cases a;rfl
   subst e;rcases c with c | c
   ·exact c.elim .inl fun q=>.inr (.inl q)
   ·exact .inr (.inr (by simpa using c))
  ·rename_i k os c;exact⟨agw f h c.1.1 c.1.2 (by simpa using c.2),HB.out.trans ((below_grow g k os).mono HB.out.size)⟩
  ·rename_i i;refine⟨BP f fun v' a=>?_,HB.out⟩;rw[h]at a;cases a;exact .inr (.inl i)
  ·rename_i i;refine⟨BP f fun v' a=>?_,HB.out⟩;rw[h]at a;cases a;exact .inl i
 | range=>
  rw[h]at b;simp only at b;go_enter Tryz.func272,Tryz.ntmps272
  go_wp2_with (go_at_call 292;refine b.mono ?_;rintro e g ⟨⟨n,t,p,rfl⟩,d⟩;have HB:Hid (Below w.heap.size w g):=d;clear d)
  all_goals go_ret2
  exact⟨BP f fun v' a=>(by rw[h]at a;cases a),HB.out⟩
 | _=>
  rw[h]at b;simp only at b;go_enter Tryz.func272,Tryz.ntmps272
  go_wp2_with (go_at_call 292;refine b.mono ?_;rintro e g ⟨⟨n,t,p,rfl⟩,d⟩;have HB:Hid (Below w.heap.size w g):=d;clear d)
  all_goals go_ret2
  exact⟨BP f fun v' a=>(by rw[h]at a;cases a),HB.out⟩
theorem Yk:Sound Tryz.prog ajv:=by
 intro w S args x y h d a m;rcases args with _ | ⟨u,_ | ⟨f,_ | ⟨i,_ | ⟨n,r⟩⟩⟩⟩
 ·exact a.elim
 ·exact a.2.elim
 ·exact a.2.2.elim
 ·have j:=lY (show Rep w S (.str x.1) u from a.1.1);have b:=vV (show Rep w S (.int .i64 x.2.1) f from a.2.1.1);have c:=vV (show Rep w S (.int .i64 x.2.2) i from a.2.2.1);subst j;subst b;subst c;have h:qC x.1 x.2.1 x.2.2=some y:=h;have k:List.length x.1<=34359738368:=by
   unfold qC at h;obtain⟨_,g,_⟩:=zB.1 h;exact jb g
  refine (ada x.1 x.2.1 x.2.2 k w d).mono ?_;rintro e w' ⟨⟨r,a,rfl⟩,l⟩;rw[h]at a;cases a
  exact⟨_,rfl,l,TU _ _⟩
 ·exact a.2.2.elim
end Go.Proofs.YtapgeemjgckgaaaGreatDoor
