import Derived.Test.YtbbmkcioplbhbaaGreatDoorProg
import Derived.Shelf.Strconv.Itoa3
import Derived.Shelf.Strconv.ErrVarAll
import Derived.Shelf.Strings.OnBuilder
import Derived.Shelf.Small.Strs
import Derived.Shelf.Strings.Prefix
import Derived.Shelf.Sort.Plain
import Derived.Shelf.Slices.In.SortNone2
import Derived.Shelf.Strings.Split
import Derived.KernelRfl
import Derived.Test.YtbbmkcioplbhbaaGreatDoorMk
import Derived.Test.YtbbmkcioplbhbaaGreatDoorReplay2
set_option linter.unusedSimpArgs false
set_option linter.unusedVariables false
/- Functions of the library, by this program's numbers. -/
namespace Go.Proofs.YtbbmkcioplbhbaaGreatDoor
open Go.Proofs Go.Shelf Go.RowKit Go.Lib Go.Sort
def aqy:Go.Shelf.Ren:=⟨fun | 171=>273 | 243=>295 | 246=>322 | 283=>345 | 284=>346 | 285=>347 | 286=>348 | 129=>321 | 317=>359 | 318=>360 | 319=>361 | 320=>362 | 337=>371 | 338=>372 | n=>n,fun | 3=>3 | 9=>9 | 2=>2 | 4=>4 | 171=>314 | 0=>0 | 53=>291 | 37=>146 | 5=>5 | 173=>316 | 212=>332 | 51=>289 | 20=>20 | 213=>333 | 46=>274 | 232=>347 | 233=>348 | n=>n,fun | 17=>3 | 18=>6 | 19=>7 | n=>n⟩
theorem l171:LaysM.n171 Tryz.prog aqy where
 mixed:=by kernel_rfl
 f129:=Tryz.func321.trans (congrArg some (by kernel_rfl))
 f171:=Tryz.func273.trans (congrArg some (by kernel_rfl))
 f243:=Tryz.func295.trans (congrArg some (by kernel_rfl))
 f246:=Tryz.func322.trans (congrArg some (by kernel_rfl))
 f283:=Tryz.func345.trans (congrArg some (by kernel_rfl))
 f284:=Tryz.func346.trans (congrArg some (by kernel_rfl))
 f285:=Tryz.func347.trans (congrArg some (by kernel_rfl))
 f286:=Tryz.func348.trans (congrArg some (by kernel_rfl))
 f317:=Tryz.func359.trans (congrArg some (by kernel_rfl))
 f318:=Tryz.func360.trans (congrArg some (by kernel_rfl))
 f319:=Tryz.func361.trans (congrArg some (by kernel_rfl))
 f320:=Tryz.func362.trans (congrArg some (by kernel_rfl))
 f337:=Tryz.func371.trans (congrArg some (by kernel_rfl))
 f338:=Tryz.func372.trans (congrArg some (by kernel_rfl))
 t0:=Tryz.underlying0
 a0:=Tryz.isAgg0
 z0:=Tryz.sizeOf0
 v0:=Tryz.zeroValue0
 t2:=Tryz.underlying2
 a2:=Tryz.isAgg2
 z2:=Tryz.sizeOf2
 v2:=Tryz.zeroValue2
 t3:=Tryz.underlying3
 a3:=Tryz.isAgg3
 z3:=Tryz.sizeOf3
 v3:=Tryz.zeroValue3
 t4:=Tryz.underlying4
 a4:=Tryz.isAgg4
 z4:=Tryz.sizeOf4
 v4:=Tryz.zeroValue4
 t5:=Tryz.underlying5
 a5:=Tryz.isAgg5
 z5:=Tryz.sizeOf5
 v5:=Tryz.zeroValue5
 t9:=Tryz.underlying9
 a9:=Tryz.isAgg9
 z9:=Tryz.sizeOf9
 v9:=Tryz.zeroValue9
 t20:=Tryz.underlying20
 a20:=Tryz.isAgg20
 z20:=Tryz.sizeOf20
 v20:=Tryz.zeroValue20
 t37:=Tryz.underlying146
 a37:=Tryz.isAgg146
 z37:=Tryz.sizeOf146
 v37:=Tryz.zeroValue146
 t46:=Tryz.underlying274
 a46:=Tryz.isAgg274
 z46:=Tryz.sizeOf274
 v46:=Tryz.zeroValue274
 t51:=Tryz.underlying289
 a51:=Tryz.isAgg289
 z51:=Tryz.sizeOf289
 v51:=Tryz.zeroValue289
 t53:=Tryz.underlying291
 a53:=Tryz.isAgg291
 z53:=Tryz.sizeOf291
 v53:=Tryz.zeroValue291
 t171:=Tryz.underlying314
 a171:=Tryz.isAgg314
 z171:=Tryz.sizeOf314
 v171:=Tryz.zeroValue314
 t173:=Tryz.underlying316
 a173:=Tryz.isAgg316
 z173:=Tryz.sizeOf316
 v173:=Tryz.zeroValue316
 t212:=Tryz.underlying332
 a212:=Tryz.isAgg332
 z212:=Tryz.sizeOf332
 v212:=Tryz.zeroValue332
 t213:=Tryz.underlying333
 a213:=Tryz.isAgg333
 z213:=Tryz.sizeOf333
 t232:=Tryz.underlying347
 a232:=Tryz.isAgg347
 z232:=Tryz.sizeOf347
 v232:=Tryz.zeroValue347
 t233:=Tryz.underlying348
 a233:=Tryz.isAgg348
 z233:=Tryz.sizeOf348
 v233:=Tryz.zeroValue348
 g17:=by kernel_rfl
 g18:=by kernel_rfl
 g19:=by kernel_rfl
 i0:=by kernel_rfl
 i2:=by kernel_rfl
 i3:=by kernel_rfl
 i4:=by kernel_rfl
 i5:=by kernel_rfl
 i9:=by kernel_rfl
 i20:=by kernel_rfl
 i37:=by kernel_rfl
 i46:=by kernel_rfl
 i51:=by kernel_rfl
 i53:=by kernel_rfl
 i171:=by kernel_rfl
 i173:=by kernel_rfl
 i212:=by kernel_rfl
 i232:=by kernel_rfl
 i233:=by kernel_rfl
 m17:=by kernel_rfl
 m18:=by kernel_rfl
 m19:=by kernel_rfl
def amM:Go.Shelf.Ren:=⟨fun | 172=>289 | 244=>307 | 245=>308 | 247=>334 | 279=>335 | 280=>336 | 281=>337 | 282=>338 | 287=>355 | 316=>356 | 171=>273 | 205=>357 | 321=>369 | 322=>370 | 243=>295 | 246=>322 | 283=>345 | 284=>346 | 285=>347 | 286=>348 | 129=>321 | 317=>359 | 318=>360 | 319=>361 | 320=>362 | 337=>371 | 338=>372 | n=>n,fun | 9=>9 | 3=>3 | 75=>269 | 76=>270 | 4=>4 | 5=>5 | 167=>302 | 37=>146 | 0=>0 | 85=>303 | 2=>2 | 168=>305 | 53=>291 | 175=>321 | 46=>274 | 210=>325 | 127=>318 | 145=>340 | 143=>338 | 21=>21 | 171=>314 | 173=>316 | 212=>332 | 51=>289 | 20=>20 | 213=>333 | 232=>347 | 233=>348 | 80=>242 | n=>n,fun | 15=>1 | 16=>2 | 17=>3 | 18=>6 | 19=>7 | n=>n⟩
theorem al0:LaysC.n172 Tryz.prog amM where
 mixed:=by kernel_rfl
 f129:=Tryz.func321.trans (congrArg some (by kernel_rfl))
 f171:=Tryz.func273.trans (congrArg some (by kernel_rfl))
 f172:=Tryz.func289.trans (congrArg some (by kernel_rfl))
 f205:=Tryz.func357.trans (congrArg some (by kernel_rfl))
 f243:=Tryz.func295.trans (congrArg some (by kernel_rfl))
 f244:=Tryz.func307.trans (congrArg some (by kernel_rfl))
 f245:=Tryz.func308.trans (congrArg some (by kernel_rfl))
 f246:=Tryz.func322.trans (congrArg some (by kernel_rfl))
 f247:=Tryz.func334.trans (congrArg some (by kernel_rfl))
 f279:=Tryz.func335.trans (congrArg some (by kernel_rfl))
 f280:=Tryz.func336.trans (congrArg some (by kernel_rfl))
 f281:=Tryz.func337.trans (congrArg some (by kernel_rfl))
 f282:=Tryz.func338.trans (congrArg some (by kernel_rfl))
 f283:=Tryz.func345.trans (congrArg some (by kernel_rfl))
 f284:=Tryz.func346.trans (congrArg some (by kernel_rfl))
 f285:=Tryz.func347.trans (congrArg some (by kernel_rfl))
 f286:=Tryz.func348.trans (congrArg some (by kernel_rfl))
 f287:=Tryz.func355.trans (congrArg some (by kernel_rfl))
 f316:=Tryz.func356.trans (congrArg some (by kernel_rfl))
 f317:=Tryz.func359.trans (congrArg some (by kernel_rfl))
 f318:=Tryz.func360.trans (congrArg some (by kernel_rfl))
 f319:=Tryz.func361.trans (congrArg some (by kernel_rfl))
 f320:=Tryz.func362.trans (congrArg some (by kernel_rfl))
 f321:=Tryz.func369.trans (congrArg some (by kernel_rfl))
 f322:=Tryz.func370.trans (congrArg some (by kernel_rfl))
 f337:=Tryz.func371.trans (congrArg some (by kernel_rfl))
 f338:=Tryz.func372.trans (congrArg some (by kernel_rfl))
 t0:=Tryz.underlying0
 a0:=Tryz.isAgg0
 z0:=Tryz.sizeOf0
 v0:=Tryz.zeroValue0
 t2:=Tryz.underlying2
 a2:=Tryz.isAgg2
 z2:=Tryz.sizeOf2
 v2:=Tryz.zeroValue2
 t3:=Tryz.underlying3
 a3:=Tryz.isAgg3
 z3:=Tryz.sizeOf3
 v3:=Tryz.zeroValue3
 t4:=Tryz.underlying4
 a4:=Tryz.isAgg4
 z4:=Tryz.sizeOf4
 v4:=Tryz.zeroValue4
 t5:=Tryz.underlying5
 a5:=Tryz.isAgg5
 z5:=Tryz.sizeOf5
 v5:=Tryz.zeroValue5
 t9:=Tryz.underlying9
 a9:=Tryz.isAgg9
 z9:=Tryz.sizeOf9
 v9:=Tryz.zeroValue9
 t20:=Tryz.underlying20
 a20:=Tryz.isAgg20
 z20:=Tryz.sizeOf20
 v20:=Tryz.zeroValue20
 t21:=Tryz.underlying21
 a21:=Tryz.isAgg21
 z21:=Tryz.sizeOf21
 v21:=Tryz.zeroValue21
 t37:=Tryz.underlying146
 a37:=Tryz.isAgg146
 z37:=Tryz.sizeOf146
 v37:=Tryz.zeroValue146
 t46:=Tryz.underlying274
 a46:=Tryz.isAgg274
 z46:=Tryz.sizeOf274
 v46:=Tryz.zeroValue274
 t51:=Tryz.underlying289
 a51:=Tryz.isAgg289
 z51:=Tryz.sizeOf289
 v51:=Tryz.zeroValue289
 t53:=Tryz.underlying291
 a53:=Tryz.isAgg291
 z53:=Tryz.sizeOf291
 v53:=Tryz.zeroValue291
 t75:=Tryz.underlying269
 a75:=Tryz.isAgg269
 z75:=Tryz.sizeOf269
 v75:=Tryz.zeroValue269
 t76:=Tryz.underlying270
 a76:=Tryz.isAgg270
 z76:=Tryz.sizeOf270
 v76:=Tryz.zeroValue270
 t85:=Tryz.underlying303
 a85:=Tryz.isAgg303
 z85:=Tryz.sizeOf303
 v85:=Tryz.zeroValue303
 t127:=Tryz.underlying318
 a127:=Tryz.isAgg318
 z127:=Tryz.sizeOf318
 v127:=Tryz.zeroValue318
 t143:=Tryz.underlying338
 a143:=Tryz.isAgg338
 z143:=Tryz.sizeOf338
 v143:=Tryz.zeroValue338
 t145:=Tryz.underlying340
 a145:=Tryz.isAgg340
 z145:=Tryz.sizeOf340
 v145:=Tryz.zeroValue340
 t167:=Tryz.underlying302
 a167:=Tryz.isAgg302
 z167:=Tryz.sizeOf302
 v167:=Tryz.zeroValue302
 t168:=Tryz.underlying305
 a168:=Tryz.isAgg305
 z168:=Tryz.sizeOf305
 v168:=Tryz.zeroValue305
 t171:=Tryz.underlying314
 a171:=Tryz.isAgg314
 z171:=Tryz.sizeOf314
 v171:=Tryz.zeroValue314
 t173:=Tryz.underlying316
 a173:=Tryz.isAgg316
 z173:=Tryz.sizeOf316
 v173:=Tryz.zeroValue316
 t175:=Tryz.underlying321
 a175:=Tryz.isAgg321
 z175:=Tryz.sizeOf321
 v175:=Tryz.zeroValue321
 t210:=Tryz.underlying325
 a210:=Tryz.isAgg325
 z210:=Tryz.sizeOf325
 v210:=Tryz.zeroValue325
 t212:=Tryz.underlying332
 a212:=Tryz.isAgg332
 z212:=Tryz.sizeOf332
 v212:=Tryz.zeroValue332
 t213:=Tryz.underlying333
 a213:=Tryz.isAgg333
 z213:=Tryz.sizeOf333
 t232:=Tryz.underlying347
 a232:=Tryz.isAgg347
 z232:=Tryz.sizeOf347
 v232:=Tryz.zeroValue347
 t233:=Tryz.underlying348
 a233:=Tryz.isAgg348
 z233:=Tryz.sizeOf348
 v233:=Tryz.zeroValue348
 g15:=by kernel_rfl
 g16:=by kernel_rfl
 g17:=by kernel_rfl
 g18:=by kernel_rfl
 g19:=by kernel_rfl
 t80:=Tryz.underlying242
 a80:=Tryz.isAgg242
 z80:=Tryz.sizeOf242
 v80:=Tryz.zeroValue242
 i0:=by kernel_rfl
 i2:=by kernel_rfl
 i3:=by kernel_rfl
 i4:=by kernel_rfl
 i5:=by kernel_rfl
 i9:=by kernel_rfl
 i20:=by kernel_rfl
 i21:=by kernel_rfl
 i37:=by kernel_rfl
 i46:=by kernel_rfl
 i51:=by kernel_rfl
 i53:=by kernel_rfl
 i75:=by kernel_rfl
 i76:=by kernel_rfl
 i80:=by kernel_rfl
 i85:=by kernel_rfl
 i127:=by kernel_rfl
 i143:=by kernel_rfl
 i145:=by kernel_rfl
 i167:=by kernel_rfl
 i168:=by kernel_rfl
 i171:=by kernel_rfl
 i173:=by kernel_rfl
 i175:=by kernel_rfl
 i210:=by kernel_rfl
 i212:=by kernel_rfl
 i232:=by kernel_rfl
 i233:=by kernel_rfl
 m15:=by kernel_rfl
 m16:=by kernel_rfl
 m17:=by kernel_rfl
 m18:=by kernel_rfl
 m19:=by kernel_rfl
 c0:=by kernel_rfl
 c2:=by kernel_rfl
 c3:=by kernel_rfl
 c4:=by kernel_rfl
 c5:=by kernel_rfl
 c9:=by kernel_rfl
 c20:=by kernel_rfl
 c21:=by kernel_rfl
 c37:=by kernel_rfl
 c46:=by kernel_rfl
 c51:=by kernel_rfl
 c53:=by kernel_rfl
 c75:=by kernel_rfl
 c76:=by kernel_rfl
 c80:=by kernel_rfl
 c85:=by kernel_rfl
 c127:=by kernel_rfl
 c143:=by kernel_rfl
 c145:=by kernel_rfl
 c167:=by kernel_rfl
 c168:=by kernel_rfl
 c171:=by kernel_rfl
 c173:=by kernel_rfl
 c175:=by kernel_rfl
 c210:=by kernel_rfl
 c212:=by kernel_rfl
 c213:=by kernel_rfl
 c232:=by kernel_rfl
 c233:=by kernel_rfl
def amN:Go.Shelf.Ren:=⟨fun | 156=>296 | 165=>323 | 166=>324 | 169=>325 | 240=>349 | 241=>350 | 276=>363 | 277=>364 | n=>n,fun | 31=>104 | 9=>9 | 3=>3 | 4=>4 | 0=>0 | 20=>20 | 72=>295 | 76=>270 | 70=>293 | 37=>146 | 75=>269 | 127=>318 | 164=>334 | 5=>5 | 80=>242 | n=>n,fun n=>n⟩
theorem l156:Lays.n156 Tryz.prog amN where
 mixed:=by kernel_rfl
 f156:=Tryz.func296.trans (congrArg some (by kernel_rfl))
 f165:=Tryz.func323.trans (congrArg some (by kernel_rfl))
 f166:=Tryz.func324.trans (congrArg some (by kernel_rfl))
 f169:=Tryz.func325.trans (congrArg some (by kernel_rfl))
 f240:=Tryz.func349.trans (congrArg some (by kernel_rfl))
 f241:=Tryz.func350.trans (congrArg some (by kernel_rfl))
 f276:=Tryz.func363.trans (congrArg some (by kernel_rfl))
 f277:=Tryz.func364.trans (congrArg some (by kernel_rfl))
 t0:=Tryz.underlying0
 a0:=Tryz.isAgg0
 z0:=Tryz.sizeOf0
 v0:=Tryz.zeroValue0
 t3:=Tryz.underlying3
 a3:=Tryz.isAgg3
 z3:=Tryz.sizeOf3
 v3:=Tryz.zeroValue3
 t4:=Tryz.underlying4
 a4:=Tryz.isAgg4
 z4:=Tryz.sizeOf4
 v4:=Tryz.zeroValue4
 t9:=Tryz.underlying9
 a9:=Tryz.isAgg9
 z9:=Tryz.sizeOf9
 v9:=Tryz.zeroValue9
 t20:=Tryz.underlying20
 a20:=Tryz.isAgg20
 z20:=Tryz.sizeOf20
 v20:=Tryz.zeroValue20
 t31:=Tryz.underlying104
 a31:=Tryz.isAgg104
 z31:=Tryz.sizeOf104
 v31:=Tryz.zeroValue104
 t37:=Tryz.underlying146
 a37:=Tryz.isAgg146
 z37:=Tryz.sizeOf146
 v37:=Tryz.zeroValue146
 t70:=Tryz.underlying293
 a70:=Tryz.isAgg293
 z70:=Tryz.sizeOf293
 v70:=Tryz.zeroValue293
 t72:=Tryz.underlying295
 a72:=Tryz.isAgg295
 z72:=Tryz.sizeOf295
 v72:=Tryz.zeroValue295
 t75:=Tryz.underlying269
 a75:=Tryz.isAgg269
 z75:=Tryz.sizeOf269
 v75:=Tryz.zeroValue269
 t76:=Tryz.underlying270
 a76:=Tryz.isAgg270
 z76:=Tryz.sizeOf270
 v76:=Tryz.zeroValue270
 t127:=Tryz.underlying318
 a127:=Tryz.isAgg318
 z127:=Tryz.sizeOf318
 v127:=Tryz.zeroValue318
 t164:=Tryz.underlying334
 a164:=Tryz.isAgg334
 z164:=Tryz.sizeOf334
 v164:=Tryz.zeroValue334
theorem x156:Builder.Extra Tryz.prog amN where
 sizeBuilder:=by kernel_rfl
 liesBuilder:=by kernel_rfl
 t5:=Tryz.underlying5
 a5:=Tryz.isAgg5
 z5:=Tryz.sizeOf5
 v5:=Tryz.zeroValue5
 infoByte:=by kernel_rfl
 cellsByte:=by kernel_rfl
 sizeByte:=by kernel_rfl
 neB5:=by decide
def aqz:Go.Shelf.Ren:=⟨fun | 137=>265 | 217=>290 | 266=>309 | n=>n,fun | 9=>9 | 5=>5 | 3=>3 | n=>n,fun n=>n⟩
theorem l137:Lays.n137 Tryz.prog aqz where
 mixed:=by kernel_rfl
 f137:=Tryz.func265.trans (congrArg some (by kernel_rfl))
 f217:=Tryz.func290.trans (congrArg some (by kernel_rfl))
 f266:=Tryz.func309.trans (congrArg some (by kernel_rfl))
 t3:=Tryz.underlying3
 a3:=Tryz.isAgg3
 z3:=Tryz.sizeOf3
 v3:=Tryz.zeroValue3
 t5:=Tryz.underlying5
 a5:=Tryz.isAgg5
 z5:=Tryz.sizeOf5
 v5:=Tryz.zeroValue5
 t9:=Tryz.underlying9
 a9:=Tryz.isAgg9
 z9:=Tryz.sizeOf9
 v9:=Tryz.zeroValue9
def l99r:Go.Shelf.Ren:=⟨fun | 99=>267 | 206=>291 | n=>n,fun | 9=>9 | 4=>4 | 3=>3 | n=>n,fun n=>n⟩
theorem l99:Lays.n99 Tryz.prog l99r where
 mixed:=by kernel_rfl
 f99:=Tryz.func267.trans (congrArg some (by kernel_rfl))
 f206:=Tryz.func291.trans (congrArg some (by kernel_rfl))
 t3:=Tryz.underlying3
 a3:=Tryz.isAgg3
 z3:=Tryz.sizeOf3
 v3:=Tryz.zeroValue3
 t4:=Tryz.underlying4
 a4:=Tryz.isAgg4
 z4:=Tryz.sizeOf4
 v4:=Tryz.zeroValue4
 t9:=Tryz.underlying9
 a9:=Tryz.isAgg9
 z9:=Tryz.sizeOf9
 v9:=Tryz.zeroValue9
def aqx:Go.Shelf.Ren:=⟨fun | 192=>233 | 190=>272 | 125=>294 | 258=>293 | 128=>320 | 129=>321 | 302=>311 | 303=>312 | 304=>313 | 305=>314 | 306=>315 | 307=>316 | 308=>317 | 309=>318 | 310=>319 | 333=>339 | 329=>340 | 330=>341 | 334=>342 | 335=>343 | 336=>344 | 344=>358 | n=>n,fun | 31=>104 | 0=>0 | 9=>9 | 3=>3 | 46=>274 | 51=>289 | 53=>291 | 4=>4 | 183=>283 | 182=>282 | 131=>247 | 5=>5 | 218=>308 | 222=>312 | 228=>327 | 229=>328 | n=>n,fun n=>n⟩
theorem l192:Lays.n192 Tryz.prog aqx where
 mixed:=by kernel_rfl
 f125:=Tryz.func294.trans (congrArg some (by kernel_rfl))
 f128:=Tryz.func320.trans (congrArg some (by kernel_rfl))
 f129:=Tryz.func321.trans (congrArg some (by kernel_rfl))
 f190:=Tryz.func272.trans (congrArg some (by kernel_rfl))
 f192:=Tryz.func233.trans (congrArg some (by kernel_rfl))
 f258:=Tryz.func293.trans (congrArg some (by kernel_rfl))
 f302:=Tryz.func311.trans (congrArg some (by kernel_rfl))
 f303:=Tryz.func312.trans (congrArg some (by kernel_rfl))
 f304:=Tryz.func313.trans (congrArg some (by kernel_rfl))
 f305:=Tryz.func314.trans (congrArg some (by kernel_rfl))
 f306:=Tryz.func315.trans (congrArg some (by kernel_rfl))
 f307:=Tryz.func316.trans (congrArg some (by kernel_rfl))
 f308:=Tryz.func317.trans (congrArg some (by kernel_rfl))
 f309:=Tryz.func318.trans (congrArg some (by kernel_rfl))
 f310:=Tryz.func319.trans (congrArg some (by kernel_rfl))
 f329:=Tryz.func340.trans (congrArg some (by kernel_rfl))
 f330:=Tryz.func341.trans (congrArg some (by kernel_rfl))
 f333:=Tryz.func339.trans (congrArg some (by kernel_rfl))
 f334:=Tryz.func342.trans (congrArg some (by kernel_rfl))
 f335:=Tryz.func343.trans (congrArg some (by kernel_rfl))
 f336:=Tryz.func344.trans (congrArg some (by kernel_rfl))
 f344:=Tryz.func358.trans (congrArg some (by kernel_rfl))
 t0:=Tryz.underlying0
 a0:=Tryz.isAgg0
 z0:=Tryz.sizeOf0
 v0:=Tryz.zeroValue0
 t3:=Tryz.underlying3
 a3:=Tryz.isAgg3
 z3:=Tryz.sizeOf3
 v3:=Tryz.zeroValue3
 t4:=Tryz.underlying4
 a4:=Tryz.isAgg4
 z4:=Tryz.sizeOf4
 v4:=Tryz.zeroValue4
 t5:=Tryz.underlying5
 a5:=Tryz.isAgg5
 z5:=Tryz.sizeOf5
 v5:=Tryz.zeroValue5
 t9:=Tryz.underlying9
 a9:=Tryz.isAgg9
 z9:=Tryz.sizeOf9
 v9:=Tryz.zeroValue9
 t31:=Tryz.underlying104
 a31:=Tryz.isAgg104
 z31:=Tryz.sizeOf104
 v31:=Tryz.zeroValue104
 t46:=Tryz.underlying274
 a46:=Tryz.isAgg274
 z46:=Tryz.sizeOf274
 v46:=Tryz.zeroValue274
 t51:=Tryz.underlying289
 a51:=Tryz.isAgg289
 z51:=Tryz.sizeOf289
 v51:=Tryz.zeroValue289
 t53:=Tryz.underlying291
 a53:=Tryz.isAgg291
 z53:=Tryz.sizeOf291
 v53:=Tryz.zeroValue291
 t131:=Tryz.underlying247
 a131:=Tryz.isAgg247
 z131:=Tryz.sizeOf247
 v131:=Tryz.zeroValue247
 t182:=Tryz.underlying282
 a182:=Tryz.isAgg282
 z182:=Tryz.sizeOf282
 v182:=Tryz.zeroValue282
 t183:=Tryz.underlying283
 a183:=Tryz.isAgg283
 z183:=Tryz.sizeOf283
 v183:=Tryz.zeroValue283
 t218:=Tryz.underlying308
 a218:=Tryz.isAgg308
 z218:=Tryz.sizeOf308
 v218:=Tryz.zeroValue308
 t222:=Tryz.underlying312
 a222:=Tryz.isAgg312
 z222:=Tryz.sizeOf312
 v222:=Tryz.zeroValue312
 t228:=Tryz.underlying327
 a228:=Tryz.isAgg327
 z228:=Tryz.sizeOf327
 v228:=Tryz.zeroValue327
 t229:=Tryz.underlying328
 a229:=Tryz.isAgg328
 z229:=Tryz.sizeOf328
 v229:=Tryz.zeroValue328
def ajP:Go.Shelf.Ren:=⟨fun | 146=>275 | 221=>297 | 268=>326 | 138=>327 | 143=>328 | 195=>351 | 197=>352 | 218=>353 | 219=>354 | 260=>365 | 217=>290 | 225=>366 | 224=>367 | 267=>368 | 266=>309 | 314=>373 | n=>n,fun | 9=>9 | 31=>104 | 3=>3 | 4=>4 | 0=>0 | 105=>319 | 21=>21 | 5=>5 | 46=>274 | 119=>341 | 139=>344 | 138=>343 | 146=>345 | 51=>289 | n=>n,fun | 1=>0 | 3=>4 | 4=>5 | n=>n⟩
theorem l146:Lays.n146 Tryz.prog ajP where
 mixed:=by kernel_rfl
 f138:=Tryz.func327.trans (congrArg some (by kernel_rfl))
 f143:=Tryz.func328.trans (congrArg some (by kernel_rfl))
 f146:=Tryz.func275.trans (congrArg some (by kernel_rfl))
 f195:=Tryz.func351.trans (congrArg some (by kernel_rfl))
 f197:=Tryz.func352.trans (congrArg some (by kernel_rfl))
 f217:=Tryz.func290.trans (congrArg some (by kernel_rfl))
 f218:=Tryz.func353.trans (congrArg some (by kernel_rfl))
 f219:=Tryz.func354.trans (congrArg some (by kernel_rfl))
 f221:=Tryz.func297.trans (congrArg some (by kernel_rfl))
 f224:=Tryz.func367.trans (congrArg some (by kernel_rfl))
 f225:=Tryz.func366.trans (congrArg some (by kernel_rfl))
 f260:=Tryz.func365.trans (congrArg some (by kernel_rfl))
 f266:=Tryz.func309.trans (congrArg some (by kernel_rfl))
 f267:=Tryz.func368.trans (congrArg some (by kernel_rfl))
 f268:=Tryz.func326.trans (congrArg some (by kernel_rfl))
 f314:=Tryz.func373.trans (congrArg some (by kernel_rfl))
 t0:=Tryz.underlying0
 a0:=Tryz.isAgg0
 z0:=Tryz.sizeOf0
 v0:=Tryz.zeroValue0
 t3:=Tryz.underlying3
 a3:=Tryz.isAgg3
 z3:=Tryz.sizeOf3
 v3:=Tryz.zeroValue3
 t4:=Tryz.underlying4
 a4:=Tryz.isAgg4
 z4:=Tryz.sizeOf4
 v4:=Tryz.zeroValue4
 t5:=Tryz.underlying5
 a5:=Tryz.isAgg5
 z5:=Tryz.sizeOf5
 v5:=Tryz.zeroValue5
 t9:=Tryz.underlying9
 a9:=Tryz.isAgg9
 z9:=Tryz.sizeOf9
 v9:=Tryz.zeroValue9
 t21:=Tryz.underlying21
 a21:=Tryz.isAgg21
 z21:=Tryz.sizeOf21
 v21:=Tryz.zeroValue21
 t31:=Tryz.underlying104
 a31:=Tryz.isAgg104
 z31:=Tryz.sizeOf104
 v31:=Tryz.zeroValue104
 t46:=Tryz.underlying274
 a46:=Tryz.isAgg274
 z46:=Tryz.sizeOf274
 v46:=Tryz.zeroValue274
 t51:=Tryz.underlying289
 a51:=Tryz.isAgg289
 z51:=Tryz.sizeOf289
 v51:=Tryz.zeroValue289
 t105:=Tryz.underlying319
 a105:=Tryz.isAgg319
 z105:=Tryz.sizeOf319
 v105:=Tryz.zeroValue319
 t119:=Tryz.underlying341
 a119:=Tryz.isAgg341
 z119:=Tryz.sizeOf341
 t138:=Tryz.underlying343
 a138:=Tryz.isAgg343
 z138:=Tryz.sizeOf343
 v138:=Tryz.zeroValue343
 t139:=Tryz.underlying344
 a139:=Tryz.isAgg344
 z139:=Tryz.sizeOf344
 v139:=Tryz.zeroValue344
 t146:=Tryz.underlying345
 a146:=Tryz.isAgg345
 z146:=Tryz.sizeOf345
 v146:=Tryz.zeroValue345
 g1:=by kernel_rfl
 g3:=by kernel_rfl
 g4:=by kernel_rfl
end Go.Proofs.YtbbmkcioplbhbaaGreatDoor
/- The library's functions as contracts at this program; the integer of a range with a text. -/
namespace Go.Proofs.YtbbmkcioplbhbaaGreatDoor
open Go.Abs Go.Proofs Go.Shelf Go.RowKit Go.Lib Go.Sort
theorem UB:Sound Tryz.prog ahg:=aee l171 (fun w h=>h.tab)
theorem GH:Sound Tryz.prog Q7:=Oa l99
theorem Gz:Sound Tryz.prog Q5:=NQ l137
theorem UA:Sound Tryz.prog ahf:=aed l156 x156
theorem Yv (w : World) (h : amb w) : ∃ m, w.cell? ⟨(ajP.g 1), 0, none⟩ = some (.int .i64 m) := by have e : (Tryz.prog.globalNamed "internal/bytealg.MaxLen").getD 0 = ajP.g 1 := by { kernel_rfl }; have q := h.ap0; rw [e] at q; exact q
theorem QZ:Sound Tryz.prog ad4:=ZU l146 (by kernel_rfl) Yv
theorem xU:callable Tryz.prog pW.fid=true:=by kernel_rfl
theorem Ba:LJ Tryz.prog pW:=Ia l192
theorem acu(w:World)(e:TypeId)(t:ByteArray):Below w.heap.size w (Go.Lib.bytesWorld w e t):=by
 refine⟨rfl,rfl,rfl,?_,fun k a=>?_⟩
 ·simp[Go.Lib.bytesWorld,World.freeze,World.alloc]
 ·unfold Go.Lib.bytesWorld World.freeze;show ((w.drew.alloc _).heap.modify w.heap.size _)[k]?=_
  rw[Array.getElem?_modify,if_neg (by omega)];exact Below.heap_alloc w.drew _ _ a
def ZE(s:Str)(e:Ending):Prop:=match Go.Lib.atoiAll s with
 | .ok v=>e=.returned (.tuple #[.int .i64 v,.nilIface])
 | _=>∃n t p,e=.returned (.tuple #[.int .i64 n,.iface t p])
theorem ak1(s:Str)(i:s.length<=34359738368)(w:World)(d:amb w) :
  Calls Tryz.prog (amM.f 172) #[.string ⟨s.toArray⟩] w fun e w'=>ZE s e/\Below w.heap.size w w':=by
 have a:(⟨s.toArray⟩:ByteArray).size=s.length:=by show s.toArray.size=_;simp
 have g:(⟨s.toArray⟩:ByteArray).data.toList=s:=rfl;unfold ZE;cases h:Go.Lib.atoiAll s with
 | ok v=>
  refine (Any.strconv_Atoi_ok al0 ⟨s.toArray⟩ (by rw[a];omega) v h w).mono ?_;rintro e w' ⟨rfl,b | ⟨t,b⟩⟩
  ·subst b;exact⟨rfl,Below.refl _ _⟩
  ·subst b;exact⟨rfl,acu _ _ _⟩
 | range=>
  obtain⟨tp,p,hv⟩:=d.2.2.2;refine (Any.strconv_Atoi_range_var al0 ⟨s.toArray⟩ (by rw[a];omega) h tp p w hv).mono ?_;rintro e w' ⟨N,rfl,_,_,c⟩;exact⟨⟨_,_,_,rfl⟩,c⟩
 | _=>
  obtain⟨tp,p,hv⟩:=d.2.2.1;refine (Any.strconv_Atoi_syntax_var al0 ⟨s.toArray⟩ (by rw[a];omega) h tp p w hv).mono ?_;rintro e w' ⟨N,rfl,_,_,c⟩;exact⟨⟨_,_,_,rfl⟩,c⟩
theorem Tt{s:Str}{v:Int}(h:Go.Lib.atoiAll s=.ok v):-9223372036854775808<=v/\v<=9223372036854775807:=by
 unfold Go.Lib.atoiAll at h;split at h
 ·cases h
 ·simp only at h;split at h
  ·cases h
  ·cases h
  ·split at h
   ·cases h
   ·split at h
    ·cases h
    ·rename_i u _ h1 h2;cases h
     split<;>omega
def TF(s:Str)(lo hi:Int)(e:Ending):Prop:=∃r,qR s lo hi=some r/\e=.returned (.tuple #[.int .i64 r.1,.bool r.2])
theorem ag2{s:Str}{lo hi v:Int}(b:s.length<=34359738368)(h:Go.Lib.atoiAll s=.ok v)(h1:lo<=v)(h2:v<=hi)(c:Go.Lib.itoa v=s):TF s lo hi (.returned (.tuple #[.int .i64 v,.bool true])):=by
 refine⟨(v,true),?_,rfl⟩;have a:gd s.length=some ():=by unfold gd;simp[b]
 unfold qR;rw[a,h];simp only[zA];rw[if_neg];rintro (q | q | q)
 ·omega
 ·omega
 ·exact q c
theorem Cc{s:Str}{lo hi:Int}(b:s.length<=34359738368)(h:∀v,Go.Lib.atoiAll s=.ok v->v<lo\/hi<v\/Go.Lib.itoa v≠s):TF s lo hi (.returned (.tuple #[.int .i64 0,.bool false])):=by
 refine⟨(0,false),?_,rfl⟩;have a:gd s.length=some ():=by unfold gd;simp[b]
 unfold qR;rw[a];simp only[zA];cases hv:Go.Lib.atoiAll s with
 | ok v=>simp only;rw[if_pos (h v hv)]
 | range=>rfl
 | _=>rfl
set_option maxHeartbeats 4000000 in
set_option maxRecDepth 100000 in
theorem adL(s:Str)(lo hi:Int)(f:s.length<=34359738368)(w:World)(j:amb w) :
  Calls Tryz.prog 264 #[.string ⟨s.toArray⟩,.int .i64 lo,.int .i64 hi] w fun e w'=>TF s lo hi e/\Below w.heap.size w w':=by
 have mixed:=al0.mixed;have b:=ak1 s f w j;have m:gd s.length=some ():=by unfold gd;simp[f]
 unfold ZE at b;cases h:Go.Lib.atoiAll s with
 | ok v=>
  rw[h]at b;simp only at b;go_enter Tryz.func264,Tryz.ntmps264
  go_wp2_with (first | (go_at_call 289;refine b.mono ?_;rintro e g ⟨rfl,d⟩;have l:=amb.keep j d.size fun k o=>d.block k (aE o j.size);have HB:Hid (Below w.heap.size w g):=d;clear d) | (go_at_call 273;refine (Any.strconv_Itoa l171 v (Tt h).1 (Tt h).2 _ l.tab).mono ?_;rintro e r ⟨rfl,k,os,rfl⟩))
  all_goals go_ret2
  ·rename_i k os c;refine⟨Cc f fun v' a=>?_,HB.out.trans ((below_grow g k os).mono HB.out.size)⟩;have e:v'=v:=by rw[h]at a;cases a;rfl
   subst e;rcases c with c | c
   ·exact c.elim .inl fun q=>.inr (.inl q)
   ·exact .inr (.inr (by simpa using c))
  ·rename_i k os c;exact⟨ag2 f h c.1.1 c.1.2 (by simpa using c.2),HB.out.trans ((below_grow g k os).mono HB.out.size)⟩
  ·rename_i i;refine⟨Cc f fun v' a=>?_,HB.out⟩;rw[h]at a;cases a;exact .inr (.inl i)
  ·rename_i i;refine⟨Cc f fun v' a=>?_,HB.out⟩;rw[h]at a;cases a;exact .inl i
 | range=>
  rw[h]at b;simp only at b;go_enter Tryz.func264,Tryz.ntmps264
  go_wp2_with (go_at_call 289;refine b.mono ?_;rintro e g ⟨⟨n,t,p,rfl⟩,d⟩;have HB:Hid (Below w.heap.size w g):=d;clear d)
  all_goals go_ret2
  exact⟨Cc f fun v' a=>(by rw[h]at a;cases a),HB.out⟩
 | _=>
  rw[h]at b;simp only at b;go_enter Tryz.func264,Tryz.ntmps264
  go_wp2_with (go_at_call 289;refine b.mono ?_;rintro e g ⟨⟨n,t,p,rfl⟩,d⟩;have HB:Hid (Below w.heap.size w g):=d;clear d)
  all_goals go_ret2
  exact⟨Cc f fun v' a=>(by rw[h]at a;cases a),HB.out⟩
theorem YM:Sound Tryz.prog akd:=by
 intro w S args x y h d a m;rcases args with _ | ⟨u,_ | ⟨f,_ | ⟨i,_ | ⟨n,r⟩⟩⟩⟩
 ·exact a.elim
 ·exact a.2.elim
 ·exact a.2.2.elim
 ·have j:=lS (show Rep w S (.str x.1) u from a.1.1);have b:=vO (show Rep w S (.int .i64 x.2.1) f from a.2.1.1);have c:=vO (show Rep w S (.int .i64 x.2.2) i from a.2.2.1);subst j;subst b;subst c;have h:qR x.1 x.2.1 x.2.2=some y:=h;have k:List.length x.1<=34359738368:=by
   unfold qR at h;obtain⟨_,g,_⟩:=zB.1 h;exact ji g
  refine (adL x.1 x.2.1 x.2.2 k w d).mono ?_;rintro e w' ⟨⟨r,a,rfl⟩,l⟩;rw[h]at a;cases a
  exact⟨_,rfl,l,Uk _ _⟩
 ·exact a.2.2.elim
end Go.Proofs.YtbbmkcioplbhbaaGreatDoor
