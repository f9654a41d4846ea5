import Derived.Test.YtkebfkahdmddpaaGreatDoorProg
import Derived.Shelf.Strconv.Itoa3
import Derived.Shelf.Strconv.ErrVarAll
import Derived.Shelf.Strings.OnBuilder
import Derived.Shelf.Small.Strs
import Derived.Shelf.Strings.Prefix
import Derived.Shelf.Sort.Plain
import Derived.Shelf.Slices.In.SortNone2
import Derived.Shelf.Strings.Split
import Derived.KernelRfl
import Derived.Test.YtkebfkahdmddpaaGreatDoorMk
import Derived.Test.YtkebfkahdmddpaaGreatDoorBat3
set_option linter.unusedSimpArgs false
set_option linter.unusedVariables false
/- Functions of the library, by this program's numbers. -/
namespace Go.Proofs.YtkebfkahdmddpaaGreatDoor
open Go.Proofs Go.Shelf Go.RowKit Go.Lib Go.Sort
def aja:Go.Shelf.Ren:=⟨fun | 171=>158 | 243=>189 | 246=>205 | 283=>230 | 284=>231 | 285=>232 | 286=>233 | 129=>229 | 317=>254 | 318=>255 | 319=>256 | 320=>257 | 337=>265 | 338=>266 | n=>n,fun | 3=>3 | 9=>9 | 2=>2 | 4=>4 | 171=>201 | 0=>0 | 53=>200 | 37=>22 | 5=>5 | 173=>203 | 212=>222 | 51=>198 | 20=>20 | 213=>223 | 46=>129 | 232=>246 | 233=>247 | n=>n,fun | 17=>1 | 18=>6 | 19=>7 | n=>n⟩
theorem l171:LaysM.n171 Tryz.prog aja where
 mixed:=by kernel_rfl
 f129:=Tryz.func229.trans (congrArg some (by kernel_rfl))
 f171:=Tryz.func158.trans (congrArg some (by kernel_rfl))
 f243:=Tryz.func189.trans (congrArg some (by kernel_rfl))
 f246:=Tryz.func205.trans (congrArg some (by kernel_rfl))
 f283:=Tryz.func230.trans (congrArg some (by kernel_rfl))
 f284:=Tryz.func231.trans (congrArg some (by kernel_rfl))
 f285:=Tryz.func232.trans (congrArg some (by kernel_rfl))
 f286:=Tryz.func233.trans (congrArg some (by kernel_rfl))
 f317:=Tryz.func254.trans (congrArg some (by kernel_rfl))
 f318:=Tryz.func255.trans (congrArg some (by kernel_rfl))
 f319:=Tryz.func256.trans (congrArg some (by kernel_rfl))
 f320:=Tryz.func257.trans (congrArg some (by kernel_rfl))
 f337:=Tryz.func265.trans (congrArg some (by kernel_rfl))
 f338:=Tryz.func266.trans (congrArg some (by kernel_rfl))
 t0:=Tryz.underlying0
 a0:=Tryz.isAgg0
 z0:=Tryz.sizeOf0
 v0:=Tryz.zeroValue0
 t2:=Tryz.underlying2
 a2:=Tryz.isAgg2
 z2:=Tryz.sizeOf2
 v2:=Tryz.zeroValue2
 t3:=Tryz.underlying3
 a3:=Tryz.isAgg3
 z3:=Tryz.sizeOf3
 v3:=Tryz.zeroValue3
 t4:=Tryz.underlying4
 a4:=Tryz.isAgg4
 z4:=Tryz.sizeOf4
 v4:=Tryz.zeroValue4
 t5:=Tryz.underlying5
 a5:=Tryz.isAgg5
 z5:=Tryz.sizeOf5
 v5:=Tryz.zeroValue5
 t9:=Tryz.underlying9
 a9:=Tryz.isAgg9
 z9:=Tryz.sizeOf9
 v9:=Tryz.zeroValue9
 t20:=Tryz.underlying20
 a20:=Tryz.isAgg20
 z20:=Tryz.sizeOf20
 v20:=Tryz.zeroValue20
 t37:=Tryz.underlying22
 a37:=Tryz.isAgg22
 z37:=Tryz.sizeOf22
 v37:=Tryz.zeroValue22
 t46:=Tryz.underlying129
 a46:=Tryz.isAgg129
 z46:=Tryz.sizeOf129
 v46:=Tryz.zeroValue129
 t51:=Tryz.underlying198
 a51:=Tryz.isAgg198
 z51:=Tryz.sizeOf198
 v51:=Tryz.zeroValue198
 t53:=Tryz.underlying200
 a53:=Tryz.isAgg200
 z53:=Tryz.sizeOf200
 v53:=Tryz.zeroValue200
 t171:=Tryz.underlying201
 a171:=Tryz.isAgg201
 z171:=Tryz.sizeOf201
 v171:=Tryz.zeroValue201
 t173:=Tryz.underlying203
 a173:=Tryz.isAgg203
 z173:=Tryz.sizeOf203
 v173:=Tryz.zeroValue203
 t212:=Tryz.underlying222
 a212:=Tryz.isAgg222
 z212:=Tryz.sizeOf222
 v212:=Tryz.zeroValue222
 t213:=Tryz.underlying223
 a213:=Tryz.isAgg223
 z213:=Tryz.sizeOf223
 t232:=Tryz.underlying246
 a232:=Tryz.isAgg246
 z232:=Tryz.sizeOf246
 v232:=Tryz.zeroValue246
 t233:=Tryz.underlying247
 a233:=Tryz.isAgg247
 z233:=Tryz.sizeOf247
 v233:=Tryz.zeroValue247
 g17:=by kernel_rfl
 g18:=by kernel_rfl
 g19:=by kernel_rfl
 i0:=by kernel_rfl
 i2:=by kernel_rfl
 i3:=by kernel_rfl
 i4:=by kernel_rfl
 i5:=by kernel_rfl
 i9:=by kernel_rfl
 i20:=by kernel_rfl
 i37:=by kernel_rfl
 i46:=by kernel_rfl
 i51:=by kernel_rfl
 i53:=by kernel_rfl
 i171:=by kernel_rfl
 i173:=by kernel_rfl
 i212:=by kernel_rfl
 i232:=by kernel_rfl
 i233:=by kernel_rfl
 m17:=by kernel_rfl
 m18:=by kernel_rfl
 m19:=by kernel_rfl
def agT:Go.Shelf.Ren:=⟨fun | 172=>201 | 244=>217 | 245=>218 | 247=>243 | 279=>244 | 280=>245 | 281=>246 | 282=>247 | 287=>261 | 316=>262 | 171=>158 | 205=>263 | 321=>267 | 322=>268 | 243=>189 | 246=>205 | 283=>230 | 284=>231 | 285=>232 | 286=>233 | 129=>229 | 317=>254 | 318=>255 | 319=>256 | 320=>257 | 337=>265 | 338=>266 | n=>n,fun | 9=>9 | 3=>3 | 75=>177 | 76=>178 | 4=>4 | 5=>5 | 167=>209 | 37=>22 | 0=>0 | 85=>210 | 2=>2 | 168=>212 | 53=>200 | 175=>233 | 46=>129 | 210=>237 | 127=>205 | 145=>245 | 143=>243 | 21=>21 | 171=>201 | 173=>203 | 212=>222 | 51=>198 | 20=>20 | 213=>223 | 232=>246 | 233=>247 | 80=>167 | n=>n,fun | 15=>4 | 16=>5 | 17=>1 | 18=>6 | 19=>7 | n=>n⟩
theorem af9:LaysC.n172 Tryz.prog agT where
 mixed:=by kernel_rfl
 f129:=Tryz.func229.trans (congrArg some (by kernel_rfl))
 f171:=Tryz.func158.trans (congrArg some (by kernel_rfl))
 f172:=Tryz.func201.trans (congrArg some (by kernel_rfl))
 f205:=Tryz.func263.trans (congrArg some (by kernel_rfl))
 f243:=Tryz.func189.trans (congrArg some (by kernel_rfl))
 f244:=Tryz.func217.trans (congrArg some (by kernel_rfl))
 f245:=Tryz.func218.trans (congrArg some (by kernel_rfl))
 f246:=Tryz.func205.trans (congrArg some (by kernel_rfl))
 f247:=Tryz.func243.trans (congrArg some (by kernel_rfl))
 f279:=Tryz.func244.trans (congrArg some (by kernel_rfl))
 f280:=Tryz.func245.trans (congrArg some (by kernel_rfl))
 f281:=Tryz.func246.trans (congrArg some (by kernel_rfl))
 f282:=Tryz.func247.trans (congrArg some (by kernel_rfl))
 f283:=Tryz.func230.trans (congrArg some (by kernel_rfl))
 f284:=Tryz.func231.trans (congrArg some (by kernel_rfl))
 f285:=Tryz.func232.trans (congrArg some (by kernel_rfl))
 f286:=Tryz.func233.trans (congrArg some (by kernel_rfl))
 f287:=Tryz.func261.trans (congrArg some (by kernel_rfl))
 f316:=Tryz.func262.trans (congrArg some (by kernel_rfl))
 f317:=Tryz.func254.trans (congrArg some (by kernel_rfl))
 f318:=Tryz.func255.trans (congrArg some (by kernel_rfl))
 f319:=Tryz.func256.trans (congrArg some (by kernel_rfl))
 f320:=Tryz.func257.trans (congrArg some (by kernel_rfl))
 f321:=Tryz.func267.trans (congrArg some (by kernel_rfl))
 f322:=Tryz.func268.trans (congrArg some (by kernel_rfl))
 f337:=Tryz.func265.trans (congrArg some (by kernel_rfl))
 f338:=Tryz.func266.trans (congrArg some (by kernel_rfl))
 t0:=Tryz.underlying0
 a0:=Tryz.isAgg0
 z0:=Tryz.sizeOf0
 v0:=Tryz.zeroValue0
 t2:=Tryz.underlying2
 a2:=Tryz.isAgg2
 z2:=Tryz.sizeOf2
 v2:=Tryz.zeroValue2
 t3:=Tryz.underlying3
 a3:=Tryz.isAgg3
 z3:=Tryz.sizeOf3
 v3:=Tryz.zeroValue3
 t4:=Tryz.underlying4
 a4:=Tryz.isAgg4
 z4:=Tryz.sizeOf4
 v4:=Tryz.zeroValue4
 t5:=Tryz.underlying5
 a5:=Tryz.isAgg5
 z5:=Tryz.sizeOf5
 v5:=Tryz.zeroValue5
 t9:=Tryz.underlying9
 a9:=Tryz.isAgg9
 z9:=Tryz.sizeOf9
 v9:=Tryz.zeroValue9
 t20:=Tryz.underlying20
 a20:=Tryz.isAgg20
 z20:=Tryz.sizeOf20
 v20:=Tryz.zeroValue20
 t21:=Tryz.underlying21
 a21:=Tryz.isAgg21
 z21:=Tryz.sizeOf21
 v21:=Tryz.zeroValue21
 t37:=Tryz.underlying22
 a37:=Tryz.isAgg22
 z37:=Tryz.sizeOf22
 v37:=Tryz.zeroValue22
 t46:=Tryz.underlying129
 a46:=Tryz.isAgg129
 z46:=Tryz.sizeOf129
 v46:=Tryz.zeroValue129
 t51:=Tryz.underlying198
 a51:=Tryz.isAgg198
 z51:=Tryz.sizeOf198
 v51:=Tryz.zeroValue198
 t53:=Tryz.underlying200
 a53:=Tryz.isAgg200
 z53:=Tryz.sizeOf200
 v53:=Tryz.zeroValue200
 t75:=Tryz.underlying177
 a75:=Tryz.isAgg177
 z75:=Tryz.sizeOf177
 v75:=Tryz.zeroValue177
 t76:=Tryz.underlying178
 a76:=Tryz.isAgg178
 z76:=Tryz.sizeOf178
 v76:=Tryz.zeroValue178
 t85:=Tryz.underlying210
 a85:=Tryz.isAgg210
 z85:=Tryz.sizeOf210
 v85:=Tryz.zeroValue210
 t127:=Tryz.underlying205
 a127:=Tryz.isAgg205
 z127:=Tryz.sizeOf205
 v127:=Tryz.zeroValue205
 t143:=Tryz.underlying243
 a143:=Tryz.isAgg243
 z143:=Tryz.sizeOf243
 v143:=Tryz.zeroValue243
 t145:=Tryz.underlying245
 a145:=Tryz.isAgg245
 z145:=Tryz.sizeOf245
 v145:=Tryz.zeroValue245
 t167:=Tryz.underlying209
 a167:=Tryz.isAgg209
 z167:=Tryz.sizeOf209
 v167:=Tryz.zeroValue209
 t168:=Tryz.underlying212
 a168:=Tryz.isAgg212
 z168:=Tryz.sizeOf212
 v168:=Tryz.zeroValue212
 t171:=Tryz.underlying201
 a171:=Tryz.isAgg201
 z171:=Tryz.sizeOf201
 v171:=Tryz.zeroValue201
 t173:=Tryz.underlying203
 a173:=Tryz.isAgg203
 z173:=Tryz.sizeOf203
 v173:=Tryz.zeroValue203
 t175:=Tryz.underlying233
 a175:=Tryz.isAgg233
 z175:=Tryz.sizeOf233
 v175:=Tryz.zeroValue233
 t210:=Tryz.underlying237
 a210:=Tryz.isAgg237
 z210:=Tryz.sizeOf237
 v210:=Tryz.zeroValue237
 t212:=Tryz.underlying222
 a212:=Tryz.isAgg222
 z212:=Tryz.sizeOf222
 v212:=Tryz.zeroValue222
 t213:=Tryz.underlying223
 a213:=Tryz.isAgg223
 z213:=Tryz.sizeOf223
 t232:=Tryz.underlying246
 a232:=Tryz.isAgg246
 z232:=Tryz.sizeOf246
 v232:=Tryz.zeroValue246
 t233:=Tryz.underlying247
 a233:=Tryz.isAgg247
 z233:=Tryz.sizeOf247
 v233:=Tryz.zeroValue247
 g15:=by kernel_rfl
 g16:=by kernel_rfl
 g17:=by kernel_rfl
 g18:=by kernel_rfl
 g19:=by kernel_rfl
 t80:=Tryz.underlying167
 a80:=Tryz.isAgg167
 z80:=Tryz.sizeOf167
 v80:=Tryz.zeroValue167
 i0:=by kernel_rfl
 i2:=by kernel_rfl
 i3:=by kernel_rfl
 i4:=by kernel_rfl
 i5:=by kernel_rfl
 i9:=by kernel_rfl
 i20:=by kernel_rfl
 i21:=by kernel_rfl
 i37:=by kernel_rfl
 i46:=by kernel_rfl
 i51:=by kernel_rfl
 i53:=by kernel_rfl
 i75:=by kernel_rfl
 i76:=by kernel_rfl
 i80:=by kernel_rfl
 i85:=by kernel_rfl
 i127:=by kernel_rfl
 i143:=by kernel_rfl
 i145:=by kernel_rfl
 i167:=by kernel_rfl
 i168:=by kernel_rfl
 i171:=by kernel_rfl
 i173:=by kernel_rfl
 i175:=by kernel_rfl
 i210:=by kernel_rfl
 i212:=by kernel_rfl
 i232:=by kernel_rfl
 i233:=by kernel_rfl
 m15:=by kernel_rfl
 m16:=by kernel_rfl
 m17:=by kernel_rfl
 m18:=by kernel_rfl
 m19:=by kernel_rfl
 c0:=by kernel_rfl
 c2:=by kernel_rfl
 c3:=by kernel_rfl
 c4:=by kernel_rfl
 c5:=by kernel_rfl
 c9:=by kernel_rfl
 c20:=by kernel_rfl
 c21:=by kernel_rfl
 c37:=by kernel_rfl
 c46:=by kernel_rfl
 c51:=by kernel_rfl
 c53:=by kernel_rfl
 c75:=by kernel_rfl
 c76:=by kernel_rfl
 c80:=by kernel_rfl
 c85:=by kernel_rfl
 c127:=by kernel_rfl
 c143:=by kernel_rfl
 c145:=by kernel_rfl
 c167:=by kernel_rfl
 c168:=by kernel_rfl
 c171:=by kernel_rfl
 c173:=by kernel_rfl
 c175:=by kernel_rfl
 c210:=by kernel_rfl
 c212:=by kernel_rfl
 c213:=by kernel_rfl
 c232:=by kernel_rfl
 c233:=by kernel_rfl
def agU:Go.Shelf.Ren:=⟨fun | 156=>190 | 165=>206 | 166=>207 | 169=>208 | 240=>234 | 241=>235 | 276=>258 | 277=>259 | n=>n,fun | 31=>33 | 9=>9 | 3=>3 | 4=>4 | 0=>0 | 20=>20 | 72=>185 | 76=>178 | 70=>183 | 37=>22 | 75=>177 | 127=>205 | 164=>224 | 5=>5 | 80=>167 | n=>n,fun n=>n⟩
theorem l156:Lays.n156 Tryz.prog agU where
 mixed:=by kernel_rfl
 f156:=Tryz.func190.trans (congrArg some (by kernel_rfl))
 f165:=Tryz.func206.trans (congrArg some (by kernel_rfl))
 f166:=Tryz.func207.trans (congrArg some (by kernel_rfl))
 f169:=Tryz.func208.trans (congrArg some (by kernel_rfl))
 f240:=Tryz.func234.trans (congrArg some (by kernel_rfl))
 f241:=Tryz.func235.trans (congrArg some (by kernel_rfl))
 f276:=Tryz.func258.trans (congrArg some (by kernel_rfl))
 f277:=Tryz.func259.trans (congrArg some (by kernel_rfl))
 t0:=Tryz.underlying0
 a0:=Tryz.isAgg0
 z0:=Tryz.sizeOf0
 v0:=Tryz.zeroValue0
 t3:=Tryz.underlying3
 a3:=Tryz.isAgg3
 z3:=Tryz.sizeOf3
 v3:=Tryz.zeroValue3
 t4:=Tryz.underlying4
 a4:=Tryz.isAgg4
 z4:=Tryz.sizeOf4
 v4:=Tryz.zeroValue4
 t9:=Tryz.underlying9
 a9:=Tryz.isAgg9
 z9:=Tryz.sizeOf9
 v9:=Tryz.zeroValue9
 t20:=Tryz.underlying20
 a20:=Tryz.isAgg20
 z20:=Tryz.sizeOf20
 v20:=Tryz.zeroValue20
 t31:=Tryz.underlying33
 a31:=Tryz.isAgg33
 z31:=Tryz.sizeOf33
 v31:=Tryz.zeroValue33
 t37:=Tryz.underlying22
 a37:=Tryz.isAgg22
 z37:=Tryz.sizeOf22
 v37:=Tryz.zeroValue22
 t70:=Tryz.underlying183
 a70:=Tryz.isAgg183
 z70:=Tryz.sizeOf183
 v70:=Tryz.zeroValue183
 t72:=Tryz.underlying185
 a72:=Tryz.isAgg185
 z72:=Tryz.sizeOf185
 v72:=Tryz.zeroValue185
 t75:=Tryz.underlying177
 a75:=Tryz.isAgg177
 z75:=Tryz.sizeOf177
 v75:=Tryz.zeroValue177
 t76:=Tryz.underlying178
 a76:=Tryz.isAgg178
 z76:=Tryz.sizeOf178
 v76:=Tryz.zeroValue178
 t127:=Tryz.underlying205
 a127:=Tryz.isAgg205
 z127:=Tryz.sizeOf205
 v127:=Tryz.zeroValue205
 t164:=Tryz.underlying224
 a164:=Tryz.isAgg224
 z164:=Tryz.sizeOf224
 v164:=Tryz.zeroValue224
theorem x156:Builder.Extra Tryz.prog agU where
 sizeBuilder:=by kernel_rfl
 liesBuilder:=by kernel_rfl
 t5:=Tryz.underlying5
 a5:=Tryz.isAgg5
 z5:=Tryz.sizeOf5
 v5:=Tryz.zeroValue5
 infoByte:=by kernel_rfl
 cellsByte:=by kernel_rfl
 sizeByte:=by kernel_rfl
 neB5:=by decide
def ajb:Go.Shelf.Ren:=⟨fun | 137=>193 | 217=>210 | 266=>237 | n=>n,fun | 9=>9 | 5=>5 | 3=>3 | n=>n,fun n=>n⟩
theorem l137:Lays.n137 Tryz.prog ajb where
 mixed:=by kernel_rfl
 f137:=Tryz.func193.trans (congrArg some (by kernel_rfl))
 f217:=Tryz.func210.trans (congrArg some (by kernel_rfl))
 f266:=Tryz.func237.trans (congrArg some (by kernel_rfl))
 t3:=Tryz.underlying3
 a3:=Tryz.isAgg3
 z3:=Tryz.sizeOf3
 v3:=Tryz.zeroValue3
 t5:=Tryz.underlying5
 a5:=Tryz.isAgg5
 z5:=Tryz.sizeOf5
 v5:=Tryz.zeroValue5
 t9:=Tryz.underlying9
 a9:=Tryz.isAgg9
 z9:=Tryz.sizeOf9
 v9:=Tryz.zeroValue9
def l99r:Go.Shelf.Ren:=⟨fun | 99=>194 | 206=>211 | n=>n,fun | 9=>9 | 4=>4 | 3=>3 | n=>n,fun n=>n⟩
theorem l99:Lays.n99 Tryz.prog l99r where
 mixed:=by kernel_rfl
 f99:=Tryz.func194.trans (congrArg some (by kernel_rfl))
 f206:=Tryz.func211.trans (congrArg some (by kernel_rfl))
 t3:=Tryz.underlying3
 a3:=Tryz.isAgg3
 z3:=Tryz.sizeOf3
 v3:=Tryz.zeroValue3
 t4:=Tryz.underlying4
 a4:=Tryz.isAgg4
 z4:=Tryz.sizeOf4
 v4:=Tryz.zeroValue4
 t9:=Tryz.underlying9
 a9:=Tryz.isAgg9
 z9:=Tryz.sizeOf9
 v9:=Tryz.zeroValue9
def ai9:Go.Shelf.Ren:=⟨fun | 192=>156 | 190=>188 | 125=>204 | 258=>203 | 128=>228 | 129=>229 | 302=>219 | 303=>220 | 304=>221 | 305=>222 | 306=>223 | 307=>224 | 308=>225 | 309=>226 | 310=>227 | 333=>248 | 329=>249 | 330=>250 | 334=>251 | 335=>252 | 336=>253 | 344=>264 | n=>n,fun | 31=>33 | 0=>0 | 9=>9 | 3=>3 | 46=>129 | 51=>198 | 53=>200 | 4=>4 | 183=>192 | 182=>191 | 131=>141 | 5=>5 | 218=>215 | 222=>219 | 228=>239 | 229=>240 | n=>n,fun n=>n⟩
theorem l192:Lays.n192 Tryz.prog ai9 where
 mixed:=by kernel_rfl
 f125:=Tryz.func204.trans (congrArg some (by kernel_rfl))
 f128:=Tryz.func228.trans (congrArg some (by kernel_rfl))
 f129:=Tryz.func229.trans (congrArg some (by kernel_rfl))
 f190:=Tryz.func188.trans (congrArg some (by kernel_rfl))
 f192:=Tryz.func156.trans (congrArg some (by kernel_rfl))
 f258:=Tryz.func203.trans (congrArg some (by kernel_rfl))
 f302:=Tryz.func219.trans (congrArg some (by kernel_rfl))
 f303:=Tryz.func220.trans (congrArg some (by kernel_rfl))
 f304:=Tryz.func221.trans (congrArg some (by kernel_rfl))
 f305:=Tryz.func222.trans (congrArg some (by kernel_rfl))
 f306:=Tryz.func223.trans (congrArg some (by kernel_rfl))
 f307:=Tryz.func224.trans (congrArg some (by kernel_rfl))
 f308:=Tryz.func225.trans (congrArg some (by kernel_rfl))
 f309:=Tryz.func226.trans (congrArg some (by kernel_rfl))
 f310:=Tryz.func227.trans (congrArg some (by kernel_rfl))
 f329:=Tryz.func249.trans (congrArg some (by kernel_rfl))
 f330:=Tryz.func250.trans (congrArg some (by kernel_rfl))
 f333:=Tryz.func248.trans (congrArg some (by kernel_rfl))
 f334:=Tryz.func251.trans (congrArg some (by kernel_rfl))
 f335:=Tryz.func252.trans (congrArg some (by kernel_rfl))
 f336:=Tryz.func253.trans (congrArg some (by kernel_rfl))
 f344:=Tryz.func264.trans (congrArg some (by kernel_rfl))
 t0:=Tryz.underlying0
 a0:=Tryz.isAgg0
 z0:=Tryz.sizeOf0
 v0:=Tryz.zeroValue0
 t3:=Tryz.underlying3
 a3:=Tryz.isAgg3
 z3:=Tryz.sizeOf3
 v3:=Tryz.zeroValue3
 t4:=Tryz.underlying4
 a4:=Tryz.isAgg4
 z4:=Tryz.sizeOf4
 v4:=Tryz.zeroValue4
 t5:=Tryz.underlying5
 a5:=Tryz.isAgg5
 z5:=Tryz.sizeOf5
 v5:=Tryz.zeroValue5
 t9:=Tryz.underlying9
 a9:=Tryz.isAgg9
 z9:=Tryz.sizeOf9
 v9:=Tryz.zeroValue9
 t31:=Tryz.underlying33
 a31:=Tryz.isAgg33
 z31:=Tryz.sizeOf33
 v31:=Tryz.zeroValue33
 t46:=Tryz.underlying129
 a46:=Tryz.isAgg129
 z46:=Tryz.sizeOf129
 v46:=Tryz.zeroValue129
 t51:=Tryz.underlying198
 a51:=Tryz.isAgg198
 z51:=Tryz.sizeOf198
 v51:=Tryz.zeroValue198
 t53:=Tryz.underlying200
 a53:=Tryz.isAgg200
 z53:=Tryz.sizeOf200
 v53:=Tryz.zeroValue200
 t131:=Tryz.underlying141
 a131:=Tryz.isAgg141
 z131:=Tryz.sizeOf141
 v131:=Tryz.zeroValue141
 t182:=Tryz.underlying191
 a182:=Tryz.isAgg191
 z182:=Tryz.sizeOf191
 v182:=Tryz.zeroValue191
 t183:=Tryz.underlying192
 a183:=Tryz.isAgg192
 z183:=Tryz.sizeOf192
 v183:=Tryz.zeroValue192
 t218:=Tryz.underlying215
 a218:=Tryz.isAgg215
 z218:=Tryz.sizeOf215
 v218:=Tryz.zeroValue215
 t222:=Tryz.underlying219
 a222:=Tryz.isAgg219
 z222:=Tryz.sizeOf219
 v222:=Tryz.zeroValue219
 t228:=Tryz.underlying239
 a228:=Tryz.isAgg239
 z228:=Tryz.sizeOf239
 v228:=Tryz.zeroValue239
 t229:=Tryz.underlying240
 a229:=Tryz.isAgg240
 z229:=Tryz.sizeOf240
 v229:=Tryz.zeroValue240
def aeh:Go.Shelf.Ren:=⟨fun | 146=>150 | 221=>179 | 268=>198 | 138=>199 | 143=>200 | 195=>213 | 197=>214 | 218=>215 | 219=>216 | 260=>239 | 217=>210 | 225=>240 | 224=>241 | 267=>242 | 266=>237 | 314=>260 | n=>n,fun | 9=>9 | 31=>33 | 3=>3 | 4=>4 | 0=>0 | 105=>187 | 21=>21 | 5=>5 | 46=>129 | 119=>227 | 139=>230 | 138=>229 | 146=>231 | 51=>198 | n=>n,fun | 1=>0 | 3=>2 | 4=>3 | n=>n⟩
theorem l146:Lays.n146 Tryz.prog aeh where
 mixed:=by kernel_rfl
 f138:=Tryz.func199.trans (congrArg some (by kernel_rfl))
 f143:=Tryz.func200.trans (congrArg some (by kernel_rfl))
 f146:=Tryz.func150.trans (congrArg some (by kernel_rfl))
 f195:=Tryz.func213.trans (congrArg some (by kernel_rfl))
 f197:=Tryz.func214.trans (congrArg some (by kernel_rfl))
 f217:=Tryz.func210.trans (congrArg some (by kernel_rfl))
 f218:=Tryz.func215.trans (congrArg some (by kernel_rfl))
 f219:=Tryz.func216.trans (congrArg some (by kernel_rfl))
 f221:=Tryz.func179.trans (congrArg some (by kernel_rfl))
 f224:=Tryz.func241.trans (congrArg some (by kernel_rfl))
 f225:=Tryz.func240.trans (congrArg some (by kernel_rfl))
 f260:=Tryz.func239.trans (congrArg some (by kernel_rfl))
 f266:=Tryz.func237.trans (congrArg some (by kernel_rfl))
 f267:=Tryz.func242.trans (congrArg some (by kernel_rfl))
 f268:=Tryz.func198.trans (congrArg some (by kernel_rfl))
 f314:=Tryz.func260.trans (congrArg some (by kernel_rfl))
 t0:=Tryz.underlying0
 a0:=Tryz.isAgg0
 z0:=Tryz.sizeOf0
 v0:=Tryz.zeroValue0
 t3:=Tryz.underlying3
 a3:=Tryz.isAgg3
 z3:=Tryz.sizeOf3
 v3:=Tryz.zeroValue3
 t4:=Tryz.underlying4
 a4:=Tryz.isAgg4
 z4:=Tryz.sizeOf4
 v4:=Tryz.zeroValue4
 t5:=Tryz.underlying5
 a5:=Tryz.isAgg5
 z5:=Tryz.sizeOf5
 v5:=Tryz.zeroValue5
 t9:=Tryz.underlying9
 a9:=Tryz.isAgg9
 z9:=Tryz.sizeOf9
 v9:=Tryz.zeroValue9
 t21:=Tryz.underlying21
 a21:=Tryz.isAgg21
 z21:=Tryz.sizeOf21
 v21:=Tryz.zeroValue21
 t31:=Tryz.underlying33
 a31:=Tryz.isAgg33
 z31:=Tryz.sizeOf33
 v31:=Tryz.zeroValue33
 t46:=Tryz.underlying129
 a46:=Tryz.isAgg129
 z46:=Tryz.sizeOf129
 v46:=Tryz.zeroValue129
 t51:=Tryz.underlying198
 a51:=Tryz.isAgg198
 z51:=Tryz.sizeOf198
 v51:=Tryz.zeroValue198
 t105:=Tryz.underlying187
 a105:=Tryz.isAgg187
 z105:=Tryz.sizeOf187
 v105:=Tryz.zeroValue187
 t119:=Tryz.underlying227
 a119:=Tryz.isAgg227
 z119:=Tryz.sizeOf227
 t138:=Tryz.underlying229
 a138:=Tryz.isAgg229
 z138:=Tryz.sizeOf229
 v138:=Tryz.zeroValue229
 t139:=Tryz.underlying230
 a139:=Tryz.isAgg230
 z139:=Tryz.sizeOf230
 v139:=Tryz.zeroValue230
 t146:=Tryz.underlying231
 a146:=Tryz.isAgg231
 z146:=Tryz.sizeOf231
 v146:=Tryz.zeroValue231
 g1:=by kernel_rfl
 g3:=by kernel_rfl
 g4:=by kernel_rfl
end Go.Proofs.YtkebfkahdmddpaaGreatDoor
/- The library's functions as contracts at this program; the integer of a range with a text. -/
namespace Go.Proofs.YtkebfkahdmddpaaGreatDoor
open Go.Abs Go.Proofs Go.Shelf Go.RowKit Go.Lib Go.Sort
theorem Qe:Sound Tryz.prog ab2:=Zu l171 (fun w h=>h.tab)
theorem D8:Sound Tryz.prog NZ:=Kq l99
theorem D7:Sound Tryz.prog NY:=J3 l137
theorem Qd:Sound Tryz.prog ab1:=Zt l156 x156
theorem UN (w : World) (h : amb w) : ∃ m, w.cell? ⟨(aeh.g 1), 0, none⟩ = some (.int .i64 m) := by have e : (Tryz.prog.globalNamed "internal/bytealg.MaxLen").getD 0 = aeh.g 1 := by { kernel_rfl }; have q := h.aiD; rw [e] at q; exact q
theorem NW:Sound Tryz.prog Zo:=VE l146 (by kernel_rfl) UN
theorem vZ:callable Tryz.prog pz.fid=true:=by kernel_rfl
theorem yX:I9 Tryz.prog pz:=EM l192
theorem X8(w:World)(e:TypeId)(t:ByteArray):Below w.heap.size w (Go.Lib.bytesWorld w e t):=by
 refine⟨rfl,rfl,rfl,?_,fun k a=>?_⟩
 ·simp[Go.Lib.bytesWorld,World.freeze,World.alloc]
 ·unfold Go.Lib.bytesWorld World.freeze;show ((w.drew.alloc _).heap.modify w.heap.size _)[k]?=_
  rw[Array.getElem?_modify,if_neg (by omega)];exact Below.heap_alloc w.drew _ _ a
def Vu(s:Str)(e:Ending):Prop:=match Go.Lib.atoiAll s with
 | .ok v=>e=.returned (.tuple #[.int .i64 v,.nilIface])
 | _=>∃n t p,e=.returned (.tuple #[.int .i64 n,.iface t p])
theorem afg(s:Str)(i:s.length<=34359738368)(w:World)(d:amb w) :
  Calls Tryz.prog (agT.f 172) #[.string ⟨s.toArray⟩] w fun e w'=>Vu s e/\Below w.heap.size w w':=by
 have a:(⟨s.toArray⟩:ByteArray).size=s.length:=by show s.toArray.size=_;simp
 have g:(⟨s.toArray⟩:ByteArray).data.toList=s:=rfl;unfold Vu;cases h:Go.Lib.atoiAll s with
 | ok v=>
  refine (Any.strconv_Atoi_ok af9 ⟨s.toArray⟩ (by rw[a];omega) v h w).mono ?_;rintro e w' ⟨rfl,b | ⟨t,b⟩⟩
  ·subst b;exact⟨rfl,Below.refl _ _⟩
  ·subst b;exact⟨rfl,X8 _ _ _⟩
 | range=>
  obtain⟨tp,p,hv⟩:=d.2.2.2;refine (Any.strconv_Atoi_range_var af9 ⟨s.toArray⟩ (by rw[a];omega) h tp p w hv).mono ?_;rintro e w' ⟨N,rfl,_,_,c⟩;exact⟨⟨_,_,_,rfl⟩,c⟩
 | _=>
  obtain⟨tp,p,hv⟩:=d.2.2.1;refine (Any.strconv_Atoi_syntax_var af9 ⟨s.toArray⟩ (by rw[a];omega) h tp p w hv).mono ?_;rintro e w' ⟨N,rfl,_,_,c⟩;exact⟨⟨_,_,_,rfl⟩,c⟩
theorem O1{s:Str}{v:Int}(h:Go.Lib.atoiAll s=.ok v):-9223372036854775808<=v/\v<=9223372036854775807:=by
 unfold Go.Lib.atoiAll at h;split at h
 ·cases h
 ·simp only at h;split at h
  ·cases h
  ·cases h
  ·split at h
   ·cases h
   ·split at h
    ·cases h
    ·rename_i u _ a b;cases h
     split<;>omega
def O7(s:Str)(lo hi:Int)(e:Ending):Prop:=∃r,qC s lo hi=some r/\e=.returned (.tuple #[.int .i64 r.1,.bool r.2])
theorem abR{s:Str}{lo hi v:Int}(b:s.length<=34359738368)(h:Go.Lib.atoiAll s=.ok v)(d:lo<=v)(e:v<=hi)(c:Go.Lib.itoa v=s):O7 s lo hi (.returned (.tuple #[.int .i64 v,.bool true])):=by
 refine⟨(v,true),?_,rfl⟩;have a:gd s.length=some ():=by unfold gd;simp[b]
 unfold qC;rw[a,h];simp only[zA];rw[if_neg];rintro (q | q | q)
 ·omega
 ·omega
 ·exact q c
theorem zX{s:Str}{lo hi:Int}(b:s.length<=34359738368)(h:∀v,Go.Lib.atoiAll s=.ok v->v<lo\/hi<v\/Go.Lib.itoa v≠s):O7 s lo hi (.returned (.tuple #[.int .i64 0,.bool false])):=by
 refine⟨(0,false),?_,rfl⟩;have a:gd s.length=some ():=by unfold gd;simp[b]
 unfold qC;rw[a];simp only[zA];cases hv:Go.Lib.atoiAll s with
 | ok v=>simp only;rw[if_pos (h v hv)]
 | range=>rfl
 | _=>rfl
set_option maxHeartbeats 4000000 in
set_option maxRecDepth 100000 in
theorem Y9(s:Str)(lo hi:Int)(f:s.length<=34359738368)(w:World)(j:amb w) :
  Calls Tryz.prog 180 #[.string ⟨s.toArray⟩,.int .i64 lo,.int .i64 hi] w fun e w'=>O7 s lo hi e/\Below w.heap.size w w':=by
 have mixed:=af9.mixed;have b:=afg s f w j;have m:gd s.length=some ():=by unfold gd;simp[f]
 unfold Vu at b;cases h:Go.Lib.atoiAll s with
 | ok v=>
  rw[h]at b;simp only at b;go_enter Tryz.func180,Tryz.ntmps180
  go_wp2_with (first | (go_at_call 201;refine b.mono ?_;rintro e g ⟨rfl,d⟩;have l:=amb.keep j d.size fun k o=>d.block k (aE o j.size);have HB:Hid (Below w.heap.size w g):=d;clear d) | (go_at_call 158;refine (Any.strconv_Itoa l171 v (O1 h).1 (O1 h).2 _ l.tab).mono ?_;rintro e r ⟨rfl,k,os,rfl⟩))
  all_goals go_ret2
  ·rename_i k os c;refine⟨zX f fun v' a=>?_,HB.out.trans ((below_grow g k os).mono HB.out.size)⟩;have e:v'=v:=by rw[h]at a;cases a;rfl
   subst e;rcases c with c | c
   ·exact c.elim .inl fun q=>.inr (.inl q)
   ·exact .inr (.inr (by simpa using c))
  ·rename_i k os c;exact⟨abR f h c.1.1 c.1.2 (by simpa using c.2),HB.out.trans ((below_grow g k os).mono HB.out.size)⟩
  ·rename_i i;refine⟨zX f fun v' a=>?_,HB.out⟩;rw[h]at a;cases a;exact .inr (.inl i)
  ·rename_i i;refine⟨zX f fun v' a=>?_,HB.out⟩;rw[h]at a;cases a;exact .inl i
 | range=>
  rw[h]at b;simp only at b;go_enter Tryz.func180,Tryz.ntmps180
  go_wp2_with (go_at_call 201;refine b.mono ?_;rintro e g ⟨⟨n,t,p,rfl⟩,d⟩;have HB:Hid (Below w.heap.size w g):=d;clear d)
  all_goals go_ret2
  exact⟨zX f fun v' a=>(by rw[h]at a;cases a),HB.out⟩
 | _=>
  rw[h]at b;simp only at b;go_enter Tryz.func180,Tryz.ntmps180
  go_wp2_with (go_at_call 201;refine b.mono ?_;rintro e g ⟨⟨n,t,p,rfl⟩,d⟩;have HB:Hid (Below w.heap.size w g):=d;clear d)
  all_goals go_ret2
  exact⟨zX f fun v' a=>(by rw[h]at a;cases a),HB.out⟩
theorem U3:Sound Tryz.prog aeA:=by
 intro w S args x y h d a m;rcases args with _ | ⟨u,_ | ⟨f,_ | ⟨i,_ | ⟨n,r⟩⟩⟩⟩
 ·exact a.elim
 ·exact a.2.elim
 ·exact a.2.2.elim
 ·have j:=lJ (show Rep w S (.str x.1) u from a.1.1);have b:=uD (show Rep w S (.int .i64 x.2.1) f from a.2.1.1);have c:=uD (show Rep w S (.int .i64 x.2.2) i from a.2.2.1);subst j;subst b;subst c;have h:qC x.1 x.2.1 x.2.2=some y:=h;have k:List.length x.1<=34359738368:=by
   unfold qC at h;obtain⟨_,g,_⟩:=zB.1 h;exact iP g
  refine (Y9 x.1 x.2.1 x.2.2 k w d).mono ?_;rintro e w' ⟨⟨r,a,rfl⟩,l⟩;rw[h]at a;cases a
  exact⟨_,rfl,l,PY _ _⟩
 ·exact a.2.2.elim
end Go.Proofs.YtkebfkahdmddpaaGreatDoor
