import Derived.Test.YtjbajpfonnnfoaaGreatDoorS3
import Derived.Test.YtjbajpfonnnfoaaGreatDoorLink1
import Derived.Shelf.Strconv.Itoa3
import Derived.Shelf.Strings.OnBuilder
import Derived.Shelf.Strings.Prefix
import Derived.Shelf.Strings.Split
import Derived.Shelf.Small.Strs
import Derived.Shelf.Sort.Plain
import Derived.Shelf.Slices.In.SortNone2
import Derived.Test.YtjbajpfonnnfoaaGreatDoorProg
import Derived.Shelf.Strconv.ErrVarAll
import Derived.Shelf.SlSortFuncK.WholeK
import Derived.Ground.GgsProg
import Derived.KernelRfl
import Derived.Shelf.SlSortFuncK.SWK
import Derived.Shelf.GgSortFunc.InsertionK
import Derived.Deep.LoopGhost
import Derived.Shelf.SlSortFuncK.HeapSortK
import Derived.Shelf.GgSortFunc.LotD
import Derived.Sort.Walk11
set_option linter.unusedSimpArgs false
set_option linter.unusedVariables false
/- Functions of the library, as the evaluator's contracts. -/
namespace Go.Abs
open Go.RowKit Go.Sort Go.Proofs Go.Shelf
theorem Uu{w:World}{S:Nat->Nat->Prop}{s:Str}{u:Value}(h:Rep w S (.str s) u):u=.string ⟨s.toArray⟩:=by
 generalize a:D.str s=d at h;cases h<;>cases a
 rfl
theorem Bq{w:World}{S:Nat->Nat->Prop}{k:IntKind}{n:Int}{u:Value}(h:Rep w S (.int k n) u):u=.int k n:=by
 generalize a:D.int k n=d at h;cases h<;>cases a
 rfl
theorem adX{w:World}{S:Nat->Nat->Prop}{b:Bool}{u:Value}(h:Rep w S (.bool b) u):u=.bool b:=by
 generalize a:D.bool b=d at h;cases h<;>cases a
 rfl
theorem VL{P:Program}{ρ:Ren}(L:Lays.n146 P ρ)(q:(P.info? (ρ.t 9)).map (fun i=>(i.zero,i.size,i.bytes))=some (some (.string ByteArray.empty),1,16))(hmax:∀w,amb w->∃m,w.cell? ⟨(ρ.g 1),0,none⟩=some (.int .i64 m)) :
  Sound P { fid:=ρ.f 146,ps:=[⟨false,.base .str⟩,⟨false,.base .str⟩],rs:=[⟨false,.list (.base .str)⟩],ex:=true,fn:=fun x=>wO x.1 x.2 }:=by
 intro w S args x y h F b M;rcases args with _ | ⟨u,_ | ⟨G,_ | ⟨N,r⟩⟩⟩
 ·exact b.elim
 ·exact b.2.elim
 ·have H:=Uu (show Rep w S (.str x.1) u from b.1.1);have v:=Uu (show Rep w S (.str x.2) G from b.2.1);subst H;subst v;have h:wO x.1 x.2=some y:=h;unfold wO at h;split at h
  case isFalse=>cases h
  rename_i z;obtain⟨m,I⟩:=hmax w F;have C:(⟨x.1.toArray⟩:ByteArray).size=x.1.length:=by show x.1.toArray.size=_;simp
  have J:(⟨x.2.toArray⟩:ByteArray).size=x.2.length:=by show x.2.toArray.size=_;simp
  have k:1<=(⟨x.2.toArray⟩:ByteArray).size:=by rw[J];exact z.2
  have hk:=Lib.splitB_all ⟨x.2.toArray⟩ k 0 _ ⟨x.1.toArray⟩ rfl;have l:=Lib.countB_le ⟨x.2.toArray⟩ k (⟨x.1.toArray⟩:ByteArray).size ⟨x.1.toArray⟩ (ar _);have a:=Lib.splitB_data ⟨x.2.toArray⟩ 0 (Lib.countB ⟨x.1.toArray⟩ ⟨x.2.toArray⟩) ⟨x.1.toArray⟩;have D:(Lib.splitB ⟨x.2.toArray⟩ 0 (Lib.countB ⟨x.1.toArray⟩ ⟨x.2.toArray⟩) ⟨x.1.toArray⟩).map (·.data.toList)=y:=by
   cases h
   rw[a];rfl
  refine (Any.strings_Split L q ⟨x.1.toArray⟩ ⟨x.2.toArray⟩ m w (by rw[C];exact z.1) I k).mono ?_;generalize Lib.splitB ⟨x.2.toArray⟩ 0 (Lib.countB ⟨x.1.toArray⟩ ⟨x.2.toArray⟩) ⟨x.1.toArray⟩=bs at hk D;generalize Lib.countB ⟨x.1.toArray⟩ ⟨x.2.toArray⟩=n at hk l;subst D;rintro e w' ⟨rfl,rfl⟩;have A:(w.alloc (.cells (bs.map Value.string).toArray (ρ.t 9))).heap.size=w.heap.size+1:=Array.size_push _;refine⟨_,rfl,(Below.refl _ _).alloc (ar _) _,[_],rfl,fun i c=>i=0/\c=w.heap.size,⟨?_,trivial⟩,fun i c hc=>by rw[hc.2,A];omega,fun i i' c k K=>k.1.trans K.1.symm⟩
  ·have E:(bs.map (·.data.toList)).length=n+1:=by rw[List.length_map,hk]
   have key:=Ow.list (w:=w.alloc (.cells (bs.map Value.string).toArray (ρ.t 9))) (S:=fun _ _=>False) (deep:=true) (.base .str) (bs.map (·.data.toList)) w.heap.size (n+1) (bs.map Value.string).toArray (ρ.t 9) (fun i _=>.string (bs[i]!)) (fun _ _ _=>False) (fun c=>0=0/\c=w.heap.size)
    (Array.getElem?_push_size) (by rw[E];exact ar _) (by rw[C]at l;have:=z.1;unfold maxLen;omega) (by show (bs.map Value.string).toArray.size=(n+1)*1;simp[hk]) ⟨rfl,rfl⟩
    (fun i s j d o a=>?_) (fun i s j d o a=>?_) (fun _ _ _ h=>h.elim) (fun _ _ _ _ _ h=>h.elim)
   ·rw[E]at key;exact key
   ·cases j with
    | succ j=>simp[Ty.cells,Base.cells]at a
    | zero=>
     have e:i*(Ty.base .str).size+0=i:=by show i*1+0=i;omega
     have p:i<bs.length:=by
      have:=(zC.1 o).1;simpa using this
     rw[e];simp[p]
   ·cases j with
    | succ j=>simp[Ty.cells,Base.cells]at a
    | zero=>
     simp only[Ty.cells,Base.cells,List.getElem?_cons_zero,zD]at a;subst a;have p:i<bs.length:=by
      have:=(zC.1 o).1;simpa using this
     have B:bs[i].data.toList=s:=by
      rw[List.getElem?_map,zF p]at o;simpa using o
     rw[getElem!_pos bs i p,<- B];exact Ow.str _ _
 ·exact b.2.elim
end Go.Abs
/- Functions of the library, by this program's numbers. -/
namespace Go.Proofs.YtjbajpfonnnfoaaGreatDoor
open Go.Proofs Go.Shelf Go.RowKit Go.Lib Go.Sort
def l6r:Go.Shelf.Ren:=⟨fun | 6=>222 | 10=>228 | 11=>229 | 12=>230 | 13=>231 | 14=>232 | 24=>246 | 25=>247 | 26=>248 | 27=>249 | 28=>250 | 29=>251 | 30=>252 | 31=>253 | 32=>254 | 33=>255 | 34=>269 | 35=>270 | 36=>271 | 37=>272 | 38=>273 | 39=>285 | n=>n,fun | 20=>20 | 26=>189 | 35=>195 | 0=>0 | 37=>197 | 3=>3 | 41=>145 | 44=>203 | 49=>211 | 51=>213 | 4=>4 | 54=>216 | 53=>215 | 58=>178 | 5=>5 | 9=>9 | 60=>231 | 64=>235 | 66=>240 | 67=>241 | 17=>17 | 32=>192 | 33=>193 | 82=>264 | 12=>12 | 75=>257 | 76=>258 | 77=>259 | 78=>260 | 79=>261 | 80=>262 | n=>n,fun n=>n⟩
theorem l6:LaysGg.n6 Tryz.prog l6r where
 mixed:=by kernel_rfl
 f6:=Tryz.func222.trans (congrArg some (by kernel_rfl))
 f10:=Tryz.func228.trans (congrArg some (by kernel_rfl))
 f11:=Tryz.func229.trans (congrArg some (by kernel_rfl))
 f12:=Tryz.func230.trans (congrArg some (by kernel_rfl))
 f13:=Tryz.func231.trans (congrArg some (by kernel_rfl))
 f14:=Tryz.func232.trans (congrArg some (by kernel_rfl))
 f24:=Tryz.func246.trans (congrArg some (by kernel_rfl))
 f25:=Tryz.func247.trans (congrArg some (by kernel_rfl))
 f26:=Tryz.func248.trans (congrArg some (by kernel_rfl))
 f27:=Tryz.func249.trans (congrArg some (by kernel_rfl))
 f28:=Tryz.func250.trans (congrArg some (by kernel_rfl))
 f29:=Tryz.func251.trans (congrArg some (by kernel_rfl))
 f30:=Tryz.func252.trans (congrArg some (by kernel_rfl))
 f31:=Tryz.func253.trans (congrArg some (by kernel_rfl))
 f32:=Tryz.func254.trans (congrArg some (by kernel_rfl))
 f33:=Tryz.func255.trans (congrArg some (by kernel_rfl))
 f34:=Tryz.func269.trans (congrArg some (by kernel_rfl))
 f35:=Tryz.func270.trans (congrArg some (by kernel_rfl))
 f36:=Tryz.func271.trans (congrArg some (by kernel_rfl))
 f37:=Tryz.func272.trans (congrArg some (by kernel_rfl))
 f38:=Tryz.func273.trans (congrArg some (by kernel_rfl))
 f39:=Tryz.func285.trans (congrArg some (by kernel_rfl))
 t0:=Tryz.underlying0
 a0:=Tryz.isAgg0
 z0:=Tryz.sizeOf0
 v0:=Tryz.zeroValue0
 i0:=by kernel_rfl
 t3:=Tryz.underlying3
 a3:=Tryz.isAgg3
 z3:=Tryz.sizeOf3
 v3:=Tryz.zeroValue3
 i3:=by kernel_rfl
 t4:=Tryz.underlying4
 a4:=Tryz.isAgg4
 z4:=Tryz.sizeOf4
 v4:=Tryz.zeroValue4
 i4:=by kernel_rfl
 t5:=Tryz.underlying5
 a5:=Tryz.isAgg5
 z5:=Tryz.sizeOf5
 v5:=Tryz.zeroValue5
 i5:=by kernel_rfl
 t9:=Tryz.underlying9
 a9:=Tryz.isAgg9
 z9:=Tryz.sizeOf9
 v9:=Tryz.zeroValue9
 i9:=by kernel_rfl
 t12:=Tryz.underlying12
 a12:=Tryz.isAgg12
 z12:=Tryz.sizeOf12
 v12:=Tryz.zeroValue12
 i12:=by kernel_rfl
 t17:=Tryz.underlying17
 a17:=Tryz.isAgg17
 z17:=Tryz.sizeOf17
 v17:=Tryz.zeroValue17
 i17:=by kernel_rfl
 t20:=Tryz.underlying20
 a20:=Tryz.isAgg20
 z20:=Tryz.sizeOf20
 v20:=Tryz.zeroValue20
 i20:=by kernel_rfl
 t26:=Tryz.underlying189
 a26:=Tryz.isAgg189
 z26:=Tryz.sizeOf189
 v26:=Tryz.zeroValue189
 i26:=by kernel_rfl
 t32:=Tryz.underlying192
 a32:=Tryz.isAgg192
 z32:=Tryz.sizeOf192
 v32:=Tryz.zeroValue192
 i32:=by kernel_rfl
 t33:=Tryz.underlying193
 a33:=Tryz.isAgg193
 z33:=Tryz.sizeOf193
 v33:=Tryz.zeroValue193
 i33:=by kernel_rfl
 t35:=Tryz.underlying195
 a35:=Tryz.isAgg195
 z35:=Tryz.sizeOf195
 v35:=Tryz.zeroValue195
 i35:=by kernel_rfl
 t37:=Tryz.underlying197
 a37:=Tryz.isAgg197
 z37:=Tryz.sizeOf197
 v37:=Tryz.zeroValue197
 i37:=by kernel_rfl
 t41:=Tryz.underlying145
 a41:=Tryz.isAgg145
 z41:=Tryz.sizeOf145
 v41:=Tryz.zeroValue145
 i41:=by kernel_rfl
 t44:=Tryz.underlying203
 a44:=Tryz.isAgg203
 z44:=Tryz.sizeOf203
 v44:=Tryz.zeroValue203
 i44:=by kernel_rfl
 t49:=Tryz.underlying211
 a49:=Tryz.isAgg211
 z49:=Tryz.sizeOf211
 v49:=Tryz.zeroValue211
 i49:=by kernel_rfl
 t51:=Tryz.underlying213
 a51:=Tryz.isAgg213
 z51:=Tryz.sizeOf213
 v51:=Tryz.zeroValue213
 i51:=by kernel_rfl
 t53:=Tryz.underlying215
 a53:=Tryz.isAgg215
 z53:=Tryz.sizeOf215
 v53:=Tryz.zeroValue215
 i53:=by kernel_rfl
 t54:=Tryz.underlying216
 a54:=Tryz.isAgg216
 z54:=Tryz.sizeOf216
 v54:=Tryz.zeroValue216
 i54:=by kernel_rfl
 t58:=Tryz.underlying178
 a58:=Tryz.isAgg178
 z58:=Tryz.sizeOf178
 v58:=Tryz.zeroValue178
 i58:=by kernel_rfl
 t60:=Tryz.underlying231
 a60:=Tryz.isAgg231
 z60:=Tryz.sizeOf231
 v60:=Tryz.zeroValue231
 i60:=by kernel_rfl
 t64:=Tryz.underlying235
 a64:=Tryz.isAgg235
 z64:=Tryz.sizeOf235
 v64:=Tryz.zeroValue235
 i64:=by kernel_rfl
 t66:=Tryz.underlying240
 a66:=Tryz.isAgg240
 z66:=Tryz.sizeOf240
 v66:=Tryz.zeroValue240
 i66:=by kernel_rfl
 t67:=Tryz.underlying241
 a67:=Tryz.isAgg241
 z67:=Tryz.sizeOf241
 v67:=Tryz.zeroValue241
 i67:=by kernel_rfl
 t75:=Tryz.underlying257
 a75:=Tryz.isAgg257
 z75:=Tryz.sizeOf257
 v75:=Tryz.zeroValue257
 i75:=by kernel_rfl
 t76:=Tryz.underlying258
 a76:=Tryz.isAgg258
 z76:=Tryz.sizeOf258
 v76:=Tryz.zeroValue258
 i76:=by kernel_rfl
 t77:=Tryz.underlying259
 a77:=Tryz.isAgg259
 z77:=Tryz.sizeOf259
 v77:=Tryz.zeroValue259
 i77:=by kernel_rfl
 t78:=Tryz.underlying260
 a78:=Tryz.isAgg260
 z78:=Tryz.sizeOf260
 v78:=Tryz.zeroValue260
 i78:=by kernel_rfl
 t79:=Tryz.underlying261
 a79:=Tryz.isAgg261
 z79:=Tryz.sizeOf261
 v79:=Tryz.zeroValue261
 i79:=by kernel_rfl
 t80:=Tryz.underlying262
 a80:=Tryz.isAgg262
 z80:=Tryz.sizeOf262
 v80:=Tryz.zeroValue262
 i80:=by kernel_rfl
 t82:=Tryz.underlying264
 a82:=Tryz.isAgg264
 z82:=Tryz.sizeOf264
 v82:=Tryz.zeroValue264
 i82:=by kernel_rfl
def aeL:Go.Shelf.Ren:=⟨fun | 146=>221 | 221=>227 | 268=>234 | 138=>235 | 143=>236 | 195=>265 | 197=>266 | 218=>267 | 219=>268 | 260=>280 | 217=>281 | 225=>282 | 224=>283 | 267=>284 | 266=>287 | 314=>288 | n=>n,fun | 9=>9 | 31=>35 | 3=>3 | 4=>4 | 0=>0 | 105=>228 | 21=>21 | 5=>5 | 46=>145 | 119=>245 | 139=>248 | 138=>247 | 146=>249 | 51=>211 | n=>n,fun | 1=>0 | 3=>1 | 4=>2 | n=>n⟩
theorem l146:Lays.n146 Tryz.prog aeL where
 mixed:=by kernel_rfl
 f138:=Tryz.func235.trans (congrArg some (by kernel_rfl))
 f143:=Tryz.func236.trans (congrArg some (by kernel_rfl))
 f146:=Tryz.func221.trans (congrArg some (by kernel_rfl))
 f195:=Tryz.func265.trans (congrArg some (by kernel_rfl))
 f197:=Tryz.func266.trans (congrArg some (by kernel_rfl))
 f217:=Tryz.func281.trans (congrArg some (by kernel_rfl))
 f218:=Tryz.func267.trans (congrArg some (by kernel_rfl))
 f219:=Tryz.func268.trans (congrArg some (by kernel_rfl))
 f221:=Tryz.func227.trans (congrArg some (by kernel_rfl))
 f224:=Tryz.func283.trans (congrArg some (by kernel_rfl))
 f225:=Tryz.func282.trans (congrArg some (by kernel_rfl))
 f260:=Tryz.func280.trans (congrArg some (by kernel_rfl))
 f266:=Tryz.func287.trans (congrArg some (by kernel_rfl))
 f267:=Tryz.func284.trans (congrArg some (by kernel_rfl))
 f268:=Tryz.func234.trans (congrArg some (by kernel_rfl))
 f314:=Tryz.func288.trans (congrArg some (by kernel_rfl))
 t0:=Tryz.underlying0
 a0:=Tryz.isAgg0
 z0:=Tryz.sizeOf0
 v0:=Tryz.zeroValue0
 t3:=Tryz.underlying3
 a3:=Tryz.isAgg3
 z3:=Tryz.sizeOf3
 v3:=Tryz.zeroValue3
 t4:=Tryz.underlying4
 a4:=Tryz.isAgg4
 z4:=Tryz.sizeOf4
 v4:=Tryz.zeroValue4
 t5:=Tryz.underlying5
 a5:=Tryz.isAgg5
 z5:=Tryz.sizeOf5
 v5:=Tryz.zeroValue5
 t9:=Tryz.underlying9
 a9:=Tryz.isAgg9
 z9:=Tryz.sizeOf9
 v9:=Tryz.zeroValue9
 t21:=Tryz.underlying21
 a21:=Tryz.isAgg21
 z21:=Tryz.sizeOf21
 v21:=Tryz.zeroValue21
 t31:=Tryz.underlying35
 a31:=Tryz.isAgg35
 z31:=Tryz.sizeOf35
 v31:=Tryz.zeroValue35
 t46:=Tryz.underlying145
 a46:=Tryz.isAgg145
 z46:=Tryz.sizeOf145
 v46:=Tryz.zeroValue145
 t51:=Tryz.underlying211
 a51:=Tryz.isAgg211
 z51:=Tryz.sizeOf211
 v51:=Tryz.zeroValue211
 t105:=Tryz.underlying228
 a105:=Tryz.isAgg228
 z105:=Tryz.sizeOf228
 v105:=Tryz.zeroValue228
 t119:=Tryz.underlying245
 a119:=Tryz.isAgg245
 z119:=Tryz.sizeOf245
 t138:=Tryz.underlying247
 a138:=Tryz.isAgg247
 z138:=Tryz.sizeOf247
 v138:=Tryz.zeroValue247
 t139:=Tryz.underlying248
 a139:=Tryz.isAgg248
 z139:=Tryz.sizeOf248
 v139:=Tryz.zeroValue248
 t146:=Tryz.underlying249
 a146:=Tryz.isAgg249
 z146:=Tryz.sizeOf249
 v146:=Tryz.zeroValue249
 g1:=by kernel_rfl
 g3:=by kernel_rfl
 g4:=by kernel_rfl
def akT:Go.Shelf.Ren:=⟨fun | 191=>204 | 189=>224 | 125=>231 | 257=>233 | 128=>246 | 129=>247 | 294=>256 | 295=>257 | 296=>258 | 297=>259 | 298=>260 | 299=>261 | 216=>262 | 300=>263 | 301=>264 | 328=>274 | 329=>275 | 330=>276 | 331=>277 | 332=>278 | 215=>279 | 343=>286 | n=>n,fun | 28=>101 | 0=>0 | 3=>3 | 46=>145 | 51=>211 | 53=>213 | 4=>4 | 183=>223 | 182=>222 | 131=>178 | 5=>5 | 9=>9 | 218=>237 | 222=>235 | 228=>243 | 229=>241 | n=>n,fun n=>n⟩
theorem l191:Lays.n191 Tryz.prog akT where
 mixed:=by kernel_rfl
 f125:=Tryz.func231.trans (congrArg some (by kernel_rfl))
 f128:=Tryz.func246.trans (congrArg some (by kernel_rfl))
 f129:=Tryz.func247.trans (congrArg some (by kernel_rfl))
 f189:=Tryz.func224.trans (congrArg some (by kernel_rfl))
 f191:=Tryz.func204.trans (congrArg some (by kernel_rfl))
 f215:=Tryz.func279.trans (congrArg some (by kernel_rfl))
 f216:=Tryz.func262.trans (congrArg some (by kernel_rfl))
 f257:=Tryz.func233.trans (congrArg some (by kernel_rfl))
 f294:=Tryz.func256.trans (congrArg some (by kernel_rfl))
 f295:=Tryz.func257.trans (congrArg some (by kernel_rfl))
 f296:=Tryz.func258.trans (congrArg some (by kernel_rfl))
 f297:=Tryz.func259.trans (congrArg some (by kernel_rfl))
 f298:=Tryz.func260.trans (congrArg some (by kernel_rfl))
 f299:=Tryz.func261.trans (congrArg some (by kernel_rfl))
 f300:=Tryz.func263.trans (congrArg some (by kernel_rfl))
 f301:=Tryz.func264.trans (congrArg some (by kernel_rfl))
 f328:=Tryz.func274.trans (congrArg some (by kernel_rfl))
 f329:=Tryz.func275.trans (congrArg some (by kernel_rfl))
 f330:=Tryz.func276.trans (congrArg some (by kernel_rfl))
 f331:=Tryz.func277.trans (congrArg some (by kernel_rfl))
 f332:=Tryz.func278.trans (congrArg some (by kernel_rfl))
 f343:=Tryz.func286.trans (congrArg some (by kernel_rfl))
 t0:=Tryz.underlying0
 a0:=Tryz.isAgg0
 z0:=Tryz.sizeOf0
 v0:=Tryz.zeroValue0
 t3:=Tryz.underlying3
 a3:=Tryz.isAgg3
 z3:=Tryz.sizeOf3
 v3:=Tryz.zeroValue3
 t4:=Tryz.underlying4
 a4:=Tryz.isAgg4
 z4:=Tryz.sizeOf4
 v4:=Tryz.zeroValue4
 t5:=Tryz.underlying5
 a5:=Tryz.isAgg5
 z5:=Tryz.sizeOf5
 v5:=Tryz.zeroValue5
 t9:=Tryz.underlying9
 a9:=Tryz.isAgg9
 z9:=Tryz.sizeOf9
 v9:=Tryz.zeroValue9
 t28:=Tryz.underlying101
 a28:=Tryz.isAgg101
 z28:=Tryz.sizeOf101
 v28:=Tryz.zeroValue101
 t46:=Tryz.underlying145
 a46:=Tryz.isAgg145
 z46:=Tryz.sizeOf145
 v46:=Tryz.zeroValue145
 t51:=Tryz.underlying211
 a51:=Tryz.isAgg211
 z51:=Tryz.sizeOf211
 v51:=Tryz.zeroValue211
 t53:=Tryz.underlying213
 a53:=Tryz.isAgg213
 z53:=Tryz.sizeOf213
 v53:=Tryz.zeroValue213
 t131:=Tryz.underlying178
 a131:=Tryz.isAgg178
 z131:=Tryz.sizeOf178
 v131:=Tryz.zeroValue178
 t182:=Tryz.underlying222
 a182:=Tryz.isAgg222
 z182:=Tryz.sizeOf222
 v182:=Tryz.zeroValue222
 t183:=Tryz.underlying223
 a183:=Tryz.isAgg223
 z183:=Tryz.sizeOf223
 v183:=Tryz.zeroValue223
 t218:=Tryz.underlying237
 a218:=Tryz.isAgg237
 z218:=Tryz.sizeOf237
 v218:=Tryz.zeroValue237
 t222:=Tryz.underlying235
 a222:=Tryz.isAgg235
 z222:=Tryz.sizeOf235
 v222:=Tryz.zeroValue235
 t228:=Tryz.underlying243
 a228:=Tryz.isAgg243
 z228:=Tryz.sizeOf243
 v228:=Tryz.zeroValue243
 t229:=Tryz.underlying241
 a229:=Tryz.isAgg241
 z229:=Tryz.sizeOf241
 v229:=Tryz.zeroValue241
end Go.Proofs.YtjbajpfonnnfoaaGreatDoor
/- A library sort at elements of k cells, with a 'less' that may lay boxes of its own: blocks of the base world, insertion. -/
namespace Go.Proofs
open Go.Shelf Go.RowKit Go.Lib Go.Sort
variable {P:Program} {ρ:Ren} {α:Type} [Inhabited α] {enc:α->List Value} {k:Nat} {w0 w1 W W':World} {blk off:Nat} {dk dj:Array α}
theorem SWK.comp(h:SWK enc k w0 blk off dk W)(hblk:blk<w0.heap.size)(a:SWK enc k W blk off dj W')(b:dj.size=dk.size):SWK enc k w0 blk off dj W':=by
 obtain⟨n,os,rfl⟩:=a;exact h.on hblk n dj os b
theorem SWK.cellAt(h:SWK enc k w0 blk off dk W){b o:Nat}(c:b≠blk)(a:b<w0.heap.size):W.cell? ⟨b,o,none⟩=w0.cell? ⟨b,o,none⟩:=by
 obtain⟨n,os,rfl⟩:=h;unfold sortWorldK;rw[cell?_grow _ _ _ (by rw[size_putRowK];exact a),cell?_putRowK_other enc k _ blk off dk _ c];rfl
def jr(P:Program)(g:Nat)(lb:Array Value)(enc:α->List Value)(k:Nat)(lt:α->α->Bool)(blk off size:Nat)(w:World):Prop:=
 ∀(m:Nat) (os:Array Obj) (dk:Array α),dk.size=size->∀i j:Nat,i<size->j<size ->
  Calls P g (#[.int .i64 i,.int .i64 j]++lb) (sortWorldK enc k w blk off m dk os) fun e w'=>e=.returned (.bool (lt dk[i]! dk[j]!))/\SWK enc k (sortWorldK enc k w blk off m dk os) blk off dk w'
theorem SWK.lays{g:Nat}{lb:Array Value}{lt:α->α->Bool}{size:Nat}(h:SWK enc k w0 blk off dk W)(a:jr P g lb enc k lt blk off size w0)(b:dk.size=size)(i j:Nat)(c:i<size)(d:j<size) :
  Calls P g (#[.int .i64 i,.int .i64 j]++lb) W fun e w'=>e=.returned (.bool (lt dk[i]! dk[j]!))/\SWK enc k W blk off dk w':=by
 obtain⟨n,os,rfl⟩:=h;exact a n os dk b i j c d
theorem SWK.aeJ{g:Nat}{lb:Array Value}{lt:α->α->Bool}{size:Nat}(h:SWK enc k w0 blk off dk W)(c:jr P g lb enc k lt blk off size w0)(hblk:blk<w0.heap.size)(d:dk.size=size):jr P g lb enc k lt blk off size W:=by
 intro m os dj b i j f a;obtain⟨n',os',e⟩:=h.on hblk m dj os (b.trans d.symm);rw[e];exact c n' os' dj b i j f a
theorem jr.grow{g:Nat}{lb:Array Value}{lt:α->α->Bool}{size:Nat}(h:jr P g lb enc k lt blk off size w0)(hblk:blk<w0.heap.size)(a:Array Obj):jr P g lb enc k lt blk off size (Sort.grow w0 a):=fun m os dk b i j c d=>by
 have e:sortWorldK enc k (Sort.grow w0 a) blk off m dk os=sortWorldK enc k w0 blk off m dk (a++os):=by
  unfold sortWorldK;rw[ahead_grow,putRowK_grow enc k (Sort.ahead w0 m) _ blk off _ hblk,grow_grow]
 rw[e];exact h m _ dk b i j c d
set_option maxHeartbeats 8000000 in
set_option maxRecDepth 100000 in
theorem Qh(L:LaysGg.n26 P ρ)(hk:∀x,(enc x).length=k)(lt:α->α->Bool)(g:Nat)(lb:Array Value)(sf:Nat)(sb:Array Value)(a b:Nat)(d:Array α)
  (eg:∀args w,(callFunc g args).run P w=.ok (.enter g args) w) (hless:jr P g lb enc k lt blk off d.size W) (hswap:SwapSwapsK P sf sb enc k blk off d.size)
  (y:HoldsK enc k W blk off d) (hblk:blk<W.heap.size) (E:a<=b) (V:b<=d.size) (F:d.size<4611686018427387904) :
  Calls P (ρ.f 26) #[.agg #[.func (.func g) #[] lb,.func (.func sf) #[] sb],.int .i64 a,.int .i64 b] W fun e w'=>e=.returned (.tuple #[])/\SWK enc k W blk off (Sort.insertionSort lt d a b) w':=by
 have mixed:=L.mixed;have t0:=L.t0;have a0:=L.a0;have z0:=L.z0;have v0:=L.v0;have t3:=L.t3;have a3:=L.a3;have z3:=L.z3;have v3:=L.v3;have t4:=L.t4;have a4:=L.a4;have z4:=L.z4;have v4:=L.v4;have t26:=L.t26;have a26:=L.a26;have z26:=L.z26;have v26:=L.v26;have t37:=L.t37;have a37:=L.a37;have z37:=L.z37;have v37:=L.v37;have t44:=L.t44;have a44:=L.a44;have z44:=L.z44;have v44:=L.v44;have G:=run_underlying L.t44;have n:blk<(W.alloc (.cells #[.func (.func g) #[] lb,.func (.func sf) #[] sb] (ρ.t 44))).heap.size:=by rw[alloc_eq_grow,size_grow];omega
 have q:HoldsK enc k (W.alloc (.cells #[.func (.func g) #[] lb,.func (.func sf) #[] sb] (ρ.t 44))) blk off d:=by rw[alloc_eq_grow];exact holdsK_grow enc k W _ blk off d hblk y
 have r:jr P g lb enc k lt blk off d.size (W.alloc (.cells #[.func (.func g) #[] lb,.func (.func sf) #[] sb] (ρ.t 44))):=by rw[alloc_eq_grow];exact hless.grow hblk _
 have cell0:∀(dj:Array α) (wr:World),SWK enc k (W.alloc (.cells #[.func (.func g) #[] lb,.func (.func sf) #[] sb] (ρ.t 44))) blk off dj wr->wr.cell? ⟨W.heap.size,0,none⟩=some (.func (.func g) #[] lb):=fun dj wr h=>by
  rw[h.cellAt (b:=W.heap.size) (by omega) (by rw[alloc_eq_grow,size_grow];simp)];simp
 have cell1:∀(dj:Array α) (wr:World),SWK enc k (W.alloc (.cells #[.func (.func g) #[] lb,.func (.func sf) #[] sb] (ρ.t 44))) blk off dj wr->wr.cell? ⟨W.heap.size,1,none⟩=some (.func (.func sf) #[] sb):=fun dj wr h=>by
  rw[h.cellAt (b:=W.heap.size) (by omega) (by rw[alloc_eq_grow,size_grow];simp)];simp
 have less:∀(dj:Array α) (wr:World) (i j:Nat),SWK enc k (W.alloc (.cells #[.func (.func g) #[] lb,.func (.func sf) #[] sb] (ρ.t 44))) blk off dj wr->dj.size=d.size->i<d.size->j<d.size ->
   Calls P g (#[.int .i64 i,.int .i64 j]++lb) wr fun e w'=>e=.returned (.bool (lt dj[i]! dj[j]!))/\SWK enc k (W.alloc (.cells #[.func (.func g) #[] lb,.func (.func sf) #[] sb] (ρ.t 44))) blk off dj w':=fun dj wr i j h H I J=>by
  refine (h.lays r H i j I J).mono ?_;rintro e w' ⟨rfl,K⟩;exact⟨rfl,h.comp n K rfl⟩
 have M:Hid _:=cell0;have N:Hid _:=cell1;have LE:Hid _:=less;have SWp:Hid _:=hswap;have O:Hid (HoldsK enc k W blk off d):=y;have B:Hid (HoldsK enc k (W.alloc (.cells #[.func (.func g) #[] lb,.func (.func sf) #[] sb] (ρ.t 44))) blk off d):=q;clear cell0 cell1 less hless r hswap y q;go_enter L.f26,BodyGg.n26_ntmps ρ
 go_wp2
 go_loopw [6] (fun vi wr=>∃(i:Nat) (dk:Array α),vi=.int .i64 i/\a<i/\i<=b+1/\dk.size=d.size/\SWK enc k (W.alloc (.cells #[.func (.func g) #[] lb,.func (.func sf) #[] sb] (ρ.t 44))) blk off dk wr /\
   insOuter lt a b i dk=insOuter lt a b (a+1) d) (fun vi _=>b+1-(intOf vi).toNat)
 case atStart=>exact⟨a+1,d,by congr 1,by omega,by omega,rfl,SWK.start B.out,rfl⟩
 case round=>
  obtain⟨i,dk,rfl,Q,R,s,u,C⟩:=hrel
  have HO:Hid (insOuter lt a b i dk=insOuter lt a b (a+1) d):=C
  have HW:Hid (SWK enc k (W.alloc (.cells #[.func (.func g) #[] lb,.func (.func sf) #[] sb] (ρ.t 44))) blk off dk wr):=u
  clear C u
  by_cases o:i<b
  ·go_wp2
   go_loopw [7] (fun vj z=>∃(j:Nat) (dj:Array α),vj=.int .i64 j/\a<=j/\j<=i/\dj.size=d.size/\SWK enc k (W.alloc (.cells #[.func (.func g) #[] lb,.func (.func sf) #[] sb] (ρ.t 44))) blk off dj z /\
     insInner lt a j dj=insInner lt a i dk) (fun vj _=>(intOf vj).toNat)
   case atStart=>exact⟨i,dk,rfl,by omega,ar _,s,HW.out,rfl⟩
   case round=>
    obtain⟨j,dj,rfl,S,T,l,p,D⟩:=hrel
    have c0:=M.out dj _ p
    have HW2:Hid _:=p
    have HI:Hid (insInner lt a j dj=insInner lt a i dk):=D
    clear p D
    by_cases A:a<j
    ·have v:=LE.out dj _ j (j-1) HW2.out l (by omega) (by omega);rw[show (((j-1:Nat):Int))=(j:Int)-1 by omega]at v;cases m:lt dj[j]! dj[j-1]! with
     | true=>
      rw[m]at v;go_wp2_with (go_at_fn g;refine v.mono ?_;rintro e w' ⟨rfl,c⟩;have c1:=N.out dj _ c;have U:=SWp.out _ dj (c.holds n B.out l) l j (j-1) (by omega) (by omega);rw[show (((j-1:Nat):Int))=(j:Int)-1 by omega]at U;have HWn:Hid _:=c;clear c)
      go_roundw
      case rel=>
       refine⟨j-1,swp dj j (j-1),by congr 1;omega,by omega,by omega,by rw[size_swp];exact l,SWK.swap HWn.out hk n j (j-1) (by omega) (by omega),?_⟩
       rw[<- HI.out,insInner_go lt a j dj A m]
      case measure=>simp[intOf];omega
     | false=>
      rw[m]at v;go_wp2_with (go_at_fn g;refine v.mono ?_;rintro e w' ⟨rfl,c⟩;have HWn:Hid _:=c;clear c)
      go_roundw
      case rel=>exact⟨i+1,dj,by congr 1,by omega,by omega,l,HWn.out,by rw[<- HO.out,insOuter_go _ _ _ _ _ o,<- HI.out,insInner_stop _ _ _ _ (Or.inr m)]⟩
      case measure=>simp[intOf];omega
    ·go_wp2
     go_roundw
     case rel=>exact⟨i+1,dj,by congr 1,by omega,by omega,l,HW2.out,by rw[<- HO.out,insOuter_go _ _ _ _ _ o,<- HI.out,insInner_stop _ _ _ _ (Or.inl (by omega))]⟩
     case measure=>simp[intOf];omega
  ·go_wp2
   go_end0
   exact⟨rfl,by unfold Sort.insertionSort;rw[<- HO.out,insOuter_stop _ _ _ _ _ o];exact SWK.comp (SWK.alloc (SWK.start O.out) _) hblk HW.out s⟩
end Go.Proofs
/- Heaps, at elements of k cells, with a 'less' that may lay boxes of its own. -/
namespace Go.Proofs
open Go.Shelf Go.RowKit Go.Lib Go.Sort
variable {P:Program} {ρ:Ren} {α:Type} [Inhabited α] {enc:α->List Value} {k:Nat} {w0 w1 W W':World} {blk off:Nat} {dk dj d:Array α} {lt:α->α->Bool} {g sf:Nat} {lb sb:Array Value} {T:TypeId}
structure kF(P:Program)(enc:α->List Value)(k:Nat)(lt:α->α->Bool)(g:Nat)(lb:Array Value)(sf:Nat)(sb:Array Value)(blk off:Nat)(d:Array α)(W:World):Prop where
 hk:∀x,(enc x).length=k
 eg:∀args w,(callFunc g args).run P w=.ok (.enter g args) w
 less:jr P g lb enc k lt blk off d.size W
 swap:SwapSwapsK P sf sb enc k blk off d.size
 H:HoldsK enc k W blk off d
 b:blk<W.heap.size
 sz:d.size<4611686018427387904
theorem kF.on(h:kF P enc k lt g lb sf sb blk off d W)(c:SWK enc k W blk off dj w1)(a:dj.size=d.size):kF P enc k lt g lb sf sb blk off dj w1:=
 ⟨h.hk,h.eg,by rw[a];exact c.aeJ h.less h.b a,by rw[a];exact h.swap,c.holds h.b h.H a,c.lt h.b,by rw[a];exact h.sz⟩
abbrev iP(g:Nat)(lb:Array Value)(sf:Nat)(sb:Array Value)(T:TypeId):Obj:=.cells #[.func (.func g) #[] lb,.func (.func sf) #[] sb] T
theorem kF.box(h:kF P enc k lt g lb sf sb blk off d W)(T:TypeId):kF P enc k lt g lb sf sb blk off d (W.alloc (iP g lb sf sb T)):=h.on (SWK.alloc (SWK.start h.H) _) rfl
structure Dt(P:Program)(enc:α->List Value)(k:Nat)(lt:α->α->Bool)(g:Nat)(lb:Array Value)(sf:Nat)(sb:Array Value)(blk off:Nat)(T:TypeId)(n:Nat)(W:World):Prop where
 c0:∀(dj:Array α) (wr:World),SWK enc k (W.alloc (iP g lb sf sb T)) blk off dj wr->wr.cell? ⟨W.heap.size,0,none⟩=some (.func (.func g) #[] lb)
 c1:∀(dj:Array α) (wr:World),SWK enc k (W.alloc (iP g lb sf sb T)) blk off dj wr->wr.cell? ⟨W.heap.size,1,none⟩=some (.func (.func sf) #[] sb)
 less:∀(dj:Array α) (wr:World) (i j:Nat),SWK enc k (W.alloc (iP g lb sf sb T)) blk off dj wr->dj.size=n->i<n->j<n->Calls P g (#[.int .i64 i,.int .i64 j]++lb) wr fun e w'=>e=.returned (.bool (lt dj[i]! dj[j]!))/\SWK enc k (W.alloc (iP g lb sf sb T)) blk off dj w'
 swap:∀(dj:Array α) (wr:World) (i j:Nat),SWK enc k (W.alloc (iP g lb sf sb T)) blk off dj wr->dj.size=n->i<n->j<n->∃w',(callFunc sf (#[.int .i64 i,.int .i64 j]++sb)).run P wr=.ok (.value (.tuple #[])) w'/\SWK enc k (W.alloc (iP g lb sf sb T)) blk off (swp dj i j) w'
 fin:∀(dj:Array α) (wr:World),SWK enc k (W.alloc (iP g lb sf sb T)) blk off dj wr->dj.size=n->SWK enc k W blk off dj wr
 at':∀(dj:Array α) (wr:World),SWK enc k (W.alloc (iP g lb sf sb T)) blk off dj wr->dj.size=n->kF P enc k lt g lb sf sb blk off dj wr
 comp:∀(dj di:Array α) (wr wr':World),SWK enc k (W.alloc (iP g lb sf sb T)) blk off dj wr->SWK enc k wr blk off di wr'->di.size=dj.size->SWK enc k (W.alloc (iP g lb sf sb T)) blk off di wr'
theorem kF.dt(h:kF P enc k lt g lb sf sb blk off d W)(T:TypeId):Dt P enc k lt g lb sf sb blk off T d.size W:=by
 have f:=h.box T;have o:=h.b;refine⟨fun dj wr a=>?_,fun dj wr a=>?_,fun dj wr i j a c m n=>?_,fun dj wr i j a c m n=>?_,fun dj wr a c=>SWK.comp (SWK.alloc (SWK.start h.H) _) h.b a c,fun dj wr a c=>f.on a c,fun dj di wr wr' a l p=>SWK.comp a f.b l p⟩
 ·rw[a.cellAt (b:=W.heap.size) (by omega) (by rw[alloc_eq_grow,size_grow];simp)];simp
 ·rw[a.cellAt (b:=W.heap.size) (by omega) (by rw[alloc_eq_grow,size_grow];simp)];simp
 ·refine (a.lays f.less c i j m n).mono ?_;rintro e w' ⟨rfl,l⟩;exact⟨rfl,a.comp f.b l rfl⟩
 ·exact⟨_,h.swap wr dj (a.holds f.b f.H c) c i j m n,SWK.swap a h.hk f.b i j (by omega) (by omega)⟩
set_option maxHeartbeats 4000000 in
set_option maxRecDepth 1000000 in
theorem Uy(L:LaysGg.n34 P ρ)(lo j first:Nat)(h:kF P enc k lt g lb sf sb blk off d W)(s:lo<=j)(B:first+j<=d.size) :
  Calls P (ρ.f 34) #[.agg #[.func (.func g) #[] lb,.func (.func sf) #[] sb],.int .i64 lo,.int .i64 j,.int .i64 first] W fun e w'=>e=.returned (.tuple #[])/\SWK enc k W blk off (siftDown lt j first lo d) w':=by
 have mixed:=L.mixed;have t0:=L.t0;have a0:=L.a0;have z0:=L.z0;have v0:=L.v0;have t3:=L.t3;have a3:=L.a3;have z3:=L.z3;have v3:=L.v3;have t4:=L.t4;have a4:=L.a4;have z4:=L.z4;have v4:=L.v4;have t26:=L.t26;have a26:=L.a26;have z26:=L.z26;have v26:=L.v26;have t37:=L.t37;have a37:=L.a37;have z37:=L.z37;have v37:=L.v37;have t44:=L.t44;have a44:=L.a44;have z44:=L.z44;have v44:=L.v44;have u:=run_underlying L.t44;have eg:=h.eg;have v:=h.sz;have D:=h.dt (ρ.t 44);have w:Hid (SWK enc k (W.alloc (iP g lb sf sb (ρ.t 44))) blk off d (W.alloc (iP g lb sf sb (ρ.t 44)))):=SWK.start (h.box _).H;have HD:Hid _:=D;clear D h;go_enter L.f34,BodyGg.n34_ntmps ρ
 go_wp2
 go_loopg [8] (j-lo) (fun kx x wr=>∃(root:Nat) (dk:Array α),x=.int .i64 root/\root<=j/\j-root<=kx/\dk.size=d.size/\Hid (SWK enc k (W.alloc (iP g lb sf sb (ρ.t 44))) blk off dk wr)/\Hid (siftDown lt j first root dk=siftDown lt j first lo d))
 case atStart=>exact⟨lo,d,rfl,s,ar _,rfl,w,rfl⟩
 case round=>
  obtain⟨root,dk,rfl,C,y,c,HW,HE⟩:=hrel
  have c0:=HD.out.c0 dk _ HW.out
  by_cases z:j<=2*root+1
  ·have h0z:(j:Int)<=2*(root:Int)+1:=by omega
   go_wp2
   go_end0
   refine⟨rfl,?_⟩;rw[<- HE.out,sd_end lt dk z];exact HD.out.fin dk _ HW.out c
  have h0z:¬((j:Int)<=2*(root:Int)+1):=by omega
  have o:((first+(2*root+1):Nat):Int)=(first:Int)+(2*(root:Int)+1):=by omega
  have A:((first+(2*root+2):Nat):Int)=(first:Int)+(2*(root:Int)+1)+1:=by omega
  have e2':((first+(2*root+2):Nat):Int)=(first:Int)+(2*(root:Int)+1+1):=by omega
  have n:((first+root:Nat):Int)=(first:Int)+(root:Int):=by omega
  by_cases r:2*root+2<j
  ·have h1z:2*(root:Int)+1+1<(j:Int):=by omega
   have i:=HD.out.less dk _ (first+(2*root+1)) (first+(2*root+2)) HW.out c (by omega) (by omega);rw[o,A]at i;cases p:lt dk[first+(2*root+1)]! dk[first+(2*root+2)]! with
   | true=>
    rw[p]at i;cases m:lt dk[first+root]! dk[first+(2*root+2)]! with
    | true=>
     go_wp2_with (go_at_fn g;first
      | (refine i.mono ?_;rintro e w' ⟨rfl,a⟩;have c0':=HD.out.c0 dk _ a;have b:=HD.out.less dk _ (first+root) (first+(2*root+2)) a c (by omega) (by omega);rw[m,e2',n]at b;clear a i)
      | (refine b.mono ?_;rintro e w'' ⟨rfl,a⟩;have c1':=HD.out.c1 dk _ a;obtain⟨w3,q,l⟩:=HD.out.swap dk _ (first+root) (first+(2*root+2)) a c (by omega) (by omega);rw[e2',n]at q;have HW3:Hid _:=l;clear a l))
     go_roundg (j-(2*root+2))
     case measure=>omega
     case rel=>exact⟨2*root+2,swp dk (first+root) (first+(2*root+2)),by go_num,by omega,ar _,by rw[size_swp];exact c,HW3,(show Hid _ from by rw[<- HE.out,sd_right_go lt dk r p m];exact rfl)⟩
    | false=>
     go_wp2_with (go_at_fn g;first
      | (refine i.mono ?_;rintro e w' ⟨rfl,a⟩;have c0':=HD.out.c0 dk _ a;have b:=HD.out.less dk _ (first+root) (first+(2*root+2)) a c (by omega) (by omega);rw[m,e2',n]at b;clear a i)
      | (refine b.mono ?_;rintro e w'' ⟨rfl,a⟩;have HW3:Hid _:=a;clear a))
     (try simp only[Exit.inBlock,Exit.then]);refine bodyPost_ret (results_none rfl _ _ _) rfl ?_;refine⟨rfl,?_⟩;rw[<- HE.out,sd_right_stop lt dk r p m];exact HD.out.fin dk _ HW3.out c
   | false=>
    rw[p]at i;cases m:lt dk[first+root]! dk[first+(2*root+1)]! with
    | true=>
     go_wp2_with (go_at_fn g;first
      | (refine i.mono ?_;rintro e w' ⟨rfl,a⟩;have c0':=HD.out.c0 dk _ a;have b:=HD.out.less dk _ (first+root) (first+(2*root+1)) a c (by omega) (by omega);rw[m,o,n]at b;clear a i)
      | (refine b.mono ?_;rintro e w'' ⟨rfl,a⟩;have c1':=HD.out.c1 dk _ a;obtain⟨w3,q,l⟩:=HD.out.swap dk _ (first+root) (first+(2*root+1)) a c (by omega) (by omega);rw[o,n]at q;have HW3:Hid _:=l;clear a l))
     go_roundg (j-(2*root+1))
     case measure=>omega
     case rel=>exact⟨2*root+1,swp dk (first+root) (first+(2*root+1)),by go_num,by omega,ar _,by rw[size_swp];exact c,HW3,(show Hid _ from by rw[<- HE.out,sd_left_go lt dk (by omega) (fun _=>p) m];exact rfl)⟩
    | false=>
     go_wp2_with (go_at_fn g;first
      | (refine i.mono ?_;rintro e w' ⟨rfl,a⟩;have c0':=HD.out.c0 dk _ a;have b:=HD.out.less dk _ (first+root) (first+(2*root+1)) a c (by omega) (by omega);rw[m,o,n]at b;clear a i)
      | (refine b.mono ?_;rintro e w'' ⟨rfl,a⟩;have HW3:Hid _:=a;clear a))
     (try simp only[Exit.inBlock,Exit.then]);refine bodyPost_ret (results_none rfl _ _ _) rfl ?_;refine⟨rfl,?_⟩;rw[<- HE.out,sd_left_stop lt dk (by omega) (fun _=>p) m];exact HD.out.fin dk _ HW3.out c
  ·have h1z:¬(2*(root:Int)+1+1<(j:Int)):=by omega
   have b:=HD.out.less dk _ (first+root) (first+(2*root+1)) HW.out c (by omega) (by omega);rw[o,n]at b;cases m:lt dk[first+root]! dk[first+(2*root+1)]! with
   | true=>
    rw[m]at b;go_wp2_with (go_at_fn g;refine b.mono ?_;rintro e w'' ⟨rfl,a⟩;have c1':=HD.out.c1 dk _ a;obtain⟨w3,q,l⟩:=HD.out.swap dk _ (first+root) (first+(2*root+1)) a c (by omega) (by omega);rw[o,n]at q;have HW3:Hid _:=l;clear a l)
    go_roundg (j-(2*root+1))
    case measure=>omega
    case rel=>exact⟨2*root+1,swp dk (first+root) (first+(2*root+1)),by go_num,by omega,ar _,by rw[size_swp];exact c,HW3,(show Hid _ from by rw[<- HE.out,sd_left_go lt dk (by omega) (fun h=>absurd h r) m];exact rfl)⟩
   | false=>
    rw[m]at b;go_wp2_with (go_at_fn g;refine b.mono ?_;rintro e w'' ⟨rfl,a⟩;have HW3:Hid _:=a;clear a)
    (try simp only[Exit.inBlock,Exit.then]);refine bodyPost_ret (results_none rfl _ _ _) rfl ?_;refine⟨rfl,?_⟩;rw[<- HE.out,sd_left_stop lt dk (by omega) (fun h=>absurd h r) m];exact HD.out.fin dk _ HW3.out c
end Go.Proofs
/- Heap sort, at elements of k cells, with a 'less' that may lay boxes of its own; a function's own view of its box. -/
namespace Go.Proofs
open Go.Shelf Go.RowKit Go.Lib Go.Sort
variable {P:Program} {ρ:Ren} {α:Type} [Inhabited α] {enc:α->List Value} {k:Nat} {w0 w1 W W':World} {blk off:Nat} {dk dj d:Array α} {lt:α->α->Bool} {g sf:Nat} {lb sb:Array Value} {T:TypeId}
structure Bx(P:Program)(enc:α->List Value)(k:Nat)(lt:α->α->Bool)(g:Nat)(lb:Array Value)(sf:Nat)(sb:Array Value)(blk off n:Nat)(W:World)(S:Array α->World->Prop):Prop where
 c0:∀ {dj:Array α} {wr:World},S dj wr->wr.cell? ⟨W.heap.size,0,none⟩=some (.func (.func g) #[] lb)
 c1:∀ {dj:Array α} {wr:World},S dj wr->wr.cell? ⟨W.heap.size,1,none⟩=some (.func (.func sf) #[] sb)
 less:∀ {dj:Array α} {wr:World} (i j:Nat),S dj wr->dj.size=n->i<n->j<n->Calls P g (#[.int .i64 i,.int .i64 j]++lb) wr fun e w'=>e=.returned (.bool (lt dj[i]! dj[j]!))/\S dj w'
 swap:∀ {dj:Array α} {wr:World} (i j:Nat),S dj wr->dj.size=n->i<n->j<n->∃w',(callFunc sf (#[.int .i64 i,.int .i64 j]++sb)).run P wr=.ok (.value (.tuple #[])) w'/\S (swp dj i j) w'
 fin:∀ {dj:Array α} {wr:World},S dj wr->dj.size=n->SWK enc k W blk off dj wr
 at':∀ {dj:Array α} {wr:World},S dj wr->dj.size=n->kF P enc k lt g lb sf sb blk off dj wr
 comp:∀ {dj di:Array α} {wr wr':World},S dj wr->SWK enc k wr blk off di wr'->di.size=dj.size->S di wr'
theorem kF.bx(h:kF P enc k lt g lb sf sb blk off d W)(T:TypeId):∃S:Array α->World->Prop,Bx P enc k lt g lb sf sb blk off d.size W S/\S d (W.alloc (iP g lb sf sb T)):=
 have D:=h.dt T
 ⟨fun dk wr=>SWK enc k (W.alloc (iP g lb sf sb T)) blk off dk wr,⟨fun h=>D.c0 _ _ h,fun h=>D.c1 _ _ h,fun i j h=>D.less _ _ i j h,fun i j h=>D.swap _ _ i j h,fun h=>D.fin _ _ h,fun h=>D.at' _ _ h,fun h=>D.comp _ _ _ _ h⟩,SWK.start (h.box _).H⟩
set_option maxHeartbeats 4000000 in
set_option maxRecDepth 1000000 in
theorem Uz(L:LaysGg.n27 P ρ)(a b:Nat)(h:kF P enc k lt g lb sf sb blk off d W)(p:a<=b)(y:b<=d.size) :
  Calls P (ρ.f 27) #[.agg #[.func (.func g) #[] lb,.func (.func sf) #[] sb],.int .i64 a,.int .i64 b] W fun e w'=>e=.returned (.tuple #[])/\SWK enc k W blk off (heapSort lt d a b) w':=by
 have mixed:=L.mixed;have t0:=L.t0;have a0:=L.a0;have z0:=L.z0;have v0:=L.v0;have t3:=L.t3;have a3:=L.a3;have z3:=L.z3;have v3:=L.v3;have t4:=L.t4;have a4:=L.a4;have z4:=L.z4;have v4:=L.v4;have t26:=L.t26;have a26:=L.a26;have z26:=L.z26;have v26:=L.v26;have t37:=L.t37;have a37:=L.a37;have z37:=L.z37;have v37:=L.v37;have t44:=L.t44;have a44:=L.a44;have z44:=L.z44;have v44:=L.v44;have z:=run_underlying L.t44;have A:∀args w,(callFunc (ρ.f 34) args).run P w=.ok (.enter (ρ.f 34) args) w:=enters_of L.f34 (by kernel_rfl) rfl;have ecast:((b-a:Nat):Int)=(b:Int)-(a:Int):=by omega
 have B:=h.sz;obtain⟨S,o,v⟩:=h.bx (ρ.t 44);have HD:Hid _:=o;have C:Hid _:=v;have ss:∀(lo i:Nat) (dk:Array α),(siftDown lt i a lo dk).size=dk.size:=fun lo i dk=>size_siftDown lt _ _ _ _ _ (ar _)
 have SI:Hid (∀(lo i:Nat) (dk:Array α) (wr:World),S dk wr->dk.size=d.size->lo<=i->a+i<=d.size ->
   Calls P (ρ.f 34) #[.agg #[.func (.func g) #[] lb,.func (.func sf) #[] sb],.int .i64 lo,.int .i64 i,.int .i64 a] wr fun e w'=>e=.returned (.tuple #[])/\S (siftDown lt i a lo dk) w'):=fun lo i dk wr x q D y=>
  (Uy (P:=P) (ρ:=ρ) { L with } lo i a (o.at' x q) D (by omega)).mono fun e w' ⟨E,r⟩=>⟨E,o.comp x r (ss lo i dk)⟩
 clear o v h;go_enter L.f27,BodyGg.n27_ntmps ρ
 go_wp2
 go_loopg [9] ((b-a-1) / 2+1) (fun kx F wr=>F=.int .i64 ((kx:Int)-1)/\kx<=(b-a-1) / 2+1/\∃(dk:Array α),dk.size=d.size/\Hid (S dk wr)/\Hid (heapBuild lt (b-a) a kx dk=heapBuild lt (b-a) a ((b-a-1) / 2+1) d))
 case atStart=>exact⟨by rw[half_start p],ar _,d,rfl,C,rfl⟩
 case round=>
  obtain⟨rfl,n,dk,m,HW,HE⟩:=hrel
  have c0:=HD.out.c0 HW.out
  have c1:=HD.out.c1 HW.out
  cases gk with
  | zero=>
   have G:dk=heapBuild lt (b-a) a ((b-a-1) / 2+1) d:=HE.out
   clear HE n
   go_wp2
   go_loopg [10] (b-a) (fun kx s u=>s=.int .i64 ((kx:Int)-1)/\kx<=b-a/\∃(dj:Array α),dj.size=d.size/\Hid (S dj u)/\Hid (heapPop lt a kx dj=heapPop lt a (b-a) dk))
   case atStart=>exact⟨by rw[ecast],ar _,dk,m,HW,rfl⟩
   case round=>
    clear HW c0 c1
    obtain⟨rfl,n,dj,j,HW,HE2⟩:=hrel
    have c0:=HD.out.c0 HW.out
    have c1:=HD.out.c1 HW.out
    cases gk with
    | zero=>
     go_wp2
     go_end0
     have e:dj=heapSort lt d a b:=by rw[heapSort,<- G,<- HE2.out];rfl
     rw[<- e]
     exact⟨rfl,HD.out.fin HW.out j⟩
    | succ kx=>
     obtain⟨w2,q,l⟩:=HD.out.swap a (a+kx) HW.out j (by omega) (by omega)
     rw[show ((a+kx:Nat):Int)=(a:Int)+(kx:Int) by omega]at q
     have c0':=HD.out.c0 l
     have c1':=HD.out.c1 l
     have hcall:=SI.out 0 kx _ w2 l (by rw[size_swp];exact j) (Nat.zero_le _) (by omega)
     clear l
     go_wp2_with (go_at_fn (ρ.f 34);refine hcall.mono ?_;rintro e w1 ⟨rfl,c⟩;have HW1:Hid _:=c;clear c)
     go_roundg kx
     case measure=>omega
     case rel=>exact⟨by simp,by omega,siftDown lt kx a 0 (swp dj a (a+kx)),by rw[ss,size_swp,j],HW1,HE2⟩
  | succ kx=>
   have hcall:=SI.out kx (b-a) dk wr HW.out m (by omega) (by omega)
   rw[ecast]at hcall
   go_wp2_with (go_at_fn (ρ.f 34);refine hcall.mono ?_;rintro e w1 ⟨rfl,c⟩;have HW1:Hid _:=c;clear c)
   go_roundg kx
   case measure=>omega
   case rel=>exact⟨by simp,by omega,siftDown lt (b-a) a kx dk,by rw[ss,m],HW1,HE⟩
end Go.Proofs
/- Medians and the pivot, at elements of k cells, with a 'less' that may lay boxes of its own. -/
namespace Go.Proofs
open Go.Shelf Go.RowKit Go.Lib Go.Sort
variable {P:Program} {ρ:Ren} {α:Type} [Inhabited α] {enc:α->List Value} {k:Nat} {w0 w1 w2 w W W':World} {blk off cb co s s0 t:Nat} {dk dj d:Array α} {lt:α->α->Bool} {g sf:Nat} {lb sb:Array Value} {T:TypeId}
theorem SWK.plain(h:HoldsK enc k W blk off d)(a:SWK enc k W blk off d w):∃n os,w=grow (Sort.ahead W n) os:=by
 obtain⟨n,os,rfl⟩:=a;exact⟨n,os,by unfold sortWorldK;rw[putRowK_self enc k _ blk off d (holdsK_ahead enc k W n blk off d h)]⟩
def CW(W:World)(cb co s:Nat)(w:World):Prop:=∃n os,w=sortWorld (Value.int .i64) W cb co n (one s) os
theorem CW.start(a:Holds (Value.int .i64) W cb co (one s)):CW W cb co s W:=⟨0,#[],(sortWorld_start _ _ cb co _ a).symm⟩
theorem CW.trans(h:CW W cb co s w1)(a:cb<W.heap.size)(b:CW w1 cb co t w2):CW W cb co t w2:=by
 obtain⟨n,os,rfl⟩:=h;obtain⟨n',os',rfl⟩:=b;exact⟨_,_,sortWorld_on _ _ cb co n n' _ _ os os' a rfl⟩
theorem CW.holds(h:CW W cb co s w)(b:Holds (Value.int .i64) W cb co (one s0))(a:cb<W.heap.size):Holds (Value.int .i64) w cb co (one s):=by
 obtain⟨n,os,rfl⟩:=h;exact holds_sortWorld _ _ cb co n (one s0) _ os a b rfl
theorem CW.small(h:CW W cb co s w)(a:cb<W.heap.size):cb<w.heap.size:=by
 obtain⟨n,os,rfl⟩:=h;exact lt_sortWorld _ _ cb co n _ os a
theorem CW.grown(a:Holds (Value.int .i64) W cb co (one s))(h:∃n os,w=grow (Sort.ahead W n) os):CW W cb co s w:=by
 obtain⟨n,os,rfl⟩:=h;exact⟨n,os,by unfold sortWorld;rw[putRow_self _ _ _ _ _ (holds_ahead _ W n cb co _ a)]⟩
theorem CW.set(a:Holds (Value.int .i64) W cb co (one s))(t:Nat):CW W cb co t (W.setCell ⟨cb,co,none⟩ (.int .i64 t)):=
 ⟨0,#[],by unfold sortWorld;rw[<- one_set (holds_ahead _ W 0 cb co _ a) t,grow_empty,ahead_zero]⟩
theorem CW.alloc{o:Obj}(h:CW (W.alloc o) cb co s w)(a:cb<W.heap.size):CW W cb co s w:=by
 obtain⟨n,os,rfl⟩:=h;exact⟨_,_,sortWorld_alloc _ W _ cb co _ _ _ a⟩
theorem CW.cellAt{b o:Nat}(h:CW W cb co s w)(c:b≠cb)(a:b<W.heap.size):w.cell? ⟨b,o,none⟩=W.cell? ⟨b,o,none⟩:=by
 obtain⟨n,os,rfl⟩:=h;unfold sortWorld;rw[cell?_grow _ _ _ (by show b<(putRow _ _ _ _ _).heap.size;rw[size_putRow];exact a),cell?_putRow_other _ _ cb co _ _ (Or.inl c)];rfl
theorem SWK.cw(h:SWK enc k w0 blk off d W)(a:w0.heap.size<=cb)(c:CW W cb co s w):SWK enc k w0 blk off d w:=by
 obtain⟨m,b,rfl⟩:=h;obtain⟨n,os,rfl⟩:=c;unfold sortWorld sortWorldK;rw[ahead_grow];obtain⟨os',_,e⟩:=putRow_grow_new (Value.int .i64) (Sort.ahead (putRowK enc k (Sort.ahead w0 m) blk off d) n) b cb co (one s) (by show (putRowK enc k (Sort.ahead w0 m) blk off d).heap.size<=cb;rw[size_putRowK];exact a);rw[e,grow_grow];exact⟨m+n,_,by unfold sortWorldK;rw[<- putRowK_drewN enc k w0 m n blk off d];rfl⟩
set_option maxHeartbeats 1000000 in
set_option maxRecDepth 100000 in
theorem Za(L:LaysGg.n39 P ρ)(a b cb co s:Nat)(h:kF P enc k lt g lb sf sb blk off d W)(r:a<d.size)(u:b<d.size)(n:Holds (Value.int .i64) W cb co (one s))(j:cb<W.heap.size)(x:s<4611686018427387904) :
  Calls P (ρ.f 39) #[.agg #[.func (.func g) #[] lb,.func (.func sf) #[] sb],.int .i64 a,.int .i64 b,.pointer (some ⟨cb,co,none⟩)] W fun e w'=>
   e=.returned (.tuple #[.int .i64 (order2 lt d a b s).1,.int .i64 (order2 lt d a b s).2.1])/\CW W cb co (order2 lt d a b s).2.2 w':=by
 have mixed:=L.mixed;have t0:=L.t0;have a0:=L.a0;have z0:=L.z0;have v0:=L.v0;have t3:=L.t3;have a3:=L.a3;have z3:=L.z3;have v3:=L.v3;have t4:=L.t4;have a4:=L.a4;have z4:=L.z4;have v4:=L.v4;have t26:=L.t26;have a26:=L.a26;have z26:=L.z26;have v26:=L.v26;have t37:=L.t37;have a37:=L.a37;have z37:=L.z37;have v37:=L.v37;have t44:=L.t44;have a44:=L.a44;have z44:=L.z44;have v44:=L.v44;have t64:=L.t64;have a64:=L.a64;have z64:=L.z64;have v64:=L.v64;have v:=run_underlying L.t44;have eg:=h.eg;obtain⟨S,o,l⟩:=h.bx (ρ.t 44);have m:=o.less b a l rfl u r;have HC:Hid (∀w',S d w'->CW W cb co s w'):=fun w' w=>CW.grown n (SWK.plain h.H (o.fin w rfl))
 have HS:Hid _:=n;clear o l h n;go_enter L.f39,BodyGg.n39_ntmps ρ
 cases i:lt d[b]! d[a]! with
 | true=>
  rw[i]at m;have p:order2 lt d a b s=(b,a,s+1):=by simp[order2,i]
  go_wp2_with (go_at_fn g;refine m.mono ?_;rintro e w' ⟨rfl,c⟩;have hc:=HC.out _ c;obtain⟨cs,fs⟩:=one_cell (hc.holds HS.out j);have HC':Hid (CW W cb co s w'):=hc;clear c hc)
  go_ret2
  rw[p];have q:=CW.set (HC'.out.holds HS.out j) (s+1);rw[show ((s+1:Nat):Int)=(s:Int)+1 by omega]at q;exact⟨rfl,HC'.out.trans j q⟩
 | false=>
  rw[i]at m;have p:order2 lt d a b s=(a,b,s):=by simp[order2,i]
  go_wp2_with (go_at_fn g;refine m.mono ?_;rintro e w' ⟨rfl,c⟩;have hc:=HC.out _ c;have HC':Hid (CW W cb co s w'):=hc;clear c hc)
  go_ret2
  rw[p];exact⟨rfl,HC'.out⟩
set_option maxHeartbeats 1000000 in
set_option maxRecDepth 100000 in
theorem Np(L:LaysGg.n38 P ρ)(a b c cb co s:Nat)(h:kF P enc k lt g lb sf sb blk off d w0)(D:SWK enc k w0 blk off d W)(E:a<d.size)(F:b<d.size)(hc:c<d.size)
  (G:Holds (Value.int .i64) W cb co (one s)) (p:w0.heap.size<=cb) (q:cb<W.heap.size) (S:s+3<4611686018427387904) :
  Calls P (ρ.f 38) #[.agg #[.func (.func g) #[] lb,.func (.func sf) #[] sb],.int .i64 a,.int .i64 b,.int .i64 c,.pointer (some ⟨cb,co,none⟩)] W fun e w'=>
   e=.returned (.int .i64 (median lt d a b c s).1)/\CW W cb co (median lt d a b c s).2 w':=by
 have mixed:=L.mixed;have t0:=L.t0;have a0:=L.a0;have z0:=L.z0;have v0:=L.v0;have t3:=L.t3;have a3:=L.a3;have z3:=L.z3;have v3:=L.v3;have t4:=L.t4;have a4:=L.a4;have z4:=L.z4;have v4:=L.v4;have t26:=L.t26;have a26:=L.a26;have z26:=L.z26;have v26:=L.v26;have t37:=L.t37;have a37:=L.a37;have z37:=L.z37;have v37:=L.v37;have t44:=L.t44;have a44:=L.a44;have z44:=L.z44;have v44:=L.v44;have t64:=L.t64;have a64:=L.a64;have z64:=L.z64;have v64:=L.v64;have t67:=L.t67;have a67:=L.a67;have z67:=L.z67;have v67:=L.v67;have H:=run_underlying L.t44;have I:∀args w,(callFunc (ρ.f 39) args).run P w=.ok (.enter (ρ.f 39) args) w:=enters_of L.f39 (by kernel_rfl) rfl;have y:=order2_lt' lt d s E F;have T:=order2_swaps' lt d a b s;have J:=order2_lt' lt d (order2 lt d a b s).2.2 y.2 hc;have s2:=order2_swaps' lt d (order2 lt d a b s).2.1 c (order2 lt d a b s).2.2;have r:=D.alloc (iP g lb sf sb (ρ.t 44));have n:Holds (Value.int .i64) (W.alloc (iP g lb sf sb (ρ.t 44))) cb co (one s):=by rw[alloc_eq_grow];exact holds_grow _ W _ cb co _ q G
 have o:cb<(W.alloc (iP g lb sf sb (ρ.t 44))).heap.size:=by rw[alloc_eq_grow,size_grow];omega
 obtain⟨C,i⟩:∃C:Nat->World->Prop,∀t w,C t w↔CW (W.alloc (iP g lb sf sb (ρ.t 44))) cb co t w:=⟨_,fun _ _=>Iff.rfl⟩;have step:∀(t a' b':Nat) (w:World),C t w->a'<d.size->b'<d.size->t<4611686018427387904 ->
   Calls P (ρ.f 39) #[.agg #[.func (.func g) #[] lb,.func (.func sf) #[] sb],.int .i64 a',.int .i64 b',.pointer (some ⟨cb,co,none⟩)] w fun e w'=>
    e=.returned (.tuple #[.int .i64 (order2 lt d a' b' t).1,.int .i64 (order2 lt d a' b' t).2.1])/\C (order2 lt d a' b' t).2.2 w':=fun t a' b' w j z A K=>
  (Za (P:=P) (ρ:=ρ) { L with } a' b' cb co t (h.on (r.cw p ((i _ _).1 j)) rfl) z A (((i _ _).1 j).holds n o) (((i _ _).1 j).small o) K).mono
   fun _ _ ⟨M,B⟩=>⟨M,(i _ _).2 (((i _ _).1 j).trans o B)⟩
 have N:Hid (C s (W.alloc (iP g lb sf sb (ρ.t 44)))):=(i _ _).2 (CW.start n);have u:Hid (∀t w,C t w->w.cell? ⟨W.heap.size,0,none⟩=some (.func (.func g) #[] lb)):=fun t w j=>by
  rw[((i _ _).1 j).cellAt (by omega) (by rw[alloc_eq_grow,size_grow];simp)];simp
 have v:Hid (∀t w,C t w->w.cell? ⟨W.heap.size,1,none⟩=some (.func (.func sf) #[] sb)):=fun t w j=>by
  rw[((i _ _).1 j).cellAt (by omega) (by rw[alloc_eq_grow,size_grow];simp)];simp
 have ST:Hid _:=step;have FN:Hid (∀t w,C t w->CW W cb co t w):=fun t w j=>((i _ _).1 j).alloc q
 clear G n h D r step i;go_enter L.f38,BodyGg.n38_ntmps ρ
 go_wp2_with (go_at_fn_of (ρ.f 39) (Value.int .i64 (b:Int));refine (ST.out s a b _ N.out E F (by omega)).mono ?_;rintro e w1 ⟨rfl,l⟩;have U:=u.out _ _ l;have V:=v.out _ _ l;have O:Hid _:=l;clear l)
 go_wp2_with (go_at_fn_of (ρ.f 39) (Value.int .i64 (c:Int));refine (ST.out _ _ c _ O.out y.2 hc (by omega)).mono ?_;rintro e w2 ⟨rfl,m⟩;have X:=u.out _ _ m;have Y:=v.out _ _ m;have Q:Hid _:=m;clear m)
 go_wp2_with (go_at_fn_of (ρ.f 39) (Value.int .i64 ((order2 lt d a b s).1:Int));refine (ST.out _ _ _ _ Q.out y.1 J.1 (by omega)).mono ?_;rintro e w3 ⟨rfl,x⟩;have R:Hid _:=x;clear x)
 go_ret
 exact⟨rfl,FN.out _ _ R.out⟩
set_option maxHeartbeats 1000000 in
set_option maxRecDepth 100000 in
theorem DT(L:LaysGg.n37 P ρ)(a cb co s:Nat)(h:kF P enc k lt g lb sf sb blk off d w0)(l:SWK enc k w0 blk off d W)(o:1<=a)(j:a+1<d.size)
  (m:Holds (Value.int .i64) W cb co (one s)) (b:w0.heap.size<=cb) (c:cb<W.heap.size) (p:s+3<4611686018427387904) :
  Calls P (ρ.f 37) #[.agg #[.func (.func g) #[] lb,.func (.func sf) #[] sb],.int .i64 a,.pointer (some ⟨cb,co,none⟩)] W fun e w'=>
   e=.returned (.int .i64 (medianAdjacent lt d a s).1)/\CW W cb co (medianAdjacent lt d a s).2 w':=by
 have mixed:=L.mixed;have t0:=L.t0;have a0:=L.a0;have z0:=L.z0;have v0:=L.v0;have t3:=L.t3;have a3:=L.a3;have z3:=L.z3;have v3:=L.v3;have t4:=L.t4;have a4:=L.a4;have z4:=L.z4;have v4:=L.v4;have t26:=L.t26;have a26:=L.a26;have z26:=L.z26;have v26:=L.v26;have t37:=L.t37;have a37:=L.a37;have z37:=L.z37;have v37:=L.v37;have t44:=L.t44;have a44:=L.a44;have z44:=L.z44;have v44:=L.v44;have t64:=L.t64;have a64:=L.a64;have z64:=L.z64;have v64:=L.v64;have t67:=L.t67;have a67:=L.a67;have z67:=L.z67;have v67:=L.v67;have q:=run_underlying L.t44;have r:∀args w,(callFunc (ρ.f 38) args).run P w=.ok (.enter (ρ.f 38) args) w:=enters_of L.f38 (by kernel_rfl) rfl;have u:=h.sz;have n:=Np (P:=P) (ρ:=ρ) { L with } (a-1) a (a+1) cb co s h (l.alloc (iP g lb sf sb (ρ.t 44))) (by omega) (by omega) j
  (by rw[alloc_eq_grow];exact holds_grow _ W _ cb co _ c m) b (by rw[alloc_eq_grow,size_grow];omega) p
 rw[show ((a-1:Nat):Int)=(a:Int)-1 by omega,show ((a+1:Nat):Int)=(a:Int)+1 by omega]at n;clear m h l;go_enter L.f37,BodyGg.n37_ntmps ρ
 go_wp2_with (go_at_fn (ρ.f 38);refine n.mono ?_;rintro e w' ⟨rfl,i⟩;have HW:Hid (CW (W.alloc (iP g lb sf sb (ρ.t 44))) cb co (median lt d (a-1) a (a+1) s).2 w'):=i;clear i)
 go_ret
 exact⟨rfl,HW.out.alloc c⟩
end Go.Proofs
/- The pivot, at elements of k cells, with a 'less' that may lay boxes of its own. -/
namespace Go.Proofs
open Go.Shelf Go.RowKit Go.Lib Go.Sort
variable {P:Program} {ρ:Ren} {α:Type} [Inhabited α] {enc:α->List Value} {k:Nat} {w0 w1 w2 w W W':World} {blk off cb co s s0 t:Nat} {dk dj d:Array α} {lt:α->α->Bool} {g sf:Nat} {lb sb:Array Value} {T:TypeId}
theorem ab3(L:LaysGg.n29 P ρ)(h:kF P enc k lt g lb sf sb blk off d W):∃C:Nat->World->Prop,
  C 0 ((W.alloc (iP g lb sf sb (ρ.t 44))).alloc (.cells #[.int .i64 0] (ρ.t 3))) /\
  (∀t w,C t w->w.cell? ⟨W.heap.size+1,0,none⟩=some (.int .i64 t)) /\
  (∀t w,C t w->w.cell? ⟨W.heap.size,0,none⟩=some (.func (.func g) #[] lb)) /\
  (∀t w,C t w->w.cell? ⟨W.heap.size,1,none⟩=some (.func (.func sf) #[] sb)) /\
  (∀t w,C t w->∃n os,w=grow (Sort.ahead W n) os) /\
  (∀x t w,C t w->1<=x->x+1<d.size->t+3<4611686018427387904->Calls P (ρ.f 37) #[.agg #[.func (.func g) #[] lb,.func (.func sf) #[] sb],.int .i64 x,.pointer (some ⟨W.heap.size+1,0,none⟩)] w fun e w'=>e=.returned (.int .i64 (medianAdjacent lt d x t).1)/\C (medianAdjacent lt d x t).2 w') /\
  (∀x y z t w,C t w->x<d.size->y<d.size->z<d.size->t+3<4611686018427387904->Calls P (ρ.f 38) #[.agg #[.func (.func g) #[] lb,.func (.func sf) #[] sb],.int .i64 x,.int .i64 y,.int .i64 z,.pointer (some ⟨W.heap.size+1,0,none⟩)] w fun e w'=>e=.returned (.int .i64 (median lt d x y z t).1)/\C (median lt d x y z t).2 w'):=by
 have c:Holds (Value.int .i64) ((W.alloc (iP g lb sf sb (ρ.t 44))).alloc (.cells #[.int .i64 0] (ρ.t 3))) (W.heap.size+1) 0 (one 0):=fun j p=>by
  have:j=0:=by simp at p;omega
  subst this;exact⟨by rw[World.cell?_alloc_at _ _ _ _ (by simp)];rfl,World.frozen?_alloc_at _ _ _ _ (by simp)⟩
 have a:W.heap.size+1<((W.alloc (iP g lb sf sb (ρ.t 44))).alloc (.cells #[.int .i64 0] (ρ.t 3))).heap.size:=by simp
 have i:SWK enc k W blk off d ((W.alloc (iP g lb sf sb (ρ.t 44))).alloc (.cells #[.int .i64 0] (ρ.t 3))):=((SWK.start h.H).alloc _).alloc _;have bx:∀(kx:Nat) (v:Value),((W.alloc (iP g lb sf sb (ρ.t 44))).alloc (.cells #[.int .i64 0] (ρ.t 3))).cell? ⟨W.heap.size,kx,none⟩=some v->∀t w,CW ((W.alloc (iP g lb sf sb (ρ.t 44))).alloc (.cells #[.int .i64 0] (ρ.t 3))) (W.heap.size+1) 0 t w->w.cell? ⟨W.heap.size,kx,none⟩=some v:=fun kx v q t w b=>by
  rw[b.cellAt (by omega) (by simp;omega)];exact q
 refine⟨fun t w=>CW ((W.alloc (iP g lb sf sb (ρ.t 44))).alloc (.cells #[.int .i64 0] (ρ.t 3))) (W.heap.size+1) 0 t w,CW.start c,fun t w b=>(one_cell (b.holds c a)).1,
  bx 0 _ (by rw[World.cell?_alloc_past _ _ _ (by simp)];simp),bx 1 _ (by rw[World.cell?_alloc_past _ _ _ (by simp)];simp),fun t w b=>?_,fun x t w b r s m=>?_,fun x y z t w b u A B m=>?_⟩
 ·exact SWK.plain h.H (i.cw (by omega) b)
 ·exact (DT (P:=P) (ρ:=ρ) { L with } x (W.heap.size+1) 0 t h (i.cw (by omega) b) r s (b.holds c a) (by omega) (b.small a) m).mono fun _ _ ⟨o,l⟩=>⟨o,b.trans a l⟩
 ·exact (Np (P:=P) (ρ:=ρ) { L with } x y z (W.heap.size+1) 0 t h (i.cw (by omega) b) u A B (b.holds c a) (by omega) (b.small a) m).mono fun _ _ ⟨o,l⟩=>⟨o,b.trans a l⟩
set_option maxHeartbeats 2000000 in
set_option maxRecDepth 100000 in
theorem JO(L:LaysGg.n29 P ρ)(a b:Nat)(h:kF P enc k lt g lb sf sb blk off d W)(hab:a<b)(hb:b<=d.size) :
  Calls P (ρ.f 29) #[.agg #[.func (.func g) #[] lb,.func (.func sf) #[] sb],.int .i64 a,.int .i64 b] W fun e w'=>
   e=.returned (.tuple #[.int .i64 (choosePivot lt d a b).1,.int .i64 (hintCode (choosePivot lt d a b).2)])/\∃n os,w'=grow (Sort.ahead W n) os:=by
 obtain⟨C,U,cS,V,X,Y,MA,MD⟩:=ab3 L h;have hsz:=h.sz;clear h;have mixed:=L.mixed;have t0:=L.t0;have a0:=L.a0;have z0:=L.z0;have v0:=L.v0;have t3:=L.t3;have a3:=L.a3;have z3:=L.z3;have v3:=L.v3;have t4:=L.t4;have a4:=L.a4;have z4:=L.z4;have v4:=L.v4;have t26:=L.t26;have a26:=L.a26;have z26:=L.z26;have v26:=L.v26;have t37:=L.t37;have a37:=L.a37;have z37:=L.z37;have v37:=L.v37;have t44:=L.t44;have a44:=L.a44;have z44:=L.z44;have v44:=L.v44;have t53:=L.t53;have a53:=L.a53;have z53:=L.z53;have v53:=L.v53;have t64:=L.t64;have a64:=L.a64;have z64:=L.z64;have v64:=L.v64;have t67:=L.t67;have a67:=L.a67;have z67:=L.z67;have v67:=L.v67;have u44:=run_underlying L.t44;have e37:∀args w,(callFunc (ρ.f 37) args).run P w=.ok (.enter (ρ.f 37) args) w:=enters_of L.f37 (by kernel_rfl) rfl;have e38:∀args w,(callFunc (ρ.f 38) args).run P w=.ok (.enter (ρ.f 38) args) w:=enters_of L.f38 (by kernel_rfl) rfl;have E:Hid _:=U;have Z:Hid _:=cS;have F:Hid _:=V;have G:Hid _:=X;have HG:Hid _:=Y;have HA:Hid _:=MA;have HM:Hid _:=MD;clear U cS V X Y MA MD;rw[choosePivot_eq];obtain⟨I,z⟩:∃I:Nat,I=a+(b-a) / 4*1:=⟨_,rfl⟩;obtain⟨J,t⟩:∃J:Nat,J=a+(b-a) / 4*2:=⟨_,rfl⟩;obtain⟨K,A⟩:∃K:Nat,K=a+(b-a) / 4*3:=⟨_,rfl⟩;have eI:((a:Int)+((b:Int)-(a:Int)) / 4)=(I:Int):=by omega
 have eJ:((a:Int)+((b:Int)-(a:Int)) / 4*2)=(J:Int):=by omega
 have eK:((a:Int)+((b:Int)-(a:Int)) / 4*3)=(K:Int):=by omega
 by_cases H:b-a>=8
 ·by_cases B:b-a>=50
  ·obtain⟨u,o,j⟩:∃u o,medianAdjacent lt d I 0=(u,o):=⟨_,_,rfl⟩;obtain⟨v,s2,l⟩:∃v s2,medianAdjacent lt d J o=(v,s2):=⟨_,_,rfl⟩;obtain⟨x,y,D⟩:∃x y,medianAdjacent lt d K s2=(x,y):=⟨_,_,rfl⟩;obtain⟨p,s,q⟩:∃p s,median lt d u v x y=(p,s):=⟨_,_,rfl⟩;have hraw:rawPivot lt d a b=(p,s):=by simp only[rawPivot,if_pos H,if_pos B,<- z,<- t,<- A,j,l,D,q]
   have M:=medianAdjacent_mem lt d I 0;rw[j]at M;have N:=medianAdjacent_mem lt d J o;rw[l]at N;have O:=medianAdjacent_mem lt d K s2;rw[D]at O;have n1:=medianAdjacent_count lt d I 0;rw[j]at n1;have n2:=medianAdjacent_count lt d J o;rw[l]at n2;have n3:=medianAdjacent_count lt d K s2;rw[D]at n3;simp only[]at M N O n1 n2 n3;have q1:Hid (∀w,C 0 w->Calls P (ρ.f 37) #[.agg #[.func (.func g) #[] lb,.func (.func sf) #[] sb],.int .i64 (I:Int),.pointer (some ⟨W.heap.size+1,0,none⟩)] w fun e w'=>e=.returned (.int .i64 (u:Int))/\C o w'):=fun w m=>by
    have h:=HA.out I 0 w m (by omega) (by omega) (by omega);rw[j]at h;exact h
   have q2:Hid (∀w,C o w->Calls P (ρ.f 37) #[.agg #[.func (.func g) #[] lb,.func (.func sf) #[] sb],.int .i64 (J:Int),.pointer (some ⟨W.heap.size+1,0,none⟩)] w fun e w'=>e=.returned (.int .i64 (v:Int))/\C s2 w'):=fun w m=>by
    have h:=HA.out J o w m (by omega) (by omega) (by omega);rw[l]at h;exact h
   have q3:Hid (∀w,C s2 w->Calls P (ρ.f 37) #[.agg #[.func (.func g) #[] lb,.func (.func sf) #[] sb],.int .i64 (K:Int),.pointer (some ⟨W.heap.size+1,0,none⟩)] w fun e w'=>e=.returned (.int .i64 (x:Int))/\C y w'):=fun w m=>by
    have h:=HA.out K s2 w m (by omega) (by omega) (by omega);rw[D]at h;exact h
   have Q:Hid (∀w,C y w->Calls P (ρ.f 38) #[.agg #[.func (.func g) #[] lb,.func (.func sf) #[] sb],.int .i64 (u:Int),.int .i64 (v:Int),.int .i64 (x:Int),.pointer (some ⟨W.heap.size+1,0,none⟩)] w fun e w'=>e=.returned (.int .i64 (p:Int))/\C s w'):=fun w m=>by
    have h:=HM.out u v x y w m (by omega) (by omega) (by omega) (by omega);rw[q]at h;exact h
   rw[hraw];obtain⟨Hc,hHc⟩:∃Hc:Int,Hc=hintCode (hintOf s):=⟨_,rfl⟩;have i:s=0->Hc=1:=fun h=>by rw[hHc,h];rfl
   have hh12:s=12->Hc=2:=fun h=>by rw[hHc,h];rfl
   have r:s≠0->s≠12->Hc=0:=fun j l=>by rw[hHc];unfold hintOf;rw[if_neg j,if_neg l];rfl
   show Calls P (ρ.f 29) _ W fun e w'=>e=.returned (.tuple #[.int .i64 (p:Int),.int .i64 (hintCode (hintOf s))])/\∃n os,w'=grow (Sort.ahead W n) os
   rw[<- hHc];clear hHc hraw;clear j l D q HA HM z t A M N O;go_enter L.f29,BodyGg.n29_ntmps ρ
   go_wp2_with (go_at_fn_of (ρ.f 37) (Value.int .i64 (I:Int));refine (q1.out _ E.out).mono ?_;rintro e w1 ⟨rfl,c⟩;have x0:=F.out _ _ c;have x1:=G.out _ _ c;have H1:Hid _:=c;clear c)
   go_wp2_with (go_at_fn_of (ρ.f 37) (Value.int .i64 (J:Int));refine (q2.out _ H1.out).mono ?_;rintro e w2 ⟨rfl,c⟩;have y0:=F.out _ _ c;have y1:=G.out _ _ c;have H2:Hid _:=c;clear c)
   go_wp2_with (go_at_fn_of (ρ.f 37) (Value.int .i64 (K:Int));refine (q3.out _ H2.out).mono ?_;rintro e w3 ⟨rfl,c⟩;have z0':=F.out _ _ c;have z1':=G.out _ _ c;have H3:Hid _:=c;clear c)
   go_wp2_with (go_at_fn (ρ.f 38);refine (Q.out _ H3.out).mono ?_;rintro e w4 ⟨rfl,c⟩;have xs:=Z.out _ _ c;have R:Hid _:=c;clear c)
   all_goals
    go_ret2
    refine⟨?_,HG.out _ _ R.out⟩
    first
     | (have S:(s:Int)=0:=of_beq_int (by assumption)
        rw[i (by omega)];rfl)
     | (have T:(s:Int)=12:=of_beq_int (by assumption)
        rw[hh12 (by omega)];rfl)
     | (have S:(s:Int)≠0:=of_bne_int (by assumption)
        have T:(s:Int)≠12:=of_bne_int (by assumption)
        rw[r (by omega) (by omega)];rfl)
     | (rw[i (by omega)];rfl)
  ·obtain⟨p,s,q⟩:∃p s,median lt d I J K 0=(p,s):=⟨_,_,rfl⟩;have hraw:rawPivot lt d a b=(p,s):=by simp only[rawPivot,if_pos H,if_neg B,<- z,<- t,<- A,q]
   have Q:Hid (∀w,C 0 w->Calls P (ρ.f 38) #[.agg #[.func (.func g) #[] lb,.func (.func sf) #[] sb],.int .i64 (I:Int),.int .i64 (J:Int),.int .i64 (K:Int),.pointer (some ⟨W.heap.size+1,0,none⟩)] w fun e w'=>e=.returned (.int .i64 (p:Int))/\C s w'):=fun w m=>by
    have h:=HM.out I J K 0 w m (by omega) (by omega) (by omega) (by omega);rw[q]at h;exact h
   rw[hraw];obtain⟨Hc,hHc⟩:∃Hc:Int,Hc=hintCode (hintOf s):=⟨_,rfl⟩;have i:s=0->Hc=1:=fun h=>by rw[hHc,h];rfl
   have hh12:s=12->Hc=2:=fun h=>by rw[hHc,h];rfl
   have r:s≠0->s≠12->Hc=0:=fun j l=>by rw[hHc];unfold hintOf;rw[if_neg j,if_neg l];rfl
   show Calls P (ρ.f 29) _ W fun e w'=>e=.returned (.tuple #[.int .i64 (p:Int),.int .i64 (hintCode (hintOf s))])/\∃n os,w'=grow (Sort.ahead W n) os
   rw[<- hHc];clear hHc hraw;clear q HA HM z t A;go_enter L.f29,BodyGg.n29_ntmps ρ
   go_wp2_with (go_at_fn (ρ.f 38);refine (Q.out _ E.out).mono ?_;rintro e w4 ⟨rfl,c⟩;have xs:=Z.out _ _ c;have R:Hid _:=c;clear c)
   all_goals
    go_ret2
    refine⟨?_,HG.out _ _ R.out⟩
    first
     | (have S:(s:Int)=0:=of_beq_int (by assumption)
        rw[i (by omega)];rfl)
     | (have T:(s:Int)=12:=of_beq_int (by assumption)
        rw[hh12 (by omega)];rfl)
     | (have S:(s:Int)≠0:=of_bne_int (by assumption)
        have T:(s:Int)≠12:=of_bne_int (by assumption)
        rw[r (by omega) (by omega)];rfl)
     | (rw[i (by omega)];rfl)
 ·have hraw:rawPivot lt d a b=(J,0):=by simp only[rawPivot,if_neg H,<- t]
  rw[hraw];show Calls P (ρ.f 29) _ W fun e w'=>e=.returned (.tuple #[.int .i64 (J:Int),.int .i64 1])/\∃n os,w'=grow (Sort.ahead W n) os
  clear hraw HA HM z t A;go_enter L.f29,BodyGg.n29_ntmps ρ
  go_wp2
  go_ret2
  exact⟨rfl,HG.out _ _ E.out⟩
