import Derived.Test.YtapgeemjgckgaaaGreatDoorTypes
import Derived.Test.YtapgeemjgckgaaaGreatDoorRows
import Derived.Lib.LaidTab
import Derived.Stop.LaidErr
import Derived.Stop.Joined
import Derived.LaidMore
import Derived.LaidHandle
import Derived.Lay
import Derived.OpenShut
import Derived.MakeChecks
import Derived.Handed
import Derived.Shelf.Vars
/- The door's condition: what the listed variables are laid with gives the code its ambient world; the start that fits. -/
namespace Go.Proofs.YtapgeemjgckgaaaGreatDoor
open Go.Abs Go.Proofs Go.RowKit Go.ChangeShapes
abbrev MN : List (String × DataW Unit) := [("math/bits.deBruijn32tab", Rows.laid_math_bits_deBruijn32tab), ("math/bits.deBruijn64tab", Rows.laid_math_bits_deBruijn64tab), ("internal/strconv.uint64pow10", Rows.laid_internal_strconv_uint64pow10), ("unicode/utf8.acceptRanges", Rows.laid_unicode_utf8_acceptRanges), ("strconv.ErrRange", Rows.laid_strconv_ErrRange), ("strconv.ErrSyntax", Rows.laid_strconv_ErrSyntax), ("unicode/utf8.first", Rows.laid_unicode_utf8_first)]
theorem apG : Tryz.prog.globalNamed "internal/strconv.uint64pow10" = some 1 := by kernel_rfl
theorem apE : Tryz.prog.globalNamed "strconv.ErrSyntax" = some 4 := by kernel_rfl
theorem apF : Tryz.prog.globalNamed "strconv.ErrRange" = some 5 := by kernel_rfl
theorem apD:(Tryz.prog.globals[1]?).map (·.type)=some 323:=by kernel_rfl
theorem apB:(Tryz.prog.globals[4]?).map (·.type)=some 275:=by kernel_rfl
theorem apC:(Tryz.prog.globals[5]?).map (·.type)=some 275:=by kernel_rfl
theorem aom : "*" ++ "errors.errorString" = "*errors.errorString" := by decide
theorem dRow (u : TypeId) (h : Tryz.prog.typeName? 3 u = some "*errors.errorString") : u = 344 :=
 typeName_ptr_named (nm := "errors.errorString") (by rw [aom]; kernel_rfl) (by kernel_rfl) (by decide) u (by rw [aom]; exact h)
def aaK:Option TypeDesc->Bool
 | some (.interface _)=>true
 | _=>false
def ajo(t:TypeId):List Field->Bool
 | [f]=>f.type==t&&f.offset==0
 | _=>false
def ajp(t:TypeId):Option TypeDesc->Bool
 | some (.struct fs)=>ajo t fs.toList
 | _=>false
theorem aaJ{t:TypeId}:∀ {l:List Field},ajo t l=true->∃f,l=[f]/\f.type=t/\f.offset=0
 | [],h=>by cases h
 | [f],h=>by
  have h:(f.type==t&&f.offset==0)=true:=h;simp only[Bool.and_eq_true,beq_iff_eq]at h;exact⟨f,rfl,h.1,h.2⟩
 | _::_::_,h=>by cases h
theorem aln:aaK (Tryz.prog.underlying 275)=true:=by kernel_rfl
theorem ajX:ajp 9 (Tryz.prog.underlying 346)=true:=by kernel_rfl
theorem aoV:∃ms,Tryz.prog.underlying 275=some (.interface ms):=by
 have h:=aln;unfold aaK at h;split at h
 ·rename_i ms e;exact⟨ms,e⟩
 ·cases h
theorem alm:∃f:Field,Tryz.prog.underlying 346=some (.struct #[f])/\f.type=9/\f.offset=0:=by
 have h:=ajX;unfold ajp at h;split at h
 ·rename_i fs e;obtain⟨f,a,b,c⟩:=aaJ h;have d:fs = #[f]:=by
   apply Array.toList_inj.1;rw[a]
  exact⟨f,by rw[e,d],b,c⟩
 ·cases h
theorem dPtr:Tryz.prog.underlying 344=some (.pointer 346):=by kernel_rfl
theorem dStr:Tryz.prog.underlying 9=some .string:=by kernel_rfl
theorem dc1:Tryz.prog.cellsOf 346=1:=by kernel_rfl
theorem dc2:Tryz.prog.cellsOf 9=1:=by kernel_rfl
theorem dArr:Tryz.prog.underlying 323=some (.array 20 299):=by kernel_rfl
theorem dU64:Tryz.prog.underlying 299=some (.int .u64):=by kernel_rfl
theorem dc3:Tryz.prog.cellsOf 299=1:=by kernel_rfl
theorem dc4:Tryz.prog.cellsOf 323=20:=by kernel_rfl
theorem dTab:(Rows.laid_internal_strconv_uint64pow10:DataW Unit)=Go.Lib.tabData .u64 Go.Lib.pow10Tab:=by kernel_rfl
theorem Ov{P:Program}{W:World}{n:String}{cs:Array Value}(h:W.var? P n=some cs):(P.globalNamed n).getD 0<W.heap.size:=by
 unfold World.var? at h;cases b:P.globalNamed n with
 | none=>simp[b]at h
 | some g=>
  simp only[b,Option.bind_some]at h;show g<_
  rcases Nat.lt_or_ge g W.heap.size with a | a
  ·exact a
  ·simp[Array.getElem?_eq_none a]at h
theorem ahs{W:World}{a:Addr}{v:Value}(h:W.cell? a=some v):a.block<W.heap.size:=by
 rcases Nat.lt_or_ge a.block W.heap.size with b | b
 ·exact b
 ·simp[World.cell?,Array.getElem?_eq_none b]at h
theorem Kt {W : World} (h : W.ShapedOpen Tryz.prog) : ∃ m, W.cell? ⟨(Tryz.prog.globalNamed "internal/bytealg.MaxLen").getD 0, 0, none⟩ = some (.int .i64 m) := by
 have e : (Tryz.prog.globalNamed "internal/bytealg.MaxLen").getD 0 = 0 := by kernel_rfl
 rw[e];exact cell_of_shapedOpen_int (P:=Tryz.prog) (g:=0) (t:=3) (zero:=#[.int .i64 0]) h (of_decide_eq_true (by kernel_rfl)) (by kernel_rfl) rfl (by kernel_rfl) (by kernel_rfl) Tryz.underlying3
section
variable {H:Type} {enc:TypeId×Value->H}
theorem rX{a:Assume}{C:Checked}{os:Os}{f:FuncId}{fn:Func}{s:ChangeSpec}{conds:List PathCond}{apart fresh handsOn again:Bool}{X:World->Array Value->Prop}
  (l:∀(w w':World) (args:Array Value),w.heap=w'.heap->X w args->X w' args)
  (own:ownKnob C.prog.godebug=none) (started:os.Started) (noInit:C.prog.inits.idxOf? f=none) (c:C.prog.funcs[f]?=some fn)
  (witness:∃(w:World) (tape:Tape) (i:Input),w.os=os/\(w.forCall tape i).Shaped C.prog/\i.vars=[]/\Input.okWide C.prog (w.forCall tape i) .any w.heap.size f i /\
   ((s.pre enc C.prog fn conds apart (w.forCall tape i).memory i.args/\X (w.forCall tape i).memory i.args)/\sizedMet enc C.prog fn (OpenSpec.ofChange s) apart (w.forCall tape i).memory i.args)/\a.holds C.prog (lone (Frame.enter C.prog f i.args .normal) [] (w.forCall tape i)))
  (contract:∀(W:World) (base:Nat) (args:Array Value) (ds gs:List (DataW H)) (before:List MemPlace),
   (∀(j:Nat) t v,fn.params[j]?=some t->args[j]?=some v->Value.okWide C.prog W .any base t v) ->
   DataW.Whole enc C.prog fn.params.toList s.vars apart W args.toList ds gs before ->
   conds.all (PathCond.test C.prog ⟨fn.params.toList,ds,s.plain.varTypes C.prog,gs⟩)=true ->
   (DataW.weightsEach C.prog (fn.params.toList++s.plain.varTypes C.prog) (ds++gs)).all (·<=reachBytes)=true->X W args->W.ShapedOpen C.prog ->
   a.holds C.prog (lone (Frame.enter C.prog f args .normal) [] W) ->
   Calls C.prog f args W fun e W'=>∃v,e=.returned v/\s.post enc C.prog fn apart fresh handsOn again W args v W') :
  ReturnsInHanded a C os f .any (fun w args=>(s.pre enc C.prog fn conds apart w args/\X w args)/\sizedMet enc C.prog fn (OpenSpec.ofChange s) apart w args) (s.post enc C.prog fn apart fresh handsOn again):=by
 refine returnsInHanded_of_calls own started noInit witness ?_;intro w tape i _ d _ g hpre hholds;obtain⟨_,_,_,fn',b,_,_,_,_,hval⟩:=g;have e:fn'=fn:=aR (b.symm.trans c);subst e;obtain⟨⟨⟨ds,gs,before,k,m⟩,n⟩,o⟩:=hpre;have h:=DataW.Whole.of_heap (w':=w.forCall tape i) (by rfl) k;refine (contract (w.forCall tape i) w.heap.size i.args ds gs before hval h m (o.weights k) (l _ _ _ (by rfl) n) d hholds).mono fun e W' ⟨v,p,q⟩=>?_
 subst p;exact ChangeSpec.post_blind q
end
theorem ab1{W:World}(h:laidMetH Tryz.prog MN W)(hsh:W.ShapedOpen Tryz.prog):amb W:=by
 rw[MakeChecks.laidMetH_plain _ _ _ (by kernel_rfl)]at h;have h3:=h.tail.tail;have h4:=h.tail.tail.tail.tail;have h5:=h.tail.tail.tail.tail.tail;obtain⟨ms,hi⟩:=aoV;obtain⟨f,he,hft,hfo⟩:=alm;have t1 : Go.Lib.TabIs Tryz.prog W "internal/strconv.uint64pow10" .u64 Go.Lib.pow10Tab := by
  rw[dTab]at h3;exact Go.Lib.tabIs_of_head apG apD dArr dU64 dc3 dc4 h3
 obtain⟨a1,s1,v1,_⟩:=laid_sentinel h4 apF apC hi dRow dPtr he hft hfo dStr dc1 dc2;obtain⟨a2,s2,v2,_⟩:=laid_sentinel h5 apE apB hi dRow dPtr he hft hfo dStr dc1 dc2;have l1 := Ov (show W.var? Tryz.prog "internal/strconv.uint64pow10" = _ from t1);have l2:=Ov v1;have l3:=Ov v2;obtain⟨mx,hmx⟩:=Kt hsh;have l4:=ahs hmx;refine⟨⟨?_,mx,hmx⟩,t1,⟨_,_,v2⟩,⟨_,_,v1⟩⟩;unfold pO;have e4 : (⟨(Tryz.prog.globalNamed "internal/bytealg.MaxLen").getD 0, 0, none⟩ : Addr).block = (Tryz.prog.globalNamed "internal/bytealg.MaxLen").getD 0 := rfl;rw[e4]at l4;omega
theorem door_met(os:Os)(args:Array Value):laidMetH Tryz.prog MN ((World.laidAll Tryz.prog os MN).forCall (fun _ _=>0) ⟨#[],args,[]⟩).memory:=by
 rw[MakeChecks.laidMetH_plain _ _ _ (by kernel_rfl)];exact laidMet_laidAll _ (by kernel_rfl) (by kernel_rfl)
theorem abB(os:Os)(args:Array Value):((World.laidAll Tryz.prog os MN).forCall (fun _ _=>0) ⟨#[],args,[]⟩).Shaped Tryz.prog:=
 World.shaped_of_ZipB (by kernel_rfl) (by kernel_rfl)
end Go.Proofs.YtapgeemjgckgaaaGreatDoor
