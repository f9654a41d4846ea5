import Derived.Test.YtjbajpfonnnfoaaGreatDoorTypes
import Derived.Test.YtjbajpfonnnfoaaGreatDoorRows
import Derived.Lib.LaidTab
import Derived.Stop.LaidErr
import Derived.Stop.Joined
import Derived.LaidMore
import Derived.LaidHandle
import Derived.Lay
import Derived.OpenShut
import Derived.MakeChecks
import Derived.Handed
import Derived.Shelf.Vars
/- The door's condition: what the listed variables are laid with gives the code its ambient world; the start that fits. -/
namespace Go.Proofs.YtjbajpfonnnfoaaGreatDoor
open Go.Abs Go.Proofs Go.RowKit Go.ChangeShapes
abbrev Jy : List (String × DataW Unit) := [("unicode/utf8.acceptRanges", Rows.laid_unicode_utf8_acceptRanges), ("unicode/utf8.first", Rows.laid_unicode_utf8_first)]
theorem adn{W:World}{a:Addr}{v:Value}(h:W.cell? a=some v):a.block<W.heap.size:=by
 rcases Nat.lt_or_ge a.block W.heap.size with b | b
 ·exact b
 ·simp[World.cell?,Array.getElem?_eq_none b]at h
theorem IJ {W : World} (h : W.ShapedOpen Tryz.prog) : ∃ m, W.cell? ⟨(Tryz.prog.globalNamed "internal/bytealg.MaxLen").getD 0, 0, none⟩ = some (.int .i64 m) := by
 have e : (Tryz.prog.globalNamed "internal/bytealg.MaxLen").getD 0 = 0 := by kernel_rfl
 rw[e];exact cell_of_shapedOpen_int (P:=Tryz.prog) (g:=0) (t:=3) (zero:=#[.int .i64 0]) h (of_decide_eq_true (by kernel_rfl)) (by kernel_rfl) rfl (by kernel_rfl) (by kernel_rfl) Tryz.underlying3
section
variable {H:Type} {enc:TypeId×Value->H}
theorem qL{a:Assume}{C:Checked}{os:Os}{f:FuncId}{fn:Func}{s:ChangeSpec}{conds:List PathCond}{apart fresh handsOn again:Bool}{X:World->Array Value->Prop}
  (l:∀(w w':World) (args:Array Value),w.heap=w'.heap->X w args->X w' args)
  (own:ownKnob C.prog.godebug=none) (started:os.Started) (noInit:C.prog.inits.idxOf? f=none) (c:C.prog.funcs[f]?=some fn)
  (witness:∃(w:World) (tape:Tape) (i:Input),w.os=os/\(w.forCall tape i).Shaped C.prog/\i.vars=[]/\Input.okWide C.prog (w.forCall tape i) .any w.heap.size f i /\
   ((s.pre enc C.prog fn conds apart (w.forCall tape i).memory i.args/\X (w.forCall tape i).memory i.args)/\sizedMet enc C.prog fn (OpenSpec.ofChange s) apart (w.forCall tape i).memory i.args)/\a.holds C.prog (lone (Frame.enter C.prog f i.args .normal) [] (w.forCall tape i)))
  (contract:∀(W:World) (base:Nat) (args:Array Value) (ds gs:List (DataW H)) (before:List MemPlace),
   (∀(j:Nat) t v,fn.params[j]?=some t->args[j]?=some v->Value.okWide C.prog W .any base t v) ->
   DataW.Whole enc C.prog fn.params.toList s.vars apart W args.toList ds gs before ->
   conds.all (PathCond.test C.prog ⟨fn.params.toList,ds,s.plain.varTypes C.prog,gs⟩)=true ->
   (DataW.weightsEach C.prog (fn.params.toList++s.plain.varTypes C.prog) (ds++gs)).all (·<=reachBytes)=true->X W args->W.ShapedOpen C.prog ->
   a.holds C.prog (lone (Frame.enter C.prog f args .normal) [] W) ->
   Calls C.prog f args W λe W'=>∃v,e=.returned v/\s.post enc C.prog fn apart fresh handsOn again W args v W') :
  ReturnsInHanded a C os f .any (λw args=>(s.pre enc C.prog fn conds apart w args/\X w args)/\sizedMet enc C.prog fn (OpenSpec.ofChange s) apart w args) (s.post enc C.prog fn apart fresh handsOn again):=by
 refine returnsInHanded_of_calls own started noInit witness ?_;intro w tape i _ d _ g hpre hholds;obtain⟨_,_,_,fn',b,_,_,_,_,hval⟩:=g;have e:fn'=fn:=a7 (b.symm.trans c);subst e;obtain⟨⟨⟨ds,gs,before,k,hc⟩,m⟩,n⟩:=hpre;have h:=DataW.Whole.of_heap (w':=w.forCall tape i) (by rfl) k;refine (contract (w.forCall tape i) w.heap.size i.args ds gs before hval h hc (n.weights k) (l _ _ _ (by rfl) m) d hholds).mono λe W' ⟨v,o,hp⟩=>?_
 subst o;exact ChangeSpec.post_blind hp
end
theorem YB{W:World}(_h:laidMetH Tryz.prog Jy W)(hsh:W.ShapedOpen Tryz.prog):amb W:=by
 obtain⟨mx,hmx⟩:=IJ hsh;have l4:=adn hmx;refine⟨?_,mx,hmx⟩;unfold nT;have e4 : (⟨(Tryz.prog.globalNamed "internal/bytealg.MaxLen").getD 0, 0, none⟩ : Addr).block = (Tryz.prog.globalNamed "internal/bytealg.MaxLen").getD 0 := rfl;rw[e4]at l4;omega
theorem door_met(os:Os)(args:Array Value):laidMetH Tryz.prog Jy ((World.laidAll Tryz.prog os Jy).forCall (λ_ _=>0) ⟨#[],args,[]⟩).memory:=by
 rw[MakeChecks.laidMetH_plain _ _ _ (by kernel_rfl)];exact laidMet_laidAll _ (by kernel_rfl) (by kernel_rfl)
theorem Yk(os:Os)(args:Array Value):((World.laidAll Tryz.prog os Jy).forCall (λ_ _=>0) ⟨#[],args,[]⟩).Shaped Tryz.prog:=
 World.shaped_of_ZipB (by kernel_rfl) (by kernel_rfl)
