import Derived.Test.YtngjomkjlonfpaaGreatDen1
import Derived.Test.YtngjomkjlonfpaaGreatSrtW
import Derived.Test.YtngjomkjlonfpaaGreatOps2
set_option linter.unusedSimpArgs false
set_option linter.unusedVariables false
/- The sort of operations: the library's contract at this program, and what the evaluator asks of it. -/
namespace Go.Proofs.YtngjomkjlonfpaaGreat
open Go.Abs Go.Proofs Go.Shelf Go.RowKit Go.Lib Go.Sort
noncomputable def siT:TypeInfo:=(Tryz.prog.info? 24).get (by kernel_rfl)
noncomputable def siE:TypeInfo:=(Tryz.prog.info? 59).get (by kernel_rfl)
theorem siK(n:Nat)(e:2<=n):Lib.swapperK n siE 25=9:=by
 have a:siE.hasPointers=true:=by kernel_rfl
 have b:(siE.bytes==8)=false:=by kernel_rfl
 have c:(n==0)=false:=by simp;omega
 have d:(n==1)=false:=by simp;omega
 simp only[Lib.swapperK,a,b,c,d];rfl
theorem aaA:aat Tryz.prog 26 27 24 (Ty.base .op).size:=by
 intro α _ enc lt lb blk off c d w f g i b a j k l;have h:=zu sl8 24 59 siT siE (by kernel_rfl) (by kernel_rfl) (by kernel_rfl) (by kernel_rfl) 25 (fun _=>by kernel_rfl) enc 17 f (by kernel_rfl) (fun _=>by kernel_rfl) g lt i
  27 lb (enters_of Tryz.func27 (by kernel_rfl) rfl) blk off c d b a 84 (by rw[siK _ b];kernel_rfl) false
  (fun args W=>run_callFunc_extern Tryz.func84 (by kernel_rfl) (by kernel_rfl) (by kernel_rfl) (e:=Extern.ReflectliteSwapper.swap false) (by kernel_rfl) args W) w j k l
 exact h
theorem afV:air Tryz.prog 26 27 24:=by
 intro p n c lb w a;have h:n=0\/n=1:=by omega
 rcases h with rfl | rfl
 ·exact Any.sort_SliceStable_tiny sl8 24 59 siT siE (by kernel_rfl) (by kernel_rfl) (by kernel_rfl) (by kernel_rfl) 25 (fun _=>by kernel_rfl) p 0 c (by omega) 76 (by kernel_rfl) (.func 27) #[] lb w
 ·exact Any.sort_SliceStable_tiny sl8 24 59 siT siE (by kernel_rfl) (by kernel_rfl) (by kernel_rfl) (by kernel_rfl) 25 (fun _=>by kernel_rfl) p 1 c (by omega) 77 (by kernel_rfl) (.func 27) #[] lb w
theorem GV:vZ Tryz.prog wE:=
 aee wE ab7 iG kU A7 ae9 less_walk aaA afV
theorem NE:∀s,s∈[wE]->callable Tryz.prog s.fid=true/\vZ Tryz.prog s/\∃d,Tryz.prog.underlying s.T=some d/\∀ms,d≠.interface ms:=fun s a=>by
 rw[List.mem_singleton]at a;subst a;exact⟨by kernel_rfl,GV,_,Tryz.underlying24,fun ms h=>by cases h⟩
end Go.Proofs.YtngjomkjlonfpaaGreat
