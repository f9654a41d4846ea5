import Derived.Test.YtapgeemjgckgaaaGreatDoorDen2
/- The functions compute their models, by gen.py. -/
namespace Go.Proofs.YtapgeemjgckgaaaGreatDoor
noncomputable section
open Go.Abs Go.Proofs
set_option maxRecDepth 100000
def ae7:=am0.f (s:=adQ) (snd am0 [(15,.c 77 [.b 1 0 roI,.b 1 1 roI,.b 1 2 roI,.b 1 3 roS,.b 1 4 (roL .val),.b 1 5 (roL .str),.b 1 6 (roL .row),.b 4 0 (roL .int),.b 4 1 (roL .origin),.t 20 (roL .row),.t 21 roI,.t 22 roI,.t 45 (roL .origin),.t 46 roI,.t 47 roI] [(1,7),(4,2)] [(1,1,0),(4,4,0)]),(9,.c 77 [.b 1 0 roI,.b 1 1 roI,.b 1 2 roI,.b 1 3 roS,.b 1 4 (roL .val),.b 1 5 (roL .str),.b 1 6 (roL .row),.b 4 0 (roL .int),.b 4 1 (roL .origin),.t 20 (roL .row),.t 21 roI,.t 22 roI,.t 34 (roL .int),.t 35 roI,.t 36 roI] [(1,7),(4,2)] [(1,1,0),(4,4,0)]),(4,.c 77 [.b 1 0 roI,.b 1 1 roI,.b 1 2 roI,.b 1 3 roS,.b 1 4 (roL .val),.b 1 5 (roL .str),.b 1 6 (roL .row),.t 20 (roL .row),.t 21 roI,.t 22 roI] [(1,7)] [(1,1,0)])] Tryz.f275)
theorem Ja(n:Int)(step:Int)(text:Str)(columns:List Str)(rows:List bF):aef ae7.1 [] Tryz.f245 iF.ps iF.rs iF.ex (⟨5,n,step,text,[],columns,rows⟩:aC)=jS ⟨5,n,step,text,[],columns,rows⟩:=by kernel_rfl
theorem EU:Sound Tryz.prog iF:=
 Sound.weaken (f:=fun x=>aef ae7.1 [] Tryz.f245 iF.ps iF.rs iF.ex x) (zi ae7.2 uw [] (fn:=Tryz.f245) (by kernel_rfl) fun x=>rfl) fun x y h=>by
  obtain⟨kind,n,step,text,list,columns,rows⟩:=x;cases a:((kind==5)&&list.isEmpty)with
  | false=>
   have h:(bif ((kind==5)&&list.isEmpty)then jS ⟨kind,n,step,text,list,columns,rows⟩else none)=some y:=h;rw[a]at h;cases h
  | true=>
   have h:(bif ((kind==5)&&list.isEmpty)then jS ⟨kind,n,step,text,list,columns,rows⟩else none)=some y:=h;rw[a]at h;simp only[zI,beq_iff_eq,List.isEmpty_iff]at a;obtain⟨h_kind,h_list⟩:=a;subst kind list;exact (Ja n step text columns rows).trans h
def amZ:=ae7.f EU
def amY:=amZ.f (s:=Ym) (snd amZ [(4,.c 48 [.b 2 0 roI,.b 2 1 roI,.b 2 2 roI,.b 2 3 roS,.b 2 4 (owE .val 0),.b 2 5 (owE .str 1),.b 2 6 (owE .row 3),.b 5 0 roI,.b 5 1 roI,.b 5 2 roI,.b 5 3 roS,.b 5 4 (owE .val 4),.b 5 5 (owE .str 6),.b 5 6 (owE .row 7),.t 18 (roL .str),.t 19 roI,.t 20 roI] [(2,7),(5,7)] [(2,2,0),(5,5,0)])] Tryz.f207)
def amX:=amY.f (s:=Yu) (snd amY [(9,.c 50 [.t 6 (owE .str 0),.t 27 (roL .str),.t 28 roI,.t 29 roI] [] [])] Tryz.f208)
def amW:=amX.f (s:=QU) (snd amX [(5,.c 39 [.t 0 roI,.b 4 0 roI,.b 4 1 roI,.b 4 2 roI,.b 4 3 roS,.b 4 4 (owE .val 0),.b 4 5 (owE .str 1),.b 4 6 (owE .row 2),.b 5 0 roI,.b 5 1 roI,.b 5 2 roI,.b 5 3 roS,.b 5 4 (owE .val 6),.b 5 5 (owE .str 7),.b 5 6 (owE .row 8),.t 24 roI,.t 25 roI] [(4,7),(5,7)] [(4,4,0),(5,5,0)])] Tryz.f209)
def amV:=amW.f (s:=Rt) (snd amW [] Tryz.f175)
def amU:=amV.s (s:=UL) (ssd amV [(5,.c 24 [.t 3 (.own (.base .part) false true 0),.t 11 (roL .cell),.t 12 roI,.t 13 roI] [] [])] Tryz.f123)
def amT:=amU.f (s:=aa1) (snd amU [(3,.c 31 [.t 1 roS,.t 5 (owE .int 0),.t 9 (roL .part),.t 10 roI,.t 11 roI] [] [])] Tryz.f127)
def amS:=amT.f (s:=adK) (snd amT [] Tryz.f126)
theorem yx:Sound Tryz.prog Ye:=snd (amS.ins [pI] (by intro s a;simp only[List.mem_singleton]at a;subst a;exact⟨yj,A7⟩)) [(3,.c 27 [.t 0 (roL .str),.t 3 (owE .str 0),.t 7 (roL .str),.t 8 roI,.t 9 roI] [] [])] Tryz.f214
def apm:=amS.f yx
end
end Go.Proofs.YtapgeemjgckgaaaGreatDoor
