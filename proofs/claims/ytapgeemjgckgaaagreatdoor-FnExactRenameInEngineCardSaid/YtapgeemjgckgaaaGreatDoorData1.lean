import Derived.Test.YtapgeemjgckgaaaGreatDoorForm1
import Derived.Test.YtapgeemjgckgaaaGreatDoorRen2
set_option linter.unusedSimpArgs false
set_option linter.unusedVariables false
/- Plain laws: tables out of a text: ParseData alike on both sides. -/
namespace Go.Proofs.YtapgeemjgckgaaaGreatDoor
noncomputable section
open Go.Abs Go.Proofs
theorem xW{ρ:Type}{x:Option ρ}{v:ρ}(h:∃r,x=some r/\r=v):x=some v:=by
 obtain⟨r,e,rfl⟩:=h;exact e
theorem aoG{ρ σ:Type}{x:Option ρ}{F:σ->ρ}(h:∃r,x=some r/\∃y,r=F y):∃y,x=some (F y):=by
 obtain⟨r,e,y,rfl⟩:=h;exact⟨y,e⟩
def jA{α:Type}(p:Nat->α->Bool):Nat->List α->Bool
 | _,[]=>true
 | i,x::r=>p i x&&jA p (i+1) r
theorem qi{α X ρ:Type}{g:X->Option (X⊕ρ)}(pk:Nat->X)(xs:List α)(p:Nat->α->Bool)(no yes:ρ)
  (c:∀i x,xs[i]?=some x->g (pk i)=bif p i x then some (.inl (pk (i+1)))else some (.inr no))
  (d:g (pk xs.length)=some (.inr yes)):ak g (pk 0)=some (bif jA p 0 xs then yes else no):=by
 have key:∀(ys:List α) (i:Nat),xs.drop i=ys->i<=xs.length->ak g (pk i)=some (bif jA p i ys then yes else no):=by
  intro ys;induction ys with
  | nil=>
   intro i hd hi;have e:xs.length<=i:=List.drop_eq_nil_iff.1 hd;have:i=xs.length:=by omega
   subst this;rw[aI,d];rfl
  | cons y r ih=>
   intro i hd hi;have b:xs[i]?=some y:=by
    have:=congrArg (·[0]?) hd;simpa using this
   have a:=(zC.1 b).1;rw[aI,c i y b];show _=some (bif (p i y&&jA p (i+1) r)then yes else no)
   cases p i y with
   | true=>
    simp only[ac,Bool.true_and];refine ih (i+1) ?_ a;have:=congrArg List.tail hd;simpa using this
   | false=>rfl
 exact key xs 0 rfl (Nat.zero_le _)
def zS(p:Str):Option Int:=match mG p (-1000000000) 1000000000 with
 | some (v,true)=>some v
 | _=>none
theorem numI(p:Str)(b:p.length<=1048576):∃v,mG p (-1000000000) 1000000000=some (v,(zS p).isSome)/\(∀u,zS p=some u->v=u):=by
 obtain⟨v,ok,e,_,_⟩:=MS p (-1000000000) 1000000000 (by omega) (by omega) (by omega);unfold zS;rw[e];cases ok with
 | true=>exact⟨v,rfl,fun u a=>by cases a;rfl⟩
 | false=>exact⟨v,rfl,fun u a=>by cases a⟩
theorem numS(p:Str)(s:p.length<=1048576):∃v ok,jf p=some (v,ok)/\(zS p).isSome=(ok&&(decide (v>=-1000000000)&&decide (v<=1000000000)))/\(∀u,zS p=some u->v=u):=by
 obtain⟨v,ok,e,h,j⟩:=O9 p (by omega);obtain⟨w,a,k,l,q⟩:=MS p (-1000000000) 1000000000 (by omega) (by omega) (by omega);refine⟨v,ok,e,?_,?_⟩
 ·unfold zS;rw[k];cases a with
  | true=>
   obtain⟨b,m,n⟩:=l rfl;cases ok with
   | true=>
    obtain⟨c,d,f⟩:=h rfl;have:v=w:=aaI ⟨d,f⟩ (c.trans b.symm) ⟨by omega,by omega⟩;subst this;rw[al m,al n];rfl
   | false=>exact absurd b ((j rfl).2 w (by omega) (by omega))
  | false=>
   cases ok with
   | false=>rfl
   | true=>
    obtain⟨c,d,f⟩:=h rfl;by_cases i:v>=-1000000000/\v<=1000000000
    ·exact absurd c ((q rfl).2 v i.1 i.2)
    ·have:(decide (v>=-1000000000)&&decide (v<=1000000000))=false:=by
      by_cases o:v>=-1000000000
      ·rw[ae (fun r=>i ⟨o,r⟩),Bool.and_false]
      ·rw[ae o,Bool.false_and]
     rw[this];rfl
 ·intro u g;unfold zS at g;rw[k]at g;cases a with
  | false=>cases g
  | true=>
   cases g
   obtain⟨b,m,n⟩:=l rfl;cases ok with
   | true=>
    obtain⟨c,d,f⟩:=h rfl;exact aaI ⟨d,f⟩ (c.trans b.symm) ⟨by omega,by omega⟩
   | false=>exact absurd b ((j rfl).2 w (by omega) (by omega))
def numsOf:List Str->Option (List Int)
 | []=>some []
 | p::r=>(zS p).bind fun v=>(numsOf r).map (v :: ·)
theorem xg:∀(a b:List Str),numsOf (a++b)=(numsOf a).bind fun x=>(numsOf b).map (x ++ ·)
 | [],b=>by simp[numsOf]
 | p::r,b=>by
  show (zS p).bind (fun v=>(numsOf (r++b)).map (v :: ·))=((zS p).bind fun v=>(numsOf r).map (v :: ·)).bind fun x=>(numsOf b).map (x ++ ·)
  rw[xg r b];cases zS p with
  | none=>rfl
  | some v=>
   simp only[zA];cases numsOf r with
   | none=>rfl
   | some x=>
    simp only[zA,Option.map_some];cases numsOf b<;>rfl
theorem Gu:∀ {a:List Str} {x:List Int},numsOf a=some x->x.length=a.length
 | [],x,h=>by cases h;rfl
 | p::r,x,h=>by
  have h:(zS p).bind (fun v=>(numsOf r).map (v :: ·))=some x:=h;cases c:zS p with
  | none=>rw[c]at h;cases h
  | some v=>
   rw[c]at h;simp only[zA]at h;cases b:numsOf r with
   | none=>rw[b]at h;cases h
   | some y=>
    rw[b]at h;cases h
    simp[Gu b]
theorem MI{xs:List Str}{i:Nat}{p:Str}(h:xs[i]?=some p)(a:zS p=none):numsOf xs=none:=by
 obtain⟨hi,rfl⟩:=zC.1 h;have e:xs=xs.take i++(xs[i]::xs.drop (i+1)):=by rw[<- List.drop_eq_getElem_cons hi,List.take_append_drop]
 rw[e,xg];have:numsOf (xs[i]::xs.drop (i+1))=none:=by
  show (zS xs[i]).bind _=none
  rw[a];rfl
 rw[this];cases numsOf (xs.take i)<;>rfl
theorem MH{xs:List Str}{i:Nat}{p:Str}{v:Int}{out:List Int}(h:xs[i]?=some p)(a:numsOf (xs.take i)=some out)(b:zS p=some v):numsOf (xs.take (i+1))=some (out++[v]):=by
 obtain⟨hi,rfl⟩:=zC.1 h;rw[List.take_succ_eq_append_getElem hi,xg,a];show (Option.some out).bind (fun x=>((zS xs[i]).bind fun v=>(numsOf []).map (v :: ·)).map (x ++ ·))=_
 rw[b];rfl
theorem ak7(a:Str)(b:Int)(k:a.length<=100000):yG a b=some (match numsOf (Go.Lib.split a [32])with
  | some l=>(l,(l.length:Int)==b)
  | none=>([],false)):=by
 obtain⟨h,g⟩:=je a [32];unfold yG;rw[show (32:Int)=((32:UInt8).toNat:Int)from rfl,KH a 32 (by omega)];simp only[zA];generalize Go.Lib.split a [32]=ps at h g;refine xW (dL (fun (out:List Int) (i:Nat)=>((b,out,ps,(ps.length:Int),(i:Int)):Int×(List Int)×(List Str)×Int×Int)) ps (fun i out=>numsOf (ps.take i)=some out) _ (fun i p out c d=>?_) (fun out d=>?_) [] rfl)
 ·have hi:=(zC.1 c).1;obtain⟨v,e,hv⟩:=numI p (by have:=g p (zG c);omega);simp only[dD c,ac,aA,c,zA,az,e,dI c (by omega)];cases f:zS p with
  | none=>exact .inr ⟨_,rfl,by rw[MI c f]⟩
  | some u=>
   have:=hv u f;subst this;have j:=Gu d;rw[a8]at j;refine .inl ⟨out++[v],?_,MH c d f⟩;rw[gdp (by simp;omega)];rfl
 ·rw[List.take_length]at d;exact⟨_,by simp only[bY,aa];rfl,by rw[d]⟩
theorem akC(a:Str)(b:Int)(n:a.length<=100000):∃xs,DV a b=some (match numsOf (Go.Lib.split a [32])with
  | some l=>(l,(l.length:Int)==b)
  | none=>(xs,false)):=by
 obtain⟨k,j⟩:=je a [32];unfold DV;rw[show (32:Int)=((32:UInt8).toNat:Int)from rfl,JR a 32 (by omega)];simp only[zA];generalize Go.Lib.split a [32]=ps at k j;refine aoG (dL (fun (out:List Int) (i:Nat)=>((b,out,ps,(i:Int)):Int×(List Int)×(List Str)×Int)) ps (fun i out=>numsOf (ps.take i)=some out) (fun r=>∃xs,r=(match numsOf ps with
  | some l=>(l,(l.length:Int)==b)
  | none=>(xs,false))) (fun i p out d g=>?_) (fun out g=>?_) [] rfl)
 ·have hi:=(zC.1 d).1;obtain⟨v,ok,e,c,hv⟩:=numS p (by have:=j p (zG d);omega);have m:=Gu g;rw[a8]at m;have hnum:o5 v=some (decide (v>=-1000000000)&&decide (v<=1000000000)):=by
   unfold o5;rw[nV];rfl
  simp only[dD d,ac,aA,d,zA,az,e,hnum,dI d (by omega)];cases h:zS p with
  | none=>
   rw[h]at c;have c:(ok&&(decide (v>=-1000000000)&&decide (v<=1000000000)))=false:=c.symm;refine .inr ⟨(out,false),?_,out,by rw[MI d h]⟩;cases ok with
   | false=>rfl
   | true=>
    rw[Bool.true_and]at c;rw[c];rfl
  | some u=>
   have:=hv u h;subst this;rw[h]at c;have c:true=(ok&&(decide (v>=-1000000000)&&decide (v<=1000000000))):=c;have f:=c.symm;rw[zI]at f;refine .inl ⟨out++[v],?_,MH d g h⟩;rw[f.1,f.2,gdp (by simp;omega)];rfl
 ·rw[List.take_length]at g;exact⟨_,by simp only[bY,aa];rfl,[],by rw[g]⟩
theorem ajY{α:Type}(a:List α)(k:Nat)(h:k<=a.length):eff.cutL a none (some (k:Int))=some (a.take k):=by
 unfold eff.cutL;simp only[Option.getD_none,Option.getD_some];rw[if_pos]
 ·simp
 ·omega
theorem abG{α:Type}(x:α)(r:List α):eff.cutL (x::r) (some 1) none=some r:=by
 unfold eff.cutL;simp only[Option.getD_none,Option.getD_some];rw[if_pos]
 ·simp
 ·simp;omega
theorem Y1(b:Bool):(bif b then true else false)=b:=by cases b<;>rfl
def VW(xs:List Str):Bool:=jA (fun i x=>!((xs.take i).contains x)) 0 xs
theorem ajx(xs:List Str)(c:xs.length<=1048576):rV xs=some (VW xs):=by
 unfold rV;refine (qi (fun i=>((xs,xs,(xs.length:Int),(i:Int)):(List Str)×(List Str)×Int×Int)) xs (fun i x=>!((xs.take i).contains x)) false true (fun i x a=>?_) ?_).trans (congrArg some (Y1 _))
 ·have b:=Qj x xs i 0 a;rw[Nat.zero_add]at b;simp only[dD a,ac,aA,a,zA,wB xs x (by omega),bne,b,dI a (by omega)];cases (xs.take i).contains x<;>rfl
 ·simp only[bY,aa]
theorem aio(xs:List Str)(b:xs.length<=1048576):rE xs=some (VW xs):=by
 unfold rE;refine (qi (fun i=>((xs,(i:Int)):(List Str)×Int)) xs (fun i x=>!((xs.take i).contains x)) false true (fun i x a=>?_) ?_).trans (congrArg some (Y1 _))
 ·have hi:=(zC.1 a).1;simp only[dD a,ac,aA,a,zA,ajY xs i (by omega),o6 (xs.take i) x (by rw[a8];omega),dI a (by omega)];cases (xs.take i).contains x<;>rfl
 ·simp only[bY,aa]
def Dn(xs:List Str):Bool:=jA (fun _ x=>fH x) 0 xs&&((decide (1<=(xs.length:Int))&&decide ((xs.length:Int)<=4))&&VW xs)
theorem aa5(xs:List Str)(b:xs.length<=1048576)(c:∀x,x∈xs->x.length<=120):qH xs=some (Dn xs):=by
 unfold qH;refine (qi (fun i=>((xs,xs,(xs.length:Int),(i:Int)):(List Str)×(List Str)×Int×Int)) xs (fun _ x=>fH x) false ((decide (1<=(xs.length:Int))&&decide ((xs.length:Int)<=4))&&VW xs) (fun i x a=>?_) ?_).trans ?_
 ·simp only[dD a,ac,aA,a,zA,Ei x (c x (zG a)),dI a (by omega)];cases fH x<;>rfl
 ·simp only[bY,aa,zZ,zA,ajx xs b];cases (decide (1<=(xs.length:Int))&&decide ((xs.length:Int)<=4))<;>rfl
 ·unfold Dn;cases jA (fun _ x=>fH x) 0 xs<;>rfl
theorem ZW(xs:List Str)(b:xs.length<=1048576)(c:∀x,x∈xs->x.length<=120):ul xs=some (Dn xs):=by
 unfold ul;refine (qi (fun i=>((xs,(i:Int)):(List Str)×Int)) xs (fun _ x=>fH x) false ((decide (1<=(xs.length:Int))&&decide ((xs.length:Int)<=4))&&VW xs) (fun i x a=>?_) ?_).trans ?_
 ·simp only[dD a,ac,aA,a,zA,DL x (c x (zG a)),dI a (by omega)];cases fH x<;>rfl
 ·simp only[bY,aa,nV,zA,aio xs b];show _=some (Sum.inr ((decide ((xs.length:Int)>=1)&&decide ((xs.length:Int)<=4))&&VW xs))
  cases (decide ((xs.length:Int)>=1)&&decide ((xs.length:Int)<=4))<;>rfl
 ·unfold Dn;cases jA (fun _ x=>fH x) 0 xs<;>rfl
def inR(n:Int):Bool:=decide (-1000000000<=n)&&decide (n<=1000000000)
theorem adO(n:Int):En n=some (inR n):=by
 unfold En;rw[zZ];rfl
theorem acI(n:Int):o5 n=some (inR n):=by
 unfold o5;rw[nV];rfl
def rowB(w:Int)(r:bF):Bool:=((r.cells.length:Int)==w)&&jA (fun _ n=>inR n) 0 r.cells
def JH(cols:List Str)(rows:List bF):Bool:=Dn cols&&(decide ((rows.length:Int)<=12)&&jA (fun _ r=>rowB (cols.length:Int) r) 0 rows)
theorem agX(n step:Int)(text:Str)(cols:List Str)(rows:List bF)(e:cols.length<=1048576)(f:∀x,x∈cols->x.length<=120)(g:∀r,r∈rows->r.orig=[]/\r.cells.length<=1048576) :
  CY ⟨5,n,step,text,[],cols,rows⟩=some (JH cols rows):=by
 unfold CY JH;simp only[aa5 cols e f,zA];cases Dn cols with
 | false=>rfl
 | true=>
  simp only[aL,aa,Bool.true_and];by_cases a:(rows.length:Int)>12
  ·rw[al a,ae (by omega)];rfl
  ·rw[ae a,al (by omega)];simp only[aa,Bool.true_and];refine (qi (fun i=>((5,n,step,text,[],cols,rows,rows,(rows.length:Int),(i:Int)):Int×Int×Int×Str×(List aC)×(List Str)×(List bF)×(List bF)×Int×Int)) rows (fun _ r=>rowB (cols.length:Int) r) false true (fun i r b=>?_) ?_).trans (congrArg some (Y1 _))
   ·obtain⟨h,k⟩:=g r (zG b);have c:=dI b (by omega);simp only[dD b,ac,aA,b,zA,h,bne];unfold rowB;cases ((r.cells.length:Int)==(cols.length:Int))with
    | false=>rfl
    | true=>
     simp only[aL,aa,Bool.true_and];refine (qi (fun j=>((5,n,step,text,[],cols,rows,r.cells,[],rows,(rows.length:Int),(i:Int),r.cells,(r.cells.length:Int),(j:Int)):Int×Int×Int×Str×(List aC)×(List Str)×(List bF)×(List Int)×(List bK)×(List bF)×Int×Int×(List Int)×Int×Int)) r.cells (fun _ m=>inR m) (Sum.inr false) (Sum.inl (5,n,step,text,[],cols,rows,rows,(rows.length:Int),((i+1:Nat):Int))) (fun j m d=>?_) ?_).trans ?_
     ·simp only[dD d,ac,aA,d,zA,adO,dI d (by omega)];cases inR m<;>rfl
     ·simp only[bY,aa];rw[aI];simp only[List.length_nil,Int.ofNat_zero,Int.lt_irrefl,decide_false,aa,c,zA]
     ·cases jA (fun _ m=>inR m) 0 r.cells<;>rfl
   ·simp only[bY,aa]
theorem air:rC []=some true:=by
 unfold rC;rw[aI];rfl
theorem af7(n step:Int)(text:Str)(cols:List Str)(rows:List bF)(e:cols.length<=1048576)(f:∀x,x∈cols->x.length<=120)(g:∀r,r∈rows->r.orig=[]/\r.cells.length<=1048576) :
  Ib ⟨5,n,step,text,[],cols,rows⟩=some (JH cols rows):=by
 unfold Ib JH;simp only[ZW cols e f,zA];cases Dn cols with
 | false=>rfl
 | true=>
  simp only[aL,aa,Bool.true_and];by_cases a:(rows.length:Int)>12
  ·rw[al a,ae (by omega)];rfl
  ·rw[ae a,al (by omega)];simp only[aa,Bool.true_and];refine (qi (fun i=>((5,n,step,text,[],cols,rows,(i:Int)):Int×Int×Int×Str×(List aC)×(List Str)×(List bF)×Int)) rows (fun _ r=>rowB (cols.length:Int) r) false true (fun i r b=>?_) ?_).trans (congrArg some (Y1 _))
   ·obtain⟨h,k⟩:=g r (zG b);have c:=dI b (by omega);simp only[dD b,ac,aA,b,zA,h,air,bne];unfold rowB;cases ((r.cells.length:Int)==(cols.length:Int))with
    | false=>rfl
    | true=>
     simp only[aL,aa,Bool.true_and];refine (qi (fun j=>((5,n,step,text,[],cols,rows,(i:Int),r.cells,[],(j:Int)):Int×Int×Int×Str×(List aC)×(List Str)×(List bF)×Int×(List Int)×(List bK)×Int)) r.cells (fun _ m=>inR m) (Sum.inr false) (Sum.inl (5,n,step,text,[],cols,rows,((i+1:Nat):Int))) (fun j m d=>?_) ?_).trans ?_
     ·simp only[dD d,ac,aA,d,zA,acI,dI d (by omega)];cases inR m<;>rfl
     ·simp only[bY,aa,c]
     ·cases jA (fun _ m=>inR m) 0 r.cells<;>rfl
   ·simp only[bY,aa]
theorem IY(cols:List Str)(rows:List bF)(a:cols.length<=1048576)(b:∀x,x∈cols->x.length<=120)(c:∀r,r∈rows->r.orig=[]/\r.cells.length<=1048576) :
  pX ⟨5,0,0,[],[],cols,rows⟩=some (JH cols rows):=by
 have h:=agX 0 0 [] cols rows a b c;show jS ⟨5,0,0,[],[],cols,rows⟩=_
 unfold jS;simp only[h,zA];cases ((cols.length:Int)==0)<;>rfl
theorem H8(cols:List Str)(rows:List bF)(a:cols.length<=1048576)(b:∀x,x∈cols->x.length<=120)(c:∀r,r∈rows->r.orig=[]/\r.cells.length<=1048576) :
  pU ⟨5,0,0,[],[],cols,rows⟩=some (JH cols rows):=by
 have h:=af7 0 0 [] cols rows a b c;show jL ⟨5,0,0,[],[],cols,rows⟩=_
 unfold jL;simp only[h,zA];rfl
def rowOf(w:Int)(p:Str):Option bF:=match numsOf (Go.Lib.split p [32])with
 | some l=>if (l.length:Int)==w then some ⟨l,[]⟩else none
 | none=>none
def rowsOf(w:Int):List Str->Option (List bF)
 | []=>some []
 | p::r=>(rowOf w p).bind fun v=>(rowsOf w r).map (v :: ·)
theorem wX(w:Int):∀(a b:List Str),rowsOf w (a++b)=(rowsOf w a).bind fun x=>(rowsOf w b).map (x ++ ·)
 | [],b=>by simp[rowsOf]
 | p::r,b=>by
  show (rowOf w p).bind (fun v=>(rowsOf w (r++b)).map (v :: ·))=((rowOf w p).bind fun v=>(rowsOf w r).map (v :: ·)).bind fun x=>(rowsOf w b).map (x ++ ·)
  rw[wX w r b];cases rowOf w p with
  | none=>rfl
  | some v=>
   simp only[zA];cases rowsOf w r with
   | none=>rfl
   | some x=>
    simp only[zA,Option.map_some];cases rowsOf w b<;>rfl
theorem Md{w:Int}{xs:List Str}{i:Nat}{p:Str}(h:xs[i]?=some p)(a:rowOf w p=none):rowsOf w xs=none:=by
 obtain⟨hi,rfl⟩:=zC.1 h;have e:xs=xs.take i++(xs[i]::xs.drop (i+1)):=by rw[<- List.drop_eq_getElem_cons hi,List.take_append_drop]
 rw[e,wX];have:rowsOf w (xs[i]::xs.drop (i+1))=none:=by
  show (rowOf w xs[i]).bind _=none
  rw[a];rfl
 rw[this];cases rowsOf w (xs.take i)<;>rfl
theorem Mc{w:Int}{xs:List Str}{i:Nat}{p:Str}{v:bF}{out:List bF}(h:xs[i]?=some p)(a:rowsOf w (xs.take i)=some out)(b:rowOf w p=some v):rowsOf w (xs.take (i+1))=some (out++[v]):=by
 obtain⟨hi,rfl⟩:=zC.1 h;rw[List.take_succ_eq_append_getElem hi,wX,a];show (Option.some out).bind (fun x=>((rowOf w xs[i]).bind fun v=>(rowsOf w []).map (v :: ·)).map (x ++ ·))=_
 rw[b];rfl
theorem pz{w:Int}:∀ {a:List Str} {x:List bF},rowsOf w a=some x->x.length=a.length/\∀r,r∈x->r.orig=[]/\(r.cells.length:Int)=w
 | [],x,h=>by cases h;exact⟨rfl,fun r c=>by cases c⟩
 | p::r,x,h=>by
  have h:(rowOf w p).bind (fun v=>(rowsOf w r).map (v :: ·))=some x:=h;cases b:rowOf w p with
  | none=>rw[b]at h;cases h
  | some v=>
   rw[b]at h;simp only[zA]at h;cases c:rowsOf w r with
   | none=>rw[c]at h;cases h
   | some y=>
    rw[c]at h;cases h
    obtain⟨f,g⟩:=pz c;refine⟨by simp[f],fun q d=>?_⟩;rcases ba.1 d with rfl | d
    ·unfold rowOf at b;split at b
     ·rename_i l _;split at b
      ·rename_i e;cases b
       exact⟨rfl,by simpa using e⟩
      ·cases b
     ·cases b
    ·exact g q d
theorem aeM(w:Int)(p:Str)(a:p.length<=100000):∃l ok,yG p w=some (l,ok)/\((ok=false/\rowOf w p=none)\/(ok=true/\rowOf w p=some ⟨l,[]⟩)):=by
 rw[ak7 p w a];unfold rowOf;cases numsOf (Go.Lib.split p [32])with
 | none=>exact⟨_,_,rfl,.inl ⟨rfl,rfl⟩⟩
 | some l=>
  refine⟨l,_,rfl,?_⟩;cases h:((l.length:Int)==w)with
  | true=>exact .inr ⟨rfl,by simpa using h⟩
  | false=>exact .inl ⟨rfl,by simpa using h⟩
theorem aeL(w:Int)(p:Str)(a:p.length<=100000):∃l ok,DV p w=some (l,ok)/\((ok=false/\rowOf w p=none)\/(ok=true/\rowOf w p=some ⟨l,[]⟩)):=by
 obtain⟨xs,e⟩:=akC p w a;rw[e];unfold rowOf;cases numsOf (Go.Lib.split p [32])with
 | none=>exact⟨_,_,rfl,.inl ⟨rfl,rfl⟩⟩
 | some l=>
  refine⟨l,_,rfl,?_⟩;cases h:((l.length:Int)==w)with
  | true=>exact .inr ⟨rfl,by simpa using h⟩
  | false=>exact .inl ⟨rfl,by simpa using h⟩
def dataOf(a:Str)(ps:List Str):aC×Bool:=match rowsOf ((Go.Lib.split a [32]).length:Int) ps with
 | none=>(⟨0,0,0,[],[],[],[]⟩,false)
 | some rows=>if JH (Go.Lib.split a [32]) rows=true then (⟨5,0,0,[],[],Go.Lib.split a [32],rows⟩,true)else (⟨0,0,0,[],[],[],[]⟩,false)
theorem Qk(a:Str):∃b ps,Go.Lib.split a [59,32]=b::ps:=List.exists_cons_of_ne_nil (ah3 a [59,32])
theorem Ro(a:Str)(z:a.length<=120){b:Str}{ps:List Str}(c:Go.Lib.split a [59,32]=b::ps):nR a=some (dataOf b ps):=by
 obtain⟨k,g⟩:=je a [59,32];rw[c]at k g;have A:=g b (by simp);obtain⟨n,m⟩:=je b [32];unfold nR dataOf;have o:kK a [59,32]=some (b::ps):=by
  unfold kK;rw[if_pos ⟨by omega,by simp⟩,c]
 have q:lJ b 32=some (Go.Lib.split b [32]):=KH b 32 (by omega);have s:idx (b::ps) 0=some b:=rfl;have t:(b::ps)[0]?=some b:=rfl;simp only[o,s,t,q,abG,zA];generalize hcols:Go.Lib.split b [32]=cols at n m;refine xW (dL (fun (out:List bF) (i:Nat)=>((0,0,0,[],[],[],[],5,0,0,[],[],cols,out,ps,(ps.length:Int),(i:Int)):Int×Int×Int×Str×(List aC)×(List Str)×(List bF)×Int×Int×Int×Str×(List aC)×(List Str)×(List bF)×(List Str)×Int×Int)) ps (fun i out=>rowsOf (cols.length:Int) (ps.take i)=some out) _ (fun i p out c f=>?_) (fun out f=>?_) [] rfl)
 ·have u:=g p (aq _ (zG c));obtain⟨l,ok,e,d⟩:=aeM (cols.length:Int) p (by omega);have v:=(zC.1 c).1;have h:=(pz f).1;rw[a8]at h;simp only[List.length_cons]at k;simp only[dD c,ac,aA,c,zA,e,dI c (by omega)];rcases d with ⟨rfl,d⟩ | ⟨rfl,d⟩
  ·exact .inr ⟨_,rfl,by rw[Md c d]⟩
  ·refine .inl ⟨out++[⟨l,[]⟩],?_,Mc c f d⟩;rw[gdp (by simp;omega)];rfl
 ·rw[List.take_length]at f;obtain⟨w,j⟩:=pz f;have hv:=IY cols out (by omega) (fun x y=>by have:=m x y;omega) (fun r d=>by have:=j r d;exact⟨this.1,by omega⟩);refine⟨_,?_,rfl⟩;simp only[bY,aa,hv,zA,f];cases JH cols out<;>rfl
theorem aip(a:Str)(B:a.length<=120){b:Str}{ps:List Str}(c:Go.Lib.split a [59,32]=b::ps):uh a=some (dataOf b ps):=by
 obtain⟨n,g⟩:=je a [59,32];rw[c]at n g;have C:=g b (by simp);obtain⟨q,o⟩:=je b [32];unfold uh dataOf;have s:sO a=some (b::ps):=by rw[Vq a (by omega),c]
 have t:nJ b 32=some (Go.Lib.split b [32]):=JR b 32 (by omega);have u:idx (b::ps) 0=some b:=rfl;have v:(b::ps)[0]?=some b:=rfl;simp only[s,u,v,t,zA];generalize hcols:Go.Lib.split b [32]=cols at q o;refine xW (dL (fun (out:List bF) (i:Nat)=>((0,0,0,[],[],[],[],b::ps,5,0,0,[],[],cols,out,((i+1:Nat):Int)):Int×Int×Int×Str×(List aC)×(List Str)×(List bF)×(List Str)×Int×Int×Int×Str×(List aC)×(List Str)×(List bF)×Int)) ps (fun i out=>rowsOf (cols.length:Int) (ps.take i)=some out) _ (fun i p out c f=>?_) (fun out f=>?_) [] rfl)
 ·have w:=g p (aq _ (zG c));obtain⟨l,ok,e,d⟩:=aeL (cols.length:Int) p (by omega);have y:=(zC.1 c).1;have h:=(pz f).1;rw[a8]at h;simp only[List.length_cons]at n;have j:decide (((i+1:Nat):Int)<((b::ps).length:Int))=true:=by simp;omega
  have k:(b::ps)[i+1]?=some p:=by simpa using c
  have z:w64 (((i+1:Nat):Int)+1)=((i+1+1:Nat):Int):=by rw[aX (by omega) (by omega)];omega
  simp only[j,ac,aA,k,zA,az,e,z];rcases d with ⟨rfl,d⟩ | ⟨rfl,d⟩
  ·exact .inr ⟨_,rfl,by rw[Md c d]⟩
  ·refine .inl ⟨out++[⟨l,[]⟩],?_,Mc c f d⟩;rw[gdp (by simp;omega)];rfl
 ·rw[List.take_length]at f;obtain⟨A,m⟩:=pz f;have hv:=H8 cols out (by omega) (fun x k=>by have:=o x k;omega) (fun r d=>by have:=m r d;exact⟨this.1,by omega⟩);have j:decide (((ps.length+1:Nat):Int)<((b::ps).length:Int))=false:=by simp
  refine⟨_,?_,rfl⟩;simp only[j,aa,hv,zA,f];cases JH cols out<;>rfl
theorem aeg(a:Str)(f:a.length<=120):∃v ok,nR a=some (v,ok)/\uh a=some (v,ok)/\(ok=true->∃cols rows,v=⟨5,0,0,[],[],cols,rows⟩/\JH cols rows=true/\cols.length<=122/\(∀x,x∈cols->x.length<=120)/\rows.length<=122/\∀r,r∈rows->r.orig=[]/\r.cells.length<=122):=by
 obtain⟨b,ps,d⟩:=Qk a;refine⟨(dataOf b ps).1,(dataOf b ps).2,Ro a f d,aip a f d,fun h=>?_⟩;obtain⟨g,i⟩:=je a [59,32];rw[d]at g i;simp only[List.length_cons]at g;have m:=i b (by simp);obtain⟨n,j⟩:=je b [32];unfold dataOf at h ⊢;cases c:rowsOf ((Go.Lib.split b [32]).length:Int) ps with
 | none=>rw[c]at h;cases h
 | some rows=>
  rw[c]at h;simp only at h ⊢;by_cases e:JH (Go.Lib.split b [32]) rows=true
  ·rw[if_pos e];obtain⟨o,k⟩:=pz c;exact⟨_,rows,rfl,e,by omega,fun x l=>by have:=j x l;omega,by omega,fun r c=>by have:=k r c;exact⟨this.1,by omega⟩⟩
  ·rw[if_neg e]at h;cases h
end
end Go.Proofs.YtapgeemjgckgaaaGreatDoor
/- Plain laws: notebooks compiled: CompileAll alike on both sides. -/
namespace Go.Proofs.YtapgeemjgckgaaaGreatDoor
open Go.Abs Go.Proofs
noncomputable def errOf(w:Int):Nat->List Str->Int
 | _,[]=>-1
 | i,p::r=>if ((rowOf w p).isNone||decide (12<=i))=true then ((i+1:Nat):Int)else errOf w (i+1) r
theorem RP(w:Int){ps:List Str}{i:Nat}{p:Str}(h:ps[i]?=some p):errOf w i (ps.drop i)=if ((rowOf w p).isNone||decide (12<=i))=true then ((i+1:Nat):Int)else errOf w (i+1) (ps.drop (i+1)):=by
 obtain⟨hi,rfl⟩:=zC.1 h;rw[List.drop_eq_getElem_cons hi];rfl
theorem ala(a:Str)(q:a.length<=120){b:Str}{ps:List Str}(j:Go.Lib.split a [59,32]=b::ps)(k:(dataOf b ps).2=false) :
  Ah a=some (bif Dn (Go.Lib.split b [32])then errOf ((Go.Lib.split b [32]).length:Int) 0 ps else 0):=by
 obtain⟨n,m⟩:=je a [59,32];rw[j]at n m;have A:=m b (by simp);obtain⟨r,o⟩:=je b [32];unfold Ah;have s:kK a [59,32]=some (b::ps):=by
  unfold kK;rw[if_pos ⟨by omega,by simp⟩,j]
 have t:lJ b 32=some (Go.Lib.split b [32]):=KH b 32 (by omega);have u:idx (b::ps) 0=some b:=rfl;have v:(b::ps)[0]?=some b:=rfl;have w:nR a=some ((dataOf b ps).1,false):=by rw[Ro a q j,<- k]
 have y:=aa5 (Go.Lib.split b [32]) (by omega) (fun x c=>by have:=o x c;omega);simp only[w,aa,s,u,v,t,y,abG,zA];generalize Go.Lib.split b [32]=cols at r o;cases Dn cols with
 | false=>rfl
 | true=>
  simp only[aL,aa,ac];refine xW (dL (fun (_:Unit) (i:Nat)=>((cols,ps,(ps.length:Int),(i:Int)):(List Str)×(List Str)×Int×Int)) ps (fun i _=>errOf (cols.length:Int) i (ps.drop i)=errOf (cols.length:Int) 0 ps) _ (fun i p out c f=>?_) (fun out f=>?_) () rfl)
  ·have z:=m p (aq _ (zG c));obtain⟨l,ok,e,g⟩:=aeM (cols.length:Int) p (by omega);simp only[List.length_cons]at n;have hd:=RP (cols.length:Int) c;simp only[dD c,ac,aA,c,zA,e,dI c (by omega)];rcases g with ⟨rfl,g⟩ | ⟨rfl,g⟩
   ·rw[g]at hd;exact .inr ⟨_,rfl,by rw[<- f,hd];rfl⟩
   ·rw[g]at hd;by_cases h:12<=i
    ·have d:decide ((i:Int)>=12)=true:=by simp;omega
     rw[d];refine .inr ⟨_,rfl,?_⟩;rw[<- f,hd,al h];rfl
    ·have d:decide ((i:Int)>=12)=false:=by simp;omega
     rw[d];refine .inl ⟨(),rfl,?_⟩;rw[<- f,hd,ae h];rfl
  ·refine⟨_,by simp only[bY,aa];rfl,?_⟩;rw[<- f,List.drop_length];rfl
theorem akH(a:Str)(B:a.length<=120){b:Str}{ps:List Str}(n:Go.Lib.split a [59,32]=b::ps) :
  zy a=some (bif Dn (Go.Lib.split b [32])then errOf ((Go.Lib.split b [32]).length:Int) 0 ps else 0):=by
 obtain⟨o,j⟩:=je a [59,32];rw[n]at o j;have C:=j b (by simp);obtain⟨r,q⟩:=je b [32];unfold zy;have s:sO a=some (b::ps):=by rw[Vq a (by omega),n]
 have t:nJ b 32=some (Go.Lib.split b [32]):=JR b 32 (by omega);have u:idx (b::ps) 0=some b:=rfl;have v:(b::ps)[0]?=some b:=rfl;have w:=ZW (Go.Lib.split b [32]) (by omega) (fun x c=>by have:=q x c;omega);simp only[s,u,v,t,w,zA];generalize Go.Lib.split b [32]=cols at r q;cases Dn cols with
 | false=>rfl
 | true=>
  simp only[aL,aa,ac];refine xW (dL (fun (_:Unit) (i:Nat)=>((b::ps,cols,((i+1:Nat):Int)):(List Str)×(List Str)×Int)) ps (fun i _=>errOf (cols.length:Int) i (ps.drop i)=errOf (cols.length:Int) 0 ps) _ (fun i p out c f=>?_) (fun out f=>?_) () rfl)
  ·have y:=j p (aq _ (zG c));obtain⟨l,ok,e,g⟩:=aeL (cols.length:Int) p (by omega);have z:=(zC.1 c).1;simp only[List.length_cons]at o;have hd:=RP (cols.length:Int) c;have k:decide (((i+1:Nat):Int)<((b::ps).length:Int))=true:=by simp;omega
   have m:(b::ps)[i+1]?=some p:=by simpa using c
   have A:w64 (((i+1:Nat):Int)+1)=((i+1+1:Nat):Int):=by rw[aX (by omega) (by omega)];omega
   simp only[k,ac,aA,m,zA,az,e,A];rcases g with ⟨rfl,g⟩ | ⟨rfl,g⟩
   ·rw[g]at hd;exact .inr ⟨_,rfl,by rw[<- f,hd];rfl⟩
   ·rw[g]at hd;by_cases h:12<=i
    ·have d:decide (((i+1:Nat):Int)>12)=true:=by simp;omega
     rw[d];refine .inr ⟨_,rfl,?_⟩;rw[<- f,hd,al h];rfl
    ·have d:decide (((i+1:Nat):Int)>12)=false:=by simp;omega
     rw[d];refine .inl ⟨(),rfl,?_⟩;rw[<- f,hd,ae h];rfl
  ·have k:decide (((ps.length+1:Nat):Int)<((b::ps).length:Int))=false:=by simp
   refine⟨_,by simp only[k,aa];rfl,?_⟩;rw[<- f,List.drop_length];rfl
def mM(c:Int)(i:Nat)(r:bF):bF:=⟨r.cells,[⟨c,(i:Int)⟩]⟩
theorem aeF{ρ X:Type}{g:X->Option (X⊕ρ)}(pk:List bF->Nat->X)(c:Int)(rows:List bF)(r:ρ)
  (h:∀i x out,out.length=rows.length->i<rows.length->out[i]?=some x->g (pk out i)=some (.inl (pk (out.set i (mM c i x)) (i+1))))
  (j:g (pk (iL (mM c) 0 rows) rows.length)=some (.inr r)):ak g (pk rows 0)=some r:=by
 have key:∀(k i:Nat) (a b:List bF),rows.length=i+k->a.length=i->b.length=k->a++iL (mM c) i b=iL (mM c) 0 rows->ak g (pk (a++b) i)=some r:=by
  intro k;induction k with
  | zero=>
   intro i a b hi e d f;have:b=[]:=List.length_eq_zero_iff.1 d;subst this;rw[iL,List.append_nil]at f;rw[List.append_nil,f,aI,show i=rows.length by omega,j]
  | succ k ih=>
   intro i a b hi e d f;cases b with
   | nil=>simp at d
   | cons x b=>
    have l:(a++x::b)[i]?=some x:=by rw[<- e];simp
    rw[aI,h i x _ (by simp at d ⊢;omega) (by omega) l];simp only;have hset:(a++x::b).set i (mM c i x)=(a++[mM c i x])++b:=by
     rw[List.set_append_right _ _ (by omega),e,Nat.sub_self];simp
    rw[hset];refine ih (i+1) (a++[mM c i x]) b (by omega) (by simp[e]) (by simpa using d) ?_;rw[a7];exact f
 exact key rows.length 0 [] rows (by omega) rfl rfl rfl
theorem ai5{X ρ:Type}{f:X->Option (X⊕ρ)}{a:X}{q:Option ρ}{v:ρ}(h:f a=q.bind fun r=>some (.inr r))(b:q=some v):ak f a=some v:=by
 rw[aI,h,b];rfl
theorem aju(r:bF)(h:r.cells.length<=1048576)(a:r.orig.length<=1048576):yH r=some r:=by
 unfold yH;rw[gdp (by omega),zA,gdp (by omega),zA];cases r;rfl
theorem aia(r:bF)(h:r.cells.length<=1048576)(a:r.orig.length<=1048576):JU r=some r:=by
 unfold JU;rw[gdp (by omega),zA,gdp (by omega),zA];cases r;rfl
theorem Ip(v:aC):bW v=v:=by cases v;rfl
structure akk(cols:List Str)(rows:List bF):Prop where
 cl:cols.length<=122
 ct:∀x,x∈cols->x.length<=120
 rl:rows.length<=122
 rr:∀r,r∈rows->r.orig=[]/\r.cells.length<=122
theorem ajy(cols:List Str)(rows:List bF)(h:akk cols rows):lN ⟨5,0,0,[],[],cols,rows⟩=some ⟨5,0,0,[],[],cols,rows⟩:=by
 have f:=h.cl;have g:=h.rl;unfold lN;obtain⟨m,b⟩:∃m,siz (⟨5,0,0,[],[],cols,rows⟩:aC)+1=m+1+1:=⟨siz (⟨5,0,0,[],[],cols,rows⟩:aC)-1,by
  have:1<=siz (⟨5,0,0,[],[],cols,rows⟩:aC):=by simp only[siz];rw[aC.mk.sizeOf_spec];omega
  omega⟩
 rw[b];show qG (dB (m+1)).1 (dB (m+1)).2 _=_
 unfold qG;have c:(dB (m+1)).2 []=some []:=by
  show oL (dB m).1 (dB m).2 []=_
  unfold oL;rw[aI];rfl
 have d:gd (0+cols.length)=some ():=gdp (by omega);simp only[c,d,zA];refine Ec (fun (out:List bF) (i:Nat)=>((0,0,0,[],[],[],[],5,0,0,[],[],[]++cols,out,rows,(rows.length:Int),(i:Int)):Int×Int×Int×Str×(List aC)×(List Str)×(List bF)×Int×Int×Int×Str×(List aC)×(List Str)×(List bF)×(List bF)×Int×Int)) rows (fun _ r=>r) _ (fun i r out a j=>?_) ?_
 ·obtain⟨e,k⟩:=h.rr r (zG a);have hi:=(zC.1 a).1;simp only[dD a,ac,aA,a,zA,aju r (by omega) (by rw[e];simp),dI a (by omega)];rw[gdp (by simp;omega)];rfl
 ·simp only[bY,aa,uH];rfl
theorem aiq(cols:List Str)(rows:List bF)(h:akk cols rows):zl ⟨5,0,0,[],[],cols,rows⟩=some ⟨5,0,0,[],[],cols,rows⟩:=by
 have d:=h.cl;have e:=h.rl;show BA (xH _) _=_
 unfold BA;have b:gd (0+cols.length)=some ():=gdp (by omega);simp only[b,zA];refine ai5 (by simp only[List.length_nil,Int.ofNat_zero,Int.lt_irrefl,decide_false,aa];rfl) ?_;refine Ec (fun (out:List bF) (i:Nat)=>((5,0,0,[],[],cols,rows,0,0,0,[],[],[],[],5,0,0,[],[],[]++cols,out,(i:Int)):Int×Int×Int×Str×(List aC)×(List Str)×(List bF)×Int×Int×Int×Str×(List aC)×(List Str)×(List bF)×Int×Int×Int×Str×(List aC)×(List Str)×(List bF)×Int)) rows (fun _ r=>r) _ (fun i r out a f=>?_) ?_
 ·obtain⟨c,g⟩:=h.rr r (zG a);have hi:=(zC.1 a).1;simp only[dD a,ac,aA,a,zA,aia r (by omega) (by rw[c];simp),dI a (by omega)];rw[gdp (by simp;omega)];rfl
 ·simp only[bY,aa,uH];rfl
theorem adJ(c:Int)(l:0<=c)(cols:List Str)(rows:List bF)(h:akk cols rows)(hv:JH cols rows=true):rO c ⟨5,0,0,[],[],cols,rows⟩=some ⟨5,0,0,[],[],cols,iL (mM c) 0 rows⟩:=by
 have a:=h.cl;have b:=h.rl;have e:=IY cols rows (by omega) h.ct (fun r f=>by have:=h.rr r f;exact⟨this.1,by omega⟩);have d:decide (c<0)=false:=by simp;omega
 unfold rO;simp only[Ip,e,hv,ajy cols rows h,d,zA,aL,aa];refine (aeF (fun (out:List bF) (i:Nat)=>((c,0,0,0,[],[],[],[],5,0,0,[],[],cols,out,(rows.length:Int),(i:Int)):Int×Int×Int×Int×Str×(List aC)×(List Str)×(List bF)×Int×Int×Int×Str×(List aC)×(List Str)×(List bF)×Int×Int)) c rows _ (fun i x out m hi g=>?_) ?_)
 ·have j:decide ((i:Int)<(rows.length:Int))=true:=by simp;omega
  have k:w64 ((i:Int)+1)=((i+1:Nat):Int):=by rw[aX (by omega) (by omega)];omega
  simp only[j,ac,aA,g,zA,az,k];rfl
 ·simp only[bY,aa]
theorem acE(c:Int)(l:0<=c)(cols:List Str)(rows:List bF)(h:akk cols rows)(hv:JH cols rows=true):rq c ⟨5,0,0,[],[],cols,rows⟩=some ⟨5,0,0,[],[],cols,iL (mM c) 0 rows⟩:=by
 have b:=h.cl;have e:=h.rl;have f:=H8 cols rows (by omega) h.ct (fun r g=>by have:=h.rr r g;exact⟨this.1,by omega⟩);have d:decide (c<0)=false:=by simp;omega
 unfold rq;simp only[Ip,f,hv,aiq cols rows h,d,zA,aL,aa];refine (aeF (fun (out:List bF) (i:Nat)=>((c,0,0,0,[],[],[],[],5,0,0,[],[],cols,out,(i:Int)):Int×Int×Int×Int×Str×(List aC)×(List Str)×(List bF)×Int×Int×Int×Str×(List aC)×(List Str)×(List bF)×Int)) c rows _ (fun i x out m hi j=>?_) ?_)
 ·have a:decide ((i:Int)<(out.length:Int))=true:=by simp;omega
  have k:w64 ((i:Int)+1)=((i+1:Nat):Int):=by rw[aX (by omega) (by omega)];omega
  simp only[a,ac,aA,j,zA,az,k];rfl
 ·have a:decide ((rows.length:Int)<((iL (mM c) 0 rows).length:Int))=false:=by rw[Ci];simp
  simp only[a,aa]
theorem Xz(a:Str)(h:a.length<=1048576):∃v,rU a=some v/\lX a=some v/\(v=true->a.length<=120):=by
 have e:rU a=lX a:=rfl;rw[e];have key:∃v,lX a=some v/\(v=true->a.length<=120):=by
  unfold lX;refine dL (fun (_:Unit) (i:Nat)=>((a,(i:Int)):Str×Int)) a (fun _ _=>True) _ (fun i x s b d=>?_) (fun s d=>?_) () trivial
  ·simp only[dD b,ac,aA,b,zA,dI b (by omega)];cases decide ((x.toNat:Int)<32)with
   | true=>exact .inr ⟨false,rfl,fun h=>(by cases h)⟩
   | false=>
    cases decide ((x.toNat:Int)>126)with
    | true=>exact .inr ⟨false,rfl,fun h=>(by cases h)⟩
    | false=>exact .inl ⟨(),rfl,trivial⟩
  ·refine⟨_,by simp only[bY,aa];rfl,fun h=>?_⟩;simp at h;omega
 obtain⟨v,c,f⟩:=key;exact⟨v,c,c,f⟩
structure Wn(c:aj):Prop where
 id0:1<=c.id
 id9:c.id<=999
 v0:1<=c.version
 v9:c.version<=999
 code:c.code.length<=120
 kind:c.kind=1\/c.kind=2\/c.kind=3\/c.kind=4
 name:c.name.length<=8
theorem afc{a b c:Int}(h:(decide (b<=a)&&decide (a<=c))=true):b<=a/\a<=c:=by simpa using h
theorem G7(c:aj)(B:c.name.length<=1048576)(l:c.code.length<=1048576):∃b,jr c=some b/\kE c=some b/\(b=true->Wn c):=by
 obtain⟨v,m,n,o⟩:=Xz c.code l;obtain⟨u,g⟩:=oD c.name (by omega);have p:bP c.name=some u:=by rw[<- nX c.name (by omega),g]
 have q:∀a b d:Int,xI a b d=kS a b d:=fun a b d=>(U8 a b d).symm
 unfold jr kE;simp only[q,zZ,m,n,g,p,zA];cases r:(decide (1<=c.id)&&decide (c.id<=999))with
 | false=>exact⟨false,rfl,rfl,fun h=>(by cases h)⟩
 | true=>
  cases s:(decide (1<=c.version)&&decide (c.version<=999))with
  | false=>exact⟨false,rfl,rfl,fun h=>(by cases h)⟩
  | true=>
   cases v with
   | false=>exact⟨false,rfl,rfl,fun h=>(by cases h)⟩
   | true=>
    have e:=afc r;have f:=afc s;have k:=o rfl;simp only[aL,aa];have no:∃b:Bool,(some false:Option Bool)=some b/\(some false:Option Bool)=some b/\(b=true->Wn c):=⟨false,rfl,rfl,fun h=>(by cases h)⟩;have named:∀z:Option Bool,(∃b,z=some b)->(c.kind=1\/c.kind=2\/c.kind=3\/c.kind=4)->∃b:Bool,(bif u then z else some false)=some b/\(bif u then z else some false)=some b/\(b=true->Wn c):=by
     intro z t i;obtain⟨b,rfl⟩:=t;cases u with
     | false=>exact no
     | true=>exact⟨b,rfl,rfl,fun _=>⟨e.1,e.2,f.1,f.2,k,i,LC c.name (by omega) g⟩⟩
    cases w:(c.kind==1)with
    | true=>
     simp only[ac];have i:c.kind=1:=eq_of_beq w;cases j:(c.name==[])with
     | false=>exact no
     | true=>exact⟨_,rfl,rfl,fun _=>⟨e.1,e.2,f.1,f.2,k,.inl i,by rw[eq_of_beq j];simp⟩⟩
    | false=>
     simp only[aa];cases x:(c.kind==2)with
     | true=>exact named _ ⟨_,rfl⟩ (.inr (.inl (eq_of_beq x)))
     | false=>
      simp only[aa];cases y:(c.kind==4)with
      | true=>exact named _ ⟨_,rfl⟩ (.inr (.inr (.inr (eq_of_beq y))))
      | false=>
       simp only[aa];cases A:(c.kind==3)with
       | true=>
        refine named _ ?_ (.inr (.inr (.inl (eq_of_beq A))));cases (c.code==[])<;>exact⟨_,rfl⟩
       | false=>exact no
structure qW(p:bG):Prop where
 expr:p.kind=2->vz p.expr/\wtE p.expr<=40
 name:p.name.length<=8
theorem sU(p:bG):kQ p=p:=by
 unfold kQ;rw[aQ,Ip]
theorem U0(c:aj)(hv:jr c=some true)(s:kE c=some true)(b:Wn c):∃p,l9 c=some p/\iI c=some p/\qW p/\∀K,K=c.kind->(p.kind=2->K=2)/\(K=1->p.kind=1):=by
 have ne:∀(K k:Int) (n:Str) (e:af) (v:aC) (a:Int),¬k=2->n.length<=8->(K=1->k=1)->qW ⟨k,n,e,v,a⟩/\∀L,L=K->(k=2->L=2)/\(L=1->k=1):=fun K k n e v a m t f=>⟨⟨fun h=>absurd h m,t⟩,fun L o=>⟨fun h=>absurd h m,fun h=>f (by omega)⟩⟩
 unfold l9 iI;simp only[hv,s,zA,aL,aa,Ae,zk,lM,lm,Ip,aQ];rcases b.kind with k | k | k | k
 ·rw[k];exact⟨_,rfl,rfl,ne 1 _ _ _ _ _ (by decide) (by simp) fun _=>rfl⟩
 ·rw[k];obtain⟨e,p,f,i,j⟩:=aai c.code;simp only[f,i,zA];by_cases g:p>=0
  ·rw[al g];exact⟨_,rfl,rfl,ne 2 _ _ _ _ _ (by decide) b.name fun h=>absurd h (by decide)⟩
  ·rw[ae g];exact⟨_,rfl,rfl,⟨⟨fun _=>j (by omega),b.name⟩,fun L o=>⟨fun _=>o,fun h=>by omega⟩⟩⟩
 ·rw[k];exact⟨_,rfl,rfl,ne 3 _ _ _ _ _ (by decide) b.name fun h=>absurd h (by decide)⟩
 ·rw[k];obtain⟨v,ok,f,i,j⟩:=aeg c.code b.code;simp only[f,i,zA];cases ok with
  | false=>
   obtain⟨u,ps,d⟩:=Qk c.code;have l:(dataOf u ps).2=false:=by
    have:=(Ro c.code b.code d).symm.trans f;injection this with this;rw[this]
   rw[ala c.code b.code d l,akH c.code b.code d];exact⟨_,rfl,rfl,ne 4 _ _ _ _ _ (by decide) b.name fun h=>absurd h (by decide)⟩
  | true=>
   obtain⟨cols,rows,rfl,q,w,x,y,z⟩:=j rfl;have r:akk cols rows:=⟨w,x,y,z⟩;have A:=b.id0;rw[adJ c.id (by omega) cols rows r q,acE c.id (by omega) cols rows r q];exact⟨_,rfl,rfl,ne 4 _ _ _ _ _ (by decide) b.name fun h=>absurd h (by decide)⟩
def ET(id:Int):Nat->List aj->Int
 | _,[]=>-1
 | i,c::r=>if (c.id==id)=true then (i:Int)else ET id (i+1) r
theorem VH(id:Int){cs:List aj}{i:Nat}{c:aj}(h:cs[i]?=some c):ET id i (cs.drop i)=if (c.id==id)=true then (i:Int)else ET id (i+1) (cs.drop (i+1)):=by
 obtain⟨hi,rfl⟩:=zC.1 h;rw[List.drop_eq_getElem_cons hi];rfl
theorem apA(cs:List aj)(id:Int)(e:cs.length<=1048576):lQ ⟨cs⟩ id=some (ET id 0 cs):=by
 unfold lQ;refine xW (dL (fun (_:Unit) (i:Nat)=>((id,cs,(cs.length:Int),(i:Int)):Int×List aj×Int×Int)) cs (fun i _=>ET id i (cs.drop i)=ET id 0 cs) _ (fun i c s a b=>?_) (fun s b=>?_) () rfl)
 ·have hd:=VH id a;simp only[dD a,ac,aA,a,zA,dI a (by omega)];cases d:(c.id==id)with
  | true=>exact .inr ⟨_,rfl,by rw[<- b,hd,d];rfl⟩
  | false=>exact .inl ⟨(),rfl,by rw[<- b,hd,d];rfl⟩
 ·exact⟨_,by simp only[bY,aa];rfl,by rw[<- b,List.drop_length];rfl⟩
theorem ao6(cs:List aj)(id:Int)(e:cs.length<=1048576):lu ⟨cs⟩ id=some (ET id 0 cs):=by
 unfold lu;refine xW (dL (fun (_:Unit) (i:Nat)=>((id,cs,(i:Int)):Int×List aj×Int)) cs (fun i _=>ET id i (cs.drop i)=ET id 0 cs) _ (fun i c s a b=>?_) (fun s b=>?_) () rfl)
 ·have hd:=VH id a;simp only[dD a,ac,aA,a,zA,dI a (by omega)];cases d:(c.id==id)with
  | true=>exact .inr ⟨_,rfl,by rw[<- b,hd,d];rfl⟩
  | false=>exact .inl ⟨(),rfl,by rw[<- b,hd,d];rfl⟩
 ·exact⟨_,by simp only[bY,aa];rfl,by rw[<- b,List.drop_length];rfl⟩
structure yS(c:aj):Prop where
 name:c.name.length<=1048576
 code:c.code.length<=1048576
noncomputable def cellV(c:aj):Bool:=(jr c).getD false
theorem afm(c:aj)(h:yS c):jr c=some (cellV c):=by
 obtain⟨b,a,_⟩:=G7 c h.name h.code;unfold cellV;rw[a];rfl
theorem afl(c:aj)(h:yS c):kE c=some (cellV c):=by
 obtain⟨b,a,d,_⟩:=G7 c h.name h.code;unfold cellV;rw[a,d];rfl
theorem alv(c:aj)(h:yS c)(hv:cellV c=true):Wn c:=by
 obtain⟨b,a,_,d⟩:=G7 c h.name h.code;refine d ?_;unfold cellV at hv;rw[a]at hv;exact hv
noncomputable def wL(cs:List aj):Bool:=jA (fun i c=>cellV c&&(ET c.id 0 cs==(i:Int))) 0 cs&&decide ((cs.length:Int)<=8)
theorem aa6(cs:List aj)(b:cs.length<=1048576)(h:∀c,c∈cs->yS c):jT ⟨cs⟩=some (wL cs):=by
 unfold jT wL;refine (qi (fun i=>((cs,cs,(cs.length:Int),(i:Int)):List aj×List aj×Int×Int)) cs (fun i c=>cellV c&&(ET c.id 0 cs==(i:Int))) false (decide ((cs.length:Int)<=8)) (fun i c a=>?_) ?_).trans ?_
 ·simp only[dD a,ac,aA,a,zA,afm c (h c (zG a)),apA cs c.id b,bne,dI a (by omega)];cases cellV c<;>cases (ET c.id 0 cs==(i:Int))<;>rfl
 ·simp only[bY,aa]
 ·cases jA (fun i c=>cellV c&&(ET c.id 0 cs==(i:Int))) 0 cs<;>rfl
theorem ZY(cs:List aj)(b:cs.length<=1048576)(h:∀c,c∈cs->yS c):jM ⟨cs⟩=some (wL cs):=by
 unfold jM wL;refine (qi (fun i=>((cs,(i:Int)):List aj×Int)) cs (fun i c=>cellV c&&(ET c.id 0 cs==(i:Int))) false (decide ((cs.length:Int)<=8)) (fun i c a=>?_) ?_).trans ?_
 ·simp only[dD a,ac,aA,a,zA,afl c (h c (zG a)),ao6 cs c.id b,bne,dI a (by omega)];cases cellV c<;>cases (ET c.id 0 cs==(i:Int))<;>rfl
 ·simp only[bY,aa]
 ·cases jA (fun i c=>cellV c&&(ET c.id 0 cs==(i:Int))) 0 cs<;>rfl
theorem Nk{α:Type}{p:Nat->α->Bool}:∀ {i:Nat} {xs:List α},jA p i xs=true->∀x,x∈xs->∃j,p j x=true
 | i,y::r,h,x,a=>by
  have h:(p i y&&jA p (i+1) r)=true:=h;rw[zI]at h;rcases ba.1 a with rfl | a
  ·exact⟨i,h.1⟩
  ·exact Nk h.2 x a
theorem Au{cs:List aj}(h:∀c,c∈cs->yS c)(hv:wL cs=true):cs.length<=8/\∀c,c∈cs->cellV c=true/\Wn c:=by
 unfold wL at hv;rw[zI]at hv;have d:=of_decide_eq_true hv.2;refine⟨by omega,fun c b=>?_⟩;obtain⟨j,a⟩:=Nk hv.1 c b;rw[zI]at a;exact⟨a.1,alv c (h c b) a.1⟩
theorem Sm(cs:List aj)(z:cs.length<=1048576)(h:∀c,c∈cs->yS c):∃ps,oq ⟨cs⟩=some ps/\lq ⟨cs⟩=some ps/\(∀p,p∈ps->qW p)/\(wL cs=true->ps.length=cs.length)/\ps.length<=8/\∀(i:Nat) (p:bG) (c:aj),ps[i]?=some p->cs[i]?=some c->iI c=some p/\(p.kind=2->c.kind=2)/\(c.kind=1->p.kind=1):=by
 unfold oq lq;simp only[aa6 cs z h,ZY cs z h,zA];cases hv:wL cs with
 | false=>exact⟨[],rfl,rfl,fun p o=>(by cases o),fun h=>(by cases h),by simp,fun i p c h=>by simp at h⟩
 | true=>
  obtain⟨L,r⟩:=Au h hv;simp only[aL,aa];have pt:∀c,c∈cs->∃p,l9 c=some p/\iI c=some p/\qW p/\(p.kind=2->c.kind=2)/\(c.kind=1->p.kind=1):=fun c s=>by
   obtain⟨A,D⟩:=r c s;obtain⟨p,t,u,k,E⟩:=U0 c (by rw[afm c (h c s),A]) (by rw[afl c (h c s),A]) D;exact⟨p,t,u,k,E _ rfl⟩
  have key:=akp (ρ:=List bG) (f:=fun (a:(List bG)×(List aj)×Int×Int)=>
   bif (decide (a.2.2.2<a.2.2.1))then
    (idx a.2.1 a.2.2.2).bind fun k=>
    (l9 k).bind fun l=>
    (gd (a.1.length+[kQ l].length)).bind fun _=>
    some (.inl (a.1++[kQ l],a.2.1,a.2.2.1,w64 (a.2.2.2+1)))
   else
    some (.inr (a.1))) (g:=fun (a:(List aj)×(List bG)×Int)=>
   bif (decide (a.2.2<(a.1.length:Int)))then
    (idx a.1 a.2.2).bind fun k=>
    (iI k).bind fun l=>
    (gd (a.2.1.length+[kQ l].length)).bind fun _=>
    some (.inl (a.1,a.2.1++[kQ l],w64 (a.2.2+1)))
   else
    some (.inr (a.2.1))) (fun (out:List bG) (i:Nat)=>((out,cs,(cs.length:Int),(i:Int)):(List bG)×(List aj)×Int×Int)) (fun (out:List bG) (i:Nat)=>((cs,out,(i:Int)):(List aj)×(List bG)×Int)) cs (fun i out=>out.length=i/\(∀p,p∈out->qW p)/\∀(j:Nat) (p:bG) (c:aj),out[j]?=some p->cs[j]?=some c->iI c=some p/\(p.kind=2->c.kind=2)/\(c.kind=1->p.kind=1)) (fun ps=>ps.length=cs.length/\(∀p,p∈ps->qW p)/\∀(i:Nat) (p:bG) (c:aj),ps[i]?=some p->cs[i]?=some c->iI c=some p/\(p.kind=2->c.kind=2)/\(c.kind=1->p.kind=1)) (fun i c out b d=>.inl ?_) (fun out d=>⟨out,by simp only[bY,aa],by simp only[bY,aa],d⟩) [] ⟨rfl,fun p o=>(by cases o),fun j p c h=>by simp at h⟩
  ·obtain⟨ps,t,u,F,G,H⟩:=key;exact⟨ps,t,u,G,fun _=>F,by omega,H⟩
  ·obtain⟨p,I,B,J,K⟩:=pt c (zG b);have hi:=(zC.1 b).1;have C:gd (out.length+[p].length)=some ():=gdp (by simp;omega);refine⟨out++[p],?_,?_,by simp[d.1],fun q m=>?_,fun j q y n v=>?_⟩
   ·simp only[dD b,ac,aA,b,zA,I,sU,C,dI b (by omega)]
   ·simp only[dD b,ac,aA,b,zA,B,sU,C,dI b (by omega)]
   ·rcases List.mem_append.1 m with m | m
    ·exact d.2.1 q m
    ·rw[List.mem_singleton.1 m];exact J
   ·by_cases w:j<out.length
    ·rw[List.getElem?_append_left w]at n;exact d.2.2 j q y n v
    ·have x:=(zC.1 n).1;simp at x;have e:j=i:=by have:=d.1;omega
     subst e;rw[List.getElem?_append_right (by omega),d.1,Nat.sub_self]at n;rw[b]at v;cases n
     cases v
     exact⟨B,K⟩
theorem U1(cs:List aj)(a:cs.length<=1048576)(h:∀c,c∈cs->yS c):∃ps,oq ⟨cs⟩=some ps/\lq ⟨cs⟩=some ps/\(∀p,p∈ps->qW p)/\(wL cs=true->ps.length=cs.length)/\ps.length<=8:=by
 obtain⟨ps,b,d,e,f,g,_⟩:=Sm cs a h;exact⟨ps,b,d,e,f,g⟩
end Go.Proofs.YtapgeemjgckgaaaGreatDoor
/- Plain laws: what a part uses, and who defines a name: the two programs alike. -/
namespace Go.Proofs.YtapgeemjgckgaaaGreatDoor
open Go.Abs Go.Proofs
noncomputable def qR(p:bG):List Str:=(qZ p).getD []
theorem DC(p:bG)(h:qW p):Aa p=some (qR p)/\qZ p=some (qR p)/\(qR p).length<=1000:=by
 have key:∃ys,Aa p=some ys/\qZ p=some ys/\ys.length<=1000:=by
  unfold Aa qZ;by_cases b:p.kind=2
  ·have e:(p.kind != 2)=false:=by rw[b];rfl
   obtain⟨hv,f⟩:=h.expr b;obtain⟨ys,c,a,_,g,_⟩:=NJ p.expr (by omega);rw[e];simp only[aa,aQ,c,a,zA];exact⟨ys,rfl,rfl,by omega⟩
  ·have e:(p.kind != 2)=true:=by simpa using b
   rw[e];exact⟨[],rfl,rfl,by simp⟩
 obtain⟨ys,c,a,d⟩:=key;have e:qR p=ys:=by unfold qR;rw[a];rfl
 rw[e];exact⟨c,a,d⟩
noncomputable def NH(p:bG)(s:Str):Bool:=(qR p).contains s
theorem aaP(p:bG)(h:qW p)(s:Str):∃q:Int,mQ (qR p) s=some q/\decide (q>=0)=NH p s/\decide (q<0) = !(NH p s):=by
 obtain⟨_,_,c⟩:=DC p h;refine⟨posOf s 0 (qR p),wB (qR p) s (by omega),?_⟩;have b:=sV s (qR p) 0;unfold NH;cases a:(qR p).contains s with
 | false=>
  have:=b.2 a;exact⟨by rw[ae (by omega)],by rw[al this];rfl⟩
 | true=>
  have:¬posOf s 0 (qR p)<0:=fun hh=>by rw[b.1 hh]at a;cases a
  exact⟨by rw[al (by omega)],by rw[ae this];rfl⟩
theorem ajC(p:bG)(h:qW p)(s:Str):nK (qR p) s=some (NH p s):=by
 obtain⟨_,_,a⟩:=DC p h;exact o6 (qR p) s (by omega)
theorem abf(p:bG)(s:Str)(h:NH p s=true):p.kind=2:=by
 by_cases a:p.kind=2
 ·exact a
 ·have e:(p.kind != 2)=true:=by simpa using a
  have:qR p=[]:=by unfold qR qZ;rw[e];rfl
  unfold NH at h;rw[this]at h;cases h
def dY(b:Str):Nat->List bG->List Int
 | _,[]=>[]
 | i,p::r=>if ((p.kind != 1)&&(p.name==b))=true then (i:Int)::dY b (i+1) r else dY b (i+1) r
theorem abC(b:Str){ps:List bG}{i:Nat}{p:bG}(h:ps[i]?=some p):dY b i (ps.drop i)=if ((p.kind != 1)&&(p.name==b))=true then (i:Int)::dY b (i+1) (ps.drop (i+1))else dY b (i+1) (ps.drop (i+1)):=by
 obtain⟨hi,rfl⟩:=zC.1 h;rw[List.drop_eq_getElem_cons hi];rfl
theorem G5(b:Str):∀(ps:List bG) (i:Nat) (k:Int),k∈dY b i ps->(i:Int)<=k/\k<((i+ps.length:Nat):Int)
 | [],i,k,h=>by cases h
 | p::r,i,k,h=>by
  unfold dY at h;split at h
  ·rcases ba.1 h with rfl | h
   ·simp;omega
   ·have:=G5 b r (i+1) k h;simp only[List.length_cons];omega
  ·have:=G5 b r (i+1) k h;simp only[List.length_cons];omega
theorem VY{b:Str}{ps:List bG}{i:Nat}{p:bG}(a:ps[i]?=some p){out:List Int}(c:out++dY b i (ps.drop i)=dY b 0 ps) :
  (if ((p.kind != 1)&&(p.name==b))=true then out++[(i:Int)]else out)++dY b (i+1) (ps.drop (i+1))=dY b 0 ps:=by
 rw[<- c,abC b a];split
 ·rw[a7];rfl
 ·rfl
theorem aaD{c:Bool}{out:List Int}{i:Nat}(h:out.length<=i):(if c=true then out++[(i:Int)]else out).length<=i+1:=by
 split
 ·simp;omega
 ·omega
theorem aff(ps:List bG)(b:Str)(e:ps.length<=1048576):yF ps b=some (dY b 0 ps):=by
 unfold yF;refine xW (dL (fun (out:List Int) (i:Nat)=>((b,out,ps,(ps.length:Int),(i:Int)):Str×(List Int)×(List bG)×Int×Int)) ps (fun i out=>out++dY b i (ps.drop i)=dY b 0 ps/\out.length<=i) _ (fun i p out a c=>.inl ?_) (fun out c=>?_) [] ⟨rfl,aw _⟩)
 ·have hi:=(zC.1 a).1;have d:∀n:Int,gd (out.length+[n].length)=some ():=fun n=>gdp (by simp;omega)
  refine⟨if ((p.kind != 1)&&(p.name==b))=true then out++[(i:Int)]else out,?_,VY a c.1,aaD c.2⟩;simp only[dD a,ac,aA,a,zA,d,dI a (by omega)];cases (p.kind != 1)<;>cases (p.name==b)<;>rfl
 ·refine⟨out,by simp only[bY,aa],?_⟩;have:=c.1;rw[List.drop_length]at this;simpa [dY] using this
theorem aeK(ps:List bG)(b:Str)(e:ps.length<=1048576):xO ps b=some (dY b 0 ps):=by
 unfold xO;refine xW (dL (fun (out:List Int) (i:Nat)=>((ps,b,out,(i:Int)):(List bG)×Str×(List Int)×Int)) ps (fun i out=>out++dY b i (ps.drop i)=dY b 0 ps/\out.length<=i) _ (fun i p out a c=>.inl ?_) (fun out c=>?_) [] ⟨rfl,aw _⟩)
 ·have hi:=(zC.1 a).1;have d:∀n:Int,gd (out.length+[n].length)=some ():=fun n=>gdp (by simp;omega)
  refine⟨if ((p.kind != 1)&&(p.name==b))=true then out++[(i:Int)]else out,?_,VY a c.1,aaD c.2⟩;simp only[dD a,ac,aA,a,zA,d,dI a (by omega)];cases (p.kind != 1)<;>cases (p.name==b)<;>rfl
 ·refine⟨out,by simp only[bY,aa],?_⟩;have:=c.1;rw[List.drop_length]at this;simpa [dY] using this
def Fb:List Int->Int
 | []=>-1
 | [k]=>k
 | _=>-2
theorem ak8(ps:List bG)(b:Str)(c:ps.length<=1048576):IZ ps b=some (Fb (dY b 0 ps)):=by
 unfold IZ;rw[aff ps b c,zA];cases dY b 0 ps with
 | nil=>rfl
 | cons k r=>cases r with
  | nil=>rfl
  | cons a r=>
   have d:(((k::a::r).length:Int)==0)=false:=by simp;omega
   have e:(((k::a::r).length:Int)==1)=false:=by simp;omega
   rw[d,e];rfl
theorem aeJ(ps:List bG)(b:Str)(c:ps.length<=1048576):Bo ps b=some (Fb (dY b 0 ps)):=by
 unfold Bo;rw[aeK ps b c,zA];cases dY b 0 ps with
 | nil=>rfl
 | cons k r=>cases r with
  | nil=>rfl
  | cons a r=>
   have d:(((k::a::r).length:Int)==0)=false:=by simp;omega
   have e:(((k::a::r).length:Int)==1)=false:=by simp;omega
   rw[d,e];rfl
theorem aiu(ps:List bG)(b:Str)(h:0<=Fb (dY b 0 ps)):∃k:Nat,Fb (dY b 0 ps)=k/\k<ps.length:=by
 cases hd:dY b 0 ps with
 | nil=>rw[hd]at h;exact absurd h (by decide)
 | cons k r=>cases r with
  | nil=>
   have:=G5 b ps 0 k (by rw[hd];simp)
   exact⟨k.toNat,by show k=_;omega,by omega⟩
  | cons a r=>rw[hd]at h;exact absurd h (by show ¬(0:Int)<=-2;decide)
end Go.Proofs.YtapgeemjgckgaaaGreatDoor
