import Derived.Test.YtjbajpfonnnfoaaGreatDoorLink1
set_option linter.unusedVariables false
/- What the functions compute, by gen.py. -/
namespace Go.Proofs.YtjbajpfonnnfoaaGreatDoor
noncomputable section
open Go.Abs Go.Proofs
abbrev amI(X:Type):=Int×Int×Int×Str×(List af)×(List Str)×(List aB)×X
abbrev amJ(X:Type):=Int×Int×Str×(List ak)×X
abbrev amK(X:Type):=(List aG)×Int×Int×(List fJ)×Int×Int×(List aG)×Int×Bool×X
abbrev amL:=Int×Int×Int×Str×(List af)×(List Str)×(List aB)
abbrev amM(X:Type):=(List Int)×Int×Int×X
abbrev amN:=(List af)×Int×Int
abbrev amO:=Bool×Bool×Bool
abbrev amP:=(List Str)×Int×Int
abbrev amQ:=(List aB)×Int×Int
abbrev amR(X:Type):=(List Int)×(List aj)×(List aB)×Int×Int×X
abbrev amS:=Int×(List Int)×(List aj)×Int
abbrev amT:=(List ak)×Int×Int
abbrev amU(X:Type):=Int×Int×(List fJ)×X
abbrev amV:=(List Int)×Int×Int
abbrev amW:=(List aj)×Int×Int
abbrev amF(i:Nat)(p r:List Sh)(f:Tup p->Option (Tup r)):Fsp:=⟨i,p,r,true,false,f⟩
abbrev amG(i:Nat)(p r:List Sh)(f:Tup p->Option (Tup r)):Fsp:=⟨i,p,r,false,false,f⟩
abbrev amH(i:Nat)(p r:List Sh)(f:Tup p->Option (Tup r)):Fsp:=⟨i,p,r,false,true,f⟩
abbrev shT(b:Base):Sh:=⟨true,.base b⟩
abbrev shF(b:Base):Sh:=⟨false,.base b⟩
abbrev slF(b:Base):Sh:=⟨false,.list (.base b)⟩
abbrev siz{α:Type}[SizeOf α](x:α):Nat:=SizeOf.sizeOf x
abbrev w64(n:Int):Int:=IntKind.i64.wrap n
abbrev w8(n:Int):Int:=IntKind.u8.wrap n
def big(a:List Int):Option (Bool):=some ((decide ((a.length:Int)>1048576)))
def al9:Fsp:=amF 6 [slF .u8] [shF .bool] big
def Uw(a:List Int):Option (aS):=aN (λ((d,e,f):amV)=>bif (decide (f<(d.length:Int)))then bif (decide (f<4000))then (idx d f).bind λc=>some (.inl (d,w64 (((BitVec.ofInt 64 (w64 ((w64 ((w64 (e*131))+(w64 (c))))+7)) &&& BitVec.ofInt 64 1073741823).toNat:Int)),w64 (f+1)))else some (.inr (aS.mk d 0 e))else some (.inr (aS.mk d 0 e))) (a,w64 (26583+(a.length:Int)),0)
def aei:Fsp:=amG 19 [slF .u8] [shT .cur] Uw
def Ie(rsL10Left:ak->Int->Option (Int))(a:ak)(b:Int):Option (Int):=aN (λ((f,g,h,i,j,k):Int×amJ Int)=>bif (decide (k<(j.length:Int)))then bif (decide (f>=0))then (idx j k).bind λd=>(rsL10Left (aH d) f).bind λe=>some (.inl (e,g,h,i,j,w64 (k+1)))else some (.inr (f))else some (.inr (f))) (w64 (b-1),a.kind,a.n,a.text,a.args,0)
def wu:Nat->(ak->Int->Option (Int))
 | 0=>λ_ _=>none
 | n+1=>Ie (wu n)
def Fe(a:ak)(b:Int):Option (Int):=(wu (siz a+1)) a b
def Zi:Fsp:=amF 48 [shT .expr,shF .int] [shF .int] (λx=>Fe x.1 x.2)
def Ad(n:Nat):Fsp:=amF 48 [shT .expr,shF .int] [shF .int] (λx=>(wu n) x.1 x.2)
def DK(a:Int)(b:Int):Option (Int):=bif (decide (a>b))then some (a)else some (b)
def aek:Fsp:=amF 103 [shF .int,shF .int] [shF .int] (λx=>DK x.1 x.2)
def kG(rsNestingOf:ak->Option (Int))(a:ak):Option (Int):=aN (λ((f,g,h,i,j,k):amJ (Int×Int))=>bif (decide (k<(i.length:Int)))then (idx i k).bind λc=>(rsNestingOf (aH c)).bind λd=>(DK j d).bind λe=>some (.inl (f,g,h,i,e,w64 (k+1)))else some (.inr (w64 (j+1)))) (a.kind,a.n,a.text,a.args,0,0)
def iw:Nat->(ak->Option (Int))
 | 0=>λ_=>none
 | n+1=>kG (iw n)
def xM(a:ak):Option (Int):=(iw (siz a+1)) a
def Uh:Fsp:=amF 49 [shT .expr] [shF .int] xM
def uX(n:Nat):Fsp:=amF 49 [shT .expr] [shF .int] (iw n)
def gZ(a:Str):Option (Bool):=aN (λ(b:Str×Int)=>bif (decide (b.2<(b.1.length:Int)))then (idx b.1 b.2).bind λc2=>bif (decide ((c2.toNat:Int)<32))then some (.inr (false))else (idx b.1 b.2).bind λc3=>bif (decide ((c3.toNat:Int)>126))then some (.inr (false))else (idx b.1 b.2).bind λc4=>bif ((c4.toNat:Int)==34)then some (.inr (false))else some (.inl (b.1,w64 (b.2+1)))else some (.inr ((decide ((b.1.length:Int)<=20))))) (a,0)
def Na:Fsp:=amF 43 [shF .str] [shF .bool] gZ
def vW(a:Int)(b:Int)(c:Int):Option (Bool):=bif (decide (a>=b))then some ((decide (a<=c)))else some (false)
def ag5:Fsp:=amF 46 [shF .int,shF .int,shF .int] [shF .bool] (λx=>vW x.1 x.2.1 x.2.2)
def EZ(a:Str):Option (Bool):=aN (λ(b:Str×Int)=>bif (decide (b.2<(b.1.length:Int)))then (idx b.1 b.2).bind λc2=>bif (decide ((c2.toNat:Int)>=97))then (idx b.1 b.2).bind λc3=>(idx b.1 b.2).bind λc4=>bif (decide ((c4.toNat:Int)>=48))then (idx b.1 b.2).bind λc=>bif (!(decide ((c3.toNat:Int)<=122)))then bif (b.2==0)then some (.inr (false))else bif (!(decide ((c.toNat:Int)<=57)))then some (.inr (false))else some (.inl (b.1,w64 (b.2+1)))else some (.inl (b.1,w64 (b.2+1)))else bif (!(decide ((c3.toNat:Int)<=122)))then bif (b.2==0)then some (.inr (false))else some (.inr (false))else some (.inl (b.1,w64 (b.2+1)))else (idx b.1 b.2).bind λd=>bif (decide ((d.toNat:Int)>=48))then (idx b.1 b.2).bind λe=>bif (b.2==0)then some (.inr (false))else bif (!(decide ((e.toNat:Int)<=57)))then some (.inr (false))else some (.inl (b.1,w64 (b.2+1)))else bif (b.2==0)then some (.inr (false))else some (.inr (false))else some (.inr ((decide ((b.1.length:Int)>0))))) (a,0)
def Y3:Fsp:=amF 192 [shF .str] [shF .bool] EZ
def DL(a:List Str)(b:Str):Option (Bool):=aN (λ((e,f,g):(List Str)×Str×Int)=>bif (decide (g<(e.length:Int)))then (idx e g).bind λd=>bif (d==f)then some (.inr (true))else some (.inl (e,f,w64 (g+1)))else some (.inr (false))) (a,b,0)
def ael:Fsp:=amF 98 [slF .str,shF .str] [shF .bool] (λx=>DL x.1 x.2)
def uh:Option ((List Str)):=some (([[108,101,116],[105,110],[105,102],[116,104,101,110],[101,108,115,101],[102,111,114],[100,111],[108,101,110],[115,117,109],[116,97,107,101],[115,107,105,112],[114,97,110,103,101],[110,116,104],[119,104,101,114,101],[107,101,101,112],[97,100,100],[103,114,111,117,112],[106,111,105,110],[99,111,108,117,109,110],[114,111,119,115],[99,108,111,99,107],[99,104,97,110,99,101],[102,105,108,101],[116,97,98,108,101]]:List Str))
def Qg:Fsp:=amF 219 [] [slF .str] (λx=>uh)
def pG(a:Str):Option (Bool):=(uh).bind λb=>(DL b a).bind λc=>some (c)
def Qm:Fsp:=amF 193 [shF .str] [shF .bool] pG
def bP(a:Str):Option (Bool):=(EZ a).bind λb=>bif b then bif (decide ((a.length:Int)<=8))then (pG a).bind λc=>some ((!c))else some (false)else some (false)
def Nb:Fsp:=amF 144 [shF .str] [shF .bool] bP
def fZ(a:Str):Option (Int):=bif (a==[99,108,111,99,107])then some (0)else bif (a==[108,101,110])then some (1)else bif (a==[115,117,109])then some (1)else bif (a==[114,111,119,115])then some (1)else bif (a==[99,104,97,110,99,101])then some (1)else bif (a==[102,105,108,101])then some (1)else bif (a==[116,97,107,101])then some (2)else bif (a==[115,107,105,112])then some (2)else bif (a==[114,97,110,103,101])then some (2)else bif (a==[110,116,104])then some (2)else bif (a==[107,101,101,112])then some (2)else bif (a==[99,111,108,117,109,110])then some (2)else bif (a==[116,97,98,108,101])then some (2)else bif (a==[119,104,101,114,101])then some (3)else bif (a==[103,114,111,117,112])then some (3)else bif (a==[106,111,105,110])then some (3)else bif (a==[97,100,100])then some (4)else some ((-1))
def Il:Fsp:=amF 147 [shF .str] [shF .int] fZ
def gG(a:ak):Option (Bool):=bif (a.kind==1)then bif ((a.args.length:Int)==0)then bif (a.text==[])then (vW a.n 0 1000000000).bind λb=>some (b)else some (false)else some (false)else bif (a.kind==2)then bif ((a.args.length:Int)==0)then bif (a.n==0)then (gZ a.text).bind λc=>some (c)else some (false)else some (false)else bif (a.kind==3)then bif ((a.args.length:Int)==0)then bif (a.n==0)then (bP a.text).bind λd=>some (d)else some (false)else some (false)else bif (a.kind==4)then bif (a.n==0)then bif (a.text==[])then some ((decide ((a.args.length:Int)<=8)))else some (false)else some (false)else bif (a.kind==5)then bif (a.n==0)then (fZ a.text).bind λe=>some (((a.args.length:Int)==e))else some (false)else bif (a.kind==6)then bif (a.text==[])then bif ((a.args.length:Int)==2)then (vW a.n 1 5).bind λf=>some (f)else some (false)else some (false)else bif (a.kind==7)then bif (a.n==0)then bif ((a.args.length:Int)==2)then (bP a.text).bind λg=>some (g)else some (false)else some (false)else bif (a.kind==9)then bif (a.n==0)then bif ((a.args.length:Int)==2)then (bP a.text).bind λh=>some (h)else some (false)else some (false)else bif (a.kind==8)then bif (a.n==0)then bif (a.text==[])then some (((a.args.length:Int)==3))else some (false)else some (false)else some (false)
def Ze:Fsp:=amF 104 [shT .expr] [shF .bool] gG
def rJ(rsL10All:ak->Option (Bool))(a:ak):Option (Bool):=aN (λ((f,g,h,i,j):amJ Int)=>bif (decide (j<(i.length:Int)))then (idx i j).bind λc=>(rsL10All (aH c)).bind λd=>bif (!d)then some (.inr (false))else some (.inl (f,g,h,i,w64 (j+1)))else ((gG (ak.mk f g h i)).bind λe=>some (e)).bind λr=>some (.inr r)) (a.kind,a.n,a.text,a.args,0)
def lM:Nat->(ak->Option (Bool))
 | 0=>λ_=>none
 | n+1=>rJ (lM n)
def Ff(a:ak):Option (Bool):=(lM (siz a+1)) a
def acw:Fsp:=amF 50 [shT .expr] [shF .bool] Ff
def DT(n:Nat):Fsp:=amF 50 [shT .expr] [shF .bool] (lM n)
def dF(a:ak):Option (Bool):=(Fe (aH a) 40).bind λb=>bif (decide (b>=0))then (xM (aH a)).bind λc=>bif (decide (c<=8))then (Ff (aH a)).bind λd=>some (d)else some (false)else some (false)
def Nc:Fsp:=amF 16 [shT .expr] [shF .bool] dF
def uj(a:aS):Option (aS×Int):=bif (decide (a.i<(a.b.length:Int)))then (idx a.b a.i).bind λc=>some (aS.mk a.b (w64 (a.i+1)) (w64 ((w64 (a.h*6364136223846793005))+1442695040888963407)),w64 (((BitVec.ofInt 64 (w64 ((w64 (((BitVec.ofInt 64 (w64 (((BitVec.ofInt 64 ((w64 ((w64 (a.h*6364136223846793005))+1442695040888963407)).fdiv (2 ^ 33)) ^^^ BitVec.ofInt 64 ((w64 ((w64 (a.h*6364136223846793005))+1442695040888963407)).fdiv (2 ^ 45))).toNat:Int))) &&& BitVec.ofInt 64 255).toNat:Int)))+(w64 (c)))) &&& BitVec.ofInt 64 255).toNat:Int)))else some (aS.mk a.b a.i (w64 ((w64 (a.h*6364136223846793005))+1442695040888963407)),w64 (((BitVec.ofInt 64 (w64 (((BitVec.ofInt 64 ((w64 ((w64 (a.h*6364136223846793005))+1442695040888963407)).fdiv (2 ^ 33)) ^^^ BitVec.ofInt 64 ((w64 ((w64 (a.h*6364136223846793005))+1442695040888963407)).fdiv (2 ^ 45))).toNat:Int))) &&& BitVec.ofInt 64 255).toNat:Int)))
def acr:Fsp:=amG 68 [shT .cur] [shT .cur,shF .int] uj
def aU(a:aS)(b:Int):Option (aS×Int):=bif (decide (b<=0))then some (a,0)else bif (decide (b<=256))then (uj a).bind λc=>(Qr c.2 b).bind λh=>some (c.1,h)else (uj a).bind λd=>(uj d.1).bind λe=>(uj e.1).bind λf=>(uj f.1).bind λg=>(Qr (w64 ((w64 ((w64 ((w64 (d.2*16777216))+(w64 (e.2*65536))))+(w64 (f.2*256))))+g.2)) b).bind λi=>some (g.1,i)
def Y4:Fsp:=amG 27 [shT .cur,shF .int] [shT .cur,shF .int] (λx=>aU x.1 x.2)
def dP(a:aS)(b:Int):Option (aS×Bool):=(aU a b).bind λc=>some (c.1,(c.2==0))
def Hy:Fsp:=amG 21 [shT .cur,shF .int] [shT .cur,shF .bool] (λx=>dP x.1 x.2)
def gy(a:Int):Option (ak):=some (ak.mk 1 a [] [])
def acv:Fsp:=amF 58 [shF .int] [shT .expr] gy
def wo(a:Str):Option (ak):=some (ak.mk 3 0 a [])
def Zf:Fsp:=amF 60 [shF .str] [shT .expr] wo
def iT(a:aS)(b:List Str):Option (aS×Str):=(aU a (b.length:Int)).bind λc=>(idx b c.2).bind λd=>some (c.1,d)
def aco:Fsp:=amG 62 [shT .cur,slF .str] [shT .cur,shF .str] (λx=>iT x.1 x.2)
def rH(a:aS)(b:List Str):Option (aS×ak):=(aU a 5).bind λc=>bif (c.2==0)then (iT c.1 ([[97],[97,98],[],[98]]:List Str)).bind λd=>some (d.1,ak.mk 2 0 d.2 [])else bif (c.2==1)then (aU c.1 6).bind λe=>(gy e.2).bind λh=>some (e.1,aH h)else bif (c.2==2)then (aU c.1 6).bind λf=>(gy f.2).bind λi=>some (f.1,aH i)else (iT c.1 b).bind λg=>(wo g.2).bind λj=>some (g.1,aH j)
def Zj:Fsp:=amH 61 [shT .cur,slF .str] [shT .cur,shT .expr] (λx=>rH x.1 x.2)
def rG(a:Int)(b:ak)(c:ak):Option (ak):=some (ak.mk 6 a [] [aH b,aH c])
def aen:Fsp:=amH 56 [shF .int,shT .expr,shT .expr] [shT .expr] (λx=>rG x.1 x.2.1 x.2.2)
def lK(a:Str)(b:List ak):Option (ak):=some (ak.mk 5 0 a b)
def Zl:Fsp:=amG 57 [shF .str,slF .expr] [shT .expr] (λx=>lK x.1 x.2)
def nD(a:aS)(b:List Str):Option (aS×ak):=(aU a 4).bind λf=>aN (λ((l,m,n,o,p,q,r,s,t,u,v,w,x,y):amM ((List Str)×amJ (amJ (Int×Int))))=>bif (decide (y<x))then (aU (aS.mk l m n) 5).bind λj=>(gy j.2).bind λd=>(gd (w.length+[aH d].length)).bind λ_=>(dP j.1 4).bind λe=>bif e.2 then (rH e.1 o).bind λg=>(idx (w++[aH d]) y).bind λ_=>((w++[aH d])[y.toNat]?).bind λk=>some (.inl (g.1.b,g.1.i,g.1.h,o,p,q,r,s,t,u,v,(w++[aH d]).set y.toNat (aH g.2),x,w64 (y+1)))else some (.inl (e.1.b,e.1.i,e.1.h,o,p,q,r,s,t,u,v,w++[aH d],x,w64 (y+1)))else some (.inr (aS.mk l m n,ak.mk t u v w))) (f.1.b,f.1.i,f.1.h,b,0,0,[],[],4,0,[],[],f.2,0)
def Zh:Fsp:=amH 59 [shT .cur,slF .str] [shT .cur,shT .expr] (λx=>nD x.1 x.2)
def WG(a:aS)(b:ak)(c:ak):Option (aS×ak):=(dP a 2).bind λd=>bif d.2 then some (d.1,aH b)else some (d.1,aH c)
def Qh:Fsp:=amG 150 [shT .cur,shT .expr,shT .expr] [shT .cur,shT .expr] (λx=>WG x.1 x.2.1 x.2.2)
def ou(a:aS):Option (aS×ak):=(iT a ([[97],[97],[98],[99],[120]]:List Str)).bind λb=>some (b.1,ak.mk 2 0 b.2 [])
def UB:Fsp:=amH 151 [shT .cur] [shT .cur,shT .expr] ou
def qU(a:aS):Option (aS×ak):=(aU a 4).bind λd=>aN (λ((k,l,m,n,o,p,q,r,s,t,u,v,w):amM (amJ (amJ (Int×Int))))=>bif (decide (w<v))then (aU (aS.mk k l m) 3).bind λf=>(gy f.2).bind λg=>(aU f.1 4).bind λe=>(gy e.2).bind λj=>(gd (u.length+([ak.mk 4 0 [] [aH g,aH j]]).length)).bind λ_=>some (.inl (e.1.b,e.1.i,e.1.h,n,o,p,q,r,s,t,u++([ak.mk 4 0 [] [aH g,aH j]]),v,w64 (w+1)))else some (.inr (aS.mk k l m,ak.mk 5 0 [116,97,98,108,101] ([ak.mk 2 0 [97,32,98] [],ak.mk r s t u])))) (d.1.b,d.1.i,d.1.h,0,0,[],[],4,0,[],[],d.2,0)
def WM:Fsp:=amH 152 [shT .cur] [shT .cur,shT .expr] qU
def Ic(rsL10Make:aS->(List Str)->Int->Option (aS×ak))(a:aS)(b:List Str)(c:Int):Option (aS×ak):=bif (decide (c<2))then (rH a b).bind λW=>some (W.1,aH W.2)else (aU a 13).bind λd=>bif (d.2==0)then (aU d.1 5).bind λX=>(rsL10Make X.1 b (w64 (c-1))).bind λY=>(rsL10Make Y.1 b (w64 (c-1))).bind λZ=>(rG (w64 (1+X.2)) (aH Y.2) (aH Z.2)).bind λr6=>some (Z.1,aH r6)else bif (d.2==1)then (aU d.1 5).bind λr7=>(rsL10Make r7.1 b (w64 (c-1))).bind λr8=>(rsL10Make r8.1 b (w64 (c-1))).bind λr9=>(rG (w64 (1+r7.2)) (aH r8.2) (aH r9.2)).bind λQ=>some (r9.1,aH Q)else bif (d.2==2)then (idx b 0).bind λR=>(iT d.1 ([[117],[118],R]:List Str)).bind λf=>(rsL10Make f.1 b (w64 (c-1))).bind λr=>(gd (([f.2]:List Str).length+b.length)).bind λ_=>(rsL10Make r.1 (([f.2]:List Str)++b) (w64 (c-1))).bind λs=>some (s.1,ak.mk 7 0 f.2 [aH r.2,aH s.2])else bif (d.2==3)then (rsL10Make d.1 b (w64 (c-1))).bind λt=>(rsL10Make t.1 b (w64 (c-1))).bind λu=>(rsL10Make u.1 b (w64 (c-1))).bind λv=>some (v.1,ak.mk 8 0 [] [aH t.2,aH u.2,aH v.2])else bif (d.2==4)then (idx b 0).bind λS=>(iT d.1 ([[117],[118],S]:List Str)).bind λe=>(nD e.1 b).bind λw=>(gd (([e.2,e.2]:List Str).length+b.length)).bind λ_=>(rsL10Make w.1 (([e.2,e.2]:List Str)++b) (w64 (c-1))).bind λx=>some (x.1,ak.mk 9 0 e.2 [aH w.2,aH x.2])else bif (d.2==5)then (nD d.1 b).bind λy=>some (y.1,aH y.2)else bif (d.2==6)then (iT d.1 ([[108,101,110],[115,117,109]]:List Str)).bind λg=>(nD g.1 b).bind λz=>(rsL10Make z.1 b (w64 (c-1))).bind λA=>(dP A.1 2).bind λh=>bif h.2 then some (h.1,ak.mk 5 0 g.2 [aH z.2])else some (h.1,ak.mk 5 0 g.2 [aH A.2])else bif (d.2==7)then (iT d.1 ([[116,97,107,101],[115,107,105,112],[110,116,104],[116,97,107,101]]:List Str)).bind λi=>(aU i.1 4).bind λB=>(gy B.2).bind λC=>(nD B.1 b).bind λD=>(aU D.1 9).bind λE=>(gy E.2).bind λT=>(aU E.1 4).bind λF=>(gy F.2).bind λU=>(dP F.1 2).bind λj=>bif j.2 then some (j.1,ak.mk 5 0 i.2 [aH C,aH D.2])else some (j.1,ak.mk 5 0 i.2 ([aH C,ak.mk 5 0 [114,97,110,103,101] [aH T,aH U]]))else bif (d.2==8)then (ou d.1).bind λk=>(aU k.1 3).bind λG=>(gy G.2).bind λH=>(qU G.1).bind λI=>(rsL10Make I.1 b (w64 (c-1))).bind λJ=>(dP J.1 2).bind λl=>bif l.2 then some (l.1,ak.mk 5 0 [119,104,101,114,101] [aH k.2,aH H,aH I.2])else some (l.1,ak.mk 5 0 [119,104,101,114,101] [aH k.2,aH H,aH J.2])else bif (d.2==9)then (ou d.1).bind λm=>(ou m.1).bind λn=>(qU n.1).bind λK=>(rsL10Make K.1 b (w64 (c-1))).bind λL=>(dP L.1 2).bind λo=>bif o.2 then some (o.1,ak.mk 5 0 [103,114,111,117,112] [aH m.2,aH n.2,aH K.2])else some (o.1,ak.mk 5 0 [103,114,111,117,112] [aH m.2,aH n.2,aH L.2])else bif (d.2==10)then (qU d.1).bind λM=>(rsL10Make M.1 b (w64 (c-1))).bind λN=>(dP N.1 2).bind λp=>bif p.2 then some (p.1,ak.mk 5 0 [114,111,119,115] [aH M.2])else some (p.1,ak.mk 5 0 [114,111,119,115] [aH N.2])else bif (d.2==11)then (aU d.1 6).bind λO=>(gy (w64 (1+O.2))).bind λV=>some (O.1,ak.mk 5 0 [99,104,97,110,99,101] [aH V])else (iT d.1 ([[102],[103],[104]]:List Str)).bind λP=>(dP P.1 2).bind λq=>bif q.2 then some (q.1,ak.mk 5 0 [99,108,111,99,107] [])else some (q.1,ak.mk 5 0 [102,105,108,101] ([ak.mk 2 0 P.2 []]))
def kU:Nat->(aS->(List Str)->Int->Option (aS×ak))
 | 0=>λ_ _ _=>none
 | n+1=>Ic (kU n)
def Fb(a:aS)(b:List Str)(c:Int):Option (aS×ak):=(kU (siz a+siz b+1)) a b c
def Zg:Fsp:=amH 111 [shT .cur,slF .str,shF .int] [shT .cur,shT .expr] (λx=>Fb x.1 x.2.1 x.2.2)
def Ac(n:Nat):Fsp:=amH 111 [shT .cur,slF .str,shF .int] [shT .cur,shT .expr] (λx=>(kU n) x.1 x.2.1 x.2.2)
def Ae(a:aS):Option (aS×ak):=(aU a 4).bind λc=>(Fb c.1 ([[97],[98],[99]]:List Str) (w64 (1+c.2))).bind λb=>(dF (aH b.2)).bind λe=>bif (!e)then (rH b.1 ([[97],[98],[99]]:List Str)).bind λd=>some (d.1,aH d.2)else some (b.1,aH b.2)
def Zk:Fsp:=amH 55 [shT .cur] [shT .cur,shT .expr] Ae
def ul(a:aS):Option (aS×ak):=(Ae a).bind λe=>(dP e.1 3).bind λh=>bif (!h.2)then (lK [99,108,111,99,107] []).bind λr=>(aU h.1 5).bind λq=>(gy q.2).bind λs=>(lK [99,104,97,110,99,101] [aH s]).bind λt=>(rG 1 (aH t) (aH e.2)).bind λu=>(rG 1 (aH r) (aH u)).bind λf=>(dP q.1 4).bind λg=>bif g.2 then (nD g.1 ([[97]]:List Str)).bind λb=>(dF (ak.mk 9 0 [117] [aH b.2,aH f])).bind λi=>bif (!i)then (lK [99,108,111,99,107] []).bind λj=>some (b.1,aH j)else some (b.1,ak.mk 9 0 [117] [aH b.2,aH f])else (dF (aH f)).bind λk=>bif (!k)then (lK [99,108,111,99,107] []).bind λl=>some (g.1,aH l)else some (g.1,aH f)else (dP h.1 4).bind λc=>bif c.2 then (nD c.1 ([[97]]:List Str)).bind λd=>(dF (ak.mk 9 0 [117] [aH d.2,aH e.2])).bind λm=>bif (!m)then (lK [99,108,111,99,107] []).bind λn=>some (d.1,aH n)else some (d.1,ak.mk 9 0 [117] [aH d.2,aH e.2])else (dF (aH e.2)).bind λo=>bif (!o)then (lK [99,108,111,99,107] []).bind λp=>some (c.1,aH p)else some (c.1,aH e.2)
def Qj:Fsp:=amG 20 [shT .cur] [shT .cur,shT .expr] ul
def E8(a:aS):Option (aS×ak):=(aU a 4).bind λd=>aN (λ((m,n,o,p,q,s,t,u,v,w,x,y,z):amM (amJ (amJ (Int×Int))))=>bif (decide (z<y))then (gy z).bind λf=>(gd (x.length+[aH f].length)).bind λ_=>some (.inl (m,n,o,p,q,s,t,u,v,w,x++[aH f],y,w64 (z+1)))else ((lK [99,108,111,99,107] []).bind λg=>(dP (aS.mk m n o) 2).bind λe=>bif e.2 then (wo [118]).bind λj=>(wo [117]).bind λk=>(rG 1 (aH j) (aH k)).bind λl=>some (e.1,ak.mk 9 0 [117] ([ak.mk u v w x,ak.mk 9 0 [118] [ak.mk u v w x,aH l]]))else some (e.1,ak.mk 9 0 [117] ([ak.mk u v w x,ak.mk 9 0 [118] [ak.mk u v w x,aH g]]))).bind λr=>some (.inr r)) (d.1.b,d.1.i,d.1.h,0,0,[],[],4,0,[],[],w64 (5+d.2),0)
def Y8:Fsp:=amH 22 [shT .cur] [shT .cur,shT .expr] E8
def l9(a:aS)(b:List Int):Option (aS×Int):=(aU a (b.length:Int)).bind λc=>(idx b c.2).bind λd=>some (c.1,d)
def Uu:Fsp:=amG 63 [shT .cur,slF .int] [shT .cur,shF .int] (λx=>l9 x.1 x.2)
def wz(a:aS):Option (aS×ak):=(Ae a).bind λd=>(aU d.1 12).bind λe=>bif (e.2==0)then (aU e.1 11).bind λj=>some (j.1,ak.mk j.2 d.2.n d.2.text d.2.args)else bif (e.2==1)then (rH e.1 ([[97]]:List Str)).bind λg=>(gd (d.2.args.length+[aH g.2].length)).bind λ_=>some (g.1,ak.mk d.2.kind d.2.n d.2.text (d.2.args++[aH g.2]))else bif (e.2==2)then (iT e.1 ([[108,101,116],[115,117,109],[],[120]]:List Str)).bind λk=>some (k.1,ak.mk d.2.kind d.2.n k.2 d.2.args)else bif (e.2==3)then (l9 e.1 [-1,7,1000000001]).bind λl=>some (l.1,ak.mk d.2.kind l.2 d.2.text d.2.args)else bif (e.2==4)then aN (λ((o,p,q,r,s,t,u,v,w,x,y,z):amM (amJ (amJ Int)))=>bif (decide (z<7))then (gy z).bind λm=>(rG 1 (ak.mk v w x y) (aH m)).bind λf=>some (.inl (o,p,q,r,s,t,u,f.kind,f.n,f.text,f.args,w64 (z+1)))else some (.inr (aS.mk o p q,ak.mk v w x y))) (e.1.b,e.1.i,e.1.h,0,0,[],[],d.2.kind,d.2.n,d.2.text,d.2.args,0)else some (e.1,aH d.2)
def Zm:Fsp:=amH 23 [shT .cur] [shT .cur,shT .expr] wz
def aF(a:Int):Option (af):=some (af.mk 6 a 0 [] [] [] [])
def Qo:Fsp:=amF 35 [shF .int] [shT .val] aF
def bg(a:Int):Option (af):=some (af.mk 1 a 0 [] [] [] [])
def Me:Fsp:=amF 67 [shF .int] [shT .val] bg
def iF(a:Str):Option (af):=some (af.mk 2 0 0 a [] [] [])
def Uf:Fsp:=amF 86 [shF .str] [shT .val] iF
def nC(a:aS):Option (aS×Int):=(dP a 12).bind λb=>bif b.2 then (l9 b.1 [1000000000,-1000000000,999999999,500000000,40000]).bind λc=>some (c.1,c.2)else (aU b.1 12).bind λd=>some (d.1,w64 (d.2-3))
def aeh:Fsp:=amG 112 [shT .cur] [shT .cur,shF .int] nC
def xO(a:aS):Option (aS×Str):=(iT a ([[],[97],[98],[97,98],[104,101,108,108,111],[116,119,101,110,116,121,32,99,104,97,114,97,99,116,101,114,115,32,111,107],[110,105,110,101,116,101,101,110,32,99,104,97,114,97,99,116,101,114,46]]:List Str)).bind λb=>some (b.1,b.2)
def acg:Fsp:=amG 113 [shT .cur] [shT .cur,shF .str] xO
def xR(rsL3DrawList:aS->Int->Option (aS×af))(rsL3Element2:aS->Int->Option (aS×af))(a:aS)(b:Int):Option (aS×af):=(l9 a [0,1,2,3,3,4,5,8]).bind λe=>aN (λ((f,g,j,k,l,m,n,o,p,q,r,s,t,u,v,w,x,y,z,A):amM (Int×amI (amI (Int×Int))))=>bif (decide (A<z))then (rsL3Element2 (aS.mk f g j) k).bind λd=>(gd (w.length+[ah d.2].length)).bind λ_=>some (.inl (d.1.b,d.1.i,d.1.h,k,l,m,n,o,p,q,r,s,t,u,v,w++[ah d.2],x,y,z,w64 (A+1)))else some (.inr (aS.mk f g j,af.mk s t u v w x y))) (e.1.b,e.1.i,e.1.h,b,0,0,0,[],[],[],[],3,0,0,[],[],[],[],e.2,0)
def xQ(rsL3DrawList:aS->Int->Option (aS×af))(rsL3Element2:aS->Int->Option (aS×af))(a:aS)(b:Int):Option (aS×af):=bif (decide (b>1))then (dP a 4).bind λd=>bif d.2 then (rsL3DrawList d.1 (w64 (b-1))).bind λi=>some (i.1,ah i.2)else (dP d.1 4).bind λe=>bif e.2 then (xO e.1).bind λj=>(iF j.2).bind λm=>some (j.1,ah m)else (nC e.1).bind λk=>(bg k.2).bind λn=>some (k.1,ah n)else (dP a 4).bind λf=>bif f.2 then (xO f.1).bind λl=>(iF l.2).bind λg=>some (l.1,ah g)else (nC f.1).bind λc=>(bg c.2).bind λh=>some (c.1,ah h)
def eG:Nat->(aS->Int->Option (aS×af))×(aS->Int->Option (aS×af))
 | 0=>(λ_ _=>none,λ_ _=>none)
 | n+1=>(xR (eG n).1 (eG n).2,xQ (eG n).1 (eG n).2)
def zS(a:aS)(b:Int):Option (aS×af):=(eG (siz a+9)).1 a b
def Qd:Fsp:=amG 114 [shT .cur,shF .int] [shT .cur,shT .val] (λx=>zS x.1 x.2)
def rD(n:Nat):Fsp:=amG 114 [shT .cur,shF .int] [shT .cur,shT .val] (λx=>(eG n).1 x.1 x.2)
def WB(a:aS)(b:Int):Option (aS×af):=(eG (siz a+9)).2 a b
def Qc:Fsp:=amG 153 [shT .cur,shF .int] [shT .cur,shT .val] (λx=>WB x.1 x.2)
def rq(n:Nat):Fsp:=amG 153 [shT .cur,shF .int] [shT .cur,shT .val] (λx=>(eG n).2 x.1 x.2)
def xP(a:aS):Option (aS×af):=(aU a 9).bind λd=>aN (λ((g,j,k,l,m,n,o,p,q,r,s,t,u,v,w,x,y,z,A):amM (amI (amI (Int×Int))))=>bif (decide (A<z))then (nC (aS.mk g j k)).bind λe=>(bg e.2).bind λf=>(gd (w.length+[ah f].length)).bind λ_=>some (.inl (e.1.b,e.1.i,e.1.h,l,m,n,o,p,q,r,s,t,u,v,w++[ah f],x,y,z,w64 (A+1)))else some (.inr (aS.mk g j k,af.mk s t u v w x y))) (d.1.b,d.1.i,d.1.h,0,0,0,[],[],[],[],3,0,0,[],[],[],[],d.2,0)
def Ur:Fsp:=amH 115 [shT .cur] [shT .cur,shT .val] xP
def kS(a:Int)(b:Int):Option (af):=some (af.mk 4 a b [] [] [] [])
def Mc:Fsp:=amF 116 [shF .int,shF .int] [shT .val] (λx=>kS x.1 x.2)
def EW(a:aS):Option (aS×(List aj)):=(aU a 3).bind λd=>aN (λ((g,j,k,l,m,n,o):amM ((List aj)×Int×Int×Int))=>bif (decide (o<n))then (aU (aS.mk g j k) 2).bind λf=>(gd (l.length+[aj.mk m (w64 (o+(w64 (f.2*2))))].length)).bind λ_=>(aU f.1 2).bind λe=>some (.inl (e.1.b,e.1.i,e.1.h,l++[aj.mk m (w64 (o+(w64 (f.2*2))))],w64 ((w64 (m+1))+e.2),n,w64 (o+1)))else some (.inr (aS.mk g j k,l))) (d.1.b,d.1.i,d.1.h,[],1,d.2,0)
def acj:Fsp:=amF 154 [shT .cur] [shT .cur,slF .origin] EW
def kT(a:aS):Option (aS×af):=(aU a 3).bind λp=>(cutAt ([[97],[98],[99],[120]]:List Str) (w64 (1+p.2))).bind λm=>(gd (0+(([[97],[98],[99],[120]]:List Str).take m).length)).bind λ_=>(dP p.1 5).bind λq=>bif q.2 then (idx ([]++(([[97],[98],[99],[120]]:List Str).take m)) 0).bind λ_=>(([]++(([[97],[98],[99],[120]]:List Str).take m))[0]?).bind λt=>(cutAt (([]++(([[97],[98],[99],[120]]:List Str).take m)).set 0 [120]) 1).bind λs=>(aU q.1 6).bind λn=>aN (λ((u,v,w,x,y,z,A,B,C,D,E,F,G,H,I,J,K,L,M,N):amM (amI (Int×amI (Int×Int))))=>bif (decide (N<M))then (EW (aS.mk u v w)).bind λo=>aN (λ((f,O,P,Q,R,S,T,U,V,W,X,Y,Z,aa,ac,ae,aq,ar,aw,aD,aE,aL,aM):amM (amI (Int×amI (Int×amS))))=>bif (decide (aM<X))then (nC (aS.mk f O P)).bind λg=>(gd (aE.length+[g.2].length)).bind λ_=>some (.inl (g.1.b,g.1.i,g.1.h,Q,R,S,T,U,V,W,X,Y,Z,aa,ac,ae,aq,ar,aw,aD,aE++[g.2],aL,w64 (aM+1)))else ((gd (ar.length+[aB.mk aE aL].length)).bind λ_=>some (.inl (f,O,P,Q,R,S,T,U,V,W,X,Y,Z,aa,ac,ae,aq,ar++[aB.mk aE aL],aw,w64 (aD+1)))).bind λr=>some (.inr r)) (o.1.b,o.1.i,o.1.h,x,y,z,A,B,C,D,E,F,G,H,I,J,K,L,M,N,[],o.2,0)else some (.inr (aS.mk u v w,af.mk F G H I J K L))) (n.1.b,n.1.i,n.1.h,0,0,0,[],[],[],[],1,5,0,0,[],[],(([]++(([[97],[98],[99],[120]]:List Str).take m)).set 0 [120]).take s,[],n.2,0)else (aU q.1 6).bind λk=>aN (λ((c,aR,ba,bc,bh,bj,bl,bm,bp,br,bu,bw,bz,bA,bB,bE,bL,bN,bO,bR):amM (amI (Int×amI (Int×Int))))=>bif (decide (bR<bO))then (EW (aS.mk c aR ba)).bind λl=>
   aN (λ((e,bS,bX,cd,ce,cf,ci,cj,ck,cm,cn,cp,cq,cr,cA,cB,cC,cE,cF,cG,cH,cI,cJ):amM (amI (Int×amI (Int×amS))))=>
    bif (decide (cJ<cn))then
     (nC (aS.mk e bS bX)).bind λj=>
     (gd (cH.length+[j.2].length)).bind λ_=>
     some (.inl (j.1.b,j.1.i,j.1.h,cd,ce,cf,ci,cj,ck,cm,cn,cp,cq,cr,cA,cB,cC,cE,cF,cG,cH++[j.2],cI,w64 (cJ+1)))
    else
     (
      (gd (cE.length+[aB.mk cH cI].length)).bind λ_=>
      some (.inl (e,bS,bX,cd,ce,cf,ci,cj,ck,cm,cn,cp,cq,cr,cA,cB,cC,cE++[aB.mk cH cI],cF,w64 (cG+1)))
     ).bind λr=>some (.inr r)
   ) (l.1.b,l.1.i,l.1.h,bc,bh,bj,bl,bm,bp,br,bu,bw,bz,bA,bB,bE,bL,bN,bO,bR,[],l.2,0)
  else
   some (.inr (aS.mk c aR ba,af.mk bw bz bA bB bE bL bN))
 ) (k.1.b,k.1.i,k.1.h,0,0,0,[],[],[],[],w64 (1+p.2),5,0,0,[],[],[]++(([[97],[98],[99],[120]]:List Str).take m),[],k.2,0)
def MJ:Fsp:=amF 117 [shT .cur] [shT .cur,shT .val] kT
def KF(a:aS):Option (aS×af):=(aU a 10).bind λb=>bif (b.2==0)then (nC b.1).bind λk=>(bg k.2).bind λo=>some (k.1,ah o)else bif (b.2==1)then (nC b.1).bind λl=>(bg l.2).bind λp=>some (l.1,ah p)else bif (b.2==2)then (nC b.1).bind λm=>(bg m.2).bind λq=>some (m.1,ah q)else bif (b.2==3)then (xO b.1).bind λn=>(iF n.2).bind λr=>some (n.1,ah r)else bif (b.2==4)then (zS b.1 3).bind λc=>some (c.1,ah c.2)else bif (b.2==5)then (xP b.1).bind λd=>some (d.1,ah d.2)else bif (b.2==6)then (nC b.1).bind λe=>(nC e.1).bind λf=>(kS e.2 f.2).bind λi=>some (f.1,ah i)else bif (b.2==7)then (aU b.1 8).bind λg=>(aF (w64 (1+g.2))).bind λj=>some (g.1,ah j)else (kT b.1).bind λh=>some (h.1,ah h.2)
def ack:Fsp:=amG 64 [shT .cur] [shT .cur,shT .val] KF
def iO(a:Int):Option (Bool):=(vW a (-1000000000) 1000000000).bind λb=>some (b)
def WA:Fsp:=amF 42 [shF .int] [shF .bool] iO
def ru(a:af):Option (Bool):=bif (a.kind==1)then some (true)else bif (a.kind==2)then some (true)else some ((a.kind==3))
def Us:Fsp:=amF 99 [shT .val] [shF .bool] ru
def Ij(rsDepthOf:af->Option (Int))(a:af):Option (Int):=aN (λ((f,g,h,i,j,k,l,m,o):amI (Int×Int))=>bif (decide (o<(j.length:Int)))then (idx j o).bind λc=>(rsDepthOf (ah c)).bind λd=>(DK m d).bind λe=>some (.inl (f,g,h,i,j,k,l,e,w64 (o+1)))else some (.inr (w64 (m+1)))) (a.kind,a.n,a.step,a.text,a.list,a.columns,a.rows,0,0)
def wE:Nat->(af->Option (Int))
 | 0=>λ_=>none
 | n+1=>Ij (wE n)
def Fq(a:af):Option (Int):=(wE (siz a+1)) a
def Zp:Fsp:=amF 100 [shT .val] [shF .int] Fq
def Aj(n:Nat):Fsp:=amF 100 [shT .val] [shF .int] (wE n)
def kV(a:List Str):Option (Bool):=aN (λ(b:(List Str)×Int)=>bif (decide (b.2<(b.1.length:Int)))then (eff.cutL b.1 none (some b.2)).bind λc=>(idx b.1 b.2).bind λd=>(DL c d).bind λe=>bif e then some (.inr (false))else some (.inl (b.1,w64 (b.2+1)))else some (.inr (true))) (a,0)
def Nl:Fsp:=amF 145 [slF .str] [shF .bool] kV
def rE(a:List Str):Option (Bool):=aN (λ(b:(List Str)×Int)=>bif (decide (b.2<(b.1.length:Int)))then (idx b.1 b.2).bind λc=>(bP c).bind λd=>bif (!d)then some (.inr (false))else some (.inl (b.1,w64 (b.2+1)))else ((vW (b.1.length:Int) 1 4).bind λe=>bif e then (kV b.1).bind λf=>some (f)else some (false)).bind λr=>some (.inr r)) (a,0)
def Ut:Fsp:=amF 101 [slF .str] [shF .bool] rE
def jQ(a:aj)(b:aj):Option (Bool):=bif (decide (a.cell<b.cell))then some (true)else bif (a.cell==b.cell)then some ((decide (a.row<b.row)))else some (false)
def WC:Fsp:=amF 146 [shT .origin,shT .origin] [shF .bool] (λx=>jQ x.1 x.2)
def qF(a:List aj):Option (Bool):=aN (λ(b:(List aj)×Int)=>bif (decide (b.2<(b.1.length:Int)))then (idx b.1 b.2).bind λc=>bif (decide (c.cell<0))then some (.inr (false))else (idx b.1 b.2).bind λd=>bif (decide (d.row<0))then some (.inr (false))else bif (decide (b.2>0))then (idx b.1 (w64 (b.2-1))).bind λe=>(idx b.1 b.2).bind λf=>(jQ e f).bind λg=>bif (!g)then some (.inr (false))else some (.inl (b.1,w64 (b.2+1)))else some (.inl (b.1,w64 (b.2+1)))else some (.inr (true))) (a,0)
def ML:Fsp:=amF 102 [slF .origin] [shF .bool] qF
def zN(a:af):Option (Bool):=(rE a.columns).bind λe=>bif (!e)then some (false)else bif (decide ((a.rows.length:Int)>12))then some (false)else aN (λ((i,j,k,l,m,o,p,q):amI Int)=>bif (decide (q<(p.length:Int)))then (idx p q).bind λd=>bif ((d.cells.length:Int) != (o.length:Int))then some (.inr (false))else (qF d.orig).bind λf=>bif (!f)then some (.inr (false))else aN (λ((c,s,t,u,v,w,x,y,z,A,B):amI amS)=>bif (decide (B<(z.length:Int)))then (idx z B).bind λg=>(iO g).bind λh=>bif (!h)then (some (.inr (false))).bind λr=>some (.inr r)else some (.inl (c,s,t,u,v,w,x,y,z,A,w64 (B+1)))else some (.inr (.inl (c,s,t,u,v,w,x,w64 (y+1))))) (i,j,k,l,m,o,p,q,d.cells,d.orig,0)else some (.inr (true))) (a.kind,a.n,a.step,a.text,a.list,a.columns,a.rows,0)
def Y1:Fsp:=amF 45 [shT .val] [shF .bool] zN
def rM(rsIsValidValue:af->Option (Bool))(rsL3List:af->Option (Bool))(a:af):Option (Bool):=jL (X:=amL) (bif (a.kind != 3)then bif (decide ((a.list.length:Int)>0))then some (.inr (false))else bif (a.kind != 5)then bif (decide ((w64 ((a.columns.length:Int)+(a.rows.length:Int)))>0))then some (.inr (false))else some (.inl (a.kind,a.n,a.step,a.text,a.list,a.columns,a.rows))else some (.inl (a.kind,a.n,a.step,a.text,a.list,a.columns,a.rows))else bif (a.kind != 5)then bif (decide ((w64 ((a.columns.length:Int)+(a.rows.length:Int)))>0))then some (.inr (false))else some (.inl (a.kind,a.n,a.step,a.text,a.list,a.columns,a.rows))else some (.inl (a.kind,a.n,a.step,a.text,a.list,a.columns,a.rows))) λ((k,l,m,o,p,q,r):amL)=>jL (X:=amL) (bif (k != 2)then bif (!(o==[]))then some (.inr (false))else bif (k != 4)then bif (m != 0)then some (.inr (false))else some (.inl (k,l,m,o,p,q,r))else some (.inl (k,l,m,o,p,q,r))else bif (k != 4)then bif (m != 0)then some (.inr (false))else some (.inl (k,l,m,o,p,q,r))else some (.inl (k,l,m,o,p,q,r))) λ((b,s,t,u,v,w,x):amL)=>bif (b==1)then (iO s).bind λd=>some (d)else bif (b==2)then bif (s==0)then (gZ u).bind λe=>some (e)else some (false)else bif (b==3)then bif (s==0)then (rsL3List (af.mk b s t u v w x)).bind λf=>some (f)else some (false)else bif (b==4)then (iO s).bind λg=>bif g then (iO t).bind λh=>some (h)else some (false)else bif (b==5)then bif (s==0)then (zN (af.mk b s t u v w x)).bind λi=>some (i)else some (false)else bif (b==6)then (vW s 1 8).bind λj=>some (j)else some (false)
def MI(rsIsValidValue:af->Option (Bool))(rsL3List:af->Option (Bool))(a:af):Option (Bool):=aN (λ((h,i,j,k,l,m,o,p):amI Int)=>bif (decide (p<(l.length:Int)))then (idx l p).bind λc=>(ru (ah c)).bind λd=>bif (!d)then some (.inr (false))else (idx l p).bind λe=>(rsIsValidValue (ah e)).bind λf=>bif (!f)then some (.inr (false))else some (.inl (h,i,j,k,l,m,o,w64 (p+1)))else (bif (decide ((l.length:Int)<=8))then (Fq (af.mk h i j k l m o)).bind λg=>some ((decide (g<=3)))else some (false)).bind λr=>some (.inr r)) (a.kind,a.n,a.step,a.text,a.list,a.columns,a.rows,0)
def dA:Nat->(af->Option (Bool))×(af->Option (Bool))
 | 0=>(λ_=>none,λ_=>none)
 | n+1=>(rM (dA n).1 (dA n).2,MI (dA n).1 (dA n).2)
def oQ(a:af):Option (Bool):=(dA (siz a+1)).1 a
def JQ:Fsp:=amF 14 [shT .val] [shF .bool] oQ
def oz(n:Nat):Fsp:=amF 14 [shT .val] [shF .bool] (λx=>(dA n).1 x)
def ag4(a:af):Option (Bool):=(dA (siz a+1)).2 a
def aci:Fsp:=amF 44 [shT .val] [shF .bool] ag4
def DI(n:Nat):Fsp:=amF 44 [shT .val] [shF .bool] (λx=>(dA n).2 x)
def MH(a:aB):Option (aB):=(gd (0+a.cells.length)).bind λ_=>(gd (0+a.orig.length)).bind λ_=>some (aB.mk ([]++a.cells) ([]++a.orig))
def aeg:Fsp:=amF 96 [shT .row] [shT .row] MH
def MK(rsL3Copy:af->Option (af))(a:af):Option (af):=(gd (0+a.columns.length)).bind λ_=>aN (λ((h,i,j,k,l,m,o,p,q,s,t,u,v,w,x,y,z,A,B,C,D,E):amI (amI (amI Int)))=>bif (decide (E<(l.length:Int)))then (idx l E).bind λf=>(rsL3Copy (ah f)).bind λd=>(gd (B.length+[ah d].length)).bind λ_=>some (.inl (h,i,j,k,l,m,o,p,q,s,t,u,v,w,x,y,z,A,B++[ah d],C,D,w64 (E+1)))else (aN (λ((b,F,G,H,I,J,K,L,M,N,O,P,Q,R,S,T,U,V,W,X,Y,Z):amI (amI (amI Int)))=>bif (decide (Z<(K.length:Int)))then (idx K Z).bind λg=>(MH g).bind λe=>(gd (Y.length+[e].length)).bind λ_=>some (.inl (b,F,G,H,I,J,K,L,M,N,O,P,Q,R,S,T,U,V,W,X,Y++[e],w64 (Z+1)))else some (.inr (af.mk S T U V W X Y))) (h,i,j,k,l,m,o,p,q,s,t,u,v,w,x,y,z,A,B,C,D,0)).bind λr=>some (.inr r)) (a.kind,a.n,a.step,a.text,a.list,a.columns,a.rows,0,0,0,[],[],[],[],a.kind,a.n,a.step,a.text,[],[]++a.columns,[],0)
def zU:Nat->(af->Option (af))
 | 0=>λ_=>none
 | n+1=>MK (zU n)
def jY(a:af):Option (af):=(zU (siz a+1)) a
def acn:Fsp:=amF 38 [shT .val] [shT .val] jY
def DJ(n:Nat):Fsp:=amF 38 [shT .val] [shT .val] (zU n)
def ny(a:Int)(b:af):Option (af):=bif (b.kind != 5)then (aF 4).bind λe=>some (ah e)else (oQ (ah b)).bind λf=>bif (!f)then (aF 4).bind λg=>some (ah g)else bif (decide (a<0))then (aF 4).bind λh=>some (ah h)else (jY (ah b)).bind λd=>aN (λ((j,k,l,m,o,p,q,r,s,t,u,v,w,x,y,z):Int×amI (amI Int))=>bif (decide (z<(y.length:Int)))then (idx y z).bind λ_=>(y[z.toNat]?).bind λi=>some (.inl (j,k,l,m,o,p,q,r,s,t,u,v,w,x,y.set z.toNat (aB.mk i.cells [aj.mk j z]),w64 (z+1)))else some (.inr (af.mk s t u v w x y))) (a,0,0,0,[],[],[],[],d.kind,d.n,d.step,d.text,d.list,d.columns,d.rows,0)
def Md:Fsp:=amF 118 [shF .int,shT .val] [shT .val] (λx=>ny x.1 x.2)
def mZ:aS->List Int->Option (aS×List Int)
 | c,[]=>some (c,[])
 | c,_::r=>(aU c 4).bind λx=>(mZ x.1 r).bind λy=>some (y.1,x.2::y.2)
def lV:aS->List aB->Option (aS×List aB)
 | c,[]=>some (c,[])
 | c,x::r=>(mZ c x.cells).bind λy=>(lV y.1 r).bind λz=>some (z.1,aB.mk y.2 x.orig::z.2)
def qR(a:aS)(b:Int):Option (aS×af):=(kT a).bind λr=>(lV r.1 r.2.rows).bind λq=>(ny b (af.mk r.2.kind r.2.n r.2.step r.2.text r.2.list r.2.columns q.2)).bind λy=>some (q.1,y)
def Wv:Fsp:=amG 65 [shT .cur,shF .int] [shT .cur,shT .val] (λx=>qR x.1 x.2)
def jR(a:aS):Option (aS×(List au)):=(aU a 5).bind λf=>aN (λ((m,n,o,p,q,r):amM ((List au)×Int×Int))=>bif (decide (r<q))then (KF (aS.mk m n o)).bind λg=>(dP g.1 3).bind λj=>bif j.2 then (aU j.1 3).bind λl=>(qR l.1 (w64 (1+l.2))).bind λk=>(iT k.1 ([[97],[98],[99]]:List Str)).bind λd=>(gd (p.length+[au.mk d.2 (ah k.2)].length)).bind λ_=>some (.inl (d.1.b,d.1.i,d.1.h,p++[au.mk d.2 (ah k.2)],q,w64 (r+1)))else (iT j.1 ([[97],[98],[99]]:List Str)).bind λe=>(gd (p.length+[au.mk e.2 (ah g.2)].length)).bind λ_=>some (.inl (e.1.b,e.1.i,e.1.h,p++[au.mk e.2 (ah g.2)],q,w64 (r+1)))else some (.inr (aS.mk m n o,p))) (f.1.b,f.1.i,f.1.h,[],f.2,0)
def WI:Fsp:=amH 24 [shT .cur] [shT .cur,slF .binding] jR
def Fa(a:aS):Option (aS×aG):=(aU a 3).bind λb=>(aU b.1 7).bind λc=>(iT c.1 ([[102],[103],[104],[122]]:List Str)).bind λd=>(aU d.1 3).bind λe=>some (e.1,aG.mk (w64 (1+b.2)) c.2 e.2 d.2 (af.mk 0 0 0 [] [] [] []))
def Zc:Fsp:=amH 66 [shT .cur] [shT .cur,shT .read] Fa
def lI(a:aS):Option (aS×(List aG)):=(aU a 4).bind λe=>aN (λ((l,m,o,p,q,r):amM ((List aG)×Int×Int))=>bif (decide (r<q))then (Fa (aS.mk l m o)).bind λc=>bif (c.2.kind != 2)then bif (c.2.kind != 3)then (bg (w64 (50+r))).bind λf=>(gd (p.length+([aG.mk c.2.kind 0 c.2.time [] (ah f)]).length)).bind λ_=>some (.inl (c.1.b,c.1.i,c.1.h,p++([aG.mk c.2.kind 0 c.2.time [] (ah f)]),q,w64 (r+1)))else (bg (w64 (50+r))).bind λg=>(gd (p.length+[aG.mk c.2.kind 0 c.2.time c.2.text (ah g)].length)).bind λ_=>some (.inl (c.1.b,c.1.i,c.1.h,p++[aG.mk c.2.kind 0 c.2.time c.2.text (ah g)],q,w64 (r+1)))else bif (c.2.kind != 3)then (bg (w64 (50+r))).bind λj=>(gd (p.length+([aG.mk c.2.kind c.2.n c.2.time [] (ah j)]).length)).bind λ_=>some (.inl (c.1.b,c.1.i,c.1.h,p++([aG.mk c.2.kind c.2.n c.2.time [] (ah j)]),q,w64 (r+1)))else (bg (w64 (50+r))).bind λk=>(gd (p.length+[aG.mk c.2.kind c.2.n c.2.time c.2.text (ah k)].length)).bind λ_=>some (.inl (c.1.b,c.1.i,c.1.h,p++[aG.mk c.2.kind c.2.n c.2.time c.2.text (ah k)],q,w64 (r+1)))else some (.inr (aS.mk l m o,p))) (e.1.b,e.1.i,e.1.h,[],e.2,0)
def Y5:Fsp:=amH 25 [shT .cur] [shT .cur,slF .read] lI
def lJ(a:aS):Option (aS×bT):=(aU a 20).bind λo=>(aU o.1 1000).bind λn=>(dP n.1 10).bind λg=>bif g.2 then (aU g.1 2).bind λm=>aN (λ((q,r,s,t,u,v,w,x,y,z,A,B):amM (amU (amU amP)))=>bif (decide (B<A))then (idx z B).bind λ_=>(z[B.toNat]?).bind λp=>(dP (aS.mk q r s) 3).bind λj=>bif (!j.2)then (aU j.1 9).bind λk=>(gd (y.length+[fJ.mk p k.2].length)).bind λ_=>some (.inl (k.1.b,k.1.i,k.1.h,t,u,v,w,x,y++[fJ.mk p k.2],z,A,w64 (B+1)))else some (.inl (j.1.b,j.1.i,j.1.h,t,u,v,w,x,y,z,A,w64 (B+1)))else some (.inr (aS.mk q r s,bT.mk w x y))) (m.1.b,m.1.i,m.1.h,0,0,[],w64 (999+m.2),n.2,[],([[102],[103],[104]]:List Str),(([[102],[103],[104]]:List Str).length:Int),0)else aN (λ((d,C,D,E,F,G,H,I,J,K,L,M):amM (amU (amU amP)))=>bif (decide (M<L))then (idx K M).bind λ_=>(K[M.toNat]?).bind λl=>(dP (aS.mk d C D) 3).bind λe=>bif (!e.2)then (aU e.1 9).bind λf=>(gd (J.length+[fJ.mk l f.2].length)).bind λ_=>some (.inl (f.1.b,f.1.i,f.1.h,E,F,G,H,I,J++[fJ.mk l f.2],K,L,w64 (M+1)))else some (.inl (e.1.b,e.1.i,e.1.h,E,F,G,H,I,J,K,L,w64 (M+1)))else some (.inr (aS.mk d C D,bT.mk H I J))) (g.1.b,g.1.i,g.1.h,0,0,[],o.2,n.2,[],([[102],[103],[104]]:List Str),(([[102],[103],[104]]:List Str).length:Int),0)
def Zd:Fsp:=amH 26 [shT .cur] [shT .cur,shT .world] lJ
def oU(a:List Int):Option (ak×(List au)×(List aG)×bT×Int×Int):=(Uw a).bind λC=>(ul C).bind λw=>(dP w.1 10).bind λq=>bif q.2 then (E8 q.1).bind λx=>(dP x.1 16).bind λr=>bif r.2 then (wz r.1).bind λy=>(jR y.1).bind λz=>(lI z.1).bind λA=>(lJ A.1).bind λB=>(aU B.1 9).bind λc=>(aU c.1 5).bind λs=>some (aH y.2,z.2,A.2,B.2,w64 (1+c.2),w64 (1+s.2))else (jR r.1).bind λd=>(lI d.1).bind λe=>(lJ e.1).bind λf=>(aU f.1 9).bind λg=>(aU g.1 5).bind λt=>some (aH x.2,d.2,e.2,f.2,w64 (1+g.2),w64 (1+t.2))else (dP q.1 16).bind λb=>bif b.2 then (wz b.1).bind λh=>(jR h.1).bind λi=>(lI i.1).bind λj=>(lJ j.1).bind λk=>(aU k.1 9).bind λl=>(aU l.1 5).bind λu=>some (aH h.2,i.2,j.2,k.2,w64 (1+l.2),w64 (1+u.2))else (jR b.1).bind λm=>(lI m.1).bind λn=>(lJ n.1).bind λo=>(aU o.1 9).bind λp=>(aU p.1 5).bind λv=>some (aH w.2,m.2,n.2,o.2,w64 (1+p.2),w64 (1+v.2))
def JS:Fsp:=amG 7 [slF .u8] [shT .expr,slF .binding,slF .read,shT .world,shF .int,shF .int] oU
def AX(riNodeCount:ak->Option (Int))(a:ak):Option (Int):=aN (λ((e,f,g,h):Int×amT)=>bif (decide (h<g))then (idx f h).bind λc=>(riNodeCount (aH c)).bind λd=>some (.inl (w64 (e+d),f,g,w64 (h+1)))else some (.inr (e))) (1,a.args,(a.args.length:Int),0)
def mO:Nat->(ak->Option (Int))
 | 0=>λ_=>none
 | n+1=>AX (mO n)
def Eh(a:ak):Option (Int):=(mO (siz a+1)) a
def Vo:Fsp:=amF 69 [shT .expr] [shF .int] Eh
def vz(n:Nat):Fsp:=amF 69 [shT .expr] [shF .int] (mO n)
def AY(riNestingOf:ak->Option (Int))(a:ak):Option (Int):=aN (λ((e,f,g,h):Int×amT)=>bif (decide (h<g))then (idx f h).bind λd=>(riNestingOf (aH d)).bind λc=>some (.inl ((if c>e then c else e),f,g,w64 (h+1)))else some (.inr (w64 (e+1)))) (0,a.args,(a.args.length:Int),0)
def pX:Nat->(ak->Option (Int))
 | 0=>λ_=>none
 | n+1=>AY (pX n)
def Ei(a:ak):Option (Int):=(pX (siz a+1)) a
def Vp:Fsp:=amF 70 [shT .expr] [shF .int] Ei
def vC(n:Nat):Fsp:=amF 70 [shT .expr] [shF .int] (pX n)
def jC(a:Int)(b:Int)(c:Int):Option (Bool):=bif (decide (b<=a))then some ((decide (a<=c)))else some (false)
def ac0:Fsp:=amF 148 [shF .int,shF .int,shF .int] [shF .bool] (λx=>jC x.1 x.2.1 x.2.2)
def KY(a:Str):Option (Bool):=aN (λ(b:Str×Int)=>bif (decide (b.2<(b.1.length:Int)))then (idx b.1 b.2).bind λc2=>bif (decide ((c2.toNat:Int)>=97))then (idx b.1 b.2).bind λc3=>bif (!(decide ((c3.toNat:Int)<=122)))then bif (b.2==0)then some (.inr (false))else (idx b.1 b.2).bind λc4=>bif (decide ((c4.toNat:Int)<48))then some (.inr (false))else (idx b.1 b.2).bind λc=>bif (decide ((c.toNat:Int)>57))then some (.inr (false))else some (.inl (b.1,w64 (b.2+1)))else some (.inl (b.1,w64 (b.2+1)))else bif (b.2==0)then some (.inr (false))else (idx b.1 b.2).bind λd=>bif (decide ((d.toNat:Int)<48))then some (.inr (false))else (idx b.1 b.2).bind λe=>bif (decide ((e.toNat:Int)>57))then some (.inr (false))else some (.inl (b.1,w64 (b.2+1)))else ((jC (b.1.length:Int) 1 8).bind λf=>some (f)).bind λr=>some (.inr r)) (a,0)
def ac5:Fsp:=amF 105 [shF .str] [shF .bool] KY
def dU(a:Str):Option (Int):=bif (a==[99,108,111,99,107])then some (0)else bif (a==[108,101,110])then some (1)else bif (a==[115,117,109])then some (1)else bif (a==[114,111,119,115])then some (1)else bif (a==[99,104,97,110,99,101])then some (1)else bif (a==[102,105,108,101])then some (1)else bif (a==[116,97,107,101])then some (2)else bif (a==[115,107,105,112])then some (2)else bif (a==[114,97,110,103,101])then some (2)else bif (a==[110,116,104])then some (2)else bif (a==[107,101,101,112])then some (2)else bif (a==[99,111,108,117,109,110])then some (2)else bif (a==[116,97,98,108,101])then some (2)else bif (a==[119,104,101,114,101])then some (3)else bif (a==[103,114,111,117,112])then some (3)else bif (a==[106,111,105,110])then some (3)else bif (a==[97,100,100])then some (4)else some ((-1))
def I9:Fsp:=amF 149 [shF .str] [shF .int] dU
def qc(a:Str):Option (Bool):=bif (a==[108,101,116])then some (true)else bif (a==[105,110])then some (true)else bif (a==[105,102])then some (true)else bif (a==[116,104,101,110])then some (true)else bif (a==[101,108,115,101])then some (true)else bif (a==[102,111,114])then some (true)else bif (a==[100,111])then some (true)else (dU a).bind λb=>some ((decide (b>=0)))
def QL:Fsp:=amF 106 [shF .str] [shF .bool] qc
def dK(a:Str):Option (Bool):=(KY a).bind λb=>bif b then (qc a).bind λc=>some ((!c))else some (false)
def OU:Fsp:=amF 51 [shF .str] [shF .bool] dK
def kZ(a:Str):Option (Bool):=aN (λ(b:Str×Int)=>bif (decide (b.2<(b.1.length:Int)))then (idx b.1 b.2).bind λc2=>bif (decide ((c2.toNat:Int)<32))then some (.inr (false))else (idx b.1 b.2).bind λc3=>bif (decide ((c3.toNat:Int)>126))then some (.inr (false))else (idx b.1 b.2).bind λc4=>bif ((c4.toNat:Int)==34)then some (.inr (false))else some (.inl (b.1,w64 (b.2+1)))else some (.inr ((decide ((b.1.length:Int)<=20))))) (a,0)
def OT:Fsp:=amF 155 [shF .str] [shF .bool] kZ
def BV(a:ak):Option (Bool):=bif (a.kind==1)then (jC a.n 0 1000000000).bind λb=>bif b then bif (a.text==[])then some (((a.args.length:Int)==0))else some (false)else some (false)else bif (a.kind==2)then bif (a.n==0)then (kZ a.text).bind λc=>bif c then some (((a.args.length:Int)==0))else some (false)else some (false)else bif (a.kind==3)then bif (a.n==0)then (dK a.text).bind λd=>bif d then some (((a.args.length:Int)==0))else some (false)else some (false)else bif (a.kind==4)then bif (a.n==0)then bif (a.text==[])then some ((decide ((a.args.length:Int)<=8)))else some (false)else some (false)else bif (a.kind==5)then bif (a.n==0)then (dU a.text).bind λe=>some (((a.args.length:Int)==e))else some (false)else bif (a.kind==6)then (jC a.n 1 5).bind λf=>bif f then bif (a.text==[])then some (((a.args.length:Int)==2))else some (false)else some (false)else bif (a.kind==7)then bif (a.n==0)then (dK a.text).bind λg=>bif g then some (((a.args.length:Int)==2))else some (false)else some (false)else bif (a.kind==9)then bif (a.n==0)then (dK a.text).bind λh=>bif h then some (((a.args.length:Int)==2))else some (false)else some (false)else bif (a.kind==8)then bif (a.n==0)then bif (a.text==[])then some (((a.args.length:Int)==3))else some (false)else some (false)else some (false)
def ac7:Fsp:=amF 119 [shT .expr] [shF .bool] BV
def Eu(riAreNodes:ak->Option (Bool))(a:ak):Option (Bool):=aN (λ((f,g,h,i,j,k,l):amJ amT)=>bif (decide (l<k))then (idx j l).bind λc=>(riAreNodes (aH c)).bind λd=>bif (!d)then some (.inr (false))else some (.inl (f,g,h,i,j,k,w64 (l+1)))else ((BV (ak.mk f g h i)).bind λe=>some (e)).bind λr=>some (.inr r)) (a.kind,a.n,a.text,a.args,a.args,(a.args.length:Int),0)
def sS:Nat->(ak->Option (Bool))
 | 0=>λ_=>none
 | n+1=>Eu (sS n)
def Cc(a:ak):Option (Bool):=(sS (siz a+1)) a
def XW:Fsp:=amF 71 [shT .expr] [shF .bool] Cc
def yL(n:Nat):Fsp:=amF 71 [shT .expr] [shF .bool] (sS n)
def jD(a:ak):Option (Bool):=(Eh (aH a)).bind λb=>bif (decide (b<=40))then (Ei (aH a)).bind λc=>bif (decide (c<=8))then (Cc (aH a)).bind λd=>some (d)else some (false)else some (false)
def OV:Fsp:=amF 28 [shT .expr] [shF .bool] jD
def aI(a:Int):Option (af):=some (af.mk 6 a 0 [] [] [] [])
def QN:Fsp:=amF 29 [shF .int] [shT .val] aI
def dX(a:Int):Option (af):=some (af.mk 1 a 0 [] [] [] [])
def OG:Fsp:=amF 72 [shF .int] [shT .val] dX
def sF(a:Str):Option (af):=some (af.mk 2 0 0 a [] [] [])
def Vl:Fsp:=amF 73 [shF .str] [shT .val] sF
def Ba(a:aB):Option (aB):=(gd (0+a.cells.length)).bind λ_=>(gd (0+a.orig.length)).bind λ_=>some (aB.mk ([]++a.cells) ([]++a.orig))
def aai:Fsp:=amF 83 [shT .row] [shT .row] Ba
def A8(riCopyValue:af->Option (af))(riCopyValues:(List af)->Option ((List af)))(a:af):Option (af):=(riCopyValues a.list).bind λd=>(gd (0+a.columns.length)).bind λ_=>aN (λ((f,g,h,i,j,k,l,m,o,p,q,r,s,t,u,v,w):amI (amI amQ))=>bif (decide (w<v))then (idx u w).bind λe=>(Ba e).bind λc=>(gd (t.length+[c].length)).bind λ_=>some (.inl (f,g,h,i,j,k,l,m,o,p,q,r,s,t++[c],u,v,w64 (w+1)))else some (.inr (af.mk m o p q r s t))) (0,0,0,[],[],[],[],a.kind,a.n,a.step,a.text,d,[]++a.columns,[],a.rows,(a.rows.length:Int),0)
def yJ(riCopyValue:af->Option (af))(riCopyValues:(List af)->Option ((List af)))(a:List af):Option ((List af)):=aN (λ((e,f,g,h):(List af)×amN)=>bif (decide (h<g))then (idx f h).bind λd=>(riCopyValue (ah d)).bind λc=>(gd (e.length+[ah c].length)).bind λ_=>some (.inl (e++[ah c],f,g,w64 (h+1)))else some (.inr (e))) ([],a,(a.length:Int),0)
def fF:Nat->(af->Option (af))×((List af)->Option ((List af)))
 | 0=>(λ_=>none,λ_=>none)
 | n+1=>(A8 (fF n).1 (fF n).2,yJ (fF n).1 (fF n).2)
def fD(a:af):Option (af):=(fF (siz a+1)).1 a
def Vz:Fsp:=amF 31 [shT .val] [shT .val] fD
def vI(n:Nat):Fsp:=amF 31 [shT .val] [shT .val] (λx=>(fF n).1 x)
def kP(a:List af):Option ((List af)):=(fF (siz a+1)).2 a
def QR:Fsp:=amF 82 [slF .val] [slF .val] kP
def sK(n:Nat):Fsp:=amF 82 [slF .val] [slF .val] (λx=>(fF n).2 x)
def KX(a:List au)(b:Str):Option (af):=aN (λ((h,i,j,k,l,m,n,o,p,q):(List au)×Str×amI Int)=>bif (decide (q>=0))then (idx h q).bind λd=>bif (d.name==i)then (idx h q).bind λe=>(fD (ah e.value)).bind λf=>some (.inr (ah f))else some (.inl (h,i,j,k,l,m,n,o,p,w64 (q-1)))else ((aI 1).bind λg=>some (ah g)).bind λr=>some (.inr r)) (a,b,0,0,0,[],[],[],[],w64 ((a.length:Int)-1))
def ac3:Fsp:=amF 74 [slF .binding,shF .str] [shT .val] (λx=>KX x.1 x.2)
def I4(riDepthOf:af->Option (Int))(a:af):Option (Int):=aN (λ((e,f,g,h):Int×amN)=>bif (decide (h<g))then (idx f h).bind λd=>(riDepthOf (ah d)).bind λc=>some (.inl ((if c>e then c else e),f,g,w64 (h+1)))else some (.inr (w64 (e+1)))) (0,a.list,(a.list.length:Int),0)
def wX:Nat->(af->Option (Int))
 | 0=>λ_=>none
 | n+1=>I4 (wX n)
def Gs(a:af):Option (Int):=(wX (siz a+1)) a
def aah:Fsp:=amF 122 [shT .val] [shF .int] Gs
def A7(n:Nat):Fsp:=amF 122 [shT .val] [shF .int] (wX n)
def fO(a:Int):Option (Bool):=(jC a (-1000000000) 1000000000).bind λb=>some (b)
def XL:Fsp:=amF 157 [shF .int] [shF .bool] fO
def wV(a:List Str)(b:Str):Option (Int):=aN (λ((e,f,g,h):Str×amP)=>bif (decide (h<g))then (idx f h).bind λd=>bif (d==e)then some (.inr (h))else some (.inl (e,f,g,w64 (h+1)))else some (.inr ((-1)))) (b,a,(a.length:Int),0)
def aae:Fsp:=amF 108 [slF .str,shF .str] [shF .int] (λx=>wV x.1 x.2)
def lg(a:List Str):Option (Bool):=aN (λ((e,f,g,h):(List Str)×amP)=>bif (decide (h<g))then (idx f h).bind λc=>(wV e c).bind λd=>bif (d != h)then some (.inr (false))else some (.inl (e,f,g,w64 (h+1)))else some (.inr (true))) (a,a,(a.length:Int),0)
def O1:Fsp:=amF 201 [slF .str] [shF .bool] lg
def qf(a:List Str):Option (Bool):=aN (λ((g,h,i,j):(List Str)×amP)=>bif (decide (j<i))then (idx h j).bind λc=>(dK c).bind λd=>bif (!d)then some (.inr (false))else some (.inl (g,h,i,w64 (j+1)))else ((jC (g.length:Int) 1 4).bind λe=>bif e then (lg g).bind λf=>some (f)else some (false)).bind λr=>some (.inr r)) (a,a,(a.length:Int),0)
def QS:Fsp:=amF 202 [slF .str] [shF .bool] qf
def o8(a:aj)(b:aj):Option (Bool):=bif (decide (a.cell<b.cell))then some (true)else bif (a.cell==b.cell)then some ((decide (a.row<b.row)))else some (false)
def J3:Fsp:=amF 220 [shT .origin,shT .origin] [shF .bool] (λx=>o8 x.1 x.2)
def Gn(a:af):Option (Bool):=(qf a.columns).bind λh=>bif (!h)then some (false)else bif (decide ((a.rows.length:Int)>12))then some (false)else aN (λ((l,m,o,p,q,s,t,u,v,w):amI amQ)=>bif (decide (w<v))then (idx u w).bind λe=>bif ((e.cells.length:Int) != (s.length:Int))then some (.inr (false))else aN (λ((d,x,y,z,A,B,C,D,E,F,G,H,I,J,K):amI (amR amV))=>bif (decide (K<J))then (idx I K).bind λi=>(fO i).bind λj=>bif (!j)then (some (.inr (false))).bind λr=>some (.inr r)else some (.inl (d,x,y,z,A,B,C,D,E,F,G,H,I,J,w64 (K+1)))else (aN (λ((c,L,M,N,O,P,Q,R,S,T,U,V,W,X,Y):amI (amR amW))=>bif (decide (Y<X))then (idx W Y).bind λf=>bif (decide (f.cell<0))then (some (.inr (false))).bind λr=>some (.inr r)else bif (decide (f.row<0))then (some (.inr (false))).bind λr=>some (.inr r)else bif (decide (Y>0))then (idx S (w64 (Y-1))).bind λk=>(o8 k f).bind λg=>bif (!g)then (some (.inr (false))).bind λr=>some (.inr r)else some (.inl (c,L,M,N,O,P,Q,R,S,T,U,V,W,X,w64 (Y+1)))else some (.inl (c,L,M,N,O,P,Q,R,S,T,U,V,W,X,w64 (Y+1)))else some (.inr (.inl (c,L,M,N,O,P,Q,T,U,w64 (V+1))))) (d,x,y,z,A,B,C,D,E,F,G,H,E,(E.length:Int),0)).bind λr=>some (.inr r)) (l,m,o,p,q,s,t,e.cells,e.orig,u,v,w,e.cells,(e.cells.length:Int),0)else some (.inr (true))) (a.kind,a.n,a.step,a.text,a.list,a.columns,a.rows,a.rows,(a.rows.length:Int),0)
def aad:Fsp:=amF 194 [shT .val] [shF .bool] Gn
def sH(riIsValidValue:af->Option (Bool))(a:af):Option (Bool):=jL (X:=amI Bool) (bif ((a.list.length:Int)==0)then bif ((a.columns.length:Int)==0)then some (.inl (a.kind,a.n,a.step,a.text,a.list,a.columns,a.rows,((a.rows.length:Int)==0)))else some (.inl (a.kind,a.n,a.step,a.text,a.list,a.columns,a.rows,false))else some (.inl (a.kind,a.n,a.step,a.text,a.list,a.columns,a.rows,false))) λ((q,s,t,u,v,w,x,y):amI Bool)=>bif (q==1)then bif y then bif (t==0)then bif (u==[])then (fO s).bind λj=>some (j)else some (false)else some (false)else some (false)else bif (q==2)then bif y then bif (s==0)then bif (t==0)then (kZ u).bind λk=>some (k)else some (false)else some (false)else some (false)else bif (q==4)then bif y then bif (u==[])then (fO s).bind λl=>bif l then (fO t).bind λm=>some (m)else some (false)else some (false)else some (false)else bif (q==6)then bif y then bif (t==0)then bif (u==[])then (jC s 1 8).bind λo=>some (o)else some (false)else some (false)else some (false)else bif (q==5)then bif (s==0)then bif (t==0)then bif (u==[])then bif ((v.length:Int)==0)then (Gn (af.mk q s t u v w x)).bind λp=>some (p)else some (false)else some (false)else some (false)else some (false)else bif (q==3)then jL (X:=amL) (aN (λ((b,z,A,B,C,D,E,F,G,H):amI amN)=>bif (decide (H<G))then (idx F H).bind λd=>bif (d.kind != 1)then bif (d.kind != 2)then bif (d.kind != 3)then (some (.inr (false))).bind λr=>some (.inr r)else (riIsValidValue (ah d)).bind λf=>bif (!f)then (some (.inr (false))).bind λr=>some (.inr r)else some (.inl (b,z,A,B,C,D,E,F,G,w64 (H+1)))else (riIsValidValue (ah d)).bind λg=>bif (!g)then (some (.inr (false))).bind λr=>some (.inr r)else some (.inl (b,z,A,B,C,D,E,F,G,w64 (H+1)))else (riIsValidValue (ah d)).bind λh=>bif (!h)then (some (.inr (false))).bind λr=>some (.inr r)else some (.inl (b,z,A,B,C,D,E,F,G,w64 (H+1)))else some (.inr (.inl (b,z,A,B,C,D,E)))) (q,s,t,u,v,w,x,v,(v.length:Int),0)) λ((c,I,J,K,L,M,N):amL)=>bif (I==0)then bif (J==0)then bif (K==[])then bif ((M.length:Int)==0)then bif ((N.length:Int)==0)then bif (decide ((L.length:Int)<=8))then (Gs (af.mk c I J K L M N)).bind λi=>some ((decide (i<=3)))else some (false)else some (false)else some (false)else some (false)else some (false)else some (false)else some (false)
def kL:Nat->(af->Option (Bool))
 | 0=>λ_=>none
 | n+1=>sH (kL n)
def vH(a:af):Option (Bool):=(kL (siz a+1)) a
def J5:Fsp:=amF 156 [shT .val] [shF .bool] vH
def oI(n:Nat):Fsp:=amF 156 [shT .val] [shF .bool] (kL n)
def fV(a:List af):Option (af×Bool):=aN (λ((f,g,h,i,j,k,l,m,n,o):amI amN)=>bif (decide (o<n))then (idx m o).bind λc=>(vH (ah c)).bind λd=>bif (!d)then (aI 4).bind λe=>some (.inr (ah e,true))else bif (c.kind==6)then some (.inr (ah c,true))else some (.inl (f,g,h,i,j,k,l,m,n,w64 (o+1)))else some (.inr (af.mk 0 0 0 [] [] [] [],false))) (0,0,0,[],[],[],[],a,(a.length:Int),0)
def J4:Fsp:=amG 120 [slF .val] [shT .val,shF .bool] fV
def oH(a:List af):Option (af):=(kP a).bind λb=>some (af.mk 3 0 0 [] b [] [])
def Vt:Fsp:=amF 121 [slF .val] [shT .val] oH
def jE(a:List af):Option (af):=(fV a).bind λd=>bif d.2 then (fD (ah d.1)).bind λf=>some (ah f)else aN (λ((k,l,m,n,o,p,q,s,t,u,v):(List af)×amI amN)=>bif (decide (v<u))then (idx t v).bind λc=>bif (c.kind != 1)then bif (c.kind != 2)then bif (c.kind != 3)then (aI 4).bind λg=>some (.inr (ah g))else some (.inl (k,l,m,n,o,p,q,s,t,u,w64 (v+1)))else some (.inl (k,l,m,n,o,p,q,s,t,u,w64 (v+1)))else some (.inl (k,l,m,n,o,p,q,s,t,u,w64 (v+1)))else ((oH k).bind λe=>bif (decide ((k.length:Int)>8))then (aI 6).bind λh=>some (ah h)else (Gs (ah e)).bind λi=>bif (decide (i>3))then (aI 6).bind λj=>some (ah j)else some (ah e)).bind λr=>some (.inr r)) (a,0,0,0,[],[],[],[],a,(a.length:Int),0)
def VA:Fsp:=amF 75 [slF .val] [shT .val] jE
def gm(a:Int):Option (af):=(fO a).bind λb=>bif (!b)then (aI 5).bind λc=>some (ah c)else (dX a).bind λd=>some (ah d)
def I8:Fsp:=amF 123 [shF .int] [shT .val] gm
def kK(a:Bool):Option (af):=bif a then (dX 1).bind λb=>some (ah b)else (dX 0).bind λc=>some (ah c)
def QG:Fsp:=amF 124 [shF .bool] [shT .val] kK
def AP(a:List Str)(b:List Str):Option (Bool):=bif ((a.length:Int) != (b.length:Int))then some (false)else aN (λ((f,g,h,i):(List Str)×amP)=>bif (decide (i<h))then (idx f i).bind λd=>(idx g i).bind λe=>bif (!(d==e))then some (.inr (false))else some (.inl (f,g,h,w64 (i+1)))else some (.inr (true))) (a,b,(a.length:Int),0)
def QH:Fsp:=amF 195 [slF .str,slF .str] [shF .bool] (λx=>AP x.1 x.2)
def OC(a:List Int)(b:List Int):Option (Bool):=bif ((a.length:Int) != (b.length:Int))then some (false)else aN (λ((f,g,h,i):(List Int)×amV)=>bif (decide (i<h))then (idx f i).bind λd=>(idx g i).bind λe=>bif (d != e)then some (.inr (false))else some (.inl (f,g,h,w64 (i+1)))else some (.inr (true))) (a,b,(a.length:Int),0)
def Z9:Fsp:=amF 196 [slF .int,slF .int] [shF .bool] (λx=>OC x.1 x.2)
def AQ(a:List aj)(b:List aj):Option (Bool):=bif ((a.length:Int) != (b.length:Int))then some (false)else aN (λ((f,g,h,i):(List aj)×amW)=>bif (decide (i<h))then (idx f i).bind λd=>(idx g i).bind λe=>bif (!((d.cell==e.cell)&&(d.row==e.row)))then some (.inr (false))else some (.inl (f,g,h,w64 (i+1)))else some (.inr (true))) (a,b,(a.length:Int),0)
def QI:Fsp:=amF 197 [slF .origin,slF .origin] [shF .bool] (λx=>AQ x.1 x.2)
def Vx(riEqual:af->af->Bool->Option (Bool))(a:af)(b:af)(c:Bool):Option (Bool):=bif (a.kind != b.kind)then some (false)else bif (a.n != b.n)then some (false)else bif (a.step != b.step)then some (false)else bif (!(a.text==b.text))then some (false)else (AP a.columns b.columns).bind λi=>bif (!i)then some (false)else bif ((a.list.length:Int) != (b.list.length:Int))then some (false)else bif ((a.rows.length:Int) != (b.rows.length:Int))then some (false)else aN (λ((q,s,t,u,v,w,x,y,z,A,B,C,D,E,F,G,H):Bool×amI (amI (Int×Int)))=>bif (decide (H<G))then (idx w H).bind λj=>(idx D H).bind λk=>(riEqual (ah j) (ah k) q).bind λl=>bif (!l)then some (.inr (false))else some (.inl (q,s,t,u,v,w,x,y,z,A,B,C,D,E,F,G,w64 (H+1)))else (aN (λ((e,I,J,K,L,M,N,O,P,Q,R,S,T,U,V,W,X):Bool×amI (amI (Int×Int)))=>bif (decide (X<W))then (idx O X).bind λm=>(idx V X).bind λo=>(OC m.cells o.cells).bind λp=>bif (!p)then some (.inr (false))else bif e then (idx O X).bind λf=>(idx V X).bind λg=>(AQ f.orig g.orig).bind λh=>bif (!h)then some (.inr (false))else some (.inl (e,I,J,K,L,M,N,O,P,Q,R,S,T,U,V,W,w64 (X+1)))else some (.inl (e,I,J,K,L,M,N,O,P,Q,R,S,T,U,V,W,w64 (X+1)))else some (.inr (true))) (q,s,t,u,v,w,x,y,z,A,B,C,D,E,F,(y.length:Int),0)).bind λr=>some (.inr r)) (c,a.kind,a.n,a.step,a.text,a.list,a.columns,a.rows,b.kind,b.n,b.step,b.text,b.list,b.columns,b.rows,(a.list.length:Int),0)
def Cb:Nat->(af->af->Bool->Option (Bool))
 | 0=>λ_ _ _=>none
 | n+1=>Vx (Cb n)
def aaf(a:af)(b:af)(c:Bool):Option (Bool):=(Cb (siz a+siz b+1)) a b c
def afP:Fsp:=amF 158 [shT .val,shT .val,shF .bool] [shF .bool] (λx=>aaf x.1 x.2.1 x.2.2)
def IZ(n:Nat):Fsp:=amF 158 [shT .val,shT .val,shF .bool] [shF .bool] (λx=>(Cb n) x.1 x.2.1 x.2.2)
def uJ(a:af)(b:af):Option (Bool):=(aaf (ah a) (ah b) false).bind λc=>some (c)
def QO:Fsp:=amF 125 [shT .val,shT .val] [shF .bool] (λx=>uJ x.1 x.2)
def jm(a:Int)(b:af)(c:af):Option (af):=(fV [ah b,ah c]).bind λy=>bif y.2 then some (ah y.1)else jL (X:=Int×amI (amI (amI Bool))) (bif (b.kind==1)then some (.inl (a,b.kind,b.n,b.step,b.text,b.list,b.columns,b.rows,c.kind,c.n,c.step,c.text,c.list,c.columns,c.rows,0,0,0,[],[],[],[],(c.kind==1)))else some (.inl (a,b.kind,b.n,b.step,b.text,b.list,b.columns,b.rows,c.kind,c.n,c.step,c.text,c.list,c.columns,c.rows,0,0,0,[],[],[],[],false))) λ((C,D,E,F,G,H,I,J,K,L,M,N,O,P,Q,R,S,T,U,V,W,Y,Z):Int×amI (amI (amI Bool)))=>jL (X:=Int×amI (amI (amI (Bool×Bool)))) (bif (D==2)then some (.inl (C,D,E,F,G,H,I,J,K,L,M,N,O,P,Q,R,S,T,U,V,W,Y,Z,(K==2)))else some (.inl (C,D,E,F,G,H,I,J,K,L,M,N,O,P,Q,R,S,T,U,V,W,Y,Z,false))) λ((l,aa,ac,ae,aq,ar,aw,aD,aE,aL,aM,aR,ba,bc,bh,bj,bl,bm,bp,br,bu,bw,bz,bA):Int×amI (amI (amI (Bool×Bool))))=>jL (X:=Int×amI (amI (amI amO))) (bif (aa==3)then some (.inl (l,aa,ac,ae,aq,ar,aw,aD,aE,aL,aM,aR,ba,bc,bh,bj,bl,bm,bp,br,bu,bw,bz,bA,(aE==3)))else some (.inl (l,aa,ac,ae,aq,ar,aw,aD,aE,aL,aM,aR,ba,bc,bh,bj,bl,bm,bp,br,bu,bw,bz,bA,false))
 ) λ((k,bB,bE,bL,bN,bO,bR,bS,bX,cd,ce,cf,ci,cj,ck,cm,cn,cp,cq,cr,cA,cB,cC,cE,cF):Int×amI (amI (amI amO)))=>
 jL (X:=Int×amI (amI (amI (Bool×amO)))) (
  bif (k==1)then
   some (.inl (k,bB,bE,bL,bN,bO,bR,bS,bX,cd,ce,cf,ci,cj,ck,cm,cn,cp,cq,cr,cA,cB,cC,cE,cF,cC))
  else
   some (.inl (k,bB,bE,bL,bN,bO,bR,bS,bX,cd,ce,cf,ci,cj,ck,cm,cn,cp,cq,cr,cA,cB,cC,cE,cF,false))
 ) λ((j,cG,cH,cI,cJ,cK,cL,cM,cN,cP,cQ,cR,cT,cU,cV,cW,cX,cY,da,dc,de,df,dg,dl,dv,dz):Int×amI (amI (amI (Bool×amO))))=>
 bif dz then
  (gm (w64 (cH+cP))).bind λz=>
  some (ah z)
 else
 jL (X:=Int×amI (amI (amI (Bool×amO)))) (
  bif (j==1)then
   some (.inl (j,cG,cH,cI,cJ,cK,cL,cM,cN,cP,cQ,cR,cT,cU,cV,cW,cX,cY,da,dc,de,df,dg,dl,dv,dl))
  else
   some (.inl (j,cG,cH,cI,cJ,cK,cL,cM,cN,cP,cQ,cR,cT,cU,cV,cW,cX,cY,da,dc,de,df,dg,dl,dv,false))
 ) λ((i,dC,dE,dT,ed,ef,eh,ei,ej,eo,ep,er,et,ey,ez,eA,eC,eD,eE,eL,eM,eN,eO,eQ,eR,eT):Int×amI (amI (amI (Bool×amO))))=>
 bif eT then
  bif (decide ((w64 ((ed.length:Int)+(er.length:Int)))>20))then
   (aI 6).bind λA=>
   some (ah A)
  else
   (gd (ed.length+er.length)).bind λ_=>
   (sF (ed++er)).bind λB=>
   some (ah B)
 else
 jL (X:=Int×amI (amI (amI amO))) (
  bif (i==1)then
   some (.inl (i,dC,dE,dT,ed,ef,eh,ei,ej,eo,ep,er,et,ey,ez,eA,eC,eD,eE,eL,eM,eN,eO,eQ,eR))
  else
   some (.inl (i,dC,dE,dT,ed,ef,eh,ei,ej,eo,ep,er,et,ey,ez,eA,eC,eD,eE,eL,eM,eN,eO,eQ,false))
 ) λ((h,eV,eW,eZ,fa,fe,ff,fh,fi,fj,fm,fq,ft,fu,fw,fz,fI,fL,fN,fR,fS,fT,fW,fX,fY):Int×amI (amI (amI amO)))=>
 bif fY then
  bif (decide ((w64 ((fe.length:Int)+(ft.length:Int)))>8))then
   (aI 6).bind λq=>
   some (ah q)
  else
   (kP fe).bind λo=>
   (kP ft).bind λp=>
   (gd (o.length+p.length)).bind λ_=>
   some (af.mk 3 0 0 [] (o++p) [] [])
 else
 jL (X:=Int×amI (amI (amI amO))) (
  bif (h==2)then
   some (.inl (h,eV,eW,eZ,fa,fe,ff,fh,fi,fj,fm,fq,ft,fu,fw,fz,fI,fL,fN,fR,fS,fT,fW,fX,fW))
  else
   some (.inl (h,eV,eW,eZ,fa,fe,ff,fh,fi,fj,fm,fq,ft,fu,fw,fz,fI,fL,fN,fR,fS,fT,fW,fX,false))
 ) λ((d,ga,gb,ge,gf,gg,gh,gj,gl,gn,gr,gt,gv,gw,gx,gz,gA,gC,gD,gE,gF,gH,gL,gM,gP):Int×amI (amI (amI amO)))=>
 bif gP then
  (gm (w64 (gb-gn))).bind λr=>
  some (ah r)
 else
 jL (X:=Int×amI (amI (amI amO))) (
  bif (d==3)then
   some (.inl (d,ga,gb,ge,gf,gg,gh,gj,gl,gn,gr,gt,gv,gw,gx,gz,gA,gC,gD,gE,gF,gH,gL,gM,gL))
  else
   some (.inl (d,ga,gb,ge,gf,gg,gh,gj,gl,gn,gr,gt,gv,gw,gx,gz,gA,gC,gD,gE,gF,gH,gL,gM,false))
 ) λ((e,hA,hF,hJ,hL,hQ,hU,hV,hX,ia,ib,ij,ik,il,im,io,ip,ir,iu,iv,ix,iz,iA,iB,iS):Int×amI (amI (amI amO)))=>
 bif iS then
  (gm (w64 (hF*ia))).bind λs=>
  some (ah s)
 else
 jL (X:=Int×amI (amI (amI (Bool×Bool)))) (
  bif (e==4)then
   some (.inl (e,hA,hF,hJ,hL,hQ,hU,hV,hX,ia,ib,ij,ik,il,im,io,ip,ir,iu,iv,ix,iz,iB,iA))
  else
   some (.inl (e,hA,hF,hJ,hL,hQ,hU,hV,hX,ia,ib,ij,ik,il,im,io,ip,ir,iu,iv,ix,iz,iB,false))
 ) λ((f,iX,jn,jp,js,jt,jx,jz,jN,kf,kg,kh,ki,kj,km,kn,ko,kp,kq,kr,kt,kw,ky,kA):Int×amI (amI (amI (Bool×Bool))))=>
 bif kA then
  (kK (decide (jn<kf))).bind λt=>
  some (ah t)
 else
 jL (X:=Int×amI (amI (amI Bool))) (
  bif (f==4)then
   some (.inl (f,iX,jn,jp,js,jt,jx,jz,jN,kf,kg,kh,ki,kj,km,kn,ko,kp,kq,kr,kt,kw,ky))
  else
   some (.inl (f,iX,jn,jp,js,jt,jx,jz,jN,kf,kg,kh,ki,kj,km,kn,ko,kp,kq,kr,kt,kw,false))
 ) λ((g,kI,kO,ld,lf,lh,li,lj,ln,lp,lr,ly,lz,lA,lB,_,_,_,_,_,_,_,lE):Int×amI (amI (amI Bool)))=>
 bif lE then
  (kK (Op.bytesLess lf ly)).bind λu=>
  some (ah u)
 else
  bif (g==5)then
   (uJ (af.mk kI kO ld lf lh li lj) (af.mk ln lp lr ly lz lA lB)).bind λv=>
   (kK v).bind λw=>
   some (ah w)
  else
   (aI 4).bind λx=>
   some (ah x)
def Ja:Fsp:=amG 77 [shF .int,shT .val,shT .val] [shT .val] (λx=>jm x.1 x.2.1 x.2.2)
def XV(a:List au)(b:Str)(c:af):Option ((List au)):=aN (λ((h,i,j,k,l,m,o,p,q,s,t,u):Str×amI ((List au)×(List au)×Int×Int))=>bif (decide (u<t))then (idx s u).bind λe=>(fD (ah e.value)).bind λf=>(gd (q.length+[au.mk e.name (ah f)].length)).bind λ_=>some (.inl (h,i,j,k,l,m,o,p,q++[au.mk e.name (ah f)],s,t,w64 (u+1)))else ((fD (af.mk i j k l m o p)).bind λg=>(gd (q.length+[au.mk h (ah g)].length)).bind λ_=>some (q++[au.mk h (ah g)])).bind λr=>some (.inr r)) (b,c.kind,c.n,c.step,c.text,c.list,c.columns,c.rows,[],a,(a.length:Int),0)
def ahU:Fsp:=amF 78 [slF .binding,shF .str,shT .val] [slF .binding] (λx=>XV x.1 x.2.1 x.2.2)
def KZ(a:af):Option (Bool):=bif (a.kind==1)then some ((a.n != 0))else some (false)
def ac6:Fsp:=amF 79 [shT .val] [shF .bool] KZ
def oJ(a:Str):Option (Bool):=bif (a==[99,108,111,99,107])then some (true)else bif (a==[99,104,97,110,99,101])then some (true)else some ((a==[102,105,108,101]))
def XM:Fsp:=amF 126 [shF .str] [shF .bool] oJ
def wR(a:af):Option (af):=(fV [ah a]).bind λb=>bif b.2 then some (ah b.1)else bif (a.kind==3)then (dX (a.list.length:Int)).bind λc=>some (ah c)else bif (a.kind==2)then (dX (a.text.length:Int)).bind λd=>some (ah d)else (aI 4).bind λe=>some (ah e)
def XK:Fsp:=amG 159 [shT .val] [shT .val] wR
def Oy(a:af):Option (af):=(fV [ah a]).bind λd=>bif d.2 then some (ah d.1)else bif (a.kind != 3)then (aI 4).bind λe=>some (ah e)else aN (λ((j,k,l,m,o,p,q,s,t,u,v):amI (Int×amN))=>bif (decide (v<u))then (idx t v).bind λc=>bif (c.kind != 1)then (aI 4).bind λf=>some (.inr (ah f))else (fO (w64 (s+c.n))).bind λg=>bif (!g)then (aI 5).bind λh=>some (.inr (ah h))else some (.inl (j,k,l,m,o,p,q,w64 (s+c.n),t,u,w64 (v+1)))else ((dX s).bind λi=>some (ah i)).bind λr=>some (.inr r)) (0,0,0,[],[],[],[],0,a.list,(a.list.length:Int),0)
def afJ:Fsp:=amG 160 [shT .val] [shT .val] Oy
def fC(a:List Int)(b:List af):Option (af×Bool):=(fV b).bind λd=>bif d.2 then some (ah d.1,true)else aN (λ((h,i,j,k,l,m,n,o,p,q,r):(List Int)×amI amN)=>bif (decide (r<q))then (idx p r).bind λe=>(idx h r).bind λf=>bif (e.kind != f)then (aI 4).bind λg=>some (.inr (ah g,true))else some (.inl (h,i,j,k,l,m,n,o,p,q,w64 (r+1)))else some (.inr (af.mk 0 0 0 [] [] [] [],false))) (a,0,0,0,[],[],[],[],b,(b.length:Int),0)
def Vu:Fsp:=amG 172 [slF .int,slF .val] [shT .val,shF .bool] (λx=>fC x.1 x.2)
def sJ(a:af):Option (af):=(fC [5] [ah a]).bind λb=>bif b.2 then some (ah b.1)else (dX (a.rows.length:Int)).bind λc=>some (ah c)
def Vy:Fsp:=amG 161 [shT .val] [shT .val] sJ
def gQ(a:af)(b:af):Option (af×Bool):=(fV [ah a,ah b]).bind λd=>bif d.2 then some (ah d.1,true)else (aI 4).bind λc=>bif (a.kind != 1)then some (ah c,true)else bif (b.kind != 3)then some (ah c,(b.kind != 4))else some (ah c,false)
def IQ:Fsp:=amG 198 [shT .val,shT .val] [shT .val,shF .bool] (λx=>gQ x.1 x.2)
def yG(a:af)(b:af):Option (af):=(gQ (ah a) (ah b)).bind λc=>bif c.2 then some (ah c.1)else bif (decide (a.n<0))then (aI 5).bind λd=>some (ah d)else bif (b.kind==3)then bif (decide (a.n>=(b.list.length:Int)))then (aI 5).bind λe=>some (ah e)else bif (b.kind==3)then (idx b.list a.n).bind λf=>(fD (ah f)).bind λg=>some (ah g)else (gm (w64 (b.n+(w64 (a.n*b.step))))).bind λh=>some (ah h)else bif (b.kind==3)then (idx b.list a.n).bind λi=>(fD (ah i)).bind λj=>some (ah j)else (gm (w64 (b.n+(w64 (a.n*b.step))))).bind λk=>some (ah k)
def afL:Fsp:=amG 164 [shT .val,shT .val] [shT .val] (λx=>yG x.1 x.2)
def Gf(a:af)(b:af):Option (af):=(gQ (ah a) (ah b)).bind λe=>bif e.2 then some (ah e.1)else (jC a.n 0 8).bind λf=>bif (!f)then (aI 5).bind λg=>some (ah g)else bif (b.kind==3)then (eff.cutL b.list none (some (if (b.list.length:Int)<a.n then (b.list.length:Int)else a.n))).bind λh=>(oH h).bind λi=>some (ah i)else aN (λ((k,l,m,o,p,q,r,s,t,u,v,w,x,y,z,A,B,C,D,E,F,G,H,I,J,K,L,M,N):amI (amI (amI (amI Int))))=>bif (decide (N<l))then (dX N).bind λj=>(yG (ah j) (af.mk s t u v w x y)).bind λd=>bif (d.kind==6)then some (.inr (ah d))else (gd (K.length+[ah d].length)).bind λ_=>some (.inl (k,l,m,o,p,q,r,s,t,u,v,w,x,y,z,A,B,C,D,E,F,G,H,I,J,K++[ah d],L,M,w64 (N+1)))else some (.inr (af.mk G H I J K L M))) (a.kind,a.n,a.step,a.text,a.list,a.columns,a.rows,b.kind,b.n,b.step,b.text,b.list,b.columns,b.rows,0,0,0,[],[],[],[],3,0,0,[],[],[],[],0)
def ac1:Fsp:=amG 162 [shT .val,shT .val] [shT .val] (λx=>Gf x.1 x.2)
def nN(a:Int)(b:Int):Option (af):=some (af.mk 4 a b [] [] [] [])
def Oz:Fsp:=amF 173 [shF .int,shF .int] [shT .val] (λx=>nN x.1 x.2)
def Gg(a:af)(b:af):Option (af):=(gQ (ah a) (ah b)).bind λd=>bif d.2 then some (ah d.1)else bif (decide (a.n<0))then (aI 5).bind λe=>some (ah e)else bif (b.kind==3)then (eff.cutL b.list (some (if (b.list.length:Int)<a.n then (b.list.length:Int)else a.n)) none).bind λf=>(oH f).bind λg=>some (ah g)else (yG (ah a) (ah b)).bind λc=>bif (c.kind==6)then some (ah c)else (nN c.n b.step).bind λh=>some (ah h)
def ac2:Fsp:=amG 163 [shT .val,shT .val] [shT .val] (λx=>Gg x.1 x.2)
def ZN:Fsp:=amF 221 [shF .str,shF .str] [slF .str] (λx=>wO x.1 x.2)
def mD(a:Str)(b:Int):Option ((List Str)):=(wO a (bytesOf [b])).bind λc=>some (c)
def Vm:Fsp:=amF 199 [shF .str,shF .u8] [slF .str] (λx=>mD x.1 x.2)
def dL(a:af)(b:Str):Option (Int):=(wV a.columns b).bind λc=>some (c)
def OZ:Fsp:=amF 200 [shT .val,shF .str] [shF .int] (λx=>dL x.1 x.2)
def nO(a:af)(b:af):Option (af):=(fC [2,5] [ah a,ah b]).bind λk=>bif k.2 then some (ah k.1)else (mD a.text 32).bind λh=>aN (λ((q,s,t,u,v,w,x,y,z,A,B,C,D,E,F,G,H,I,J,K,L,M,N,O,P):amI (amI (amI ((List Int)×amP))))=>bif (decide (P<O))then (idx N P).bind λl=>(dL (af.mk q s t u v w x) l).bind λi=>bif (decide (i<0))then (aI 7).bind λm=>some (.inr (ah m))else (gd (M.length+[i].length)).bind λ_=>some (.inl (q,s,t,u,v,w,x,y,z,A,B,C,D,E,F,G,H,I,J,K,L,M++[i],N,O,w64 (P+1)))else ((lg K).bind λo=>bif (!o)then (aI 7).bind λp=>some (ah p)else aN (λ((d,Q,R,S,T,U,V,W,X,Y,Z,aa,ac,ae,aq,ar,aw,aD):amI (amI ((List Int)×amQ)))=>bif (decide (aD<aw))then (idx ar aD).bind λf=>(gd (0+f.orig.length)).bind λ_=>aN (λ((e,aE,aL,aM,aR,ba,bc,bh,bj,bl,bm,bp,br,bu,bw,bz,bA,bB,bE,bL,bN,bO,bR,bS,bX):amI (amI ((List Int)×(List Int)×(List aj)×amR amV)))=>bif (decide (bX<bS))then (idx bR bX).bind λj=>(idx bz j).bind λg=>(gd (bB.length+[g].length)).bind λ_=>some (.inl (e,aE,aL,aM,aR,ba,bc,bh,bj,bl,bm,bp,br,bu,bw,bz,bA,bB++[g],bE,bL,bN,bO,bR,bS,w64 (bX+1)))else ((gd (bu.length+[aB.mk bB bE].length)).bind λ_=>some (.inl (e,aE,aL,aM,aR,ba,bc,bh,bj,bl,bm,bp,br,bu++[aB.mk bB bE],bw,bL,bN,w64 (bO+1)))
       ).bind λr=>some (.inr r)
     ) (d,Q,R,S,T,U,V,W,X,Y,Z,aa,ac,ae,aq,f.cells,f.orig,[],[]++f.orig,ar,aw,aD,aq,(aq.length:Int),0)
    else
     some (.inr (af.mk W X Y Z aa ac ae))
   ) (y,z,A,B,C,D,E,F,G,H,I,J,K,L,M,x,(x.length:Int),0)
  ).bind λr=>some (.inr r)
 ) (b.kind,b.n,b.step,b.text,b.list,b.columns,b.rows,0,0,0,[],[],[],[],5,0,0,[],[],h,[],[],h,(h.length:Int),0)
def OQ:Fsp:=amG 165 [shT .val,shT .val] [shT .val] (λx=>nO x.1 x.2)
def wZ(a:af)(b:af):Option (af):=(fC [2,5] [ah a,ah b]).bind λd=>bif d.2 then some (ah d.1)else (dL (ah b) a.text).bind λe=>bif (decide (e<0))then (aI 7).bind λg=>some (ah g)else bif (decide ((b.rows.length:Int)>8))then (aI 6).bind λh=>some (ah h)else aN (λ((k,l,m,n,o,p,q,r,s,t,u,v,w,x,y,z,A,B):amI (Int×amI amQ))=>bif (decide (B<A))then (idx z B).bind λi=>(idx i.cells r).bind λj=>(dX j).bind λf=>(gd (w.length+[ah f].length)).bind λ_=>some (.inl (k,l,m,n,o,p,q,r,s,t,u,v,w++[ah f],x,y,z,A,w64 (B+1)))else some (.inr (af.mk s t u v w x y))) (0,0,0,[],[],[],[],e,3,0,0,[],[],[],[],b.rows,(b.rows.length:Int),0)
def XU:Fsp:=amG 166 [shT .val,shT .val] [shT .val] (λx=>wZ x.1 x.2)
def AO(a:af)(b:af):Option (af):=(fC [2,3] [ah a,ah b]).bind λh=>bif h.2 then some (ah h.1)else (mD a.text 32).bind λi=>(qf i).bind λj=>bif (!j)then (aI 7).bind λk=>some (ah k)else aN (λ((o,p,q,s,t,u,v,w,x,y,z,A,B,C,D,E,F):amI (amI amN))=>bif (decide (F<E))then (idx D F).bind λf=>bif (f.kind != 3)then (aI 4).bind λl=>some (.inr (ah l))else bif ((f.list.length:Int) != (B.length:Int))then (aI 4).bind λm=>some (.inr (ah m))else aN (λ((d,G,H,I,J,K,L,M,N,O,P,Q,R,S,T,U,V,W,X,Y,Z,aa):amI (amI ((List Int)×(List aj)×(List af)×Int×Int×amN)))=>bif (decide (aa<Z))then (idx Y aa).bind λe=>bif (e.kind != 1)then (aI 4).bind λg=>(some (.inr (ah g))).bind λr=>some (.inr r)else (gd (T.length+[e.n].length)).bind λ_=>some (.inl (d,G,H,I,J,K,L,M,N,O,P,Q,R,S,T++[e.n],U,V,W,X,Y,Z,w64 (aa+1)))else ((gd (S.length+[aB.mk T U].length)).bind λ_=>some (.inl (d,G,H,I,J,K,L,M,N,O,P,Q,R,S++[aB.mk T U],V,W,w64 (X+1)))).bind λr=>some (.inr r)) (o,p,q,s,t,u,v,w,x,y,z,A,B,C,[],[],D,E,F,f.list,(f.list.length:Int),0)else some (.inr (af.mk w x y z A B C))) (0,0,0,[],[],[],[],5,0,0,[],[],i,[],b.list,(b.list.length:Int),0)
def Z8:Fsp:=amG 167 [shT .val,shT .val] [shT .val] (λx=>AO x.1 x.2)
def pW(a:af)(b:af)(c:af):Option (af):=(fC [2,1,5] [ah a,ah b,ah c]).bind λe=>bif e.2 then some (ah e.1)else (dL (ah c) a.text).bind λf=>bif (decide (f<0))then (aI 7).bind λi=>some (ah i)else (gd (0+c.columns.length)).bind λ_=>aN (λ((k,l,m,o,p,q,r,s,t,u,v,w,x,y,z,A,B,C,D,E,F,G,H,I,J):amI (amI (Int×amI amQ)))=>bif (decide (J<I))then (idx H J).bind λg=>(idx g.cells z).bind λj=>bif (j==l)then (Ba g).bind λh=>(gd (G.length+[h].length)).bind λ_=>some (.inl (k,l,m,o,p,q,r,s,t,u,v,w,x,y,z,A,B,C,D,E,F,G++[h],H,I,w64 (J+1)))else some (.inl (k,l,m,o,p,q,r,s,t,u,v,w,x,y,z,A,B,C,D,E,F,G,H,I,w64 (J+1)))else some (.inr (af.mk A B C D E F G))) (b.kind,b.n,b.step,b.text,b.list,b.columns,b.rows,0,0,0,[],[],[],[],f,5,0,0,[],[],[]++c.columns,[],c.rows,(c.rows.length:Int),0)
def QF:Fsp:=amG 168 [shT .val,shT .val,shT .val] [shT .val] (λx=>pW x.1 x.2.1 x.2.2)
def vw(a b:List aj):Option (List aj):=iJ a b
def JZ:Fsp:=amF 203 [slF .origin,slF .origin] [slF .origin] (λx=>vw x.1 x.2)
def oK(a b c:af):Option af:=(fC [2,2,5] [a,b,c]).bind λr=>bif r.2 then some r.1 else (dL c a.text).bind λi=>(dL c b.text).bind λk=>bif (decide (i<0)||decide (k<0)||(a.text==b.text))then aI 7 else (gd c.rows.length).bind λ_=>(qm i k c.rows []).bind λgs=>yM a.text b.text gs
def XO:Fsp:=amG 169 [shT .val,shT .val,shT .val] [shT .val] (λx=>oK x.1 x.2.1 x.2.2)
def F9(a:List Str)(b:List Str):Option ((List Str)):=aN (λ((f,g,h,i,j):(List Str)×(List Str)×amP)=>bif (decide (j<i))then (idx h j).bind λd=>(wV f d).bind λe=>bif (decide (e<0))then (gd (g.length+([d]:List Str).length)).bind λ_=>some (.inl (f,g++([d]:List Str),h,i,w64 (j+1)))else some (.inl (f,g,h,i,w64 (j+1)))else some (.inr (g))) (b,[],a,(a.length:Int),0)
def Z7:Fsp:=amF 205 [slF .str,slF .str] [slF .str] (λx=>F9 x.1 x.2)
def Gl(a:af)(b:af)(c:af):Option (af):=(fC [2,5,5] [ah a,ah b,ah c]).bind λp=>bif p.2 then some (ah p.1)else (dL (ah b) a.text).bind λq=>(dL (ah c) a.text).bind λs=>(F9 c.columns ([a.text]:List Str)).bind λk=>(gd (0+b.columns.length)).bind λ_=>(gd (([]++b.columns).length+k.length)).bind λ_=>bif (decide (q<0))then (aI 7).bind λt=>some (ah t)else bif (decide (s<0))then (aI 7).bind λu=>some (ah u)else (lg (([]++b.columns)++k)).bind λv=>bif (!v)then (aI 7).bind λw=>some (ah w)else bif (decide (((([]++b.columns)++k).length:Int)>4))then (aI 6).bind λx=>some (ah x)else aN (λ((y,z,A,B,C,D,E,F,G,H,I,J,K,L,M,N,O,P,Q,R,S,T,U,V,W,X):amI (amI (Int×Int×amI amQ)))=>bif (decide (X<W))then (idx V X).bind λi=>aN (λ((e,Y,Z,aa,ac,ae,aq,ar,aw,aD,aE,aL,aM,aR,ba,bc,bh,bj,bl,bm,bp,br,bu,bw,bz,bA,bB,bE,bL,bN,bO):amI (amI (Int×Int×amI (amR amQ))))=>bif (decide (bO<bN))then (idx bL bO).bind λf=>(idx bw ba).bind λl=>(idx f.cells bc).bind λm=>bif (l != m)then some (.inl (e,Y,Z,aa,ac,ae,aq,ar,aw,aD,aE,aL,aM,aR,ba,bc,bh,bj,bl,bm,bp,br,bu,bw,bz,bA,bB,bE,bL,bN,w64 (bO+1)))else (gd (0+bw.length)).bind λ_=>(eff.cutL f.cells none (some bc)).bind λg=>(gd (([]++bw).length+g.length)).bind λ_=>(eff.cutL f.cells (some (w64 (bc+1))) none).bind λh=>(gd ((([]++bw)++g).length+h.length)).bind λ_=>(vw bz f.orig).bind λj=>(gd (bu.length+([aB.mk ((([]++bw)++g)++h) j]).length)).bind λ_=>some (.inl (e,Y,Z,aa,ac,ae,aq,ar,aw,aD,aE,aL,aM,aR,ba,bc,bh,bj,bl,bm,bp,br,bu++([aB.mk ((([]++bw)++g)++h) j]),bw,bz,bA,bB,bE,bL,bN,w64 (bO+1)))
    else
     some (.inr (.inl (e,Y,Z,aa,ac,ae,aq,ar,aw,aD,aE,aL,aM,aR,ba,bc,bh,bj,bl,bm,bp,br,bu,bA,bB,w64 (bE+1))))
   ) (y,z,A,B,C,D,E,F,G,H,I,J,K,L,M,N,O,P,Q,R,S,T,U,i.cells,i.orig,V,W,X,E,(E.length:Int),0)
  else
   (
    bif (decide ((U.length:Int)>12))then
     (aI 6).bind λo=>
     some (ah o)
    else
     some (af.mk O P Q R S T U)
   ).bind λr=>some (.inr r)
 ) (c.kind,c.n,c.step,c.text,c.list,c.columns,c.rows,0,0,0,[],[],[],[],q,s,5,0,0,[],[],([]++b.columns)++k,[],b.rows,(b.rows.length:Int),0)
def ac4:Fsp:=amG 170 [shT .val,shT .val,shT .val] [shT .val] (λx=>Gl x.1 x.2.1 x.2.2)
def sU(a:af)(b:af)(c:af)(d:af):Option (af):=(fC [2,2,2,5] [ah a,ah b,ah c,ah d]).bind λp=>bif p.2 then some (ah p.1)else (dL (ah d) b.text).bind λq=>(dL (ah d) c.text).bind λr=>(dK a.text).bind λs=>bif (!s)then (aI 7).bind λt=>some (ah t)else (dL (ah d) a.text).bind λu=>bif (decide (u>=0))then (aI 7).bind λv=>some (ah v)else bif (decide (q<0))then (aI 7).bind λw=>some (ah w)else bif (decide (r<0))then (aI 7).bind λx=>some (ah x)else bif (decide ((d.columns.length:Int)>=4))then (aI 6).bind λk=>some (ah k)else (fD (ah d)).bind λf=>(gd (f.columns.length+([a.text]:List Str).length)).bind λ_=>aN (λ((y,z,A,B,C,D,E,F,G,H,I,J,K,L,M,N,O,P,Q):amI (Int×Int×amI amQ))=>bif (decide (Q<P))then (idx O Q).bind λi=>(idx i.cells F).bind λg=>(idx i.cells G).bind λh=>(fO (w64 (g+h))).bind λl=>bif (!l)then (aI 5).bind λm=>some (.inr (ah m))else (idx N Q).bind λ_=>(N[Q.toNat]?).bind λj=>(gd (j.cells.length+[w64 (g+h)].length)).bind λ_=>(idx N Q).bind λ_=>(N[Q.toNat]?).bind λo=>((if Q.toNat=Q.toNat/\0=0 then some ()else none)).bind λ_=>some (.inl (y,z,A,B,C,D,E,F,G,H,I,J,K,L,M,N.set Q.toNat (aB.mk (j.cells++[w64 (g+h)]) o.orig),O,P,w64 (Q+1)))else some (.inr (af.mk H I J K L M N))) (0,0,0,[],[],[],[],q,r,f.kind,f.n,f.step,f.text,f.list,f.columns++([a.text]:List Str),f.rows,d.rows,(d.rows.length:Int),0)
def VB:Fsp:=amG 171 [shT .val,shT .val,shT .val,shT .val] [shT .val] (λx=>sU x.1 x.2.1 x.2.2.1 x.2.2.2)
def bZ(a:Str)(b:List af):Option (af):=(oJ a).bind λR=>bif R then (aI 4).bind λS=>some (ah S)else (dU a).bind λT=>bif ((b.length:Int) != T)then (aI 4).bind λU=>some (ah U)else bif (a==[108,101,110])then (idx b 0).bind λV=>(wR (ah V)).bind λW=>some (ah W)else bif (a==[115,117,109])then (idx b 0).bind λX=>(Oy (ah X)).bind λY=>some (ah Y)else bif (a==[114,111,119,115])then (idx b 0).bind λZ=>(sJ (ah Z)).bind λd=>some (ah d)else bif (a==[116,97,107,101])then (idx b 0).bind λe=>(idx b 1).bind λf=>(Gf (ah e) (ah f)).bind λg=>some (ah g)else bif (a==[115,107,105,112])then (idx b 0).bind λh=>(idx b 1).bind λi=>(Gg (ah h) (ah i)).bind λj=>some (ah j)else bif (a==[110,116,104])then (idx b 0).bind λk=>(idx b 1).bind λl=>(yG (ah k) (ah l)).bind λm=>some (ah m)else bif (a==[107,101,101,112])then (idx b 0).bind λo=>(idx b 1).bind λp=>(nO (ah o) (ah p)).bind λq=>some (ah q)else bif (a==[99,111,108,117,109,110])then (idx b 0).bind λr=>(idx b 1).bind λs=>(wZ (ah r) (ah s)).bind λt=>some (ah t)else bif (a==[116,97,98,108,101])then (idx b 0).bind λu=>(idx b 1).bind λv=>(AO (ah u) (ah v)).bind λw=>some (ah w)else bif (a==[119,104,101,114,101])then (idx b 0).bind λx=>(idx b 1).bind λy=>(idx b 2).bind λz=>(pW (ah x) (ah y) (ah z)).bind λA=>some (ah A)else bif (a==[103,114,111,117,112])then (idx b 0).bind λB=>(idx b 1).bind λC=>(idx b 2).bind λD=>(oK (ah B) (ah C) (ah D)).bind λE=>some (ah E)else bif (a==[106,111,105,110])then (idx b 0).bind λF=>(idx b 1).bind λG=>(idx b 2).bind λH=>(Gl (ah F) (ah G) (ah H)).bind λI=>some (ah I)else bif (a==[97,100,100])then (idx b 0).bind λJ=>(idx b 1).bind λK=>(idx b 2).bind λL=>(idx b 3).bind λM=>(sU (ah J) (ah K) (ah L) (ah M)).bind λN=>some (ah N)else (fC [1,1] b).bind λc=>bif c.2 then some (ah c.1)else (idx b 0).bind λO=>(idx b 1).bind λP=>(nN O.n P.n).bind λQ=>some (ah Q)
def J9:Fsp:=amG 127 [shF .str,slF .val] [shT .val] (λx=>bZ x.1 x.2)
def BU(a:aG)(b:aG):Option (Bool):=bif (a.kind==b.kind)then bif (a.n==b.n)then bif (a.text==b.text)then some ((a.time==b.time))else some (false)else some (false)else some (false)
def XH:Fsp:=amF 84 [shT .read,shT .read] [shF .bool] (λx=>BU x.1 x.2)
def wW(a:List aG)(b:aG):Option (af×Bool):=aN (λ((g,h,i,j,k,l,m,o,p,q,r,s,t,u,v,w,x,y,z,A,B):Int×Int×Int×Str×amI (amI ((List aG)×Int×Int)))=>bif (decide (B<A))then (idx z B).bind λd=>(BU (yc d) (aG.mk g h i j (af.mk k l m o p q r))).bind λe=>bif e then (fD (ah d.result)).bind λf=>some (.inr (ah f,true))else some (.inl (g,h,i,j,k,l,m,o,p,q,r,s,t,u,v,w,x,y,z,A,w64 (B+1)))else some (.inr (af.mk 0 0 0 [] [] [] [],false))) (b.kind,b.n,b.time,b.text,b.result.kind,b.result.n,b.result.step,b.result.text,b.result.list,b.result.columns,b.result.rows,0,0,0,[],[],[],[],a,(a.length:Int),0)
def XP:Fsp:=amF 33 [slF .read,shT .read] [shT .val,shF .bool] (λx=>wW x.1 x.2)
def ahS(a:Int)(b:Int)(c:Int)(d:Int):Option (Int):=bif (decide (((w64 ((w64 ((w64 ((w64 (48271*a))+(w64 (7919*b))))+(w64 (104729*c))))+(w64 (1299709*d)))).tmod 2147483647)<0))then some ((w64 (16807*(w64 (((w64 ((w64 ((w64 ((w64 (48271*a))+(w64 (7919*b))))+(w64 (104729*c))))+(w64 (1299709*d)))).tmod 2147483647)+2147483647)))).tmod 2147483647)else some ((w64 (16807*((w64 ((w64 ((w64 ((w64 (48271*a))+(w64 (7919*b))))+(w64 (104729*c))))+(w64 (1299709*d)))).tmod 2147483647))).tmod 2147483647)
def ak2:Fsp:=amF 206 [shF .int,shF .int,shF .int,shF .int] [shF .int] (λx=>ahS x.1 x.2.1 x.2.2.1 x.2.2.2)
def qK(a:bT)(b:Str):Option (Int×Bool):=aN (λ((e,f,g,h):Str×(List fJ)×Int×Int)=>bif (decide (h<g))then (idx f h).bind λd=>bif (d.name==e)then some (.inr (d.n,true))else some (.inl (e,f,g,w64 (h+1)))else some (.inr (0,false))) (b,a.files,(a.files.length:Int),0)
def OW:Fsp:=amF 207 [shT .world,shF .str] [shF .int,shF .bool] (λx=>qK x.1 x.2)
def jT(a:bT)(b:Int)(c:Int)(d:aG):Option (af):=bif (d.kind==1)then (fO a.clock).bind λm=>bif (!m)then (aI 4).bind λo=>some (ah o)else (dX a.clock).bind λp=>some (ah p)else bif (d.kind==2)then (jC d.n 1 1000000000).bind λq=>bif (!q)then (aI 5).bind λr=>some (ah r)else (ahS a.seed b c d.time).bind λs=>(Qr s d.n).bind λl=>(fO l).bind λt=>bif (!t)then (aI 4).bind λu=>some (ah u)else (dX l).bind λf=>some (ah f)else bif (d.kind==3)then (qK a d.text).bind λe=>bif (!e.2)then (aI 1).bind λg=>some (ah g)else (fO e.1).bind λh=>bif (!h)then (aI 4).bind λi=>some (ah i)else (dX e.1).bind λj=>some (ah j)else (aI 4).bind λk=>some (ah k)
def J7:Fsp:=amF 174 [shT .world,shF .int,shF .int,shT .read] [shT .val] (λx=>jT x.1 x.2.1 x.2.2.1 x.2.2.2)
def eY(a:aA)(b:aG):Option (aA×af):=aN (λ((i,j,k,l,m,o,p,q,s,t,u,v,x,y,z,A,B,C,D,E,F,G,H,I,J,K,L,M,N):amK (Int×Int×Int×Str×amI (amI (Int×Int))))=>bif (decide (N<M))then (idx p N).bind λ_=>(p[N.toNat]?).bind λd=>bif (d.kind==t)then bif (d.n==u)then bif (d.text==x)then some (.inl (i,j,k,l,m,o,p,q,s,t,u,w64 (v+1),x,y,z,A,B,C,D,E,F,G,H,I,J,K,L,M,w64 (N+1)))else some (.inl (i,j,k,l,m,o,p,q,s,t,u,v,x,y,z,A,B,C,D,E,F,G,H,I,J,K,L,M,w64 (N+1)))else some (.inl (i,j,k,l,m,o,p,q,s,t,u,v,x,y,z,A,B,C,D,E,F,G,H,I,J,K,L,M,w64 (N+1)))else some (.inl (i,j,k,l,m,o,p,q,s,t,u,v,x,y,z,A,B,C,D,E,F,G,H,I,J,K,L,M,w64 (N+1)))
  else
  (
   (wW i (aG.mk t u v x (af.mk y z A B C D E))).bind λe=>
   bif (!e.2)then
    (jT (bT.mk j k l) m o (aG.mk t u v x (af.mk y z A B C D E))).bind λf=>
    (fD (ah f)).bind λg=>
    (gd (p.length+[aG.mk t u v x (ah g)].length)).bind λ_=>
    some (aA.mk i (bT.mk j k l) m o (p++[aG.mk t u v x (ah g)]) q s,ah f)
   else
    (fD (ah e.1)).bind λh=>
    (gd (p.length+[aG.mk t u v x (ah h)].length)).bind λ_=>
    some (aA.mk i (bT.mk j k l) m o (p++[aG.mk t u v x (ah h)]) q s,ah e.1)
  ).bind λr=>some (.inr r)
 ) (a.tape,a.w.clock,a.w.seed,a.w.files,a.cell,a.version,a.reads,a.steps,a.over,b.kind,b.n,b.time,b.text,b.result.kind,b.result.n,b.result.step,b.result.text,b.result.list,b.result.columns,b.result.rows,0,0,0,[],[],[],[],(a.reads.length:Int),0)
def IY:Fsp:=amG 128 [shT .iy,shT .read] [shT .iy,shT .val] (λx=>eY x.1 x.2)
def lQ(riMachineEval:aA->ak->(List au)->Option (aA×af))(riMachineAll:aA->(List ak)->(List au)->Option (aA×(List af)))(riMachineLoop:aA->ak->(List au)->Option (aA×af))(riMachineCall:aA->ak->(List au)->Option (aA×af))(a:aA)(b:ak)(c:List au):Option (aA×af):=bif a.over then some (aA.mk a.tape a.w a.cell a.version a.reads a.steps true,af.mk 0 0 0 [] [] [] [])else bif (a.steps==200)then some (aA.mk a.tape a.w a.cell a.version a.reads a.steps true,af.mk 0 0 0 [] [] [] [])else bif (b.kind==1)then (dX b.n).bind λu=>some (aA.mk a.tape a.w a.cell a.version a.reads (w64 (a.steps+1)) a.over,ah u)else bif (b.kind==2)then (sF b.text).bind λv=>some (aA.mk a.tape a.w a.cell a.version a.reads (w64 (a.steps+1)) a.over,ah v)else bif (b.kind==3)then (KX c b.text).bind λx=>some (aA.mk a.tape a.w a.cell a.version a.reads (w64 (a.steps+1)) a.over,ah x)else bif (b.kind==4)then (riMachineAll (aA.mk a.tape a.w a.cell a.version a.reads (w64 (a.steps+1)) a.over) b.args c).bind λt=>(jE t.2).bind λy=>some (t.1,ah y)else bif (b.kind==6)then (riMachineAll (aA.mk a.tape a.w a.cell a.version a.reads (w64 (a.steps+1)) a.over) b.args c).bind λk=>(idx k.2 0).bind λz=>(idx k.2 1).bind λA=>(jm b.n (ah z) (ah A)).bind λB=>some (k.1,ah B)else bif (b.kind==7)then (idx b.args 0).bind λl=>(riMachineEval (aA.mk a.tape a.w a.cell a.version a.reads (w64 (a.steps+1)) a.over) (aH l) c).bind λe=>(idx b.args 1).bind λm=>(XV c b.text (ah e.2)).bind λo=>(riMachineEval e.1 (aH m) o).bind λf=>some (f.1,ah f.2)else bif (b.kind==8)then (idx b.args 0).bind λp=>(riMachineEval (aA.mk a.tape a.w a.cell a.version a.reads (w64 (a.steps+1)) a.over) (aH p) c).bind λd=>bif d.1.over then some (d.1,ah d.2)else bif (d.2.kind==6)then some (d.1,ah d.2)else (KZ (ah d.2)).bind λq=>bif q then (idx b.args 1).bind λr=>(riMachineEval d.1 (aH r) c).bind λg=>some (g.1,ah g.2)else (idx b.args 2).bind λs=>(riMachineEval d.1 (aH s) c).bind λh=>some (h.1,ah h.2)else bif (b.kind==9)then (riMachineLoop (aA.mk a.tape a.w a.cell a.version a.reads (w64 (a.steps+1)) a.over) (aH b) c).bind λi=>some (i.1,ah i.2)else (riMachineCall (aA.mk a.tape a.w a.cell a.version a.reads (w64 (a.steps+1)) a.over) (aH b) c).bind λj=>some (j.1,ah j.2)
def yI(riMachineEval:aA->ak->(List au)->Option (aA×af))(riMachineAll:aA->(List ak)->(List au)->Option (aA×(List af)))(riMachineLoop:aA->ak->(List au)->Option (aA×af))(riMachineCall:aA->ak->(List au)->Option (aA×af))(a:aA)(b:List ak)(c:List au):Option (aA×(List af)):=aN (λ((g,h,i,j,k,l,m,n,o,p,q,r,s,t):amK ((List au)×(List af)×amT))=>bif (decide (t<s))then (idx r t).bind λf=>(riMachineEval (aA.mk g (bT.mk h i j) k l m n o) (aH f) p).bind λe=>(gd (q.length+[ah e.2].length)).bind λ_=>some (.inl (e.1.tape,e.1.w.clock,e.1.w.seed,e.1.w.files,e.1.cell,e.1.version,e.1.reads,e.1.steps,e.1.over,p,q++[ah e.2],r,s,w64 (t+1)))else some (.inr (aA.mk g (bT.mk h i j) k l m n o,q))) (a.tape,a.w.clock,a.w.seed,a.w.files,a.cell,a.version,a.reads,a.steps,a.over,c,[],b,(b.length:Int),0)
def vF(riMachineEval:aA->ak->(List au)->Option (aA×af))(riMachineAll:aA->(List ak)->(List au)->Option (aA×(List af)))(riMachineLoop:aA->ak->(List au)->Option (aA×af))(riMachineCall:aA->ak->(List au)->Option (aA×af))(a:aA)(b:ak)(c:List au):Option (aA×af):=(idx b.args 0).bind λg=>(riMachineEval a (aH g) c).bind λe=>bif e.1.over then some (e.1,ah e.2)else bif (e.2.kind==6)then some (e.1,ah e.2)else bif (e.2.kind != 3)then (aI 4).bind λh=>some (e.1,ah h)else aN (λ((m,o,p,q,s,t,u,v,x,y,z,A,B,C,D,E,F,G,H,I,J,K,L,M,N):amK ((List au)×amJ (amI ((List af)×amN))))=>bif (decide (N<M))then (idx L N).bind λi=>(idx C 1).bind λj=>(XV y B (ah i)).bind λk=>(riMachineEval (aA.mk m (bT.mk o p q) s t u v x) (aH j) k).bind λf=>(gd (K.length+[ah f.2].length)).bind λ_=>bif f.1.over then some (.inr (f.1,af.mk 0 0 0 [] [] [] []))else some (.inl (f.1.tape,f.1.w.clock,f.1.w.seed,f.1.w.files,f.1.cell,f.1.version,f.1.reads,f.1.steps,f.1.over,y,z,A,B,C,D,E,F,G,H,I,J,K++[ah f.2],L,M,w64 (N+1)))else ((jE K).bind λl=>some (aA.mk m (bT.mk o p q) s t u v x,ah l)).bind λr=>some (.inr r)) (e.1.tape,e.1.w.clock,e.1.w.seed,e.1.w.files,e.1.cell,e.1.version,e.1.reads,e.1.steps,e.1.over,c,b.kind,b.n,b.text,b.args,0,0,0,[],[],[],[],[],e.2.list,(e.2.list.length:Int),0)
def vG(riMachineEval:aA->ak->(List au)->Option (aA×af))(riMachineAll:aA->(List ak)->(List au)->Option (aA×(List af)))(riMachineLoop:aA->ak->(List au)->Option (aA×af))(riMachineCall:aA->ak->(List au)->Option (aA×af))(a:aA)(b:ak)(c:List au):Option (aA×af):=(riMachineAll a b.args c).bind λd=>bif d.1.over then some (d.1,af.mk 0 0 0 [] [] [] [])else (oJ b.text).bind λF=>bif (!F)then (bZ b.text d.2).bind λG=>some (d.1,ah G)else bif (decide ((d.2.length:Int)>0))then (idx d.2 0).bind λH=>bif (H.kind==6)then (idx d.2 0).bind λI=>some (d.1,ah I)else bif (b.text==[99,108,111,99,107])then (eY d.1 (aG.mk 1 0 0 [] (af.mk 0 0 0 [] [] [] []))).bind λD=>some (D.1,ah D.2)else bif (b.text==[99,104,97,110,99,101])then (idx d.2 0).bind λJ=>bif (J.kind==1)then (idx d.2 0).bind λK=>(eY d.1 (aG.mk 2 K.n 0 [] (af.mk 0 0 0 [] [] [] []))).bind λE=>some (E.1,ah E.2)else bif (b.text==[102,105,108,101])then (idx d.2 0).bind λk=>bif (k.kind==2)then (idx d.2 0).bind λl=>(eY d.1 (aG.mk 3 0 0 l.text (af.mk 0 0 0 [] [] [] []))).bind λe=>some (e.1,ah e.2)else (aI 4).bind λm=>some (d.1,ah m)else (aI 4).bind λo=>some (d.1,ah o)else bif (b.text==[102,105,108,101])then (idx d.2 0).bind λp=>bif (p.kind==2)then (idx d.2 0).bind λq=>(eY d.1 (aG.mk 3 0 0 q.text (af.mk 0 0 0 [] [] [] []))).bind λf=>some (f.1,ah f.2)else (aI 4).bind λr=>some (d.1,ah r)else (aI 4).bind λs=>some (d.1,ah s)else bif (b.text==[99,108,111,99,107])then (eY d.1 (aG.mk 1 0 0 [] (af.mk 0 0 0 [] [] [] []))).bind λg=>some (g.1,ah g.2)else bif (b.text==[99,104,97,110,99,101])then (idx d.2 0).bind λt=>bif (t.kind==1)then (idx d.2 0).bind λu=>(eY d.1 (aG.mk 2 u.n 0 [] (af.mk 0 0 0 [] [] [] []))).bind λh=>some (h.1,ah h.2)else bif (b.text==[102,105,108,101])then (idx d.2 0).bind λv=>bif (v.kind==2)then (idx d.2 0).bind λw=>(eY d.1 (aG.mk 3 0 0 w.text (af.mk 0 0 0 [] [] [] []))).bind λi=>some (i.1,ah i.2)else (aI 4).bind λx=>some (d.1,ah x)else (aI 4).bind λy=>some (d.1,ah y)else bif (b.text==[102,105,108,101])then (idx d.2 0).bind λz=>bif (z.kind==2)then (idx d.2 0).bind λA=>(eY d.1 (aG.mk 3 0 0 A.text (af.mk 0 0 0 [] [] [] []))).bind λj=>some (j.1,ah j.2)else (aI 4).bind λB=>some (d.1,ah B)else (aI 4).bind λC=>some (d.1,ah C)
def aT:Nat->(aA->ak->(List au)->Option (aA×af))×(aA->(List ak)->(List au)->Option (aA×(List af)))×(aA->ak->(List au)->Option (aA×af))×(aA->ak->(List au)->Option (aA×af))
 | 0=>(λ_ _ _=>none,λ_ _ _=>none,λ_ _ _=>none,λ_ _ _=>none)
 | n+1=>(lQ (aT n).1 (aT n).2.1 (aT n).2.2.1 (aT n).2.2.2,yI (aT n).1 (aT n).2.1 (aT n).2.2.1 (aT n).2.2.2,vF (aT n).1 (aT n).2.1 (aT n).2.2.1 (aT n).2.2.2,vG (aT n).1 (aT n).2.1 (aT n).2.2.1 (aT n).2.2.2)
def yH(a:aA)(b:ak)(c:List au):Option (aA×af):=(aT (siz a+siz b+siz c+1)).1 a b c
def OM:Fsp:=amG 30 [shT .iy,shT .expr,slF .binding] [shT .iy,shT .val] (λx=>yH x.1 x.2.1 x.2.2)
def qj(n:Nat):Fsp:=amG 30 [shT .iy,shT .expr,slF .binding] [shT .iy,shT .val] (λx=>(aT n).1 x.1 x.2.1 x.2.2)
def XJ(a:aA)(b:List ak)(c:List au):Option (aA×(List af)):=(aT (siz a+siz b+siz c+1)).2.1 a b c
def QK:Fsp:=amG 76 [shT .iy,slF .expr,slF .binding] [shT .iy,slF .val] (λx=>XJ x.1 x.2.1 x.2.2)
def sG(n:Nat):Fsp:=amG 76 [shT .iy,slF .expr,slF .binding] [shT .iy,slF .val] (λx=>(aT n).2.1 x.1 x.2.1 x.2.2)
def Vq(a:aA)(b:ak)(c:List au):Option (aA×af):=(aT (siz a+siz b+siz c+1)).2.2.1 a b c
def OL:Fsp:=amG 80 [shT .iy,shT .expr,slF .binding] [shT .iy,shT .val] (λx=>Vq x.1 x.2.1 x.2.2)
def qi(n:Nat):Fsp:=amG 80 [shT .iy,shT .expr,slF .binding] [shT .iy,shT .val] (λx=>(aT n).2.2.1 x.1 x.2.1 x.2.2)
def Vr(a:aA)(b:ak)(c:List au):Option (aA×af):=(aT (siz a+siz b+siz c+1)).2.2.2 a b c
def OO:Fsp:=amG 81 [shT .iy,shT .expr,slF .binding] [shT .iy,shT .val] (λx=>Vr x.1 x.2.1 x.2.2)
def ql(n:Nat):Fsp:=amG 81 [shT .iy,shT .expr,slF .binding] [shT .iy,shT .val] (λx=>(aT n).2.2.2 x.1 x.2.1 x.2.2)
def BZ(a:ak)(b:List au)(c:List aG)(d:bT)(e:Int)(f:Int):Option (fB):=(jD (aH a)).bind λh=>bif (!h)then (aI 4).bind λi=>some (fB.mk (ah i) [] 0)else (yH (aA.mk c d e f [] 0 false) (aH a) b).bind λg=>bif g.1.over then (aI 6).bind λj=>(fD (ah j)).bind λk=>some (fB.mk (ah k) g.1.reads g.1.steps)else (fD (ah g.2)).bind λl=>some (fB.mk (ah l) g.1.reads g.1.steps)
def XQ:Fsp:=amG 8 [shT .expr,slF .binding,slF .read,shT .world,shF .int,shF .int] [shT .outcome] (λx=>BZ x.1 x.2.1 x.2.2.1 x.2.2.2.1 x.2.2.2.2.1 x.2.2.2.2.2)
def rO(a:iE)(b:iE):Option (Bool):=bif ((a.cells.length:Int) != (b.cells.length:Int))then some (false)else aN (λ((f,g,h):(List Bo)×(List Bo)×Int)=>bif (decide (h<(f.length:Int)))then (idx f h).bind λd=>(idx g h).bind λe=>bif (!((d.id==e.id)&&((d.version==e.version)&&((d.kind==e.kind)&&((d.name==e.name)&&((d.code==e.code)&&(d.n==e.n)))))))then some (.inr (false))else some (.inl (f,g,w64 (h+1)))else some (.inr (true))) (a.cells,b.cells,0)
def Ih:Fsp:=amF 142 [shT .notebook,shT .notebook] [shF .bool] (λx=>rO x.1 x.2)
def MG(a:List Str)(b:List Str):Option (Bool):=bif ((a.length:Int) != (b.length:Int))then some (false)else aN (λ((f,g,h):(List Str)×(List Str)×Int)=>bif (decide (h<(f.length:Int)))then (idx f h).bind λd=>(idx g h).bind λe=>bif (!(d==e))then some (.inr (false))else some (.inl (f,g,w64 (h+1)))else some (.inr (true))) (a,b,0)
def Y0:Fsp:=amF 129 [slF .str,slF .str] [shF .bool] (λx=>MG x.1 x.2)
def Uy(a:List Int)(b:List Int):Option (Bool):=bif ((a.length:Int) != (b.length:Int))then some (false)else aN (λ((f,g,h):(List Int)×(List Int)×Int)=>bif (decide (h<(f.length:Int)))then (idx f h).bind λd=>(idx g h).bind λe=>bif (d != e)then some (.inr (false))else some (.inl (f,g,w64 (h+1)))else some (.inr (true))) (a,b,0)
def acp:Fsp:=amF 130 [slF .int,slF .int] [shF .bool] (λx=>Uy x.1 x.2)
def DF(a:List aj)(b:List aj):Option (Bool):=bif ((a.length:Int) != (b.length:Int))then some (false)else aN (λ((f,g,h):(List aj)×(List aj)×Int)=>bif (decide (h<(f.length:Int)))then (idx f h).bind λd=>(idx g h).bind λe=>bif (!((d.cell==e.cell)&&(d.row==e.row)))then some (.inr (false))else some (.inl (f,g,w64 (h+1)))else some (.inr (true))) (a,b,0)
def Uo:Fsp:=amF 131 [slF .origin,slF .origin] [shF .bool] (λx=>DF x.1 x.2)
def zQ(rsL3Same:af->af->Bool->Option (Bool))(a:af)(b:af)(c:Bool):Option (Bool):=bif (a.kind != b.kind)then some (false)else bif (a.n != b.n)then some (false)else bif (a.step != b.step)then some (false)else bif (!(a.text==b.text))then some (false)else bif ((a.list.length:Int) != (b.list.length:Int))then some (false)else (MG a.columns b.columns).bind λi=>bif (!i)then some (false)else bif ((a.rows.length:Int) != (b.rows.length:Int))then some (false)else aN (λ((q,s,t,u,v,w,x,y,z,A,B,C,D,E,F,G):Bool×amI (amI Int))=>bif (decide (G<(w.length:Int)))then (idx w G).bind λj=>(idx D G).bind λk=>(rsL3Same (ah j) (ah k) q).bind λl=>bif (!l)then some (.inr (false))else some (.inl (q,s,t,u,v,w,x,y,z,A,B,C,D,E,F,w64 (G+1)))else (aN (λ((e,H,I,J,K,L,M,N,O,P,Q,R,S,T,U,V):Bool×amI (amI Int))=>bif (decide (V<(N.length:Int)))then (idx N V).bind λm=>(idx U V).bind λo=>(Uy m.cells o.cells).bind λp=>bif (!p)then some (.inr (false))else bif e then (idx N V).bind λf=>(idx U V).bind λg=>(DF f.orig g.orig).bind λh=>bif (!h)then some (.inr (false))else some (.inl (e,H,I,J,K,L,M,N,O,P,Q,R,S,T,U,w64 (V+1)))else some (.inl (e,H,I,J,K,L,M,N,O,P,Q,R,S,T,U,w64 (V+1)))else some (.inr (true))) (q,s,t,u,v,w,x,y,z,A,B,C,D,E,F,0)).bind λr=>some (.inr r)) (c,a.kind,a.n,a.step,a.text,a.list,a.columns,a.rows,b.kind,b.n,b.step,b.text,b.list,b.columns,b.rows,0)
def pF:Nat->(af->af->Bool->Option (Bool))
 | 0=>λ_ _ _=>none
 | n+1=>zQ (pF n)
def EU(a:af)(b:af)(c:Bool):Option (Bool):=(pF (siz a+siz b+1)) a b c
def ach:Fsp:=amF 85 [shT .val,shT .val,shF .bool] [shF .bool] (λx=>EU x.1 x.2.1 x.2.2)
def DC(n:Nat):Fsp:=amF 85 [shT .val,shT .val,shF .bool] [shF .bool] (λx=>(pF n) x.1 x.2.1 x.2.2)
def pI(a:af)(b:af):Option (Bool):=(EU (ah a) (ah b) true).bind λc=>some (c)
def Qp:Fsp:=amF 34 [shT .val,shT .val] [shF .bool] (λx=>pI x.1 x.2)
def vX(a:aG)(b:aG):Option (Bool):=bif (a.kind==b.kind)then bif (a.n==b.n)then bif (a.text==b.text)then some ((a.time==b.time))else some (false)else some (false)else some (false)
def Y6:Fsp:=amF 216 [shT .read,shT .read] [shF .bool] (λx=>vX x.1 x.2)
def MF(a:List aG)(b:List aG):Option (Bool):=bif ((a.length:Int) != (b.length:Int))then some (false)else aN (λ((j,k,l):(List aG)×(List aG)×Int)=>bif (decide (l<(j.length:Int)))then (idx j l).bind λd=>(idx k l).bind λe=>(vX (yc d) (yc e)).bind λf=>bif (!f)then some (.inr (false))else (idx j l).bind λg=>(idx k l).bind λh=>(pI (ah g.result) (ah h.result)).bind λi=>bif (!i)then some (.inr (false))else some (.inl (j,k,w64 (l+1)))else some (.inr (true))) (a,b,0)
def YZ:Fsp:=amF 191 [slF .read,slF .read] [shF .bool] (λx=>MF x.1 x.2)
def Hw(a:List nY)(b:List nY):Option (Bool):=bif ((a.length:Int) != (b.length:Int))then some (false)else aN (λ((k,l,m):(List nY)×(List nY)×Int)=>bif (decide (m<(k.length:Int)))then (idx k m).bind λd=>(idx l m).bind λe=>bif (d.cell != e.cell)then some (.inr (false))else (idx k m).bind λf=>(idx l m).bind λg=>bif (f.version != g.version)then some (.inr (false))else (idx k m).bind λh=>(idx l m).bind λi=>(MF h.reads i.reads).bind λj=>bif (!j)then some (.inr (false))else some (.inl (k,l,w64 (m+1)))else some (.inr (true))) (a,b,0)
def Wx:Fsp:=amF 143 [slF .tape,slF .tape] [shF .bool] (λx=>Hw x.1 x.2)
def nH(a:jV)(b:jV):Option (Bool):=(rO a.notebook b.notebook).bind λc=>bif c then (Hw a.tapes b.tapes).bind λd=>some (d)else some (false)
def Ii:Fsp:=amF 97 [shT .document,shT .document] [shF .bool] (λx=>nH x.1 x.2)
def BF(a:List nY)(b:List nY):Option (Bool):=(nH (jV.mk (iE.mk []) a []) (jV.mk (iE.mk []) b [])).bind λc=>some (c)
def Wq:Fsp:=amF 39 [slF .tape,slF .tape] [shF .bool] (λx=>BF x.1 x.2)
def BG(a:List aG)(b:List aG):Option (Bool):=(BF [nY.mk 0 0 a] [nY.mk 0 0 b]).bind λc=>some (c)
def Ws:Fsp:=amF 12 [slF .read,slF .read] [shF .bool] (λx=>BG x.1 x.2)
def tZ(a:fB)(b:fB):Option (Bool):=bif (a.steps==b.steps)then (pI (ah a.value) (ah b.value)).bind λc=>bif c then (BG a.reads b.reads).bind λd=>some (d)else some (false)else some (false)
def P7:Fsp:=amF 10 [shT .outcome,shT .outcome] [shF .bool] (λx=>tZ x.1 x.2)
def KC(a:List au)(b:Str):Option (af):=aN (λ((h,i,j,k,l,m,n,o,p,q):(List au)×Str×amI Int)=>bif (decide (q>=0))then (idx h q).bind λd=>bif (d.name==i)then (idx h q).bind λe=>(jY (ah e.value)).bind λf=>some (.inr (ah f))else some (.inl (h,i,j,k,l,m,n,o,p,w64 (q-1)))else ((aF 1).bind λg=>some (ah g)).bind λr=>some (.inr r)) (a,b,0,0,0,[],[],[],[],w64 ((a.length:Int)-1))
def ab9:Fsp:=amF 87 [slF .binding,shF .str] [shT .val] (λx=>KC x.1 x.2)
def lH(a:List af):Option (af×Bool):=aN (λ((i,j,k,l,m,o,p,q,r):(List af)×amI Int)=>bif (decide (r<(i.length:Int)))then (idx i r).bind λc=>(oQ (ah c)).bind λd=>bif (!d)then (aF 4).bind λe=>some (.inr (ah e,true))else (idx i r).bind λf=>bif (f.kind==6)then (idx i r).bind λg=>(aF g.n).bind λh=>some (.inr (ah h,true))else some (.inl (i,j,k,l,m,o,p,q,w64 (r+1)))else some (.inr (af.mk 0 0 0 [] [] [] [],false))) (a,0,0,0,[],[],[],[],0)
def YX:Fsp:=amF 132 [slF .val] [shT .val,shF .bool] lH
def jb(a:List af):Option (af):=aN (λ((e,f,g,h,i,j,k,l,m,n,o,p,q,r,s,t):(List af)×amI (amI Int))=>bif (decide (t<(e.length:Int)))then (idx e t).bind λd=>(jY (ah d)).bind λc=>(gd (q.length+[ah c].length)).bind λ_=>some (.inl (e,f,g,h,i,j,k,l,m,n,o,p,q++[ah c],r,s,w64 (t+1)))else some (.inr (af.mk m n o p q r s))) (a,0,0,0,[],[],[],[],3,0,0,[],[],[],[],0)
def Uj:Fsp:=amF 133 [slF .val] [shT .val] jb
def iH(a:List af):Option (af):=(lH a).bind λd=>bif d.2 then (jY (ah d.1)).bind λf=>some (ah f)else aN (λ((l,m,n,o,p,q,s,t,u):(List af)×amI Int)=>bif (decide (u<(l.length:Int)))then (idx l u).bind λg=>(ru (ah g)).bind λh=>bif (!h)then (aF 4).bind λi=>some (.inr (ah i))else some (.inl (l,m,n,o,p,q,s,t,w64 (u+1)))else ((jb l).bind λe=>bif (decide ((l.length:Int)>8))then (aF 6).bind λj=>some (ah j)else (Fq (ah e)).bind λk=>bif (decide (k>3))then (aF 6).bind λc=>some (ah c)else some (ah e)).bind λr=>some (.inr r)) (a,0,0,0,[],[],[],[],0)
def UF:Fsp:=amF 89 [slF .val] [shT .val] iH
def Ah(rsHasEffect:ak->Option (Bool))(a:ak):Option (Bool):=bif (a.kind==5)then bif (a.text==[99,108,111,99,107])then some (true)else bif (a.text==[99,104,97,110,99,101])then some (true)else bif (a.text==[102,105,108,101])then some (true)else aN (λ((h,i,j,k,l):amJ Int)=>bif (decide (l<(k.length:Int)))then (idx k l).bind λd=>(rsHasEffect (aH d)).bind λe=>bif e then some (.inr (true))else some (.inl (h,i,j,k,w64 (l+1)))else some (.inr (false))) (a.kind,a.n,a.text,a.args,0)else aN (λ((b,m,o,p,q):amJ Int)=>bif (decide (q<(p.length:Int)))then (idx p q).bind λf=>(rsHasEffect (aH f)).bind λg=>bif g then some (.inr (true))else some (.inl (b,m,o,p,w64 (q+1)))else some (.inr (false))) (a.kind,a.n,a.text,a.args,0)
def Ag:Nat->(ak->Option (Bool))
 | 0=>λ_=>none
 | n+1=>Ah (Ag n)
def DU(a:ak):Option (Bool):=(Ag (siz a+1)) a
def UC:Fsp:=amF 134 [shT .expr] [shF .bool] DU
def uZ(n:Nat):Fsp:=amF 134 [shT .expr] [shF .bool] (Ag n)
def vU(a:af):Option (af):=(lH [ah a]).bind λb=>bif b.2 then some (ah b.1)else bif (a.kind==3)then (bg (a.list.length:Int)).bind λc=>some (ah c)else bif (a.kind==2)then (bg (a.text.length:Int)).bind λd=>some (ah d)else (aF 4).bind λe=>some (ah e)
def Wu:Fsp:=amF 175 [shT .val] [shT .val] vU
def eU(a:Int):Option (af):=(iO a).bind λb=>bif (!b)then (aF 5).bind λc=>some (ah c)else (bg a).bind λd=>some (ah d)
def Ik:Fsp:=amF 141 [shF .int] [shT .val] eU
def L9(a:af):Option (af):=(lH [ah a]).bind λe=>bif e.2 then some (ah e.1)else bif (a.kind != 3)then (aF 4).bind λf=>some (ah f)else (bg 0).bind λd=>aN (λ((j,k,l,m,o,p,q,r,s,t,u,v,w,x,y,z,A,B,C,D,E,F):amI (amI (amI Int)))=>bif (decide (F<(o.length:Int)))then (idx o F).bind λg=>bif (g.kind != 1)then (aF 4).bind λh=>some (.inr (ah h))else (idx o F).bind λi=>(eU (w64 (z+i.n))).bind λc=>bif (c.kind==6)then some (.inr (ah c))else some (.inl (j,k,l,m,o,p,q,r,s,t,u,v,w,x,c.kind,c.n,c.step,c.text,c.list,c.columns,c.rows,w64 (F+1)))else some (.inr (af.mk y z A B C D E))) (a.kind,a.n,a.step,a.text,a.list,a.columns,a.rows,0,0,0,[],[],[],[],d.kind,d.n,d.step,d.text,d.list,d.columns,d.rows,0)
def aea:Fsp:=amF 176 [shT .val] [shT .val] L9
def ji(a:List af)(b:List Int):Option (af×Bool):=(lH a).bind λd=>bif d.2 then some (ah d.1,true)else aN (λ((h,i,j,k,l,m,n,o,p,q):(List af)×(List Int)×amI Int)=>bif (decide (q<(h.length:Int)))then (idx h q).bind λe=>(idx i q).bind λf=>bif (e.kind != f)then (aF 4).bind λg=>some (.inr (ah g,true))else some (.inl (h,i,j,k,l,m,n,o,p,w64 (q+1)))else some (.inr (af.mk 0 0 0 [] [] [] [],false))) (a,b,0,0,0,[],[],[],[],0)
def YW:Fsp:=amF 208 [slF .val,slF .int] [shT .val,shF .bool] (λx=>ji x.1 x.2)
def rP(a:af):Option (af):=(ji [ah a] [5]).bind λb=>bif b.2 then some (ah b.1)else (bg (a.rows.length:Int)).bind λc=>some (ah c)
def UD:Fsp:=amF 177 [shT .val] [shT .val] rP
def ug(a:af)(b:af):Option (af×Bool):=(lH [ah a,ah b]).bind λc=>bif c.2 then some (ah c.1,true)else bif (a.kind != 1)then (aF 4).bind λd=>some (ah d,true)else bif (b.kind != 3)then bif (b.kind != 4)then (aF 4).bind λe=>some (ah e,true)else some (af.mk 0 0 0 [] [] [] [],false)else some (af.mk 0 0 0 [] [] [] [],false)
def ace:Fsp:=amF 209 [shT .val,shT .val] [shT .val,shF .bool] (λx=>ug x.1 x.2)
def uV(a:af)(b:af):Option (af):=(ug (ah a) (ah b)).bind λc=>bif c.2 then some (ah c.1)else bif (decide (a.n<0))then (aF 5).bind λd=>some (ah d)else bif (b.kind==3)then bif (decide (a.n>=(b.list.length:Int)))then (aF 5).bind λe=>some (ah e)else bif (b.kind==3)then (idx b.list a.n).bind λf=>(jY (ah f)).bind λg=>some (ah g)else (eU (w64 (b.n+(w64 (a.n*b.step))))).bind λh=>some (ah h)else bif (b.kind==3)then (idx b.list a.n).bind λi=>(jY (ah i)).bind λj=>some (ah j)else (eU (w64 (b.n+(w64 (a.n*b.step))))).bind λk=>some (ah k)
def aec:Fsp:=amF 180 [shT .val,shT .val] [shT .val] (λx=>uV x.1 x.2)
def EQ(a:af)(b:af):Option (af):=(ug (ah a) (ah b)).bind λf=>bif f.2 then some (ah f.1)else (vW a.n 0 8).bind λg=>bif (!g)then (aF 5).bind λh=>some (ah h)else aN (λ((k,l,m,o,p,q,r,s,t,u,v,w,x,y,z,A,B,C,D,E,F,G,H,I,J,K,L,M,N):amI (amI (amI (amI Int))))=>bif (decide (N<l))then bif (s==3)then bif (N==(w.length:Int))then some (.inr (af.mk G H I J K L M))else (bg N).bind λi=>(uV (ah i) (af.mk s t u v w x y)).bind λd=>bif (d.kind==6)then some (.inr (ah d))else (gd (K.length+[ah d].length)).bind λ_=>some (.inl (k,l,m,o,p,q,r,s,t,u,v,w,x,y,z,A,B,C,D,E,F,G,H,I,J,K++[ah d],L,M,w64 (N+1)))else (bg N).bind λj=>(uV (ah j) (af.mk s t u v w x y)).bind λe=>bif (e.kind==6)then some (.inr (ah e))else (gd (K.length+[ah e].length)).bind λ_=>some (.inl (k,l,m,o,p,q,r,s,t,u,v,w,x,y,z,A,B,C,D,E,F,G,H,I,J,K++[ah e],L,M,w64 (N+1)))else some (.inr (af.mk G H I J K L M))
 ) (a.kind,a.n,a.step,a.text,a.list,a.columns,a.rows,b.kind,b.n,b.step,b.text,b.list,b.columns,b.rows,0,0,0,[],[],[],[],3,0,0,[],[],[],[],0)
def ab6:Fsp:=amF 178 [shT .val,shT .val] [shT .val] (λx=>EQ x.1 x.2)
def Ux(a:Int)(b:Int):Option (Int):=bif (decide (a<b))then some (a)else some (b)
def aej:Fsp:=amF 210 [shF .int,shF .int] [shF .int] (λx=>Ux x.1 x.2)
def ER(a:af)(b:af):Option (af):=(ug (ah a) (ah b)).bind λd=>bif d.2 then some (ah d.1)else bif (decide (a.n<0))then (aF 5).bind λe=>some (ah e)else bif (b.kind==3)then (Ux a.n (b.list.length:Int)).bind λf=>(eff.cutL b.list (some f) none).bind λg=>(jb g).bind λh=>some (ah h)else (uV (ah a) (ah b)).bind λc=>bif (c.kind==6)then some (ah c)else (kS c.n b.step).bind λi=>some (ah i)
def ab7:Fsp:=amF 179 [shT .val,shT .val] [shT .val] (λx=>ER x.1 x.2)
def vZ(a:af)(b:af):Option (af):=(ji [ah a,ah b] [1,1]).bind λc=>bif c.2 then some (ah c.1)else (kS a.n b.n).bind λd=>some (ah d)
def WJ:Fsp:=amF 181 [shT .val,shT .val] [shT .val] (λx=>vZ x.1 x.2)
def oq(a:Str)(b:Int):Option ((List Str)):=aN (λ((f,g,h,i,j):Str×Int×amP)=>bif (decide (j<=(f.length:Int)))then bif (j==(f.length:Int))then (eff.cutL f (some i) (some j)).bind λd=>(gd (h.length+([d]:List Str).length)).bind λ_=>some (.inl (f,g,h++([d]:List Str),w64 (j+1),w64 (j+1)))else (idx f j).bind λc3=>bif ((c3.toNat:Int)==g)then (eff.cutL f (some i) (some j)).bind λe=>(gd (h.length+([e]:List Str).length)).bind λ_=>some (.inl (f,g,h++([e]:List Str),w64 (j+1),w64 (j+1)))else some (.inl (f,g,h,i,w64 (j+1)))else some (.inr (h))) (a,b,[],0,0)
def Ug:Fsp:=amF 211 [shF .str,shF .u8] [slF .str] (λx=>oq x.1 x.2)
def Fh(a:List Str)(b:Str):Option (Int):=aN (λ((e,f,g):(List Str)×Str×Int)=>bif (decide (g<(e.length:Int)))then (idx e g).bind λd=>bif (d==f)then some (.inr (g))else some (.inl (e,f,w64 (g+1)))else some (.inr ((-1)))) (a,b,0)
def Zn:Fsp:=amF 47 [slF .str,shF .str] [shF .int] (λx=>Fh x.1 x.2)
def dW(a:af)(b:Str):Option (Int):=(Fh a.columns b).bind λc=>some (c)
def Nk:Fsp:=amF 212 [shT .val,shF .str] [shF .int] (λx=>dW x.1 x.2)
def nG(a:af)(b:af):Option (af):=(ji [ah a,ah b] [2,5]).bind λk=>bif k.2 then some (ah k.1)else (oq a.text 32).bind λl=>aN (λ((t,u,v,w,x,y,z,A,B,C,D,E,F,G,H,I,J,K,L,M,N,O,P):amI (amI ((List Str)×amI Int)))=>bif (decide (P<(H.length:Int)))then (idx H P).bind λm=>(dW (af.mk t u v w x y z) m).bind λo=>bif (decide (o<0))then (aF 7).bind λp=>some (.inr (ah p))else (kV H).bind λq=>bif (!q)then (aF 7).bind λs=>some (.inr (ah s))else some (.inl (t,u,v,w,x,y,z,A,B,C,D,E,F,G,H,I,J,K,L,M,N,O,w64 (P+1)))else (aN (λ((d,Q,R,S,T,U,V,W,X,Y,Z,aa,ac,ae,aq,ar,aw,aD,aE,aL,aM,aR,ba):amI (amI ((List Str)×amI Int)))=>bif (decide (ba<(V.length:Int)))then (idx V ba).bind λf=>(gd (0+f.orig.length)).bind λ_=>aN (λ((e,bc,bh,bj,bl,bm,bp,br,bu,bw,bz,bA,bB,bE,bL,bN,bO,bR,bS,bX,cd,ce,cf,ci,cj,ck):amI (amI ((List Str)×amI amS)))=>bif (decide (ck<(bL.length:Int)))then (idx bp cf).bind λh=>(idx bL ck).bind λi=>(dW (af.mk e bc bh bj bl bm bp) i).bind λj=>(idx h.cells j).bind λg=>(gd (ci.length+[g].length)).bind λ_=>some (.inl (e,bc,bh,bj,bl,bm,bp,br,bu,bw,bz,bA,bB,bE,bL,bN,bO,bR,bS,bX,cd,ce,cf,ci++[g],cj,w64 (ck+1)))else ((gd (ce.length+[aB.mk ci cj].length)).bind λ_=>some (.inl (e,bc,bh,bj,bl,bm,bp,br,bu,bw,bz,bA,bB,bE,bL,bN,bO,bR,bS,bX,cd,ce++[aB.mk ci cj],w64 (cf+1)))
       ).bind λr=>some (.inr r)
     ) (d,Q,R,S,T,U,V,W,X,Y,Z,aa,ac,ae,aq,ar,aw,aD,aE,aL,aM,aR,ba,[],[]++f.orig,0)
    else
     some (.inr (af.mk ar aw aD aE aL aM aR))
   ) (t,u,v,w,x,y,z,A,B,C,D,E,F,G,H,I,J,K,L,M,N,O,0)
  ).bind λr=>some (.inr r)
 ) (b.kind,b.n,b.step,b.text,b.list,b.columns,b.rows,0,0,0,[],[],[],[],l,5,0,0,[],[],l,[],0)
def MZ:Fsp:=amG 182 [shT .val,shT .val] [shT .val] (λx=>nG x.1 x.2)
def wF(a:af)(b:af):Option (af):=(ji [ah a,ah b] [2,5]).bind λd=>bif d.2 then some (ah d.1)else (dW (ah b) a.text).bind λe=>bif (decide (e<0))then (aF 7).bind λg=>some (ah g)else bif (decide ((b.rows.length:Int)>8))then (aF 6).bind λh=>some (ah h)else aN (λ((k,l,m,o,p,q,r,s,t,u,v,w,x,y,z,A,B,C,D,E,F,G,H):amI (amI (Int×amI Int)))=>bif (decide (H<(r.length:Int)))then (idx r H).bind λi=>(idx i.cells z).bind λj=>(bg j).bind λf=>(gd (E.length+[ah f].length)).bind λ_=>some (.inl (k,l,m,o,p,q,r,s,t,u,v,w,x,y,z,A,B,C,D,E++[ah f],F,G,w64 (H+1)))else some (.inr (af.mk A B C D E F G))) (b.kind,b.n,b.step,b.text,b.list,b.columns,b.rows,0,0,0,[],[],[],[],e,3,0,0,[],[],[],[],0)
def WT:Fsp:=amF 183 [shT .val,shT .val] [shT .val] (λx=>wF x.1 x.2)
def xN(a:af):Option ((List Int)×Bool):=aN (λ((e,f,g,h,i,j,k,l,m):amI ((List Int)×Int))=>bif (decide (m<(i.length:Int)))then (idx i m).bind λd=>bif (d.kind != 1)then some (.inr (l,false))else (idx i m).bind λc=>(gd (l.length+[c.n].length)).bind λ_=>some (.inl (e,f,g,h,i,j,k,l++[c.n],w64 (m+1)))else some (.inr (l,(e==3)))) (a.kind,a.n,a.step,a.text,a.list,a.columns,a.rows,[],0)
def Ul:Fsp:=amF 213 [shT .val] [slF .int,shF .bool] xN
def zM(a:af)(b:af):Option (af):=(ji [ah a,ah b] [2,3]).bind λe=>bif e.2 then some (ah e.1)else (oq a.text 32).bind λf=>(rE f).bind λg=>bif (!g)then (aF 7).bind λh=>some (ah h)else aN (λ((l,m,o,p,q,r,s,t,u,v,w,x,y,z,A,B,C,D,E,F,G,H):amI (amI (amI Int)))=>bif (decide (H<(q.length:Int)))then (idx q H).bind λi=>(xN (ah i)).bind λd=>bif (!d.2)then (aF 4).bind λj=>some (.inr (ah j))else bif ((d.1.length:Int) != (F.length:Int))then (aF 4).bind λk=>some (.inr (ah k))else (gd (G.length+([aB.mk d.1 []]).length)).bind λ_=>some (.inl (l,m,o,p,q,r,s,t,u,v,w,x,y,z,A,B,C,D,E,F,G++([aB.mk d.1 []]),w64 (H+1)))else some (.inr (af.mk A B C D E F G))) (b.kind,b.n,b.step,b.text,b.list,b.columns,b.rows,0,0,0,[],[],[],[],5,0,0,[],[],f,[],0)
def YU:Fsp:=amF 184 [shT .val,shT .val] [shT .val] (λx=>zM x.1 x.2)
def pz(a:af)(b:af)(c:af):Option (af):=(ji [ah a,ah b,ah c] [2,1,5]).bind λe=>bif e.2 then some (ah e.1)else (dW (ah c) a.text).bind λf=>bif (decide (f<0))then (aF 7).bind λh=>some (ah h)else (gd (0+c.columns.length)).bind λ_=>aN (λ((l,m,o,p,q,r,s,t,u,v,w,x,y,z,A,B,C,D,E,F,G,H,I,J,K,L,M,N,O,P):amI (amI (amI (Int×amI Int))))=>bif (decide (P<(z.length:Int)))then (idx z P).bind λi=>(idx i.cells H).bind λj=>bif (j==m)then (idx z P).bind λk=>(MH k).bind λg=>(gd (O.length+[g].length)).bind λ_=>some (.inl (l,m,o,p,q,r,s,t,u,v,w,x,y,z,A,B,C,D,E,F,G,H,I,J,K,L,M,N,O++[g],w64 (P+1)))else some (.inl (l,m,o,p,q,r,s,t,u,v,w,x,y,z,A,B,C,D,E,F,G,H,I,J,K,L,M,N,O,w64 (P+1)))else some (.inr (af.mk I J K L M N O))) (b.kind,b.n,b.step,b.text,b.list,b.columns,b.rows,c.kind,c.n,c.step,c.text,c.list,c.columns,c.rows,0,0,0,[],[],[],[],f,5,0,0,[],[],[]++c.columns,[],0)
def P8:Fsp:=amF 185 [shT .val,shT .val,shT .val] [shT .val] (λx=>pz x.1 x.2.1 x.2.2)
def rf(a:List aj)(b:List aj):Option ((List aj)):=aN (λ((L,M,N,O,P):(List aj)×(List aj)×amW)=>bif (decide (O<(L.length:Int)))then bif (P==(M.length:Int))then (idx L O).bind λD=>(gd (N.length+[D].length)).bind λ_=>some (.inl (L,M,N++[D],w64 (O+1),P))else bif (decide (O<(L.length:Int)))then (idx L O).bind λG=>(idx M P).bind λH=>(jQ G H).bind λI=>bif I then (idx L O).bind λE=>(gd (N.length+[E].length)).bind λ_=>some (.inl (L,M,N++[E],w64 (O+1),P))else bif (O==(L.length:Int))then (idx M P).bind λF=>(gd (N.length+[F].length)).bind λ_=>some (.inl (L,M,N++[F],O,w64 (P+1)))else (idx M P).bind λJ=>(idx L O).bind λK=>(jQ J K).bind λq=>bif q then (idx M P).bind λd=>(gd (N.length+[d].length)).bind λ_=>some (.inl (L,M,N++[d],O,w64 (P+1)))else (idx L O).bind λe=>(gd (N.length+[e].length)).bind λ_=>some (.inl (L,M,N++[e],w64 (O+1),w64 (P+1)))else bif (O==(L.length:Int))then (idx M P).bind λf=>(gd (N.length+[f].length)).bind λ_=>some (.inl (L,M,N++[f],O,w64 (P+1)))else (idx M P).bind λr=>(idx L O).bind λs=>(jQ r s).bind λt=>bif t then (idx M P).bind λg=>(gd (N.length+[g].length)).bind λ_=>some (.inl (L,M,N++[g],O,w64 (P+1)))else (idx L O).bind λh=>(gd (N.length+[h].length)).bind λ_=>some (.inl (L,M,N++[h],w64 (O+1),w64 (P+1)))else bif (decide (P<(M.length:Int)))then bif (P==(M.length:Int))then (idx L O).bind λi=>(gd (N.length+[i].length)).bind λ_=>some (.inl (L,M,N++[i],w64 (O+1),P))else bif (decide (O<(L.length:Int)))then (idx L O).bind λu=>(idx M P).bind λv=>(jQ u v).bind λw=>bif w then (idx L O).bind λj=>(gd (N.length+[j].length)).bind λ_=>some (.inl (L,M,N++[j],w64 (O+1),P))else bif (O==(L.length:Int))then (idx M P).bind λk=>(gd (N.length+[k].length)).bind λ_=>some (.inl (L,M,N++[k],O,w64 (P+1)))else (idx M P).bind λx=>(idx L O).bind λy=>(jQ x y).bind λz=>bif z then (idx M P).bind λl=>(gd (N.length+[l].length)).bind λ_=>some (.inl (L,M,N++[l],O,w64 (P+1)))else (idx L O).bind λm=>(gd (N.length+[m].length)).bind λ_=>some (.inl (L,M,N++[m],w64 (O+1),w64 (P+1)))else bif (O==(L.length:Int))then (idx M P).bind λn=>(gd (N.length+[n].length)).bind λ_=>some (.inl (L,M,N++[n],O,w64 (P+1)))else (idx M P).bind λA=>(idx L O).bind λB=>(jQ A B).bind λC=>bif C then (idx M P).bind λo=>(gd (N.length+[o].length)).bind λ_=>some (.inl (L,M,N++[o],O,w64 (P+1)))else (idx L O).bind λp=>(gd (N.length+[p].length)).bind λ_=>some (.inl (L,M,N++[p],w64 (O+1),w64 (P+1)))else some (.inr (N))) (a,b,[],0,0)
def YV:Fsp:=amF 225 [slF .origin,slF .origin] [slF .origin] (λx=>rf x.1 x.2)
def Uk(a:List aB)(b:Int)(c:Int)(d:List aj):Option ((List aB)):=aN (λ((l,m,n,o,p,q,s):(List aB)×Int×Int×(List aj)×(List aB)×Bool×Int)=>bif (decide (s<(l.length:Int)))then (idx l s).bind λf=>(idx f.cells 0).bind λi=>bif (i==m)then (idx f.cells 1).bind λg=>(rf f.orig o).bind λh=>(idx [m,w64 (g+n)] 0).bind λ_=>([m,w64 (g+n)][0]?).bind λj=>bif (decide (j>m))then (gd (p.length+([aB.mk [m,w64 (g+n)] h]).length)).bind λ_=>some (.inl (l,m,n,o,p++([aB.mk [m,w64 (g+n)] h]),true,w64 (s+1)))else (gd (p.length+([aB.mk [m,w64 (g+n)] h]).length)).bind λ_=>some (.inl (l,m,n,o,p++([aB.mk [m,w64 (g+n)] h]),true,w64 (s+1)))else (idx f.cells 0).bind λk=>bif (decide (k>m))then bif (!q)then (gd (0+o.length)).bind λ_=>(gd (p.length+([aB.mk [m,n] ([]++o)]).length)).bind λ_=>(gd ((p++([aB.mk [m,n] ([]++o)])).length+[f].length)).bind λ_=>some (.inl (l,m,n,o,(p++([aB.mk [m,n] ([]++o)]))++[f],true,w64 (s+1)))else (gd (p.length+[f].length)).bind λ_=>some (.inl (l,m,n,o,p++[f],q,w64 (s+1)))else (gd (p.length+[f].length)).bind λ_=>some (.inl (l,m,n,o,p++[f],q,w64 (s+1)))else (bif (!q)then (gd (0+o.length)).bind λ_=>(gd (p.length+([aB.mk [m,n] ([]++o)]).length)).bind λ_=>some (p++([aB.mk [m,n] ([]++o)]))else some (p)).bind λr=>some (.inr r)) (a,b,c,d,[],false,0)
def aee:Fsp:=amH 214 [slF .row,shF .int,shF .int,slF .origin] [slF .row] (λx=>Uk x.1 x.2.1 x.2.2.1 x.2.2.2)
def wB(a:af)(b:af)(c:af):Option (af):=(ji [ah a,ah b,ah c] [2,2,5]).bind λq=>bif q.2 then some (ah q.1)else (dW (ah c) a.text).bind λf=>(dW (ah c) b.text).bind λg=>bif (decide (f<0))then (aF 7).bind λs=>some (ah s)else bif (decide (g<0))then (aF 7).bind λt=>some (ah t)else bif (f==g)then (aF 7).bind λu=>some (ah u)else aN (λ((x,y,z,A,B,C,D,E,F,G,H,I,J,K,L,M,N,O,P,Q,R,S,T,U):amI (amI (Int×Int×amI Int)))=>bif (decide (U<(D.length:Int)))then (idx D U).bind λv=>(idx v.cells L).bind λw=>(idx D U).bind λh=>(idx h.cells M).bind λi=>(idx D U).bind λj=>(Uk T w i j.orig).bind λk=>some (.inl (x,y,z,A,B,C,D,E,F,G,H,I,J,K,L,M,N,O,P,Q,R,S,k,w64 (U+1)))else (aN (λ((e,V,W,X,Y,Z,aa,ac,ae,aq,ar,aw,aD,aE,aL):amI (amI Int))=>bif (decide (aL<(aE.length:Int)))then (idx aE aL).bind λ_=>(aE[aL.toNat]?).bind λl=>(idx l.cells 1).bind λm=>(iO m).bind λo=>bif (!o)then (aF 5).bind λp=>some (.inr (ah p))else some (.inl (e,V,W,X,Y,Z,aa,ac,ae,aq,ar,aw,aD,aE,w64 (aL+1)))else some (.inr (af.mk ac ae aq ar aw aD aE))) (E,F,G,H,I,J,K,N,O,P,Q,R,S,T,0)).bind λr=>some (.inr r)) (c.kind,c.n,c.step,c.text,c.list,c.columns,c.rows,0,0,0,[],[],[],[],f,g,5,0,0,[],[],([a.text,b.text]:List Str),[],0)
def WO:Fsp:=amH 186 [shT .val,shT .val,shT .val] [shT .val] (λx=>wB x.1 x.2.1 x.2.2)
def KD(a:aB)(b:aB)(c:Int):Option (aB):=(gd (0+a.cells.length)).bind λ_=>(rf a.orig b.orig).bind λf=>(eff.cutL b.cells none (some c)).bind λd=>(gd (([]++a.cells).length+d.length)).bind λ_=>(eff.cutL b.cells (some (w64 (c+1))) none).bind λe=>(gd ((([]++a.cells)++d).length+e.length)).bind λ_=>some (aB.mk ((([]++a.cells)++d)++e) f)
def acd:Fsp:=amF 215 [shT .row,shT .row,shF .int] [shT .row] (λx=>KD x.1 x.2.1 x.2.2)
def Fg(a:af)(b:af)(c:af):Option (af):=(ji [ah a,ah b,ah c] [2,5,5]).bind λt=>bif t.2 then some (ah t.1)else (dW (ah b) a.text).bind λu=>(dW (ah c) a.text).bind λh=>bif (decide (u<0))then (aF 7).bind λv=>some (ah v)else bif (decide (h<0))then (aF 7).bind λw=>some (ah w)else (gd (0+b.columns.length)).bind λ_=>(eff.cutL c.columns none (some h)).bind λf=>(gd (([]++b.columns).length+f.length)).bind λ_=>(eff.cutL c.columns (some (w64 (h+1))) none).bind λi=>(gd ((([]++b.columns)++f).length+i.length)).bind λ_=>(kV ((([]++b.columns)++f)++i)).bind λx=>bif (!x)then (aF 7).bind λy=>some (ah y)else bif (decide ((((([]++b.columns)++f)++i).length:Int)>4))then (aF 6).bind λj=>some (ah j)else aN (λ((z,A,B,C,D,E,F,G,H,I,J,K,L,M,N,O,P,Q,R,S,T,U,V,W,X,Y,Z,aa,ac,ae,aq):amI (amI (amI (Int×Int×amI Int))))=>bif (decide (aq<(F.length:Int)))then aN (λ((e,ar,aw,aD,aE,aL,aM,aR,ba,bc,bh,bj,bl,bm,bp,br,bu,bw,bz,bA,bB,bE,bL,bN,bO,bR,bS,bX,cd,ce,cf,ci):amI (amI (amI (Int×Int×amI (Int×Int)))))=>bif (decide (ci<(bm.length:Int)))then (idx aM cf).bind λk=>(idx k.cells bE).bind λl=>(idx bm ci).bind λm=>(idx m.cells bL).bind λo=>bif (l==o)then (idx aM cf).bind λp=>(idx bm ci).bind λq=>(KD p q bL).bind λg=>(gd (ce.length+[g].length)).bind λ_=>some (.inl (e,ar,aw,aD,aE,aL,aM,aR,ba,bc,bh,bj,bl,bm,bp,br,bu,bw,bz,bA,bB,bE,bL,bN,bO,bR,bS,bX,cd,ce++[g],cf,w64 (ci+1)))else some (.inl (e,ar,aw,aD,aE,aL,aM,aR,ba,bc,bh,bj,bl,bm,bp,br,bu,bw,bz,bA,bB,bE,bL,bN,bO,bR,bS,bX,cd,ce,cf,w64 (ci+1)))
    else
     some (.inr (.inl (e,ar,aw,aD,aE,aL,aM,aR,ba,bc,bh,bj,bl,bm,bp,br,bu,bw,bz,bA,bB,bE,bL,bN,bO,bR,bS,bX,cd,ce,w64 (cf+1))))
   ) (z,A,B,C,D,E,F,G,H,I,J,K,L,M,N,O,P,Q,R,S,T,U,V,W,X,Y,Z,aa,ac,ae,aq,0)
  else
   (
    bif (decide ((ae.length:Int)>12))then
     (aF 6).bind λs=>
     some (ah s)
    else
     some (af.mk W X Y Z aa ac ae)
   ).bind λr=>some (.inr r)
 ) (b.kind,b.n,b.step,b.text,b.list,b.columns,b.rows,c.kind,c.n,c.step,c.text,c.list,c.columns,c.rows,0,0,0,[],[],[],[],u,h,5,0,0,[],[],(([]++b.columns)++f)++i,[],0)
def acy:Fsp:=amF 187 [shT .val,shT .val,shT .val] [shT .val] (λx=>Fg x.1 x.2.1 x.2.2)
def rQ(a:af)(b:af)(c:af)(d:af):Option (af):=(ji [ah a,ah b,ah c,ah d] [2,2,2,5]).bind λq=>bif q.2 then some (ah q.1)else (dW (ah d) b.text).bind λr=>(dW (ah d) c.text).bind λs=>(bP a.text).bind λt=>bif (!t)then (aF 7).bind λu=>some (ah u)else (dW (ah d) a.text).bind λv=>bif (decide (v>=0))then (aF 7).bind λw=>some (ah w)else bif (decide (r<0))then (aF 7).bind λx=>some (ah x)else bif (decide (s<0))then (aF 7).bind λy=>some (ah y)else bif ((d.columns.length:Int)==4)then (aF 6).bind λj=>some (ah j)else (jY (ah d)).bind λf=>(gd (f.columns.length+([a.text]:List Str).length)).bind λ_=>aN (λ((z,A,B,C,D,E,F,G,H,I,J,K,L,M,N,O,P,Q,R,S,T,U,V,W):amI (amI (Int×Int×amI Int)))=>bif (decide (W<(V.length:Int)))then (idx F W).bind λk=>(idx k.cells N).bind λg=>(idx F W).bind λl=>(idx l.cells O).bind λh=>(iO (w64 (g+h))).bind λm=>bif (!m)then (aF 5).bind λo=>some (.inr (ah o))else (idx V W).bind λ_=>(V[W.toNat]?).bind λi=>(gd (i.cells.length+[w64 (g+h)].length)).bind λ_=>(idx V W).bind λ_=>(V[W.toNat]?).bind λp=>((if W.toNat=W.toNat/\0=0 then some ()else none)).bind λ_=>some (.inl (z,A,B,C,D,E,F,G,H,I,J,K,L,M,N,O,P,Q,R,S,T,U,V.set W.toNat (aB.mk (i.cells++[w64 (g+h)]) p.orig),w64 (W+1)))else some (.inr (af.mk P Q R S T U V))) (d.kind,d.n,d.step,d.text,d.list,d.columns,d.rows,0,0,0,[],[],[],[],r,s,f.kind,f.n,f.step,f.text,f.list,f.columns++([a.text]:List Str),f.rows,0)
def UH:Fsp:=amF 188 [shT .val,shT .val,shT .val,shT .val] [shT .val] (λx=>rQ x.1 x.2.1 x.2.2.1 x.2.2.2)
def bU(a:Str)(b:List af):Option (af):=(fZ a).bind λO=>bif ((b.length:Int) != O)then (aF 4).bind λP=>some (ah P)else bif (a==[108,101,110])then (idx b 0).bind λQ=>(vU (ah Q)).bind λR=>some (ah R)else bif (a==[115,117,109])then (idx b 0).bind λS=>(L9 (ah S)).bind λT=>some (ah T)else bif (a==[114,111,119,115])then (idx b 0).bind λU=>(rP (ah U)).bind λV=>some (ah V)else bif (a==[116,97,107,101])then (idx b 0).bind λW=>(idx b 1).bind λc=>(EQ (ah W) (ah c)).bind λd=>some (ah d)else bif (a==[115,107,105,112])then (idx b 0).bind λe=>(idx b 1).bind λf=>(ER (ah e) (ah f)).bind λg=>some (ah g)else bif (a==[110,116,104])then (idx b 0).bind λh=>(idx b 1).bind λi=>(uV (ah h) (ah i)).bind λj=>some (ah j)else bif (a==[114,97,110,103,101])then (idx b 0).bind λk=>(idx b 1).bind λl=>(vZ (ah k) (ah l)).bind λm=>some (ah m)else bif (a==[107,101,101,112])then (idx b 0).bind λn=>(idx b 1).bind λo=>(nG (ah n) (ah o)).bind λp=>some (ah p)else bif (a==[99,111,108,117,109,110])then (idx b 0).bind λq=>(idx b 1).bind λr=>(wF (ah q) (ah r)).bind λs=>some (ah s)else bif (a==[116,97,98,108,101])then (idx b 0).bind λt=>(idx b 1).bind λu=>(zM (ah t) (ah u)).bind λv=>some (ah v)else bif (a==[119,104,101,114,101])then (idx b 0).bind λw=>(idx b 1).bind λx=>(idx b 2).bind λy=>(pz (ah w) (ah x) (ah y)).bind λz=>some (ah z)else bif (a==[103,114,111,117,112])then (idx b 0).bind λA=>(idx b 1).bind λB=>(idx b 2).bind λC=>(wB (ah A) (ah B) (ah C)).bind λD=>some (ah D)else bif (a==[106,111,105,110])then (idx b 0).bind λE=>(idx b 1).bind λF=>(idx b 2).bind λG=>(Fg (ah E) (ah F) (ah G)).bind λH=>some (ah H)else bif (a==[97,100,100])then (idx b 0).bind λI=>(idx b 1).bind λJ=>(idx b 2).bind λK=>(idx b 3).bind λL=>(rQ (ah I) (ah J) (ah K) (ah L)).bind λM=>some (ah M)else (aF 4).bind λN=>some (ah N)
def JU:Fsp:=amG 135 [shF .str,slF .val] [shT .val] (λx=>bU x.1 x.2)
def wC(a:List aG)(b:aG):Option (af×Bool):=aN (λ((h,i,j,k,l,m,o,p,q,r,s,t,u,v,w,x,y,z,A,B):(List aG)×Int×Int×Int×Str×amI (amI Int))=>bif (decide (B<(h.length:Int)))then (idx h B).bind λd=>(vX (yc d) (aG.mk i j k l (af.mk m o p q r s t))).bind λe=>bif e then (idx h B).bind λf=>(jY (ah f.result)).bind λg=>some (.inr (ah g,true))else some (.inl (h,i,j,k,l,m,o,p,q,r,s,t,u,v,w,x,y,z,A,w64 (B+1)))else some (.inr (af.mk 0 0 0 [] [] [] [],false))) (a,b.kind,b.n,b.time,b.text,b.result.kind,b.result.n,b.result.step,b.result.text,b.result.list,b.result.columns,b.result.rows,0,0,0,[],[],[],[],0)
def WQ:Fsp:=amF 189 [slF .read,shT .read] [shT .val,shF .bool] (λx=>wC x.1 x.2)
def zZ(a:Int):Option (Int):=bif (decide ((a.tmod 2147483647)<0))then some (w64 ((a.tmod 2147483647)+2147483647))else some (a.tmod 2147483647)
def Zb:Fsp:=amF 226 [shF .int] [shF .int] zZ
def ag2(a:Int)(b:Int)(c:Int)(d:Int):Option (Int):=(zZ (w64 ((w64 ((w64 ((w64 (48271*a))+(w64 (7919*b))))+(w64 (104729*c))))+(w64 (1299709*d))))).bind λe=>(zZ (w64 (16807*e))).bind λf=>some (f)
def akD:Fsp:=amF 217 [shF .int,shF .int,shF .int,shF .int] [shF .int] (λx=>ag2 x.1 x.2.1 x.2.2.1 x.2.2.2)
def qG(a:bT)(b:Str):Option (Int×Bool):=aN (λ((f,g,h,i,j):Str×amU Int)=>bif (decide (j<(i.length:Int)))then (idx i j).bind λd=>bif (d.name==f)then (idx i j).bind λe=>some (.inr (e.n,true))else some (.inl (f,g,h,i,w64 (j+1)))else some (.inr (0,false))) (b,a.clock,a.seed,a.files,0)
def Nh:Fsp:=amF 218 [shT .world,shF .str] [shF .int,shF .bool] (λx=>qG x.1 x.2)
def jc(a:bT)(b:Int)(c:Int)(d:aG):Option (af):=bif (d.kind==1)then (iO a.clock).bind λk=>bif k then (bg a.clock).bind λl=>some (ah l)else (aF 4).bind λm=>some (ah m)else bif (d.kind==2)then (vW d.n 1 1000000000).bind λo=>bif (!o)then (aF 5).bind λp=>some (ah p)else (ag2 a.seed b c d.time).bind λq=>(Qr q d.n).bind λr=>(bg r).bind λs=>some (ah s)else bif (d.kind==3)then (qG a d.text).bind λe=>bif (!e.2)then (aF 1).bind λf=>some (ah f)else (iO e.1).bind λg=>bif g then (bg e.1).bind λh=>some (ah h)else (aF 4).bind λi=>some (ah i)else (aF 4).bind λj=>some (ah j)
def JR:Fsp:=amF 190 [shT .world,shF .int,shF .int,shT .read] [shT .val] (λx=>jc x.1 x.2.1 x.2.2.1 x.2.2.2)
def jB(a:aA)(b:aG):Option (aA×af):=aN (λ((g,h,i,j,k,l,m,o,p,q,s,t,u,v,x,y,z,A,B,C,D,E,F,G,H,I,J,K):amK (Int×Int×Int×Str×amI (amI Int)))=>bif (decide (K<(m.length:Int)))then (idx m K).bind λ_=>(m[K.toNat]?).bind λe=>bif (e.kind==q)then bif (e.n==s)then bif (e.text==u)then some (.inl (g,h,i,j,k,l,m,o,p,q,s,w64 (t+1),u,v,x,y,z,A,B,C,D,E,F,G,H,I,J,w64 (K+1)))else some (.inl (g,h,i,j,k,l,m,o,p,q,s,t,u,v,x,y,z,A,B,C,D,E,F,G,H,I,J,w64 (K+1)))else some (.inl (g,h,i,j,k,l,m,o,p,q,s,t,u,v,x,y,z,A,B,C,D,E,F,G,H,I,J,w64 (K+1)))else some (.inl (g,h,i,j,k,l,m,o,p,q,s,t,u,v,x,y,z,A,B,C,D,E,F,G,H,I,J,w64 (K+1)))
  else
   (
    (wC g (aG.mk q s t u (af.mk v x y z A B C))).bind λd=>
    bif (!d.2)then
     (jc (bT.mk h i j) k l (aG.mk q s t u (af.mk v x y z A B C))).bind λf=>
     (gd (m.length+[aG.mk q s t u (ah f)].length)).bind λ_=>
     some (aA.mk g (bT.mk h i j) k l (m++[aG.mk q s t u (ah f)]) o p,ah f)
    else
     (gd (m.length+[aG.mk q s t u (ah d.1)].length)).bind λ_=>
     some (aA.mk g (bT.mk h i j) k l (m++[aG.mk q s t u (ah d.1)]) o p,ah d.1)
   ).bind λr=>some (.inr r)
 ) (a.tape,a.w.clock,a.w.seed,a.w.files,a.cell,a.version,a.reads,a.steps,a.over,b.kind,b.n,b.time,b.text,b.result.kind,b.result.n,b.result.step,b.result.text,b.result.list,b.result.columns,b.result.rows,0,0,0,[],[],[],[],0)
def Uz:Fsp:=amG 136 [shT .iy,shT .read] [shT .iy,shT .val] (λx=>jB x.1 x.2)
def WV(a:List au)(b:Str)(c:af):Option ((List au)):=aN (λ((i,j,k,l,m,o,p,q,s,t,u):(List au)×Str×amI ((List au)×Int))=>bif (decide (u<(i.length:Int)))then (idx i u).bind λe=>(idx i u).bind λh=>(jY (ah h.value)).bind λf=>(gd (t.length+[au.mk e.name (ah f)].length)).bind λ_=>some (.inl (i,j,k,l,m,o,p,q,s,t++[au.mk e.name (ah f)],w64 (u+1)))else ((jY (af.mk k l m o p q s)).bind λg=>(gd (t.length+[au.mk j (ah g)].length)).bind λ_=>some (t++[au.mk j (ah g)])).bind λr=>some (.inr r)) (a,b,c.kind,c.n,c.step,c.text,c.list,c.columns,c.rows,[],0)
def ag9:Fsp:=amF 91 [slF .binding,shF .str,shT .val] [slF .binding] (λx=>WV x.1 x.2.1 x.2.2)
def KG(a:af):Option (Bool):=bif (a.kind==1)then some ((a.n != 0))else some (false)
def acz:Fsp:=amF 92 [shT .val] [shF .bool] KG
def Um(a:af)(b:af):Option (af):=bif (a.kind==1)then bif (b.kind==1)then (eU (w64 (a.n+b.n))).bind λp=>some (ah p)else bif (a.kind==2)then bif (b.kind==2)then bif (decide ((w64 ((a.text.length:Int)+(b.text.length:Int)))>20))then (aF 6).bind λq=>some (ah q)else (gd (a.text.length+b.text.length)).bind λ_=>(iF (a.text++b.text)).bind λr=>some (ah r)else bif (a.kind==3)then bif (b.kind==3)then bif (decide ((w64 ((a.list.length:Int)+(b.list.length:Int)))>8))then (aF 6).bind λs=>some (ah s)else (gd (0+a.list.length)).bind λ_=>(gd (([]++a.list).length+b.list.length)).bind λ_=>(jb (([]++a.list)++b.list)).bind λt=>some (ah t)else (aF 4).bind λu=>some (ah u)else (aF 4).bind λv=>some (ah v)else bif (a.kind==3)then bif (b.kind==3)then bif (decide ((w64 ((a.list.length:Int)+(b.list.length:Int)))>8))then (aF 6).bind λw=>some (ah w)else (gd (0+a.list.length)).bind λ_=>(gd (([]++a.list).length+b.list.length)).bind λ_=>(jb (([]++a.list)++b.list)).bind λx=>some (ah x)else (aF 4).bind λc=>some (ah c)else (aF 4).bind λd=>some (ah d)else bif (a.kind==2)then bif (b.kind==2)then bif (decide ((w64 ((a.text.length:Int)+(b.text.length:Int)))>20))then (aF 6).bind λe=>some (ah e)else (gd (a.text.length+b.text.length)).bind λ_=>(iF (a.text++b.text)).bind λf=>some (ah f)else bif (a.kind==3)then bif (b.kind==3)then bif (decide ((w64 ((a.list.length:Int)+(b.list.length:Int)))>8))then (aF 6).bind λg=>some (ah g)else (gd (0+a.list.length)).bind λ_=>(gd (([]++a.list).length+b.list.length)).bind λ_=>(jb (([]++a.list)++b.list)).bind λh=>some (ah h)else (aF 4).bind λi=>some (ah i)else (aF 4).bind λj=>some (ah j)else bif (a.kind==3)then bif (b.kind==3)then bif (decide ((w64 ((a.list.length:Int)+(b.list.length:Int)))>8))then (aF 6).bind λk=>some (ah k)else (gd (0+a.list.length)).bind λ_=>(gd (([]++a.list).length+b.list.length)).bind λ_=>(jb (([]++a.list)++b.list)).bind λl=>some (ah l)else (aF 4).bind λm=>some (ah m)else (aF 4).bind λo=>some (ah o)
def aef:Fsp:=amF 137 [shT .val,shT .val] [shT .val] (λx=>Um x.1 x.2)
def iR(a:Bool):Option (af):=bif a then (bg 1).bind λb=>some (ah b)else (bg 0).bind λc=>some (ah c)
def P9:Fsp:=amF 139 [shF .bool] [shT .val] iR
def KE(a:af)(b:af):Option (af):=bif (a.kind==1)then bif (b.kind==1)then (iR (decide (a.n<b.n))).bind λc=>some (ah c)else bif (a.kind==2)then bif (b.kind==2)then (iR (Op.bytesLess a.text b.text)).bind λd=>some (ah d)else (aF 4).bind λe=>some (ah e)else (aF 4).bind λf=>some (ah f)else bif (a.kind==2)then bif (b.kind==2)then (iR (Op.bytesLess a.text b.text)).bind λg=>some (ah g)else (aF 4).bind λh=>some (ah h)else (aF 4).bind λi=>some (ah i)
def acf:Fsp:=amF 138 [shT .val,shT .val] [shT .val] (λx=>KE x.1 x.2)
def pJ(a:af)(b:af):Option (Bool):=(EU (ah a) (ah b) false).bind λc=>some (c)
def Qq:Fsp:=amF 140 [shT .val,shT .val] [shF .bool] (λx=>pJ x.1 x.2)
def iI(a:Int)(b:af)(c:af):Option (af):=(lH [ah b,ah c]).bind λp=>bif p.2 then some (ah p.1)else bif (b.kind==1)then bif (a==1)then (Um (ah b) (ah c)).bind λq=>some (ah q)else bif (a==4)then (KE (ah b) (ah c)).bind λr=>some (ah r)else bif (a==5)then (pJ (ah b) (ah c)).bind λs=>(iR s).bind λt=>some (ah t)else bif (a==2)then bif (c.kind==1)then (eU (w64 (b.n-c.n))).bind λu=>some (ah u)else bif (a==3)then bif (c.kind==1)then (eU (w64 (b.n*c.n))).bind λv=>some (ah v)else (aF 4).bind λw=>some (ah w)else (aF 4).bind λx=>some (ah x)else bif (a==3)then bif (c.kind==1)then (eU (w64 (b.n*c.n))).bind λd=>some (ah d)else (aF 4).bind λe=>some (ah e)else (aF 4).bind λf=>some (ah f)else bif (a==1)then (Um (ah b) (ah c)).bind λg=>some (ah g)else bif (a==4)then (KE (ah b) (ah c)).bind λh=>some (ah h)else bif (a==5)then (pJ (ah b) (ah c)).bind λi=>(iR i).bind λj=>some (ah j)else bif (a==2)then bif (a==3)then (aF 4).bind λk=>some (ah k)else (aF 4).bind λl=>some (ah l)else bif (a==3)then (aF 4).bind λm=>some (ah m)else (aF 4).bind λo=>some (ah o)
def Io:Fsp:=amF 94 [shF .int,shT .val,shT .val] [shT .val] (λx=>iI x.1 x.2.1 x.2.2)
def H9(rsL16Eval:aA->ak->(List au)->Option (aA×af))(rsL16All:aA->(List ak)->(List au)->Option (aA×(List af)))(rsL16Call:aA->ak->(List au)->Option (aA×af))(rsL16For:aA->ak->(List au)->Option (aA×af))(a:aA)(b:ak)(c:List au):Option (aA×af):=bif a.over then some (aA.mk a.tape a.w a.cell a.version a.reads a.steps true,af.mk 0 0 0 [] [] [] [])else bif (a.steps==200)then some (aA.mk a.tape a.w a.cell a.version a.reads a.steps true,af.mk 0 0 0 [] [] [] [])else bif (b.kind==1)then (bg b.n).bind λv=>some (aA.mk a.tape a.w a.cell a.version a.reads (w64 (a.steps+1)) a.over,ah v)else bif (b.kind==2)then (iF b.text).bind λx=>some (aA.mk a.tape a.w a.cell a.version a.reads (w64 (a.steps+1)) a.over,ah x)else bif (b.kind==3)then (KC c b.text).bind λy=>some (aA.mk a.tape a.w a.cell a.version a.reads (w64 (a.steps+1)) a.over,ah y)else bif (b.kind==4)then (rsL16All (aA.mk a.tape a.w a.cell a.version a.reads (w64 (a.steps+1)) a.over) b.args c).bind λj=>bif j.1.over then some (j.1,af.mk 0 0 0 [] [] [] [])else (iH j.2).bind λz=>some (j.1,ah z)else bif (b.kind==5)then (rsL16Call (aA.mk a.tape a.w a.cell a.version a.reads (w64 (a.steps+1)) a.over) (aH b) c).bind λu=>some (u.1,ah u.2)else bif (b.kind==7)then (idx b.args 0).bind λA=>(rsL16Eval (aA.mk a.tape a.w a.cell a.version a.reads (w64 (a.steps+1)) a.over) (aH A) c).bind λk=>bif k.1.over then some (k.1,af.mk 0 0 0 [] [] [] [])else (idx b.args 1).bind λB=>(WV c b.text (ah k.2)).bind λl=>(rsL16Eval k.1 (aH B) l).bind λf=>some (f.1,ah f.2)else bif (b.kind==8)then (idx b.args 0).bind λm=>(rsL16Eval (aA.mk a.tape a.w a.cell a.version a.reads (w64 (a.steps+1)) a.over) (aH m) c).bind λd=>bif d.1.over then some (d.1,ah d.2)else bif (d.2.kind==6)then some (d.1,ah d.2)else (KG (ah d.2)).bind λo=>bif o then (idx b.args 1).bind λp=>(rsL16Eval d.1 (aH p) c).bind λg=>some (g.1,ah g.2)else (idx b.args 2).bind λq=>(rsL16Eval d.1 (aH q) c).bind λh=>some (h.1,ah h.2)else bif (b.kind==9)then (rsL16For (aA.mk a.tape a.w a.cell a.version a.reads (w64 (a.steps+1)) a.over) (aH b) c).bind λi=>some (i.1,ah i.2)else (rsL16All (aA.mk a.tape a.w a.cell a.version a.reads (w64 (a.steps+1)) a.over) b.args c).bind λe=>bif e.1.over then some (e.1,af.mk 0 0 0 [] [] [] [])else (idx e.2 0).bind λr=>(idx e.2 1).bind λs=>(iI b.n (ah r) (ah s)).bind λt=>some (e.1,ah t)
def MS(rsL16Eval:aA->ak->(List au)->Option (aA×af))(rsL16All:aA->(List ak)->(List au)->Option (aA×(List af)))(rsL16Call:aA->ak->(List au)->Option (aA×af))(rsL16For:aA->ak->(List au)->Option (aA×af))(a:aA)(b:List ak)(c:List au):Option (aA×(List af)):=aN (λ((g,h,i,j,k,l,m,n,o,p,q,r,s):amK ((List ak)×(List au)×(List af)×Int))=>bif (decide (s<(p.length:Int)))then bif (!o)then (idx p s).bind λf=>(rsL16Eval (aA.mk g (bT.mk h i j) k l m n o) (aH f) q).bind λe=>(gd (r.length+[ah e.2].length)).bind λ_=>some (.inl (e.1.tape,e.1.w.clock,e.1.w.seed,e.1.w.files,e.1.cell,e.1.version,e.1.reads,e.1.steps,e.1.over,p,q,r++[ah e.2],w64 (s+1)))else some (.inr (aA.mk g (bT.mk h i j) k l m n o,r))else some (.inr (aA.mk g (bT.mk h i j) k l m n o,r))) (a.tape,a.w.clock,a.w.seed,a.w.files,a.cell,a.version,a.reads,a.steps,a.over,b,c,[],0)
def Ia(rsL16Eval:aA->ak->(List au)->Option (aA×af))(rsL16All:aA->(List ak)->(List au)->Option (aA×(List af)))(rsL16Call:aA->ak->(List au)->Option (aA×af))(rsL16For:aA->ak->(List au)->Option (aA×af))(a:aA)(b:ak)(c:List au):Option (aA×af):=(rsL16All a b.args c).bind λd=>bif d.1.over then some (d.1,af.mk 0 0 0 [] [] [] [])else (DU (ak.mk 5 0 b.text [])).bind λv=>bif (!v)then (bU b.text d.2).bind λw=>some (d.1,ah w)else bif ((d.2.length:Int)==1)then (idx d.2 0).bind λx=>bif (x.kind==6)then (idx d.2 0).bind λy=>some (d.1,ah y)else bif (b.text==[99,108,111,99,107])then (jB d.1 (aG.mk 1 0 0 [] (af.mk 0 0 0 [] [] [] []))).bind λt=>some (t.1,ah t.2)else bif (b.text==[99,104,97,110,99,101])then (idx d.2 0).bind λz=>bif (z.kind==1)then (idx d.2 0).bind λA=>(jB d.1 (aG.mk 2 A.n 0 [] (af.mk 0 0 0 [] [] [] []))).bind λu=>some (u.1,ah u.2)else (aF 4).bind λi=>some (d.1,ah i)else (idx d.2 0).bind λj=>bif (j.kind==2)then (idx d.2 0).bind λk=>(jB d.1 (aG.mk 3 0 0 k.text (af.mk 0 0 0 [] [] [] []))).bind λe=>some (e.1,ah e.2)else (aF 4).bind λl=>some (d.1,ah l)else bif (b.text==[99,108,111,99,107])then (jB d.1 (aG.mk 1 0 0 [] (af.mk 0 0 0 [] [] [] []))).bind λf=>some (f.1,ah f.2)else bif (b.text==[99,104,97,110,99,101])then (idx d.2 0).bind λm=>bif (m.kind==1)then (idx d.2 0).bind λo=>(jB d.1 (aG.mk 2 o.n 0 [] (af.mk 0 0 0 [] [] [] []))).bind λg=>some (g.1,ah g.2)else (aF 4).bind λp=>some (d.1,ah p)else (idx d.2 0).bind λq=>bif (q.kind==2)then (idx d.2 0).bind λr=>(jB d.1 (aG.mk 3 0 0 r.text (af.mk 0 0 0 [] [] [] []))).bind λh=>some (h.1,ah h.2)else (aF 4).bind λs=>some (d.1,ah s)
def MO(rsL16Eval:aA->ak->(List au)->Option (aA×af))(rsL16All:aA->(List ak)->(List au)->Option (aA×(List af)))(rsL16Call:aA->ak->(List au)->Option (aA×af))(rsL16For:aA->ak->(List au)->Option (aA×af))(a:aA)(b:ak)(c:List au):Option (aA×af):=(idx b.args 0).bind λh=>(rsL16Eval a (aH h) c).bind λe=>bif e.1.over then some (e.1,ah e.2)else bif (e.2.kind==6)then some (e.1,ah e.2)else bif (e.2.kind != 3)then (aF 4).bind λi=>some (e.1,ah i)else aN (λ((o,p,q,s,t,u,v,x,y,z,A,B,C,D,E,F,G,H,I,J,K,L,M,N,O,P,Q,R,S,T):amK ((List au)×amJ (amI (amI ((List af)×Int)))))=>bif (decide (T<(P.length:Int)))then bif (!y)then (idx D 1).bind λj=>(idx P T).bind λk=>(WV z C (ah k)).bind λl=>(rsL16Eval (aA.mk o (bT.mk p q s) t u v x y) (aH j) l).bind λf=>(gd (S.length+[ah f.2].length)).bind λ_=>some (.inl (f.1.tape,f.1.w.clock,f.1.w.seed,f.1.w.files,f.1.cell,f.1.version,f.1.reads,f.1.steps,f.1.over,z,A,B,C,D,E,F,G,H,I,J,K,L,M,N,O,P,Q,R,S++[ah f.2],w64 (T+1)))else (bif y then some (aA.mk o (bT.mk p q s) t u v x y,af.mk 0 0 0 [] [] [] [])else (iH S).bind λm=>some (aA.mk o (bT.mk p q s) t u v x y,ah m)).bind λr=>some (.inr r)else (bif y then some (aA.mk o (bT.mk p q s) t u v x y,af.mk 0 0 0 [] [] [] [])else (iH S).bind λg=>some (aA.mk o (bT.mk p q s) t u v x y,ah g)).bind λr=>some (.inr r)) (e.1.tape,e.1.w.clock,e.1.w.seed,e.1.w.files,e.1.cell,e.1.version,e.1.reads,e.1.steps,e.1.over,c,b.kind,b.n,b.text,b.args,0,0,0,[],[],[],[],e.2.kind,e.2.n,e.2.step,e.2.text,e.2.list,e.2.columns,e.2.rows,[],0)
def bF:Nat->(aA->ak->(List au)->Option (aA×af))×(aA->(List ak)->(List au)->Option (aA×(List af)))×(aA->ak->(List au)->Option (aA×af))×(aA->ak->(List au)->Option (aA×af))
 | 0=>(λ_ _ _=>none,λ_ _ _=>none,λ_ _ _=>none,λ_ _ _=>none)
 | n+1=>(H9 (bF n).1 (bF n).2.1 (bF n).2.2.1 (bF n).2.2.2,MS (bF n).1 (bF n).2.1 (bF n).2.2.1 (bF n).2.2.2,Ia (bF n).1 (bF n).2.1 (bF n).2.2.1 (bF n).2.2.2,MO (bF n).1 (bF n).2.1 (bF n).2.2.1 (bF n).2.2.2)
def MQ(a:aA)(b:ak)(c:List au):Option (aA×af):=(bF (siz a+siz b+siz c+1)).1 a b c
def Y9:Fsp:=amG 36 [shT .iy,shT .expr,slF .binding] [shT .iy,shT .val] (λx=>MQ x.1 x.2.1 x.2.2)
def zX(n:Nat):Fsp:=amG 36 [shT .iy,shT .expr,slF .binding] [shT .iy,shT .val] (λx=>(bF n).1 x.1 x.2.1 x.2.2)
def ag7(a:aA)(b:List ak)(c:List au):Option (aA×(List af)):=(bF (siz a+siz b+siz c+1)).2.1 a b c
def acu:Fsp:=amG 88 [shT .iy,slF .expr,slF .binding] [shT .iy,slF .val] (λx=>ag7 x.1 x.2.1 x.2.2)
def DR(n:Nat):Fsp:=amG 88 [shT .iy,slF .expr,slF .binding] [shT .iy,slF .val] (λx=>(bF n).2.1 x.1 x.2.1 x.2.2)
def aem(a:aA)(b:ak)(c:List au):Option (aA×af):=(bF (siz a+siz b+siz c+1)).2.2.1 a b c
def Za:Fsp:=amG 90 [shT .iy,shT .expr,slF .binding] [shT .iy,shT .val] (λx=>aem x.1 x.2.1 x.2.2)
def zY(n:Nat):Fsp:=amG 90 [shT .iy,shT .expr,slF .binding] [shT .iy,shT .val] (λx=>(bF n).2.2.1 x.1 x.2.1 x.2.2)
def ag6(a:aA)(b:ak)(c:List au):Option (aA×af):=(bF (siz a+siz b+siz c+1)).2.2.2 a b c
def acs:Fsp:=amG 93 [shT .iy,shT .expr,slF .binding] [shT .iy,shT .val] (λx=>ag6 x.1 x.2.1 x.2.2)
def DN(n:Nat):Fsp:=amG 93 [shT .iy,shT .expr,slF .binding] [shT .iy,shT .val] (λx=>(bF n).2.2.2 x.1 x.2.1 x.2.2)
def E5(a:aG):Option (aG):=(jY (ah a.result)).bind λb=>some (aG.mk a.kind a.n a.time a.text (ah b))
def Y7:Fsp:=amF 95 [shT .read] [shT .read] E5
def vY(a:List aG):Option ((List aG)):=aN (λ((e,f,g):(List aG)×(List aG)×Int)=>bif (decide (g<(e.length:Int)))then (idx e g).bind λd=>(E5 (yc d)).bind λc=>(gd (f.length+[yc c].length)).bind λ_=>some (.inl (e,f++[yc c],w64 (g+1)))else some (.inr (f))) (a,[],0)
def WH:Fsp:=amF 37 [slF .read] [slF .read] vY
def BH(a:ak)(b:List au)(c:List aG)(d:bT)(e:Int)(f:Int):Option (fB):=(dF (aH a)).bind λh=>bif (!h)then (aF 4).bind λi=>some (fB.mk (ah i) [] 0)else (MQ (aA.mk c d e f [] 0 false) (aH a) b).bind λg=>bif g.1.over then (aF 6).bind λj=>(vY g.1.reads).bind λk=>some (fB.mk (ah j) k 200)else (jY (ah g.2)).bind λl=>(vY g.1.reads).bind λm=>some (fB.mk (ah l) m g.1.steps)
def WR:Fsp:=amF 11 [shT .expr,slF .binding,slF .read,shT .world,shF .int,shF .int] [shT .outcome] (λx=>BH x.1 x.2.1 x.2.2.1 x.2.2.2.1 x.2.2.2.2.1 x.2.2.2.2.2)
def kM(a:ak)(b c:Str):Option Bool:=(jA (siz a+1) a []).bind λes=>(gd es.length).bind λ_=>some (es.any λp=>p.1==b&&p.2.contains c)
def QM:Fsp:=amF 52 [shT .expr,shF .str,shF .str] [shF .bool] (λx=>kM x.1 x.2.1 x.2.2)
def Ep(riCopyExpr:ak->Option (ak))(a:ak):Option (ak):=aN (λ((e,f,g,h,i,j,k,l,m,o,p):amJ (amJ amT))=>bif (decide (p<o))then (idx m p).bind λd=>(riCopyExpr (aH d)).bind λc=>(gd (l.length+[aH c].length)).bind λ_=>some (.inl (e,f,g,h,i,j,k,l++[aH c],m,o,w64 (p+1)))else some (.inr (ak.mk i j k l))) (0,0,[],[],a.kind,a.n,a.text,[],a.args,(a.args.length:Int),0)
def sO:Nat->(ak->Option (ak))
 | 0=>λ_=>none
 | n+1=>Ep (sO n)
def I7(a:ak):Option (ak):=(sO (siz a+1)) a
def XT:Fsp:=amF 110 [shT .expr] [shT .expr] I7
def yK(n:Nat):Fsp:=amF 110 [shT .expr] [shT .expr] (sO n)
def IU(riRenamed:ak->Str->Str->Option (ak))(a:ak)(b:Str)(c:Str):Option (ak):=jL (X:=Str×Str×amJ (amJ (Int×Int×Str×(List ak)))) (bif (a.kind==3)then bif (a.text==b)then some (.inl (b,c,a.kind,a.n,a.text,a.args,0,0,[],[],a.kind,a.n,c,[]))else some (.inl (b,c,a.kind,a.n,a.text,a.args,0,0,[],[],a.kind,a.n,a.text,[]))else some (.inl (b,c,a.kind,a.n,a.text,a.args,0,0,[],[],a.kind,a.n,a.text,[]))) λ((k,l,m,o,p,q,r,s,t,u,v,w,x,y):Str×Str×amJ (amJ (Int×Int×Str×(List ak))))=>jL (X:=Str×Str×amJ (amJ (amJ Bool))) (bif (m==7)then some (.inl (k,l,m,o,p,q,r,s,t,u,v,w,x,y,(p==k)))else bif (m==9)then some (.inl (k,l,m,o,p,q,r,s,t,u,v,w,x,y,(p==k)))else some (.inl (k,l,m,o,p,q,r,s,t,u,v,w,x,y,false))) λ((d,z,_,_,_,A,B,C,D,E,F,G,H,I,J):Str×Str×amJ (amJ (amJ Bool)))=>aN (λ((g,K,L,M,N,O,P,Q,R,S,T,U,V,W):Str×Str×amJ (amJ (Bool×amT)))=>bif (decide (W<V))then (idx U W).bind λh=>jL (X:=Str×Str×amJ (amJ (Bool×amJ ((List ak)×Int×Int×Bool)))) (bif T then some (.inl (g,K,L,M,N,O,P,Q,R,S,T,h.kind,h.n,h.text,h.args,U,V,W,(decide (W>0))))else some (.inl (g,K,L,M,N,O,P,Q,R,S,T,h.kind,h.n,h.text,h.args,U,V,W,false))) λ((f,Y,Z,aa,ac,ae,aq,ar,aw,aD,aE,aL,aM,aR,ba,bc,bh,bj,bl):Str×Str×amJ (amJ (Bool×amJ ((List ak)×Int×Int×Bool))))=>bif bl then (I7 (ak.mk aL aM aR ba)).bind λi=>(gd (aD.length+[aH i].length)).bind λ_=>some (.inl (f,Y,Z,aa,ac,ae,aq,ar,aw,aD++[aH i],aE,bc,bh,w64 (bj+1)))else (riRenamed (ak.mk aL aM aR ba) f Y).bind λj=>(gd (aD.length+[aH j].length)).bind λ_=>some (.inl (f,Y,Z,aa,ac,ae,aq,ar,aw,aD++[aH j],aE,bc,bh,w64 (bj+1)))
  else
   some (.inr (ak.mk P Q R S))
 ) (d,z,B,C,D,E,F,G,H,I,J,A,(A.length:Int),0)
def wQ:Nat->(ak->Str->Str->Option (ak))
 | 0=>λ_ _ _=>none
 | n+1=>IU (wQ n)
def OE(a:ak)(b:Str)(c:Str):Option (ak):=(wQ (siz a+1)) a b c
def aac:Fsp:=amF 53 [shT .expr,shF .str,shF .str] [shT .expr] (λx=>OE x.1 x.2.1 x.2.2)
def AU(n:Nat):Fsp:=amF 53 [shT .expr,shF .str,shF .str] [shT .expr] (λx=>(wQ n) x.1 x.2.1 x.2.2)
def uD(a:ak)(b:Str)(c:Str):Option (ak×Bool):=(jD (aH a)).bind λd=>bif (!d)then some (ak.mk 0 0 [] [],false)else (dK b).bind λe=>bif (!e)then some (ak.mk 0 0 [] [],false)else (dK c).bind λf=>bif (!f)then some (ak.mk 0 0 [] [],false)else (kM (aH a) b c).bind λg=>bif g then some (ak.mk 0 0 [] [],false)else (OE (aH a) b c).bind λh=>some (aH h,true)
def QJ:Fsp:=amF 17 [shT .expr,shF .str,shF .str] [shT .expr,shF .bool] (λx=>uD x.1 x.2.1 x.2.2)
def WL(rsL13Caught:ak->Str->Str->(List Str)->Option (Bool))(a:ak)(b:Str)(c:Str)(d:List Str):Option (Bool):=bif (a.kind==3)then (DL d a.text).bind λv=>bif (!v)then bif (a.text==b)then (DL d c).bind λw=>some (w)else some (false)else aN (λ((D,E,F,G,H,I,J,K):Str×Str×(List Str)×amJ Int)=>bif (decide (K<(J.length:Int)))then bif (G==7)then bif (decide (K>0))then (gd (0+F.length)).bind λ_=>(gd (([]++F).length+([I]:List Str).length)).bind λ_=>(idx J K).bind λx=>(rsL13Caught (aH x) D E (([]++F)++([I]:List Str))).bind λy=>bif y then some (.inr (true))else some (.inl (D,E,F,G,H,I,J,w64 (K+1)))else (idx J K).bind λz=>(rsL13Caught (aH z) D E F).bind λA=>bif A then some (.inr (true))else some (.inl (D,E,F,G,H,I,J,w64 (K+1)))else bif (G==9)then bif (decide (K>0))then (gd (0+F.length)).bind λ_=>(gd (([]++F).length+([I]:List Str).length)).bind λ_=>(idx J K).bind λB=>(rsL13Caught (aH B) D E (([]++F)++([I]:List Str))).bind λC=>bif C then some (.inr (true))else some (.inl (D,E,F,G,H,I,J,w64 (K+1)))else (idx J K).bind λg=>(rsL13Caught (aH g) D E F).bind λh=>bif h then some (.inr (true))else some (.inl (D,E,F,G,H,I,J,w64 (K+1)))else (idx J K).bind λi=>(rsL13Caught (aH i) D E F).bind λj=>bif j then some (.inr (true))else some (.inl (D,E,F,G,H,I,J,w64 (K+1)))else some (.inr (false))) (b,c,d,a.kind,a.n,a.text,a.args,0)else aN (λ((f,L,M,N,O,P,Q,R):Str×Str×(List Str)×amJ Int)=>bif (decide (R<(Q.length:Int)))then bif (N==7)then bif (decide (R>0))then (gd (0+M.length)).bind λ_=>(gd (([]++M).length+([P]:List Str).length)).bind λ_=>(idx Q R).bind λk=>(rsL13Caught (aH k) f L (([]++M)++([P]:List Str))).bind λl=>bif l then some (.inr (true))else some (.inl (f,L,M,N,O,P,Q,w64 (R+1)))else (idx Q R).bind λm=>(rsL13Caught (aH m) f L M).bind λo=>bif o then some (.inr (true))else some (.inl (f,L,M,N,O,P,Q,w64 (R+1)))else bif (N==9)then bif (decide (R>0))then (gd (0+M.length)).bind λ_=>(gd (([]++M).length+([P]:List Str).length)).bind λ_=>(idx Q R).bind λp=>(rsL13Caught (aH p) f L (([]++M)++([P]:List Str))).bind λq=>bif q then some (.inr (true))else some (.inl (f,L,M,N,O,P,Q,w64 (R+1)))else (idx Q R).bind λr=>(rsL13Caught (aH r) f L M).bind λs=>bif s then some (.inr (true))else some (.inl (f,L,M,N,O,P,Q,w64 (R+1)))else (idx Q R).bind λt=>(rsL13Caught (aH t) f L M).bind λu=>
    bif u then
     some (.inr (true))
    else
     some (.inl (f,L,M,N,O,P,Q,w64 (R+1)))
  else
   some (.inr (false))
 ) (b,c,d,a.kind,a.n,a.text,a.args,0)
def Aa:Nat->(ak->Str->Str->(List Str)->Option (Bool))
 | 0=>λ_ _ _ _=>none
 | n+1=>WL (Aa n)
def MV(a:ak)(b:Str)(c:Str)(d:List Str):Option (Bool):=(Aa (siz a+siz d+1)) a b c d
def UA:Fsp:=amF 54 [shT .expr,shF .str,shF .str,slF .str] [shF .bool] (λx=>MV x.1 x.2.1 x.2.2.1 x.2.2.2)
def uY(n:Nat):Fsp:=amF 54 [shT .expr,shF .str,shF .str,slF .str] [shF .bool] (λx=>(Aa n) x.1 x.2.1 x.2.2.1 x.2.2.2)
def Js(a:ak)(b:Str)(c:Str):Option (Bool):=(MV (aH a) b c []).bind λd=>some (d)
def Qn:Fsp:=amF 18 [shT .expr,shF .str,shF .str] [shF .bool] (λx=>Js x.1 x.2.1 x.2.2)
def FnRenamedValue(a:List Int):Option (Bool):=(big a).bind λg=>bif g then some (true)else (oU a).bind λc=>(uD (aH c.1) [97] [122,122]).bind λd=>bif (!d.2)then (dF (aH c.1)).bind λh=>bif (!h)then some (true)else (Js (aH c.1) [97] [122,122]).bind λi=>some (i)else aN (λ((l,m,o,p,q,s,t,u,v,w,x,y,z,A,B,C,D):amJ ((List au)×(List aG)×amU (Int×Int×amJ ((List au)×Int))))=>bif (decide (D<(q.length:Int)))then (idx q D).bind λe=>bif (e.name==[97])then (gd (C.length+([au.mk [122,122] (ah e.value)]).length)).bind λ_=>some (.inl (l,m,o,p,q,s,t,u,v,w,x,y,z,A,B,C++([au.mk [122,122] (ah e.value)]),w64 (D+1)))else (gd (C.length+[BK e].length)).bind λ_=>some (.inl (l,m,o,p,q,s,t,u,v,w,x,y,z,A,B,C++[BK e],w64 (D+1)))else ((BZ (ak.mk y z A B) C s (bT.mk t u v) w x).bind λj=>(BH (ak.mk l m o p) q s (bT.mk t u v) w x).bind λk=>(tZ (Ir j) (Ir k)).bind λf=>some (f)).bind λr=>some (.inr r)) (c.1.kind,c.1.n,c.1.text,c.1.args,c.2.1,c.2.2.1,c.2.2.2.1.clock,c.2.2.2.1.seed,c.2.2.2.1.files,c.2.2.2.2.1,c.2.2.2.2.2,d.1.kind,d.1.n,d.1.text,d.1.args,[],0)
def Jj:Fsp:=amF 5 [slF .u8] [shF .bool] FnRenamedValue
end
end Go.Proofs.YtjbajpfonnnfoaaGreatDoor
