import Derived.Test.YtjbajpfonnnfoaaGreatDoorLink1
set_option linter.unusedVariables false
/- What the functions compute, by gen.py. -/
namespace Go.Proofs.YtjbajpfonnnfoaaGreatDoor
noncomputable section
open Go.Abs Go.Proofs
abbrev o5(X:Type):=Int×Int×Int×Str×(List af)×(List Str)×(List aB)×X
abbrev F6(X:Type):=Int×Int×Str×(List au)×X
abbrev alp(X:Type):=(List aG)×Int×Int×(List fP)×Int×Int×(List aG)×Int×Bool×X
abbrev alq:=Int×Int×Int×Str×(List af)×(List Str)×(List aB)
abbrev alr(X:Type):=(List Int)×Int×Int×X
abbrev alu:=(List Str)×Int×Int
abbrev alv:=(List af)×Int×Int
abbrev alx:=Bool×Bool×Bool
abbrev aly:=(List aB)×Int×Int
abbrev alz(X:Type):=(List Int)×(List aj)×(List aB)×Int×Int×X
abbrev alA:=Int×(List Int)×(List aj)×Int
abbrev alB(X:Type):=Int×Int×(List fP)×X
abbrev alC:=(List Int)×Int×Int
abbrev alD:=(List au)×Int×Int
abbrev alE:=(List aj)×Int×Int
abbrev shT(b:Base):Sh:=⟨true,.base b⟩
abbrev shF(b:Base):Sh:=⟨false,.base b⟩
abbrev slF(b:Base):Sh:=⟨false,.list (.base b)⟩
abbrev siz{α:Type}[SizeOf α](x:α):Nat:=SizeOf.sizeOf x
abbrev w64(n:Int):Int:=IntKind.i64.wrap n
abbrev w8(n:Int):Int:=IntKind.u8.wrap n
def big(a:List Int):Option (Bool):=some ((decide ((a.length:Int)>1048576)))
def aln:Fsp:=⟨6,[slF .u8],[shF .bool],true,false,λx=>big x⟩
def Uf(a:List Int):Option (aS):=aO (λ((d,e,f):alC)=>bif (decide (f<(d.length:Int)))then bif (decide (f<4000))then (idx d f).bind λc=>some (.inl (d,w64 (((BitVec.ofInt 64 (w64 ((w64 ((w64 (e*131))+(w64 (c))))+7)) &&& BitVec.ofInt 64 1073741823).toNat:Int)),w64 (f+1)))else some (.inr (aS.mk d 0 e))else some (.inr (aS.mk d 0 e))) (a,w64 (26583+(a.length:Int)),0)
def adM:Fsp:=⟨19,[slF .u8],[shT .cur],false,false,λx=>Uf x⟩
def Ht(rsL10Left:au->Int->Option (Int))(a:au)(b:Int):Option (Int):=aO (λ((f,g,h,i,j,k):Int×F6 Int)=>bif (decide (k<(j.length:Int)))then bif (decide (f>=0))then (idx j k).bind λd=>(rsL10Left (aN d) f).bind λe=>some (.inl (e,g,h,i,j,w64 (k+1)))else some (.inr (f))else some (.inr (f))) (w64 (b-1),a.kind,a.n,a.text,a.args,0)
def vV:Nat->(au->Int->Option (Int))
 | 0=>λ_ _=>none
 | n+1=>Ht (vV n)
def ML(a:au)(b:Int):Option (Int):=(vV (siz a+1)) a b
def Y4:Fsp:=⟨48,[shT .expr,shF .int],[shF .int],true,false,λx=>ML x.1 x.2⟩
def zy(n:Nat):Fsp:=⟨48,[shT .expr,shF .int],[shF .int],true,false,λx=>(vV n) x.1 x.2⟩
def Dq(a:Int)(b:Int):Option (Int):=bif (decide (a>b))then some (a)else some (b)
def adO:Fsp:=⟨103,[shF .int,shF .int],[shF .int],true,false,λx=>Dq x.1 x.2⟩
def pq(rsNestingOf:au->Option (Int))(a:au):Option (Int):=aO (λ((f,g,h,i,j,k):F6 (Int×Int))=>bif (decide (k<(i.length:Int)))then (idx i k).bind λc=>(rsNestingOf (aN c)).bind λd=>(Dq j d).bind λe=>some (.inl (f,g,h,i,e,w64 (k+1)))else some (.inr (w64 (j+1)))) (a.kind,a.n,a.text,a.args,0,0)
def jy:Nat->(au->Option (Int))
 | 0=>λ_=>none
 | n+1=>pq (jy n)
def Di(a:au):Option (Int):=(jy (siz a+1)) a
def TP:Fsp:=⟨49,[shT .expr],[shF .int],true,false,λx=>Di x⟩
def uP(n:Nat):Fsp:=⟨49,[shT .expr],[shF .int],true,false,λx=>(jy n) x⟩
def iq(a:Str):Option (Bool):=aO (λ(b:Str×Int)=>bif (decide (b.2<(b.1.length:Int)))then (idx b.1 b.2).bind λc2=>bif (decide ((c2.toNat:Int)<32))then some (.inr (false))else (idx b.1 b.2).bind λc3=>bif (decide ((c3.toNat:Int)>126))then some (.inr (false))else (idx b.1 b.2).bind λc4=>bif ((c4.toNat:Int)==34)then some (.inr (false))else some (.inl (b.1,w64 (b.2+1)))else some (.inr ((decide ((b.1.length:Int)<=20))))) (a,0)
def MO:Fsp:=⟨43,[shF .str],[shF .bool],true,false,λx=>iq x⟩
def vM(a:Int)(b:Int)(c:Int):Option (Bool):=bif (decide (a>=b))then some ((decide (a<=c)))else some (false)
def agm:Fsp:=⟨46,[shF .int,shF .int,shF .int],[shF .bool],true,false,λx=>vM x.1 x.2.1 x.2.2⟩
def EM(a:Str):Option (Bool):=aO (λ(b:Str×Int)=>bif (decide (b.2<(b.1.length:Int)))then (idx b.1 b.2).bind λc2=>bif (decide ((c2.toNat:Int)>=97))then (idx b.1 b.2).bind λc3=>(idx b.1 b.2).bind λc4=>bif (decide ((c4.toNat:Int)>=48))then (idx b.1 b.2).bind λc=>bif (!(decide ((c3.toNat:Int)<=122)))then bif (b.2==0)then some (.inr (false))else bif (!(decide ((c.toNat:Int)<=57)))then some (.inr (false))else some (.inl (b.1,w64 (b.2+1)))else some (.inl (b.1,w64 (b.2+1)))else bif (!(decide ((c3.toNat:Int)<=122)))then bif (b.2==0)then some (.inr (false))else some (.inr (false))else some (.inl (b.1,w64 (b.2+1)))else (idx b.1 b.2).bind λd=>bif (decide ((d.toNat:Int)>=48))then (idx b.1 b.2).bind λe=>bif (b.2==0)then some (.inr (false))else bif (!(decide ((e.toNat:Int)<=57)))then some (.inr (false))else some (.inl (b.1,w64 (b.2+1)))else bif (b.2==0)then some (.inr (false))else some (.inr (false))else some (.inr ((decide ((b.1.length:Int)>0))))) (a,0)
def YN:Fsp:=⟨192,[shF .str],[shF .bool],true,false,λx=>EM x⟩
def Hg(a:List Str)(b:Str):Option (Bool):=aO (λ((e,f,g):(List Str)×Str×Int)=>bif (decide (g<(e.length:Int)))then (idx e g).bind λd=>bif (d==f)then some (.inr (true))else some (.inl (e,f,w64 (g+1)))else some (.inr (false))) (a,b,0)
def adP:Fsp:=⟨98,[slF .str,shF .str],[shF .bool],true,false,λx=>Hg x.1 x.2⟩
def ug:Option ((List Str)):=some (([[108,101,116],[105,110],[105,102],[116,104,101,110],[101,108,115,101],[102,111,114],[100,111],[108,101,110],[115,117,109],[116,97,107,101],[115,107,105,112],[114,97,110,103,101],[110,116,104],[119,104,101,114,101],[107,101,101,112],[97,100,100],[103,114,111,117,112],[106,111,105,110],[99,111,108,117,109,110],[114,111,119,115],[99,108,111,99,107],[99,104,97,110,99,101],[102,105,108,101],[116,97,98,108,101]]:List Str))
def PV:Fsp:=⟨219,[],[slF .str],true,false,λx=>ug⟩
def pG(a:Str):Option (Bool):=(ug).bind λb=>(Hg b a).bind λc=>some (c)
def P6:Fsp:=⟨193,[shF .str],[shF .bool],true,false,λx=>pG x⟩
def eY(a:Str):Option (Bool):=(EM a).bind λb=>bif b then bif (decide ((a.length:Int)<=8))then (pG a).bind λc=>some ((!c))else some (false)else some (false)
def MP:Fsp:=⟨144,[shF .str],[shF .bool],true,false,λx=>eY x⟩
def gm(a:Str):Option (Int):=bif (a==[99,108,111,99,107])then some (0)else bif (a==[108,101,110])then some (1)else bif (a==[115,117,109])then some (1)else bif (a==[114,111,119,115])then some (1)else bif (a==[99,104,97,110,99,101])then some (1)else bif (a==[102,105,108,101])then some (1)else bif (a==[116,97,107,101])then some (2)else bif (a==[115,107,105,112])then some (2)else bif (a==[114,97,110,103,101])then some (2)else bif (a==[110,116,104])then some (2)else bif (a==[107,101,101,112])then some (2)else bif (a==[99,111,108,117,109,110])then some (2)else bif (a==[116,97,98,108,101])then some (2)else bif (a==[119,104,101,114,101])then some (3)else bif (a==[103,114,111,117,112])then some (3)else bif (a==[106,111,105,110])then some (3)else bif (a==[97,100,100])then some (4)else some ((-1))
def H9:Fsp:=⟨147,[shF .str],[shF .int],true,false,λx=>gm x⟩
def mY(a:au):Option (Bool):=bif (a.kind==1)then bif ((a.args.length:Int)==0)then bif (a.text==[])then (vM a.n 0 1000000000).bind λb=>some (b)else some (false)else some (false)else bif (a.kind==2)then bif ((a.args.length:Int)==0)then bif (a.n==0)then (iq a.text).bind λc=>some (c)else some (false)else some (false)else bif (a.kind==3)then bif ((a.args.length:Int)==0)then bif (a.n==0)then (eY a.text).bind λd=>some (d)else some (false)else some (false)else bif (a.kind==4)then bif (a.n==0)then bif (a.text==[])then some ((decide ((a.args.length:Int)<=8)))else some (false)else some (false)else bif (a.kind==5)then bif (a.n==0)then (gm a.text).bind λe=>some (((a.args.length:Int)==e))else some (false)else bif (a.kind==6)then bif (a.text==[])then bif ((a.args.length:Int)==2)then (vM a.n 1 5).bind λf=>some (f)else some (false)else some (false)else bif (a.kind==7)then bif (a.n==0)then bif ((a.args.length:Int)==2)then (eY a.text).bind λg=>some (g)else some (false)else some (false)else bif (a.kind==9)then bif (a.n==0)then bif ((a.args.length:Int)==2)then (eY a.text).bind λh=>some (h)else some (false)else some (false)else bif (a.kind==8)then bif (a.n==0)then bif (a.text==[])then some (((a.args.length:Int)==3))else some (false)else some (false)else some (false)
def Y0:Fsp:=⟨104,[shT .expr],[shF .bool],true,false,λx=>mY x⟩
def zM(rsL10All:au->Option (Bool))(a:au):Option (Bool):=aO (λ((f,g,h,i,j):F6 Int)=>bif (decide (j<(i.length:Int)))then (idx i j).bind λc=>(rsL10All (aN c)).bind λd=>bif (!d)then some (.inr (false))else some (.inl (f,g,h,i,w64 (j+1)))else ((mY (au.mk f g h i)).bind λe=>some (e)).bind λr=>some (.inr r)) (a.kind,a.n,a.text,a.args,0)
def pF:Nat->(au->Option (Bool))
 | 0=>λ_=>none
 | n+1=>zM (pF n)
def Kt(a:au):Option (Bool):=(pF (siz a+1)) a
def abW:Fsp:=⟨50,[shT .expr],[shF .bool],true,false,λx=>Kt x⟩
def Dw(n:Nat):Fsp:=⟨50,[shT .expr],[shF .bool],true,false,λx=>(pF n) x⟩
def eF(a:au):Option (Bool):=(ML (aN a) 40).bind λb=>bif (decide (b>=0))then (Di (aN a)).bind λc=>bif (decide (c<=8))then (Kt (aN a)).bind λd=>some (d)else some (false)else some (false)
def MQ:Fsp:=⟨16,[shT .expr],[shF .bool],true,false,λx=>eF x⟩
def uh(a:aS):Option (aS×Int):=bif (decide (a.i<(a.b.length:Int)))then (idx a.b a.i).bind λc=>some (aS.mk a.b (w64 (a.i+1)) (w64 ((w64 (a.h*6364136223846793005))+1442695040888963407)),w64 (((BitVec.ofInt 64 (w64 ((w64 (((BitVec.ofInt 64 (w64 (((BitVec.ofInt 64 ((w64 ((w64 (a.h*6364136223846793005))+1442695040888963407)).fdiv (2 ^ 33)) ^^^ BitVec.ofInt 64 ((w64 ((w64 (a.h*6364136223846793005))+1442695040888963407)).fdiv (2 ^ 45))).toNat:Int))) &&& BitVec.ofInt 64 255).toNat:Int)))+(w64 (c)))) &&& BitVec.ofInt 64 255).toNat:Int)))else some (aS.mk a.b a.i (w64 ((w64 (a.h*6364136223846793005))+1442695040888963407)),w64 (((BitVec.ofInt 64 (w64 (((BitVec.ofInt 64 ((w64 ((w64 (a.h*6364136223846793005))+1442695040888963407)).fdiv (2 ^ 33)) ^^^ BitVec.ofInt 64 ((w64 ((w64 (a.h*6364136223846793005))+1442695040888963407)).fdiv (2 ^ 45))).toNat:Int))) &&& BitVec.ofInt 64 255).toNat:Int)))
def abS:Fsp:=⟨68,[shT .cur],[shT .cur,shF .int],false,false,λx=>uh x⟩
def aU(a:aS)(b:Int):Option (aS×Int):=bif (decide (b<=0))then some (a,0)else bif (decide (b<=256))then (uh a).bind λc=>(Qb c.2 b).bind λh=>some (c.1,h)else (uh a).bind λd=>(uh d.1).bind λe=>(uh e.1).bind λf=>(uh f.1).bind λg=>(Qb (w64 ((w64 ((w64 ((w64 (d.2*16777216))+(w64 (e.2*65536))))+(w64 (f.2*256))))+g.2)) b).bind λi=>some (g.1,i)
def YO:Fsp:=⟨27,[shT .cur,shF .int],[shT .cur,shF .int],false,false,λx=>aU x.1 x.2⟩
def dO(a:aS)(b:Int):Option (aS×Bool):=(aU a b).bind λc=>some (c.1,(c.2==0))
def Hf:Fsp:=⟨21,[shT .cur,shF .int],[shT .cur,shF .bool],false,false,λx=>dO x.1 x.2⟩
def gG(a:Int):Option (au):=some (au.mk 1 a [] [])
def abV:Fsp:=⟨58,[shF .int],[shT .expr],true,false,λx=>gG x⟩
def vU(a:Str):Option (au):=some (au.mk 3 0 a [])
def Y1:Fsp:=⟨60,[shF .str],[shT .expr],true,false,λx=>vU x⟩
def iY(a:aS)(b:List Str):Option (aS×Str):=(aU a (b.length:Int)).bind λc=>(idx b c.2).bind λd=>some (c.1,d)
def abQ:Fsp:=⟨62,[shT .cur,slF .str],[shT .cur,shF .str],false,false,λx=>iY x.1 x.2⟩
def rP(a:aS)(b:List Str):Option (aS×au):=(aU a 5).bind λc=>bif (c.2==0)then (iY c.1 ([[97],[97,98],[],[98]]:List Str)).bind λd=>some (d.1,au.mk 2 0 d.2 [])else bif (c.2==1)then (aU c.1 6).bind λe=>(gG e.2).bind λh=>some (e.1,aN h)else bif (c.2==2)then (aU c.1 6).bind λf=>(gG f.2).bind λi=>some (f.1,aN i)else (iY c.1 b).bind λg=>(vU g.2).bind λj=>some (g.1,aN j)
def Y5:Fsp:=⟨61,[shT .cur,slF .str],[shT .cur,shT .expr],false,true,λx=>rP x.1 x.2⟩
def rO(a:Int)(b:au)(c:au):Option (au):=some (au.mk 6 a [] [aN b,aN c])
def adR:Fsp:=⟨56,[shF .int,shT .expr,shT .expr],[shT .expr],false,true,λx=>rO x.1 x.2.1 x.2.2⟩
def lH(a:Str)(b:List au):Option (au):=some (au.mk 5 0 a b)
def Y7:Fsp:=⟨57,[shF .str,slF .expr],[shT .expr],false,false,λx=>lH x.1 x.2⟩
def mZ(a:aS)(b:List Str):Option (aS×au):=(aU a 4).bind λf=>aO (λ((l,m,n,o,p,q,r,s,t,u,v,w,x,y):alr ((List Str)×F6 (F6 (Int×Int))))=>bif (decide (y<x))then (aU (aS.mk l m n) 5).bind λj=>(gG j.2).bind λd=>(gd (w.length+[aN d].length)).bind λ_=>(dO j.1 4).bind λe=>bif e.2 then (rP e.1 o).bind λg=>(idx (w++[aN d]) y).bind λ_=>((w++[aN d])[y.toNat]?).bind λk=>some (.inl (g.1.b,g.1.i,g.1.h,o,p,q,r,s,t,u,v,(w++[aN d]).set y.toNat (aN g.2),x,w64 (y+1)))else some (.inl (e.1.b,e.1.i,e.1.h,o,p,q,r,s,t,u,v,w++[aN d],x,w64 (y+1)))else some (.inr (aS.mk l m n,au.mk t u v w))) (f.1.b,f.1.i,f.1.h,b,0,0,[],[],4,0,[],[],f.2,0)
def Y3:Fsp:=⟨59,[shT .cur,slF .str],[shT .cur,shT .expr],false,true,λx=>mZ x.1 x.2⟩
def Wh(a:aS)(b:au)(c:au):Option (aS×au):=(dO a 2).bind λd=>bif d.2 then some (d.1,aN b)else some (d.1,aN c)
def PW:Fsp:=⟨150,[shT .cur,shT .expr,shT .expr],[shT .cur,shT .expr],false,false,λx=>Wh x.1 x.2.1 x.2.2⟩
def og(a:aS):Option (aS×au):=(iY a ([[97],[97],[98],[99],[120]]:List Str)).bind λb=>some (b.1,au.mk 2 0 b.2 [])
def Uj:Fsp:=⟨151,[shT .cur],[shT .cur,shT .expr],false,true,λx=>og x⟩
def qX(a:aS):Option (aS×au):=(aU a 4).bind λd=>aO (λ((k,l,m,n,o,p,q,r,s,t,u,v,w):alr (F6 (F6 (Int×Int))))=>bif (decide (w<v))then (aU (aS.mk k l m) 3).bind λf=>(gG f.2).bind λg=>(aU f.1 4).bind λe=>(gG e.2).bind λj=>(gd (u.length+([au.mk 4 0 [] [aN g,aN j]]).length)).bind λ_=>some (.inl (e.1.b,e.1.i,e.1.h,n,o,p,q,r,s,t,u++([au.mk 4 0 [] [aN g,aN j]]),v,w64 (w+1)))else some (.inr (aS.mk k l m,au.mk 5 0 [116,97,98,108,101] ([au.mk 2 0 [97,32,98] [],au.mk r s t u])))) (d.1.b,d.1.i,d.1.h,0,0,[],[],4,0,[],[],d.2,0)
def Wn:Fsp:=⟨152,[shT .cur],[shT .cur,shT .expr],false,true,λx=>qX x⟩
def Hr(rsL10Make:aS->(List Str)->Int->Option (aS×au))(a:aS)(b:List Str)(c:Int):Option (aS×au):=bif (decide (c<2))then (rP a b).bind λW=>some (W.1,aN W.2)else (aU a 13).bind λd=>bif (d.2==0)then (aU d.1 5).bind λX=>(rsL10Make X.1 b (w64 (c-1))).bind λY=>(rsL10Make Y.1 b (w64 (c-1))).bind λZ=>(rO (w64 (1+X.2)) (aN Y.2) (aN Z.2)).bind λr6=>some (Z.1,aN r6)else bif (d.2==1)then (aU d.1 5).bind λr7=>(rsL10Make r7.1 b (w64 (c-1))).bind λr8=>(rsL10Make r8.1 b (w64 (c-1))).bind λr9=>(rO (w64 (1+r7.2)) (aN r8.2) (aN r9.2)).bind λQ=>some (r9.1,aN Q)else bif (d.2==2)then (idx b 0).bind λR=>(iY d.1 ([[117],[118],R]:List Str)).bind λf=>(rsL10Make f.1 b (w64 (c-1))).bind λr=>(gd (([f.2]:List Str).length+b.length)).bind λ_=>(rsL10Make r.1 (([f.2]:List Str)++b) (w64 (c-1))).bind λs=>some (s.1,au.mk 7 0 f.2 [aN r.2,aN s.2])else bif (d.2==3)then (rsL10Make d.1 b (w64 (c-1))).bind λt=>(rsL10Make t.1 b (w64 (c-1))).bind λu=>(rsL10Make u.1 b (w64 (c-1))).bind λv=>some (v.1,au.mk 8 0 [] [aN t.2,aN u.2,aN v.2])else bif (d.2==4)then (idx b 0).bind λS=>(iY d.1 ([[117],[118],S]:List Str)).bind λe=>(mZ e.1 b).bind λw=>(gd (([e.2,e.2]:List Str).length+b.length)).bind λ_=>(rsL10Make w.1 (([e.2,e.2]:List Str)++b) (w64 (c-1))).bind λx=>some (x.1,au.mk 9 0 e.2 [aN w.2,aN x.2])else bif (d.2==5)then (mZ d.1 b).bind λy=>some (y.1,aN y.2)else bif (d.2==6)then (iY d.1 ([[108,101,110],[115,117,109]]:List Str)).bind λg=>(mZ g.1 b).bind λz=>(rsL10Make z.1 b (w64 (c-1))).bind λA=>(dO A.1 2).bind λh=>bif h.2 then some (h.1,au.mk 5 0 g.2 [aN z.2])else some (h.1,au.mk 5 0 g.2 [aN A.2])else bif (d.2==7)then (iY d.1 ([[116,97,107,101],[115,107,105,112],[110,116,104],[116,97,107,101]]:List Str)).bind λi=>(aU i.1 4).bind λB=>(gG B.2).bind λC=>(mZ B.1 b).bind λD=>(aU D.1 9).bind λE=>(gG E.2).bind λT=>(aU E.1 4).bind λF=>(gG F.2).bind λU=>(dO F.1 2).bind λj=>bif j.2 then some (j.1,au.mk 5 0 i.2 [aN C,aN D.2])else some (j.1,au.mk 5 0 i.2 ([aN C,au.mk 5 0 [114,97,110,103,101] [aN T,aN U]]))else bif (d.2==8)then (og d.1).bind λk=>(aU k.1 3).bind λG=>(gG G.2).bind λH=>(qX G.1).bind λI=>(rsL10Make I.1 b (w64 (c-1))).bind λJ=>(dO J.1 2).bind λl=>bif l.2 then some (l.1,au.mk 5 0 [119,104,101,114,101] [aN k.2,aN H,aN I.2])else some (l.1,au.mk 5 0 [119,104,101,114,101] [aN k.2,aN H,aN J.2])else bif (d.2==9)then (og d.1).bind λm=>(og m.1).bind λn=>(qX n.1).bind λK=>(rsL10Make K.1 b (w64 (c-1))).bind λL=>(dO L.1 2).bind λo=>bif o.2 then some (o.1,au.mk 5 0 [103,114,111,117,112] [aN m.2,aN n.2,aN K.2])else some (o.1,au.mk 5 0 [103,114,111,117,112] [aN m.2,aN n.2,aN L.2])else bif (d.2==10)then (qX d.1).bind λM=>(rsL10Make M.1 b (w64 (c-1))).bind λN=>(dO N.1 2).bind λp=>bif p.2 then some (p.1,au.mk 5 0 [114,111,119,115] [aN M.2])else some (p.1,au.mk 5 0 [114,111,119,115] [aN N.2])else bif (d.2==11)then (aU d.1 6).bind λO=>(gG (w64 (1+O.2))).bind λV=>some (O.1,au.mk 5 0 [99,104,97,110,99,101] [aN V])else (iY d.1 ([[102],[103],[104]]:List Str)).bind λP=>(dO P.1 2).bind λq=>bif q.2 then some (q.1,au.mk 5 0 [99,108,111,99,107] [])else some (q.1,au.mk 5 0 [102,105,108,101] ([au.mk 2 0 P.2 []]))
def kS:Nat->(aS->(List Str)->Int->Option (aS×au))
 | 0=>λ_ _ _=>none
 | n+1=>Hr (kS n)
def EQ(a:aS)(b:List Str)(c:Int):Option (aS×au):=(kS (siz a+siz b+1)) a b c
def Y2:Fsp:=⟨111,[shT .cur,slF .str,shF .int],[shT .cur,shT .expr],false,true,λx=>EQ x.1 x.2.1 x.2.2⟩
def zx(n:Nat):Fsp:=⟨111,[shT .cur,slF .str,shF .int],[shT .cur,shT .expr],false,true,λx=>(kS n) x.1 x.2.1 x.2.2⟩
def zK(a:aS):Option (aS×au):=(aU a 4).bind λc=>(EQ c.1 ([[97],[98],[99]]:List Str) (w64 (1+c.2))).bind λb=>(eF (aN b.2)).bind λe=>bif (!e)then (rP b.1 ([[97],[98],[99]]:List Str)).bind λd=>some (d.1,aN d.2)else some (b.1,aN b.2)
def Y6:Fsp:=⟨55,[shT .cur],[shT .cur,shT .expr],false,true,λx=>zK x⟩
def uj(a:aS):Option (aS×au):=(zK a).bind λe=>(dO e.1 3).bind λh=>bif (!h.2)then (lH [99,108,111,99,107] []).bind λr=>(aU h.1 5).bind λq=>(gG q.2).bind λs=>(lH [99,104,97,110,99,101] [aN s]).bind λt=>(rO 1 (aN t) (aN e.2)).bind λu=>(rO 1 (aN r) (aN u)).bind λf=>(dO q.1 4).bind λg=>bif g.2 then (mZ g.1 ([[97]]:List Str)).bind λb=>(eF (au.mk 9 0 [117] [aN b.2,aN f])).bind λi=>bif (!i)then (lH [99,108,111,99,107] []).bind λj=>some (b.1,aN j)else some (b.1,au.mk 9 0 [117] [aN b.2,aN f])else (eF (aN f)).bind λk=>bif (!k)then (lH [99,108,111,99,107] []).bind λl=>some (g.1,aN l)else some (g.1,aN f)else (dO h.1 4).bind λc=>bif c.2 then (mZ c.1 ([[97]]:List Str)).bind λd=>(eF (au.mk 9 0 [117] [aN d.2,aN e.2])).bind λm=>bif (!m)then (lH [99,108,111,99,107] []).bind λn=>some (d.1,aN n)else some (d.1,au.mk 9 0 [117] [aN d.2,aN e.2])else (eF (aN e.2)).bind λo=>bif (!o)then (lH [99,108,111,99,107] []).bind λp=>some (c.1,aN p)else some (c.1,aN e.2)
def PY:Fsp:=⟨20,[shT .cur],[shT .cur,shT .expr],false,false,λx=>uj x⟩
def EO(a:aS):Option (aS×au):=(aU a 4).bind λd=>aO (λ((m,n,o,p,q,s,t,u,v,w,x,y,z):alr (F6 (F6 (Int×Int))))=>bif (decide (z<y))then (gG z).bind λf=>(gd (x.length+[aN f].length)).bind λ_=>some (.inl (m,n,o,p,q,s,t,u,v,w,x++[aN f],y,w64 (z+1)))else ((lH [99,108,111,99,107] []).bind λg=>(dO (aS.mk m n o) 2).bind λe=>bif e.2 then (vU [118]).bind λj=>(vU [117]).bind λk=>(rO 1 (aN j) (aN k)).bind λl=>some (e.1,au.mk 9 0 [117] ([au.mk u v w x,au.mk 9 0 [118] [au.mk u v w x,aN l]]))else some (e.1,au.mk 9 0 [117] ([au.mk u v w x,au.mk 9 0 [118] [au.mk u v w x,aN g]]))).bind λr=>some (.inr r)) (d.1.b,d.1.i,d.1.h,0,0,[],[],4,0,[],[],w64 (5+d.2),0)
def YS:Fsp:=⟨22,[shT .cur],[shT .cur,shT .expr],false,true,λx=>EO x⟩
def lW(a:aS)(b:List Int):Option (aS×Int):=(aU a (b.length:Int)).bind λc=>(idx b c.2).bind λd=>some (c.1,d)
def Ue:Fsp:=⟨63,[shT .cur,slF .int],[shT .cur,shF .int],false,false,λx=>lW x.1 x.2⟩
def vW(a:aS):Option (aS×au):=(zK a).bind λd=>(aU d.1 12).bind λe=>bif (e.2==0)then (aU e.1 11).bind λj=>some (j.1,au.mk j.2 d.2.n d.2.text d.2.args)else bif (e.2==1)then (rP e.1 ([[97]]:List Str)).bind λg=>(gd (d.2.args.length+[aN g.2].length)).bind λ_=>some (g.1,au.mk d.2.kind d.2.n d.2.text (d.2.args++[aN g.2]))else bif (e.2==2)then (iY e.1 ([[108,101,116],[115,117,109],[],[120]]:List Str)).bind λk=>some (k.1,au.mk d.2.kind d.2.n k.2 d.2.args)else bif (e.2==3)then (lW e.1 [-1,7,1000000001]).bind λl=>some (l.1,au.mk d.2.kind l.2 d.2.text d.2.args)else bif (e.2==4)then aO (λ((o,p,q,r,s,t,u,v,w,x,y,z):alr (F6 (F6 Int)))=>bif (decide (z<7))then (gG z).bind λm=>(rO 1 (au.mk v w x y) (aN m)).bind λf=>some (.inl (o,p,q,r,s,t,u,f.kind,f.n,f.text,f.args,w64 (z+1)))else some (.inr (aS.mk o p q,au.mk v w x y))) (e.1.b,e.1.i,e.1.h,0,0,[],[],d.2.kind,d.2.n,d.2.text,d.2.args,0)else some (e.1,aN d.2)
def Y8:Fsp:=⟨23,[shT .cur],[shT .cur,shT .expr],false,true,λx=>vW x⟩
def aF(a:Int):Option (af):=some (af.mk 6 a 0 [] [] [] [])
def P7:Fsp:=⟨35,[shF .int],[shT .val],true,false,λx=>aF x⟩
def bF(a:Int):Option (af):=some (af.mk 1 a 0 [] [] [] [])
def LU:Fsp:=⟨67,[shF .int],[shT .val],true,false,λx=>bF x⟩
def iI(a:Str):Option (af):=some (af.mk 2 0 0 a [] [] [])
def TL:Fsp:=⟨86,[shF .str],[shT .val],true,false,λx=>iI x⟩
def mX(a:aS):Option (aS×Int):=(dO a 12).bind λb=>bif b.2 then (lW b.1 [1000000000,-1000000000,999999999,500000000,40000]).bind λc=>some (c.1,c.2)else (aU b.1 12).bind λd=>some (d.1,w64 (d.2-3))
def adL:Fsp:=⟨112,[shT .cur],[shT .cur,shF .int],false,false,λx=>mX x⟩
def xB(a:aS):Option (aS×Str):=(iY a ([[],[97],[98],[97,98],[104,101,108,108,111],[116,119,101,110,116,121,32,99,104,97,114,97,99,116,101,114,115,32,111,107],[110,105,110,101,116,101,101,110,32,99,104,97,114,97,99,116,101,114,46]]:List Str)).bind λb=>some (b.1,b.2)
def abK:Fsp:=⟨113,[shT .cur],[shT .cur,shF .str],false,false,λx=>xB x⟩
def xG(rsL3DrawList:aS->Int->Option (aS×af))(rsL3Element2:aS->Int->Option (aS×af))(a:aS)(b:Int):Option (aS×af):=(lW a [0,1,2,3,3,4,5,8]).bind λe=>aO (λ((f,g,j,k,l,m,n,o,p,q,r,s,t,u,v,w,x,y,z,A):alr (Int×o5 (o5 (Int×Int))))=>bif (decide (A<z))then (rsL3Element2 (aS.mk f g j) k).bind λd=>(gd (w.length+[ah d.2].length)).bind λ_=>some (.inl (d.1.b,d.1.i,d.1.h,k,l,m,n,o,p,q,r,s,t,u,v,w++[ah d.2],x,y,z,w64 (A+1)))else some (.inr (aS.mk f g j,af.mk s t u v w x y))) (e.1.b,e.1.i,e.1.h,b,0,0,0,[],[],[],[],3,0,0,[],[],[],[],e.2,0)
def xE(rsL3DrawList:aS->Int->Option (aS×af))(rsL3Element2:aS->Int->Option (aS×af))(a:aS)(b:Int):Option (aS×af):=bif (decide (b>1))then (dO a 4).bind λd=>bif d.2 then (rsL3DrawList d.1 (w64 (b-1))).bind λi=>some (i.1,ah i.2)else (dO d.1 4).bind λe=>bif e.2 then (xB e.1).bind λj=>(iI j.2).bind λm=>some (j.1,ah m)else (mX e.1).bind λk=>(bF k.2).bind λn=>some (k.1,ah n)else (dO a 4).bind λf=>bif f.2 then (xB f.1).bind λl=>(iI l.2).bind λg=>some (l.1,ah g)else (mX f.1).bind λc=>(bF c.2).bind λh=>some (c.1,ah h)
def eu:Nat->(aS->Int->Option (aS×af))×(aS->Int->Option (aS×af))
 | 0=>(λ_ _=>none,λ_ _=>none)
 | n+1=>(xG (eu n).1 (eu n).2,xE (eu n).1 (eu n).2)
def zh(a:aS)(b:Int):Option (aS×af):=(eu (siz a+9)).1 a b
def PS:Fsp:=⟨114,[shT .cur,shF .int],[shT .cur,shT .val],false,false,λx=>zh x.1 x.2⟩
def rH(n:Nat):Fsp:=⟨114,[shT .cur,shF .int],[shT .cur,shT .val],false,false,λx=>(eu n).1 x.1 x.2⟩
def V7(a:aS)(b:Int):Option (aS×af):=(eu (siz a+9)).2 a b
def PO:Fsp:=⟨153,[shT .cur,shF .int],[shT .cur,shT .val],false,false,λx=>V7 x.1 x.2⟩
def rE(n:Nat):Fsp:=⟨153,[shT .cur,shF .int],[shT .cur,shT .val],false,false,λx=>(eu n).2 x.1 x.2⟩
def xC(a:aS):Option (aS×af):=(aU a 9).bind λd=>aO (λ((g,j,k,l,m,n,o,p,q,r,s,t,u,v,w,x,y,z,A):alr (o5 (o5 (Int×Int))))=>bif (decide (A<z))then (mX (aS.mk g j k)).bind λe=>(bF e.2).bind λf=>(gd (w.length+[ah f].length)).bind λ_=>some (.inl (e.1.b,e.1.i,e.1.h,l,m,n,o,p,q,r,s,t,u,v,w++[ah f],x,y,z,w64 (A+1)))else some (.inr (aS.mk g j k,af.mk s t u v w x y))) (d.1.b,d.1.i,d.1.h,0,0,0,[],[],[],[],3,0,0,[],[],[],[],d.2,0)
def Ub:Fsp:=⟨115,[shT .cur],[shT .cur,shT .val],false,true,λx=>xC x⟩
def kQ(a:Int)(b:Int):Option (af):=some (af.mk 4 a b [] [] [] [])
def LK:Fsp:=⟨116,[shF .int,shF .int],[shT .val],true,false,λx=>kQ x.1 x.2⟩
def EJ(a:aS):Option (aS×(List aj)):=(aU a 3).bind λd=>aO (λ((g,j,k,l,m,n,o):alr ((List aj)×Int×Int×Int))=>bif (decide (o<n))then (aU (aS.mk g j k) 2).bind λf=>(gd (l.length+[aj.mk m (w64 (o+(w64 (f.2*2))))].length)).bind λ_=>(aU f.1 2).bind λe=>some (.inl (e.1.b,e.1.i,e.1.h,l++[aj.mk m (w64 (o+(w64 (f.2*2))))],w64 ((w64 (m+1))+e.2),n,w64 (o+1)))else some (.inr (aS.mk g j k,l))) (d.1.b,d.1.i,d.1.h,[],1,d.2,0)
def abN:Fsp:=⟨154,[shT .cur],[shT .cur,slF .origin],true,false,λx=>EJ x⟩
def kR(a:aS):Option (aS×af):=(aU a 3).bind λp=>(cutAt ([[97],[98],[99],[120]]:List Str) (w64 (1+p.2))).bind λm=>(gd (0+(([[97],[98],[99],[120]]:List Str).take m).length)).bind λ_=>(dO p.1 5).bind λq=>bif q.2 then (idx ([]++(([[97],[98],[99],[120]]:List Str).take m)) 0).bind λ_=>(([]++(([[97],[98],[99],[120]]:List Str).take m))[0]?).bind λt=>(cutAt (([]++(([[97],[98],[99],[120]]:List Str).take m)).set 0 [120]) 1).bind λs=>(aU q.1 6).bind λn=>aO (λ((u,v,w,x,y,z,A,B,C,D,E,F,G,H,I,J,K,L,M,N):alr (o5 (Int×o5 (Int×Int))))=>bif (decide (N<M))then (EJ (aS.mk u v w)).bind λo=>aO (λ((f,O,P,Q,R,S,T,U,V,W,X,Y,Z,aa,ab,ac,ae,ao,aq,ar,aw,aD,aE):alr (o5 (Int×o5 (Int×alA))))=>bif (decide (aE<X))then (mX (aS.mk f O P)).bind λg=>(gd (aw.length+[g.2].length)).bind λ_=>some (.inl (g.1.b,g.1.i,g.1.h,Q,R,S,T,U,V,W,X,Y,Z,aa,ab,ac,ae,ao,aq,ar,aw++[g.2],aD,w64 (aE+1)))else ((gd (ao.length+[aB.mk aw aD].length)).bind λ_=>some (.inl (f,O,P,Q,R,S,T,U,V,W,X,Y,Z,aa,ab,ac,ae,ao++[aB.mk aw aD],aq,w64 (ar+1)))).bind λr=>some (.inr r)) (o.1.b,o.1.i,o.1.h,x,y,z,A,B,C,D,E,F,G,H,I,J,K,L,M,N,[],o.2,0)else some (.inr (aS.mk u v w,af.mk F G H I J K L))) (n.1.b,n.1.i,n.1.h,0,0,0,[],[],[],[],1,5,0,0,[],[],(([]++(([[97],[98],[99],[120]]:List Str).take m)).set 0 [120]).take s,[],n.2,0)else (aU q.1 6).bind λk=>aO (λ((c,aL,aM,aR,ba,bc,bd,bh,bj,bl,bm,bp,br,bu,bw,bz,bA,bB,bE,bL):alr (o5 (Int×o5 (Int×Int))))=>bif (decide (bL<bE))then (EJ (aS.mk c aL aM)).bind λl=>
   aO (λ((e,bN,bO,bR,bS,bX,cd,ce,cf,ch,ci,cj,ck,cm,cn,cp,cq,cr,cA,cB,cC,cE,cF):alr (o5 (Int×o5 (Int×alA))))=>
    bif (decide (cF<ci))then
     (mX (aS.mk e bN bO)).bind λj=>
     (gd (cC.length+[j.2].length)).bind λ_=>
     some (.inl (j.1.b,j.1.i,j.1.h,bR,bS,bX,cd,ce,cf,ch,ci,cj,ck,cm,cn,cp,cq,cr,cA,cB,cC++[j.2],cE,w64 (cF+1)))
    else
     (
      (gd (cr.length+[aB.mk cC cE].length)).bind λ_=>
      some (.inl (e,bN,bO,bR,bS,bX,cd,ce,cf,ch,ci,cj,ck,cm,cn,cp,cq,cr++[aB.mk cC cE],cA,w64 (cB+1)))
     ).bind λr=>some (.inr r)
   ) (l.1.b,l.1.i,l.1.h,aR,ba,bc,bd,bh,bj,bl,bm,bp,br,bu,bw,bz,bA,bB,bE,bL,[],l.2,0)
  else
   some (.inr (aS.mk c aL aM,af.mk bp br bu bw bz bA bB))
 ) (k.1.b,k.1.i,k.1.h,0,0,0,[],[],[],[],w64 (1+p.2),5,0,0,[],[],[]++(([[97],[98],[99],[120]]:List Str).take m),[],k.2,0)
def L8:Fsp:=⟨117,[shT .cur],[shT .cur,shT .val],true,false,λx=>kR x⟩
def Kr(a:aS):Option (aS×af):=(aU a 10).bind λb=>bif (b.2==0)then (mX b.1).bind λk=>(bF k.2).bind λo=>some (k.1,ah o)else bif (b.2==1)then (mX b.1).bind λl=>(bF l.2).bind λp=>some (l.1,ah p)else bif (b.2==2)then (mX b.1).bind λm=>(bF m.2).bind λq=>some (m.1,ah q)else bif (b.2==3)then (xB b.1).bind λn=>(iI n.2).bind λr=>some (n.1,ah r)else bif (b.2==4)then (zh b.1 3).bind λc=>some (c.1,ah c.2)else bif (b.2==5)then (xC b.1).bind λd=>some (d.1,ah d.2)else bif (b.2==6)then (mX b.1).bind λe=>(mX e.1).bind λf=>(kQ e.2 f.2).bind λi=>some (f.1,ah i)else bif (b.2==7)then (aU b.1 8).bind λg=>(aF (w64 (1+g.2))).bind λj=>some (g.1,ah j)else (kR b.1).bind λh=>some (h.1,ah h.2)
def abO:Fsp:=⟨64,[shT .cur],[shT .cur,shT .val],false,false,λx=>Kr x⟩
def iT(a:Int):Option (Bool):=(vM a (-1000000000) 1000000000).bind λb=>some (b)
def V6:Fsp:=⟨42,[shF .int],[shF .bool],true,false,λx=>iT x⟩
def rF(a:af):Option (Bool):=bif (a.kind==1)then some (true)else bif (a.kind==2)then some (true)else some ((a.kind==3))
def Uc:Fsp:=⟨99,[shT .val],[shF .bool],true,false,λx=>rF x⟩
def Hz(rsDepthOf:af->Option (Int))(a:af):Option (Int):=aO (λ((f,g,h,i,j,k,l,m,o):o5 (Int×Int))=>bif (decide (o<(j.length:Int)))then (idx j o).bind λc=>(rsDepthOf (ah c)).bind λd=>(Dq m d).bind λe=>some (.inl (f,g,h,i,j,k,l,e,w64 (o+1)))else some (.inr (w64 (m+1)))) (a.kind,a.n,a.step,a.text,a.list,a.columns,a.rows,0,0)
def vZ:Nat->(af->Option (Int))
 | 0=>λ_=>none
 | n+1=>Hz (vZ n)
def EU(a:af):Option (Int):=(vZ (siz a+1)) a
def Zb:Fsp:=⟨100,[shT .val],[shF .int],true,false,λx=>EU x⟩
def zT(n:Nat):Fsp:=⟨100,[shT .val],[shF .int],true,false,λx=>(vZ n) x⟩
def kT(a:List Str):Option (Bool):=aO (λ(b:(List Str)×Int)=>bif (decide (b.2<(b.1.length:Int)))then (eff.cutL b.1 none (some b.2)).bind λc=>(idx b.1 b.2).bind λd=>(Hg c d).bind λe=>bif e then some (.inr (false))else some (.inl (b.1,w64 (b.2+1)))else some (.inr (true))) (a,0)
def MW:Fsp:=⟨145,[slF .str],[shF .bool],true,false,λx=>kT x⟩
def rJ(a:List Str):Option (Bool):=aO (λ(b:(List Str)×Int)=>bif (decide (b.2<(b.1.length:Int)))then (idx b.1 b.2).bind λc=>(eY c).bind λd=>bif (!d)then some (.inr (false))else some (.inl (b.1,w64 (b.2+1)))else ((vM (b.1.length:Int) 1 4).bind λe=>bif e then (kT b.1).bind λf=>some (f)else some (false)).bind λr=>some (.inr r)) (a,0)
def Ud:Fsp:=⟨101,[slF .str],[shF .bool],true,false,λx=>rJ x⟩
def jM(a:aj)(b:aj):Option (Bool):=bif (decide (a.cell<b.cell))then some (true)else bif (a.cell==b.cell)then some ((decide (a.row<b.row)))else some (false)
def V8:Fsp:=⟨146,[shT .origin,shT .origin],[shF .bool],true,false,λx=>jM x.1 x.2⟩
def qJ(a:List aj):Option (Bool):=aO (λ(b:(List aj)×Int)=>bif (decide (b.2<(b.1.length:Int)))then (idx b.1 b.2).bind λc=>bif (decide (c.cell<0))then some (.inr (false))else (idx b.1 b.2).bind λd=>bif (decide (d.row<0))then some (.inr (false))else bif (decide (b.2>0))then (idx b.1 (w64 (b.2-1))).bind λe=>(idx b.1 b.2).bind λf=>(jM e f).bind λg=>bif (!g)then some (.inr (false))else some (.inl (b.1,w64 (b.2+1)))else some (.inl (b.1,w64 (b.2+1)))else some (.inr (true))) (a,0)
def Mc:Fsp:=⟨102,[slF .origin],[shF .bool],true,false,λx=>qJ x⟩
def y7(a:af):Option (Bool):=(rJ a.columns).bind λe=>bif (!e)then some (false)else bif (decide ((a.rows.length:Int)>12))then some (false)else aO (λ((i,j,k,l,m,o,p,q):o5 Int)=>bif (decide (q<(p.length:Int)))then (idx p q).bind λd=>bif ((d.cells.length:Int) != (o.length:Int))then some (.inr (false))else (qJ d.orig).bind λf=>bif (!f)then some (.inr (false))else aO (λ((c,s,t,u,v,w,x,y,z,A,B):o5 alA)=>bif (decide (B<(z.length:Int)))then (idx z B).bind λg=>(iT g).bind λh=>bif (!h)then (some (.inr (false))).bind λr=>some (.inr r)else some (.inl (c,s,t,u,v,w,x,y,z,A,w64 (B+1)))else some (.inr (.inl (c,s,t,u,v,w,x,w64 (y+1))))) (i,j,k,l,m,o,p,q,d.cells,d.orig,0)else some (.inr (true))) (a.kind,a.n,a.step,a.text,a.list,a.columns,a.rows,0)
def YL:Fsp:=⟨45,[shT .val],[shF .bool],true,false,λx=>y7 x⟩
def rQ(rsIsValidValue:af->Option (Bool))(rsL3List:af->Option (Bool))(a:af):Option (Bool):=lJ (X:=alq) (bif (a.kind != 3)then bif (decide ((a.list.length:Int)>0))then some (.inr (false))else bif (a.kind != 5)then bif (decide ((w64 ((a.columns.length:Int)+(a.rows.length:Int)))>0))then some (.inr (false))else some (.inl (a.kind,a.n,a.step,a.text,a.list,a.columns,a.rows))else some (.inl (a.kind,a.n,a.step,a.text,a.list,a.columns,a.rows))else bif (a.kind != 5)then bif (decide ((w64 ((a.columns.length:Int)+(a.rows.length:Int)))>0))then some (.inr (false))else some (.inl (a.kind,a.n,a.step,a.text,a.list,a.columns,a.rows))else some (.inl (a.kind,a.n,a.step,a.text,a.list,a.columns,a.rows))) λ((k,l,m,o,p,q,r):alq)=>lJ (X:=alq) (bif (k != 2)then bif (!(o==[]))then some (.inr (false))else bif (k != 4)then bif (m != 0)then some (.inr (false))else some (.inl (k,l,m,o,p,q,r))else some (.inl (k,l,m,o,p,q,r))else bif (k != 4)then bif (m != 0)then some (.inr (false))else some (.inl (k,l,m,o,p,q,r))else some (.inl (k,l,m,o,p,q,r))) λ((b,s,t,u,v,w,x):alq)=>bif (b==1)then (iT s).bind λd=>some (d)else bif (b==2)then bif (s==0)then (iq u).bind λe=>some (e)else some (false)else bif (b==3)then bif (s==0)then (rsL3List (af.mk b s t u v w x)).bind λf=>some (f)else some (false)else bif (b==4)then (iT s).bind λg=>bif g then (iT t).bind λh=>some (h)else some (false)else bif (b==5)then bif (s==0)then (y7 (af.mk b s t u v w x)).bind λi=>some (i)else some (false)else bif (b==6)then (vM s 1 8).bind λj=>some (j)else some (false)
def L6(rsIsValidValue:af->Option (Bool))(rsL3List:af->Option (Bool))(a:af):Option (Bool):=aO (λ((h,i,j,k,l,m,o,p):o5 Int)=>bif (decide (p<(l.length:Int)))then (idx l p).bind λc=>(rF (ah c)).bind λd=>bif (!d)then some (.inr (false))else (idx l p).bind λe=>(rsIsValidValue (ah e)).bind λf=>bif (!f)then some (.inr (false))else some (.inl (h,i,j,k,l,m,o,w64 (p+1)))else (bif (decide ((l.length:Int)<=8))then (EU (af.mk h i j k l m o)).bind λg=>some ((decide (g<=3)))else some (false)).bind λr=>some (.inr r)) (a.kind,a.n,a.step,a.text,a.list,a.columns,a.rows,0)
def cZ:Nat->(af->Option (Bool))×(af->Option (Bool))
 | 0=>(λ_=>none,λ_=>none)
 | n+1=>(rQ (cZ n).1 (cZ n).2,L6 (cZ n).1 (cZ n).2)
def iC(a:af):Option (Bool):=(cZ (siz a+1)).1 a
def JG:Fsp:=⟨14,[shT .val],[shF .bool],true,false,λx=>iC x⟩
def oh(n:Nat):Fsp:=⟨14,[shT .val],[shF .bool],true,false,λx=>(cZ n).1 x⟩
def agl(a:af):Option (Bool):=(cZ (siz a+1)).2 a
def abM:Fsp:=⟨44,[shT .val],[shF .bool],true,false,λx=>agl x⟩
def Dn(n:Nat):Fsp:=⟨44,[shT .val],[shF .bool],true,false,λx=>(cZ n).2 x⟩
def LZ(a:aB):Option (aB):=(gd (0+a.cells.length)).bind λ_=>(gd (0+a.orig.length)).bind λ_=>some (aB.mk ([]++a.cells) ([]++a.orig))
def adK:Fsp:=⟨96,[shT .row],[shT .row],true,false,λx=>LZ x⟩
def L9(rsL3Copy:af->Option (af))(a:af):Option (af):=(gd (0+a.columns.length)).bind λ_=>aO (λ((h,i,j,k,l,m,o,p,q,s,t,u,v,w,x,y,z,A,B,C,D,E):o5 (o5 (o5 Int)))=>bif (decide (E<(l.length:Int)))then (idx l E).bind λf=>(rsL3Copy (ah f)).bind λd=>(gd (B.length+[ah d].length)).bind λ_=>some (.inl (h,i,j,k,l,m,o,p,q,s,t,u,v,w,x,y,z,A,B++[ah d],C,D,w64 (E+1)))else (aO (λ((b,F,G,H,I,J,K,L,M,N,O,P,Q,R,S,T,U,V,W,X,Y,Z):o5 (o5 (o5 Int)))=>bif (decide (Z<(K.length:Int)))then (idx K Z).bind λg=>(LZ g).bind λe=>(gd (Y.length+[e].length)).bind λ_=>some (.inl (b,F,G,H,I,J,K,L,M,N,O,P,Q,R,S,T,U,V,W,X,Y++[e],w64 (Z+1)))else some (.inr (af.mk S T U V W X Y))) (h,i,j,k,l,m,o,p,q,s,t,u,v,w,x,y,z,A,B,C,D,0)).bind λr=>some (.inr r)) (a.kind,a.n,a.step,a.text,a.list,a.columns,a.rows,0,0,0,[],[],[],[],a.kind,a.n,a.step,a.text,[],[]++a.columns,[],0)
def zk:Nat->(af->Option (af))
 | 0=>λ_=>none
 | n+1=>L9 (zk n)
def jW(a:af):Option (af):=(zk (siz a+1)) a
def abP:Fsp:=⟨38,[shT .val],[shT .val],true,false,λx=>jW x⟩
def Dp(n:Nat):Fsp:=⟨38,[shT .val],[shT .val],true,false,λx=>(zk n) x⟩
def mW(a:Int)(b:af):Option (af):=bif (b.kind != 5)then (aF 4).bind λe=>some (ah e)else (iC (ah b)).bind λf=>bif (!f)then (aF 4).bind λg=>some (ah g)else bif (decide (a<0))then (aF 4).bind λh=>some (ah h)else (jW (ah b)).bind λd=>aO (λ((j,k,l,m,o,p,q,r,s,t,u,v,w,x,y,z):Int×o5 (o5 Int))=>bif (decide (z<(y.length:Int)))then (idx y z).bind λ_=>(y[z.toNat]?).bind λi=>some (.inl (j,k,l,m,o,p,q,r,s,t,u,v,w,x,y.set z.toNat (aB.mk i.cells [aj.mk j z]),w64 (z+1)))else some (.inr (af.mk s t u v w x y))) (a,0,0,0,[],[],[],[],d.kind,d.n,d.step,d.text,d.list,d.columns,d.rows,0)
def LP:Fsp:=⟨118,[shF .int,shT .val],[shT .val],true,false,λx=>mW x.1 x.2⟩
def mV:aS->List Int->Option (aS×List Int)
 | c,[]=>some (c,[])
 | c,_::r=>(aU c 4).bind λx=>(mV x.1 r).bind λy=>some (y.1,x.2::y.2)
def lS:aS->List aB->Option (aS×List aB)
 | c,[]=>some (c,[])
 | c,x::r=>(mV c x.cells).bind λy=>(lS y.1 r).bind λz=>some (z.1,aB.mk y.2 x.orig::z.2)
def qW(a:aS)(b:Int):Option (aS×af):=(kR a).bind λr=>(lS r.1 r.2.rows).bind λq=>(mW b (af.mk r.2.kind r.2.n r.2.step r.2.text r.2.list r.2.columns q.2)).bind λy=>some (q.1,y)
def V3:Fsp:=⟨65,[shT .cur,shF .int],[shT .cur,shT .val],false,false,λx=>qW x.1 x.2⟩
def jO(a:aS):Option (aS×(List ak)):=(aU a 5).bind λf=>aO (λ((m,n,o,p,q,r):alr ((List ak)×Int×Int))=>bif (decide (r<q))then (Kr (aS.mk m n o)).bind λg=>(dO g.1 3).bind λj=>bif j.2 then (aU j.1 3).bind λl=>(qW l.1 (w64 (1+l.2))).bind λk=>(iY k.1 ([[97],[98],[99]]:List Str)).bind λd=>(gd (p.length+[ak.mk d.2 (ah k.2)].length)).bind λ_=>some (.inl (d.1.b,d.1.i,d.1.h,p++[ak.mk d.2 (ah k.2)],q,w64 (r+1)))else (iY j.1 ([[97],[98],[99]]:List Str)).bind λe=>(gd (p.length+[ak.mk e.2 (ah g.2)].length)).bind λ_=>some (.inl (e.1.b,e.1.i,e.1.h,p++[ak.mk e.2 (ah g.2)],q,w64 (r+1)))else some (.inr (aS.mk m n o,p))) (f.1.b,f.1.i,f.1.h,[],f.2,0)
def Wj:Fsp:=⟨24,[shT .cur],[shT .cur,slF .binding],false,true,λx=>jO x⟩
def EP(a:aS):Option (aS×aG):=(aU a 3).bind λb=>(aU b.1 7).bind λc=>(iY c.1 ([[102],[103],[104],[122]]:List Str)).bind λd=>(aU d.1 3).bind λe=>some (e.1,aG.mk (w64 (1+b.2)) c.2 e.2 d.2 (af.mk 0 0 0 [] [] [] []))
def YW:Fsp:=⟨66,[shT .cur],[shT .cur,shT .read],false,true,λx=>EP x⟩
def lF(a:aS):Option (aS×(List aG)):=(aU a 4).bind λe=>aO (λ((l,m,o,p,q,r):alr ((List aG)×Int×Int))=>bif (decide (r<q))then (EP (aS.mk l m o)).bind λc=>bif (c.2.kind != 2)then bif (c.2.kind != 3)then (bF (w64 (50+r))).bind λf=>(gd (p.length+([aG.mk c.2.kind 0 c.2.time [] (ah f)]).length)).bind λ_=>some (.inl (c.1.b,c.1.i,c.1.h,p++([aG.mk c.2.kind 0 c.2.time [] (ah f)]),q,w64 (r+1)))else (bF (w64 (50+r))).bind λg=>(gd (p.length+[aG.mk c.2.kind 0 c.2.time c.2.text (ah g)].length)).bind λ_=>some (.inl (c.1.b,c.1.i,c.1.h,p++[aG.mk c.2.kind 0 c.2.time c.2.text (ah g)],q,w64 (r+1)))else bif (c.2.kind != 3)then (bF (w64 (50+r))).bind λj=>(gd (p.length+([aG.mk c.2.kind c.2.n c.2.time [] (ah j)]).length)).bind λ_=>some (.inl (c.1.b,c.1.i,c.1.h,p++([aG.mk c.2.kind c.2.n c.2.time [] (ah j)]),q,w64 (r+1)))else (bF (w64 (50+r))).bind λk=>(gd (p.length+[aG.mk c.2.kind c.2.n c.2.time c.2.text (ah k)].length)).bind λ_=>some (.inl (c.1.b,c.1.i,c.1.h,p++[aG.mk c.2.kind c.2.n c.2.time c.2.text (ah k)],q,w64 (r+1)))else some (.inr (aS.mk l m o,p))) (e.1.b,e.1.i,e.1.h,[],e.2,0)
def YP:Fsp:=⟨25,[shT .cur],[shT .cur,slF .read],false,true,λx=>lF x⟩
def lG(a:aS):Option (aS×bV):=(aU a 20).bind λo=>(aU o.1 1000).bind λn=>(dO n.1 10).bind λg=>bif g.2 then (aU g.1 2).bind λm=>aO (λ((q,r,s,t,u,v,w,x,y,z,A,B):alr (alB (alB alu)))=>bif (decide (B<A))then (idx z B).bind λ_=>(z[B.toNat]?).bind λp=>(dO (aS.mk q r s) 3).bind λj=>bif (!j.2)then (aU j.1 9).bind λk=>(gd (y.length+[fP.mk p k.2].length)).bind λ_=>some (.inl (k.1.b,k.1.i,k.1.h,t,u,v,w,x,y++[fP.mk p k.2],z,A,w64 (B+1)))else some (.inl (j.1.b,j.1.i,j.1.h,t,u,v,w,x,y,z,A,w64 (B+1)))else some (.inr (aS.mk q r s,bV.mk w x y))) (m.1.b,m.1.i,m.1.h,0,0,[],w64 (999+m.2),n.2,[],([[102],[103],[104]]:List Str),(([[102],[103],[104]]:List Str).length:Int),0)else aO (λ((d,C,D,E,F,G,H,I,J,K,L,M):alr (alB (alB alu)))=>bif (decide (M<L))then (idx K M).bind λ_=>(K[M.toNat]?).bind λl=>(dO (aS.mk d C D) 3).bind λe=>bif (!e.2)then (aU e.1 9).bind λf=>(gd (J.length+[fP.mk l f.2].length)).bind λ_=>some (.inl (f.1.b,f.1.i,f.1.h,E,F,G,H,I,J++[fP.mk l f.2],K,L,w64 (M+1)))else some (.inl (e.1.b,e.1.i,e.1.h,E,F,G,H,I,J,K,L,w64 (M+1)))else some (.inr (aS.mk d C D,bV.mk H I J))) (g.1.b,g.1.i,g.1.h,0,0,[],o.2,n.2,[],([[102],[103],[104]]:List Str),(([[102],[103],[104]]:List Str).length:Int),0)
def YX:Fsp:=⟨26,[shT .cur],[shT .cur,shT .world],false,true,λx=>lG x⟩
def oN(a:List Int):Option (au×(List ak)×(List aG)×bV×Int×Int):=(Uf a).bind λC=>(uj C).bind λw=>(dO w.1 10).bind λq=>bif q.2 then (EO q.1).bind λx=>(dO x.1 16).bind λr=>bif r.2 then (vW r.1).bind λy=>(jO y.1).bind λz=>(lF z.1).bind λA=>(lG A.1).bind λB=>(aU B.1 9).bind λc=>(aU c.1 5).bind λs=>some (aN y.2,z.2,A.2,B.2,w64 (1+c.2),w64 (1+s.2))else (jO r.1).bind λd=>(lF d.1).bind λe=>(lG e.1).bind λf=>(aU f.1 9).bind λg=>(aU g.1 5).bind λt=>some (aN x.2,d.2,e.2,f.2,w64 (1+g.2),w64 (1+t.2))else (dO q.1 16).bind λb=>bif b.2 then (vW b.1).bind λh=>(jO h.1).bind λi=>(lF i.1).bind λj=>(lG j.1).bind λk=>(aU k.1 9).bind λl=>(aU l.1 5).bind λu=>some (aN h.2,i.2,j.2,k.2,w64 (1+l.2),w64 (1+u.2))else (jO b.1).bind λm=>(lF m.1).bind λn=>(lG n.1).bind λo=>(aU o.1 9).bind λp=>(aU p.1 5).bind λv=>some (aN w.2,m.2,n.2,o.2,w64 (1+p.2),w64 (1+v.2))
def JI:Fsp:=⟨7,[slF .u8],[shT .expr,slF .binding,slF .read,shT .world,shF .int,shF .int],false,false,λx=>oN x⟩
def Ap(riNodeCount:au->Option (Int))(a:au):Option (Int):=aO (λ((e,f,g,h):Int×alD)=>bif (decide (h<g))then (idx f h).bind λc=>(riNodeCount (aN c)).bind λd=>some (.inl (w64 (e+d),f,g,w64 (h+1)))else some (.inr (e))) (1,a.args,(a.args.length:Int),0)
def mM:Nat->(au->Option (Int))
 | 0=>λ_=>none
 | n+1=>Ap (mM n)
def DZ(a:au):Option (Int):=(mM (siz a+1)) a
def U4:Fsp:=⟨69,[shT .expr],[shF .int],true,false,λx=>DZ x⟩
def uV(n:Nat):Fsp:=⟨69,[shT .expr],[shF .int],true,false,λx=>(mM n) x⟩
def Aq(riNestingOf:au->Option (Int))(a:au):Option (Int):=aO (λ((e,f,g,h):Int×alD)=>bif (decide (h<g))then (idx f h).bind λd=>(riNestingOf (aN d)).bind λc=>some (.inl ((if c>e then c else e),f,g,w64 (h+1)))else some (.inr (w64 (e+1)))) (0,a.args,(a.args.length:Int),0)
def qc:Nat->(au->Option (Int))
 | 0=>λ_=>none
 | n+1=>Aq (qc n)
def D5(a:au):Option (Int):=(qc (siz a+1)) a
def U5:Fsp:=⟨70,[shT .expr],[shF .int],true,false,λx=>D5 x⟩
def uX(n:Nat):Fsp:=⟨70,[shT .expr],[shF .int],true,false,λx=>(qc n) x⟩
def jB(a:Int)(b:Int)(c:Int):Option (Bool):=bif (decide (b<=a))then some ((decide (a<=c)))else some (false)
def acy:Fsp:=⟨148,[shF .int,shF .int,shF .int],[shF .bool],true,false,λx=>jB x.1 x.2.1 x.2.2⟩
def KL(a:Str):Option (Bool):=aO (λ(b:Str×Int)=>bif (decide (b.2<(b.1.length:Int)))then (idx b.1 b.2).bind λc2=>bif (decide ((c2.toNat:Int)>=97))then (idx b.1 b.2).bind λc3=>bif (!(decide ((c3.toNat:Int)<=122)))then bif (b.2==0)then some (.inr (false))else (idx b.1 b.2).bind λc4=>bif (decide ((c4.toNat:Int)<48))then some (.inr (false))else (idx b.1 b.2).bind λc=>bif (decide ((c.toNat:Int)>57))then some (.inr (false))else some (.inl (b.1,w64 (b.2+1)))else some (.inl (b.1,w64 (b.2+1)))else bif (b.2==0)then some (.inr (false))else (idx b.1 b.2).bind λd=>bif (decide ((d.toNat:Int)<48))then some (.inr (false))else (idx b.1 b.2).bind λe=>bif (decide ((e.toNat:Int)>57))then some (.inr (false))else some (.inl (b.1,w64 (b.2+1)))else ((jB (b.1.length:Int) 1 8).bind λf=>some (f)).bind λr=>some (.inr r)) (a,0)
def acD:Fsp:=⟨105,[shF .str],[shF .bool],true,false,λx=>KL x⟩
def dR(a:Str):Option (Int):=bif (a==[99,108,111,99,107])then some (0)else bif (a==[108,101,110])then some (1)else bif (a==[115,117,109])then some (1)else bif (a==[114,111,119,115])then some (1)else bif (a==[99,104,97,110,99,101])then some (1)else bif (a==[102,105,108,101])then some (1)else bif (a==[116,97,107,101])then some (2)else bif (a==[115,107,105,112])then some (2)else bif (a==[114,97,110,103,101])then some (2)else bif (a==[110,116,104])then some (2)else bif (a==[107,101,101,112])then some (2)else bif (a==[99,111,108,117,109,110])then some (2)else bif (a==[116,97,98,108,101])then some (2)else bif (a==[119,104,101,114,101])then some (3)else bif (a==[103,114,111,117,112])then some (3)else bif (a==[106,111,105,110])then some (3)else bif (a==[97,100,100])then some (4)else some ((-1))
def IK:Fsp:=⟨149,[shF .str],[shF .int],true,false,λx=>dR x⟩
def uD(a:Str):Option (Bool):=bif (a==[108,101,116])then some (true)else bif (a==[105,110])then some (true)else bif (a==[105,102])then some (true)else bif (a==[116,104,101,110])then some (true)else bif (a==[101,108,115,101])then some (true)else bif (a==[102,111,114])then some (true)else bif (a==[100,111])then some (true)else (dR a).bind λb=>some ((decide (b>=0)))
def Qw:Fsp:=⟨106,[shF .str],[shF .bool],true,false,λx=>uD x⟩
def fK(a:Str):Option (Bool):=(KL a).bind λb=>bif b then (uD a).bind λc=>some ((!c))else some (false)
def Oy:Fsp:=⟨51,[shF .str],[shF .bool],true,false,λx=>fK x⟩
def kW(a:Str):Option (Bool):=aO (λ(b:Str×Int)=>bif (decide (b.2<(b.1.length:Int)))then (idx b.1 b.2).bind λc2=>bif (decide ((c2.toNat:Int)<32))then some (.inr (false))else (idx b.1 b.2).bind λc3=>bif (decide ((c3.toNat:Int)>126))then some (.inr (false))else (idx b.1 b.2).bind λc4=>bif ((c4.toNat:Int)==34)then some (.inr (false))else some (.inl (b.1,w64 (b.2+1)))else some (.inr ((decide ((b.1.length:Int)<=20))))) (a,0)
def Ox:Fsp:=⟨155,[shF .str],[shF .bool],true,false,λx=>kW x⟩
def BF(a:au):Option (Bool):=bif (a.kind==1)then (jB a.n 0 1000000000).bind λb=>bif b then bif (a.text==[])then some (((a.args.length:Int)==0))else some (false)else some (false)else bif (a.kind==2)then bif (a.n==0)then (kW a.text).bind λc=>bif c then some (((a.args.length:Int)==0))else some (false)else some (false)else bif (a.kind==3)then bif (a.n==0)then (fK a.text).bind λd=>bif d then some (((a.args.length:Int)==0))else some (false)else some (false)else bif (a.kind==4)then bif (a.n==0)then bif (a.text==[])then some ((decide ((a.args.length:Int)<=8)))else some (false)else some (false)else bif (a.kind==5)then bif (a.n==0)then (dR a.text).bind λe=>some (((a.args.length:Int)==e))else some (false)else bif (a.kind==6)then (jB a.n 1 5).bind λf=>bif f then bif (a.text==[])then some (((a.args.length:Int)==2))else some (false)else some (false)else bif (a.kind==7)then bif (a.n==0)then (fK a.text).bind λg=>bif g then some (((a.args.length:Int)==2))else some (false)else some (false)else bif (a.kind==9)then bif (a.n==0)then (fK a.text).bind λh=>bif h then some (((a.args.length:Int)==2))else some (false)else some (false)else bif (a.kind==8)then bif (a.n==0)then bif (a.text==[])then some (((a.args.length:Int)==3))else some (false)else some (false)else some (false)
def acF:Fsp:=⟨119,[shT .expr],[shF .bool],true,false,λx=>BF x⟩
def Ea(riAreNodes:au->Option (Bool))(a:au):Option (Bool):=aO (λ((f,g,h,i,j,k,l):F6 alD)=>bif (decide (l<k))then (idx j l).bind λc=>(riAreNodes (aN c)).bind λd=>bif (!d)then some (.inr (false))else some (.inl (f,g,h,i,j,k,w64 (l+1)))else ((BF (au.mk f g h i)).bind λe=>some (e)).bind λr=>some (.inr r)) (a.kind,a.n,a.text,a.args,a.args,(a.args.length:Int),0)
def sS:Nat->(au->Option (Bool))
 | 0=>λ_=>none
 | n+1=>Ea (sS n)
def BH(a:au):Option (Bool):=(sS (siz a+1)) a
def XG:Fsp:=⟨71,[shT .expr],[shF .bool],true,false,λx=>BH x⟩
def yw(n:Nat):Fsp:=⟨71,[shT .expr],[shF .bool],true,false,λx=>(sS n) x⟩
def kX(a:au):Option (Bool):=(DZ (aN a)).bind λb=>bif (decide (b<=40))then (D5 (aN a)).bind λc=>bif (decide (c<=8))then (BH (aN a)).bind λd=>some (d)else some (false)else some (false)
def Oz:Fsp:=⟨28,[shT .expr],[shF .bool],true,false,λx=>kX x⟩
def aJ(a:Int):Option (af):=some (af.mk 6 a 0 [] [] [] [])
def Qx:Fsp:=⟨29,[shF .int],[shT .val],true,false,λx=>aJ x⟩
def dV(a:Int):Option (af):=some (af.mk 1 a 0 [] [] [] [])
def Oi:Fsp:=⟨72,[shF .int],[shT .val],true,false,λx=>dV x⟩
def sG(a:Str):Option (af):=some (af.mk 2 0 0 a [] [] [])
def U2:Fsp:=⟨73,[shF .str],[shT .val],true,false,λx=>sG x⟩
def Az(a:aB):Option (aB):=(gd (0+a.cells.length)).bind λ_=>(gd (0+a.orig.length)).bind λ_=>some (aB.mk ([]++a.cells) ([]++a.orig))
def ZP:Fsp:=⟨83,[shT .row],[shT .row],true,false,λx=>Az x⟩
def Aw(riCopyValue:af->Option (af))(riCopyValues:(List af)->Option ((List af)))(a:af):Option (af):=(riCopyValues a.list).bind λd=>(gd (0+a.columns.length)).bind λ_=>aO (λ((f,g,h,i,j,k,l,m,o,p,q,r,s,t,u,v,w):o5 (o5 aly))=>bif (decide (w<v))then (idx u w).bind λe=>(Az e).bind λc=>(gd (t.length+[c].length)).bind λ_=>some (.inl (f,g,h,i,j,k,l,m,o,p,q,r,s,t++[c],u,v,w64 (w+1)))else some (.inr (af.mk m o p q r s t))) (0,0,0,[],[],[],[],a.kind,a.n,a.step,a.text,d,[]++a.columns,[],a.rows,(a.rows.length:Int),0)
def yu(riCopyValue:af->Option (af))(riCopyValues:(List af)->Option ((List af)))(a:List af):Option ((List af)):=aO (λ((e,f,g,h):(List af)×alv)=>bif (decide (h<g))then (idx f h).bind λd=>(riCopyValue (ah d)).bind λc=>(gd (e.length+[ah c].length)).bind λ_=>some (.inl (e++[ah c],f,g,w64 (h+1)))else some (.inr (e))) ([],a,(a.length:Int),0)
def fE:Nat->(af->Option (af))×((List af)->Option ((List af)))
 | 0=>(λ_=>none,λ_=>none)
 | n+1=>(Aw (fE n).1 (fE n).2,yu (fE n).1 (fE n).2)
def fC(a:af):Option (af):=(fE (siz a+1)).1 a
def Vj:Fsp:=⟨31,[shT .val],[shT .val],true,false,λx=>fC x⟩
def vk(n:Nat):Fsp:=⟨31,[shT .val],[shT .val],true,false,λx=>(fE n).1 x⟩
def kK(a:List af):Option ((List af)):=(fE (siz a+1)).2 a
def Qz:Fsp:=⟨82,[slF .val],[slF .val],true,false,λx=>kK x⟩
def sN(n:Nat):Fsp:=⟨82,[slF .val],[slF .val],true,false,λx=>(fE n).2 x⟩
def KJ(a:List ak)(b:Str):Option (af):=aO (λ((h,i,j,k,l,m,n,o,p,q):(List ak)×Str×o5 Int)=>bif (decide (q>=0))then (idx h q).bind λd=>bif (d.name==i)then (idx h q).bind λe=>(fC (ah e.value)).bind λf=>some (.inr (ah f))else some (.inl (h,i,j,k,l,m,n,o,p,w64 (q-1)))else ((aJ 1).bind λg=>some (ah g)).bind λr=>some (.inr r)) (a,b,0,0,0,[],[],[],[],w64 ((a.length:Int)-1))
def acB:Fsp:=⟨74,[slF .binding,shF .str],[shT .val],true,false,λx=>KJ x.1 x.2⟩
def IG(riDepthOf:af->Option (Int))(a:af):Option (Int):=aO (λ((e,f,g,h):Int×alv)=>bif (decide (h<g))then (idx f h).bind λd=>(riDepthOf (ah d)).bind λc=>some (.inl ((if c>e then c else e),f,g,w64 (h+1)))else some (.inr (w64 (e+1)))) (0,a.list,(a.list.length:Int),0)
def wO:Nat->(af->Option (Int))
 | 0=>λ_=>none
 | n+1=>IG (wO n)
def FQ(a:af):Option (Int):=(wO (siz a+1)) a
def ZO:Fsp:=⟨122,[shT .val],[shF .int],true,false,λx=>FQ x⟩
def Au(n:Nat):Fsp:=⟨122,[shT .val],[shF .int],true,false,λx=>(wO n) x⟩
def fU(a:Int):Option (Bool):=(jB a (-1000000000) 1000000000).bind λb=>some (b)
def Xy:Fsp:=⟨157,[shF .int],[shF .bool],true,false,λx=>fU x⟩
def wJ(a:List Str)(b:Str):Option (Int):=aO (λ((e,f,g,h):Str×alu)=>bif (decide (h<g))then (idx f h).bind λd=>bif (d==e)then some (.inr (h))else some (.inl (e,f,g,w64 (h+1)))else some (.inr ((-1)))) (b,a,(a.length:Int),0)
def ZL:Fsp:=⟨108,[slF .str,shF .str],[shF .int],true,false,λx=>wJ x.1 x.2⟩
def kY(a:List Str):Option (Bool):=aO (λ((e,f,g,h):(List Str)×alu)=>bif (decide (h<g))then (idx f h).bind λc=>(wJ e c).bind λd=>bif (d != h)then some (.inr (false))else some (.inl (e,f,g,w64 (h+1)))else some (.inr (true))) (a,a,(a.length:Int),0)
def OH:Fsp:=⟨201,[slF .str],[shF .bool],true,false,λx=>kY x⟩
def qg(a:List Str):Option (Bool):=aO (λ((g,h,i,j):(List Str)×alu)=>bif (decide (j<i))then (idx h j).bind λc=>(fK c).bind λd=>bif (!d)then some (.inr (false))else some (.inl (g,h,i,w64 (j+1)))else ((jB (g.length:Int) 1 4).bind λe=>bif e then (kY g).bind λf=>some (f)else some (false)).bind λr=>some (.inr r)) (a,a,(a.length:Int),0)
def QA:Fsp:=⟨202,[slF .str],[shF .bool],true,false,λx=>qg x⟩
def oU(a:aj)(b:aj):Option (Bool):=bif (decide (a.cell<b.cell))then some (true)else bif (a.cell==b.cell)then some ((decide (a.row<b.row)))else some (false)
def JR:Fsp:=⟨220,[shT .origin,shT .origin],[shF .bool],true,false,λx=>oU x.1 x.2⟩
def FP(a:af):Option (Bool):=(qg a.columns).bind λh=>bif (!h)then some (false)else bif (decide ((a.rows.length:Int)>12))then some (false)else aO (λ((l,m,o,p,q,s,t,u,v,w):o5 aly)=>bif (decide (w<v))then (idx u w).bind λe=>bif ((e.cells.length:Int) != (s.length:Int))then some (.inr (false))else aO (λ((d,x,y,z,A,B,C,D,E,F,G,H,I,J,K):o5 (alz alC))=>bif (decide (K<J))then (idx I K).bind λi=>(fU i).bind λj=>bif (!j)then (some (.inr (false))).bind λr=>some (.inr r)else some (.inl (d,x,y,z,A,B,C,D,E,F,G,H,I,J,w64 (K+1)))else (aO (λ((c,L,M,N,O,P,Q,R,S,T,U,V,W,X,Y):o5 (alz alE))=>bif (decide (Y<X))then (idx W Y).bind λf=>bif (decide (f.cell<0))then (some (.inr (false))).bind λr=>some (.inr r)else bif (decide (f.row<0))then (some (.inr (false))).bind λr=>some (.inr r)else bif (decide (Y>0))then (idx S (w64 (Y-1))).bind λk=>(oU k f).bind λg=>bif (!g)then (some (.inr (false))).bind λr=>some (.inr r)else some (.inl (c,L,M,N,O,P,Q,R,S,T,U,V,W,X,w64 (Y+1)))else some (.inl (c,L,M,N,O,P,Q,R,S,T,U,V,W,X,w64 (Y+1)))else some (.inr (.inl (c,L,M,N,O,P,Q,T,U,w64 (V+1))))) (d,x,y,z,A,B,C,D,E,F,G,H,E,(E.length:Int),0)).bind λr=>some (.inr r)) (l,m,o,p,q,s,t,e.cells,e.orig,u,v,w,e.cells,(e.cells.length:Int),0)else some (.inr (true))) (a.kind,a.n,a.step,a.text,a.list,a.columns,a.rows,a.rows,(a.rows.length:Int),0)
def ZK:Fsp:=⟨194,[shT .val],[shF .bool],true,false,λx=>FP x⟩
def sJ(riIsValidValue:af->Option (Bool))(a:af):Option (Bool):=lJ (X:=o5 Bool) (bif ((a.list.length:Int)==0)then bif ((a.columns.length:Int)==0)then some (.inl (a.kind,a.n,a.step,a.text,a.list,a.columns,a.rows,((a.rows.length:Int)==0)))else some (.inl (a.kind,a.n,a.step,a.text,a.list,a.columns,a.rows,false))else some (.inl (a.kind,a.n,a.step,a.text,a.list,a.columns,a.rows,false))) λ((q,s,t,u,v,w,x,y):o5 Bool)=>bif (q==1)then bif y then bif (t==0)then bif (u==[])then (fU s).bind λj=>some (j)else some (false)else some (false)else some (false)else bif (q==2)then bif y then bif (s==0)then bif (t==0)then (kW u).bind λk=>some (k)else some (false)else some (false)else some (false)else bif (q==4)then bif y then bif (u==[])then (fU s).bind λl=>bif l then (fU t).bind λm=>some (m)else some (false)else some (false)else some (false)else bif (q==6)then bif y then bif (t==0)then bif (u==[])then (jB s 1 8).bind λo=>some (o)else some (false)else some (false)else some (false)else bif (q==5)then bif (s==0)then bif (t==0)then bif (u==[])then bif ((v.length:Int)==0)then (FP (af.mk q s t u v w x)).bind λp=>some (p)else some (false)else some (false)else some (false)else some (false)else bif (q==3)then lJ (X:=alq) (aO (λ((b,z,A,B,C,D,E,F,G,H):o5 alv)=>bif (decide (H<G))then (idx F H).bind λd=>bif (d.kind != 1)then bif (d.kind != 2)then bif (d.kind != 3)then (some (.inr (false))).bind λr=>some (.inr r)else (riIsValidValue (ah d)).bind λf=>bif (!f)then (some (.inr (false))).bind λr=>some (.inr r)else some (.inl (b,z,A,B,C,D,E,F,G,w64 (H+1)))else (riIsValidValue (ah d)).bind λg=>bif (!g)then (some (.inr (false))).bind λr=>some (.inr r)else some (.inl (b,z,A,B,C,D,E,F,G,w64 (H+1)))else (riIsValidValue (ah d)).bind λh=>bif (!h)then (some (.inr (false))).bind λr=>some (.inr r)else some (.inl (b,z,A,B,C,D,E,F,G,w64 (H+1)))else some (.inr (.inl (b,z,A,B,C,D,E)))) (q,s,t,u,v,w,x,v,(v.length:Int),0)) λ((c,I,J,K,L,M,N):alq)=>bif (I==0)then bif (J==0)then bif (K==[])then bif ((M.length:Int)==0)then bif ((N.length:Int)==0)then bif (decide ((L.length:Int)<=8))then (FQ (af.mk c I J K L M N)).bind λi=>some ((decide (i<=3)))else some (false)else some (false)else some (false)else some (false)else some (false)else some (false)else some (false)
def kJ:Nat->(af->Option (Bool))
 | 0=>λ_=>none
 | n+1=>sJ (kJ n)
def ve(a:af):Option (Bool):=(kJ (siz a+1)) a
def JU:Fsp:=⟨156,[shT .val],[shF .bool],true,false,λx=>ve x⟩
def oD(n:Nat):Fsp:=⟨156,[shT .val],[shF .bool],true,false,λx=>(kJ n) x⟩
def fZ(a:List af):Option (af×Bool):=aO (λ((f,g,h,i,j,k,l,m,n,o):o5 alv)=>bif (decide (o<n))then (idx m o).bind λc=>(ve (ah c)).bind λd=>bif (!d)then (aJ 4).bind λe=>some (.inr (ah e,true))else bif (c.kind==6)then some (.inr (ah c,true))else some (.inl (f,g,h,i,j,k,l,m,n,w64 (o+1)))else some (.inr (af.mk 0 0 0 [] [] [] [],false))) (0,0,0,[],[],[],[],a,(a.length:Int),0)
def JS:Fsp:=⟨120,[slF .val],[shT .val,shF .bool],false,false,λx=>fZ x⟩
def oC(a:List af):Option (af):=(kK a).bind λb=>some (af.mk 3 0 0 [] b [] [])
def U9:Fsp:=⟨121,[slF .val],[shT .val],true,false,λx=>oC x⟩
def jC(a:List af):Option (af):=(fZ a).bind λd=>bif d.2 then (fC (ah d.1)).bind λf=>some (ah f)else aO (λ((k,l,m,n,o,p,q,s,t,u,v):(List af)×o5 alv)=>bif (decide (v<u))then (idx t v).bind λc=>bif (c.kind != 1)then bif (c.kind != 2)then bif (c.kind != 3)then (aJ 4).bind λg=>some (.inr (ah g))else some (.inl (k,l,m,n,o,p,q,s,t,u,w64 (v+1)))else some (.inl (k,l,m,n,o,p,q,s,t,u,w64 (v+1)))else some (.inl (k,l,m,n,o,p,q,s,t,u,w64 (v+1)))else ((oC k).bind λe=>bif (decide ((k.length:Int)>8))then (aJ 6).bind λh=>some (ah h)else (FQ (ah e)).bind λi=>bif (decide (i>3))then (aJ 6).bind λj=>some (ah j)else some (ah e)).bind λr=>some (.inr r)) (a,0,0,0,[],[],[],[],a,(a.length:Int),0)
def Vk:Fsp:=⟨75,[slF .val],[shT .val],true,false,λx=>jC x⟩
def gq(a:Int):Option (af):=(fU a).bind λb=>bif (!b)then (aJ 5).bind λc=>some (ah c)else (dV a).bind λd=>some (ah d)
def IJ:Fsp:=⟨123,[shF .int],[shT .val],true,false,λx=>gq x⟩
def kH(a:Bool):Option (af):=bif a then (dV 1).bind λb=>some (ah b)else (dV 0).bind λc=>some (ah c)
def Qr:Fsp:=⟨124,[shF .bool],[shT .val],true,false,λx=>kH x⟩
def Ak(a:List Str)(b:List Str):Option (Bool):=bif ((a.length:Int) != (b.length:Int))then some (false)else aO (λ((f,g,h,i):(List Str)×alu)=>bif (decide (i<h))then (idx f i).bind λd=>(idx g i).bind λe=>bif (!(d==e))then some (.inr (false))else some (.inl (f,g,h,w64 (i+1)))else some (.inr (true))) (a,b,(a.length:Int),0)
def Qs:Fsp:=⟨195,[slF .str,slF .str],[shF .bool],true,false,λx=>Ak x.1 x.2⟩
def Oh(a:List Int)(b:List Int):Option (Bool):=bif ((a.length:Int) != (b.length:Int))then some (false)else aO (λ((f,g,h,i):(List Int)×alC)=>bif (decide (i<h))then (idx f i).bind λd=>(idx g i).bind λe=>bif (d != e)then some (.inr (false))else some (.inl (f,g,h,w64 (i+1)))else some (.inr (true))) (a,b,(a.length:Int),0)
def ZJ:Fsp:=⟨196,[slF .int,slF .int],[shF .bool],true,false,λx=>Oh x.1 x.2⟩
def Am(a:List aj)(b:List aj):Option (Bool):=bif ((a.length:Int) != (b.length:Int))then some (false)else aO (λ((f,g,h,i):(List aj)×alE)=>bif (decide (i<h))then (idx f i).bind λd=>(idx g i).bind λe=>bif (!((d.cell==e.cell)&&(d.row==e.row)))then some (.inr (false))else some (.inl (f,g,h,w64 (i+1)))else some (.inr (true))) (a,b,(a.length:Int),0)
def Qu:Fsp:=⟨197,[slF .origin,slF .origin],[shF .bool],true,false,λx=>Am x.1 x.2⟩
def Vg(riEqual:af->af->Bool->Option (Bool))(a:af)(b:af)(c:Bool):Option (Bool):=bif (a.kind != b.kind)then some (false)else bif (a.n != b.n)then some (false)else bif (a.step != b.step)then some (false)else bif (!(a.text==b.text))then some (false)else (Ak a.columns b.columns).bind λi=>bif (!i)then some (false)else bif ((a.list.length:Int) != (b.list.length:Int))then some (false)else bif ((a.rows.length:Int) != (b.rows.length:Int))then some (false)else aO (λ((q,s,t,u,v,w,x,y,z,A,B,C,D,E,F,G,H):Bool×o5 (o5 (Int×Int)))=>bif (decide (H<G))then (idx w H).bind λj=>(idx D H).bind λk=>(riEqual (ah j) (ah k) q).bind λl=>bif (!l)then some (.inr (false))else some (.inl (q,s,t,u,v,w,x,y,z,A,B,C,D,E,F,G,w64 (H+1)))else (aO (λ((e,I,J,K,L,M,N,O,P,Q,R,S,T,U,V,W,X):Bool×o5 (o5 (Int×Int)))=>bif (decide (X<W))then (idx O X).bind λm=>(idx V X).bind λo=>(Oh m.cells o.cells).bind λp=>bif (!p)then some (.inr (false))else bif e then (idx O X).bind λf=>(idx V X).bind λg=>(Am f.orig g.orig).bind λh=>bif (!h)then some (.inr (false))else some (.inl (e,I,J,K,L,M,N,O,P,Q,R,S,T,U,V,W,w64 (X+1)))else some (.inl (e,I,J,K,L,M,N,O,P,Q,R,S,T,U,V,W,w64 (X+1)))else some (.inr (true))) (q,s,t,u,v,w,x,y,z,A,B,C,D,E,F,(y.length:Int),0)).bind λr=>some (.inr r)) (c,a.kind,a.n,a.step,a.text,a.list,a.columns,a.rows,b.kind,b.n,b.step,b.text,b.list,b.columns,b.rows,(a.list.length:Int),0)
def BG:Nat->(af->af->Bool->Option (Bool))
 | 0=>λ_ _ _=>none
 | n+1=>Vg (BG n)
def ZM(a:af)(b:af)(c:Bool):Option (Bool):=(BG (siz a+siz b+1)) a b c
def ae4:Fsp:=⟨158,[shT .val,shT .val,shF .bool],[shF .bool],true,false,λx=>ZM x.1 x.2.1 x.2.2⟩
def IE(n:Nat):Fsp:=⟨158,[shT .val,shT .val,shF .bool],[shF .bool],true,false,λx=>(BG n) x.1 x.2.1 x.2.2⟩
def uG(a:af)(b:af):Option (Bool):=(ZM (ah a) (ah b) false).bind λc=>some (c)
def Qy:Fsp:=⟨125,[shT .val,shT .val],[shF .bool],true,false,λx=>uG x.1 x.2⟩
def jm(a:Int)(b:af)(c:af):Option (af):=(fZ [ah b,ah c]).bind λy=>bif y.2 then some (ah y.1)else lJ (X:=Int×o5 (o5 (o5 Bool))) (bif (b.kind==1)then some (.inl (a,b.kind,b.n,b.step,b.text,b.list,b.columns,b.rows,c.kind,c.n,c.step,c.text,c.list,c.columns,c.rows,0,0,0,[],[],[],[],(c.kind==1)))else some (.inl (a,b.kind,b.n,b.step,b.text,b.list,b.columns,b.rows,c.kind,c.n,c.step,c.text,c.list,c.columns,c.rows,0,0,0,[],[],[],[],false))) λ((C,D,E,F,G,H,I,J,K,L,M,N,O,P,Q,R,S,T,U,V,W,Y,Z):Int×o5 (o5 (o5 Bool)))=>lJ (X:=Int×o5 (o5 (o5 (Bool×Bool)))) (bif (D==2)then some (.inl (C,D,E,F,G,H,I,J,K,L,M,N,O,P,Q,R,S,T,U,V,W,Y,Z,(K==2)))else some (.inl (C,D,E,F,G,H,I,J,K,L,M,N,O,P,Q,R,S,T,U,V,W,Y,Z,false))) λ((l,aa,ab,ac,ae,ao,aq,ar,aw,aD,aE,aL,aM,aR,ba,bc,bd,bh,bj,bl,bm,bp,br,bu):Int×o5 (o5 (o5 (Bool×Bool))))=>lJ (X:=Int×o5 (o5 (o5 alx))) (bif (aa==3)then some (.inl (l,aa,ab,ac,ae,ao,aq,ar,aw,aD,aE,aL,aM,aR,ba,bc,bd,bh,bj,bl,bm,bp,br,bu,(aw==3)))else some (.inl (l,aa,ab,ac,ae,ao,aq,ar,aw,aD,aE,aL,aM,aR,ba,bc,bd,bh,bj,bl,bm,bp,br,bu,false))
 ) λ((k,bw,bz,bA,bB,bE,bL,bN,bO,bR,bS,bX,cd,ce,cf,ch,ci,cj,ck,cm,cn,cp,cq,cr,cA):Int×o5 (o5 (o5 alx)))=>
 lJ (X:=Int×o5 (o5 (o5 (Bool×alx)))) (
  bif (k==1)then
   some (.inl (k,bw,bz,bA,bB,bE,bL,bN,bO,bR,bS,bX,cd,ce,cf,ch,ci,cj,ck,cm,cn,cp,cq,cr,cA,cq))
  else
   some (.inl (k,bw,bz,bA,bB,bE,bL,bN,bO,bR,bS,bX,cd,ce,cf,ch,ci,cj,ck,cm,cn,cp,cq,cr,cA,false))
 ) λ((j,cB,cC,cE,cF,cG,cH,cI,cJ,cK,cL,cM,cN,cP,cQ,cR,cT,cU,cV,cW,cX,cY,da,db,dc,de):Int×o5 (o5 (o5 (Bool×alx))))=>
 bif de then
  (gq (w64 (cC+cK))).bind λz=>
  some (ah z)
 else
 lJ (X:=Int×o5 (o5 (o5 (Bool×alx)))) (
  bif (j==1)then
   some (.inl (j,cB,cC,cE,cF,cG,cH,cI,cJ,cK,cL,cM,cN,cP,cQ,cR,cT,cU,cV,cW,cX,cY,da,db,dc,db))
  else
   some (.inl (j,cB,cC,cE,cF,cG,cH,cI,cJ,cK,cL,cM,cN,cP,cQ,cR,cT,cU,cV,cW,cX,cY,da,db,dc,false))
 ) λ((i,df,dg,dl,dv,dz,dC,dE,dT,ed,eh,ei,ej,en,ep,eq,er,et,ey,ez,eA,eC,eD,eE,eL,eM):Int×o5 (o5 (o5 (Bool×alx))))=>
 bif eM then
  bif (decide ((w64 ((dv.length:Int)+(ei.length:Int)))>20))then
   (aJ 6).bind λA=>
   some (ah A)
  else
   (gd (dv.length+ei.length)).bind λ_=>
   (sG (dv++ei)).bind λB=>
   some (ah B)
 else
 lJ (X:=Int×o5 (o5 (o5 alx))) (
  bif (i==1)then
   some (.inl (i,df,dg,dl,dv,dz,dC,dE,dT,ed,eh,ei,ej,en,ep,eq,er,et,ey,ez,eA,eC,eD,eE,eL))
  else
   some (.inl (i,df,dg,dl,dv,dz,dC,dE,dT,ed,eh,ei,ej,en,ep,eq,er,et,ey,ez,eA,eC,eD,eE,false))
 ) λ((h,eN,eO,eQ,eR,eT,eV,eW,eZ,fa,fe,ff,fh,fi,fj,fm,fq,ft,fu,fw,fz,fI,fL,fN,fR):Int×o5 (o5 (o5 alx)))=>
 bif fR then
  bif (decide ((w64 ((eT.length:Int)+(fh.length:Int)))>8))then
   (aJ 6).bind λq=>
   some (ah q)
  else
   (kK eT).bind λo=>
   (kK fh).bind λp=>
   (gd (o.length+p.length)).bind λ_=>
   some (af.mk 3 0 0 [] (o++p) [] [])
 else
 lJ (X:=Int×o5 (o5 (o5 alx))) (
  bif (h==2)then
   some (.inl (h,eN,eO,eQ,eR,eT,eV,eW,eZ,fa,fe,ff,fh,fi,fj,fm,fq,ft,fu,fw,fz,fI,fL,fN,fL))
  else
   some (.inl (h,eN,eO,eQ,eR,eT,eV,eW,eZ,fa,fe,ff,fh,fi,fj,fm,fq,ft,fu,fw,fz,fI,fL,fN,false))
 ) λ((d,fS,fT,fW,fX,fY,ga,gb,ge,gf,gg,gh,gj,gl,gn,gr,gt,gv,gw,gx,gz,gA,gC,gD,gE):Int×o5 (o5 (o5 alx)))=>
 bif gE then
  (gq (w64 (fT-gf))).bind λr=>
  some (ah r)
 else
 lJ (X:=Int×o5 (o5 (o5 alx))) (
  bif (d==3)then
   some (.inl (d,fS,fT,fW,fX,fY,ga,gb,ge,gf,gg,gh,gj,gl,gn,gr,gt,gv,gw,gx,gz,gA,gC,gD,gC))
  else
   some (.inl (d,fS,fT,fW,fX,fY,ga,gb,ge,gf,gg,gh,gj,gl,gn,gr,gt,gv,gw,gx,gz,gA,gC,gD,false))
 ) λ((e,gF,gH,gL,gM,gP,hF,hG,hI,hJ,hQ,hU,hV,hX,ia,ib,ij,ik,il,im,io,ip,ir,iu,iv):Int×o5 (o5 (o5 alx)))=>
 bif iv then
  (gq (w64 (gH*hJ))).bind λs=>
  some (ah s)
 else
 lJ (X:=Int×o5 (o5 (o5 (Bool×Bool)))) (
  bif (e==4)then
   some (.inl (e,gF,gH,gL,gM,gP,hF,hG,hI,hJ,hQ,hU,hV,hX,ia,ib,ij,ik,il,im,io,ip,iu,ir))
  else
   some (.inl (e,gF,gH,gL,gM,gP,hF,hG,hI,hJ,hQ,hU,hV,hX,ia,ib,ij,ik,il,im,io,ip,iu,false))
 ) λ((f,ix,iz,iA,iB,iS,iX,jn,jp,js,jt,jx,jz,jN,kf,kg,kh,ki,kj,km,kn,ko,kp,kq):Int×o5 (o5 (o5 (Bool×Bool))))=>
 bif kq then
  (kH (decide (iz<js))).bind λt=>
  some (ah t)
 else
 lJ (X:=Int×o5 (o5 (o5 Bool))) (
  bif (f==4)then
   some (.inl (f,ix,iz,iA,iB,iS,iX,jn,jp,js,jt,jx,jz,jN,kf,kg,kh,ki,kj,km,kn,ko,kp))
  else
   some (.inl (f,ix,iz,iA,iB,iS,iX,jn,jp,js,jt,jx,jz,jN,kf,kg,kh,ki,kj,km,kn,ko,false))
 ) λ((g,kr,kt,kw,ky,kA,kI,kO,ld,lf,lh,li,lj,ln,lp,_,_,_,_,_,_,_,lr):Int×o5 (o5 (o5 Bool)))=>
 bif lr then
  (kH (Op.bytesLess ky li)).bind λu=>
  some (ah u)
 else
  bif (g==5)then
   (uG (af.mk kr kt kw ky kA kI kO) (af.mk ld lf lh li lj ln lp)).bind λv=>
   (kH v).bind λw=>
   some (ah w)
  else
   (aJ 4).bind λx=>
   some (ah x)
def IL:Fsp:=⟨77,[shF .int,shT .val,shT .val],[shT .val],false,false,λx=>jm x.1 x.2.1 x.2.2⟩
def XF(a:List ak)(b:Str)(c:af):Option ((List ak)):=aO (λ((h,i,j,k,l,m,o,p,q,s,t,u):Str×o5 ((List ak)×(List ak)×Int×Int))=>bif (decide (u<t))then (idx s u).bind λe=>(fC (ah e.value)).bind λf=>(gd (q.length+[ak.mk e.name (ah f)].length)).bind λ_=>some (.inl (h,i,j,k,l,m,o,p,q++[ak.mk e.name (ah f)],s,t,w64 (u+1)))else ((fC (af.mk i j k l m o p)).bind λg=>(gd (q.length+[ak.mk h (ah g)].length)).bind λ_=>some (q++[ak.mk h (ah g)])).bind λr=>some (.inr r)) (b,c.kind,c.n,c.step,c.text,c.list,c.columns,c.rows,[],a,(a.length:Int),0)
def ahg:Fsp:=⟨78,[slF .binding,shF .str,shT .val],[slF .binding],true,false,λx=>XF x.1 x.2.1 x.2.2⟩
def KN(a:af):Option (Bool):=bif (a.kind==1)then some ((a.n != 0))else some (false)
def acE:Fsp:=⟨79,[shT .val],[shF .bool],true,false,λx=>KN x⟩
def oG(a:Str):Option (Bool):=bif (a==[99,108,111,99,107])then some (true)else bif (a==[99,104,97,110,99,101])then some (true)else some ((a==[102,105,108,101]))
def Xz:Fsp:=⟨126,[shF .str],[shF .bool],true,false,λx=>oG x⟩
def wH(a:af):Option (af):=(fZ [ah a]).bind λb=>bif b.2 then some (ah b.1)else bif (a.kind==3)then (dV (a.list.length:Int)).bind λc=>some (ah c)else bif (a.kind==2)then (dV (a.text.length:Int)).bind λd=>some (ah d)else (aJ 4).bind λe=>some (ah e)
def Xx:Fsp:=⟨159,[shT .val],[shT .val],false,false,λx=>wH x⟩
def Ob(a:af):Option (af):=(fZ [ah a]).bind λd=>bif d.2 then some (ah d.1)else bif (a.kind != 3)then (aJ 4).bind λe=>some (ah e)else aO (λ((j,k,l,m,o,p,q,s,t,u,v):o5 (Int×alv))=>bif (decide (v<u))then (idx t v).bind λc=>bif (c.kind != 1)then (aJ 4).bind λf=>some (.inr (ah f))else (fU (w64 (s+c.n))).bind λg=>bif (!g)then (aJ 5).bind λh=>some (.inr (ah h))else some (.inl (j,k,l,m,o,p,q,w64 (s+c.n),t,u,w64 (v+1)))else ((dV s).bind λi=>some (ah i)).bind λr=>some (.inr r)) (0,0,0,[],[],[],[],0,a.list,(a.list.length:Int),0)
def aeY:Fsp:=⟨160,[shT .val],[shT .val],false,false,λx=>Ob x⟩
def fB(a:List Int)(b:List af):Option (af×Bool):=(fZ b).bind λd=>bif d.2 then some (ah d.1,true)else aO (λ((h,i,j,k,l,m,n,o,p,q,r):(List Int)×o5 alv)=>bif (decide (r<q))then (idx p r).bind λe=>(idx h r).bind λf=>bif (e.kind != f)then (aJ 4).bind λg=>some (.inr (ah g,true))else some (.inl (h,i,j,k,l,m,n,o,p,q,w64 (r+1)))else some (.inr (af.mk 0 0 0 [] [] [] [],false))) (a,0,0,0,[],[],[],[],b,(b.length:Int),0)
def Ve:Fsp:=⟨172,[slF .int,slF .val],[shT .val,shF .bool],false,false,λx=>fB x.1 x.2⟩
def sK(a:af):Option (af):=(fB [5] [ah a]).bind λb=>bif b.2 then some (ah b.1)else (dV (a.rows.length:Int)).bind λc=>some (ah c)
def Vh:Fsp:=⟨161,[shT .val],[shT .val],false,false,λx=>sK x⟩
def gU(a:af)(b:af):Option (af×Bool):=(fZ [ah a,ah b]).bind λd=>bif d.2 then some (ah d.1,true)else (aJ 4).bind λc=>bif (a.kind != 1)then some (ah c,true)else bif (b.kind != 3)then some (ah c,(b.kind != 4))else some (ah c,false)
def Iy:Fsp:=⟨198,[shT .val,shT .val],[shT .val,shF .bool],false,false,λx=>gU x.1 x.2⟩
def yh(a:af)(b:af):Option (af):=(gU (ah a) (ah b)).bind λc=>bif c.2 then some (ah c.1)else bif (decide (a.n<0))then (aJ 5).bind λd=>some (ah d)else bif (b.kind==3)then bif (decide (a.n>=(b.list.length:Int)))then (aJ 5).bind λe=>some (ah e)else bif (b.kind==3)then (idx b.list a.n).bind λf=>(fC (ah f)).bind λg=>some (ah g)else (gq (w64 (b.n+(w64 (a.n*b.step))))).bind λh=>some (ah h)else bif (b.kind==3)then (idx b.list a.n).bind λi=>(fC (ah i)).bind λj=>some (ah j)else (gq (w64 (b.n+(w64 (a.n*b.step))))).bind λk=>some (ah k)
def ae0:Fsp:=⟨164,[shT .val,shT .val],[shT .val],false,false,λx=>yh x.1 x.2⟩
def FD(a:af)(b:af):Option (af):=(gU (ah a) (ah b)).bind λe=>bif e.2 then some (ah e.1)else (jB a.n 0 8).bind λf=>bif (!f)then (aJ 5).bind λg=>some (ah g)else bif (b.kind==3)then (eff.cutL b.list none (some (if (b.list.length:Int)<a.n then (b.list.length:Int)else a.n))).bind λh=>(oC h).bind λi=>some (ah i)else aO (λ((k,l,m,o,p,q,r,s,t,u,v,w,x,y,z,A,B,C,D,E,F,G,H,I,J,K,L,M,N):o5 (o5 (o5 (o5 Int))))=>bif (decide (N<l))then (dV N).bind λj=>(yh (ah j) (af.mk s t u v w x y)).bind λd=>bif (d.kind==6)then some (.inr (ah d))else (gd (K.length+[ah d].length)).bind λ_=>some (.inl (k,l,m,o,p,q,r,s,t,u,v,w,x,y,z,A,B,C,D,E,F,G,H,I,J,K++[ah d],L,M,w64 (N+1)))else some (.inr (af.mk G H I J K L M))) (a.kind,a.n,a.step,a.text,a.list,a.columns,a.rows,b.kind,b.n,b.step,b.text,b.list,b.columns,b.rows,0,0,0,[],[],[],[],3,0,0,[],[],[],[],0)
def acz:Fsp:=⟨162,[shT .val,shT .val],[shT .val],false,false,λx=>FD x.1 x.2⟩
def nH(a:Int)(b:Int):Option (af):=some (af.mk 4 a b [] [] [] [])
def Oc:Fsp:=⟨173,[shF .int,shF .int],[shT .val],true,false,λx=>nH x.1 x.2⟩
def FH(a:af)(b:af):Option (af):=(gU (ah a) (ah b)).bind λd=>bif d.2 then some (ah d.1)else bif (decide (a.n<0))then (aJ 5).bind λe=>some (ah e)else bif (b.kind==3)then (eff.cutL b.list (some (if (b.list.length:Int)<a.n then (b.list.length:Int)else a.n)) none).bind λf=>(oC f).bind λg=>some (ah g)else (yh (ah a) (ah b)).bind λc=>bif (c.kind==6)then some (ah c)else (nH c.n b.step).bind λh=>some (ah h)
def acA:Fsp:=⟨163,[shT .val,shT .val],[shT .val],false,false,λx=>FH x.1 x.2⟩
def Zt:Fsp:=⟨221,[shF .str,shF .str],[slF .str],true,false,λx=>wE x.1 x.2⟩
def lY(a:Str)(b:Int):Option ((List Str)):=(wE a (bytesOf [b])).bind λc=>some (c)
def U3:Fsp:=⟨199,[shF .str,shF .u8],[slF .str],true,false,λx=>lY x.1 x.2⟩
def dH(a:af)(b:Str):Option (Int):=(wJ a.columns b).bind λc=>some (c)
def OE:Fsp:=⟨200,[shT .val,shF .str],[shF .int],true,false,λx=>dH x.1 x.2⟩
def nI(a:af)(b:af):Option (af):=(fB [2,5] [ah a,ah b]).bind λk=>bif k.2 then some (ah k.1)else (lY a.text 32).bind λh=>aO (λ((q,s,t,u,v,w,x,y,z,A,B,C,D,E,F,G,H,I,J,K,L,M,N,O,P):o5 (o5 (o5 ((List Int)×alu))))=>bif (decide (P<O))then (idx N P).bind λl=>(dH (af.mk q s t u v w x) l).bind λi=>bif (decide (i<0))then (aJ 7).bind λm=>some (.inr (ah m))else (gd (M.length+[i].length)).bind λ_=>some (.inl (q,s,t,u,v,w,x,y,z,A,B,C,D,E,F,G,H,I,J,K,L,M++[i],N,O,w64 (P+1)))else ((kY K).bind λo=>bif (!o)then (aJ 7).bind λp=>some (ah p)else aO (λ((d,Q,R,S,T,U,V,W,X,Y,Z,aa,ab,ac,ae,ao,aq,ar):o5 (o5 ((List Int)×aly)))=>bif (decide (ar<aq))then (idx ao ar).bind λf=>(gd (0+f.orig.length)).bind λ_=>aO (λ((e,aw,aD,aE,aL,aM,aR,ba,bc,bd,bh,bj,bl,bm,bp,br,bu,bw,bz,bA,bB,bE,bL,bN,bO):o5 (o5 ((List Int)×(List Int)×(List aj)×alz alC)))=>bif (decide (bO<bN))then (idx bL bO).bind λj=>(idx br j).bind λg=>(gd (bw.length+[g].length)).bind λ_=>some (.inl (e,aw,aD,aE,aL,aM,aR,ba,bc,bd,bh,bj,bl,bm,bp,br,bu,bw++[g],bz,bA,bB,bE,bL,bN,w64 (bO+1)))else ((gd (bm.length+[aB.mk bw bz].length)).bind λ_=>some (.inl (e,aw,aD,aE,aL,aM,aR,ba,bc,bd,bh,bj,bl,bm++[aB.mk bw bz],bp,bA,bB,w64 (bE+1)))
       ).bind λr=>some (.inr r)
     ) (d,Q,R,S,T,U,V,W,X,Y,Z,aa,ab,ac,ae,f.cells,f.orig,[],[]++f.orig,ao,aq,ar,ae,(ae.length:Int),0)
    else
     some (.inr (af.mk W X Y Z aa ab ac))
   ) (y,z,A,B,C,D,E,F,G,H,I,J,K,L,M,x,(x.length:Int),0)
  ).bind λr=>some (.inr r)
 ) (b.kind,b.n,b.step,b.text,b.list,b.columns,b.rows,0,0,0,[],[],[],[],5,0,0,[],[],h,[],[],h,(h.length:Int),0)
def Ou:Fsp:=⟨165,[shT .val,shT .val],[shT .val],false,false,λx=>nI x.1 x.2⟩
def wP(a:af)(b:af):Option (af):=(fB [2,5] [ah a,ah b]).bind λd=>bif d.2 then some (ah d.1)else (dH (ah b) a.text).bind λe=>bif (decide (e<0))then (aJ 7).bind λg=>some (ah g)else bif (decide ((b.rows.length:Int)>8))then (aJ 6).bind λh=>some (ah h)else aO (λ((k,l,m,n,o,p,q,r,s,t,u,v,w,x,y,z,A,B):o5 (Int×o5 aly))=>bif (decide (B<A))then (idx z B).bind λi=>(idx i.cells r).bind λj=>(dV j).bind λf=>(gd (w.length+[ah f].length)).bind λ_=>some (.inl (k,l,m,n,o,p,q,r,s,t,u,v,w++[ah f],x,y,z,A,w64 (B+1)))else some (.inr (af.mk s t u v w x y))) (0,0,0,[],[],[],[],e,3,0,0,[],[],[],[],b.rows,(b.rows.length:Int),0)
def XE:Fsp:=⟨166,[shT .val,shT .val],[shT .val],false,false,λx=>wP x.1 x.2⟩
def Aj(a:af)(b:af):Option (af):=(fB [2,3] [ah a,ah b]).bind λh=>bif h.2 then some (ah h.1)else (lY a.text 32).bind λi=>(qg i).bind λj=>bif (!j)then (aJ 7).bind λk=>some (ah k)else aO (λ((o,p,q,s,t,u,v,w,x,y,z,A,B,C,D,E,F):o5 (o5 alv))=>bif (decide (F<E))then (idx D F).bind λf=>bif (f.kind != 3)then (aJ 4).bind λl=>some (.inr (ah l))else bif ((f.list.length:Int) != (B.length:Int))then (aJ 4).bind λm=>some (.inr (ah m))else aO (λ((d,G,H,I,J,K,L,M,N,O,P,Q,R,S,T,U,V,W,X,Y,Z,aa):o5 (o5 ((List Int)×(List aj)×(List af)×Int×Int×alv)))=>bif (decide (aa<Z))then (idx Y aa).bind λe=>bif (e.kind != 1)then (aJ 4).bind λg=>(some (.inr (ah g))).bind λr=>some (.inr r)else (gd (T.length+[e.n].length)).bind λ_=>some (.inl (d,G,H,I,J,K,L,M,N,O,P,Q,R,S,T++[e.n],U,V,W,X,Y,Z,w64 (aa+1)))else ((gd (S.length+[aB.mk T U].length)).bind λ_=>some (.inl (d,G,H,I,J,K,L,M,N,O,P,Q,R,S++[aB.mk T U],V,W,w64 (X+1)))).bind λr=>some (.inr r)) (o,p,q,s,t,u,v,w,x,y,z,A,B,C,[],[],D,E,F,f.list,(f.list.length:Int),0)else some (.inr (af.mk w x y z A B C))) (0,0,0,[],[],[],[],5,0,0,[],[],i,[],b.list,(b.list.length:Int),0)
def ZI:Fsp:=⟨167,[shT .val,shT .val],[shT .val],false,false,λx=>Aj x.1 x.2⟩
def pY(a:af)(b:af)(c:af):Option (af):=(fB [2,1,5] [ah a,ah b,ah c]).bind λe=>bif e.2 then some (ah e.1)else (dH (ah c) a.text).bind λf=>bif (decide (f<0))then (aJ 7).bind λi=>some (ah i)else (gd (0+c.columns.length)).bind λ_=>aO (λ((k,l,m,o,p,q,r,s,t,u,v,w,x,y,z,A,B,C,D,E,F,G,H,I,J):o5 (o5 (Int×o5 aly)))=>bif (decide (J<I))then (idx H J).bind λg=>(idx g.cells z).bind λj=>bif (j==l)then (Az g).bind λh=>(gd (G.length+[h].length)).bind λ_=>some (.inl (k,l,m,o,p,q,r,s,t,u,v,w,x,y,z,A,B,C,D,E,F,G++[h],H,I,w64 (J+1)))else some (.inl (k,l,m,o,p,q,r,s,t,u,v,w,x,y,z,A,B,C,D,E,F,G,H,I,w64 (J+1)))else some (.inr (af.mk A B C D E F G))) (b.kind,b.n,b.step,b.text,b.list,b.columns,b.rows,0,0,0,[],[],[],[],f,5,0,0,[],[],[]++c.columns,[],c.rows,(c.rows.length:Int),0)
def Qq:Fsp:=⟨168,[shT .val,shT .val,shT .val],[shT .val],false,false,λx=>pY x.1 x.2.1 x.2.2⟩
def uU(a b:List aj):Option (List aj):=iM a b
def JQ:Fsp:=⟨203,[slF .origin,slF .origin],[slF .origin],true,false,λx=>uU x.1 x.2⟩
def oH(a b c:af):Option af:=(fB [2,2,5] [a,b,c]).bind λr=>bif r.2 then some r.1 else (dH c a.text).bind λi=>(dH c b.text).bind λk=>bif (decide (i<0)||decide (k<0)||(a.text==b.text))then aJ 7 else (gd c.rows.length).bind λ_=>(qx i k c.rows []).bind λgs=>yx a.text b.text gs
def XA:Fsp:=⟨169,[shT .val,shT .val,shT .val],[shT .val],false,false,λx=>oH x.1 x.2.1 x.2.2⟩
def FC(a:List Str)(b:List Str):Option ((List Str)):=aO (λ((f,g,h,i,j):(List Str)×(List Str)×alu)=>bif (decide (j<i))then (idx h j).bind λd=>(wJ f d).bind λe=>bif (decide (e<0))then (gd (g.length+([d]:List Str).length)).bind λ_=>some (.inl (f,g++([d]:List Str),h,i,w64 (j+1)))else some (.inl (f,g,h,i,w64 (j+1)))else some (.inr (g))) (b,[],a,(a.length:Int),0)
def ZH:Fsp:=⟨205,[slF .str,slF .str],[slF .str],true,false,λx=>FC x.1 x.2⟩
def FO(a:af)(b:af)(c:af):Option (af):=(fB [2,5,5] [ah a,ah b,ah c]).bind λp=>bif p.2 then some (ah p.1)else (dH (ah b) a.text).bind λq=>(dH (ah c) a.text).bind λs=>(FC c.columns ([a.text]:List Str)).bind λk=>(gd (0+b.columns.length)).bind λ_=>(gd (([]++b.columns).length+k.length)).bind λ_=>bif (decide (q<0))then (aJ 7).bind λt=>some (ah t)else bif (decide (s<0))then (aJ 7).bind λu=>some (ah u)else (kY (([]++b.columns)++k)).bind λv=>bif (!v)then (aJ 7).bind λw=>some (ah w)else bif (decide (((([]++b.columns)++k).length:Int)>4))then (aJ 6).bind λx=>some (ah x)else aO (λ((y,z,A,B,C,D,E,F,G,H,I,J,K,L,M,N,O,P,Q,R,S,T,U,V,W,X):o5 (o5 (Int×Int×o5 aly)))=>bif (decide (X<W))then (idx V X).bind λi=>aO (λ((e,Y,Z,aa,ab,ac,ae,ao,aq,ar,aw,aD,aE,aL,aM,aR,ba,bc,bd,bh,bj,bl,bm,bp,br,bu,bw,bz,bA,bB,bE):o5 (o5 (Int×Int×o5 (alz aly))))=>bif (decide (bE<bB))then (idx bA bE).bind λf=>(idx bp aM).bind λl=>(idx f.cells aR).bind λm=>bif (l != m)then some (.inl (e,Y,Z,aa,ab,ac,ae,ao,aq,ar,aw,aD,aE,aL,aM,aR,ba,bc,bd,bh,bj,bl,bm,bp,br,bu,bw,bz,bA,bB,w64 (bE+1)))else (gd (0+bp.length)).bind λ_=>(eff.cutL f.cells none (some aR)).bind λg=>(gd (([]++bp).length+g.length)).bind λ_=>(eff.cutL f.cells (some (w64 (aR+1))) none).bind λh=>(gd ((([]++bp)++g).length+h.length)).bind λ_=>(uU br f.orig).bind λj=>(gd (bm.length+([aB.mk ((([]++bp)++g)++h) j]).length)).bind λ_=>some (.inl (e,Y,Z,aa,ab,ac,ae,ao,aq,ar,aw,aD,aE,aL,aM,aR,ba,bc,bd,bh,bj,bl,bm++([aB.mk ((([]++bp)++g)++h) j]),bp,br,bu,bw,bz,bA,bB,w64 (bE+1)))
    else
     some (.inr (.inl (e,Y,Z,aa,ab,ac,ae,ao,aq,ar,aw,aD,aE,aL,aM,aR,ba,bc,bd,bh,bj,bl,bm,bu,bw,w64 (bz+1))))
   ) (y,z,A,B,C,D,E,F,G,H,I,J,K,L,M,N,O,P,Q,R,S,T,U,i.cells,i.orig,V,W,X,E,(E.length:Int),0)
  else
   (
    bif (decide ((U.length:Int)>12))then
     (aJ 6).bind λo=>
     some (ah o)
    else
     some (af.mk O P Q R S T U)
   ).bind λr=>some (.inr r)
 ) (c.kind,c.n,c.step,c.text,c.list,c.columns,c.rows,0,0,0,[],[],[],[],q,s,5,0,0,[],[],([]++b.columns)++k,[],b.rows,(b.rows.length:Int),0)
def acC:Fsp:=⟨170,[shT .val,shT .val,shT .val],[shT .val],false,false,λx=>FO x.1 x.2.1 x.2.2⟩
def sU(a:af)(b:af)(c:af)(d:af):Option (af):=(fB [2,2,2,5] [ah a,ah b,ah c,ah d]).bind λp=>bif p.2 then some (ah p.1)else (dH (ah d) b.text).bind λq=>(dH (ah d) c.text).bind λr=>(fK a.text).bind λs=>bif (!s)then (aJ 7).bind λt=>some (ah t)else (dH (ah d) a.text).bind λu=>bif (decide (u>=0))then (aJ 7).bind λv=>some (ah v)else bif (decide (q<0))then (aJ 7).bind λw=>some (ah w)else bif (decide (r<0))then (aJ 7).bind λx=>some (ah x)else bif (decide ((d.columns.length:Int)>=4))then (aJ 6).bind λk=>some (ah k)else (fC (ah d)).bind λf=>(gd (f.columns.length+([a.text]:List Str).length)).bind λ_=>aO (λ((y,z,A,B,C,D,E,F,G,H,I,J,K,L,M,N,O,P,Q):o5 (Int×Int×o5 aly))=>bif (decide (Q<P))then (idx O Q).bind λi=>(idx i.cells F).bind λg=>(idx i.cells G).bind λh=>(fU (w64 (g+h))).bind λl=>bif (!l)then (aJ 5).bind λm=>some (.inr (ah m))else (idx N Q).bind λ_=>(N[Q.toNat]?).bind λj=>(gd (j.cells.length+[w64 (g+h)].length)).bind λ_=>(idx N Q).bind λ_=>(N[Q.toNat]?).bind λo=>((if Q.toNat=Q.toNat/\0=0 then some ()else none)).bind λ_=>some (.inl (y,z,A,B,C,D,E,F,G,H,I,J,K,L,M,N.set Q.toNat (aB.mk (j.cells++[w64 (g+h)]) o.orig),O,P,w64 (Q+1)))else some (.inr (af.mk H I J K L M N))) (0,0,0,[],[],[],[],q,r,f.kind,f.n,f.step,f.text,f.list,f.columns++([a.text]:List Str),f.rows,d.rows,(d.rows.length:Int),0)
def Vl:Fsp:=⟨171,[shT .val,shT .val,shT .val,shT .val],[shT .val],false,false,λx=>sU x.1 x.2.1 x.2.2.1 x.2.2.2⟩
def bY(a:Str)(b:List af):Option (af):=(oG a).bind λR=>bif R then (aJ 4).bind λS=>some (ah S)else (dR a).bind λT=>bif ((b.length:Int) != T)then (aJ 4).bind λU=>some (ah U)else bif (a==[108,101,110])then (idx b 0).bind λV=>(wH (ah V)).bind λW=>some (ah W)else bif (a==[115,117,109])then (idx b 0).bind λX=>(Ob (ah X)).bind λY=>some (ah Y)else bif (a==[114,111,119,115])then (idx b 0).bind λZ=>(sK (ah Z)).bind λd=>some (ah d)else bif (a==[116,97,107,101])then (idx b 0).bind λe=>(idx b 1).bind λf=>(FD (ah e) (ah f)).bind λg=>some (ah g)else bif (a==[115,107,105,112])then (idx b 0).bind λh=>(idx b 1).bind λi=>(FH (ah h) (ah i)).bind λj=>some (ah j)else bif (a==[110,116,104])then (idx b 0).bind λk=>(idx b 1).bind λl=>(yh (ah k) (ah l)).bind λm=>some (ah m)else bif (a==[107,101,101,112])then (idx b 0).bind λo=>(idx b 1).bind λp=>(nI (ah o) (ah p)).bind λq=>some (ah q)else bif (a==[99,111,108,117,109,110])then (idx b 0).bind λr=>(idx b 1).bind λs=>(wP (ah r) (ah s)).bind λt=>some (ah t)else bif (a==[116,97,98,108,101])then (idx b 0).bind λu=>(idx b 1).bind λv=>(Aj (ah u) (ah v)).bind λw=>some (ah w)else bif (a==[119,104,101,114,101])then (idx b 0).bind λx=>(idx b 1).bind λy=>(idx b 2).bind λz=>(pY (ah x) (ah y) (ah z)).bind λA=>some (ah A)else bif (a==[103,114,111,117,112])then (idx b 0).bind λB=>(idx b 1).bind λC=>(idx b 2).bind λD=>(oH (ah B) (ah C) (ah D)).bind λE=>some (ah E)else bif (a==[106,111,105,110])then (idx b 0).bind λF=>(idx b 1).bind λG=>(idx b 2).bind λH=>(FO (ah F) (ah G) (ah H)).bind λI=>some (ah I)else bif (a==[97,100,100])then (idx b 0).bind λJ=>(idx b 1).bind λK=>(idx b 2).bind λL=>(idx b 3).bind λM=>(sU (ah J) (ah K) (ah L) (ah M)).bind λN=>some (ah N)else (fB [1,1] b).bind λc=>bif c.2 then some (ah c.1)else (idx b 0).bind λO=>(idx b 1).bind λP=>(nH O.n P.n).bind λQ=>some (ah Q)
def JX:Fsp:=⟨127,[shF .str,slF .val],[shT .val],false,false,λx=>bY x.1 x.2⟩
def BD(a:aG)(b:aG):Option (Bool):=bif (a.kind==b.kind)then bif (a.n==b.n)then bif (a.text==b.text)then some ((a.time==b.time))else some (false)else some (false)else some (false)
def Xu:Fsp:=⟨84,[shT .read,shT .read],[shF .bool],true,false,λx=>BD x.1 x.2⟩
def wK(a:List aG)(b:aG):Option (af×Bool):=aO (λ((g,h,i,j,k,l,m,o,p,q,r,s,t,u,v,w,x,y,z,A,B):Int×Int×Int×Str×o5 (o5 ((List aG)×Int×Int)))=>bif (decide (B<A))then (idx z B).bind λd=>(BD (xM d) (aG.mk g h i j (af.mk k l m o p q r))).bind λe=>bif e then (fC (ah d.result)).bind λf=>some (.inr (ah f,true))else some (.inl (g,h,i,j,k,l,m,o,p,q,r,s,t,u,v,w,x,y,z,A,w64 (B+1)))else some (.inr (af.mk 0 0 0 [] [] [] [],false))) (b.kind,b.n,b.time,b.text,b.result.kind,b.result.n,b.result.step,b.result.text,b.result.list,b.result.columns,b.result.rows,0,0,0,[],[],[],[],a,(a.length:Int),0)
def XB:Fsp:=⟨33,[slF .read,shT .read],[shT .val,shF .bool],true,false,λx=>wK x.1 x.2⟩
def ahe(a:Int)(b:Int)(c:Int)(d:Int):Option (Int):=bif (decide (((w64 ((w64 ((w64 ((w64 (48271*a))+(w64 (7919*b))))+(w64 (104729*c))))+(w64 (1299709*d)))).tmod 2147483647)<0))then some ((w64 (16807*(w64 (((w64 ((w64 ((w64 ((w64 (48271*a))+(w64 (7919*b))))+(w64 (104729*c))))+(w64 (1299709*d)))).tmod 2147483647)+2147483647)))).tmod 2147483647)else some ((w64 (16807*((w64 ((w64 ((w64 ((w64 (48271*a))+(w64 (7919*b))))+(w64 (104729*c))))+(w64 (1299709*d)))).tmod 2147483647))).tmod 2147483647)
def akn:Fsp:=⟨206,[shF .int,shF .int,shF .int,shF .int],[shF .int],true,false,λx=>ahe x.1 x.2.1 x.2.2.1 x.2.2.2⟩
def qO(a:bV)(b:Str):Option (Int×Bool):=aO (λ((e,f,g,h):Str×(List fP)×Int×Int)=>bif (decide (h<g))then (idx f h).bind λd=>bif (d.name==e)then some (.inr (d.n,true))else some (.inl (e,f,g,w64 (h+1)))else some (.inr (0,false))) (b,a.files,(a.files.length:Int),0)
def OB:Fsp:=⟨207,[shT .world,shF .str],[shF .int,shF .bool],true,false,λx=>qO x.1 x.2⟩
def jQ(a:bV)(b:Int)(c:Int)(d:aG):Option (af):=bif (d.kind==1)then (fU a.clock).bind λm=>bif (!m)then (aJ 4).bind λo=>some (ah o)else (dV a.clock).bind λp=>some (ah p)else bif (d.kind==2)then (jB d.n 1 1000000000).bind λq=>bif (!q)then (aJ 5).bind λr=>some (ah r)else (ahe a.seed b c d.time).bind λs=>(Qb s d.n).bind λl=>(fU l).bind λt=>bif (!t)then (aJ 4).bind λu=>some (ah u)else (dV l).bind λf=>some (ah f)else bif (d.kind==3)then (qO a d.text).bind λe=>bif (!e.2)then (aJ 1).bind λg=>some (ah g)else (fU e.1).bind λh=>bif (!h)then (aJ 4).bind λi=>some (ah i)else (dV e.1).bind λj=>some (ah j)else (aJ 4).bind λk=>some (ah k)
def JW:Fsp:=⟨174,[shT .world,shF .int,shF .int,shT .read],[shT .val],true,false,λx=>jQ x.1 x.2.1 x.2.2.1 x.2.2.2⟩
def eX(a:aA)(b:aG):Option (aA×af):=aO (λ((i,j,k,l,m,o,p,q,s,t,u,v,x,y,z,A,B,C,D,E,F,G,H,I,J,K,L,M,N):alp (Int×Int×Int×Str×o5 (o5 (Int×Int))))=>bif (decide (N<M))then (idx p N).bind λ_=>(p[N.toNat]?).bind λd=>bif (d.kind==t)then bif (d.n==u)then bif (d.text==x)then some (.inl (i,j,k,l,m,o,p,q,s,t,u,w64 (v+1),x,y,z,A,B,C,D,E,F,G,H,I,J,K,L,M,w64 (N+1)))else some (.inl (i,j,k,l,m,o,p,q,s,t,u,v,x,y,z,A,B,C,D,E,F,G,H,I,J,K,L,M,w64 (N+1)))else some (.inl (i,j,k,l,m,o,p,q,s,t,u,v,x,y,z,A,B,C,D,E,F,G,H,I,J,K,L,M,w64 (N+1)))else some (.inl (i,j,k,l,m,o,p,q,s,t,u,v,x,y,z,A,B,C,D,E,F,G,H,I,J,K,L,M,w64 (N+1)))
  else
  (
   (wK i (aG.mk t u v x (af.mk y z A B C D E))).bind λe=>
   bif (!e.2)then
    (jQ (bV.mk j k l) m o (aG.mk t u v x (af.mk y z A B C D E))).bind λf=>
    (fC (ah f)).bind λg=>
    (gd (p.length+[aG.mk t u v x (ah g)].length)).bind λ_=>
    some (aA.mk i (bV.mk j k l) m o (p++[aG.mk t u v x (ah g)]) q s,ah f)
   else
    (fC (ah e.1)).bind λh=>
    (gd (p.length+[aG.mk t u v x (ah h)].length)).bind λ_=>
    some (aA.mk i (bV.mk j k l) m o (p++[aG.mk t u v x (ah h)]) q s,ah e.1)
  ).bind λr=>some (.inr r)
 ) (a.tape,a.w.clock,a.w.seed,a.w.files,a.cell,a.version,a.reads,a.steps,a.over,b.kind,b.n,b.time,b.text,b.result.kind,b.result.n,b.result.step,b.result.text,b.result.list,b.result.columns,b.result.rows,0,0,0,[],[],[],[],(a.reads.length:Int),0)
def IC:Fsp:=⟨128,[shT .iE,shT .read],[shT .iE,shT .val],false,false,λx=>eX x.1 x.2⟩
def lK(riMachineEval:aA->au->(List ak)->Option (aA×af))(riMachineAll:aA->(List au)->(List ak)->Option (aA×(List af)))(riMachineLoop:aA->au->(List ak)->Option (aA×af))(riMachineCall:aA->au->(List ak)->Option (aA×af))(a:aA)(b:au)(c:List ak):Option (aA×af):=bif a.over then some (aA.mk a.tape a.w a.cell a.version a.reads a.steps true,af.mk 0 0 0 [] [] [] [])else bif (a.steps==200)then some (aA.mk a.tape a.w a.cell a.version a.reads a.steps true,af.mk 0 0 0 [] [] [] [])else bif (b.kind==1)then (dV b.n).bind λu=>some (aA.mk a.tape a.w a.cell a.version a.reads (w64 (a.steps+1)) a.over,ah u)else bif (b.kind==2)then (sG b.text).bind λv=>some (aA.mk a.tape a.w a.cell a.version a.reads (w64 (a.steps+1)) a.over,ah v)else bif (b.kind==3)then (KJ c b.text).bind λx=>some (aA.mk a.tape a.w a.cell a.version a.reads (w64 (a.steps+1)) a.over,ah x)else bif (b.kind==4)then (riMachineAll (aA.mk a.tape a.w a.cell a.version a.reads (w64 (a.steps+1)) a.over) b.args c).bind λt=>(jC t.2).bind λy=>some (t.1,ah y)else bif (b.kind==6)then (riMachineAll (aA.mk a.tape a.w a.cell a.version a.reads (w64 (a.steps+1)) a.over) b.args c).bind λk=>(idx k.2 0).bind λz=>(idx k.2 1).bind λA=>(jm b.n (ah z) (ah A)).bind λB=>some (k.1,ah B)else bif (b.kind==7)then (idx b.args 0).bind λl=>(riMachineEval (aA.mk a.tape a.w a.cell a.version a.reads (w64 (a.steps+1)) a.over) (aN l) c).bind λe=>(idx b.args 1).bind λm=>(XF c b.text (ah e.2)).bind λo=>(riMachineEval e.1 (aN m) o).bind λf=>some (f.1,ah f.2)else bif (b.kind==8)then (idx b.args 0).bind λp=>(riMachineEval (aA.mk a.tape a.w a.cell a.version a.reads (w64 (a.steps+1)) a.over) (aN p) c).bind λd=>bif d.1.over then some (d.1,ah d.2)else bif (d.2.kind==6)then some (d.1,ah d.2)else (KN (ah d.2)).bind λq=>bif q then (idx b.args 1).bind λr=>(riMachineEval d.1 (aN r) c).bind λg=>some (g.1,ah g.2)else (idx b.args 2).bind λs=>(riMachineEval d.1 (aN s) c).bind λh=>some (h.1,ah h.2)else bif (b.kind==9)then (riMachineLoop (aA.mk a.tape a.w a.cell a.version a.reads (w64 (a.steps+1)) a.over) (aN b) c).bind λi=>some (i.1,ah i.2)else (riMachineCall (aA.mk a.tape a.w a.cell a.version a.reads (w64 (a.steps+1)) a.over) (aN b) c).bind λj=>some (j.1,ah j.2)
def yt(riMachineEval:aA->au->(List ak)->Option (aA×af))(riMachineAll:aA->(List au)->(List ak)->Option (aA×(List af)))(riMachineLoop:aA->au->(List ak)->Option (aA×af))(riMachineCall:aA->au->(List ak)->Option (aA×af))(a:aA)(b:List au)(c:List ak):Option (aA×(List af)):=aO (λ((g,h,i,j,k,l,m,n,o,p,q,r,s,t):alp ((List ak)×(List af)×alD))=>bif (decide (t<s))then (idx r t).bind λf=>(riMachineEval (aA.mk g (bV.mk h i j) k l m n o) (aN f) p).bind λe=>(gd (q.length+[ah e.2].length)).bind λ_=>some (.inl (e.1.tape,e.1.w.clock,e.1.w.seed,e.1.w.files,e.1.cell,e.1.version,e.1.reads,e.1.steps,e.1.over,p,q++[ah e.2],r,s,w64 (t+1)))else some (.inr (aA.mk g (bV.mk h i j) k l m n o,q))) (a.tape,a.w.clock,a.w.seed,a.w.files,a.cell,a.version,a.reads,a.steps,a.over,c,[],b,(b.length:Int),0)
def uY(riMachineEval:aA->au->(List ak)->Option (aA×af))(riMachineAll:aA->(List au)->(List ak)->Option (aA×(List af)))(riMachineLoop:aA->au->(List ak)->Option (aA×af))(riMachineCall:aA->au->(List ak)->Option (aA×af))(a:aA)(b:au)(c:List ak):Option (aA×af):=(idx b.args 0).bind λg=>(riMachineEval a (aN g) c).bind λe=>bif e.1.over then some (e.1,ah e.2)else bif (e.2.kind==6)then some (e.1,ah e.2)else bif (e.2.kind != 3)then (aJ 4).bind λh=>some (e.1,ah h)else aO (λ((m,o,p,q,s,t,u,v,x,y,z,A,B,C,D,E,F,G,H,I,J,K,L,M,N):alp ((List ak)×F6 (o5 ((List af)×alv))))=>bif (decide (N<M))then (idx L N).bind λi=>(idx C 1).bind λj=>(XF y B (ah i)).bind λk=>(riMachineEval (aA.mk m (bV.mk o p q) s t u v x) (aN j) k).bind λf=>(gd (K.length+[ah f.2].length)).bind λ_=>bif f.1.over then some (.inr (f.1,af.mk 0 0 0 [] [] [] []))else some (.inl (f.1.tape,f.1.w.clock,f.1.w.seed,f.1.w.files,f.1.cell,f.1.version,f.1.reads,f.1.steps,f.1.over,y,z,A,B,C,D,E,F,G,H,I,J,K++[ah f.2],L,M,w64 (N+1)))else ((jC K).bind λl=>some (aA.mk m (bV.mk o p q) s t u v x,ah l)).bind λr=>some (.inr r)) (e.1.tape,e.1.w.clock,e.1.w.seed,e.1.w.files,e.1.cell,e.1.version,e.1.reads,e.1.steps,e.1.over,c,b.kind,b.n,b.text,b.args,0,0,0,[],[],[],[],[],e.2.list,(e.2.list.length:Int),0)
def uZ(riMachineEval:aA->au->(List ak)->Option (aA×af))(riMachineAll:aA->(List au)->(List ak)->Option (aA×(List af)))(riMachineLoop:aA->au->(List ak)->Option (aA×af))(riMachineCall:aA->au->(List ak)->Option (aA×af))(a:aA)(b:au)(c:List ak):Option (aA×af):=(riMachineAll a b.args c).bind λd=>bif d.1.over then some (d.1,af.mk 0 0 0 [] [] [] [])else (oG b.text).bind λF=>bif (!F)then (bY b.text d.2).bind λG=>some (d.1,ah G)else bif (decide ((d.2.length:Int)>0))then (idx d.2 0).bind λH=>bif (H.kind==6)then (idx d.2 0).bind λI=>some (d.1,ah I)else bif (b.text==[99,108,111,99,107])then (eX d.1 (aG.mk 1 0 0 [] (af.mk 0 0 0 [] [] [] []))).bind λD=>some (D.1,ah D.2)else bif (b.text==[99,104,97,110,99,101])then (idx d.2 0).bind λJ=>bif (J.kind==1)then (idx d.2 0).bind λK=>(eX d.1 (aG.mk 2 K.n 0 [] (af.mk 0 0 0 [] [] [] []))).bind λE=>some (E.1,ah E.2)else bif (b.text==[102,105,108,101])then (idx d.2 0).bind λk=>bif (k.kind==2)then (idx d.2 0).bind λl=>(eX d.1 (aG.mk 3 0 0 l.text (af.mk 0 0 0 [] [] [] []))).bind λe=>some (e.1,ah e.2)else (aJ 4).bind λm=>some (d.1,ah m)else (aJ 4).bind λo=>some (d.1,ah o)else bif (b.text==[102,105,108,101])then (idx d.2 0).bind λp=>bif (p.kind==2)then (idx d.2 0).bind λq=>(eX d.1 (aG.mk 3 0 0 q.text (af.mk 0 0 0 [] [] [] []))).bind λf=>some (f.1,ah f.2)else (aJ 4).bind λr=>some (d.1,ah r)else (aJ 4).bind λs=>some (d.1,ah s)else bif (b.text==[99,108,111,99,107])then (eX d.1 (aG.mk 1 0 0 [] (af.mk 0 0 0 [] [] [] []))).bind λg=>some (g.1,ah g.2)else bif (b.text==[99,104,97,110,99,101])then (idx d.2 0).bind λt=>bif (t.kind==1)then (idx d.2 0).bind λu=>(eX d.1 (aG.mk 2 u.n 0 [] (af.mk 0 0 0 [] [] [] []))).bind λh=>some (h.1,ah h.2)else bif (b.text==[102,105,108,101])then (idx d.2 0).bind λv=>bif (v.kind==2)then (idx d.2 0).bind λw=>(eX d.1 (aG.mk 3 0 0 w.text (af.mk 0 0 0 [] [] [] []))).bind λi=>some (i.1,ah i.2)else (aJ 4).bind λx=>some (d.1,ah x)else (aJ 4).bind λy=>some (d.1,ah y)else bif (b.text==[102,105,108,101])then (idx d.2 0).bind λz=>bif (z.kind==2)then (idx d.2 0).bind λA=>(eX d.1 (aG.mk 3 0 0 A.text (af.mk 0 0 0 [] [] [] []))).bind λj=>some (j.1,ah j.2)else (aJ 4).bind λB=>some (d.1,ah B)else (aJ 4).bind λC=>some (d.1,ah C)
def aT:Nat->(aA->au->(List ak)->Option (aA×af))×(aA->(List au)->(List ak)->Option (aA×(List af)))×(aA->au->(List ak)->Option (aA×af))×(aA->au->(List ak)->Option (aA×af))
 | 0=>(λ_ _ _=>none,λ_ _ _=>none,λ_ _ _=>none,λ_ _ _=>none)
 | n+1=>(lK (aT n).1 (aT n).2.1 (aT n).2.2.1 (aT n).2.2.2,yt (aT n).1 (aT n).2.1 (aT n).2.2.1 (aT n).2.2.2,uY (aT n).1 (aT n).2.1 (aT n).2.2.1 (aT n).2.2.2,uZ (aT n).1 (aT n).2.1 (aT n).2.2.1 (aT n).2.2.2)
def yj(a:aA)(b:au)(c:List ak):Option (aA×af):=(aT (siz a+siz b+siz c+1)).1 a b c
def Oq:Fsp:=⟨30,[shT .iE,shT .expr,slF .binding],[shT .iE,shT .val],false,false,λx=>yj x.1 x.2.1 x.2.2⟩
def qp(n:Nat):Fsp:=⟨30,[shT .iE,shT .expr,slF .binding],[shT .iE,shT .val],false,false,λx=>(aT n).1 x.1 x.2.1 x.2.2⟩
def Xw(a:aA)(b:List au)(c:List ak):Option (aA×(List af)):=(aT (siz a+siz b+siz c+1)).2.1 a b c
def Qv:Fsp:=⟨76,[shT .iE,slF .expr,slF .binding],[shT .iE,slF .val],false,false,λx=>Xw x.1 x.2.1 x.2.2⟩
def sH(n:Nat):Fsp:=⟨76,[shT .iE,slF .expr,slF .binding],[shT .iE,slF .val],false,false,λx=>(aT n).2.1 x.1 x.2.1 x.2.2⟩
def U6(a:aA)(b:au)(c:List ak):Option (aA×af):=(aT (siz a+siz b+siz c+1)).2.2.1 a b c
def Oo:Fsp:=⟨80,[shT .iE,shT .expr,slF .binding],[shT .iE,shT .val],false,false,λx=>U6 x.1 x.2.1 x.2.2⟩
def qo(n:Nat):Fsp:=⟨80,[shT .iE,shT .expr,slF .binding],[shT .iE,shT .val],false,false,λx=>(aT n).2.2.1 x.1 x.2.1 x.2.2⟩
def U7(a:aA)(b:au)(c:List ak):Option (aA×af):=(aT (siz a+siz b+siz c+1)).2.2.2 a b c
def Ot:Fsp:=⟨81,[shT .iE,shT .expr,slF .binding],[shT .iE,shT .val],false,false,λx=>U7 x.1 x.2.1 x.2.2⟩
def qw(n:Nat):Fsp:=⟨81,[shT .iE,shT .expr,slF .binding],[shT .iE,shT .val],false,false,λx=>(aT n).2.2.2 x.1 x.2.1 x.2.2⟩
def wL(a:au)(b:List ak)(c:List aG)(d:bV)(e:Int)(f:Int):Option (dX):=(kX (aN a)).bind λh=>bif (!h)then (aJ 4).bind λi=>some (dX.mk (ah i) [] 0)else (yj (aA.mk c d e f [] 0 false) (aN a) b).bind λg=>bif g.1.over then (aJ 6).bind λj=>(fC (ah j)).bind λk=>some (dX.mk (ah k) g.1.reads g.1.steps)else (fC (ah g.2)).bind λl=>some (dX.mk (ah l) g.1.reads g.1.steps)
def XC:Fsp:=⟨8,[shT .expr,slF .binding,slF .read,shT .world,shF .int,shF .int],[shT .outcome],false,false,λx=>wL x.1 x.2.1 x.2.2.1 x.2.2.2.1 x.2.2.2.2.1 x.2.2.2.2.2⟩
def rU(a:iH)(b:iH):Option (Bool):=bif ((a.cells.length:Int) != (b.cells.length:Int))then some (false)else aO (λ((f,g,h):(List AP)×(List AP)×Int)=>bif (decide (h<(f.length:Int)))then (idx f h).bind λd=>(idx g h).bind λe=>bif (!((d.id==e.id)&&((d.version==e.version)&&((d.kind==e.kind)&&((d.name==e.name)&&((d.code==e.code)&&(d.n==e.n)))))))then some (.inr (false))else some (.inl (f,g,w64 (h+1)))else some (.inr (true))) (a.cells,b.cells,0)
def Hw:Fsp:=⟨142,[shT .notebook,shT .notebook],[shF .bool],true,false,λx=>rU x.1 x.2⟩
def LY(a:List Str)(b:List Str):Option (Bool):=bif ((a.length:Int) != (b.length:Int))then some (false)else aO (λ((f,g,h):(List Str)×(List Str)×Int)=>bif (decide (h<(f.length:Int)))then (idx f h).bind λd=>(idx g h).bind λe=>bif (!(d==e))then some (.inr (false))else some (.inl (f,g,w64 (h+1)))else some (.inr (true))) (a,b,0)
def YK:Fsp:=⟨129,[slF .str,slF .str],[shF .bool],true,false,λx=>LY x.1 x.2⟩
def Uh(a:List Int)(b:List Int):Option (Bool):=bif ((a.length:Int) != (b.length:Int))then some (false)else aO (λ((f,g,h):(List Int)×(List Int)×Int)=>bif (decide (h<(f.length:Int)))then (idx f h).bind λd=>(idx g h).bind λe=>bif (d != e)then some (.inr (false))else some (.inl (f,g,w64 (h+1)))else some (.inr (true))) (a,b,0)
def abR:Fsp:=⟨130,[slF .int,slF .int],[shF .bool],true,false,λx=>Uh x.1 x.2⟩
def Dl(a:List aj)(b:List aj):Option (Bool):=bif ((a.length:Int) != (b.length:Int))then some (false)else aO (λ((f,g,h):(List aj)×(List aj)×Int)=>bif (decide (h<(f.length:Int)))then (idx f h).bind λd=>(idx g h).bind λe=>bif (!((d.cell==e.cell)&&(d.row==e.row)))then some (.inr (false))else some (.inl (f,g,w64 (h+1)))else some (.inr (true))) (a,b,0)
def Ua:Fsp:=⟨131,[slF .origin,slF .origin],[shF .bool],true,false,λx=>Dl x.1 x.2⟩
def y9(rsL3Same:af->af->Bool->Option (Bool))(a:af)(b:af)(c:Bool):Option (Bool):=bif (a.kind != b.kind)then some (false)else bif (a.n != b.n)then some (false)else bif (a.step != b.step)then some (false)else bif (!(a.text==b.text))then some (false)else bif ((a.list.length:Int) != (b.list.length:Int))then some (false)else (LY a.columns b.columns).bind λi=>bif (!i)then some (false)else bif ((a.rows.length:Int) != (b.rows.length:Int))then some (false)else aO (λ((q,s,t,u,v,w,x,y,z,A,B,C,D,E,F,G):Bool×o5 (o5 Int))=>bif (decide (G<(w.length:Int)))then (idx w G).bind λj=>(idx D G).bind λk=>(rsL3Same (ah j) (ah k) q).bind λl=>bif (!l)then some (.inr (false))else some (.inl (q,s,t,u,v,w,x,y,z,A,B,C,D,E,F,w64 (G+1)))else (aO (λ((e,H,I,J,K,L,M,N,O,P,Q,R,S,T,U,V):Bool×o5 (o5 Int))=>bif (decide (V<(N.length:Int)))then (idx N V).bind λm=>(idx U V).bind λo=>(Uh m.cells o.cells).bind λp=>bif (!p)then some (.inr (false))else bif e then (idx N V).bind λf=>(idx U V).bind λg=>(Dl f.orig g.orig).bind λh=>bif (!h)then some (.inr (false))else some (.inl (e,H,I,J,K,L,M,N,O,P,Q,R,S,T,U,w64 (V+1)))else some (.inl (e,H,I,J,K,L,M,N,O,P,Q,R,S,T,U,w64 (V+1)))else some (.inr (true))) (q,s,t,u,v,w,x,y,z,A,B,C,D,E,F,0)).bind λr=>some (.inr r)) (c,a.kind,a.n,a.step,a.text,a.list,a.columns,a.rows,b.kind,b.n,b.step,b.text,b.list,b.columns,b.rows,0)
def pz:Nat->(af->af->Bool->Option (Bool))
 | 0=>λ_ _ _=>none
 | n+1=>y9 (pz n)
def EI(a:af)(b:af)(c:Bool):Option (Bool):=(pz (siz a+siz b+1)) a b c
def abL:Fsp:=⟨85,[shT .val,shT .val,shF .bool],[shF .bool],true,false,λx=>EI x.1 x.2.1 x.2.2⟩
def Dk(n:Nat):Fsp:=⟨85,[shT .val,shT .val,shF .bool],[shF .bool],true,false,λx=>(pz n) x.1 x.2.1 x.2.2⟩
def pI(a:af)(b:af):Option (Bool):=(EI (ah a) (ah b) true).bind λc=>some (c)
def P8:Fsp:=⟨34,[shT .val,shT .val],[shF .bool],true,false,λx=>pI x.1 x.2⟩
def vN(a:aG)(b:aG):Option (Bool):=bif (a.kind==b.kind)then bif (a.n==b.n)then bif (a.text==b.text)then some ((a.time==b.time))else some (false)else some (false)else some (false)
def YQ:Fsp:=⟨216,[shT .read,shT .read],[shF .bool],true,false,λx=>vN x.1 x.2⟩
def LX(a:List aG)(b:List aG):Option (Bool):=bif ((a.length:Int) != (b.length:Int))then some (false)else aO (λ((j,k,l):(List aG)×(List aG)×Int)=>bif (decide (l<(j.length:Int)))then (idx j l).bind λd=>(idx k l).bind λe=>(vN (xM d) (xM e)).bind λf=>bif (!f)then some (.inr (false))else (idx j l).bind λg=>(idx k l).bind λh=>(pI (ah g.result) (ah h.result)).bind λi=>bif (!i)then some (.inr (false))else some (.inl (j,k,w64 (l+1)))else some (.inr (true))) (a,b,0)
def YJ:Fsp:=⟨191,[slF .read,slF .read],[shF .bool],true,false,λx=>LX x.1 x.2⟩
def He(a:List nS)(b:List nS):Option (Bool):=bif ((a.length:Int) != (b.length:Int))then some (false)else aO (λ((k,l,m):(List nS)×(List nS)×Int)=>bif (decide (m<(k.length:Int)))then (idx k m).bind λd=>(idx l m).bind λe=>bif (d.cell != e.cell)then some (.inr (false))else (idx k m).bind λf=>(idx l m).bind λg=>bif (f.version != g.version)then some (.inr (false))else (idx k m).bind λh=>(idx l m).bind λi=>(LX h.reads i.reads).bind λj=>bif (!j)then some (.inr (false))else some (.inl (k,l,w64 (m+1)))else some (.inr (true))) (a,b,0)
def V4:Fsp:=⟨143,[slF .tape,slF .tape],[shF .bool],true,false,λx=>He x.1 x.2⟩
def ny(a:jT)(b:jT):Option (Bool):=(rU a.notebook b.notebook).bind λc=>bif c then (He a.tapes b.tapes).bind λd=>some (d)else some (false)
def Hy:Fsp:=⟨97,[shT .document,shT .document],[shF .bool],true,false,λx=>ny x.1 x.2⟩
def A8(a:List nS)(b:List nS):Option (Bool):=(ny (jT.mk (iH.mk []) a []) (jT.mk (iH.mk []) b [])).bind λc=>some (c)
def VX:Fsp:=⟨39,[slF .tape,slF .tape],[shF .bool],true,false,λx=>A8 x.1 x.2⟩
def Ba(a:List aG)(b:List aG):Option (Bool):=(A8 [nS.mk 0 0 a] [nS.mk 0 0 b]).bind λc=>some (c)
def VY:Fsp:=⟨12,[slF .read,slF .read],[shF .bool],true,false,λx=>Ba x.1 x.2⟩
def o8(a:dX)(b:dX):Option (Bool):=bif (a.steps==b.steps)then (pI (ah a.value) (ah b.value)).bind λc=>bif c then (Ba a.reads b.reads).bind λd=>some (d)else some (false)else some (false)
def PG:Fsp:=⟨10,[shT .outcome,shT .outcome],[shF .bool],true,false,λx=>o8 x.1 x.2⟩
def J9(a:List ak)(b:Str):Option (af):=aO (λ((h,i,j,k,l,m,n,o,p,q):(List ak)×Str×o5 Int)=>bif (decide (q>=0))then (idx h q).bind λd=>bif (d.name==i)then (idx h q).bind λe=>(jW (ah e.value)).bind λf=>some (.inr (ah f))else some (.inl (h,i,j,k,l,m,n,o,p,w64 (q-1)))else ((aF 1).bind λg=>some (ah g)).bind λr=>some (.inr r)) (a,b,0,0,0,[],[],[],[],w64 ((a.length:Int)-1))
def abG:Fsp:=⟨87,[slF .binding,shF .str],[shT .val],true,false,λx=>J9 x.1 x.2⟩
def lD(a:List af):Option (af×Bool):=aO (λ((i,j,k,l,m,o,p,q,r):(List af)×o5 Int)=>bif (decide (r<(i.length:Int)))then (idx i r).bind λc=>(iC (ah c)).bind λd=>bif (!d)then (aF 4).bind λe=>some (.inr (ah e,true))else (idx i r).bind λf=>bif (f.kind==6)then (idx i r).bind λg=>(aF g.n).bind λh=>some (.inr (ah h,true))else some (.inl (i,j,k,l,m,o,p,q,w64 (r+1)))else some (.inr (af.mk 0 0 0 [] [] [] [],false))) (a,0,0,0,[],[],[],[],0)
def YI:Fsp:=⟨132,[slF .val],[shT .val,shF .bool],true,false,λx=>lD x⟩
def jd(a:List af):Option (af):=aO (λ((e,f,g,h,i,j,k,l,m,n,o,p,q,r,s,t):(List af)×o5 (o5 Int))=>bif (decide (t<(e.length:Int)))then (idx e t).bind λd=>(jW (ah d)).bind λc=>(gd (q.length+[ah c].length)).bind λ_=>some (.inl (e,f,g,h,i,j,k,l,m,n,o,p,q++[ah c],r,s,w64 (t+1)))else some (.inr (af.mk m n o p q r s))) (a,0,0,0,[],[],[],[],3,0,0,[],[],[],[],0)
def TR:Fsp:=⟨133,[slF .val],[shT .val],true,false,λx=>jd x⟩
def iK(a:List af):Option (af):=(lD a).bind λd=>bif d.2 then (jW (ah d.1)).bind λf=>some (ah f)else aO (λ((l,m,n,o,p,q,s,t,u):(List af)×o5 Int)=>bif (decide (u<(l.length:Int)))then (idx l u).bind λg=>(rF (ah g)).bind λh=>bif (!h)then (aF 4).bind λi=>some (.inr (ah i))else some (.inl (l,m,n,o,p,q,s,t,w64 (u+1)))else ((jd l).bind λe=>bif (decide ((l.length:Int)>8))then (aF 6).bind λj=>some (ah j)else (EU (ah e)).bind λk=>bif (decide (k>3))then (aF 6).bind λc=>some (ah c)else some (ah e)).bind λr=>some (.inr r)) (a,0,0,0,[],[],[],[],0)
def Uo:Fsp:=⟨89,[slF .val],[shT .val],true,false,λx=>iK x⟩
def zQ(rsHasEffect:au->Option (Bool))(a:au):Option (Bool):=bif (a.kind==5)then bif (a.text==[99,108,111,99,107])then some (true)else bif (a.text==[99,104,97,110,99,101])then some (true)else bif (a.text==[102,105,108,101])then some (true)else aO (λ((h,i,j,k,l):F6 Int)=>bif (decide (l<(k.length:Int)))then (idx k l).bind λd=>(rsHasEffect (aN d)).bind λe=>bif e then some (.inr (true))else some (.inl (h,i,j,k,w64 (l+1)))else some (.inr (false))) (a.kind,a.n,a.text,a.args,0)else aO (λ((b,m,o,p,q):F6 Int)=>bif (decide (q<(p.length:Int)))then (idx p q).bind λf=>(rsHasEffect (aN f)).bind λg=>bif g then some (.inr (true))else some (.inl (b,m,o,p,w64 (q+1)))else some (.inr (false))) (a.kind,a.n,a.text,a.args,0)
def zO:Nat->(au->Option (Bool))
 | 0=>λ_=>none
 | n+1=>zQ (zO n)
def Dx(a:au):Option (Bool):=(zO (siz a+1)) a
def Uk:Fsp:=⟨134,[shT .expr],[shF .bool],true,false,λx=>Dx x⟩
def uQ(n:Nat):Fsp:=⟨134,[shT .expr],[shF .bool],true,false,λx=>(zO n) x⟩
def vJ(a:af):Option (af):=(lD [ah a]).bind λb=>bif b.2 then some (ah b.1)else bif (a.kind==3)then (bF (a.list.length:Int)).bind λc=>some (ah c)else bif (a.kind==2)then (bF (a.text.length:Int)).bind λd=>some (ah d)else (aF 4).bind λe=>some (ah e)
def VZ:Fsp:=⟨175,[shT .val],[shT .val],true,false,λx=>vJ x⟩
def eH(a:Int):Option (af):=(iT a).bind λb=>bif (!b)then (aF 5).bind λc=>some (ah c)else (bF a).bind λd=>some (ah d)
def HY:Fsp:=⟨141,[shF .int],[shT .val],true,false,λx=>eH x⟩
def LJ(a:af):Option (af):=(lD [ah a]).bind λe=>bif e.2 then some (ah e.1)else bif (a.kind != 3)then (aF 4).bind λf=>some (ah f)else (bF 0).bind λd=>aO (λ((j,k,l,m,o,p,q,r,s,t,u,v,w,x,y,z,A,B,C,D,E,F):o5 (o5 (o5 Int)))=>bif (decide (F<(o.length:Int)))then (idx o F).bind λg=>bif (g.kind != 1)then (aF 4).bind λh=>some (.inr (ah h))else (idx o F).bind λi=>(eH (w64 (z+i.n))).bind λc=>bif (c.kind==6)then some (.inr (ah c))else some (.inl (j,k,l,m,o,p,q,r,s,t,u,v,w,x,c.kind,c.n,c.step,c.text,c.list,c.columns,c.rows,w64 (F+1)))else some (.inr (af.mk y z A B C D E))) (a.kind,a.n,a.step,a.text,a.list,a.columns,a.rows,0,0,0,[],[],[],[],d.kind,d.n,d.step,d.text,d.list,d.columns,d.rows,0)
def adE:Fsp:=⟨176,[shT .val],[shT .val],true,false,λx=>LJ x⟩
def jk(a:List af)(b:List Int):Option (af×Bool):=(lD a).bind λd=>bif d.2 then some (ah d.1,true)else aO (λ((h,i,j,k,l,m,n,o,p,q):(List af)×(List Int)×o5 Int)=>bif (decide (q<(h.length:Int)))then (idx h q).bind λe=>(idx i q).bind λf=>bif (e.kind != f)then (aF 4).bind λg=>some (.inr (ah g,true))else some (.inl (h,i,j,k,l,m,n,o,p,w64 (q+1)))else some (.inr (af.mk 0 0 0 [] [] [] [],false))) (a,b,0,0,0,[],[],[],[],0)
def YH:Fsp:=⟨208,[slF .val,slF .int],[shT .val,shF .bool],true,false,λx=>jk x.1 x.2⟩
def rV(a:af):Option (af):=(jk [ah a] [5]).bind λb=>bif b.2 then some (ah b.1)else (bF (a.rows.length:Int)).bind λc=>some (ah c)
def Um:Fsp:=⟨177,[shT .val],[shT .val],true,false,λx=>rV x⟩
def uf(a:af)(b:af):Option (af×Bool):=(lD [ah a,ah b]).bind λc=>bif c.2 then some (ah c.1,true)else bif (a.kind != 1)then (aF 4).bind λd=>some (ah d,true)else bif (b.kind != 3)then bif (b.kind != 4)then (aF 4).bind λe=>some (ah e,true)else some (af.mk 0 0 0 [] [] [] [],false)else some (af.mk 0 0 0 [] [] [] [],false)
def abI:Fsp:=⟨209,[shT .val,shT .val],[shT .val,shF .bool],true,false,λx=>uf x.1 x.2⟩
def uO(a:af)(b:af):Option (af):=(uf (ah a) (ah b)).bind λc=>bif c.2 then some (ah c.1)else bif (decide (a.n<0))then (aF 5).bind λd=>some (ah d)else bif (b.kind==3)then bif (decide (a.n>=(b.list.length:Int)))then (aF 5).bind λe=>some (ah e)else bif (b.kind==3)then (idx b.list a.n).bind λf=>(jW (ah f)).bind λg=>some (ah g)else (eH (w64 (b.n+(w64 (a.n*b.step))))).bind λh=>some (ah h)else bif (b.kind==3)then (idx b.list a.n).bind λi=>(jW (ah i)).bind λj=>some (ah j)else (eH (w64 (b.n+(w64 (a.n*b.step))))).bind λk=>some (ah k)
def adG:Fsp:=⟨180,[shT .val,shT .val],[shT .val],true,false,λx=>uO x.1 x.2⟩
def ED(a:af)(b:af):Option (af):=(uf (ah a) (ah b)).bind λf=>bif f.2 then some (ah f.1)else (vM a.n 0 8).bind λg=>bif (!g)then (aF 5).bind λh=>some (ah h)else aO (λ((k,l,m,o,p,q,r,s,t,u,v,w,x,y,z,A,B,C,D,E,F,G,H,I,J,K,L,M,N):o5 (o5 (o5 (o5 Int))))=>bif (decide (N<l))then bif (s==3)then bif (N==(w.length:Int))then some (.inr (af.mk G H I J K L M))else (bF N).bind λi=>(uO (ah i) (af.mk s t u v w x y)).bind λd=>bif (d.kind==6)then some (.inr (ah d))else (gd (K.length+[ah d].length)).bind λ_=>some (.inl (k,l,m,o,p,q,r,s,t,u,v,w,x,y,z,A,B,C,D,E,F,G,H,I,J,K++[ah d],L,M,w64 (N+1)))else (bF N).bind λj=>(uO (ah j) (af.mk s t u v w x y)).bind λe=>bif (e.kind==6)then some (.inr (ah e))else (gd (K.length+[ah e].length)).bind λ_=>some (.inl (k,l,m,o,p,q,r,s,t,u,v,w,x,y,z,A,B,C,D,E,F,G,H,I,J,K++[ah e],L,M,w64 (N+1)))else some (.inr (af.mk G H I J K L M))
 ) (a.kind,a.n,a.step,a.text,a.list,a.columns,a.rows,b.kind,b.n,b.step,b.text,b.list,b.columns,b.rows,0,0,0,[],[],[],[],3,0,0,[],[],[],[],0)
def abC:Fsp:=⟨178,[shT .val,shT .val],[shT .val],true,false,λx=>ED x.1 x.2⟩
def Ug(a:Int)(b:Int):Option (Int):=bif (decide (a<b))then some (a)else some (b)
def adN:Fsp:=⟨210,[shF .int,shF .int],[shF .int],true,false,λx=>Ug x.1 x.2⟩
def EF(a:af)(b:af):Option (af):=(uf (ah a) (ah b)).bind λd=>bif d.2 then some (ah d.1)else bif (decide (a.n<0))then (aF 5).bind λe=>some (ah e)else bif (b.kind==3)then (Ug a.n (b.list.length:Int)).bind λf=>(eff.cutL b.list (some f) none).bind λg=>(jd g).bind λh=>some (ah h)else (uO (ah a) (ah b)).bind λc=>bif (c.kind==6)then some (ah c)else (kQ c.n b.step).bind λi=>some (ah i)
def abD:Fsp:=⟨179,[shT .val,shT .val],[shT .val],true,false,λx=>EF x.1 x.2⟩
def vP(a:af)(b:af):Option (af):=(jk [ah a,ah b] [1,1]).bind λc=>bif c.2 then some (ah c.1)else (kQ a.n b.n).bind λd=>some (ah d)
def Wl:Fsp:=⟨181,[shT .val,shT .val],[shT .val],true,false,λx=>vP x.1 x.2⟩
def nY(a:Str)(b:Int):Option ((List Str)):=aO (λ((f,g,h,i,j):Str×Int×alu)=>bif (decide (j<=(f.length:Int)))then bif (j==(f.length:Int))then (eff.cutL f (some i) (some j)).bind λd=>(gd (h.length+([d]:List Str).length)).bind λ_=>some (.inl (f,g,h++([d]:List Str),w64 (j+1),w64 (j+1)))else (idx f j).bind λc3=>bif ((c3.toNat:Int)==g)then (eff.cutL f (some i) (some j)).bind λe=>(gd (h.length+([e]:List Str).length)).bind λ_=>some (.inl (f,g,h++([e]:List Str),w64 (j+1),w64 (j+1)))else some (.inl (f,g,h,i,w64 (j+1)))else some (.inr (h))) (a,b,[],0,0)
def TM:Fsp:=⟨211,[shF .str,shF .u8],[slF .str],true,false,λx=>nY x.1 x.2⟩
def zN(a:List Str)(b:Str):Option (Int):=aO (λ((e,f,g):(List Str)×Str×Int)=>bif (decide (g<(e.length:Int)))then (idx e g).bind λd=>bif (d==f)then some (.inr (g))else some (.inl (e,f,w64 (g+1)))else some (.inr ((-1)))) (a,b,0)
def Y9:Fsp:=⟨47,[slF .str,shF .str],[shF .int],true,false,λx=>zN x.1 x.2⟩
def dS(a:af)(b:Str):Option (Int):=(zN a.columns b).bind λc=>some (c)
def MV:Fsp:=⟨212,[shT .val,shF .str],[shF .int],true,false,λx=>dS x.1 x.2⟩
def ng(a:af)(b:af):Option (af):=(jk [ah a,ah b] [2,5]).bind λk=>bif k.2 then some (ah k.1)else (nY a.text 32).bind λl=>aO (λ((t,u,v,w,x,y,z,A,B,C,D,E,F,G,H,I,J,K,L,M,N,O,P):o5 (o5 ((List Str)×o5 Int)))=>bif (decide (P<(H.length:Int)))then (idx H P).bind λm=>(dS (af.mk t u v w x y z) m).bind λo=>bif (decide (o<0))then (aF 7).bind λp=>some (.inr (ah p))else (kT H).bind λq=>bif (!q)then (aF 7).bind λs=>some (.inr (ah s))else some (.inl (t,u,v,w,x,y,z,A,B,C,D,E,F,G,H,I,J,K,L,M,N,O,w64 (P+1)))else (aO (λ((d,Q,R,S,T,U,V,W,X,Y,Z,aa,ab,ac,ae,ao,aq,ar,aw,aD,aE,aL,aM):o5 (o5 ((List Str)×o5 Int)))=>bif (decide (aM<(V.length:Int)))then (idx V aM).bind λf=>(gd (0+f.orig.length)).bind λ_=>aO (λ((e,aR,ba,bc,bd,bh,bj,bl,bm,bp,br,bu,bw,bz,bA,bB,bE,bL,bN,bO,bR,bS,bX,cd,ce,cf):o5 (o5 ((List Str)×o5 alA)))=>bif (decide (cf<(bA.length:Int)))then (idx bj bX).bind λh=>(idx bA cf).bind λi=>(dS (af.mk e aR ba bc bd bh bj) i).bind λj=>(idx h.cells j).bind λg=>(gd (cd.length+[g].length)).bind λ_=>some (.inl (e,aR,ba,bc,bd,bh,bj,bl,bm,bp,br,bu,bw,bz,bA,bB,bE,bL,bN,bO,bR,bS,bX,cd++[g],ce,w64 (cf+1)))else ((gd (bS.length+[aB.mk cd ce].length)).bind λ_=>some (.inl (e,aR,ba,bc,bd,bh,bj,bl,bm,bp,br,bu,bw,bz,bA,bB,bE,bL,bN,bO,bR,bS++[aB.mk cd ce],w64 (bX+1)))
       ).bind λr=>some (.inr r)
     ) (d,Q,R,S,T,U,V,W,X,Y,Z,aa,ab,ac,ae,ao,aq,ar,aw,aD,aE,aL,aM,[],[]++f.orig,0)
    else
     some (.inr (af.mk ao aq ar aw aD aE aL))
   ) (t,u,v,w,x,y,z,A,B,C,D,E,F,G,H,I,J,K,L,M,N,O,0)
  ).bind λr=>some (.inr r)
 ) (b.kind,b.n,b.step,b.text,b.list,b.columns,b.rows,0,0,0,[],[],[],[],l,5,0,0,[],[],l,[],0)
def MN:Fsp:=⟨182,[shT .val,shT .val],[shT .val],false,false,λx=>ng x.1 x.2⟩
def wo(a:af)(b:af):Option (af):=(jk [ah a,ah b] [2,5]).bind λd=>bif d.2 then some (ah d.1)else (dS (ah b) a.text).bind λe=>bif (decide (e<0))then (aF 7).bind λg=>some (ah g)else bif (decide ((b.rows.length:Int)>8))then (aF 6).bind λh=>some (ah h)else aO (λ((k,l,m,o,p,q,r,s,t,u,v,w,x,y,z,A,B,C,D,E,F,G,H):o5 (o5 (Int×o5 Int)))=>bif (decide (H<(r.length:Int)))then (idx r H).bind λi=>(idx i.cells z).bind λj=>(bF j).bind λf=>(gd (E.length+[ah f].length)).bind λ_=>some (.inl (k,l,m,o,p,q,r,s,t,u,v,w,x,y,z,A,B,C,D,E++[ah f],F,G,w64 (H+1)))else some (.inr (af.mk A B C D E F G))) (b.kind,b.n,b.step,b.text,b.list,b.columns,b.rows,0,0,0,[],[],[],[],e,3,0,0,[],[],[],[],0)
def Wv:Fsp:=⟨183,[shT .val,shT .val],[shT .val],true,false,λx=>wo x.1 x.2⟩
def xA(a:af):Option ((List Int)×Bool):=aO (λ((e,f,g,h,i,j,k,l,m):o5 ((List Int)×Int))=>bif (decide (m<(i.length:Int)))then (idx i m).bind λd=>bif (d.kind != 1)then some (.inr (l,false))else (idx i m).bind λc=>(gd (l.length+[c.n].length)).bind λ_=>some (.inl (e,f,g,h,i,j,k,l++[c.n],w64 (m+1)))else some (.inr (l,(e==3)))) (a.kind,a.n,a.step,a.text,a.list,a.columns,a.rows,[],0)
def TU:Fsp:=⟨213,[shT .val],[slF .int,shF .bool],true,false,λx=>xA x⟩
def y5(a:af)(b:af):Option (af):=(jk [ah a,ah b] [2,3]).bind λe=>bif e.2 then some (ah e.1)else (nY a.text 32).bind λf=>(rJ f).bind λg=>bif (!g)then (aF 7).bind λh=>some (ah h)else aO (λ((l,m,o,p,q,r,s,t,u,v,w,x,y,z,A,B,C,D,E,F,G,H):o5 (o5 (o5 Int)))=>bif (decide (H<(q.length:Int)))then (idx q H).bind λi=>(xA (ah i)).bind λd=>bif (!d.2)then (aF 4).bind λj=>some (.inr (ah j))else bif ((d.1.length:Int) != (F.length:Int))then (aF 4).bind λk=>some (.inr (ah k))else (gd (G.length+([aB.mk d.1 []]).length)).bind λ_=>some (.inl (l,m,o,p,q,r,s,t,u,v,w,x,y,z,A,B,C,D,E,F,G++([aB.mk d.1 []]),w64 (H+1)))else some (.inr (af.mk A B C D E F G))) (b.kind,b.n,b.step,b.text,b.list,b.columns,b.rows,0,0,0,[],[],[],[],5,0,0,[],[],f,[],0)
def YF:Fsp:=⟨184,[shT .val,shT .val],[shT .val],true,false,λx=>y5 x.1 x.2⟩
def o9(a:af)(b:af)(c:af):Option (af):=(jk [ah a,ah b,ah c] [2,1,5]).bind λe=>bif e.2 then some (ah e.1)else (dS (ah c) a.text).bind λf=>bif (decide (f<0))then (aF 7).bind λh=>some (ah h)else (gd (0+c.columns.length)).bind λ_=>aO (λ((l,m,o,p,q,r,s,t,u,v,w,x,y,z,A,B,C,D,E,F,G,H,I,J,K,L,M,N,O,P):o5 (o5 (o5 (Int×o5 Int))))=>bif (decide (P<(z.length:Int)))then (idx z P).bind λi=>(idx i.cells H).bind λj=>bif (j==m)then (idx z P).bind λk=>(LZ k).bind λg=>(gd (O.length+[g].length)).bind λ_=>some (.inl (l,m,o,p,q,r,s,t,u,v,w,x,y,z,A,B,C,D,E,F,G,H,I,J,K,L,M,N,O++[g],w64 (P+1)))else some (.inl (l,m,o,p,q,r,s,t,u,v,w,x,y,z,A,B,C,D,E,F,G,H,I,J,K,L,M,N,O,w64 (P+1)))else some (.inr (af.mk I J K L M N O))) (b.kind,b.n,b.step,b.text,b.list,b.columns,b.rows,c.kind,c.n,c.step,c.text,c.list,c.columns,c.rows,0,0,0,[],[],[],[],f,5,0,0,[],[],[]++c.columns,[],0)
def PI:Fsp:=⟨185,[shT .val,shT .val,shT .val],[shT .val],true,false,λx=>o9 x.1 x.2.1 x.2.2⟩
def rD(a:List aj)(b:List aj):Option ((List aj)):=aO (λ((L,M,N,O,P):(List aj)×(List aj)×alE)=>bif (decide (O<(L.length:Int)))then bif (P==(M.length:Int))then (idx L O).bind λD=>(gd (N.length+[D].length)).bind λ_=>some (.inl (L,M,N++[D],w64 (O+1),P))else bif (decide (O<(L.length:Int)))then (idx L O).bind λG=>(idx M P).bind λH=>(jM G H).bind λI=>bif I then (idx L O).bind λE=>(gd (N.length+[E].length)).bind λ_=>some (.inl (L,M,N++[E],w64 (O+1),P))else bif (O==(L.length:Int))then (idx M P).bind λF=>(gd (N.length+[F].length)).bind λ_=>some (.inl (L,M,N++[F],O,w64 (P+1)))else (idx M P).bind λJ=>(idx L O).bind λK=>(jM J K).bind λq=>bif q then (idx M P).bind λd=>(gd (N.length+[d].length)).bind λ_=>some (.inl (L,M,N++[d],O,w64 (P+1)))else (idx L O).bind λe=>(gd (N.length+[e].length)).bind λ_=>some (.inl (L,M,N++[e],w64 (O+1),w64 (P+1)))else bif (O==(L.length:Int))then (idx M P).bind λf=>(gd (N.length+[f].length)).bind λ_=>some (.inl (L,M,N++[f],O,w64 (P+1)))else (idx M P).bind λr=>(idx L O).bind λs=>(jM r s).bind λt=>bif t then (idx M P).bind λg=>(gd (N.length+[g].length)).bind λ_=>some (.inl (L,M,N++[g],O,w64 (P+1)))else (idx L O).bind λh=>(gd (N.length+[h].length)).bind λ_=>some (.inl (L,M,N++[h],w64 (O+1),w64 (P+1)))else bif (decide (P<(M.length:Int)))then bif (P==(M.length:Int))then (idx L O).bind λi=>(gd (N.length+[i].length)).bind λ_=>some (.inl (L,M,N++[i],w64 (O+1),P))else bif (decide (O<(L.length:Int)))then (idx L O).bind λu=>(idx M P).bind λv=>(jM u v).bind λw=>bif w then (idx L O).bind λj=>(gd (N.length+[j].length)).bind λ_=>some (.inl (L,M,N++[j],w64 (O+1),P))else bif (O==(L.length:Int))then (idx M P).bind λk=>(gd (N.length+[k].length)).bind λ_=>some (.inl (L,M,N++[k],O,w64 (P+1)))else (idx M P).bind λx=>(idx L O).bind λy=>(jM x y).bind λz=>bif z then (idx M P).bind λl=>(gd (N.length+[l].length)).bind λ_=>some (.inl (L,M,N++[l],O,w64 (P+1)))else (idx L O).bind λm=>(gd (N.length+[m].length)).bind λ_=>some (.inl (L,M,N++[m],w64 (O+1),w64 (P+1)))else bif (O==(L.length:Int))then (idx M P).bind λn=>(gd (N.length+[n].length)).bind λ_=>some (.inl (L,M,N++[n],O,w64 (P+1)))else (idx M P).bind λA=>(idx L O).bind λB=>(jM A B).bind λC=>bif C then (idx M P).bind λo=>(gd (N.length+[o].length)).bind λ_=>some (.inl (L,M,N++[o],O,w64 (P+1)))else (idx L O).bind λp=>(gd (N.length+[p].length)).bind λ_=>some (.inl (L,M,N++[p],w64 (O+1),w64 (P+1)))else some (.inr (N))) (a,b,[],0,0)
def YG:Fsp:=⟨225,[slF .origin,slF .origin],[slF .origin],true,false,λx=>rD x.1 x.2⟩
def TS(a:List aB)(b:Int)(c:Int)(d:List aj):Option ((List aB)):=aO (λ((l,m,n,o,p,q,s):(List aB)×Int×Int×(List aj)×(List aB)×Bool×Int)=>bif (decide (s<(l.length:Int)))then (idx l s).bind λf=>(idx f.cells 0).bind λi=>bif (i==m)then (idx f.cells 1).bind λg=>(rD f.orig o).bind λh=>(idx [m,w64 (g+n)] 0).bind λ_=>([m,w64 (g+n)][0]?).bind λj=>bif (decide (j>m))then (gd (p.length+([aB.mk [m,w64 (g+n)] h]).length)).bind λ_=>some (.inl (l,m,n,o,p++([aB.mk [m,w64 (g+n)] h]),true,w64 (s+1)))else (gd (p.length+([aB.mk [m,w64 (g+n)] h]).length)).bind λ_=>some (.inl (l,m,n,o,p++([aB.mk [m,w64 (g+n)] h]),true,w64 (s+1)))else (idx f.cells 0).bind λk=>bif (decide (k>m))then bif (!q)then (gd (0+o.length)).bind λ_=>(gd (p.length+([aB.mk [m,n] ([]++o)]).length)).bind λ_=>(gd ((p++([aB.mk [m,n] ([]++o)])).length+[f].length)).bind λ_=>some (.inl (l,m,n,o,(p++([aB.mk [m,n] ([]++o)]))++[f],true,w64 (s+1)))else (gd (p.length+[f].length)).bind λ_=>some (.inl (l,m,n,o,p++[f],q,w64 (s+1)))else (gd (p.length+[f].length)).bind λ_=>some (.inl (l,m,n,o,p++[f],q,w64 (s+1)))else (bif (!q)then (gd (0+o.length)).bind λ_=>(gd (p.length+([aB.mk [m,n] ([]++o)]).length)).bind λ_=>some (p++([aB.mk [m,n] ([]++o)]))else some (p)).bind λr=>some (.inr r)) (a,b,c,d,[],false,0)
def adI:Fsp:=⟨214,[slF .row,shF .int,shF .int,slF .origin],[slF .row],false,true,λx=>TS x.1 x.2.1 x.2.2.1 x.2.2.2⟩
def vX(a:af)(b:af)(c:af):Option (af):=(jk [ah a,ah b,ah c] [2,2,5]).bind λq=>bif q.2 then some (ah q.1)else (dS (ah c) a.text).bind λf=>(dS (ah c) b.text).bind λg=>bif (decide (f<0))then (aF 7).bind λs=>some (ah s)else bif (decide (g<0))then (aF 7).bind λt=>some (ah t)else bif (f==g)then (aF 7).bind λu=>some (ah u)else aO (λ((x,y,z,A,B,C,D,E,F,G,H,I,J,K,L,M,N,O,P,Q,R,S,T,U):o5 (o5 (Int×Int×o5 Int)))=>bif (decide (U<(D.length:Int)))then (idx D U).bind λv=>(idx v.cells L).bind λw=>(idx D U).bind λh=>(idx h.cells M).bind λi=>(idx D U).bind λj=>(TS T w i j.orig).bind λk=>some (.inl (x,y,z,A,B,C,D,E,F,G,H,I,J,K,L,M,N,O,P,Q,R,S,k,w64 (U+1)))else (aO (λ((e,V,W,X,Y,Z,aa,ab,ac,ae,ao,aq,ar,aw,aD):o5 (o5 Int))=>bif (decide (aD<(aw.length:Int)))then (idx aw aD).bind λ_=>(aw[aD.toNat]?).bind λl=>(idx l.cells 1).bind λm=>(iT m).bind λo=>bif (!o)then (aF 5).bind λp=>some (.inr (ah p))else some (.inl (e,V,W,X,Y,Z,aa,ab,ac,ae,ao,aq,ar,aw,w64 (aD+1)))else some (.inr (af.mk ab ac ae ao aq ar aw))) (E,F,G,H,I,J,K,N,O,P,Q,R,S,T,0)).bind λr=>some (.inr r)) (c.kind,c.n,c.step,c.text,c.list,c.columns,c.rows,0,0,0,[],[],[],[],f,g,5,0,0,[],[],([a.text,b.text]:List Str),[],0)
def Wp:Fsp:=⟨186,[shT .val,shT .val,shT .val],[shT .val],false,true,λx=>vX x.1 x.2.1 x.2.2⟩
def Ko(a:aB)(b:aB)(c:Int):Option (aB):=(gd (0+a.cells.length)).bind λ_=>(rD a.orig b.orig).bind λf=>(eff.cutL b.cells none (some c)).bind λd=>(gd (([]++a.cells).length+d.length)).bind λ_=>(eff.cutL b.cells (some (w64 (c+1))) none).bind λe=>(gd ((([]++a.cells)++d).length+e.length)).bind λ_=>some (aB.mk ((([]++a.cells)++d)++e) f)
def abH:Fsp:=⟨215,[shT .row,shT .row,shF .int],[shT .row],true,false,λx=>Ko x.1 x.2.1 x.2.2⟩
def ER(a:af)(b:af)(c:af):Option (af):=(jk [ah a,ah b,ah c] [2,5,5]).bind λt=>bif t.2 then some (ah t.1)else (dS (ah b) a.text).bind λu=>(dS (ah c) a.text).bind λh=>bif (decide (u<0))then (aF 7).bind λv=>some (ah v)else bif (decide (h<0))then (aF 7).bind λw=>some (ah w)else (gd (0+b.columns.length)).bind λ_=>(eff.cutL c.columns none (some h)).bind λf=>(gd (([]++b.columns).length+f.length)).bind λ_=>(eff.cutL c.columns (some (w64 (h+1))) none).bind λi=>(gd ((([]++b.columns)++f).length+i.length)).bind λ_=>(kT ((([]++b.columns)++f)++i)).bind λx=>bif (!x)then (aF 7).bind λy=>some (ah y)else bif (decide ((((([]++b.columns)++f)++i).length:Int)>4))then (aF 6).bind λj=>some (ah j)else aO (λ((z,A,B,C,D,E,F,G,H,I,J,K,L,M,N,O,P,Q,R,S,T,U,V,W,X,Y,Z,aa,ab,ac,ae):o5 (o5 (o5 (Int×Int×o5 Int))))=>bif (decide (ae<(F.length:Int)))then aO (λ((e,ao,aq,ar,aw,aD,aE,aL,aM,aR,ba,bc,bd,bh,bj,bl,bm,bp,br,bu,bw,bz,bA,bB,bE,bL,bN,bO,bR,bS,bX,cd):o5 (o5 (o5 (Int×Int×o5 (Int×Int)))))=>bif (decide (cd<(bh.length:Int)))then (idx aE bX).bind λk=>(idx k.cells bz).bind λl=>(idx bh cd).bind λm=>(idx m.cells bA).bind λo=>bif (l==o)then (idx aE bX).bind λp=>(idx bh cd).bind λq=>(Ko p q bA).bind λg=>(gd (bS.length+[g].length)).bind λ_=>some (.inl (e,ao,aq,ar,aw,aD,aE,aL,aM,aR,ba,bc,bd,bh,bj,bl,bm,bp,br,bu,bw,bz,bA,bB,bE,bL,bN,bO,bR,bS++[g],bX,w64 (cd+1)))else some (.inl (e,ao,aq,ar,aw,aD,aE,aL,aM,aR,ba,bc,bd,bh,bj,bl,bm,bp,br,bu,bw,bz,bA,bB,bE,bL,bN,bO,bR,bS,bX,w64 (cd+1)))
    else
     some (.inr (.inl (e,ao,aq,ar,aw,aD,aE,aL,aM,aR,ba,bc,bd,bh,bj,bl,bm,bp,br,bu,bw,bz,bA,bB,bE,bL,bN,bO,bR,bS,w64 (bX+1))))
   ) (z,A,B,C,D,E,F,G,H,I,J,K,L,M,N,O,P,Q,R,S,T,U,V,W,X,Y,Z,aa,ab,ac,ae,0)
  else
   (
    bif (decide ((ac.length:Int)>12))then
     (aF 6).bind λs=>
     some (ah s)
    else
     some (af.mk W X Y Z aa ab ac)
   ).bind λr=>some (.inr r)
 ) (b.kind,b.n,b.step,b.text,b.list,b.columns,b.rows,c.kind,c.n,c.step,c.text,c.list,c.columns,c.rows,0,0,0,[],[],[],[],u,h,5,0,0,[],[],(([]++b.columns)++f)++i,[],0)
def abX:Fsp:=⟨187,[shT .val,shT .val,shT .val],[shT .val],true,false,λx=>ER x.1 x.2.1 x.2.2⟩
def rW(a:af)(b:af)(c:af)(d:af):Option (af):=(jk [ah a,ah b,ah c,ah d] [2,2,2,5]).bind λq=>bif q.2 then some (ah q.1)else (dS (ah d) b.text).bind λr=>(dS (ah d) c.text).bind λs=>(eY a.text).bind λt=>bif (!t)then (aF 7).bind λu=>some (ah u)else (dS (ah d) a.text).bind λv=>bif (decide (v>=0))then (aF 7).bind λw=>some (ah w)else bif (decide (r<0))then (aF 7).bind λx=>some (ah x)else bif (decide (s<0))then (aF 7).bind λy=>some (ah y)else bif ((d.columns.length:Int)==4)then (aF 6).bind λj=>some (ah j)else (jW (ah d)).bind λf=>(gd (f.columns.length+([a.text]:List Str).length)).bind λ_=>aO (λ((z,A,B,C,D,E,F,G,H,I,J,K,L,M,N,O,P,Q,R,S,T,U,V,W):o5 (o5 (Int×Int×o5 Int)))=>bif (decide (W<(V.length:Int)))then (idx F W).bind λk=>(idx k.cells N).bind λg=>(idx F W).bind λl=>(idx l.cells O).bind λh=>(iT (w64 (g+h))).bind λm=>bif (!m)then (aF 5).bind λo=>some (.inr (ah o))else (idx V W).bind λ_=>(V[W.toNat]?).bind λi=>(gd (i.cells.length+[w64 (g+h)].length)).bind λ_=>(idx V W).bind λ_=>(V[W.toNat]?).bind λp=>((if W.toNat=W.toNat/\0=0 then some ()else none)).bind λ_=>some (.inl (z,A,B,C,D,E,F,G,H,I,J,K,L,M,N,O,P,Q,R,S,T,U,V.set W.toNat (aB.mk (i.cells++[w64 (g+h)]) p.orig),w64 (W+1)))else some (.inr (af.mk P Q R S T U V))) (d.kind,d.n,d.step,d.text,d.list,d.columns,d.rows,0,0,0,[],[],[],[],r,s,f.kind,f.n,f.step,f.text,f.list,f.columns++([a.text]:List Str),f.rows,0)
def Us:Fsp:=⟨188,[shT .val,shT .val,shT .val,shT .val],[shT .val],true,false,λx=>rW x.1 x.2.1 x.2.2.1 x.2.2.2⟩
def bU(a:Str)(b:List af):Option (af):=(gm a).bind λO=>bif ((b.length:Int) != O)then (aF 4).bind λP=>some (ah P)else bif (a==[108,101,110])then (idx b 0).bind λQ=>(vJ (ah Q)).bind λR=>some (ah R)else bif (a==[115,117,109])then (idx b 0).bind λS=>(LJ (ah S)).bind λT=>some (ah T)else bif (a==[114,111,119,115])then (idx b 0).bind λU=>(rV (ah U)).bind λV=>some (ah V)else bif (a==[116,97,107,101])then (idx b 0).bind λW=>(idx b 1).bind λc=>(ED (ah W) (ah c)).bind λd=>some (ah d)else bif (a==[115,107,105,112])then (idx b 0).bind λe=>(idx b 1).bind λf=>(EF (ah e) (ah f)).bind λg=>some (ah g)else bif (a==[110,116,104])then (idx b 0).bind λh=>(idx b 1).bind λi=>(uO (ah h) (ah i)).bind λj=>some (ah j)else bif (a==[114,97,110,103,101])then (idx b 0).bind λk=>(idx b 1).bind λl=>(vP (ah k) (ah l)).bind λm=>some (ah m)else bif (a==[107,101,101,112])then (idx b 0).bind λn=>(idx b 1).bind λo=>(ng (ah n) (ah o)).bind λp=>some (ah p)else bif (a==[99,111,108,117,109,110])then (idx b 0).bind λq=>(idx b 1).bind λr=>(wo (ah q) (ah r)).bind λs=>some (ah s)else bif (a==[116,97,98,108,101])then (idx b 0).bind λt=>(idx b 1).bind λu=>(y5 (ah t) (ah u)).bind λv=>some (ah v)else bif (a==[119,104,101,114,101])then (idx b 0).bind λw=>(idx b 1).bind λx=>(idx b 2).bind λy=>(o9 (ah w) (ah x) (ah y)).bind λz=>some (ah z)else bif (a==[103,114,111,117,112])then (idx b 0).bind λA=>(idx b 1).bind λB=>(idx b 2).bind λC=>(vX (ah A) (ah B) (ah C)).bind λD=>some (ah D)else bif (a==[106,111,105,110])then (idx b 0).bind λE=>(idx b 1).bind λF=>(idx b 2).bind λG=>(ER (ah E) (ah F) (ah G)).bind λH=>some (ah H)else bif (a==[97,100,100])then (idx b 0).bind λI=>(idx b 1).bind λJ=>(idx b 2).bind λK=>(idx b 3).bind λL=>(rW (ah I) (ah J) (ah K) (ah L)).bind λM=>some (ah M)else (aF 4).bind λN=>some (ah N)
def JJ:Fsp:=⟨135,[shF .str,slF .val],[shT .val],false,false,λx=>bU x.1 x.2⟩
def vY(a:List aG)(b:aG):Option (af×Bool):=aO (λ((h,i,j,k,l,m,o,p,q,r,s,t,u,v,w,x,y,z,A,B):(List aG)×Int×Int×Int×Str×o5 (o5 Int))=>bif (decide (B<(h.length:Int)))then (idx h B).bind λd=>(vN (xM d) (aG.mk i j k l (af.mk m o p q r s t))).bind λe=>bif e then (idx h B).bind λf=>(jW (ah f.result)).bind λg=>some (.inr (ah g,true))else some (.inl (h,i,j,k,l,m,o,p,q,r,s,t,u,v,w,x,y,z,A,w64 (B+1)))else some (.inr (af.mk 0 0 0 [] [] [] [],false))) (a,b.kind,b.n,b.time,b.text,b.result.kind,b.result.n,b.result.step,b.result.text,b.result.list,b.result.columns,b.result.rows,0,0,0,[],[],[],[],0)
def Wq:Fsp:=⟨189,[slF .read,shT .read],[shT .val,shF .bool],true,false,λx=>vY x.1 x.2⟩
def zq(a:Int):Option (Int):=bif (decide ((a.tmod 2147483647)<0))then some (w64 ((a.tmod 2147483647)+2147483647))else some (a.tmod 2147483647)
def YV:Fsp:=⟨226,[shF .int],[shF .int],true,false,λx=>zq x⟩
def agj(a:Int)(b:Int)(c:Int)(d:Int):Option (Int):=(zq (w64 ((w64 ((w64 ((w64 (48271*a))+(w64 (7919*b))))+(w64 (104729*c))))+(w64 (1299709*d))))).bind λe=>(zq (w64 (16807*e))).bind λf=>some (f)
def ajV:Fsp:=⟨217,[shF .int,shF .int,shF .int,shF .int],[shF .int],true,false,λx=>agj x.1 x.2.1 x.2.2.1 x.2.2.2⟩
def qK(a:bV)(b:Str):Option (Int×Bool):=aO (λ((f,g,h,i,j):Str×alB Int)=>bif (decide (j<(i.length:Int)))then (idx i j).bind λd=>bif (d.name==f)then (idx i j).bind λe=>some (.inr (e.n,true))else some (.inl (f,g,h,i,w64 (j+1)))else some (.inr (0,false))) (b,a.clock,a.seed,a.files,0)
def MR:Fsp:=⟨218,[shT .world,shF .str],[shF .int,shF .bool],true,false,λx=>qK x.1 x.2⟩
def je(a:bV)(b:Int)(c:Int)(d:aG):Option (af):=bif (d.kind==1)then (iT a.clock).bind λk=>bif k then (bF a.clock).bind λl=>some (ah l)else (aF 4).bind λm=>some (ah m)else bif (d.kind==2)then (vM d.n 1 1000000000).bind λo=>bif (!o)then (aF 5).bind λp=>some (ah p)else (agj a.seed b c d.time).bind λq=>(Qb q d.n).bind λr=>(bF r).bind λs=>some (ah s)else bif (d.kind==3)then (qK a d.text).bind λe=>bif (!e.2)then (aF 1).bind λf=>some (ah f)else (iT e.1).bind λg=>bif g then (bF e.1).bind λh=>some (ah h)else (aF 4).bind λi=>some (ah i)else (aF 4).bind λj=>some (ah j)
def JH:Fsp:=⟨190,[shT .world,shF .int,shF .int,shT .read],[shT .val],true,false,λx=>je x.1 x.2.1 x.2.2.1 x.2.2.2⟩
def jA(a:aA)(b:aG):Option (aA×af):=aO (λ((g,h,i,j,k,l,m,o,p,q,s,t,u,v,x,y,z,A,B,C,D,E,F,G,H,I,J,K):alp (Int×Int×Int×Str×o5 (o5 Int)))=>bif (decide (K<(m.length:Int)))then (idx m K).bind λ_=>(m[K.toNat]?).bind λe=>bif (e.kind==q)then bif (e.n==s)then bif (e.text==u)then some (.inl (g,h,i,j,k,l,m,o,p,q,s,w64 (t+1),u,v,x,y,z,A,B,C,D,E,F,G,H,I,J,w64 (K+1)))else some (.inl (g,h,i,j,k,l,m,o,p,q,s,t,u,v,x,y,z,A,B,C,D,E,F,G,H,I,J,w64 (K+1)))else some (.inl (g,h,i,j,k,l,m,o,p,q,s,t,u,v,x,y,z,A,B,C,D,E,F,G,H,I,J,w64 (K+1)))else some (.inl (g,h,i,j,k,l,m,o,p,q,s,t,u,v,x,y,z,A,B,C,D,E,F,G,H,I,J,w64 (K+1)))
  else
   (
    (vY g (aG.mk q s t u (af.mk v x y z A B C))).bind λd=>
    bif (!d.2)then
     (je (bV.mk h i j) k l (aG.mk q s t u (af.mk v x y z A B C))).bind λf=>
     (gd (m.length+[aG.mk q s t u (ah f)].length)).bind λ_=>
     some (aA.mk g (bV.mk h i j) k l (m++[aG.mk q s t u (ah f)]) o p,ah f)
    else
     (gd (m.length+[aG.mk q s t u (ah d.1)].length)).bind λ_=>
     some (aA.mk g (bV.mk h i j) k l (m++[aG.mk q s t u (ah d.1)]) o p,ah d.1)
   ).bind λr=>some (.inr r)
 ) (a.tape,a.w.clock,a.w.seed,a.w.files,a.cell,a.version,a.reads,a.steps,a.over,b.kind,b.n,b.time,b.text,b.result.kind,b.result.n,b.result.step,b.result.text,b.result.list,b.result.columns,b.result.rows,0,0,0,[],[],[],[],0)
def Ui:Fsp:=⟨136,[shT .iE,shT .read],[shT .iE,shT .val],false,false,λx=>jA x.1 x.2⟩
def Wy(a:List ak)(b:Str)(c:af):Option ((List ak)):=aO (λ((i,j,k,l,m,o,p,q,s,t,u):(List ak)×Str×o5 ((List ak)×Int))=>bif (decide (u<(i.length:Int)))then (idx i u).bind λe=>(idx i u).bind λh=>(jW (ah h.value)).bind λf=>(gd (t.length+[ak.mk e.name (ah f)].length)).bind λ_=>some (.inl (i,j,k,l,m,o,p,q,s,t++[ak.mk e.name (ah f)],w64 (u+1)))else ((jW (af.mk k l m o p q s)).bind λg=>(gd (t.length+[ak.mk j (ah g)].length)).bind λ_=>some (t++[ak.mk j (ah g)])).bind λr=>some (.inr r)) (a,b,c.kind,c.n,c.step,c.text,c.list,c.columns,c.rows,[],0)
def agr:Fsp:=⟨91,[slF .binding,shF .str,shT .val],[slF .binding],true,false,λx=>Wy x.1 x.2.1 x.2.2⟩
def Ku(a:af):Option (Bool):=bif (a.kind==1)then some ((a.n != 0))else some (false)
def abY:Fsp:=⟨92,[shT .val],[shF .bool],true,false,λx=>Ku x⟩
def TW(a:af)(b:af):Option (af):=bif (a.kind==1)then bif (b.kind==1)then (eH (w64 (a.n+b.n))).bind λp=>some (ah p)else bif (a.kind==2)then bif (b.kind==2)then bif (decide ((w64 ((a.text.length:Int)+(b.text.length:Int)))>20))then (aF 6).bind λq=>some (ah q)else (gd (a.text.length+b.text.length)).bind λ_=>(iI (a.text++b.text)).bind λr=>some (ah r)else bif (a.kind==3)then bif (b.kind==3)then bif (decide ((w64 ((a.list.length:Int)+(b.list.length:Int)))>8))then (aF 6).bind λs=>some (ah s)else (gd (0+a.list.length)).bind λ_=>(gd (([]++a.list).length+b.list.length)).bind λ_=>(jd (([]++a.list)++b.list)).bind λt=>some (ah t)else (aF 4).bind λu=>some (ah u)else (aF 4).bind λv=>some (ah v)else bif (a.kind==3)then bif (b.kind==3)then bif (decide ((w64 ((a.list.length:Int)+(b.list.length:Int)))>8))then (aF 6).bind λw=>some (ah w)else (gd (0+a.list.length)).bind λ_=>(gd (([]++a.list).length+b.list.length)).bind λ_=>(jd (([]++a.list)++b.list)).bind λx=>some (ah x)else (aF 4).bind λc=>some (ah c)else (aF 4).bind λd=>some (ah d)else bif (a.kind==2)then bif (b.kind==2)then bif (decide ((w64 ((a.text.length:Int)+(b.text.length:Int)))>20))then (aF 6).bind λe=>some (ah e)else (gd (a.text.length+b.text.length)).bind λ_=>(iI (a.text++b.text)).bind λf=>some (ah f)else bif (a.kind==3)then bif (b.kind==3)then bif (decide ((w64 ((a.list.length:Int)+(b.list.length:Int)))>8))then (aF 6).bind λg=>some (ah g)else (gd (0+a.list.length)).bind λ_=>(gd (([]++a.list).length+b.list.length)).bind λ_=>(jd (([]++a.list)++b.list)).bind λh=>some (ah h)else (aF 4).bind λi=>some (ah i)else (aF 4).bind λj=>some (ah j)else bif (a.kind==3)then bif (b.kind==3)then bif (decide ((w64 ((a.list.length:Int)+(b.list.length:Int)))>8))then (aF 6).bind λk=>some (ah k)else (gd (0+a.list.length)).bind λ_=>(gd (([]++a.list).length+b.list.length)).bind λ_=>(jd (([]++a.list)++b.list)).bind λl=>some (ah l)else (aF 4).bind λm=>some (ah m)else (aF 4).bind λo=>some (ah o)
def adJ:Fsp:=⟨137,[shT .val,shT .val],[shT .val],true,false,λx=>TW x.1 x.2⟩
def iW(a:Bool):Option (af):=bif a then (bF 1).bind λb=>some (ah b)else (bF 0).bind λc=>some (ah c)
def PK:Fsp:=⟨139,[shF .bool],[shT .val],true,false,λx=>iW x⟩
def Kq(a:af)(b:af):Option (af):=bif (a.kind==1)then bif (b.kind==1)then (iW (decide (a.n<b.n))).bind λc=>some (ah c)else bif (a.kind==2)then bif (b.kind==2)then (iW (Op.bytesLess a.text b.text)).bind λd=>some (ah d)else (aF 4).bind λe=>some (ah e)else (aF 4).bind λf=>some (ah f)else bif (a.kind==2)then bif (b.kind==2)then (iW (Op.bytesLess a.text b.text)).bind λg=>some (ah g)else (aF 4).bind λh=>some (ah h)else (aF 4).bind λi=>some (ah i)
def abJ:Fsp:=⟨138,[shT .val,shT .val],[shT .val],true,false,λx=>Kq x.1 x.2⟩
def pJ(a:af)(b:af):Option (Bool):=(EI (ah a) (ah b) false).bind λc=>some (c)
def P9:Fsp:=⟨140,[shT .val,shT .val],[shF .bool],true,false,λx=>pJ x.1 x.2⟩
def iL(a:Int)(b:af)(c:af):Option (af):=(lD [ah b,ah c]).bind λp=>bif p.2 then some (ah p.1)else bif (b.kind==1)then bif (a==1)then (TW (ah b) (ah c)).bind λq=>some (ah q)else bif (a==4)then (Kq (ah b) (ah c)).bind λr=>some (ah r)else bif (a==5)then (pJ (ah b) (ah c)).bind λs=>(iW s).bind λt=>some (ah t)else bif (a==2)then bif (c.kind==1)then (eH (w64 (b.n-c.n))).bind λu=>some (ah u)else bif (a==3)then bif (c.kind==1)then (eH (w64 (b.n*c.n))).bind λv=>some (ah v)else (aF 4).bind λw=>some (ah w)else (aF 4).bind λx=>some (ah x)else bif (a==3)then bif (c.kind==1)then (eH (w64 (b.n*c.n))).bind λd=>some (ah d)else (aF 4).bind λe=>some (ah e)else (aF 4).bind λf=>some (ah f)else bif (a==1)then (TW (ah b) (ah c)).bind λg=>some (ah g)else bif (a==4)then (Kq (ah b) (ah c)).bind λh=>some (ah h)else bif (a==5)then (pJ (ah b) (ah c)).bind λi=>(iW i).bind λj=>some (ah j)else bif (a==2)then bif (a==3)then (aF 4).bind λk=>some (ah k)else (aF 4).bind λl=>some (ah l)else bif (a==3)then (aF 4).bind λm=>some (ah m)else (aF 4).bind λo=>some (ah o)
def Ia:Fsp:=⟨94,[shF .int,shT .val,shT .val],[shT .val],true,false,λx=>iL x.1 x.2.1 x.2.2⟩
def Hl(rsL16Eval:aA->au->(List ak)->Option (aA×af))(rsL16All:aA->(List au)->(List ak)->Option (aA×(List af)))(rsL16Call:aA->au->(List ak)->Option (aA×af))(rsL16For:aA->au->(List ak)->Option (aA×af))(a:aA)(b:au)(c:List ak):Option (aA×af):=bif a.over then some (aA.mk a.tape a.w a.cell a.version a.reads a.steps true,af.mk 0 0 0 [] [] [] [])else bif (a.steps==200)then some (aA.mk a.tape a.w a.cell a.version a.reads a.steps true,af.mk 0 0 0 [] [] [] [])else bif (b.kind==1)then (bF b.n).bind λv=>some (aA.mk a.tape a.w a.cell a.version a.reads (w64 (a.steps+1)) a.over,ah v)else bif (b.kind==2)then (iI b.text).bind λx=>some (aA.mk a.tape a.w a.cell a.version a.reads (w64 (a.steps+1)) a.over,ah x)else bif (b.kind==3)then (J9 c b.text).bind λy=>some (aA.mk a.tape a.w a.cell a.version a.reads (w64 (a.steps+1)) a.over,ah y)else bif (b.kind==4)then (rsL16All (aA.mk a.tape a.w a.cell a.version a.reads (w64 (a.steps+1)) a.over) b.args c).bind λj=>bif j.1.over then some (j.1,af.mk 0 0 0 [] [] [] [])else (iK j.2).bind λz=>some (j.1,ah z)else bif (b.kind==5)then (rsL16Call (aA.mk a.tape a.w a.cell a.version a.reads (w64 (a.steps+1)) a.over) (aN b) c).bind λu=>some (u.1,ah u.2)else bif (b.kind==7)then (idx b.args 0).bind λA=>(rsL16Eval (aA.mk a.tape a.w a.cell a.version a.reads (w64 (a.steps+1)) a.over) (aN A) c).bind λk=>bif k.1.over then some (k.1,af.mk 0 0 0 [] [] [] [])else (idx b.args 1).bind λB=>(Wy c b.text (ah k.2)).bind λl=>(rsL16Eval k.1 (aN B) l).bind λf=>some (f.1,ah f.2)else bif (b.kind==8)then (idx b.args 0).bind λm=>(rsL16Eval (aA.mk a.tape a.w a.cell a.version a.reads (w64 (a.steps+1)) a.over) (aN m) c).bind λd=>bif d.1.over then some (d.1,ah d.2)else bif (d.2.kind==6)then some (d.1,ah d.2)else (Ku (ah d.2)).bind λo=>bif o then (idx b.args 1).bind λp=>(rsL16Eval d.1 (aN p) c).bind λg=>some (g.1,ah g.2)else (idx b.args 2).bind λq=>(rsL16Eval d.1 (aN q) c).bind λh=>some (h.1,ah h.2)else bif (b.kind==9)then (rsL16For (aA.mk a.tape a.w a.cell a.version a.reads (w64 (a.steps+1)) a.over) (aN b) c).bind λi=>some (i.1,ah i.2)else (rsL16All (aA.mk a.tape a.w a.cell a.version a.reads (w64 (a.steps+1)) a.over) b.args c).bind λe=>bif e.1.over then some (e.1,af.mk 0 0 0 [] [] [] [])else (idx e.2 0).bind λr=>(idx e.2 1).bind λs=>(iL b.n (ah r) (ah s)).bind λt=>some (e.1,ah t)
def MG(rsL16Eval:aA->au->(List ak)->Option (aA×af))(rsL16All:aA->(List au)->(List ak)->Option (aA×(List af)))(rsL16Call:aA->au->(List ak)->Option (aA×af))(rsL16For:aA->au->(List ak)->Option (aA×af))(a:aA)(b:List au)(c:List ak):Option (aA×(List af)):=aO (λ((g,h,i,j,k,l,m,n,o,p,q,r,s):alp ((List au)×(List ak)×(List af)×Int))=>bif (decide (s<(p.length:Int)))then bif (!o)then (idx p s).bind λf=>(rsL16Eval (aA.mk g (bV.mk h i j) k l m n o) (aN f) q).bind λe=>(gd (r.length+[ah e.2].length)).bind λ_=>some (.inl (e.1.tape,e.1.w.clock,e.1.w.seed,e.1.w.files,e.1.cell,e.1.version,e.1.reads,e.1.steps,e.1.over,p,q,r++[ah e.2],w64 (s+1)))else some (.inr (aA.mk g (bV.mk h i j) k l m n o,r))else some (.inr (aA.mk g (bV.mk h i j) k l m n o,r))) (a.tape,a.w.clock,a.w.seed,a.w.files,a.cell,a.version,a.reads,a.steps,a.over,b,c,[],0)
def Ho(rsL16Eval:aA->au->(List ak)->Option (aA×af))(rsL16All:aA->(List au)->(List ak)->Option (aA×(List af)))(rsL16Call:aA->au->(List ak)->Option (aA×af))(rsL16For:aA->au->(List ak)->Option (aA×af))(a:aA)(b:au)(c:List ak):Option (aA×af):=(rsL16All a b.args c).bind λd=>bif d.1.over then some (d.1,af.mk 0 0 0 [] [] [] [])else (Dx (au.mk 5 0 b.text [])).bind λv=>bif (!v)then (bU b.text d.2).bind λw=>some (d.1,ah w)else bif ((d.2.length:Int)==1)then (idx d.2 0).bind λx=>bif (x.kind==6)then (idx d.2 0).bind λy=>some (d.1,ah y)else bif (b.text==[99,108,111,99,107])then (jA d.1 (aG.mk 1 0 0 [] (af.mk 0 0 0 [] [] [] []))).bind λt=>some (t.1,ah t.2)else bif (b.text==[99,104,97,110,99,101])then (idx d.2 0).bind λz=>bif (z.kind==1)then (idx d.2 0).bind λA=>(jA d.1 (aG.mk 2 A.n 0 [] (af.mk 0 0 0 [] [] [] []))).bind λu=>some (u.1,ah u.2)else (aF 4).bind λi=>some (d.1,ah i)else (idx d.2 0).bind λj=>bif (j.kind==2)then (idx d.2 0).bind λk=>(jA d.1 (aG.mk 3 0 0 k.text (af.mk 0 0 0 [] [] [] []))).bind λe=>some (e.1,ah e.2)else (aF 4).bind λl=>some (d.1,ah l)else bif (b.text==[99,108,111,99,107])then (jA d.1 (aG.mk 1 0 0 [] (af.mk 0 0 0 [] [] [] []))).bind λf=>some (f.1,ah f.2)else bif (b.text==[99,104,97,110,99,101])then (idx d.2 0).bind λm=>bif (m.kind==1)then (idx d.2 0).bind λo=>(jA d.1 (aG.mk 2 o.n 0 [] (af.mk 0 0 0 [] [] [] []))).bind λg=>some (g.1,ah g.2)else (aF 4).bind λp=>some (d.1,ah p)else (idx d.2 0).bind λq=>bif (q.kind==2)then (idx d.2 0).bind λr=>(jA d.1 (aG.mk 3 0 0 r.text (af.mk 0 0 0 [] [] [] []))).bind λh=>some (h.1,ah h.2)else (aF 4).bind λs=>some (d.1,ah s)
def Me(rsL16Eval:aA->au->(List ak)->Option (aA×af))(rsL16All:aA->(List au)->(List ak)->Option (aA×(List af)))(rsL16Call:aA->au->(List ak)->Option (aA×af))(rsL16For:aA->au->(List ak)->Option (aA×af))(a:aA)(b:au)(c:List ak):Option (aA×af):=(idx b.args 0).bind λh=>(rsL16Eval a (aN h) c).bind λe=>bif e.1.over then some (e.1,ah e.2)else bif (e.2.kind==6)then some (e.1,ah e.2)else bif (e.2.kind != 3)then (aF 4).bind λi=>some (e.1,ah i)else aO (λ((o,p,q,s,t,u,v,x,y,z,A,B,C,D,E,F,G,H,I,J,K,L,M,N,O,P,Q,R,S,T):alp ((List ak)×F6 (o5 (o5 ((List af)×Int)))))=>bif (decide (T<(P.length:Int)))then bif (!y)then (idx D 1).bind λj=>(idx P T).bind λk=>(Wy z C (ah k)).bind λl=>(rsL16Eval (aA.mk o (bV.mk p q s) t u v x y) (aN j) l).bind λf=>(gd (S.length+[ah f.2].length)).bind λ_=>some (.inl (f.1.tape,f.1.w.clock,f.1.w.seed,f.1.w.files,f.1.cell,f.1.version,f.1.reads,f.1.steps,f.1.over,z,A,B,C,D,E,F,G,H,I,J,K,L,M,N,O,P,Q,R,S++[ah f.2],w64 (T+1)))else (bif y then some (aA.mk o (bV.mk p q s) t u v x y,af.mk 0 0 0 [] [] [] [])else (iK S).bind λm=>some (aA.mk o (bV.mk p q s) t u v x y,ah m)).bind λr=>some (.inr r)else (bif y then some (aA.mk o (bV.mk p q s) t u v x y,af.mk 0 0 0 [] [] [] [])else (iK S).bind λg=>some (aA.mk o (bV.mk p q s) t u v x y,ah g)).bind λr=>some (.inr r)) (e.1.tape,e.1.w.clock,e.1.w.seed,e.1.w.files,e.1.cell,e.1.version,e.1.reads,e.1.steps,e.1.over,c,b.kind,b.n,b.text,b.args,0,0,0,[],[],[],[],e.2.kind,e.2.n,e.2.step,e.2.text,e.2.list,e.2.columns,e.2.rows,[],0)
def bH:Nat->(aA->au->(List ak)->Option (aA×af))×(aA->(List au)->(List ak)->Option (aA×(List af)))×(aA->au->(List ak)->Option (aA×af))×(aA->au->(List ak)->Option (aA×af))
 | 0=>(λ_ _ _=>none,λ_ _ _=>none,λ_ _ _=>none,λ_ _ _=>none)
 | n+1=>(Hl (bH n).1 (bH n).2.1 (bH n).2.2.1 (bH n).2.2.2,MG (bH n).1 (bH n).2.1 (bH n).2.2.1 (bH n).2.2.2,Ho (bH n).1 (bH n).2.1 (bH n).2.2.1 (bH n).2.2.2,Me (bH n).1 (bH n).2.1 (bH n).2.2.1 (bH n).2.2.2)
def MC(a:aA)(b:au)(c:List ak):Option (aA×af):=(bH (siz a+siz b+siz c+1)).1 a b c
def YT:Fsp:=⟨36,[shT .iE,shT .expr,slF .binding],[shT .iE,shT .val],false,false,λx=>MC x.1 x.2.1 x.2.2⟩
def zn(n:Nat):Fsp:=⟨36,[shT .iE,shT .expr,slF .binding],[shT .iE,shT .val],false,false,λx=>(bH n).1 x.1 x.2.1 x.2.2⟩
def agp(a:aA)(b:List au)(c:List ak):Option (aA×(List af)):=(bH (siz a+siz b+siz c+1)).2.1 a b c
def abU:Fsp:=⟨88,[shT .iE,slF .expr,slF .binding],[shT .iE,slF .val],false,false,λx=>agp x.1 x.2.1 x.2.2⟩
def Dv(n:Nat):Fsp:=⟨88,[shT .iE,slF .expr,slF .binding],[shT .iE,slF .val],false,false,λx=>(bH n).2.1 x.1 x.2.1 x.2.2⟩
def adQ(a:aA)(b:au)(c:List ak):Option (aA×af):=(bH (siz a+siz b+siz c+1)).2.2.1 a b c
def YU:Fsp:=⟨90,[shT .iE,shT .expr,slF .binding],[shT .iE,shT .val],false,false,λx=>adQ x.1 x.2.1 x.2.2⟩
def zo(n:Nat):Fsp:=⟨90,[shT .iE,shT .expr,slF .binding],[shT .iE,shT .val],false,false,λx=>(bH n).2.2.1 x.1 x.2.1 x.2.2⟩
def agn(a:aA)(b:au)(c:List ak):Option (aA×af):=(bH (siz a+siz b+siz c+1)).2.2.2 a b c
def abT:Fsp:=⟨93,[shT .iE,shT .expr,slF .binding],[shT .iE,shT .val],false,false,λx=>agn x.1 x.2.1 x.2.2⟩
def Du(n:Nat):Fsp:=⟨93,[shT .iE,shT .expr,slF .binding],[shT .iE,shT .val],false,false,λx=>(bH n).2.2.2 x.1 x.2.1 x.2.2⟩
def EN(a:aG):Option (aG):=(jW (ah a.result)).bind λb=>some (aG.mk a.kind a.n a.time a.text (ah b))
def YR:Fsp:=⟨95,[shT .read],[shT .read],true,false,λx=>EN x⟩
def vO(a:List aG):Option ((List aG)):=aO (λ((e,f,g):(List aG)×(List aG)×Int)=>bif (decide (g<(e.length:Int)))then (idx e g).bind λd=>(EN (xM d)).bind λc=>(gd (f.length+[xM c].length)).bind λ_=>some (.inl (e,f++[xM c],w64 (g+1)))else some (.inr (f))) (a,[],0)
def Wi:Fsp:=⟨37,[slF .read],[slF .read],true,false,λx=>vO x⟩
def Bd(a:au)(b:List ak)(c:List aG)(d:bV)(e:Int)(f:Int):Option (dX):=(eF (aN a)).bind λh=>bif (!h)then (aF 4).bind λi=>some (dX.mk (ah i) [] 0)else (MC (aA.mk c d e f [] 0 false) (aN a) b).bind λg=>bif g.1.over then (aF 6).bind λj=>(vO g.1.reads).bind λk=>some (dX.mk (ah j) k 200)else (jW (ah g.2)).bind λl=>(vO g.1.reads).bind λm=>some (dX.mk (ah l) m g.1.steps)
def Ws:Fsp:=⟨11,[shT .expr,slF .binding,slF .read,shT .world,shF .int,shF .int],[shT .outcome],true,false,λx=>Bd x.1 x.2.1 x.2.2.1 x.2.2.2.1 x.2.2.2.2.1 x.2.2.2.2.2⟩
def xw(a:List Str):Option ((List Str)):=aO (λ((w,x,y):(List Str)×(List Str)×Int)=>bif (decide (y<(w.length:Int)))then aO (λ((n,z,A,B):(List Str)×alu)=>bif (decide (B<(z.length:Int)))then (idx z B).bind λ_=>(z[B.toNat]?).bind λs=>(idx n A).bind λt=>bif (Op.bytesLess s t)then some (.inl (n,z,A,w64 (B+1)))else (bif (decide (B<(z.length:Int)))then (idx z B).bind λ_=>(z[B.toNat]?).bind λu=>(idx n A).bind λv=>bif (u==v)then some (.inl (n,z,w64 (A+1)))else (cutAt z B).bind λo=>(gd (0+(z.drop o).length)).bind λ_=>(cutAt z B).bind λc=>(idx n A).bind λd=>(gd ((z.take c).length+([d]:List Str).length)).bind λ_=>(gd (((z.take c)++([d]:List Str)).length+([]++(z.drop o)).length)).bind λ_=>some (.inl (n,((z.take c)++([d]:List Str))++([]++(z.drop o)),w64 (A+1)))else (cutAt z B).bind λe=>(gd (0+(z.drop e).length)).bind λ_=>(cutAt z B).bind λf=>(idx n A).bind λg=>(gd ((z.take f).length+([g]:List Str).length)).bind λ_=>(gd (((z.take f)++([g]:List Str)).length+([]++(z.drop e)).length)).bind λ_=>some (.inl (n,((z.take f)++([g]:List Str))++([]++(z.drop e)),w64 (A+1)))).bind λr=>some (.inr r)else (bif (decide (B<(z.length:Int)))then (idx z B).bind λ_=>(z[B.toNat]?).bind λp=>(idx n A).bind λq=>bif (p==q)then some (.inl (n,z,w64 (A+1)))else (cutAt z B).bind λh=>(gd (0+(z.drop h).length)).bind λ_=>(cutAt z B).bind λi=>(idx n A).bind λj=>(gd ((z.take i).length+([j]:List Str).length)).bind λ_=>(gd (((z.take i)++([j]:List Str)).length+([]++(z.drop h)).length)).bind λ_=>some (.inl (n,((z.take i)++([j]:List Str))++([]++(z.drop h)),w64 (A+1)))else (cutAt z B).bind λk=>(gd (0+(z.drop k).length)).bind λ_=>(cutAt z B).bind λl=>(idx n A).bind λm=>(gd ((z.take l).length+([m]:List Str).length)).bind λ_=>(gd (((z.take l)++([m]:List Str)).length+([]++(z.drop k)).length)).bind λ_=>some (.inl (n,((z.take l)++([m]:List Str))++([]++(z.drop k)),w64 (A+1)))).bind λr=>some (.inr r)) (w,x,y,0)else some (.inr (x))) (a,[],0)
def TN:Fsp:=⟨40,[slF .str],[slF .str],true,false,λx=>xw x⟩
def mD(rsL13Free:au->(List Str)->Option ((List Str))):((List Str)×F6 ((List Str)×Int))->Option (((List Str)×F6 ((List Str)×Int))⊕((List Str))):=
(λ(x2:(List Str)×F6 ((List Str)×Int))=>
   bif (decide (x2.2.2.2.2.2.2<(x2.2.2.2.2.1.length:Int)))then
    bif (x2.2.1==7)then
     bif (decide (x2.2.2.2.2.2.2>0))then
      (gd (0+x2.1.length)).bind λ_=>
      (gd (([]++x2.1).length+([x2.2.2.2.1]:List Str).length)).bind λ_=>
      (idx x2.2.2.2.2.1 x2.2.2.2.2.2.2).bind λe3=>
      (rsL13Free (aN e3) (([]++x2.1)++([x2.2.2.2.1]:List Str))).bind λr4=>
      (gd (x2.2.2.2.2.2.1.length+r4.length)).bind λ_=>
      some (.inl (x2.1,x2.2.1,x2.2.2.1,x2.2.2.2.1,x2.2.2.2.2.1,x2.2.2.2.2.2.1++r4,w64 (x2.2.2.2.2.2.2+1)))
     else
      (idx x2.2.2.2.2.1 x2.2.2.2.2.2.2).bind λe5=>
      (rsL13Free (aN e5) x2.1).bind λr6=>
      (gd (x2.2.2.2.2.2.1.length+r6.length)).bind λ_=>
      some (.inl (x2.1,x2.2.1,x2.2.2.1,x2.2.2.2.1,x2.2.2.2.2.1,x2.2.2.2.2.2.1++r6,w64 (x2.2.2.2.2.2.2+1)))
    else
    bif (x2.2.1==9)then
     bif (decide (x2.2.2.2.2.2.2>0))then
      (gd (0+x2.1.length)).bind λ_=>
      (gd (([]++x2.1).length+([x2.2.2.2.1]:List Str).length)).bind λ_=>
      (idx x2.2.2.2.2.1 x2.2.2.2.2.2.2).bind λe7=>
      (rsL13Free (aN e7) (([]++x2.1)++([x2.2.2.2.1]:List Str))).bind λr8=>
      (gd (x2.2.2.2.2.2.1.length+r8.length)).bind λ_=>
      some (.inl (x2.1,x2.2.1,x2.2.2.1,x2.2.2.2.1,x2.2.2.2.2.1,x2.2.2.2.2.2.1++r8,w64 (x2.2.2.2.2.2.2+1)))
     else
      (idx x2.2.2.2.2.1 x2.2.2.2.2.2.2).bind λe9=>
      (rsL13Free (aN e9) x2.1).bind λr10=>
      (gd (x2.2.2.2.2.2.1.length+r10.length)).bind λ_=>
      some (.inl (x2.1,x2.2.1,x2.2.2.1,x2.2.2.2.1,x2.2.2.2.2.1,x2.2.2.2.2.2.1++r10,w64 (x2.2.2.2.2.2.2+1)))
    else
     (idx x2.2.2.2.2.1 x2.2.2.2.2.2.2).bind λe11=>
     (rsL13Free (aN e11) x2.1).bind λr12=>
     (gd (x2.2.2.2.2.2.1.length+r12.length)).bind λ_=>
     some (.inl (x2.1,x2.2.1,x2.2.2.1,x2.2.2.2.1,x2.2.2.2.2.1,x2.2.2.2.2.2.1++r12,w64 (x2.2.2.2.2.2.2+1)))
   else
    some (.inr (x2.2.2.2.2.2.1))
 )
def Hq(rsL13Free:au->(List Str)->Option ((List Str)))(a:au)(b:List Str):Option ((List Str)):=bif (a.kind==3)then (Hg b a.text).bind λc=>bif (!c)then (gd (0+([a.text]:List Str).length)).bind λ_=>some ([]++([a.text]:List Str))else aO (mD rsL13Free) (b,a.kind,a.n,a.text,a.args,[],0)else aO (mD rsL13Free) (b,a.kind,a.n,a.text,a.args,[],0)
def nZ:Nat->(au->(List Str)->Option ((List Str)))
 | 0=>λ_ _=>none
 | n+1=>Hq (nZ n)
def MI(a:au)(b:List Str):Option ((List Str)):=(nZ (siz a+siz b+1)) a b
def YZ:Fsp:=⟨41,[shT .expr,slF .str],[slF .str],true,false,λx=>MI x.1 x.2⟩
def zu(n:Nat):Fsp:=⟨41,[shT .expr,slF .str],[slF .str],true,false,λx=>(nZ n) x.1 x.2⟩
def xH(a:au):Option ((List Str)):=(MI (aN a) []).bind λb=>(xw b).bind λc=>some (c)
def Ul:Fsp:=⟨13,[shT .expr],[slF .str],true,false,λx=>xH x⟩
def FU(a:List Str)(b:Str):Option (Bool):=(zN a b).bind λc=>some ((decide (c>=0)))
def acG:Fsp:=⟨15,[slF .str,shF .str],[shF .bool],true,false,λx=>FU x.1 x.2⟩
def FnEvaluated(a:List Int):Option (Bool):=(big a).bind λs=>bif s then some (true)else (oN a).bind λc=>(wL (aN c.1) c.2.1 c.2.2.1 c.2.2.2.1 c.2.2.2.2.1 c.2.2.2.2.2).bind λd=>(Bd (aN c.1) c.2.1 c.2.2.1 c.2.2.2.1 c.2.2.2.2.1 c.2.2.2.2.2).bind λt=>(o8 (Bj d) (Bj t)).bind λu=>bif (!u)then some (false)else bif (decide (d.steps>200))then some (false)else (xH (aN c.1)).bind λv=>aO (λ((x,y,z,A,B,C,D,E,F,G,H,I,J,K,L,M,N,O,P,Q,R,S,T,U):F6 ((List ak)×(List aG)×alB (Int×Int×o5 ((List aG)×Int×(List Str)×(List ak)×Bool×Int))))=>bif (decide (U<(B.length:Int)))then bif T then (idx B U).bind λw=>(iC (ah w.value)).bind λq=>(idx B U).bind λg=>(FU R g.name).bind λh=>bif h then (idx B U).bind λe=>(gd (S.length+[qY e].length)).bind λ_=>some (.inl (x,y,z,A,B,C,D,E,F,G,H,I,J,K,L,M,N,O,P,Q,R,S++[qY e],q,w64 (U+1)))else some (.inl (x,y,z,A,B,C,D,E,F,G,H,I,J,K,L,M,N,O,P,Q,R,S,q,w64 (U+1)))else (idx B U).bind λi=>(FU R i.name).bind λj=>bif j then (idx B U).bind λf=>(gd (S.length+[qY f].length)).bind λ_=>some (.inl (x,y,z,A,B,C,D,E,F,G,H,I,J,K,L,M,N,O,P,Q,R,S++[qY f],false,w64 (U+1)))else some (.inl (x,y,z,A,B,C,D,E,F,G,H,I,J,K,L,M,N,O,P,Q,R,S,false,w64 (U+1)))
  else
  (
   (eF (au.mk x y z A)).bind λk=>
   bif k then
    (wL (au.mk x y z A) S C (bV.mk D E F) G H).bind λl=>
    (o8 (Bj l) (dX.mk (af.mk I J K L M N O) P Q)).bind λm=>
    bif (!m)then
     some (false)
    else
     bif (!T)then
      some (true)
     else
      (iC (af.mk I J K L M N O)).bind λo=>
      some (o)
   else
    bif (!T)then
     some (true)
    else
     (iC (af.mk I J K L M N O)).bind λp=>
     some (p)
  ).bind λr=>some (.inr r)
 ) (c.1.kind,c.1.n,c.1.text,c.1.args,c.2.1,c.2.2.1,c.2.2.2.1.clock,c.2.2.2.1.seed,c.2.2.2.1.files,c.2.2.2.2.1,c.2.2.2.2.2,d.value.kind,d.value.n,d.value.step,d.value.text,d.value.list,d.value.columns,d.value.rows,d.reads,d.steps,v,[],true,0)
def QI:Fsp:=⟨4,[slF .u8],[shF .bool],true,false,λx=>FnEvaluated x⟩
end
end Go.Proofs.YtjbajpfonnnfoaaGreatDoor
