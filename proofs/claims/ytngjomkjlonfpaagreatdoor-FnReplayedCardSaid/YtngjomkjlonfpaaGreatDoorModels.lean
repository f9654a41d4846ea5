import Derived.Test.YtngjomkjlonfpaaGreatDoorLink1
set_option linter.unusedVariables false
/- What the functions compute, by gen.py. -/
namespace Go.Proofs.YtngjomkjlonfpaaGreatDoor
noncomputable section
open Go.Abs Go.Proofs
abbrev shT(b:Base):Sh:=⟨true,.base b⟩
abbrev shF(b:Base):Sh:=⟨false,.base b⟩
abbrev slF(b:Base):Sh:=⟨false,.list (.base b)⟩
abbrev siz{α:Type}[SizeOf α](x:α):Nat:=SizeOf.sizeOf x
abbrev w64(n:Int):Int:=IntKind.i64.wrap n
abbrev w8(n:Int):Int:=IntKind.u8.wrap n
def qK:Isp:={ fid:=180,t:=.base .str,fn:=jw }
def big(a:List Int):Option (Bool):=some ((decide ((a.length:Int)>1048576)))
def aqh:Fsp:=⟨4,[slF .u8],[shF .bool],true,false,fun x=>big x⟩
def P9(a:List Int):Option (bW):=aA (fun(⟨d,e,f⟩:(List Int)×Int×Int)=>bif (decide (f<(d.length:Int)))then bif (decide (f<4000))then (idx d f).bind fun c=>some (.inl (d,w64 (((BitVec.ofInt 64 (w64 ((w64 ((w64 (e*131))+(w64 (c))))+7)) &&& BitVec.ofInt 64 1073741823).toNat:Int)),w64 (f+1)))else some (.inr (bW.mk d 0 e))else some (.inr (bW.mk d 0 e))) (a,w64 (26583+(a.length:Int)),0)
def aij:Fsp:=⟨15,[slF .u8],[shT .cur],false,false,fun x=>P9 x⟩
def wL(a:bW):Option (bW×Int):=bif (decide (a.i<(a.b.length:Int)))then (idx a.b a.i).bind fun c=>some (bW.mk a.b (w64 (a.i+1)) (w64 ((w64 (a.h*6364136223846793005))+1442695040888963407)),w64 (((BitVec.ofInt 64 (w64 ((w64 (((BitVec.ofInt 64 (w64 (((BitVec.ofInt 64 ((w64 ((w64 (a.h*6364136223846793005))+1442695040888963407)).fdiv (2 ^ 33)) ^^^ BitVec.ofInt 64 ((w64 ((w64 (a.h*6364136223846793005))+1442695040888963407)).fdiv (2 ^ 45))).toNat:Int))) &&& BitVec.ofInt 64 255).toNat:Int)))+(w64 (c)))) &&& BitVec.ofInt 64 255).toNat:Int)))else some (bW.mk a.b a.i (w64 ((w64 (a.h*6364136223846793005))+1442695040888963407)),w64 (((BitVec.ofInt 64 (w64 (((BitVec.ofInt 64 ((w64 ((w64 (a.h*6364136223846793005))+1442695040888963407)).fdiv (2 ^ 33)) ^^^ BitVec.ofInt 64 ((w64 ((w64 (a.h*6364136223846793005))+1442695040888963407)).fdiv (2 ^ 45))).toNat:Int))) &&& BitVec.ofInt 64 255).toNat:Int)))
def agB:Fsp:=⟨76,[shT .cur],[shT .cur,shF .int],false,false,fun x=>wL x⟩
def aY(a:bW)(b:Int):Option (bW×Int):=bif (decide (b<=0))then some (a,0)else bif (decide (b<=256))then (wL a).bind fun c=>(agO c.2 b).bind fun h=>some (c.1,h)else (wL a).bind fun d=>(wL d.1).bind fun e=>(wL e.1).bind fun f=>(wL f.1).bind fun g=>(agO (w64 ((w64 ((w64 ((w64 (d.2*16777216))+(w64 (e.2*65536))))+(w64 (f.2*256))))+g.2)) b).bind fun i=>some (g.1,i)
def ac7:Fsp:=⟨42,[shT .cur,shF .int],[shT .cur,shF .int],false,false,fun x=>aY x.1 x.2⟩
def lF(a:bW)(b:Int):Option (bW×Bool):=(aY a b).bind fun c=>some (c.1,(c.2==0))
def agy:Fsp:=⟨16,[shT .cur,shF .int],[shT .cur,shF .bool],false,false,fun x=>lF x.1 x.2⟩
def yx(a:List GOp)(b:Int):Option (Int):=aA (fun(⟨e,f,g,h⟩:(List GOp)×Int×Int×Int)=>bif (decide (h<(e.length:Int)))then (idx e h).bind fun d=>bif (d.by_==f)then some (.inl (e,f,w64 (g+1),w64 (h+1)))else some (.inl (e,f,g,w64 (h+1)))else some (.inr (g))) (a,b,0,0)
def adE:Fsp:=⟨51,[slF .op,shF .int],[shF .int],true,false,fun x=>yx x.1 x.2⟩
def pF(a:Int)(b:Int):Option (Int):=bif (decide (a>b))then some (a)else some (b)
def ail:Fsp:=⟨115,[shF .int,shF .int],[shF .int],true,false,fun x=>pF x.1 x.2⟩
def Kt(a:List GOp):Option (Int):=aA (fun(⟨e,f,g⟩:(List GOp)×Int×Int)=>bif (decide (g<(e.length:Int)))then (idx e g).bind fun c=>(pF f c.time).bind fun d=>some (.inl (e,d,w64 (g+1)))else some (.inr (f))) (a,0,0)
def ZR:Fsp:=⟨78,[slF .op],[shF .int],true,false,fun x=>Kt x⟩
def kR(a:bW)(b:List Int):Option (bW×Int):=(aY a (b.length:Int)).bind fun c=>(idx b c.2).bind fun d=>some (c.1,d)
def XQ:Fsp:=⟨77,[shT .cur,slF .int],[shT .cur,shF .int],false,false,fun x=>kR x.1 x.2⟩
def dI(a:bW)(b:List Str):Option (bW×Str):=(aY a (b.length:Int)).bind fun c=>(idx b c.2).bind fun d=>some (c.1,d)
def agx:Fsp:=⟨80,[shT .cur,slF .str],[shT .cur,shF .str],false,false,fun x=>dI x.1 x.2⟩
def yj(rsL10Left:af->Int->Option (Int))(a:af)(b:Int):Option (Int):=aA (fun(⟨f,g,h,i,j,k⟩:Int×Int×Int×Str×(List af)×Int)=>bif (decide (k<(j.length:Int)))then bif (decide (f>=0))then (idx j k).bind fun d=>(rsL10Left (aj d) f).bind fun e=>some (.inl (e,g,h,i,j,w64 (k+1)))else some (.inr (f))else some (.inr (f))) (w64 (b-1),a.kind,a.n,a.text,a.args,0)
def qy:Nat->(af->Int->Option (Int))
 | 0=>fun _ _=>none
 | n+1=>yj (qy n)
def Iy(a:af)(b:Int):Option (Int):=(qy (siz a+1)) a b
def adx:Fsp:=⟨208,[shT .expr,shF .int],[shF .int],true,false,fun x=>Iy x.1 x.2⟩
def Np(n:Nat):Fsp:=⟨208,[shT .expr,shF .int],[shF .int],true,false,fun x=>(qy n) x.1 x.2⟩
def lN(rsNestingOf:af->Option (Int))(a:af):Option (Int):=aA (fun(⟨f,g,h,i,j,k⟩:Int×Int×Str×(List af)×Int×Int)=>bif (decide (k<(i.length:Int)))then (idx i k).bind fun c=>(rsNestingOf (aj c)).bind fun d=>(pF j d).bind fun e=>some (.inl (f,g,h,i,e,w64 (k+1)))else some (.inr (w64 (j+1)))) (a.kind,a.n,a.text,a.args,0,0)
def jg:Nat->(af->Option (Int))
 | 0=>fun _=>none
 | n+1=>lN (jg n)
def zK(a:af):Option (Int):=(jg (siz a+1)) a
def XI:Fsp:=⟨209,[shT .expr],[shF .int],true,false,fun x=>zK x⟩
def Fg(n:Nat):Fsp:=⟨209,[shT .expr],[shF .int],true,false,fun x=>(jg n) x⟩
def lS(a:Int)(b:Int)(c:Int):Option (Bool):=bif (decide (a>=b))then some ((decide (a<=c)))else some (false)
def akS:Fsp:=⟨50,[shF .int,shF .int,shF .int],[shF .bool],true,false,fun x=>lS x.1 x.2.1 x.2.2⟩
def Ce(a:Str):Option (Bool):=aA (fun (b:Str×Int)=>bif (decide (b.2<(b.1.length:Int)))then (idx b.1 b.2).bind fun d=>bif (decide ((d.toNat:Int)>=97))then (idx b.1 b.2).bind fun c=>(idx b.1 b.2).bind fun e=>bif (decide ((e.toNat:Int)>=48))then (idx b.1 b.2).bind fun f=>bif (!(decide ((c.toNat:Int)<=122)))then bif (b.2==0)then some (.inr (false))else bif (!(decide ((f.toNat:Int)<=57)))then some (.inr (false))else some (.inl (b.1,w64 (b.2+1)))else some (.inl (b.1,w64 (b.2+1)))else bif (!(decide ((c.toNat:Int)<=122)))then bif (b.2==0)then some (.inr (false))else some (.inr (false))else some (.inl (b.1,w64 (b.2+1)))else (idx b.1 b.2).bind fun g=>bif (decide ((g.toNat:Int)>=48))then (idx b.1 b.2).bind fun h=>bif (b.2==0)then some (.inr (false))else bif (!(decide ((h.toNat:Int)<=57)))then some (.inr (false))else some (.inl (b.1,w64 (b.2+1)))else bif (b.2==0)then some (.inr (false))else some (.inr (false))else some (.inr ((decide ((b.1.length:Int)>0))))) (a,0)
def ac2:Fsp:=⟨96,[shF .str],[shF .bool],true,false,fun x=>Ce x⟩
def lu(a:List Str)(b:Str):Option (Bool):=aA (fun(⟨e,f,g⟩:(List Str)×Str×Int)=>bif (decide (g<(e.length:Int)))then (idx e g).bind fun d=>bif (d==f)then some (.inr (true))else some (.inl (e,f,w64 (g+1)))else some (.inr (false))) (a,b,0)
def aim:Fsp:=⟨122,[slF .str,shF .str],[shF .bool],true,false,fun x=>lu x.1 x.2⟩
def oV:Option ((List Str)):=some (([[108,101,116],[105,110],[105,102],[116,104,101,110],[101,108,115,101],[102,111,114],[100,111],[108,101,110],[115,117,109],[116,97,107,101],[115,107,105,112],[114,97,110,103,101],[110,116,104],[119,104,101,114,101],[107,101,101,112],[97,100,100],[103,114,111,117,112],[106,111,105,110],[99,111,108,117,109,110],[114,111,119,115],[99,108,111,99,107],[99,104,97,110,99,101],[102,105,108,101],[116,97,98,108,101]]:List Str))
def Uy:Fsp:=⟨133,[],[slF .str],true,false,fun x=>oV⟩
def ji(a:Str):Option (Bool):=(oV).bind fun b=>(lu b a).bind fun c=>some (c)
def UG:Fsp:=⟨97,[shF .str],[shF .bool],true,false,fun x=>ji x⟩
def bM(a:Str):Option (Bool):=(Ce a).bind fun b=>bif b then bif (decide ((a.length:Int)<=8))then (ji a).bind fun c=>some ((!c))else some (false)else some (false)
def Qs:Fsp:=⟨60,[shF .str],[shF .bool],true,false,fun x=>bM x⟩
def fG(a:Str):Option (Bool):=aA (fun (b:Str×Int)=>bif (decide (b.2<(b.1.length:Int)))then (idx b.1 b.2).bind fun c=>bif (decide ((c.toNat:Int)<32))then some (.inr (false))else (idx b.1 b.2).bind fun d=>bif (decide ((d.toNat:Int)>126))then some (.inr (false))else (idx b.1 b.2).bind fun e=>bif ((e.toNat:Int)==34)then some (.inr (false))else some (.inl (b.1,w64 (b.2+1)))else some (.inr ((decide ((b.1.length:Int)<=20))))) (a,0)
def Qr:Fsp:=⟨242,[shF .str],[shF .bool],true,false,fun x=>fG x⟩
def dP(a:Str):Option (Int):=bif (a==[99,108,111,99,107])then some (0)else bif (a==[108,101,110])then some (1)else bif (a==[115,117,109])then some (1)else bif (a==[114,111,119,115])then some (1)else bif (a==[99,104,97,110,99,101])then some (1)else bif (a==[102,105,108,101])then some (1)else bif (a==[116,97,107,101])then some (2)else bif (a==[115,107,105,112])then some (2)else bif (a==[114,97,110,103,101])then some (2)else bif (a==[110,116,104])then some (2)else bif (a==[107,101,101,112])then some (2)else bif (a==[99,111,108,117,109,110])then some (2)else bif (a==[116,97,98,108,101])then some (2)else bif (a==[119,104,101,114,101])then some (3)else bif (a==[103,114,111,117,112])then some (3)else bif (a==[106,111,105,110])then some (3)else bif (a==[97,100,100])then some (4)else some ((-1))
def KJ:Fsp:=⟨267,[shF .str],[shF .int],true,false,fun x=>dP x⟩
def lT(a:af):Option (Bool):=bif (a.kind==1)then bif ((a.args.length:Int)==0)then bif (a.text==[])then (lS a.n 0 1000000000).bind fun b=>some (b)else some (false)else some (false)else bif (a.kind==2)then bif ((a.args.length:Int)==0)then bif (a.n==0)then (fG a.text).bind fun c=>some (c)else some (false)else some (false)else bif (a.kind==3)then bif ((a.args.length:Int)==0)then bif (a.n==0)then (bM a.text).bind fun d=>some (d)else some (false)else some (false)else bif (a.kind==4)then bif (a.n==0)then bif (a.text==[])then some ((decide ((a.args.length:Int)<=8)))else some (false)else some (false)else bif (a.kind==5)then bif (a.n==0)then (dP a.text).bind fun e=>some (((a.args.length:Int)==e))else some (false)else bif (a.kind==6)then bif (a.text==[])then bif ((a.args.length:Int)==2)then (lS a.n 1 5).bind fun f=>some (f)else some (false)else some (false)else bif (a.kind==7)then bif (a.n==0)then bif ((a.args.length:Int)==2)then (bM a.text).bind fun g=>some (g)else some (false)else some (false)else bif (a.kind==9)then bif (a.n==0)then bif ((a.args.length:Int)==2)then (bM a.text).bind fun h=>some (h)else some (false)else some (false)else bif (a.kind==8)then bif (a.n==0)then bif (a.text==[])then some (((a.args.length:Int)==3))else some (false)else some (false)else some (false)
def adt:Fsp:=⟨247,[shT .expr],[shF .bool],true,false,fun x=>lT x⟩
def vk(rsL10All:af->Option (Bool))(a:af):Option (Bool):=aA (fun(⟨f,g,h,i,j⟩:Int×Int×Str×(List af)×Int)=>bif (decide (j<(i.length:Int)))then (idx i j).bind fun c=>(rsL10All (aj c)).bind fun d=>bif (!d)then some (.inr (false))else some (.inl (f,g,h,i,w64 (j+1)))else ((lT (af.mk f g h i)).bind fun e=>some (e)).bind fun r=>some (.inr r)) (a.kind,a.n,a.text,a.args,0)
def nP:Nat->(af->Option (Bool))
 | 0=>fun _=>none
 | n+1=>vk (nP n)
def Iz(a:af):Option (Bool):=(nP (siz a+1)) a
def agG:Fsp:=⟨210,[shT .expr],[shF .bool],true,false,fun x=>Iz x⟩
def Qq(n:Nat):Fsp:=⟨210,[shT .expr],[shF .bool],true,false,fun x=>(nP n) x⟩
def gU(a:af):Option (Bool):=(Iy (aj a) 40).bind fun b=>bif (decide (b>=0))then (zK (aj a)).bind fun c=>bif (decide (c<=8))then (Iz (aj a)).bind fun d=>some (d)else some (false)else some (false)
def Qu:Fsp:=⟨160,[shT .expr],[shF .bool],true,false,fun x=>gU x⟩
def eF(a:Int):Option (Str):=bif (a==0)then some ([48])else aA (fun(⟨c,d,e⟩:Int×Bool×Str)=>bif (c != 0)then bif (decide ((c.tmod 10)<0))then (gd ((bytesOf [w8 (w64 (48+(w64 (0-(c.tmod 10)))))]).length+e.length)).bind fun _=>some (.inl (w64 (c.tdiv 10),d,(bytesOf [w8 (w64 (48+(w64 (0-(c.tmod 10)))))])++e))else (gd ((bytesOf [w8 (w64 (48+(c.tmod 10)))]).length+e.length)).bind fun _=>some (.inl (w64 (c.tdiv 10),d,(bytesOf [w8 (w64 (48+(c.tmod 10)))])++e))else (bif d then (gd ([45].length+e.length)).bind fun _=>some ([45]++e)else some (e)).bind fun r=>some (.inr r)) (a,(decide (a<0)),[])
def X0:Fsp:=⟨152,[shF .int],[shF .str],true,false,fun x=>eF x⟩
def IA(a:List Str)(b:Str):Option (Str):=aA (fun(⟨f,g,h,i⟩:(List Str)×Str×(List Int)×Int)=>bif (decide (i<(f.length:Int)))then bif (decide (i>0))then (gd (h.length+(kU g).length)).bind fun _=>(idx f i).bind fun d=>(gd ((h++(kU g)).length+(kU d).length)).bind fun _=>some (.inl (f,g,(h++(kU g))++(kU d),w64 (i+1)))else (idx f i).bind fun e=>(gd (h.length+(kU e).length)).bind fun _=>some (.inl (f,g,h++(kU e),w64 (i+1)))else some (.inr (bytesOf h))) (a,b,[],0)
def akV:Fsp:=⟨193,[slF .str,shF .str],[shF .str],true,false,fun x=>IA x.1 x.2⟩
def rH(a:af):Option (Int):=bif (a.kind==7)then some (0)else bif (a.kind==8)then some (0)else bif (a.kind==9)then some (0)else bif (a.kind==6)then bif (a.n==4)then some (1)else bif (a.n==5)then some (1)else bif (a.n==1)then some (2)else bif (a.n==2)then some (2)else bif (a.n==3)then some (3)else some (4)else some (4)
def acO:Fsp:=⟨214,[shT .expr],[shF .int],true,false,fun x=>rH x⟩
def uh(a:Int):Option (Str):=(lS a 1 5).bind fun b=>bif (!b)then some ([63])else (idx ([[],[43],[45],[42],[60],[61,61]]:List Str) a).bind fun _=>(([[],[43],[45],[42],[60],[61,61]]:List Str)[a.toNat]?).bind fun c=>some (c)
def ZN:Fsp:=⟨216,[shF .int],[shF .str],true,false,fun x=>uh x⟩
def yc(rsL12Text:af->Option (Str))(rsL12List:(List af)->Option (Str))(rsL12At:af->Int->Option (Str))(a:af):Option (Str):=bif (a.kind==1)then (eF a.n).bind fun A=>some (A)else bif (a.kind==2)then (gd ([34].length+a.text.length)).bind fun _=>(gd (([34]++a.text).length+[34].length)).bind fun _=>some (([34]++a.text)++[34])else bif (a.kind==3)then some (a.text)else bif (a.kind==4)then (rsL12List a.args).bind fun p=>(gd ([91].length+p.length)).bind fun _=>(gd (([91]++p).length+[93].length)).bind fun _=>some (([91]++p)++[93])else bif (a.kind==5)then (gd (a.text.length+[40].length)).bind fun _=>(rsL12List a.args).bind fun q=>(gd ((a.text++[40]).length+q.length)).bind fun _=>(gd (((a.text++[40])++q).length+[41].length)).bind fun _=>some (((a.text++[40])++q)++[41])else bif (a.kind==7)then (gd ([108,101,116,32].length+a.text.length)).bind fun _=>(gd (([108,101,116,32]++a.text).length+[32,61,32].length)).bind fun _=>(idx a.args 0).bind fun B=>(rsL12Text (aj B)).bind fun m=>(gd ((([108,101,116,32]++a.text)++[32,61,32]).length+m.length)).bind fun _=>(gd (((([108,101,116,32]++a.text)++[32,61,32])++m).length+[32,105,110,32].length)).bind fun _=>(idx a.args 1).bind fun C=>(rsL12Text (aj C)).bind fun z=>(gd ((((([108,101,116,32]++a.text)++[32,61,32])++m)++[32,105,110,32]).length+z.length)).bind fun _=>some ((((([108,101,116,32]++a.text)++[32,61,32])++m)++[32,105,110,32])++z)else bif (a.kind==9)then (gd ([102,111,114,32].length+a.text.length)).bind fun _=>(gd (([102,111,114,32]++a.text).length+[32,105,110,32].length)).bind fun _=>(idx a.args 0).bind fun D=>(rsL12Text (aj D)).bind fun o=>(gd ((([102,111,114,32]++a.text)++[32,105,110,32]).length+o.length)).bind fun _=>(gd (((([102,111,114,32]++a.text)++[32,105,110,32])++o).length+[32,100,111,32].length)).bind fun _=>(idx a.args 1).bind fun r=>(rsL12Text (aj r)).bind fun i=>(gd ((((([102,111,114,32]++a.text)++[32,105,110,32])++o)++[32,100,111,32]).length+i.length)).bind fun _=>some ((((([102,111,114,32]++a.text)++[32,105,110,32])++o)++[32,100,111,32])++i)else bif (a.kind==8)then (idx a.args 0).bind fun s=>(rsL12Text (aj s)).bind fun b=>(gd ([105,102,32].length+b.length)).bind fun _=>(gd (([105,102,32]++b).length+[32,116,104,101,110,32].length)).bind fun _=>(idx a.args 1).bind fun t=>(rsL12Text (aj t)).bind fun e=>(gd ((([105,102,32]++b)++[32,116,104,101,110,32]).length+e.length)).bind fun _=>(gd (((([105,102,32]++b)++[32,116,104,101,110,32])++e).length+[32,101,108,115,101,32].length)).bind fun _=>(idx a.args 2).bind fun u=>(rsL12Text (aj u)).bind fun j=>(gd ((((([105,102,32]++b)++[32,116,104,101,110,32])++e)++[32,101,108,115,101,32]).length+j.length)).bind fun _=>some ((((([105,102,32]++b)++[32,116,104,101,110,32])++e)++[32,101,108,115,101,32])++j)else (rH (aj a)).bind fun f=>bif (f==1)then (idx a.args 0).bind fun v=>(rsL12At (aj v) 2).bind fun c=>(gd (c.length+[32].length)).bind fun _=>(uh a.n).bind fun g=>(gd ((c++[32]).length+g.length)).bind fun _=>(gd (((c++[32])++g).length+[32].length)).bind fun _=>(idx a.args 1).bind fun w=>(rsL12At (aj w) (w64 (f+1))).bind fun k=>(gd ((((c++[32])++g)++[32]).length+k.length)).bind fun _=>some ((((c++[32])++g)++[32])++k)else (idx a.args 0).bind fun x=>(rsL12At (aj x) f).bind fun d=>(gd (d.length+[32].length)).bind fun _=>(uh a.n).bind fun h=>(gd ((d++[32]).length+h.length)).bind fun _=>(gd (((d++[32])++h).length+[32].length)).bind fun _=>(idx a.args 1).bind fun y=>(rsL12At (aj y) (w64 (f+1))).bind fun l=>(gd ((((d++[32])++h)++[32]).length+l.length)).bind fun _=>
 some ((((d++[32])++h)++[32])++l)
def yg(rsL12Text:af->Option (Str))(rsL12List:(List af)->Option (Str))(rsL12At:af->Int->Option (Str))(a:List af):Option (Str):=aA (fun(⟨f,g,h⟩:(List af)×(List Str)×Int)=>bif (decide (h<(f.length:Int)))then (idx f h).bind fun d=>(rsL12Text (aj d)).bind fun c=>(gd (g.length+([c]:List Str).length)).bind fun _=>some (.inl (f,g++([c]:List Str),w64 (h+1)))else ((IA g [44,32]).bind fun e=>some (e)).bind fun r=>some (.inr r)) (a,[],0)
def Iq(rsL12Text:af->Option (Str))(rsL12List:(List af)->Option (Str))(rsL12At:af->Int->Option (Str))(a:af)(b:Int):Option (Str):=(rsL12Text (aj a)).bind fun c=>(rH (aj a)).bind fun d=>bif (decide (d<b))then (gd ([40].length+c.length)).bind fun _=>(gd (([40]++c).length+[41].length)).bind fun _=>some (([40]++c)++[41])else some (c)
def bJ:Nat->(af->Option (Str))×((List af)->Option (Str))×(af->Int->Option (Str))
 | 0=>(fun _=>none,fun _=>none,fun _ _=>none)
 | n+1=>(yc (bJ n).1 (bJ n).2.1 (bJ n).2.2,yg (bJ n).1 (bJ n).2.1 (bJ n).2.2,Iq (bJ n).1 (bJ n).2.1 (bJ n).2.2)
def Ip(a:af):Option (Str):=(bJ (siz a+1)).1 a
def adk:Fsp:=⟨165,[shT .expr],[shF .str],true,false,fun x=>Ip x⟩
def Na(n:Nat):Fsp:=⟨165,[shT .expr],[shF .str],true,false,fun x=>(bJ n).1 x⟩
def ain(a:List af):Option (Str):=(bJ (siz a+1)).2.1 a
def adl:Fsp:=⟨213,[slF .expr],[shF .str],true,false,fun x=>ain x⟩
def Nc(n:Nat):Fsp:=⟨213,[slF .expr],[shF .str],true,false,fun x=>(bJ n).2.1 x⟩
def ao2(a:af)(b:Int):Option (Str):=(bJ (siz a+1)).2.2 a b
def aio:Fsp:=⟨215,[shT .expr,shF .int],[shF .str],true,false,fun x=>ao2 x.1 x.2⟩
def V6(n:Nat):Fsp:=⟨215,[shT .expr,shF .int],[shF .str],true,false,fun x=>(bJ n).2.2 x.1 x.2⟩
def ig(a:af):Option (Str):=(gU (aj a)).bind fun b=>bif (!b)then some ([])else (Ip (aj a)).bind fun c=>some (c)
def UI:Fsp:=⟨125,[shT .expr],[shF .str],true,false,fun x=>ig x⟩
def kz(a:Int):Option (af):=some (af.mk 1 a [] [])
def agF:Fsp:=⟨200,[shF .int],[shT .expr],true,false,fun x=>kz x⟩
def CQ(a:Str):Option (af):=some (af.mk 3 0 a [])
def adu:Fsp:=⟨238,[shF .str],[shT .expr],true,false,fun x=>CQ x⟩
def CS(a:bW)(b:List Str):Option (bW×af):=(aY a 5).bind fun c=>bif (c.2==0)then (dI c.1 ([[97],[97,98],[],[98]]:List Str)).bind fun d=>some (d.1,af.mk 2 0 d.2 [])else bif (c.2==1)then (aY c.1 6).bind fun e=>(kz e.2).bind fun h=>some (e.1,aj h)else bif (c.2==2)then (aY c.1 6).bind fun f=>(kz f.2).bind fun i=>some (f.1,aj i)else (dI c.1 b).bind fun g=>(CQ g.2).bind fun j=>some (g.1,aj j)
def ady:Fsp:=⟨195,[shT .cur,slF .str],[shT .cur,shT .expr],false,true,fun x=>CS x.1 x.2⟩
def jF(a:Int)(b:af)(c:af):Option (af):=some (af.mk 6 a [] [aj b,aj c])
def air:Fsp:=⟨196,[shF .int,shT .expr,shT .expr],[shT .expr],false,true,fun x=>jF x.1 x.2.1 x.2.2⟩
def vg(a:bW)(b:List Str):Option (bW×af):=(aY a 4).bind fun f=>aA (fun(⟨l,m,n,o,p,q,r,s,t,u,v,w,x,y⟩:(List Int)×Int×Int×(List Str)×Int×Int×Str×(List af)×Int×Int×Str×(List af)×Int×Int)=>bif (decide (y<x))then (aY (bW.mk l m n) 5).bind fun j=>(kz j.2).bind fun d=>(gd (w.length+[aj d].length)).bind fun _=>(lF j.1 4).bind fun e=>bif e.2 then (CS e.1 o).bind fun g=>(idx (w++[aj d]) y).bind fun _=>((w++[aj d])[y.toNat]?).bind fun k=>some (.inl (g.1.b,g.1.i,g.1.h,o,p,q,r,s,t,u,v,(w++[aj d]).set y.toNat (aj g.2),x,w64 (y+1)))else some (.inl (e.1.b,e.1.i,e.1.h,o,p,q,r,s,t,u,v,w++[aj d],x,w64 (y+1)))else some (.inr (bW.mk l m n,af.mk t u v w))) (f.1.b,f.1.i,f.1.h,b,0,0,[],[],4,0,[],[],f.2,0)
def adw:Fsp:=⟨197,[shT .cur,slF .str],[shT .cur,shT .expr],false,true,fun x=>vg x.1 x.2⟩
def lg(a:Str)(b:List af):Option (af):=some (af.mk 5 0 a b)
def adA:Fsp:=⟨198,[shF .str,slF .expr],[shT .expr],false,false,fun x=>lg x.1 x.2⟩
def jJ(a:bW)(b:af)(c:af):Option (bW×af):=(lF a 2).bind fun d=>bif d.2 then some (d.1,aj b)else some (d.1,aj c)
def Uz:Fsp:=⟨199,[shT .cur,shT .expr,shT .expr],[shT .cur,shT .expr],false,false,fun x=>jJ x.1 x.2.1 x.2.2⟩
def qA(a:bW):Option (bW×af):=(dI a ([[97],[97],[98],[99],[120]]:List Str)).bind fun b=>some (b.1,af.mk 2 0 b.2 [])
def XV:Fsp:=⟨201,[shT .cur],[shT .cur,shT .expr],false,true,fun x=>qA x⟩
def uw(a:bW):Option (bW×af):=(aY a 4).bind fun d=>aA (fun(⟨l,m,n,o,p,q,s,t,u,v,w,x,y⟩:(List Int)×Int×Int×Int×Int×Str×(List af)×Int×Int×Str×(List af)×Int×Int)=>bif (decide (y<x))then (aY (bW.mk l m n) 3).bind fun f=>(kz f.2).bind fun g=>(aY f.1 4).bind fun e=>(kz e.2).bind fun j=>(gd (w.length+([af.mk 4 0 [] [aj g,aj j]]).length)).bind fun _=>some (.inl (e.1.b,e.1.i,e.1.h,o,p,q,s,t,u,v,w++([af.mk 4 0 [] [aj g,aj j]]),x,w64 (y+1)))else ((lg [116,97,98,108,101] ([af.mk 2 0 [97,32,98] [],af.mk t u v w])).bind fun k=>some (bW.mk l m n,aj k)).bind fun r=>some (.inr r)) (d.1.b,d.1.i,d.1.h,0,0,[],[],4,0,[],[],d.2,0)
def aai:Fsp:=⟨202,[shT .cur],[shT .cur,shT .expr],false,false,fun x=>uw x⟩
def KE(rsL10Make:bW->(List Str)->Int->Option (bW×af))(a:bW)(b:List Str)(c:Int):Option (bW×af):=bif (decide (c<2))then (CS a b).bind fun r1=>some (r1.1,aj r1.2)else (aY a 13).bind fun d=>bif (d.2==0)then (aY d.1 5).bind fun r3=>(rsL10Make r3.1 b (w64 (c-1))).bind fun r4=>(rsL10Make r4.1 b (w64 (c-1))).bind fun r5=>(jF (w64 (1+r3.2)) (aj r4.2) (aj r5.2)).bind fun r6=>some (r5.1,aj r6)else bif (d.2==1)then (aY d.1 5).bind fun r7=>(rsL10Make r7.1 b (w64 (c-1))).bind fun r8=>(rsL10Make r8.1 b (w64 (c-1))).bind fun r9=>(jF (w64 (1+r7.2)) (aj r8.2) (aj r9.2)).bind fun O=>some (r9.1,aj O)else bif (d.2==2)then (idx b 0).bind fun P=>(dI d.1 ([[117],[118],P]:List Str)).bind fun f=>(rsL10Make f.1 b (w64 (c-1))).bind fun g=>(gd (([f.2]:List Str).length+b.length)).bind fun _=>(rsL10Make g.1 (([f.2]:List Str)++b) (w64 (c-1))).bind fun h=>some (h.1,af.mk 7 0 f.2 [aj g.2,aj h.2])else bif (d.2==3)then (rsL10Make d.1 b (w64 (c-1))).bind fun i=>(rsL10Make i.1 b (w64 (c-1))).bind fun j=>(rsL10Make j.1 b (w64 (c-1))).bind fun k=>some (k.1,af.mk 8 0 [] [aj i.2,aj j.2,aj k.2])else bif (d.2==4)then (idx b 0).bind fun Q=>(dI d.1 ([[117],[118],Q]:List Str)).bind fun e=>(vg e.1 b).bind fun l=>(gd (([e.2,e.2]:List Str).length+b.length)).bind fun _=>(rsL10Make l.1 (([e.2,e.2]:List Str)++b) (w64 (c-1))).bind fun m=>some (m.1,af.mk 9 0 e.2 [aj l.2,aj m.2])else bif (d.2==5)then (vg d.1 b).bind fun n=>some (n.1,aj n.2)else bif (d.2==6)then (dI d.1 ([[108,101,110],[115,117,109]]:List Str)).bind fun o=>(vg o.1 b).bind fun p=>(rsL10Make p.1 b (w64 (c-1))).bind fun q=>(jJ q.1 (aj p.2) (aj q.2)).bind fun r=>(lg o.2 [aj r.2]).bind fun R=>some (r.1,aj R)else bif (d.2==7)then (dI d.1 ([[116,97,107,101],[115,107,105,112],[110,116,104],[116,97,107,101]]:List Str)).bind fun s=>(aY s.1 4).bind fun t=>(kz t.2).bind fun S=>(vg t.1 b).bind fun u=>(aY u.1 9).bind fun v=>(kz v.2).bind fun T=>(aY v.1 4).bind fun w=>(kz w.2).bind fun U=>(lg [114,97,110,103,101] [aj T,aj U]).bind fun V=>(jJ w.1 (aj u.2) (aj V)).bind fun x=>(lg s.2 [aj S,aj x.2]).bind fun W=>some (x.1,aj W)else bif (d.2==8)then (qA d.1).bind fun y=>(aY y.1 3).bind fun z=>(kz z.2).bind fun X=>(uw z.1).bind fun A=>(rsL10Make A.1 b (w64 (c-1))).bind fun B=>(jJ B.1 (aj A.2) (aj B.2)).bind fun C=>(lg [119,104,101,114,101] [aj y.2,aj X,aj C.2]).bind fun Y=>some (C.1,aj Y)else bif (d.2==9)then (qA d.1).bind fun D=>(qA D.1).bind fun E=>(uw E.1).bind fun F=>(rsL10Make F.1 b (w64 (c-1))).bind fun G=>(jJ G.1 (aj F.2) (aj G.2)).bind fun H=>(lg [103,114,111,117,112] [aj D.2,aj E.2,aj H.2]).bind fun Z=>some (H.1,aj Z)else bif (d.2==10)then (uw d.1).bind fun I=>(rsL10Make I.1 b (w64 (c-1))).bind fun J=>(jJ J.1 (aj I.2) (aj J.2)).bind fun K=>(lg [114,111,119,115] [aj K.2]).bind fun r55=>some (K.1,aj r55)else bif (d.2==11)then (aY d.1 6).bind fun L=>(kz (w64 (1+L.2))).bind fun r57=>(lg [99,104,97,110,99,101] [aj r57]).bind fun r58=>some (L.1,aj r58)else (lg [99,108,111,99,107] []).bind fun r59=>(dI d.1 ([[102],[103],[104]]:List Str)).bind fun M=>(lg [102,105,108,101] ([af.mk 2 0 M.2 []])).bind fun r61=>(jJ M.1 (aj r59) (aj r61)).bind fun N=>some (N.1,aj N.2)
def mQ:Nat->(bW->(List Str)->Int->Option (bW×af))
 | 0=>fun _ _ _=>none
 | n+1=>KE (mQ n)
def Qn(a:bW)(b:List Str)(c:Int):Option (bW×af):=(mQ (siz a+siz b+1)) a b c
def adv:Fsp:=⟨153,[shT .cur,slF .str,shF .int],[shT .cur,shT .expr],false,false,fun x=>Qn x.1 x.2.1 x.2.2⟩
def Nl(n:Nat):Fsp:=⟨153,[shT .cur,slF .str,shF .int],[shT .cur,shT .expr],false,false,fun x=>(mQ n) x.1 x.2.1 x.2.2⟩
def Cf(a:bW):Option (bW×Str):=(aY a 9).bind fun b=>bif (b.2==0)then (dI b.1 ([[97],[98],[99],[100],[101]]:List Str)).bind fun i=>(gd (i.2.length+[32,43,32].length)).bind fun _=>(dI i.1 ([[97],[98],[99],[100],[101]]:List Str)).bind fun l=>(gd ((i.2++[32,43,32]).length+l.2.length)).bind fun _=>some (l.1,(i.2++[32,43,32])++l.2)else bif (b.2==1)then (dI b.1 ([[97],[98],[99],[100],[101]]:List Str)).bind fun j=>(gd (j.2.length+[32,43,32].length)).bind fun _=>(dI j.1 ([[97],[98],[99],[100],[101]]:List Str)).bind fun m=>(gd ((j.2++[32,43,32]).length+m.2.length)).bind fun _=>some (m.1,(j.2++[32,43,32])++m.2)else bif (b.2==2)then (dI b.1 ([[97],[98],[99],[100],[101]]:List Str)).bind fun n=>(gd ([108,101,110,40,34,97,98,34,41,32,42,32].length+n.2.length)).bind fun _=>some (n.1,[108,101,110,40,34,97,98,34,41,32,42,32]++n.2)else bif (b.2==3)then (aY b.1 3).bind fun o=>(eF o.2).bind fun e=>(gd ([119,104,101,114,101,40,34,97,34,44,32].length+e.length)).bind fun _=>(gd (([119,104,101,114,101,40,34,97,34,44,32]++e).length+[44,32].length)).bind fun _=>(dI o.1 ([[97],[98],[99],[100],[101]]:List Str)).bind fun k=>(gd ((([119,104,101,114,101,40,34,97,34,44,32]++e)++[44,32]).length+k.2.length)).bind fun _=>(gd (((([119,104,101,114,101,40,34,97,34,44,32]++e)++[44,32])++k.2).length+[41].length)).bind fun _=>some (k.1,((([119,104,101,114,101,40,34,97,34,44,32]++e)++[44,32])++k.2)++[41])else bif (b.2==4)then (dI b.1 ([[97],[98],[99],[100],[101]]:List Str)).bind fun c=>(gd ([103,114,111,117,112,40,34,97,34,44,32,34,98,34,44,32].length+c.2.length)).bind fun _=>(gd (([103,114,111,117,112,40,34,97,34,44,32,34,98,34,44,32]++c.2).length+[41].length)).bind fun _=>some (c.1,([103,114,111,117,112,40,34,97,34,44,32,34,98,34,44,32]++c.2)++[41])else bif (b.2==5)then (dI b.1 ([[99,108,111,99,107,40,41],[99,104,97,110,99,101,40,54,41],[102,105,108,101,40,34,102,34,41],[99,104,97,110,99,101,40,51,41,32,43,32,99,104,97,110,99,101,40,51,41],[99,108,111,99,107,40,41,32,43,32,97]]:List Str)).bind fun f=>some (f.1,f.2)else bif (b.2==6)then (dI b.1 ([[49,32,43],[108,101,116,32,120,32,61,32,105,110,32,50],[115,117,109,40,91,49,44,32,50,93],[55],[105,102,32,97,32,60,32,51,32,116,104,101,110,32,98,32,101,108,115,101,32,99],[102,111,114,32,117,32,105,110,32,91,49,44,32,50,44,32,51,93,32,100,111,32,117,32,42,32,97],[106,111,105,110,40,34,97,34,44,32,100,44,32,101,41],[115,117,109,40,99,111,108,117,109,110,40,34,98,34,44,32,100,41,41],[108,101,116,32,97,32,61,32,52,32,105,110,32,97,32,43,32,98]]:List Str)).bind fun g=>some (g.1,g.2)else (Qn b.1 ([[97],[98],[99],[100],[101]]:List Str) 2).bind fun d=>(ig (aj d.2)).bind fun h=>bif (decide ((h.length:Int)>120))then some (d.1,[49])else some (d.1,h)
def ac8:Fsp:=⟨117,[shT .cur],[shT .cur,shF .str],false,false,fun x=>Cf x⟩
def jW(a:Str)(b:Int):Option ((List Str)):=aA (fun(⟨g,h,i,j,k⟩:Str×Int×(List Str)×Int×Int)=>bif (decide (k<=(g.length:Int)))then bif (k==(g.length:Int))then (eff.cutL g (some j) (some k)).bind fun d=>(gd (i.length+([d]:List Str).length)).bind fun _=>some (.inl (g,h,i++([d]:List Str),w64 (k+1),w64 (k+1)))else (idx g k).bind fun f=>bif ((f.toNat:Int)==h)then (eff.cutL g (some j) (some k)).bind fun e=>(gd (i.length+([e]:List Str).length)).bind fun _=>some (.inl (g,h,i++([e]:List Str),w64 (k+1),w64 (k+1)))else some (.inl (g,h,i,j,w64 (k+1)))else some (.inr (i))) (a,b,[],0,0)
def XA:Fsp:=⟨192,[shF .str,shF .u8],[slF .str],true,false,fun x=>jW x.1 x.2⟩
def Eo(a:bW)(b:Str)(c:List Str):Option (bW×Str):=(aY a (w64 ((b.length:Int)+1))).bind fun e=>(aY e.1 6).bind fun d=>bif (d.2==0)then (eff.cutL b none (some e.2)).bind fun g=>(dI d.1 c).bind fun f=>(gd (g.length+f.2.length)).bind fun _=>(eff.cutL b (some e.2) none).bind fun h=>(gd ((g++f.2).length+h.length)).bind fun _=>some (f.1,(g++f.2)++h)else bif (d.2==1)then (eff.cutL b none (some e.2)).bind fun i=>some (d.1,i)else some (d.1,b)
def aac:Fsp:=⟨194,[shT .cur,shF .str,slF .str],[shT .cur,shF .str],false,false,fun x=>Eo x.1 x.2.1 x.2.2⟩
def Il(a:bW):Option (bW×Str):=(dI a ([[97,32,98],[97,32,98],[97,32,98],[97,32,99],[98],[97,32,98,32,99]]:List Str)).bind fun j=>(aY j.1 4).bind fun f=>(jW j.2 32).bind fun n=>aA (fun(⟨o,p,q,s,t,u,v⟩:(List Int)×Int×Int×Str×Int×Int×Int)=>bif (decide (v<t))then aA (fun(⟨d,w,x,y,z,A,B,C,D⟩:(List Int)×Int×Int×Str×Int×Int×Int×(List Str)×Int)=>bif (decide (D<A))then (aY (bW.mk d w x) 4).bind fun g=>(eF g.2).bind fun l=>(gd (C.length+([l]:List Str).length)).bind fun _=>some (.inl (g.1.b,g.1.i,g.1.h,y,z,A,B,C++([l]:List Str),w64 (D+1)))else ((gd (y.length+[59,32].length)).bind fun _=>(IA C [32]).bind fun m=>(gd ((y++[59,32]).length+m.length)).bind fun _=>some (.inl (d,w,x,(y++[59,32])++m,z,A,w64 (B+1)))).bind fun r=>some (.inr r)) (o,p,q,s,t,u,v,[],0)else ((lF (bW.mk o p q) 12).bind fun k=>bif k.2 then (Eo k.1 s ([[59],[32],[120],[59,32,49],[45]]:List Str)).bind fun e=>some (e.1,e.2)else some (k.1,s)).bind fun r=>some (.inr r)) (f.1.b,f.1.i,f.1.h,j.2,f.2,(n.length:Int),0)
def ac9:Fsp:=⟨151,[shT .cur],[shT .cur,shF .str],false,false,fun x=>Il x⟩
def Ci(a:bW)(b:Int):Option (bW×ah):=(aY a 3).bind fun e=>(kR e.1 [1,2,2,2,2,3,4,4]).bind fun c=>(dI c.1 ([[97],[98],[99],[100],[101]]:List Str)).bind fun d=>bif (c.2==1)then (dI d.1 ([[65,32,104,101,97,100,105,110,103],[],[115,101,101,32,34,97,34,32,97,110,100,32,98]]:List Str)).bind fun f=>some (f.1,ah.mk b (w64 (1+e.2)) c.2 [] f.2 0)else bif (c.2==2)then (Cf d.1).bind fun g=>some (g.1,ah.mk b (w64 (1+e.2)) c.2 d.2 g.2 0)else bif (c.2==3)then (aY d.1 9).bind fun h=>some (h.1,ah.mk b (w64 (1+e.2)) c.2 d.2 [] h.2)else bif (c.2==4)then (Il d.1).bind fun i=>some (i.1,ah.mk b (w64 (1+e.2)) c.2 d.2 i.2 0)else some (d.1,ah.mk b (w64 (1+e.2)) c.2 d.2 [] 0)
def adb:Fsp:=⟨116,[shT .cur,shF .int],[shT .cur,shT .cell],false,false,fun x=>Ci x.1 x.2⟩
def Ii(a:bW):Option (bW×dR):=(kR a [1,1,1,4,4,4,3,2,5,6]).bind fun c=>(aY c.1 4).bind fun d=>(aY d.1 5).bind fun e=>(Ci e.1 (w64 (1+e.2))).bind fun b=>(idx ([[],[97],[98],[99],[100],[101]]:List Str) b.2.id).bind fun _=>(([[],[97],[98],[99],[100],[101]]:List Str)[b.2.id.toNat]?).bind fun f=>bif (b.2.kind==1)then (Cf b.1).bind fun g=>some (g.1,dR.mk c.2 d.2 (ah.mk b.2.id b.2.version 2 f g.2 b.2.n))else some (b.1,dR.mk c.2 d.2 (ah.mk b.2.id b.2.version b.2.kind f b.2.code b.2.n))
def acW:Fsp:=⟨79,[shT .cur],[shT .cur,shT .edit],false,false,fun x=>Ii x⟩
def CB(a:bW):Option (bW×aN):=(aY a 3).bind fun b=>(aY b.1 7).bind fun c=>(dI c.1 ([[102],[103],[104],[122]]:List Str)).bind fun d=>(aY d.1 3).bind fun e=>some (e.1,aN.mk (w64 (1+b.2)) c.2 e.2 d.2 (aQ.mk 0 0 0 [] [] [] []))
def adh:Fsp:=⟨118,[shT .cur],[shT .cur,shT .read],false,true,fun x=>CB x⟩
def fU(a:Int):Option (aQ):=some (aQ.mk 1 a 0 [] [] [] [])
def PV:Fsp:=⟨119,[shF .int],[shT .val],true,false,fun x=>fU x⟩
def Cj(a:bW):Option (bW×(List aN)):=(aY a 4).bind fun e=>aA (fun(⟨l,m,o,p,q,r⟩:(List Int)×Int×Int×(List aN)×Int×Int)=>bif (decide (r<q))then (CB (bW.mk l m o)).bind fun c=>bif (c.2.kind != 2)then bif (c.2.kind != 3)then (fU (w64 (50+r))).bind fun f=>(gd (p.length+([aN.mk c.2.kind 0 c.2.time [] (dG f)]).length)).bind fun _=>some (.inl (c.1.b,c.1.i,c.1.h,p++([aN.mk c.2.kind 0 c.2.time [] (dG f)]),q,w64 (r+1)))else (fU (w64 (50+r))).bind fun g=>(gd (p.length+[aN.mk c.2.kind 0 c.2.time c.2.text (dG g)].length)).bind fun _=>some (.inl (c.1.b,c.1.i,c.1.h,p++[aN.mk c.2.kind 0 c.2.time c.2.text (dG g)],q,w64 (r+1)))else bif (c.2.kind != 3)then (fU (w64 (50+r))).bind fun j=>(gd (p.length+([aN.mk c.2.kind c.2.n c.2.time [] (dG j)]).length)).bind fun _=>some (.inl (c.1.b,c.1.i,c.1.h,p++([aN.mk c.2.kind c.2.n c.2.time [] (dG j)]),q,w64 (r+1)))else (fU (w64 (50+r))).bind fun k=>(gd (p.length+[aN.mk c.2.kind c.2.n c.2.time c.2.text (dG k)].length)).bind fun _=>some (.inl (c.1.b,c.1.i,c.1.h,p++[aN.mk c.2.kind c.2.n c.2.time c.2.text (dG k)],q,w64 (r+1)))else some (.inr (bW.mk l m o,p))) (e.1.b,e.1.i,e.1.h,[],e.2,0)
def ade:Fsp:=⟨81,[shT .cur],[shT .cur,slF .read],false,true,fun x=>Cj x⟩
def uX(a:bW)(b:List GOp)(c:Int):Option (bW×GOp):=(Kt b).bind fun t=>(aY a 2).bind fun m=>(Ii m.1).bind fun e=>aA (fun(⟨u,v,w,x,y,z,A,B,C,D,E,F,G,H,I,J,K,L,M,N,O,P,Q,R,S,T,U,V,W,X,Y,Z,aa,ac,ae,aq,ar,aw,az⟩:(List Int)×Int×Int×(List GOp)×Int×Int×Int×(List Int)×Int×Int×Int×Int×Int×Str×Str×Int×Str×Str×Int×Int×(List aN)×Int×Int×Int×(List Int)×Int×Int×Int×Int×Int×Str×Str×Int×Str×Str×Int×Int×(List aN)×Int)=>bif (decide (az<3))then (yx x az).bind fun o=>(gd (S.length+[o].length)).bind fun _=>some (.inl (u,v,w,x,y,z,A,B,C,D,E,F,G,H,I,J,K,L,M,N,O,P,Q,R,S++[o],T,U,V,W,X,Y,Z,aa,ac,ae,aq,ar,aw,w64 (az+1)))else ((aY (bW.mk u v w) 8).bind fun f=>bif (f.2==0)then (dI f.1 ([[97],[98],[99]]:List Str)).bind fun p=>(dI p.1 ([[120],[121],[116,111,116,97,108]]:List Str)).bind fun q=>some (q.1,GOp.mk P Q 2 S (dR.mk 0 0 (ah.mk 0 0 0 [] [] 0)) p.2 q.2 aq ar aw)else bif (f.2==1)then (dI f.1 ([[97],[98],[99]]:List Str)).bind fun s=>(dI s.1 ([[120],[121],[116,111,116,97,108]]:List Str)).bind fun g=>some (g.1,GOp.mk P Q 2 S (dR.mk 0 0 (ah.mk 0 0 0 [] [] 0)) s.2 g.2 aq ar aw)else bif (f.2==2)then (aY f.1 5).bind fun j=>(aY j.1 20).bind fun k=>(Cj k.1).bind fun l=>some (l.1,GOp.mk P Q 3 S (dR.mk 0 0 (ah.mk 0 0 0 [] [] 0)) ac ae (w64 (1+j.2)) (w64 (3+k.2)) l.2)
    else
     some (f.1,GOp.mk P Q R S (dR.mk T U (ah.mk V W X Y Z aa)) ac ae aq ar aw)
  ).bind fun r=>some (.inr r)
 ) (e.1.b,e.1.i,e.1.h,b,0,0,0,[],0,0,0,0,0,[],[],0,[],[],0,0,[],w64 ((w64 (t+1))+m.2),c,1,[],e.2.kind,e.2.pos,e.2.cell.id,e.2.cell.version,e.2.cell.kind,e.2.cell.name,e.2.cell.code,e.2.cell.n,[],[],0,0,[],0)
def acV:Fsp:=⟨44,[shT .cur,slF .op,shF .int],[shT .cur,shT .op],false,true,fun x=>uX x.1 x.2.1 x.2.2⟩
def oU(a:List GOp)(b:GOp):Option (Int):=aA (fun(⟨f,g,h,i,j,k,l,m,o,p,q,r,s,t,u,v,w,x,y⟩:(List GOp)×Int×Int×Int×(List Int)×Int×Int×Int×Int×Int×Str×Str×Int×Str×Str×Int×Int×(List aN)×Int)=>bif (decide (y<(f.length:Int)))then (idx f y).bind fun d=>bif (d.time==g)then (idx f y).bind fun e=>bif (e.by_==h)then some (.inr (y))else some (.inl (f,g,h,i,j,k,l,m,o,p,q,r,s,t,u,v,w,x,w64 (y+1)))else some (.inl (f,g,h,i,j,k,l,m,o,p,q,r,s,t,u,v,w,x,w64 (y+1)))else some (.inr ((-1)))) (a,b.time,b.by_,b.kind,b.seen,b.edit.kind,b.edit.pos,b.edit.cell.id,b.edit.cell.version,b.edit.cell.kind,b.edit.cell.name,b.edit.cell.code,b.edit.cell.n,b.src,b.dst,b.cell,b.version,b.reads,0)
def ZW:Fsp:=⟨23,[slF .op,shT .op],[shF .int],true,false,fun x=>oU x.1 x.2⟩
def qm(a:GOp)(b:GOp):Option (Bool):=bif (decide (a.time<b.time))then some (true)else bif (a.time==b.time)then some ((decide (a.by_<b.by_)))else some (false)
def ZO:Fsp:=⟨30,[shT .op,shT .op],[shF .bool],true,false,fun x=>qm x.1 x.2⟩
def Kv(a:cO):Option (cO):=(gd (0+a.cells.length)).bind fun _=>(gd (0+a.orig.length)).bind fun _=>some (cO.mk ([]++a.cells) ([]++a.orig))
def aif:Fsp:=⟨221,[shT .row],[shT .row],true,false,fun x=>Kv x⟩
def Cc(rsL3Copy:aQ->Option (aQ))(a:aQ):Option (aQ):=(gd (0+a.columns.length)).bind fun _=>aA (fun(⟨h,i,j,k,l,m,o,p,q,s,t,u,v,w,x,y,z,A,B,C,D,E⟩:Int×Int×Int×Str×(List aQ)×(List Str)×(List cO)×Int×Int×Int×Str×(List aQ)×(List Str)×(List cO)×Int×Int×Int×Str×(List aQ)×(List Str)×(List cO)×Int)=>bif (decide (E<(l.length:Int)))then (idx l E).bind fun f=>(rsL3Copy (dG f)).bind fun d=>(gd (B.length+[dG d].length)).bind fun _=>some (.inl (h,i,j,k,l,m,o,p,q,s,t,u,v,w,x,y,z,A,B++[dG d],C,D,w64 (E+1)))else (aA (fun(⟨b,F,G,H,I,J,K,L,M,N,O,P,Q,R,S,T,U,V,W,X,Y,Z⟩:Int×Int×Int×Str×(List aQ)×(List Str)×(List cO)×Int×Int×Int×Str×(List aQ)×(List Str)×(List cO)×Int×Int×Int×Str×(List aQ)×(List Str)×(List cO)×Int)=>bif (decide (Z<(K.length:Int)))then (idx K Z).bind fun g=>(Kv g).bind fun e=>(gd (Y.length+[e].length)).bind fun _=>some (.inl (b,F,G,H,I,J,K,L,M,N,O,P,Q,R,S,T,U,V,W,X,Y++[e],w64 (Z+1)))else some (.inr (aQ.mk S T U V W X Y))) (h,i,j,k,l,m,o,p,q,s,t,u,v,w,x,y,z,A,B,C,D,0)).bind fun r=>some (.inr r)) (a.kind,a.n,a.step,a.text,a.list,a.columns,a.rows,0,0,0,[],[],[],[],a.kind,a.n,a.step,a.text,[],[]++a.columns,[],0)
def xX:Nat->(aQ->Option (aQ))
 | 0=>fun _=>none
 | n+1=>Cc (xX n)
def Em(a:aQ):Option (aQ):=(xX (siz a+1)) a
def agt:Fsp:=⟨168,[shT .val],[shT .val],true,false,fun x=>Em x⟩
def P6(n:Nat):Fsp:=⟨168,[shT .val],[shT .val],true,false,fun x=>(xX n) x⟩
def Cm(a:aN):Option (aN):=(Em (dG a.result)).bind fun b=>some (aN.mk a.kind a.n a.time a.text (dG b))
def adg:Fsp:=⟨131,[shT .read],[shT .read],true,false,fun x=>Cm x⟩
def uq(a:List aN):Option ((List aN)):=aA (fun(⟨e,f,g⟩:(List aN)×(List aN)×Int)=>bif (decide (g<(e.length:Int)))then (idx e g).bind fun d=>(Cm (lY d)).bind fun c=>(gd (f.length+[lY c].length)).bind fun _=>some (.inl (e,f++[lY c],w64 (g+1)))else some (.inr (f))) (a,[],0)
def aaf:Fsp:=⟨92,[slF .read],[slF .read],true,false,fun x=>uq x⟩
def nO(a:GOp):Option (GOp):=(gd (0+a.seen.length)).bind fun _=>(uq a.reads).bind fun b=>some (GOp.mk a.time a.by_ a.kind ([]++a.seen) a.edit a.src a.dst a.cell a.version b)
def acX:Fsp:=⟨57,[shT .op],[shT .op],true,false,fun x=>nO x⟩
def uj(a:List GOp)(b:List GOp):Option ((List GOp)):=(gd (0+a.length)).bind fun _=>(gd (([]++a).length+b.length)).bind fun _=>aA (fun(⟨p,q,s⟩:(List GOp)×(List GOp)×Int)=>bif (decide (s<(q.length:Int)))then (idx q s).bind fun _=>(q[s.toNat]?).bind fun l=>(oU p l).bind fun m=>bif (decide (m>=0))then some (.inl (p,q,w64 (s+1)))else aA (fun(⟨f,t,u,v⟩:(List GOp)×(List GOp)×Int×Int)=>bif (decide (v<(f.length:Int)))then (idx f v).bind fun _=>(f[v.toNat]?).bind fun n=>(idx t u).bind fun _=>(t[u.toNat]?).bind fun o=>(qm n o).bind fun i=>bif i then some (.inl (f,t,u,w64 (v+1)))else ((cutAt f v).bind fun d=>((if v=(d:Int)then some ()else none)).bind fun _=>(gd (0+(f.take d).length)).bind fun _=>(idx t u).bind fun _=>(t[u.toNat]?).bind fun j=>(nO j).bind fun g=>(gd (([]++(f.take d)).length+[g].length)).bind fun _=>((if v=(d:Int)then some ()else none)).bind fun _=>(gd ((([]++(f.take d))++[g]).length+(f.drop d).length)).bind fun _=>some (.inl ((([]++(f.take d))++[g])++(f.drop d),t,w64 (u+1)))).bind fun r=>some (.inr r)else ((cutAt f v).bind fun e=>((if v=(e:Int)then some ()else none)).bind fun _=>(gd (0+(f.take e).length)).bind fun _=>(idx t u).bind fun _=>(t[u.toNat]?).bind fun k=>(nO k).bind fun h=>(gd (([]++(f.take e)).length+[h].length)).bind fun _=>((if v=(e:Int)then some ()else none)).bind fun _=>(gd ((([]++(f.take e))++[h]).length+(f.drop e).length)).bind fun _=>some (.inl ((([]++(f.take e))++[h])++(f.drop e),t,w64 (u+1)))).bind fun r=>some (.inr r)) (p,q,s,0)else some (.inr (p))) ([],([]++a)++b,0)
def ZQ:Fsp:=⟨45,[slF .op,slF .op],[slF .op],true,false,fun x=>uj x.1 x.2⟩
def Ej(a:bW)(b:Int):Option (bW×(List GOp)):=(aY a (w64 (b+1))).bind fun e=>aA (fun(⟨p,q,r,s,t,u⟩:(List Int)×Int×Int×(List GOp)×Int×Int)=>bif (decide (u<t))then (lF (bW.mk p q r) 2).bind fun g=>bif g.2 then (aY g.1 (w64 ((s.length:Int)+1))).bind fun k=>(eff.cutL s none (some k.2)).bind fun n=>(aY k.1 3).bind fun l=>(uX l.1 n l.2).bind fun f=>(uj s [f.2]).bind fun o=>some (.inl (f.1.b,f.1.i,f.1.h,o,t,w64 (u+1)))else (aY g.1 3).bind fun m=>(uX m.1 s m.2).bind fun d=>(uj s [d.2]).bind fun j=>some (.inl (d.1.b,d.1.i,d.1.h,j,t,w64 (u+1)))else some (.inr (bW.mk p q r,s))) (e.1.b,e.1.i,e.1.h,[],e.2,0)
def agq:Fsp:=⟨18,[shT .cur,shF .int],[shT .cur,slF .op],false,true,fun x=>Ej x.1 x.2⟩
def uY(a:bW):Option (bW×GOp):=(Ej a 3).bind fun d=>(aY d.1 3).bind fun e=>(uX e.1 d.2 e.2).bind fun b=>(aY b.1 10).bind fun c=>bif (c.2==0)then (kR c.1 [0,300,301]).bind fun f=>some (f.1,GOp.mk f.2 b.2.by_ b.2.kind b.2.seen b.2.edit b.2.src b.2.dst b.2.cell b.2.version b.2.reads)else bif (c.2==1)then (kR c.1 [-1,3]).bind fun g=>some (g.1,GOp.mk b.2.time g.2 b.2.kind b.2.seen b.2.edit b.2.src b.2.dst b.2.cell b.2.version b.2.reads)else bif (c.2==2)then (gd (b.2.seen.length+[0].length)).bind fun _=>some (c.1,GOp.mk b.2.time b.2.by_ b.2.kind (b.2.seen++[0]) b.2.edit b.2.src b.2.dst b.2.cell b.2.version b.2.reads)else bif (c.2==3)then (aY c.1 5).bind fun h=>some (h.1,GOp.mk b.2.time b.2.by_ h.2 b.2.seen b.2.edit b.2.src b.2.dst b.2.cell b.2.version b.2.reads)else bif (c.2==4)then (kR c.1 [-1,60,61]).bind fun i=>(idx b.2.seen 0).bind fun _=>(b.2.seen[0]?).bind fun j=>some (i.1,GOp.mk b.2.time b.2.by_ b.2.kind (b.2.seen.set 0 i.2) b.2.edit b.2.src b.2.dst b.2.cell b.2.version b.2.reads)else bif (c.2==5)then some (c.1,GOp.mk b.2.time b.2.by_ b.2.kind b.2.seen b.2.edit b.2.src [121] b.2.cell b.2.version b.2.reads)else some (c.1,b.2)
def acY:Fsp:=⟨43,[shT .cur],[shT .cur,shT .op],false,true,fun x=>uY x⟩
def oq(a:List Int):Option ((List GOp)):=(P9 a).bind fun l=>(Ej l 6).bind fun b=>bif (decide ((b.2.length:Int)>1))then (lF b.1 4).bind fun j=>bif j.2 then (idx b.2 0).bind fun _=>(b.2[0]?).bind fun k=>(idx b.2 1).bind fun _=>(b.2[1]?).bind fun c=>(idx b.2 0).bind fun _=>(b.2[0]?).bind fun n=>(idx (b.2.set 0 c) 1).bind fun _=>((b.2.set 0 c)[1]?).bind fun m=>(lF j.1 10).bind fun d=>bif d.2 then (uY d.1).bind fun e=>(gd (((b.2.set 0 c).set 1 k).length+[e.2].length)).bind fun _=>some (((b.2.set 0 c).set 1 k)++[e.2])else some ((b.2.set 0 c).set 1 k)else (lF j.1 10).bind fun f=>bif f.2 then (uY f.1).bind fun g=>(gd (b.2.length+[g.2].length)).bind fun _=>some (b.2++[g.2])else some (b.2)else (lF b.1 10).bind fun h=>bif h.2 then (uY h.1).bind fun i=>(gd (b.2.length+[i.2].length)).bind fun _=>some (b.2++[i.2])else some (b.2)
def II:Fsp:=⟨17,[slF .u8],[slF .op],false,true,fun x=>oq x⟩
def pG(a:List Int):Option ((List GOp)):=(P9 a).bind fun c=>(lF c 12).bind fun b=>bif b.2 then (oq a).bind fun d=>some (d)else (Ej b.1 12).bind fun e=>some (e.2)
def KI:Fsp:=⟨5,[slF .u8],[slF .op],false,true,fun x=>pG x⟩
def JA(a:List GOp)(b:Int):Option (Int):=aA (fun(⟨e,f,g,h,i⟩:Int×Int×(List GOp)×Int×Int)=>bif (decide (i<h))then (idx g i).bind fun d=>bif (d.by_==e)then some (.inl (e,w64 (f+1),g,h,w64 (i+1)))else some (.inl (e,f,g,h,w64 (i+1)))else some (.inr (f))) (b,0,a,(a.length:Int),0)
def aew:Fsp:=⟨33,[slF .op,shF .int],[shF .int],true,false,fun x=>JA x.1 x.2⟩
def yU(a:GOp)(b:List GOp)(c:Int):Option (Bool):=bif (decide (c<0))then some (false)else bif (decide (c>=(b.length:Int)))then some (false)else (idx b c).bind fun d=>bif (decide (d.by_<0))then some (false)else (idx b c).bind fun e=>bif (decide (e.by_>=(a.seen.length:Int)))then some (false)else (eff.cutL b none (some c)).bind fun f=>(idx b c).bind fun g=>(JA f g.by_).bind fun h=>(idx b c).bind fun i=>(idx a.seen i.by_).bind fun j=>some ((decide (h<j)))
def aes:Fsp:=⟨13,[shT .op,slF .op,shF .int],[shF .bool],true,false,fun x=>yU x.1 x.2.1 x.2.2⟩
def bY(a:ak):Option (ak):=(gd (0+a.cells.length)).bind fun _=>some (ak.mk ([]++a.cells))
def OA:Fsp:=⟨64,[shT .notebook],[shT .notebook],true,false,fun x=>bY x⟩
def yX(a:cO):Option (cO):=(gd (0+a.cells.length)).bind fun _=>(gd (0+a.orig.length)).bind fun _=>some (cO.mk ([]++a.cells) ([]++a.orig))
def aex:Fsp:=⟨150,[shT .row],[shT .row],true,false,fun x=>yX x⟩
def rZ(riCopyValue:aQ->Option (aQ))(riCopyValues:(List aQ)->Option ((List aQ)))(a:aQ):Option (aQ):=(riCopyValues a.list).bind fun d=>(gd (0+a.columns.length)).bind fun _=>aA (fun(⟨f,g,h,i,j,k,l,m,o,p,q,r,s,t,u,v,w⟩:Int×Int×Int×Str×(List aQ)×(List Str)×(List cO)×Int×Int×Int×Str×(List aQ)×(List Str)×(List cO)×(List cO)×Int×Int)=>bif (decide (w<v))then (idx u w).bind fun e=>(yX e).bind fun c=>(gd (t.length+[c].length)).bind fun _=>some (.inl (f,g,h,i,j,k,l,m,o,p,q,r,s,t++[c],u,v,w64 (w+1)))else some (.inr (aQ.mk m o p q r s t))) (0,0,0,[],[],[],[],a.kind,a.n,a.step,a.text,d,[]++a.columns,[],a.rows,(a.rows.length:Int),0)
def pU(riCopyValue:aQ->Option (aQ))(riCopyValues:(List aQ)->Option ((List aQ)))(a:List aQ):Option ((List aQ)):=aA (fun(⟨e,f,g,h⟩:(List aQ)×(List aQ)×Int×Int)=>bif (decide (h<g))then (idx f h).bind fun d=>(riCopyValue (dG d)).bind fun c=>(gd (e.length+[dG c].length)).bind fun _=>some (.inl (e++[dG c],f,g,w64 (h+1)))else some (.inr (e))) ([],a,(a.length:Int),0)
def dQ:Nat->(aQ->Option (aQ))×((List aQ)->Option ((List aQ)))
 | 0=>(fun _=>none,fun _=>none)
 | n+1=>(rZ (dQ n).1 (dQ n).2,pU (dQ n).1 (dQ n).2)
def oN(a:aQ):Option (aQ):=(dQ (siz a+1)).1 a
def Y5:Fsp:=⟨113,[shT .val],[shT .val],true,false,fun x=>oN x⟩
def FP(n:Nat):Fsp:=⟨113,[shT .val],[shT .val],true,false,fun x=>(dQ n).1 x⟩
def abw(a:List aQ):Option ((List aQ)):=(dQ (siz a+1)).2 a
def Vu:Fsp:=⟨149,[slF .val],[slF .val],true,false,fun x=>abw x⟩
def DL(n:Nat):Fsp:=⟨149,[slF .val],[slF .val],true,false,fun x=>(dQ n).2 x⟩
def oO(a:List aN):Option ((List aN)):=aA (fun(⟨e,f,g,h⟩:(List aN)×(List aN)×Int×Int)=>bif (decide (h<g))then (idx f h).bind fun c=>(oN (dG c.result)).bind fun d=>(gd (e.length+[aN.mk c.kind c.n c.time c.text (dG d)].length)).bind fun _=>some (.inl (e++[aN.mk c.kind c.n c.time c.text (dG d)],f,g,w64 (h+1)))else some (.inr (e))) ([],a,(a.length:Int),0)
def Y7:Fsp:=⟨72,[slF .read],[slF .read],true,false,fun x=>oO x⟩
def Aw(a:List aK):Option ((List aK)):=aA (fun(⟨e,f,g,h⟩:(List aK)×(List aK)×Int×Int)=>bif (decide (h<g))then (idx f h).bind fun c=>(oO c.reads).bind fun d=>(gd (e.length+[aK.mk c.cell c.version d].length)).bind fun _=>some (.inl (e++[aK.mk c.cell c.version d],f,g,w64 (h+1)))else some (.inr (e))) ([],a,(a.length:Int),0)
def Y6:Fsp:=⟨65,[slF .tape],[slF .tape],true,false,fun x=>Aw x⟩
def EO(a:GOp):Option (GOp):=(gd (0+a.seen.length)).bind fun _=>(oO a.reads).bind fun b=>some (GOp.mk a.time a.by_ a.kind ([]++a.seen) a.edit a.src a.dst a.cell a.version b)
def ahp:Fsp:=⟨40,[shT .op],[shT .op],true,false,fun x=>EO x⟩
def JC(a:List GOp):Option ((List GOp)):=aA (fun(⟨e,f,g,h⟩:(List GOp)×(List GOp)×Int×Int)=>bif (decide (h<g))then (idx f h).bind fun d=>(EO d).bind fun c=>(gd (e.length+[c].length)).bind fun _=>some (.inl (e++[c],f,g,w64 (h+1)))else some (.inr (e))) ([],a,(a.length:Int),0)
def aey:Fsp:=⟨66,[slF .op],[slF .op],true,false,fun x=>JC x⟩
def nU(a:aB):Option (aB):=(bY a.notebook).bind fun b=>(Aw a.tapes).bind fun c=>(JC a.renames).bind fun d=>some (aB.mk b c d)
def OC:Fsp:=⟨34,[shT .document],[shT .document],true,false,fun x=>nU x⟩
def iG(a:ak)(b:Int):Option (Int):=aA (fun(⟨e,f,g,h⟩:Int×(List ah)×Int×Int)=>bif (decide (h<g))then (idx f h).bind fun d=>bif (d.id==e)then some (.inr (h))else some (.inl (e,f,g,w64 (h+1)))else some (.inr ((-1)))) (b,a.cells,(a.cells.length:Int),0)
def Zb:Fsp:=⟨38,[shT .notebook,shF .int],[shF .int],true,false,fun x=>iG x.1 x.2⟩
def iU(a:Int)(b:Int)(c:Int):Option (Bool):=bif (decide (b<=a))then some ((decide (a<=c)))else some (false)
def ahe:Fsp:=⟨68,[shF .int,shF .int,shF .int],[shF .bool],true,false,fun x=>iU x.1 x.2.1 x.2.2⟩
def Jr(a:Str):Option (Bool):=aA (fun (b:Str×Int)=>bif (decide (b.2<(b.1.length:Int)))then (idx b.1 b.2).bind fun c=>bif (decide ((c.toNat:Int)>=97))then (idx b.1 b.2).bind fun d=>bif (!(decide ((d.toNat:Int)<=122)))then bif (b.2==0)then some (.inr (false))else (idx b.1 b.2).bind fun e=>bif (decide ((e.toNat:Int)<48))then some (.inr (false))else (idx b.1 b.2).bind fun f=>bif (decide ((f.toNat:Int)>57))then some (.inr (false))else some (.inl (b.1,w64 (b.2+1)))else some (.inl (b.1,w64 (b.2+1)))else bif (b.2==0)then some (.inr (false))else (idx b.1 b.2).bind fun g=>bif (decide ((g.toNat:Int)<48))then some (.inr (false))else (idx b.1 b.2).bind fun h=>bif (decide ((h.toNat:Int)>57))then some (.inr (false))else some (.inl (b.1,w64 (b.2+1)))else ((iU (b.1.length:Int) 1 8).bind fun i=>some (i)).bind fun r=>some (.inr r)) (a,0)
def ahl:Fsp:=⟨146,[shF .str],[shF .bool],true,false,fun x=>Jr x⟩
def fQ(a:Str):Option (Int):=bif (a==[99,108,111,99,107])then some (0)else bif (a==[108,101,110])then some (1)else bif (a==[115,117,109])then some (1)else bif (a==[114,111,119,115])then some (1)else bif (a==[99,104,97,110,99,101])then some (1)else bif (a==[102,105,108,101])then some (1)else bif (a==[116,97,107,101])then some (2)else bif (a==[115,107,105,112])then some (2)else bif (a==[114,97,110,103,101])then some (2)else bif (a==[110,116,104])then some (2)else bif (a==[107,101,101,112])then some (2)else bif (a==[99,111,108,117,109,110])then some (2)else bif (a==[116,97,98,108,101])then some (2)else bif (a==[119,104,101,114,101])then some (3)else bif (a==[103,114,111,117,112])then some (3)else bif (a==[106,111,105,110])then some (3)else bif (a==[97,100,100])then some (4)else some ((-1))
def LP:Fsp:=⟨191,[shF .str],[shF .int],true,false,fun x=>fQ x⟩
def o6(a:Str):Option (Bool):=bif (a==[108,101,116])then some (true)else bif (a==[105,110])then some (true)else bif (a==[105,102])then some (true)else bif (a==[116,104,101,110])then some (true)else bif (a==[101,108,115,101])then some (true)else bif (a==[102,111,114])then some (true)else bif (a==[100,111])then some (true)else (fQ a).bind fun b=>some ((decide (b>=0)))
def Vk:Fsp:=⟨147,[shF .str],[shF .bool],true,false,fun x=>o6 x⟩
def aZ(a:Str):Option (Bool):=(Jr a).bind fun b=>bif b then (o6 a).bind fun c=>some ((!c))else some (false)
def SK:Fsp:=⟨108,[shF .str],[shF .bool],true,false,fun x=>aZ x⟩
def gW(a:Str):Option (Bool):=aA (fun (b:Str×Int)=>bif (decide (b.2<(b.1.length:Int)))then (idx b.1 b.2).bind fun c=>bif (decide ((c.toNat:Int)<32))then some (.inr (false))else (idx b.1 b.2).bind fun d=>bif (decide ((d.toNat:Int)>126))then some (.inr (false))else some (.inl (b.1,w64 (b.2+1)))else some (.inr ((decide ((b.1.length:Int)<=120))))) (a,0)
def SS:Fsp:=⟨136,[shF .str],[shF .bool],true,false,fun x=>gW x⟩
def bH(a:ah):Option (Bool):=(iU a.id 1 999).bind fun b=>bif (!b)then some (false)else (iU a.version 1 999).bind fun c=>bif (!c)then some (false)else (gW a.code).bind fun d=>bif (!d)then some (false)else bif (a.kind==1)then bif (a.name==[])then some ((a.n==0))else some (false)else bif (a.kind==2)then (aZ a.name).bind fun e=>bif e then some ((a.n==0))else some (false)else bif (a.kind==4)then (aZ a.name).bind fun f=>bif f then some ((a.n==0))else some (false)else bif (a.kind==3)then (aZ a.name).bind fun g=>bif g then bif (a.code==[])then (iU a.n 0 100).bind fun h=>some (h)else some (false)else some (false)else some (false)
def SQ:Fsp:=⟨99,[shT .cell],[shF .bool],true,false,fun x=>bH x⟩
def gy(a:ak):Option (Bool):=aA (fun(⟨f,g,h,i⟩:(List ah)×(List ah)×Int×Int)=>bif (decide (i<h))then (idx g i).bind fun c=>(bH c).bind fun d=>bif (!d)then some (.inr (false))else (iG (ak.mk f) c.id).bind fun e=>bif (e != i)then some (.inr (false))else some (.inl (f,g,h,w64 (i+1)))else some (.inr ((decide ((f.length:Int)<=8))))) (a.cells,a.cells,(a.cells.length:Int),0)
def GX:Fsp:=⟨67,[shT .notebook],[shF .bool],true,false,fun x=>gy x⟩
def yT(a:List ah)(b:Int)(c:ah):Option ((List ah)):=(eff.cutL a none (some (if (if (a.length:Int)<b then (a.length:Int)else b)>0 then (if (a.length:Int)<b then (a.length:Int)else b)else 0))).bind fun d=>(gd (0+d.length)).bind fun _=>(gd (([]++d).length+[c].length)).bind fun _=>(eff.cutL a (some (if (if (a.length:Int)<b then (a.length:Int)else b)>0 then (if (a.length:Int)<b then (a.length:Int)else b)else 0)) none).bind fun e=>(gd ((([]++d)++[c]).length+e.length)).bind fun _=>some ((([]++d)++[c])++e)
def abr:Fsp:=⟨100,[slF .cell,shF .int,shT .cell],[slF .cell],true,false,fun x=>yT x.1 x.2.1 x.2.2⟩
def Dn(a:List ah)(b:Int):Option ((List ah)):=(eff.cutL a none (some b)).bind fun c=>(gd (0+c.length)).bind fun _=>(eff.cutL a (some (w64 (b+1))) none).bind fun d=>(gd (([]++c).length+d.length)).bind fun _=>some (([]++c)++d)
def aej:Fsp:=⟨101,[slF .cell,shF .int],[slF .cell],true,false,fun x=>Dn x.1 x.2⟩
def Za(a:ak)(b:dR):Option (ak×Int):=(iG a b.cell.id).bind fun d=>bif (b.kind==1)then (bH b.cell).bind fun w=>bif (!w)then some (a,1)else bif (decide (d>=0))then some (a,3)else bif (decide ((a.cells.length:Int)>=8))then some (a,4)else (yT a.cells b.pos b.cell).bind fun x=>some (ak.mk x,0)else bif (decide (d<0))then some (a,2)else (idx a.cells d).bind fun c=>bif (b.kind==2)then (Dn a.cells d).bind fun y=>some (ak.mk y,0)else bif (b.kind==3)then (Dn a.cells d).bind fun z=>(yT z b.pos c).bind fun A=>some (ak.mk A,0)else bif (b.kind==5)then bif (c.kind != 3)then some (a,5)else (bH (ah.mk c.id c.version c.kind c.name c.code b.cell.n)).bind fun B=>bif (!B)then some (a,1)else (bY a).bind fun m=>(idx m.cells d).bind fun _=>(m.cells[d.toNat]?).bind fun C=>some (ak.mk (m.cells.set d.toNat (ah.mk c.id c.version c.kind c.name c.code b.cell.n)),0)else bif (b.kind==4)then bif (c.kind==3)then some (a,5)else bif (b.kind==6)then bif (c.kind != 2)then some (a,5)else bif (decide (c.version>=999))then some (a,6)else bif (b.kind==4)then (bH (ah.mk c.id (w64 (c.version+1)) c.kind b.cell.name b.cell.code c.n)).bind fun o=>bif (!o)then some (a,1)else (bY a).bind fun e=>(idx e.cells d).bind fun _=>(e.cells[d.toNat]?).bind fun D=>some (ak.mk (e.cells.set d.toNat (ah.mk c.id (w64 (c.version+1)) c.kind b.cell.name b.cell.code c.n)),0)else (bH (ah.mk c.id (w64 (c.version+1)) c.kind c.name c.code c.n)).bind fun p=>bif (!p)then some (a,1)else (bY a).bind fun f=>(idx f.cells d).bind fun _=>(f.cells[d.toNat]?).bind fun E=>some (ak.mk (f.cells.set d.toNat (ah.mk c.id (w64 (c.version+1)) c.kind c.name c.code c.n)),0)else bif (decide (c.version>=999))then some (a,6)else bif (b.kind==4)then (bH (ah.mk c.id (w64 (c.version+1)) c.kind b.cell.name b.cell.code c.n)).bind fun q=>bif (!q)then some (a,1)else (bY a).bind fun g=>(idx g.cells d).bind fun _=>(g.cells[d.toNat]?).bind fun F=>some (ak.mk (g.cells.set d.toNat (ah.mk c.id (w64 (c.version+1)) c.kind b.cell.name b.cell.code c.n)),0)else (bH (ah.mk c.id (w64 (c.version+1)) c.kind c.name c.code c.n)).bind fun r=>bif (!r)then some (a,1)else (bY a).bind fun h=>(idx h.cells d).bind fun _=>(h.cells[d.toNat]?).bind fun G=>some (ak.mk (h.cells.set d.toNat (ah.mk c.id (w64 (c.version+1)) c.kind c.name c.code c.n)),0)else bif (b.kind==6)then bif (c.kind != 2)then some (a,5)else bif (decide (c.version>=999))then some (a,6)else bif (b.kind==4)then (bH (ah.mk c.id (w64 (c.version+1)) c.kind b.cell.name b.cell.code c.n)).bind fun s=>bif (!s)then some (a,1)else (bY a).bind fun i=>(idx i.cells d).bind fun _=>(i.cells[d.toNat]?).bind fun H=>some (ak.mk (i.cells.set d.toNat (ah.mk c.id (w64 (c.version+1)) c.kind b.cell.name b.cell.code c.n)),0)else (bH (ah.mk c.id (w64 (c.version+1)) c.kind c.name c.code c.n)).bind fun t=>bif (!t)then some (a,1)else (bY a).bind fun j=>(idx j.cells d).bind fun _=>(j.cells[d.toNat]?).bind fun I=>some (ak.mk (j.cells.set d.toNat (ah.mk c.id (w64 (c.version+1)) c.kind c.name c.code c.n)),0)else bif (decide (c.version>=999))then some (a,6)else bif (b.kind==4)then (bH (ah.mk c.id (w64 (c.version+1)) c.kind b.cell.name b.cell.code c.n)).bind fun u=>bif (!u)then some (a,1)else (bY a).bind fun k=>(idx k.cells d).bind fun _=>(k.cells[d.toNat]?).bind fun J=>some (ak.mk (k.cells.set d.toNat (ah.mk c.id (w64 (c.version+1)) c.kind b.cell.name b.cell.code c.n)),0)else (bH (ah.mk c.id (w64 (c.version+1)) c.kind c.name c.code c.n)).bind fun v=>bif (!v)then some (a,1)else (bY a).bind fun l=>(idx l.cells d).bind fun _=>(l.cells[d.toNat]?).bind fun K=>some (ak.mk (l.cells.set d.toNat (ah.mk c.id (w64 (c.version+1)) c.kind c.name c.code c.n)),0)
def ahq:Fsp:=⟨69,[shT .notebook,shT .edit],[shT .notebook,shF .int],false,false,fun x=>Za x.1 x.2⟩
def vU(a:ak)(b:dR):Option (ak×Int):=(gy a).bind fun d=>bif (!d)then (bY a).bind fun e=>some (e,1)else (iU b.kind 1 6).bind fun f=>bif (!f)then (bY a).bind fun g=>some (g,1)else (Za a b).bind fun c=>(bY c.1).bind fun h=>some (h,c.2)
def Zc:Fsp:=⟨35,[shT .notebook,shT .edit],[shT .notebook,shF .int],true,false,fun x=>vU x.1 x.2⟩
def nH(a:Str)(b c:Int):Option (Int×Bool):=rV a b c
def ajD:Fsp:=⟨222,[shF .str,shF .int,shF .int],[shF .int,shF .bool],true,false,fun x=>nH x.1 x.2.1 x.2.2⟩
def Rt:Fsp:=⟨223,[shF .str,shF .u8],[shF .int],true,false,fun x=>eY x.1 x.2⟩
def iK(a:Str):Option (Bool):=aA (fun (b:Str×Int)=>bif (decide (b.2<(b.1.length:Int)))then (idx b.1 b.2).bind fun c=>bif (decide ((c.toNat:Int)<32))then some (.inr (false))else (idx b.1 b.2).bind fun d=>bif (decide ((d.toNat:Int)>126))then some (.inr (false))else (idx b.1 b.2).bind fun e=>bif ((e.toNat:Int)==34)then some (.inr (false))else some (.inl (b.1,w64 (b.2+1)))else some (.inr ((decide ((b.1.length:Int)<=20))))) (a,0)
def SI:Fsp:=⟨224,[shF .str],[shF .bool],true,false,fun x=>iK x⟩
def Ru:Fsp:=⟨225,[shF .str,shF .str],[shF .bool],true,false,fun x=>jK x.1 x.2⟩
def jM(a:Str)(b:Int):Option (aJ×Int×Bool):=(idx a b).bind fun f=>bif (decide ((f.toNat:Int)>=97))then bif (decide ((f.toNat:Int)<=122))then aA (fun(⟨aa,ac,ae,aq,ar,aw,az⟩:Str×Int×Int×Int×Int×Str×Int)=>bif (decide (az<(aa.length:Int)))then (idx aa az).bind fun c3=>bif (decide ((c3.toNat:Int)>=97))then (idx aa az).bind fun c4=>bif (decide ((c4.toNat:Int)<=122))then some (.inl (aa,ac,ae,aq,ar,aw,w64 (az+1)))else (idx aa az).bind fun c5=>bif (decide ((c5.toNat:Int)>=48))then (idx aa az).bind fun c6=>bif (decide ((c6.toNat:Int)<=57))then some (.inl (aa,ac,ae,aq,ar,aw,w64 (az+1)))else ((eff.cutL aa (some ac) (some az)).bind fun r7=>some (aJ.mk 1 0 ac r7,az,(decide ((w64 (az-ac))<=8)))).bind fun r=>some (.inr r)else ((eff.cutL aa (some ac) (some az)).bind fun r8=>some (aJ.mk 1 0 ac r8,az,(decide ((w64 (az-ac))<=8)))).bind fun r=>some (.inr r)else (idx aa az).bind fun c9=>bif (decide ((c9.toNat:Int)>=48))then (idx aa az).bind fun v=>bif (decide ((v.toNat:Int)<=57))then some (.inl (aa,ac,ae,aq,ar,aw,w64 (az+1)))else ((eff.cutL aa (some ac) (some az)).bind fun w=>some (aJ.mk 1 0 ac w,az,(decide ((w64 (az-ac))<=8)))).bind fun r=>some (.inr r)else ((eff.cutL aa (some ac) (some az)).bind fun x=>some (aJ.mk 1 0 ac x,az,(decide ((w64 (az-ac))<=8)))).bind fun r=>some (.inr r)else ((eff.cutL aa (some ac) (some az)).bind fun y=>some (aJ.mk 1 0 ac y,az,(decide ((w64 (az-ac))<=8)))).bind fun r=>some (.inr r)) (a,b,0,0,0,[],b)else bif (decide ((f.toNat:Int)>=48))then bif (decide ((f.toNat:Int)<=57))then aA (fun(⟨c,aD,aE,aL,aM,aR,ba⟩:Str×Int×Int×Int×Int×Str×Int)=>bif (decide (ba<(c.length:Int)))then (idx c ba).bind fun z=>bif (decide ((z.toNat:Int)>=48))then (idx c ba).bind fun A=>bif (decide ((A.toNat:Int)<=57))then some (.inl (c,aD,aE,aL,aM,aR,w64 (ba+1)))else ((eff.cutL c (some aD) (some ba)).bind fun B=>(nH B 0 1000000000).bind fun k=>some (aJ.mk 2 k.1 aD [],ba,k.2)).bind fun r=>some (.inr r)else ((eff.cutL c (some aD) (some ba)).bind fun C=>(nH C 0 1000000000).bind fun l=>some (aJ.mk 2 l.1 aD [],ba,l.2)).bind fun r=>some (.inr r)else ((eff.cutL c (some aD) (some ba)).bind fun D=>(nH D 0 1000000000).bind fun m=>some (aJ.mk 2 m.1 aD [],ba,m.2)).bind fun r=>some (.inr r)) (a,b,0,0,0,[],b)else bif ((f.toNat:Int)==34)then (eff.cutL a (some (w64 (b+1))) none).bind fun E=>(eY E 34).bind fun g=>bif (decide (g<0))then some (aJ.mk 0 0 0 [],0,false)else (eff.cutL a (some (w64 (b+1))) (some (w64 ((w64 (b+1))+g)))).bind fun n=>(iK n).bind fun F=>some (aJ.mk 3 0 b n,w64 ((w64 (b+g))+2),F)else (eff.cutL a (some b) none).bind fun G=>(jK G [61,61]).bind fun H=>bif H then some (aJ.mk 4 0 b [61,61],w64 (b+2),true)else (eff.cutL a (some b) (some (w64 (b+1)))).bind fun I=>(eY [40,41,91,93,44,43,45,42,60,61] (f.toNat:Int)).bind fun J=>some (aJ.mk 4 0 b I,w64 (b+1),(decide (J>=0)))else bif ((f.toNat:Int)==34)then (eff.cutL a (some (w64 (b+1))) none).bind fun K=>(eY K 34).bind fun h=>bif (decide (h<0))then some (aJ.mk 0 0 0 [],0,false)else (eff.cutL a (some (w64 (b+1))) (some (w64 ((w64 (b+1))+h)))).bind fun o=>(iK o).bind fun L=>
    some (aJ.mk 3 0 b o,w64 ((w64 (b+h))+2),L)
  else
   (eff.cutL a (some b) none).bind fun M=>
   (jK M [61,61]).bind fun N=>
   bif N then
    some (aJ.mk 4 0 b [61,61],w64 (b+2),true)
   else
    (eff.cutL a (some b) (some (w64 (b+1)))).bind fun O=>
    (eY [40,41,91,93,44,43,45,42,60,61] (f.toNat:Int)).bind fun P=>
    some (aJ.mk 4 0 b O,w64 (b+1),(decide (P>=0)))
 else
 bif (decide ((f.toNat:Int)>=48))then
  bif (decide ((f.toNat:Int)<=57))then
   aA (fun(⟨d,bc,bh,bj,bl,bm,bp⟩:Str×Int×Int×Int×Int×Str×Int)=>
    bif (decide (bp<(d.length:Int)))then
     (idx d bp).bind fun Q=>
     bif (decide ((Q.toNat:Int)>=48))then
      (idx d bp).bind fun R=>
      bif (decide ((R.toNat:Int)<=57))then
       some (.inl (d,bc,bh,bj,bl,bm,w64 (bp+1)))
      else
       (
        (eff.cutL d (some bc) (some bp)).bind fun S=>
        (nH S 0 1000000000).bind fun p=>
        some (aJ.mk 2 p.1 bc [],bp,p.2)
       ).bind fun r=>some (.inr r)
     else
      (
       (eff.cutL d (some bc) (some bp)).bind fun T=>
       (nH T 0 1000000000).bind fun q=>
       some (aJ.mk 2 q.1 bc [],bp,q.2)
      ).bind fun r=>some (.inr r)
    else
     (
      (eff.cutL d (some bc) (some bp)).bind fun U=>
      (nH U 0 1000000000).bind fun s=>
      some (aJ.mk 2 s.1 bc [],bp,s.2)
     ).bind fun r=>some (.inr r)
   ) (a,b,0,0,0,[],b)
  else
  bif ((f.toNat:Int)==34)then
   (eff.cutL a (some (w64 (b+1))) none).bind fun V=>
   (eY V 34).bind fun i=>
   bif (decide (i<0))then
    some (aJ.mk 0 0 0 [],0,false)
   else
    (eff.cutL a (some (w64 (b+1))) (some (w64 ((w64 (b+1))+i)))).bind fun t=>
    (iK t).bind fun W=>
    some (aJ.mk 3 0 b t,w64 ((w64 (b+i))+2),W)
  else
   (eff.cutL a (some b) none).bind fun X=>
   (jK X [61,61]).bind fun Y=>
   bif Y then
    some (aJ.mk 4 0 b [61,61],w64 (b+2),true)
   else
    (eff.cutL a (some b) (some (w64 (b+1)))).bind fun Z=>
    (eY [40,41,91,93,44,43,45,42,60,61] (f.toNat:Int)).bind fun r55=>
    some (aJ.mk 4 0 b Z,w64 (b+1),(decide (r55>=0)))
 else
 bif ((f.toNat:Int)==34)then
  (eff.cutL a (some (w64 (b+1))) none).bind fun r56=>
  (eY r56 34).bind fun j=>
  bif (decide (j<0))then
   some (aJ.mk 0 0 0 [],0,false)
  else
   (eff.cutL a (some (w64 (b+1))) (some (w64 ((w64 (b+1))+j)))).bind fun u=>
   (iK u).bind fun r59=>
   some (aJ.mk 3 0 b u,w64 ((w64 (b+j))+2),r59)
 else
  (eff.cutL a (some b) none).bind fun r60=>
  (jK r60 [61,61]).bind fun r61=>
  bif r61 then
   some (aJ.mk 4 0 b [61,61],w64 (b+2),true)
  else
   (eff.cutL a (some b) (some (w64 (b+1)))).bind fun r62=>
   (eY [40,41,91,93,44,43,45,42,60,61] (f.toNat:Int)).bind fun r63=>
   some (aJ.mk 4 0 b r62,w64 (b+1),(decide (r63>=0)))
def aed:Fsp:=⟨169,[shF .str,shF .int],[shT .token,shF .int,shF .bool],true,false,fun x=>jM x.1 x.2⟩
def yM(a:Str):Option ((List aJ)×Int):=bif (decide ((a.length:Int)>120))then some ([],120)else aA (fun(⟨e,f,g⟩:Str×(List aJ)×Int)=>bif (decide (g<(e.length:Int)))then (idx e g).bind fun d=>bif ((d.toNat:Int)==32)then some (.inl (e,f,w64 (g+1)))else (jM e g).bind fun c=>bif (!c.2.2)then some (.inr ([],g))else bif ((f.length:Int)==60)then some (.inr ([],g))else (gd (f.length+[c.1].length)).bind fun _=>some (.inl (e,f++[c.1],c.2.1))else some (.inr (f,(-1)))) (a,[],0)
def abb:Fsp:=⟨137,[shF .str],[slF .token,shF .int],true,false,fun x=>yM x⟩
def jZ(a:aJ)(b:Str):Option (Bool):=bif (a.kind==1)then some ((a.text==b))else some (false)
def YX:Fsp:=⟨170,[shT .token,shF .str],[shF .bool],true,false,fun x=>jZ x.1 x.2⟩
def fM(a:aV):Option (aV×aJ):=bif (decide (a.bad<0))then bif (decide (a.i<(a.toks.length:Int)))then (idx a.toks a.i).bind fun b=>some (a,b)else some (a,aJ.mk 0 0 0 [])else some (a,aJ.mk 0 0 0 [])
def U9:Fsp:=⟨171,[shT .psr],[shT .psr,shT .token],false,false,fun x=>fM x⟩
def iP(a:aV):Option (aV×af):=bif (decide (a.bad<0))then some (aV.mk a.toks a.i a.i,af.mk 0 0 [] [])else some (a,af.mk 0 0 [] [])
def Vd:Fsp:=⟨226,[shT .psr],[shT .psr,shT .expr],false,true,fun x=>iP x⟩
def mF(a:aV):Option (aV×Str):=(fM a).bind fun b=>bif (b.2.kind != 1)then (iP b.1).bind fun c=>some (c.1,[])else (aZ b.2.text).bind fun d=>bif (!d)then (iP b.1).bind fun e=>some (e.1,[])else some (aV.mk b.1.toks (w64 (b.1.i+1)) b.1.bad,b.2.text)
def Vb:Fsp:=⟨172,[shT .psr],[shT .psr,shF .str],false,false,fun x=>mF x⟩
def yS(a:aJ)(b:Str):Option (Bool):=bif (a.kind==4)then some ((a.text==b))else some (false)
def abp:Fsp:=⟨227,[shT .token,shF .str],[shF .bool],true,false,fun x=>yS x.1 x.2⟩
def di(a:aV)(b:Str):Option (aV):=(fM a).bind fun c=>(jZ c.2 b).bind fun e=>bif e then some (aV.mk c.1.toks (w64 (c.1.i+1)) c.1.bad)else (fM c.1).bind fun d=>(yS d.2 b).bind fun f=>bif f then some (aV.mk d.1.toks (w64 (d.1.i+1)) d.1.bad)else (iP d.1).bind fun g=>some (g.1)
def Va:Fsp:=⟨173,[shT .psr,shF .str],[shT .psr],false,false,fun x=>di x.1 x.2⟩
def bg(a:aV)(b:Str):Option (aV×Bool):=(fM a).bind fun c=>(yS c.2 b).bind fun d=>bif d then some (aV.mk c.1.toks (w64 (c.1.i+1)) c.1.bad,true)else some (c.1,false)
def Ou:Fsp:=⟨175,[shT .psr,shF .str],[shT .psr,shF .bool],false,false,fun x=>bg x.1 x.2⟩
def uG(a:Int):Option (Str):=(iU a 1 5).bind fun b=>bif (!b)then some ([63])else (idx ([[43],[45],[42],[60],[61,61]]:List Str) (w64 (a-1))).bind fun _=>(([[43],[45],[42],[60],[61,61]]:List Str)[(w64 (a-1)).toNat]?).bind fun c=>some (c)
def abl:Fsp:=⟨176,[shF .int],[shF .str],true,false,fun x=>uG x⟩
def Am(riParserExpr:aV->Option (aV×af))(riParserSum:aV->Option (aV×af))(riParserProduct:aV->Option (aV×af))(riParserAtom:aV->Option (aV×af))(riParserList2:aV->Str->Option (aV×(List af)))(a:aV):Option (aV×af):=(fM a).bind fun l=>(jZ l.2 [108,101,116]).bind fun A=>bif A then (mF (aV.mk l.1.toks (w64 (l.1.i+1)) l.1.bad)).bind fun z=>(di z.1 [61]).bind fun B=>(riParserExpr B).bind fun r=>(gd ([aj r.2].length)).bind fun _=>(di r.1 [105,110]).bind fun C=>(riParserExpr C).bind fun s=>(gd ([aj r.2].length+[aj s.2].length)).bind fun _=>some (s.1,af.mk 7 0 z.2 ([aj r.2]++[aj s.2]))else (fM l.1).bind fun m=>(jZ m.2 [105,102]).bind fun D=>bif D then (riParserExpr (aV.mk m.1.toks (w64 (m.1.i+1)) m.1.bad)).bind fun d=>(gd ([aj d.2].length)).bind fun _=>(di d.1 [116,104,101,110]).bind fun t=>(riParserExpr t).bind fun g=>(gd ([aj d.2].length+[aj g.2].length)).bind fun _=>(di g.1 [101,108,115,101]).bind fun u=>(riParserExpr u).bind fun j=>(gd (([aj d.2]++[aj g.2]).length+[aj j.2].length)).bind fun _=>some (j.1,af.mk 8 0 [] (([aj d.2]++[aj g.2])++[aj j.2]))else (fM m.1).bind fun e=>(jZ e.2 [102,111,114]).bind fun v=>bif v then (mF (aV.mk e.1.toks (w64 (e.1.i+1)) e.1.bad)).bind fun o=>(di o.1 [105,110]).bind fun w=>(riParserExpr w).bind fun h=>(gd ([aj h.2].length)).bind fun _=>(di h.1 [100,111]).bind fun x=>(riParserExpr x).bind fun k=>(gd ([aj h.2].length+[aj k.2].length)).bind fun _=>some (k.1,af.mk 9 0 o.2 ([aj h.2]++[aj k.2]))else (riParserSum e.1).bind fun c=>aA (fun(⟨E,F,G,H,I,J,K,L,M,N,O,P,Q,R⟩:(List aJ)×Int×Int×Int×Int×Str×(List af)×Int×Int×Str×(List af)×(List Int)×Int×Int)=>bif (decide (R<Q))then (idx P R).bind fun _=>(P[R.toNat]?).bind fun p=>(uG p).bind fun y=>(bg (aV.mk E F G) y).bind fun f=>bif f.2 then (riParserSum f.1).bind fun q=>some (.inr (q.1,af.mk 6 p [] [af.mk L M N O,aj q.2]))else some (.inl (f.1.toks,f.1.i,f.1.bad,H,I,J,K,L,M,N,O,P,Q,w64 (R+1)))else some (.inr (aV.mk E F G,af.mk L M N O))) (c.1.toks,c.1.i,c.1.bad,0,0,[],[],c.2.kind,c.2.n,c.2.text,c.2.args,[4,5],([4,5].length:Int),0)
def Dp(riParserExpr:aV->Option (aV×af))(riParserSum:aV->Option (aV×af))(riParserProduct:aV->Option (aV×af))(riParserAtom:aV->Option (aV×af))(riParserList2:aV->Str->Option (aV×(List af)))(a:aV):Option (aV×af):=(riParserProduct a).bind fun c=>aA (fun(⟨h,j,k,l,m,o,p,q,r,s,t⟩:(List aJ)×Int×Int×Int×Int×Str×(List af)×Int×Int×Str×(List af))=>bif (decide (k<0))then (bg (aV.mk h j k) [43]).bind fun f=>bif (!f.2)then (bg f.1 [45]).bind fun g=>bif (!g.2)then some (.inr (g.1,af.mk q r s t))else (riParserProduct g.1).bind fun d=>some (.inl (d.1.toks,d.1.i,d.1.bad,l,m,o,p,6,2,[],[af.mk q r s t,aj d.2]))else (riParserProduct f.1).bind fun e=>some (.inl (e.1.toks,e.1.i,e.1.bad,l,m,o,p,6,1,[],[af.mk q r s t,aj e.2]))else some (.inr (aV.mk h j k,af.mk q r s t))) (c.1.toks,c.1.i,c.1.bad,0,0,[],[],c.2.kind,c.2.n,c.2.text,c.2.args)
def sJ(riParserExpr:aV->Option (aV×af))(riParserSum:aV->Option (aV×af))(riParserProduct:aV->Option (aV×af))(riParserAtom:aV->Option (aV×af))(riParserList2:aV->Str->Option (aV×(List af)))(a:aV):Option (aV×af):=(riParserAtom a).bind fun c=>aA (fun(⟨f,g,h,j,k,l,m,o,p,q,r⟩:(List aJ)×Int×Int×Int×Int×Str×(List af)×Int×Int×Str×(List af))=>(bg (aV.mk f g h) [42]).bind fun e=>bif e.2 then (riParserAtom e.1).bind fun d=>some (.inl (d.1.toks,d.1.i,d.1.bad,j,k,l,m,6,3,[],[af.mk o p q r,aj d.2]))else some (.inr (e.1,af.mk o p q r))) (c.1.toks,c.1.i,c.1.bad,0,0,[],[],c.2.kind,c.2.n,c.2.text,c.2.args)
def tN(riParserExpr:aV->Option (aV×af))(riParserSum:aV->Option (aV×af))(riParserProduct:aV->Option (aV×af))(riParserAtom:aV->Option (aV×af))(riParserList2:aV->Str->Option (aV×(List af)))(a:aV):Option (aV×af):=(fM a).bind fun b=>bif (b.2.kind==2)then some (aV.mk b.1.toks (w64 (b.1.i+1)) b.1.bad,af.mk 1 b.2.n [] [])else bif (b.2.kind==3)then some (aV.mk b.1.toks (w64 (b.1.i+1)) b.1.bad,af.mk 2 0 b.2.text [])else bif (b.2.kind==1)then (aZ b.2.text).bind fun G=>bif G then some (aV.mk b.1.toks (w64 (b.1.i+1)) b.1.bad,af.mk 3 0 b.2.text [])else bif (b.2.kind==1)then (fQ b.2.text).bind fun H=>bif (decide (H>=0))then (di (aV.mk b.1.toks (w64 (b.1.i+1)) b.1.bad) [40]).bind fun I=>(riParserList2 I [41]).bind fun D=>some (D.1,af.mk 5 0 b.2.text D.2)else (bg b.1 [91]).bind fun v=>bif v.2 then (riParserList2 v.1 [93]).bind fun E=>some (E.1,af.mk 4 0 [] E.2)else (bg v.1 [40]).bind fun w=>bif w.2 then (riParserExpr w.1).bind fun F=>(di F.1 [41]).bind fun x=>some (x,aj F.2)else (iP w.1).bind fun j=>some (j.1,aj j.2)else (bg b.1 [91]).bind fun c=>bif c.2 then (riParserList2 c.1 [93]).bind fun k=>some (k.1,af.mk 4 0 [] k.2)else (bg c.1 [40]).bind fun d=>bif d.2 then (riParserExpr d.1).bind fun l=>(di l.1 [41]).bind fun y=>some (y,aj l.2)else (iP d.1).bind fun m=>some (m.1,aj m.2)else bif (b.2.kind==1)then (fQ b.2.text).bind fun z=>bif (decide (z>=0))then (di (aV.mk b.1.toks (w64 (b.1.i+1)) b.1.bad) [40]).bind fun A=>(riParserList2 A [41]).bind fun o=>some (o.1,af.mk 5 0 b.2.text o.2)else (bg b.1 [91]).bind fun e=>bif e.2 then (riParserList2 e.1 [93]).bind fun p=>some (p.1,af.mk 4 0 [] p.2)else (bg e.1 [40]).bind fun f=>bif f.2 then (riParserExpr f.1).bind fun q=>(di q.1 [41]).bind fun B=>some (B,aj q.2)else (iP f.1).bind fun r=>some (r.1,aj r.2)else (bg b.1 [91]).bind fun g=>bif g.2 then (riParserList2 g.1 [93]).bind fun s=>some (s.1,af.mk 4 0 [] s.2)else (bg g.1 [40]).bind fun h=>bif h.2 then (riParserExpr h.1).bind fun t=>(di t.1 [41]).bind fun C=>some (C,aj t.2)else (iP h.1).bind fun u=>some (u.1,aj u.2)
def nT(riParserExpr:aV->Option (aV×af))(riParserSum:aV->Option (aV×af))(riParserProduct:aV->Option (aV×af))(riParserAtom:aV->Option (aV×af))(riParserList2:aV->Str->Option (aV×(List af)))(a:aV)(b:Str):Option (aV×(List af)):=(bg a b).bind fun d=>bif d.2 then some (d.1,[])else aA (fun(⟨h,j,k,l,m⟩:(List aJ)×Int×Int×Str×(List af))=>bif (decide (k<0))then (riParserExpr (aV.mk h j k)).bind fun e=>(gd (m.length+[aj e.2].length)).bind fun _=>(bg e.1 l).bind fun f=>bif f.2 then some (.inr (f.1,m++[aj e.2]))else (di f.1 [44]).bind fun g=>some (.inl (g.toks,g.i,g.bad,l,m++[aj e.2]))else some (.inr (aV.mk h j k,m))) (d.1.toks,d.1.i,d.1.bad,b,[])
def aF:Nat->(aV->Option (aV×af))×(aV->Option (aV×af))×(aV->Option (aV×af))×(aV->Option (aV×af))×(aV->Str->Option (aV×(List af)))
 | 0=>(fun _=>none,fun _=>none,fun _=>none,fun _=>none,fun _ _=>none)
 | n+1=>(Am (aF n).1 (aF n).2.1 (aF n).2.2.1 (aF n).2.2.2.1 (aF n).2.2.2.2,Dp (aF n).1 (aF n).2.1 (aF n).2.2.1 (aF n).2.2.2.1 (aF n).2.2.2.2,sJ (aF n).1 (aF n).2.1 (aF n).2.2.1 (aF n).2.2.2.1 (aF n).2.2.2.2,tN (aF n).1 (aF n).2.1 (aF n).2.2.1 (aF n).2.2.2.1 (aF n).2.2.2.2,nT (aF n).1 (aF n).2.1 (aF n).2.2.1 (aF n).2.2.2.1 (aF n).2.2.2.2)
def Du(a:aV):Option (aV×af):=(aF (siz a+1)).1 a
def Ve:Fsp:=⟨138,[shT .psr],[shT .psr,shT .expr],false,false,fun x=>Du x⟩
def Dt(n:Nat):Fsp:=⟨138,[shT .psr],[shT .psr,shT .expr],false,false,fun x=>(aF n).1 x⟩
def ael(a:aV):Option (aV×af):=(aF (siz a+1)).2.1 a
def YO:Fsp:=⟨174,[shT .psr],[shT .psr,shT .expr],false,false,fun x=>ael x⟩
def FH(n:Nat):Fsp:=⟨174,[shT .psr],[shT .psr,shT .expr],false,false,fun x=>(aF n).2.1 x⟩
def SE(a:aV):Option (aV×af):=(aF (siz a+1)).2.2.1 a
def Ls:Fsp:=⟨228,[shT .psr],[shT .psr,shT .expr],false,false,fun x=>SE x⟩
def wW(n:Nat):Fsp:=⟨228,[shT .psr],[shT .psr,shT .expr],false,false,fun x=>(aF n).2.2.1 x⟩
def abk(a:aV):Option (aV×af):=(aF (siz a+1)).2.2.2.1 a
def Vf:Fsp:=⟨255,[shT .psr],[shT .psr,shT .expr],false,false,fun x=>abk x⟩
def Dv(n:Nat):Fsp:=⟨255,[shT .psr],[shT .psr,shT .expr],false,false,fun x=>(aF n).2.2.2.1 x⟩
def YP(a:aV)(b:Str):Option (aV×(List af)):=(aF (siz a+1)).2.2.2.2 a b
def SG:Fsp:=⟨275,[shT .psr,shF .str],[shT .psr,slF .expr],false,false,fun x=>YP x.1 x.2⟩
def Bj(n:Nat):Fsp:=⟨275,[shT .psr,shF .str],[shT .psr,slF .expr],false,false,fun x=>(aF n).2.2.2.2 x.1 x.2⟩
def Dw(riNodeCount:af->Option (Int))(a:af):Option (Int):=aA (fun(⟨e,f,g,h⟩:Int×(List af)×Int×Int)=>bif (decide (h<g))then (idx f h).bind fun c=>(riNodeCount (aj c)).bind fun d=>some (.inl (w64 (e+d),f,g,w64 (h+1)))else some (.inr (e))) (1,a.args,(a.args.length:Int),0)
def o5:Nat->(af->Option (Int))
 | 0=>fun _=>none
 | n+1=>Dw (o5 n)
def GU(a:af):Option (Int):=(o5 (siz a+1)) a
def YU:Fsp:=⟨177,[shT .expr],[shF .int],true,false,fun x=>GU x⟩
def FK(n:Nat):Fsp:=⟨177,[shT .expr],[shF .int],true,false,fun x=>(o5 n) x⟩
def Dy(riNestingOf:af->Option (Int))(a:af):Option (Int):=aA (fun(⟨e,f,g,h⟩:Int×(List af)×Int×Int)=>bif (decide (h<g))then (idx f h).bind fun d=>(riNestingOf (aj d)).bind fun c=>some (.inl ((if c>e then c else e),f,g,w64 (h+1)))else some (.inr (w64 (e+1)))) (0,a.args,(a.args.length:Int),0)
def rW:Nat->(af->Option (Int))
 | 0=>fun _=>none
 | n+1=>Dy (rW n)
def GV(a:af):Option (Int):=(rW (siz a+1)) a
def YV:Fsp:=⟨178,[shT .expr],[shF .int],true,false,fun x=>GV x⟩
def FM(n:Nat):Fsp:=⟨178,[shT .expr],[shF .int],true,false,fun x=>(rW n) x⟩
def EM(a:af):Option (Bool):=bif (a.kind==1)then (iU a.n 0 1000000000).bind fun b=>bif b then bif (a.text==[])then some (((a.args.length:Int)==0))else some (false)else some (false)else bif (a.kind==2)then bif (a.n==0)then (iK a.text).bind fun c=>bif c then some (((a.args.length:Int)==0))else some (false)else some (false)else bif (a.kind==3)then bif (a.n==0)then (aZ a.text).bind fun d=>bif d then some (((a.args.length:Int)==0))else some (false)else some (false)else bif (a.kind==4)then bif (a.n==0)then bif (a.text==[])then some ((decide ((a.args.length:Int)<=8)))else some (false)else some (false)else bif (a.kind==5)then bif (a.n==0)then (fQ a.text).bind fun e=>some (((a.args.length:Int)==e))else some (false)else bif (a.kind==6)then (iU a.n 1 5).bind fun f=>bif f then bif (a.text==[])then some (((a.args.length:Int)==2))else some (false)else some (false)else bif (a.kind==7)then bif (a.n==0)then (aZ a.text).bind fun g=>bif g then some (((a.args.length:Int)==2))else some (false)else some (false)else bif (a.kind==9)then bif (a.n==0)then (aZ a.text).bind fun h=>bif h then some (((a.args.length:Int)==2))else some (false)else some (false)else bif (a.kind==8)then bif (a.n==0)then bif (a.text==[])then some (((a.args.length:Int)==3))else some (false)else some (false)else some (false)
def ahm:Fsp:=⟨229,[shT .expr],[shF .bool],true,false,fun x=>EM x⟩
def G5(riAreNodes:af->Option (Bool))(a:af):Option (Bool):=aA (fun(⟨f,g,h,i,j,k,l⟩:Int×Int×Str×(List af)×(List af)×Int×Int)=>bif (decide (l<k))then (idx j l).bind fun c=>(riAreNodes (aj c)).bind fun d=>bif (!d)then some (.inr (false))else some (.inl (f,g,h,i,j,k,w64 (l+1)))else ((EM (af.mk f g h i)).bind fun e=>some (e)).bind fun r=>some (.inr r)) (a.kind,a.n,a.text,a.args,a.args,(a.args.length:Int),0)
def vS:Nat->(af->Option (Bool))
 | 0=>fun _=>none
 | n+1=>G5 (vS n)
def EQ(a:af):Option (Bool):=(vS (siz a+1)) a
def abC:Fsp:=⟨179,[shT .expr],[shF .bool],true,false,fun x=>EQ x⟩
def JE(n:Nat):Fsp:=⟨179,[shT .expr],[shF .bool],true,false,fun x=>(vS n) x⟩
def iL(a:af):Option (Bool):=(GU (aj a)).bind fun b=>bif (decide (b<=40))then (GV (aj a)).bind fun c=>bif (decide (c<=8))then (EQ (aj a)).bind fun d=>some (d)else some (false)else some (false)
def SN:Fsp:=⟨139,[shT .expr],[shF .bool],true,false,fun x=>iL x⟩
def qO(a:Str):Option (af×Int):=(yM a).bind fun c=>bif (decide (c.2>=0))then some (af.mk 0 0 [] [],c.2)else (Du (aV.mk c.1 0 (-1))).bind fun b=>bif (decide (b.1.bad<0))then bif (decide (b.1.i<(c.1.length:Int)))then bif (decide (b.1.i>=(c.1.length:Int)))then some (af.mk 0 0 [] [],(a.length:Int))else bif (decide (b.1.i>=0))then (idx c.1 b.1.i).bind fun _=>(c.1[b.1.i.toNat]?).bind fun f=>some (af.mk 0 0 [] [],f.pos)else (iL (aj b.2)).bind fun g=>bif (!g)then some (af.mk 0 0 [] [],0)else some (aj b.2,(-1))else bif (decide (b.1.bad>=(c.1.length:Int)))then some (af.mk 0 0 [] [],(a.length:Int))else bif (decide (b.1.bad>=0))then (idx c.1 b.1.bad).bind fun _=>(c.1[b.1.bad.toNat]?).bind fun h=>some (af.mk 0 0 [] [],h.pos)else (iL (aj b.2)).bind fun j=>bif (!j)then some (af.mk 0 0 [] [],0)else some (aj b.2,(-1))else bif (decide (b.1.bad>=(c.1.length:Int)))then some (af.mk 0 0 [] [],(a.length:Int))else bif (decide (b.1.bad>=0))then (idx c.1 b.1.bad).bind fun _=>(c.1[b.1.bad.toNat]?).bind fun d=>some (af.mk 0 0 [] [],d.pos)else (iL (aj b.2)).bind fun e=>bif (!e)then some (af.mk 0 0 [] [],0)else some (aj b.2,(-1))
def YR:Fsp:=⟨102,[shF .str],[shT .expr,shF .int],false,false,fun x=>qO x⟩
def jP(a:List Str)(b:Str):Option (Int):=aA (fun(⟨e,f,g,h⟩:Str×(List Str)×Int×Int)=>bif (decide (h<g))then (idx f h).bind fun d=>bif (d==e)then some (.inr (h))else some (.inl (e,f,g,w64 (h+1)))else some (.inr ((-1)))) (b,a,(a.length:Int),0)
def aer:Fsp:=⟨103,[slF .str,shF .str],[shF .int],true,false,fun x=>jP x.1 x.2⟩
def qM(a:List Str):Option ((List Str)):=aA (fun(⟨f,g,h,i,j⟩:(List Str)×(List Str)×(List Str)×Int×Int)=>bif (decide (j<i))then (idx h j).bind fun c=>(jP f c).bind fun d=>bif (d==j)then (gd (g.length+([c]:List Str).length)).bind fun _=>some (.inl (f,g++([c]:List Str),h,i,w64 (j+1)))else some (.inl (f,g,h,i,w64 (j+1)))else ((jw g).bind fun e=>some (e)).bind fun r=>some (.inr r)) (a,[],a,(a.length:Int),0)
def YF:Fsp:=⟨142,[slF .str],[slF .str],true,false,fun x=>qM x⟩
def oM(a:af):Option (List Str):=(ku (siz a+1) a []).bind fun es=>(gd es.length).bind fun _=>qM (es.map (·.1))
def YZ:Fsp:=⟨104,[shT .expr],[slF .str],true,false,fun x=>oM x⟩
def iQ(a:af)(b c:Str):Option Bool:=(ku (siz a+1) a []).bind fun es=>(gd es.length).bind fun _=>some (es.any fun p=>p.1==b&&p.2.contains c)
def Vm:Fsp:=⟨112,[shT .expr,shF .str,shF .str],[shF .bool],true,false,fun x=>iQ x.1 x.2.1 x.2.2⟩
def GZ(riCopyExpr:af->Option (af))(a:af):Option (af):=aA (fun(⟨e,f,g,h,i,j,k,l,m,o,p⟩:Int×Int×Str×(List af)×Int×Int×Str×(List af)×(List af)×Int×Int)=>bif (decide (p<o))then (idx m p).bind fun d=>(riCopyExpr (aj d)).bind fun c=>(gd (l.length+[aj c].length)).bind fun _=>some (.inl (e,f,g,h,i,j,k,l++[aj c],m,o,w64 (p+1)))else some (.inr (af.mk i j k l))) (0,0,[],[],a.kind,a.n,a.text,[],a.args,(a.args.length:Int),0)
def vP:Nat->(af->Option (af))
 | 0=>fun _=>none
 | n+1=>GZ (vP n)
def EP(a:af):Option (af):=(vP (siz a+1)) a
def abz:Fsp:=⟨181,[shT .expr],[shT .expr],true,false,fun x=>EP x⟩
def JD(n:Nat):Fsp:=⟨181,[shT .expr],[shT .expr],true,false,fun x=>(vP n) x⟩
def jO(riRenamed:af->Str->Str->Option (af)):(Str×Str×Int×Int×Str×(List af)×Int×Int×Str×(List af)×Bool×(List af)×Int×Int)->Option ((Str×Str×Int×Int×Str×(List af)×Int×Int×Str×(List af)×Bool×(List af)×Int×Int)⊕(af)):=
(fun (x1:Str×Str×Int×Int×Str×(List af)×Int×Int×Str×(List af)×Bool×(List af)×Int×Int)=>
     bif (decide (x1.2.2.2.2.2.2.2.2.2.2.2.2.2<x1.2.2.2.2.2.2.2.2.2.2.2.2.1))then
      (idx x1.2.2.2.2.2.2.2.2.2.2.2.1 x1.2.2.2.2.2.2.2.2.2.2.2.2.2).bind fun e2=>
      bif x1.2.2.2.2.2.2.2.2.2.2.1 then
       bif (decide (x1.2.2.2.2.2.2.2.2.2.2.2.2.2>0))then
        (EP (aj e2)).bind fun r3=>
        (gd (x1.2.2.2.2.2.2.2.2.2.1.length+[aj r3].length)).bind fun _=>
        some (.inl (x1.1,x1.2.1,x1.2.2.1,x1.2.2.2.1,x1.2.2.2.2.1,x1.2.2.2.2.2.1,x1.2.2.2.2.2.2.1,x1.2.2.2.2.2.2.2.1,x1.2.2.2.2.2.2.2.2.1,x1.2.2.2.2.2.2.2.2.2.1++[aj r3],x1.2.2.2.2.2.2.2.2.2.2.1,x1.2.2.2.2.2.2.2.2.2.2.2.1,x1.2.2.2.2.2.2.2.2.2.2.2.2.1,w64 (x1.2.2.2.2.2.2.2.2.2.2.2.2.2+1)))
       else
        (riRenamed (aj e2) x1.1 x1.2.1).bind fun r4=>
        (gd (x1.2.2.2.2.2.2.2.2.2.1.length+[aj r4].length)).bind fun _=>
        some (.inl (x1.1,x1.2.1,x1.2.2.1,x1.2.2.2.1,x1.2.2.2.2.1,x1.2.2.2.2.2.1,x1.2.2.2.2.2.2.1,x1.2.2.2.2.2.2.2.1,x1.2.2.2.2.2.2.2.2.1,x1.2.2.2.2.2.2.2.2.2.1++[aj r4],x1.2.2.2.2.2.2.2.2.2.2.1,x1.2.2.2.2.2.2.2.2.2.2.2.1,x1.2.2.2.2.2.2.2.2.2.2.2.2.1,w64 (x1.2.2.2.2.2.2.2.2.2.2.2.2.2+1)))
      else
       (riRenamed (aj e2) x1.1 x1.2.1).bind fun r5=>
       (gd (x1.2.2.2.2.2.2.2.2.2.1.length+[aj r5].length)).bind fun _=>
       some (.inl (x1.1,x1.2.1,x1.2.2.1,x1.2.2.2.1,x1.2.2.2.2.1,x1.2.2.2.2.2.1,x1.2.2.2.2.2.2.1,x1.2.2.2.2.2.2.2.1,x1.2.2.2.2.2.2.2.2.1,x1.2.2.2.2.2.2.2.2.2.1++[aj r5],x1.2.2.2.2.2.2.2.2.2.2.1,x1.2.2.2.2.2.2.2.2.2.2.2.1,x1.2.2.2.2.2.2.2.2.2.2.2.2.1,w64 (x1.2.2.2.2.2.2.2.2.2.2.2.2.2+1)))
     else
      some (.inr (af.mk x1.2.2.2.2.2.2.1 x1.2.2.2.2.2.2.2.1 x1.2.2.2.2.2.2.2.2.1 x1.2.2.2.2.2.2.2.2.2.1))
  )
def EK(riRenamed:af->Str->Str->Option (af))(a:af)(b:Str)(c:Str):Option (af):=bif (a.kind==3)then bif (a.text==b)then bif (a.kind==7)then aA (jO riRenamed) (b,c,0,0,[],[],a.kind,a.n,c,[],(a.text==b),a.args,(a.args.length:Int),0)else bif (a.kind==9)then aA (jO riRenamed) (b,c,0,0,[],[],a.kind,a.n,c,[],(a.text==b),a.args,(a.args.length:Int),0)else aA (jO riRenamed) (b,c,0,0,[],[],a.kind,a.n,c,[],false,a.args,(a.args.length:Int),0)else bif (a.kind==7)then aA (jO riRenamed) (b,c,0,0,[],[],a.kind,a.n,a.text,[],(a.text==b),a.args,(a.args.length:Int),0)else bif (a.kind==9)then aA (jO riRenamed) (b,c,0,0,[],[],a.kind,a.n,a.text,[],(a.text==b),a.args,(a.args.length:Int),0)else aA (jO riRenamed) (b,c,0,0,[],[],a.kind,a.n,a.text,[],false,a.args,(a.args.length:Int),0)else bif (a.kind==7)then aA (jO riRenamed) (b,c,0,0,[],[],a.kind,a.n,a.text,[],(a.text==b),a.args,(a.args.length:Int),0)else bif (a.kind==9)then aA (jO riRenamed) (b,c,0,0,[],[],a.kind,a.n,a.text,[],(a.text==b),a.args,(a.args.length:Int),0)else aA (jO riRenamed) (b,c,0,0,[],[],a.kind,a.n,a.text,[],false,a.args,(a.args.length:Int),0)
def yO:Nat->(af->Str->Str->Option (af))
 | 0=>fun _ _ _=>none
 | n+1=>EK (yO n)
def SA(a:af)(b:Str)(c:Str):Option (af):=(yO (siz a+1)) a b c
def aei:Fsp:=⟨143,[shT .expr,shF .str,shF .str],[shT .expr],true,false,fun x=>SA x.1 x.2.1 x.2.2⟩
def NM(n:Nat):Fsp:=⟨143,[shT .expr,shF .str,shF .str],[shT .expr],true,false,fun x=>(yO n) x.1 x.2.1 x.2.2⟩
def kP(a:af)(b:Str)(c:Str):Option (af×Bool):=(iL (aj a)).bind fun d=>bif (!d)then some (af.mk 0 0 [] [],false)else (aZ b).bind fun e=>bif (!e)then some (af.mk 0 0 [] [],false)else (aZ c).bind fun f=>bif (!f)then some (af.mk 0 0 [] [],false)else (iQ (aj a) b c).bind fun g=>bif g then some (af.mk 0 0 [] [],false)else (SA (aj a) b c).bind fun h=>some (aj h,true)
def U8:Fsp:=⟨105,[shT .expr,shF .str,shF .str],[shT .expr,shF .bool],true,false,fun x=>kP x.1 x.2.1 x.2.2⟩
def ag7:Fsp:=⟨231,[shF .int],[shF .str],true,false,fun x=>EH x⟩
def Ar(a:Int):Option (Str):=(EH a).bind fun b=>some (b)
def Y0:Fsp:=⟨182,[shF .int],[shF .str],true,false,fun x=>Ar x⟩
def ag6:Fsp:=⟨259,[slF .str,shF .str],[shF .str],true,false,fun x=>EG x.1 x.2⟩
def abo(a:List Str)(b:Str):Option (Str):=(EG a b).bind fun c=>some (c)
def alP:Fsp:=⟨232,[slF .str,shF .str],[shF .str],true,false,fun x=>abo x.1 x.2⟩
def Jq(a:af):Option (Int):=bif (a.kind==7)then some (0)else bif (a.kind==8)then some (0)else bif (a.kind==9)then some (0)else bif (a.kind==6)then bif (a.n==4)then some (1)else bif (a.n==5)then some (1)else bif (a.n==1)then some (2)else bif (a.n==2)then some (2)else bif (a.n==3)then some (3)else some (4)else some (4)
def aen:Fsp:=⟨184,[shT .expr],[shF .int],true,false,fun x=>Jq x⟩
def Sj(riSource:af->Option (Str))(riSources:(List af)->Option (Str))(riEnclosed:af->Int->Option (Str))(a:af):Option (Str):=bif (a.kind==1)then (Ar a.n).bind fun A=>some (A)else bif (a.kind==2)then (gd ([34].length+a.text.length)).bind fun _=>(gd (([34]++a.text).length+[34].length)).bind fun _=>some (([34]++a.text)++[34])else bif (a.kind==3)then some (a.text)else bif (a.kind==4)then (riSources a.args).bind fun p=>(gd ([91].length+p.length)).bind fun _=>(gd (([91]++p).length+[93].length)).bind fun _=>some (([91]++p)++[93])else bif (a.kind==5)then (gd (a.text.length+[40].length)).bind fun _=>(riSources a.args).bind fun q=>(gd ((a.text++[40]).length+q.length)).bind fun _=>(gd (((a.text++[40])++q).length+[41].length)).bind fun _=>some (((a.text++[40])++q)++[41])else bif (a.kind==7)then (gd ([108,101,116,32].length+a.text.length)).bind fun _=>(gd (([108,101,116,32]++a.text).length+[32,61,32].length)).bind fun _=>(idx a.args 0).bind fun B=>(riSource (aj B)).bind fun o=>(gd ((([108,101,116,32]++a.text)++[32,61,32]).length+o.length)).bind fun _=>(gd (((([108,101,116,32]++a.text)++[32,61,32])++o).length+[32,105,110,32].length)).bind fun _=>(idx a.args 1).bind fun C=>(riSource (aj C)).bind fun z=>(gd ((((([108,101,116,32]++a.text)++[32,61,32])++o)++[32,105,110,32]).length+z.length)).bind fun _=>some ((((([108,101,116,32]++a.text)++[32,61,32])++o)++[32,105,110,32])++z)else bif (a.kind==8)then (idx a.args 0).bind fun D=>(riSource (aj D)).bind fun i=>(gd ([105,102,32].length+i.length)).bind fun _=>(gd (([105,102,32]++i).length+[32,116,104,101,110,32].length)).bind fun _=>(idx a.args 1).bind fun r=>(riSource (aj r)).bind fun d=>(gd ((([105,102,32]++i)++[32,116,104,101,110,32]).length+d.length)).bind fun _=>(gd (((([105,102,32]++i)++[32,116,104,101,110,32])++d).length+[32,101,108,115,101,32].length)).bind fun _=>(idx a.args 2).bind fun s=>(riSource (aj s)).bind fun j=>(gd ((((([105,102,32]++i)++[32,116,104,101,110,32])++d)++[32,101,108,115,101,32]).length+j.length)).bind fun _=>some ((((([105,102,32]++i)++[32,116,104,101,110,32])++d)++[32,101,108,115,101,32])++j)else bif (a.kind==9)then (gd ([102,111,114,32].length+a.text.length)).bind fun _=>(gd (([102,111,114,32]++a.text).length+[32,105,110,32].length)).bind fun _=>(idx a.args 0).bind fun t=>(riSource (aj t)).bind fun e=>(gd ((([102,111,114,32]++a.text)++[32,105,110,32]).length+e.length)).bind fun _=>(gd (((([102,111,114,32]++a.text)++[32,105,110,32])++e).length+[32,100,111,32].length)).bind fun _=>(idx a.args 1).bind fun u=>(riSource (aj u)).bind fun k=>(gd ((((([102,111,114,32]++a.text)++[32,105,110,32])++e)++[32,100,111,32]).length+k.length)).bind fun _=>some ((((([102,111,114,32]++a.text)++[32,105,110,32])++e)++[32,100,111,32])++k)else (Jq (aj a)).bind fun f=>bif (f==1)then (idx a.args 0).bind fun v=>(riEnclosed (aj v) 2).bind fun b=>(gd (b.length+[32].length)).bind fun _=>(uG a.n).bind fun g=>(gd ((b++[32]).length+g.length)).bind fun _=>(gd (((b++[32])++g).length+[32].length)).bind fun _=>(idx a.args 1).bind fun w=>(riEnclosed (aj w) (w64 (f+1))).bind fun l=>(gd ((((b++[32])++g)++[32]).length+l.length)).bind fun _=>some ((((b++[32])++g)++[32])++l)else (idx a.args 0).bind fun x=>(riEnclosed (aj x) f).bind fun c=>(gd (c.length+[32].length)).bind fun _=>(uG a.n).bind fun h=>(gd ((c++[32]).length+h.length)).bind fun _=>(gd (((c++[32])++h).length+[32].length)).bind fun _=>(idx a.args 1).bind fun y=>(riEnclosed (aj y) (w64 (f+1))).bind fun m=>(gd ((((c++[32])++h)++[32]).length+m.length)).bind fun _=>
 some ((((c++[32])++h)++[32])++m)
def Lh(riSource:af->Option (Str))(riSources:(List af)->Option (Str))(riEnclosed:af->Int->Option (Str))(a:List af):Option (Str):=aA (fun(⟨f,g,h,i⟩:(List Str)×(List af)×Int×Int)=>bif (decide (i<h))then (idx g i).bind fun d=>(riSource (aj d)).bind fun c=>(gd (f.length+([c]:List Str).length)).bind fun _=>some (.inl (f++([c]:List Str),g,h,w64 (i+1)))else ((abo f [44,32]).bind fun e=>some (e)).bind fun r=>some (.inr r)) ([],a,(a.length:Int),0)
def GY(riSource:af->Option (Str))(riSources:(List af)->Option (Str))(riEnclosed:af->Int->Option (Str))(a:af)(b:Int):Option (Str):=(riSource (aj a)).bind fun c=>(Jq (aj a)).bind fun d=>bif (decide (d<b))then (gd ([40].length+c.length)).bind fun _=>(gd (([40]++c).length+[41].length)).bind fun _=>some (([40]++c)++[41])else some (c)
def dL:Nat->(af->Option (Str))×((List af)->Option (Str))×(af->Int->Option (Str))
 | 0=>(fun _=>none,fun _=>none,fun _ _=>none)
 | n+1=>(Sj (dL n).1 (dL n).2.1 (dL n).2.2,Lh (dL n).1 (dL n).2.1 (dL n).2.2,GY (dL n).1 (dL n).2.1 (dL n).2.2)
def YE(a:af):Option (Str):=(dL (siz a+1)).1 a
def ahk:Fsp:=⟨144,[shT .expr],[shF .str],true,false,fun x=>YE x⟩
def Si(n:Nat):Fsp:=⟨144,[shT .expr],[shF .str],true,false,fun x=>(dL n).1 x⟩
def ajB(a:List af):Option (Str):=(dL (siz a+1)).2.1 a
def aee:Fsp:=⟨183,[slF .expr],[shF .str],true,false,fun x=>ajB x⟩
def NK(n:Nat):Fsp:=⟨183,[slF .expr],[shF .str],true,false,fun x=>(dL n).2.1 x⟩
def aho(a:af)(b:Int):Option (Str):=(dL (siz a+1)).2.2 a b
def abu:Fsp:=⟨185,[shT .expr,shF .int],[shF .str],true,false,fun x=>aho x.1 x.2⟩
def Jz(n:Nat):Fsp:=⟨185,[shT .expr,shF .int],[shF .str],true,false,fun x=>(dL n).2.2 x.1 x.2⟩
def jQ(a:af):Option (Str):=(iL (aj a)).bind fun b=>bif (!b)then some ([])else (YE (aj a)).bind fun c=>some (c)
def Vp:Fsp:=⟨106,[shT .expr],[shF .str],true,false,fun x=>jQ x⟩
def gX(a:Str)(b:Str)(c:Str):Option (Str):=(qO a).bind fun d=>bif (decide (d.2>=0))then some (a)else (oM (aj d.1)).bind fun g=>(jP g b).bind fun h=>bif (decide (h<0))then some (a)else (kP (aj d.1) b c).bind fun e=>(jQ (aj e.1)).bind fun f=>bif e.2 then bif (decide ((f.length:Int)<=120))then some (f)else some (a)else some (a)
def Tn:Fsp:=⟨70,[shF .str,shF .str,shF .str],[shF .str],true,false,fun x=>gX x.1 x.2.1 x.2.2⟩
def Az(a:dR)(b:List GOp):Option (dR):=aA (fun(⟨i,j,k,l,m,o,p,q,r,s,t,u,v,w,x,y,z,A,B⟩:Int×Int×Int×Int×Int×Str×Str×Int×Int×Int×Int×Int×Int×Str×Str×Int×(List GOp)×Int×Int)=>bif (decide (B<A))then (idx z B).bind fun d=>bif (o==d.src)then bif (i==4)then (gX p d.src d.dst).bind fun e=>some (.inl (i,j,k,l,m,d.dst,e,q,r,s,t,u,v,w,x,y,z,A,w64 (B+1)))else bif (i==1)then bif (m==2)then (gX p d.src d.dst).bind fun f=>some (.inl (i,j,k,l,m,d.dst,f,q,r,s,t,u,v,w,x,y,z,A,w64 (B+1)))else some (.inl (i,j,k,l,m,d.dst,p,q,r,s,t,u,v,w,x,y,z,A,w64 (B+1)))else some (.inl (i,j,k,l,m,d.dst,p,q,r,s,t,u,v,w,x,y,z,A,w64 (B+1)))else bif (i==4)then (gX p d.src d.dst).bind fun g=>some (.inl (i,j,k,l,m,o,g,q,r,s,t,u,v,w,x,y,z,A,w64 (B+1)))else bif (i==1)then bif (m==2)then (gX p d.src d.dst).bind fun h=>some (.inl (i,j,k,l,m,o,h,q,r,s,t,u,v,w,x,y,z,A,w64 (B+1)))else some (.inl (i,j,k,l,m,o,p,q,r,s,t,u,v,w,x,y,z,A,w64 (B+1)))else some (.inl (i,j,k,l,m,o,p,q,r,s,t,u,v,w,x,y,z,A,w64 (B+1)))
  else
   some (.inr (dR.mk i j (ah.mk k l m o p q)))
 ) (a.kind,a.pos,a.cell.id,a.cell.version,a.cell.kind,a.cell.name,a.cell.code,a.cell.n,0,0,0,0,0,[],[],0,b,(b.length:Int),0)
def Zd:Fsp:=⟨36,[shT .edit,slF .op],[shT .edit],true,false,fun x=>Az x.1 x.2⟩
def jl(a:GOp):Option (Int):=some (w64 ((w64 (a.time*3))+a.by_))
def Oo:Fsp:=⟨37,[shT .op],[shF .int],true,false,fun x=>jl x⟩
def Ap(a:Int):Option (aQ):=some (aQ.mk 1 a 0 [] [] [] [])
def SH:Fsp:=⟨186,[shF .int],[shT .val],true,false,fun x=>Ap x⟩
def mG(a:Int):Option (aQ):=some (aQ.mk 6 a 0 [] [] [] [])
def Vq:Fsp:=⟨187,[shF .int],[shT .val],true,false,fun x=>mG x⟩
def ad3:Fsp:=⟨233,[shF .str,shF .str],[slF .str],true,false,fun x=>lm x.1 x.2⟩
def mD(a:Str)(b:Int):Option ((List Str)):=(lm a (bytesOf [b])).bind fun c=>some (c)
def YD:Fsp:=⟨234,[shF .str,shF .u8],[slF .str],true,false,fun x=>mD x.1 x.2⟩
def yV(a:Str)(b:Int):Option ((List Int)×Bool):=(mD a 32).bind fun e=>aA (fun(⟨g,h,i,j,k⟩:Int×(List Int)×(List Str)×Int×Int)=>bif (decide (k<j))then (idx i k).bind fun _=>(i[k.toNat]?).bind fun f=>(nH f (-1000000000) 1000000000).bind fun d=>bif (!d.2)then some (.inr ([],false))else (gd (h.length+[d.1].length)).bind fun _=>some (.inl (g,h++[d.1],i,j,w64 (k+1)))else some (.inr (h,((h.length:Int)==g)))) (b,[],e,(e.length:Int),0)
def aev:Fsp:=⟨235,[shF .str,shF .int],[slF .int,shF .bool],true,false,fun x=>yV x.1 x.2⟩
def tV(a:List Str):Option (Bool):=aA (fun(⟨e,f,g,h⟩:(List Str)×(List Str)×Int×Int)=>bif (decide (h<g))then (idx f h).bind fun c=>(jP e c).bind fun d=>bif (d != h)then some (.inr (false))else some (.inl (e,f,g,w64 (h+1)))else some (.inr (true))) (a,a,(a.length:Int),0)
def Tm:Fsp:=⟨264,[slF .str],[shF .bool],true,false,fun x=>tV x⟩
def su(a:List Str):Option (Bool):=aA (fun(⟨g,h,i,j⟩:(List Str)×(List Str)×Int×Int)=>bif (decide (j<i))then (idx h j).bind fun c=>(aZ c).bind fun d=>bif (!d)then some (.inr (false))else some (.inl (g,h,i,w64 (j+1)))else ((iU (g.length:Int) 1 4).bind fun e=>bif e then (tV g).bind fun f=>some (f)else some (false)).bind fun r=>some (.inr r)) (a,a,(a.length:Int),0)
def Vx:Fsp:=⟨237,[slF .str],[shF .bool],true,false,fun x=>su x⟩
def EL(a:Int):Option (Bool):=(iU a (-1000000000) 1000000000).bind fun b=>some (b)
def abq:Fsp:=⟨261,[shF .int],[shF .bool],true,false,fun x=>EL x⟩
def FI(a:dN)(b:dN):Option (Bool):=bif (decide (a.cell<b.cell))then some (true)else bif (a.cell==b.cell)then some ((decide (a.row<b.row)))else some (false)
def Ov:Fsp:=⟨294,[shT .origin,shT .origin],[shF .bool],true,false,fun x=>FI x.1 x.2⟩
def DF(a:aQ):Option (Bool):=(su a.columns).bind fun h=>bif (!h)then some (false)else bif (decide ((a.rows.length:Int)>12))then some (false)else aA (fun(⟨l,m,o,p,q,s,t,u,v,w⟩:Int×Int×Int×Str×(List aQ)×(List Str)×(List cO)×(List cO)×Int×Int)=>bif (decide (w<v))then (idx u w).bind fun e=>bif ((e.cells.length:Int) != (s.length:Int))then some (.inr (false))else aA (fun(⟨d,x,y,z,A,B,C,D,E,F,G,H,I,J,K⟩:Int×Int×Int×Str×(List aQ)×(List Str)×(List cO)×(List Int)×(List dN)×(List cO)×Int×Int×(List Int)×Int×Int)=>bif (decide (K<J))then (idx I K).bind fun i=>(EL i).bind fun j=>bif (!j)then (some (.inr (false))).bind fun r=>some (.inr r)else some (.inl (d,x,y,z,A,B,C,D,E,F,G,H,I,J,w64 (K+1)))else (aA (fun(⟨c,L,M,N,O,P,Q,R,S,T,U,V,W,X,Y⟩:Int×Int×Int×Str×(List aQ)×(List Str)×(List cO)×(List Int)×(List dN)×(List cO)×Int×Int×(List dN)×Int×Int)=>bif (decide (Y<X))then (idx W Y).bind fun f=>bif (decide (f.cell<0))then (some (.inr (false))).bind fun r=>some (.inr r)else bif (decide (f.row<0))then (some (.inr (false))).bind fun r=>some (.inr r)else bif (decide (Y>0))then (idx S (w64 (Y-1))).bind fun k=>(FI k f).bind fun g=>bif (!g)then (some (.inr (false))).bind fun r=>some (.inr r)else some (.inl (c,L,M,N,O,P,Q,R,S,T,U,V,W,X,w64 (Y+1)))else some (.inl (c,L,M,N,O,P,Q,R,S,T,U,V,W,X,w64 (Y+1)))else some (.inr (.inl (c,L,M,N,O,P,Q,T,U,w64 (V+1))))) (d,x,y,z,A,B,C,D,E,F,G,H,E,(E.length:Int),0)).bind fun r=>some (.inr r)) (l,m,o,p,q,s,t,e.cells,e.orig,u,v,w,e.cells,(e.cells.length:Int),0)else some (.inr (true))) (a.kind,a.n,a.step,a.text,a.list,a.columns,a.rows,a.rows,(a.rows.length:Int),0)
def aep:Fsp:=⟨262,[shT .val],[shF .bool],true,false,fun x=>DF x⟩
def kJ(a:aQ):Option (Bool):=bif ((a.columns.length:Int)==0)then bif (a.n==0)then bif (a.step==0)then bif (a.text==[])then (DF (aQ.mk 5 a.n a.step a.text [] a.columns a.rows)).bind fun b=>some (b)else some (false)else some (false)else some (false)else bif (a.n==0)then bif (a.step==0)then bif (a.text==[])then (DF (aQ.mk 5 a.n a.step a.text [] a.columns a.rows)).bind fun c=>some (c)else some (false)else some (false)else some (false)
def qW(a:aQ):Option (Bool):=bif (a.kind==5)&&a.list.isEmpty then kJ a else none
def iZ:Fsp:=⟨236,[shT .val],[shF .bool],true,false,fun x=>qW x⟩
def oL(a:Str):Option (aQ×Bool):=(lm a [59,32]).bind fun c=>(idx c 0).bind fun _=>(c[0]?).bind fun f=>(mD f 32).bind fun g=>(eff.cutL c (some 1) none).bind fun e=>aA (fun(⟨j,k,l,m,n,o,p,q,s,t,u,v,w,x,y,z,A⟩:Int×Int×Int×Str×(List aQ)×(List Str)×(List cO)×Int×Int×Int×Str×(List aQ)×(List Str)×(List cO)×(List Str)×Int×Int)=>bif (decide (A<z))then (idx y A).bind fun h=>(yV h (w.length:Int)).bind fun d=>bif (!d.2)then some (.inr (aQ.mk 0 0 0 [] [] [] [],false))else (gd (x.length+([cO.mk d.1 []]).length)).bind fun _=>some (.inl (j,k,l,m,n,o,p,q,s,t,u,v,w,x++([cO.mk d.1 []]),y,z,w64 (A+1)))else ((qW (aQ.mk q s t u v w x)).bind fun i=>bif (!i)then some (aQ.mk 0 0 0 [] [] [] [],false)else some (aQ.mk q s t u v w x,true)).bind fun r=>some (.inr r)) (0,0,0,[],[],[],[],5,0,0,[],[],g,[],e,(e.length:Int),0)
def YS:Fsp:=⟨188,[shF .str],[shT .val,shF .bool],true,false,fun x=>oL x⟩
def Au(a:Str):Option (Int):=(oL a).bind fun g=>bif g.2 then some ((-1))else (lm a [59,32]).bind fun c=>(idx c 0).bind fun _=>(c[0]?).bind fun h=>(mD h 32).bind fun e=>(su e).bind fun i=>bif (!i)then some (0)else (eff.cutL c (some 1) none).bind fun f=>aA (fun(⟨k,l,m,n⟩:(List Str)×(List Str)×Int×Int)=>bif (decide (n<m))then (idx l n).bind fun j=>(yV j (k.length:Int)).bind fun d=>bif (!d.2)then some (.inr (w64 (n+1)))else bif (decide (n>=12))then some (.inr (w64 (n+1)))else some (.inl (k,l,m,w64 (n+1)))else some (.inr ((-1)))) (e,f,(f.length:Int),0)
def Y4:Fsp:=⟨189,[shF .str],[shF .int],true,false,fun x=>Au x⟩
def tK(a:Int)(b:aQ):Option (aQ):=bif (b.kind != 5)then (mG 4).bind fun e=>some (dG e)else (qW (dG b)).bind fun f=>bif (!f)then (mG 4).bind fun g=>some (dG g)else bif (decide (a<0))then (mG 4).bind fun h=>some (dG h)else (oN (dG b)).bind fun d=>aA (fun(⟨j,k,l,m,o,p,q,r,s,t,u,v,w,x,y,z,A⟩:Int×Int×Int×Int×Str×(List aQ)×(List Str)×(List cO)×Int×Int×Int×Str×(List aQ)×(List Str)×(List cO)×Int×Int)=>bif (decide (A<z))then (idx y A).bind fun _=>(y[A.toNat]?).bind fun i=>some (.inl (j,k,l,m,o,p,q,r,s,t,u,v,w,x,y.set A.toNat (cO.mk i.cells [dN.mk j A]),z,w64 (A+1)))else some (.inr (aQ.mk s t u v w x y))) (a,0,0,0,[],[],[],[],d.kind,d.n,d.step,d.text,d.list,d.columns,d.rows,(d.rows.length:Int),0)
def RZ:Fsp:=⟨190,[shF .int,shT .val],[shT .val],true,false,fun x=>tK x.1 x.2⟩
def ng(a:ah):Option (bF):=(bH a).bind fun d=>bif (!d)then some (bF.mk 0 [] (af.mk 0 0 [] []) (aQ.mk 0 0 0 [] [] [] []) 0)else bif (a.kind==1)then some (bF.mk 1 [] (af.mk 0 0 [] []) (aQ.mk 0 0 0 [] [] [] []) 0)else bif (a.kind==3)then (Ap a.n).bind fun e=>some (bF.mk 3 a.name (af.mk 0 0 [] []) (dG e) 0)else bif (a.kind==2)then (qO a.code).bind fun b=>bif (decide (b.2>=0))then (mG 8).bind fun f=>some (bF.mk 4 a.name (af.mk 0 0 [] []) (dG f) b.2)else some (bF.mk 2 a.name (aj b.1) (aQ.mk 0 0 0 [] [] [] []) 0)else (oL a.code).bind fun c=>bif (!c.2)then (mG 8).bind fun g=>(Au a.code).bind fun h=>some (bF.mk 4 a.name (af.mk 0 0 [] []) (dG g) h)else (tK a.id (dG c.1)).bind fun i=>some (bF.mk 3 a.name (af.mk 0 0 [] []) (dG i) 0)
def Tj:Fsp:=⟨145,[shT .cell],[shT .part],false,false,fun x=>ng x⟩
def mJ(a:ak):Option ((List bF)):=(gy a).bind fun d=>bif (!d)then some ([])else aA (fun(⟨f,g,h,i⟩:(List bF)×(List ah)×Int×Int)=>bif (decide (i<h))then (idx g i).bind fun e=>(ng e).bind fun c=>(gd (f.length+[lC c].length)).bind fun _=>some (.inl (f++[lC c],g,h,w64 (i+1)))else some (.inr (f))) ([],a.cells,(a.cells.length:Int),0)
def Vw:Fsp:=⟨107,[shT .notebook],[slF .part],false,true,fun x=>mJ x⟩
def uH(a:List bF)(b:Str):Option ((List Int)):=aA (fun(⟨e,f,g,h,i⟩:Str×(List Int)×(List bF)×Int×Int)=>bif (decide (i<h))then (idx g i).bind fun d=>bif (d.kind != 1)then bif (d.name==e)then (gd (f.length+[i].length)).bind fun _=>some (.inl (e,f++[i],g,h,w64 (i+1)))else some (.inl (e,f,g,h,w64 (i+1)))else some (.inl (e,f,g,h,w64 (i+1)))else some (.inr (f))) (b,[],a,(a.length:Int),0)
def abv:Fsp:=⟨110,[slF .part,shF .str],[slF .int],true,false,fun x=>uH x.1 x.2⟩
def Dl(a:List bF)(b:Str):Option (Int):=(uH a b).bind fun c=>bif ((c.length:Int)==0)then some ((-1))else bif ((c.length:Int)==1)then (idx c 0).bind fun _=>(c[0]?).bind fun d=>some (d)else some ((-2))
def aeh:Fsp:=⟨109,[slF .part,shF .str],[shF .int],true,false,fun x=>Dl x.1 x.2⟩
def tJ(a:bF):Option ((List Str)):=bif (a.kind != 2)then some ([])else (oM (aj a.expr)).bind fun b=>some (b)
def ahf:Fsp:=⟨111,[shT .part],[slF .str],true,false,fun x=>tJ x⟩
def oK(a:ak)(b:Str)(c:Str)(d:Bool):Option (ak×Int):=(mJ a).bind fun o=>(gy a).bind fun C=>bif (!C)then none else (aZ b).bind fun D=>bif (!D)then none else (aZ c).bind fun E=>bif (!E)then none else bif (b==c)then none else (Dl o b).bind fun B=>bif (decide (B<0))then none else (uH o c).bind fun F=>aA (fun(⟨H,I,J,K,L,M,N,O,P,Q,R,S⟩:Str×Str×Bool×(List ah)×(List ah)×(List bF)×Int×Bool×Bool×(List bF)×Int×Int)=>bif (decide (S<R))then (idx Q S).bind fun p=>bif O then bif P then some (.inl (H,I,J,K,L,M,N,true,true,Q,R,w64 (S+1)))else bif (p.kind==2)then (iQ (aj p.expr) H I).bind fun G=>some (.inl (H,I,J,K,L,M,N,true,G,Q,R,w64 (S+1)))else some (.inl (H,I,J,K,L,M,N,true,false,Q,R,w64 (S+1)))else (tJ (lC p)).bind fun s=>(jP s I).bind fun l=>bif P then some (.inl (H,I,J,K,L,M,N,(decide (l>=0)),true,Q,R,w64 (S+1)))else bif (p.kind==2)then (iQ (aj p.expr) H I).bind fun t=>some (.inl (H,I,J,K,L,M,N,(decide (l>=0)),t,Q,R,w64 (S+1)))else some (.inl (H,I,J,K,L,M,N,(decide (l>=0)),false,Q,R,w64 (S+1)))else (bif O then none else bif P then none else (bY (ak.mk K)).bind fun m=>(idx m.cells N).bind fun _=>(m.cells[N.toNat]?).bind fun i=>aA (fun(⟨g,T,U,V,W,X,Y,Z,aa,ac⟩:Str×Str×Bool×(List ah)×(List ah)×(List ah)×Bool×(List bF)×Int×Int)=>bif (decide (ac<aa))then (idx Z ac).bind fun q=>(tJ (lC q)).bind fun u=>(jP u g).bind fun v=>bif (decide (v<0))then some (.inl (g,T,U,V,W,X,Y,Z,aa,w64 (ac+1)))else (kP (aj q.expr) g T).bind fun w=>(jQ (aj w.1)).bind fun h=>(idx X ac).bind fun _=>(X[ac.toNat]?).bind fun f=>(idx (X.set ac.toNat (ah.mk f.id f.version f.kind f.name h f.n)) ac).bind fun _=>((X.set ac.toNat (ah.mk f.id f.version f.kind f.name h f.n))[ac.toNat]?).bind fun x=>bif (decide ((x.code.length:Int)>120))then none else bif U then bif Y then (idx (X.set ac.toNat (ah.mk f.id f.version f.kind f.name h f.n)) ac).bind fun _=>((X.set ac.toNat (ah.mk f.id f.version f.kind f.name h f.n))[ac.toNat]?).bind fun y=>(idx (X.set ac.toNat (ah.mk f.id f.version f.kind f.name h f.n)) ac).bind fun _=>((X.set ac.toNat (ah.mk f.id f.version f.kind f.name h f.n))[ac.toNat]?).bind fun j=>some (.inl (g,T,U,V,W,(X.set ac.toNat (ah.mk f.id f.version f.kind f.name h f.n)).set ac.toNat (ah.mk j.id (w64 (y.version+1)) j.kind j.name j.code j.n),true,Z,aa,w64 (ac+1)))
      else
       (idx (X.set ac.toNat (ah.mk f.id f.version f.kind f.name h f.n)) ac).bind fun _=>
       ((X.set ac.toNat (ah.mk f.id f.version f.kind f.name h f.n))[ac.toNat]?).bind fun z=>
       (idx (X.set ac.toNat (ah.mk f.id f.version f.kind f.name h f.n)) ac).bind fun _=>
       ((X.set ac.toNat (ah.mk f.id f.version f.kind f.name h f.n))[ac.toNat]?).bind fun A=>
       (idx (X.set ac.toNat (ah.mk f.id f.version f.kind f.name h f.n)) ac).bind fun _=>
       ((X.set ac.toNat (ah.mk f.id f.version f.kind f.name h f.n))[ac.toNat]?).bind fun k=>
       some (.inl (g,T,U,V,W,(X.set ac.toNat (ah.mk f.id f.version f.kind f.name h f.n)).set ac.toNat (ah.mk k.id (w64 (A.version+1)) k.kind k.name k.code k.n),(decide (z.version>=999)),Z,aa,w64 (ac+1)))
     else
      some (.inl (g,T,U,V,W,X.set ac.toNat (ah.mk f.id f.version f.kind f.name h f.n),Y,Z,aa,w64 (ac+1)))
    else
     (
      bif Y then
       none
      else
       some (ak.mk X,0)
     ).bind fun r=>some (.inr r)
   ) (H,I,J,K,L,m.cells.set N.toNat (ah.mk i.id i.version i.kind I i.code i.n),false,M,(M.length:Int),0)
  ).bind fun r=>some (.inr r)
 ) (b,c,d,a.cells,[],o,B,(decide ((F.length:Int)>0)),false,o,(o.length:Int),0)
def YM:Fsp:=⟨71,[shT .notebook,shF .str,shF .str,shF .bool],[shT .notebook,shF .int],true,false,fun x=>oK x.1 x.2.1 x.2.2.1 x.2.2.2⟩
def qN(a:ak)(b:Str)(c:Str)(d:Bool):Option (ak×Int):=(mJ a).bind fun o=>(gy a).bind fun C=>bif (!C)then some (a,1)else (aZ b).bind fun D=>bif (!D)then some (a,1)else (aZ c).bind fun E=>bif (!E)then some (a,1)else bif (b==c)then some (a,1)else (Dl o b).bind fun B=>bif (decide (B<0))then some (a,2)else (uH o c).bind fun F=>aA (fun(⟨H,I,J,K,L,M,N,O,P,Q,R,S⟩:Str×Str×Bool×(List ah)×(List ah)×(List bF)×Int×Bool×Bool×(List bF)×Int×Int)=>bif (decide (S<R))then (idx Q S).bind fun p=>bif O then bif P then some (.inl (H,I,J,K,L,M,N,true,true,Q,R,w64 (S+1)))else bif (p.kind==2)then (iQ (aj p.expr) H I).bind fun G=>some (.inl (H,I,J,K,L,M,N,true,G,Q,R,w64 (S+1)))else some (.inl (H,I,J,K,L,M,N,true,false,Q,R,w64 (S+1)))else (tJ (lC p)).bind fun s=>(jP s I).bind fun l=>bif P then some (.inl (H,I,J,K,L,M,N,(decide (l>=0)),true,Q,R,w64 (S+1)))else bif (p.kind==2)then (iQ (aj p.expr) H I).bind fun t=>some (.inl (H,I,J,K,L,M,N,(decide (l>=0)),t,Q,R,w64 (S+1)))else some (.inl (H,I,J,K,L,M,N,(decide (l>=0)),false,Q,R,w64 (S+1)))else (bif O then some (ak.mk K,3)else bif P then some (ak.mk K,4)else (bY (ak.mk K)).bind fun m=>(idx m.cells N).bind fun _=>(m.cells[N.toNat]?).bind fun i=>aA (fun(⟨g,T,U,V,W,X,Y,Z,aa,ac⟩:Str×Str×Bool×(List ah)×(List ah)×(List ah)×Bool×(List bF)×Int×Int)=>bif (decide (ac<aa))then (idx Z ac).bind fun q=>(tJ (lC q)).bind fun u=>(jP u g).bind fun v=>bif (decide (v<0))then some (.inl (g,T,U,V,W,X,Y,Z,aa,w64 (ac+1)))else (kP (aj q.expr) g T).bind fun w=>(jQ (aj w.1)).bind fun h=>(idx X ac).bind fun _=>(X[ac.toNat]?).bind fun f=>(idx (X.set ac.toNat (ah.mk f.id f.version f.kind f.name h f.n)) ac).bind fun _=>((X.set ac.toNat (ah.mk f.id f.version f.kind f.name h f.n))[ac.toNat]?).bind fun x=>bif (decide ((x.code.length:Int)>120))then some (.inr (ak.mk V,5))else bif U then bif Y then (idx (X.set ac.toNat (ah.mk f.id f.version f.kind f.name h f.n)) ac).bind fun _=>((X.set ac.toNat (ah.mk f.id f.version f.kind f.name h f.n))[ac.toNat]?).bind fun y=>(idx (X.set ac.toNat (ah.mk f.id f.version f.kind f.name h f.n)) ac).bind fun _=>((X.set ac.toNat (ah.mk f.id f.version f.kind f.name h f.n))[ac.toNat]?).bind fun j=>some (.inl (g,T,U,V,W,(X.set ac.toNat (ah.mk f.id f.version f.kind f.name h f.n)).set ac.toNat (ah.mk j.id (w64 (y.version+1)) j.kind j.name j.code j.n),true,Z,aa,w64 (ac+1)))
      else
       (idx (X.set ac.toNat (ah.mk f.id f.version f.kind f.name h f.n)) ac).bind fun _=>
       ((X.set ac.toNat (ah.mk f.id f.version f.kind f.name h f.n))[ac.toNat]?).bind fun z=>
       (idx (X.set ac.toNat (ah.mk f.id f.version f.kind f.name h f.n)) ac).bind fun _=>
       ((X.set ac.toNat (ah.mk f.id f.version f.kind f.name h f.n))[ac.toNat]?).bind fun A=>
       (idx (X.set ac.toNat (ah.mk f.id f.version f.kind f.name h f.n)) ac).bind fun _=>
       ((X.set ac.toNat (ah.mk f.id f.version f.kind f.name h f.n))[ac.toNat]?).bind fun k=>
       some (.inl (g,T,U,V,W,(X.set ac.toNat (ah.mk f.id f.version f.kind f.name h f.n)).set ac.toNat (ah.mk k.id (w64 (A.version+1)) k.kind k.name k.code k.n),(decide (z.version>=999)),Z,aa,w64 (ac+1)))
     else
      some (.inl (g,T,U,V,W,X.set ac.toNat (ah.mk f.id f.version f.kind f.name h f.n),Y,Z,aa,w64 (ac+1)))
    else
     (
      bif Y then
       some (ak.mk V,6)
      else
       some (ak.mk X,0)
     ).bind fun r=>some (.inr r)
   ) (H,I,J,K,L,m.cells.set N.toNat (ah.mk i.id i.version i.kind I i.code i.n),false,M,(M.length:Int),0)
  ).bind fun r=>some (.inr r)
 ) (b,c,d,a.cells,[],o,B,(decide ((F.length:Int)>0)),false,o,(o.length:Int),0)
def abh:Fsp:=⟨71,[shT .notebook,shF .str,shF .str,shF .bool],[shT .notebook,shF .int],false,false,fun x=>qN x.1 x.2.1 x.2.2.1 x.2.2.2⟩
def kV(a:ak)(b:Str)(c:Str):Option (ak×Bool):=(bY a).bind fun i=>aA (fun(⟨k,l,m,o,p,q,s⟩:Str×Str×(List ah)×(List ah)×(List ah)×Int×Int)=>bif (decide (s<q))then (idx p s).bind fun _=>(p[s.toNat]?).bind fun f=>some (.inl (k,l,m,o,p.set s.toNat (ah.mk f.id 1 f.kind f.name f.code f.n),q,w64 (s+1)))else ((oK (ak.mk p) k l false).bind fun h=>bif (h.2 != 0)then none else aA (fun(⟨d,t,u,v,w⟩:(List ah)×(List ah)×(List ah)×Int×Int)=>bif (decide (w<v))then (idx d w).bind fun j=>(idx u w).bind fun _=>(u[w.toNat]?).bind fun g=>some (.inl (d,t,u.set w.toNat (ah.mk g.id j.version g.kind g.name g.code g.n),v,w64 (w+1)))else some (.inr (ak.mk u,true))) (m,o,h.1.cells,(h.1.cells.length:Int),0)).bind fun r=>some (.inr r)) (b,c,a.cells,[],i.cells,(i.cells.length:Int),0)
def SC:Fsp:=⟨39,[shT .notebook,shF .str,shF .str],[shT .notebook,shF .bool],true,false,fun x=>kV x.1 x.2.1 x.2.2⟩
def pM(a:ak)(b:Str)(c:Str):Option (ak×Bool):=(bY a).bind fun h=>aA (fun(⟨k,l,m,o,p,q,s⟩:Str×Str×(List ah)×(List ah)×(List ah)×Int×Int)=>bif (decide (s<q))then (idx p s).bind fun _=>(p[s.toNat]?).bind fun f=>some (.inl (k,l,m,o,p.set s.toNat (ah.mk f.id 1 f.kind f.name f.code f.n),q,w64 (s+1)))else ((qN (ak.mk p) k l false).bind fun g=>bif (g.2 != 0)then some (ak.mk m,false)else aA (fun(⟨d,_,t,u,v⟩:(List ah)×(List ah)×(List ah)×Int×Int)=>bif (decide (v<u))then (idx d v).bind fun i=>(idx t v).bind fun j=>none else some (.inr (ak.mk t,true))) (m,o,g.1.cells,(g.1.cells.length:Int),0)).bind fun r=>some (.inr r)) (b,c,a.cells,[],h.cells,(h.cells.length:Int),0)
def SB:Fsp:=⟨39,[shT .notebook,shF .str,shF .str],[shT .notebook,shF .bool],false,false,fun x=>pM x.1 x.2.1 x.2.2⟩
def GK(a:List aK)(b:Int)(c:Int):Option (Int):=aA (fun(⟨f,g,h,i,j⟩:Int×Int×(List aK)×Int×Int)=>bif (decide (j<i))then (idx h j).bind fun e=>bif (e.cell==f)then bif (e.version==g)then some (.inr (j))else some (.inl (f,g,h,i,w64 (j+1)))else some (.inl (f,g,h,i,w64 (j+1)))else some (.inr ((-1)))) (b,c,a,(a.length:Int),0)
def YC:Fsp:=⟨73,[slF .tape,shF .int,shF .int],[shF .int],true,false,fun x=>GK x.1 x.2.1 x.2.2⟩
def uF(a:aN)(b:aN):Option (Bool):=bif (a.kind==b.kind)then bif (a.n==b.n)then bif (a.text==b.text)then some ((a.time==b.time))else some (false)else some (false)else some (false)
def abd:Fsp:=⟨82,[shT .read,shT .read],[shF .bool],true,false,fun x=>uF x.1 x.2⟩
def EN(a:List aN)(b:aN):Option (aQ×Bool):=aA (fun(⟨g,h,i,j,k,l,m,o,p,q,r,s,t,u,v,w,x,y,z,A,B⟩:Int×Int×Int×Str×Int×Int×Int×Str×(List aQ)×(List Str)×(List cO)×Int×Int×Int×Str×(List aQ)×(List Str)×(List cO)×(List aN)×Int×Int)=>bif (decide (B<A))then (idx z B).bind fun d=>(uF (lY d) (aN.mk g h i j (aQ.mk k l m o p q r))).bind fun e=>bif e then (oN (dG d.result)).bind fun f=>some (.inr (dG f,true))else some (.inl (g,h,i,j,k,l,m,o,p,q,r,s,t,u,v,w,x,y,z,A,w64 (B+1)))else some (.inr (aQ.mk 0 0 0 [] [] [] [],false))) (b.kind,b.n,b.time,b.text,b.result.kind,b.result.n,b.result.step,b.result.text,b.result.list,b.result.columns,b.result.rows,0,0,0,[],[],[],[],a,(a.length:Int),0)
def abt:Fsp:=⟨114,[slF .read,shT .read],[shT .val,shF .bool],true,false,fun x=>EN x.1 x.2⟩
def rX(a:List aN)(b:List aN):Option ((List aN)):=(oO a).bind fun f=>aA (fun(⟨h,i,j,k⟩:(List aN)×(List aN)×Int×Int)=>bif (decide (k<j))then (idx i k).bind fun d=>(EN h (lY d)).bind fun g=>bif (!g.2)then (oO [lY d]).bind fun e=>(gd (h.length+e.length)).bind fun _=>some (.inl (h++e,i,j,w64 (k+1)))else some (.inl (h,i,j,w64 (k+1)))else some (.inr (h))) (f,b,(b.length:Int),0)
def Vg:Fsp:=⟨74,[slF .read,slF .read],[slF .read],true,false,fun x=>rX x.1 x.2⟩
def Di(a:aK)(b:aK):Option (Bool):=bif (decide (a.cell<b.cell))then some (true)else bif (a.cell==b.cell)then some ((decide (a.version<b.version)))else some (false)
def U3:Fsp:=⟨75,[shT .tape,shT .tape],[shF .bool],true,false,fun x=>Di x.1 x.2⟩
def yP(a:List aK)(b:Int)(c:Int)(d:List aN):Option ((List aK)):=(Aw a).bind fun h=>(GK a b c).bind fun i=>bif (decide (i>=0))then (idx h i).bind fun _=>(h[i.toNat]?).bind fun m=>(rX m.reads d).bind fun n=>(idx h i).bind fun _=>(h[i.toNat]?).bind fun l=>some (h.set i.toNat (aK.mk l.cell l.version n))else bif ((d.length:Int)==0)then some (h)else (rX [] d).bind fun o=>aA (fun(⟨p,q,s,t,u⟩:(List aK)×Int×Int×Int×(List aN))=>bif (decide (q<(p.length:Int)))then (idx p q).bind fun _=>(p[q.toNat]?).bind fun j=>(Di (aK.mk s t u) j).bind fun k=>bif (!k)then some (.inl (p,w64 (q+1),s,t,u))else ((cutAt p q).bind fun f=>((if q=(f:Int)then some ()else none)).bind fun _=>(gd (0+(p.take f).length)).bind fun _=>(gd (([]++(p.take f)).length+[aK.mk s t u].length)).bind fun _=>((if q=(f:Int)then some ()else none)).bind fun _=>(gd ((([]++(p.take f))++[aK.mk s t u]).length+(p.drop f).length)).bind fun _=>some ((([]++(p.take f))++[aK.mk s t u])++(p.drop f))).bind fun r=>some (.inr r)else ((cutAt p q).bind fun g=>((if q=(g:Int)then some ()else none)).bind fun _=>(gd (0+(p.take g).length)).bind fun _=>(gd (([]++(p.take g)).length+[aK.mk s t u].length)).bind fun _=>((if q=(g:Int)then some ()else none)).bind fun _=>(gd ((([]++(p.take g))++[aK.mk s t u]).length+(p.drop g).length)).bind fun _=>some ((([]++(p.take g))++[aK.mk s t u])++(p.drop g))).bind fun r=>some (.inr r)) (h,0,b,c,o)
def aek:Fsp:=⟨41,[slF .tape,shF .int,shF .int,slF .read],[slF .tape],true,false,fun x=>yP x.1 x.2.1 x.2.2.1 x.2.2.2⟩
def jy(a:aB)(b:GOp)(c:List GOp):Option (aB):=(nU a).bind fun d=>bif (b.kind==1)then (Az b.edit c).bind fun q=>(vU a.notebook q).bind fun e=>bif (e.2 != 0)then some (d)else bif (b.edit.kind==1)then (iG e.1 b.edit.cell.id).bind fun l=>(jl b).bind fun r=>(idx e.1.cells l).bind fun _=>(e.1.cells[l.toNat]?).bind fun i=>some (aB.mk (ak.mk (e.1.cells.set l.toNat (ah.mk i.id r i.kind i.name i.code i.n))) d.tapes d.renames)else bif (b.edit.kind==4)then (iG e.1 b.edit.cell.id).bind fun m=>(jl b).bind fun s=>(idx e.1.cells m).bind fun _=>(e.1.cells[m.toNat]?).bind fun f=>some (aB.mk (ak.mk (e.1.cells.set m.toNat (ah.mk f.id s f.kind f.name f.code f.n))) d.tapes d.renames)else bif (b.edit.kind==6)then (iG e.1 b.edit.cell.id).bind fun h=>(jl b).bind fun o=>(idx e.1.cells h).bind fun _=>(e.1.cells[h.toNat]?).bind fun g=>some (aB.mk (ak.mk (e.1.cells.set h.toNat (ah.mk g.id o g.kind g.name g.code g.n))) d.tapes d.renames)else some (aB.mk e.1 d.tapes d.renames)else bif (b.kind==2)then (kV a.notebook b.src b.dst).bind fun j=>bif j.2 then (EO b).bind fun k=>(gd (d.renames.length+[k].length)).bind fun _=>some (aB.mk j.1 d.tapes (d.renames++[k]))else some (d)else bif (b.kind==3)then (yP d.tapes b.cell b.version b.reads).bind fun p=>some (aB.mk d.notebook p d.renames)else some (d)
def YI:Fsp:=⟨14,[shT .document,shT .op,slF .op],[shT .document],true,false,fun x=>jy x.1 x.2.1 x.2.2⟩
def Ak(a:aB)(b:GOp)(c:List GOp):Option (aB):=(nU a).bind fun d=>bif (b.kind==1)then (Az b.edit c).bind fun q=>(vU a.notebook q).bind fun e=>bif (e.2 != 0)then some (d)else bif (b.edit.kind==1)then (iG e.1 b.edit.cell.id).bind fun j=>(jl b).bind fun r=>(idx e.1.cells j).bind fun _=>(e.1.cells[j.toNat]?).bind fun i=>some (aB.mk (ak.mk (e.1.cells.set j.toNat (ah.mk i.id r i.kind i.name i.code i.n))) d.tapes d.renames)else bif (b.edit.kind==4)then (iG e.1 b.edit.cell.id).bind fun k=>(jl b).bind fun s=>(idx e.1.cells k).bind fun _=>(e.1.cells[k.toNat]?).bind fun f=>some (aB.mk (ak.mk (e.1.cells.set k.toNat (ah.mk f.id s f.kind f.name f.code f.n))) d.tapes d.renames)else bif (b.edit.kind==6)then (iG e.1 b.edit.cell.id).bind fun h=>(jl b).bind fun l=>(idx e.1.cells h).bind fun _=>(e.1.cells[h.toNat]?).bind fun g=>some (aB.mk (ak.mk (e.1.cells.set h.toNat (ah.mk g.id l g.kind g.name g.code g.n))) d.tapes d.renames)else some (aB.mk e.1 d.tapes d.renames)else bif (b.kind==2)then (pM a.notebook b.src b.dst).bind fun m=>bif m.2 then (EO b).bind fun o=>(gd (d.renames.length+[o].length)).bind fun _=>none else some (d)else bif (b.kind==3)then (yP d.tapes b.cell b.version b.reads).bind fun p=>some (aB.mk d.notebook p d.renames)else some (d)
def YH:Fsp:=⟨14,[shT .document,shT .op,slF .op],[shT .document],true,false,fun x=>Ak x.1 x.2.1 x.2.2⟩
def mZ(a:aB)(b:GOp)(c:List GOp):Option (aB):=(jy a b c).or (Ak a b c)
def abg:Fsp:=⟨14,[shT .document,shT .op,slF .op],[shT .document],true,false,fun x=>mZ x.1 x.2.1 x.2.2⟩
def vO(a:GOp):Option (Bool):=(iU a.time 1 300).bind fun c=>bif (!c)then some (false)else (iU a.by_ 0 2).bind fun d=>bif (!d)then some (false)else bif ((a.seen.length:Int) != 3)then some (false)else aA (fun(⟨g,h,i,j,k,l,m,o,p,q,s,t,u,v,w,x,y,z,A,B⟩:Int×Int×Int×(List Int)×Int×Int×Int×Int×Int×Str×Str×Int×Str×Str×Int×Int×(List aN)×(List Int)×Int×Int)=>bif (decide (B<A))then (idx z B).bind fun e=>(iU e 0 60).bind fun f=>bif (!f)then some (.inr (false))else some (.inl (g,h,i,j,k,l,m,o,p,q,s,t,u,v,w,x,y,z,A,w64 (B+1)))else (bif (u==[])then bif (w==0)then bif (x==0)then bif (i==1)then bif (v==[])then some (((y.length:Int)==0))else some (false)else bif (i==2)then bif ((k==0)&&((l==0)&&((m==0)&&((o==0)&&((p==0)&&((q==[])&&((s==[])&&(t==0))))))))then some (((y.length:Int)==0))else some (false)else bif (i==3)then bif ((k==0)&&((l==0)&&((m==0)&&((o==0)&&((p==0)&&((q==[])&&((s==[])&&(t==0))))))))then some ((v==[]))else some (false)else some (false)else bif (i==1)then bif (v==[])then some (false)else some (false)else bif (i==2)then bif ((k==0)&&((l==0)&&((m==0)&&((o==0)&&((p==0)&&((q==[])&&((s==[])&&(t==0))))))))then some (false)else some (false)else bif (i==3)then bif ((k==0)&&((l==0)&&((m==0)&&((o==0)&&((p==0)&&((q==[])&&((s==[])&&(t==0))))))))then some ((v==[]))else some (false)else some (false)else bif (i==1)then bif (v==[])then some (false)else some (false)else bif (i==2)then bif ((k==0)&&((l==0)&&((m==0)&&((o==0)&&((p==0)&&((q==[])&&((s==[])&&(t==0))))))))then some (false)else some (false)else bif (i==3)then bif ((k==0)&&((l==0)&&((m==0)&&((o==0)&&((p==0)&&((q==[])&&((s==[])&&(t==0))))))))then some ((v==[]))else some (false)else some (false)else bif (w==0)then bif (x==0)then bif (i==1)then some (false)else bif (i==2)then bif ((k==0)&&((l==0)&&((m==0)&&((o==0)&&((p==0)&&((q==[])&&((s==[])&&(t==0))))))))then
       some (((y.length:Int)==0))
      else
       some (false)
     else
      bif (i==3)then
       bif ((k==0)&&((l==0)&&((m==0)&&((o==0)&&((p==0)&&((q==[])&&((s==[])&&(t==0))))))))then
        some (false)
       else
        some (false)
      else
       some (false)
    else
    bif (i==1)then
     some (false)
    else
    bif (i==2)then
     bif ((k==0)&&((l==0)&&((m==0)&&((o==0)&&((p==0)&&((q==[])&&((s==[])&&(t==0))))))))then
      some (false)
     else
      some (false)
    else
     bif (i==3)then
      bif ((k==0)&&((l==0)&&((m==0)&&((o==0)&&((p==0)&&((q==[])&&((s==[])&&(t==0))))))))then
       some (false)
      else
       some (false)
     else
      some (false)
   else
   bif (i==1)then
    some (false)
   else
   bif (i==2)then
    bif ((k==0)&&((l==0)&&((m==0)&&((o==0)&&((p==0)&&((q==[])&&((s==[])&&(t==0))))))))then
     some (false)
    else
     some (false)
   else
    bif (i==3)then
     bif ((k==0)&&((l==0)&&((m==0)&&((o==0)&&((p==0)&&((q==[])&&((s==[])&&(t==0))))))))then
      some (false)
     else
      some (false)
    else
     some (false)
  ).bind fun r=>some (.inr r)
 ) (a.time,a.by_,a.kind,a.seen,a.edit.kind,a.edit.pos,a.edit.cell.id,a.edit.cell.version,a.edit.cell.kind,a.edit.cell.name,a.edit.cell.code,a.edit.cell.n,a.src,a.dst,a.cell,a.version,a.reads,a.seen,(a.seen.length:Int),0)
def YW:Fsp:=⟨46,[shT .op],[shF .bool],true,false,fun x=>vO x⟩
def Lu(a:GOp)(b:GOp):Option (Bool):=bif (decide (a.time<b.time))then some (true)else bif (a.time==b.time)then some ((decide (a.by_<b.by_)))else some (false)
def abm:Fsp:=⟨47,[shT .op,shT .op],[shF .bool],true,false,fun x=>Lu x.1 x.2⟩
def DC(a:List GOp):Option (Bool):=aA (fun(⟨g,h,i,j⟩:(List GOp)×(List GOp)×Int×Int)=>bif (decide (j<i))then (idx h j).bind fun c=>(vO c).bind fun d=>bif (!d)then some (.inr (false))else bif (decide (j>0))then (idx g (w64 (j-1))).bind fun e=>(Lu e c).bind fun f=>bif (!f)then some (.inr (false))else some (.inl (g,h,i,w64 (j+1)))else some (.inl (g,h,i,w64 (j+1)))else some (.inr ((decide ((g.length:Int)<=60))))) (a,a,(a.length:Int),0)
def Vj:Fsp:=⟨19,[slF .op],[shF .bool],true,false,fun x=>DC x⟩
def oJ(a:List GOp):Option (aB):=(DC a).bind fun h=>bif (!h)then some (aB.mk (ak.mk []) [] [])else aA (fun(⟨j,k,l,m,o,p,q,s,t,u,v⟩:(List GOp)×(List ah)×(List aK)×(List GOp)×(List ah)×(List aK)×(List GOp)×(List Int)×(List GOp)×Int×Int)=>bif (decide (v<u))then (idx t v).bind fun d=>aA (fun(⟨c,w,x,y,z,A,B,C,D,E,F,G,H,I,J,K,L,M,N,O,P,Q,R,S,T,U,V,W,X,Y,Z,aa⟩:(List GOp)×(List ah)×(List aK)×(List GOp)×(List ah)×(List aK)×(List GOp)×(List Int)×Int×Int×Int×Int×(List Int)×Int×Int×Int×Int×Int×Str×Str×Int×Str×Str×Int×Int×(List aN)×(List GOp)×(List GOp)×Int×Int×Int×Int)=>bif (decide (aa<Z))then (idx C aa).bind fun _=>(C[aa.toNat]?).bind fun f=>(yU (GOp.mk E F G H (dR.mk I J (ah.mk K L M N O P)) Q R S T U) c f).bind fun i=>bif (!i)then (idx c f).bind fun g=>(gd (V.length+[g].length)).bind fun _=>some (.inl (c,w,x,y,z,A,B,C,D,E,F,G,H,I,J,K,L,M,N,O,P,Q,R,S,T,U,V++[g],W,X,Y,Z,w64 (aa+1)))else some (.inl (c,w,x,y,z,A,B,C,D,E,F,G,H,I,J,K,L,M,N,O,P,Q,R,S,T,U,V,W,X,Y,Z,w64 (aa+1)))
    else
     (
      (mZ (aB.mk (ak.mk z) A B) (GOp.mk E F G H (dR.mk I J (ah.mk K L M N O P)) Q R S T U) V).bind fun e=>
      bif (decide ((e.renames.length:Int)>(B.length:Int)))then
       (gd (C.length+[D].length)).bind fun _=>
       some (.inl (c,w,x,y,e.notebook.cells,e.tapes,e.renames,C++[D],W,X,w64 (Y+1)))
      else
       some (.inl (c,w,x,y,e.notebook.cells,e.tapes,e.renames,C,W,X,w64 (Y+1)))
     ).bind fun r=>some (.inr r)
   ) (j,k,l,m,o,p,q,s,v,d.time,d.by_,d.kind,d.seen,d.edit.kind,d.edit.pos,d.edit.cell.id,d.edit.cell.version,d.edit.cell.kind,d.edit.cell.name,d.edit.cell.code,d.edit.cell.n,d.src,d.dst,d.cell,d.version,d.reads,[],t,u,v,(s.length:Int),0)
  else
   some (.inr (aB.mk (ak.mk o) p q))
 ) (a,[],[],[],[],[],[],[],a,(a.length:Int),0)
def YJ:Fsp:=⟨6,[slF .op],[shT .document],true,false,fun x=>oJ x⟩
def Lj(a:List ah)(b:List ah):Option (Bool):=bif ((a.length:Int) != (b.length:Int))then some (false)else aA (fun(⟨f,g,h,i⟩:(List ah)×(List ah)×Int×Int)=>bif (decide (i<h))then (idx f i).bind fun d=>(idx g i).bind fun e=>bif (!((d.id==e.id)&&((d.version==e.version)&&((d.kind==e.kind)&&((d.name==e.name)&&((d.code==e.code)&&(d.n==e.n)))))))then some (.inr (false))else some (.inl (f,g,h,w64 (i+1)))else some (.inr (true))) (a,b,(a.length:Int),0)
def abf:Fsp:=⟨48,[slF .cell,slF .cell],[shF .bool],true,false,fun x=>Lj x.1 x.2⟩
def pO(a:ak)(b:ak):Option (Bool):=(Lj a.cells b.cells).bind fun c=>some (c)
def LH:Fsp:=⟨20,[shT .notebook,shT .notebook],[shF .bool],true,false,fun x=>pO x.1 x.2⟩
def Dj(a:List Str)(b:List Str):Option (Bool):=bif ((a.length:Int) != (b.length:Int))then some (false)else aA (fun(⟨f,g,h,i⟩:(List Str)×(List Str)×Int×Int)=>bif (decide (i<h))then (idx f i).bind fun d=>(idx g i).bind fun e=>bif (!(d==e))then some (.inr (false))else some (.inl (f,g,h,w64 (i+1)))else some (.inr (true))) (a,b,(a.length:Int),0)
def U6:Fsp:=⟨154,[slF .str,slF .str],[shF .bool],true,false,fun x=>Dj x.1 x.2⟩
def Sv(a:List Int)(b:List Int):Option (Bool):=bif ((a.length:Int) != (b.length:Int))then some (false)else aA (fun(⟨f,g,h,i⟩:(List Int)×(List Int)×Int×Int)=>bif (decide (i<h))then (idx f i).bind fun d=>(idx g i).bind fun e=>bif (d != e)then some (.inr (false))else some (.inl (f,g,h,w64 (i+1)))else some (.inr (true))) (a,b,(a.length:Int),0)
def aeg:Fsp:=⟨155,[slF .int,slF .int],[shF .bool],true,false,fun x=>Sv x.1 x.2⟩
def Dk(a:List dN)(b:List dN):Option (Bool):=bif ((a.length:Int) != (b.length:Int))then some (false)else aA (fun(⟨f,g,h,i⟩:(List dN)×(List dN)×Int×Int)=>bif (decide (i<h))then (idx f i).bind fun d=>(idx g i).bind fun e=>bif (!((d.cell==e.cell)&&(d.row==e.row)))then some (.inr (false))else some (.inl (f,g,h,w64 (i+1)))else some (.inr (true))) (a,b,(a.length:Int),0)
def U7:Fsp:=⟨156,[slF .origin,slF .origin],[shF .bool],true,false,fun x=>Dk x.1 x.2⟩
def Y3(riEqual:aQ->aQ->Bool->Option (Bool))(a:aQ)(b:aQ)(c:Bool):Option (Bool):=bif (a.kind != b.kind)then some (false)else bif (a.n != b.n)then some (false)else bif (a.step != b.step)then some (false)else bif (!(a.text==b.text))then some (false)else (Dj a.columns b.columns).bind fun i=>bif (!i)then some (false)else bif ((a.list.length:Int) != (b.list.length:Int))then some (false)else bif ((a.rows.length:Int) != (b.rows.length:Int))then some (false)else aA (fun(⟨q,s,t,u,v,w,x,y,z,A,B,C,D,E,F,G,H⟩:Bool×Int×Int×Int×Str×(List aQ)×(List Str)×(List cO)×Int×Int×Int×Str×(List aQ)×(List Str)×(List cO)×Int×Int)=>bif (decide (H<G))then (idx w H).bind fun j=>(idx D H).bind fun k=>(riEqual (dG j) (dG k) q).bind fun l=>bif (!l)then some (.inr (false))else some (.inl (q,s,t,u,v,w,x,y,z,A,B,C,D,E,F,G,w64 (H+1)))else (aA (fun(⟨e,I,J,K,L,M,N,O,P,Q,R,S,T,U,V,W,X⟩:Bool×Int×Int×Int×Str×(List aQ)×(List Str)×(List cO)×Int×Int×Int×Str×(List aQ)×(List Str)×(List cO)×Int×Int)=>bif (decide (X<W))then (idx O X).bind fun m=>(idx V X).bind fun o=>(Sv m.cells o.cells).bind fun p=>bif (!p)then some (.inr (false))else bif e then (idx O X).bind fun f=>(idx V X).bind fun g=>(Dk f.orig g.orig).bind fun h=>bif (!h)then some (.inr (false))else some (.inl (e,I,J,K,L,M,N,O,P,Q,R,S,T,U,V,W,w64 (X+1)))else some (.inl (e,I,J,K,L,M,N,O,P,Q,R,S,T,U,V,W,w64 (X+1)))else some (.inr (true))) (q,s,t,u,v,w,x,y,z,A,B,C,D,E,F,(y.length:Int),0)).bind fun r=>some (.inr r)) (c,a.kind,a.n,a.step,a.text,a.list,a.columns,a.rows,b.kind,b.n,b.step,b.text,b.list,b.columns,b.rows,(a.list.length:Int),0)
def Jw:Nat->(aQ->aQ->Bool->Option (Bool))
 | 0=>fun _ _ _=>none
 | n+1=>Y3 (Jw n)
def aeu(a:aQ)(b:aQ)(c:Bool):Option (Bool):=(Jw (siz a+siz b+1)) a b c
def ajF:Fsp:=⟨120,[shT .val,shT .val,shF .bool],[shF .bool],true,false,fun x=>aeu x.1 x.2.1 x.2.2⟩
def Wx(n:Nat):Fsp:=⟨120,[shT .val,shT .val,shF .bool],[shF .bool],true,false,fun x=>(Jw n) x.1 x.2.1 x.2.2⟩
def wZ(a:aQ)(b:aQ):Option (Bool):=(aeu (dG a) (dG b) true).bind fun c=>some (c)
def Vr:Fsp:=⟨83,[shT .val,shT .val],[shF .bool],true,false,fun x=>wZ x.1 x.2⟩
def DK(a:List aN)(b:List aN):Option (Bool):=bif ((a.length:Int) != (b.length:Int))then some (false)else aA (fun(⟨j,k,l,m⟩:(List aN)×(List aN)×Int×Int)=>bif (decide (m<l))then (idx j m).bind fun d=>(idx k m).bind fun e=>(uF (lY d) (lY e)).bind fun f=>bif (!f)then some (.inr (false))else (idx j m).bind fun g=>(idx k m).bind fun h=>(wZ (dG g.result) (dG h.result)).bind fun i=>bif (!i)then some (.inr (false))else some (.inl (j,k,l,w64 (m+1)))else some (.inr (true))) (a,b,(a.length:Int),0)
def Vt:Fsp:=⟨49,[slF .read,slF .read],[shF .bool],true,false,fun x=>DK x.1 x.2⟩
def DJ(a:List aK)(b:List aK):Option (Bool):=bif ((a.length:Int) != (b.length:Int))then some (false)else aA (fun(⟨k,l,m,n⟩:(List aK)×(List aK)×Int×Int)=>bif (decide (n<m))then (idx k n).bind fun d=>(idx l n).bind fun e=>bif (d.cell != e.cell)then some (.inr (false))else (idx k n).bind fun f=>(idx l n).bind fun g=>bif (f.version != g.version)then some (.inr (false))else (idx k n).bind fun h=>(idx l n).bind fun i=>(DK h.reads i.reads).bind fun j=>bif (!j)then some (.inr (false))else some (.inl (k,l,m,w64 (n+1)))else some (.inr (true))) (a,b,(a.length:Int),0)
def Vs:Fsp:=⟨21,[slF .tape,slF .tape],[shF .bool],true,false,fun x=>DJ x.1 x.2⟩
def pR(a:aB)(b:aB):Option (Bool):=(pO a.notebook b.notebook).bind fun c=>bif c then (DJ a.tapes b.tapes).bind fun d=>some (d)else some (false)
def LJ:Fsp:=⟨7,[shT .document,shT .document],[shF .bool],true,false,fun x=>pR x.1 x.2⟩
def PW(a:List Int):Option (Bool):=aA (fun (b:(List Int)×Int)=>bif (decide (b.2<(b.1.length:Int)))then (idx b.1 b.2).bind fun c=>(lS c 0 60).bind fun d=>bif (!d)then some (.inr (false))else some (.inl (b.1,w64 (b.2+1)))else some (.inr (((b.1.length:Int)==3)))) (a,0)
def acS:Fsp:=⟨61,[slF .int],[shF .bool],true,false,fun x=>PW x⟩
def oG(a:GOp):Option (Bool):=(lS a.time 1 300).bind fun b=>bif (!b)then some (false)else (lS a.by_ 0 2).bind fun c=>bif (!c)then some (false)else (PW a.seen).bind fun d=>bif (!d)then some (false)else (lS a.kind 1 3).bind fun e=>bif (!e)then some (false)else bif (a.src==[])then bif (a.cell==0)then bif (a.version==0)then bif (a.kind==1)then bif (a.dst==[])then some (((a.reads.length:Int)==0))else some (false)else bif (a.kind==2)then bif ((a.edit.kind==0)&&((a.edit.pos==0)&&((a.edit.cell.id==0)&&((a.edit.cell.version==0)&&((a.edit.cell.kind==0)&&((a.edit.cell.name==[])&&((a.edit.cell.code==[])&&(a.edit.cell.n==0))))))))then some (((a.reads.length:Int)==0))else some (false)else bif ((a.edit.kind==0)&&((a.edit.pos==0)&&((a.edit.cell.id==0)&&((a.edit.cell.version==0)&&((a.edit.cell.kind==0)&&((a.edit.cell.name==[])&&((a.edit.cell.code==[])&&(a.edit.cell.n==0))))))))then some ((a.dst==[]))else some (false)else bif (a.kind==1)then bif (a.dst==[])then some (false)else some (false)else bif (a.kind==2)then bif ((a.edit.kind==0)&&((a.edit.pos==0)&&((a.edit.cell.id==0)&&((a.edit.cell.version==0)&&((a.edit.cell.kind==0)&&((a.edit.cell.name==[])&&((a.edit.cell.code==[])&&(a.edit.cell.n==0))))))))then some (false)else some (false)else bif ((a.edit.kind==0)&&((a.edit.pos==0)&&((a.edit.cell.id==0)&&((a.edit.cell.version==0)&&((a.edit.cell.kind==0)&&((a.edit.cell.name==[])&&((a.edit.cell.code==[])&&(a.edit.cell.n==0))))))))then some ((a.dst==[]))else some (false)else bif (a.kind==1)then bif (a.dst==[])then some (false)else some (false)else bif (a.kind==2)then bif ((a.edit.kind==0)&&((a.edit.pos==0)&&((a.edit.cell.id==0)&&((a.edit.cell.version==0)&&((a.edit.cell.kind==0)&&((a.edit.cell.name==[])&&((a.edit.cell.code==[])&&(a.edit.cell.n==0))))))))then some (false)else some (false)else bif ((a.edit.kind==0)&&((a.edit.pos==0)&&((a.edit.cell.id==0)&&((a.edit.cell.version==0)&&((a.edit.cell.kind==0)&&((a.edit.cell.name==[])&&((a.edit.cell.code==[])&&(a.edit.cell.n==0))))))))then some ((a.dst==[]))else some (false)else bif (a.cell==0)then bif (a.version==0)then bif (a.kind==1)then some (false)else bif (a.kind==2)then bif ((a.edit.kind==0)&&((a.edit.pos==0)&&((a.edit.cell.id==0)&&((a.edit.cell.version==0)&&((a.edit.cell.kind==0)&&((a.edit.cell.name==[])&&((a.edit.cell.code==[])&&(a.edit.cell.n==0))))))))then some (((a.reads.length:Int)==0))else some (false)else bif ((a.edit.kind==0)&&((a.edit.pos==0)&&((a.edit.cell.id==0)&&((a.edit.cell.version==0)&&((a.edit.cell.kind==0)&&((a.edit.cell.name==[])&&((a.edit.cell.code==[])&&(a.edit.cell.n==0))))))))then some (false)else some (false)else bif (a.kind==1)then some (false)else bif (a.kind==2)then bif ((a.edit.kind==0)&&((a.edit.pos==0)&&((a.edit.cell.id==0)&&((a.edit.cell.version==0)&&((a.edit.cell.kind==0)&&((a.edit.cell.name==[])&&((a.edit.cell.code==[])&&(a.edit.cell.n==0))))))))then some (false)else some (false)else bif ((a.edit.kind==0)&&((a.edit.pos==0)&&((a.edit.cell.id==0)&&((a.edit.cell.version==0)&&((a.edit.cell.kind==0)&&((a.edit.cell.name==[])&&((a.edit.cell.code==[])&&(a.edit.cell.n==0))))))))then some (false)else some (false)else bif (a.kind==1)then some (false)else bif (a.kind==2)then bif ((a.edit.kind==0)&&((a.edit.pos==0)&&((a.edit.cell.id==0)&&((a.edit.cell.version==0)&&((a.edit.cell.kind==0)&&((a.edit.cell.name==[])&&((a.edit.cell.code==[])&&(a.edit.cell.n==0))))))))then some (false)else some (false)else bif ((a.edit.kind==0)&&((a.edit.pos==0)&&((a.edit.cell.id==0)&&((a.edit.cell.version==0)&&((a.edit.cell.kind==0)&&((a.edit.cell.name==[])&&((a.edit.cell.code==[])&&(a.edit.cell.n==0))))))))then
    some (false)
   else
    some (false)
def XW:Fsp:=⟨29,[shT .op],[shF .bool],true,false,fun x=>oG x⟩
def wQ(a:List GOp):Option (Bool):=aA (fun (b:(List GOp)×Int)=>bif (decide (b.2<(b.1.length:Int)))then (idx b.1 b.2).bind fun c=>(oG c).bind fun d=>bif (!d)then some (.inr (false))else bif (decide (b.2>0))then (idx b.1 (w64 (b.2-1))).bind fun e=>(idx b.1 b.2).bind fun f=>(qm e f).bind fun g=>bif (!g)then some (.inr (false))else some (.inl (b.1,w64 (b.2+1)))else some (.inl (b.1,w64 (b.2+1)))else some (.inr ((decide ((b.1.length:Int)<=60))))) (a,0)
def UF:Fsp:=⟨11,[slF .op],[shF .bool],true,false,fun x=>wQ x⟩
def vw(a:GOp)(b:List GOp)(c:Int):Option (Bool):=(lS c 0 (w64 ((b.length:Int)-1))).bind fun d=>bif (!d)then some (false)else (idx b c).bind fun e=>(lS e.by_ 0 (w64 ((a.seen.length:Int)-1))).bind fun f=>bif (!f)then some (false)else (eff.cutL b none (some c)).bind fun g=>(idx b c).bind fun h=>(yx g h.by_).bind fun i=>(idx b c).bind fun j=>(idx a.seen j.by_).bind fun k=>some ((decide (i<k)))
def adC:Fsp:=⟨22,[shT .op,slF .op,shF .int],[shF .bool],true,false,fun x=>vw x.1 x.2.1 x.2.2⟩
def jX(a:ak)(b:Int):Option (Int):=aA (fun(⟨e,f,g⟩:Int×(List ah)×Int)=>bif (decide (g<(f.length:Int)))then (idx f g).bind fun d=>bif (d.id==e)then some (.inr (g))else some (.inl (e,f,w64 (g+1)))else some (.inr ((-1)))) (b,a.cells,0)
def X6:Fsp:=⟨28,[shT .notebook,shF .int],[shF .int],true,false,fun x=>jX x.1 x.2⟩
def jo(a:ak):Option (ak):=(gd (0+a.cells.length)).bind fun _=>some (ak.mk ([]++a.cells))
def ada:Fsp:=⟨84,[shT .notebook],[shT .notebook],true,false,fun x=>jo x⟩
def Ik(a:List aK):Option ((List aK)):=aA (fun(⟨g,h,i⟩:(List aK)×(List aK)×Int)=>bif (decide (i<(g.length:Int)))then (idx g i).bind fun c=>(idx g i).bind fun d=>(idx g i).bind fun f=>(uq f.reads).bind fun e=>(gd (h.length+[aK.mk c.cell d.version e].length)).bind fun _=>some (.inl (g,h++[aK.mk c.cell d.version e],w64 (i+1)))else some (.inr (h))) (a,[],0)
def ac3:Fsp:=⟨85,[slF .tape],[slF .tape],true,false,fun x=>Ik x⟩
def OW(a:List GOp):Option ((List GOp)):=aA (fun(⟨e,f,g⟩:(List GOp)×(List GOp)×Int)=>bif (decide (g<(e.length:Int)))then (idx e g).bind fun d=>(nO d).bind fun c=>(gd (f.length+[c].length)).bind fun _=>some (.inl (e,f++[c],w64 (g+1)))else some (.inr (f))) (a,[],0)
def agp:Fsp:=⟨86,[slF .op],[slF .op],true,false,fun x=>OW x⟩
def Ig(a:aB):Option (aB):=(jo a.notebook).bind fun b=>(Ik a.tapes).bind fun c=>(OW a.renames).bind fun d=>some (aB.mk b c d)
def acQ:Fsp:=⟨52,[shT .document],[shT .document],true,false,fun x=>Ig x⟩
def xU(a:Int):Option (Bool):=bif (decide (a>=97))then some ((decide (a<=122)))else some (false)
def ZU:Fsp:=⟨239,[shF .u8],[shF .bool],true,false,fun x=>xU x⟩
def xW(a:Int):Option (Bool):=bif (decide (a>=48))then some ((decide (a<=57)))else some (false)
def acP:Fsp:=⟨240,[shF .u8],[shF .bool],true,false,fun x=>xW x⟩
def Ep(a:Str)(b:Int):Option (Int×Bool):=bif (decide ((a.length:Int)>0))then (idx a 0).bind fun f=>bif ((f.toNat:Int)==45)then (eff.cutL a (some 1) none).bind fun g=>bif (decide ((g.length:Int)<1))then some (0,false)else bif (decide ((g.length:Int)>b))then some (0,false)else aA (fun(⟨x,y,z,A,B⟩:Str×Bool×Str×Int×Int)=>bif (decide (B<(z.length:Int)))then (idx z B).bind fun s=>bif (decide ((s.toNat:Int)<48))then some (.inr (0,false))else (idx z B).bind fun t=>bif (decide ((t.toNat:Int)>57))then some (.inr (0,false))else (idx z B).bind fun u=>some (.inl (x,y,z,w64 ((w64 (10*A))+(w64 (w8 ((u.toNat:Int)-48)))),w64 (B+1)))else (bif y then (eF (w64 (0-A))).bind fun v=>bif (!(v==x))then some (0,false)else some (w64 (0-A),true)else (eF A).bind fun w=>bif (!(w==x))then some (0,false)else some (A,true)).bind fun r=>some (.inr r)) (a,((f.toNat:Int)==45),g,0,0)else bif (decide ((a.length:Int)<1))then some (0,false)else bif (decide ((a.length:Int)>b))then some (0,false)else aA (fun(⟨d,C,D,E,F⟩:Str×Bool×Str×Int×Int)=>bif (decide (F<(D.length:Int)))then (idx D F).bind fun h=>bif (decide ((h.toNat:Int)<48))then some (.inr (0,false))else (idx D F).bind fun i=>bif (decide ((i.toNat:Int)>57))then some (.inr (0,false))else (idx D F).bind fun j=>some (.inl (d,C,D,w64 ((w64 (10*E))+(w64 (w8 ((j.toNat:Int)-48)))),w64 (F+1)))else (bif C then (eF (w64 (0-E))).bind fun k=>bif (!(k==d))then some (0,false)else some (w64 (0-E),true)else (eF E).bind fun l=>bif (!(l==d))then some (0,false)else some (E,true)).bind fun r=>some (.inr r)) (a,((f.toNat:Int)==45),a,0,0)else bif (decide ((a.length:Int)<1))then some (0,false)else bif (decide ((a.length:Int)>b))then some (0,false)else aA (fun(⟨e,G,H,I,J⟩:Str×Bool×Str×Int×Int)=>bif (decide (J<(H.length:Int)))then (idx H J).bind fun m=>bif (decide ((m.toNat:Int)<48))then some (.inr (0,false))else (idx H J).bind fun n=>bif (decide ((n.toNat:Int)>57))then some (.inr (0,false))else (idx H J).bind fun o=>some (.inl (e,G,H,w64 ((w64 (10*I))+(w64 (w8 ((o.toNat:Int)-48)))),w64 (J+1)))else (bif G then (eF (w64 (0-I))).bind fun p=>bif (!(p==e))then some (0,false)else some (w64 (0-I),true)else (eF I).bind fun q=>bif (!(q==e))then some (0,false)else some (I,true)).bind fun r=>some (.inr r)) (a,false,a,0,0)
def agw:Fsp:=⟨265,[shF .str,shF .int],[shF .int,shF .bool],true,false,fun x=>Ep x.1 x.2⟩
def kF(a:Str):Option (Int×Bool):=(Ep a 12).bind fun b=>some (b.1,b.2)
def ZM:Fsp:=⟨241,[shF .str],[shF .int,shF .bool],true,false,fun x=>kF x⟩
def mP(a:Str)(b:Int):Option (Int):=(idx a b).bind fun c=>bif ((c.toNat:Int)==40)then some (1)else bif ((c.toNat:Int)==41)then some (1)else bif ((c.toNat:Int)==91)then some (1)else bif ((c.toNat:Int)==93)then some (1)else bif ((c.toNat:Int)==44)then some (1)else bif ((c.toNat:Int)==43)then some (1)else bif ((c.toNat:Int)==45)then some (1)else bif ((c.toNat:Int)==42)then some (1)else bif ((c.toNat:Int)==60)then some (1)else bif ((c.toNat:Int)==61)then bif (decide ((w64 (b+1))<(a.length:Int)))then (idx a (w64 (b+1))).bind fun d=>bif ((d.toNat:Int)==61)then some (2)else some (1)else some (1)else some (0)
def ZT:Fsp:=⟨243,[shF .str,shF .int],[shF .int],true,false,fun x=>mP x.1 x.2⟩
def og(a:Str)(b:Int):Option (aJ×Int):=(idx a b).bind fun y=>(xU (y.toNat:Int)).bind fun z=>bif z then aA (fun(⟨E,F,G,H,I,J,K,L,M,N,O⟩:Str×Int×Int×Int×Int×Str×Int×Int×Int×Str×Int)=>bif (decide (O<(E.length:Int)))then (idx E O).bind fun A=>(xU (A.toNat:Int)).bind fun B=>bif B then some (.inl (E,F,G,H,I,J,K,L,M,N,w64 (O+1)))else (idx E O).bind fun C=>(xW (C.toNat:Int)).bind fun D=>bif D then some (.inl (E,F,G,H,I,J,K,L,M,N,w64 (O+1)))else ((eff.cutL E (some F) (some O)).bind fun w=>bif (decide ((w64 (O-F))>8))then some (aJ.mk 1 L M w,0)else some (aJ.mk 1 L M w,w64 (O-F))).bind fun r=>some (.inr r)else ((eff.cutL E (some F) (some O)).bind fun x=>bif (decide ((w64 (O-F))>8))then some (aJ.mk 1 L M x,0)else some (aJ.mk 1 L M x,w64 (O-F))).bind fun r=>some (.inr r)) (a,b,0,0,0,[],0,0,b,[],b)else (idx a b).bind fun k=>(xW (k.toNat:Int)).bind fun l=>bif l then aA (fun(⟨e,P,Q,R,S,T,U,V,W,X,Y⟩:Str×Int×Int×Int×Int×Str×Int×Int×Int×Str×Int)=>bif (decide (Y<(e.length:Int)))then (idx e Y).bind fun m=>(xW (m.toNat:Int)).bind fun n=>bif n then some (.inl (e,P,Q,R,S,T,U,V,W,X,w64 (Y+1)))else ((eff.cutL e (some P) (some Y)).bind fun o=>(kF o).bind fun f=>bif (!f.2)then some (aJ.mk 2 f.1 W X,0)else bif (decide (f.1>1000000000))then some (aJ.mk 2 f.1 W X,0)else some (aJ.mk 2 f.1 W X,w64 (Y-P))).bind fun r=>some (.inr r)else ((eff.cutL e (some P) (some Y)).bind fun p=>(kF p).bind fun g=>bif (!g.2)then some (aJ.mk 2 g.1 W X,0)else bif (decide (g.1>1000000000))then some (aJ.mk 2 g.1 W X,0)else some (aJ.mk 2 g.1 W X,w64 (Y-P))).bind fun r=>some (.inr r)) (a,b,0,0,0,[],0,0,b,[],b)else (idx a b).bind fun q=>bif ((q.toNat:Int)==34)then aA (fun(⟨d,Z,aa,ac,ae,aq,ar,aw,az,aD,aE⟩:Str×Int×Int×Int×Int×Str×Int×Int×Int×Str×Int)=>bif (decide (aE<(d.length:Int)))then (idx d aE).bind fun s=>bif ((s.toNat:Int) != 34)then some (.inl (d,Z,aa,ac,ae,aq,ar,aw,az,aD,w64 (aE+1)))else ((eff.cutL d (some (w64 (Z+1))) (some aE)).bind fun h=>bif (aE==(d.length:Int))then some (aJ.mk 3 aw az h,0)else (fG h).bind fun t=>bif (!t)then some (aJ.mk 3 aw az h,0)else some (aJ.mk 3 aw az h,w64 ((w64 (aE+1))-Z))).bind fun r=>some (.inr r)else ((eff.cutL d (some (w64 (Z+1))) (some aE)).bind fun i=>bif (aE==(d.length:Int))then some (aJ.mk 3 aw az i,0)else
      (fG i).bind fun u=>
      bif (!u)then
       some (aJ.mk 3 aw az i,0)
      else
       some (aJ.mk 3 aw az i,w64 ((w64 (aE+1))-Z))
    ).bind fun r=>some (.inr r)
  ) (a,b,0,0,0,[],0,0,b,[],w64 (b+1))
 else
  (mP a b).bind fun j=>
  (eff.cutL a (some b) (some (w64 (b+j)))).bind fun v=>
  some (aJ.mk 4 0 b v,w64 ((w64 (b+j))-b))
def agn:Fsp:=⟨203,[shF .str,shF .int],[shT .token,shF .int],true,false,fun x=>og x.1 x.2⟩
def xR(a:Str):Option ((List aJ)×Int):=bif (decide ((a.length:Int)>120))then some ([],120)else aA (fun(⟨e,f,g⟩:Str×(List aJ)×Int)=>bif (decide (g<(e.length:Int)))then (idx e g).bind fun d=>bif ((d.toNat:Int)==32)then some (.inl (e,f,w64 (g+1)))else (og e g).bind fun c=>bif (c.2==0)then some (.inr ([],g))else bif ((f.length:Int)==60)then some (.inr ([],g))else (gd (f.length+[c.1].length)).bind fun _=>some (.inl (e,f++[c.1],w64 (g+c.2)))else some (.inr (f,(-1)))) (a,[],0)
def ZJ:Fsp:=⟨157,[shF .str],[slF .token,shF .int],true,false,fun x=>xR x⟩
def iT(a:aJ)(b:Str):Option (Bool):=bif (a.kind==4)then some ((a.text==b))else some (false)
def aao:Fsp:=⟨244,[shT .token,shF .str],[shF .bool],true,false,fun x=>iT x.1 x.2⟩
def zQ(a:aJ)(b:Str):Option (Bool):=bif (a.kind==1)then some ((a.text==b))else some (false)
def XY:Fsp:=⟨245,[shT .token,shF .str],[shF .bool],true,false,fun x=>zQ x.1 x.2⟩
def eX(a:GRd)(b:Str):Option (GRd×Bool):=bif (decide (a.bad<0))then bif (decide (a.i<(a.toks.length:Int)))then (idx a.toks a.i).bind fun c=>(iT c b).bind fun d=>bif d then some (a,true)else (idx a.toks a.i).bind fun e=>(zQ e b).bind fun f=>some (a,f)else some (a,false)else some (a,false)
def adn:Fsp:=⟨204,[shT .rd,shF .str],[shT .rd,shF .bool],false,false,fun x=>eX x.1 x.2⟩
def ja(a:GRd):Option (GRd×af):=bif (decide (a.bad<0))then bif (decide (a.i<(a.toks.length:Int)))then (idx a.toks a.i).bind fun b=>some (GRd.mk a.toks a.i a.stop b.pos,af.mk 0 0 [] [])else some (GRd.mk a.toks a.i a.stop a.stop,af.mk 0 0 [] [])else some (a,af.mk 0 0 [] [])
def adp:Fsp:=⟨159,[shT .rd],[shT .rd,shT .expr],false,true,fun x=>ja x⟩
def CO(a:GRd):Option (GRd×Str):=bif (decide (a.bad>=0))then (ja a).bind fun b=>some (b.1,[])else bif (decide (a.i>=(a.toks.length:Int)))then (ja a).bind fun c=>some (c.1,[])else (idx a.toks a.i).bind fun d=>bif (d.kind != 1)then (ja a).bind fun e=>some (e.1,[])else (idx a.toks a.i).bind fun f=>(bM f.text).bind fun g=>bif (!g)then (ja a).bind fun h=>some (h.1,[])else (idx a.toks (w64 ((w64 (a.i+1))-1))).bind fun j=>some (GRd.mk a.toks (w64 (a.i+1)) a.stop a.bad,j.text)
def ado:Fsp:=⟨205,[shT .rd],[shT .rd,shF .str],false,false,fun x=>CO x⟩
def fD(a:GRd)(b:Str):Option (GRd):=(eX a b).bind fun c=>bif (!c.2)then (ja c.1).bind fun d=>some (d.1)else some (GRd.mk c.1.toks (w64 (c.1.i+1)) c.1.stop c.1.bad)
def adm:Fsp:=⟨206,[shT .rd,shF .str],[shT .rd],false,false,fun x=>fD x.1 x.2⟩
def KD(rsL11Expr:GRd->Option (GRd×af))(rsL11Compare:GRd->Option (GRd×af))(rsL11Sum:GRd->Option (GRd×af))(rsL11Product:GRd->Option (GRd×af))(rsL11Atom:GRd->Option (GRd×af))(rsL11Args:GRd->Str->Option (GRd×(List af)))(a:GRd):Option (GRd×af):=(eX a [108,101,116]).bind fun c=>bif c.2 then (CO (GRd.mk c.1.toks (w64 (c.1.i+1)) c.1.stop c.1.bad)).bind fun o=>(fD o.1 [61]).bind fun s=>(rsL11Expr s).bind fun p=>(fD p.1 [105,110]).bind fun t=>(rsL11Expr t).bind fun q=>some (q.1,af.mk 7 0 o.2 [aj p.2,aj q.2])else (eX c.1 [105,102]).bind fun d=>bif d.2 then (rsL11Expr (GRd.mk d.1.toks (w64 (d.1.i+1)) d.1.stop d.1.bad)).bind fun r=>(fD r.1 [116,104,101,110]).bind fun u=>(rsL11Expr u).bind fun e=>(fD e.1 [101,108,115,101]).bind fun l=>(rsL11Expr l).bind fun f=>some (f.1,af.mk 8 0 [] [aj r.2,aj e.2,aj f.2])else (eX d.1 [102,111,114]).bind fun b=>bif b.2 then (CO (GRd.mk b.1.toks (w64 (b.1.i+1)) b.1.stop b.1.bad)).bind fun g=>(fD g.1 [105,110]).bind fun m=>(rsL11Expr m).bind fun h=>(fD h.1 [100,111]).bind fun n=>(rsL11Expr n).bind fun j=>some (j.1,af.mk 9 0 g.2 [aj h.2,aj j.2])else (rsL11Compare b.1).bind fun k=>some (k.1,aj k.2)
def sW(rsL11Expr:GRd->Option (GRd×af))(rsL11Compare:GRd->Option (GRd×af))(rsL11Sum:GRd->Option (GRd×af))(rsL11Product:GRd->Option (GRd×af))(rsL11Atom:GRd->Option (GRd×af))(rsL11Args:GRd->Str->Option (GRd×(List af)))(a:GRd):Option (GRd×af):=(rsL11Sum a).bind fun d=>(eX d.1 [60]).bind fun b=>bif b.2 then (rsL11Sum (GRd.mk b.1.toks (w64 (b.1.i+1)) b.1.stop b.1.bad)).bind fun e=>(jF 4 (aj d.2) (aj e.2)).bind fun g=>some (e.1,aj g)else (eX b.1 [61,61]).bind fun c=>bif c.2 then (rsL11Sum (GRd.mk c.1.toks (w64 (c.1.i+1)) c.1.stop c.1.bad)).bind fun f=>(jF 5 (aj d.2) (aj f.2)).bind fun h=>some (f.1,aj h)else some (c.1,aj d.2)
def Qh(rsL11Expr:GRd->Option (GRd×af))(rsL11Compare:GRd->Option (GRd×af))(rsL11Sum:GRd->Option (GRd×af))(rsL11Product:GRd->Option (GRd×af))(rsL11Atom:GRd->Option (GRd×af))(rsL11Args:GRd->Str->Option (GRd×(List af)))(a:GRd):Option (GRd×af):=(rsL11Product a).bind fun j=>aA (fun(⟨r,s,t,u,v,w,x,y,z,A,B,C⟩:(List aJ)×Int×Int×Int×Int×Int×Str×(List af)×Int×Int×Str×(List af))=>(eX (GRd.mk r s t u) [43]).bind fun p=>bif p.2 then (eX p.1 [45]).bind fun f=>bif f.2 then (rsL11Product (GRd.mk f.1.toks (w64 (f.1.i+1)) f.1.stop f.1.bad)).bind fun k=>(jF 2 (af.mk z A B C) (aj k.2)).bind fun m=>some (.inl (k.1.toks,k.1.i,k.1.stop,k.1.bad,v,w,x,y,m.kind,m.n,m.text,m.args))else (rsL11Product (GRd.mk f.1.toks (w64 (f.1.i+1)) f.1.stop f.1.bad)).bind fun l=>(jF 1 (af.mk z A B C) (aj l.2)).bind fun o=>some (.inl (l.1.toks,l.1.i,l.1.stop,l.1.bad,v,w,x,y,o.kind,o.n,o.text,o.args))else (eX p.1 [45]).bind fun q=>bif q.2 then (eX q.1 [45]).bind fun c=>bif c.2 then (rsL11Product (GRd.mk c.1.toks (w64 (c.1.i+1)) c.1.stop c.1.bad)).bind fun d=>(jF 2 (af.mk z A B C) (aj d.2)).bind fun g=>some (.inl (d.1.toks,d.1.i,d.1.stop,d.1.bad,v,w,x,y,g.kind,g.n,g.text,g.args))else (rsL11Product (GRd.mk c.1.toks (w64 (c.1.i+1)) c.1.stop c.1.bad)).bind fun e=>(jF 1 (af.mk z A B C) (aj e.2)).bind fun h=>some (.inl (e.1.toks,e.1.i,e.1.stop,e.1.bad,v,w,x,y,h.kind,h.n,h.text,h.args))else some (.inr (q.1,af.mk z A B C))) (j.1.toks,j.1.i,j.1.stop,j.1.bad,0,0,[],[],j.2.kind,j.2.n,j.2.text,j.2.args)
def zO(rsL11Expr:GRd->Option (GRd×af))(rsL11Compare:GRd->Option (GRd×af))(rsL11Sum:GRd->Option (GRd×af))(rsL11Product:GRd->Option (GRd×af))(rsL11Atom:GRd->Option (GRd×af))(rsL11Args:GRd->Str->Option (GRd×(List af)))(a:GRd):Option (GRd×af):=(rsL11Atom a).bind fun c=>aA (fun(⟨g,h,j,k,l,m,o,p,q,r,s,t⟩:(List aJ)×Int×Int×Int×Int×Int×Str×(List af)×Int×Int×Str×(List af))=>(eX (GRd.mk g h j k) [42]).bind fun d=>bif d.2 then (rsL11Atom (GRd.mk d.1.toks (w64 (d.1.i+1)) d.1.stop d.1.bad)).bind fun e=>(jF 3 (af.mk q r s t) (aj e.2)).bind fun f=>some (.inl (e.1.toks,e.1.i,e.1.stop,e.1.bad,l,m,o,p,f.kind,f.n,f.text,f.args))else some (.inr (d.1,af.mk q r s t))) (c.1.toks,c.1.i,c.1.stop,c.1.bad,0,0,[],[],c.2.kind,c.2.n,c.2.text,c.2.args)
def Eu(rsL11Expr:GRd->Option (GRd×af))(rsL11Compare:GRd->Option (GRd×af))(rsL11Sum:GRd->Option (GRd×af))(rsL11Product:GRd->Option (GRd×af))(rsL11Atom:GRd->Option (GRd×af))(rsL11Args:GRd->Str->Option (GRd×(List af)))(a:GRd):Option (GRd×af):=bif (decide (a.bad>=0))then (ja a).bind fun F=>some (F.1,aj F.2)else bif (decide (a.i>=(a.toks.length:Int)))then (ja a).bind fun G=>some (G.1,aj G.2)else (idx a.toks a.i).bind fun b=>bif (b.kind==2)then (kz b.n).bind fun I=>some (GRd.mk a.toks (w64 (a.i+1)) a.stop a.bad,aj I)else bif (b.kind==3)then some (GRd.mk a.toks (w64 (a.i+1)) a.stop a.bad,af.mk 2 0 b.text [])else bif (b.kind==1)then (bM b.text).bind fun J=>bif J then (CQ b.text).bind fun K=>some (GRd.mk a.toks (w64 (a.i+1)) a.stop a.bad,aj K)else bif (b.kind==1)then (dP b.text).bind fun L=>bif (decide (L>=0))then (fD (GRd.mk a.toks (w64 (a.i+1)) a.stop a.bad) [40]).bind fun M=>(rsL11Args M [41]).bind fun H=>some (H.1,af.mk 5 0 b.text H.2)else (iT b [91]).bind fun r=>bif r then (rsL11Args (GRd.mk a.toks (w64 (a.i+1)) a.stop a.bad) [93]).bind fun c=>some (c.1,af.mk 4 0 [] c.2)else (iT b [40]).bind fun s=>bif s then (rsL11Expr (GRd.mk a.toks (w64 (a.i+1)) a.stop a.bad)).bind fun d=>(fD d.1 [41]).bind fun t=>some (t,aj d.2)else (ja a).bind fun e=>some (e.1,aj e.2)else (iT b [91]).bind fun u=>bif u then (rsL11Args (GRd.mk a.toks (w64 (a.i+1)) a.stop a.bad) [93]).bind fun f=>some (f.1,af.mk 4 0 [] f.2)else (iT b [40]).bind fun v=>bif v then (rsL11Expr (GRd.mk a.toks (w64 (a.i+1)) a.stop a.bad)).bind fun g=>(fD g.1 [41]).bind fun w=>some (w,aj g.2)else (ja a).bind fun h=>some (h.1,aj h.2)else bif (b.kind==1)then (dP b.text).bind fun x=>bif (decide (x>=0))then (fD (GRd.mk a.toks (w64 (a.i+1)) a.stop a.bad) [40]).bind fun y=>(rsL11Args y [41]).bind fun j=>some (j.1,af.mk 5 0 b.text j.2)else (iT b [91]).bind fun z=>bif z then (rsL11Args (GRd.mk a.toks (w64 (a.i+1)) a.stop a.bad) [93]).bind fun k=>some (k.1,af.mk 4 0 [] k.2)else (iT b [40]).bind fun A=>bif A then (rsL11Expr (GRd.mk a.toks (w64 (a.i+1)) a.stop a.bad)).bind fun l=>(fD l.1 [41]).bind fun B=>some (B,aj l.2)else (ja a).bind fun m=>some (m.1,aj m.2)else (iT b [91]).bind fun C=>bif C then (rsL11Args (GRd.mk a.toks (w64 (a.i+1)) a.stop a.bad) [93]).bind fun o=>some (o.1,af.mk 4 0 [] o.2)else (iT b [40]).bind fun D=>bif D then (rsL11Expr (GRd.mk a.toks (w64 (a.i+1)) a.stop a.bad)).bind fun p=>(fD p.1 [41]).bind fun E=>some (E,aj p.2)else (ja a).bind fun q=>some (q.1,aj q.2)
def yh(rsL11Expr:GRd->Option (GRd×af))(rsL11Compare:GRd->Option (GRd×af))(rsL11Sum:GRd->Option (GRd×af))(rsL11Product:GRd->Option (GRd×af))(rsL11Atom:GRd->Option (GRd×af))(rsL11Args:GRd->Str->Option (GRd×(List af)))(a:GRd)(b:Str):Option (GRd×(List af)):=(eX a b).bind fun d=>bif d.2 then some (GRd.mk d.1.toks (w64 (d.1.i+1)) d.1.stop d.1.bad,[])else aA (fun(⟨j,k,l,m,n,o⟩:(List aJ)×Int×Int×Int×Str×(List af))=>bif (decide (m<0))then (rsL11Expr (GRd.mk j k l m)).bind fun f=>(gd (o.length+[aj f.2].length)).bind fun _=>(eX f.1 [44]).bind fun e=>bif (!e.2)then ((fD e.1 n).bind fun g=>some (g,o++[aj f.2])).bind fun r=>some (.inr r)else some (.inl (e.1.toks,w64 (e.1.i+1),e.1.stop,e.1.bad,n,o++[aj f.2]))else ((fD (GRd.mk j k l m) n).bind fun h=>some (h,o)).bind fun r=>some (.inr r)) (d.1.toks,d.1.i,d.1.stop,d.1.bad,b,[])
def aG:Nat->(GRd->Option (GRd×af))×(GRd->Option (GRd×af))×(GRd->Option (GRd×af))×(GRd->Option (GRd×af))×(GRd->Option (GRd×af))×(GRd->Str->Option (GRd×(List af)))
 | 0=>(fun _=>none,fun _=>none,fun _=>none,fun _=>none,fun _=>none,fun _ _=>none)
 | n+1=>(KD (aG n).1 (aG n).2.1 (aG n).2.2.1 (aG n).2.2.2.1 (aG n).2.2.2.2.1 (aG n).2.2.2.2.2,sW (aG n).1 (aG n).2.1 (aG n).2.2.1 (aG n).2.2.2.1 (aG n).2.2.2.2.1 (aG n).2.2.2.2.2,Qh (aG n).1 (aG n).2.1 (aG n).2.2.1 (aG n).2.2.2.1 (aG n).2.2.2.2.1 (aG n).2.2.2.2.2,zO (aG n).1 (aG n).2.1 (aG n).2.2.1 (aG n).2.2.2.1 (aG n).2.2.2.2.1 (aG n).2.2.2.2.2,Eu (aG n).1 (aG n).2.1 (aG n).2.2.1 (aG n).2.2.2.1 (aG n).2.2.2.2.1 (aG n).2.2.2.2.2,yh (aG n).1 (aG n).2.1 (aG n).2.2.1 (aG n).2.2.2.1 (aG n).2.2.2.2.1 (aG n).2.2.2.2.2)
def Qj(a:GRd):Option (GRd×af):=(aG (siz a+1)).1 a
def adq:Fsp:=⟨158,[shT .rd],[shT .rd,shT .expr],false,false,fun x=>Qj x⟩
def Nh(n:Nat):Fsp:=⟨158,[shT .rd],[shT .rd,shT .expr],false,false,fun x=>(aG n).1 x⟩
def aah(a:GRd):Option (GRd×af):=(aG (siz a+1)).2.1 a
def UC:Fsp:=⟨207,[shT .rd],[shT .rd,shT .expr],false,false,fun x=>aah x⟩
def CP(n:Nat):Fsp:=⟨207,[shT .rd],[shT .rd,shT .expr],false,false,fun x=>(aG n).2.1 x⟩
def akT(a:GRd):Option (GRd×af):=(aG (siz a+1)).2.2.1 a
def agD:Fsp:=⟨246,[shT .rd],[shT .rd,shT .expr],false,false,fun x=>akT x⟩
def Qg(n:Nat):Fsp:=⟨246,[shT .rd],[shT .rd,shT .expr],false,false,fun x=>(aG n).2.2.1 x⟩
def aag(a:GRd):Option (GRd×af):=(aG (siz a+1)).2.2.2.1 a
def UB:Fsp:=⟨266,[shT .rd],[shT .rd,shT .expr],false,false,fun x=>aag x⟩
def CJ(n:Nat):Fsp:=⟨266,[shT .rd],[shT .rd,shT .expr],false,false,fun x=>(aG n).2.2.2.1 x⟩
def aip(a:GRd):Option (GRd×af):=(aG (siz a+1)).2.2.2.2.1 a
def adr:Fsp:=⟨295,[shT .rd],[shT .rd,shT .expr],false,false,fun x=>aip x⟩
def Nj(n:Nat):Fsp:=⟨295,[shT .rd],[shT .rd,shT .expr],false,false,fun x=>(aG n).2.2.2.2.1 x⟩
def aiq(a:GRd)(b:Str):Option (GRd×(List af)):=(aG (siz a+1)).2.2.2.2.2 a b
def ads:Fsp:=⟨320,[shT .rd,shF .str],[shT .rd,slF .expr],false,false,fun x=>aiq x.1 x.2⟩
def Nk(n:Nat):Fsp:=⟨320,[shT .rd,shF .str],[shT .rd,slF .expr],false,false,fun x=>(aG n).2.2.2.2.2 x.1 x.2⟩
def ql(a:Str):Option (af×Int):=(xR a).bind fun c=>bif (decide (c.2>=0))then some (af.mk 0 0 [] [],c.2)else (Qj (GRd.mk c.1 0 (a.length:Int) (-1))).bind fun b=>bif (decide (b.1.bad<0))then bif (decide (b.1.i<(c.1.length:Int)))then (ja b.1).bind fun d=>bif (decide (d.1.bad>=0))then some (af.mk 0 0 [] [],d.1.bad)else (gU (aj b.2)).bind fun e=>bif (!e)then some (af.mk 0 0 [] [],0)else some (aj b.2,(-1))else bif (decide (b.1.bad>=0))then some (af.mk 0 0 [] [],b.1.bad)else (gU (aj b.2)).bind fun f=>bif (!f)then some (af.mk 0 0 [] [],0)else some (aj b.2,(-1))else bif (decide (b.1.bad>=0))then some (af.mk 0 0 [] [],b.1.bad)else (gU (aj b.2)).bind fun g=>bif (!g)then some (af.mk 0 0 [] [],0)else some (aj b.2,(-1))
def XF:Fsp:=⟨121,[shF .str],[shT .expr,shF .int],false,false,fun x=>ql x⟩
def uU(a:List Str):Option ((List Str)):=aA (fun(⟨w,x,y⟩:(List Str)×(List Str)×Int)=>bif (decide (y<(w.length:Int)))then aA (fun(⟨n,z,A,B⟩:(List Str)×(List Str)×Int×Int)=>bif (decide (B<(z.length:Int)))then (idx z B).bind fun _=>(z[B.toNat]?).bind fun s=>(idx n A).bind fun t=>bif (Op.bytesLess s t)then some (.inl (n,z,A,w64 (B+1)))else (bif (decide (B<(z.length:Int)))then (idx z B).bind fun _=>(z[B.toNat]?).bind fun u=>(idx n A).bind fun v=>bif (u==v)then some (.inl (n,z,w64 (A+1)))else (cutAt z B).bind fun o=>(gd (0+(z.drop o).length)).bind fun _=>(cutAt z B).bind fun c=>(idx n A).bind fun d=>(gd ((z.take c).length+([d]:List Str).length)).bind fun _=>(gd (((z.take c)++([d]:List Str)).length+([]++(z.drop o)).length)).bind fun _=>some (.inl (n,((z.take c)++([d]:List Str))++([]++(z.drop o)),w64 (A+1)))else (cutAt z B).bind fun e=>(gd (0+(z.drop e).length)).bind fun _=>(cutAt z B).bind fun f=>(idx n A).bind fun g=>(gd ((z.take f).length+([g]:List Str).length)).bind fun _=>(gd (((z.take f)++([g]:List Str)).length+([]++(z.drop e)).length)).bind fun _=>some (.inl (n,((z.take f)++([g]:List Str))++([]++(z.drop e)),w64 (A+1)))).bind fun r=>some (.inr r)else (bif (decide (B<(z.length:Int)))then (idx z B).bind fun _=>(z[B.toNat]?).bind fun p=>(idx n A).bind fun q=>bif (p==q)then some (.inl (n,z,w64 (A+1)))else (cutAt z B).bind fun h=>(gd (0+(z.drop h).length)).bind fun _=>(cutAt z B).bind fun i=>(idx n A).bind fun j=>(gd ((z.take i).length+([j]:List Str).length)).bind fun _=>(gd (((z.take i)++([j]:List Str)).length+([]++(z.drop h)).length)).bind fun _=>some (.inl (n,((z.take i)++([j]:List Str))++([]++(z.drop h)),w64 (A+1)))else (cutAt z B).bind fun k=>(gd (0+(z.drop k).length)).bind fun _=>(cutAt z B).bind fun l=>(idx n A).bind fun m=>(gd ((z.take l).length+([m]:List Str).length)).bind fun _=>(gd (((z.take l)++([m]:List Str)).length+([]++(z.drop k)).length)).bind fun _=>some (.inl (n,((z.take l)++([m]:List Str))++([]++(z.drop k)),w64 (A+1)))).bind fun r=>some (.inr r)) (w,x,y,0)else some (.inr (x))) (a,[],0)
def XB:Fsp:=⟨161,[slF .str],[slF .str],true,false,fun x=>uU x⟩
def MZ(rsL13Free:af->(List Str)->Option ((List Str))):((List Str)×Int×Int×Str×(List af)×(List Str)×Int)->Option (((List Str)×Int×Int×Str×(List af)×(List Str)×Int)⊕((List Str))):=
(fun (x2:(List Str)×Int×Int×Str×(List af)×(List Str)×Int)=>
   bif (decide (x2.2.2.2.2.2.2<(x2.2.2.2.2.1.length:Int)))then
    bif (x2.2.1==7)then
     bif (decide (x2.2.2.2.2.2.2>0))then
      (gd (0+x2.1.length)).bind fun _=>
      (gd (([]++x2.1).length+([x2.2.2.2.1]:List Str).length)).bind fun _=>
      (idx x2.2.2.2.2.1 x2.2.2.2.2.2.2).bind fun e3=>
      (rsL13Free (aj e3) (([]++x2.1)++([x2.2.2.2.1]:List Str))).bind fun r4=>
      (gd (x2.2.2.2.2.2.1.length+r4.length)).bind fun _=>
      some (.inl (x2.1,x2.2.1,x2.2.2.1,x2.2.2.2.1,x2.2.2.2.2.1,x2.2.2.2.2.2.1++r4,w64 (x2.2.2.2.2.2.2+1)))
     else
      (idx x2.2.2.2.2.1 x2.2.2.2.2.2.2).bind fun e5=>
      (rsL13Free (aj e5) x2.1).bind fun r6=>
      (gd (x2.2.2.2.2.2.1.length+r6.length)).bind fun _=>
      some (.inl (x2.1,x2.2.1,x2.2.2.1,x2.2.2.2.1,x2.2.2.2.2.1,x2.2.2.2.2.2.1++r6,w64 (x2.2.2.2.2.2.2+1)))
    else
    bif (x2.2.1==9)then
     bif (decide (x2.2.2.2.2.2.2>0))then
      (gd (0+x2.1.length)).bind fun _=>
      (gd (([]++x2.1).length+([x2.2.2.2.1]:List Str).length)).bind fun _=>
      (idx x2.2.2.2.2.1 x2.2.2.2.2.2.2).bind fun e7=>
      (rsL13Free (aj e7) (([]++x2.1)++([x2.2.2.2.1]:List Str))).bind fun r8=>
      (gd (x2.2.2.2.2.2.1.length+r8.length)).bind fun _=>
      some (.inl (x2.1,x2.2.1,x2.2.2.1,x2.2.2.2.1,x2.2.2.2.2.1,x2.2.2.2.2.2.1++r8,w64 (x2.2.2.2.2.2.2+1)))
     else
      (idx x2.2.2.2.2.1 x2.2.2.2.2.2.2).bind fun e9=>
      (rsL13Free (aj e9) x2.1).bind fun r10=>
      (gd (x2.2.2.2.2.2.1.length+r10.length)).bind fun _=>
      some (.inl (x2.1,x2.2.1,x2.2.2.1,x2.2.2.2.1,x2.2.2.2.2.1,x2.2.2.2.2.2.1++r10,w64 (x2.2.2.2.2.2.2+1)))
    else
     (idx x2.2.2.2.2.1 x2.2.2.2.2.2.2).bind fun e11=>
     (rsL13Free (aj e11) x2.1).bind fun r12=>
     (gd (x2.2.2.2.2.2.1.length+r12.length)).bind fun _=>
     some (.inl (x2.1,x2.2.1,x2.2.2.1,x2.2.2.2.1,x2.2.2.2.2.1,x2.2.2.2.2.2.1++r12,w64 (x2.2.2.2.2.2.2+1)))
   else
    some (.inr (x2.2.2.2.2.2.1))
 )
def KA(rsL13Free:af->(List Str)->Option ((List Str)))(a:af)(b:List Str):Option ((List Str)):=bif (a.kind==3)then (lu b a.text).bind fun c=>bif (!c)then (gd (0+([a.text]:List Str).length)).bind fun _=>some ([]++([a.text]:List Str))else aA (MZ rsL13Free) (b,a.kind,a.n,a.text,a.args,[],0)else aA (MZ rsL13Free) (b,a.kind,a.n,a.text,a.args,[],0)
def qx:Nat->(af->(List Str)->Option ((List Str)))
 | 0=>fun _ _=>none
 | n+1=>KA (qx n)
def Qc(a:af)(b:List Str):Option ((List Str)):=(qx (siz a+siz b+1)) a b
def adi:Fsp:=⟨162,[shT .expr,slF .str],[slF .str],true,false,fun x=>Qc x.1 x.2⟩
def MX(n:Nat):Fsp:=⟨162,[shT .expr,slF .str],[slF .str],true,false,fun x=>(qx n) x.1 x.2⟩
def vz(a:af):Option ((List Str)):=(Qc (aj a) []).bind fun b=>(uU b).bind fun c=>some (c)
def XZ:Fsp:=⟨123,[shT .expr],[slF .str],true,false,fun x=>vz x⟩
def Fp(rsL13Caught:af->Str->Str->(List Str)->Option (Bool)):(Str×Str×(List Str)×Int×Int×Str×(List af)×Int)->Option ((Str×Str×(List Str)×Int×Int×Str×(List af)×Int)⊕(Bool)):=
(fun (x3:Str×Str×(List Str)×Int×Int×Str×(List af)×Int)=>
   bif (decide (x3.2.2.2.2.2.2.2<(x3.2.2.2.2.2.2.1.length:Int)))then
    bif (x3.2.2.2.1==7)then
     bif (decide (x3.2.2.2.2.2.2.2>0))then
      (gd (0+x3.2.2.1.length)).bind fun _=>
      (gd (([]++x3.2.2.1).length+([x3.2.2.2.2.2.1]:List Str).length)).bind fun _=>
      (idx x3.2.2.2.2.2.2.1 x3.2.2.2.2.2.2.2).bind fun e4=>
      (rsL13Caught (aj e4) x3.1 x3.2.1 (([]++x3.2.2.1)++([x3.2.2.2.2.2.1]:List Str))).bind fun r5=>
      bif r5 then
       some (.inr (true))
      else
       some (.inl (x3.1,x3.2.1,x3.2.2.1,x3.2.2.2.1,x3.2.2.2.2.1,x3.2.2.2.2.2.1,x3.2.2.2.2.2.2.1,w64 (x3.2.2.2.2.2.2.2+1)))
     else
      (idx x3.2.2.2.2.2.2.1 x3.2.2.2.2.2.2.2).bind fun e6=>
      (rsL13Caught (aj e6) x3.1 x3.2.1 x3.2.2.1).bind fun r7=>
      bif r7 then
       some (.inr (true))
      else
       some (.inl (x3.1,x3.2.1,x3.2.2.1,x3.2.2.2.1,x3.2.2.2.2.1,x3.2.2.2.2.2.1,x3.2.2.2.2.2.2.1,w64 (x3.2.2.2.2.2.2.2+1)))
    else
    bif (x3.2.2.2.1==9)then
     bif (decide (x3.2.2.2.2.2.2.2>0))then
      (gd (0+x3.2.2.1.length)).bind fun _=>
      (gd (([]++x3.2.2.1).length+([x3.2.2.2.2.2.1]:List Str).length)).bind fun _=>
      (idx x3.2.2.2.2.2.2.1 x3.2.2.2.2.2.2.2).bind fun e8=>
      (rsL13Caught (aj e8) x3.1 x3.2.1 (([]++x3.2.2.1)++([x3.2.2.2.2.2.1]:List Str))).bind fun r9=>
      bif r9 then
       some (.inr (true))
      else
       some (.inl (x3.1,x3.2.1,x3.2.2.1,x3.2.2.2.1,x3.2.2.2.2.1,x3.2.2.2.2.2.1,x3.2.2.2.2.2.2.1,w64 (x3.2.2.2.2.2.2.2+1)))
     else
      (idx x3.2.2.2.2.2.2.1 x3.2.2.2.2.2.2.2).bind fun e10=>
      (rsL13Caught (aj e10) x3.1 x3.2.1 x3.2.2.1).bind fun r11=>
      bif r11 then
       some (.inr (true))
      else
       some (.inl (x3.1,x3.2.1,x3.2.2.1,x3.2.2.2.1,x3.2.2.2.2.1,x3.2.2.2.2.2.1,x3.2.2.2.2.2.2.1,w64 (x3.2.2.2.2.2.2.2+1)))
    else
     (idx x3.2.2.2.2.2.2.1 x3.2.2.2.2.2.2.2).bind fun e12=>
     (rsL13Caught (aj e12) x3.1 x3.2.1 x3.2.2.1).bind fun r13=>
     bif r13 then
      some (.inr (true))
     else
      some (.inl (x3.1,x3.2.1,x3.2.2.1,x3.2.2.2.1,x3.2.2.2.2.1,x3.2.2.2.2.2.1,x3.2.2.2.2.2.2.1,w64 (x3.2.2.2.2.2.2.2+1)))
   else
    some (.inr (false))
 )
def CG(rsL13Caught:af->Str->Str->(List Str)->Option (Bool))(a:af)(b:Str)(c:Str)(d:List Str):Option (Bool):=bif (a.kind==3)then (lu d a.text).bind fun e=>bif (!e)then bif (a.text==b)then (lu d c).bind fun f=>some (f)else some (false)else aA (Fp rsL13Caught) (b,c,d,a.kind,a.n,a.text,a.args,0)else aA (Fp rsL13Caught) (b,c,d,a.kind,a.n,a.text,a.args,0)
def kN:Nat->(af->Str->Str->(List Str)->Option (Bool))
 | 0=>fun _ _ _ _=>none
 | n+1=>CG (kN n)
def F8(a:af)(b:Str)(c:Str)(d:List Str):Option (Bool):=(kN (siz a+siz d+1)) a b c d
def XT:Fsp:=⟨211,[shT .expr,shF .str,shF .str,slF .str],[shF .bool],true,false,fun x=>F8 x.1 x.2.1 x.2.2.1 x.2.2.2⟩
def Fj(n:Nat):Fsp:=⟨211,[shT .expr,shF .str,shF .str,slF .str],[shF .bool],true,false,fun x=>(kN n) x.1 x.2.1 x.2.2.1 x.2.2.2⟩
def lU(a:af)(b:Str)(c:Str):Option (Bool):=(F8 (aj a) b c []).bind fun d=>some (d)
def UH:Fsp:=⟨163,[shT .expr,shF .str,shF .str],[shF .bool],true,false,fun x=>lU x.1 x.2.1 x.2.2⟩
def KF(rsL10Copy:af->Option (af))(a:af):Option (af):=aA (fun(⟨e,f,g,h,i,j,k,l,m,o,p,q,r⟩:Int×Int×Str×(List af)×Int×Int×Str×(List af)×Int×Int×Str×(List af)×Int)=>bif (decide (r<(h.length:Int)))then (idx h r).bind fun d=>(rsL10Copy (aj d)).bind fun c=>(gd (q.length+[aj c].length)).bind fun _=>some (.inl (e,f,g,h,i,j,k,l,m,o,p,q++[aj c],w64 (r+1)))else some (.inr (af.mk m o p q))) (a.kind,a.n,a.text,a.args,0,0,[],[],a.kind,a.n,a.text,[],0)
def yt:Nat->(af->Option (af))
 | 0=>fun _=>none
 | n+1=>KF (yt n)
def yu(a:af):Option (af):=(yt (siz a+1)) a
def adz:Fsp:=⟨212,[shT .expr],[shT .expr],true,false,fun x=>yu x⟩
def Nq(n:Nat):Fsp:=⟨212,[shT .expr],[shT .expr],true,false,fun x=>(yt n) x⟩
def xA(rsL13Rename:af->Str->Str->Option (af)):(Str×Str×Int×Int×Str×(List af)×Int×Int×Str×(List af)×Int×Int×Str×(List af)×Int)->Option ((Str×Str×Int×Int×Str×(List af)×Int×Int×Str×(List af)×Int×Int×Str×(List af)×Int)⊕(af)):=
(fun (x1:Str×Str×Int×Int×Str×(List af)×Int×Int×Str×(List af)×Int×Int×Str×(List af)×Int)=>
  bif (decide (x1.2.2.2.2.2.2.2.2.2.2.2.2.2.2<(x1.2.2.2.2.2.1.length:Int)))then
   bif (x1.2.2.1==7)then
    bif (x1.2.2.2.2.2.2.2.2.2.2.2.2.2.2==1)then
     bif (x1.2.2.2.2.1==x1.1)then
      (idx x1.2.2.2.2.2.1 x1.2.2.2.2.2.2.2.2.2.2.2.2.2.2).bind fun e2=>
      (yu (aj e2)).bind fun r3=>
      (gd (x1.2.2.2.2.2.2.2.2.2.2.2.2.2.1.length+[aj r3].length)).bind fun _=>
      some (.inl (x1.1,x1.2.1,x1.2.2.1,x1.2.2.2.1,x1.2.2.2.2.1,x1.2.2.2.2.2.1,x1.2.2.2.2.2.2.1,x1.2.2.2.2.2.2.2.1,x1.2.2.2.2.2.2.2.2.1,x1.2.2.2.2.2.2.2.2.2.1,x1.2.2.2.2.2.2.2.2.2.2.1,x1.2.2.2.2.2.2.2.2.2.2.2.1,x1.2.2.2.2.2.2.2.2.2.2.2.2.1,x1.2.2.2.2.2.2.2.2.2.2.2.2.2.1++[aj r3],w64 (x1.2.2.2.2.2.2.2.2.2.2.2.2.2.2+1)))
     else
      (idx x1.2.2.2.2.2.1 x1.2.2.2.2.2.2.2.2.2.2.2.2.2.2).bind fun e4=>
      (rsL13Rename (aj e4) x1.1 x1.2.1).bind fun r5=>
      (gd (x1.2.2.2.2.2.2.2.2.2.2.2.2.2.1.length+[aj r5].length)).bind fun _=>
      some (.inl (x1.1,x1.2.1,x1.2.2.1,x1.2.2.2.1,x1.2.2.2.2.1,x1.2.2.2.2.2.1,x1.2.2.2.2.2.2.1,x1.2.2.2.2.2.2.2.1,x1.2.2.2.2.2.2.2.2.1,x1.2.2.2.2.2.2.2.2.2.1,x1.2.2.2.2.2.2.2.2.2.2.1,x1.2.2.2.2.2.2.2.2.2.2.2.1,x1.2.2.2.2.2.2.2.2.2.2.2.2.1,x1.2.2.2.2.2.2.2.2.2.2.2.2.2.1++[aj r5],w64 (x1.2.2.2.2.2.2.2.2.2.2.2.2.2.2+1)))
    else
     (idx x1.2.2.2.2.2.1 x1.2.2.2.2.2.2.2.2.2.2.2.2.2.2).bind fun e6=>
     (rsL13Rename (aj e6) x1.1 x1.2.1).bind fun r7=>
     (gd (x1.2.2.2.2.2.2.2.2.2.2.2.2.2.1.length+[aj r7].length)).bind fun _=>
     some (.inl (x1.1,x1.2.1,x1.2.2.1,x1.2.2.2.1,x1.2.2.2.2.1,x1.2.2.2.2.2.1,x1.2.2.2.2.2.2.1,x1.2.2.2.2.2.2.2.1,x1.2.2.2.2.2.2.2.2.1,x1.2.2.2.2.2.2.2.2.2.1,x1.2.2.2.2.2.2.2.2.2.2.1,x1.2.2.2.2.2.2.2.2.2.2.2.1,x1.2.2.2.2.2.2.2.2.2.2.2.2.1,x1.2.2.2.2.2.2.2.2.2.2.2.2.2.1++[aj r7],w64 (x1.2.2.2.2.2.2.2.2.2.2.2.2.2.2+1)))
   else
   bif (x1.2.2.1==9)then
    bif (x1.2.2.2.2.2.2.2.2.2.2.2.2.2.2==1)then
     bif (x1.2.2.2.2.1==x1.1)then
      (idx x1.2.2.2.2.2.1 x1.2.2.2.2.2.2.2.2.2.2.2.2.2.2).bind fun e8=>
      (yu (aj e8)).bind fun r9=>
      (gd (x1.2.2.2.2.2.2.2.2.2.2.2.2.2.1.length+[aj r9].length)).bind fun _=>
      some (.inl (x1.1,x1.2.1,x1.2.2.1,x1.2.2.2.1,x1.2.2.2.2.1,x1.2.2.2.2.2.1,x1.2.2.2.2.2.2.1,x1.2.2.2.2.2.2.2.1,x1.2.2.2.2.2.2.2.2.1,x1.2.2.2.2.2.2.2.2.2.1,x1.2.2.2.2.2.2.2.2.2.2.1,x1.2.2.2.2.2.2.2.2.2.2.2.1,x1.2.2.2.2.2.2.2.2.2.2.2.2.1,x1.2.2.2.2.2.2.2.2.2.2.2.2.2.1++[aj r9],w64 (x1.2.2.2.2.2.2.2.2.2.2.2.2.2.2+1)))
     else
      (idx x1.2.2.2.2.2.1 x1.2.2.2.2.2.2.2.2.2.2.2.2.2.2).bind fun e10=>
      (rsL13Rename (aj e10) x1.1 x1.2.1).bind fun r11=>
      (gd (x1.2.2.2.2.2.2.2.2.2.2.2.2.2.1.length+[aj r11].length)).bind fun _=>
      some (.inl (x1.1,x1.2.1,x1.2.2.1,x1.2.2.2.1,x1.2.2.2.2.1,x1.2.2.2.2.2.1,x1.2.2.2.2.2.2.1,x1.2.2.2.2.2.2.2.1,x1.2.2.2.2.2.2.2.2.1,x1.2.2.2.2.2.2.2.2.2.1,x1.2.2.2.2.2.2.2.2.2.2.1,x1.2.2.2.2.2.2.2.2.2.2.2.1,x1.2.2.2.2.2.2.2.2.2.2.2.2.1,x1.2.2.2.2.2.2.2.2.2.2.2.2.2.1++[aj r11],w64 (x1.2.2.2.2.2.2.2.2.2.2.2.2.2.2+1)))
    else
     (idx x1.2.2.2.2.2.1 x1.2.2.2.2.2.2.2.2.2.2.2.2.2.2).bind fun e12=>
     (rsL13Rename (aj e12) x1.1 x1.2.1).bind fun r13=>
     (gd (x1.2.2.2.2.2.2.2.2.2.2.2.2.2.1.length+[aj r13].length)).bind fun _=>
     some (.inl (x1.1,x1.2.1,x1.2.2.1,x1.2.2.2.1,x1.2.2.2.2.1,x1.2.2.2.2.2.1,x1.2.2.2.2.2.2.1,x1.2.2.2.2.2.2.2.1,x1.2.2.2.2.2.2.2.2.1,x1.2.2.2.2.2.2.2.2.2.1,x1.2.2.2.2.2.2.2.2.2.2.1,x1.2.2.2.2.2.2.2.2.2.2.2.1,x1.2.2.2.2.2.2.2.2.2.2.2.2.1,x1.2.2.2.2.2.2.2.2.2.2.2.2.2.1++[aj r13],w64 (x1.2.2.2.2.2.2.2.2.2.2.2.2.2.2+1)))
   else
    (idx x1.2.2.2.2.2.1 x1.2.2.2.2.2.2.2.2.2.2.2.2.2.2).bind fun e14=>
    (rsL13Rename (aj e14) x1.1 x1.2.1).bind fun r15=>
    (gd (x1.2.2.2.2.2.2.2.2.2.2.2.2.2.1.length+[aj r15].length)).bind fun _=>
    some (.inl (x1.1,x1.2.1,x1.2.2.1,x1.2.2.2.1,x1.2.2.2.2.1,x1.2.2.2.2.2.1,x1.2.2.2.2.2.2.1,x1.2.2.2.2.2.2.2.1,x1.2.2.2.2.2.2.2.2.1,x1.2.2.2.2.2.2.2.2.2.1,x1.2.2.2.2.2.2.2.2.2.2.1,x1.2.2.2.2.2.2.2.2.2.2.2.1,x1.2.2.2.2.2.2.2.2.2.2.2.2.1,x1.2.2.2.2.2.2.2.2.2.2.2.2.2.1++[aj r15],w64 (x1.2.2.2.2.2.2.2.2.2.2.2.2.2.2+1)))
  else
   some (.inr (af.mk x1.2.2.2.2.2.2.2.2.2.2.1 x1.2.2.2.2.2.2.2.2.2.2.2.1 x1.2.2.2.2.2.2.2.2.2.2.2.2.1 x1.2.2.2.2.2.2.2.2.2.2.2.2.2.1))
 )
def wO(rsL13Rename:af->Str->Str->Option (af))(a:af)(b:Str)(c:Str):Option (af):=bif (a.kind==3)then bif (a.text==b)then aA (xA rsL13Rename) (b,c,a.kind,a.n,a.text,a.args,0,0,[],[],a.kind,a.n,c,[],0)else aA (xA rsL13Rename) (b,c,a.kind,a.n,a.text,a.args,0,0,[],[],a.kind,a.n,a.text,[],0)else aA (xA rsL13Rename) (b,c,a.kind,a.n,a.text,a.args,0,0,[],[],a.kind,a.n,a.text,[],0)
def rJ:Nat->(af->Str->Str->Option (af))
 | 0=>fun _ _ _=>none
 | n+1=>wO (rJ n)
def F7(a:af)(b:Str)(c:Str):Option (af):=(rJ (siz a+1)) a b c
def XR:Fsp:=⟨164,[shT .expr,shF .str,shF .str],[shT .expr],true,false,fun x=>F7 x.1 x.2.1 x.2.2⟩
def Fh(n:Nat):Fsp:=⟨164,[shT .expr,shF .str,shF .str],[shT .expr],true,false,fun x=>(rJ n) x.1 x.2.1 x.2.2⟩
def kM(a:af)(b:Str)(c:Str):Option (af×Bool):=(gU (aj a)).bind fun d=>bif (!d)then some (af.mk 0 0 [] [],false)else (bM b).bind fun e=>bif (!e)then some (af.mk 0 0 [] [],false)else (bM c).bind fun f=>bif (!f)then some (af.mk 0 0 [] [],false)else (lU (aj a) b c).bind fun g=>bif g then some (af.mk 0 0 [] [],false)else (F7 (aj a) b c).bind fun h=>some (aj h,true)
def Uo:Fsp:=⟨124,[shT .expr,shF .str,shF .str],[shT .expr,shF .bool],true,false,fun x=>kM x.1 x.2.1 x.2.2⟩
def lQ(a:Str)(b:Str)(c:Str):Option (Str):=(ql a).bind fun d=>bif (decide (d.2>=0))then some (a)else (vz (aj d.1)).bind fun g=>(lu g b).bind fun h=>bif (!h)then some (a)else (kM (aj d.1) b c).bind fun e=>(ig (aj e.1)).bind fun f=>bif (!e.2)then some (a)else bif (decide ((f.length:Int)>120))then some (a)else some (f)
def acR:Fsp:=⟨87,[shF .str,shF .str,shF .str],[shF .str],true,false,fun x=>lQ x.1 x.2.1 x.2.2⟩
def Gf(a:dR)(b:List GOp):Option (dR):=aA (fun(⟨i,j,k,l,m,o,p,q,r,s,t,u,v,w,x,y,z,A⟩:(List GOp)×Int×Int×Int×Int×Int×Str×Str×Int×Int×Int×Int×Int×Int×Str×Str×Int×Int)=>bif (decide (A<(i.length:Int)))then (idx i A).bind fun d=>bif (p==d.src)then bif (j==4)then (lQ q d.src d.dst).bind fun e=>some (.inl (i,j,k,l,m,o,d.dst,e,r,s,t,u,v,w,x,y,z,w64 (A+1)))else bif (j==1)then bif (o==2)then (lQ q d.src d.dst).bind fun f=>some (.inl (i,j,k,l,m,o,d.dst,f,r,s,t,u,v,w,x,y,z,w64 (A+1)))else some (.inl (i,j,k,l,m,o,d.dst,q,r,s,t,u,v,w,x,y,z,w64 (A+1)))else some (.inl (i,j,k,l,m,o,d.dst,q,r,s,t,u,v,w,x,y,z,w64 (A+1)))else bif (j==4)then (lQ q d.src d.dst).bind fun g=>some (.inl (i,j,k,l,m,o,p,g,r,s,t,u,v,w,x,y,z,w64 (A+1)))else bif (j==1)then bif (o==2)then (lQ q d.src d.dst).bind fun h=>some (.inl (i,j,k,l,m,o,p,h,r,s,t,u,v,w,x,y,z,w64 (A+1)))else some (.inl (i,j,k,l,m,o,p,q,r,s,t,u,v,w,x,y,z,w64 (A+1)))else some (.inl (i,j,k,l,m,o,p,q,r,s,t,u,v,w,x,y,z,w64 (A+1)))else some (.inr (dR.mk j k (ah.mk l m o p q r)))
 ) (b,a.kind,a.pos,a.cell.id,a.cell.version,a.cell.kind,a.cell.name,a.cell.code,a.cell.n,0,0,0,0,0,[],[],0,0)
def X8:Fsp:=⟨53,[shT .edit,slF .op],[shT .edit],true,false,fun x=>Gf x.1 x.2⟩
def kT(a:Str):Option (Bool):=aA (fun (b:Str×Int)=>bif (decide (b.2<(b.1.length:Int)))then (idx b.1 b.2).bind fun c=>bif (decide ((c.toNat:Int)<32))then some (.inr (false))else (idx b.1 b.2).bind fun d=>bif (decide ((d.toNat:Int)>126))then some (.inr (false))else some (.inl (b.1,w64 (b.2+1)))else some (.inr ((decide ((b.1.length:Int)<=120))))) (a,0)
def Qx:Fsp:=⟨59,[shF .str],[shF .bool],true,false,fun x=>kT x⟩
def dm(a:ah):Option (Bool):=(lS a.id 1 999).bind fun b=>bif (!b)then some (false)else (lS a.version 1 999).bind fun c=>bif (!c)then some (false)else (kT a.code).bind fun d=>bif (!d)then some (false)else bif (a.kind==1)then bif (a.name==[])then some ((a.n==0))else some (false)else bif (a.kind==2)then (bM a.name).bind fun e=>bif e then some ((a.n==0))else some (false)else bif (a.kind==4)then (bM a.name).bind fun f=>bif f then some ((a.n==0))else some (false)else bif (a.kind==3)then (bM a.name).bind fun g=>bif g then bif (a.code==[])then (lS a.n 0 100).bind fun h=>some (h)else some (false)else some (false)else some (false)
def Qv:Fsp:=⟨27,[shT .cell],[shF .bool],true,false,fun x=>dm x⟩
def dH(a:ak):Option (Bool):=aA (fun (b:(List ah)×Int)=>bif (decide (b.2<(b.1.length:Int)))then (idx b.1 b.2).bind fun c=>(dm c).bind fun d=>bif (!d)then some (.inr (false))else (idx b.1 b.2).bind fun e=>(jX (ak.mk b.1) e.id).bind fun f=>bif (f != b.2)then some (.inr (false))else some (.inl (b.1,w64 (b.2+1)))else some (.inr ((decide ((b.1.length:Int)<=8))))) (a.cells,0)
def F9:Fsp:=⟨10,[shT .notebook],[shF .bool],true,false,fun x=>dH x⟩
def Ky(a:Int)(b:Int):Option (Int):=bif (decide (a<b))then some (a)else some (b)
def aik:Fsp:=⟨126,[shF .int,shF .int],[shF .int],true,false,fun x=>Ky x.1 x.2⟩
def zM(a:List ah)(b:Int)(c:ah):Option ((List ah)):=(Ky b (a.length:Int)).bind fun g=>(pF 0 g).bind fun e=>(eff.cutL a none (some e)).bind fun d=>(gd (0+d.length)).bind fun _=>(gd (([]++d).length+[c].length)).bind fun _=>(eff.cutL a (some e) none).bind fun f=>(gd ((([]++d)++[c]).length+f.length)).bind fun _=>some ((([]++d)++[c])++f)
def agv:Fsp:=⟨88,[slF .cell,shF .int,shT .cell],[slF .cell],true,false,fun x=>zM x.1 x.2.1 x.2.2⟩
def xY(a:List ah)(b:Int):Option ((List ah)):=(eff.cutL a none (some b)).bind fun c=>(gd (0+c.length)).bind fun _=>(eff.cutL a (some (w64 (b+1))) none).bind fun d=>(gd (([]++c).length+d.length)).bind fun _=>some (([]++c)++d)
def ac5:Fsp:=⟨89,[slF .cell,shF .int],[slF .cell],true,false,fun x=>xY x.1 x.2⟩
def ve(a:ah)(b:dR):Option (ah×Int):=bif (b.kind==4)then bif (a.kind==3)then some (a,5)else bif (b.kind != 5)then bif (a.version==999)then some (ah.mk a.id a.version a.kind b.cell.name b.cell.code a.n,6)else (dm (ah.mk a.id (w64 (a.version+1)) a.kind b.cell.name b.cell.code a.n)).bind fun c=>bif (!c)then some (ah.mk a.id (w64 (a.version+1)) a.kind b.cell.name b.cell.code a.n,1)else some (ah.mk a.id (w64 (a.version+1)) a.kind b.cell.name b.cell.code a.n,0)else (dm (ah.mk a.id a.version a.kind b.cell.name b.cell.code a.n)).bind fun d=>bif (!d)then some (ah.mk a.id a.version a.kind b.cell.name b.cell.code a.n,1)else some (ah.mk a.id a.version a.kind b.cell.name b.cell.code a.n,0)else bif (b.kind==5)then bif (a.kind != 3)then some (a,5)else bif (b.kind != 5)then bif (a.version==999)then some (ah.mk a.id a.version a.kind a.name a.code b.cell.n,6)else (dm (ah.mk a.id (w64 (a.version+1)) a.kind a.name a.code b.cell.n)).bind fun e=>bif (!e)then some (ah.mk a.id (w64 (a.version+1)) a.kind a.name a.code b.cell.n,1)else some (ah.mk a.id (w64 (a.version+1)) a.kind a.name a.code b.cell.n,0)else (dm (ah.mk a.id a.version a.kind a.name a.code b.cell.n)).bind fun f=>bif (!f)then some (ah.mk a.id a.version a.kind a.name a.code b.cell.n,1)else some (ah.mk a.id a.version a.kind a.name a.code b.cell.n,0)else bif (a.kind != 2)then some (a,5)else bif (b.kind != 5)then bif (a.version==999)then some (a,6)else (dm (ah.mk a.id (w64 (a.version+1)) a.kind a.name a.code a.n)).bind fun g=>bif (!g)then some (ah.mk a.id (w64 (a.version+1)) a.kind a.name a.code a.n,1)else some (ah.mk a.id (w64 (a.version+1)) a.kind a.name a.code a.n,0)else (dm a).bind fun h=>bif (!h)then some (a,1)else some (a,0)
def ac6:Fsp:=⟨90,[shT .cell,shT .edit],[shT .cell,shF .int],true,false,fun x=>ve x.1 x.2⟩
def jq(a:ak)(b:dR):Option (ak×Int):=(jo a).bind fun c=>(dH a).bind fun h=>bif (!h)then some (c,1)else (lS b.kind 1 6).bind fun i=>bif (!i)then some (c,1)else (jX a b.cell.id).bind fun d=>bif (b.kind==1)then (dm b.cell).bind fun j=>bif (!j)then some (c,1)else bif (decide (d>=0))then some (c,3)else bif ((a.cells.length:Int)==8)then some (c,4)else (zM a.cells b.pos b.cell).bind fun k=>some (ak.mk k,0)else bif (decide (d<0))then some (c,2)else bif (b.kind==2)then (xY a.cells d).bind fun l=>some (ak.mk l,0)else bif (b.kind==3)then (xY a.cells d).bind fun m=>(idx a.cells d).bind fun n=>(zM m b.pos n).bind fun f=>some (ak.mk f,0)else (idx a.cells d).bind fun g=>(ve g b).bind fun e=>bif (e.2==0)then (idx c.cells d).bind fun _=>(c.cells[d.toNat]?).bind fun o=>some (ak.mk (c.cells.set d.toNat e.1),e.2)else some (c,e.2)
def X7:Fsp:=⟨54,[shT .notebook,shT .edit],[shT .notebook,shF .int],true,false,fun x=>jq x.1 x.2⟩
def nN(a:GOp):Option (Int):=some (w64 ((w64 (a.time*3))+a.by_))
def Oe:Fsp:=⟨55,[shT .op],[shF .int],true,false,fun x=>nN x⟩
def lV(a:Int):Option (aQ):=some (aQ.mk 6 a 0 [] [] [] [])
def UJ:Fsp:=⟨217,[shF .int],[shT .val],true,false,fun x=>lV x⟩
def ul(a:Str):Option ((List Str)):=aA (fun(⟨g,h,i,j⟩:Str×(List Str)×Int×Int)=>bif (decide ((w64 (j+1))<(g.length:Int)))then (idx g j).bind fun e=>bif ((e.toNat:Int)==59)then (idx g (w64 (j+1))).bind fun f=>bif ((f.toNat:Int)==32)then (eff.cutL g (some i) (some j)).bind fun c=>(gd (h.length+([c]:List Str).length)).bind fun _=>some (.inl (g,h++([c]:List Str),w64 (j+2),w64 (j+1)))else some (.inl (g,h,i,w64 (j+1)))else some (.inl (g,h,i,w64 (j+1)))else ((eff.cutL g (some i) none).bind fun d=>(gd (h.length+([d]:List Str).length)).bind fun _=>some (h++([d]:List Str))).bind fun r=>some (.inr r)) (a,[],0,0)
def aae:Fsp:=⟨248,[shF .str],[slF .str],true,false,fun x=>ul x⟩
def qw(a:Int):Option (Bool):=(lS a (-1000000000) 1000000000).bind fun b=>some (b)
def Z4:Fsp:=⟨268,[shF .int],[shF .bool],true,false,fun x=>qw x⟩
def Es(a:Str)(b:Int):Option ((List Int)×Bool):=(jW a 32).bind fun e=>aA (fun(⟨h,i,j,k⟩:Int×(List Int)×(List Str)×Int)=>bif (decide (k<(j.length:Int)))then (idx j k).bind fun _=>(j[k.toNat]?).bind fun f=>(kF f).bind fun d=>bif (!d.2)then some (.inr (i,false))else (qw d.1).bind fun g=>bif (!g)then some (.inr (i,false))else (gd (i.length+[d.1].length)).bind fun _=>some (.inl (h,i++[d.1],j,w64 (k+1)))else some (.inr (i,((i.length:Int)==h)))) (b,[],e,0)
def agC:Fsp:=⟨249,[shF .str,shF .int],[slF .int,shF .bool],true,false,fun x=>Es x.1 x.2⟩
def sZ(a:List Str):Option (Bool):=aA (fun (b:(List Str)×Int)=>bif (decide (b.2<(b.1.length:Int)))then (eff.cutL b.1 none (some b.2)).bind fun c=>(idx b.1 b.2).bind fun d=>(lu c d).bind fun e=>bif e then some (.inr (false))else some (.inl (b.1,w64 (b.2+1)))else some (.inr (true))) (a,0)
def QB:Fsp:=⟨271,[slF .str],[shF .bool],true,false,fun x=>sZ x⟩
def uZ(a:List Str):Option (Bool):=aA (fun (b:(List Str)×Int)=>bif (decide (b.2<(b.1.length:Int)))then (idx b.1 b.2).bind fun c=>(bM c).bind fun d=>bif (!d)then some (.inr (false))else some (.inl (b.1,w64 (b.2+1)))else ((lS (b.1.length:Int) 1 4).bind fun e=>bif e then (sZ b.1).bind fun f=>some (f)else some (false)).bind fun r=>some (.inr r)) (a,0)
def XO:Fsp:=⟨251,[slF .str],[shF .bool],true,false,fun x=>uZ x⟩
def V3(a:dN)(b:dN):Option (Bool):=bif (decide (a.cell<b.cell))then some (true)else bif (a.cell==b.cell)then some ((decide (a.row<b.row)))else some (false)
def Z5:Fsp:=⟨321,[shT .origin,shT .origin],[shF .bool],true,false,fun x=>V3 x.1 x.2⟩
def sV(a:List dN):Option (Bool):=aA (fun (b:(List dN)×Int)=>bif (decide (b.2<(b.1.length:Int)))then (idx b.1 b.2).bind fun c=>bif (decide (c.cell<0))then some (.inr (false))else (idx b.1 b.2).bind fun d=>bif (decide (d.row<0))then some (.inr (false))else bif (decide (b.2>0))then (idx b.1 (w64 (b.2-1))).bind fun e=>(idx b.1 b.2).bind fun f=>(V3 e f).bind fun g=>bif (!g)then some (.inr (false))else some (.inl (b.1,w64 (b.2+1)))else some (.inl (b.1,w64 (b.2+1)))else some (.inr (true))) (a,0)
def P7:Fsp:=⟨298,[slF .origin],[shF .bool],true,false,fun x=>sV x⟩
def Ij(a:aQ):Option (Bool):=(uZ a.columns).bind fun e=>bif (!e)then some (false)else bif (decide ((a.rows.length:Int)>12))then some (false)else aA (fun(⟨i,j,k,l,m,o,p,q⟩:Int×Int×Int×Str×(List aQ)×(List Str)×(List cO)×Int)=>bif (decide (q<(p.length:Int)))then (idx p q).bind fun d=>bif ((d.cells.length:Int) != (o.length:Int))then some (.inr (false))else (sV d.orig).bind fun f=>bif (!f)then some (.inr (false))else aA (fun(⟨c,s,t,u,v,w,x,y,z,A,B⟩:Int×Int×Int×Str×(List aQ)×(List Str)×(List cO)×Int×(List Int)×(List dN)×Int)=>bif (decide (B<(z.length:Int)))then (idx z B).bind fun g=>(qw g).bind fun h=>bif (!h)then (some (.inr (false))).bind fun r=>some (.inr r)else some (.inl (c,s,t,u,v,w,x,y,z,A,w64 (B+1)))else some (.inr (.inl (c,s,t,u,v,w,x,w64 (y+1))))) (i,j,k,l,m,o,p,q,d.cells,d.orig,0)else some (.inr (true))) (a.kind,a.n,a.step,a.text,a.list,a.columns,a.rows,0)
def ac0:Fsp:=⟨270,[shT .val],[shF .bool],true,false,fun x=>Ij x⟩
def kG(a:aQ):Option (Bool):=bif (!(a.text==[]))then some (false)else bif (a.step != 0)then some (false)else bif (a.n==0)then (Ij (aQ.mk 5 a.n a.step a.text [] a.columns a.rows)).bind fun b=>some (b)else some (false)
def qR(a:aQ):Option (Bool):=bif (a.kind==5)&&a.list.isEmpty then kG a else none
def iY:Fsp:=⟨250,[shT .val],[shF .bool],true,false,fun x=>qR x⟩
def uV(a:Str):Option (aQ×Bool):=(ul a).bind fun c=>(idx c 0).bind fun _=>(c[0]?).bind fun e=>(jW e 32).bind fun f=>aA (fun(⟨i,j,k,l,m,n,o,p,q,s,t,u,v,w,x,y⟩:Int×Int×Int×Str×(List aQ)×(List Str)×(List cO)×(List Str)×Int×Int×Int×Str×(List aQ)×(List Str)×(List cO)×Int)=>bif (decide (y<(p.length:Int)))then (idx p y).bind fun _=>(p[y.toNat]?).bind fun g=>(Es g (w.length:Int)).bind fun d=>bif (!d.2)then some (.inr (aQ.mk 0 0 0 [] [] [] [],false))else (gd (x.length+([cO.mk d.1 []]).length)).bind fun _=>some (.inl (i,j,k,l,m,n,o,p,q,s,t,u,v,w,x++([cO.mk d.1 []]),w64 (y+1)))else ((qR (aQ.mk q s t u v w x)).bind fun h=>bif (!h)then some (aQ.mk 0 0 0 [] [] [] [],false)else some (aQ.mk q s t u v w x,true)).bind fun r=>some (.inr r)) (0,0,0,[],[],[],[],c,5,0,0,[],[],f,[],1)
def XG:Fsp:=⟨218,[shF .str],[shT .val,shF .bool],true,false,fun x=>uV x⟩
def zS(a:Str):Option (Int):=(ul a).bind fun c=>(idx c 0).bind fun _=>(c[0]?).bind fun e=>(jW e 32).bind fun d=>(uZ d).bind fun f=>bif (!f)then some (0)else aA (fun(⟨i,j,k⟩:(List Str)×(List Str)×Int)=>bif (decide (k<(i.length:Int)))then (idx i k).bind fun _=>(i[k.toNat]?).bind fun g=>(Es g (j.length:Int)).bind fun h=>bif (!h.2)then some (.inr (k))else bif (decide (k>12))then some (.inr (k))else some (.inl (i,j,w64 (k+1)))else some (.inr ((-1)))) (c,d,1)
def X4:Fsp:=⟨219,[shF .str],[shF .int],true,false,fun x=>zS x⟩
def sU(a:Int)(b:aQ):Option (aQ):=bif (b.kind != 5)then (lV 4).bind fun e=>some (dG e)else (qR (dG b)).bind fun f=>bif (!f)then (lV 4).bind fun g=>some (dG g)else bif (decide (a<0))then (lV 4).bind fun h=>some (dG h)else (Em (dG b)).bind fun d=>aA (fun(⟨j,k,l,m,o,p,q,r,s,t,u,v,w,x,y,z⟩:Int×Int×Int×Int×Str×(List aQ)×(List Str)×(List cO)×Int×Int×Int×Str×(List aQ)×(List Str)×(List cO)×Int)=>bif (decide (z<(y.length:Int)))then (idx y z).bind fun _=>(y[z.toNat]?).bind fun i=>some (.inl (j,k,l,m,o,p,q,r,s,t,u,v,w,x,y.set z.toNat (cO.mk i.cells [dN.mk j z]),w64 (z+1)))else some (.inr (aQ.mk s t u v w x y))) (a,0,0,0,[],[],[],[],d.kind,d.n,d.step,d.text,d.list,d.columns,d.rows,0)
def PO:Fsp:=⟨220,[shF .int,shT .val],[shT .val],true,false,fun x=>sU x.1 x.2⟩
def mV(a:ah):Option (bF):=(dm a).bind fun d=>bif (!d)then some (bF.mk 0 [] (af.mk 0 0 [] []) (aQ.mk 0 0 0 [] [] [] []) 0)else bif (a.kind==2)then (ql a.code).bind fun b=>bif (decide (b.2>=0))then (lV 8).bind fun e=>some (bF.mk 4 a.name (af.mk 0 0 [] []) (dG e) b.2)else some (bF.mk 2 a.name (aj b.1) (aQ.mk 0 0 0 [] [] [] []) 0)else bif (a.kind==3)then (fU a.n).bind fun f=>some (bF.mk 3 a.name (af.mk 0 0 [] []) (dG f) 0)else bif (a.kind==4)then (uV a.code).bind fun c=>bif (!c.2)then (lV 8).bind fun g=>(zS a.code).bind fun h=>some (bF.mk 4 a.name (af.mk 0 0 [] []) (dG g) h)else (sU a.id (dG c.1)).bind fun i=>some (bF.mk 3 a.name (af.mk 0 0 [] []) (dG i) 0)else some (bF.mk 1 [] (af.mk 0 0 [] []) (aQ.mk 0 0 0 [] [] [] []) 0)
def QA:Fsp:=⟨166,[shT .cell],[shT .part],false,false,fun x=>mV x⟩
def lX(a:ak):Option ((List bF)):=(dH a).bind fun d=>bif (!d)then some ([])else aA (fun(⟨f,g,h⟩:(List ah)×(List bF)×Int)=>bif (decide (h<(f.length:Int)))then (idx f h).bind fun e=>(mV e).bind fun c=>(gd (g.length+[lC c].length)).bind fun _=>some (.inl (f,g++[lC c],w64 (h+1)))else some (.inr (g))) (a.cells,[],0)
def UL:Fsp:=⟨127,[shT .notebook],[slF .part],false,true,fun x=>lX x⟩
def yw(a:List bF)(b:Str):Option ((List Int)):=aA (fun(⟨f,g,h,i⟩:(List bF)×Str×(List Int)×Int)=>bif (decide (i<(f.length:Int)))then (idx f i).bind fun d=>bif (d.kind != 1)then (idx f i).bind fun e=>bif (e.name==g)then (gd (h.length+[i].length)).bind fun _=>some (.inl (f,g,h++[i],w64 (i+1)))else some (.inl (f,g,h,w64 (i+1)))else some (.inl (f,g,h,w64 (i+1)))else some (.inr (h))) (a,b,[],0)
def aar:Fsp:=⟨167,[slF .part,shF .str],[slF .int],true,false,fun x=>yw x.1 x.2⟩
def BP(a:List bF)(b:Str):Option (Int):=(yw a b).bind fun c=>bif ((c.length:Int)==0)then some ((-1))else bif ((c.length:Int)==1)then (idx c 0).bind fun _=>(c[0]?).bind fun d=>some (d)else some ((-2))
def acI:Fsp:=⟨129,[slF .part,shF .str],[shF .int],true,false,fun x=>BP x.1 x.2⟩
def sS(a:bF):Option ((List Str)):=bif (a.kind != 2)then some ([])else (vz (aj a.expr)).bind fun b=>some (b)
def agj:Fsp:=⟨130,[shT .part],[slF .str],true,false,fun x=>sS x⟩
def En(a:List bF)(b:Str)(c:Str):Option (Int):=(BP a b).bind fun e=>bif (decide (e<0))then some (2)else aA (fun(⟨m,n,o,p,q⟩:(List bF)×Str×Str×Int×Int)=>bif (decide (q<(m.length:Int)))then (idx m q).bind fun f=>(sS (lC f)).bind fun g=>(lu g o).bind fun h=>bif h then some (.inr (3))else (idx m q).bind fun i=>bif (i.kind==2)then (idx m q).bind fun j=>(lU (aj j.expr) n o).bind fun k=>bif k then some (.inl (m,n,o,4,w64 (q+1)))else some (.inl (m,n,o,p,w64 (q+1)))else some (.inl (m,n,o,p,w64 (q+1)))else ((yw m o).bind fun l=>bif (decide ((l.length:Int)>0))then some (3)else some (p)).bind fun r=>some (.inr r)) (a,b,c,0,0)
def Z7:Fsp:=⟨128,[slF .part,shF .str,shF .str],[shF .int],true,false,fun x=>En x.1 x.2.1 x.2.2⟩
def nZ(a:ak)(b:Str)(c:Str):Option (ak×Int):=(jo a).bind fun i=>(dH a).bind fun A=>bif (!A)then some (i,1)else (bM b).bind fun B=>bif (!B)then some (i,1)else (bM c).bind fun C=>bif (!C)then some (i,1)else bif (b==c)then some (i,1)else (lX a).bind fun k=>(En k b c).bind fun l=>bif (l != 0)then some (i,l)else (BP k b).bind fun m=>(idx i.cells m).bind fun _=>(i.cells[m.toNat]?).bind fun j=>aA (fun(⟨D,E,F,G,H,I,J,K⟩:Str×Str×(List ah)×(List ah)×(List ah)×(List bF)×Int×Int)=>bif (decide (K<(I.length:Int)))then (idx I K).bind fun _=>(I[K.toNat]?).bind fun o=>(sS (lC o)).bind fun p=>(lu p D).bind fun q=>bif (!q)then some (.inl (D,E,F,G,H,I,J,w64 (K+1)))else (idx I K).bind fun _=>(I[K.toNat]?).bind fun s=>(kM (aj s.expr) D E).bind fun t=>(ig (aj t.1)).bind fun f=>(idx H K).bind fun _=>(H[K.toNat]?).bind fun e=>(idx (H.set K.toNat (ah.mk e.id e.version e.kind e.name f e.n)) K).bind fun _=>((H.set K.toNat (ah.mk e.id e.version e.kind e.name f e.n))[K.toNat]?).bind fun u=>bif (decide ((u.code.length:Int)>120))then (jo (ak.mk F)).bind fun v=>some (.inr (v,5))else (idx (H.set K.toNat (ah.mk e.id e.version e.kind e.name f e.n)) K).bind fun _=>((H.set K.toNat (ah.mk e.id e.version e.kind e.name f e.n))[K.toNat]?).bind fun w=>bif (w.version==999)then (idx (H.set K.toNat (ah.mk e.id e.version e.kind e.name f e.n)) K).bind fun _=>((H.set K.toNat (ah.mk e.id e.version e.kind e.name f e.n))[K.toNat]?).bind fun x=>(idx (H.set K.toNat (ah.mk e.id e.version e.kind e.name f e.n)) K).bind fun _=>((H.set K.toNat (ah.mk e.id e.version e.kind e.name f e.n))[K.toNat]?).bind fun g=>some (.inl (D,E,F,G,(H.set K.toNat (ah.mk e.id e.version e.kind e.name f e.n)).set K.toNat (ah.mk g.id (w64 (x.version+1)) g.kind g.name g.code g.n),I,6,w64 (K+1)))else (idx (H.set K.toNat (ah.mk e.id e.version e.kind e.name f e.n)) K).bind fun _=>((H.set K.toNat (ah.mk e.id e.version e.kind e.name f e.n))[K.toNat]?).bind fun y=>(idx (H.set K.toNat (ah.mk e.id e.version e.kind e.name f e.n)) K).bind fun _=>((H.set K.toNat (ah.mk e.id e.version e.kind e.name f e.n))[K.toNat]?).bind fun h=>some (.inl (D,E,F,G,(H.set K.toNat (ah.mk e.id e.version e.kind e.name f e.n)).set K.toNat (ah.mk h.id (w64 (y.version+1)) h.kind h.name h.code h.n),I,J,w64 (K+1)))else (bif (J != 0)then (jo (ak.mk F)).bind fun z=>some (z,J)else some (ak.mk H,0)).bind fun r=>some (.inr r)) (b,c,a.cells,[],i.cells.set m.toNat (ah.mk j.id j.version j.kind c j.code j.n),k,l,0)
def Ie:Fsp:=⟨91,[shT .notebook,shF .str,shF .str],[shT .notebook,shF .int],true,false,fun x=>nZ x.1 x.2.1 x.2.2⟩
def qp(a:ak)(b:Str)(c:Str):Option (ak×Bool):=(jo a).bind fun i=>aA (fun(⟨k,l,m,o,p,q⟩:Str×Str×(List ah)×(List ah)×(List ah)×Int)=>bif (decide (q<(p.length:Int)))then (idx p q).bind fun _=>(p[q.toNat]?).bind fun f=>some (.inl (k,l,m,o,p.set q.toNat (ah.mk f.id 1 f.kind f.name f.code f.n),w64 (q+1)))else ((nZ (ak.mk p) k l).bind fun h=>aA (fun(⟨d,s,t,u,v⟩:(List ah)×(List ah)×(List ah)×Int×Int)=>bif (decide (v<(t.length:Int)))then (idx d v).bind fun j=>(idx t v).bind fun _=>(t[v.toNat]?).bind fun g=>some (.inl (d,s,t.set v.toNat (ah.mk g.id j.version g.kind g.name g.code g.n),u,w64 (v+1)))else some (.inr (ak.mk t,(u==0)))) (m,o,h.1.cells,h.2,0)).bind fun r=>some (.inr r)) (b,c,a.cells,[],i.cells,0)
def XK:Fsp:=⟨56,[shT .notebook,shF .str,shF .str],[shT .notebook,shF .bool],true,false,fun x=>qp x.1 x.2.1 x.2.2⟩
def ac4(a:List aK)(b:Int)(c:Int):Option (Int):=aA (fun(⟨g,h,i,j⟩:(List aK)×Int×Int×Int)=>bif (decide (j<(g.length:Int)))then (idx g j).bind fun e=>bif (e.cell==h)then (idx g j).bind fun f=>bif (f.version==i)then some (.inr (j))else some (.inl (g,h,i,w64 (j+1)))else some (.inl (g,h,i,w64 (j+1)))else some (.inr ((-1)))) (a,b,c,0)
def aii:Fsp:=⟨93,[slF .tape,shF .int,shF .int],[shF .int],true,false,fun x=>ac4 x.1 x.2.1 x.2.2⟩
def xZ(a:aN)(b:aN):Option (Bool):=bif (a.kind==b.kind)then bif (a.n==b.n)then bif (a.text==b.text)then some ((a.time==b.time))else some (false)else some (false)else some (false)
def adf:Fsp:=⟨62,[shT .read,shT .read],[shF .bool],true,false,fun x=>xZ x.1 x.2⟩
def Ew(a:List aN)(b:aN):Option (aQ×Bool):=aA (fun(⟨h,i,j,k,l,m,o,p,q,r,s,t,u,v,w,x,y,z,A,B⟩:(List aN)×Int×Int×Int×Str×Int×Int×Int×Str×(List aQ)×(List Str)×(List cO)×Int×Int×Int×Str×(List aQ)×(List Str)×(List cO)×Int)=>bif (decide (B<(h.length:Int)))then (idx h B).bind fun d=>(xZ (lY d) (aN.mk i j k l (aQ.mk m o p q r s t))).bind fun e=>bif e then (idx h B).bind fun f=>(Em (dG f.result)).bind fun g=>some (.inr (dG g,true))else some (.inl (h,i,j,k,l,m,o,p,q,r,s,t,u,v,w,x,y,z,A,w64 (B+1)))else some (.inr (aQ.mk 0 0 0 [] [] [] [],false))) (a,b.kind,b.n,b.time,b.text,b.result.kind,b.result.n,b.result.step,b.result.text,b.result.list,b.result.columns,b.result.rows,0,0,0,[],[],[],[],0)
def aap:Fsp:=⟨132,[slF .read,shT .read],[shT .val,shF .bool],true,false,fun x=>Ew x.1 x.2⟩
def rG(a:List aN)(b:List aN):Option ((List aN)):=(uq a).bind fun e=>aA (fun(⟨i,j,k⟩:(List aN)×(List aN)×Int)=>bif (decide (k<(i.length:Int)))then (idx i k).bind fun f=>(Ew j (lY f)).bind fun g=>bif (!g.2)then (idx i k).bind fun h=>(Cm (lY h)).bind fun d=>(gd (j.length+[lY d].length)).bind fun _=>some (.inl (i,j++[lY d],w64 (k+1)))else some (.inl (i,j,w64 (k+1)))else some (.inr (j))) (b,e,0)
def Us:Fsp:=⟨94,[slF .read,slF .read],[slF .read],true,false,fun x=>rG x.1 x.2⟩
def zL(a:aK)(b:aK):Option (Bool):=bif (decide (a.cell<b.cell))then some (true)else bif (a.cell==b.cell)then some ((decide (a.version<b.version)))else some (false)
def XP:Fsp:=⟨95,[shT .tape,shT .tape],[shF .bool],true,false,fun x=>zL x.1 x.2⟩
def BQ(a:List aK)(b:Int)(c:Int)(d:List aN):Option ((List aK)):=(Ik a).bind fun h=>(ac4 a b c).bind fun i=>bif (decide (i>=0))then (idx h i).bind fun _=>(h[i.toNat]?).bind fun m=>(rG m.reads d).bind fun n=>(idx h i).bind fun _=>(h[i.toNat]?).bind fun l=>some (h.set i.toNat (aK.mk l.cell l.version n))else bif ((d.length:Int)==0)then some (h)else (rG [] d).bind fun o=>aA (fun(⟨p,q,s,t,u⟩:(List aK)×Int×Int×(List aN)×Int)=>bif (decide (u<(p.length:Int)))then (idx p u).bind fun _=>(p[u.toNat]?).bind fun j=>(zL (aK.mk q s t) j).bind fun k=>bif (!k)then some (.inl (p,q,s,t,w64 (u+1)))else ((cutAt p u).bind fun f=>((if u=(f:Int)then some ()else none)).bind fun _=>(gd (0+(p.take f).length)).bind fun _=>(gd (([]++(p.take f)).length+[aK.mk q s t].length)).bind fun _=>((if u=(f:Int)then some ()else none)).bind fun _=>(gd ((([]++(p.take f))++[aK.mk q s t]).length+(p.drop f).length)).bind fun _=>some ((([]++(p.take f))++[aK.mk q s t])++(p.drop f))).bind fun r=>some (.inr r)else ((cutAt p u).bind fun g=>((if u=(g:Int)then some ()else none)).bind fun _=>(gd (0+(p.take g).length)).bind fun _=>(gd (([]++(p.take g)).length+[aK.mk q s t].length)).bind fun _=>((if u=(g:Int)then some ()else none)).bind fun _=>(gd ((([]++(p.take g))++[aK.mk q s t]).length+(p.drop g).length)).bind fun _=>some ((([]++(p.take g))++[aK.mk q s t])++(p.drop g))).bind fun r=>some (.inr r)) (h,b,c,o,0)
def acK:Fsp:=⟨58,[slF .tape,shF .int,shF .int,slF .read],[slF .tape],true,false,fun x=>BQ x.1 x.2.1 x.2.2.1 x.2.2.2⟩
def kE(a:aB)(b:GOp)(c:List GOp):Option (aB):=(Ig a).bind fun d=>bif (b.kind==1)then (Gf b.edit c).bind fun h=>(jq a.notebook h).bind fun e=>bif (e.2 != 0)then some (d)else bif (h.kind==1)then (jX e.1 h.cell.id).bind fun m=>(nN b).bind fun r=>(idx e.1.cells m).bind fun _=>(e.1.cells[m.toNat]?).bind fun j=>some (aB.mk (ak.mk (e.1.cells.set m.toNat (ah.mk j.id r j.kind j.name j.code j.n))) d.tapes d.renames)else bif (h.kind==4)then (jX e.1 h.cell.id).bind fun o=>(nN b).bind fun s=>(idx e.1.cells o).bind fun _=>(e.1.cells[o.toNat]?).bind fun f=>some (aB.mk (ak.mk (e.1.cells.set o.toNat (ah.mk f.id s f.kind f.name f.code f.n))) d.tapes d.renames)else bif (h.kind==6)then (jX e.1 h.cell.id).bind fun i=>(nN b).bind fun p=>(idx e.1.cells i).bind fun _=>(e.1.cells[i.toNat]?).bind fun g=>some (aB.mk (ak.mk (e.1.cells.set i.toNat (ah.mk g.id p g.kind g.name g.code g.n))) d.tapes d.renames)else some (aB.mk e.1 d.tapes d.renames)else bif (b.kind==2)then (qp a.notebook b.src b.dst).bind fun k=>bif k.2 then (nO b).bind fun l=>(gd (d.renames.length+[l].length)).bind fun _=>some (aB.mk k.1 d.tapes (d.renames++[l]))else some (d)else bif (b.kind==3)then (BQ d.tapes b.cell b.version b.reads).bind fun q=>some (aB.mk d.notebook q d.renames)else some (d)
def ZK:Fsp:=⟨24,[shT .document,shT .op,slF .op],[shT .document],true,false,fun x=>kE x.1 x.2.1 x.2.2⟩
def oD(a:List GOp):Option (aB):=(wQ a).bind fun g=>bif (!g)then some (aB.mk (ak.mk []) [] [])else aA (fun(⟨l,m,n,o,p,q,s,t⟩:(List GOp)×(List ah)×(List aK)×(List GOp)×(List ah)×(List aK)×(List GOp)×Int)=>bif (decide (t<(l.length:Int)))then aA (fun(⟨c,u,v,w,x,y,z,A,B,C⟩:(List GOp)×(List ah)×(List aK)×(List GOp)×(List ah)×(List aK)×(List GOp)×Int×(List GOp)×Int)=>bif (decide (C<(z.length:Int)))then (idx c A).bind fun h=>(idx z C).bind fun _=>(z[C.toNat]?).bind fun i=>(oU c i).bind fun j=>(vw h c j).bind fun k=>bif (!k)then (idx z C).bind fun _=>(z[C.toNat]?).bind fun e=>(gd (B.length+[e].length)).bind fun _=>some (.inl (c,u,v,w,x,y,z,A,B++[e],w64 (C+1)))else some (.inl (c,u,v,w,x,y,z,A,B,w64 (C+1)))else ((idx c A).bind fun f=>(kE (aB.mk (ak.mk x) y z) f B).bind fun d=>some (.inl (c,u,v,w,d.notebook.cells,d.tapes,d.renames,w64 (A+1)))).bind fun r=>some (.inr r)) (l,m,n,o,p,q,s,t,[],0)else some (.inr (aB.mk (ak.mk p) q s))) (a,[],[],[],[],[],[],0)
def XC:Fsp:=⟨8,[slF .op],[shT .document],true,false,fun x=>oD x⟩
def vF(a:ak)(b:ak):Option (Bool):=bif ((a.cells.length:Int) != (b.cells.length:Int))then some (false)else aA (fun(⟨f,g,h⟩:(List ah)×(List ah)×Int)=>bif (decide (h<(f.length:Int)))then (idx f h).bind fun d=>(idx g h).bind fun e=>bif (!((d.id==e.id)&&((d.version==e.version)&&((d.kind==e.kind)&&((d.name==e.name)&&((d.code==e.code)&&(d.n==e.n)))))))then some (.inr (false))else some (.inl (f,g,w64 (h+1)))else some (.inr (true))) (a.cells,b.cells,0)
def KG:Fsp:=⟨25,[shT .notebook,shT .notebook],[shF .bool],true,false,fun x=>vF x.1 x.2⟩
def OX(a:List Int)(b:List Int):Option (Bool):=bif ((a.length:Int) != (b.length:Int))then some (false)else aA (fun(⟨f,g,h⟩:(List Int)×(List Int)×Int)=>bif (decide (h<(f.length:Int)))then (idx f h).bind fun d=>(idx g h).bind fun e=>bif (d != e)then some (.inr (false))else some (.inl (f,g,w64 (h+1)))else some (.inr (true))) (a,b,0)
def agA:Fsp:=⟨31,[slF .int,slF .int],[shF .bool],true,false,fun x=>OX x.1 x.2⟩
def PX(a:List Str)(b:List Str):Option (Bool):=bif ((a.length:Int) != (b.length:Int))then some (false)else aA (fun(⟨f,g,h⟩:(List Str)×(List Str)×Int)=>bif (decide (h<(f.length:Int)))then (idx f h).bind fun d=>(idx g h).bind fun e=>bif (!(d==e))then some (.inr (false))else some (.inl (f,g,w64 (h+1)))else some (.inr (true))) (a,b,0)
def acZ:Fsp:=⟨134,[slF .str,slF .str],[shF .bool],true,false,fun x=>PX x.1 x.2⟩
def F6(a:List dN)(b:List dN):Option (Bool):=bif ((a.length:Int) != (b.length:Int))then some (false)else aA (fun(⟨f,g,h⟩:(List dN)×(List dN)×Int)=>bif (decide (h<(f.length:Int)))then (idx f h).bind fun d=>(idx g h).bind fun e=>bif (!((d.cell==e.cell)&&(d.row==e.row)))then some (.inr (false))else some (.inl (f,g,w64 (h+1)))else some (.inr (true))) (a,b,0)
def XM:Fsp:=⟨135,[slF .origin,slF .origin],[shF .bool],true,false,fun x=>F6 x.1 x.2⟩
def PZ(rsL3Same:aQ->aQ->Bool->Option (Bool))(a:aQ)(b:aQ)(c:Bool):Option (Bool):=bif (a.kind != b.kind)then some (false)else bif (a.n != b.n)then some (false)else bif (a.step != b.step)then some (false)else bif (!(a.text==b.text))then some (false)else bif ((a.list.length:Int) != (b.list.length:Int))then some (false)else (PX a.columns b.columns).bind fun i=>bif (!i)then some (false)else bif ((a.rows.length:Int) != (b.rows.length:Int))then some (false)else aA (fun(⟨q,s,t,u,v,w,x,y,z,A,B,C,D,E,F,G⟩:Bool×Int×Int×Int×Str×(List aQ)×(List Str)×(List cO)×Int×Int×Int×Str×(List aQ)×(List Str)×(List cO)×Int)=>bif (decide (G<(w.length:Int)))then (idx w G).bind fun j=>(idx D G).bind fun k=>(rsL3Same (dG j) (dG k) q).bind fun l=>bif (!l)then some (.inr (false))else some (.inl (q,s,t,u,v,w,x,y,z,A,B,C,D,E,F,w64 (G+1)))else (aA (fun(⟨e,H,I,J,K,L,M,N,O,P,Q,R,S,T,U,V⟩:Bool×Int×Int×Int×Str×(List aQ)×(List Str)×(List cO)×Int×Int×Int×Str×(List aQ)×(List Str)×(List cO)×Int)=>bif (decide (V<(N.length:Int)))then (idx N V).bind fun m=>(idx U V).bind fun o=>(OX m.cells o.cells).bind fun p=>bif (!p)then some (.inr (false))else bif e then (idx N V).bind fun f=>(idx U V).bind fun g=>(F6 f.orig g.orig).bind fun h=>bif (!h)then some (.inr (false))else some (.inl (e,H,I,J,K,L,M,N,O,P,Q,R,S,T,U,w64 (V+1)))else some (.inl (e,H,I,J,K,L,M,N,O,P,Q,R,S,T,U,w64 (V+1)))else some (.inr (true))) (q,s,t,u,v,w,x,y,z,A,B,C,D,E,F,0)).bind fun r=>some (.inr r)) (c,a.kind,a.n,a.step,a.text,a.list,a.columns,a.rows,b.kind,b.n,b.step,b.text,b.list,b.columns,b.rows,0)
def BZ:Nat->(aQ->aQ->Bool->Option (Bool))
 | 0=>fun _ _ _=>none
 | n+1=>PZ (BZ n)
def XL(a:aQ)(b:aQ)(c:Bool):Option (Bool):=(BZ (siz a+siz b+1)) a b c
def agr:Fsp:=⟨98,[shT .val,shT .val,shF .bool],[shF .bool],true,false,fun x=>XL x.1 x.2.1 x.2.2⟩
def PY(n:Nat):Fsp:=⟨98,[shT .val,shT .val,shF .bool],[shF .bool],true,false,fun x=>(BZ n) x.1 x.2.1 x.2.2⟩
def wR(a:aQ)(b:aQ):Option (Bool):=(XL (dG a) (dG b) true).bind fun c=>some (c)
def UK:Fsp:=⟨63,[shT .val,shT .val],[shF .bool],true,false,fun x=>wR x.1 x.2⟩
def Ih(a:List aN)(b:List aN):Option (Bool):=bif ((a.length:Int) != (b.length:Int))then some (false)else aA (fun(⟨j,k,l⟩:(List aN)×(List aN)×Int)=>bif (decide (l<(j.length:Int)))then (idx j l).bind fun d=>(idx k l).bind fun e=>(xZ (lY d) (lY e)).bind fun f=>bif (!f)then some (.inr (false))else (idx j l).bind fun g=>(idx k l).bind fun h=>(wR (dG g.result) (dG h.result)).bind fun i=>bif (!i)then some (.inr (false))else some (.inl (j,k,w64 (l+1)))else some (.inr (true))) (a,b,0)
def acT:Fsp:=⟨32,[slF .read,slF .read],[shF .bool],true,false,fun x=>Ih x.1 x.2⟩
def Ku(a:List aK)(b:List aK):Option (Bool):=bif ((a.length:Int) != (b.length:Int))then some (false)else aA (fun(⟨k,l,m⟩:(List aK)×(List aK)×Int)=>bif (decide (m<(k.length:Int)))then (idx k m).bind fun d=>(idx l m).bind fun e=>bif (d.cell != e.cell)then some (.inr (false))else (idx k m).bind fun f=>(idx l m).bind fun g=>bif (f.version != g.version)then some (.inr (false))else (idx k m).bind fun h=>(idx l m).bind fun i=>(Ih h.reads i.reads).bind fun j=>bif (!j)then some (.inr (false))else some (.inl (k,l,w64 (m+1)))else some (.inr (true))) (a,b,0)
def ZV:Fsp:=⟨26,[slF .tape,slF .tape],[shF .bool],true,false,fun x=>Ku x.1 x.2⟩
def lW(a:aB)(b:aB):Option (Bool):=(vF a.notebook b.notebook).bind fun c=>bif c then (Ku a.tapes b.tapes).bind fun d=>some (d)else some (false)
def KH:Fsp:=⟨9,[shT .document,shT .document],[shF .bool],true,false,fun x=>lW x.1 x.2⟩
def IC(a:GOp)(b:GOp):Option (Bool):=bif (a.time != b.time)then some (false)else bif (a.by_ != b.by_)then some (false)else bif (a.kind != b.kind)then some (false)else (OX a.seen b.seen).bind fun c=>bif (!c)then some (false)else bif (!((a.edit.kind==b.edit.kind)&&((a.edit.pos==b.edit.pos)&&((a.edit.cell.id==b.edit.cell.id)&&((a.edit.cell.version==b.edit.cell.version)&&((a.edit.cell.kind==b.edit.cell.kind)&&((a.edit.cell.name==b.edit.cell.name)&&((a.edit.cell.code==b.edit.cell.code)&&(a.edit.cell.n==b.edit.cell.n)))))))))then some (false)else bif (a.src==b.src)then bif (a.dst==b.dst)then bif (a.cell==b.cell)then bif (a.version==b.version)then (Ih a.reads b.reads).bind fun d=>some (d)else some (false)else some (false)else some (false)else some (false)
def adD:Fsp:=⟨12,[shT .op,shT .op],[shF .bool],true,false,fun x=>IC x.1 x.2⟩
def FnReplayed(a:List Int):Option (Bool):=(big a).bind fun q=>bif q then some (true)else (pG a).bind fun e=>(oJ e).bind fun d=>(oD e).bind fun s=>(pR d s).bind fun t=>bif (!t)then some (false)else (oD e).bind fun u=>(lW d u).bind fun v=>bif (!v)then some (false)else (dH d.notebook).bind fun w=>bif (!w)then some (false)else (wQ e).bind fun x=>bif (!x)then bif ((d.notebook.cells.length:Int)==0)then some (((d.tapes.length:Int)==0))else some (false)else bif ((e.length:Int)==0)then bif ((d.notebook.cells.length:Int)==0)then some (((d.tapes.length:Int)==0))else some (false)else (eff.cutL e none (some (w64 ((e.length:Int)-1)))).bind fun h=>(oJ h).bind fun f=>aA (fun(⟨y,z,A,B,C,D,E,F,G,H⟩:(List GOp)×(List ah)×(List aK)×(List GOp)×Int×(List ah)×(List aK)×(List GOp)×(List GOp)×Int)=>bif (decide (H<(F.length:Int)))then aA (fun(⟨c,I,J,K,L,M,N,O,P,Q,R⟩:(List GOp)×(List ah)×(List aK)×(List GOp)×Int×(List ah)×(List aK)×(List GOp)×(List GOp)×Int×Int)=>bif (decide (R<L))then (idx c R).bind fun _=>(c[R.toNat]?).bind fun i=>(idx O Q).bind fun _=>(O[Q.toNat]?).bind fun j=>(IC i j).bind fun k=>bif k then (idx c L).bind fun _=>(c[L.toNat]?).bind fun l=>(yU l c R).bind fun m=>bif (!m)then (idx c R).bind fun _=>(c[R.toNat]?).bind fun g=>(gd (P.length+[g].length)).bind fun _=>some (.inl (c,I,J,K,L,M,N,O,P++[g],Q,w64 (R+1)))else some (.inl (c,I,J,K,L,M,N,O,P,Q,w64 (R+1)))else some (.inl (c,I,J,K,L,M,N,O,P,Q,w64 (R+1)))else some (.inr (.inl (c,I,J,K,L,M,N,O,P,w64 (Q+1))))) (y,z,A,B,C,D,E,F,G,H,0)else ((idx y C).bind fun _=>(y[C.toNat]?).bind fun n=>(mZ (aB.mk (ak.mk D) E F) n G).bind fun o=>(lW o (aB.mk (ak.mk z) A B)).bind fun p=>some (p)).bind fun r=>some (.inr r)) (e,d.notebook.cells,d.tapes,d.renames,w64 ((e.length:Int)-1),f.notebook.cells,f.tapes,f.renames,[],0)
def Zr:Fsp:=⟨3,[slF .u8],[shF .bool],true,false,fun x=>FnReplayed x⟩
end
end Go.Proofs.YtngjomkjlonfpaaGreatDoor
