import Derived.Test.YtkebfkahdmddpaaGreatDoorLink1
set_option linter.unusedVariables false
/- What the functions compute, by gen.py. -/
namespace Go.Proofs.YtkebfkahdmddpaaGreatDoor
noncomputable section
open Go.Abs Go.Proofs
abbrev shT(b:Base):Sh:=⟨true,.base b⟩
abbrev shF(b:Base):Sh:=⟨false,.base b⟩
abbrev slF(b:Base):Sh:=⟨false,.list (.base b)⟩
abbrev siz{α:Type}[SizeOf α](x:α):Nat:=SizeOf.sizeOf x
abbrev w64(n:Int):Int:=IntKind.i64.wrap n
abbrev w8(n:Int):Int:=IntKind.u8.wrap n
def pz:Isp:={ fid:=156,t:=.base .str,fn:=iK }
def big(a:List Int):Option (Bool):=some ((decide ((a.length:Int)>1048576)))
def ajz:Fsp:=⟨4,[slF .u8],[shF .bool],true,false,fun x=>big x⟩
def Ud(a:List Int):Option (bM):=ak (fun(⟨d,e,f⟩:(List Int)×Int×Int)=>bif (decide (f<(d.length:Int)))then bif (decide (f<4000))then (idx d f).bind fun c=>some (.inl (d,w64 (((BitVec.ofInt 64 (w64 ((w64 ((w64 (e*131))+(w64 (c))))+7)) &&& BitVec.ofInt 64 1073741823).toNat:Int)),w64 (f+1)))else some (.inr (bM.mk d 0 e))else some (.inr (bM.mk d 0 e))) (a,w64 (26583+(a.length:Int)),0)
def ado:Fsp:=⟨17,[slF .u8],[shT .cur],false,false,fun x=>Ud x⟩
def uh(a:bM):Option (bM×Int):=bif (decide (a.i<(a.b.length:Int)))then (idx a.b a.i).bind fun c=>some (bM.mk a.b (w64 (a.i+1)) (w64 ((w64 (a.h*6364136223846793005))+1442695040888963407)),w64 (((BitVec.ofInt 64 (w64 ((w64 (((BitVec.ofInt 64 (w64 (((BitVec.ofInt 64 ((w64 ((w64 (a.h*6364136223846793005))+1442695040888963407)).fdiv (2 ^ 33)) ^^^ BitVec.ofInt 64 ((w64 ((w64 (a.h*6364136223846793005))+1442695040888963407)).fdiv (2 ^ 45))).toNat:Int))) &&& BitVec.ofInt 64 255).toNat:Int)))+(w64 (c)))) &&& BitVec.ofInt 64 255).toNat:Int)))else some (bM.mk a.b a.i (w64 ((w64 (a.h*6364136223846793005))+1442695040888963407)),w64 (((BitVec.ofInt 64 (w64 (((BitVec.ofInt 64 ((w64 ((w64 (a.h*6364136223846793005))+1442695040888963407)).fdiv (2 ^ 33)) ^^^ BitVec.ofInt 64 ((w64 ((w64 (a.h*6364136223846793005))+1442695040888963407)).fdiv (2 ^ 45))).toNat:Int))) &&& BitVec.ofInt 64 255).toNat:Int)))
def abv:Fsp:=⟨69,[shT .cur],[shT .cur,shF .int],false,false,fun x=>uh x⟩
def bH(a:bM)(b:Int):Option (bM×Int):=bif (decide (b<=0))then some (a,0)else bif (decide (b<=256))then (uh a).bind fun c=>(abL c.2 b).bind fun h=>some (c.1,h)else (uh a).bind fun d=>(uh d.1).bind fun e=>(uh e.1).bind fun f=>(uh f.1).bind fun g=>(abL (w64 ((w64 ((w64 ((w64 (d.2*16777216))+(w64 (e.2*65536))))+(w64 (f.2*256))))+g.2)) b).bind fun i=>some (g.1,i)
def YD:Fsp:=⟨40,[shT .cur,shF .int],[shT .cur,shF .int],false,false,fun x=>bH x.1 x.2⟩
def pR(a:bM)(b:Int):Option (bM×Bool):=(bH a b).bind fun c=>some (c.1,(c.2==0))
def abr:Fsp:=⟨19,[shT .cur,shF .int],[shT .cur,shF .bool],false,false,fun x=>pR x.1 x.2⟩
def dK(a:bM)(b:List Str):Option (bM×Str):=(bH a (b.length:Int)).bind fun c=>(idx b c.2).bind fun d=>some (c.1,d)
def abq:Fsp:=⟨39,[shT .cur,slF .str],[shT .cur,shF .str],false,false,fun x=>dK x.1 x.2⟩
def mZ(a:bM)(b:List Int):Option (bM×Int):=(bH a (b.length:Int)).bind fun c=>(idx b c.2).bind fun d=>some (c.1,d)
def Uc:Fsp:=⟨41,[shT .cur,slF .int],[shT .cur,shF .int],false,false,fun x=>mZ x.1 x.2⟩
def vM(rsL10Left:af->Int->Option (Int))(a:af)(b:Int):Option (Int):=ak (fun(⟨f,g,h,i,j,k⟩:Int×Int×Int×Str×(List af)×Int)=>bif (decide (k<(j.length:Int)))then bif (decide (f>=0))then (idx j k).bind fun d=>(rsL10Left (ah d) f).bind fun e=>some (.inl (e,g,h,i,j,w64 (k+1)))else some (.inr (f))else some (.inr (f))) (w64 (b-1),a.kind,a.n,a.text,a.args,0)
def oU:Nat->(af->Int->Option (Int))
 | 0=>fun _ _=>none
 | n+1=>vM (oU n)
def zT(a:af)(b:Int):Option (Int):=(oU (siz a+1)) a b
def YZ:Fsp:=⟨85,[shT .expr,shF .int],[shF .int],true,false,fun x=>zT x.1 x.2⟩
def Jl(n:Nat):Fsp:=⟨85,[shT .expr,shF .int],[shF .int],true,false,fun x=>(oU n) x.1 x.2⟩
def Dz(a:Int)(b:Int):Option (Int):=bif (decide (a>b))then some (a)else some (b)
def adp:Fsp:=⟨126,[shF .int,shF .int],[shF .int],true,false,fun x=>Dz x.1 x.2⟩
def ja(rsNestingOf:af->Option (Int))(a:af):Option (Int):=ak (fun(⟨f,g,h,i,j,k⟩:Int×Int×Str×(List af)×Int×Int)=>bif (decide (k<(i.length:Int)))then (idx i k).bind fun c=>(rsNestingOf (ah c)).bind fun d=>(Dz j d).bind fun e=>some (.inl (f,g,h,i,e,w64 (k+1)))else some (.inr (w64 (j+1)))) (a.kind,a.n,a.text,a.args,0,0)
def eP:Nat->(af->Option (Int))
 | 0=>fun _=>none
 | n+1=>ja (eP n)
def sD(a:af):Option (Int):=(eP (siz a+1)) a
def TW:Fsp:=⟨86,[shT .expr],[shF .int],true,false,fun x=>sD x⟩
def CU(n:Nat):Fsp:=⟨86,[shT .expr],[shF .int],true,false,fun x=>(eP n) x⟩
def zK(a:Str):Option (Bool):=ak (fun (b:Str×Int)=>bif (decide (b.2<(b.1.length:Int)))then (idx b.1 b.2).bind fun d=>bif (decide ((d.toNat:Int)>=97))then (idx b.1 b.2).bind fun c=>(idx b.1 b.2).bind fun e=>bif (decide ((e.toNat:Int)>=48))then (idx b.1 b.2).bind fun f=>bif (!(decide ((c.toNat:Int)<=122)))then bif (b.2==0)then some (.inr (false))else bif (!(decide ((f.toNat:Int)<=57)))then some (.inr (false))else some (.inl (b.1,w64 (b.2+1)))else some (.inl (b.1,w64 (b.2+1)))else bif (!(decide ((c.toNat:Int)<=122)))then bif (b.2==0)then some (.inr (false))else some (.inr (false))else some (.inl (b.1,w64 (b.2+1)))else (idx b.1 b.2).bind fun g=>bif (decide ((g.toNat:Int)>=48))then (idx b.1 b.2).bind fun h=>bif (b.2==0)then some (.inr (false))else bif (!(decide ((h.toNat:Int)<=57)))then some (.inr (false))else some (.inl (b.1,w64 (b.2+1)))else bif (b.2==0)then some (.inr (false))else some (.inr (false))else some (.inr ((decide ((b.1.length:Int)>0))))) (a,0)
def YB:Fsp:=⟨54,[shF .str],[shF .bool],true,false,fun x=>zK x⟩
def lU(a:List Str)(b:Str):Option (Bool):=ak (fun(⟨e,f,g⟩:(List Str)×Str×Int)=>bif (decide (g<(e.length:Int)))then (idx e g).bind fun d=>bif (d==f)then some (.inr (true))else some (.inl (e,f,w64 (g+1)))else some (.inr (false))) (a,b,0)
def adq:Fsp:=⟨28,[slF .str,shF .str],[shF .bool],true,false,fun x=>lU x.1 x.2⟩
def qj:Option ((List Str)):=some (([[108,101,116],[105,110],[105,102],[116,104,101,110],[101,108,115,101],[102,111,114],[100,111],[108,101,110],[115,117,109],[116,97,107,101],[115,107,105,112],[114,97,110,103,101],[110,116,104],[119,104,101,114,101],[107,101,101,112],[97,100,100],[103,114,111,117,112],[106,111,105,110],[99,111,108,117,109,110],[114,111,119,115],[99,108,111,99,107],[99,104,97,110,99,101],[102,105,108,101],[116,97,98,108,101]]:List Str))
def Py:Fsp:=⟨83,[],[slF .str],true,false,fun x=>qj⟩
def kS(a:Str):Option (Bool):=(qj).bind fun b=>(lU b a).bind fun c=>some (c)
def PK:Fsp:=⟨55,[shF .str],[shF .bool],true,false,fun x=>kS x⟩
def aX(a:Str):Option (Bool):=(zK a).bind fun b=>bif b then bif (decide ((a.length:Int)<=8))then (kS a).bind fun c=>some ((!c))else some (false)else some (false)
def ML:Fsp:=⟨26,[shF .str],[shF .bool],true,false,fun x=>aX x⟩
def qm(a:Int)(b:Int)(c:Int):Option (Bool):=bif (decide (a>=b))then some ((decide (a<=c)))else some (false)
def afB:Fsp:=⟨34,[shF .int,shF .int,shF .int],[shF .bool],true,false,fun x=>qm x.1 x.2.1 x.2.2⟩
def dw(a:Str):Option (Bool):=ak (fun (b:Str×Int)=>bif (decide (b.2<(b.1.length:Int)))then (idx b.1 b.2).bind fun c=>bif (decide ((c.toNat:Int)<32))then some (.inr (false))else (idx b.1 b.2).bind fun d=>bif (decide ((d.toNat:Int)>126))then some (.inr (false))else (idx b.1 b.2).bind fun e=>bif ((e.toNat:Int)==34)then some (.inr (false))else some (.inl (b.1,w64 (b.2+1)))else some (.inr ((decide ((b.1.length:Int)<=20))))) (a,0)
def MK:Fsp:=⟨135,[shF .str],[shF .bool],true,false,fun x=>dw x⟩
def cu(a:Str):Option (Int):=bif (a==[99,108,111,99,107])then some (0)else bif (a==[108,101,110])then some (1)else bif (a==[115,117,109])then some (1)else bif (a==[114,111,119,115])then some (1)else bif (a==[99,104,97,110,99,101])then some (1)else bif (a==[102,105,108,101])then some (1)else bif (a==[116,97,107,101])then some (2)else bif (a==[115,107,105,112])then some (2)else bif (a==[114,97,110,103,101])then some (2)else bif (a==[110,116,104])then some (2)else bif (a==[107,101,101,112])then some (2)else bif (a==[99,111,108,117,109,110])then some (2)else bif (a==[116,97,98,108,101])then some (2)else bif (a==[119,104,101,114,101])then some (3)else bif (a==[103,114,111,117,112])then some (3)else bif (a==[106,111,105,110])then some (3)else bif (a==[97,100,100])then some (4)else some ((-1))
def HY:Fsp:=⟨160,[shF .str],[shF .int],true,false,fun x=>cu x⟩
def jd(a:af):Option (Bool):=bif (a.kind==1)then bif ((a.args.length:Int)==0)then bif (a.text==[])then (qm a.n 0 1000000000).bind fun b=>some (b)else some (false)else some (false)else bif (a.kind==2)then bif ((a.args.length:Int)==0)then bif (a.n==0)then (dw a.text).bind fun c=>some (c)else some (false)else some (false)else bif (a.kind==3)then bif ((a.args.length:Int)==0)then bif (a.n==0)then (aX a.text).bind fun d=>some (d)else some (false)else some (false)else bif (a.kind==4)then bif (a.n==0)then bif (a.text==[])then some ((decide ((a.args.length:Int)<=8)))else some (false)else some (false)else bif (a.kind==5)then bif (a.n==0)then (cu a.text).bind fun e=>some (((a.args.length:Int)==e))else some (false)else bif (a.kind==6)then bif (a.text==[])then bif ((a.args.length:Int)==2)then (qm a.n 1 5).bind fun f=>some (f)else some (false)else some (false)else bif (a.kind==7)then bif (a.n==0)then bif ((a.args.length:Int)==2)then (aX a.text).bind fun g=>some (g)else some (false)else some (false)else bif (a.kind==9)then bif (a.n==0)then bif ((a.args.length:Int)==2)then (aX a.text).bind fun h=>some (h)else some (false)else some (false)else bif (a.kind==8)then bif (a.n==0)then bif (a.text==[])then some (((a.args.length:Int)==3))else some (false)else some (false)else some (false)
def YU:Fsp:=⟨127,[shT .expr],[shF .bool],true,false,fun x=>jd x⟩
def oh(rsL10All:af->Option (Bool))(a:af):Option (Bool):=ak (fun(⟨f,g,h,i,j⟩:Int×Int×Str×(List af)×Int)=>bif (decide (j<(i.length:Int)))then (idx i j).bind fun c=>(rsL10All (ah c)).bind fun d=>bif (!d)then some (.inr (false))else some (.inl (f,g,h,i,w64 (j+1)))else ((jd (af.mk f g h i)).bind fun e=>some (e)).bind fun r=>some (.inr r)) (a.kind,a.n,a.text,a.args,0)
def jI:Nat->(af->Option (Bool))
 | 0=>fun _=>none
 | n+1=>oh (jI n)
def uy(a:af):Option (Bool):=(jI (siz a+1)) a
def abA:Fsp:=⟨87,[shT .expr],[shF .bool],true,false,fun x=>uy x⟩
def MJ(n:Nat):Fsp:=⟨87,[shT .expr],[shF .bool],true,false,fun x=>(jI n) x⟩
def bV(a:af):Option (Bool):=(zT (ah a) 40).bind fun b=>bif (decide (b>=0))then (sD (ah a)).bind fun c=>bif (decide (c<=8))then (uy (ah a)).bind fun d=>some (d)else some (false)else some (false)
def MN:Fsp:=⟨57,[shT .expr],[shF .bool],true,false,fun x=>bV x⟩
def dM(a:Int):Option (Str):=bif (a==0)then some ([48])else ak (fun(⟨c,d,e⟩:Int×Bool×Str)=>bif (c != 0)then bif (decide ((c.tmod 10)<0))then (gd ((bytesOf [w8 (w64 (48+(w64 (0-(c.tmod 10)))))]).length+e.length)).bind fun _=>some (.inl (w64 (c.tdiv 10),d,(bytesOf [w8 (w64 (48+(w64 (0-(c.tmod 10)))))])++e))else (gd ((bytesOf [w8 (w64 (48+(c.tmod 10)))]).length+e.length)).bind fun _=>some (.inl (w64 (c.tdiv 10),d,(bytesOf [w8 (w64 (48+(c.tmod 10)))])++e))else (bif d then (gd ([45].length+e.length)).bind fun _=>some ([45]++e)else some (e)).bind fun r=>some (.inr r)) (a,(decide (a<0)),[])
def Uk:Fsp:=⟨89,[shF .int],[shF .str],true,false,fun x=>dM x⟩
def Fh(a:List Str)(b:Str):Option (Str):=ak (fun(⟨f,g,h,i⟩:(List Str)×Str×(List Int)×Int)=>bif (decide (i<(f.length:Int)))then bif (decide (i>0))then (gd (h.length+(jX g).length)).bind fun _=>(idx f i).bind fun d=>(gd ((h++(jX g)).length+(jX d).length)).bind fun _=>some (.inl (f,g,(h++(jX g))++(jX d),w64 (i+1)))else (idx f i).bind fun e=>(gd (h.length+(jX e).length)).bind fun _=>some (.inl (f,g,h++(jX e),w64 (i+1)))else some (.inr (bytesOf h))) (a,b,[],0)
def afE:Fsp:=⟨104,[slF .str,shF .str],[shF .str],true,false,fun x=>Fh x.1 x.2⟩
def og(a:af):Option (Int):=bif (a.kind==7)then some (0)else bif (a.kind==8)then some (0)else bif (a.kind==9)then some (0)else bif (a.kind==6)then bif (a.n==4)then some (1)else bif (a.n==5)then some (1)else bif (a.n==1)then some (2)else bif (a.n==2)then some (2)else bif (a.n==3)then some (3)else some (4)else some (4)
def Yy:Fsp:=⟨91,[shT .expr],[shF .int],true,false,fun x=>og x⟩
def rH(a:Int):Option (Str):=(qm a 1 5).bind fun b=>bif (!b)then some ([63])else (idx ([[],[43],[45],[42],[60],[61,61]]:List Str) a).bind fun _=>(([[],[43],[45],[42],[60],[61,61]]:List Str)[a.toNat]?).bind fun c=>some (c)
def VN:Fsp:=⟨93,[shF .int],[shF .str],true,false,fun x=>rH x⟩
def vJ(rsL12Text:af->Option (Str))(rsL12List:(List af)->Option (Str))(rsL12At:af->Int->Option (Str))(a:af):Option (Str):=bif (a.kind==1)then (dM a.n).bind fun A=>some (A)else bif (a.kind==2)then (gd ([34].length+a.text.length)).bind fun _=>(gd (([34]++a.text).length+[34].length)).bind fun _=>some (([34]++a.text)++[34])else bif (a.kind==3)then some (a.text)else bif (a.kind==4)then (rsL12List a.args).bind fun p=>(gd ([91].length+p.length)).bind fun _=>(gd (([91]++p).length+[93].length)).bind fun _=>some (([91]++p)++[93])else bif (a.kind==5)then (gd (a.text.length+[40].length)).bind fun _=>(rsL12List a.args).bind fun q=>(gd ((a.text++[40]).length+q.length)).bind fun _=>(gd (((a.text++[40])++q).length+[41].length)).bind fun _=>some (((a.text++[40])++q)++[41])else bif (a.kind==7)then (gd ([108,101,116,32].length+a.text.length)).bind fun _=>(gd (([108,101,116,32]++a.text).length+[32,61,32].length)).bind fun _=>(idx a.args 0).bind fun B=>(rsL12Text (ah B)).bind fun m=>(gd ((([108,101,116,32]++a.text)++[32,61,32]).length+m.length)).bind fun _=>(gd (((([108,101,116,32]++a.text)++[32,61,32])++m).length+[32,105,110,32].length)).bind fun _=>(idx a.args 1).bind fun C=>(rsL12Text (ah C)).bind fun z=>(gd ((((([108,101,116,32]++a.text)++[32,61,32])++m)++[32,105,110,32]).length+z.length)).bind fun _=>some ((((([108,101,116,32]++a.text)++[32,61,32])++m)++[32,105,110,32])++z)else bif (a.kind==9)then (gd ([102,111,114,32].length+a.text.length)).bind fun _=>(gd (([102,111,114,32]++a.text).length+[32,105,110,32].length)).bind fun _=>(idx a.args 0).bind fun D=>(rsL12Text (ah D)).bind fun o=>(gd ((([102,111,114,32]++a.text)++[32,105,110,32]).length+o.length)).bind fun _=>(gd (((([102,111,114,32]++a.text)++[32,105,110,32])++o).length+[32,100,111,32].length)).bind fun _=>(idx a.args 1).bind fun r=>(rsL12Text (ah r)).bind fun i=>(gd ((((([102,111,114,32]++a.text)++[32,105,110,32])++o)++[32,100,111,32]).length+i.length)).bind fun _=>some ((((([102,111,114,32]++a.text)++[32,105,110,32])++o)++[32,100,111,32])++i)else bif (a.kind==8)then (idx a.args 0).bind fun s=>(rsL12Text (ah s)).bind fun b=>(gd ([105,102,32].length+b.length)).bind fun _=>(gd (([105,102,32]++b).length+[32,116,104,101,110,32].length)).bind fun _=>(idx a.args 1).bind fun t=>(rsL12Text (ah t)).bind fun e=>(gd ((([105,102,32]++b)++[32,116,104,101,110,32]).length+e.length)).bind fun _=>(gd (((([105,102,32]++b)++[32,116,104,101,110,32])++e).length+[32,101,108,115,101,32].length)).bind fun _=>(idx a.args 2).bind fun u=>(rsL12Text (ah u)).bind fun j=>(gd ((((([105,102,32]++b)++[32,116,104,101,110,32])++e)++[32,101,108,115,101,32]).length+j.length)).bind fun _=>some ((((([105,102,32]++b)++[32,116,104,101,110,32])++e)++[32,101,108,115,101,32])++j)else (og (ah a)).bind fun f=>bif (f==1)then (idx a.args 0).bind fun v=>(rsL12At (ah v) 2).bind fun c=>(gd (c.length+[32].length)).bind fun _=>(rH a.n).bind fun g=>(gd ((c++[32]).length+g.length)).bind fun _=>(gd (((c++[32])++g).length+[32].length)).bind fun _=>(idx a.args 1).bind fun w=>(rsL12At (ah w) (w64 (f+1))).bind fun k=>(gd ((((c++[32])++g)++[32]).length+k.length)).bind fun _=>some ((((c++[32])++g)++[32])++k)else (idx a.args 0).bind fun x=>(rsL12At (ah x) f).bind fun d=>(gd (d.length+[32].length)).bind fun _=>(rH a.n).bind fun h=>(gd ((d++[32]).length+h.length)).bind fun _=>(gd (((d++[32])++h).length+[32].length)).bind fun _=>(idx a.args 1).bind fun y=>(rsL12At (ah y) (w64 (f+1))).bind fun l=>(gd ((((d++[32])++h)++[32]).length+l.length)).bind fun _=>
 some ((((d++[32])++h)++[32])++l)
def vK(rsL12Text:af->Option (Str))(rsL12List:(List af)->Option (Str))(rsL12At:af->Int->Option (Str))(a:List af):Option (Str):=ak (fun(⟨f,g,h⟩:(List af)×(List Str)×Int)=>bif (decide (h<(f.length:Int)))then (idx f h).bind fun d=>(rsL12Text (ah d)).bind fun c=>(gd (g.length+([c]:List Str).length)).bind fun _=>some (.inl (f,g++([c]:List Str),w64 (h+1)))else ((Fh g [44,32]).bind fun e=>some (e)).bind fun r=>some (.inr r)) (a,[],0)
def E8(rsL12Text:af->Option (Str))(rsL12List:(List af)->Option (Str))(rsL12At:af->Int->Option (Str))(a:af)(b:Int):Option (Str):=(rsL12Text (ah a)).bind fun c=>(og (ah a)).bind fun d=>bif (decide (d<b))then (gd ([40].length+c.length)).bind fun _=>(gd (([40]++c).length+[41].length)).bind fun _=>some (([40]++c)++[41])else some (c)
def bg:Nat->(af->Option (Str))×((List af)->Option (Str))×(af->Int->Option (Str))
 | 0=>(fun _=>none,fun _=>none,fun _ _=>none)
 | n+1=>(vJ (bg n).1 (bg n).2.1 (bg n).2.2,vK (bg n).1 (bg n).2.1 (bg n).2.2,E8 (bg n).1 (bg n).2.1 (bg n).2.2)
def E5(a:af):Option (Str):=(bg (siz a+1)).1 a
def YL:Fsp:=⟨59,[shT .expr],[shF .str],true,false,fun x=>E5 x⟩
def Jf(n:Nat):Fsp:=⟨59,[shT .expr],[shF .str],true,false,fun x=>(bg n).1 x⟩
def adr(a:List af):Option (Str):=(bg (siz a+1)).2.1 a
def YM:Fsp:=⟨90,[slF .expr],[shF .str],true,false,fun x=>adr x⟩
def Jg(n:Nat):Fsp:=⟨90,[slF .expr],[shF .str],true,false,fun x=>(bg n).2.1 x⟩
def aio(a:af)(b:Int):Option (Str):=(bg (siz a+1)).2.2 a b
def ads:Fsp:=⟨92,[shT .expr,shF .int],[shF .str],true,false,fun x=>aio x.1 x.2⟩
def Rk(n:Nat):Fsp:=⟨92,[shT .expr,shF .int],[shF .str],true,false,fun x=>(bg n).2.2 x.1 x.2⟩
def iF(a:af):Option (Str):=(bV (ah a)).bind fun b=>bif (!b)then some ([])else (E5 (ah a)).bind fun c=>some (c)
def PN:Fsp:=⟨30,[shT .expr],[shF .str],true,false,fun x=>iF x⟩
def jE(a:Int):Option (af):=some (af.mk 1 a [] [])
def abz:Fsp:=⟨145,[shF .int],[shT .expr],true,false,fun x=>jE x⟩
def zS(a:Str):Option (af):=some (af.mk 3 0 a [])
def YV:Fsp:=⟨171,[shF .str],[shT .expr],true,false,fun x=>zS x⟩
def zU(a:bM)(b:List Str):Option (bM×af):=(bH a 5).bind fun c=>bif (c.2==0)then (dK c.1 ([[97],[97,98],[],[98]]:List Str)).bind fun d=>some (d.1,af.mk 2 0 d.2 [])else bif (c.2==1)then (bH c.1 6).bind fun e=>(jE e.2).bind fun h=>some (e.1,ah h)else bif (c.2==2)then (bH c.1 6).bind fun f=>(jE f.2).bind fun i=>some (f.1,ah i)else (dK c.1 b).bind fun g=>(zS g.2).bind fun j=>some (g.1,ah j)
def Y0:Fsp:=⟨140,[shT .cur,slF .str],[shT .cur,shT .expr],false,true,fun x=>zU x.1 x.2⟩
def iw(a:Int)(b:af)(c:af):Option (af):=some (af.mk 6 a [] [ah b,ah c])
def adv:Fsp:=⟨141,[shF .int,shT .expr,shT .expr],[shT .expr],false,true,fun x=>iw x.1 x.2.1 x.2.2⟩
def sG(a:bM)(b:List Str):Option (bM×af):=(bH a 4).bind fun f=>ak (fun(⟨l,m,n,o,p,q,r,s,t,u,v,w,x,y⟩:(List Int)×Int×Int×(List Str)×Int×Int×Str×(List af)×Int×Int×Str×(List af)×Int×Int)=>bif (decide (y<x))then (bH (bM.mk l m n) 5).bind fun j=>(jE j.2).bind fun d=>(gd (w.length+[ah d].length)).bind fun _=>(pR j.1 4).bind fun e=>bif e.2 then (zU e.1 o).bind fun g=>(idx (w++[ah d]) y).bind fun _=>((w++[ah d])[y.toNat]?).bind fun k=>some (.inl (g.1.b,g.1.i,g.1.h,o,p,q,r,s,t,u,v,(w++[ah d]).set y.toNat (ah g.2),x,w64 (y+1)))else some (.inl (e.1.b,e.1.i,e.1.h,o,p,q,r,s,t,u,v,w++[ah d],x,w64 (y+1)))else some (.inr (bM.mk l m n,af.mk t u v w))) (f.1.b,f.1.i,f.1.h,b,0,0,[],[],4,0,[],[],f.2,0)
def YX:Fsp:=⟨142,[shT .cur,slF .str],[shT .cur,shT .expr],false,true,fun x=>sG x.1 x.2⟩
def kF(a:Str)(b:List af):Option (af):=some (af.mk 5 0 a b)
def Y2:Fsp:=⟨143,[shF .str,slF .expr],[shT .expr],false,false,fun x=>kF x.1 x.2⟩
def jb(a:bM)(b:af)(c:af):Option (bM×af):=(pR a 2).bind fun d=>bif d.2 then some (d.1,ah b)else some (d.1,ah c)
def Pz:Fsp:=⟨144,[shT .cur,shT .expr,shT .expr],[shT .cur,shT .expr],false,false,fun x=>jb x.1 x.2.1 x.2.2⟩
def oV(a:bM):Option (bM×af):=(dK a ([[97],[97],[98],[99],[120]]:List Str)).bind fun b=>some (b.1,af.mk 2 0 b.2 [])
def Uh:Fsp:=⟨146,[shT .cur],[shT .cur,shT .expr],false,true,fun x=>oV x⟩
def rO(a:bM):Option (bM×af):=(bH a 4).bind fun d=>ak (fun(⟨l,m,n,o,p,q,s,t,u,v,w,x,y⟩:(List Int)×Int×Int×Int×Int×Str×(List af)×Int×Int×Str×(List af)×Int×Int)=>bif (decide (y<x))then (bH (bM.mk l m n) 3).bind fun f=>(jE f.2).bind fun g=>(bH f.1 4).bind fun e=>(jE e.2).bind fun j=>(gd (w.length+([af.mk 4 0 [] [ah g,ah j]]).length)).bind fun _=>some (.inl (e.1.b,e.1.i,e.1.h,o,p,q,s,t,u,v,w++([af.mk 4 0 [] [ah g,ah j]]),x,w64 (y+1)))else ((kF [116,97,98,108,101] ([af.mk 2 0 [97,32,98] [],af.mk t u v w])).bind fun k=>some (bM.mk l m n,ah k)).bind fun r=>some (.inr r)) (d.1.b,d.1.i,d.1.h,0,0,[],[],4,0,[],[],d.2,0)
def V7:Fsp:=⟨147,[shT .cur],[shT .cur,shT .expr],false,false,fun x=>rO x⟩
def Hy(rsL10Make:bM->(List Str)->Int->Option (bM×af))(a:bM)(b:List Str)(c:Int):Option (bM×af):=bif (decide (c<2))then (zU a b).bind fun r1=>some (r1.1,ah r1.2)else (bH a 13).bind fun d=>bif (d.2==0)then (bH d.1 5).bind fun r3=>(rsL10Make r3.1 b (w64 (c-1))).bind fun r4=>(rsL10Make r4.1 b (w64 (c-1))).bind fun r5=>(iw (w64 (1+r3.2)) (ah r4.2) (ah r5.2)).bind fun r6=>some (r5.1,ah r6)else bif (d.2==1)then (bH d.1 5).bind fun r7=>(rsL10Make r7.1 b (w64 (c-1))).bind fun r8=>(rsL10Make r8.1 b (w64 (c-1))).bind fun r9=>(iw (w64 (1+r7.2)) (ah r8.2) (ah r9.2)).bind fun O=>some (r9.1,ah O)else bif (d.2==2)then (idx b 0).bind fun P=>(dK d.1 ([[117],[118],P]:List Str)).bind fun f=>(rsL10Make f.1 b (w64 (c-1))).bind fun g=>(gd (([f.2]:List Str).length+b.length)).bind fun _=>(rsL10Make g.1 (([f.2]:List Str)++b) (w64 (c-1))).bind fun h=>some (h.1,af.mk 7 0 f.2 [ah g.2,ah h.2])else bif (d.2==3)then (rsL10Make d.1 b (w64 (c-1))).bind fun i=>(rsL10Make i.1 b (w64 (c-1))).bind fun j=>(rsL10Make j.1 b (w64 (c-1))).bind fun k=>some (k.1,af.mk 8 0 [] [ah i.2,ah j.2,ah k.2])else bif (d.2==4)then (idx b 0).bind fun Q=>(dK d.1 ([[117],[118],Q]:List Str)).bind fun e=>(sG e.1 b).bind fun l=>(gd (([e.2,e.2]:List Str).length+b.length)).bind fun _=>(rsL10Make l.1 (([e.2,e.2]:List Str)++b) (w64 (c-1))).bind fun m=>some (m.1,af.mk 9 0 e.2 [ah l.2,ah m.2])else bif (d.2==5)then (sG d.1 b).bind fun n=>some (n.1,ah n.2)else bif (d.2==6)then (dK d.1 ([[108,101,110],[115,117,109]]:List Str)).bind fun o=>(sG o.1 b).bind fun p=>(rsL10Make p.1 b (w64 (c-1))).bind fun q=>(jb q.1 (ah p.2) (ah q.2)).bind fun r=>(kF o.2 [ah r.2]).bind fun R=>some (r.1,ah R)else bif (d.2==7)then (dK d.1 ([[116,97,107,101],[115,107,105,112],[110,116,104],[116,97,107,101]]:List Str)).bind fun s=>(bH s.1 4).bind fun t=>(jE t.2).bind fun S=>(sG t.1 b).bind fun u=>(bH u.1 9).bind fun v=>(jE v.2).bind fun T=>(bH v.1 4).bind fun w=>(jE w.2).bind fun U=>(kF [114,97,110,103,101] [ah T,ah U]).bind fun V=>(jb w.1 (ah u.2) (ah V)).bind fun x=>(kF s.2 [ah S,ah x.2]).bind fun W=>some (x.1,ah W)else bif (d.2==8)then (oV d.1).bind fun y=>(bH y.1 3).bind fun z=>(jE z.2).bind fun X=>(rO z.1).bind fun A=>(rsL10Make A.1 b (w64 (c-1))).bind fun B=>(jb B.1 (ah A.2) (ah B.2)).bind fun C=>(kF [119,104,101,114,101] [ah y.2,ah X,ah C.2]).bind fun Y=>some (C.1,ah Y)else bif (d.2==9)then (oV d.1).bind fun D=>(oV D.1).bind fun E=>(rO E.1).bind fun F=>(rsL10Make F.1 b (w64 (c-1))).bind fun G=>(jb G.1 (ah F.2) (ah G.2)).bind fun H=>(kF [103,114,111,117,112] [ah D.2,ah E.2,ah H.2]).bind fun Z=>some (H.1,ah Z)else bif (d.2==10)then (rO d.1).bind fun I=>(rsL10Make I.1 b (w64 (c-1))).bind fun J=>(jb J.1 (ah I.2) (ah J.2)).bind fun K=>(kF [114,111,119,115] [ah K.2]).bind fun r55=>some (K.1,ah r55)else bif (d.2==11)then (bH d.1 6).bind fun L=>(jE (w64 (1+L.2))).bind fun r57=>(kF [99,104,97,110,99,101] [ah r57]).bind fun r58=>some (L.1,ah r58)else (kF [99,108,111,99,107] []).bind fun r59=>(dK d.1 ([[102],[103],[104]]:List Str)).bind fun M=>(kF [102,105,108,101] ([af.mk 2 0 M.2 []])).bind fun r61=>(jb M.1 (ah r59) (ah r61)).bind fun N=>some (N.1,ah N.2)
def lG:Nat->(bM->(List Str)->Int->Option (bM×af))
 | 0=>fun _ _ _=>none
 | n+1=>Hy (lG n)
def MG(a:bM)(b:List Str)(c:Int):Option (bM×af):=(lG (siz a+siz b+1)) a b c
def YW:Fsp:=⟨103,[shT .cur,slF .str,shF .int],[shT .cur,shT .expr],false,false,fun x=>MG x.1 x.2.1 x.2.2⟩
def Jk(n:Nat):Fsp:=⟨103,[shT .cur,slF .str,shF .int],[shT .cur,shT .expr],false,false,fun x=>(lG n) x.1 x.2.1 x.2.2⟩
def EW(a:bM):Option (bM×Str):=(bH a 9).bind fun b=>bif (b.2==0)then (dK b.1 ([[97],[98],[99],[100],[101]]:List Str)).bind fun i=>(gd (i.2.length+[32,43,32].length)).bind fun _=>(dK i.1 ([[97],[98],[99],[100],[101]]:List Str)).bind fun l=>(gd ((i.2++[32,43,32]).length+l.2.length)).bind fun _=>some (l.1,(i.2++[32,43,32])++l.2)else bif (b.2==1)then (dK b.1 ([[97],[98],[99],[100],[101]]:List Str)).bind fun j=>(gd (j.2.length+[32,43,32].length)).bind fun _=>(dK j.1 ([[97],[98],[99],[100],[101]]:List Str)).bind fun m=>(gd ((j.2++[32,43,32]).length+m.2.length)).bind fun _=>some (m.1,(j.2++[32,43,32])++m.2)else bif (b.2==2)then (dK b.1 ([[97],[98],[99],[100],[101]]:List Str)).bind fun n=>(gd ([108,101,110,40,34,97,98,34,41,32,42,32].length+n.2.length)).bind fun _=>some (n.1,[108,101,110,40,34,97,98,34,41,32,42,32]++n.2)else bif (b.2==3)then (bH b.1 3).bind fun o=>(dM o.2).bind fun e=>(gd ([119,104,101,114,101,40,34,97,34,44,32].length+e.length)).bind fun _=>(gd (([119,104,101,114,101,40,34,97,34,44,32]++e).length+[44,32].length)).bind fun _=>(dK o.1 ([[97],[98],[99],[100],[101]]:List Str)).bind fun k=>(gd ((([119,104,101,114,101,40,34,97,34,44,32]++e)++[44,32]).length+k.2.length)).bind fun _=>(gd (((([119,104,101,114,101,40,34,97,34,44,32]++e)++[44,32])++k.2).length+[41].length)).bind fun _=>some (k.1,((([119,104,101,114,101,40,34,97,34,44,32]++e)++[44,32])++k.2)++[41])else bif (b.2==4)then (dK b.1 ([[97],[98],[99],[100],[101]]:List Str)).bind fun c=>(gd ([103,114,111,117,112,40,34,97,34,44,32,34,98,34,44,32].length+c.2.length)).bind fun _=>(gd (([103,114,111,117,112,40,34,97,34,44,32,34,98,34,44,32]++c.2).length+[41].length)).bind fun _=>some (c.1,([103,114,111,117,112,40,34,97,34,44,32,34,98,34,44,32]++c.2)++[41])else bif (b.2==5)then (dK b.1 ([[99,108,111,99,107,40,41],[99,104,97,110,99,101,40,54,41],[102,105,108,101,40,34,102,34,41],[99,104,97,110,99,101,40,51,41,32,43,32,99,104,97,110,99,101,40,51,41],[99,108,111,99,107,40,41,32,43,32,97]]:List Str)).bind fun f=>some (f.1,f.2)else bif (b.2==6)then (dK b.1 ([[49,32,43],[108,101,116,32,120,32,61,32,105,110,32,50],[115,117,109,40,91,49,44,32,50,93],[55],[105,102,32,97,32,60,32,51,32,116,104,101,110,32,98,32,101,108,115,101,32,99],[102,111,114,32,117,32,105,110,32,91,49,44,32,50,44,32,51,93,32,100,111,32,117,32,42,32,97],[106,111,105,110,40,34,97,34,44,32,100,44,32,101,41],[115,117,109,40,99,111,108,117,109,110,40,34,98,34,44,32,100,41,41],[108,101,116,32,97,32,61,32,52,32,105,110,32,97,32,43,32,98]]:List Str)).bind fun g=>some (g.1,g.2)else (MG b.1 ([[97],[98],[99],[100],[101]]:List Str) 2).bind fun d=>(iF (ah d.2)).bind fun h=>bif (decide ((h.length:Int)>120))then some (d.1,[49])else some (d.1,h)
def YE:Fsp:=⟨70,[shT .cur],[shT .cur,shF .str],false,false,fun x=>EW x⟩
def jv(a:Str)(b:Int):Option ((List Str)):=ak (fun(⟨g,h,i,j,k⟩:Str×Int×(List Str)×Int×Int)=>bif (decide (k<=(g.length:Int)))then bif (k==(g.length:Int))then (eff.cutL g (some j) (some k)).bind fun d=>(gd (i.length+([d]:List Str).length)).bind fun _=>some (.inl (g,h,i++([d]:List Str),w64 (k+1),w64 (k+1)))else (idx g k).bind fun f=>bif ((f.toNat:Int)==h)then (eff.cutL g (some j) (some k)).bind fun e=>(gd (i.length+([e]:List Str).length)).bind fun _=>some (.inl (g,h,i++([e]:List Str),w64 (k+1),w64 (k+1)))else some (.inl (g,h,i,j,w64 (k+1)))else some (.inr (i))) (a,b,[],0,0)
def TP:Fsp:=⟨98,[shF .str,shF .u8],[slF .str],true,false,fun x=>jv x.1 x.2⟩
def Bl(a:bM)(b:Str)(c:List Str):Option (bM×Str):=(bH a (w64 ((b.length:Int)+1))).bind fun e=>(bH e.1 6).bind fun d=>bif (d.2==0)then (eff.cutL b none (some e.2)).bind fun g=>(dK d.1 c).bind fun f=>(gd (g.length+f.2.length)).bind fun _=>(eff.cutL b (some e.2) none).bind fun h=>(gd ((g++f.2).length+h.length)).bind fun _=>some (f.1,(g++f.2)++h)else bif (d.2==1)then (eff.cutL b none (some e.2)).bind fun i=>some (d.1,i)else some (d.1,b)
def VX:Fsp:=⟨105,[shT .cur,shF .str,slF .str],[shT .cur,shF .str],false,false,fun x=>Bl x.1 x.2.1 x.2.2⟩
def EX(a:bM):Option (bM×Str):=(dK a ([[97,32,98],[97,32,98],[97,32,98],[97,32,99],[98],[97,32,98,32,99]]:List Str)).bind fun j=>(bH j.1 4).bind fun f=>(jv j.2 32).bind fun n=>ak (fun(⟨o,p,q,s,t,u,v⟩:(List Int)×Int×Int×Str×Int×Int×Int)=>bif (decide (v<t))then ak (fun(⟨d,w,x,y,z,A,B,C,D⟩:(List Int)×Int×Int×Str×Int×Int×Int×(List Str)×Int)=>bif (decide (D<A))then (bH (bM.mk d w x) 4).bind fun g=>(dM g.2).bind fun l=>(gd (C.length+([l]:List Str).length)).bind fun _=>some (.inl (g.1.b,g.1.i,g.1.h,y,z,A,B,C++([l]:List Str),w64 (D+1)))else ((gd (y.length+[59,32].length)).bind fun _=>(Fh C [32]).bind fun m=>(gd ((y++[59,32]).length+m.length)).bind fun _=>some (.inl (d,w,x,(y++[59,32])++m,z,A,w64 (B+1)))).bind fun r=>some (.inr r)) (o,p,q,s,t,u,v,[],0)else ((pR (bM.mk o p q) 12).bind fun k=>bif k.2 then (Bl k.1 s ([[59],[32],[120],[59,32,49],[45]]:List Str)).bind fun e=>some (e.1,e.2)else some (k.1,s)).bind fun r=>some (.inr r)) (f.1.b,f.1.i,f.1.h,j.2,f.2,(n.length:Int),0)
def YG:Fsp:=⟨71,[shT .cur],[shT .cur,shF .str],false,false,fun x=>EX x⟩
def vI(a:bM)(b:Int):Option (bM×aj):=(bH a 3).bind fun e=>(mZ e.1 [1,2,2,2,2,3,4,4]).bind fun c=>(dK c.1 ([[97],[98],[99],[100],[101]]:List Str)).bind fun d=>bif (c.2==1)then (dK d.1 ([[65,32,104,101,97,100,105,110,103],[],[115,101,101,32,34,97,34,32,97,110,100,32,98]]:List Str)).bind fun f=>some (f.1,aj.mk b (w64 (1+e.2)) c.2 [] f.2 0)else bif (c.2==2)then (EW d.1).bind fun g=>some (g.1,aj.mk b (w64 (1+e.2)) c.2 d.2 g.2 0)else bif (c.2==3)then (bH d.1 9).bind fun h=>some (h.1,aj.mk b (w64 (1+e.2)) c.2 d.2 [] h.2)else bif (c.2==4)then (EX d.1).bind fun i=>some (i.1,aj.mk b (w64 (1+e.2)) c.2 d.2 i.2 0)else some (d.1,aj.mk b (w64 (1+e.2)) c.2 d.2 [] 0)
def YI:Fsp:=⟨42,[shT .cur,shF .int],[shT .cur,shT .cell],false,false,fun x=>vI x.1 x.2⟩
def zL(a:bM)(b:Int):Option (bM×aC):=(bH a (w64 (b+1))).bind fun o=>ak (fun(⟨t,u,v,w,x,y,z⟩:(List Int)×Int×Int×(List aj)×(List aj)×Int×Int)=>bif (decide (z<y))then (vI (bM.mk t u v) (w64 (z+1))).bind fun d=>bif (d.2.kind != 1)then (pR d.1 10).bind fun q=>bif (!q.2)then (idx ([[97],[98],[99],[100],[101],[97,49],[98,49],[99,49]]:List Str) z).bind fun _=>(([[97],[98],[99],[100],[101],[97,49],[98,49],[99,49]]:List Str)[z.toNat]?).bind fun r=>(bH q.1 (w64 ((x.length:Int)+1))).bind fun k=>(eff.cutL x none (some k.2)).bind fun p=>(gd (0+p.length)).bind fun _=>(gd (([]++p).length+[aj.mk d.2.id d.2.version d.2.kind r d.2.code d.2.n].length)).bind fun _=>(eff.cutL x (some k.2) none).bind fun s=>(gd ((([]++p)++[aj.mk d.2.id d.2.version d.2.kind r d.2.code d.2.n]).length+s.length)).bind fun _=>some (.inl (k.1.b,k.1.i,k.1.h,w,(([]++p)++[aj.mk d.2.id d.2.version d.2.kind r d.2.code d.2.n])++s,y,w64 (z+1)))else (bH q.1 (w64 ((x.length:Int)+1))).bind fun e=>(eff.cutL x none (some e.2)).bind fun g=>(gd (0+g.length)).bind fun _=>(gd (([]++g).length+[d.2].length)).bind fun _=>(eff.cutL x (some e.2) none).bind fun l=>(gd ((([]++g)++[d.2]).length+l.length)).bind fun _=>some (.inl (e.1.b,e.1.i,e.1.h,w,(([]++g)++[d.2])++l,y,w64 (z+1)))else (bH d.1 (w64 ((x.length:Int)+1))).bind fun f=>(eff.cutL x none (some f.2)).bind fun j=>(gd (0+j.length)).bind fun _=>(gd (([]++j).length+[d.2].length)).bind fun _=>(eff.cutL x (some f.2) none).bind fun m=>(gd ((([]++j)++[d.2]).length+m.length)).bind fun _=>some (.inl (f.1.b,f.1.i,f.1.h,w,(([]++j)++[d.2])++m,y,w64 (z+1)))else some (.inr (bM.mk t u v,aC.mk x))) (o.1.b,o.1.i,o.1.h,[],[],o.2,0)
def YF:Fsp:=⟨38,[shT .cur,shF .int],[shT .cur,shT .notebook],false,true,fun x=>zL x.1 x.2⟩
def EU(a:bM)(b:Int):Option (bM×aC):=(zL a b).bind fun f=>ak (fun(⟨k,l,m,o,p,q⟩:(List Int)×Int×Int×(List aj)×(List aj)×Int)=>bif (decide (q<(p.length:Int)))then (idx p q).bind fun _=>(p[q.toNat]?).bind fun j=>bif (j.kind==2)then (pR (bM.mk k l m) 4).bind fun d=>bif d.2 then (dK d.1 ([[99,108,111,99,107,40,41],[99,104,97,110,99,101,40,57,41],[102,105,108,101,40,34,102,34,41,32,43,32,97],[99,104,97,110,99,101,40,52,41,32,43,32,99,108,111,99,107,40,41],[97,32,43,32,98],[98,32,42,32,50],[91,97,44,32,98,93],[119,104,101,114,101,40,34,97,34,44,32,49,44,32,99,41]]:List Str)).bind fun g=>(idx p q).bind fun _=>(p[q.toNat]?).bind fun e=>some (.inl (g.1.b,g.1.i,g.1.h,o,p.set q.toNat (aj.mk e.id e.version e.kind e.name g.2 e.n),w64 (q+1)))else some (.inl (d.1.b,d.1.i,d.1.h,o,p,w64 (q+1)))else some (.inl (k,l,m,o,p,w64 (q+1)))else some (.inr (bM.mk k l m,aC.mk p))) (f.1.b,f.1.i,f.1.h,[],f.2.cells,0)
def YC:Fsp:=⟨18,[shT .cur,shF .int],[shT .cur,shT .notebook],false,true,fun x=>EU x.1 x.2⟩
def EY(a:bM):Option (bM×aC):=(zL a 6).bind fun c=>bif ((c.2.cells.length:Int)==0)then some (c.1,c.2)else (bH c.1 (c.2.cells.length:Int)).bind fun e=>(bH e.1 12).bind fun f=>bif (f.2==0)then (mZ f.1 [0,1,1000]).bind fun t=>(idx c.2.cells e.2).bind fun _=>(c.2.cells[e.2.toNat]?).bind fun o=>some (t.1,aC.mk (c.2.cells.set e.2.toNat (aj.mk t.2 o.version o.kind o.name o.code o.n)))else bif (f.2==1)then (mZ f.1 [0,999,1000]).bind fun u=>(idx c.2.cells e.2).bind fun _=>(c.2.cells[e.2.toNat]?).bind fun p=>some (u.1,aC.mk (c.2.cells.set e.2.toNat (aj.mk p.id u.2 p.kind p.name p.code p.n)))else bif (f.2==2)then (bH f.1 6).bind fun q=>(idx c.2.cells e.2).bind fun _=>(c.2.cells[e.2.toNat]?).bind fun g=>some (q.1,aC.mk (c.2.cells.set e.2.toNat (aj.mk g.id g.version q.2 g.name g.code g.n)))else bif (f.2==3)then (idx c.2.cells e.2).bind fun _=>(c.2.cells[e.2.toNat]?).bind fun r=>(gd (r.code.length+[10].length)).bind fun _=>(idx c.2.cells e.2).bind fun _=>(c.2.cells[e.2.toNat]?).bind fun j=>some (f.1,aC.mk (c.2.cells.set e.2.toNat (aj.mk j.id j.version j.kind j.name (r.code++[10]) j.n)))else bif (f.2==4)then (dK f.1 ([[108,101,116],[],[120]]:List Str)).bind fun s=>(idx c.2.cells e.2).bind fun _=>(c.2.cells[e.2.toNat]?).bind fun k=>some (s.1,aC.mk (c.2.cells.set e.2.toNat (aj.mk k.id k.version k.kind s.2 k.code k.n)))else bif (f.2==5)then ak (fun(⟨v,w,x,y,z⟩:(List Int)×Int×Int×(List aj)×(List aj))=>(bH (bM.mk v w x) 2).bind fun m=>bif (decide ((z.length:Int)<(w64 (8+m.2))))then (vI m.1 (w64 (20+(z.length:Int)))).bind fun l=>(gd (z.length+[l.2].length)).bind fun _=>some (.inl (l.1.b,l.1.i,l.1.h,y,z++[l.2]))else some (.inr (m.1,aC.mk z))) (f.1.b,f.1.i,f.1.h,[],c.2.cells)else some (f.1,c.2)
def YJ:Fsp:=⟨20,[shT .cur],[shT .cur,shT .notebook],false,true,fun x=>EY x⟩
def vH(a:bM):Option (bM×Str×Str):=(dK a ([[97],[98],[99],[100]]:List Str)).bind fun b=>(dK b.1 ([[122],[117],[116,111,116,97,108],[97],[101],[108,101,116],[118]]:List Str)).bind fun c=>some (c.1,b.2,c.2)
def VS:Fsp:=⟨21,[shT .cur],[shT .cur,shF .str,shF .str],false,false,fun x=>vH x⟩
def jF(a:List Int):Option (aC×Str×Str):=(Ud a).bind fun g=>(EU g 7).bind fun c=>(pR c.1 16).bind fun b=>bif b.2 then (EY b.1).bind fun d=>(vH d.1).bind fun e=>some (d.2,e.2.1,e.2.2)else (vH b.1).bind fun f=>some (c.2,f.2.1,f.2.2)
def yV:Fsp:=⟨5,[slF .u8],[shT .notebook,shF .str,shF .str],false,true,fun x=>jF x⟩
def mM(a:aC):Option (aC):=(gd (0+a.cells.length)).bind fun _=>some (aC.mk ([]++a.cells))
def J8:Fsp:=⟨23,[shT .notebook],[shT .notebook],true,false,fun x=>mM x⟩
def nG(a:aC)(b:Int):Option (Int):=ak (fun(⟨e,f,g,h⟩:Int×(List aj)×Int×Int)=>bif (decide (h<g))then (idx f h).bind fun d=>bif (d.id==e)then some (.inr (h))else some (.inl (e,f,g,w64 (h+1)))else some (.inr ((-1)))) (b,a.cells,(a.cells.length:Int),0)
def Vf:Fsp:=⟨36,[shT .notebook,shF .int],[shF .int],true,false,fun x=>nG x.1 x.2⟩
def kN(a:Int)(b:Int)(c:Int):Option (Bool):=bif (decide (b<=a))then some ((decide (a<=c)))else some (false)
def acd:Fsp:=⟨112,[shF .int,shF .int,shF .int],[shF .bool],true,false,fun x=>kN x.1 x.2.1 x.2.2⟩
def KO(a:Str):Option (Bool):=ak (fun (b:Str×Int)=>bif (decide (b.2<(b.1.length:Int)))then (idx b.1 b.2).bind fun c=>bif (decide ((c.toNat:Int)>=97))then (idx b.1 b.2).bind fun d=>bif (!(decide ((d.toNat:Int)<=122)))then bif (b.2==0)then some (.inr (false))else (idx b.1 b.2).bind fun e=>bif (decide ((e.toNat:Int)<48))then some (.inr (false))else (idx b.1 b.2).bind fun f=>bif (decide ((f.toNat:Int)>57))then some (.inr (false))else some (.inl (b.1,w64 (b.2+1)))else some (.inl (b.1,w64 (b.2+1)))else bif (b.2==0)then some (.inr (false))else (idx b.1 b.2).bind fun g=>bif (decide ((g.toNat:Int)<48))then some (.inr (false))else (idx b.1 b.2).bind fun h=>bif (decide ((h.toNat:Int)>57))then some (.inr (false))else some (.inl (b.1,w64 (b.2+1)))else ((kN (b.1.length:Int) 1 8).bind fun i=>some (i)).bind fun r=>some (.inr r)) (a,0)
def ack:Fsp:=⟨74,[shF .str],[shF .bool],true,false,fun x=>KO x⟩
def fD(a:Str):Option (Int):=bif (a==[99,108,111,99,107])then some (0)else bif (a==[108,101,110])then some (1)else bif (a==[115,117,109])then some (1)else bif (a==[114,111,119,115])then some (1)else bif (a==[99,104,97,110,99,101])then some (1)else bif (a==[102,105,108,101])then some (1)else bif (a==[116,97,107,101])then some (2)else bif (a==[115,107,105,112])then some (2)else bif (a==[114,97,110,103,101])then some (2)else bif (a==[110,116,104])then some (2)else bif (a==[107,101,101,112])then some (2)else bif (a==[99,111,108,117,109,110])then some (2)else bif (a==[116,97,98,108,101])then some (2)else bif (a==[119,104,101,114,101])then some (3)else bif (a==[103,114,111,117,112])then some (3)else bif (a==[106,111,105,110])then some (3)else bif (a==[97,100,100])then some (4)else some ((-1))
def IA:Fsp:=⟨114,[shF .str],[shF .int],true,false,fun x=>fD x⟩
def jT(a:Str):Option (Bool):=bif (a==[108,101,116])then some (true)else bif (a==[105,110])then some (true)else bif (a==[105,102])then some (true)else bif (a==[116,104,101,110])then some (true)else bif (a==[101,108,115,101])then some (true)else bif (a==[102,111,114])then some (true)else bif (a==[100,111])then some (true)else (fD a).bind fun b=>some ((decide (b>=0)))
def Qq:Fsp:=⟨75,[shF .str],[shF .bool],true,false,fun x=>jT x⟩
def aT(a:Str):Option (Bool):=(KO a).bind fun b=>bif b then (jT a).bind fun c=>some ((!c))else some (false)
def Oz:Fsp:=⟨45,[shF .str],[shF .bool],true,false,fun x=>aT x⟩
def gm(a:Str):Option (Bool):=ak (fun (b:Str×Int)=>bif (decide (b.2<(b.1.length:Int)))then (idx b.1 b.2).bind fun c=>bif (decide ((c.toNat:Int)<32))then some (.inr (false))else (idx b.1 b.2).bind fun d=>bif (decide ((d.toNat:Int)>126))then some (.inr (false))else some (.inl (b.1,w64 (b.2+1)))else some (.inr ((decide ((b.1.length:Int)<=120))))) (a,0)
def OC:Fsp:=⟨113,[shF .str],[shF .bool],true,false,fun x=>gm x⟩
def bY(a:aj):Option (Bool):=(kN a.id 1 999).bind fun b=>bif (!b)then some (false)else (kN a.version 1 999).bind fun c=>bif (!c)then some (false)else (gm a.code).bind fun d=>bif (!d)then some (false)else bif (a.kind==1)then bif (a.name==[])then some ((a.n==0))else some (false)else bif (a.kind==2)then (aT a.name).bind fun e=>bif e then some ((a.n==0))else some (false)else bif (a.kind==4)then (aT a.name).bind fun f=>bif f then some ((a.n==0))else some (false)else bif (a.kind==3)then (aT a.name).bind fun g=>bif g then bif (a.code==[])then (kN a.n 0 100).bind fun h=>some (h)else some (false)else some (false)else some (false)
def OB:Fsp:=⟨73,[shT .cell],[shF .bool],true,false,fun x=>bY x⟩
def jO(a:aC):Option (Bool):=ak (fun(⟨f,g,h,i⟩:(List aj)×(List aj)×Int×Int)=>bif (decide (i<h))then (idx g i).bind fun c=>(bY c).bind fun d=>bif (!d)then some (.inr (false))else (nG (aC.mk f) c.id).bind fun e=>bif (e != i)then some (.inr (false))else some (.inl (f,g,h,w64 (i+1)))else some (.inr ((decide ((f.length:Int)<=8))))) (a.cells,a.cells,(a.cells.length:Int),0)
def Ee:Fsp:=⟨44,[shT .notebook],[shF .bool],true,false,fun x=>jO x⟩
def yj(a:Int):Option (bJ):=some (bJ.mk 1 a 0 [] [] [] [])
def Ox:Fsp:=⟨106,[shF .int],[shT .val],true,false,fun x=>yj x⟩
def Ai(riNodeCount:af->Option (Int))(a:af):Option (Int):=ak (fun(⟨e,f,g,h⟩:Int×(List af)×Int×Int)=>bif (decide (h<g))then (idx f h).bind fun c=>(riNodeCount (ah c)).bind fun d=>some (.inl (w64 (e+d),f,g,w64 (h+1)))else some (.inr (e))) (1,a.args,(a.args.length:Int),0)
def nT:Nat->(af->Option (Int))
 | 0=>fun _=>none
 | n+1=>Ai (nT n)
def Ec(a:af):Option (Int):=(nT (siz a+1)) a
def U6:Fsp:=⟨117,[shT .expr],[shF .int],true,false,fun x=>Ec x⟩
def Dj(n:Nat):Fsp:=⟨117,[shT .expr],[shF .int],true,false,fun x=>(nT n) x⟩
def Ak(riNestingOf:af->Option (Int))(a:af):Option (Int):=ak (fun(⟨e,f,g,h⟩:Int×(List af)×Int×Int)=>bif (decide (h<g))then (idx f h).bind fun d=>(riNestingOf (ah d)).bind fun c=>some (.inl ((if c>e then c else e),f,g,w64 (h+1)))else some (.inr (w64 (e+1)))) (0,a.args,(a.args.length:Int),0)
def qE:Nat->(af->Option (Int))
 | 0=>fun _=>none
 | n+1=>Ak (qE n)
def Ed(a:af):Option (Int):=(qE (siz a+1)) a
def U7:Fsp:=⟨118,[shT .expr],[shF .int],true,false,fun x=>Ed x⟩
def Dk(n:Nat):Fsp:=⟨118,[shT .expr],[shF .int],true,false,fun x=>(qE n) x⟩
def fV(a:Str):Option (Bool):=ak (fun (b:Str×Int)=>bif (decide (b.2<(b.1.length:Int)))then (idx b.1 b.2).bind fun c=>bif (decide ((c.toNat:Int)<32))then some (.inr (false))else (idx b.1 b.2).bind fun d=>bif (decide ((d.toNat:Int)>126))then some (.inr (false))else (idx b.1 b.2).bind fun e=>bif ((e.toNat:Int)==34)then some (.inr (false))else some (.inl (b.1,w64 (b.2+1)))else some (.inr ((decide ((b.1.length:Int)<=20))))) (a,0)
def Oy:Fsp:=⟨182,[shF .str],[shF .bool],true,false,fun x=>fV x⟩
def BO(a:af):Option (Bool):=bif (a.kind==1)then (kN a.n 0 1000000000).bind fun b=>bif b then bif (a.text==[])then some (((a.args.length:Int)==0))else some (false)else some (false)else bif (a.kind==2)then bif (a.n==0)then (fV a.text).bind fun c=>bif c then some (((a.args.length:Int)==0))else some (false)else some (false)else bif (a.kind==3)then bif (a.n==0)then (aT a.text).bind fun d=>bif d then some (((a.args.length:Int)==0))else some (false)else some (false)else bif (a.kind==4)then bif (a.n==0)then bif (a.text==[])then some ((decide ((a.args.length:Int)<=8)))else some (false)else some (false)else bif (a.kind==5)then bif (a.n==0)then (fD a.text).bind fun e=>some (((a.args.length:Int)==e))else some (false)else bif (a.kind==6)then (kN a.n 1 5).bind fun f=>bif f then bif (a.text==[])then some (((a.args.length:Int)==2))else some (false)else some (false)else bif (a.kind==7)then bif (a.n==0)then (aT a.text).bind fun g=>bif g then some (((a.args.length:Int)==2))else some (false)else some (false)else bif (a.kind==9)then bif (a.n==0)then (aT a.text).bind fun h=>bif h then some (((a.args.length:Int)==2))else some (false)else some (false)else bif (a.kind==8)then bif (a.n==0)then bif (a.text==[])then some (((a.args.length:Int)==3))else some (false)else some (false)else some (false)
def acn:Fsp:=⟨157,[shT .expr],[shF .bool],true,false,fun x=>BO x⟩
def Ei(riAreNodes:af->Option (Bool))(a:af):Option (Bool):=ak (fun(⟨f,g,h,i,j,k,l⟩:Int×Int×Str×(List af)×(List af)×Int×Int)=>bif (decide (l<k))then (idx j l).bind fun c=>(riAreNodes (ah c)).bind fun d=>bif (!d)then some (.inr (false))else some (.inl (f,g,h,i,j,k,w64 (l+1)))else ((BO (af.mk f g h i)).bind fun e=>some (e)).bind fun r=>some (.inr r)) (a.kind,a.n,a.text,a.args,a.args,(a.args.length:Int),0)
def sV:Nat->(af->Option (Bool))
 | 0=>fun _=>none
 | n+1=>Ei (sV n)
def BQ(a:af):Option (Bool):=(sV (siz a+1)) a
def XD:Fsp:=⟨119,[shT .expr],[shF .bool],true,false,fun x=>BQ x⟩
def Gq(n:Nat):Fsp:=⟨119,[shT .expr],[shF .bool],true,false,fun x=>(sV n) x⟩
def fZ(a:af):Option (Bool):=(Ec (ah a)).bind fun b=>bif (decide (b<=40))then (Ed (ah a)).bind fun c=>bif (decide (c<=8))then (BQ (ah a)).bind fun d=>some (d)else some (false)else some (false)
def OA:Fsp:=⟨79,[shT .expr],[shF .bool],true,false,fun x=>fZ x⟩
def lW(a:Str)(b c:Int):Option (Int×Bool):=qC a b c
def aeA:Fsp:=⟨180,[shF .str,shF .int,shF .int],[shF .int,shF .bool],true,false,fun x=>lW x.1 x.2.1 x.2.2⟩
def NY:Fsp:=⟨193,[shF .str,shF .u8],[shF .int],true,false,fun x=>dW x.1 x.2⟩
def NZ:Fsp:=⟨194,[shF .str,shF .str],[shF .bool],true,false,fun x=>jg x.1 x.2⟩
def jh(a:Str)(b:Int):Option (aA×Int×Bool):=(idx a b).bind fun f=>bif (decide ((f.toNat:Int)>=97))then bif (decide ((f.toNat:Int)<=122))then ak (fun(⟨aa,ac,ae,al,aq,aw,az⟩:Str×Int×Int×Int×Int×Str×Int)=>bif (decide (az<(aa.length:Int)))then (idx aa az).bind fun c3=>bif (decide ((c3.toNat:Int)>=97))then (idx aa az).bind fun c4=>bif (decide ((c4.toNat:Int)<=122))then some (.inl (aa,ac,ae,al,aq,aw,w64 (az+1)))else (idx aa az).bind fun c5=>bif (decide ((c5.toNat:Int)>=48))then (idx aa az).bind fun c6=>bif (decide ((c6.toNat:Int)<=57))then some (.inl (aa,ac,ae,al,aq,aw,w64 (az+1)))else ((eff.cutL aa (some ac) (some az)).bind fun r7=>some (aA.mk 1 0 ac r7,az,(decide ((w64 (az-ac))<=8)))).bind fun r=>some (.inr r)else ((eff.cutL aa (some ac) (some az)).bind fun r8=>some (aA.mk 1 0 ac r8,az,(decide ((w64 (az-ac))<=8)))).bind fun r=>some (.inr r)else (idx aa az).bind fun c9=>bif (decide ((c9.toNat:Int)>=48))then (idx aa az).bind fun v=>bif (decide ((v.toNat:Int)<=57))then some (.inl (aa,ac,ae,al,aq,aw,w64 (az+1)))else ((eff.cutL aa (some ac) (some az)).bind fun w=>some (aA.mk 1 0 ac w,az,(decide ((w64 (az-ac))<=8)))).bind fun r=>some (.inr r)else ((eff.cutL aa (some ac) (some az)).bind fun x=>some (aA.mk 1 0 ac x,az,(decide ((w64 (az-ac))<=8)))).bind fun r=>some (.inr r)else ((eff.cutL aa (some ac) (some az)).bind fun y=>some (aA.mk 1 0 ac y,az,(decide ((w64 (az-ac))<=8)))).bind fun r=>some (.inr r)) (a,b,0,0,0,[],b)else bif (decide ((f.toNat:Int)>=48))then bif (decide ((f.toNat:Int)<=57))then ak (fun(⟨c,aD,aE,aL,aM,aR,ba⟩:Str×Int×Int×Int×Int×Str×Int)=>bif (decide (ba<(c.length:Int)))then (idx c ba).bind fun z=>bif (decide ((z.toNat:Int)>=48))then (idx c ba).bind fun A=>bif (decide ((A.toNat:Int)<=57))then some (.inl (c,aD,aE,aL,aM,aR,w64 (ba+1)))else ((eff.cutL c (some aD) (some ba)).bind fun B=>(lW B 0 1000000000).bind fun k=>some (aA.mk 2 k.1 aD [],ba,k.2)).bind fun r=>some (.inr r)else ((eff.cutL c (some aD) (some ba)).bind fun C=>(lW C 0 1000000000).bind fun l=>some (aA.mk 2 l.1 aD [],ba,l.2)).bind fun r=>some (.inr r)else ((eff.cutL c (some aD) (some ba)).bind fun D=>(lW D 0 1000000000).bind fun m=>some (aA.mk 2 m.1 aD [],ba,m.2)).bind fun r=>some (.inr r)) (a,b,0,0,0,[],b)else bif ((f.toNat:Int)==34)then (eff.cutL a (some (w64 (b+1))) none).bind fun E=>(dW E 34).bind fun g=>bif (decide (g<0))then some (aA.mk 0 0 0 [],0,false)else (eff.cutL a (some (w64 (b+1))) (some (w64 ((w64 (b+1))+g)))).bind fun n=>(fV n).bind fun F=>some (aA.mk 3 0 b n,w64 ((w64 (b+g))+2),F)else (eff.cutL a (some b) none).bind fun G=>(jg G [61,61]).bind fun H=>bif H then some (aA.mk 4 0 b [61,61],w64 (b+2),true)else (eff.cutL a (some b) (some (w64 (b+1)))).bind fun I=>(dW [40,41,91,93,44,43,45,42,60,61] (f.toNat:Int)).bind fun J=>some (aA.mk 4 0 b I,w64 (b+1),(decide (J>=0)))else bif ((f.toNat:Int)==34)then (eff.cutL a (some (w64 (b+1))) none).bind fun K=>(dW K 34).bind fun h=>bif (decide (h<0))then some (aA.mk 0 0 0 [],0,false)else (eff.cutL a (some (w64 (b+1))) (some (w64 ((w64 (b+1))+h)))).bind fun o=>(fV o).bind fun L=>
    some (aA.mk 3 0 b o,w64 ((w64 (b+h))+2),L)
  else
   (eff.cutL a (some b) none).bind fun M=>
   (jg M [61,61]).bind fun N=>
   bif N then
    some (aA.mk 4 0 b [61,61],w64 (b+2),true)
   else
    (eff.cutL a (some b) (some (w64 (b+1)))).bind fun O=>
    (dW [40,41,91,93,44,43,45,42,60,61] (f.toNat:Int)).bind fun P=>
    some (aA.mk 4 0 b O,w64 (b+1),(decide (P>=0)))
 else
 bif (decide ((f.toNat:Int)>=48))then
  bif (decide ((f.toNat:Int)<=57))then
   ak (fun(⟨d,bc,bh,bj,bl,bm,bp⟩:Str×Int×Int×Int×Int×Str×Int)=>
    bif (decide (bp<(d.length:Int)))then
     (idx d bp).bind fun Q=>
     bif (decide ((Q.toNat:Int)>=48))then
      (idx d bp).bind fun R=>
      bif (decide ((R.toNat:Int)<=57))then
       some (.inl (d,bc,bh,bj,bl,bm,w64 (bp+1)))
      else
       (
        (eff.cutL d (some bc) (some bp)).bind fun S=>
        (lW S 0 1000000000).bind fun p=>
        some (aA.mk 2 p.1 bc [],bp,p.2)
       ).bind fun r=>some (.inr r)
     else
      (
       (eff.cutL d (some bc) (some bp)).bind fun T=>
       (lW T 0 1000000000).bind fun q=>
       some (aA.mk 2 q.1 bc [],bp,q.2)
      ).bind fun r=>some (.inr r)
    else
     (
      (eff.cutL d (some bc) (some bp)).bind fun U=>
      (lW U 0 1000000000).bind fun s=>
      some (aA.mk 2 s.1 bc [],bp,s.2)
     ).bind fun r=>some (.inr r)
   ) (a,b,0,0,0,[],b)
  else
  bif ((f.toNat:Int)==34)then
   (eff.cutL a (some (w64 (b+1))) none).bind fun V=>
   (dW V 34).bind fun i=>
   bif (decide (i<0))then
    some (aA.mk 0 0 0 [],0,false)
   else
    (eff.cutL a (some (w64 (b+1))) (some (w64 ((w64 (b+1))+i)))).bind fun t=>
    (fV t).bind fun W=>
    some (aA.mk 3 0 b t,w64 ((w64 (b+i))+2),W)
  else
   (eff.cutL a (some b) none).bind fun X=>
   (jg X [61,61]).bind fun Y=>
   bif Y then
    some (aA.mk 4 0 b [61,61],w64 (b+2),true)
   else
    (eff.cutL a (some b) (some (w64 (b+1)))).bind fun Z=>
    (dW [40,41,91,93,44,43,45,42,60,61] (f.toNat:Int)).bind fun r55=>
    some (aA.mk 4 0 b Z,w64 (b+1),(decide (r55>=0)))
 else
 bif ((f.toNat:Int)==34)then
  (eff.cutL a (some (w64 (b+1))) none).bind fun r56=>
  (dW r56 34).bind fun j=>
  bif (decide (j<0))then
   some (aA.mk 0 0 0 [],0,false)
  else
   (eff.cutL a (some (w64 (b+1))) (some (w64 ((w64 (b+1))+j)))).bind fun u=>
   (fV u).bind fun r59=>
   some (aA.mk 3 0 b u,w64 ((w64 (b+j))+2),r59)
 else
  (eff.cutL a (some b) none).bind fun r60=>
  (jg r60 [61,61]).bind fun r61=>
  bif r61 then
   some (aA.mk 4 0 b [61,61],w64 (b+2),true)
  else
   (eff.cutL a (some b) (some (w64 (b+1)))).bind fun r62=>
   (dW [40,41,91,93,44,43,45,42,60,61] (f.toNat:Int)).bind fun r63=>
   some (aA.mk 4 0 b r62,w64 (b+1),(decide (r63>=0)))
def Zw:Fsp:=⟨172,[shF .str,shF .int],[shT .token,shF .int,shF .bool],true,false,fun x=>jh x.1 x.2⟩
def wB(a:Str):Option ((List aA)×Int):=bif (decide ((a.length:Int)>120))then some ([],120)else ak (fun(⟨e,f,g⟩:Str×(List aA)×Int)=>bif (decide (g<(e.length:Int)))then (idx e g).bind fun d=>bif ((d.toNat:Int)==32)then some (.inl (e,f,w64 (g+1)))else (jh e g).bind fun c=>bif (!c.2.2)then some (.inr ([],g))else bif ((f.length:Int)==60)then some (.inr ([],g))else (gd (f.length+[c.1].length)).bind fun _=>some (.inl (e,f++[c.1],c.2.1))else some (.inr (f,(-1)))) (a,[],0)
def Xn:Fsp:=⟨148,[shF .str],[slF .token,shF .int],true,false,fun x=>wB x⟩
def rV(a:Int):Option (Str):=(kN a 1 5).bind fun b=>bif (!b)then some ([63])else (idx ([[43],[45],[42],[60],[61,61]]:List Str) (w64 (a-1))).bind fun _=>(([[43],[45],[42],[60],[61,61]]:List Str)[(w64 (a-1)).toNat]?).bind fun c=>some (c)
def Xq:Fsp:=⟨125,[shF .int],[shF .str],true,false,fun x=>rV x⟩
def jy(a:aA)(b:Str):Option (Bool):=bif (a.kind==1)then some ((a.text==b))else some (false)
def U8:Fsp:=⟨173,[shT .token,shF .str],[shF .bool],true,false,fun x=>jy x.1 x.2⟩
def eu(a:aS):Option (aS×aA):=bif (decide (a.bad<0))then bif (decide (a.i<(a.toks.length:Int)))then (idx a.toks a.i).bind fun b=>some (a,b)else some (a,aA.mk 0 0 0 [])else some (a,aA.mk 0 0 0 [])
def Qk:Fsp:=⟨174,[shT .psr],[shT .psr,shT .token],false,false,fun x=>eu x⟩
def gJ(a:aS):Option (aS×af):=bif (decide (a.bad<0))then some (aS.mk a.toks a.i a.i,af.mk 0 0 [] [])else some (a,af.mk 0 0 [] [])
def Qn:Fsp:=⟨195,[shT .psr],[shT .psr,shT .expr],false,true,fun x=>gJ x⟩
def kZ(a:aS):Option (aS×Str):=(eu a).bind fun b=>bif (b.2.kind != 1)then (gJ b.1).bind fun c=>some (c.1,[])else (aT b.2.text).bind fun d=>bif (!d)then (gJ b.1).bind fun e=>some (e.1,[])else some (aS.mk b.1.toks (w64 (b.1.i+1)) b.1.bad,b.2.text)
def Qm:Fsp:=⟨175,[shT .psr],[shT .psr,shF .str],false,false,fun x=>kZ x⟩
def wH(a:aA)(b:Str):Option (Bool):=bif (a.kind==4)then some ((a.text==b))else some (false)
def Xu:Fsp:=⟨196,[shT .token,shF .str],[shF .bool],true,false,fun x=>wH x.1 x.2⟩
def bQ(a:aS)(b:Str):Option (aS):=(eu a).bind fun c=>(jy c.2 b).bind fun e=>bif e then some (aS.mk c.1.toks (w64 (c.1.i+1)) c.1.bad)else (eu c.1).bind fun d=>(wH d.2 b).bind fun f=>bif f then some (aS.mk d.1.toks (w64 (d.1.i+1)) d.1.bad)else (gJ d.1).bind fun g=>some (g.1)
def Ql:Fsp:=⟨176,[shT .psr,shF .str],[shT .psr],false,false,fun x=>bQ x.1 x.2⟩
def aV(a:aS)(b:Str):Option (aS×Bool):=(eu a).bind fun c=>(wH c.2 b).bind fun d=>bif d then some (aS.mk c.1.toks (w64 (c.1.i+1)) c.1.bad,true)else some (c.1,false)
def J4:Fsp:=⟨178,[shT .psr,shF .str],[shT .psr,shF .bool],false,false,fun x=>aV x.1 x.2⟩
def yh(riParserExpr:aS->Option (aS×af))(riParserSum:aS->Option (aS×af))(riParserProduct:aS->Option (aS×af))(riParserAtom:aS->Option (aS×af))(riParserList2:aS->Str->Option (aS×(List af)))(a:aS):Option (aS×af):=(eu a).bind fun l=>(jy l.2 [108,101,116]).bind fun A=>bif A then (kZ (aS.mk l.1.toks (w64 (l.1.i+1)) l.1.bad)).bind fun z=>(bQ z.1 [61]).bind fun B=>(riParserExpr B).bind fun r=>(gd ([ah r.2].length)).bind fun _=>(bQ r.1 [105,110]).bind fun C=>(riParserExpr C).bind fun s=>(gd ([ah r.2].length+[ah s.2].length)).bind fun _=>some (s.1,af.mk 7 0 z.2 ([ah r.2]++[ah s.2]))else (eu l.1).bind fun m=>(jy m.2 [105,102]).bind fun D=>bif D then (riParserExpr (aS.mk m.1.toks (w64 (m.1.i+1)) m.1.bad)).bind fun d=>(gd ([ah d.2].length)).bind fun _=>(bQ d.1 [116,104,101,110]).bind fun t=>(riParserExpr t).bind fun g=>(gd ([ah d.2].length+[ah g.2].length)).bind fun _=>(bQ g.1 [101,108,115,101]).bind fun u=>(riParserExpr u).bind fun j=>(gd (([ah d.2]++[ah g.2]).length+[ah j.2].length)).bind fun _=>some (j.1,af.mk 8 0 [] (([ah d.2]++[ah g.2])++[ah j.2]))else (eu m.1).bind fun e=>(jy e.2 [102,111,114]).bind fun v=>bif v then (kZ (aS.mk e.1.toks (w64 (e.1.i+1)) e.1.bad)).bind fun o=>(bQ o.1 [105,110]).bind fun w=>(riParserExpr w).bind fun h=>(gd ([ah h.2].length)).bind fun _=>(bQ h.1 [100,111]).bind fun x=>(riParserExpr x).bind fun k=>(gd ([ah h.2].length+[ah k.2].length)).bind fun _=>some (k.1,af.mk 9 0 o.2 ([ah h.2]++[ah k.2]))else (riParserSum e.1).bind fun c=>ak (fun(⟨E,F,G,H,I,J,K,L,M,N,O,P,Q,R⟩:(List aA)×Int×Int×Int×Int×Str×(List af)×Int×Int×Str×(List af)×(List Int)×Int×Int)=>bif (decide (R<Q))then (idx P R).bind fun _=>(P[R.toNat]?).bind fun p=>(rV p).bind fun y=>(aV (aS.mk E F G) y).bind fun f=>bif f.2 then (riParserSum f.1).bind fun q=>some (.inr (q.1,af.mk 6 p [] [af.mk L M N O,ah q.2]))else some (.inl (f.1.toks,f.1.i,f.1.bad,H,I,J,K,L,M,N,O,P,Q,w64 (R+1)))else some (.inr (aS.mk E F G,af.mk L M N O))) (c.1.toks,c.1.i,c.1.bad,0,0,[],[],c.2.kind,c.2.n,c.2.text,c.2.args,[4,5],([4,5].length:Int),0)
def Ad(riParserExpr:aS->Option (aS×af))(riParserSum:aS->Option (aS×af))(riParserProduct:aS->Option (aS×af))(riParserAtom:aS->Option (aS×af))(riParserList2:aS->Str->Option (aS×(List af)))(a:aS):Option (aS×af):=(riParserProduct a).bind fun c=>ak (fun(⟨h,j,k,l,m,o,p,q,r,s,t⟩:(List aA)×Int×Int×Int×Int×Str×(List af)×Int×Int×Str×(List af))=>bif (decide (k<0))then (aV (aS.mk h j k) [43]).bind fun f=>bif (!f.2)then (aV f.1 [45]).bind fun g=>bif (!g.2)then some (.inr (g.1,af.mk q r s t))else (riParserProduct g.1).bind fun d=>some (.inl (d.1.toks,d.1.i,d.1.bad,l,m,o,p,6,2,[],[af.mk q r s t,ah d.2]))else (riParserProduct f.1).bind fun e=>some (.inl (e.1.toks,e.1.i,e.1.bad,l,m,o,p,6,1,[],[af.mk q r s t,ah e.2]))else some (.inr (aS.mk h j k,af.mk q r s t))) (c.1.toks,c.1.i,c.1.bad,0,0,[],[],c.2.kind,c.2.n,c.2.text,c.2.args)
def qJ(riParserExpr:aS->Option (aS×af))(riParserSum:aS->Option (aS×af))(riParserProduct:aS->Option (aS×af))(riParserAtom:aS->Option (aS×af))(riParserList2:aS->Str->Option (aS×(List af)))(a:aS):Option (aS×af):=(riParserAtom a).bind fun c=>ak (fun(⟨f,g,h,j,k,l,m,o,p,q,r⟩:(List aA)×Int×Int×Int×Int×Str×(List af)×Int×Int×Str×(List af))=>(aV (aS.mk f g h) [42]).bind fun e=>bif e.2 then (riParserAtom e.1).bind fun d=>some (.inl (d.1.toks,d.1.i,d.1.bad,j,k,l,m,6,3,[],[af.mk o p q r,ah d.2]))else some (.inr (e.1,af.mk o p q r))) (c.1.toks,c.1.i,c.1.bad,0,0,[],[],c.2.kind,c.2.n,c.2.text,c.2.args)
def rq(riParserExpr:aS->Option (aS×af))(riParserSum:aS->Option (aS×af))(riParserProduct:aS->Option (aS×af))(riParserAtom:aS->Option (aS×af))(riParserList2:aS->Str->Option (aS×(List af)))(a:aS):Option (aS×af):=(eu a).bind fun b=>bif (b.2.kind==2)then some (aS.mk b.1.toks (w64 (b.1.i+1)) b.1.bad,af.mk 1 b.2.n [] [])else bif (b.2.kind==3)then some (aS.mk b.1.toks (w64 (b.1.i+1)) b.1.bad,af.mk 2 0 b.2.text [])else bif (b.2.kind==1)then (aT b.2.text).bind fun G=>bif G then some (aS.mk b.1.toks (w64 (b.1.i+1)) b.1.bad,af.mk 3 0 b.2.text [])else bif (b.2.kind==1)then (fD b.2.text).bind fun H=>bif (decide (H>=0))then (bQ (aS.mk b.1.toks (w64 (b.1.i+1)) b.1.bad) [40]).bind fun I=>(riParserList2 I [41]).bind fun D=>some (D.1,af.mk 5 0 b.2.text D.2)else (aV b.1 [91]).bind fun v=>bif v.2 then (riParserList2 v.1 [93]).bind fun E=>some (E.1,af.mk 4 0 [] E.2)else (aV v.1 [40]).bind fun w=>bif w.2 then (riParserExpr w.1).bind fun F=>(bQ F.1 [41]).bind fun x=>some (x,ah F.2)else (gJ w.1).bind fun j=>some (j.1,ah j.2)else (aV b.1 [91]).bind fun c=>bif c.2 then (riParserList2 c.1 [93]).bind fun k=>some (k.1,af.mk 4 0 [] k.2)else (aV c.1 [40]).bind fun d=>bif d.2 then (riParserExpr d.1).bind fun l=>(bQ l.1 [41]).bind fun y=>some (y,ah l.2)else (gJ d.1).bind fun m=>some (m.1,ah m.2)else bif (b.2.kind==1)then (fD b.2.text).bind fun z=>bif (decide (z>=0))then (bQ (aS.mk b.1.toks (w64 (b.1.i+1)) b.1.bad) [40]).bind fun A=>(riParserList2 A [41]).bind fun o=>some (o.1,af.mk 5 0 b.2.text o.2)else (aV b.1 [91]).bind fun e=>bif e.2 then (riParserList2 e.1 [93]).bind fun p=>some (p.1,af.mk 4 0 [] p.2)else (aV e.1 [40]).bind fun f=>bif f.2 then (riParserExpr f.1).bind fun q=>(bQ q.1 [41]).bind fun B=>some (B,ah q.2)else (gJ f.1).bind fun r=>some (r.1,ah r.2)else (aV b.1 [91]).bind fun g=>bif g.2 then (riParserList2 g.1 [93]).bind fun s=>some (s.1,af.mk 4 0 [] s.2)else (aV g.1 [40]).bind fun h=>bif h.2 then (riParserExpr h.1).bind fun t=>(bQ t.1 [41]).bind fun C=>some (C,ah t.2)else (gJ h.1).bind fun u=>some (u.1,ah u.2)
def mG(riParserExpr:aS->Option (aS×af))(riParserSum:aS->Option (aS×af))(riParserProduct:aS->Option (aS×af))(riParserAtom:aS->Option (aS×af))(riParserList2:aS->Str->Option (aS×(List af)))(a:aS)(b:Str):Option (aS×(List af)):=(aV a b).bind fun d=>bif d.2 then some (d.1,[])else ak (fun(⟨h,j,k,l,m⟩:(List aA)×Int×Int×Str×(List af))=>bif (decide (k<0))then (riParserExpr (aS.mk h j k)).bind fun e=>(gd (m.length+[ah e.2].length)).bind fun _=>(aV e.1 l).bind fun f=>bif f.2 then some (.inr (f.1,m++[ah e.2]))else (bQ f.1 [44]).bind fun g=>some (.inl (g.toks,g.i,g.bad,l,m++[ah e.2]))else some (.inr (aS.mk h j k,m))) (d.1.toks,d.1.i,d.1.bad,b,[])
def aG:Nat->(aS->Option (aS×af))×(aS->Option (aS×af))×(aS->Option (aS×af))×(aS->Option (aS×af))×(aS->Str->Option (aS×(List af)))
 | 0=>(fun _=>none,fun _=>none,fun _=>none,fun _=>none,fun _ _=>none)
 | n+1=>(yh (aG n).1 (aG n).2.1 (aG n).2.2.1 (aG n).2.2.2.1 (aG n).2.2.2.2,Ad (aG n).1 (aG n).2.1 (aG n).2.2.1 (aG n).2.2.2.1 (aG n).2.2.2.2,qJ (aG n).1 (aG n).2.1 (aG n).2.2.1 (aG n).2.2.2.1 (aG n).2.2.2.2,rq (aG n).1 (aG n).2.1 (aG n).2.2.1 (aG n).2.2.2.1 (aG n).2.2.2.2,mG (aG n).1 (aG n).2.1 (aG n).2.2.1 (aG n).2.2.2.1 (aG n).2.2.2.2)
def Ag(a:aS):Option (aS×af):=(aG (siz a+1)).1 a
def Qo:Fsp:=⟨149,[shT .psr],[shT .psr,shT .expr],false,false,fun x=>Ag x⟩
def Af(n:Nat):Fsp:=⟨149,[shT .psr],[shT .psr,shT .expr],false,false,fun x=>(aG n).1 x⟩
def ZB(a:aS):Option (aS×af):=(aG (siz a+1)).2.1 a
def U1:Fsp:=⟨177,[shT .psr],[shT .psr,shT .expr],false,false,fun x=>ZB x⟩
def Dh(n:Nat):Fsp:=⟨177,[shT .psr],[shT .psr,shT .expr],false,false,fun x=>(aG n).2.1 x⟩
def Ou(a:aS):Option (aS×af):=(aG (siz a+1)).2.2.1 a
def Ir:Fsp:=⟨197,[shT .psr],[shT .psr,shT .expr],false,false,fun x=>Ou x⟩
def uH(n:Nat):Fsp:=⟨197,[shT .psr],[shT .psr,shT .expr],false,false,fun x=>(aG n).2.2.1 x⟩
def Xp(a:aS):Option (aS×af):=(aG (siz a+1)).2.2.2.1 a
def Qp:Fsp:=⟨212,[shT .psr],[shT .psr,shT .expr],false,false,fun x=>Xp x⟩
def Ah(n:Nat):Fsp:=⟨212,[shT .psr],[shT .psr,shT .expr],false,false,fun x=>(aG n).2.2.2.1 x⟩
def U2(a:aS)(b:Str):Option (aS×(List af)):=(aG (siz a+1)).2.2.2.2 a b
def Ov:Fsp:=⟨238,[shT .psr,shF .str],[shT .psr,slF .expr],false,false,fun x=>U2 x.1 x.2⟩
def yQ(n:Nat):Fsp:=⟨238,[shT .psr,shF .str],[shT .psr,slF .expr],false,false,fun x=>(aG n).2.2.2.2 x.1 x.2⟩
def sS(a:Str):Option (af×Int):=(wB a).bind fun c=>bif (decide (c.2>=0))then some (af.mk 0 0 [] [],c.2)else (Ag (aS.mk c.1 0 (-1))).bind fun b=>bif (decide (b.1.bad<0))then bif (decide (b.1.i<(c.1.length:Int)))then bif (decide (b.1.i>=(c.1.length:Int)))then some (af.mk 0 0 [] [],(a.length:Int))else bif (decide (b.1.i>=0))then (idx c.1 b.1.i).bind fun _=>(c.1[b.1.i.toNat]?).bind fun f=>some (af.mk 0 0 [] [],f.pos)else (fZ (ah b.2)).bind fun g=>bif (!g)then some (af.mk 0 0 [] [],0)else some (ah b.2,(-1))else bif (decide (b.1.bad>=(c.1.length:Int)))then some (af.mk 0 0 [] [],(a.length:Int))else bif (decide (b.1.bad>=0))then (idx c.1 b.1.bad).bind fun _=>(c.1[b.1.bad.toNat]?).bind fun h=>some (af.mk 0 0 [] [],h.pos)else (fZ (ah b.2)).bind fun j=>bif (!j)then some (af.mk 0 0 [] [],0)else some (ah b.2,(-1))else bif (decide (b.1.bad>=(c.1.length:Int)))then some (af.mk 0 0 [] [],(a.length:Int))else bif (decide (b.1.bad>=0))then (idx c.1 b.1.bad).bind fun _=>(c.1[b.1.bad.toNat]?).bind fun d=>some (af.mk 0 0 [] [],d.pos)else (fZ (ah b.2)).bind fun e=>bif (!e)then some (af.mk 0 0 [] [],0)else some (ah b.2,(-1))
def U4:Fsp:=⟨107,[shF .str],[shT .expr,shF .int],false,false,fun x=>sS x⟩
def lg(a:Int):Option (bJ):=some (bJ.mk 6 a 0 [] [] [] [])
def Qv:Fsp:=⟨108,[shF .int],[shT .val],true,false,fun x=>lg x⟩
def Zo:Fsp:=⟨150,[shF .str,shF .str],[slF .str],true,false,fun x=>kH x.1 x.2⟩
def kY(a:Str)(b:Int):Option ((List Str)):=(kH a (bytesOf [b])).bind fun c=>some (c)
def UW:Fsp:=⟨151,[shF .str,shF .u8],[slF .str],true,false,fun x=>kY x.1 x.2⟩
def wJ(a:Str)(b:Int):Option ((List Int)×Bool):=(kY a 32).bind fun e=>ak (fun(⟨g,h,i,j,k⟩:Int×(List Int)×(List Str)×Int×Int)=>bif (decide (k<j))then (idx i k).bind fun _=>(i[k.toNat]?).bind fun f=>(lW f (-1000000000) 1000000000).bind fun d=>bif (!d.2)then some (.inr ([],false))else (gd (h.length+[d.1].length)).bind fun _=>some (.inl (g,h++[d.1],i,j,w64 (k+1)))else some (.inr (h,((h.length:Int)==g)))) (b,[],e,(e.length:Int),0)
def ZH:Fsp:=⟨152,[shF .str,shF .int],[slF .int,shF .bool],true,false,fun x=>wJ x.1 x.2⟩
def mJ(a:List Str)(b:Str):Option (Int):=ak (fun(⟨e,f,g,h⟩:Str×(List Str)×Int×Int)=>bif (decide (h<g))then (idx f h).bind fun d=>bif (d==e)then some (.inr (h))else some (.inl (e,f,g,w64 (h+1)))else some (.inr ((-1)))) (b,a,(a.length:Int),0)
def ZG:Fsp:=⟨48,[slF .str,shF .str],[shF .int],true,false,fun x=>mJ x.1 x.2⟩
def ru(a:List Str):Option (Bool):=ak (fun(⟨e,f,g,h⟩:(List Str)×(List Str)×Int×Int)=>bif (decide (h<g))then (idx f h).bind fun c=>(mJ e c).bind fun d=>bif (d != h)then some (.inr (false))else some (.inl (e,f,g,w64 (h+1)))else some (.inr (true))) (a,a,(a.length:Int),0)
def OH:Fsp:=⟨185,[slF .str],[shF .bool],true,false,fun x=>ru x⟩
def qF(a:List Str):Option (Bool):=ak (fun(⟨g,h,i,j⟩:(List Str)×(List Str)×Int×Int)=>bif (decide (j<i))then (idx h j).bind fun c=>(aT c).bind fun d=>bif (!d)then some (.inr (false))else some (.inl (g,h,i,w64 (j+1)))else ((kN (g.length:Int) 1 4).bind fun e=>bif e then (ru g).bind fun f=>some (f)else some (false)).bind fun r=>some (.inr r)) (a,a,(a.length:Int),0)
def Qz:Fsp:=⟨154,[slF .str],[shF .bool],true,false,fun x=>qF x⟩
def BN(a:Int):Option (Bool):=(kN a (-1000000000) 1000000000).bind fun b=>some (b)
def Xv:Fsp:=⟨181,[shF .int],[shF .bool],true,false,fun x=>BN x⟩
def Di(a:iQ)(b:iQ):Option (Bool):=bif (decide (a.cell<b.cell))then some (true)else bif (a.cell==b.cell)then some ((decide (a.row<b.row)))else some (false)
def J5:Fsp:=⟨202,[shT .origin,shT .origin],[shF .bool],true,false,fun x=>Di x.1 x.2⟩
def Am(a:bJ):Option (Bool):=(qF a.columns).bind fun h=>bif (!h)then some (false)else bif (decide ((a.rows.length:Int)>12))then some (false)else ak (fun(⟨l,m,o,p,q,s,t,u,v,w⟩:Int×Int×Int×Str×(List bJ)×(List Str)×(List dm)×(List dm)×Int×Int)=>bif (decide (w<v))then (idx u w).bind fun e=>bif ((e.cells.length:Int) != (s.length:Int))then some (.inr (false))else ak (fun(⟨d,x,y,z,A,B,C,D,E,F,G,H,I,J,K⟩:Int×Int×Int×Str×(List bJ)×(List Str)×(List dm)×(List Int)×(List iQ)×(List dm)×Int×Int×(List Int)×Int×Int)=>bif (decide (K<J))then (idx I K).bind fun i=>(BN i).bind fun j=>bif (!j)then (some (.inr (false))).bind fun r=>some (.inr r)else some (.inl (d,x,y,z,A,B,C,D,E,F,G,H,I,J,w64 (K+1)))else (ak (fun(⟨c,L,M,N,O,P,Q,R,S,T,U,V,W,X,Y⟩:Int×Int×Int×Str×(List bJ)×(List Str)×(List dm)×(List Int)×(List iQ)×(List dm)×Int×Int×(List iQ)×Int×Int)=>bif (decide (Y<X))then (idx W Y).bind fun f=>bif (decide (f.cell<0))then (some (.inr (false))).bind fun r=>some (.inr r)else bif (decide (f.row<0))then (some (.inr (false))).bind fun r=>some (.inr r)else bif (decide (Y>0))then (idx S (w64 (Y-1))).bind fun k=>(Di k f).bind fun g=>bif (!g)then (some (.inr (false))).bind fun r=>some (.inr r)else some (.inl (c,L,M,N,O,P,Q,R,S,T,U,V,W,X,w64 (Y+1)))else some (.inl (c,L,M,N,O,P,Q,R,S,T,U,V,W,X,w64 (Y+1)))else some (.inr (.inl (c,L,M,N,O,P,Q,T,U,w64 (V+1))))) (d,x,y,z,A,B,C,D,E,F,G,H,E,(E.length:Int),0)).bind fun r=>some (.inr r)) (l,m,o,p,q,s,t,e.cells,e.orig,u,v,w,e.cells,(e.cells.length:Int),0)else some (.inr (true))) (a.kind,a.n,a.step,a.text,a.list,a.columns,a.rows,a.rows,(a.rows.length:Int),0)
def ZF:Fsp:=⟨183,[shT .val],[shF .bool],true,false,fun x=>Am x⟩
def jM(a:bJ):Option (Bool):=bif ((a.columns.length:Int)==0)then bif (a.n==0)then bif (a.step==0)then bif (a.text==[])then (Am (bJ.mk 5 a.n a.step a.text [] a.columns a.rows)).bind fun b=>some (b)else some (false)else some (false)else some (false)else bif (a.n==0)then bif (a.step==0)then bif (a.text==[])then (Am (bJ.mk 5 a.n a.step a.text [] a.columns a.rows)).bind fun c=>some (c)else some (false)else some (false)else some (false)
def pX(a:bJ):Option (Bool):=bif (a.kind==5)&&a.list.isEmpty then jM a else none
def gY:Fsp:=⟨153,[shT .val],[shF .bool],true,false,fun x=>pX x⟩
def nC(a:Str):Option (bJ×Bool):=(kH a [59,32]).bind fun c=>(idx c 0).bind fun _=>(c[0]?).bind fun f=>(kY f 32).bind fun g=>(eff.cutL c (some 1) none).bind fun e=>ak (fun(⟨j,k,l,m,n,o,p,q,s,t,u,v,w,x,y,z,A⟩:Int×Int×Int×Str×(List bJ)×(List Str)×(List dm)×Int×Int×Int×Str×(List bJ)×(List Str)×(List dm)×(List Str)×Int×Int)=>bif (decide (A<z))then (idx y A).bind fun h=>(wJ h (w.length:Int)).bind fun d=>bif (!d.2)then some (.inr (bJ.mk 0 0 0 [] [] [] [],false))else (gd (x.length+([dm.mk d.1 []]).length)).bind fun _=>some (.inl (j,k,l,m,n,o,p,q,s,t,u,v,w,x++([dm.mk d.1 []]),y,z,w64 (A+1)))else ((pX (bJ.mk q s t u v w x)).bind fun i=>bif (!i)then some (bJ.mk 0 0 0 [] [] [] [],false)else some (bJ.mk q s t u v w x,true)).bind fun r=>some (.inr r)) (0,0,0,[],[],[],[],5,0,0,[],[],g,[],e,(e.length:Int),0)
def U5:Fsp:=⟨109,[shF .str],[shT .val,shF .bool],true,false,fun x=>nC x⟩
def yu(a:Str):Option (Int):=(nC a).bind fun g=>bif g.2 then some ((-1))else (kH a [59,32]).bind fun c=>(idx c 0).bind fun _=>(c[0]?).bind fun h=>(kY h 32).bind fun e=>(qF e).bind fun i=>bif (!i)then some (0)else (eff.cutL c (some 1) none).bind fun f=>ak (fun(⟨k,l,m,n⟩:(List Str)×(List Str)×Int×Int)=>bif (decide (n<m))then (idx l n).bind fun j=>(wJ j (k.length:Int)).bind fun d=>bif (!d.2)then some (.inr (w64 (n+1)))else bif (decide (n>=12))then some (.inr (w64 (n+1)))else some (.inl (k,l,m,w64 (n+1)))else some (.inr ((-1)))) (e,f,(f.length:Int),0)
def Vb:Fsp:=⟨110,[shF .str],[shF .int],true,false,fun x=>yu x⟩
def Gn(a:dm):Option (dm):=(gd (0+a.cells.length)).bind fun _=>(gd (0+a.orig.length)).bind fun _=>some (dm.mk ([]++a.cells) ([]++a.orig))
def ZI:Fsp:=⟨187,[shT .row],[shT .row],true,false,fun x=>Gn x⟩
def Ar(riCopyValue:bJ->Option (bJ))(riCopyValues:(List bJ)->Option ((List bJ)))(a:bJ):Option (bJ):=(riCopyValues a.list).bind fun d=>(gd (0+a.columns.length)).bind fun _=>ak (fun(⟨f,g,h,i,j,k,l,m,o,p,q,r,s,t,u,v,w⟩:Int×Int×Int×Str×(List bJ)×(List Str)×(List dm)×Int×Int×Int×Str×(List bJ)×(List Str)×(List dm)×(List dm)×Int×Int)=>bif (decide (w<v))then (idx u w).bind fun e=>(Gn e).bind fun c=>(gd (t.length+[c].length)).bind fun _=>some (.inl (f,g,h,i,j,k,l,m,o,p,q,r,s,t++[c],u,v,w64 (w+1)))else some (.inr (bJ.mk m o p q r s t))) (0,0,0,[],[],[],[],a.kind,a.n,a.step,a.text,d,[]++a.columns,[],a.rows,(a.rows.length:Int),0)
def yw(riCopyValue:bJ->Option (bJ))(riCopyValues:(List bJ)->Option ((List bJ)))(a:List bJ):Option ((List bJ)):=ak (fun(⟨e,f,g,h⟩:(List bJ)×(List bJ)×Int×Int)=>bif (decide (h<g))then (idx f h).bind fun d=>(riCopyValue (jB d)).bind fun c=>(gd (e.length+[jB c].length)).bind fun _=>some (.inl (e++[jB c],f,g,w64 (h+1)))else some (.inr (e))) ([],a,(a.length:Int),0)
def eX:Nat->(bJ->Option (bJ))×((List bJ)->Option ((List bJ)))
 | 0=>(fun _=>none,fun _=>none)
 | n+1=>(Ar (eX n).1 (eX n).2,yw (eX n).1 (eX n).2)
def yx(a:bJ):Option (bJ):=(eX (siz a+1)).1 a
def Vd:Fsp:=⟨155,[shT .val],[shT .val],true,false,fun x=>yx x⟩
def Dl(n:Nat):Fsp:=⟨155,[shT .val],[shT .val],true,false,fun x=>(eX n).1 x⟩
def Xy(a:List bJ):Option ((List bJ)):=(eX (siz a+1)).2 a
def Qw:Fsp:=⟨186,[slF .val],[slF .val],true,false,fun x=>Xy x⟩
def Aq(n:Nat):Fsp:=⟨186,[slF .val],[slF .val],true,false,fun x=>(eX n).2 x⟩
def rf(a:Int)(b:bJ):Option (bJ):=bif (b.kind != 5)then (lg 4).bind fun e=>some (jB e)else (pX (jB b)).bind fun f=>bif (!f)then (lg 4).bind fun g=>some (jB g)else bif (decide (a<0))then (lg 4).bind fun h=>some (jB h)else (yx (jB b)).bind fun d=>ak (fun(⟨j,k,l,m,o,p,q,r,s,t,u,v,w,x,y,z,A⟩:Int×Int×Int×Int×Str×(List bJ)×(List Str)×(List dm)×Int×Int×Int×Str×(List bJ)×(List Str)×(List dm)×Int×Int)=>bif (decide (A<z))then (idx y A).bind fun _=>(y[A.toNat]?).bind fun i=>some (.inl (j,k,l,m,o,p,q,r,s,t,u,v,w,x,y.set A.toNat (dm.mk i.cells [iQ.mk j A]),z,w64 (A+1)))else some (.inr (bJ.mk s t u v w x y))) (a,0,0,0,[],[],[],[],d.kind,d.n,d.step,d.text,d.list,d.columns,d.rows,(d.rows.length:Int),0)
def Ol:Fsp:=⟨111,[shF .int,shT .val],[shT .val],true,false,fun x=>rf x.1 x.2⟩
def lK(a:aj):Option (aO):=(bY a).bind fun d=>bif (!d)then some (aO.mk 0 [] (af.mk 0 0 [] []) (bJ.mk 0 0 0 [] [] [] []) 0)else bif (a.kind==1)then some (aO.mk 1 [] (af.mk 0 0 [] []) (bJ.mk 0 0 0 [] [] [] []) 0)else bif (a.kind==3)then (yj a.n).bind fun e=>some (aO.mk 3 a.name (af.mk 0 0 [] []) (jB e) 0)else bif (a.kind==2)then (sS a.code).bind fun b=>bif (decide (b.2>=0))then (lg 8).bind fun f=>some (aO.mk 4 a.name (af.mk 0 0 [] []) (jB f) b.2)else some (aO.mk 2 a.name (ah b.1) (bJ.mk 0 0 0 [] [] [] []) 0)else (nC a.code).bind fun c=>bif (!c.2)then (lg 8).bind fun g=>(yu a.code).bind fun h=>some (aO.mk 4 a.name (af.mk 0 0 [] []) (jB g) h)else (rf a.id (jB c.1)).bind fun i=>some (aO.mk 3 a.name (af.mk 0 0 [] []) (jB i) 0)
def OG:Fsp:=⟨72,[shT .cell],[shT .part],false,false,fun x=>lK x⟩
def nV(a:aC):Option ((List aO)):=(jO a).bind fun d=>bif (!d)then some ([])else ak (fun(⟨f,g,h,i⟩:(List aO)×(List aj)×Int×Int)=>bif (decide (i<h))then (idx g i).bind fun e=>(lK e).bind fun c=>(gd (f.length+[jW c].length)).bind fun _=>some (.inl (f++[jW c],g,h,w64 (i+1)))else some (.inr (f))) ([],a.cells,(a.cells.length:Int),0)
def Qx:Fsp:=⟨43,[shT .notebook],[slF .part],false,true,fun x=>nV x⟩
def wI(a:List aO)(b:Str):Option ((List Int)):=ak (fun(⟨e,f,g,h,i⟩:Str×(List Int)×(List aO)×Int×Int)=>bif (decide (i<h))then (idx g i).bind fun d=>bif (d.kind != 1)then bif (d.name==e)then (gd (f.length+[i].length)).bind fun _=>some (.inl (e,f++[i],g,h,w64 (i+1)))else some (.inl (e,f,g,h,w64 (i+1)))else some (.inl (e,f,g,h,w64 (i+1)))else some (.inr (f))) (b,[],a,(a.length:Int),0)
def Xx:Fsp:=⟨47,[slF .part,shF .str],[slF .int],true,false,fun x=>wI x.1 x.2⟩
def F5(a:List aO)(b:Str):Option (Int):=(wI a b).bind fun c=>bif ((c.length:Int)==0)then some ((-1))else bif ((c.length:Int)==1)then (idx c 0).bind fun _=>(c[0]?).bind fun d=>some (d)else some ((-2))
def Zz:Fsp:=⟨46,[slF .part,shF .str],[shF .int],true,false,fun x=>F5 x.1 x.2⟩
def pG(a:List Str):Option ((List Str)):=ak (fun(⟨f,g,h,i,j⟩:(List Str)×(List Str)×(List Str)×Int×Int)=>bif (decide (j<i))then (idx h j).bind fun c=>(mJ f c).bind fun d=>bif (d==j)then (gd (g.length+([c]:List Str).length)).bind fun _=>some (.inl (f,g++([c]:List Str),h,i,w64 (j+1)))else some (.inl (f,g,h,i,w64 (j+1)))else ((iK g).bind fun e=>some (e)).bind fun r=>some (.inr r)) (a,[],a,(a.length:Int),0)
def UY:Fsp:=⟨116,[slF .str],[slF .str],true,false,fun x=>pG x⟩
def pI(a:af):Option (List Str):=(jC (siz a+1) a []).bind fun es=>(gd es.length).bind fun _=>pG (es.map (·.1))
def U9:Fsp:=⟨76,[shT .expr],[slF .str],true,false,fun x=>pI x⟩
def yg(a:aO):Option ((List Str)):=bif (a.kind != 2)then some ([])else (pI (ah a.expr)).bind fun b=>some (b)
def ace:Fsp:=⟨49,[shT .part],[slF .str],true,false,fun x=>yg x⟩
def jk(a:af)(b c:Str):Option Bool:=(jC (siz a+1) a []).bind fun es=>(gd es.length).bind fun _=>some (es.any fun p=>p.1==b&&p.2.contains c)
def Qr:Fsp:=⟨50,[shT .expr,shF .str,shF .str],[shF .bool],true,false,fun x=>jk x.1 x.2.1 x.2.2⟩
def Eg(riCopyExpr:af->Option (af))(a:af):Option (af):=ak (fun(⟨e,f,g,h,i,j,k,l,m,o,p⟩:Int×Int×Str×(List af)×Int×Int×Str×(List af)×(List af)×Int×Int)=>bif (decide (p<o))then (idx m p).bind fun d=>(riCopyExpr (ah d)).bind fun c=>(gd (l.length+[ah c].length)).bind fun _=>some (.inl (e,f,g,h,i,j,k,l++[ah c],m,o,w64 (p+1)))else some (.inr (af.mk i j k l))) (0,0,[],[],a.kind,a.n,a.text,[],a.args,(a.args.length:Int),0)
def sU:Nat->(af->Option (af))
 | 0=>fun _=>none
 | n+1=>Eg (sU n)
def BP(a:af):Option (af):=(sU (siz a+1)) a
def Xz:Fsp:=⟨120,[shT .expr],[shT .expr],true,false,fun x=>BP x⟩
def Gp(n:Nat):Fsp:=⟨120,[shT .expr],[shT .expr],true,false,fun x=>(sU n) x⟩
def ji(riRenamed:af->Str->Str->Option (af)):(Str×Str×Int×Int×Str×(List af)×Int×Int×Str×(List af)×Bool×(List af)×Int×Int)->Option ((Str×Str×Int×Int×Str×(List af)×Int×Int×Str×(List af)×Bool×(List af)×Int×Int)⊕(af)):=
(fun (x1:Str×Str×Int×Int×Str×(List af)×Int×Int×Str×(List af)×Bool×(List af)×Int×Int)=>
     bif (decide (x1.2.2.2.2.2.2.2.2.2.2.2.2.2<x1.2.2.2.2.2.2.2.2.2.2.2.2.1))then
      (idx x1.2.2.2.2.2.2.2.2.2.2.2.1 x1.2.2.2.2.2.2.2.2.2.2.2.2.2).bind fun e2=>
      bif x1.2.2.2.2.2.2.2.2.2.2.1 then
       bif (decide (x1.2.2.2.2.2.2.2.2.2.2.2.2.2>0))then
        (BP (ah e2)).bind fun r3=>
        (gd (x1.2.2.2.2.2.2.2.2.2.1.length+[ah r3].length)).bind fun _=>
        some (.inl (x1.1,x1.2.1,x1.2.2.1,x1.2.2.2.1,x1.2.2.2.2.1,x1.2.2.2.2.2.1,x1.2.2.2.2.2.2.1,x1.2.2.2.2.2.2.2.1,x1.2.2.2.2.2.2.2.2.1,x1.2.2.2.2.2.2.2.2.2.1++[ah r3],x1.2.2.2.2.2.2.2.2.2.2.1,x1.2.2.2.2.2.2.2.2.2.2.2.1,x1.2.2.2.2.2.2.2.2.2.2.2.2.1,w64 (x1.2.2.2.2.2.2.2.2.2.2.2.2.2+1)))
       else
        (riRenamed (ah e2) x1.1 x1.2.1).bind fun r4=>
        (gd (x1.2.2.2.2.2.2.2.2.2.1.length+[ah r4].length)).bind fun _=>
        some (.inl (x1.1,x1.2.1,x1.2.2.1,x1.2.2.2.1,x1.2.2.2.2.1,x1.2.2.2.2.2.1,x1.2.2.2.2.2.2.1,x1.2.2.2.2.2.2.2.1,x1.2.2.2.2.2.2.2.2.1,x1.2.2.2.2.2.2.2.2.2.1++[ah r4],x1.2.2.2.2.2.2.2.2.2.2.1,x1.2.2.2.2.2.2.2.2.2.2.2.1,x1.2.2.2.2.2.2.2.2.2.2.2.2.1,w64 (x1.2.2.2.2.2.2.2.2.2.2.2.2.2+1)))
      else
       (riRenamed (ah e2) x1.1 x1.2.1).bind fun r5=>
       (gd (x1.2.2.2.2.2.2.2.2.2.1.length+[ah r5].length)).bind fun _=>
       some (.inl (x1.1,x1.2.1,x1.2.2.1,x1.2.2.2.1,x1.2.2.2.2.1,x1.2.2.2.2.2.1,x1.2.2.2.2.2.2.1,x1.2.2.2.2.2.2.2.1,x1.2.2.2.2.2.2.2.2.1,x1.2.2.2.2.2.2.2.2.2.1++[ah r5],x1.2.2.2.2.2.2.2.2.2.2.1,x1.2.2.2.2.2.2.2.2.2.2.2.1,x1.2.2.2.2.2.2.2.2.2.2.2.2.1,w64 (x1.2.2.2.2.2.2.2.2.2.2.2.2.2+1)))
     else
      some (.inr (af.mk x1.2.2.2.2.2.2.1 x1.2.2.2.2.2.2.2.1 x1.2.2.2.2.2.2.2.2.1 x1.2.2.2.2.2.2.2.2.2.1))
  )
def BL(riRenamed:af->Str->Str->Option (af))(a:af)(b:Str)(c:Str):Option (af):=bif (a.kind==3)then bif (a.text==b)then bif (a.kind==7)then ak (ji riRenamed) (b,c,0,0,[],[],a.kind,a.n,c,[],(a.text==b),a.args,(a.args.length:Int),0)else bif (a.kind==9)then ak (ji riRenamed) (b,c,0,0,[],[],a.kind,a.n,c,[],(a.text==b),a.args,(a.args.length:Int),0)else ak (ji riRenamed) (b,c,0,0,[],[],a.kind,a.n,c,[],false,a.args,(a.args.length:Int),0)else bif (a.kind==7)then ak (ji riRenamed) (b,c,0,0,[],[],a.kind,a.n,a.text,[],(a.text==b),a.args,(a.args.length:Int),0)else bif (a.kind==9)then ak (ji riRenamed) (b,c,0,0,[],[],a.kind,a.n,a.text,[],(a.text==b),a.args,(a.args.length:Int),0)else ak (ji riRenamed) (b,c,0,0,[],[],a.kind,a.n,a.text,[],false,a.args,(a.args.length:Int),0)else bif (a.kind==7)then ak (ji riRenamed) (b,c,0,0,[],[],a.kind,a.n,a.text,[],(a.text==b),a.args,(a.args.length:Int),0)else bif (a.kind==9)then ak (ji riRenamed) (b,c,0,0,[],[],a.kind,a.n,a.text,[],(a.text==b),a.args,(a.args.length:Int),0)else ak (ji riRenamed) (b,c,0,0,[],[],a.kind,a.n,a.text,[],false,a.args,(a.args.length:Int),0)
def wE:Nat->(af->Str->Str->Option (af))
 | 0=>fun _ _ _=>none
 | n+1=>BL (wE n)
def Ot(a:af)(b:Str)(c:Str):Option (af):=(wE (siz a+1)) a b c
def ZA:Fsp:=⟨80,[shT .expr,shF .str,shF .str],[shT .expr],true,false,fun x=>Ot x.1 x.2.1 x.2.2⟩
def JF(n:Nat):Fsp:=⟨80,[shT .expr,shF .str,shF .str],[shT .expr],true,false,fun x=>(wE n) x.1 x.2.1 x.2.2⟩
def nS(a:af)(b:Str)(c:Str):Option (af×Bool):=(fZ (ah a)).bind fun d=>bif (!d)then some (af.mk 0 0 [] [],false)else (aT b).bind fun e=>bif (!e)then some (af.mk 0 0 [] [],false)else (aT c).bind fun f=>bif (!f)then some (af.mk 0 0 [] [],false)else (jk (ah a) b c).bind fun g=>bif g then some (af.mk 0 0 [] [],false)else (Ot (ah a) b c).bind fun h=>some (ah h,true)
def Qj:Fsp:=⟨51,[shT .expr,shF .str,shF .str],[shT .expr,shF .bool],true,false,fun x=>nS x.1 x.2.1 x.2.2⟩
def ab2:Fsp:=⟨158,[shF .int],[shF .str],true,false,fun x=>BJ x⟩
def yt(a:Int):Option (Str):=(BJ a).bind fun b=>some (b)
def Va:Fsp:=⟨121,[shF .int],[shF .str],true,false,fun x=>yt x⟩
def ab1:Fsp:=⟨190,[slF .str,shF .str],[shF .str],true,false,fun x=>BI x.1 x.2⟩
def Xt(a:List Str)(b:Str):Option (Str):=(BI a b).bind fun c=>some (c)
def agl:Fsp:=⟨159,[slF .str,shF .str],[shF .str],true,false,fun x=>Xt x.1 x.2⟩
def F9(a:af):Option (Int):=bif (a.kind==7)then some (0)else bif (a.kind==8)then some (0)else bif (a.kind==9)then some (0)else bif (a.kind==6)then bif (a.n==4)then some (1)else bif (a.n==5)then some (1)else bif (a.n==1)then some (2)else bif (a.n==2)then some (2)else bif (a.n==3)then some (3)else some (4)else some (4)
def ZE:Fsp:=⟨123,[shT .expr],[shF .int],true,false,fun x=>F9 x⟩
def Oo(riSource:af->Option (Str))(riSources:(List af)->Option (Str))(riEnclosed:af->Int->Option (Str))(a:af):Option (Str):=bif (a.kind==1)then (yt a.n).bind fun A=>some (A)else bif (a.kind==2)then (gd ([34].length+a.text.length)).bind fun _=>(gd (([34]++a.text).length+[34].length)).bind fun _=>some (([34]++a.text)++[34])else bif (a.kind==3)then some (a.text)else bif (a.kind==4)then (riSources a.args).bind fun p=>(gd ([91].length+p.length)).bind fun _=>(gd (([91]++p).length+[93].length)).bind fun _=>some (([91]++p)++[93])else bif (a.kind==5)then (gd (a.text.length+[40].length)).bind fun _=>(riSources a.args).bind fun q=>(gd ((a.text++[40]).length+q.length)).bind fun _=>(gd (((a.text++[40])++q).length+[41].length)).bind fun _=>some (((a.text++[40])++q)++[41])else bif (a.kind==7)then (gd ([108,101,116,32].length+a.text.length)).bind fun _=>(gd (([108,101,116,32]++a.text).length+[32,61,32].length)).bind fun _=>(idx a.args 0).bind fun B=>(riSource (ah B)).bind fun o=>(gd ((([108,101,116,32]++a.text)++[32,61,32]).length+o.length)).bind fun _=>(gd (((([108,101,116,32]++a.text)++[32,61,32])++o).length+[32,105,110,32].length)).bind fun _=>(idx a.args 1).bind fun C=>(riSource (ah C)).bind fun z=>(gd ((((([108,101,116,32]++a.text)++[32,61,32])++o)++[32,105,110,32]).length+z.length)).bind fun _=>some ((((([108,101,116,32]++a.text)++[32,61,32])++o)++[32,105,110,32])++z)else bif (a.kind==8)then (idx a.args 0).bind fun D=>(riSource (ah D)).bind fun i=>(gd ([105,102,32].length+i.length)).bind fun _=>(gd (([105,102,32]++i).length+[32,116,104,101,110,32].length)).bind fun _=>(idx a.args 1).bind fun r=>(riSource (ah r)).bind fun d=>(gd ((([105,102,32]++i)++[32,116,104,101,110,32]).length+d.length)).bind fun _=>(gd (((([105,102,32]++i)++[32,116,104,101,110,32])++d).length+[32,101,108,115,101,32].length)).bind fun _=>(idx a.args 2).bind fun s=>(riSource (ah s)).bind fun j=>(gd ((((([105,102,32]++i)++[32,116,104,101,110,32])++d)++[32,101,108,115,101,32]).length+j.length)).bind fun _=>some ((((([105,102,32]++i)++[32,116,104,101,110,32])++d)++[32,101,108,115,101,32])++j)else bif (a.kind==9)then (gd ([102,111,114,32].length+a.text.length)).bind fun _=>(gd (([102,111,114,32]++a.text).length+[32,105,110,32].length)).bind fun _=>(idx a.args 0).bind fun t=>(riSource (ah t)).bind fun e=>(gd ((([102,111,114,32]++a.text)++[32,105,110,32]).length+e.length)).bind fun _=>(gd (((([102,111,114,32]++a.text)++[32,105,110,32])++e).length+[32,100,111,32].length)).bind fun _=>(idx a.args 1).bind fun u=>(riSource (ah u)).bind fun k=>(gd ((((([102,111,114,32]++a.text)++[32,105,110,32])++e)++[32,100,111,32]).length+k.length)).bind fun _=>some ((((([102,111,114,32]++a.text)++[32,105,110,32])++e)++[32,100,111,32])++k)else (F9 (ah a)).bind fun f=>bif (f==1)then (idx a.args 0).bind fun v=>(riEnclosed (ah v) 2).bind fun b=>(gd (b.length+[32].length)).bind fun _=>(rV a.n).bind fun g=>(gd ((b++[32]).length+g.length)).bind fun _=>(gd (((b++[32])++g).length+[32].length)).bind fun _=>(idx a.args 1).bind fun w=>(riEnclosed (ah w) (w64 (f+1))).bind fun l=>(gd ((((b++[32])++g)++[32]).length+l.length)).bind fun _=>some ((((b++[32])++g)++[32])++l)else (idx a.args 0).bind fun x=>(riEnclosed (ah x) f).bind fun c=>(gd (c.length+[32].length)).bind fun _=>(rV a.n).bind fun h=>(gd ((c++[32]).length+h.length)).bind fun _=>(gd (((c++[32])++h).length+[32].length)).bind fun _=>(idx a.args 1).bind fun y=>(riEnclosed (ah y) (w64 (f+1))).bind fun m=>(gd ((((c++[32])++h)++[32]).length+m.length)).bind fun _=>
 some ((((c++[32])++h)++[32])++m)
def Ip(riSource:af->Option (Str))(riSources:(List af)->Option (Str))(riEnclosed:af->Int->Option (Str))(a:List af):Option (Str):=ak (fun(⟨f,g,h,i⟩:(List Str)×(List af)×Int×Int)=>bif (decide (i<h))then (idx g i).bind fun d=>(riSource (ah d)).bind fun c=>(gd (f.length+([c]:List Str).length)).bind fun _=>some (.inl (f++([c]:List Str),g,h,w64 (i+1)))else ((Xt f [44,32]).bind fun e=>some (e)).bind fun r=>some (.inr r)) ([],a,(a.length:Int),0)
def Ef(riSource:af->Option (Str))(riSources:(List af)->Option (Str))(riEnclosed:af->Int->Option (Str))(a:af)(b:Int):Option (Str):=(riSource (ah a)).bind fun c=>(F9 (ah a)).bind fun d=>bif (decide (d<b))then (gd ([40].length+c.length)).bind fun _=>(gd (([40]++c).length+[41].length)).bind fun _=>some (([40]++c)++[41])else some (c)
def di:Nat->(af->Option (Str))×((List af)->Option (Str))×(af->Int->Option (Str))
 | 0=>(fun _=>none,fun _=>none,fun _ _=>none)
 | n+1=>(Oo (di n).1 (di n).2.1 (di n).2.2,Ip (di n).1 (di n).2.1 (di n).2.2,Ef (di n).1 (di n).2.1 (di n).2.2)
def UX(a:af):Option (Str):=(di (siz a+1)).1 a
def acj:Fsp:=⟨81,[shT .expr],[shF .str],true,false,fun x=>UX x⟩
def Om(n:Nat):Fsp:=⟨81,[shT .expr],[shF .str],true,false,fun x=>(di n).1 x⟩
def aey(a:List af):Option (Str):=(di (siz a+1)).2.1 a
def Zx:Fsp:=⟨122,[slF .expr],[shF .str],true,false,fun x=>aey x⟩
def JE(n:Nat):Fsp:=⟨122,[slF .expr],[shF .str],true,false,fun x=>(di n).2.1 x⟩
def aco(a:af)(b:Int):Option (Str):=(di (siz a+1)).2.2 a b
def Xw:Fsp:=⟨124,[shT .expr,shF .int],[shF .str],true,false,fun x=>aco x.1 x.2⟩
def Gj(n:Nat):Fsp:=⟨124,[shT .expr,shF .int],[shF .str],true,false,fun x=>(di n).2.2 x.1 x.2⟩
def nU(a:af):Option (Str):=(fZ (ah a)).bind fun b=>bif (!b)then some ([])else (UX (ah a)).bind fun c=>some (c)
def Qu:Fsp:=⟨52,[shT .expr],[shF .str],true,false,fun x=>nU x⟩
def BM(a:aC)(b:Str)(c:Str)(d:Bool):Option (aC×Int):=(nV a).bind fun o=>(jO a).bind fun C=>bif (!C)then some (a,1)else (aT b).bind fun D=>bif (!D)then some (a,1)else (aT c).bind fun E=>bif (!E)then some (a,1)else bif (b==c)then some (a,1)else (F5 o b).bind fun B=>bif (decide (B<0))then some (a,2)else (wI o c).bind fun F=>ak (fun(⟨H,I,J,K,L,M,N,O,P,Q,R,S⟩:Str×Str×Bool×(List aj)×(List aj)×(List aO)×Int×Bool×Bool×(List aO)×Int×Int)=>bif (decide (S<R))then (idx Q S).bind fun p=>bif O then bif P then some (.inl (H,I,J,K,L,M,N,true,true,Q,R,w64 (S+1)))else bif (p.kind==2)then (jk (ah p.expr) H I).bind fun G=>some (.inl (H,I,J,K,L,M,N,true,G,Q,R,w64 (S+1)))else some (.inl (H,I,J,K,L,M,N,true,false,Q,R,w64 (S+1)))else (yg (jW p)).bind fun s=>(mJ s I).bind fun l=>bif P then some (.inl (H,I,J,K,L,M,N,(decide (l>=0)),true,Q,R,w64 (S+1)))else bif (p.kind==2)then (jk (ah p.expr) H I).bind fun t=>some (.inl (H,I,J,K,L,M,N,(decide (l>=0)),t,Q,R,w64 (S+1)))else some (.inl (H,I,J,K,L,M,N,(decide (l>=0)),false,Q,R,w64 (S+1)))else (bif O then some (aC.mk K,3)else bif P then some (aC.mk K,4)else (mM (aC.mk K)).bind fun m=>(idx m.cells N).bind fun _=>(m.cells[N.toNat]?).bind fun i=>ak (fun(⟨g,T,U,V,W,X,Y,Z,aa,ac⟩:Str×Str×Bool×(List aj)×(List aj)×(List aj)×Bool×(List aO)×Int×Int)=>bif (decide (ac<aa))then (idx Z ac).bind fun q=>(yg (jW q)).bind fun u=>(mJ u g).bind fun v=>bif (decide (v<0))then some (.inl (g,T,U,V,W,X,Y,Z,aa,w64 (ac+1)))else (nS (ah q.expr) g T).bind fun w=>(nU (ah w.1)).bind fun h=>(idx X ac).bind fun _=>(X[ac.toNat]?).bind fun f=>(idx (X.set ac.toNat (aj.mk f.id f.version f.kind f.name h f.n)) ac).bind fun _=>((X.set ac.toNat (aj.mk f.id f.version f.kind f.name h f.n))[ac.toNat]?).bind fun x=>bif (decide ((x.code.length:Int)>120))then some (.inr (aC.mk V,5))else bif U then bif Y then (idx (X.set ac.toNat (aj.mk f.id f.version f.kind f.name h f.n)) ac).bind fun _=>((X.set ac.toNat (aj.mk f.id f.version f.kind f.name h f.n))[ac.toNat]?).bind fun y=>(idx (X.set ac.toNat (aj.mk f.id f.version f.kind f.name h f.n)) ac).bind fun _=>((X.set ac.toNat (aj.mk f.id f.version f.kind f.name h f.n))[ac.toNat]?).bind fun j=>some (.inl (g,T,U,V,W,(X.set ac.toNat (aj.mk f.id f.version f.kind f.name h f.n)).set ac.toNat (aj.mk j.id (w64 (y.version+1)) j.kind j.name j.code j.n),true,Z,aa,w64 (ac+1)))
      else
       (idx (X.set ac.toNat (aj.mk f.id f.version f.kind f.name h f.n)) ac).bind fun _=>
       ((X.set ac.toNat (aj.mk f.id f.version f.kind f.name h f.n))[ac.toNat]?).bind fun z=>
       (idx (X.set ac.toNat (aj.mk f.id f.version f.kind f.name h f.n)) ac).bind fun _=>
       ((X.set ac.toNat (aj.mk f.id f.version f.kind f.name h f.n))[ac.toNat]?).bind fun A=>
       (idx (X.set ac.toNat (aj.mk f.id f.version f.kind f.name h f.n)) ac).bind fun _=>
       ((X.set ac.toNat (aj.mk f.id f.version f.kind f.name h f.n))[ac.toNat]?).bind fun k=>
       some (.inl (g,T,U,V,W,(X.set ac.toNat (aj.mk f.id f.version f.kind f.name h f.n)).set ac.toNat (aj.mk k.id (w64 (A.version+1)) k.kind k.name k.code k.n),(decide (z.version>=999)),Z,aa,w64 (ac+1)))
     else
      some (.inl (g,T,U,V,W,X.set ac.toNat (aj.mk f.id f.version f.kind f.name h f.n),Y,Z,aa,w64 (ac+1)))
    else
     (
      bif Y then
       some (aC.mk V,6)
      else
       some (aC.mk X,0)
     ).bind fun r=>some (.inr r)
   ) (H,I,J,K,L,m.cells.set N.toNat (aj.mk i.id i.version i.kind I i.code i.n),false,M,(M.length:Int),0)
  ).bind fun r=>some (.inr r)
 ) (b,c,d,a.cells,[],o,B,(decide ((F.length:Int)>0)),false,o,(o.length:Int),0)
def Xo:Fsp:=⟨22,[shT .notebook,shF .str,shF .str,shF .bool],[shT .notebook,shF .int],false,false,fun x=>BM x.1 x.2.1 x.2.2.1 x.2.2.2⟩
def mW(a:aC)(b:Str)(c:Str):Option (aC×Int):=(BM a b c true).bind fun d=>(mM d.1).bind fun e=>some (e,d.2)
def F6:Fsp:=⟨6,[shT .notebook,shF .str,shF .str],[shT .notebook,shF .int],true,false,fun x=>mW x.1 x.2.1 x.2.2⟩
def ng(a:aC)(b:Int):Option (Int):=ak (fun(⟨e,f,g⟩:Int×(List aj)×Int)=>bif (decide (g<(f.length:Int)))then (idx f g).bind fun d=>bif (d.id==e)then some (.inr (g))else some (.inl (e,f,w64 (g+1)))else some (.inr ((-1)))) (b,a.cells,0)
def Un:Fsp:=⟨37,[shT .notebook,shF .int],[shF .int],true,false,fun x=>ng x.1 x.2⟩
def lH(a:Str):Option (Bool):=ak (fun (b:Str×Int)=>bif (decide (b.2<(b.1.length:Int)))then (idx b.1 b.2).bind fun c=>bif (decide ((c.toNat:Int)<32))then some (.inr (false))else (idx b.1 b.2).bind fun d=>bif (decide ((d.toNat:Int)>126))then some (.inr (false))else some (.inl (b.1,w64 (b.2+1)))else some (.inr ((decide ((b.1.length:Int)<=120))))) (a,0)
def MQ:Fsp:=⟨82,[shF .str],[shF .bool],true,false,fun x=>lH x⟩
def dL(a:aj):Option (Bool):=(qm a.id 1 999).bind fun b=>bif (!b)then some (false)else (qm a.version 1 999).bind fun c=>bif (!c)then some (false)else (lH a.code).bind fun d=>bif (!d)then some (false)else bif (a.kind==1)then bif (a.name==[])then some ((a.n==0))else some (false)else bif (a.kind==2)then (aX a.name).bind fun e=>bif e then some ((a.n==0))else some (false)else bif (a.kind==4)then (aX a.name).bind fun f=>bif f then some ((a.n==0))else some (false)else bif (a.kind==3)then (aX a.name).bind fun g=>bif g then bif (a.code==[])then (qm a.n 0 100).bind fun h=>some (h)else some (false)else some (false)else some (false)
def MO:Fsp:=⟨53,[shT .cell],[shF .bool],true,false,fun x=>dL x⟩
def jK(a:aC):Option (Bool):=ak (fun (b:(List aj)×Int)=>bif (decide (b.2<(b.1.length:Int)))then (idx b.1 b.2).bind fun c=>(dL c).bind fun d=>bif (!d)then some (.inr (false))else (idx b.1 b.2).bind fun e=>(ng (aC.mk b.1) e.id).bind fun f=>bif (f != b.2)then some (.inr (false))else some (.inl (b.1,w64 (b.2+1)))else some (.inr ((decide ((b.1.length:Int)<=8))))) (a.cells,0)
def DC:Fsp:=⟨25,[shT .notebook],[shF .bool],true,false,fun x=>jK x⟩
def Bo(a:Str)(b:Int):Option (Int×Bool):=bif (decide ((a.length:Int)>0))then (idx a 0).bind fun f=>bif ((f.toNat:Int)==45)then (eff.cutL a (some 1) none).bind fun g=>bif (decide ((g.length:Int)<1))then some (0,false)else bif (decide ((g.length:Int)>b))then some (0,false)else ak (fun(⟨x,y,z,A,B⟩:Str×Bool×Str×Int×Int)=>bif (decide (B<(z.length:Int)))then (idx z B).bind fun s=>bif (decide ((s.toNat:Int)<48))then some (.inr (0,false))else (idx z B).bind fun t=>bif (decide ((t.toNat:Int)>57))then some (.inr (0,false))else (idx z B).bind fun u=>some (.inl (x,y,z,w64 ((w64 (10*A))+(w64 (w8 ((u.toNat:Int)-48)))),w64 (B+1)))else (bif y then (dM (w64 (0-A))).bind fun v=>bif (!(v==x))then some (0,false)else some (w64 (0-A),true)else (dM A).bind fun w=>bif (!(w==x))then some (0,false)else some (A,true)).bind fun r=>some (.inr r)) (a,((f.toNat:Int)==45),g,0,0)else bif (decide ((a.length:Int)<1))then some (0,false)else bif (decide ((a.length:Int)>b))then some (0,false)else ak (fun(⟨d,C,D,E,F⟩:Str×Bool×Str×Int×Int)=>bif (decide (F<(D.length:Int)))then (idx D F).bind fun h=>bif (decide ((h.toNat:Int)<48))then some (.inr (0,false))else (idx D F).bind fun i=>bif (decide ((i.toNat:Int)>57))then some (.inr (0,false))else (idx D F).bind fun j=>some (.inl (d,C,D,w64 ((w64 (10*E))+(w64 (w8 ((j.toNat:Int)-48)))),w64 (F+1)))else (bif C then (dM (w64 (0-E))).bind fun k=>bif (!(k==d))then some (0,false)else some (w64 (0-E),true)else (dM E).bind fun l=>bif (!(l==d))then some (0,false)else some (E,true)).bind fun r=>some (.inr r)) (a,((f.toNat:Int)==45),a,0,0)else bif (decide ((a.length:Int)<1))then some (0,false)else bif (decide ((a.length:Int)>b))then some (0,false)else ak (fun(⟨e,G,H,I,J⟩:Str×Bool×Str×Int×Int)=>bif (decide (J<(H.length:Int)))then (idx H J).bind fun m=>bif (decide ((m.toNat:Int)<48))then some (.inr (0,false))else (idx H J).bind fun n=>bif (decide ((n.toNat:Int)>57))then some (.inr (0,false))else (idx H J).bind fun o=>some (.inl (e,G,H,w64 ((w64 (10*I))+(w64 (w8 ((o.toNat:Int)-48)))),w64 (J+1)))else (bif G then (dM (w64 (0-I))).bind fun p=>bif (!(p==e))then some (0,false)else some (w64 (0-I),true)else (dM I).bind fun q=>bif (!(q==e))then some (0,false)else some (I,true)).bind fun r=>some (.inr r)) (a,false,a,0,0)
def abp:Fsp:=⟨167,[shF .str,shF .int],[shF .int,shF .bool],true,false,fun x=>Bo x.1 x.2⟩
def gU(a:Str):Option (Int×Bool):=(Bo a 12).bind fun b=>some (b.1,b.2)
def VL:Fsp:=⟨133,[shF .str],[shF .int,shF .bool],true,false,fun x=>gU x⟩
def vF(a:Int):Option (Bool):=bif (decide (a>=97))then some ((decide (a<=122)))else some (false)
def VP:Fsp:=⟨161,[shF .u8],[shF .bool],true,false,fun x=>vF x⟩
def vG(a:Int):Option (Bool):=bif (decide (a>=48))then some ((decide (a<=57)))else some (false)
def Yz:Fsp:=⟨162,[shF .u8],[shF .bool],true,false,fun x=>vG x⟩
def lF(a:Str)(b:Int):Option (Int):=(idx a b).bind fun c=>bif ((c.toNat:Int)==40)then some (1)else bif ((c.toNat:Int)==41)then some (1)else bif ((c.toNat:Int)==91)then some (1)else bif ((c.toNat:Int)==93)then some (1)else bif ((c.toNat:Int)==44)then some (1)else bif ((c.toNat:Int)==43)then some (1)else bif ((c.toNat:Int)==45)then some (1)else bif ((c.toNat:Int)==42)then some (1)else bif ((c.toNat:Int)==60)then some (1)else bif ((c.toNat:Int)==61)then bif (decide ((w64 (b+1))<(a.length:Int)))then (idx a (w64 (b+1))).bind fun d=>bif ((d.toNat:Int)==61)then some (2)else some (1)else some (1)else some (0)
def VO:Fsp:=⟨163,[shF .str,shF .int],[shF .int],true,false,fun x=>lF x.1 x.2⟩
def jD(a:Str)(b:Int):Option (aA×Int):=(idx a b).bind fun y=>(vF (y.toNat:Int)).bind fun z=>bif z then ak (fun(⟨E,F,G,H,I,J,K,L,M,N,O⟩:Str×Int×Int×Int×Int×Str×Int×Int×Int×Str×Int)=>bif (decide (O<(E.length:Int)))then (idx E O).bind fun A=>(vF (A.toNat:Int)).bind fun B=>bif B then some (.inl (E,F,G,H,I,J,K,L,M,N,w64 (O+1)))else (idx E O).bind fun C=>(vG (C.toNat:Int)).bind fun D=>bif D then some (.inl (E,F,G,H,I,J,K,L,M,N,w64 (O+1)))else ((eff.cutL E (some F) (some O)).bind fun w=>bif (decide ((w64 (O-F))>8))then some (aA.mk 1 L M w,0)else some (aA.mk 1 L M w,w64 (O-F))).bind fun r=>some (.inr r)else ((eff.cutL E (some F) (some O)).bind fun x=>bif (decide ((w64 (O-F))>8))then some (aA.mk 1 L M x,0)else some (aA.mk 1 L M x,w64 (O-F))).bind fun r=>some (.inr r)) (a,b,0,0,0,[],0,0,b,[],b)else (idx a b).bind fun k=>(vG (k.toNat:Int)).bind fun l=>bif l then ak (fun(⟨e,P,Q,R,S,T,U,V,W,X,Y⟩:Str×Int×Int×Int×Int×Str×Int×Int×Int×Str×Int)=>bif (decide (Y<(e.length:Int)))then (idx e Y).bind fun m=>(vG (m.toNat:Int)).bind fun n=>bif n then some (.inl (e,P,Q,R,S,T,U,V,W,X,w64 (Y+1)))else ((eff.cutL e (some P) (some Y)).bind fun o=>(gU o).bind fun f=>bif (!f.2)then some (aA.mk 2 f.1 W X,0)else bif (decide (f.1>1000000000))then some (aA.mk 2 f.1 W X,0)else some (aA.mk 2 f.1 W X,w64 (Y-P))).bind fun r=>some (.inr r)else ((eff.cutL e (some P) (some Y)).bind fun p=>(gU p).bind fun g=>bif (!g.2)then some (aA.mk 2 g.1 W X,0)else bif (decide (g.1>1000000000))then some (aA.mk 2 g.1 W X,0)else some (aA.mk 2 g.1 W X,w64 (Y-P))).bind fun r=>some (.inr r)) (a,b,0,0,0,[],0,0,b,[],b)else (idx a b).bind fun q=>bif ((q.toNat:Int)==34)then ak (fun(⟨d,Z,aa,ac,ae,al,aq,aw,az,aD,aE⟩:Str×Int×Int×Int×Int×Str×Int×Int×Int×Str×Int)=>bif (decide (aE<(d.length:Int)))then (idx d aE).bind fun s=>bif ((s.toNat:Int) != 34)then some (.inl (d,Z,aa,ac,ae,al,aq,aw,az,aD,w64 (aE+1)))else ((eff.cutL d (some (w64 (Z+1))) (some aE)).bind fun h=>bif (aE==(d.length:Int))then some (aA.mk 3 aw az h,0)else (dw h).bind fun t=>bif (!t)then some (aA.mk 3 aw az h,0)else some (aA.mk 3 aw az h,w64 ((w64 (aE+1))-Z))).bind fun r=>some (.inr r)else ((eff.cutL d (some (w64 (Z+1))) (some aE)).bind fun i=>bif (aE==(d.length:Int))then some (aA.mk 3 aw az i,0)else
      (dw i).bind fun u=>
      bif (!u)then
       some (aA.mk 3 aw az i,0)
      else
       some (aA.mk 3 aw az i,w64 ((w64 (aE+1))-Z))
    ).bind fun r=>some (.inr r)
  ) (a,b,0,0,0,[],0,0,b,[],w64 (b+1))
 else
  (lF a b).bind fun j=>
  (eff.cutL a (some b) (some (w64 (b+j)))).bind fun v=>
  some (aA.mk 4 0 b v,w64 ((w64 (b+j))-b))
def abm:Fsp:=⟨128,[shF .str,shF .int],[shT .token,shF .int],true,false,fun x=>jD x.1 x.2⟩
def nK(a:Str):Option ((List aA)×Int):=bif (decide ((a.length:Int)>120))then some ([],120)else ak (fun(⟨e,f,g⟩:Str×(List aA)×Int)=>bif (decide (g<(e.length:Int)))then (idx e g).bind fun d=>bif ((d.toNat:Int)==32)then some (.inl (e,f,w64 (g+1)))else (jD e g).bind fun c=>bif (c.2==0)then some (.inr ([],g))else bif ((f.length:Int)==60)then some (.inr ([],g))else (gd (f.length+[c.1].length)).bind fun _=>some (.inl (e,f++[c.1],w64 (g+c.2)))else some (.inr (f,(-1)))) (a,[],0)
def VK:Fsp:=⟨94,[shF .str],[slF .token,shF .int],true,false,fun x=>nK x⟩
def gV(a:aA)(b:Str):Option (Bool):=bif (a.kind==4)then some ((a.text==b))else some (false)
def Wl:Fsp:=⟨164,[shT .token,shF .str],[shF .bool],true,false,fun x=>gV x.1 x.2⟩
def xE(a:aA)(b:Str):Option (Bool):=bif (a.kind==1)then some ((a.text==b))else some (false)
def Ui:Fsp:=⟨165,[shT .token,shF .str],[shF .bool],true,false,fun x=>xE x.1 x.2⟩
def dO(a:GRd)(b:Str):Option (GRd×Bool):=bif (decide (a.bad<0))then bif (decide (a.i<(a.toks.length:Int)))then (idx a.toks a.i).bind fun c=>(gV c b).bind fun d=>bif d then some (a,true)else (idx a.toks a.i).bind fun e=>(xE e b).bind fun f=>some (a,f)else some (a,false)else some (a,false)
def YO:Fsp:=⟨129,[shT .rd,shF .str],[shT .rd,shF .bool],false,false,fun x=>dO x.1 x.2⟩
def gZ(a:GRd):Option (GRd×af):=bif (decide (a.bad<0))then bif (decide (a.i<(a.toks.length:Int)))then (idx a.toks a.i).bind fun b=>some (GRd.mk a.toks a.i a.stop b.pos,af.mk 0 0 [] [])else some (GRd.mk a.toks a.i a.stop a.stop,af.mk 0 0 [] [])else some (a,af.mk 0 0 [] [])
def YQ:Fsp:=⟨96,[shT .rd],[shT .rd,shT .expr],false,true,fun x=>gZ x⟩
def zO(a:GRd):Option (GRd×Str):=bif (decide (a.bad>=0))then (gZ a).bind fun b=>some (b.1,[])else bif (decide (a.i>=(a.toks.length:Int)))then (gZ a).bind fun c=>some (c.1,[])else (idx a.toks a.i).bind fun d=>bif (d.kind != 1)then (gZ a).bind fun e=>some (e.1,[])else (idx a.toks a.i).bind fun f=>(aX f.text).bind fun g=>bif (!g)then (gZ a).bind fun h=>some (h.1,[])else (idx a.toks (w64 ((w64 (a.i+1))-1))).bind fun j=>some (GRd.mk a.toks (w64 (a.i+1)) a.stop a.bad,j.text)
def YP:Fsp:=⟨130,[shT .rd],[shT .rd,shF .str],false,false,fun x=>zO x⟩
def dV(a:GRd)(b:Str):Option (GRd):=(dO a b).bind fun c=>bif (!c.2)then (gZ c.1).bind fun d=>some (d.1)else some (GRd.mk c.1.toks (w64 (c.1.i+1)) c.1.stop c.1.bad)
def YN:Fsp:=⟨131,[shT .rd,shF .str],[shT .rd],false,false,fun x=>dV x.1 x.2⟩
def jH(rsL11Expr:GRd->Option (GRd×af))(rsL11Compare:GRd->Option (GRd×af))(rsL11Sum:GRd->Option (GRd×af))(rsL11Product:GRd->Option (GRd×af))(rsL11Atom:GRd->Option (GRd×af))(rsL11Args:GRd->Str->Option (GRd×(List af)))(a:GRd):Option (GRd×af):=(dO a [108,101,116]).bind fun c=>bif c.2 then (zO (GRd.mk c.1.toks (w64 (c.1.i+1)) c.1.stop c.1.bad)).bind fun o=>(dV o.1 [61]).bind fun s=>(rsL11Expr s).bind fun p=>(dV p.1 [105,110]).bind fun t=>(rsL11Expr t).bind fun q=>some (q.1,af.mk 7 0 o.2 [ah p.2,ah q.2])else (dO c.1 [105,102]).bind fun d=>bif d.2 then (rsL11Expr (GRd.mk d.1.toks (w64 (d.1.i+1)) d.1.stop d.1.bad)).bind fun r=>(dV r.1 [116,104,101,110]).bind fun u=>(rsL11Expr u).bind fun e=>(dV e.1 [101,108,115,101]).bind fun l=>(rsL11Expr l).bind fun f=>some (f.1,af.mk 8 0 [] [ah r.2,ah e.2,ah f.2])else (dO d.1 [102,111,114]).bind fun b=>bif b.2 then (zO (GRd.mk b.1.toks (w64 (b.1.i+1)) b.1.stop b.1.bad)).bind fun g=>(dV g.1 [105,110]).bind fun m=>(rsL11Expr m).bind fun h=>(dV h.1 [100,111]).bind fun n=>(rsL11Expr n).bind fun j=>some (j.1,af.mk 9 0 g.2 [ah h.2,ah j.2])else (rsL11Compare b.1).bind fun k=>some (k.1,ah k.2)
def jc(rsL11Expr:GRd->Option (GRd×af))(rsL11Compare:GRd->Option (GRd×af))(rsL11Sum:GRd->Option (GRd×af))(rsL11Product:GRd->Option (GRd×af))(rsL11Atom:GRd->Option (GRd×af))(rsL11Args:GRd->Str->Option (GRd×(List af)))(a:GRd):Option (GRd×af):=(rsL11Sum a).bind fun d=>(dO d.1 [60]).bind fun b=>bif b.2 then (rsL11Sum (GRd.mk b.1.toks (w64 (b.1.i+1)) b.1.stop b.1.bad)).bind fun e=>(iw 4 (ah d.2) (ah e.2)).bind fun g=>some (e.1,ah g)else (dO b.1 [61,61]).bind fun c=>bif c.2 then (rsL11Sum (GRd.mk c.1.toks (w64 (c.1.i+1)) c.1.stop c.1.bad)).bind fun f=>(iw 5 (ah d.2) (ah f.2)).bind fun h=>some (f.1,ah h)else some (c.1,ah d.2)
def Fa(rsL11Expr:GRd->Option (GRd×af))(rsL11Compare:GRd->Option (GRd×af))(rsL11Sum:GRd->Option (GRd×af))(rsL11Product:GRd->Option (GRd×af))(rsL11Atom:GRd->Option (GRd×af))(rsL11Args:GRd->Str->Option (GRd×(List af)))(a:GRd):Option (GRd×af):=(rsL11Product a).bind fun j=>ak (fun(⟨r,s,t,u,v,w,x,y,z,A,B,C⟩:(List aA)×Int×Int×Int×Int×Int×Str×(List af)×Int×Int×Str×(List af))=>(dO (GRd.mk r s t u) [43]).bind fun p=>bif p.2 then (dO p.1 [45]).bind fun f=>bif f.2 then (rsL11Product (GRd.mk f.1.toks (w64 (f.1.i+1)) f.1.stop f.1.bad)).bind fun k=>(iw 2 (af.mk z A B C) (ah k.2)).bind fun m=>some (.inl (k.1.toks,k.1.i,k.1.stop,k.1.bad,v,w,x,y,m.kind,m.n,m.text,m.args))else (rsL11Product (GRd.mk f.1.toks (w64 (f.1.i+1)) f.1.stop f.1.bad)).bind fun l=>(iw 1 (af.mk z A B C) (ah l.2)).bind fun o=>some (.inl (l.1.toks,l.1.i,l.1.stop,l.1.bad,v,w,x,y,o.kind,o.n,o.text,o.args))else (dO p.1 [45]).bind fun q=>bif q.2 then (dO q.1 [45]).bind fun c=>bif c.2 then (rsL11Product (GRd.mk c.1.toks (w64 (c.1.i+1)) c.1.stop c.1.bad)).bind fun d=>(iw 2 (af.mk z A B C) (ah d.2)).bind fun g=>some (.inl (d.1.toks,d.1.i,d.1.stop,d.1.bad,v,w,x,y,g.kind,g.n,g.text,g.args))else (rsL11Product (GRd.mk c.1.toks (w64 (c.1.i+1)) c.1.stop c.1.bad)).bind fun e=>(iw 1 (af.mk z A B C) (ah e.2)).bind fun h=>some (.inl (e.1.toks,e.1.i,e.1.stop,e.1.bad,v,w,x,y,h.kind,h.n,h.text,h.args))else some (.inr (q.1,af.mk z A B C))) (j.1.toks,j.1.i,j.1.stop,j.1.bad,0,0,[],[],j.2.kind,j.2.n,j.2.text,j.2.args)
def qW(rsL11Expr:GRd->Option (GRd×af))(rsL11Compare:GRd->Option (GRd×af))(rsL11Sum:GRd->Option (GRd×af))(rsL11Product:GRd->Option (GRd×af))(rsL11Atom:GRd->Option (GRd×af))(rsL11Args:GRd->Str->Option (GRd×(List af)))(a:GRd):Option (GRd×af):=(rsL11Atom a).bind fun c=>ak (fun(⟨g,h,j,k,l,m,o,p,q,r,s,t⟩:(List aA)×Int×Int×Int×Int×Int×Str×(List af)×Int×Int×Str×(List af))=>(dO (GRd.mk g h j k) [42]).bind fun d=>bif d.2 then (rsL11Atom (GRd.mk d.1.toks (w64 (d.1.i+1)) d.1.stop d.1.bad)).bind fun e=>(iw 3 (af.mk q r s t) (ah e.2)).bind fun f=>some (.inl (e.1.toks,e.1.i,e.1.stop,e.1.bad,l,m,o,p,f.kind,f.n,f.text,f.args))else some (.inr (d.1,af.mk q r s t))) (c.1.toks,c.1.i,c.1.stop,c.1.bad,0,0,[],[],c.2.kind,c.2.n,c.2.text,c.2.args)
def nM(rsL11Expr:GRd->Option (GRd×af))(rsL11Compare:GRd->Option (GRd×af))(rsL11Sum:GRd->Option (GRd×af))(rsL11Product:GRd->Option (GRd×af))(rsL11Atom:GRd->Option (GRd×af))(rsL11Args:GRd->Str->Option (GRd×(List af)))(a:GRd):Option (GRd×af):=bif (decide (a.bad>=0))then (gZ a).bind fun F=>some (F.1,ah F.2)else bif (decide (a.i>=(a.toks.length:Int)))then (gZ a).bind fun G=>some (G.1,ah G.2)else (idx a.toks a.i).bind fun b=>bif (b.kind==2)then (jE b.n).bind fun I=>some (GRd.mk a.toks (w64 (a.i+1)) a.stop a.bad,ah I)else bif (b.kind==3)then some (GRd.mk a.toks (w64 (a.i+1)) a.stop a.bad,af.mk 2 0 b.text [])else bif (b.kind==1)then (aX b.text).bind fun J=>bif J then (zS b.text).bind fun K=>some (GRd.mk a.toks (w64 (a.i+1)) a.stop a.bad,ah K)else bif (b.kind==1)then (cu b.text).bind fun L=>bif (decide (L>=0))then (dV (GRd.mk a.toks (w64 (a.i+1)) a.stop a.bad) [40]).bind fun M=>(rsL11Args M [41]).bind fun H=>some (H.1,af.mk 5 0 b.text H.2)else (gV b [91]).bind fun r=>bif r then (rsL11Args (GRd.mk a.toks (w64 (a.i+1)) a.stop a.bad) [93]).bind fun c=>some (c.1,af.mk 4 0 [] c.2)else (gV b [40]).bind fun s=>bif s then (rsL11Expr (GRd.mk a.toks (w64 (a.i+1)) a.stop a.bad)).bind fun d=>(dV d.1 [41]).bind fun t=>some (t,ah d.2)else (gZ a).bind fun e=>some (e.1,ah e.2)else (gV b [91]).bind fun u=>bif u then (rsL11Args (GRd.mk a.toks (w64 (a.i+1)) a.stop a.bad) [93]).bind fun f=>some (f.1,af.mk 4 0 [] f.2)else (gV b [40]).bind fun v=>bif v then (rsL11Expr (GRd.mk a.toks (w64 (a.i+1)) a.stop a.bad)).bind fun g=>(dV g.1 [41]).bind fun w=>some (w,ah g.2)else (gZ a).bind fun h=>some (h.1,ah h.2)else bif (b.kind==1)then (cu b.text).bind fun x=>bif (decide (x>=0))then (dV (GRd.mk a.toks (w64 (a.i+1)) a.stop a.bad) [40]).bind fun y=>(rsL11Args y [41]).bind fun j=>some (j.1,af.mk 5 0 b.text j.2)else (gV b [91]).bind fun z=>bif z then (rsL11Args (GRd.mk a.toks (w64 (a.i+1)) a.stop a.bad) [93]).bind fun k=>some (k.1,af.mk 4 0 [] k.2)else (gV b [40]).bind fun A=>bif A then (rsL11Expr (GRd.mk a.toks (w64 (a.i+1)) a.stop a.bad)).bind fun l=>(dV l.1 [41]).bind fun B=>some (B,ah l.2)else (gZ a).bind fun m=>some (m.1,ah m.2)else (gV b [91]).bind fun C=>bif C then (rsL11Args (GRd.mk a.toks (w64 (a.i+1)) a.stop a.bad) [93]).bind fun o=>some (o.1,af.mk 4 0 [] o.2)else (gV b [40]).bind fun D=>bif D then (rsL11Expr (GRd.mk a.toks (w64 (a.i+1)) a.stop a.bad)).bind fun p=>(dV p.1 [41]).bind fun E=>some (E,ah p.2)else (gZ a).bind fun q=>some (q.1,ah q.2)
def rM(rsL11Expr:GRd->Option (GRd×af))(rsL11Compare:GRd->Option (GRd×af))(rsL11Sum:GRd->Option (GRd×af))(rsL11Product:GRd->Option (GRd×af))(rsL11Atom:GRd->Option (GRd×af))(rsL11Args:GRd->Str->Option (GRd×(List af)))(a:GRd)(b:Str):Option (GRd×(List af)):=(dO a b).bind fun d=>bif d.2 then some (GRd.mk d.1.toks (w64 (d.1.i+1)) d.1.stop d.1.bad,[])else ak (fun(⟨j,k,l,m,n,o⟩:(List aA)×Int×Int×Int×Str×(List af))=>bif (decide (m<0))then (rsL11Expr (GRd.mk j k l m)).bind fun f=>(gd (o.length+[ah f.2].length)).bind fun _=>(dO f.1 [44]).bind fun e=>bif (!e.2)then ((dV e.1 n).bind fun g=>some (g,o++[ah f.2])).bind fun r=>some (.inr r)else some (.inl (e.1.toks,w64 (e.1.i+1),e.1.stop,e.1.bad,n,o++[ah f.2]))else ((dV (GRd.mk j k l m) n).bind fun h=>some (h,o)).bind fun r=>some (.inr r)) (d.1.toks,d.1.i,d.1.stop,d.1.bad,b,[])
def aB:Nat->(GRd->Option (GRd×af))×(GRd->Option (GRd×af))×(GRd->Option (GRd×af))×(GRd->Option (GRd×af))×(GRd->Option (GRd×af))×(GRd->Str->Option (GRd×(List af)))
 | 0=>(fun _=>none,fun _=>none,fun _=>none,fun _=>none,fun _=>none,fun _ _=>none)
 | n+1=>(jH (aB n).1 (aB n).2.1 (aB n).2.2.1 (aB n).2.2.2.1 (aB n).2.2.2.2.1 (aB n).2.2.2.2.2,jc (aB n).1 (aB n).2.1 (aB n).2.2.1 (aB n).2.2.2.1 (aB n).2.2.2.2.1 (aB n).2.2.2.2.2,Fa (aB n).1 (aB n).2.1 (aB n).2.2.1 (aB n).2.2.2.1 (aB n).2.2.2.2.1 (aB n).2.2.2.2.2,qW (aB n).1 (aB n).2.1 (aB n).2.2.1 (aB n).2.2.2.1 (aB n).2.2.2.2.1 (aB n).2.2.2.2.2,nM (aB n).1 (aB n).2.1 (aB n).2.2.1 (aB n).2.2.2.1 (aB n).2.2.2.2.1 (aB n).2.2.2.2.2,rM (aB n).1 (aB n).2.1 (aB n).2.2.1 (aB n).2.2.2.1 (aB n).2.2.2.2.1 (aB n).2.2.2.2.2)
def Fe(a:GRd):Option (GRd×af):=(aB (siz a+1)).1 a
def YR:Fsp:=⟨95,[shT .rd],[shT .rd,shT .expr],false,false,fun x=>Fe x⟩
def Jh(n:Nat):Fsp:=⟨95,[shT .rd],[shT .rd,shT .expr],false,false,fun x=>(aB n).1 x⟩
def V6(a:GRd):Option (GRd×af):=(aB (siz a+1)).2.1 a
def PG:Fsp:=⟨132,[shT .rd],[shT .rd,shT .expr],false,false,fun x=>V6 x⟩
def zQ(n:Nat):Fsp:=⟨132,[shT .rd],[shT .rd,shT .expr],false,false,fun x=>(aB n).2.1 x⟩
def afC(a:GRd):Option (GRd×af):=(aB (siz a+1)).2.2.1 a
def abx:Fsp:=⟨166,[shT .rd],[shT .rd,shT .expr],false,false,fun x=>afC x⟩
def Md(n:Nat):Fsp:=⟨166,[shT .rd],[shT .rd,shT .expr],false,false,fun x=>(aB n).2.2.1 x⟩
def V5(a:GRd):Option (GRd×af):=(aB (siz a+1)).2.2.2.1 a
def PE:Fsp:=⟨191,[shT .rd],[shT .rd,shT .expr],false,false,fun x=>V5 x⟩
def zN(n:Nat):Fsp:=⟨191,[shT .rd],[shT .rd,shT .expr],false,false,fun x=>(aB n).2.2.2.1 x⟩
def adt(a:GRd):Option (GRd×af):=(aB (siz a+1)).2.2.2.2.1 a
def YS:Fsp:=⟨209,[shT .rd],[shT .rd,shT .expr],false,false,fun x=>adt x⟩
def Ji(n:Nat):Fsp:=⟨209,[shT .rd],[shT .rd,shT .expr],false,false,fun x=>(aB n).2.2.2.2.1 x⟩
def adu(a:GRd)(b:Str):Option (GRd×(List af)):=(aB (siz a+1)).2.2.2.2.2 a b
def YT:Fsp:=⟨236,[shT .rd,shF .str],[shT .rd,slF .expr],false,false,fun x=>adu x.1 x.2⟩
def Jj(n:Nat):Fsp:=⟨236,[shT .rd,shF .str],[shT .rd,slF .expr],false,false,fun x=>(aB n).2.2.2.2.2 x.1 x.2⟩
def fB(a:Str):Option (af×Int):=(nK a).bind fun c=>bif (decide (c.2>=0))then some (af.mk 0 0 [] [],c.2)else (Fe (GRd.mk c.1 0 (a.length:Int) (-1))).bind fun b=>bif (decide (b.1.bad<0))then bif (decide (b.1.i<(c.1.length:Int)))then (gZ b.1).bind fun d=>bif (decide (d.1.bad>=0))then some (af.mk 0 0 [] [],d.1.bad)else (bV (ah b.2)).bind fun e=>bif (!e)then some (af.mk 0 0 [] [],0)else some (ah b.2,(-1))else bif (decide (b.1.bad>=0))then some (af.mk 0 0 [] [],b.1.bad)else (bV (ah b.2)).bind fun f=>bif (!f)then some (af.mk 0 0 [] [],0)else some (ah b.2,(-1))else bif (decide (b.1.bad>=0))then some (af.mk 0 0 [] [],b.1.bad)else (bV (ah b.2)).bind fun g=>bif (!g)then some (af.mk 0 0 [] [],0)else some (ah b.2,(-1))
def TS:Fsp:=⟨60,[shF .str],[shT .expr,shF .int],false,false,fun x=>fB x⟩
def kT(a:Int):Option (bJ):=some (bJ.mk 6 a 0 [] [] [] [])
def PO:Fsp:=⟨61,[shF .int],[shT .val],true,false,fun x=>kT x⟩
def xA(a:Int):Option (bJ):=some (bJ.mk 1 a 0 [] [] [] [])
def LU:Fsp:=⟨62,[shF .int],[shT .val],true,false,fun x=>xA x⟩
def rJ(a:Str):Option ((List Str)):=ak (fun(⟨g,h,i,j⟩:Str×(List Str)×Int×Int)=>bif (decide ((w64 (j+1))<(g.length:Int)))then (idx g j).bind fun e=>bif ((e.toNat:Int)==59)then (idx g (w64 (j+1))).bind fun f=>bif ((f.toNat:Int)==32)then (eff.cutL g (some i) (some j)).bind fun c=>(gd (h.length+([c]:List Str).length)).bind fun _=>some (.inl (g,h++([c]:List Str),w64 (j+2),w64 (j+1)))else some (.inl (g,h,i,w64 (j+1)))else some (.inl (g,h,i,w64 (j+1)))else ((eff.cutL g (some i) none).bind fun d=>(gd (h.length+([d]:List Str).length)).bind fun _=>some (h++([d]:List Str))).bind fun r=>some (.inr r)) (a,[],0,0)
def V4:Fsp:=⟨97,[shF .str],[slF .str],true,false,fun x=>rJ x⟩
def oO(a:Int):Option (Bool):=(qm a (-1000000000) 1000000000).bind fun b=>some (b)
def VQ:Fsp:=⟨134,[shF .int],[shF .bool],true,false,fun x=>oO x⟩
def Bv(a:Str)(b:Int):Option ((List Int)×Bool):=(jv a 32).bind fun e=>ak (fun(⟨h,i,j,k⟩:Int×(List Int)×(List Str)×Int)=>bif (decide (k<(j.length:Int)))then (idx j k).bind fun _=>(j[k.toNat]?).bind fun f=>(gU f).bind fun d=>bif (!d.2)then some (.inr (i,false))else (oO d.1).bind fun g=>bif (!g)then some (.inr (i,false))else (gd (i.length+[d.1].length)).bind fun _=>some (.inl (h,i++[d.1],j,w64 (k+1)))else some (.inr (i,((i.length:Int)==h)))) (b,[],e,0)
def abw:Fsp:=⟨99,[shF .str,shF .int],[slF .int,shF .bool],true,false,fun x=>Bv x.1 x.2⟩
def qX(a:List Str):Option (Bool):=ak (fun (b:(List Str)×Int)=>bif (decide (b.2<(b.1.length:Int)))then (eff.cutL b.1 none (some b.2)).bind fun c=>(idx b.1 b.2).bind fun d=>(lU c d).bind fun e=>bif e then some (.inr (false))else some (.inl (b.1,w64 (b.2+1)))else some (.inr (true))) (a,0)
def MX:Fsp:=⟨138,[slF .str],[shF .bool],true,false,fun x=>qX x⟩
def sF(a:List Str):Option (Bool):=ak (fun (b:(List Str)×Int)=>bif (decide (b.2<(b.1.length:Int)))then (idx b.1 b.2).bind fun c=>(aX c).bind fun d=>bif (!d)then some (.inr (false))else some (.inl (b.1,w64 (b.2+1)))else ((qm (b.1.length:Int) 1 4).bind fun e=>bif e then (qX b.1).bind fun f=>some (f)else some (false)).bind fun r=>some (.inr r)) (a,0)
def Ub:Fsp:=⟨101,[slF .str],[shF .bool],true,false,fun x=>sF x⟩
def Rj(a:iQ)(b:iQ):Option (Bool):=bif (decide (a.cell<b.cell))then some (true)else bif (a.cell==b.cell)then some ((decide (a.row<b.row)))else some (false)
def VR:Fsp:=⟨192,[shT .origin,shT .origin],[shF .bool],true,false,fun x=>Rj x.1 x.2⟩
def qV(a:List iQ):Option (Bool):=ak (fun (b:(List iQ)×Int)=>bif (decide (b.2<(b.1.length:Int)))then (idx b.1 b.2).bind fun c=>bif (decide (c.cell<0))then some (.inr (false))else (idx b.1 b.2).bind fun d=>bif (decide (d.row<0))then some (.inr (false))else bif (decide (b.2>0))then (idx b.1 (w64 (b.2-1))).bind fun e=>(idx b.1 b.2).bind fun f=>(Rj e f).bind fun g=>bif (!g)then some (.inr (false))else some (.inl (b.1,w64 (b.2+1)))else some (.inl (b.1,w64 (b.2+1)))else some (.inr (true))) (a,0)
def LZ:Fsp:=⟨170,[slF .origin],[shF .bool],true,false,fun x=>qV x⟩
def ES(a:bJ):Option (Bool):=(sF a.columns).bind fun e=>bif (!e)then some (false)else bif (decide ((a.rows.length:Int)>12))then some (false)else ak (fun(⟨i,j,k,l,m,o,p,q⟩:Int×Int×Int×Str×(List bJ)×(List Str)×(List dm)×Int)=>bif (decide (q<(p.length:Int)))then (idx p q).bind fun d=>bif ((d.cells.length:Int) != (o.length:Int))then some (.inr (false))else (qV d.orig).bind fun f=>bif (!f)then some (.inr (false))else ak (fun(⟨c,s,t,u,v,w,x,y,z,A,B⟩:Int×Int×Int×Str×(List bJ)×(List Str)×(List dm)×Int×(List Int)×(List iQ)×Int)=>bif (decide (B<(z.length:Int)))then (idx z B).bind fun g=>(oO g).bind fun h=>bif (!h)then (some (.inr (false))).bind fun r=>some (.inr r)else some (.inl (c,s,t,u,v,w,x,y,z,A,w64 (B+1)))else some (.inr (.inl (c,s,t,u,v,w,x,w64 (y+1))))) (i,j,k,l,m,o,p,q,d.cells,d.orig,0)else some (.inr (true))) (a.kind,a.n,a.step,a.text,a.list,a.columns,a.rows,0)
def YA:Fsp:=⟨137,[shT .val],[shF .bool],true,false,fun x=>ES x⟩
def jJ(a:bJ):Option (Bool):=bif (!(a.text==[]))then some (false)else bif (a.step != 0)then some (false)else bif (a.n==0)then (ES (bJ.mk 5 a.n a.step a.text [] a.columns a.rows)).bind fun b=>some (b)else some (false)
def pU(a:bJ):Option (Bool):=bif (a.kind==5)&&a.list.isEmpty then jJ a else none
def gX:Fsp:=⟨100,[shT .val],[shF .bool],true,false,fun x=>pU x⟩
def su(a:Str):Option (bJ×Bool):=(rJ a).bind fun c=>(idx c 0).bind fun _=>(c[0]?).bind fun e=>(jv e 32).bind fun f=>ak (fun(⟨i,j,k,l,m,n,o,p,q,s,t,u,v,w,x,y⟩:Int×Int×Int×Str×(List bJ)×(List Str)×(List dm)×(List Str)×Int×Int×Int×Str×(List bJ)×(List Str)×(List dm)×Int)=>bif (decide (y<(p.length:Int)))then (idx p y).bind fun _=>(p[y.toNat]?).bind fun g=>(Bv g (w.length:Int)).bind fun d=>bif (!d.2)then some (.inr (bJ.mk 0 0 0 [] [] [] [],false))else (gd (x.length+([dm.mk d.1 []]).length)).bind fun _=>some (.inl (i,j,k,l,m,n,o,p,q,s,t,u,v,w,x++([dm.mk d.1 []]),w64 (y+1)))else ((pU (bJ.mk q s t u v w x)).bind fun h=>bif (!h)then some (bJ.mk 0 0 0 [] [] [] [],false)else some (bJ.mk q s t u v w x,true)).bind fun r=>some (.inr r)) (0,0,0,[],[],[],[],c,5,0,0,[],[],f,[],1)
def TU:Fsp:=⟨63,[shF .str],[shT .val,shF .bool],true,false,fun x=>su x⟩
def xH(a:Str):Option (Int):=(rJ a).bind fun c=>(idx c 0).bind fun _=>(c[0]?).bind fun e=>(jv e 32).bind fun d=>(sF d).bind fun f=>bif (!f)then some (0)else ak (fun(⟨i,j,k⟩:(List Str)×(List Str)×Int)=>bif (decide (k<(i.length:Int)))then (idx i k).bind fun _=>(i[k.toNat]?).bind fun g=>(Bv g (j.length:Int)).bind fun h=>bif (!h.2)then some (.inr (k))else bif (decide (k>12))then some (.inr (k))else some (.inl (i,j,w64 (k+1)))else some (.inr ((-1)))) (c,d,1)
def Um:Fsp:=⟨64,[shF .str],[shF .int],true,false,fun x=>xH x⟩
def TY(a:dm):Option (dm):=(gd (0+a.cells.length)).bind fun _=>(gd (0+a.orig.length)).bind fun _=>some (dm.mk ([]++a.cells) ([]++a.orig))
def adn:Fsp:=⟨139,[shT .row],[shT .row],true,false,fun x=>TY x⟩
def LY(rsL3Copy:bJ->Option (bJ))(a:bJ):Option (bJ):=(gd (0+a.columns.length)).bind fun _=>ak (fun(⟨h,i,j,k,l,m,o,p,q,s,t,u,v,w,x,y,z,A,B,C,D,E⟩:Int×Int×Int×Str×(List bJ)×(List Str)×(List dm)×Int×Int×Int×Str×(List bJ)×(List Str)×(List dm)×Int×Int×Int×Str×(List bJ)×(List Str)×(List dm)×Int)=>bif (decide (E<(l.length:Int)))then (idx l E).bind fun f=>(rsL3Copy (jB f)).bind fun d=>(gd (B.length+[jB d].length)).bind fun _=>some (.inl (h,i,j,k,l,m,o,p,q,s,t,u,v,w,x,y,z,A,B++[jB d],C,D,w64 (E+1)))else (ak (fun(⟨b,F,G,H,I,J,K,L,M,N,O,P,Q,R,S,T,U,V,W,X,Y,Z⟩:Int×Int×Int×Str×(List bJ)×(List Str)×(List dm)×Int×Int×Int×Str×(List bJ)×(List Str)×(List dm)×Int×Int×Int×Str×(List bJ)×(List Str)×(List dm)×Int)=>bif (decide (Z<(K.length:Int)))then (idx K Z).bind fun g=>(TY g).bind fun e=>(gd (Y.length+[e].length)).bind fun _=>some (.inl (b,F,G,H,I,J,K,L,M,N,O,P,Q,R,S,T,U,V,W,X,Y++[e],w64 (Z+1)))else some (.inr (bJ.mk S T U V W X Y))) (h,i,j,k,l,m,o,p,q,s,t,u,v,w,x,y,z,A,B,C,D,0)).bind fun r=>some (.inr r)) (a.kind,a.n,a.step,a.text,a.list,a.columns,a.rows,0,0,0,[],[],[],[],a.kind,a.n,a.step,a.text,[],[]++a.columns,[],0)
def ET:Nat->(bJ->Option (bJ))
 | 0=>fun _=>none
 | n+1=>LY (ET n)
def Ua(a:bJ):Option (bJ):=(ET (siz a+1)) a
def abn:Fsp:=⟨102,[shT .val],[shT .val],true,false,fun x=>Ua x⟩
def LX(n:Nat):Fsp:=⟨102,[shT .val],[shT .val],true,false,fun x=>(ET n) x⟩
def qU(a:Int)(b:bJ):Option (bJ):=bif (b.kind != 5)then (kT 4).bind fun e=>some (jB e)else (pU (jB b)).bind fun f=>bif (!f)then (kT 4).bind fun g=>some (jB g)else bif (decide (a<0))then (kT 4).bind fun h=>some (jB h)else (Ua (jB b)).bind fun d=>ak (fun(⟨j,k,l,m,o,p,q,r,s,t,u,v,w,x,y,z⟩:Int×Int×Int×Int×Str×(List bJ)×(List Str)×(List dm)×Int×Int×Int×Str×(List bJ)×(List Str)×(List dm)×Int)=>bif (decide (z<(y.length:Int)))then (idx y z).bind fun _=>(y[z.toNat]?).bind fun i=>some (.inl (j,k,l,m,o,p,q,r,s,t,u,v,w,x,y.set z.toNat (dm.mk i.cells [iQ.mk j z]),w64 (z+1)))else some (.inr (bJ.mk s t u v w x y))) (a,0,0,0,[],[],[],[],d.kind,d.n,d.step,d.text,d.list,d.columns,d.rows,0)
def LP:Fsp:=⟨65,[shF .int,shT .val],[shT .val],true,false,fun x=>qU x.1 x.2⟩
def dh(a:aj):Option (aO):=(dL a).bind fun d=>bif (!d)then some (aO.mk 0 [] (af.mk 0 0 [] []) (bJ.mk 0 0 0 [] [] [] []) 0)else bif (a.kind==2)then (fB a.code).bind fun b=>bif (decide (b.2>=0))then (kT 8).bind fun e=>some (aO.mk 4 a.name (af.mk 0 0 [] []) (jB e) b.2)else some (aO.mk 2 a.name (ah b.1) (bJ.mk 0 0 0 [] [] [] []) 0)else bif (a.kind==3)then (xA a.n).bind fun f=>some (aO.mk 3 a.name (af.mk 0 0 [] []) (jB f) 0)else bif (a.kind==4)then (su a.code).bind fun c=>bif (!c.2)then (kT 8).bind fun g=>(xH a.code).bind fun h=>some (aO.mk 4 a.name (af.mk 0 0 [] []) (jB g) h)else (qU a.id (jB c.1)).bind fun i=>some (aO.mk 3 a.name (af.mk 0 0 [] []) (jB i) 0)else some (aO.mk 1 [] (af.mk 0 0 [] []) (bJ.mk 0 0 0 [] [] [] []) 0)
def MV:Fsp:=⟨31,[shT .cell],[shT .part],false,false,fun x=>dh x⟩
def je(a:aC):Option ((List aO)):=(jK a).bind fun d=>bif (!d)then some ([])else ak (fun(⟨f,g,h⟩:(List aj)×(List aO)×Int)=>bif (decide (h<(f.length:Int)))then (idx f h).bind fun e=>(dh e).bind fun c=>(gd (g.length+[jW c].length)).bind fun _=>some (.inl (f,g++[jW c],w64 (h+1)))else some (.inr (g))) (a.cells,[],0)
def PV:Fsp:=⟨8,[shT .notebook],[slF .part],false,true,fun x=>je x⟩
def rZ(a:List Str):Option ((List Str)):=ak (fun(⟨w,x,y⟩:(List Str)×(List Str)×Int)=>bif (decide (y<(w.length:Int)))then ak (fun(⟨n,z,A,B⟩:(List Str)×(List Str)×Int×Int)=>bif (decide (B<(z.length:Int)))then (idx z B).bind fun _=>(z[B.toNat]?).bind fun s=>(idx n A).bind fun t=>bif (Op.bytesLess s t)then some (.inl (n,z,A,w64 (B+1)))else (bif (decide (B<(z.length:Int)))then (idx z B).bind fun _=>(z[B.toNat]?).bind fun u=>(idx n A).bind fun v=>bif (u==v)then some (.inl (n,z,w64 (A+1)))else (cutAt z B).bind fun o=>(gd (0+(z.drop o).length)).bind fun _=>(cutAt z B).bind fun c=>(idx n A).bind fun d=>(gd ((z.take c).length+([d]:List Str).length)).bind fun _=>(gd (((z.take c)++([d]:List Str)).length+([]++(z.drop o)).length)).bind fun _=>some (.inl (n,((z.take c)++([d]:List Str))++([]++(z.drop o)),w64 (A+1)))else (cutAt z B).bind fun e=>(gd (0+(z.drop e).length)).bind fun _=>(cutAt z B).bind fun f=>(idx n A).bind fun g=>(gd ((z.take f).length+([g]:List Str).length)).bind fun _=>(gd (((z.take f)++([g]:List Str)).length+([]++(z.drop e)).length)).bind fun _=>some (.inl (n,((z.take f)++([g]:List Str))++([]++(z.drop e)),w64 (A+1)))).bind fun r=>some (.inr r)else (bif (decide (B<(z.length:Int)))then (idx z B).bind fun _=>(z[B.toNat]?).bind fun p=>(idx n A).bind fun q=>bif (p==q)then some (.inl (n,z,w64 (A+1)))else (cutAt z B).bind fun h=>(gd (0+(z.drop h).length)).bind fun _=>(cutAt z B).bind fun i=>(idx n A).bind fun j=>(gd ((z.take i).length+([j]:List Str).length)).bind fun _=>(gd (((z.take i)++([j]:List Str)).length+([]++(z.drop h)).length)).bind fun _=>some (.inl (n,((z.take i)++([j]:List Str))++([]++(z.drop h)),w64 (A+1)))else (cutAt z B).bind fun k=>(gd (0+(z.drop k).length)).bind fun _=>(cutAt z B).bind fun l=>(idx n A).bind fun m=>(gd ((z.take l).length+([m]:List Str).length)).bind fun _=>(gd (((z.take l)++([m]:List Str)).length+([]++(z.drop k)).length)).bind fun _=>some (.inl (n,((z.take l)++([m]:List Str))++([]++(z.drop k)),w64 (A+1)))).bind fun r=>some (.inr r)) (w,x,y,0)else some (.inr (x))) (a,[],0)
def TQ:Fsp:=⟨66,[slF .str],[slF .str],true,false,fun x=>rZ x⟩
def Je(rsL13Free:af->(List Str)->Option ((List Str))):((List Str)×Int×Int×Str×(List af)×(List Str)×Int)->Option (((List Str)×Int×Int×Str×(List af)×(List Str)×Int)⊕((List Str))):=
(fun (x2:(List Str)×Int×Int×Str×(List af)×(List Str)×Int)=>
   bif (decide (x2.2.2.2.2.2.2<(x2.2.2.2.2.1.length:Int)))then
    bif (x2.2.1==7)then
     bif (decide (x2.2.2.2.2.2.2>0))then
      (gd (0+x2.1.length)).bind fun _=>
      (gd (([]++x2.1).length+([x2.2.2.2.1]:List Str).length)).bind fun _=>
      (idx x2.2.2.2.2.1 x2.2.2.2.2.2.2).bind fun e3=>
      (rsL13Free (ah e3) (([]++x2.1)++([x2.2.2.2.1]:List Str))).bind fun r4=>
      (gd (x2.2.2.2.2.2.1.length+r4.length)).bind fun _=>
      some (.inl (x2.1,x2.2.1,x2.2.2.1,x2.2.2.2.1,x2.2.2.2.2.1,x2.2.2.2.2.2.1++r4,w64 (x2.2.2.2.2.2.2+1)))
     else
      (idx x2.2.2.2.2.1 x2.2.2.2.2.2.2).bind fun e5=>
      (rsL13Free (ah e5) x2.1).bind fun r6=>
      (gd (x2.2.2.2.2.2.1.length+r6.length)).bind fun _=>
      some (.inl (x2.1,x2.2.1,x2.2.2.1,x2.2.2.2.1,x2.2.2.2.2.1,x2.2.2.2.2.2.1++r6,w64 (x2.2.2.2.2.2.2+1)))
    else
    bif (x2.2.1==9)then
     bif (decide (x2.2.2.2.2.2.2>0))then
      (gd (0+x2.1.length)).bind fun _=>
      (gd (([]++x2.1).length+([x2.2.2.2.1]:List Str).length)).bind fun _=>
      (idx x2.2.2.2.2.1 x2.2.2.2.2.2.2).bind fun e7=>
      (rsL13Free (ah e7) (([]++x2.1)++([x2.2.2.2.1]:List Str))).bind fun r8=>
      (gd (x2.2.2.2.2.2.1.length+r8.length)).bind fun _=>
      some (.inl (x2.1,x2.2.1,x2.2.2.1,x2.2.2.2.1,x2.2.2.2.2.1,x2.2.2.2.2.2.1++r8,w64 (x2.2.2.2.2.2.2+1)))
     else
      (idx x2.2.2.2.2.1 x2.2.2.2.2.2.2).bind fun e9=>
      (rsL13Free (ah e9) x2.1).bind fun r10=>
      (gd (x2.2.2.2.2.2.1.length+r10.length)).bind fun _=>
      some (.inl (x2.1,x2.2.1,x2.2.2.1,x2.2.2.2.1,x2.2.2.2.2.1,x2.2.2.2.2.2.1++r10,w64 (x2.2.2.2.2.2.2+1)))
    else
     (idx x2.2.2.2.2.1 x2.2.2.2.2.2.2).bind fun e11=>
     (rsL13Free (ah e11) x2.1).bind fun r12=>
     (gd (x2.2.2.2.2.2.1.length+r12.length)).bind fun _=>
     some (.inl (x2.1,x2.2.1,x2.2.2.1,x2.2.2.2.1,x2.2.2.2.2.1,x2.2.2.2.2.2.1++r12,w64 (x2.2.2.2.2.2.2+1)))
   else
    some (.inr (x2.2.2.2.2.2.1))
 )
def Hu(rsL13Free:af->(List Str)->Option ((List Str)))(a:af)(b:List Str):Option ((List Str)):=bif (a.kind==3)then (lU b a.text).bind fun c=>bif (!c)then (gd (0+([a.text]:List Str).length)).bind fun _=>some ([]++([a.text]:List Str))else ak (Je rsL13Free) (b,a.kind,a.n,a.text,a.args,[],0)else ak (Je rsL13Free) (b,a.kind,a.n,a.text,a.args,[],0)
def oQ:Nat->(af->(List Str)->Option ((List Str)))
 | 0=>fun _ _=>none
 | n+1=>Hu (oQ n)
def L8(a:af)(b:List Str):Option ((List Str)):=(oQ (siz a+siz b+1)) a b
def YK:Fsp:=⟨67,[shT .expr,slF .str],[slF .str],true,false,fun x=>L8 x.1 x.2⟩
def Jd(n:Nat):Fsp:=⟨67,[shT .expr,slF .str],[slF .str],true,false,fun x=>(oQ n) x.1 x.2⟩
def xG(a:af):Option ((List Str)):=(L8 (ah a) []).bind fun b=>(rZ b).bind fun c=>some (c)
def Uj:Fsp:=⟨32,[shT .expr],[slF .str],true,false,fun x=>xG x⟩
def kL(a:aO):Option ((List Str)):=bif (a.kind != 2)then some ([])else (xG (ah a.expr)).bind fun b=>some (b)
def abk:Fsp:=⟨9,[shT .part],[slF .str],true,false,fun x=>kL x⟩
def rP(a:List aO)(b:Str):Option ((List Int)):=ak (fun(⟨f,g,h,i⟩:(List aO)×Str×(List Int)×Int)=>bif (decide (i<(f.length:Int)))then (idx f i).bind fun d=>bif (d.kind != 1)then (idx f i).bind fun e=>bif (e.name==g)then (gd (h.length+[i].length)).bind fun _=>some (.inl (f,g,h++[i],w64 (i+1)))else some (.inl (f,g,h,w64 (i+1)))else some (.inl (f,g,h,w64 (i+1)))else some (.inr (h))) (a,b,[],0)
def Wq:Fsp:=⟨15,[slF .part,shF .str],[slF .int],true,false,fun x=>rP x.1 x.2⟩
def qi(a:List aO)(b:Str):Option (Int):=(rP a b).bind fun c=>bif ((c.length:Int)==0)then some ((-1))else bif ((c.length:Int)==1)then (idx c 0).bind fun _=>(c[0]?).bind fun d=>some (d)else some ((-2))
def Yv:Fsp:=⟨16,[slF .part,shF .str],[shF .int],true,false,fun x=>qi x.1 x.2⟩
def mg(a:aC):Option (aC):=(gd (0+a.cells.length)).bind fun _=>some (aC.mk ([]++a.cells))
def YH:Fsp:=⟨24,[shT .notebook],[shT .notebook],true,false,fun x=>mg x⟩
def CY(rsL13Caught:af->Str->Str->(List Str)->Option (Bool)):(Str×Str×(List Str)×Int×Int×Str×(List af)×Int)->Option ((Str×Str×(List Str)×Int×Int×Str×(List af)×Int)⊕(Bool)):=
(fun (x3:Str×Str×(List Str)×Int×Int×Str×(List af)×Int)=>
   bif (decide (x3.2.2.2.2.2.2.2<(x3.2.2.2.2.2.2.1.length:Int)))then
    bif (x3.2.2.2.1==7)then
     bif (decide (x3.2.2.2.2.2.2.2>0))then
      (gd (0+x3.2.2.1.length)).bind fun _=>
      (gd (([]++x3.2.2.1).length+([x3.2.2.2.2.2.1]:List Str).length)).bind fun _=>
      (idx x3.2.2.2.2.2.2.1 x3.2.2.2.2.2.2.2).bind fun e4=>
      (rsL13Caught (ah e4) x3.1 x3.2.1 (([]++x3.2.2.1)++([x3.2.2.2.2.2.1]:List Str))).bind fun r5=>
      bif r5 then
       some (.inr (true))
      else
       some (.inl (x3.1,x3.2.1,x3.2.2.1,x3.2.2.2.1,x3.2.2.2.2.1,x3.2.2.2.2.2.1,x3.2.2.2.2.2.2.1,w64 (x3.2.2.2.2.2.2.2+1)))
     else
      (idx x3.2.2.2.2.2.2.1 x3.2.2.2.2.2.2.2).bind fun e6=>
      (rsL13Caught (ah e6) x3.1 x3.2.1 x3.2.2.1).bind fun r7=>
      bif r7 then
       some (.inr (true))
      else
       some (.inl (x3.1,x3.2.1,x3.2.2.1,x3.2.2.2.1,x3.2.2.2.2.1,x3.2.2.2.2.2.1,x3.2.2.2.2.2.2.1,w64 (x3.2.2.2.2.2.2.2+1)))
    else
    bif (x3.2.2.2.1==9)then
     bif (decide (x3.2.2.2.2.2.2.2>0))then
      (gd (0+x3.2.2.1.length)).bind fun _=>
      (gd (([]++x3.2.2.1).length+([x3.2.2.2.2.2.1]:List Str).length)).bind fun _=>
      (idx x3.2.2.2.2.2.2.1 x3.2.2.2.2.2.2.2).bind fun e8=>
      (rsL13Caught (ah e8) x3.1 x3.2.1 (([]++x3.2.2.1)++([x3.2.2.2.2.2.1]:List Str))).bind fun r9=>
      bif r9 then
       some (.inr (true))
      else
       some (.inl (x3.1,x3.2.1,x3.2.2.1,x3.2.2.2.1,x3.2.2.2.2.1,x3.2.2.2.2.2.1,x3.2.2.2.2.2.2.1,w64 (x3.2.2.2.2.2.2.2+1)))
     else
      (idx x3.2.2.2.2.2.2.1 x3.2.2.2.2.2.2.2).bind fun e10=>
      (rsL13Caught (ah e10) x3.1 x3.2.1 x3.2.2.1).bind fun r11=>
      bif r11 then
       some (.inr (true))
      else
       some (.inl (x3.1,x3.2.1,x3.2.2.1,x3.2.2.2.1,x3.2.2.2.2.1,x3.2.2.2.2.2.1,x3.2.2.2.2.2.2.1,w64 (x3.2.2.2.2.2.2.2+1)))
    else
     (idx x3.2.2.2.2.2.2.1 x3.2.2.2.2.2.2.2).bind fun e12=>
     (rsL13Caught (ah e12) x3.1 x3.2.1 x3.2.2.1).bind fun r13=>
     bif r13 then
      some (.inr (true))
     else
      some (.inl (x3.1,x3.2.1,x3.2.2.1,x3.2.2.2.1,x3.2.2.2.2.1,x3.2.2.2.2.2.1,x3.2.2.2.2.2.2.1,w64 (x3.2.2.2.2.2.2.2+1)))
   else
    some (.inr (false))
 )
def zM(rsL13Caught:af->Str->Str->(List Str)->Option (Bool))(a:af)(b:Str)(c:Str)(d:List Str):Option (Bool):=bif (a.kind==3)then (lU d a.text).bind fun e=>bif (!e)then bif (a.text==b)then (lU d c).bind fun f=>some (f)else some (false)else ak (CY rsL13Caught) (b,c,d,a.kind,a.n,a.text,a.args,0)else ak (CY rsL13Caught) (b,c,d,a.kind,a.n,a.text,a.args,0)
def jS:Nat->(af->Str->Str->(List Str)->Option (Bool))
 | 0=>fun _ _ _ _=>none
 | n+1=>zM (jS n)
def xC(a:af)(b:Str)(c:Str)(d:List Str):Option (Bool):=(jS (siz a+siz d+1)) a b c d
def Uf:Fsp:=⟨84,[shT .expr,shF .str,shF .str,slF .str],[shF .bool],true,false,fun x=>xC x.1 x.2.1 x.2.2.1 x.2.2.2⟩
def CW(n:Nat):Fsp:=⟨84,[shT .expr,shF .str,shF .str,slF .str],[shF .bool],true,false,fun x=>(jS n) x.1 x.2.1 x.2.2.1 x.2.2.2⟩
def iE(a:af)(b:Str)(c:Str):Option (Bool):=(xC (ah a) b c []).bind fun d=>some (d)
def PL:Fsp:=⟨56,[shT .expr,shF .str,shF .str],[shF .bool],true,false,fun x=>iE x.1 x.2.1 x.2.2⟩
def Bj(a:List aO)(b:Str)(c:Str):Option (Int):=(qi a b).bind fun e=>bif (decide (e<0))then some (2)else ak (fun(⟨m,n,o,p,q⟩:(List aO)×Str×Str×Int×Int)=>bif (decide (q<(m.length:Int)))then (idx m q).bind fun f=>(kL (jW f)).bind fun g=>(lU g o).bind fun h=>bif h then some (.inr (3))else (idx m q).bind fun i=>bif (i.kind==2)then (idx m q).bind fun j=>(iE (ah j.expr) n o).bind fun k=>bif k then some (.inl (m,n,o,4,w64 (q+1)))else some (.inl (m,n,o,p,w64 (q+1)))else some (.inl (m,n,o,p,w64 (q+1)))else ((rP m o).bind fun l=>bif (decide ((l.length:Int)>0))then some (3)else some (p)).bind fun r=>some (.inr r)) (a,b,c,0,0)
def VT:Fsp:=⟨27,[slF .part,shF .str,shF .str],[shF .int],true,false,fun x=>Bj x.1 x.2.1 x.2.2⟩
def Hz(rsL10Copy:af->Option (af))(a:af):Option (af):=ak (fun(⟨e,f,g,h,i,j,k,l,m,o,p,q,r⟩:Int×Int×Str×(List af)×Int×Int×Str×(List af)×Int×Int×Str×(List af)×Int)=>bif (decide (r<(h.length:Int)))then (idx h r).bind fun d=>(rsL10Copy (ah d)).bind fun c=>(gd (q.length+[ah c].length)).bind fun _=>some (.inl (e,f,g,h,i,j,k,l,m,o,p,q++[ah c],w64 (r+1)))else some (.inr (af.mk m o p q))) (a.kind,a.n,a.text,a.args,0,0,[],[],a.kind,a.n,a.text,[],0)
def vN:Nat->(af->Option (af))
 | 0=>fun _=>none
 | n+1=>Hz (vN n)
def vO(a:af):Option (af):=(vN (siz a+1)) a
def Y1:Fsp:=⟨88,[shT .expr],[shT .expr],true,false,fun x=>vO x⟩
def Jm(n:Nat):Fsp:=⟨88,[shT .expr],[shT .expr],true,false,fun x=>(vN n) x⟩
def uT(rsL13Rename:af->Str->Str->Option (af)):(Str×Str×Int×Int×Str×(List af)×Int×Int×Str×(List af)×Int×Int×Str×(List af)×Int)->Option ((Str×Str×Int×Int×Str×(List af)×Int×Int×Str×(List af)×Int×Int×Str×(List af)×Int)⊕(af)):=
(fun (x1:Str×Str×Int×Int×Str×(List af)×Int×Int×Str×(List af)×Int×Int×Str×(List af)×Int)=>
  bif (decide (x1.2.2.2.2.2.2.2.2.2.2.2.2.2.2<(x1.2.2.2.2.2.1.length:Int)))then
   bif (x1.2.2.1==7)then
    bif (x1.2.2.2.2.2.2.2.2.2.2.2.2.2.2==1)then
     bif (x1.2.2.2.2.1==x1.1)then
      (idx x1.2.2.2.2.2.1 x1.2.2.2.2.2.2.2.2.2.2.2.2.2.2).bind fun e2=>
      (vO (ah e2)).bind fun r3=>
      (gd (x1.2.2.2.2.2.2.2.2.2.2.2.2.2.1.length+[ah r3].length)).bind fun _=>
      some (.inl (x1.1,x1.2.1,x1.2.2.1,x1.2.2.2.1,x1.2.2.2.2.1,x1.2.2.2.2.2.1,x1.2.2.2.2.2.2.1,x1.2.2.2.2.2.2.2.1,x1.2.2.2.2.2.2.2.2.1,x1.2.2.2.2.2.2.2.2.2.1,x1.2.2.2.2.2.2.2.2.2.2.1,x1.2.2.2.2.2.2.2.2.2.2.2.1,x1.2.2.2.2.2.2.2.2.2.2.2.2.1,x1.2.2.2.2.2.2.2.2.2.2.2.2.2.1++[ah r3],w64 (x1.2.2.2.2.2.2.2.2.2.2.2.2.2.2+1)))
     else
      (idx x1.2.2.2.2.2.1 x1.2.2.2.2.2.2.2.2.2.2.2.2.2.2).bind fun e4=>
      (rsL13Rename (ah e4) x1.1 x1.2.1).bind fun r5=>
      (gd (x1.2.2.2.2.2.2.2.2.2.2.2.2.2.1.length+[ah r5].length)).bind fun _=>
      some (.inl (x1.1,x1.2.1,x1.2.2.1,x1.2.2.2.1,x1.2.2.2.2.1,x1.2.2.2.2.2.1,x1.2.2.2.2.2.2.1,x1.2.2.2.2.2.2.2.1,x1.2.2.2.2.2.2.2.2.1,x1.2.2.2.2.2.2.2.2.2.1,x1.2.2.2.2.2.2.2.2.2.2.1,x1.2.2.2.2.2.2.2.2.2.2.2.1,x1.2.2.2.2.2.2.2.2.2.2.2.2.1,x1.2.2.2.2.2.2.2.2.2.2.2.2.2.1++[ah r5],w64 (x1.2.2.2.2.2.2.2.2.2.2.2.2.2.2+1)))
    else
     (idx x1.2.2.2.2.2.1 x1.2.2.2.2.2.2.2.2.2.2.2.2.2.2).bind fun e6=>
     (rsL13Rename (ah e6) x1.1 x1.2.1).bind fun r7=>
     (gd (x1.2.2.2.2.2.2.2.2.2.2.2.2.2.1.length+[ah r7].length)).bind fun _=>
     some (.inl (x1.1,x1.2.1,x1.2.2.1,x1.2.2.2.1,x1.2.2.2.2.1,x1.2.2.2.2.2.1,x1.2.2.2.2.2.2.1,x1.2.2.2.2.2.2.2.1,x1.2.2.2.2.2.2.2.2.1,x1.2.2.2.2.2.2.2.2.2.1,x1.2.2.2.2.2.2.2.2.2.2.1,x1.2.2.2.2.2.2.2.2.2.2.2.1,x1.2.2.2.2.2.2.2.2.2.2.2.2.1,x1.2.2.2.2.2.2.2.2.2.2.2.2.2.1++[ah r7],w64 (x1.2.2.2.2.2.2.2.2.2.2.2.2.2.2+1)))
   else
   bif (x1.2.2.1==9)then
    bif (x1.2.2.2.2.2.2.2.2.2.2.2.2.2.2==1)then
     bif (x1.2.2.2.2.1==x1.1)then
      (idx x1.2.2.2.2.2.1 x1.2.2.2.2.2.2.2.2.2.2.2.2.2.2).bind fun e8=>
      (vO (ah e8)).bind fun r9=>
      (gd (x1.2.2.2.2.2.2.2.2.2.2.2.2.2.1.length+[ah r9].length)).bind fun _=>
      some (.inl (x1.1,x1.2.1,x1.2.2.1,x1.2.2.2.1,x1.2.2.2.2.1,x1.2.2.2.2.2.1,x1.2.2.2.2.2.2.1,x1.2.2.2.2.2.2.2.1,x1.2.2.2.2.2.2.2.2.1,x1.2.2.2.2.2.2.2.2.2.1,x1.2.2.2.2.2.2.2.2.2.2.1,x1.2.2.2.2.2.2.2.2.2.2.2.1,x1.2.2.2.2.2.2.2.2.2.2.2.2.1,x1.2.2.2.2.2.2.2.2.2.2.2.2.2.1++[ah r9],w64 (x1.2.2.2.2.2.2.2.2.2.2.2.2.2.2+1)))
     else
      (idx x1.2.2.2.2.2.1 x1.2.2.2.2.2.2.2.2.2.2.2.2.2.2).bind fun e10=>
      (rsL13Rename (ah e10) x1.1 x1.2.1).bind fun r11=>
      (gd (x1.2.2.2.2.2.2.2.2.2.2.2.2.2.1.length+[ah r11].length)).bind fun _=>
      some (.inl (x1.1,x1.2.1,x1.2.2.1,x1.2.2.2.1,x1.2.2.2.2.1,x1.2.2.2.2.2.1,x1.2.2.2.2.2.2.1,x1.2.2.2.2.2.2.2.1,x1.2.2.2.2.2.2.2.2.1,x1.2.2.2.2.2.2.2.2.2.1,x1.2.2.2.2.2.2.2.2.2.2.1,x1.2.2.2.2.2.2.2.2.2.2.2.1,x1.2.2.2.2.2.2.2.2.2.2.2.2.1,x1.2.2.2.2.2.2.2.2.2.2.2.2.2.1++[ah r11],w64 (x1.2.2.2.2.2.2.2.2.2.2.2.2.2.2+1)))
    else
     (idx x1.2.2.2.2.2.1 x1.2.2.2.2.2.2.2.2.2.2.2.2.2.2).bind fun e12=>
     (rsL13Rename (ah e12) x1.1 x1.2.1).bind fun r13=>
     (gd (x1.2.2.2.2.2.2.2.2.2.2.2.2.2.1.length+[ah r13].length)).bind fun _=>
     some (.inl (x1.1,x1.2.1,x1.2.2.1,x1.2.2.2.1,x1.2.2.2.2.1,x1.2.2.2.2.2.1,x1.2.2.2.2.2.2.1,x1.2.2.2.2.2.2.2.1,x1.2.2.2.2.2.2.2.2.1,x1.2.2.2.2.2.2.2.2.2.1,x1.2.2.2.2.2.2.2.2.2.2.1,x1.2.2.2.2.2.2.2.2.2.2.2.1,x1.2.2.2.2.2.2.2.2.2.2.2.2.1,x1.2.2.2.2.2.2.2.2.2.2.2.2.2.1++[ah r13],w64 (x1.2.2.2.2.2.2.2.2.2.2.2.2.2.2+1)))
   else
    (idx x1.2.2.2.2.2.1 x1.2.2.2.2.2.2.2.2.2.2.2.2.2.2).bind fun e14=>
    (rsL13Rename (ah e14) x1.1 x1.2.1).bind fun r15=>
    (gd (x1.2.2.2.2.2.2.2.2.2.2.2.2.2.1.length+[ah r15].length)).bind fun _=>
    some (.inl (x1.1,x1.2.1,x1.2.2.1,x1.2.2.2.1,x1.2.2.2.2.1,x1.2.2.2.2.2.1,x1.2.2.2.2.2.2.1,x1.2.2.2.2.2.2.2.1,x1.2.2.2.2.2.2.2.2.1,x1.2.2.2.2.2.2.2.2.2.1,x1.2.2.2.2.2.2.2.2.2.2.1,x1.2.2.2.2.2.2.2.2.2.2.2.1,x1.2.2.2.2.2.2.2.2.2.2.2.2.1,x1.2.2.2.2.2.2.2.2.2.2.2.2.2.1++[ah r15],w64 (x1.2.2.2.2.2.2.2.2.2.2.2.2.2.2+1)))
  else
   some (.inr (af.mk x1.2.2.2.2.2.2.2.2.2.2.1 x1.2.2.2.2.2.2.2.2.2.2.2.1 x1.2.2.2.2.2.2.2.2.2.2.2.2.1 x1.2.2.2.2.2.2.2.2.2.2.2.2.2.1))
 )
def uq(rsL13Rename:af->Str->Str->Option (af))(a:af)(b:Str)(c:Str):Option (af):=bif (a.kind==3)then bif (a.text==b)then ak (uT rsL13Rename) (b,c,a.kind,a.n,a.text,a.args,0,0,[],[],a.kind,a.n,c,[],0)else ak (uT rsL13Rename) (b,c,a.kind,a.n,a.text,a.args,0,0,[],[],a.kind,a.n,a.text,[],0)else ak (uT rsL13Rename) (b,c,a.kind,a.n,a.text,a.args,0,0,[],[],a.kind,a.n,a.text,[],0)
def qo:Nat->(af->Str->Str->Option (af))
 | 0=>fun _ _ _=>none
 | n+1=>uq (qo n)
def xB(a:af)(b:Str)(c:Str):Option (af):=(qo (siz a+1)) a b c
def Ue:Fsp:=⟨58,[shT .expr,shF .str,shF .str],[shT .expr],true,false,fun x=>xB x.1 x.2.1 x.2.2⟩
def CV(n:Nat):Fsp:=⟨58,[shT .expr,shF .str,shF .str],[shT .expr],true,false,fun x=>(qo n) x.1 x.2.1 x.2.2⟩
def iZ(a:af)(b:Str)(c:Str):Option (af×Bool):=(bV (ah a)).bind fun d=>bif (!d)then some (af.mk 0 0 [] [],false)else (aX b).bind fun e=>bif (!e)then some (af.mk 0 0 [] [],false)else (aX c).bind fun f=>bif (!f)then some (af.mk 0 0 [] [],false)else (iE (ah a) b c).bind fun g=>bif g then some (af.mk 0 0 [] [],false)else (xB (ah a) b c).bind fun h=>some (ah h,true)
def Pq:Fsp:=⟨29,[shT .expr,shF .str,shF .str],[shT .expr,shF .bool],true,false,fun x=>iZ x.1 x.2.1 x.2.2⟩
def kE(a:aC)(b:Str)(c:Str):Option (aC×Int):=(mg a).bind fun i=>(jK a).bind fun A=>bif (!A)then some (i,1)else (aX b).bind fun B=>bif (!B)then some (i,1)else (aX c).bind fun C=>bif (!C)then some (i,1)else bif (b==c)then some (i,1)else (je a).bind fun k=>(Bj k b c).bind fun l=>bif (l != 0)then some (i,l)else (qi k b).bind fun m=>(idx i.cells m).bind fun _=>(i.cells[m.toNat]?).bind fun j=>ak (fun(⟨D,E,F,G,H,I,J,K⟩:Str×Str×(List aj)×(List aj)×(List aj)×(List aO)×Int×Int)=>bif (decide (K<(I.length:Int)))then (idx I K).bind fun _=>(I[K.toNat]?).bind fun o=>(kL (jW o)).bind fun p=>(lU p D).bind fun q=>bif (!q)then some (.inl (D,E,F,G,H,I,J,w64 (K+1)))else (idx I K).bind fun _=>(I[K.toNat]?).bind fun s=>(iZ (ah s.expr) D E).bind fun t=>(iF (ah t.1)).bind fun f=>(idx H K).bind fun _=>(H[K.toNat]?).bind fun e=>(idx (H.set K.toNat (aj.mk e.id e.version e.kind e.name f e.n)) K).bind fun _=>((H.set K.toNat (aj.mk e.id e.version e.kind e.name f e.n))[K.toNat]?).bind fun u=>bif (decide ((u.code.length:Int)>120))then (mg (aC.mk F)).bind fun v=>some (.inr (v,5))else (idx (H.set K.toNat (aj.mk e.id e.version e.kind e.name f e.n)) K).bind fun _=>((H.set K.toNat (aj.mk e.id e.version e.kind e.name f e.n))[K.toNat]?).bind fun w=>bif (w.version==999)then (idx (H.set K.toNat (aj.mk e.id e.version e.kind e.name f e.n)) K).bind fun _=>((H.set K.toNat (aj.mk e.id e.version e.kind e.name f e.n))[K.toNat]?).bind fun x=>(idx (H.set K.toNat (aj.mk e.id e.version e.kind e.name f e.n)) K).bind fun _=>((H.set K.toNat (aj.mk e.id e.version e.kind e.name f e.n))[K.toNat]?).bind fun g=>some (.inl (D,E,F,G,(H.set K.toNat (aj.mk e.id e.version e.kind e.name f e.n)).set K.toNat (aj.mk g.id (w64 (x.version+1)) g.kind g.name g.code g.n),I,6,w64 (K+1)))else (idx (H.set K.toNat (aj.mk e.id e.version e.kind e.name f e.n)) K).bind fun _=>((H.set K.toNat (aj.mk e.id e.version e.kind e.name f e.n))[K.toNat]?).bind fun y=>(idx (H.set K.toNat (aj.mk e.id e.version e.kind e.name f e.n)) K).bind fun _=>((H.set K.toNat (aj.mk e.id e.version e.kind e.name f e.n))[K.toNat]?).bind fun h=>some (.inl (D,E,F,G,(H.set K.toNat (aj.mk e.id e.version e.kind e.name f e.n)).set K.toNat (aj.mk h.id (w64 (y.version+1)) h.kind h.name h.code h.n),I,J,w64 (K+1)))else (bif (J != 0)then (mg (aC.mk F)).bind fun z=>some (z,J)else some (aC.mk H,0)).bind fun r=>some (.inr r)) (b,c,a.cells,[],i.cells.set m.toNat (aj.mk j.id j.version j.kind c j.code j.n),k,l,0)
def EQ:Fsp:=⟨7,[shT .notebook,shF .str,shF .str],[shT .notebook,shF .int],true,false,fun x=>kE x.1 x.2.1 x.2.2⟩
def Fp(a:List Str)(b:Str):Option (Int):=ak (fun(⟨e,f,g⟩:(List Str)×Str×Int)=>bif (decide (g<(e.length:Int)))then (idx e g).bind fun d=>bif (d==f)then some (.inr (g))else some (.inl (e,f,w64 (g+1)))else some (.inr ((-1)))) (a,b,0)
def Y4:Fsp:=⟨33,[slF .str,shF .str],[shF .int],true,false,fun x=>Fp x.1 x.2⟩
def BR(a:List Str)(b:Str):Option (Bool):=(Fp a b).bind fun c=>some ((decide (c>=0)))
def acp:Fsp:=⟨10,[slF .str,shF .str],[shF .bool],true,false,fun x=>BR x.1 x.2⟩
def zu(a:List Int)(b:List Int):Option (Bool):=bif ((a.length:Int) != (b.length:Int))then some (false)else ak (fun(⟨f,g,h⟩:(List Int)×(List Int)×Int)=>bif (decide (h<(f.length:Int)))then (idx f h).bind fun d=>(idx g h).bind fun e=>bif (d != e)then some (.inr (false))else some (.inl (f,g,w64 (h+1)))else some (.inr (true))) (a,b,0)
def Yt:Fsp:=⟨11,[slF .int,slF .int],[shF .bool],true,false,fun x=>zu x.1 x.2⟩
def Bq(a:List Int)(b:Int):Option (Bool):=ak (fun(⟨e,f,g⟩:(List Int)×Int×Int)=>bif (decide (g<(e.length:Int)))then (idx e g).bind fun d=>bif (d==f)then some (.inr (true))else some (.inl (e,f,w64 (g+1)))else some (.inr (false))) (a,b,0)
def V3:Fsp:=⟨68,[slF .int,shF .int],[shF .bool],true,false,fun x=>Bq x.1 x.2⟩
def KG(a:List Int):Option ((List Int)):=ak (fun(⟨n,o,p⟩:(List Int)×(List Int)×Int)=>bif (decide (p<(n.length:Int)))then (idx n p).bind fun j=>(Bq o j).bind fun k=>bif k then some (.inl (n,o,w64 (p+1)))else ak (fun(⟨c,q,s,t⟩:(List Int)×(List Int)×Int×Int)=>bif (decide (t<(q.length:Int)))then (idx q t).bind fun _=>(q[t.toNat]?).bind fun l=>(idx c s).bind fun m=>bif (decide (l<m))then some (.inl (c,q,s,w64 (t+1)))else ((eff.cutL q none (some t)).bind fun h=>(gd (0+h.length)).bind fun _=>(idx c s).bind fun i=>(gd (([]++h).length+[i].length)).bind fun _=>(eff.cutL q (some t) none).bind fun f=>(gd ((([]++h)++[i]).length+f.length)).bind fun _=>some (.inl (c,(([]++h)++[i])++f,w64 (s+1)))).bind fun r=>some (.inr r)else ((eff.cutL q none (some t)).bind fun d=>(gd (0+d.length)).bind fun _=>(idx c s).bind fun e=>(gd (([]++d).length+[e].length)).bind fun _=>(eff.cutL q (some t) none).bind fun g=>(gd ((([]++d)++[e]).length+g.length)).bind fun _=>some (.inl (c,(([]++d)++[e])++g,w64 (s+1)))).bind fun r=>some (.inr r)) (n,o,p,0)else some (.inr (o))) (a,[],0)
def abo:Fsp:=⟨35,[slF .int],[slF .int],true,false,fun x=>KG x⟩
def qw(a:List aO)(b:Int):Option ((List Int)):=(qm b 0 (w64 ((a.length:Int)-1))).bind fun e=>bif (!e)then some ([])else (idx a b).bind fun f=>(kL (jW f)).bind fun g=>ak (fun(⟨j,k,l,m⟩:(List aO)×(List Int)×(List Str)×Int)=>bif (decide (m<(l.length:Int)))then (idx l m).bind fun _=>(l[m.toNat]?).bind fun h=>(qi j h).bind fun d=>bif (decide (d>=0))then (gd (k.length+[d].length)).bind fun _=>some (.inl (j,k++[d],l,w64 (m+1)))else some (.inl (j,k,l,w64 (m+1)))else ((KG k).bind fun i=>some (i)).bind fun r=>some (.inr r)) (a,[],g,0)
def PU:Fsp:=⟨12,[slF .part,shF .int],[slF .int],true,false,fun x=>qw x.1 x.2⟩
def pJ(a:aC)(b:aC):Option ((List Int)):=ak (fun(⟨g,h,i,j,k⟩:(List aj)×(List Int)×(List aj)×Int×Int)=>bif (decide (k<j))then (idx i k).bind fun d=>(nG (aC.mk g) d.id).bind fun e=>bif (decide (e>=0))then (idx g e).bind fun f=>bif (f.version != d.version)then (gd (h.length+[d.id].length)).bind fun _=>some (.inl (g,h++[d.id],i,j,w64 (k+1)))else some (.inl (g,h,i,j,w64 (k+1)))else some (.inl (g,h,i,j,w64 (k+1)))else some (.inr (h))) (b.cells,[],a.cells,(a.cells.length:Int),0)
def Eh:Fsp:=⟨13,[shT .notebook,shT .notebook],[slF .int],true,false,fun x=>pJ x.1 x.2⟩
def oZ(a:aC)(b:aC):Option ((List Int)):=ak (fun(⟨i,j,k,l⟩:(List aj)×(List aj)×(List Int)×Int)=>bif (decide (l<(i.length:Int)))then (idx i l).bind fun f=>(ng (aC.mk j) f.id).bind fun d=>bif (decide (d>=0))then (idx j d).bind fun g=>(idx i l).bind fun h=>bif (g.version != h.version)then (idx i l).bind fun e=>(gd (k.length+[e.id].length)).bind fun _=>some (.inl (i,j,k++[e.id],w64 (l+1)))else some (.inl (i,j,k,w64 (l+1)))else some (.inl (i,j,k,w64 (l+1)))else some (.inr (k))) (a.cells,b.cells,[],0)
def DF:Fsp:=⟨14,[shT .notebook,shT .notebook],[slF .int],true,false,fun x=>oZ x.1 x.2⟩
def FnRenamedUses(a:List Int):Option (Bool):=(big a).bind fun u=>bif u then some (true)else (jF a).bind fun c=>(mW c.1 c.2.1 c.2.2).bind fun e=>bif (e.2 != 0)then (kE c.1 c.2.1 c.2.2).bind fun v=>some ((e.2==v.2))else (je c.1).bind fun w=>(je e.1).bind fun x=>ak (fun(⟨z,A,B,C,D,E,F⟩:(List aj)×Str×Str×(List aj)×(List aO)×(List aO)×Int)=>bif (decide (F<(D.length:Int)))then (idx E F).bind fun _=>(E[F.toNat]?).bind fun y=>(kL (jW y)).bind fun d=>(BR d A).bind fun f=>bif f then some (.inr (false))else (BR d B).bind fun g=>(idx D F).bind fun _=>(D[F.toNat]?).bind fun h=>(kL (jW h)).bind fun i=>(BR i A).bind fun j=>bif (!(g==j))then some (.inr (false))else (qw D F).bind fun k=>(qw E F).bind fun l=>(zu k l).bind fun m=>bif (!m)then some (.inr (false))else some (.inl (z,A,B,C,D,E,w64 (F+1)))else ((pJ (aC.mk z) (aC.mk C)).bind fun n=>(oZ (aC.mk z) (aC.mk C)).bind fun o=>(zu n o).bind fun p=>bif p then (rP E A).bind fun q=>bif ((q.length:Int)==0)then (qi E B).bind fun s=>(qi D A).bind fun t=>some ((s==t))else some (false)else some (false)).bind fun r=>some (.inr r)) (c.1.cells,c.2.1,c.2.2,e.1.cells,w,x,0)
def Kz:Fsp:=⟨3,[slF .u8],[shF .bool],true,false,fun x=>FnRenamedUses x⟩
end
end Go.Proofs.YtkebfkahdmddpaaGreatDoor
