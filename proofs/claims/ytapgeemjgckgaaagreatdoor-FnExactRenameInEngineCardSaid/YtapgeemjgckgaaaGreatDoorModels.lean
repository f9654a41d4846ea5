import Derived.Test.YtapgeemjgckgaaaGreatDoorLink1
set_option linter.unusedVariables false
/- What the functions compute, by gen.py. -/
namespace Go.Proofs.YtapgeemjgckgaaaGreatDoor
noncomputable section
open Go.Abs Go.Proofs
abbrev shT(b:Base):Sh:=⟨true,.base b⟩
abbrev shF(b:Base):Sh:=⟨false,.base b⟩
abbrev slF(b:Base):Sh:=⟨false,.list (.base b)⟩
abbrev siz{α:Type}[SizeOf α](x:α):Nat:=SizeOf.sizeOf x
abbrev w64(n:Int):Int:=IntKind.i64.wrap n
abbrev w8(n:Int):Int:=IntKind.u8.wrap n
def pI:Isp:={ fid:=247,t:=.base .str,fn:=iV }
def O0(a:aj)(b:Int):Option (Int):=bif (decide ((w64 (b-(a.name.length:Int)))<0))then some ((-1))else bif (decide ((w64 ((w64 (b-(a.name.length:Int)))-(a.code.length:Int)))<0))then some ((-1))else some (w64 ((w64 (b-(a.name.length:Int)))-(a.code.length:Int)))
def ahX:Fsp:=⟨95,[shT .cell,shF .int],[shF .int],true,false,fun x=>O0 x.1 x.2⟩
def NZ(a:List aj)(b:Int):Option (Int):=bif (decide ((w64 (b-(a.length:Int)))<0))then some ((-1))else ak (fun(⟨f,g,h⟩:(List aj)×Int×Int)=>bif (decide (h<(f.length:Int)))then (idx f h).bind fun e=>(O0 e g).bind fun d=>bif (decide (d<0))then some (.inr ((-1)))else some (.inl (f,d,w64 (h+1)))else some (.inr (g))) (a,w64 (b-(a.length:Int)),0)
def afY:Fsp:=⟨43,[slF .cell,shF .int],[shF .int],true,false,fun x=>NZ x.1 x.2⟩
def zh(a:au)(b:Int):Option (Int):=(NZ a.cells b).bind fun c=>bif (decide (c<0))then some ((-1))else some (c)
def WS:Fsp:=⟨11,[shT .notebook,shF .int],[shF .int],true,false,fun x=>zh x.1 x.2⟩
def OY(a:dh)(b:Int):Option (Int):=bif (decide ((w64 (b-(a.name.length:Int)))<0))then some ((-1))else some (w64 (b-(a.name.length:Int)))
def ahW:Fsp:=⟨96,[shT .file,shF .int],[shF .int],true,false,fun x=>OY x.1 x.2⟩
def WU(a:List dh)(b:Int):Option (Int):=bif (decide ((w64 (b-(a.length:Int)))<0))then some ((-1))else ak (fun(⟨f,g,h⟩:(List dh)×Int×Int)=>bif (decide (h<(f.length:Int)))then (idx f h).bind fun e=>(OY e g).bind fun d=>bif (decide (d<0))then some (.inr ((-1)))else some (.inl (f,d,w64 (h+1)))else some (.inr (g))) (a,w64 (b-(a.length:Int)),0)
def afV:Fsp:=⟨44,[slF .file,shF .int],[shF .int],true,false,fun x=>WU x.1 x.2⟩
def NV(a:dJ)(b:Int):Option (Int):=(WU a.files b).bind fun c=>bif (decide (c<0))then some ((-1))else some (c)
def afL:Fsp:=⟨12,[shT .world,shF .int],[shF .int],true,false,fun x=>NV x.1 x.2⟩
def JI(a:List Str)(b:Int):Option (Int):=bif (decide ((w64 (b-(a.length:Int)))<0))then some ((-1))else ak (fun(⟨e,f,g⟩:(List Str)×Int×Int)=>bif (decide (g<(e.length:Int)))then (idx e g).bind fun d=>bif (decide ((w64 (f-(d.length:Int)))<0))then some (.inr ((-1)))else some (.inl (e,w64 (f-(d.length:Int)),w64 (g+1)))else some (.inr (f))) (a,w64 (b-(a.length:Int)),0)
def Zo:Fsp:=⟨145,[slF .str,shF .int],[shF .int],true,false,fun x=>JI x.1 x.2⟩
def WT(a:List Int)(b:Int):Option (Int):=bif (decide ((w64 (b-(a.length:Int)))<0))then some ((-1))else some (w64 (b-(a.length:Int)))
def ahV:Fsp:=⟨98,[slF .int,shF .int],[shF .int],true,false,fun x=>WT x.1 x.2⟩
def JJ(a:List bK)(b:Int):Option (Int):=bif (decide ((w64 (b-(a.length:Int)))<0))then some ((-1))else some (w64 (b-(a.length:Int)))
def Zq:Fsp:=⟨226,[slF .origin,shF .int],[shF .int],true,false,fun x=>JJ x.1 x.2⟩
def Zp(a:bF)(b:Int):Option (Int):=(WT a.cells b).bind fun c=>bif (decide (c<0))then some ((-1))else (JJ a.orig c).bind fun d=>bif (decide (d<0))then some ((-1))else some (d)
def akt:Fsp:=⟨190,[shT .row,shF .int],[shF .int],true,false,fun x=>Zp x.1 x.2⟩
def acr(a:List bF)(b:Int):Option (Int):=bif (decide ((w64 (b-(a.length:Int)))<0))then some ((-1))else ak (fun(⟨f,g,h⟩:(List bF)×Int×Int)=>bif (decide (h<(f.length:Int)))then (idx f h).bind fun e=>(Zp e g).bind fun d=>bif (decide (d<0))then some (.inr ((-1)))else some (.inl (f,d,w64 (h+1)))else some (.inr (g))) (a,w64 (b-(a.length:Int)),0)
def ahT:Fsp:=⟨146,[slF .row,shF .int],[shF .int],true,false,fun x=>acr x.1 x.2⟩
def OU(rszValue:aC->Int->Option (Int))(rszValueS:(List aC)->Int->Option (Int))(a:aC)(b:Int):Option (Int):=bif (decide ((w64 (b-(a.text.length:Int)))<0))then some ((-1))else (rszValueS a.list (w64 (b-(a.text.length:Int)))).bind fun c=>bif (decide (c<0))then some ((-1))else (JI a.columns c).bind fun d=>bif (decide (d<0))then some ((-1))else (acr a.rows d).bind fun e=>bif (decide (e<0))then some ((-1))else some (e)
def afM(rszValue:aC->Int->Option (Int))(rszValueS:(List aC)->Int->Option (Int))(a:List aC)(b:Int):Option (Int):=bif (decide ((w64 (b-(a.length:Int)))<0))then some ((-1))else ak (fun(⟨f,g,h⟩:(List aC)×Int×Int)=>bif (decide (h<(f.length:Int)))then (idx f h).bind fun e=>(rszValue (bW e) g).bind fun d=>bif (decide (d<0))then some (.inr ((-1)))else some (.inl (f,d,w64 (h+1)))else some (.inr (g))) (a,w64 (b-(a.length:Int)),0)
def jJ:Nat->(aC->Int->Option (Int))×((List aC)->Int->Option (Int))
 | 0=>(fun _ _=>none,fun _ _=>none)
 | n+1=>(OU (jJ n).1 (jJ n).2,afM (jJ n).1 (jJ n).2)
def NW(a:aC)(b:Int):Option (Int):=(jJ (siz a+1)).1 a b
def afN:Fsp:=⟨99,[shT .val,shF .int],[shF .int],true,false,fun x=>NW x.1 x.2⟩
def OT(n:Nat):Fsp:=⟨99,[shT .val,shF .int],[shF .int],true,false,fun x=>(jJ n).1 x.1 x.2⟩
def ahQ(a:List aC)(b:Int):Option (Int):=(jJ (siz a+1)).2 a b
def acp:Fsp:=⟨144,[slF .val,shF .int],[shF .int],true,false,fun x=>ahQ x.1 x.2⟩
def LH(n:Nat):Fsp:=⟨144,[slF .val,shF .int],[shF .int],true,false,fun x=>(jJ n).2 x.1 x.2⟩
def OW(a:aN)(b:Int):Option (Int):=bif (decide ((w64 (b-(a.text.length:Int)))<0))then some ((-1))else (NW (bW a.result) (w64 (b-(a.text.length:Int)))).bind fun c=>bif (decide (c<0))then some ((-1))else some (c)
def ahU:Fsp:=⟨143,[shT .read,shF .int],[shF .int],true,false,fun x=>OW x.1 x.2⟩
def WQ(a:List aN)(b:Int):Option (Int):=bif (decide ((w64 (b-(a.length:Int)))<0))then some ((-1))else ak (fun(⟨f,g,h⟩:(List aN)×Int×Int)=>bif (decide (h<(f.length:Int)))then (idx f h).bind fun e=>(OW (iU e) g).bind fun d=>bif (decide (d<0))then some (.inr ((-1)))else some (.inl (f,d,w64 (h+1)))else some (.inr (g))) (a,w64 (b-(a.length:Int)),0)
def afT:Fsp:=⟨97,[slF .read,shF .int],[shF .int],true,false,fun x=>WQ x.1 x.2⟩
def OV(a:aB)(b:Int):Option (Int):=(WQ a.reads b).bind fun c=>bif (decide (c<0))then some ((-1))else some (c)
def ahR:Fsp:=⟨45,[shT .tape,shF .int],[shF .int],true,false,fun x=>OV x.1 x.2⟩
def NY(a:List aB)(b:Int):Option (Int):=bif (decide ((w64 (b-(a.length:Int)))<0))then some ((-1))else ak (fun(⟨f,g,h⟩:(List aB)×Int×Int)=>bif (decide (h<(f.length:Int)))then (idx f h).bind fun e=>(OV e g).bind fun d=>bif (decide (d<0))then some (.inr ((-1)))else some (.inl (f,d,w64 (h+1)))else some (.inr (g))) (a,w64 (b-(a.length:Int)),0)
def afP:Fsp:=⟨13,[slF .tape,shF .int],[shF .int],true,false,fun x=>NY x.1 x.2⟩
def Hr(a:aO)(b:Int):Option (Int):=(WT a.inputs b).bind fun c=>bif (decide (c<0))then some ((-1))else (NW (bW a.value) c).bind fun d=>bif (decide (d<0))then some ((-1))else some (d)
def afW:Fsp:=⟨46,[shT .entry,shF .int],[shF .int],true,false,fun x=>Hr x.1 x.2⟩
def OZ(a:List aO)(b:Int):Option (Int):=bif (decide ((w64 (b-(a.length:Int)))<0))then some ((-1))else ak (fun(⟨f,g,h⟩:(List aO)×Int×Int)=>bif (decide (h<(f.length:Int)))then (idx f h).bind fun e=>(Hr (kF e) g).bind fun d=>bif (decide (d<0))then some (.inr ((-1)))else some (.inl (f,d,w64 (h+1)))else some (.inr (g))) (a,w64 (b-(a.length:Int)),0)
def acw:Fsp:=⟨14,[slF .entry,shF .int],[shF .int],true,false,fun x=>OZ x.1 x.2⟩
def Ht(a:bM)(b:Int):Option (Int):=(zh a.notebook b).bind fun c=>bif (decide (c<0))then some ((-1))else (NV a.world c).bind fun d=>bif (decide (d<0))then some ((-1))else (NY a.tapes d).bind fun e=>bif (decide (e<0))then some ((-1))else (OZ a.entries e).bind fun f=>bif (decide (f<0))then some ((-1))else some (f)
def acy:Fsp:=⟨4,[shT .engine,shF .int],[shF .int],true,false,fun x=>Ht x.1 x.2⟩
def jK(a:au):Option (au):=(gd (0+a.cells.length)).bind fun _=>some (au.mk ([]++a.cells))
def acR:Fsp:=⟨47,[shT .notebook],[shT .notebook],true,false,fun x=>jK x⟩
def Ig(a:dJ):Option (dJ):=(gd (0+a.files.length)).bind fun _=>some (dJ.mk a.clock a.seed ([]++a.files))
def acU:Fsp:=⟨48,[shT .world],[shT .world],true,false,fun x=>Ig x⟩
def JU(a:bF):Option (bF):=(gd (0+a.cells.length)).bind fun _=>(gd (0+a.orig.length)).bind fun _=>some (bF.mk ([]++a.cells) ([]++a.orig))
def aic:Fsp:=⟨148,[shT .row],[shT .row],true,false,fun x=>JU x⟩
def BA(rsL3Copy:aC->Option (aC))(a:aC):Option (aC):=(gd (0+a.columns.length)).bind fun _=>ak (fun(⟨h,i,j,k,l,m,o,p,q,s,t,u,v,w,x,y,z,A,B,C,D,E⟩:Int×Int×Int×Str×(List aC)×(List Str)×(List bF)×Int×Int×Int×Str×(List aC)×(List Str)×(List bF)×Int×Int×Int×Str×(List aC)×(List Str)×(List bF)×Int)=>bif (decide (E<(l.length:Int)))then (idx l E).bind fun f=>(rsL3Copy (bW f)).bind fun d=>(gd (B.length+[bW d].length)).bind fun _=>some (.inl (h,i,j,k,l,m,o,p,q,s,t,u,v,w,x,y,z,A,B++[bW d],C,D,w64 (E+1)))else (ak (fun(⟨b,F,G,H,I,J,K,L,M,N,O,P,Q,R,S,T,U,V,W,X,Y,Z⟩:Int×Int×Int×Str×(List aC)×(List Str)×(List bF)×Int×Int×Int×Str×(List aC)×(List Str)×(List bF)×Int×Int×Int×Str×(List aC)×(List Str)×(List bF)×Int)=>bif (decide (Z<(K.length:Int)))then (idx K Z).bind fun g=>(JU g).bind fun e=>(gd (Y.length+[e].length)).bind fun _=>some (.inl (b,F,G,H,I,J,K,L,M,N,O,P,Q,R,S,T,U,V,W,X,Y++[e],w64 (Z+1)))else some (.inr (aC.mk S T U V W X Y))) (h,i,j,k,l,m,o,p,q,s,t,u,v,w,x,y,z,A,B,C,D,0)).bind fun r=>some (.inr r)) (a.kind,a.n,a.step,a.text,a.list,a.columns,a.rows,0,0,0,[],[],[],[],a.kind,a.n,a.step,a.text,[],[]++a.columns,[],0)
def xH:Nat->(aC->Option (aC))
 | 0=>fun _=>none
 | n+1=>BA (xH n)
def zl(a:aC):Option (aC):=(xH (siz a+1)) a
def agc:Fsp:=⟨101,[shT .val],[shT .val],true,false,fun x=>zl x⟩
def Pg(n:Nat):Fsp:=⟨101,[shT .val],[shT .val],true,false,fun x=>(xH n) x⟩
def BH(a:aN):Option (aN):=(zl (bW a.result)).bind fun b=>some (aN.mk a.kind a.n a.time a.text (bW b))
def acT:Fsp:=⟨147,[shT .read],[shT .read],true,false,fun x=>BH x⟩
def sQ(a:List aN):Option ((List aN)):=ak (fun(⟨e,f,g⟩:(List aN)×(List aN)×Int)=>bif (decide (g<(e.length:Int)))then (idx e g).bind fun d=>(BH (iU d)).bind fun c=>(gd (f.length+[iU c].length)).bind fun _=>some (.inl (e,f++[iU c],w64 (g+1)))else some (.inr (f))) (a,[],0)
def ZM:Fsp:=⟨100,[slF .read],[slF .read],true,false,fun x=>sQ x⟩
def BF(a:List aB):Option ((List aB)):=ak (fun(⟨g,h,i⟩:(List aB)×(List aB)×Int)=>bif (decide (i<(g.length:Int)))then (idx g i).bind fun c=>(idx g i).bind fun d=>(idx g i).bind fun f=>(sQ f.reads).bind fun e=>(gd (h.length+[aB.mk c.cell d.version e].length)).bind fun _=>some (.inl (g,h++[aB.mk c.cell d.version e],w64 (i+1)))else some (.inr (h))) (a,[],0)
def acQ:Fsp:=⟨49,[slF .tape],[slF .tape],true,false,fun x=>BF x⟩
def DT(a:aO):Option (aO):=(gd (0+a.inputs.length)).bind fun _=>(zl (bW a.value)).bind fun b=>some (aO.mk a.cell a.version a.stamp ([]++a.inputs) (bW b) a.has)
def ZJ:Fsp:=⟨50,[shT .entry],[shT .entry],true,false,fun x=>DT x⟩
def Ie(a:bM):Option (bM):=(jK a.notebook).bind fun e=>(Ig a.world).bind fun c=>(BF a.tapes).bind fun f=>ak (fun(⟨h,i,j,k,l,m,n,o,p,q,r,s,t,u,v,w,x,y,z,A,B,C,D,E,F,G,H,I⟩:(List aj)×Int×Int×(List dh)×(List aB)×(List aO)×Int×Int×Int×(List aj)×Int×Int×(List dh)×(List aB)×(List aO)×Int×Int×Int×(List aj)×Int×Int×(List dh)×(List aB)×(List aO)×Int×Int×Int×Int)=>bif (decide (I<(m.length:Int)))then (idx m I).bind fun g=>(DT (kF g)).bind fun d=>(gd (E.length+[kF d].length)).bind fun _=>some (.inl (h,i,j,k,l,m,n,o,p,q,r,s,t,u,v,w,x,y,z,A,B,C,D,E++[kF d],F,G,H,w64 (I+1)))else some (.inr (bM.mk (au.mk z) (dJ.mk A B C) D E F G H))) (a.notebook.cells,a.world.clock,a.world.seed,a.world.files,a.tapes,a.entries,a.next,a.limit,a.work,[],0,0,[],[],[],0,0,0,e.cells,c.clock,c.seed,c.files,f,[],a.next,a.limit,a.work,0)
def acP:Fsp:=⟨15,[shT .engine],[shT .engine],true,false,fun x=>Ie x⟩
def lu(a:au)(b:Int):Option (Int):=ak (fun(⟨e,f,g⟩:Int×(List aj)×Int)=>bif (decide (g<(f.length:Int)))then (idx f g).bind fun d=>bif (d.id==e)then some (.inr (g))else some (.inl (e,f,w64 (g+1)))else some (.inr ((-1)))) (b,a.cells,0)
def Xv:Fsp:=⟨63,[shT .notebook,shF .int],[shF .int],true,false,fun x=>lu x.1 x.2⟩
def Ic(a:Str):Option (Bool):=ak (fun (b:Str×Int)=>bif (decide (b.2<(b.1.length:Int)))then (idx b.1 b.2).bind fun d=>bif (decide ((d.toNat:Int)>=97))then (idx b.1 b.2).bind fun c=>(idx b.1 b.2).bind fun e=>bif (decide ((e.toNat:Int)>=48))then (idx b.1 b.2).bind fun f=>bif (!(decide ((c.toNat:Int)<=122)))then bif (b.2==0)then some (.inr (false))else bif (!(decide ((f.toNat:Int)<=57)))then some (.inr (false))else some (.inl (b.1,w64 (b.2+1)))else some (.inl (b.1,w64 (b.2+1)))else bif (!(decide ((c.toNat:Int)<=122)))then bif (b.2==0)then some (.inr (false))else some (.inr (false))else some (.inl (b.1,w64 (b.2+1)))else (idx b.1 b.2).bind fun g=>bif (decide ((g.toNat:Int)>=48))then (idx b.1 b.2).bind fun h=>bif (b.2==0)then some (.inr (false))else bif (!(decide ((h.toNat:Int)<=57)))then some (.inr (false))else some (.inl (b.1,w64 (b.2+1)))else bif (b.2==0)then some (.inr (false))else some (.inr (false))else some (.inr ((decide ((b.1.length:Int)>0))))) (a,0)
def acO:Fsp:=⟨103,[shF .str],[shF .bool],true,false,fun x=>Ic x⟩
def nK(a:List Str)(b:Str):Option (Bool):=ak (fun(⟨e,f,g⟩:(List Str)×Str×Int)=>bif (decide (g<(e.length:Int)))then (idx e g).bind fun d=>bif (d==f)then some (.inr (true))else some (.inl (e,f,w64 (g+1)))else some (.inr (false))) (a,b,0)
def aif:Fsp:=⟨56,[slF .str,shF .str],[shF .bool],true,false,fun x=>nK x.1 x.2⟩
def vM:Option ((List Str)):=some (([[108,101,116],[105,110],[105,102],[116,104,101,110],[101,108,115,101],[102,111,114],[100,111],[108,101,110],[115,117,109],[116,97,107,101],[115,107,105,112],[114,97,110,103,101],[110,116,104],[119,104,101,114,101],[107,101,101,112],[97,100,100],[103,114,111,117,112],[106,111,105,110],[99,111,108,117,109,110],[114,111,119,115],[99,108,111,99,107],[99,104,97,110,99,101],[102,105,108,101],[116,97,98,108,101]]:List Str))
def TF:Fsp:=⟨151,[],[slF .str],true,false,fun x=>vM⟩
def qy(a:Str):Option (Bool):=(vM).bind fun b=>(nK b a).bind fun c=>some (c)
def TL:Fsp:=⟨104,[shF .str],[shF .bool],true,false,fun x=>qy x⟩
def bP(a:Str):Option (Bool):=(Ic a).bind fun b=>bif b then bif (decide ((a.length:Int)<=8))then (qy a).bind fun c=>some ((!c))else some (false)else some (false)
def PV:Fsp:=⟨52,[shF .str],[shF .bool],true,false,fun x=>bP x⟩
def xI(a:Int)(b:Int)(c:Int):Option (Bool):=bif (decide (a>=b))then some ((decide (a<=c)))else some (false)
def akD:Fsp:=⟨149,[shF .int,shF .int,shF .int],[shF .bool],true,false,fun x=>xI x.1 x.2.1 x.2.2⟩
def lX(a:Str):Option (Bool):=ak (fun (b:Str×Int)=>bif (decide (b.2<(b.1.length:Int)))then (idx b.1 b.2).bind fun c=>bif (decide ((c.toNat:Int)<32))then some (.inr (false))else (idx b.1 b.2).bind fun d=>bif (decide ((d.toNat:Int)>126))then some (.inr (false))else some (.inl (b.1,w64 (b.2+1)))else some (.inr ((decide ((b.1.length:Int)<=120))))) (a,0)
def PY:Fsp:=⟨150,[shF .str],[shF .bool],true,false,fun x=>lX x⟩
def kE(a:aj):Option (Bool):=(xI a.id 1 999).bind fun b=>bif (!b)then some (false)else (xI a.version 1 999).bind fun c=>bif (!c)then some (false)else (lX a.code).bind fun d=>bif (!d)then some (false)else bif (a.kind==1)then bif (a.name==[])then some ((a.n==0))else some (false)else bif (a.kind==2)then (bP a.name).bind fun e=>bif e then some ((a.n==0))else some (false)else bif (a.kind==4)then (bP a.name).bind fun f=>bif f then some ((a.n==0))else some (false)else bif (a.kind==3)then (bP a.name).bind fun g=>bif g then bif (a.code==[])then (xI a.n 0 100).bind fun h=>some (h)else some (false)else some (false)else some (false)
def PX:Fsp:=⟨102,[shT .cell],[shF .bool],true,false,fun x=>kE x⟩
def jM(a:au):Option (Bool):=ak (fun (b:(List aj)×Int)=>bif (decide (b.2<(b.1.length:Int)))then (idx b.1 b.2).bind fun c=>(kE c).bind fun d=>bif (!d)then some (.inr (false))else (idx b.1 b.2).bind fun e=>(lu (au.mk b.1) e.id).bind fun f=>bif (f != b.2)then some (.inr (false))else some (.inl (b.1,w64 (b.2+1)))else some (.inr ((decide ((b.1.length:Int)<=8))))) (a.cells,0)
def F8:Fsp:=⟨51,[shT .notebook],[shF .bool],true,false,fun x=>jM x⟩
def J4(rsL10Left:af->Int->Option (Int))(a:af)(b:Int):Option (Int):=ak (fun(⟨f,g,h,i,j,k⟩:Int×Int×Int×Str×(List af)×Int)=>bif (decide (k<(j.length:Int)))then bif (decide (f>=0))then (idx j k).bind fun d=>(rsL10Left (ah d) f).bind fun e=>some (.inl (e,g,h,i,j,w64 (k+1)))else some (.inr (f))else some (.inr (f))) (w64 (b-1),a.kind,a.n,a.text,a.args,0)
def xK:Nat->(af->Int->Option (Int))
 | 0=>fun _ _=>none
 | n+1=>J4 (xK n)
def PL(a:af)(b:Int):Option (Int):=(xK (siz a+1)) a b
def ac7:Fsp:=⟨161,[shT .expr,shF .int],[shF .int],true,false,fun x=>PL x.1 x.2⟩
def L6(n:Nat):Fsp:=⟨161,[shT .expr,shF .int],[shF .int],true,false,fun x=>(xK n) x.1 x.2⟩
def Xj(a:Int)(b:Int):Option (Int):=bif (decide (a>b))then some (a)else some (b)
def aie:Fsp:=⟨199,[shF .int,shF .int],[shF .int],true,false,fun x=>Xj x.1 x.2⟩
def qo(rsNestingOf:af->Option (Int))(a:af):Option (Int):=ak (fun(⟨f,g,h,i,j,k⟩:Int×Int×Str×(List af)×Int×Int)=>bif (decide (k<(i.length:Int)))then (idx i k).bind fun c=>(rsNestingOf (ah c)).bind fun d=>(Xj j d).bind fun e=>some (.inl (f,g,h,i,e,w64 (k+1)))else some (.inr (w64 (j+1)))) (a.kind,a.n,a.text,a.args,0,0)
def jZ:Nat->(af->Option (Int))
 | 0=>fun _=>none
 | n+1=>qo (jZ n)
def FZ(a:af):Option (Int):=(jZ (siz a+1)) a
def Xe:Fsp:=⟨162,[shT .expr],[shF .int],true,false,fun x=>FZ x⟩
def EY(n:Nat):Fsp:=⟨162,[shT .expr],[shF .int],true,false,fun x=>(jZ n) x⟩
def fG(a:Str):Option (Bool):=ak (fun (b:Str×Int)=>bif (decide (b.2<(b.1.length:Int)))then (idx b.1 b.2).bind fun c=>bif (decide ((c.toNat:Int)<32))then some (.inr (false))else (idx b.1 b.2).bind fun d=>bif (decide ((d.toNat:Int)>126))then some (.inr (false))else (idx b.1 b.2).bind fun e=>bif ((e.toNat:Int)==34)then some (.inr (false))else some (.inl (b.1,w64 (b.2+1)))else some (.inr ((decide ((b.1.length:Int)<=20))))) (a,0)
def PU:Fsp:=⟨234,[shF .str],[shF .bool],true,false,fun x=>fG x⟩
def dU(a:Str):Option (Int):=bif (a==[99,108,111,99,107])then some (0)else bif (a==[108,101,110])then some (1)else bif (a==[115,117,109])then some (1)else bif (a==[114,111,119,115])then some (1)else bif (a==[99,104,97,110,99,101])then some (1)else bif (a==[102,105,108,101])then some (1)else bif (a==[116,97,107,101])then some (2)else bif (a==[115,107,105,112])then some (2)else bif (a==[114,97,110,103,101])then some (2)else bif (a==[110,116,104])then some (2)else bif (a==[107,101,101,112])then some (2)else bif (a==[99,111,108,117,109,110])then some (2)else bif (a==[116,97,98,108,101])then some (2)else bif (a==[119,104,101,114,101])then some (3)else bif (a==[103,114,111,117,112])then some (3)else bif (a==[106,111,105,110])then some (3)else bif (a==[97,100,100])then some (4)else some ((-1))
def J6:Fsp:=⟨238,[shF .str],[shF .int],true,false,fun x=>dU x⟩
def oI(a:af):Option (Bool):=bif (a.kind==1)then bif ((a.args.length:Int)==0)then bif (a.text==[])then (xI a.n 0 1000000000).bind fun b=>some (b)else some (false)else some (false)else bif (a.kind==2)then bif ((a.args.length:Int)==0)then bif (a.n==0)then (fG a.text).bind fun c=>some (c)else some (false)else some (false)else bif (a.kind==3)then bif ((a.args.length:Int)==0)then bif (a.n==0)then (bP a.text).bind fun d=>some (d)else some (false)else some (false)else bif (a.kind==4)then bif (a.n==0)then bif (a.text==[])then some ((decide ((a.args.length:Int)<=8)))else some (false)else some (false)else bif (a.kind==5)then bif (a.n==0)then (dU a.text).bind fun e=>some (((a.args.length:Int)==e))else some (false)else bif (a.kind==6)then bif (a.text==[])then bif ((a.args.length:Int)==2)then (xI a.n 1 5).bind fun f=>some (f)else some (false)else some (false)else bif (a.kind==7)then bif (a.n==0)then bif ((a.args.length:Int)==2)then (bP a.text).bind fun g=>some (g)else some (false)else some (false)else bif (a.kind==9)then bif (a.n==0)then bif ((a.args.length:Int)==2)then (bP a.text).bind fun h=>some (h)else some (false)else some (false)else bif (a.kind==8)then bif (a.n==0)then bif (a.text==[])then some (((a.args.length:Int)==3))else some (false)else some (false)else some (false)
def ac5:Fsp:=⟨200,[shT .expr],[shF .bool],true,false,fun x=>oI x⟩
def BN(rsL10All:af->Option (Bool))(a:af):Option (Bool):=ak (fun(⟨f,g,h,i,j⟩:Int×Int×Str×(List af)×Int)=>bif (decide (j<(i.length:Int)))then (idx i j).bind fun c=>(rsL10All (ah c)).bind fun d=>bif (!d)then some (.inr (false))else some (.inl (f,g,h,i,w64 (j+1)))else ((oI (af.mk f g h i)).bind fun e=>some (e)).bind fun r=>some (.inr r)) (a.kind,a.n,a.text,a.args,0)
def qx:Nat->(af->Option (Bool))
 | 0=>fun _=>none
 | n+1=>BN (qx n)
def Oa(a:af):Option (Bool):=(qx (siz a+1)) a
def agj:Fsp:=⟨163,[shT .expr],[shF .bool],true,false,fun x=>Oa x⟩
def PO(n:Nat):Fsp:=⟨163,[shT .expr],[shF .bool],true,false,fun x=>(qx n) x⟩
def gU(a:af):Option (Bool):=(PL (ah a) 40).bind fun b=>bif (decide (b>=0))then (FZ (ah a)).bind fun c=>bif (decide (c<=8))then (Oa (ah a)).bind fun d=>some (d)else some (false)else some (false)
def PW:Fsp:=⟨109,[shT .expr],[shF .bool],true,false,fun x=>gU x⟩
def fU(a:Int):Option (Str):=bif (a==0)then some ([48])else ak (fun(⟨c,d,e⟩:Int×Bool×Str)=>bif (c != 0)then bif (decide ((c.tmod 10)<0))then (gd ((bytesOf [w8 (w64 (48+(w64 (0-(c.tmod 10)))))]).length+e.length)).bind fun _=>some (.inl (w64 (c.tdiv 10),d,(bytesOf [w8 (w64 (48+(w64 (0-(c.tmod 10)))))])++e))else (gd ((bytesOf [w8 (w64 (48+(c.tmod 10)))]).length+e.length)).bind fun _=>some (.inl (w64 (c.tdiv 10),d,(bytesOf [w8 (w64 (48+(c.tmod 10)))])++e))else (bif d then (gd ([45].length+e.length)).bind fun _=>some ([45]++e)else some (e)).bind fun r=>some (.inr r)) (a,(decide (a<0)),[])
def Xr:Fsp:=⟨165,[shF .int],[shF .str],true,false,fun x=>fU x⟩
def DU(a:Str)(b:Int):Option (Int×Bool):=bif (decide ((a.length:Int)>0))then (idx a 0).bind fun f=>bif ((f.toNat:Int)==45)then (eff.cutL a (some 1) none).bind fun g=>bif (decide ((g.length:Int)<1))then some (0,false)else bif (decide ((g.length:Int)>b))then some (0,false)else ak (fun(⟨x,y,z,A,B⟩:Str×Bool×Str×Int×Int)=>bif (decide (B<(z.length:Int)))then (idx z B).bind fun s=>bif (decide ((s.toNat:Int)<48))then some (.inr (0,false))else (idx z B).bind fun t=>bif (decide ((t.toNat:Int)>57))then some (.inr (0,false))else (idx z B).bind fun u=>some (.inl (x,y,z,w64 ((w64 (10*A))+(w64 (w8 ((u.toNat:Int)-48)))),w64 (B+1)))else (bif y then (fU (w64 (0-A))).bind fun v=>bif (!(v==x))then some (0,false)else some (w64 (0-A),true)else (fU A).bind fun w=>bif (!(w==x))then some (0,false)else some (A,true)).bind fun r=>some (.inr r)) (a,((f.toNat:Int)==45),g,0,0)else bif (decide ((a.length:Int)<1))then some (0,false)else bif (decide ((a.length:Int)>b))then some (0,false)else ak (fun(⟨d,C,D,E,F⟩:Str×Bool×Str×Int×Int)=>bif (decide (F<(D.length:Int)))then (idx D F).bind fun h=>bif (decide ((h.toNat:Int)<48))then some (.inr (0,false))else (idx D F).bind fun i=>bif (decide ((i.toNat:Int)>57))then some (.inr (0,false))else (idx D F).bind fun j=>some (.inl (d,C,D,w64 ((w64 (10*E))+(w64 (w8 ((j.toNat:Int)-48)))),w64 (F+1)))else (bif C then (fU (w64 (0-E))).bind fun k=>bif (!(k==d))then some (0,false)else some (w64 (0-E),true)else (fU E).bind fun l=>bif (!(l==d))then some (0,false)else some (E,true)).bind fun r=>some (.inr r)) (a,((f.toNat:Int)==45),a,0,0)else bif (decide ((a.length:Int)<1))then some (0,false)else bif (decide ((a.length:Int)>b))then some (0,false)else ak (fun(⟨e,G,H,I,J⟩:Str×Bool×Str×Int×Int)=>bif (decide (J<(H.length:Int)))then (idx H J).bind fun m=>bif (decide ((m.toNat:Int)<48))then some (.inr (0,false))else (idx H J).bind fun n=>bif (decide ((n.toNat:Int)>57))then some (.inr (0,false))else (idx H J).bind fun o=>some (.inl (e,G,H,w64 ((w64 (10*I))+(w64 (w8 ((o.toNat:Int)-48)))),w64 (J+1)))else (bif G then (fU (w64 (0-I))).bind fun p=>bif (!(p==e))then some (0,false)else some (w64 (0-I),true)else (fU I).bind fun q=>bif (!(q==e))then some (0,false)else some (I,true)).bind fun r=>some (.inr r)) (a,false,a,0,0)
def agd:Fsp:=⟨259,[shF .str,shF .int],[shF .int,shF .bool],true,false,fun x=>DU x.1 x.2⟩
def jf(a:Str):Option (Int×Bool):=(DU a 12).bind fun b=>some (b.1,b.2)
def Zz:Fsp:=⟨232,[shF .str],[shF .int,shF .bool],true,false,fun x=>jf x⟩
def xE(a:Int):Option (Bool):=bif (decide (a>=97))then some ((decide (a<=122)))else some (false)
def ZE:Fsp:=⟨252,[shF .u8],[shF .bool],true,false,fun x=>xE x⟩
def xG(a:Int):Option (Bool):=bif (decide (a>=48))then some ((decide (a<=57)))else some (false)
def acM:Fsp:=⟨253,[shF .u8],[shF .bool],true,false,fun x=>xG x⟩
def lW(a:Str)(b:Int):Option (Int):=(idx a b).bind fun c=>bif ((c.toNat:Int)==40)then some (1)else bif ((c.toNat:Int)==41)then some (1)else bif ((c.toNat:Int)==91)then some (1)else bif ((c.toNat:Int)==93)then some (1)else bif ((c.toNat:Int)==44)then some (1)else bif ((c.toNat:Int)==43)then some (1)else bif ((c.toNat:Int)==45)then some (1)else bif ((c.toNat:Int)==42)then some (1)else bif ((c.toNat:Int)==60)then some (1)else bif ((c.toNat:Int)==61)then bif (decide ((w64 (b+1))<(a.length:Int)))then (idx a (w64 (b+1))).bind fun d=>bif ((d.toNat:Int)==61)then some (2)else some (1)else some (1)else some (0)
def ZC:Fsp:=⟨254,[shF .str,shF .int],[shF .int],true,false,fun x=>lW x.1 x.2⟩
def mZ(a:Str)(b:Int):Option (aK×Int):=(idx a b).bind fun y=>(xE (y.toNat:Int)).bind fun z=>bif z then ak (fun(⟨E,F,G,H,I,J,K,L,M,N,O⟩:Str×Int×Int×Int×Int×Str×Int×Int×Int×Str×Int)=>bif (decide (O<(E.length:Int)))then (idx E O).bind fun A=>(xE (A.toNat:Int)).bind fun B=>bif B then some (.inl (E,F,G,H,I,J,K,L,M,N,w64 (O+1)))else (idx E O).bind fun C=>(xG (C.toNat:Int)).bind fun D=>bif D then some (.inl (E,F,G,H,I,J,K,L,M,N,w64 (O+1)))else ((eff.cutL E (some F) (some O)).bind fun w=>bif (decide ((w64 (O-F))>8))then some (aK.mk 1 L M w,0)else some (aK.mk 1 L M w,w64 (O-F))).bind fun r=>some (.inr r)else ((eff.cutL E (some F) (some O)).bind fun x=>bif (decide ((w64 (O-F))>8))then some (aK.mk 1 L M x,0)else some (aK.mk 1 L M x,w64 (O-F))).bind fun r=>some (.inr r)) (a,b,0,0,0,[],0,0,b,[],b)else (idx a b).bind fun k=>(xG (k.toNat:Int)).bind fun l=>bif l then ak (fun(⟨e,P,Q,R,S,T,U,V,W,X,Y⟩:Str×Int×Int×Int×Int×Str×Int×Int×Int×Str×Int)=>bif (decide (Y<(e.length:Int)))then (idx e Y).bind fun m=>(xG (m.toNat:Int)).bind fun n=>bif n then some (.inl (e,P,Q,R,S,T,U,V,W,X,w64 (Y+1)))else ((eff.cutL e (some P) (some Y)).bind fun o=>(jf o).bind fun f=>bif (!f.2)then some (aK.mk 2 f.1 W X,0)else bif (decide (f.1>1000000000))then some (aK.mk 2 f.1 W X,0)else some (aK.mk 2 f.1 W X,w64 (Y-P))).bind fun r=>some (.inr r)else ((eff.cutL e (some P) (some Y)).bind fun p=>(jf p).bind fun g=>bif (!g.2)then some (aK.mk 2 g.1 W X,0)else bif (decide (g.1>1000000000))then some (aK.mk 2 g.1 W X,0)else some (aK.mk 2 g.1 W X,w64 (Y-P))).bind fun r=>some (.inr r)) (a,b,0,0,0,[],0,0,b,[],b)else (idx a b).bind fun q=>bif ((q.toNat:Int)==34)then ak (fun(⟨d,Z,aa,ac,ae,al,aq,ar,aw,az,aD⟩:Str×Int×Int×Int×Int×Str×Int×Int×Int×Str×Int)=>bif (decide (aD<(d.length:Int)))then (idx d aD).bind fun s=>bif ((s.toNat:Int) != 34)then some (.inl (d,Z,aa,ac,ae,al,aq,ar,aw,az,w64 (aD+1)))else ((eff.cutL d (some (w64 (Z+1))) (some aD)).bind fun h=>bif (aD==(d.length:Int))then some (aK.mk 3 ar aw h,0)else (fG h).bind fun t=>bif (!t)then some (aK.mk 3 ar aw h,0)else some (aK.mk 3 ar aw h,w64 ((w64 (aD+1))-Z))).bind fun r=>some (.inr r)else ((eff.cutL d (some (w64 (Z+1))) (some aD)).bind fun i=>bif (aD==(d.length:Int))then some (aK.mk 3 ar aw i,0)else
      (fG i).bind fun u=>
      bif (!u)then
       some (aK.mk 3 ar aw i,0)
      else
       some (aK.mk 3 ar aw i,w64 ((w64 (aD+1))-Z))
    ).bind fun r=>some (.inr r)
  ) (a,b,0,0,0,[],0,0,b,[],w64 (b+1))
 else
  (lW a b).bind fun j=>
  (eff.cutL a (some b) (some (w64 (b+j)))).bind fun v=>
  some (aK.mk 4 0 b v,w64 ((w64 (b+j))-b))
def aga:Fsp:=⟨227,[shF .str,shF .int],[shT .token,shF .int],true,false,fun x=>mZ x.1 x.2⟩
def xC(a:Str):Option ((List aK)×Int):=bif (decide ((a.length:Int)>120))then some ([],120)else ak (fun(⟨e,f,g⟩:Str×(List aK)×Int)=>bif (decide (g<(e.length:Int)))then (idx e g).bind fun d=>bif ((d.toNat:Int)==32)then some (.inl (e,f,w64 (g+1)))else (mZ e g).bind fun c=>bif (c.2==0)then some (.inr ([],g))else bif ((f.length:Int)==60)then some (.inr ([],g))else (gd (f.length+[c.1].length)).bind fun _=>some (.inl (e,f++[c.1],w64 (g+c.2)))else some (.inr (f,(-1)))) (a,[],0)
def Zy:Fsp:=⟨191,[shF .str],[slF .token,shF .int],true,false,fun x=>xC x⟩
def iw(a:aK)(b:Str):Option (Bool):=bif (a.kind==4)then some ((a.text==b))else some (false)
def ZT:Fsp:=⟨255,[shT .token,shF .str],[shF .bool],true,false,fun x=>iw x.1 x.2⟩
def zu(a:aK)(b:Str):Option (Bool):=bif (a.kind==1)then some ((a.text==b))else some (false)
def Xp:Fsp:=⟨256,[shT .token,shF .str],[shF .bool],true,false,fun x=>zu x.1 x.2⟩
def dZ(a:GRd)(b:Str):Option (GRd×Bool):=bif (decide (a.bad<0))then bif (decide (a.i<(a.toks.length:Int)))then (idx a.toks a.i).bind fun c=>(iw c b).bind fun d=>bif d then some (a,true)else (idx a.toks a.i).bind fun e=>(zu e b).bind fun f=>some (a,f)else some (a,false)else some (a,false)
def acZ:Fsp:=⟨228,[shT .rd,shF .str],[shT .rd,shF .bool],false,false,fun x=>dZ x.1 x.2⟩
def iG(a:GRd):Option (GRd×af):=bif (decide (a.bad<0))then bif (decide (a.i<(a.toks.length:Int)))then (idx a.toks a.i).bind fun b=>some (GRd.mk a.toks a.i a.stop b.pos,af.mk 0 0 [] [])else some (GRd.mk a.toks a.i a.stop a.stop,af.mk 0 0 [] [])else some (a,af.mk 0 0 [] [])
def ac1:Fsp:=⟨193,[shT .rd],[shT .rd,shT .expr],false,true,fun x=>iG x⟩
def BK(a:GRd):Option (GRd×Str):=bif (decide (a.bad>=0))then (iG a).bind fun b=>some (b.1,[])else bif (decide (a.i>=(a.toks.length:Int)))then (iG a).bind fun c=>some (c.1,[])else (idx a.toks a.i).bind fun d=>bif (d.kind != 1)then (iG a).bind fun e=>some (e.1,[])else (idx a.toks a.i).bind fun f=>(bP f.text).bind fun g=>bif (!g)then (iG a).bind fun h=>some (h.1,[])else (idx a.toks (w64 ((w64 (a.i+1))-1))).bind fun j=>some (GRd.mk a.toks (w64 (a.i+1)) a.stop a.bad,j.text)
def ac0:Fsp:=⟨229,[shT .rd],[shT .rd,shF .str],false,false,fun x=>BK x⟩
def eG(a:GRd)(b:Str):Option (GRd):=(dZ a b).bind fun c=>bif (!c.2)then (iG c.1).bind fun d=>some (d.1)else some (GRd.mk c.1.toks (w64 (c.1.i+1)) c.1.stop c.1.bad)
def acY:Fsp:=⟨230,[shT .rd,shF .str],[shT .rd],false,false,fun x=>eG x.1 x.2⟩
def kY(a:Int)(b:af)(c:af):Option (af):=some (af.mk 6 a [] [ah b,ah c])
def aim:Fsp:=⟨258,[shF .int,shT .expr,shT .expr],[shT .expr],false,true,fun x=>kY x.1 x.2.1 x.2.2⟩
def Xo(a:Int):Option (af):=some (af.mk 1 a [] [])
def agi:Fsp:=⟨327,[shF .int],[shT .expr],true,false,fun x=>Xo x⟩
def PI(a:Str):Option (af):=some (af.mk 3 0 a [])
def ac6:Fsp:=⟨328,[shF .str],[shT .expr],true,false,fun x=>PI x⟩
def J3(rsL11Expr:GRd->Option (GRd×af))(rsL11Compare:GRd->Option (GRd×af))(rsL11Sum:GRd->Option (GRd×af))(rsL11Product:GRd->Option (GRd×af))(rsL11Atom:GRd->Option (GRd×af))(rsL11Args:GRd->Str->Option (GRd×(List af)))(a:GRd):Option (GRd×af):=(dZ a [108,101,116]).bind fun c=>bif c.2 then (BK (GRd.mk c.1.toks (w64 (c.1.i+1)) c.1.stop c.1.bad)).bind fun o=>(eG o.1 [61]).bind fun s=>(rsL11Expr s).bind fun p=>(eG p.1 [105,110]).bind fun t=>(rsL11Expr t).bind fun q=>some (q.1,af.mk 7 0 o.2 [ah p.2,ah q.2])else (dZ c.1 [105,102]).bind fun d=>bif d.2 then (rsL11Expr (GRd.mk d.1.toks (w64 (d.1.i+1)) d.1.stop d.1.bad)).bind fun r=>(eG r.1 [116,104,101,110]).bind fun u=>(rsL11Expr u).bind fun e=>(eG e.1 [101,108,115,101]).bind fun l=>(rsL11Expr l).bind fun f=>some (f.1,af.mk 8 0 [] [ah r.2,ah e.2,ah f.2])else (dZ d.1 [102,111,114]).bind fun b=>bif b.2 then (BK (GRd.mk b.1.toks (w64 (b.1.i+1)) b.1.stop b.1.bad)).bind fun g=>(eG g.1 [105,110]).bind fun m=>(rsL11Expr m).bind fun h=>(eG h.1 [100,111]).bind fun n=>(rsL11Expr n).bind fun j=>some (j.1,af.mk 9 0 g.2 [ah h.2,ah j.2])else (rsL11Compare b.1).bind fun k=>some (k.1,ah k.2)
def rD(rsL11Expr:GRd->Option (GRd×af))(rsL11Compare:GRd->Option (GRd×af))(rsL11Sum:GRd->Option (GRd×af))(rsL11Product:GRd->Option (GRd×af))(rsL11Atom:GRd->Option (GRd×af))(rsL11Args:GRd->Str->Option (GRd×(List af)))(a:GRd):Option (GRd×af):=(rsL11Sum a).bind fun d=>(dZ d.1 [60]).bind fun b=>bif b.2 then (rsL11Sum (GRd.mk b.1.toks (w64 (b.1.i+1)) b.1.stop b.1.bad)).bind fun e=>(kY 4 (ah d.2) (ah e.2)).bind fun g=>some (e.1,ah g)else (dZ b.1 [61,61]).bind fun c=>bif c.2 then (rsL11Sum (GRd.mk c.1.toks (w64 (c.1.i+1)) c.1.stop c.1.bad)).bind fun f=>(kY 5 (ah d.2) (ah f.2)).bind fun h=>some (f.1,ah h)else some (c.1,ah d.2)
def Py(rsL11Expr:GRd->Option (GRd×af))(rsL11Compare:GRd->Option (GRd×af))(rsL11Sum:GRd->Option (GRd×af))(rsL11Product:GRd->Option (GRd×af))(rsL11Atom:GRd->Option (GRd×af))(rsL11Args:GRd->Str->Option (GRd×(List af)))(a:GRd):Option (GRd×af):=(rsL11Product a).bind fun j=>ak (fun(⟨r,s,t,u,v,w,x,y,z,A,B,C⟩:(List aK)×Int×Int×Int×Int×Int×Str×(List af)×Int×Int×Str×(List af))=>(dZ (GRd.mk r s t u) [43]).bind fun p=>bif p.2 then (dZ p.1 [45]).bind fun f=>bif f.2 then (rsL11Product (GRd.mk f.1.toks (w64 (f.1.i+1)) f.1.stop f.1.bad)).bind fun k=>(kY 2 (af.mk z A B C) (ah k.2)).bind fun m=>some (.inl (k.1.toks,k.1.i,k.1.stop,k.1.bad,v,w,x,y,m.kind,m.n,m.text,m.args))else (rsL11Product (GRd.mk f.1.toks (w64 (f.1.i+1)) f.1.stop f.1.bad)).bind fun l=>(kY 1 (af.mk z A B C) (ah l.2)).bind fun o=>some (.inl (l.1.toks,l.1.i,l.1.stop,l.1.bad,v,w,x,y,o.kind,o.n,o.text,o.args))else (dZ p.1 [45]).bind fun q=>bif q.2 then (dZ q.1 [45]).bind fun c=>bif c.2 then (rsL11Product (GRd.mk c.1.toks (w64 (c.1.i+1)) c.1.stop c.1.bad)).bind fun d=>(kY 2 (af.mk z A B C) (ah d.2)).bind fun g=>some (.inl (d.1.toks,d.1.i,d.1.stop,d.1.bad,v,w,x,y,g.kind,g.n,g.text,g.args))else (rsL11Product (GRd.mk c.1.toks (w64 (c.1.i+1)) c.1.stop c.1.bad)).bind fun e=>(kY 1 (af.mk z A B C) (ah e.2)).bind fun h=>some (.inl (e.1.toks,e.1.i,e.1.stop,e.1.bad,v,w,x,y,h.kind,h.n,h.text,h.args))else some (.inr (q.1,af.mk z A B C))) (j.1.toks,j.1.i,j.1.stop,j.1.bad,0,0,[],[],j.2.kind,j.2.n,j.2.text,j.2.args)
def zq(rsL11Expr:GRd->Option (GRd×af))(rsL11Compare:GRd->Option (GRd×af))(rsL11Sum:GRd->Option (GRd×af))(rsL11Product:GRd->Option (GRd×af))(rsL11Atom:GRd->Option (GRd×af))(rsL11Args:GRd->Str->Option (GRd×(List af)))(a:GRd):Option (GRd×af):=(rsL11Atom a).bind fun c=>ak (fun(⟨g,h,j,k,l,m,o,p,q,r,s,t⟩:(List aK)×Int×Int×Int×Int×Int×Str×(List af)×Int×Int×Str×(List af))=>(dZ (GRd.mk g h j k) [42]).bind fun d=>bif d.2 then (rsL11Atom (GRd.mk d.1.toks (w64 (d.1.i+1)) d.1.stop d.1.bad)).bind fun e=>(kY 3 (af.mk q r s t) (ah e.2)).bind fun f=>some (.inl (e.1.toks,e.1.i,e.1.stop,e.1.bad,l,m,o,p,f.kind,f.n,f.text,f.args))else some (.inr (d.1,af.mk q r s t))) (c.1.toks,c.1.i,c.1.stop,c.1.bad,0,0,[],[],c.2.kind,c.2.n,c.2.text,c.2.args)
def DW(rsL11Expr:GRd->Option (GRd×af))(rsL11Compare:GRd->Option (GRd×af))(rsL11Sum:GRd->Option (GRd×af))(rsL11Product:GRd->Option (GRd×af))(rsL11Atom:GRd->Option (GRd×af))(rsL11Args:GRd->Str->Option (GRd×(List af)))(a:GRd):Option (GRd×af):=bif (decide (a.bad>=0))then (iG a).bind fun F=>some (F.1,ah F.2)else bif (decide (a.i>=(a.toks.length:Int)))then (iG a).bind fun G=>some (G.1,ah G.2)else (idx a.toks a.i).bind fun b=>bif (b.kind==2)then (Xo b.n).bind fun I=>some (GRd.mk a.toks (w64 (a.i+1)) a.stop a.bad,ah I)else bif (b.kind==3)then some (GRd.mk a.toks (w64 (a.i+1)) a.stop a.bad,af.mk 2 0 b.text [])else bif (b.kind==1)then (bP b.text).bind fun J=>bif J then (PI b.text).bind fun K=>some (GRd.mk a.toks (w64 (a.i+1)) a.stop a.bad,ah K)else bif (b.kind==1)then (dU b.text).bind fun L=>bif (decide (L>=0))then (eG (GRd.mk a.toks (w64 (a.i+1)) a.stop a.bad) [40]).bind fun M=>(rsL11Args M [41]).bind fun H=>some (H.1,af.mk 5 0 b.text H.2)else (iw b [91]).bind fun r=>bif r then (rsL11Args (GRd.mk a.toks (w64 (a.i+1)) a.stop a.bad) [93]).bind fun c=>some (c.1,af.mk 4 0 [] c.2)else (iw b [40]).bind fun s=>bif s then (rsL11Expr (GRd.mk a.toks (w64 (a.i+1)) a.stop a.bad)).bind fun d=>(eG d.1 [41]).bind fun t=>some (t,ah d.2)else (iG a).bind fun e=>some (e.1,ah e.2)else (iw b [91]).bind fun u=>bif u then (rsL11Args (GRd.mk a.toks (w64 (a.i+1)) a.stop a.bad) [93]).bind fun f=>some (f.1,af.mk 4 0 [] f.2)else (iw b [40]).bind fun v=>bif v then (rsL11Expr (GRd.mk a.toks (w64 (a.i+1)) a.stop a.bad)).bind fun g=>(eG g.1 [41]).bind fun w=>some (w,ah g.2)else (iG a).bind fun h=>some (h.1,ah h.2)else bif (b.kind==1)then (dU b.text).bind fun x=>bif (decide (x>=0))then (eG (GRd.mk a.toks (w64 (a.i+1)) a.stop a.bad) [40]).bind fun y=>(rsL11Args y [41]).bind fun j=>some (j.1,af.mk 5 0 b.text j.2)else (iw b [91]).bind fun z=>bif z then (rsL11Args (GRd.mk a.toks (w64 (a.i+1)) a.stop a.bad) [93]).bind fun k=>some (k.1,af.mk 4 0 [] k.2)else (iw b [40]).bind fun A=>bif A then (rsL11Expr (GRd.mk a.toks (w64 (a.i+1)) a.stop a.bad)).bind fun l=>(eG l.1 [41]).bind fun B=>some (B,ah l.2)else (iG a).bind fun m=>some (m.1,ah m.2)else (iw b [91]).bind fun C=>bif C then (rsL11Args (GRd.mk a.toks (w64 (a.i+1)) a.stop a.bad) [93]).bind fun o=>some (o.1,af.mk 4 0 [] o.2)else (iw b [40]).bind fun D=>bif D then (rsL11Expr (GRd.mk a.toks (w64 (a.i+1)) a.stop a.bad)).bind fun p=>(eG p.1 [41]).bind fun E=>some (E,ah p.2)else (iG a).bind fun q=>some (q.1,ah q.2)
def xJ(rsL11Expr:GRd->Option (GRd×af))(rsL11Compare:GRd->Option (GRd×af))(rsL11Sum:GRd->Option (GRd×af))(rsL11Product:GRd->Option (GRd×af))(rsL11Atom:GRd->Option (GRd×af))(rsL11Args:GRd->Str->Option (GRd×(List af)))(a:GRd)(b:Str):Option (GRd×(List af)):=(dZ a b).bind fun d=>bif d.2 then some (GRd.mk d.1.toks (w64 (d.1.i+1)) d.1.stop d.1.bad,[])else ak (fun(⟨j,k,l,m,n,o⟩:(List aK)×Int×Int×Int×Str×(List af))=>bif (decide (m<0))then (rsL11Expr (GRd.mk j k l m)).bind fun f=>(gd (o.length+[ah f.2].length)).bind fun _=>(dZ f.1 [44]).bind fun e=>bif (!e.2)then ((eG e.1 n).bind fun g=>some (g,o++[ah f.2])).bind fun r=>some (.inr r)else some (.inl (e.1.toks,w64 (e.1.i+1),e.1.stop,e.1.bad,n,o++[ah f.2]))else ((eG (GRd.mk j k l m) n).bind fun h=>some (h,o)).bind fun r=>some (.inr r)) (d.1.toks,d.1.i,d.1.stop,d.1.bad,b,[])
def aH:Nat->(GRd->Option (GRd×af))×(GRd->Option (GRd×af))×(GRd->Option (GRd×af))×(GRd->Option (GRd×af))×(GRd->Option (GRd×af))×(GRd->Str->Option (GRd×(List af)))
 | 0=>(fun _=>none,fun _=>none,fun _=>none,fun _=>none,fun _=>none,fun _ _=>none)
 | n+1=>(J3 (aH n).1 (aH n).2.1 (aH n).2.2.1 (aH n).2.2.2.1 (aH n).2.2.2.2.1 (aH n).2.2.2.2.2,rD (aH n).1 (aH n).2.1 (aH n).2.2.1 (aH n).2.2.2.1 (aH n).2.2.2.2.1 (aH n).2.2.2.2.2,Py (aH n).1 (aH n).2.1 (aH n).2.2.1 (aH n).2.2.2.1 (aH n).2.2.2.2.1 (aH n).2.2.2.2.2,zq (aH n).1 (aH n).2.1 (aH n).2.2.1 (aH n).2.2.2.1 (aH n).2.2.2.2.1 (aH n).2.2.2.2.2,DW (aH n).1 (aH n).2.1 (aH n).2.2.1 (aH n).2.2.2.1 (aH n).2.2.2.2.1 (aH n).2.2.2.2.2,xJ (aH n).1 (aH n).2.1 (aH n).2.2.1 (aH n).2.2.2.1 (aH n).2.2.2.2.1 (aH n).2.2.2.2.2)
def PD(a:GRd):Option (GRd×af):=(aH (siz a+1)).1 a
def ac2:Fsp:=⟨192,[shT .rd],[shT .rd,shT .expr],false,false,fun x=>PD x⟩
def LX(n:Nat):Fsp:=⟨192,[shT .rd],[shT .rd,shT .expr],false,false,fun x=>(aH n).1 x⟩
def ZP(a:GRd):Option (GRd×af):=(aH (siz a+1)).2.1 a
def TJ:Fsp:=⟨231,[shT .rd],[shT .rd,shT .expr],false,false,fun x=>ZP x⟩
def BL(n:Nat):Fsp:=⟨231,[shT .rd],[shT .rd,shT .expr],false,false,fun x=>(aH n).2.1 x⟩
def akE(a:GRd):Option (GRd×af):=(aH (siz a+1)).2.2.1 a
def agh:Fsp:=⟨257,[shT .rd],[shT .rd,shT .expr],false,false,fun x=>akE x⟩
def Px(n:Nat):Fsp:=⟨257,[shT .rd],[shT .rd,shT .expr],false,false,fun x=>(aH n).2.2.1 x⟩
def ZO(a:GRd):Option (GRd×af):=(aH (siz a+1)).2.2.2.1 a
def TI:Fsp:=⟨282,[shT .rd],[shT .rd,shT .expr],false,false,fun x=>ZO x⟩
def BJ(n:Nat):Fsp:=⟨282,[shT .rd],[shT .rd,shT .expr],false,false,fun x=>(aH n).2.2.2.1 x⟩
def aik(a:GRd):Option (GRd×af):=(aH (siz a+1)).2.2.2.2.1 a
def ac3:Fsp:=⟨300,[shT .rd],[shT .rd,shT .expr],false,false,fun x=>aik x⟩
def LY(n:Nat):Fsp:=⟨300,[shT .rd],[shT .rd,shT .expr],false,false,fun x=>(aH n).2.2.2.2.1 x⟩
def ail(a:GRd)(b:Str):Option (GRd×(List af)):=(aH (siz a+1)).2.2.2.2.2 a b
def ac4:Fsp:=⟨329,[shT .rd,shF .str],[shT .rd,slF .expr],false,false,fun x=>ail x.1 x.2⟩
def LZ(n:Nat):Fsp:=⟨329,[shT .rd,shF .str],[shT .rd,slF .expr],false,false,fun x=>(aH n).2.2.2.2.2 x.1 x.2⟩
def ug(a:Str):Option (af×Int):=(xC a).bind fun c=>bif (decide (c.2>=0))then some (af.mk 0 0 [] [],c.2)else (PD (GRd.mk c.1 0 (a.length:Int) (-1))).bind fun b=>bif (decide (b.1.bad<0))then bif (decide (b.1.i<(c.1.length:Int)))then (iG b.1).bind fun d=>bif (decide (d.1.bad>=0))then some (af.mk 0 0 [] [],d.1.bad)else (gU (ah b.2)).bind fun e=>bif (!e)then some (af.mk 0 0 [] [],0)else some (ah b.2,(-1))else bif (decide (b.1.bad>=0))then some (af.mk 0 0 [] [],b.1.bad)else (gU (ah b.2)).bind fun f=>bif (!f)then some (af.mk 0 0 [] [],0)else some (ah b.2,(-1))else bif (decide (b.1.bad>=0))then some (af.mk 0 0 [] [],b.1.bad)else (gU (ah b.2)).bind fun g=>bif (!g)then some (af.mk 0 0 [] [],0)else some (ah b.2,(-1))
def Xc:Fsp:=⟨152,[shF .str],[shT .expr,shF .int],false,false,fun x=>ug x⟩
def lm(a:Int):Option (aC):=some (aC.mk 6 a 0 [] [] [] [])
def TP:Fsp:=⟨153,[shF .int],[shT .val],true,false,fun x=>lm x⟩
def zk(a:Int):Option (aC):=some (aC.mk 1 a 0 [] [] [] [])
def Pe:Fsp:=⟨154,[shF .int],[shT .val],true,false,fun x=>zk x⟩
def sO(a:Str):Option ((List Str)):=ak (fun(⟨g,h,i,j⟩:Str×(List Str)×Int×Int)=>bif (decide ((w64 (j+1))<(g.length:Int)))then (idx g j).bind fun e=>bif ((e.toNat:Int)==59)then (idx g (w64 (j+1))).bind fun f=>bif ((f.toNat:Int)==32)then (eff.cutL g (some i) (some j)).bind fun c=>(gd (h.length+([c]:List Str).length)).bind fun _=>some (.inl (g,h++([c]:List Str),w64 (j+2),w64 (j+1)))else some (.inl (g,h,i,w64 (j+1)))else some (.inl (g,h,i,w64 (j+1)))else ((eff.cutL g (some i) none).bind fun d=>(gd (h.length+([d]:List Str).length)).bind fun _=>some (h++([d]:List Str))).bind fun r=>some (.inr r)) (a,[],0,0)
def ZL:Fsp:=⟨194,[shF .str],[slF .str],true,false,fun x=>sO x⟩
def nJ(a:Str)(b:Int):Option ((List Str)):=ak (fun(⟨g,h,i,j,k⟩:Str×Int×(List Str)×Int×Int)=>bif (decide (k<=(g.length:Int)))then bif (k==(g.length:Int))then (eff.cutL g (some j) (some k)).bind fun d=>(gd (i.length+([d]:List Str).length)).bind fun _=>some (.inl (g,h,i++([d]:List Str),w64 (k+1),w64 (k+1)))else (idx g k).bind fun f=>bif ((f.toNat:Int)==h)then (eff.cutL g (some j) (some k)).bind fun e=>(gd (i.length+([e]:List Str).length)).bind fun _=>some (.inl (g,h,i++([e]:List Str),w64 (k+1),w64 (k+1)))else some (.inl (g,h,i,j,w64 (k+1)))else some (.inr (i))) (a,b,[],0,0)
def WZ:Fsp:=⟨195,[shF .str,shF .u8],[slF .str],true,false,fun x=>nJ x.1 x.2⟩
def o5(a:Int):Option (Bool):=(xI a (-1000000000) 1000000000).bind fun b=>some (b)
def ZF:Fsp:=⟨233,[shF .int],[shF .bool],true,false,fun x=>o5 x⟩
def DV(a:Str)(b:Int):Option ((List Int)×Bool):=(nJ a 32).bind fun e=>ak (fun(⟨h,i,j,k⟩:Int×(List Int)×(List Str)×Int)=>bif (decide (k<(j.length:Int)))then (idx j k).bind fun _=>(j[k.toNat]?).bind fun f=>(jf f).bind fun d=>bif (!d.2)then some (.inr (i,false))else (o5 d.1).bind fun g=>bif (!g)then some (.inr (i,false))else (gd (i.length+[d.1].length)).bind fun _=>some (.inl (h,i++[d.1],j,w64 (k+1)))else some (.inr (i,((i.length:Int)==h)))) (b,[],e,0)
def agf:Fsp:=⟨196,[shF .str,shF .int],[slF .int,shF .bool],true,false,fun x=>DV x.1 x.2⟩
def rE(a:List Str):Option (Bool):=ak (fun (b:(List Str)×Int)=>bif (decide (b.2<(b.1.length:Int)))then (eff.cutL b.1 none (some b.2)).bind fun c=>(idx b.1 b.2).bind fun d=>(nK c d).bind fun e=>bif e then some (.inr (false))else some (.inl (b.1,w64 (b.2+1)))else some (.inr (true))) (a,0)
def P6:Fsp:=⟨237,[slF .str],[shF .bool],true,false,fun x=>rE x⟩
def ul(a:List Str):Option (Bool):=ak (fun (b:(List Str)×Int)=>bif (decide (b.2<(b.1.length:Int)))then (idx b.1 b.2).bind fun c=>(bP c).bind fun d=>bif (!d)then some (.inr (false))else some (.inl (b.1,w64 (b.2+1)))else ((xI (b.1.length:Int) 1 4).bind fun e=>bif e then (rE b.1).bind fun f=>some (f)else some (false)).bind fun r=>some (.inr r)) (a,0)
def Xf:Fsp:=⟨198,[slF .str],[shF .bool],true,false,fun x=>ul x⟩
def Vr(a:bK)(b:bK):Option (Bool):=bif (decide (a.cell<b.cell))then some (true)else bif (a.cell==b.cell)then some ((decide (a.row<b.row)))else some (false)
def ZG:Fsp:=⟨283,[shT .origin,shT .origin],[shF .bool],true,false,fun x=>Vr x.1 x.2⟩
def rC(a:List bK):Option (Bool):=ak (fun (b:(List bK)×Int)=>bif (decide (b.2<(b.1.length:Int)))then (idx b.1 b.2).bind fun c=>bif (decide (c.cell<0))then some (.inr (false))else (idx b.1 b.2).bind fun d=>bif (decide (d.row<0))then some (.inr (false))else bif (decide (b.2>0))then (idx b.1 (w64 (b.2-1))).bind fun e=>(idx b.1 b.2).bind fun f=>(Vr e f).bind fun g=>bif (!g)then some (.inr (false))else some (.inl (b.1,w64 (b.2+1)))else some (.inl (b.1,w64 (b.2+1)))else some (.inr (true))) (a,0)
def Ph:Fsp:=⟨262,[slF .origin],[shF .bool],true,false,fun x=>rC x⟩
def Ib(a:aC):Option (Bool):=(ul a.columns).bind fun e=>bif (!e)then some (false)else bif (decide ((a.rows.length:Int)>12))then some (false)else ak (fun(⟨i,j,k,l,m,o,p,q⟩:Int×Int×Int×Str×(List aC)×(List Str)×(List bF)×Int)=>bif (decide (q<(p.length:Int)))then (idx p q).bind fun d=>bif ((d.cells.length:Int) != (o.length:Int))then some (.inr (false))else (rC d.orig).bind fun f=>bif (!f)then some (.inr (false))else ak (fun(⟨c,s,t,u,v,w,x,y,z,A,B⟩:Int×Int×Int×Str×(List aC)×(List Str)×(List bF)×Int×(List Int)×(List bK)×Int)=>bif (decide (B<(z.length:Int)))then (idx z B).bind fun g=>(o5 g).bind fun h=>bif (!h)then (some (.inr (false))).bind fun r=>some (.inr r)else some (.inl (c,s,t,u,v,w,x,y,z,A,w64 (B+1)))else some (.inr (.inl (c,s,t,u,v,w,x,w64 (y+1))))) (i,j,k,l,m,o,p,q,d.cells,d.orig,0)else some (.inr (true))) (a.kind,a.n,a.step,a.text,a.list,a.columns,a.rows,0)
def acN:Fsp:=⟨236,[shT .val],[shF .bool],true,false,fun x=>Ib x⟩
def jL(a:aC):Option (Bool):=bif (!(a.text==[]))then some (false)else bif (a.step != 0)then some (false)else bif (a.n==0)then (Ib (aC.mk 5 a.n a.step a.text [] a.columns a.rows)).bind fun b=>some (b)else some (false)
def pU(a:aC):Option (Bool):=bif (a.kind==5)&&a.list.isEmpty then jL a else none
def iE:Fsp:=⟨197,[shT .val],[shF .bool],true,false,fun x=>pU x⟩
def uh(a:Str):Option (aC×Bool):=(sO a).bind fun c=>(idx c 0).bind fun _=>(c[0]?).bind fun e=>(nJ e 32).bind fun f=>ak (fun(⟨i,j,k,l,m,n,o,p,q,s,t,u,v,w,x,y⟩:Int×Int×Int×Str×(List aC)×(List Str)×(List bF)×(List Str)×Int×Int×Int×Str×(List aC)×(List Str)×(List bF)×Int)=>bif (decide (y<(p.length:Int)))then (idx p y).bind fun _=>(p[y.toNat]?).bind fun g=>(DV g (w.length:Int)).bind fun d=>bif (!d.2)then some (.inr (aC.mk 0 0 0 [] [] [] [],false))else (gd (x.length+([bF.mk d.1 []]).length)).bind fun _=>some (.inl (i,j,k,l,m,n,o,p,q,s,t,u,v,w,x++([bF.mk d.1 []]),w64 (y+1)))else ((pU (aC.mk q s t u v w x)).bind fun h=>bif (!h)then some (aC.mk 0 0 0 [] [] [] [],false)else some (aC.mk q s t u v w x,true)).bind fun r=>some (.inr r)) (0,0,0,[],[],[],[],c,5,0,0,[],[],f,[],1)
def Xd:Fsp:=⟨155,[shF .str],[shT .val,shF .bool],true,false,fun x=>uh x⟩
def zy(a:Str):Option (Int):=(sO a).bind fun c=>(idx c 0).bind fun _=>(c[0]?).bind fun e=>(nJ e 32).bind fun d=>(ul d).bind fun f=>bif (!f)then some (0)else ak (fun(⟨i,j,k⟩:(List Str)×(List Str)×Int)=>bif (decide (k<(i.length:Int)))then (idx i k).bind fun _=>(i[k.toNat]?).bind fun g=>(DV g (j.length:Int)).bind fun h=>bif (!h.2)then some (.inr (k))else bif (decide (k>12))then some (.inr (k))else some (.inl (i,j,w64 (k+1)))else some (.inr ((-1)))) (c,d,1)
def Xu:Fsp:=⟨156,[shF .str],[shF .int],true,false,fun x=>zy x⟩
def rq(a:Int)(b:aC):Option (aC):=bif (b.kind != 5)then (lm 4).bind fun e=>some (bW e)else (pU (bW b)).bind fun f=>bif (!f)then (lm 4).bind fun g=>some (bW g)else bif (decide (a<0))then (lm 4).bind fun h=>some (bW h)else (zl (bW b)).bind fun d=>ak (fun(⟨j,k,l,m,o,p,q,r,s,t,u,v,w,x,y,z⟩:Int×Int×Int×Int×Str×(List aC)×(List Str)×(List bF)×Int×Int×Int×Str×(List aC)×(List Str)×(List bF)×Int)=>bif (decide (z<(y.length:Int)))then (idx y z).bind fun _=>(y[z.toNat]?).bind fun i=>some (.inl (j,k,l,m,o,p,q,r,s,t,u,v,w,x,y.set z.toNat (bF.mk i.cells [bK.mk j z]),w64 (z+1)))else some (.inr (aC.mk s t u v w x y))) (a,0,0,0,[],[],[],[],d.kind,d.n,d.step,d.text,d.list,d.columns,d.rows,0)
def O7:Fsp:=⟨157,[shF .int,shT .val],[shT .val],true,false,fun x=>rq x.1 x.2⟩
def iI(a:aj):Option (bG):=(kE a).bind fun d=>bif (!d)then some (bG.mk 0 [] (af.mk 0 0 [] []) (aC.mk 0 0 0 [] [] [] []) 0)else bif (a.kind==2)then (ug a.code).bind fun b=>bif (decide (b.2>=0))then (lm 8).bind fun e=>some (bG.mk 4 a.name (af.mk 0 0 [] []) (bW e) b.2)else some (bG.mk 2 a.name (ah b.1) (aC.mk 0 0 0 [] [] [] []) 0)else bif (a.kind==3)then (zk a.n).bind fun f=>some (bG.mk 3 a.name (af.mk 0 0 [] []) (bW f) 0)else bif (a.kind==4)then (uh a.code).bind fun c=>bif (!c.2)then (lm 8).bind fun g=>(zy a.code).bind fun h=>some (bG.mk 4 a.name (af.mk 0 0 [] []) (bW g) h)else (rq a.id (bW c.1)).bind fun i=>some (bG.mk 3 a.name (af.mk 0 0 [] []) (bW i) 0)else some (bG.mk 1 [] (af.mk 0 0 [] []) (aC.mk 0 0 0 [] [] [] []) 0)
def P5:Fsp:=⟨105,[shT .cell],[shT .part],false,false,fun x=>iI x⟩
def lq(a:au):Option ((List bG)):=(jM a).bind fun d=>bif (!d)then some ([])else ak (fun(⟨f,g,h⟩:(List aj)×(List bG)×Int)=>bif (decide (h<(f.length:Int)))then (idx f h).bind fun e=>(iI e).bind fun c=>(gd (g.length+[kQ c].length)).bind fun _=>some (.inl (f,g++[kQ c],w64 (h+1)))else some (.inr (g))) (a.cells,[],0)
def TR:Fsp:=⟨53,[shT .notebook],[slF .part],false,true,fun x=>lq x⟩
def xO(a:List bG)(b:Str):Option ((List Int)):=ak (fun(⟨f,g,h,i⟩:(List bG)×Str×(List Int)×Int)=>bif (decide (i<(f.length:Int)))then (idx f i).bind fun d=>bif (d.kind != 1)then (idx f i).bind fun e=>bif (e.name==g)then (gd (h.length+[i].length)).bind fun _=>some (.inl (f,g,h++[i],w64 (i+1)))else some (.inl (f,g,h,w64 (i+1)))else some (.inl (f,g,h,w64 (i+1)))else some (.inr (h))) (a,b,[],0)
def ZV:Fsp:=⟨107,[slF .part,shF .str],[slF .int],true,false,fun x=>xO x.1 x.2⟩
def Bo(a:List bG)(b:Str):Option (Int):=(xO a b).bind fun c=>bif ((c.length:Int)==0)then some ((-1))else bif ((c.length:Int)==1)then (idx c 0).bind fun _=>(c[0]?).bind fun d=>some (d)else some ((-2))
def acF:Fsp:=⟨55,[slF .part,shF .str],[shF .int],true,false,fun x=>Bo x.1 x.2⟩
def uf(a:List Str):Option ((List Str)):=ak (fun(⟨w,x,y⟩:(List Str)×(List Str)×Int)=>bif (decide (y<(w.length:Int)))then ak (fun(⟨n,z,A,B⟩:(List Str)×(List Str)×Int×Int)=>bif (decide (B<(z.length:Int)))then (idx z B).bind fun _=>(z[B.toNat]?).bind fun s=>(idx n A).bind fun t=>bif (Op.bytesLess s t)then some (.inl (n,z,A,w64 (B+1)))else (bif (decide (B<(z.length:Int)))then (idx z B).bind fun _=>(z[B.toNat]?).bind fun u=>(idx n A).bind fun v=>bif (u==v)then some (.inl (n,z,w64 (A+1)))else (cutAt z B).bind fun o=>(gd (0+(z.drop o).length)).bind fun _=>(cutAt z B).bind fun c=>(idx n A).bind fun d=>(gd ((z.take c).length+([d]:List Str).length)).bind fun _=>(gd (((z.take c)++([d]:List Str)).length+([]++(z.drop o)).length)).bind fun _=>some (.inl (n,((z.take c)++([d]:List Str))++([]++(z.drop o)),w64 (A+1)))else (cutAt z B).bind fun e=>(gd (0+(z.drop e).length)).bind fun _=>(cutAt z B).bind fun f=>(idx n A).bind fun g=>(gd ((z.take f).length+([g]:List Str).length)).bind fun _=>(gd (((z.take f)++([g]:List Str)).length+([]++(z.drop e)).length)).bind fun _=>some (.inl (n,((z.take f)++([g]:List Str))++([]++(z.drop e)),w64 (A+1)))).bind fun r=>some (.inr r)else (bif (decide (B<(z.length:Int)))then (idx z B).bind fun _=>(z[B.toNat]?).bind fun p=>(idx n A).bind fun q=>bif (p==q)then some (.inl (n,z,w64 (A+1)))else (cutAt z B).bind fun h=>(gd (0+(z.drop h).length)).bind fun _=>(cutAt z B).bind fun i=>(idx n A).bind fun j=>(gd ((z.take i).length+([j]:List Str).length)).bind fun _=>(gd (((z.take i)++([j]:List Str)).length+([]++(z.drop h)).length)).bind fun _=>some (.inl (n,((z.take i)++([j]:List Str))++([]++(z.drop h)),w64 (A+1)))else (cutAt z B).bind fun k=>(gd (0+(z.drop k).length)).bind fun _=>(cutAt z B).bind fun l=>(idx n A).bind fun m=>(gd ((z.take l).length+([m]:List Str).length)).bind fun _=>(gd (((z.take l)++([m]:List Str)).length+([]++(z.drop k)).length)).bind fun _=>some (.inl (n,((z.take l)++([m]:List Str))++([]++(z.drop k)),w64 (A+1)))).bind fun r=>some (.inr r)) (w,x,y,0)else some (.inr (x))) (a,[],0)
def W9:Fsp:=⟨159,[slF .str],[slF .str],true,false,fun x=>uf x⟩
def LU(rsL13Free:af->(List Str)->Option ((List Str))):((List Str)×Int×Int×Str×(List af)×(List Str)×Int)->Option (((List Str)×Int×Int×Str×(List af)×(List Str)×Int)⊕((List Str))):=
(fun (x2:(List Str)×Int×Int×Str×(List af)×(List Str)×Int)=>
   bif (decide (x2.2.2.2.2.2.2<(x2.2.2.2.2.1.length:Int)))then
    bif (x2.2.1==7)then
     bif (decide (x2.2.2.2.2.2.2>0))then
      (gd (0+x2.1.length)).bind fun _=>
      (gd (([]++x2.1).length+([x2.2.2.2.1]:List Str).length)).bind fun _=>
      (idx x2.2.2.2.2.1 x2.2.2.2.2.2.2).bind fun e3=>
      (rsL13Free (ah e3) (([]++x2.1)++([x2.2.2.2.1]:List Str))).bind fun r4=>
      (gd (x2.2.2.2.2.2.1.length+r4.length)).bind fun _=>
      some (.inl (x2.1,x2.2.1,x2.2.2.1,x2.2.2.2.1,x2.2.2.2.2.1,x2.2.2.2.2.2.1++r4,w64 (x2.2.2.2.2.2.2+1)))
     else
      (idx x2.2.2.2.2.1 x2.2.2.2.2.2.2).bind fun e5=>
      (rsL13Free (ah e5) x2.1).bind fun r6=>
      (gd (x2.2.2.2.2.2.1.length+r6.length)).bind fun _=>
      some (.inl (x2.1,x2.2.1,x2.2.2.1,x2.2.2.2.1,x2.2.2.2.2.1,x2.2.2.2.2.2.1++r6,w64 (x2.2.2.2.2.2.2+1)))
    else
    bif (x2.2.1==9)then
     bif (decide (x2.2.2.2.2.2.2>0))then
      (gd (0+x2.1.length)).bind fun _=>
      (gd (([]++x2.1).length+([x2.2.2.2.1]:List Str).length)).bind fun _=>
      (idx x2.2.2.2.2.1 x2.2.2.2.2.2.2).bind fun e7=>
      (rsL13Free (ah e7) (([]++x2.1)++([x2.2.2.2.1]:List Str))).bind fun r8=>
      (gd (x2.2.2.2.2.2.1.length+r8.length)).bind fun _=>
      some (.inl (x2.1,x2.2.1,x2.2.2.1,x2.2.2.2.1,x2.2.2.2.2.1,x2.2.2.2.2.2.1++r8,w64 (x2.2.2.2.2.2.2+1)))
     else
      (idx x2.2.2.2.2.1 x2.2.2.2.2.2.2).bind fun e9=>
      (rsL13Free (ah e9) x2.1).bind fun r10=>
      (gd (x2.2.2.2.2.2.1.length+r10.length)).bind fun _=>
      some (.inl (x2.1,x2.2.1,x2.2.2.1,x2.2.2.2.1,x2.2.2.2.2.1,x2.2.2.2.2.2.1++r10,w64 (x2.2.2.2.2.2.2+1)))
    else
     (idx x2.2.2.2.2.1 x2.2.2.2.2.2.2).bind fun e11=>
     (rsL13Free (ah e11) x2.1).bind fun r12=>
     (gd (x2.2.2.2.2.2.1.length+r12.length)).bind fun _=>
     some (.inl (x2.1,x2.2.1,x2.2.2.1,x2.2.2.2.1,x2.2.2.2.2.1,x2.2.2.2.2.2.1++r12,w64 (x2.2.2.2.2.2.2+1)))
   else
    some (.inr (x2.2.2.2.2.2.1))
 )
def JW(rsL13Free:af->(List Str)->Option ((List Str)))(a:af)(b:List Str):Option ((List Str)):=bif (a.kind==3)then (nK b a.text).bind fun c=>bif (!c)then (gd (0+([a.text]:List Str).length)).bind fun _=>some ([]++([a.text]:List Str))else ak (LU rsL13Free) (b,a.kind,a.n,a.text,a.args,[],0)else ak (LU rsL13Free) (b,a.kind,a.n,a.text,a.args,[],0)
def o8:Nat->(af->(List Str)->Option ((List Str)))
 | 0=>fun _ _=>none
 | n+1=>JW (o8 n)
def Pn(a:af)(b:List Str):Option ((List Str)):=(o8 (siz a+siz b+1)) a b
def acV:Fsp:=⟨160,[shT .expr,slF .str],[slF .str],true,false,fun x=>Pn x.1 x.2⟩
def LQ(n:Nat):Fsp:=⟨160,[shT .expr,slF .str],[slF .str],true,false,fun x=>(o8 n) x.1 x.2⟩
def zx(a:af):Option ((List Str)):=(Pn (ah a) []).bind fun b=>(uf b).bind fun c=>some (c)
def Xq:Fsp:=⟨108,[shT .expr],[slF .str],true,false,fun x=>zx x⟩
def qZ(a:bG):Option ((List Str)):=bif (a.kind != 2)then some ([])else (zx (ah a.expr)).bind fun b=>some (b)
def af5:Fsp:=⟨57,[shT .part],[slF .str],true,false,fun x=>qZ x⟩
def E8(rsL13Caught:af->Str->Str->(List Str)->Option (Bool)):(Str×Str×(List Str)×Int×Int×Str×(List af)×Int)->Option ((Str×Str×(List Str)×Int×Int×Str×(List af)×Int)⊕(Bool)):=
(fun (x3:Str×Str×(List Str)×Int×Int×Str×(List af)×Int)=>
   bif (decide (x3.2.2.2.2.2.2.2<(x3.2.2.2.2.2.2.1.length:Int)))then
    bif (x3.2.2.2.1==7)then
     bif (decide (x3.2.2.2.2.2.2.2>0))then
      (gd (0+x3.2.2.1.length)).bind fun _=>
      (gd (([]++x3.2.2.1).length+([x3.2.2.2.2.2.1]:List Str).length)).bind fun _=>
      (idx x3.2.2.2.2.2.2.1 x3.2.2.2.2.2.2.2).bind fun e4=>
      (rsL13Caught (ah e4) x3.1 x3.2.1 (([]++x3.2.2.1)++([x3.2.2.2.2.2.1]:List Str))).bind fun r5=>
      bif r5 then
       some (.inr (true))
      else
       some (.inl (x3.1,x3.2.1,x3.2.2.1,x3.2.2.2.1,x3.2.2.2.2.1,x3.2.2.2.2.2.1,x3.2.2.2.2.2.2.1,w64 (x3.2.2.2.2.2.2.2+1)))
     else
      (idx x3.2.2.2.2.2.2.1 x3.2.2.2.2.2.2.2).bind fun e6=>
      (rsL13Caught (ah e6) x3.1 x3.2.1 x3.2.2.1).bind fun r7=>
      bif r7 then
       some (.inr (true))
      else
       some (.inl (x3.1,x3.2.1,x3.2.2.1,x3.2.2.2.1,x3.2.2.2.2.1,x3.2.2.2.2.2.1,x3.2.2.2.2.2.2.1,w64 (x3.2.2.2.2.2.2.2+1)))
    else
    bif (x3.2.2.2.1==9)then
     bif (decide (x3.2.2.2.2.2.2.2>0))then
      (gd (0+x3.2.2.1.length)).bind fun _=>
      (gd (([]++x3.2.2.1).length+([x3.2.2.2.2.2.1]:List Str).length)).bind fun _=>
      (idx x3.2.2.2.2.2.2.1 x3.2.2.2.2.2.2.2).bind fun e8=>
      (rsL13Caught (ah e8) x3.1 x3.2.1 (([]++x3.2.2.1)++([x3.2.2.2.2.2.1]:List Str))).bind fun r9=>
      bif r9 then
       some (.inr (true))
      else
       some (.inl (x3.1,x3.2.1,x3.2.2.1,x3.2.2.2.1,x3.2.2.2.2.1,x3.2.2.2.2.2.1,x3.2.2.2.2.2.2.1,w64 (x3.2.2.2.2.2.2.2+1)))
     else
      (idx x3.2.2.2.2.2.2.1 x3.2.2.2.2.2.2.2).bind fun e10=>
      (rsL13Caught (ah e10) x3.1 x3.2.1 x3.2.2.1).bind fun r11=>
      bif r11 then
       some (.inr (true))
      else
       some (.inl (x3.1,x3.2.1,x3.2.2.1,x3.2.2.2.1,x3.2.2.2.2.1,x3.2.2.2.2.2.1,x3.2.2.2.2.2.2.1,w64 (x3.2.2.2.2.2.2.2+1)))
    else
     (idx x3.2.2.2.2.2.2.1 x3.2.2.2.2.2.2.2).bind fun e12=>
     (rsL13Caught (ah e12) x3.1 x3.2.1 x3.2.2.1).bind fun r13=>
     bif r13 then
      some (.inr (true))
     else
      some (.inl (x3.1,x3.2.1,x3.2.2.1,x3.2.2.2.1,x3.2.2.2.2.1,x3.2.2.2.2.2.1,x3.2.2.2.2.2.2.1,w64 (x3.2.2.2.2.2.2.2+1)))
   else
    some (.inr (false))
 )
def BI(rsL13Caught:af->Str->Str->(List Str)->Option (Bool))(a:af)(b:Str)(c:Str)(d:List Str):Option (Bool):=bif (a.kind==3)then (nK d a.text).bind fun e=>bif (!e)then bif (a.text==b)then (nK d c).bind fun f=>some (f)else some (false)else ak (E8 rsL13Caught) (b,c,d,a.kind,a.n,a.text,a.args,0)else ak (E8 rsL13Caught) (b,c,d,a.kind,a.n,a.text,a.args,0)
def ku:Nat->(af->Str->Str->(List Str)->Option (Bool))
 | 0=>fun _ _ _ _=>none
 | n+1=>BI (ku n)
def F7(a:af)(b:Str)(c:Str)(d:List Str):Option (Bool):=(ku (siz a+siz d+1)) a b c d
def Xl:Fsp:=⟨158,[shT .expr,shF .str,shF .str,slF .str],[shF .bool],true,false,fun x=>F7 x.1 x.2.1 x.2.2.1 x.2.2.2⟩
def E5(n:Nat):Fsp:=⟨158,[shT .expr,shF .str,shF .str,slF .str],[shF .bool],true,false,fun x=>(ku n) x.1 x.2.1 x.2.2.1 x.2.2.2⟩
def kZ(a:af)(b:Str)(c:Str):Option (Bool):=(F7 (ah a) b c []).bind fun d=>some (d)
def TM:Fsp:=⟨106,[shT .expr,shF .str,shF .str],[shF .bool],true,false,fun x=>kZ x.1 x.2.1 x.2.2⟩
def DR(a:List bG)(b:Str)(c:Str):Option (Int):=(Bo a b).bind fun e=>bif (decide (e<0))then some (2)else ak (fun(⟨m,n,o,p,q⟩:(List bG)×Str×Str×Int×Int)=>bif (decide (q<(m.length:Int)))then (idx m q).bind fun f=>(qZ (kQ f)).bind fun g=>(nK g o).bind fun h=>bif h then some (.inr (3))else (idx m q).bind fun i=>bif (i.kind==2)then (idx m q).bind fun j=>(kZ (ah j.expr) n o).bind fun k=>bif k then some (.inl (m,n,o,4,w64 (q+1)))else some (.inl (m,n,o,p,w64 (q+1)))else some (.inl (m,n,o,p,w64 (q+1)))else ((xO m o).bind fun l=>bif (decide ((l.length:Int)>0))then some (3)else some (p)).bind fun r=>some (.inr r)) (a,b,c,0,0)
def ZH:Fsp:=⟨54,[slF .part,shF .str,shF .str],[shF .int],true,false,fun x=>DR x.1 x.2.1 x.2.2⟩
def J5(rsL10Copy:af->Option (af))(a:af):Option (af):=ak (fun(⟨e,f,g,h,i,j,k,l,m,o,p,q,r⟩:Int×Int×Str×(List af)×Int×Int×Str×(List af)×Int×Int×Str×(List af)×Int)=>bif (decide (r<(h.length:Int)))then (idx h r).bind fun d=>(rsL10Copy (ah d)).bind fun c=>(gd (q.length+[ah c].length)).bind fun _=>some (.inl (e,f,g,h,i,j,k,l,m,o,p,q++[ah c],w64 (r+1)))else some (.inr (af.mk m o p q))) (a.kind,a.n,a.text,a.args,0,0,[],[],a.kind,a.n,a.text,[],0)
def xM:Nat->(af->Option (af))
 | 0=>fun _=>none
 | n+1=>J5 (xM n)
def xN(a:af):Option (af):=(xM (siz a+1)) a
def ac8:Fsp:=⟨164,[shT .expr],[shT .expr],true,false,fun x=>xN x⟩
def L8(n:Nat):Fsp:=⟨164,[shT .expr],[shT .expr],true,false,fun x=>(xM n) x⟩
def wV(rsL13Rename:af->Str->Str->Option (af)):(Str×Str×Int×Int×Str×(List af)×Int×Int×Str×(List af)×Int×Int×Str×(List af)×Int)->Option ((Str×Str×Int×Int×Str×(List af)×Int×Int×Str×(List af)×Int×Int×Str×(List af)×Int)⊕(af)):=
(fun (x1:Str×Str×Int×Int×Str×(List af)×Int×Int×Str×(List af)×Int×Int×Str×(List af)×Int)=>
  bif (decide (x1.2.2.2.2.2.2.2.2.2.2.2.2.2.2<(x1.2.2.2.2.2.1.length:Int)))then
   bif (x1.2.2.1==7)then
    bif (x1.2.2.2.2.2.2.2.2.2.2.2.2.2.2==1)then
     bif (x1.2.2.2.2.1==x1.1)then
      (idx x1.2.2.2.2.2.1 x1.2.2.2.2.2.2.2.2.2.2.2.2.2.2).bind fun e2=>
      (xN (ah e2)).bind fun r3=>
      (gd (x1.2.2.2.2.2.2.2.2.2.2.2.2.2.1.length+[ah r3].length)).bind fun _=>
      some (.inl (x1.1,x1.2.1,x1.2.2.1,x1.2.2.2.1,x1.2.2.2.2.1,x1.2.2.2.2.2.1,x1.2.2.2.2.2.2.1,x1.2.2.2.2.2.2.2.1,x1.2.2.2.2.2.2.2.2.1,x1.2.2.2.2.2.2.2.2.2.1,x1.2.2.2.2.2.2.2.2.2.2.1,x1.2.2.2.2.2.2.2.2.2.2.2.1,x1.2.2.2.2.2.2.2.2.2.2.2.2.1,x1.2.2.2.2.2.2.2.2.2.2.2.2.2.1++[ah r3],w64 (x1.2.2.2.2.2.2.2.2.2.2.2.2.2.2+1)))
     else
      (idx x1.2.2.2.2.2.1 x1.2.2.2.2.2.2.2.2.2.2.2.2.2.2).bind fun e4=>
      (rsL13Rename (ah e4) x1.1 x1.2.1).bind fun r5=>
      (gd (x1.2.2.2.2.2.2.2.2.2.2.2.2.2.1.length+[ah r5].length)).bind fun _=>
      some (.inl (x1.1,x1.2.1,x1.2.2.1,x1.2.2.2.1,x1.2.2.2.2.1,x1.2.2.2.2.2.1,x1.2.2.2.2.2.2.1,x1.2.2.2.2.2.2.2.1,x1.2.2.2.2.2.2.2.2.1,x1.2.2.2.2.2.2.2.2.2.1,x1.2.2.2.2.2.2.2.2.2.2.1,x1.2.2.2.2.2.2.2.2.2.2.2.1,x1.2.2.2.2.2.2.2.2.2.2.2.2.1,x1.2.2.2.2.2.2.2.2.2.2.2.2.2.1++[ah r5],w64 (x1.2.2.2.2.2.2.2.2.2.2.2.2.2.2+1)))
    else
     (idx x1.2.2.2.2.2.1 x1.2.2.2.2.2.2.2.2.2.2.2.2.2.2).bind fun e6=>
     (rsL13Rename (ah e6) x1.1 x1.2.1).bind fun r7=>
     (gd (x1.2.2.2.2.2.2.2.2.2.2.2.2.2.1.length+[ah r7].length)).bind fun _=>
     some (.inl (x1.1,x1.2.1,x1.2.2.1,x1.2.2.2.1,x1.2.2.2.2.1,x1.2.2.2.2.2.1,x1.2.2.2.2.2.2.1,x1.2.2.2.2.2.2.2.1,x1.2.2.2.2.2.2.2.2.1,x1.2.2.2.2.2.2.2.2.2.1,x1.2.2.2.2.2.2.2.2.2.2.1,x1.2.2.2.2.2.2.2.2.2.2.2.1,x1.2.2.2.2.2.2.2.2.2.2.2.2.1,x1.2.2.2.2.2.2.2.2.2.2.2.2.2.1++[ah r7],w64 (x1.2.2.2.2.2.2.2.2.2.2.2.2.2.2+1)))
   else
   bif (x1.2.2.1==9)then
    bif (x1.2.2.2.2.2.2.2.2.2.2.2.2.2.2==1)then
     bif (x1.2.2.2.2.1==x1.1)then
      (idx x1.2.2.2.2.2.1 x1.2.2.2.2.2.2.2.2.2.2.2.2.2.2).bind fun e8=>
      (xN (ah e8)).bind fun r9=>
      (gd (x1.2.2.2.2.2.2.2.2.2.2.2.2.2.1.length+[ah r9].length)).bind fun _=>
      some (.inl (x1.1,x1.2.1,x1.2.2.1,x1.2.2.2.1,x1.2.2.2.2.1,x1.2.2.2.2.2.1,x1.2.2.2.2.2.2.1,x1.2.2.2.2.2.2.2.1,x1.2.2.2.2.2.2.2.2.1,x1.2.2.2.2.2.2.2.2.2.1,x1.2.2.2.2.2.2.2.2.2.2.1,x1.2.2.2.2.2.2.2.2.2.2.2.1,x1.2.2.2.2.2.2.2.2.2.2.2.2.1,x1.2.2.2.2.2.2.2.2.2.2.2.2.2.1++[ah r9],w64 (x1.2.2.2.2.2.2.2.2.2.2.2.2.2.2+1)))
     else
      (idx x1.2.2.2.2.2.1 x1.2.2.2.2.2.2.2.2.2.2.2.2.2.2).bind fun e10=>
      (rsL13Rename (ah e10) x1.1 x1.2.1).bind fun r11=>
      (gd (x1.2.2.2.2.2.2.2.2.2.2.2.2.2.1.length+[ah r11].length)).bind fun _=>
      some (.inl (x1.1,x1.2.1,x1.2.2.1,x1.2.2.2.1,x1.2.2.2.2.1,x1.2.2.2.2.2.1,x1.2.2.2.2.2.2.1,x1.2.2.2.2.2.2.2.1,x1.2.2.2.2.2.2.2.2.1,x1.2.2.2.2.2.2.2.2.2.1,x1.2.2.2.2.2.2.2.2.2.2.1,x1.2.2.2.2.2.2.2.2.2.2.2.1,x1.2.2.2.2.2.2.2.2.2.2.2.2.1,x1.2.2.2.2.2.2.2.2.2.2.2.2.2.1++[ah r11],w64 (x1.2.2.2.2.2.2.2.2.2.2.2.2.2.2+1)))
    else
     (idx x1.2.2.2.2.2.1 x1.2.2.2.2.2.2.2.2.2.2.2.2.2.2).bind fun e12=>
     (rsL13Rename (ah e12) x1.1 x1.2.1).bind fun r13=>
     (gd (x1.2.2.2.2.2.2.2.2.2.2.2.2.2.1.length+[ah r13].length)).bind fun _=>
     some (.inl (x1.1,x1.2.1,x1.2.2.1,x1.2.2.2.1,x1.2.2.2.2.1,x1.2.2.2.2.2.1,x1.2.2.2.2.2.2.1,x1.2.2.2.2.2.2.2.1,x1.2.2.2.2.2.2.2.2.1,x1.2.2.2.2.2.2.2.2.2.1,x1.2.2.2.2.2.2.2.2.2.2.1,x1.2.2.2.2.2.2.2.2.2.2.2.1,x1.2.2.2.2.2.2.2.2.2.2.2.2.1,x1.2.2.2.2.2.2.2.2.2.2.2.2.2.1++[ah r13],w64 (x1.2.2.2.2.2.2.2.2.2.2.2.2.2.2+1)))
   else
    (idx x1.2.2.2.2.2.1 x1.2.2.2.2.2.2.2.2.2.2.2.2.2.2).bind fun e14=>
    (rsL13Rename (ah e14) x1.1 x1.2.1).bind fun r15=>
    (gd (x1.2.2.2.2.2.2.2.2.2.2.2.2.2.1.length+[ah r15].length)).bind fun _=>
    some (.inl (x1.1,x1.2.1,x1.2.2.1,x1.2.2.2.1,x1.2.2.2.2.1,x1.2.2.2.2.2.1,x1.2.2.2.2.2.2.1,x1.2.2.2.2.2.2.2.1,x1.2.2.2.2.2.2.2.2.1,x1.2.2.2.2.2.2.2.2.2.1,x1.2.2.2.2.2.2.2.2.2.2.1,x1.2.2.2.2.2.2.2.2.2.2.2.1,x1.2.2.2.2.2.2.2.2.2.2.2.2.1,x1.2.2.2.2.2.2.2.2.2.2.2.2.2.1++[ah r15],w64 (x1.2.2.2.2.2.2.2.2.2.2.2.2.2.2+1)))
  else
   some (.inr (af.mk x1.2.2.2.2.2.2.2.2.2.2.1 x1.2.2.2.2.2.2.2.2.2.2.2.1 x1.2.2.2.2.2.2.2.2.2.2.2.2.1 x1.2.2.2.2.2.2.2.2.2.2.2.2.2.1))
 )
def vO(rsL13Rename:af->Str->Str->Option (af))(a:af)(b:Str)(c:Str):Option (af):=bif (a.kind==3)then bif (a.text==b)then ak (wV rsL13Rename) (b,c,a.kind,a.n,a.text,a.args,0,0,[],[],a.kind,a.n,c,[],0)else ak (wV rsL13Rename) (b,c,a.kind,a.n,a.text,a.args,0,0,[],[],a.kind,a.n,a.text,[],0)else ak (wV rsL13Rename) (b,c,a.kind,a.n,a.text,a.args,0,0,[],[],a.kind,a.n,a.text,[],0)
def qw:Nat->(af->Str->Str->Option (af))
 | 0=>fun _ _ _=>none
 | n+1=>vO (qw n)
def F6(a:af)(b:Str)(c:Str):Option (af):=(qw (siz a+1)) a b c
def Xk:Fsp:=⟨110,[shT .expr,shF .str,shF .str],[shT .expr],true,false,fun x=>F6 x.1 x.2.1 x.2.2⟩
def EZ(n:Nat):Fsp:=⟨110,[shT .expr,shF .str,shF .str],[shT .expr],true,false,fun x=>(qw n) x.1 x.2.1 x.2.2⟩
def kV(a:af)(b:Str)(c:Str):Option (af×Bool):=(gU (ah a)).bind fun d=>bif (!d)then some (af.mk 0 0 [] [],false)else (bP b).bind fun e=>bif (!e)then some (af.mk 0 0 [] [],false)else (bP c).bind fun f=>bif (!f)then some (af.mk 0 0 [] [],false)else (kZ (ah a) b c).bind fun g=>bif g then some (af.mk 0 0 [] [],false)else (F6 (ah a) b c).bind fun h=>some (ah h,true)
def Tv:Fsp:=⟨58,[shT .expr,shF .str,shF .str],[shT .expr,shF .bool],true,false,fun x=>kV x.1 x.2.1 x.2.2⟩
def ZR(a:List Str)(b:Str):Option (Str):=ak (fun(⟨f,g,h,i⟩:(List Str)×Str×(List Int)×Int)=>bif (decide (i<(f.length:Int)))then bif (decide (i>0))then (gd (h.length+(mF g).length)).bind fun _=>(idx f i).bind fun d=>(gd ((h++(mF g)).length+(mF d).length)).bind fun _=>some (.inl (f,g,(h++(mF g))++(mF d),w64 (i+1)))else (idx f i).bind fun e=>(gd (h.length+(mF e).length)).bind fun _=>some (.inl (f,g,h++(mF e),w64 (i+1)))else some (.inr (bytesOf h))) (a,b,[],0)
def akG:Fsp:=⟨201,[slF .str,shF .str],[shF .str],true,false,fun x=>ZR x.1 x.2⟩
def uj(a:af):Option (Int):=bif (a.kind==7)then some (0)else bif (a.kind==8)then some (0)else bif (a.kind==9)then some (0)else bif (a.kind==6)then bif (a.n==4)then some (1)else bif (a.n==5)then some (1)else bif (a.n==1)then some (2)else bif (a.n==2)then some (2)else bif (a.n==3)then some (3)else some (4)else some (4)
def acL:Fsp:=⟨167,[shT .expr],[shF .int],true,false,fun x=>uj x⟩
def DN(a:Int):Option (Str):=(xI a 1 5).bind fun b=>bif (!b)then some ([63])else (idx ([[],[43],[45],[42],[60],[61,61]]:List Str) a).bind fun _=>(([[],[43],[45],[42],[60],[61,61]]:List Str)[a.toNat]?).bind fun c=>some (c)
def ZA:Fsp:=⟨169,[shF .int],[shF .str],true,false,fun x=>DN x⟩
def JY(rsL12Text:af->Option (Str))(rsL12List:(List af)->Option (Str))(rsL12At:af->Int->Option (Str))(a:af):Option (Str):=bif (a.kind==1)then (fU a.n).bind fun A=>some (A)else bif (a.kind==2)then (gd ([34].length+a.text.length)).bind fun _=>(gd (([34]++a.text).length+[34].length)).bind fun _=>some (([34]++a.text)++[34])else bif (a.kind==3)then some (a.text)else bif (a.kind==4)then (rsL12List a.args).bind fun p=>(gd ([91].length+p.length)).bind fun _=>(gd (([91]++p).length+[93].length)).bind fun _=>some (([91]++p)++[93])else bif (a.kind==5)then (gd (a.text.length+[40].length)).bind fun _=>(rsL12List a.args).bind fun q=>(gd ((a.text++[40]).length+q.length)).bind fun _=>(gd (((a.text++[40])++q).length+[41].length)).bind fun _=>some (((a.text++[40])++q)++[41])else bif (a.kind==7)then (gd ([108,101,116,32].length+a.text.length)).bind fun _=>(gd (([108,101,116,32]++a.text).length+[32,61,32].length)).bind fun _=>(idx a.args 0).bind fun B=>(rsL12Text (ah B)).bind fun m=>(gd ((([108,101,116,32]++a.text)++[32,61,32]).length+m.length)).bind fun _=>(gd (((([108,101,116,32]++a.text)++[32,61,32])++m).length+[32,105,110,32].length)).bind fun _=>(idx a.args 1).bind fun C=>(rsL12Text (ah C)).bind fun z=>(gd ((((([108,101,116,32]++a.text)++[32,61,32])++m)++[32,105,110,32]).length+z.length)).bind fun _=>some ((((([108,101,116,32]++a.text)++[32,61,32])++m)++[32,105,110,32])++z)else bif (a.kind==9)then (gd ([102,111,114,32].length+a.text.length)).bind fun _=>(gd (([102,111,114,32]++a.text).length+[32,105,110,32].length)).bind fun _=>(idx a.args 0).bind fun D=>(rsL12Text (ah D)).bind fun o=>(gd ((([102,111,114,32]++a.text)++[32,105,110,32]).length+o.length)).bind fun _=>(gd (((([102,111,114,32]++a.text)++[32,105,110,32])++o).length+[32,100,111,32].length)).bind fun _=>(idx a.args 1).bind fun r=>(rsL12Text (ah r)).bind fun i=>(gd ((((([102,111,114,32]++a.text)++[32,105,110,32])++o)++[32,100,111,32]).length+i.length)).bind fun _=>some ((((([102,111,114,32]++a.text)++[32,105,110,32])++o)++[32,100,111,32])++i)else bif (a.kind==8)then (idx a.args 0).bind fun s=>(rsL12Text (ah s)).bind fun b=>(gd ([105,102,32].length+b.length)).bind fun _=>(gd (([105,102,32]++b).length+[32,116,104,101,110,32].length)).bind fun _=>(idx a.args 1).bind fun t=>(rsL12Text (ah t)).bind fun e=>(gd ((([105,102,32]++b)++[32,116,104,101,110,32]).length+e.length)).bind fun _=>(gd (((([105,102,32]++b)++[32,116,104,101,110,32])++e).length+[32,101,108,115,101,32].length)).bind fun _=>(idx a.args 2).bind fun u=>(rsL12Text (ah u)).bind fun j=>(gd ((((([105,102,32]++b)++[32,116,104,101,110,32])++e)++[32,101,108,115,101,32]).length+j.length)).bind fun _=>some ((((([105,102,32]++b)++[32,116,104,101,110,32])++e)++[32,101,108,115,101,32])++j)else (uj (ah a)).bind fun f=>bif (f==1)then (idx a.args 0).bind fun v=>(rsL12At (ah v) 2).bind fun c=>(gd (c.length+[32].length)).bind fun _=>(DN a.n).bind fun g=>(gd ((c++[32]).length+g.length)).bind fun _=>(gd (((c++[32])++g).length+[32].length)).bind fun _=>(idx a.args 1).bind fun w=>(rsL12At (ah w) (w64 (f+1))).bind fun k=>(gd ((((c++[32])++g)++[32]).length+k.length)).bind fun _=>some ((((c++[32])++g)++[32])++k)else (idx a.args 0).bind fun x=>(rsL12At (ah x) f).bind fun d=>(gd (d.length+[32].length)).bind fun _=>(DN a.n).bind fun h=>(gd ((d++[32]).length+h.length)).bind fun _=>(gd (((d++[32])++h).length+[32].length)).bind fun _=>(idx a.args 1).bind fun y=>(rsL12At (ah y) (w64 (f+1))).bind fun l=>(gd ((((d++[32])++h)++[32]).length+l.length)).bind fun _=>
 some ((((d++[32])++h)++[32])++l)
def JZ(rsL12Text:af->Option (Str))(rsL12List:(List af)->Option (Str))(rsL12At:af->Int->Option (Str))(a:List af):Option (Str):=ak (fun(⟨f,g,h⟩:(List af)×(List Str)×Int)=>bif (decide (h<(f.length:Int)))then (idx f h).bind fun d=>(rsL12Text (ah d)).bind fun c=>(gd (g.length+([c]:List Str).length)).bind fun _=>some (.inl (f,g++([c]:List Str),w64 (h+1)))else ((ZR g [44,32]).bind fun e=>some (e)).bind fun r=>some (.inr r)) (a,[],0)
def Xn(rsL12Text:af->Option (Str))(rsL12List:(List af)->Option (Str))(rsL12At:af->Int->Option (Str))(a:af)(b:Int):Option (Str):=(rsL12Text (ah a)).bind fun c=>(uj (ah a)).bind fun d=>bif (decide (d<b))then (gd ([40].length+c.length)).bind fun _=>(gd (([40]++c).length+[41].length)).bind fun _=>some (([40]++c)++[41])else some (c)
def cu:Nat->(af->Option (Str))×((List af)->Option (Str))×(af->Int->Option (Str))
 | 0=>(fun _=>none,fun _=>none,fun _ _=>none)
 | n+1=>(JY (cu n).1 (cu n).2.1 (cu n).2.2,JZ (cu n).1 (cu n).2.1 (cu n).2.2,Xn (cu n).1 (cu n).2.1 (cu n).2.2)
def Pq(a:af):Option (Str):=(cu (siz a+1)).1 a
def acW:Fsp:=⟨111,[shT .expr],[shF .str],true,false,fun x=>Pq x⟩
def LV(n:Nat):Fsp:=⟨111,[shT .expr],[shF .str],true,false,fun x=>(cu n).1 x⟩
def aii(a:List af):Option (Str):=(cu (siz a+1)).2.1 a
def acX:Fsp:=⟨166,[slF .expr],[shF .str],true,false,fun x=>aii x⟩
def LW(n:Nat):Fsp:=⟨166,[slF .expr],[shF .str],true,false,fun x=>(cu n).2.1 x⟩
def aoy(a:af)(b:Int):Option (Str):=(cu (siz a+1)).2.2 a b
def aij:Fsp:=⟨168,[shT .expr,shF .int],[shF .str],true,false,fun x=>aoy x.1 x.2⟩
def Vu(n:Nat):Fsp:=⟨168,[shT .expr,shF .int],[shF .str],true,false,fun x=>(cu n).2.2 x.1 x.2⟩
def lg(a:af):Option (Str):=(gU (ah a)).bind fun b=>bif (!b)then some ([])else (Pq (ah a)).bind fun c=>some (c)
def TN:Fsp:=⟨59,[shT .expr],[shF .str],true,false,fun x=>lg x⟩
def kJ(a:au)(b:Str)(c:Str):Option (au×Int):=(jK a).bind fun i=>(jM a).bind fun A=>bif (!A)then some (i,1)else (bP b).bind fun B=>bif (!B)then some (i,1)else (bP c).bind fun C=>bif (!C)then some (i,1)else bif (b==c)then some (i,1)else (lq a).bind fun k=>(DR k b c).bind fun l=>bif (l != 0)then some (i,l)else (Bo k b).bind fun m=>(idx i.cells m).bind fun _=>(i.cells[m.toNat]?).bind fun j=>ak (fun(⟨D,E,F,G,H,I,J,K⟩:Str×Str×(List aj)×(List aj)×(List aj)×(List bG)×Int×Int)=>bif (decide (K<(I.length:Int)))then (idx I K).bind fun _=>(I[K.toNat]?).bind fun o=>(qZ (kQ o)).bind fun p=>(nK p D).bind fun q=>bif (!q)then some (.inl (D,E,F,G,H,I,J,w64 (K+1)))else (idx I K).bind fun _=>(I[K.toNat]?).bind fun s=>(kV (ah s.expr) D E).bind fun t=>(lg (ah t.1)).bind fun f=>(idx H K).bind fun _=>(H[K.toNat]?).bind fun e=>(idx (H.set K.toNat (aj.mk e.id e.version e.kind e.name f e.n)) K).bind fun _=>((H.set K.toNat (aj.mk e.id e.version e.kind e.name f e.n))[K.toNat]?).bind fun u=>bif (decide ((u.code.length:Int)>120))then (jK (au.mk F)).bind fun v=>some (.inr (v,5))else (idx (H.set K.toNat (aj.mk e.id e.version e.kind e.name f e.n)) K).bind fun _=>((H.set K.toNat (aj.mk e.id e.version e.kind e.name f e.n))[K.toNat]?).bind fun w=>bif (w.version==999)then (idx (H.set K.toNat (aj.mk e.id e.version e.kind e.name f e.n)) K).bind fun _=>((H.set K.toNat (aj.mk e.id e.version e.kind e.name f e.n))[K.toNat]?).bind fun x=>(idx (H.set K.toNat (aj.mk e.id e.version e.kind e.name f e.n)) K).bind fun _=>((H.set K.toNat (aj.mk e.id e.version e.kind e.name f e.n))[K.toNat]?).bind fun g=>some (.inl (D,E,F,G,(H.set K.toNat (aj.mk e.id e.version e.kind e.name f e.n)).set K.toNat (aj.mk g.id (w64 (x.version+1)) g.kind g.name g.code g.n),I,6,w64 (K+1)))else (idx (H.set K.toNat (aj.mk e.id e.version e.kind e.name f e.n)) K).bind fun _=>((H.set K.toNat (aj.mk e.id e.version e.kind e.name f e.n))[K.toNat]?).bind fun y=>(idx (H.set K.toNat (aj.mk e.id e.version e.kind e.name f e.n)) K).bind fun _=>((H.set K.toNat (aj.mk e.id e.version e.kind e.name f e.n))[K.toNat]?).bind fun h=>some (.inl (D,E,F,G,(H.set K.toNat (aj.mk e.id e.version e.kind e.name f e.n)).set K.toNat (aj.mk h.id (w64 (y.version+1)) h.kind h.name h.code h.n),I,J,w64 (K+1)))else (bif (J != 0)then (jK (au.mk F)).bind fun z=>some (z,J)else some (au.mk H,0)).bind fun r=>some (.inr r)) (b,c,a.cells,[],i.cells.set m.toNat (aj.mk j.id j.version j.kind c j.code j.n),k,l,0)
def H9:Fsp:=⟨16,[shT .notebook,shF .str,shF .str],[shT .notebook,shF .int],true,false,fun x=>kJ x.1 x.2.1 x.2.2⟩
def jO(a:au)(b:au):Option ((List Int)):=ak (fun(⟨i,j,k,l⟩:(List aj)×(List aj)×(List Int)×Int)=>bif (decide (l<(i.length:Int)))then (idx i l).bind fun f=>(lu (au.mk j) f.id).bind fun d=>bif (decide (d>=0))then (idx j d).bind fun g=>(idx i l).bind fun h=>bif (g.version != h.version)then (idx i l).bind fun e=>(gd (k.length+[e.id].length)).bind fun _=>some (.inl (i,j,k++[e.id],w64 (l+1)))else some (.inl (i,j,k,w64 (l+1)))else some (.inl (i,j,k,w64 (l+1)))else some (.inr (k))) (a.cells,b.cells,[],0)
def F9:Fsp:=⟨18,[shT .notebook,shT .notebook],[slF .int],true,false,fun x=>jO x.1 x.2⟩
def kX(a:au)(b:Int):Option (Int):=(lu a b).bind fun c=>(idx a.cells c).bind fun d=>some (d.version)
def TD:Fsp:=⟨20,[shT .notebook,shF .int],[shF .int],true,false,fun x=>kX x.1 x.2⟩
def Xi(a:List aB)(b:Int)(c:Int):Option (Int):=ak (fun(⟨g,h,i,j⟩:(List aB)×Int×Int×Int)=>bif (decide (j<(g.length:Int)))then (idx g j).bind fun e=>bif (e.cell==h)then (idx g j).bind fun f=>bif (f.version==i)then some (.inr (j))else some (.inl (g,h,i,w64 (j+1)))else some (.inl (g,h,i,w64 (j+1)))else some (.inr ((-1)))) (a,b,c,0)
def aid:Fsp:=⟨112,[slF .tape,shF .int,shF .int],[shF .int],true,false,fun x=>Xi x.1 x.2.1 x.2.2⟩
def N9(a:List aB)(b:Int)(c:Int):Option ((List aN)):=(Xi a b c).bind fun d=>bif (decide (d<0))then some ([])else (idx a d).bind fun e=>(sQ e.reads).bind fun f=>some (f)
def af6:Fsp:=⟨60,[slF .tape,shF .int,shF .int],[slF .read],true,false,fun x=>N9 x.1 x.2.1 x.2.2⟩
def BG(a:aN)(b:aN):Option (Bool):=bif (a.kind==b.kind)then bif (a.n==b.n)then bif (a.text==b.text)then some ((a.time==b.time))else some (false)else some (false)else some (false)
def acS:Fsp:=⟨202,[shT .read,shT .read],[shF .bool],true,false,fun x=>BG x.1 x.2⟩
def DX(a:List aN)(b:aN):Option (aC×Bool):=ak (fun(⟨h,i,j,k,l,m,o,p,q,r,s,t,u,v,w,x,y,z,A,B⟩:(List aN)×Int×Int×Int×Str×Int×Int×Int×Str×(List aC)×(List Str)×(List bF)×Int×Int×Int×Str×(List aC)×(List Str)×(List bF)×Int)=>bif (decide (B<(h.length:Int)))then (idx h B).bind fun d=>(BG (iU d) (aN.mk i j k l (aC.mk m o p q r s t))).bind fun e=>bif e then (idx h B).bind fun f=>(zl (bW f.result)).bind fun g=>some (.inr (bW g,true))else some (.inl (h,i,j,k,l,m,o,p,q,r,s,t,u,v,w,x,y,z,A,w64 (B+1)))else some (.inr (aC.mk 0 0 0 [] [] [] [],false))) (a,b.kind,b.n,b.time,b.text,b.result.kind,b.result.n,b.result.step,b.result.text,b.result.list,b.result.columns,b.result.rows,0,0,0,[],[],[],[],0)
def ZU:Fsp:=⟨170,[slF .read,shT .read],[shT .val,shF .bool],true,false,fun x=>DX x.1 x.2⟩
def qp(a:List aN)(b:List aN):Option ((List aN)):=(sQ a).bind fun e=>ak (fun(⟨i,j,k⟩:(List aN)×(List aN)×Int)=>bif (decide (k<(i.length:Int)))then (idx i k).bind fun f=>(DX j (iU f)).bind fun g=>bif (!g.2)then (idx i k).bind fun h=>(BH (iU h)).bind fun d=>(gd (j.length+[iU d].length)).bind fun _=>some (.inl (i,j++[iU d],w64 (k+1)))else some (.inl (i,j,w64 (k+1)))else some (.inr (j))) (b,e,0)
def Tz:Fsp:=⟨113,[slF .read,slF .read],[slF .read],true,false,fun x=>qp x.1 x.2⟩
def zn(a:aB)(b:aB):Option (Bool):=bif (decide (a.cell<b.cell))then some (true)else bif (a.cell==b.cell)then some ((decide (a.version<b.version)))else some (false)
def Xh:Fsp:=⟨114,[shT .tape,shT .tape],[shF .bool],true,false,fun x=>zn x.1 x.2⟩
def Bq(a:List aB)(b:Int)(c:Int)(d:List aN):Option ((List aB)):=(BF a).bind fun h=>(Xi a b c).bind fun i=>bif (decide (i>=0))then (idx h i).bind fun _=>(h[i.toNat]?).bind fun m=>(qp m.reads d).bind fun n=>(idx h i).bind fun _=>(h[i.toNat]?).bind fun l=>some (h.set i.toNat (aB.mk l.cell l.version n))else bif ((d.length:Int)==0)then some (h)else (qp [] d).bind fun o=>ak (fun(⟨p,q,s,t,u⟩:(List aB)×Int×Int×(List aN)×Int)=>bif (decide (u<(p.length:Int)))then (idx p u).bind fun _=>(p[u.toNat]?).bind fun j=>(zn (aB.mk q s t) j).bind fun k=>bif (!k)then some (.inl (p,q,s,t,w64 (u+1)))else ((cutAt p u).bind fun f=>((if u=(f:Int)then some ()else none)).bind fun _=>(gd (0+(p.take f).length)).bind fun _=>(gd (([]++(p.take f)).length+[aB.mk q s t].length)).bind fun _=>((if u=(f:Int)then some ()else none)).bind fun _=>(gd ((([]++(p.take f))++[aB.mk q s t]).length+(p.drop f).length)).bind fun _=>some ((([]++(p.take f))++[aB.mk q s t])++(p.drop f))).bind fun r=>some (.inr r)else ((cutAt p u).bind fun g=>((if u=(g:Int)then some ()else none)).bind fun _=>(gd (0+(p.take g).length)).bind fun _=>(gd (([]++(p.take g)).length+[aB.mk q s t].length)).bind fun _=>((if u=(g:Int)then some ()else none)).bind fun _=>(gd ((([]++(p.take g))++[aB.mk q s t]).length+(p.drop g).length)).bind fun _=>some ((([]++(p.take g))++[aB.mk q s t])++(p.drop g))).bind fun r=>some (.inr r)) (h,b,c,o,0)
def acH:Fsp:=⟨61,[slF .tape,shF .int,shF .int,slF .read],[slF .tape],true,false,fun x=>Bq x.1 x.2.1 x.2.2.1 x.2.2.2⟩
def BB(a:List aB)(b:Int)(c:Int):Option ((List aB)):=ak (fun(⟨i,j,k,l,m⟩:(List aB)×Int×Int×(List aB)×Int)=>bif (decide (m<(i.length:Int)))then (idx i m).bind fun g=>bif (g.cell != j)then (idx i m).bind fun e=>(gd (l.length+[e].length)).bind fun _=>some (.inl (i,j,k,l++[e],w64 (m+1)))else (idx i m).bind fun h=>bif (h.version != k)then (idx i m).bind fun f=>(gd (l.length+[f].length)).bind fun _=>some (.inl (i,j,k,l++[f],w64 (m+1)))else some (.inl (i,j,k,l,w64 (m+1)))else some (.inr (l))) (a,b,c,[],0)
def TB:Fsp:=⟨62,[slF .tape,shF .int,shF .int],[slF .tape],false,true,fun x=>BB x.1 x.2.1 x.2.2⟩
def ru(a:List aB)(b:au)(c:au):Option ((List aB)):=(BF a).bind fun l=>(jO b c).bind fun m=>ak (fun(⟨q,r,s,t,u⟩:(List aj)×(List aj)×(List aB)×(List Int)×Int)=>bif (decide (u<(t.length:Int)))then (idx t u).bind fun _=>(t[u.toNat]?).bind fun n=>(kX (au.mk q) n).bind fun o=>(idx t u).bind fun _=>(t[u.toNat]?).bind fun p=>(kX (au.mk r) p).bind fun k=>(idx t u).bind fun _=>(t[u.toNat]?).bind fun e=>(N9 s e o).bind fun f=>(idx t u).bind fun _=>(t[u.toNat]?).bind fun g=>(BB s g k).bind fun h=>(idx t u).bind fun _=>(t[u.toNat]?).bind fun i=>(Bq h i k f).bind fun j=>some (.inl (q,r,j,t,w64 (u+1)))else some (.inr (s))) (b.cells,c.cells,l,m,0)
def O8:Fsp:=⟨17,[slF .tape,shT .notebook,shT .notebook],[slF .tape],true,false,fun x=>ru x.1 x.2.1 x.2.2⟩
def vS(a:bM)(b:Int):Option (Int):=ak (fun(⟨e,f,g,h,i,j,k,l,m,n,o⟩:Int×(List aj)×Int×Int×(List dh)×(List aB)×(List aO)×Int×Int×Int×Int)=>bif (decide (o<(k.length:Int)))then (idx k o).bind fun d=>bif (d.cell==e)then some (.inr (o))else some (.inl (e,f,g,h,i,j,k,l,m,n,w64 (o+1)))else some (.inr ((-1)))) (b,a.notebook.cells,a.world.clock,a.world.seed,a.world.files,a.tapes,a.entries,a.next,a.limit,a.work,0)
def TQ:Fsp:=⟨19,[shT .engine,shF .int],[shF .int],true,false,fun x=>vS x.1 x.2⟩
def mY(a:bM)(b:Str)(c:Str):Option (bM×Int):=(Ie a).bind fun f=>(kJ a.notebook b c).bind fun g=>bif (g.2 != 0)then some (f,g.2)else (ru a.tapes a.notebook g.1).bind fun n=>(jO a.notebook g.1).bind fun o=>ak (fun(⟨q,r,s,t,u,v,w,x,y,z,A,B,C,D,E,F,G,H,I,J,K,L,M,N,O,P,Q,R,S,T⟩:(List aj)×Int×Int×(List dh)×(List aB)×(List aO)×Int×Int×Int×(List aj)×Int×Int×(List dh)×(List aB)×(List aO)×Int×Int×Int×(List aj)×Int×Int×(List dh)×(List aB)×(List aO)×Int×Int×Int×(List aj)×(List Int)×Int)=>bif (decide (T<(S.length:Int)))then (idx S T).bind fun _=>(S[T.toNat]?).bind fun p=>(vS (bM.mk (au.mk I) (dJ.mk J K L) M N O P Q) p).bind fun h=>bif (decide (h>=0))then (idx N h).bind fun _=>(N[h.toNat]?).bind fun i=>(idx S T).bind fun _=>(S[T.toNat]?).bind fun j=>(kX (au.mk q) j).bind fun k=>bif (i.version==k)then (idx S T).bind fun _=>(S[T.toNat]?).bind fun l=>(kX (au.mk R) l).bind fun m=>(idx N h).bind fun _=>(N[h.toNat]?).bind fun e=>some (.inl (q,r,s,t,u,v,w,x,y,z,A,B,C,D,E,F,G,H,I,J,K,L,M,N.set h.toNat (aO.mk e.cell m e.stamp e.inputs (bW e.value) e.has),O,P,Q,R,S,w64 (T+1)))else some (.inl (q,r,s,t,u,v,w,x,y,z,A,B,C,D,E,F,G,H,I,J,K,L,M,N,O,P,Q,R,S,w64 (T+1)))
   else
    some (.inl (q,r,s,t,u,v,w,x,y,z,A,B,C,D,E,F,G,H,I,J,K,L,M,N,O,P,Q,R,S,w64 (T+1)))
  else
   some (.inr (bM.mk (au.mk I) (dJ.mk J K L) M N O P Q,0))
 ) (a.notebook.cells,a.world.clock,a.world.seed,a.world.files,a.tapes,a.entries,a.next,a.limit,a.work,[],0,0,[],[],[],0,0,0,g.1.cells,f.world.clock,f.world.seed,f.world.files,n,f.entries,f.next,f.limit,f.work,g.1.cells,o,0)
def Ia:Fsp:=⟨5,[shT .engine,shF .str,shF .str],[shT .engine,shF .int],false,false,fun x=>mY x.1 x.2.1 x.2.2⟩
def toCell(a:aj):Option (aj):=some (a)
def ahO:Fsp:=⟨115,[shT .cell],[shT .cell],true,false,fun x=>toCell x⟩
def WL(a:List aj):Option ((List aj)):=(mk (a.length:Int)).bind fun c=>ak (fun(⟨g,h,i⟩:(List aj)×(List aj)×Int)=>bif (decide (i<(g.length:Int)))then (idx g i).bind fun d=>(toCell d).bind fun e=>(idx h i).bind fun _=>(h[i.toNat]?).bind fun f=>some (.inl (g,h.set i.toNat e,w64 (i+1)))else some (.inr (h))) (a,List.replicate c (aj.mk 0 0 0 [] [] 0),0)
def afK:Fsp:=⟨64,[slF .cell],[slF .cell],true,false,fun x=>WL x⟩
def yZ(a:au):Option (au):=(WL a.cells).bind fun b=>some (au.mk b)
def WG:Fsp:=⟨21,[shT .notebook],[shT .notebook],true,false,fun x=>yZ x⟩
def ach(a:dh):Option (dh):=some (a)
def ahN:Fsp:=⟨116,[shT .file],[shT .file],true,false,fun x=>ach x⟩
def WJ(a:List dh):Option ((List dh)):=(mk (a.length:Int)).bind fun c=>ak (fun(⟨g,h,i⟩:(List dh)×(List dh)×Int)=>bif (decide (i<(g.length:Int)))then (idx g i).bind fun d=>(ach d).bind fun e=>(idx h i).bind fun _=>(h[i.toNat]?).bind fun f=>some (.inl (g,h.set i.toNat e,w64 (i+1)))else some (.inr (h))) (a,List.replicate c (dh.mk [] 0),0)
def afH:Fsp:=⟨65,[slF .file],[slF .file],true,false,fun x=>WJ x⟩
def NR(a:dJ):Option (dJ):=(WJ a.files).bind fun b=>some (dJ.mk a.clock a.seed b)
def afz:Fsp:=⟨22,[shT .world],[shT .world],true,false,fun x=>NR x⟩
def JE(a:List Str):Option ((List Str)):=(mk (a.length:Int)).bind fun c=>ak (fun(⟨f,g,h⟩:(List Str)×(List Str)×Int)=>bif (decide (h<(f.length:Int)))then (idx f h).bind fun d=>(idx g h).bind fun _=>(g[h.toNat]?).bind fun e=>some (.inl (f,g.set h.toNat d,w64 (h+1)))else some (.inr (g))) (a,List.replicate c [],0)
def Zf:Fsp:=⟨173,[slF .str],[slF .str],true,false,fun x=>JE x⟩
def WI(a:List Int):Option ((List Int)):=(mk (a.length:Int)).bind fun c=>ak (fun(⟨f,g,h⟩:(List Int)×(List Int)×Int)=>bif (decide (h<(f.length:Int)))then (idx f h).bind fun d=>(idx g h).bind fun _=>(g[h.toNat]?).bind fun e=>some (.inl (f,g.set h.toNat d,w64 (h+1)))else some (.inr (g))) (a,List.replicate c 0,0)
def ahM:Fsp:=⟨118,[slF .int],[slF .int],true,false,fun x=>WI x⟩
def OM(a:bK):Option (bK):=some (a)
def acf:Fsp:=⟨263,[shT .origin],[shT .origin],true,false,fun x=>OM x⟩
def JF(a:List bK):Option ((List bK)):=(mk (a.length:Int)).bind fun c=>ak (fun(⟨g,h,i⟩:(List bK)×(List bK)×Int)=>bif (decide (i<(g.length:Int)))then (idx g i).bind fun d=>(OM d).bind fun e=>(idx h i).bind fun _=>(h[i.toNat]?).bind fun f=>some (.inl (g,h.set i.toNat e,w64 (i+1)))else some (.inr (h))) (a,List.replicate c (bK.mk 0 0),0)
def Zi:Fsp:=⟨239,[slF .origin],[slF .origin],true,false,fun x=>JF x⟩
def aey(a:bF):Option (bF):=(WI a.cells).bind fun b=>(JF a.orig).bind fun c=>some (bF.mk b c)
def akr:Fsp:=⟨203,[shT .row],[shT .row],true,false,fun x=>aey x⟩
def acd(a:List bF):Option ((List bF)):=(mk (a.length:Int)).bind fun c=>ak (fun(⟨g,h,i⟩:(List bF)×(List bF)×Int)=>bif (decide (i<(g.length:Int)))then (idx g i).bind fun d=>(aey d).bind fun e=>(idx h i).bind fun _=>(h[i.toNat]?).bind fun f=>some (.inl (g,h.set i.toNat e,w64 (i+1)))else some (.inr (h))) (a,List.replicate c (bF.mk [] []),0)
def ahK:Fsp:=⟨174,[slF .row],[slF .row],true,false,fun x=>acd x⟩
def OI(rtoValue:aC->Option (aC))(rtoValueS:(List aC)->Option ((List aC)))(a:aC):Option (aC):=(rtoValueS a.list).bind fun b=>(JE a.columns).bind fun c=>(acd a.rows).bind fun d=>some (aC.mk a.kind a.n a.step a.text b c d)
def JD(rtoValue:aC->Option (aC))(rtoValueS:(List aC)->Option ((List aC)))(a:List aC):Option ((List aC)):=(mk (a.length:Int)).bind fun c=>ak (fun(⟨g,h,i⟩:(List aC)×(List aC)×Int)=>bif (decide (i<(g.length:Int)))then (idx g i).bind fun d=>(rtoValue (bW d)).bind fun e=>(idx h i).bind fun _=>(h[i.toNat]?).bind fun f=>some (.inl (g,h.set i.toNat (bW e),w64 (i+1)))else some (.inr (h))) (a,List.replicate c (aC.mk 0 0 0 [] [] [] []),0)
def iT:Nat->(aC->Option (aC))×((List aC)->Option ((List aC)))
 | 0=>(fun _=>none,fun _=>none)
 | n+1=>(OI (iT n).1 (iT n).2,JD (iT n).1 (iT n).2)
def NS(a:aC):Option (aC):=(iT (siz a+1)).1 a
def afA:Fsp:=⟨119,[shT .val],[shT .val],true,false,fun x=>NS x⟩
def OH(n:Nat):Fsp:=⟨119,[shT .val],[shT .val],true,false,fun x=>(iT n).1 x⟩
def ahH(a:List aC):Option ((List aC)):=(iT (siz a+1)).2 a
def ab8:Fsp:=⟨172,[slF .val],[slF .val],true,false,fun x=>ahH x⟩
def LD(n:Nat):Fsp:=⟨172,[slF .val],[slF .val],true,false,fun x=>(iT n).2 x⟩
def OL(a:aN):Option (aN):=(NS (bW a.result)).bind fun b=>some (aN.mk a.kind a.n a.time a.text (bW b))
def ahL:Fsp:=⟨171,[shT .read],[shT .read],true,false,fun x=>OL x⟩
def NT(a:List aN):Option ((List aN)):=(mk (a.length:Int)).bind fun c=>ak (fun(⟨g,h,i⟩:(List aN)×(List aN)×Int)=>bif (decide (i<(g.length:Int)))then (idx g i).bind fun d=>(OL (iU d)).bind fun e=>(idx h i).bind fun _=>(h[i.toNat]?).bind fun f=>some (.inl (g,h.set i.toNat (iU e),w64 (i+1)))else some (.inr (h))) (a,List.replicate c (aN.mk 0 0 0 [] (aC.mk 0 0 0 [] [] [] [])),0)
def afF:Fsp:=⟨117,[slF .read],[slF .read],true,false,fun x=>NT x⟩
def WB(a:aB):Option (aB):=(NT a.reads).bind fun b=>some (aB.mk a.cell a.version b)
def ahI:Fsp:=⟨66,[shT .tape],[shT .tape],true,false,fun x=>WB x⟩
def WA(a:List aB):Option ((List aB)):=(mk (a.length:Int)).bind fun c=>ak (fun(⟨g,h,i⟩:(List aB)×(List aB)×Int)=>bif (decide (i<(g.length:Int)))then (idx g i).bind fun d=>(WB d).bind fun e=>(idx h i).bind fun _=>(h[i.toNat]?).bind fun f=>some (.inl (g,h.set i.toNat e,w64 (i+1)))else some (.inr (h))) (a,List.replicate c (aB.mk 0 0 []),0)
def afC:Fsp:=⟨23,[slF .tape],[slF .tape],true,false,fun x=>WA x⟩
def toEntry(a:aO):Option (aO):=(WI a.inputs).bind fun b=>(NS (bW a.value)).bind fun c=>some (aO.mk a.cell a.version a.stamp b (bW c) a.has)
def afI:Fsp:=⟨67,[shT .entry],[shT .entry],true,false,fun x=>toEntry x⟩
def Ho(a:List aO):Option ((List aO)):=(mk (a.length:Int)).bind fun c=>ak (fun(⟨g,h,i⟩:(List aO)×(List aO)×Int)=>bif (decide (i<(g.length:Int)))then (idx g i).bind fun d=>(toEntry (kF d)).bind fun e=>(idx h i).bind fun _=>(h[i.toNat]?).bind fun f=>some (.inl (g,h.set i.toNat (kF e),w64 (i+1)))else some (.inr (h))) (a,List.replicate c (aO.mk 0 0 0 [] (aC.mk 0 0 0 [] [] [] []) false),0)
def acj:Fsp:=⟨24,[slF .entry],[slF .entry],true,false,fun x=>Ho x⟩
def tX(a:bM):Option (bM):=(yZ a.notebook).bind fun b=>(NR a.world).bind fun c=>(WA a.tapes).bind fun d=>(Ho a.entries).bind fun e=>some (bM.mk b c d e a.next a.limit a.work)
def ack:Fsp:=⟨6,[shT .engine],[shT .engine],true,false,fun x=>tX x⟩
def iQ(a:au):Option (au):=(gd (0+a.cells.length)).bind fun _=>some (au.mk ([]++a.cells))
def ND:Fsp:=⟨68,[shT .notebook],[shT .notebook],true,false,fun x=>iQ x⟩
def Ai(a:dJ):Option (dJ):=(gd (0+a.files.length)).bind fun _=>some (dJ.mk a.clock a.seed ([]++a.files))
def Yv:Fsp:=⟨69,[shT .world],[shT .world],true,false,fun x=>Ai x⟩
def yH(a:bF):Option (bF):=(gd (0+a.cells.length)).bind fun _=>(gd (0+a.orig.length)).bind fun _=>some (bF.mk ([]++a.cells) ([]++a.orig))
def adT:Fsp:=⟨122,[shT .row],[shT .row],true,false,fun x=>yH x⟩
def qG(riCopyValue:aC->Option (aC))(riCopyValues:(List aC)->Option ((List aC)))(a:aC):Option (aC):=(riCopyValues a.list).bind fun d=>(gd (0+a.columns.length)).bind fun _=>ak (fun(⟨f,g,h,i,j,k,l,m,o,p,q,r,s,t,u,v,w⟩:Int×Int×Int×Str×(List aC)×(List Str)×(List bF)×Int×Int×Int×Str×(List aC)×(List Str)×(List bF)×(List bF)×Int×Int)=>bif (decide (w<v))then (idx u w).bind fun e=>(yH e).bind fun c=>(gd (t.length+[c].length)).bind fun _=>some (.inl (f,g,h,i,j,k,l,m,o,p,q,r,s,t++[c],u,v,w64 (w+1)))else some (.inr (aC.mk m o p q r s t))) (0,0,0,[],[],[],[],a.kind,a.n,a.step,a.text,d,[]++a.columns,[],a.rows,(a.rows.length:Int),0)
def oL(riCopyValue:aC->Option (aC))(riCopyValues:(List aC)->Option ((List aC)))(a:List aC):Option ((List aC)):=ak (fun(⟨e,f,g,h⟩:(List aC)×(List aC)×Int×Int)=>bif (decide (h<g))then (idx f h).bind fun d=>(riCopyValue (bW d)).bind fun c=>(gd (e.length+[bW c].length)).bind fun _=>some (.inl (e++[bW c],f,g,w64 (h+1)))else some (.inr (e))) ([],a,(a.length:Int),0)
def dB:Nat->(aC->Option (aC))×((List aC)->Option ((List aC)))
 | 0=>(fun _=>none,fun _=>none)
 | n+1=>(qG (dB n).1 (dB n).2,oL (dB n).1 (dB n).2)
def lN(a:aC):Option (aC):=(dB (siz a+1)).1 a
def Yw:Fsp:=⟨71,[shT .val],[shT .val],true,false,fun x=>lN x⟩
def FH(n:Nat):Fsp:=⟨71,[shT .val],[shT .val],true,false,fun x=>(dB n).1 x⟩
def aa2(a:List aC):Option ((List aC)):=(dB (siz a+1)).2 a
def UJ:Fsp:=⟨121,[slF .val],[slF .val],true,false,fun x=>aa2 x⟩
def C9(n:Nat):Fsp:=⟨121,[slF .val],[slF .val],true,false,fun x=>(dB n).2 x⟩
def nS(a:List aN):Option ((List aN)):=ak (fun(⟨e,f,g,h⟩:(List aN)×(List aN)×Int×Int)=>bif (decide (h<g))then (idx f h).bind fun c=>(lN (bW c.result)).bind fun d=>(gd (e.length+[aN.mk c.kind c.n c.time c.text (bW d)].length)).bind fun _=>some (.inl (e++[aN.mk c.kind c.n c.time c.text (bW d)],f,g,w64 (h+1)))else some (.inr (e))) ([],a,(a.length:Int),0)
def Yy:Fsp:=⟨120,[slF .read],[slF .read],true,false,fun x=>nS x⟩
def uN(a:List aB):Option ((List aB)):=ak (fun(⟨e,f,g,h⟩:(List aB)×(List aB)×Int×Int)=>bif (decide (h<g))then (idx f h).bind fun c=>(nS c.reads).bind fun d=>(gd (e.length+[aB.mk c.cell c.version d].length)).bind fun _=>some (.inl (e++[aB.mk c.cell c.version d],f,g,w64 (h+1)))else some (.inr (e))) ([],a,(a.length:Int),0)
def Yx:Fsp:=⟨70,[slF .tape],[slF .tape],true,false,fun x=>uN x⟩
def wE(a:bM):Option (bM):=(iQ a.notebook).bind fun f=>(Ai a.world).bind fun d=>(uN a.tapes).bind fun g=>ak (fun(⟨h,i,j,k,l,m,n,o,p,q,r,s,t,u,v,w,x,y,z,A,B⟩:(List aj)×Int×Int×(List dh)×(List aB)×(List aO)×Int×Int×Int×(List aj)×Int×Int×(List dh)×(List aB)×(List aO)×Int×Int×Int×(List aO)×Int×Int)=>bif (decide (B<A))then (idx z B).bind fun c=>(gd (0+c.inputs.length)).bind fun _=>(lN (bW c.value)).bind fun e=>(gd (v.length+([aO.mk c.cell c.version c.stamp ([]++c.inputs) (bW e) c.has]).length)).bind fun _=>some (.inl (h,i,j,k,l,m,n,o,p,q,r,s,t,u,v++([aO.mk c.cell c.version c.stamp ([]++c.inputs) (bW e) c.has]),w,x,y,z,A,w64 (B+1)))else some (.inr (bM.mk (au.mk q) (dJ.mk r s t) u v w x y))) ([],0,0,[],[],[],0,0,0,f.cells,d.clock,d.seed,d.files,g,[],a.next,a.limit,a.work,a.entries,(a.entries.length:Int),0)
def UK:Fsp:=⟨25,[shT .engine],[shT .engine],true,false,fun x=>wE x⟩
def lQ(a:au)(b:Int):Option (Int):=ak (fun(⟨e,f,g,h⟩:Int×(List aj)×Int×Int)=>bif (decide (h<g))then (idx f h).bind fun d=>bif (d.id==e)then some (.inr (h))else some (.inl (e,f,g,w64 (h+1)))else some (.inr ((-1)))) (b,a.cells,(a.cells.length:Int),0)
def YA:Fsp:=⟨75,[shT .notebook,shF .int],[shF .int],true,false,fun x=>lQ x.1 x.2⟩
def kS(a:Int)(b:Int)(c:Int):Option (Bool):=bif (decide (b<=a))then some ((decide (a<=c)))else some (false)
def agR:Fsp:=⟨210,[shF .int,shF .int,shF .int],[shF .bool],true,false,fun x=>kS x.1 x.2.1 x.2.2⟩
def Oe(a:Str):Option (Bool):=ak (fun (b:Str×Int)=>bif (decide (b.2<(b.1.length:Int)))then (idx b.1 b.2).bind fun c=>bif (decide ((c.toNat:Int)>=97))then (idx b.1 b.2).bind fun d=>bif (!(decide ((d.toNat:Int)<=122)))then bif (b.2==0)then some (.inr (false))else (idx b.1 b.2).bind fun e=>bif (decide ((e.toNat:Int)<48))then some (.inr (false))else (idx b.1 b.2).bind fun f=>bif (decide ((f.toNat:Int)>57))then some (.inr (false))else some (.inl (b.1,w64 (b.2+1)))else some (.inl (b.1,w64 (b.2+1)))else bif (b.2==0)then some (.inr (false))else (idx b.1 b.2).bind fun g=>bif (decide ((g.toNat:Int)<48))then some (.inr (false))else (idx b.1 b.2).bind fun h=>bif (decide ((h.toNat:Int)>57))then some (.inr (false))else some (.inl (b.1,w64 (b.2+1)))else ((kS (b.1.length:Int) 1 8).bind fun i=>some (i)).bind fun r=>some (.inr r)) (a,0)
def agZ:Fsp:=⟨177,[shF .str],[shF .bool],true,false,fun x=>Oe x⟩
def fZ(a:Str):Option (Int):=bif (a==[99,108,111,99,107])then some (0)else bif (a==[108,101,110])then some (1)else bif (a==[115,117,109])then some (1)else bif (a==[114,111,119,115])then some (1)else bif (a==[99,104,97,110,99,101])then some (1)else bif (a==[102,105,108,101])then some (1)else bif (a==[116,97,107,101])then some (2)else bif (a==[115,107,105,112])then some (2)else bif (a==[114,97,110,103,101])then some (2)else bif (a==[110,116,104])then some (2)else bif (a==[107,101,101,112])then some (2)else bif (a==[99,111,108,117,109,110])then some (2)else bif (a==[116,97,98,108,101])then some (2)else bif (a==[119,104,101,114,101])then some (3)else bif (a==[103,114,111,117,112])then some (3)else bif (a==[106,111,105,110])then some (3)else bif (a==[97,100,100])then some (4)else some ((-1))
def KR:Fsp:=⟨212,[shF .str],[shF .int],true,false,fun x=>fZ x⟩
def wz(a:Str):Option (Bool):=bif (a==[108,101,116])then some (true)else bif (a==[105,110])then some (true)else bif (a==[105,102])then some (true)else bif (a==[116,104,101,110])then some (true)else bif (a==[101,108,115,101])then some (true)else bif (a==[102,111,114])then some (true)else bif (a==[100,111])then some (true)else (fZ a).bind fun b=>some ((decide (b>=0)))
def UC:Fsp:=⟨178,[shF .str],[shF .bool],true,false,fun x=>wz x⟩
def bU(a:Str):Option (Bool):=(Oe a).bind fun b=>bif b then (wz a).bind fun c=>some ((!c))else some (false)
def Rh:Fsp:=⟨125,[shF .str],[shF .bool],true,false,fun x=>bU x⟩
def rU(a:Str):Option (Bool):=ak (fun (b:Str×Int)=>bif (decide (b.2<(b.1.length:Int)))then (idx b.1 b.2).bind fun c=>bif (decide ((c.toNat:Int)<32))then some (.inr (false))else (idx b.1 b.2).bind fun d=>bif (decide ((d.toNat:Int)>126))then some (.inr (false))else some (.inl (b.1,w64 (b.2+1)))else some (.inr ((decide ((b.1.length:Int)<=120))))) (a,0)
def Rk:Fsp:=⟨211,[shF .str],[shF .bool],true,false,fun x=>rU x⟩
def jr(a:aj):Option (Bool):=(kS a.id 1 999).bind fun b=>bif (!b)then some (false)else (kS a.version 1 999).bind fun c=>bif (!c)then some (false)else (rU a.code).bind fun d=>bif (!d)then some (false)else bif (a.kind==1)then bif (a.name==[])then some ((a.n==0))else some (false)else bif (a.kind==2)then (bU a.name).bind fun e=>bif e then some ((a.n==0))else some (false)else bif (a.kind==4)then (bU a.name).bind fun f=>bif f then some ((a.n==0))else some (false)else bif (a.kind==3)then (bU a.name).bind fun g=>bif g then bif (a.code==[])then (kS a.n 0 100).bind fun h=>some (h)else some (false)else some (false)else some (false)
def Rj:Fsp:=⟨176,[shT .cell],[shF .bool],true,false,fun x=>jr x⟩
def jT(a:au):Option (Bool):=ak (fun(⟨f,g,h,i⟩:(List aj)×(List aj)×Int×Int)=>bif (decide (i<h))then (idx g i).bind fun c=>(jr c).bind fun d=>bif (!d)then some (.inr (false))else (lQ (au.mk f) c.id).bind fun e=>bif (e != i)then some (.inr (false))else some (.inl (f,g,h,w64 (i+1)))else some (.inr ((decide ((f.length:Int)<=8))))) (a.cells,a.cells,(a.cells.length:Int),0)
def GR:Fsp:=⟨124,[shT .notebook],[shF .bool],true,false,fun x=>jT x⟩
def Ae(a:Int):Option (aC):=some (aC.mk 1 a 0 [] [] [] [])
def Q8:Fsp:=⟨204,[shF .int],[shT .val],true,false,fun x=>Ae x⟩
def CS(riNodeCount:af->Option (Int))(a:af):Option (Int):=ak (fun(⟨e,f,g,h⟩:Int×(List af)×Int×Int)=>bif (decide (h<g))then (idx f h).bind fun c=>(riNodeCount (ah c)).bind fun d=>some (.inl (w64 (e+d),f,g,w64 (h+1)))else some (.inr (e))) (1,a.args,(a.args.length:Int),0)
def og:Nat->(af->Option (Int))
 | 0=>fun _=>none
 | n+1=>CS (og n)
def GL(a:af):Option (Int):=(og (siz a+1)) a
def Yn:Fsp:=⟨215,[shT .expr],[shF .int],true,false,fun x=>GL x⟩
def FC(n:Nat):Fsp:=⟨215,[shT .expr],[shF .int],true,false,fun x=>(og n) x⟩
def CV(riNestingOf:af->Option (Int))(a:af):Option (Int):=ak (fun(⟨e,f,g,h⟩:Int×(List af)×Int×Int)=>bif (decide (h<g))then (idx f h).bind fun d=>(riNestingOf (ah d)).bind fun c=>some (.inl ((if c>e then c else e),f,g,w64 (h+1)))else some (.inr (w64 (e+1)))) (0,a.args,(a.args.length:Int),0)
def qE:Nat->(af->Option (Int))
 | 0=>fun _=>none
 | n+1=>CV (qE n)
def GN(a:af):Option (Int):=(qE (siz a+1)) a
def Yo:Fsp:=⟨216,[shT .expr],[shF .int],true,false,fun x=>GN x⟩
def FD(n:Nat):Fsp:=⟨216,[shT .expr],[shF .int],true,false,fun x=>(qE n) x⟩
def gV(a:Str):Option (Bool):=ak (fun (b:Str×Int)=>bif (decide (b.2<(b.1.length:Int)))then (idx b.1 b.2).bind fun c=>bif (decide ((c.toNat:Int)<32))then some (.inr (false))else (idx b.1 b.2).bind fun d=>bif (decide ((d.toNat:Int)>126))then some (.inr (false))else (idx b.1 b.2).bind fun e=>bif ((e.toNat:Int)==34)then some (.inr (false))else some (.inl (b.1,w64 (b.2+1)))else some (.inr ((decide ((b.1.length:Int)<=20))))) (a,0)
def Q9:Fsp:=⟨274,[shF .str],[shF .bool],true,false,fun x=>gV x⟩
def Eo(a:af):Option (Bool):=bif (a.kind==1)then (kS a.n 0 1000000000).bind fun b=>bif b then bif (a.text==[])then some (((a.args.length:Int)==0))else some (false)else some (false)else bif (a.kind==2)then bif (a.n==0)then (gV a.text).bind fun c=>bif c then some (((a.args.length:Int)==0))else some (false)else some (false)else bif (a.kind==3)then bif (a.n==0)then (bU a.text).bind fun d=>bif d then some (((a.args.length:Int)==0))else some (false)else some (false)else bif (a.kind==4)then bif (a.n==0)then bif (a.text==[])then some ((decide ((a.args.length:Int)<=8)))else some (false)else some (false)else bif (a.kind==5)then bif (a.n==0)then (fZ a.text).bind fun e=>some (((a.args.length:Int)==e))else some (false)else bif (a.kind==6)then (kS a.n 1 5).bind fun f=>bif f then bif (a.text==[])then some (((a.args.length:Int)==2))else some (false)else some (false)else bif (a.kind==7)then bif (a.n==0)then (bU a.text).bind fun g=>bif g then some (((a.args.length:Int)==2))else some (false)else some (false)else bif (a.kind==9)then bif (a.n==0)then (bU a.text).bind fun h=>bif h then some (((a.args.length:Int)==2))else some (false)else some (false)else bif (a.kind==8)then bif (a.n==0)then bif (a.text==[])then some (((a.args.length:Int)==3))else some (false)else some (false)else some (false)
def ag0:Fsp:=⟨248,[shT .expr],[shF .bool],true,false,fun x=>Eo x⟩
def GY(riAreNodes:af->Option (Bool))(a:af):Option (Bool):=ak (fun(⟨f,g,h,i,j,k,l⟩:Int×Int×Str×(List af)×(List af)×Int×Int)=>bif (decide (l<k))then (idx j l).bind fun c=>(riAreNodes (ah c)).bind fun d=>bif (!d)then some (.inr (false))else some (.inl (f,g,h,i,j,k,w64 (l+1)))else ((Eo (af.mk f g h i)).bind fun e=>some (e)).bind fun r=>some (.inr r)) (a.kind,a.n,a.text,a.args,a.args,(a.args.length:Int),0)
def uP:Nat->(af->Option (Bool))
 | 0=>fun _=>none
 | n+1=>GY (uP n)
def Eu(a:af):Option (Bool):=(uP (siz a+1)) a
def aa7:Fsp:=⟨217,[shT .expr],[shF .bool],true,false,fun x=>Eu x⟩
def Jg(n:Nat):Fsp:=⟨217,[shT .expr],[shF .bool],true,false,fun x=>(uP n) x⟩
def gW(a:af):Option (Bool):=(GL (ah a)).bind fun b=>bif (decide (b<=40))then (GN (ah a)).bind fun c=>bif (decide (c<=8))then (Eu (ah a)).bind fun d=>some (d)else some (false)else some (false)
def Ri:Fsp:=⟨182,[shT .expr],[shF .bool],true,false,fun x=>gW x⟩
def mG(a:Str)(b c:Int):Option (Int×Bool):=qC a b c
def ajv:Fsp:=⟨272,[shF .str,shF .int,shF .int],[shF .int,shF .bool],true,false,fun x=>mG x.1 x.2.1 x.2.2⟩
def QG:Fsp:=⟨284,[shF .str,shF .u8],[shF .int],true,false,fun x=>eu x.1 x.2⟩
def QH:Fsp:=⟨285,[shF .str,shF .str],[shF .bool],true,false,fun x=>jl x.1 x.2⟩
def jo(a:Str)(b:Int):Option (aK×Int×Bool):=(idx a b).bind fun f=>bif (decide ((f.toNat:Int)>=97))then bif (decide ((f.toNat:Int)<=122))then ak (fun(⟨aa,ac,ae,al,aq,ar,aw⟩:Str×Int×Int×Int×Int×Str×Int)=>bif (decide (aw<(aa.length:Int)))then (idx aa aw).bind fun c3=>bif (decide ((c3.toNat:Int)>=97))then (idx aa aw).bind fun c4=>bif (decide ((c4.toNat:Int)<=122))then some (.inl (aa,ac,ae,al,aq,ar,w64 (aw+1)))else (idx aa aw).bind fun c5=>bif (decide ((c5.toNat:Int)>=48))then (idx aa aw).bind fun c6=>bif (decide ((c6.toNat:Int)<=57))then some (.inl (aa,ac,ae,al,aq,ar,w64 (aw+1)))else ((eff.cutL aa (some ac) (some aw)).bind fun r7=>some (aK.mk 1 0 ac r7,aw,(decide ((w64 (aw-ac))<=8)))).bind fun r=>some (.inr r)else ((eff.cutL aa (some ac) (some aw)).bind fun r8=>some (aK.mk 1 0 ac r8,aw,(decide ((w64 (aw-ac))<=8)))).bind fun r=>some (.inr r)else (idx aa aw).bind fun c9=>bif (decide ((c9.toNat:Int)>=48))then (idx aa aw).bind fun v=>bif (decide ((v.toNat:Int)<=57))then some (.inl (aa,ac,ae,al,aq,ar,w64 (aw+1)))else ((eff.cutL aa (some ac) (some aw)).bind fun w=>some (aK.mk 1 0 ac w,aw,(decide ((w64 (aw-ac))<=8)))).bind fun r=>some (.inr r)else ((eff.cutL aa (some ac) (some aw)).bind fun x=>some (aK.mk 1 0 ac x,aw,(decide ((w64 (aw-ac))<=8)))).bind fun r=>some (.inr r)else ((eff.cutL aa (some ac) (some aw)).bind fun y=>some (aK.mk 1 0 ac y,aw,(decide ((w64 (aw-ac))<=8)))).bind fun r=>some (.inr r)) (a,b,0,0,0,[],b)else bif (decide ((f.toNat:Int)>=48))then bif (decide ((f.toNat:Int)<=57))then ak (fun(⟨c,az,aD,aE,aL,aM,aR⟩:Str×Int×Int×Int×Int×Str×Int)=>bif (decide (aR<(c.length:Int)))then (idx c aR).bind fun z=>bif (decide ((z.toNat:Int)>=48))then (idx c aR).bind fun A=>bif (decide ((A.toNat:Int)<=57))then some (.inl (c,az,aD,aE,aL,aM,w64 (aR+1)))else ((eff.cutL c (some az) (some aR)).bind fun B=>(mG B 0 1000000000).bind fun k=>some (aK.mk 2 k.1 az [],aR,k.2)).bind fun r=>some (.inr r)else ((eff.cutL c (some az) (some aR)).bind fun C=>(mG C 0 1000000000).bind fun l=>some (aK.mk 2 l.1 az [],aR,l.2)).bind fun r=>some (.inr r)else ((eff.cutL c (some az) (some aR)).bind fun D=>(mG D 0 1000000000).bind fun m=>some (aK.mk 2 m.1 az [],aR,m.2)).bind fun r=>some (.inr r)) (a,b,0,0,0,[],b)else bif ((f.toNat:Int)==34)then (eff.cutL a (some (w64 (b+1))) none).bind fun E=>(eu E 34).bind fun g=>bif (decide (g<0))then some (aK.mk 0 0 0 [],0,false)else (eff.cutL a (some (w64 (b+1))) (some (w64 ((w64 (b+1))+g)))).bind fun n=>(gV n).bind fun F=>some (aK.mk 3 0 b n,w64 ((w64 (b+g))+2),F)else (eff.cutL a (some b) none).bind fun G=>(jl G [61,61]).bind fun H=>bif H then some (aK.mk 4 0 b [61,61],w64 (b+2),true)else (eff.cutL a (some b) (some (w64 (b+1)))).bind fun I=>(eu [40,41,91,93,44,43,45,42,60,61] (f.toNat:Int)).bind fun J=>some (aK.mk 4 0 b I,w64 (b+1),(decide (J>=0)))else bif ((f.toNat:Int)==34)then (eff.cutL a (some (w64 (b+1))) none).bind fun K=>(eu K 34).bind fun h=>bif (decide (h<0))then some (aK.mk 0 0 0 [],0,false)else (eff.cutL a (some (w64 (b+1))) (some (w64 ((w64 (b+1))+h)))).bind fun o=>(gV o).bind fun L=>
    some (aK.mk 3 0 b o,w64 ((w64 (b+h))+2),L)
  else
   (eff.cutL a (some b) none).bind fun M=>
   (jl M [61,61]).bind fun N=>
   bif N then
    some (aK.mk 4 0 b [61,61],w64 (b+2),true)
   else
    (eff.cutL a (some b) (some (w64 (b+1)))).bind fun O=>
    (eu [40,41,91,93,44,43,45,42,60,61] (f.toNat:Int)).bind fun P=>
    some (aK.mk 4 0 b O,w64 (b+1),(decide (P>=0)))
 else
 bif (decide ((f.toNat:Int)>=48))then
  bif (decide ((f.toNat:Int)<=57))then
   ak (fun(⟨d,ba,bc,bh,bj,bl,bm⟩:Str×Int×Int×Int×Int×Str×Int)=>
    bif (decide (bm<(d.length:Int)))then
     (idx d bm).bind fun Q=>
     bif (decide ((Q.toNat:Int)>=48))then
      (idx d bm).bind fun R=>
      bif (decide ((R.toNat:Int)<=57))then
       some (.inl (d,ba,bc,bh,bj,bl,w64 (bm+1)))
      else
       (
        (eff.cutL d (some ba) (some bm)).bind fun S=>
        (mG S 0 1000000000).bind fun p=>
        some (aK.mk 2 p.1 ba [],bm,p.2)
       ).bind fun r=>some (.inr r)
     else
      (
       (eff.cutL d (some ba) (some bm)).bind fun T=>
       (mG T 0 1000000000).bind fun q=>
       some (aK.mk 2 q.1 ba [],bm,q.2)
      ).bind fun r=>some (.inr r)
    else
     (
      (eff.cutL d (some ba) (some bm)).bind fun U=>
      (mG U 0 1000000000).bind fun s=>
      some (aK.mk 2 s.1 ba [],bm,s.2)
     ).bind fun r=>some (.inr r)
   ) (a,b,0,0,0,[],b)
  else
  bif ((f.toNat:Int)==34)then
   (eff.cutL a (some (w64 (b+1))) none).bind fun V=>
   (eu V 34).bind fun i=>
   bif (decide (i<0))then
    some (aK.mk 0 0 0 [],0,false)
   else
    (eff.cutL a (some (w64 (b+1))) (some (w64 ((w64 (b+1))+i)))).bind fun t=>
    (gV t).bind fun W=>
    some (aK.mk 3 0 b t,w64 ((w64 (b+i))+2),W)
  else
   (eff.cutL a (some b) none).bind fun X=>
   (jl X [61,61]).bind fun Y=>
   bif Y then
    some (aK.mk 4 0 b [61,61],w64 (b+2),true)
   else
    (eff.cutL a (some b) (some (w64 (b+1)))).bind fun Z=>
    (eu [40,41,91,93,44,43,45,42,60,61] (f.toNat:Int)).bind fun r55=>
    some (aK.mk 4 0 b Z,w64 (b+1),(decide (r55>=0)))
 else
 bif ((f.toNat:Int)==34)then
  (eff.cutL a (some (w64 (b+1))) none).bind fun r56=>
  (eu r56 34).bind fun j=>
  bif (decide (j<0))then
   some (aK.mk 0 0 0 [],0,false)
  else
   (eff.cutL a (some (w64 (b+1))) (some (w64 ((w64 (b+1))+j)))).bind fun u=>
   (gV u).bind fun r59=>
   some (aK.mk 3 0 b u,w64 ((w64 (b+j))+2),r59)
 else
  (eff.cutL a (some b) none).bind fun r60=>
  (jl r60 [61,61]).bind fun r61=>
  bif r61 then
   some (aK.mk 4 0 b [61,61],w64 (b+2),true)
  else
   (eff.cutL a (some b) (some (w64 (b+1)))).bind fun r62=>
   (eu [40,41,91,93,44,43,45,42,60,61] (f.toNat:Int)).bind fun r63=>
   some (aK.mk 4 0 b r62,w64 (b+1),(decide (r63>=0)))
def adG:Fsp:=⟨264,[shF .str,shF .int],[shT .token,shF .int,shF .bool],true,false,fun x=>jo x.1 x.2⟩
def yw(a:Str):Option ((List aK)×Int):=bif (decide ((a.length:Int)>120))then some ([],120)else ak (fun(⟨e,f,g⟩:Str×(List aK)×Int)=>bif (decide (g<(e.length:Int)))then (idx e g).bind fun d=>bif ((d.toNat:Int)==32)then some (.inl (e,f,w64 (g+1)))else (jo e g).bind fun c=>bif (!c.2.2)then some (.inr ([],g))else bif ((f.length:Int)==60)then some (.inr ([],g))else (gd (f.length+[c.1].length)).bind fun _=>some (.inl (e,f++[c.1],c.2.1))else some (.inr (f,(-1)))) (a,[],0)
def aaQ:Fsp:=⟨240,[shF .str],[slF .token,shF .int],true,false,fun x=>yw x⟩
def sZ(a:Int):Option (Str):=(kS a 1 5).bind fun b=>bif (!b)then some ([63])else (idx ([[43],[45],[42],[60],[61,61]]:List Str) (w64 (a-1))).bind fun _=>(([[43],[45],[42],[60],[61,61]]:List Str)[(w64 (a-1)).toNat]?).bind fun c=>some (c)
def aaU:Fsp:=⟨223,[shF .int],[shF .str],true,false,fun x=>sZ x⟩
def jE(a:aK)(b:Str):Option (Bool):=bif (a.kind==1)then some ((a.text==b))else some (false)
def Yp:Fsp:=⟨265,[shT .token,shF .str],[shF .bool],true,false,fun x=>jE x.1 x.2⟩
def fD(a:aV):Option (aV×aK):=bif (decide (a.bad<0))then bif (decide (a.i<(a.toks.length:Int)))then (idx a.toks a.i).bind fun b=>some (a,b)else some (a,aK.mk 0 0 0 [])else some (a,aK.mk 0 0 0 [])
def Uu:Fsp:=⟨266,[shT .psr],[shT .psr,shT .token],false,false,fun x=>fD x⟩
def gY(a:aV):Option (aV×af):=bif (decide (a.bad<0))then some (aV.mk a.toks a.i a.i,af.mk 0 0 [] [])else some (a,af.mk 0 0 [] [])
def Uy:Fsp:=⟨286,[shT .psr],[shT .psr,shT .expr],false,true,fun x=>gY x⟩
def lK(a:aV):Option (aV×Str):=(fD a).bind fun b=>bif (b.2.kind != 1)then (gY b.1).bind fun c=>some (c.1,[])else (bU b.2.text).bind fun d=>bif (!d)then (gY b.1).bind fun e=>some (e.1,[])else some (aV.mk b.1.toks (w64 (b.1.i+1)) b.1.bad,b.2.text)
def Ux:Fsp:=⟨267,[shT .psr],[shT .psr,shF .str],false,false,fun x=>lK x⟩
def yE(a:aK)(b:Str):Option (Bool):=bif (a.kind==4)then some ((a.text==b))else some (false)
def aaX:Fsp:=⟨287,[shT .token,shF .str],[shF .bool],true,false,fun x=>yE x.1 x.2⟩
def bV(a:aV)(b:Str):Option (aV):=(fD a).bind fun c=>(jE c.2 b).bind fun e=>bif e then some (aV.mk c.1.toks (w64 (c.1.i+1)) c.1.bad)else (fD c.1).bind fun d=>(yE d.2 b).bind fun f=>bif f then some (aV.mk d.1.toks (w64 (d.1.i+1)) d.1.bad)else (gY d.1).bind fun g=>some (g.1)
def Uw:Fsp:=⟨268,[shT .psr,shF .str],[shT .psr],false,false,fun x=>bV x.1 x.2⟩
def bn(a:aV)(b:Str):Option (aV×Bool):=(fD a).bind fun c=>(yE c.2 b).bind fun d=>bif d then some (aV.mk c.1.toks (w64 (c.1.i+1)) c.1.bad,true)else some (c.1,false)
def Nw:Fsp:=⟨270,[shT .psr,shF .str],[shT .psr,shF .bool],false,false,fun x=>bn x.1 x.2⟩
def Ad(riParserExpr:aV->Option (aV×af))(riParserSum:aV->Option (aV×af))(riParserProduct:aV->Option (aV×af))(riParserAtom:aV->Option (aV×af))(riParserList2:aV->Str->Option (aV×(List af)))(a:aV):Option (aV×af):=(fD a).bind fun l=>(jE l.2 [108,101,116]).bind fun A=>bif A then (lK (aV.mk l.1.toks (w64 (l.1.i+1)) l.1.bad)).bind fun z=>(bV z.1 [61]).bind fun B=>(riParserExpr B).bind fun r=>(gd ([ah r.2].length)).bind fun _=>(bV r.1 [105,110]).bind fun C=>(riParserExpr C).bind fun s=>(gd ([ah r.2].length+[ah s.2].length)).bind fun _=>some (s.1,af.mk 7 0 z.2 ([ah r.2]++[ah s.2]))else (fD l.1).bind fun m=>(jE m.2 [105,102]).bind fun D=>bif D then (riParserExpr (aV.mk m.1.toks (w64 (m.1.i+1)) m.1.bad)).bind fun d=>(gd ([ah d.2].length)).bind fun _=>(bV d.1 [116,104,101,110]).bind fun t=>(riParserExpr t).bind fun g=>(gd ([ah d.2].length+[ah g.2].length)).bind fun _=>(bV g.1 [101,108,115,101]).bind fun u=>(riParserExpr u).bind fun j=>(gd (([ah d.2]++[ah g.2]).length+[ah j.2].length)).bind fun _=>some (j.1,af.mk 8 0 [] (([ah d.2]++[ah g.2])++[ah j.2]))else (fD m.1).bind fun e=>(jE e.2 [102,111,114]).bind fun v=>bif v then (lK (aV.mk e.1.toks (w64 (e.1.i+1)) e.1.bad)).bind fun o=>(bV o.1 [105,110]).bind fun w=>(riParserExpr w).bind fun h=>(gd ([ah h.2].length)).bind fun _=>(bV h.1 [100,111]).bind fun x=>(riParserExpr x).bind fun k=>(gd ([ah h.2].length+[ah k.2].length)).bind fun _=>some (k.1,af.mk 9 0 o.2 ([ah h.2]++[ah k.2]))else (riParserSum e.1).bind fun c=>ak (fun(⟨E,F,G,H,I,J,K,L,M,N,O,P,Q,R⟩:(List aK)×Int×Int×Int×Int×Str×(List af)×Int×Int×Str×(List af)×(List Int)×Int×Int)=>bif (decide (R<Q))then (idx P R).bind fun _=>(P[R.toNat]?).bind fun p=>(sZ p).bind fun y=>(bn (aV.mk E F G) y).bind fun f=>bif f.2 then (riParserSum f.1).bind fun q=>some (.inr (q.1,af.mk 6 p [] [af.mk L M N O,ah q.2]))else some (.inl (f.1.toks,f.1.i,f.1.bad,H,I,J,K,L,M,N,O,P,Q,w64 (R+1)))else some (.inr (aV.mk E F G,af.mk L M N O))) (c.1.toks,c.1.i,c.1.bad,0,0,[],[],c.2.kind,c.2.n,c.2.text,c.2.args,[4,5],([4,5].length:Int),0)
def CG(riParserExpr:aV->Option (aV×af))(riParserSum:aV->Option (aV×af))(riParserProduct:aV->Option (aV×af))(riParserAtom:aV->Option (aV×af))(riParserList2:aV->Str->Option (aV×(List af)))(a:aV):Option (aV×af):=(riParserProduct a).bind fun c=>ak (fun(⟨h,j,k,l,m,o,p,q,r,s,t⟩:(List aK)×Int×Int×Int×Int×Str×(List af)×Int×Int×Str×(List af))=>bif (decide (k<0))then (bn (aV.mk h j k) [43]).bind fun f=>bif (!f.2)then (bn f.1 [45]).bind fun g=>bif (!g.2)then some (.inr (g.1,af.mk q r s t))else (riParserProduct g.1).bind fun d=>some (.inl (d.1.toks,d.1.i,d.1.bad,l,m,o,p,6,2,[],[af.mk q r s t,ah d.2]))else (riParserProduct f.1).bind fun e=>some (.inl (e.1.toks,e.1.i,e.1.bad,l,m,o,p,6,1,[],[af.mk q r s t,ah e.2]))else some (.inr (aV.mk h j k,af.mk q r s t))) (c.1.toks,c.1.i,c.1.bad,0,0,[],[],c.2.kind,c.2.n,c.2.text,c.2.args)
def qO(riParserExpr:aV->Option (aV×af))(riParserSum:aV->Option (aV×af))(riParserProduct:aV->Option (aV×af))(riParserAtom:aV->Option (aV×af))(riParserList2:aV->Str->Option (aV×(List af)))(a:aV):Option (aV×af):=(riParserAtom a).bind fun c=>ak (fun(⟨f,g,h,j,k,l,m,o,p,q,r⟩:(List aK)×Int×Int×Int×Int×Str×(List af)×Int×Int×Str×(List af))=>(bn (aV.mk f g h) [42]).bind fun e=>bif e.2 then (riParserAtom e.1).bind fun d=>some (.inl (d.1.toks,d.1.i,d.1.bad,j,k,l,m,6,3,[],[af.mk o p q r,ah d.2]))else some (.inr (e.1,af.mk o p q r))) (c.1.toks,c.1.i,c.1.bad,0,0,[],[],c.2.kind,c.2.n,c.2.text,c.2.args)
def rQ(riParserExpr:aV->Option (aV×af))(riParserSum:aV->Option (aV×af))(riParserProduct:aV->Option (aV×af))(riParserAtom:aV->Option (aV×af))(riParserList2:aV->Str->Option (aV×(List af)))(a:aV):Option (aV×af):=(fD a).bind fun b=>bif (b.2.kind==2)then some (aV.mk b.1.toks (w64 (b.1.i+1)) b.1.bad,af.mk 1 b.2.n [] [])else bif (b.2.kind==3)then some (aV.mk b.1.toks (w64 (b.1.i+1)) b.1.bad,af.mk 2 0 b.2.text [])else bif (b.2.kind==1)then (bU b.2.text).bind fun G=>bif G then some (aV.mk b.1.toks (w64 (b.1.i+1)) b.1.bad,af.mk 3 0 b.2.text [])else bif (b.2.kind==1)then (fZ b.2.text).bind fun H=>bif (decide (H>=0))then (bV (aV.mk b.1.toks (w64 (b.1.i+1)) b.1.bad) [40]).bind fun I=>(riParserList2 I [41]).bind fun D=>some (D.1,af.mk 5 0 b.2.text D.2)else (bn b.1 [91]).bind fun v=>bif v.2 then (riParserList2 v.1 [93]).bind fun E=>some (E.1,af.mk 4 0 [] E.2)else (bn v.1 [40]).bind fun w=>bif w.2 then (riParserExpr w.1).bind fun F=>(bV F.1 [41]).bind fun x=>some (x,ah F.2)else (gY w.1).bind fun j=>some (j.1,ah j.2)else (bn b.1 [91]).bind fun c=>bif c.2 then (riParserList2 c.1 [93]).bind fun k=>some (k.1,af.mk 4 0 [] k.2)else (bn c.1 [40]).bind fun d=>bif d.2 then (riParserExpr d.1).bind fun l=>(bV l.1 [41]).bind fun y=>some (y,ah l.2)else (gY d.1).bind fun m=>some (m.1,ah m.2)else bif (b.2.kind==1)then (fZ b.2.text).bind fun z=>bif (decide (z>=0))then (bV (aV.mk b.1.toks (w64 (b.1.i+1)) b.1.bad) [40]).bind fun A=>(riParserList2 A [41]).bind fun o=>some (o.1,af.mk 5 0 b.2.text o.2)else (bn b.1 [91]).bind fun e=>bif e.2 then (riParserList2 e.1 [93]).bind fun p=>some (p.1,af.mk 4 0 [] p.2)else (bn e.1 [40]).bind fun f=>bif f.2 then (riParserExpr f.1).bind fun q=>(bV q.1 [41]).bind fun B=>some (B,ah q.2)else (gY f.1).bind fun r=>some (r.1,ah r.2)else (bn b.1 [91]).bind fun g=>bif g.2 then (riParserList2 g.1 [93]).bind fun s=>some (s.1,af.mk 4 0 [] s.2)else (bn g.1 [40]).bind fun h=>bif h.2 then (riParserExpr h.1).bind fun t=>(bV t.1 [41]).bind fun C=>some (C,ah t.2)else (gY h.1).bind fun u=>some (u.1,ah u.2)
def mP(riParserExpr:aV->Option (aV×af))(riParserSum:aV->Option (aV×af))(riParserProduct:aV->Option (aV×af))(riParserAtom:aV->Option (aV×af))(riParserList2:aV->Str->Option (aV×(List af)))(a:aV)(b:Str):Option (aV×(List af)):=(bn a b).bind fun d=>bif d.2 then some (d.1,[])else ak (fun(⟨h,j,k,l,m⟩:(List aK)×Int×Int×Str×(List af))=>bif (decide (k<0))then (riParserExpr (aV.mk h j k)).bind fun e=>(gd (m.length+[ah e.2].length)).bind fun _=>(bn e.1 l).bind fun f=>bif f.2 then some (.inr (f.1,m++[ah e.2]))else (bV f.1 [44]).bind fun g=>some (.inl (g.toks,g.i,g.bad,l,m++[ah e.2]))else some (.inr (aV.mk h j k,m))) (d.1.toks,d.1.i,d.1.bad,b,[])
def aG:Nat->(aV->Option (aV×af))×(aV->Option (aV×af))×(aV->Option (aV×af))×(aV->Option (aV×af))×(aV->Str->Option (aV×(List af)))
 | 0=>(fun _=>none,fun _=>none,fun _=>none,fun _=>none,fun _ _=>none)
 | n+1=>(Ad (aG n).1 (aG n).2.1 (aG n).2.2.1 (aG n).2.2.2.1 (aG n).2.2.2.2,CG (aG n).1 (aG n).2.1 (aG n).2.2.1 (aG n).2.2.2.1 (aG n).2.2.2.2,qO (aG n).1 (aG n).2.1 (aG n).2.2.1 (aG n).2.2.2.1 (aG n).2.2.2.2,rQ (aG n).1 (aG n).2.1 (aG n).2.2.1 (aG n).2.2.2.1 (aG n).2.2.2.2,mP (aG n).1 (aG n).2.1 (aG n).2.2.1 (aG n).2.2.2.1 (aG n).2.2.2.2)
def CP(a:aV):Option (aV×af):=(aG (siz a+1)).1 a
def Uz:Fsp:=⟨241,[shT .psr],[shT .psr,shT .expr],false,false,fun x=>CP x⟩
def CO(n:Nat):Fsp:=⟨241,[shT .psr],[shT .psr,shT .expr],false,false,fun x=>(aG n).1 x⟩
def adN(a:aV):Option (aV×af):=(aG (siz a+1)).2.1 a
def Yi:Fsp:=⟨269,[shT .psr],[shT .psr,shT .expr],false,false,fun x=>adN x⟩
def Fz(n:Nat):Fsp:=⟨269,[shT .psr],[shT .psr,shT .expr],false,false,fun x=>(aG n).2.1 x⟩
def Q5(a:aV):Option (aV×af):=(aG (siz a+1)).2.2.1 a
def KL:Fsp:=⟨288,[shT .psr],[shT .psr,shT .expr],false,false,fun x=>Q5 x⟩
def vZ(n:Nat):Fsp:=⟨288,[shT .psr],[shT .psr,shT .expr],false,false,fun x=>(aG n).2.2.1 x⟩
def aaT(a:aV):Option (aV×af):=(aG (siz a+1)).2.2.2.1 a
def UA:Fsp:=⟨303,[shT .psr],[shT .psr,shT .expr],false,false,fun x=>aaT x⟩
def CQ(n:Nat):Fsp:=⟨303,[shT .psr],[shT .psr,shT .expr],false,false,fun x=>(aG n).2.2.2.1 x⟩
def Yj(a:aV)(b:Str):Option (aV×(List af)):=(aG (siz a+1)).2.2.2.2 a b
def Q7:Fsp:=⟨331,[shT .psr,shF .str],[shT .psr,slF .expr],false,false,fun x=>Yj x.1 x.2⟩
def AU(n:Nat):Fsp:=⟨331,[shT .psr,shF .str],[shT .psr,slF .expr],false,false,fun x=>(aG n).2.2.2.2 x.1 x.2⟩
def uM(a:Str):Option (af×Int):=(yw a).bind fun c=>bif (decide (c.2>=0))then some (af.mk 0 0 [] [],c.2)else (CP (aV.mk c.1 0 (-1))).bind fun b=>bif (decide (b.1.bad<0))then bif (decide (b.1.i<(c.1.length:Int)))then bif (decide (b.1.i>=(c.1.length:Int)))then some (af.mk 0 0 [] [],(a.length:Int))else bif (decide (b.1.i>=0))then (idx c.1 b.1.i).bind fun _=>(c.1[b.1.i.toNat]?).bind fun f=>some (af.mk 0 0 [] [],f.pos)else (gW (ah b.2)).bind fun g=>bif (!g)then some (af.mk 0 0 [] [],0)else some (ah b.2,(-1))else bif (decide (b.1.bad>=(c.1.length:Int)))then some (af.mk 0 0 [] [],(a.length:Int))else bif (decide (b.1.bad>=0))then (idx c.1 b.1.bad).bind fun _=>(c.1[b.1.bad.toNat]?).bind fun h=>some (af.mk 0 0 [] [],h.pos)else (gW (ah b.2)).bind fun j=>bif (!j)then some (af.mk 0 0 [] [],0)else some (ah b.2,(-1))else bif (decide (b.1.bad>=(c.1.length:Int)))then some (af.mk 0 0 [] [],(a.length:Int))else bif (decide (b.1.bad>=0))then (idx c.1 b.1.bad).bind fun _=>(c.1[b.1.bad.toNat]?).bind fun d=>some (af.mk 0 0 [] [],d.pos)else (gW (ah b.2)).bind fun e=>bif (!e)then some (af.mk 0 0 [] [],0)else some (ah b.2,(-1))
def Yl:Fsp:=⟨205,[shF .str],[shT .expr,shF .int],false,false,fun x=>uM x⟩
def lM(a:Int):Option (aC):=some (aC.mk 6 a 0 [] [] [] [])
def UG:Fsp:=⟨206,[shF .int],[shT .val],true,false,fun x=>lM x⟩
def adv:Fsp:=⟨242,[shF .str,shF .str],[slF .str],true,false,fun x=>kK x.1 x.2⟩
def lJ(a:Str)(b:Int):Option ((List Str)):=(kK a (bytesOf [b])).bind fun c=>some (c)
def Yc:Fsp:=⟨243,[shF .str,shF .u8],[slF .str],true,false,fun x=>lJ x.1 x.2⟩
def yG(a:Str)(b:Int):Option ((List Int)×Bool):=(lJ a 32).bind fun e=>ak (fun(⟨g,h,i,j,k⟩:Int×(List Int)×(List Str)×Int×Int)=>bif (decide (k<j))then (idx i k).bind fun _=>(i[k.toNat]?).bind fun f=>(mG f (-1000000000) 1000000000).bind fun d=>bif (!d.2)then some (.inr ([],false))else (gd (h.length+[d.1].length)).bind fun _=>some (.inl (g,h++[d.1],i,j,w64 (k+1)))else some (.inr (h,((h.length:Int)==g)))) (b,[],e,(e.length:Int),0)
def adS:Fsp:=⟨244,[shF .str,shF .int],[slF .int,shF .bool],true,false,fun x=>yG x.1 x.2⟩
def mQ(a:List Str)(b:Str):Option (Int):=ak (fun(⟨e,f,g,h⟩:Str×(List Str)×Int×Int)=>bif (decide (h<g))then (idx f h).bind fun d=>bif (d==e)then some (.inr (h))else some (.inl (e,f,g,w64 (h+1)))else some (.inr ((-1)))) (b,a,(a.length:Int),0)
def adR:Fsp:=⟨128,[slF .str,shF .str],[shF .int],true,false,fun x=>mQ x.1 x.2⟩
def rV(a:List Str):Option (Bool):=ak (fun(⟨e,f,g,h⟩:(List Str)×(List Str)×Int×Int)=>bif (decide (h<g))then (idx f h).bind fun c=>(mQ e c).bind fun d=>bif (d != h)then some (.inr (false))else some (.inl (e,f,g,w64 (h+1)))else some (.inr (true))) (a,a,(a.length:Int),0)
def Ru:Fsp:=⟨277,[slF .str],[shF .bool],true,false,fun x=>rV x⟩
def qH(a:List Str):Option (Bool):=ak (fun(⟨g,h,i,j⟩:(List Str)×(List Str)×Int×Int)=>bif (decide (j<i))then (idx h j).bind fun c=>(bU c).bind fun d=>bif (!d)then some (.inr (false))else some (.inl (g,h,i,w64 (j+1)))else ((kS (g.length:Int) 1 4).bind fun e=>bif e then (rV g).bind fun f=>some (f)else some (false)).bind fun r=>some (.inr r)) (a,a,(a.length:Int),0)
def UM:Fsp:=⟨246,[slF .str],[shF .bool],true,false,fun x=>qH x⟩
def En(a:Int):Option (Bool):=(kS a (-1000000000) 1000000000).bind fun b=>some (b)
def aaY:Fsp:=⟨273,[shF .int],[shF .bool],true,false,fun x=>En x⟩
def FB(a:bK)(b:bK):Option (Bool):=bif (decide (a.cell<b.cell))then some (true)else bif (a.cell==b.cell)then some ((decide (a.row<b.row)))else some (false)
def Ny:Fsp:=⟨293,[shT .origin,shT .origin],[shF .bool],true,false,fun x=>FB x.1 x.2⟩
def CY(a:aC):Option (Bool):=(qH a.columns).bind fun h=>bif (!h)then some (false)else bif (decide ((a.rows.length:Int)>12))then some (false)else ak (fun(⟨l,m,o,p,q,s,t,u,v,w⟩:Int×Int×Int×Str×(List aC)×(List Str)×(List bF)×(List bF)×Int×Int)=>bif (decide (w<v))then (idx u w).bind fun e=>bif ((e.cells.length:Int) != (s.length:Int))then some (.inr (false))else ak (fun(⟨d,x,y,z,A,B,C,D,E,F,G,H,I,J,K⟩:Int×Int×Int×Str×(List aC)×(List Str)×(List bF)×(List Int)×(List bK)×(List bF)×Int×Int×(List Int)×Int×Int)=>bif (decide (K<J))then (idx I K).bind fun i=>(En i).bind fun j=>bif (!j)then (some (.inr (false))).bind fun r=>some (.inr r)else some (.inl (d,x,y,z,A,B,C,D,E,F,G,H,I,J,w64 (K+1)))else (ak (fun(⟨c,L,M,N,O,P,Q,R,S,T,U,V,W,X,Y⟩:Int×Int×Int×Str×(List aC)×(List Str)×(List bF)×(List Int)×(List bK)×(List bF)×Int×Int×(List bK)×Int×Int)=>bif (decide (Y<X))then (idx W Y).bind fun f=>bif (decide (f.cell<0))then (some (.inr (false))).bind fun r=>some (.inr r)else bif (decide (f.row<0))then (some (.inr (false))).bind fun r=>some (.inr r)else bif (decide (Y>0))then (idx S (w64 (Y-1))).bind fun k=>(FB k f).bind fun g=>bif (!g)then (some (.inr (false))).bind fun r=>some (.inr r)else some (.inl (c,L,M,N,O,P,Q,R,S,T,U,V,W,X,w64 (Y+1)))else some (.inl (c,L,M,N,O,P,Q,R,S,T,U,V,W,X,w64 (Y+1)))else some (.inr (.inl (c,L,M,N,O,P,Q,T,U,w64 (V+1))))) (d,x,y,z,A,B,C,D,E,F,G,H,E,(E.length:Int),0)).bind fun r=>some (.inr r)) (l,m,o,p,q,s,t,e.cells,e.orig,u,v,w,e.cells,(e.cells.length:Int),0)else some (.inr (true))) (a.kind,a.n,a.step,a.text,a.list,a.columns,a.rows,a.rows,(a.rows.length:Int),0)
def adQ:Fsp:=⟨275,[shT .val],[shF .bool],true,false,fun x=>CY x⟩
def jS(a:aC):Option (Bool):=bif ((a.columns.length:Int)==0)then bif (a.n==0)then bif (a.step==0)then bif (a.text==[])then (CY (aC.mk 5 a.n a.step a.text [] a.columns a.rows)).bind fun b=>some (b)else some (false)else some (false)else some (false)else bif (a.n==0)then bif (a.step==0)then bif (a.text==[])then (CY (aC.mk 5 a.n a.step a.text [] a.columns a.rows)).bind fun c=>some (c)else some (false)else some (false)else some (false)
def pX(a:aC):Option (Bool):=bif (a.kind==5)&&a.list.isEmpty then jS a else none
def iF:Fsp:=⟨245,[shT .val],[shF .bool],true,false,fun x=>pX x⟩
def nR(a:Str):Option (aC×Bool):=(kK a [59,32]).bind fun c=>(idx c 0).bind fun _=>(c[0]?).bind fun f=>(lJ f 32).bind fun g=>(eff.cutL c (some 1) none).bind fun e=>ak (fun(⟨j,k,l,m,n,o,p,q,s,t,u,v,w,x,y,z,A⟩:Int×Int×Int×Str×(List aC)×(List Str)×(List bF)×Int×Int×Int×Str×(List aC)×(List Str)×(List bF)×(List Str)×Int×Int)=>bif (decide (A<z))then (idx y A).bind fun h=>(yG h (w.length:Int)).bind fun d=>bif (!d.2)then some (.inr (aC.mk 0 0 0 [] [] [] [],false))else (gd (x.length+([bF.mk d.1 []]).length)).bind fun _=>some (.inl (j,k,l,m,n,o,p,q,s,t,u,v,w,x++([bF.mk d.1 []]),y,z,w64 (A+1)))else ((pX (aC.mk q s t u v w x)).bind fun i=>bif (!i)then some (aC.mk 0 0 0 [] [] [] [],false)else some (aC.mk q s t u v w x,true)).bind fun r=>some (.inr r)) (0,0,0,[],[],[],[],5,0,0,[],[],g,[],e,(e.length:Int),0)
def Ym:Fsp:=⟨207,[shF .str],[shT .val,shF .bool],true,false,fun x=>nR x⟩
def Ah(a:Str):Option (Int):=(nR a).bind fun g=>bif g.2 then some ((-1))else (kK a [59,32]).bind fun c=>(idx c 0).bind fun _=>(c[0]?).bind fun h=>(lJ h 32).bind fun e=>(qH e).bind fun i=>bif (!i)then some (0)else (eff.cutL c (some 1) none).bind fun f=>ak (fun(⟨k,l,m,n⟩:(List Str)×(List Str)×Int×Int)=>bif (decide (n<m))then (idx l n).bind fun j=>(yG j (k.length:Int)).bind fun d=>bif (!d.2)then some (.inr (w64 (n+1)))else bif (decide (n>=12))then some (.inr (w64 (n+1)))else some (.inl (k,l,m,w64 (n+1)))else some (.inr ((-1)))) (e,f,(f.length:Int),0)
def Yu:Fsp:=⟨208,[shF .str],[shF .int],true,false,fun x=>Ah x⟩
def rO(a:Int)(b:aC):Option (aC):=bif (b.kind != 5)then (lM 4).bind fun e=>some (bW e)else (pX (bW b)).bind fun f=>bif (!f)then (lM 4).bind fun g=>some (bW g)else bif (decide (a<0))then (lM 4).bind fun h=>some (bW h)else (lN (bW b)).bind fun d=>ak (fun(⟨j,k,l,m,o,p,q,r,s,t,u,v,w,x,y,z,A⟩:Int×Int×Int×Int×Str×(List aC)×(List Str)×(List bF)×Int×Int×Int×Str×(List aC)×(List Str)×(List bF)×Int×Int)=>bif (decide (A<z))then (idx y A).bind fun _=>(y[A.toNat]?).bind fun i=>some (.inl (j,k,l,m,o,p,q,r,s,t,u,v,w,x,y.set A.toNat (bF.mk i.cells [bK.mk j A]),z,w64 (A+1)))else some (.inr (aC.mk s t u v w x y))) (a,0,0,0,[],[],[],[],d.kind,d.n,d.step,d.text,d.list,d.columns,d.rows,(d.rows.length:Int),0)
def QU:Fsp:=⟨209,[shF .int,shT .val],[shT .val],true,false,fun x=>rO x.1 x.2⟩
def l9(a:aj):Option (bG):=(jr a).bind fun d=>bif (!d)then some (bG.mk 0 [] (af.mk 0 0 [] []) (aC.mk 0 0 0 [] [] [] []) 0)else bif (a.kind==1)then some (bG.mk 1 [] (af.mk 0 0 [] []) (aC.mk 0 0 0 [] [] [] []) 0)else bif (a.kind==3)then (Ae a.n).bind fun e=>some (bG.mk 3 a.name (af.mk 0 0 [] []) (bW e) 0)else bif (a.kind==2)then (uM a.code).bind fun b=>bif (decide (b.2>=0))then (lM 8).bind fun f=>some (bG.mk 4 a.name (af.mk 0 0 [] []) (bW f) b.2)else some (bG.mk 2 a.name (ah b.1) (aC.mk 0 0 0 [] [] [] []) 0)else (nR a.code).bind fun c=>bif (!c.2)then (lM 8).bind fun g=>(Ah a.code).bind fun h=>some (bG.mk 4 a.name (af.mk 0 0 [] []) (bW g) h)else (rO a.id (bW c.1)).bind fun i=>some (bG.mk 3 a.name (af.mk 0 0 [] []) (bW i) 0)
def Rt:Fsp:=⟨175,[shT .cell],[shT .part],false,false,fun x=>l9 x⟩
def oq(a:au):Option ((List bG)):=(jT a).bind fun d=>bif (!d)then some ([])else ak (fun(⟨f,g,h,i⟩:(List bG)×(List aj)×Int×Int)=>bif (decide (i<h))then (idx g i).bind fun e=>(l9 e).bind fun c=>(gd (f.length+[kQ c].length)).bind fun _=>some (.inl (f++[kQ c],g,h,w64 (i+1)))else some (.inr (f))) ([],a.cells,(a.cells.length:Int),0)
def UL:Fsp:=⟨123,[shT .notebook],[slF .part],false,true,fun x=>oq x⟩
def yF(a:List bG)(b:Str):Option ((List Int)):=ak (fun(⟨e,f,g,h,i⟩:Str×(List Int)×(List bG)×Int×Int)=>bif (decide (i<h))then (idx g i).bind fun d=>bif (d.kind != 1)then bif (d.name==e)then (gd (f.length+[i].length)).bind fun _=>some (.inl (e,f++[i],g,h,w64 (i+1)))else some (.inl (e,f,g,h,w64 (i+1)))else some (.inl (e,f,g,h,w64 (i+1)))else some (.inr (f))) (b,[],a,(a.length:Int),0)
def aa1:Fsp:=⟨127,[slF .part,shF .str],[slF .int],true,false,fun x=>yF x.1 x.2⟩
def IZ(a:List bG)(b:Str):Option (Int):=(yF a b).bind fun c=>bif ((c.length:Int)==0)then some ((-1))else bif ((c.length:Int)==1)then (idx c 0).bind fun _=>(c[0]?).bind fun d=>some (d)else some ((-2))
def adK:Fsp:=⟨126,[slF .part,shF .str],[shF .int],true,false,fun x=>IZ x.1 x.2⟩
def pJ(a:List Str):Option ((List Str)):=ak (fun(⟨f,g,h,i,j⟩:(List Str)×(List Str)×(List Str)×Int×Int)=>bif (decide (j<i))then (idx h j).bind fun c=>(mQ f c).bind fun d=>bif (d==j)then (gd (g.length+([c]:List Str).length)).bind fun _=>some (.inl (f,g++([c]:List Str),h,i,w64 (j+1)))else some (.inl (f,g,h,i,w64 (j+1)))else ((iV g).bind fun e=>some (e)).bind fun r=>some (.inr r)) (a,[],a,(a.length:Int),0)
def Ye:Fsp:=⟨214,[slF .str],[slF .str],true,false,fun x=>pJ x⟩
def pK(a:af):Option (List Str):=(jG (siz a+1) a []).bind fun es=>(gd es.length).bind fun _=>pJ (es.map (·.1))
def Yq:Fsp:=⟨179,[shT .expr],[slF .str],true,false,fun x=>pK x⟩
def Aa(a:bG):Option ((List Str)):=bif (a.kind != 2)then some ([])else (pK (ah a.expr)).bind fun b=>some (b)
def agS:Fsp:=⟨129,[shT .part],[slF .str],true,false,fun x=>Aa x⟩
def jv(a:af)(b c:Str):Option Bool:=(jG (siz a+1) a []).bind fun es=>(gd es.length).bind fun _=>some (es.any fun p=>p.1==b&&p.2.contains c)
def UD:Fsp:=⟨130,[shT .expr,shF .str,shF .str],[shF .bool],true,false,fun x=>jv x.1 x.2.1 x.2.2⟩
def GV(riCopyExpr:af->Option (af))(a:af):Option (af):=ak (fun(⟨e,f,g,h,i,j,k,l,m,o,p⟩:Int×Int×Str×(List af)×Int×Int×Str×(List af)×(List af)×Int×Int)=>bif (decide (p<o))then (idx m p).bind fun d=>(riCopyExpr (ah d)).bind fun c=>(gd (l.length+[ah c].length)).bind fun _=>some (.inl (e,f,g,h,i,j,k,l++[ah c],m,o,w64 (p+1)))else some (.inr (af.mk i j k l))) (0,0,[],[],a.kind,a.n,a.text,[],a.args,(a.args.length:Int),0)
def uO:Nat->(af->Option (af))
 | 0=>fun _=>none
 | n+1=>GV (uO n)
def Es(a:af):Option (af):=(uO (siz a+1)) a
def aa4:Fsp:=⟨218,[shT .expr],[shT .expr],true,false,fun x=>Es x⟩
def Jf(n:Nat):Fsp:=⟨218,[shT .expr],[shT .expr],true,false,fun x=>(uO n) x⟩
def jq(riRenamed:af->Str->Str->Option (af)):(Str×Str×Int×Int×Str×(List af)×Int×Int×Str×(List af)×Bool×(List af)×Int×Int)->Option ((Str×Str×Int×Int×Str×(List af)×Int×Int×Str×(List af)×Bool×(List af)×Int×Int)⊕(af)):=
(fun (x1:Str×Str×Int×Int×Str×(List af)×Int×Int×Str×(List af)×Bool×(List af)×Int×Int)=>
     bif (decide (x1.2.2.2.2.2.2.2.2.2.2.2.2.2<x1.2.2.2.2.2.2.2.2.2.2.2.2.1))then
      (idx x1.2.2.2.2.2.2.2.2.2.2.2.1 x1.2.2.2.2.2.2.2.2.2.2.2.2.2).bind fun e2=>
      bif x1.2.2.2.2.2.2.2.2.2.2.1 then
       bif (decide (x1.2.2.2.2.2.2.2.2.2.2.2.2.2>0))then
        (Es (ah e2)).bind fun r3=>
        (gd (x1.2.2.2.2.2.2.2.2.2.1.length+[ah r3].length)).bind fun _=>
        some (.inl (x1.1,x1.2.1,x1.2.2.1,x1.2.2.2.1,x1.2.2.2.2.1,x1.2.2.2.2.2.1,x1.2.2.2.2.2.2.1,x1.2.2.2.2.2.2.2.1,x1.2.2.2.2.2.2.2.2.1,x1.2.2.2.2.2.2.2.2.2.1++[ah r3],x1.2.2.2.2.2.2.2.2.2.2.1,x1.2.2.2.2.2.2.2.2.2.2.2.1,x1.2.2.2.2.2.2.2.2.2.2.2.2.1,w64 (x1.2.2.2.2.2.2.2.2.2.2.2.2.2+1)))
       else
        (riRenamed (ah e2) x1.1 x1.2.1).bind fun r4=>
        (gd (x1.2.2.2.2.2.2.2.2.2.1.length+[ah r4].length)).bind fun _=>
        some (.inl (x1.1,x1.2.1,x1.2.2.1,x1.2.2.2.1,x1.2.2.2.2.1,x1.2.2.2.2.2.1,x1.2.2.2.2.2.2.1,x1.2.2.2.2.2.2.2.1,x1.2.2.2.2.2.2.2.2.1,x1.2.2.2.2.2.2.2.2.2.1++[ah r4],x1.2.2.2.2.2.2.2.2.2.2.1,x1.2.2.2.2.2.2.2.2.2.2.2.1,x1.2.2.2.2.2.2.2.2.2.2.2.2.1,w64 (x1.2.2.2.2.2.2.2.2.2.2.2.2.2+1)))
      else
       (riRenamed (ah e2) x1.1 x1.2.1).bind fun r5=>
       (gd (x1.2.2.2.2.2.2.2.2.2.1.length+[ah r5].length)).bind fun _=>
       some (.inl (x1.1,x1.2.1,x1.2.2.1,x1.2.2.2.1,x1.2.2.2.2.1,x1.2.2.2.2.2.1,x1.2.2.2.2.2.2.1,x1.2.2.2.2.2.2.2.1,x1.2.2.2.2.2.2.2.2.1,x1.2.2.2.2.2.2.2.2.2.1++[ah r5],x1.2.2.2.2.2.2.2.2.2.2.1,x1.2.2.2.2.2.2.2.2.2.2.2.1,x1.2.2.2.2.2.2.2.2.2.2.2.2.1,w64 (x1.2.2.2.2.2.2.2.2.2.2.2.2.2+1)))
     else
      some (.inr (af.mk x1.2.2.2.2.2.2.1 x1.2.2.2.2.2.2.2.1 x1.2.2.2.2.2.2.2.2.1 x1.2.2.2.2.2.2.2.2.2.1))
  )
def Ej(riRenamed:af->Str->Str->Option (af))(a:af)(b:Str)(c:Str):Option (af):=bif (a.kind==3)then bif (a.text==b)then bif (a.kind==7)then ak (jq riRenamed) (b,c,0,0,[],[],a.kind,a.n,c,[],(a.text==b),a.args,(a.args.length:Int),0)else bif (a.kind==9)then ak (jq riRenamed) (b,c,0,0,[],[],a.kind,a.n,c,[],(a.text==b),a.args,(a.args.length:Int),0)else ak (jq riRenamed) (b,c,0,0,[],[],a.kind,a.n,c,[],false,a.args,(a.args.length:Int),0)else bif (a.kind==7)then ak (jq riRenamed) (b,c,0,0,[],[],a.kind,a.n,a.text,[],(a.text==b),a.args,(a.args.length:Int),0)else bif (a.kind==9)then ak (jq riRenamed) (b,c,0,0,[],[],a.kind,a.n,a.text,[],(a.text==b),a.args,(a.args.length:Int),0)else ak (jq riRenamed) (b,c,0,0,[],[],a.kind,a.n,a.text,[],false,a.args,(a.args.length:Int),0)else bif (a.kind==7)then ak (jq riRenamed) (b,c,0,0,[],[],a.kind,a.n,a.text,[],(a.text==b),a.args,(a.args.length:Int),0)else bif (a.kind==9)then ak (jq riRenamed) (b,c,0,0,[],[],a.kind,a.n,a.text,[],(a.text==b),a.args,(a.args.length:Int),0)else ak (jq riRenamed) (b,c,0,0,[],[],a.kind,a.n,a.text,[],false,a.args,(a.args.length:Int),0)
def yB:Nat->(af->Str->Str->Option (af))
 | 0=>fun _ _ _=>none
 | n+1=>Ej (yB n)
def QY(a:af)(b:Str)(c:Str):Option (af):=(yB (siz a+1)) a b c
def adL:Fsp:=⟨183,[shT .expr,shF .str,shF .str],[shT .expr],true,false,fun x=>QY x.1 x.2.1 x.2.2⟩
def MR(n:Nat):Fsp:=⟨183,[shT .expr,shF .str,shF .str],[shT .expr],true,false,fun x=>(yB n) x.1 x.2.1 x.2.2⟩
def nZ(a:af)(b:Str)(c:Str):Option (af×Bool):=(gW (ah a)).bind fun d=>bif (!d)then some (af.mk 0 0 [] [],false)else (bU b).bind fun e=>bif (!e)then some (af.mk 0 0 [] [],false)else (bU c).bind fun f=>bif (!f)then some (af.mk 0 0 [] [],false)else (jv (ah a) b c).bind fun g=>bif g then some (af.mk 0 0 [] [],false)else (QY (ah a) b c).bind fun h=>some (ah h,true)
def Ut:Fsp:=⟨131,[shT .expr,shF .str,shF .str],[shT .expr,shF .bool],true,false,fun x=>nZ x.1 x.2.1 x.2.2⟩
def agL:Fsp:=⟨249,[shF .int],[shF .str],true,false,fun x=>Eg x⟩
def Ag(a:Int):Option (Str):=(Eg a).bind fun b=>some (b)
def Yr:Fsp:=⟨219,[shF .int],[shF .str],true,false,fun x=>Ag x⟩
def agK:Fsp:=⟨280,[slF .str,shF .str],[shF .str],true,false,fun x=>Ef x.1 x.2⟩
def aaW(a:List Str)(b:Str):Option (Str):=(Ef a b).bind fun c=>some (c)
def ak9:Fsp:=⟨250,[slF .str,shF .str],[shF .str],true,false,fun x=>aaW x.1 x.2⟩
def I9(a:af):Option (Int):=bif (a.kind==7)then some (0)else bif (a.kind==8)then some (0)else bif (a.kind==9)then some (0)else bif (a.kind==6)then bif (a.n==4)then some (1)else bif (a.n==5)then some (1)else bif (a.n==1)then some (2)else bif (a.n==2)then some (2)else bif (a.n==3)then some (3)else some (4)else some (4)
def adP:Fsp:=⟨221,[shT .expr],[shF .int],true,false,fun x=>I9 x⟩
def QW(riSource:af->Option (Str))(riSources:(List af)->Option (Str))(riEnclosed:af->Int->Option (Str))(a:af):Option (Str):=bif (a.kind==1)then (Ag a.n).bind fun A=>some (A)else bif (a.kind==2)then (gd ([34].length+a.text.length)).bind fun _=>(gd (([34]++a.text).length+[34].length)).bind fun _=>some (([34]++a.text)++[34])else bif (a.kind==3)then some (a.text)else bif (a.kind==4)then (riSources a.args).bind fun p=>(gd ([91].length+p.length)).bind fun _=>(gd (([91]++p).length+[93].length)).bind fun _=>some (([91]++p)++[93])else bif (a.kind==5)then (gd (a.text.length+[40].length)).bind fun _=>(riSources a.args).bind fun q=>(gd ((a.text++[40]).length+q.length)).bind fun _=>(gd (((a.text++[40])++q).length+[41].length)).bind fun _=>some (((a.text++[40])++q)++[41])else bif (a.kind==7)then (gd ([108,101,116,32].length+a.text.length)).bind fun _=>(gd (([108,101,116,32]++a.text).length+[32,61,32].length)).bind fun _=>(idx a.args 0).bind fun B=>(riSource (ah B)).bind fun o=>(gd ((([108,101,116,32]++a.text)++[32,61,32]).length+o.length)).bind fun _=>(gd (((([108,101,116,32]++a.text)++[32,61,32])++o).length+[32,105,110,32].length)).bind fun _=>(idx a.args 1).bind fun C=>(riSource (ah C)).bind fun z=>(gd ((((([108,101,116,32]++a.text)++[32,61,32])++o)++[32,105,110,32]).length+z.length)).bind fun _=>some ((((([108,101,116,32]++a.text)++[32,61,32])++o)++[32,105,110,32])++z)else bif (a.kind==8)then (idx a.args 0).bind fun D=>(riSource (ah D)).bind fun i=>(gd ([105,102,32].length+i.length)).bind fun _=>(gd (([105,102,32]++i).length+[32,116,104,101,110,32].length)).bind fun _=>(idx a.args 1).bind fun r=>(riSource (ah r)).bind fun d=>(gd ((([105,102,32]++i)++[32,116,104,101,110,32]).length+d.length)).bind fun _=>(gd (((([105,102,32]++i)++[32,116,104,101,110,32])++d).length+[32,101,108,115,101,32].length)).bind fun _=>(idx a.args 2).bind fun s=>(riSource (ah s)).bind fun j=>(gd ((((([105,102,32]++i)++[32,116,104,101,110,32])++d)++[32,101,108,115,101,32]).length+j.length)).bind fun _=>some ((((([105,102,32]++i)++[32,116,104,101,110,32])++d)++[32,101,108,115,101,32])++j)else bif (a.kind==9)then (gd ([102,111,114,32].length+a.text.length)).bind fun _=>(gd (([102,111,114,32]++a.text).length+[32,105,110,32].length)).bind fun _=>(idx a.args 0).bind fun t=>(riSource (ah t)).bind fun e=>(gd ((([102,111,114,32]++a.text)++[32,105,110,32]).length+e.length)).bind fun _=>(gd (((([102,111,114,32]++a.text)++[32,105,110,32])++e).length+[32,100,111,32].length)).bind fun _=>(idx a.args 1).bind fun u=>(riSource (ah u)).bind fun k=>(gd ((((([102,111,114,32]++a.text)++[32,105,110,32])++e)++[32,100,111,32]).length+k.length)).bind fun _=>some ((((([102,111,114,32]++a.text)++[32,105,110,32])++e)++[32,100,111,32])++k)else (I9 (ah a)).bind fun f=>bif (f==1)then (idx a.args 0).bind fun v=>(riEnclosed (ah v) 2).bind fun b=>(gd (b.length+[32].length)).bind fun _=>(sZ a.n).bind fun g=>(gd ((b++[32]).length+g.length)).bind fun _=>(gd (((b++[32])++g).length+[32].length)).bind fun _=>(idx a.args 1).bind fun w=>(riEnclosed (ah w) (w64 (f+1))).bind fun l=>(gd ((((b++[32])++g)++[32]).length+l.length)).bind fun _=>some ((((b++[32])++g)++[32])++l)else (idx a.args 0).bind fun x=>(riEnclosed (ah x) f).bind fun c=>(gd (c.length+[32].length)).bind fun _=>(sZ a.n).bind fun h=>(gd ((c++[32]).length+h.length)).bind fun _=>(gd (((c++[32])++h).length+[32].length)).bind fun _=>(idx a.args 1).bind fun y=>(riEnclosed (ah y) (w64 (f+1))).bind fun m=>(gd ((((c++[32])++h)++[32]).length+m.length)).bind fun _=>
 some ((((c++[32])++h)++[32])++m)
def KI(riSource:af->Option (Str))(riSources:(List af)->Option (Str))(riEnclosed:af->Int->Option (Str))(a:List af):Option (Str):=ak (fun(⟨f,g,h,i⟩:(List Str)×(List af)×Int×Int)=>bif (decide (i<h))then (idx g i).bind fun d=>(riSource (ah d)).bind fun c=>(gd (f.length+([c]:List Str).length)).bind fun _=>some (.inl (f++([c]:List Str),g,h,w64 (i+1)))else ((aaW f [44,32]).bind fun e=>some (e)).bind fun r=>some (.inr r)) ([],a,(a.length:Int),0)
def GU(riSource:af->Option (Str))(riSources:(List af)->Option (Str))(riEnclosed:af->Int->Option (Str))(a:af)(b:Int):Option (Str):=(riSource (ah a)).bind fun c=>(I9 (ah a)).bind fun d=>bif (decide (d<b))then (gd ([40].length+c.length)).bind fun _=>(gd (([40]++c).length+[41].length)).bind fun _=>some (([40]++c)++[41])else some (c)
def dm:Nat->(af->Option (Str))×((List af)->Option (Str))×(af->Int->Option (Str))
 | 0=>(fun _=>none,fun _=>none,fun _ _=>none)
 | n+1=>(QW (dm n).1 (dm n).2.1 (dm n).2.2,KI (dm n).1 (dm n).2.1 (dm n).2.2,GU (dm n).1 (dm n).2.1 (dm n).2.2)
def Yd(a:af):Option (Str):=(dm (siz a+1)).1 a
def agY:Fsp:=⟨184,[shT .expr],[shF .str],true,false,fun x=>Yd x⟩
def QV(n:Nat):Fsp:=⟨184,[shT .expr],[shF .str],true,false,fun x=>(dm n).1 x⟩
def ajt(a:List af):Option (Str):=(dm (siz a+1)).2.1 a
def adI:Fsp:=⟨220,[slF .expr],[shF .str],true,false,fun x=>ajt x⟩
def MQ(n:Nat):Fsp:=⟨220,[slF .expr],[shF .str],true,false,fun x=>(dm n).2.1 x⟩
def ag1(a:af)(b:Int):Option (Str):=(dm (siz a+1)).2.2 a b
def aa0:Fsp:=⟨222,[shT .expr,shF .int],[shF .str],true,false,fun x=>ag1 x.1 x.2⟩
def Jd(n:Nat):Fsp:=⟨222,[shT .expr,shF .int],[shF .str],true,false,fun x=>(dm n).2.2 x.1 x.2⟩
def oh(a:af):Option (Str):=(gW (ah a)).bind fun b=>bif (!b)then some ([])else (Yd (ah a)).bind fun c=>some (c)
def UF:Fsp:=⟨132,[shT .expr],[shF .str],true,false,fun x=>oh x⟩
def Em(a:au)(b:Str)(c:Str)(d:Bool):Option (au×Int):=(oq a).bind fun o=>(jT a).bind fun C=>bif (!C)then some (a,1)else (bU b).bind fun D=>bif (!D)then some (a,1)else (bU c).bind fun E=>bif (!E)then some (a,1)else bif (b==c)then some (a,1)else (IZ o b).bind fun B=>bif (decide (B<0))then some (a,2)else (yF o c).bind fun F=>ak (fun(⟨H,I,J,K,L,M,N,O,P,Q,R,S⟩:Str×Str×Bool×(List aj)×(List aj)×(List bG)×Int×Bool×Bool×(List bG)×Int×Int)=>bif (decide (S<R))then (idx Q S).bind fun p=>bif O then bif P then some (.inl (H,I,J,K,L,M,N,true,true,Q,R,w64 (S+1)))else bif (p.kind==2)then (jv (ah p.expr) H I).bind fun G=>some (.inl (H,I,J,K,L,M,N,true,G,Q,R,w64 (S+1)))else some (.inl (H,I,J,K,L,M,N,true,false,Q,R,w64 (S+1)))else (Aa (kQ p)).bind fun s=>(mQ s I).bind fun l=>bif P then some (.inl (H,I,J,K,L,M,N,(decide (l>=0)),true,Q,R,w64 (S+1)))else bif (p.kind==2)then (jv (ah p.expr) H I).bind fun t=>some (.inl (H,I,J,K,L,M,N,(decide (l>=0)),t,Q,R,w64 (S+1)))else some (.inl (H,I,J,K,L,M,N,(decide (l>=0)),false,Q,R,w64 (S+1)))else (bif O then some (au.mk K,3)else bif P then some (au.mk K,4)else (iQ (au.mk K)).bind fun m=>(idx m.cells N).bind fun _=>(m.cells[N.toNat]?).bind fun i=>ak (fun(⟨g,T,U,V,W,X,Y,Z,aa,ac⟩:Str×Str×Bool×(List aj)×(List aj)×(List aj)×Bool×(List bG)×Int×Int)=>bif (decide (ac<aa))then (idx Z ac).bind fun q=>(Aa (kQ q)).bind fun u=>(mQ u g).bind fun v=>bif (decide (v<0))then some (.inl (g,T,U,V,W,X,Y,Z,aa,w64 (ac+1)))else (nZ (ah q.expr) g T).bind fun w=>(oh (ah w.1)).bind fun h=>(idx X ac).bind fun _=>(X[ac.toNat]?).bind fun f=>(idx (X.set ac.toNat (aj.mk f.id f.version f.kind f.name h f.n)) ac).bind fun _=>((X.set ac.toNat (aj.mk f.id f.version f.kind f.name h f.n))[ac.toNat]?).bind fun x=>bif (decide ((x.code.length:Int)>120))then some (.inr (au.mk V,5))else bif U then bif Y then (idx (X.set ac.toNat (aj.mk f.id f.version f.kind f.name h f.n)) ac).bind fun _=>((X.set ac.toNat (aj.mk f.id f.version f.kind f.name h f.n))[ac.toNat]?).bind fun y=>(idx (X.set ac.toNat (aj.mk f.id f.version f.kind f.name h f.n)) ac).bind fun _=>((X.set ac.toNat (aj.mk f.id f.version f.kind f.name h f.n))[ac.toNat]?).bind fun j=>some (.inl (g,T,U,V,W,(X.set ac.toNat (aj.mk f.id f.version f.kind f.name h f.n)).set ac.toNat (aj.mk j.id (w64 (y.version+1)) j.kind j.name j.code j.n),true,Z,aa,w64 (ac+1)))
      else
       (idx (X.set ac.toNat (aj.mk f.id f.version f.kind f.name h f.n)) ac).bind fun _=>
       ((X.set ac.toNat (aj.mk f.id f.version f.kind f.name h f.n))[ac.toNat]?).bind fun z=>
       (idx (X.set ac.toNat (aj.mk f.id f.version f.kind f.name h f.n)) ac).bind fun _=>
       ((X.set ac.toNat (aj.mk f.id f.version f.kind f.name h f.n))[ac.toNat]?).bind fun A=>
       (idx (X.set ac.toNat (aj.mk f.id f.version f.kind f.name h f.n)) ac).bind fun _=>
       ((X.set ac.toNat (aj.mk f.id f.version f.kind f.name h f.n))[ac.toNat]?).bind fun k=>
       some (.inl (g,T,U,V,W,(X.set ac.toNat (aj.mk f.id f.version f.kind f.name h f.n)).set ac.toNat (aj.mk k.id (w64 (A.version+1)) k.kind k.name k.code k.n),(decide (z.version>=999)),Z,aa,w64 (ac+1)))
     else
      some (.inl (g,T,U,V,W,X.set ac.toNat (aj.mk f.id f.version f.kind f.name h f.n),Y,Z,aa,w64 (ac+1)))
    else
     (
      bif Y then
       some (au.mk V,6)
      else
       some (au.mk X,0)
     ).bind fun r=>some (.inr r)
   ) (H,I,J,K,L,m.cells.set N.toNat (aj.mk i.id i.version i.kind I i.code i.n),false,M,(M.length:Int),0)
  ).bind fun r=>some (.inr r)
 ) (b,c,d,a.cells,[],o,B,(decide ((F.length:Int)>0)),false,o,(o.length:Int),0)
def aaS:Fsp:=⟨72,[shT .notebook,shF .str,shF .str,shF .bool],[shT .notebook,shF .int],false,false,fun x=>Em x.1 x.2.1 x.2.2.1 x.2.2.2⟩
def ny(a:au)(b:Str)(c:Str):Option (au×Int):=(Em a b c true).bind fun d=>(iQ d.1).bind fun e=>some (e,d.2)
def I4:Fsp:=⟨26,[shT .notebook,shF .str,shF .str],[shT .notebook,shF .int],true,false,fun x=>ny x.1 x.2.1 x.2.2⟩
def jU(a:au)(b:au):Option ((List Int)):=ak (fun(⟨g,h,i,j,k⟩:(List aj)×(List Int)×(List aj)×Int×Int)=>bif (decide (k<j))then (idx i k).bind fun d=>(lQ (au.mk g) d.id).bind fun e=>bif (decide (e>=0))then (idx g e).bind fun f=>bif (f.version != d.version)then (gd (h.length+[d.id].length)).bind fun _=>some (.inl (g,h++[d.id],i,j,w64 (k+1)))else some (.inl (g,h,i,j,w64 (k+1)))else some (.inl (g,h,i,j,w64 (k+1)))else some (.inr (h))) (b.cells,[],a.cells,(a.cells.length:Int),0)
def GX:Fsp:=⟨28,[shT .notebook,shT .notebook],[slF .int],true,false,fun x=>jU x.1 x.2⟩
def nP(a:au)(b:Int):Option (Int):=(lQ a b).bind fun c=>(idx a.cells c).bind fun d=>some (d.version)
def Ya:Fsp:=⟨30,[shT .notebook,shF .int],[shF .int],true,false,fun x=>nP x.1 x.2⟩
def Ac(a:List aB)(b:Int)(c:Int):Option (Int):=ak (fun(⟨f,g,h,i,j⟩:Int×Int×(List aB)×Int×Int)=>bif (decide (j<i))then (idx h j).bind fun e=>bif (e.cell==f)then bif (e.version==g)then some (.inr (j))else some (.inl (f,g,h,i,w64 (j+1)))else some (.inl (f,g,h,i,w64 (j+1)))else some (.inr ((-1)))) (b,c,a,(a.length:Int),0)
def Yb:Fsp:=⟨133,[slF .tape,shF .int,shF .int],[shF .int],true,false,fun x=>Ac x.1 x.2.1 x.2.2⟩
def yA(a:aN)(b:aN):Option (Bool):=bif (a.kind==b.kind)then bif (a.n==b.n)then bif (a.text==b.text)then some ((a.time==b.time))else some (false)else some (false)else some (false)
def aaR:Fsp:=⟨224,[shT .read,shT .read],[shF .bool],true,false,fun x=>yA x.1 x.2⟩
def Ep(a:List aN)(b:aN):Option (aC×Bool):=ak (fun(⟨g,h,i,j,k,l,m,o,p,q,r,s,t,u,v,w,x,y,z,A,B⟩:Int×Int×Int×Str×Int×Int×Int×Str×(List aC)×(List Str)×(List bF)×Int×Int×Int×Str×(List aC)×(List Str)×(List bF)×(List aN)×Int×Int)=>bif (decide (B<A))then (idx z B).bind fun d=>(yA (iU d) (aN.mk g h i j (aC.mk k l m o p q r))).bind fun e=>bif e then (lN (bW d.result)).bind fun f=>some (.inr (bW f,true))else some (.inl (g,h,i,j,k,l,m,o,p,q,r,s,t,u,v,w,x,y,z,A,w64 (B+1)))else some (.inr (aC.mk 0 0 0 [] [] [] [],false))) (b.kind,b.n,b.time,b.text,b.result.kind,b.result.n,b.result.step,b.result.text,b.result.list,b.result.columns,b.result.rows,0,0,0,[],[],[],[],a,(a.length:Int),0)
def aaZ:Fsp:=⟨185,[slF .read,shT .read],[shT .val,shF .bool],true,false,fun x=>Ep x.1 x.2⟩
def qF(a:List aN)(b:List aN):Option ((List aN)):=(nS a).bind fun f=>ak (fun(⟨h,i,j,k⟩:(List aN)×(List aN)×Int×Int)=>bif (decide (k<j))then (idx i k).bind fun d=>(Ep h (iU d)).bind fun g=>bif (!g.2)then (nS [iU d]).bind fun e=>(gd (h.length+e.length)).bind fun _=>some (.inl (h++e,i,j,w64 (k+1)))else some (.inl (h,i,j,w64 (k+1)))else some (.inr (h))) (f,b,(b.length:Int),0)
def UB:Fsp:=⟨134,[slF .read,slF .read],[slF .read],true,false,fun x=>qF x.1 x.2⟩
def Cm(a:aB)(b:aB):Option (Bool):=bif (decide (a.cell<b.cell))then some (true)else bif (a.cell==b.cell)then some ((decide (a.version<b.version)))else some (false)
def Un:Fsp:=⟨135,[shT .tape,shT .tape],[shF .bool],true,false,fun x=>Cm x.1 x.2⟩
def CB(a:List aB)(b:Int)(c:Int)(d:List aN):Option ((List aB)):=(uN a).bind fun h=>(Ac a b c).bind fun i=>bif (decide (i>=0))then (idx h i).bind fun _=>(h[i.toNat]?).bind fun m=>(qF m.reads d).bind fun n=>(idx h i).bind fun _=>(h[i.toNat]?).bind fun l=>some (h.set i.toNat (aB.mk l.cell l.version n))else bif ((d.length:Int)==0)then some (h)else (qF [] d).bind fun o=>ak (fun(⟨p,q,s,t,u⟩:(List aB)×Int×Int×Int×(List aN))=>bif (decide (q<(p.length:Int)))then (idx p q).bind fun _=>(p[q.toNat]?).bind fun j=>(Cm (aB.mk s t u) j).bind fun k=>bif (!k)then some (.inl (p,w64 (q+1),s,t,u))else ((cutAt p q).bind fun f=>((if q=(f:Int)then some ()else none)).bind fun _=>(gd (0+(p.take f).length)).bind fun _=>(gd (([]++(p.take f)).length+[aB.mk s t u].length)).bind fun _=>((if q=(f:Int)then some ()else none)).bind fun _=>(gd ((([]++(p.take f))++[aB.mk s t u]).length+(p.drop f).length)).bind fun _=>some ((([]++(p.take f))++[aB.mk s t u])++(p.drop f))).bind fun r=>some (.inr r)else ((cutAt p q).bind fun g=>((if q=(g:Int)then some ()else none)).bind fun _=>(gd (0+(p.take g).length)).bind fun _=>(gd (([]++(p.take g)).length+[aB.mk s t u].length)).bind fun _=>((if q=(g:Int)then some ()else none)).bind fun _=>(gd ((([]++(p.take g))++[aB.mk s t u]).length+(p.drop g).length)).bind fun _=>some ((([]++(p.take g))++[aB.mk s t u])++(p.drop g))).bind fun r=>some (.inr r)) (h,0,b,c,o)
def adM:Fsp:=⟨73,[slF .tape,shF .int,shF .int,slF .read],[slF .tape],true,false,fun x=>CB x.1 x.2.1 x.2.2.1 x.2.2.2⟩
def Oc(a:List aB)(b:Int)(c:Int):Option ((List aN)):=(Ac a b c).bind fun d=>bif (decide (d<0))then some ([])else (idx a d).bind fun e=>(nS e.reads).bind fun f=>some (f)
def agW:Fsp:=⟨74,[slF .tape,shF .int,shF .int],[slF .read],true,false,fun x=>Oc x.1 x.2.1 x.2.2⟩
def rP(a:List aB)(b:au)(c:au):Option ((List aB)):=(uN a).bind fun k=>(jU b c).bind fun i=>ak (fun(⟨n,o,p,q,s,t⟩:(List aj)×(List aj)×(List aB)×(List Int)×Int×Int)=>bif (decide (t<s))then (idx q t).bind fun _=>(q[t.toNat]?).bind fun j=>(nP (au.mk o) j).bind fun l=>ak (fun(⟨e,u,v,w,x,y,z,A,B,C,D,E⟩:(List aj)×(List aj)×(List aB)×Int×Int×(List aB)×(List Int)×Int×Int×(List aB)×Int×Int)=>bif (decide (E<D))then (idx C E).bind fun f=>bif (f.cell != w)then (gd (y.length+[f].length)).bind fun _=>some (.inl (e,u,v,w,x,y++[f],z,A,B,C,D,w64 (E+1)))else bif (f.version != x)then (gd (y.length+[f].length)).bind fun _=>some (.inl (e,u,v,w,x,y++[f],z,A,B,C,D,w64 (E+1)))else some (.inl (e,u,v,w,x,y,z,A,B,C,D,w64 (E+1)))else ((nP (au.mk e) w).bind fun m=>(Oc v w m).bind fun g=>(CB y w x g).bind fun h=>some (.inl (e,u,h,z,A,w64 (B+1)))).bind fun r=>some (.inr r)) (n,o,p,j,l,[],q,s,t,p,(p.length:Int),0)else some (.inr (p))) (b.cells,c.cells,k,i,(i.length:Int),0)
def QZ:Fsp:=⟨27,[slF .tape,shT .notebook,shT .notebook],[slF .tape],true,false,fun x=>rP x.1 x.2.1 x.2.2⟩
def wC(a:bM)(b:Int):Option (Int):=ak (fun(⟨e,f,g,h⟩:Int×(List aO)×Int×Int)=>bif (decide (h<g))then (idx f h).bind fun d=>bif (d.cell==e)then some (.inr (h))else some (.inl (e,f,g,w64 (h+1)))else some (.inr ((-1)))) (b,a.entries,(a.entries.length:Int),0)
def UH:Fsp:=⟨29,[shT .engine,shF .int],[shF .int],true,false,fun x=>wC x.1 x.2⟩
def kL(a:bM)(b:Str)(c:Str):Option (bM×Int):=(wE a).bind fun f=>(ny a.notebook b c).bind fun h=>bif (h.2 != 0)then some (f,h.2)else (rP a.tapes a.notebook h.1).bind fun n=>(jU a.notebook h.1).bind fun m=>ak (fun(⟨o,p,q,r,s,t,u,v,w,x,y,z,A,B,C,D,E,F,G,H,I,J,K,L,M,N,O,P,Q,R,S⟩:(List aj)×Int×Int×(List dh)×(List aB)×(List aO)×Int×Int×Int×(List aj)×Int×Int×(List dh)×(List aB)×(List aO)×Int×Int×Int×(List aj)×Int×Int×(List dh)×(List aB)×(List aO)×Int×Int×Int×(List aj)×(List Int)×Int×Int)=>bif (decide (S<R))then (idx Q S).bind fun _=>(Q[S.toNat]?).bind fun i=>(wC (bM.mk (au.mk G) (dJ.mk H I J) K L M N O) i).bind fun g=>bif (decide (g>=0))then (idx L g).bind fun _=>(L[g.toNat]?).bind fun j=>(nP (au.mk o) i).bind fun k=>bif (j.version==k)then (nP (au.mk P) i).bind fun l=>(idx L g).bind fun _=>(L[g.toNat]?).bind fun e=>some (.inl (o,p,q,r,s,t,u,v,w,x,y,z,A,B,C,D,E,F,G,H,I,J,K,L.set g.toNat (aO.mk e.cell l e.stamp e.inputs (bW e.value) e.has),M,N,O,P,Q,R,w64 (S+1)))else some (.inl (o,p,q,r,s,t,u,v,w,x,y,z,A,B,C,D,E,F,G,H,I,J,K,L,M,N,O,P,Q,R,w64 (S+1)))
   else
    some (.inl (o,p,q,r,s,t,u,v,w,x,y,z,A,B,C,D,E,F,G,H,I,J,K,L,M,N,O,P,Q,R,w64 (S+1)))
  else
   some (.inr (bM.mk (au.mk P) (dJ.mk H I J) K L M N O,0))
 ) (a.notebook.cells,a.world.clock,a.world.seed,a.world.files,a.tapes,a.entries,a.next,a.limit,a.work,[],0,0,[],[],[],0,0,0,f.notebook.cells,f.world.clock,f.world.seed,f.world.files,n,f.entries,f.next,f.limit,f.work,h.1.cells,m,(m.length:Int),0)
def I5:Fsp:=⟨7,[shT .engine,shF .str,shF .str],[shT .engine,shF .int],true,false,fun x=>kL x.1 x.2.1 x.2.2⟩
def YS(a:aj)(b:aj):Option (Bool):=bif (a.id != b.id)then some (false)else bif (a.version != b.version)then some (false)else bif (a.kind != b.kind)then some (false)else bif (!(a.name==b.name))then some (false)else bif (!(a.code==b.code))then some (false)else bif (a.n != b.n)then some (false)else some (true)
def ajS:Fsp:=⟨136,[shT .cell,shT .cell],[shF .bool],true,false,fun x=>YS x.1 x.2⟩
def YR(a:List aj)(b:List aj):Option (Bool):=bif ((a.length:Int) != (b.length:Int))then some (false)else ak (fun(⟨g,h,i⟩:(List aj)×(List aj)×Int)=>bif (decide (i<(g.length:Int)))then (idx g i).bind fun d=>(idx h i).bind fun e=>(YS d e).bind fun f=>bif (!f)then some (.inr (false))else some (.inl (g,h,w64 (i+1)))else some (.inr (true))) (a,b,0)
def ahm:Fsp:=⟨76,[slF .cell,slF .cell],[shF .bool],true,false,fun x=>YR x.1 x.2⟩
def Ap(a:au)(b:au):Option (Bool):=(YR a.cells b.cells).bind fun c=>bif (!c)then some (false)else some (true)
def YN:Fsp:=⟨31,[shT .notebook,shT .notebook],[shF .bool],true,false,fun x=>Ap x.1 x.2⟩
def YQ(a:dh)(b:dh):Option (Bool):=bif (!(a.name==b.name))then some (false)else bif (a.n != b.n)then some (false)else some (true)
def ajR:Fsp:=⟨137,[shT .file,shT .file],[shF .bool],true,false,fun x=>YQ x.1 x.2⟩
def YP(a:List dh)(b:List dh):Option (Bool):=bif ((a.length:Int) != (b.length:Int))then some (false)else ak (fun(⟨g,h,i⟩:(List dh)×(List dh)×Int)=>bif (decide (i<(g.length:Int)))then (idx g i).bind fun d=>(idx h i).bind fun e=>(YQ d e).bind fun f=>bif (!f)then some (.inr (false))else some (.inl (g,h,w64 (i+1)))else some (.inr (true))) (a,b,0)
def ahj:Fsp:=⟨77,[slF .file,slF .file],[shF .bool],true,false,fun x=>YP x.1 x.2⟩
def Oi(a:dJ)(b:dJ):Option (Bool):=bif (a.clock != b.clock)then some (false)else bif (a.seed != b.seed)then some (false)else (YP a.files b.files).bind fun c=>bif (!c)then some (false)else some (true)
def aha:Fsp:=⟨32,[shT .world,shT .world],[shF .bool],true,false,fun x=>Oi x.1 x.2⟩
def La(a:List Str)(b:List Str):Option (Bool):=bif ((a.length:Int) != (b.length:Int))then some (false)else ak (fun(⟨f,g,h⟩:(List Str)×(List Str)×Int)=>bif (decide (h<(f.length:Int)))then (idx f h).bind fun d=>(idx g h).bind fun e=>bif (!(d==e))then some (.inr (false))else some (.inl (f,g,w64 (h+1)))else some (.inr (true))) (a,b,0)
def abo:Fsp:=⟨188,[slF .str,slF .str],[shF .bool],true,false,fun x=>La x.1 x.2⟩
def YO(a:List Int)(b:List Int):Option (Bool):=bif ((a.length:Int) != (b.length:Int))then some (false)else ak (fun(⟨f,g,h⟩:(List Int)×(List Int)×Int)=>bif (decide (h<(f.length:Int)))then (idx f h).bind fun d=>(idx g h).bind fun e=>bif (d != e)then some (.inr (false))else some (.inl (f,g,w64 (h+1)))else some (.inr (true))) (a,b,0)
def ajQ:Fsp:=⟨139,[slF .int,slF .int],[shF .bool],true,false,fun x=>YO x.1 x.2⟩
def Jj(a:bK)(b:bK):Option (Bool):=bif (a.cell != b.cell)then some (false)else bif (a.row != b.row)then some (false)else some (true)
def ad6:Fsp:=⟨281,[shT .origin,shT .origin],[shF .bool],true,false,fun x=>Jj x.1 x.2⟩
def Lc(a:List bK)(b:List bK):Option (Bool):=bif ((a.length:Int) != (b.length:Int))then some (false)else ak (fun(⟨g,h,i⟩:(List bK)×(List bK)×Int)=>bif (decide (i<(g.length:Int)))then (idx g i).bind fun d=>(idx h i).bind fun e=>(Jj d e).bind fun f=>bif (!f)then some (.inr (false))else some (.inl (g,h,w64 (i+1)))else some (.inr (true))) (a,b,0)
def abq:Fsp:=⟨251,[slF .origin,slF .origin],[shF .bool],true,false,fun x=>Lc x.1 x.2⟩
def afk(a:bF)(b:bF):Option (Bool):=(YO a.cells b.cells).bind fun c=>bif (!c)then some (false)else (Lc a.orig b.orig).bind fun d=>bif (!d)then some (false)else some (true)
def alh:Fsp:=⟨225,[shT .row,shT .row],[shF .bool],true,false,fun x=>afk x.1 x.2⟩
def ad4(a:List bF)(b:List bF):Option (Bool):=bif ((a.length:Int) != (b.length:Int))then some (false)else ak (fun(⟨g,h,i⟩:(List bF)×(List bF)×Int)=>bif (decide (i<(g.length:Int)))then (idx g i).bind fun d=>(idx h i).bind fun e=>(afk d e).bind fun f=>bif (!f)then some (.inr (false))else some (.inl (g,h,w64 (i+1)))else some (.inr (true))) (a,b,0)
def ajO:Fsp:=⟨189,[slF .row,slF .row],[shF .bool],true,false,fun x=>ad4 x.1 x.2⟩
def RX(reqValue:aC->aC->Option (Bool))(reqValueS:(List aC)->(List aC)->Option (Bool))(a:aC)(b:aC):Option (Bool):=bif (a.kind != b.kind)then some (false)else bif (a.n != b.n)then some (false)else bif (a.step != b.step)then some (false)else bif (!(a.text==b.text))then some (false)else (reqValueS a.list b.list).bind fun c=>bif (!c)then some (false)else (La a.columns b.columns).bind fun d=>bif (!d)then some (false)else (ad4 a.rows b.rows).bind fun e=>bif (!e)then some (false)else some (true)
def ahb(reqValue:aC->aC->Option (Bool))(reqValueS:(List aC)->(List aC)->Option (Bool))(a:List aC)(b:List aC):Option (Bool):=bif ((a.length:Int) != (b.length:Int))then some (false)else ak (fun(⟨g,h,i⟩:(List aC)×(List aC)×Int)=>bif (decide (i<(g.length:Int)))then (idx g i).bind fun d=>(idx h i).bind fun e=>(reqValue (bW d) (bW e)).bind fun f=>bif (!f)then some (.inr (false))else some (.inl (g,h,w64 (i+1)))else some (.inr (true))) (a,b,0)
def jX:Nat->(aC->aC->Option (Bool))×((List aC)->(List aC)->Option (Bool))
 | 0=>(fun _ _=>none,fun _ _=>none)
 | n+1=>(RX (jX n).1 (jX n).2,ahb (jX n).1 (jX n).2)
def Oj(a:aC)(b:aC):Option (Bool):=(jX (siz a+siz b+1)).1 a b
def ahc:Fsp:=⟨140,[shT .val,shT .val],[shF .bool],true,false,fun x=>Oj x.1 x.2⟩
def RV(n:Nat):Fsp:=⟨140,[shT .val,shT .val],[shF .bool],true,false,fun x=>(jX n).1 x.1 x.2⟩
def ajL(a:List aC)(b:List aC):Option (Bool):=(jX (siz a+siz b+1)).2 a b
def ad2:Fsp:=⟨187,[slF .val,slF .val],[shF .bool],true,false,fun x=>ajL x.1 x.2⟩
def MZ(n:Nat):Fsp:=⟨187,[slF .val,slF .val],[shF .bool],true,false,fun x=>(jX n).2 x.1 x.2⟩
def RY(a:aN)(b:aN):Option (Bool):=bif (a.kind != b.kind)then some (false)else bif (a.n != b.n)then some (false)else bif (a.time != b.time)then some (false)else bif (!(a.text==b.text))then some (false)else (Oj (bW a.result) (bW b.result)).bind fun c=>bif (!c)then some (false)else some (true)
def ajP:Fsp:=⟨186,[shT .read,shT .read],[shF .bool],true,false,fun x=>RY x.1 x.2⟩
def YL(a:List aN)(b:List aN):Option (Bool):=bif ((a.length:Int) != (b.length:Int))then some (false)else ak (fun(⟨g,h,i⟩:(List aN)×(List aN)×Int)=>bif (decide (i<(g.length:Int)))then (idx g i).bind fun d=>(idx h i).bind fun e=>(RY (iU d) (iU e)).bind fun f=>bif (!f)then some (.inr (false))else some (.inl (g,h,w64 (i+1)))else some (.inr (true))) (a,b,0)
def ahh:Fsp:=⟨138,[slF .read,slF .read],[shF .bool],true,false,fun x=>YL x.1 x.2⟩
def YJ(a:aB)(b:aB):Option (Bool):=bif (a.cell != b.cell)then some (false)else bif (a.version != b.version)then some (false)else (YL a.reads b.reads).bind fun c=>bif (!c)then some (false)else some (true)
def ajM:Fsp:=⟨78,[shT .tape,shT .tape],[shF .bool],true,false,fun x=>YJ x.1 x.2⟩
def YI(a:List aB)(b:List aB):Option (Bool):=bif ((a.length:Int) != (b.length:Int))then some (false)else ak (fun(⟨g,h,i⟩:(List aB)×(List aB)×Int)=>bif (decide (i<(g.length:Int)))then (idx g i).bind fun d=>(idx h i).bind fun e=>(YJ d e).bind fun f=>bif (!f)then some (.inr (false))else some (.inl (g,h,w64 (i+1)))else some (.inr (true))) (a,b,0)
def ahe:Fsp:=⟨33,[slF .tape,slF .tape],[shF .bool],true,false,fun x=>YI x.1 x.2⟩
def Jk(a:aO)(b:aO):Option (Bool):=bif (a.cell != b.cell)then some (false)else bif (a.version != b.version)then some (false)else bif (a.stamp != b.stamp)then some (false)else (YO a.inputs b.inputs).bind fun c=>bif (!c)then some (false)else (Oj (bW a.value) (bW b.value)).bind fun d=>bif (!d)then some (false)else bif (!(a.has==b.has))then some (false)else some (true)
def ahk:Fsp:=⟨79,[shT .entry,shT .entry],[shF .bool],true,false,fun x=>Jk x.1 x.2⟩
def RZ(a:List aO)(b:List aO):Option (Bool):=bif ((a.length:Int) != (b.length:Int))then some (false)else ak (fun(⟨g,h,i⟩:(List aO)×(List aO)×Int)=>bif (decide (i<(g.length:Int)))then (idx g i).bind fun d=>(idx h i).bind fun e=>(Jk (kF d) (kF e)).bind fun f=>bif (!f)then some (.inr (false))else some (.inl (g,h,w64 (i+1)))else some (.inr (true))) (a,b,0)
def ad9:Fsp:=⟨34,[slF .entry,slF .entry],[shF .bool],true,false,fun x=>RZ x.1 x.2⟩
def qJ(a:bM)(b:bM):Option (Bool):=(Ap a.notebook b.notebook).bind fun c=>bif (!c)then some (false)else (Oi a.world b.world).bind fun d=>bif (!d)then some (false)else (YI a.tapes b.tapes).bind fun e=>bif (!e)then some (false)else (RZ a.entries b.entries).bind fun f=>bif (!f)then some (false)else bif (a.next != b.next)then some (false)else bif (a.limit != b.limit)then some (false)else bif (a.work != b.work)then some (false)else some (true)
def aea:Fsp:=⟨8,[shT .engine,shT .engine],[shF .bool],true,false,fun x=>qJ x.1 x.2⟩
def fF(a:Int):Option (Str):=bif (decide (a<=0))then some ([109,48])else ak (fun (b:Int×Str)=>bif (decide (b.1>0))then (gd ((bytesOf [w8 (w64 (48+(b.1.tmod 10)))]).length+b.2.length)).bind fun _=>some (.inl (w64 (b.1.tdiv 10),(bytesOf [w8 (w64 (48+(b.1.tmod 10)))])++b.2))else ((gd ([109].length+b.2.length)).bind fun _=>some ([109]++b.2)).bind fun r=>some (.inr r)) (a,[])
def ado:Fsp:=⟨84,[shF .int],[shF .str],true,false,fun x=>fF x⟩
def Ea(a:List aj)(b:Int):Option (List aj×Int):=ak (fun(⟨r,s,t⟩:List aj×Int×Int)=>bif (decide (s<(r.length:Int)))then (idx r s).bind fun _=>(r[s.toNat]?).bind fun f=>(some (r.set s.toNat (aj.mk t f.version f.kind f.name f.code f.n))).bind fun j=>(idx j s).bind fun _=>(j[s.toNat]?).bind fun g=>(some (j.set s.toNat (aj.mk g.id (w64 (t+1)) g.kind g.name g.code g.n))).bind fun k=>(idx k s).bind fun _=>(k[s.toNat]?).bind fun h=>(some (k.set s.toNat (aj.mk h.id h.version (w64 ((w64 (t+1))+1)) h.name h.code h.n))).bind fun l=>(fF (w64 ((w64 ((w64 (t+1))+1))+1))).bind fun q=>(idx l s).bind fun _=>(l[s.toNat]?).bind fun i=>(some (l.set s.toNat (aj.mk i.id i.version i.kind q i.code i.n))).bind fun m=>(fF (w64 ((w64 ((w64 ((w64 (t+1))+1))+1))+1))).bind fun o=>(idx m s).bind fun _=>(m[s.toNat]?).bind fun c=>(some (m.set s.toNat (aj.mk c.id c.version c.kind c.name o c.n))).bind fun e=>(idx e s).bind fun _=>(e[s.toNat]?).bind fun d=>(some (e.set s.toNat (aj.mk d.id d.version d.kind d.name d.code (w64 ((w64 ((w64 ((w64 ((w64 (t+1))+1))+1))+1))+1))))).bind fun p=>some (.inl (p,w64 (s+1),w64 ((w64 ((w64 ((w64 ((w64 ((w64 (t+1))+1))+1))+1))+1))+1)))else some (.inr (r,t))) (a,0,b)
def aay:Msp:={ fid:=80,sh:=⟨false,.list (.base .cell)⟩,fn:=fun x n=>Ea x n }
def rH(a:au)(b:Int):Option (au×Int):=(Ea a.cells b).bind fun c=>some (au.mk c.1,c.2)
def QB:Msp:={ fid:=35,sh:=⟨true,.base .notebook⟩,fn:=fun x n=>rH x n }
def D9(a:List dh)(b:Int):Option (List dh×Int):=ak (fun(⟨h,i,j⟩:List dh×Int×Int)=>bif (decide (i<(h.length:Int)))then (fF j).bind fun d=>(idx h i).bind fun _=>(h[i.toNat]?).bind fun e=>(some (h.set i.toNat (dh.mk d e.n))).bind fun c=>(idx c i).bind fun _=>(c[i.toNat]?).bind fun f=>(some (c.set i.toNat (dh.mk f.name (w64 (j+1))))).bind fun g=>some (.inl (g,w64 (i+1),w64 ((w64 (j+1))+1)))else some (.inr (h,j))) (a,0,b)
def aax:Msp:={ fid:=81,sh:=⟨false,.list (.base .file)⟩,fn:=fun x n=>D9 x n }
def D6(a:dJ)(b:Int):Option (dJ×Int):=(D9 a.files b).bind fun c=>some (dJ.mk a.clock a.seed c.1,c.2)
def aau:Msp:={ fid:=36,sh:=⟨true,.base .world⟩,fn:=fun x n=>D6 x n }
def lI(a:List Str)(b:Int):Option (List Str×Int):=ak (fun(⟨f,g,h⟩:List Str×Int×Int)=>bif (decide (g<(f.length:Int)))then (fF h).bind fun c=>(idx f g).bind fun _=>(f[g.toNat]?).bind fun e=>(some (f.set g.toNat c)).bind fun d=>some (.inl (d,w64 (g+1),w64 (h+1)))else some (.inr (f,h))) (a,0,b)
def Uh:Msp:={ fid:=86,sh:=⟨false,.list (.base .str)⟩,fn:=fun x n=>lI x n }
def Cf(a:List Int)(b:Int):Option (List Int×Int):=ak (fun(⟨e,f,g⟩:List Int×Int×Int)=>bif (decide (f<(e.length:Int)))then (idx e f).bind fun _=>(e[f.toNat]?).bind fun d=>(some (e.set f.toNat g)).bind fun c=>some (.inl (c,w64 (f+1),w64 (g+1)))else some (.inr (e,g))) (a,0,b)
def adq:Msp:={ fid:=83,sh:=⟨false,.list (.base .int)⟩,fn:=fun x n=>Cf x n }
def vY(a:List bK)(b:Int):Option (List bK×Int):=ak (fun(⟨g,h,i⟩:List bK×Int×Int)=>bif (decide (h<(g.length:Int)))then (idx g h).bind fun _=>(g[h.toNat]?).bind fun d=>(some (g.set h.toNat (bK.mk i d.row))).bind fun c=>(idx c h).bind fun _=>(c[h.toNat]?).bind fun e=>(some (c.set h.toNat (bK.mk e.cell (w64 (i+1))))).bind fun f=>some (.inl (f,w64 (h+1),w64 ((w64 (i+1))+1)))else some (.inr (g,i))) (a,0,b)
def Ui:Msp:={ fid:=141,sh:=⟨false,.list (.base .origin)⟩,fn:=fun x n=>vY x n }
def uF(a:List bF)(b:Int):Option (List bF×Int):=ak (fun(⟨k,l,m⟩:List bF×Int×Int)=>bif (decide (l<(k.length:Int)))then (idx k l).bind fun _=>(k[l.toNat]?).bind fun i=>(k[l.toNat]?).bind fun d=>(Cf d.cells m).bind fun e=>(some (k.set l.toNat (bF.mk e.1 d.orig))).bind fun c=>(idx c l).bind fun _=>(c[l.toNat]?).bind fun j=>(c[l.toNat]?).bind fun f=>(vY f.orig e.2).bind fun g=>(some (c.set l.toNat (bF.mk f.cells g.1))).bind fun h=>some (.inl (h,w64 (l+1),g.2))else some (.inr (k,m))) (a,0,b)
def adp:Msp:={ fid:=87,sh:=⟨false,.list (.base .row)⟩,fn:=fun x n=>uF x n }
def Cc(rmarkValueS:(List aC)->Int->Option (List aC×Int))(a:List aC)(b:Int):Option (List aC×Int):=ak (fun(⟨z,A,B⟩:List aC×Int×Int)=>bif (decide (A<(z.length:Int)))then (idx z A).bind fun _=>(z[A.toNat]?).bind fun h=>(some (z.set A.toNat (aC.mk B h.n h.step h.text h.list h.columns h.rows))).bind fun q=>(idx q A).bind fun _=>(q[A.toNat]?).bind fun i=>(some (q.set A.toNat (aC.mk i.kind (w64 (B+1)) i.step i.text i.list i.columns i.rows))).bind fun r=>(idx r A).bind fun _=>(r[A.toNat]?).bind fun j=>(some (r.set A.toNat (aC.mk j.kind j.n (w64 ((w64 (B+1))+1)) j.text j.list j.columns j.rows))).bind fun s=>(fF (w64 ((w64 ((w64 (B+1))+1))+1))).bind fun u=>(idx s A).bind fun _=>(s[A.toNat]?).bind fun k=>(some (s.set A.toNat (aC.mk k.kind k.n k.step u k.list k.columns k.rows))).bind fun p=>(idx p A).bind fun _=>(p[A.toNat]?).bind fun v=>(p[A.toNat]?).bind fun c=>(rmarkValueS c.list (w64 ((w64 ((w64 ((w64 (B+1))+1))+1))+1))).bind fun l=>(some (p.set A.toNat (aC.mk c.kind c.n c.step c.text l.1 c.columns c.rows))).bind fun f=>(idx f A).bind fun _=>(f[A.toNat]?).bind fun w=>(f[A.toNat]?).bind fun d=>(lI d.columns l.2).bind fun m=>(some (f.set A.toNat (aC.mk d.kind d.n d.step d.text d.list m.1 d.rows))).bind fun g=>(idx g A).bind fun _=>(g[A.toNat]?).bind fun y=>(g[A.toNat]?).bind fun e=>(uF e.rows m.2).bind fun o=>(some (g.set A.toNat (aC.mk e.kind e.n e.step e.text e.list e.columns o.1))).bind fun t=>some (.inl (t,w64 (A+1),o.2))else some (.inr (z,B))) (a,0,b)
def kz:Nat->(List aC)->Int->Option (List aC×Int)
 | 0=>fun _ _=>none
 | n+1=>Cc (kz n)
def uz(a:List aC)(b:Int):Option (List aC×Int):=kz (siz a+1) a b
def Fh(k:Nat):Msp:={ fid:=85,sh:=⟨false,.list (.base .val)⟩,fn:=fun x n=>kz k x n }
def XV:Msp:={ fid:=85,sh:=⟨false,.list (.base .val)⟩,fn:=fun x n=>uz x n }
def D8(a:List aN)(b:Int):Option (List aN×Int):=ak (fun(⟨I,J,K⟩:List aN×Int×Int)=>bif (decide (J<(I.length:Int)))then (idx I J).bind fun _=>(I[J.toNat]?).bind fun t=>(some (I.set J.toNat (aN.mk K t.n t.time t.text (bW t.result)))).bind fun y=>(idx y J).bind fun _=>(y[J.toNat]?).bind fun u=>(some (y.set J.toNat (aN.mk u.kind (w64 (K+1)) u.time u.text (bW u.result)))).bind fun z=>(idx z J).bind fun _=>(z[J.toNat]?).bind fun v=>(some (z.set J.toNat (aN.mk v.kind v.n (w64 ((w64 (K+1))+1)) v.text (bW v.result)))).bind fun A=>(fF (w64 ((w64 ((w64 (K+1))+1))+1))).bind fun E=>(idx A J).bind fun _=>(A[J.toNat]?).bind fun w=>(some (A.set J.toNat (aN.mk w.kind w.n w.time E (bW w.result)))).bind fun B=>(idx B J).bind fun _=>(B[J.toNat]?).bind fun f=>(some (B.set J.toNat (aN.mk f.kind f.n f.time f.text (aC.mk (w64 ((w64 ((w64 ((w64 (K+1))+1))+1))+1)) f.result.n f.result.step f.result.text f.result.list f.result.columns f.result.rows)))).bind fun m=>(idx m J).bind fun _=>(m[J.toNat]?).bind fun g=>(some (m.set J.toNat (aN.mk g.kind g.n g.time g.text (aC.mk g.result.kind (w64 ((w64 ((w64 ((w64 ((w64 (K+1))+1))+1))+1))+1)) g.result.step g.result.text g.result.list g.result.columns g.result.rows)))).bind fun o=>(idx o J).bind fun _=>(o[J.toNat]?).bind fun h=>(some (o.set J.toNat (aN.mk h.kind h.n h.time h.text (aC.mk h.result.kind h.result.n (w64 ((w64 ((w64 ((w64 ((w64 ((w64 (K+1))+1))+1))+1))+1))+1)) h.result.text h.result.list h.result.columns h.result.rows)))).bind fun p=>(fF (w64 ((w64 ((w64 ((w64 ((w64 ((w64 ((w64 (K+1))+1))+1))+1))+1))+1))+1))).bind fun C=>(idx p J).bind fun _=>(p[J.toNat]?).bind fun i=>(some (p.set J.toNat (aN.mk i.kind i.n i.time i.text (aC.mk i.result.kind i.result.n i.result.step C i.result.list i.result.columns i.result.rows)))).bind fun j=>(idx j J).bind fun _=>(j[J.toNat]?).bind fun F=>(j[J.toNat]?).bind fun c=>(uz c.result.list (w64 ((w64 ((w64 ((w64 ((w64 ((w64 ((w64 ((w64 (K+1))+1))+1))+1))+1))+1))+1))+1))).bind fun q=>(some (j.set J.toNat (aN.mk c.kind c.n c.time c.text (aC.mk c.result.kind c.result.n c.result.step c.result.text q.1 c.result.columns c.result.rows)))).bind fun k=>(idx k J).bind fun _=>(k[J.toNat]?).bind fun G=>(k[J.toNat]?).bind fun d=>(lI d.result.columns q.2).bind fun r=>(some (k.set J.toNat (aN.mk d.kind d.n d.time d.text (aC.mk d.result.kind d.result.n d.result.step d.result.text d.result.list r.1 d.result.rows)))).bind fun l=>(idx l J).bind fun _=>(l[J.toNat]?).bind fun H=>(l[J.toNat]?).bind fun e=>(uF e.result.rows r.2).bind fun s=>(some (l.set J.toNat (aN.mk e.kind e.n e.time e.text (aC.mk e.result.kind e.result.n e.result.step e.result.text e.result.list e.result.columns s.1)))).bind fun D=>some (.inl (D,w64 (J+1),s.2))else some (.inr (I,K))) (a,0,b)
def aaw:Msp:={ fid:=82,sh:=⟨false,.list (.base .read)⟩,fn:=fun x n=>D8 x n }
def D7(a:List aB)(b:Int):Option (List aB×Int):=ak (fun(⟨k,l,m⟩:List aB×Int×Int)=>bif (decide (l<(k.length:Int)))then (idx k l).bind fun _=>(k[l.toNat]?).bind fun f=>(some (k.set l.toNat (aB.mk m f.version f.reads))).bind fun d=>(idx d l).bind fun _=>(d[l.toNat]?).bind fun g=>(some (d.set l.toNat (aB.mk g.cell (w64 (m+1)) g.reads))).bind fun c=>(idx c l).bind fun _=>(c[l.toNat]?).bind fun j=>(c[l.toNat]?).bind fun e=>(D8 e.reads (w64 ((w64 (m+1))+1))).bind fun h=>(some (c.set l.toNat (aB.mk e.cell e.version h.1))).bind fun i=>some (.inl (i,w64 (l+1),h.2))else some (.inr (k,m))) (a,0,b)
def aav:Msp:={ fid:=37,sh:=⟨false,.list (.base .tape)⟩,fn:=fun x n=>D7 x n }
def zV(a:List aO)(b:Int):Option (List aO×Int):=ak (fun(⟨L,M,N⟩:List aO×Int×Int)=>bif (decide (M<(L.length:Int)))then (idx L M).bind fun _=>(L[M.toNat]?).bind fun w=>(some (L.set M.toNat (aO.mk N w.version w.stamp w.inputs (bW w.value) w.has))).bind fun D=>(idx D M).bind fun _=>(D[M.toNat]?).bind fun y=>(some (D.set M.toNat (aO.mk y.cell (w64 (N+1)) y.stamp y.inputs (bW y.value) y.has))).bind fun E=>(idx E M).bind fun _=>(E[M.toNat]?).bind fun z=>(some (E.set M.toNat (aO.mk z.cell z.version (w64 ((w64 (N+1))+1)) z.inputs (bW z.value) z.has))).bind fun C=>(idx C M).bind fun _=>(C[M.toNat]?).bind fun K=>(C[M.toNat]?).bind fun u=>(Cf u.inputs (w64 ((w64 ((w64 (N+1))+1))+1))).bind fun v=>(some (C.set M.toNat (aO.mk u.cell u.version u.stamp v.1 (bW u.value) u.has))).bind fun o=>(idx o M).bind fun _=>(o[M.toNat]?).bind fun f=>(some (o.set M.toNat (aO.mk f.cell f.version f.stamp f.inputs (aC.mk v.2 f.value.n f.value.step f.value.text f.value.list f.value.columns f.value.rows) f.has))).bind fun p=>(idx p M).bind fun _=>(p[M.toNat]?).bind fun g=>(some (p.set M.toNat (aO.mk g.cell g.version g.stamp g.inputs (aC.mk g.value.kind (w64 (v.2+1)) g.value.step g.value.text g.value.list g.value.columns g.value.rows) g.has))).bind fun q=>(idx q M).bind fun _=>(q[M.toNat]?).bind fun h=>(some (q.set M.toNat (aO.mk h.cell h.version h.stamp h.inputs (aC.mk h.value.kind h.value.n (w64 ((w64 (v.2+1))+1)) h.value.text h.value.list h.value.columns h.value.rows) h.has))).bind fun r=>(fF (w64 ((w64 ((w64 (v.2+1))+1))+1))).bind fun F=>(idx r M).bind fun _=>(r[M.toNat]?).bind fun i=>(some (r.set M.toNat (aO.mk i.cell i.version i.stamp i.inputs (aC.mk i.value.kind i.value.n i.value.step F i.value.list i.value.columns i.value.rows) i.has))).bind fun k=>(idx k M).bind fun _=>(k[M.toNat]?).bind fun H=>(k[M.toNat]?).bind fun c=>(uz c.value.list (w64 ((w64 ((w64 ((w64 (v.2+1))+1))+1))+1))).bind fun A=>(some (k.set M.toNat (aO.mk c.cell c.version c.stamp c.inputs (aC.mk c.value.kind c.value.n c.value.step c.value.text A.1 c.value.columns c.value.rows) c.has))).bind fun l=>(idx l M).bind fun _=>(l[M.toNat]?).bind fun I=>(l[M.toNat]?).bind fun d=>(lI d.value.columns A.2).bind fun B=>(some (l.set M.toNat (aO.mk d.cell d.version d.stamp d.inputs (aC.mk d.value.kind d.value.n d.value.step d.value.text d.value.list B.1 d.value.rows) d.has))).bind fun m=>(idx m M).bind fun _=>(m[M.toNat]?).bind fun J=>(m[M.toNat]?).bind fun e=>(uF e.value.rows B.2).bind fun s=>(some (m.set M.toNat (aO.mk e.cell e.version e.stamp e.inputs (aC.mk e.value.kind e.value.n e.value.step e.value.text e.value.list e.value.columns s.1) e.has))).bind fun t=>(idx t M).bind fun _=>(t[M.toNat]?).bind fun j=>(some (t.set M.toNat (aO.mk j.cell j.version j.stamp j.inputs (bW j.value) ((s.2.tmod 3)==0)))).bind fun G=>some (.inl (G,w64 (M+1),w64 (s.2+1)))else some (.inr (L,N))) (a,0,b)
def X0:Msp:={ fid:=38,sh:=⟨false,.list (.base .entry)⟩,fn:=fun x n=>zV x n }
def uG(a:bM)(b:Int):Option (bM×Int):=(rH a.notebook b).bind fun c=>(D6 a.world c.2).bind fun d=>(D7 a.tapes d.2).bind fun e=>(zV a.entries e.2).bind fun f=>some (bM.mk c.1 d.1 e.1 f.1 a.next a.limit a.work,f.2)
def X3:Msp:={ fid:=9,sh:=⟨true,.base .engine⟩,fn:=fun x n=>uG x n }
def ED(a:List aj)(b:Int):Option (Int):=ak (fun(⟨l,m,o⟩:(List aj)×Int×Int)=>bif (decide (o<(l.length:Int)))then (idx l o).bind fun d=>bif (d.id != m)then some (.inr ((-1)))else (idx l o).bind fun e=>bif (e.version != (w64 (m+1)))then some (.inr ((-1)))else (idx l o).bind fun f=>bif (f.kind != (w64 ((w64 (m+1))+1)))then some (.inr ((-1)))else (idx l o).bind fun g=>(fF (w64 ((w64 ((w64 (m+1))+1))+1))).bind fun h=>bif (!(g.name==h))then some (.inr ((-1)))else (idx l o).bind fun i=>(fF (w64 ((w64 ((w64 ((w64 (m+1))+1))+1))+1))).bind fun j=>bif (!(i.code==j))then some (.inr ((-1)))else (idx l o).bind fun k=>bif (k.n != (w64 ((w64 ((w64 ((w64 ((w64 (m+1))+1))+1))+1))+1)))then some (.inr ((-1)))else some (.inl (l,w64 ((w64 ((w64 ((w64 ((w64 ((w64 (m+1))+1))+1))+1))+1))+1),w64 (o+1)))else some (.inr (m))) (a,b,0)
def abe:Fsp:=⟨88,[slF .cell,shF .int],[shF .int],true,false,fun x=>ED x.1 x.2⟩
def rW(a:au)(b:Int):Option (Int):=(ED a.cells b).bind fun c=>bif (decide (c<0))then some ((-1))else some (c)
def Rw:Fsp:=⟨39,[shT .notebook,shF .int],[shF .int],true,false,fun x=>rW x.1 x.2⟩
def EC(a:List dh)(b:Int):Option (Int):=ak (fun(⟨g,h,i⟩:(List dh)×Int×Int)=>bif (decide (i<(g.length:Int)))then (idx g i).bind fun d=>(fF h).bind fun e=>bif (!(d.name==e))then some (.inr ((-1)))else (idx g i).bind fun f=>bif (f.n != (w64 (h+1)))then some (.inr ((-1)))else some (.inl (g,w64 ((w64 (h+1))+1),w64 (i+1)))else some (.inr (h))) (a,b,0)
def abd:Fsp:=⟨89,[slF .file,shF .int],[shF .int],true,false,fun x=>EC x.1 x.2⟩
def Ew(a:dJ)(b:Int):Option (Int):=(EC a.files b).bind fun c=>bif (decide (c<0))then some ((-1))else some (c)
def aa8:Fsp:=⟨40,[shT .world,shF .int],[shF .int],true,false,fun x=>Ew x.1 x.2⟩
def lT(a:List Str)(b:Int):Option (Int):=ak (fun(⟨f,g,h⟩:(List Str)×Int×Int)=>bif (decide (h<(f.length:Int)))then (idx f h).bind fun d=>(fF g).bind fun e=>bif (!(d==e))then some (.inr ((-1)))else some (.inl (f,w64 (g+1),w64 (h+1)))else some (.inr (g))) (a,b,0)
def UN:Fsp:=⟨93,[slF .str,shF .int],[shF .int],true,false,fun x=>lT x.1 x.2⟩
def Dh(a:List Int)(b:Int):Option (Int):=ak (fun(⟨e,f,g⟩:(List Int)×Int×Int)=>bif (decide (g<(e.length:Int)))then (idx e g).bind fun d=>bif (d != f)then some (.inr ((-1)))else some (.inl (e,w64 (f+1),w64 (g+1)))else some (.inr (f))) (a,b,0)
def adV:Fsp:=⟨91,[slF .int,shF .int],[shF .int],true,false,fun x=>Dh x.1 x.2⟩
def wG(a:List bK)(b:Int):Option (Int):=ak (fun(⟨f,g,h⟩:(List bK)×Int×Int)=>bif (decide (h<(f.length:Int)))then (idx f h).bind fun d=>bif (d.cell != g)then some (.inr ((-1)))else (idx f h).bind fun e=>bif (e.row != (w64 (g+1)))then some (.inr ((-1)))else some (.inl (f,w64 ((w64 (g+1))+1),w64 (h+1)))else some (.inr (g))) (a,b,0)
def UO:Fsp:=⟨142,[slF .origin,shF .int],[shF .int],true,false,fun x=>wG x.1 x.2⟩
def uQ(a:List bF)(b:Int):Option (Int):=ak (fun(⟨h,i,j⟩:(List bF)×Int×Int)=>bif (decide (j<(h.length:Int)))then (idx h j).bind fun f=>(Dh f.cells i).bind fun d=>bif (decide (d<0))then some (.inr ((-1)))else (idx h j).bind fun g=>(wG g.orig d).bind fun e=>bif (decide (e<0))then some (.inr ((-1)))else some (.inl (h,e,w64 (j+1)))else some (.inr (i))) (a,b,0)
def adU:Fsp:=⟨94,[slF .row,shF .int],[shF .int],true,false,fun x=>uQ x.1 x.2⟩
def Df(rheldValueS:(List aC)->Int->Option (Int))(a:List aC)(b:Int):Option (Int):=ak (fun(⟨p,q,r⟩:(List aC)×Int×Int)=>bif (decide (r<(p.length:Int)))then (idx p r).bind fun h=>bif (h.kind != q)then some (.inr ((-1)))else (idx p r).bind fun i=>bif (i.n != (w64 (q+1)))then some (.inr ((-1)))else (idx p r).bind fun j=>bif (j.step != (w64 ((w64 (q+1))+1)))then some (.inr ((-1)))else (idx p r).bind fun k=>(fF (w64 ((w64 ((w64 (q+1))+1))+1))).bind fun l=>bif (!(k.text==l))then some (.inr ((-1)))else (idx p r).bind fun m=>(rheldValueS m.list (w64 ((w64 ((w64 ((w64 (q+1))+1))+1))+1))).bind fun g=>bif (decide (g<0))then some (.inr ((-1)))else (idx p r).bind fun o=>(lT o.columns g).bind fun d=>bif (decide (d<0))then some (.inr ((-1)))else (idx p r).bind fun f=>(uQ f.rows d).bind fun e=>bif (decide (e<0))then some (.inr ((-1)))else some (.inl (p,e,w64 (r+1)))else some (.inr (q))) (a,b,0)
def lS:Nat->((List aC)->Int->Option (Int))
 | 0=>fun _ _=>none
 | n+1=>Df (lS n)
def Aj(a:List aC)(b:Int):Option (Int):=(lS (siz a+1)) a b
def YB:Fsp:=⟨92,[slF .val,shF .int],[shF .int],true,false,fun x=>Aj x.1 x.2⟩
def FK(n:Nat):Fsp:=⟨92,[slF .val,shF .int],[shF .int],true,false,fun x=>(lS n) x.1 x.2⟩
def Ez(a:List aN)(b:Int):Option (Int):=ak (fun(⟨u,v,w⟩:(List aN)×Int×Int)=>bif (decide (w<(u.length:Int)))then (idx u w).bind fun l=>bif (l.kind != v)then some (.inr ((-1)))else (idx u w).bind fun m=>bif (m.n != (w64 (v+1)))then some (.inr ((-1)))else (idx u w).bind fun o=>bif (o.time != (w64 ((w64 (v+1))+1)))then some (.inr ((-1)))else (idx u w).bind fun p=>(fF (w64 ((w64 ((w64 (v+1))+1))+1))).bind fun q=>bif (!(p.text==q))then some (.inr ((-1)))else (idx u w).bind fun r=>bif (r.result.kind != (w64 ((w64 ((w64 ((w64 (v+1))+1))+1))+1)))then some (.inr ((-1)))else (idx u w).bind fun s=>bif (s.result.n != (w64 ((w64 ((w64 ((w64 ((w64 (v+1))+1))+1))+1))+1)))then some (.inr ((-1)))else (idx u w).bind fun t=>bif (t.result.step != (w64 ((w64 ((w64 ((w64 ((w64 ((w64 (v+1))+1))+1))+1))+1))+1)))then some (.inr ((-1)))else (idx u w).bind fun g=>(fF (w64 ((w64 ((w64 ((w64 ((w64 ((w64 ((w64 (v+1))+1))+1))+1))+1))+1))+1))).bind fun h=>bif (!(g.result.text==h))then some (.inr ((-1)))else (idx u w).bind fun i=>(Aj i.result.list (w64 ((w64 ((w64 ((w64 ((w64 ((w64 ((w64 ((w64 (v+1))+1))+1))+1))+1))+1))+1))+1))).bind fun d=>bif (decide (d<0))then some (.inr ((-1)))else (idx u w).bind fun j=>(lT j.result.columns d).bind fun e=>bif (decide (e<0))then some (.inr ((-1)))else (idx u w).bind fun k=>(uQ k.result.rows e).bind fun f=>bif (decide (f<0))then some (.inr ((-1)))else some (.inl (u,f,w64 (w+1)))else some (.inr (v))) (a,b,0)
def abb:Fsp:=⟨90,[slF .read,shF .int],[shF .int],true,false,fun x=>Ez x.1 x.2⟩
def Ey(a:List aB)(b:Int):Option (Int):=ak (fun(⟨h,i,j⟩:(List aB)×Int×Int)=>bif (decide (j<(h.length:Int)))then (idx h j).bind fun e=>bif (e.cell != i)then some (.inr ((-1)))else (idx h j).bind fun f=>bif (f.version != (w64 (i+1)))then some (.inr ((-1)))else (idx h j).bind fun g=>(Ez g.reads (w64 ((w64 (i+1))+1))).bind fun d=>bif (decide (d<0))then some (.inr ((-1)))else some (.inl (h,d,w64 (j+1)))else some (.inr (i))) (a,b,0)
def aa9:Fsp:=⟨41,[slF .tape,shF .int],[shF .int],true,false,fun x=>Ey x.1 x.2⟩
def Ak(a:List aO)(b:Int):Option (Int):=ak (fun(⟨v,w,x⟩:(List aO)×Int×Int)=>bif (decide (x<(v.length:Int)))then (idx v x).bind fun o=>bif (o.cell != w)then some (.inr ((-1)))else (idx v x).bind fun p=>bif (p.version != (w64 (w+1)))then some (.inr ((-1)))else (idx v x).bind fun q=>bif (q.stamp != (w64 ((w64 (w+1))+1)))then some (.inr ((-1)))else (idx v x).bind fun r=>(Dh r.inputs (w64 ((w64 ((w64 (w+1))+1))+1))).bind fun e=>bif (decide (e<0))then some (.inr ((-1)))else (idx v x).bind fun s=>bif (s.value.kind != e)then some (.inr ((-1)))else (idx v x).bind fun t=>bif (t.value.n != (w64 (e+1)))then some (.inr ((-1)))else (idx v x).bind fun u=>bif (u.value.step != (w64 ((w64 (e+1))+1)))then some (.inr ((-1)))else (idx v x).bind fun h=>(fF (w64 ((w64 ((w64 (e+1))+1))+1))).bind fun i=>bif (!(h.value.text==i))then some (.inr ((-1)))else (idx v x).bind fun j=>(Aj j.value.list (w64 ((w64 ((w64 ((w64 (e+1))+1))+1))+1))).bind fun f=>bif (decide (f<0))then some (.inr ((-1)))else (idx v x).bind fun k=>(lT k.value.columns f).bind fun g=>bif (decide (g<0))then some (.inr ((-1)))else (idx v x).bind fun l=>(uQ l.value.rows g).bind fun d=>bif (decide (d<0))then some (.inr ((-1)))else (idx v x).bind fun m=>bif (!(m.has==((d.tmod 3)==0)))then some (.inr ((-1)))else some (.inl (v,w64 (d+1),w64 (x+1)))else some (.inr (w))) (a,b,0)
def YC:Fsp:=⟨42,[slF .entry,shF .int],[shF .int],true,false,fun x=>Ak x.1 x.2⟩
def uS(a:bM)(b:Int):Option (Int):=(rW a.notebook b).bind fun c=>bif (decide (c<0))then some ((-1))else (Ew a.world c).bind fun d=>bif (decide (d<0))then some ((-1))else (Ey a.tapes d).bind fun e=>bif (decide (e<0))then some ((-1))else (Ak a.entries e).bind fun f=>bif (decide (f<0))then some ((-1))else some (f)
def YD:Fsp:=⟨10,[shT .engine,shF .int],[shF .int],true,false,fun x=>uS x.1 x.2⟩
def FnExactRenameInEngine(a:bM)(b:Str)(c:Str):Option (Bool):=bif (decide ((b.length:Int)>1048576))then some (true)else bif (decide ((c.length:Int)>1048576))then some (true)else (Ht a 1048576).bind fun n=>bif (decide (n<0))then some (true)else (tX a).bind fun o=>(mY o b c).bind fun f=>(tX a).bind fun j=>(kL j b c).bind fun e=>(qJ e.1 f.1).bind fun p=>bif (!p)then some (false)else bif (e.2 != f.2)then some (false)else (tX a).bind fun q=>(qJ j q).bind fun r=>bif (!r)then some (false)else (uG j 1).bind fun s=>bif (decide (s.2<0))then some (false)else (qJ e.1 f.1).bind fun k=>bif (!k)then some (false)else bif (e.2 != f.2)then some (false)else (uG e.1 1).bind fun d=>(uS (bM.mk d.1.notebook (dJ.mk e.1.world.clock e.1.world.seed d.1.world.files) d.1.tapes d.1.entries e.1.next e.1.limit e.1.work) 1).bind fun g=>bif (decide (g<0))then some (false)else bif (g != d.2)then some (false)else (tX a).bind fun l=>(kL l b c).bind fun h=>(qJ h.1 f.1).bind fun m=>bif (!m)then some (false)else bif (h.2 != f.2)then some (false)else (uS (bM.mk d.1.notebook (dJ.mk e.1.world.clock e.1.world.seed d.1.world.files) d.1.tapes d.1.entries e.1.next e.1.limit e.1.work) 1).bind fun i=>bif (decide (i<0))then some (false)else bif (i != d.2)then some (false)else some (true)
def yR:Fsp:=⟨3,[shT .engine,shF .str,shF .str],[shF .bool],true,false,fun x=>FnExactRenameInEngine x.1 x.2.1 x.2.2⟩
end
end Go.Proofs.YtapgeemjgckgaaaGreatDoor
